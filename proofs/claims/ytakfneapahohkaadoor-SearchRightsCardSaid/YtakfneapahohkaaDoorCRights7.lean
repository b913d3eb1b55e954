/- Texts behind the claim, part 7: the abstract machine, and what the functions answer. No condition. -/
import Derived.Test.YtakfneapahohkaaDoorCRights6
set_option linter.unusedVariables false
set_option linter.unusedSimpArgs false
set_option linter.unusedSectionVars false
namespace Go.Proofs.YtakfneapahohkaaDoor.Am
open Go.RowKit
set_option maxHeartbeats 1000000
set_option maxRecDepth 100000
def Ed(P:List (Nat×Nat))(size r:Nat):List Nat:=(List.range (size*r)).map fun t=>E5 P (t/r) (t%r)
theorem Qgc(P:List (Nat×Nat))(size r:Nat):(Ed P size r).length=size*r:=by simp[Ed]
theorem at_lt{w x size r:Nat}(hw:w<size)(hx:x<r):w*r+x<size*r:=by
 calc w*r+x<w*r+r:=by omega
  _=(w+1)*r:=by rw[Nat.add_mul,Nat.one_mul]
  _<=size*r:=Nat.mul_le_mul_right _ hw
theorem Qni{w x r:Nat}(hx:x<r):(w*r+x)/r=w/\(w*r+x)%r=x:=by
 constructor
 ·rw[Nat.mul_comm,Nat.mul_add_div o_,Nat.div_eq_of_lt hx];omega
 ·rw[Nat.mul_comm,Nat.mul_add_mod,Nat.mod_eq_of_lt hx]
theorem Qnr{P:List (Nat×Nat)}{size r w x:Nat}(hw:w<size)(hx:x<r):(Ed P size r).getD (w*r+x) 0=E5 P w x:=by
 unfold Ed
 rw[List.getD_eq_getElem?_getD,List.getElem?_map,List.getElem?_range (at_lt hw hx)]
 simp only[Option.map_some,Option.getD_some,(Qni hx).1,(Qni hx).2]
theorem cntL_set{P:List (Nat×Nat)}{size r w x:Nat}(hw:w<size)(hx:x<r):(Ed P size r).set (w*r+x) (E5 P w x+1)=Ed (P++[(w,x)]) size r:=by
 apply List.ext_getElem
 ·simp[Ed]
 ·intro t h1 h2
  rw[List.getElem_set]
  simp only[Ed,List.getElem_map,List.getElem_range,Qgb]
  by_cases ht:w*r+x=t
  ·subst ht
   rw[if_pos rfl,(Qni hx).1,(Qni hx).2,if_pos ⟨rfl,rfl⟩]
  ·rw [if_neg ht, if_neg ?_, Nat.add_zero]
   rintro⟨e1,e2⟩
   apply ht
   rw[e1,e2,Nat.mul_comm]
   exact Nat.div_add_mod t r
theorem cntL_nil(size r:Nat):Ed [] size r=List.replicate (size*r) 0:=by
 unfold Ed
 rw[List.eq_replicate_iff]
 refine⟨by simp,fun b hb=>?_⟩
 obtain⟨t,_,rfl⟩:=List.mem_map.1 hb
 rfl
theorem cntJ_le(P:List (Nat×Nat))(j k:Nat):E5 P j k<=P.length:=List.count_le_length
abbrev rsl(r size:Nat):V:=.sl 2 0 (size*r) (some (size*r-size*r))
abbrev rfS(jj:List Nat)(cs:List (List Nat))(l:List Nat)(v size r:Nat)(q:Nat×List Nat):SL:={sl:=[(1,i6 v),(3,.ptr 0 0),(6,.ptr 1 0),(7,nl l),(8,i6 size),(9,i6 r),(10,rsl r size),(11,i6 q.1)],os:=[dO jj cs,.row 37 none (arF Qah),.row 3 none (nt q.2)]}
abbrev rfX(size r:Nat)(L:List Nat):SL:={sl:=[(6,.ptr 1 0),(8,i6 size),(9,i6 r),(10,rsl r size)],os:=[.dead,.row 37 none (arF Qah),.row 3 none (nt L)]}
theorem G5(jj:List Nat)(cs:List (List Nat))(v ps:Nat)(l:List Nat)(size r:Nat)(hc:Bt jj)(hcs: ∀c∈cs,Cb jj c)(h40:cs.length<=40)(hl:l=Bw jj.length ps)(hsize:size=Qbn jj ps jj.length)(hv:v<jj.length)(hr:r=jj.getD v 0)(L:List Nat)(hL:L=Ed (Qav jj v ps cs) size r):
  Sat Pg none 0 (at' 24 [1,1,1,1,1,0,1,0]) (Ah g0 113 (rfS jj cs l v size r (0,List.replicate (size*r) 0))) (Qaf g0 113 [(True,.exit 0,rfX size r L)]):=by
 refine Qax vE_ok Af Qaa (b:=at' 24 [1,1,1,1,1,0,1,0,0]) k_ (fun q=>q.1<=cs.length/\q.2=Ed (Qav jj v ps (cs.take q.1)) size r) (rfS jj cs l v size r) (fun q=>cs.length-q.1) (fun q hq=>?_) (0,List.replicate (size*r) 0) ⟨Nat.zero_le _,(cntL_nil size r).symm⟩
 obtain⟨k,W⟩:=q
 obtain⟨hk,hW⟩:=hq
 dsimp only at hk hW
 by_cases hlt:k<cs.length
 ·have hck : cs[k]? = some cs[k] := List.getElem?_eq_getElem hlt
  have hco:=hcs _ (List.getElem_mem hlt)
  have hps:=@Qid jj v ps k cs _ hck
  generalize cs[k]=c at*
  have hld:Ad ((cs.map nl).drop (k*1))=some (nl c):=Qbg hck
  have hix:=Qn6 jj c ps hc hco
  rw[<-hl]at hix
  have hw:=Qhd hc hco ps jj.length (Nat.le_refl _)
  have hsz:=Qet hc ps jj.length (Nat.le_refl _)
  have hp4:=pow4 hc.six
  rw[<-hsize]at hw hsz
  have hx:=hco.lt v hv
  have hcd:=hc.each v hv
  rw[<-hr]at hx hcd
  have hldx:=@Qa5 c v (by have:=hco.len;omega)
  have hcl:=hco.len
  generalize Ct jj ps c jj.length=w at*
  generalize c.getD v 0=x at*
  have hlt2:=at_lt hw hx
  have hsr:size*r<=4096*4:=Nat.mul_le_mul o_ hcd.2
  have hg:=@Qnr (Qav jj v ps (cs.take k)) size r w x hw hx
  have hst:=@cntL_set (Qav jj v ps (cs.take k)) size r w x hw hx
  have hle:=cntJ_le (Qav jj v ps (cs.take k)) w x
  have hpl:(Qav jj v ps (cs.take k)).length<=40:=by simp only[Qav,List.length_map,List.length_take];omega
  have hWl:W.length=size*r:=by rw[hW,Qgc]
  rw[<-hps]at hst
  rw[<-hW]at hg hst
  generalize E5 (Qav jj v ps (cs.take k)) w x=y at*
  have hcast:((w:Int)*(r:Int))=((w*r:Nat):Int):=by simp
  generalize w*r=wr_ at*
  have hldW:=@Qa5 W (wr_+x) o_
  rw[hg]at hldW
  have hlay:=@Qob W (wr_+x) (y+1) o_
  refine .inl ⟨(k+1,W.set (wr_+x) (y+1)),[0,1,2],[yes 41,pl 50,ld 51 (nl c),fn 52 (i6 w),nu 54 (wr_:Nat),pl 58,ld 59 (nl c),pl 61,ld 62 (i6 x),nu 63 (wr_+x:Nat),pl 68,ld 69 (i6 y),nu 70 (y+1:Nat),pl 71,st (nt (W.set (wr_+x) (y+1))),nu 43 (k+1:Nat)],1000,⟨hlt,hst⟩,by dsimp only;omega,?_⟩
  clear hW hL hl hsize hst hps hg hr
  refine m_ (p:=let z0:=nt (List.set W (wr_+x) (y+1));let z1:=(↑(wr_+x):Int);let z2:=(k:Int);let z3:=Ad (List.drop (k*1) (List.map nl cs));let z4:=(cs.length:Int);let z5:=(↑(k+1):Int);let z6:=(v:Int);let z7:=(0:Int);let z8:=(r:Int);Bn [decide (z2<z4)=true,An [z7<=z2,z2<z4],z3=some (nl c),TT 3,Ac Pg g0 42 [V.im jj.length (nt jj),V.im l.length (nt l),V.im c.length (nt c)] (i6 w),Tt,wr .i64 ((w:Int)*z8)=(wr_:Int),An [z7<=z2,z2<z4],z3=some (nl c),An [z7<=z6,z6<(c.length:Int)],Ad (List.drop (v*1) (nt c))=some (i6 x),wr .i64 ((wr_:Int)+(x:Int))=z1,An [z7<=z1,z1<(↑(size*r):Int)],Ad (Aj (0+(wr_+x)*1) (nt W))=some (i6 y),wr .i64 ((y:Int)+1)=(↑(y+1):Int),An [z7<=z1,z1<(↑(size*r):Int)],Ax (0+(wr_+x)*1) (nt W) [i6 ↑(y+1)]=some z0,wr .i64 (z2+1)=z5,Bn [z6=z6,Zz,Zz,An [Sm l.length,Sm (nt l)],Sm (size:Int),z8=z8,An [Zz,Sm (size*r),Sm (size*r-size*r)],z5=z5],An [Sm [nl jj,cV cs],TT 2],An [Sm (arF Qah),TT 18],An [z0=z0,HfL z0]]) ?_
  (repeat'(first|(with_reducible apply And.intro)|(refine fun(_:True)=>?_)))<;>first|exact aq|skip
  all_goals first|rfl|exact HfL_nls _|exact Qaz _|omega|(rw[Qau,Nat.zero_add];exact hldW)
 ·have : k = cs.length := by omega
  subst this
  rw[List.take_length]at hW
  obtain rfl:W=L:=hW.trans hL.symm
  refine .inr ⟨.exit 0,[0,1,2],rfX size r W,[no 41],1000,.inl ⟨trivial,rfl,rfl⟩,?_⟩
  clear hW hL hr
  exact u_ (p:=Bn [decide ((cs.length:Int)<(cs.length:Int))=false,Bn [Zz,Sm (size:Int),Sm (r:Int),An [Zz,Sm (size*r),Sm (size*r-size*r)]],Tt,An [Sm (arF Qah),TT 18],An [Sm (nt W),HfL (nt W)]])
abbrev rgS(size r:Nat)(L:List Nat)(j:Nat)(q:Nat×Nat×(Nat->Int)):SL:={sl:=[(6,.ptr 1 0),(8,i6 size),(9,i6 r),(10,rsl r size),(13,.ptr 3 0),(14,i6 j),(15,i6 q.2.1),(16,i6 q.1)],os:=[.dead,.row 37 none (arF Qah),.row 3 none (nt L),.row 37 none (arF q.2.2)]}
abbrev rgX(size r:Nat)(L:List Nat)(j:Nat)(s:Nat)(f:Nat->Int):SL:={sl:=[(6,.ptr 1 0),(8,i6 size),(9,i6 r),(10,rsl r size),(13,.ptr 3 0),(14,i6 j),(15,i6 s)],os:=[.dead,.row 37 none (arF Qah),.row 3 none (nt L),.row 37 none (arF f)]}
theorem rf_row(P:List (Nat×Nat))(size r j:Nat)(L:List Nat)(hL:L=Ed P size r)(hj:j<size)(hs:size<=4096)(hr4:r<=4)(hsum:As (Bk P r j)<=40)(f:Nat->Int)(hf: ∀i,i<18-> -800000<=f i/\f i<=800000)(g:Nat->Int)(hg:g=Bo Ba f (Bk P r j) r)(s:Nat)(hss:s=As (Bk P r j)):
  Sat Pg none 0 (at' 24 [1,1,1,1,1,1,1,0,1,0,0,1,0,0,1,0,1,0]) (Ah g0 113 (rgS size r L j (0,0,f))) (Qaf g0 113 [(True,.exit 4,rgX size r L j s g)]):=by
 have hrl:=Qbt P r j
 refine Qax vE_ok Af Qaa (b:=at' 24 [1,1,1,1,1,1,1,0,1,0,0,1,0,0,1,0,1,0,0]) k_ (fun q=>q.1<=r/\q.2.1=As ((Bk P r j).take q.1)/\q.2.2=Bo Ba f (Bk P r j) q.1) (rgS size r L j) (fun q=>r-q.1) (fun q hq=>?_) (0,0,f) ⟨Nat.zero_le _,rfl,rfl⟩
 obtain⟨k,u,a⟩:=q
 obtain⟨hk,hu,ha⟩:=hq
 dsimp only at hk hu ha
 by_cases hlt:k<r
 ·have hget : (Bk P r j).getD k 0 = E5 P j k := Qot hlt
  have hgL:=@Qnr P size r j k hj hlt
  have halt:=at_lt hj hlt
  have kj:(Bk P r j).getD k 0∈Bk P r j:=by rw[List.getD_eq_getElem?_getD,List.getElem?_eq_getElem o_];exact List.getElem_mem o_
  have hle:=Qb9 kj
  have hsn:As ((Bk P r j).take (k+1))=u+(Bk P r j).getD k 0:=by
   rw[List.take_add_one,Qc7,<-hu,List.getD_eq_getElem?_getD,List.getElem?_eq_getElem o_];simp[As]
  have hle2:As ((Bk P r j).take (k+1))<=As (Bk P r j):=by
   have:=Qc7 ((Bk P r j).take (k+1)) ((Bk P r j).drop (k+1))
   rw[List.take_append_drop]at this;omega
  have hbd:=fun i(hi:i<18)=>Qhg fac_ok hi ((Bk P r j).take k) (fun c hc=>by have:=Qb9 (List.mem_of_mem_take hc);omega)
  have hfac:=Qdi a ((Bk P r j).getD k 0) 1 (.inl rfl) (fun i hi=>by
   have h1:=hbd i hi
   have h2:=hf i hi
   have h3:((Bk P r j).take k).length<=4:=by rw[List.length_take];omega
   rw[ha,Qeg _ _ _ _ _ o_]
   omega) o_
  have hnext:Aq a (Ba ((Bk P r j).getD k 0)) 1=Bo Ba f (Bk P r j) (k+1):=by rw[ha];rfl
  have hLl:L.length=size*r:=by rw[hL,Qgc]
  rw[hget]at hle hsn hfac hnext
  rw[<-hL]at hgL
  generalize E5 P j k=c at*
  have hcast:((j:Int)*(r:Int))=((j*r:Nat):Int):=by simp
  have hsr:size*r<=4096*4:=Nat.mul_le_mul hs hr4
  have hldL:=@Qa5 L (j*r+k) o_
  rw[hgL]at hldL
  generalize j*r=jr at*
  refine .inl ⟨(k+1,u+c,Aq a (Ba c) 1),[0,1,2,3],[yes 79,nu 86 (jr:Nat),nu 88 (jr+k:Nat),pl 89,ld 90 (i6 c),fn 91 (ar (Aq a (Ba c) 1)),nu 96 (jr:Nat),nu 98 (jr+k:Nat),pl 99,ld 100 (i6 c),nu 101 (u+c:Nat),nu 81 (k+1:Nat)],1000,⟨hlt,hsn.symm,hnext⟩,by dsimp only;omega,?_⟩
  have hub:u+c<=40:=by omega
  clear hL hget hu ha hsn hnext hg hss hbd
  generalize Aq a (Ba c) 1=a' at*
  refine m_ (p:=let z0:=(↑(jr+k):Int);let z1:=(r:Int);let z2:=Ad (Aj (0+(jr+k)*1) (nt L));let z4:=(↑(u+c):Int);let z5:=(↑(k+1):Int);let z6:=(j:Int);let z7:=(jr:Int);let z8:=(k:Int);let z3:=wr .i64 (z7+z8);Bn [decide (z8<z1)=true,wr .i64 (z6*z1)=z7,z3=z0,An [(0:Int)<=z0,z0<(↑(size*r):Int)],z2=some (i6 c),An [TT 18,TT 2],Ac Pg g0 43 [V.agg (arF a),i6 c,i6 1] (ar a'),Tt,wr .i64 (z6*z1)=z7,z3=z0,An [(0:Int)<=z0,z0<(↑(size*r):Int)],z2=some (i6 c),wr .i64 ((u:Int)+(c:Int))=z4,wr .i64 (z8+1)=z5,Bn [Zz,Sm (size:Int),z1=z1,An [Zz,Sm (size*r),Sm (size*r-size*r)],Zz,z6=z6,z4=z4,z5=z5],Tt,An [Sm (arF Qah),TT 18],An [Sm (nt L),HfL (nt L)],An [Sm (arF a'),TT 18]]) ?_
  (repeat'(first|(with_reducible apply And.intro)|(refine fun(_:True)=>?_)))<;>first|exact aq|skip
  all_goals first|rfl|exact Qaz _|omega|(rw[Qau,Nat.zero_add];exact hldL)
 ·have : k = r := by omega
  subst this
  rw[List.take_of_length_le o_]at hu
  obtain rfl:u=s:=hu.trans hss.symm
  obtain rfl:a=g:=ha.trans hg.symm
  refine .inr ⟨.exit 4,[0,1,2,3],rgX size k L j u a,[no 79],1000,.inl ⟨trivial,rfl,rfl⟩,?_⟩
  clear hu hss ha hg hL
  exact u_ (p:=let z0:=(k:Int);Bn [decide (z0<z0)=false,Bn [Zz,Sm (size:Int),z0=z0,An [Zz,Sm (size*k),Sm (size*k-size*k)],Zz,Sm (j:Int),Sm (u:Int)],Tt,An [Sm (arF Qah),TT 18],An [Sm (nt L),HfL (nt L)],An [Sm (arF a),TT 18]])
abbrev rhS(size r:Nat)(L:List Nat)(q:Nat×(Nat->Int)):SL:={sl:=[(6,.ptr 1 0),(8,i6 size),(9,i6 r),(10,rsl r size),(13,.ptr 3 0),(14,i6 q.1)],os:=[.dead,.row 37 none (arF Qah),.row 3 none (nt L),.row 37 none (arF q.2)]}
abbrev rhX(f:Nat->Int):SL:={sl:=[(6,.ptr 1 0),(13,.ptr 3 0)],os:=[.dead,.row 37 none (arF Qah),.dead,.row 37 none (arF f)]}
theorem rows_bd{P:List (Nat×Nat)}{r:Nat}(hP: ∀p∈P,p.2<r)(h40:P.length<=40)(hr1:1<=r)(hr4:r<=4){i:Nat}(hi:i<18)(j:Nat): -250<=Cq Ba r (Bk P r j) i/\Cq Ba r (Bk P r j) i<=250:=by
 have h1:=Qcy (r:=r) P j hP
 have h2:=Qbt P r j
 have h3:=Qhg fac_ok hi (Bk P r j) (fun c hc=>by have:=Qb9 hc;omega)
 have h5:=fac_ok.bd (r-1) i o_ hi
 have h6:=fac_ok.bd (As (Bk P r j)+(r-1)) i o_ hi
 unfold Cq;omega
theorem rf_all(P:List (Nat×Nat))(size r:Nat)(L:List Nat)(hL:L=Ed P size r)(hs:size<=1024)(hr1:1<=r)(hr4:r<=4)(hP: ∀p∈P,p.2<r)(h40:P.length<=40):
  Sat Pg none 0 (at' 24 [1,1,1,1,1,1,1,0,1,0]) (Ah g0 113 (rhS size r L (0,Qah))) (Qaf g0 113 [(True,.exit 2,rhX (Eh Ba P r size))]):=by
 have key:Sat Pg none 0 (at' 24 [1,1,1,1,1,1,1,0,1,0]) (Ah g0 113 (rhS size r L (0,Qah))) (fun e st=>∃S',st=Ah g0 113 S'/\e= .exit 2/\∃f,S'=rhX f/\∀i,i<18->f i=Eh Ba P r size i):=by
  refine Qse (b:=at' 24 [1,1,1,1,1,1,1,0,1,0,0]) k_ (fun q:Nat×(Nat->Int)=>q.1<=size/\∀i,i<18->q.2 i=Eh Ba P r q.1 i) (rhS size r L) (fun q=>size-q.1) (fun e S'=>e= .exit 2/\∃f,S'=rhX f/\∀i,i<18->f i=Eh Ba P r size i) (fun q G hq hN hX _=>?_) (0,Qah) ⟨Nat.zero_le _,fun _ _=>rfl⟩
  obtain⟨j,f⟩:=q
  obtain⟨hj,hf⟩:=hq
  dsimp only at hj hf hN
  have hfb: ∀i,i<18-> -256000<=f i/\f i<=256000:=fun i hi=>by
   have key: ∀n:Nat,-250*(n:Int)<=Eh Ba P r n i/\Eh Ba P r n i<=250*(n:Int):=by
    intro n
    induction n with
    |zero=>simp[Eh,Bh]
    |succ n ih=>
     have h1:=rows_bd hP h40 hr1 hr4 hi n
     unfold Eh at ih⊢
     rw[List.range_succ,List.map_append,Qc6]
     simp only[List.map_cons,List.map_nil,Bh]
     omega
   have:=key j
   rw[hf i hi];omega
  by_cases hlt:j<size
  ·have hrs := Qcy (r := r) P j hP
   have km:=rf_row P size r j L hL hlt o_ hr4 o_ f (fun i hi=>by have:=hfb i hi;omega) _ rfl _ rfl
   have hsb:=fun i(hi:i<18)=>Qhg fac_ok hi (Bk P r j) (fun c hc=>by have:=Qb9 hc;omega)
   have hrl:=Qbt P r j
   have hgb: ∀i,i<18-> -300000<=Bo Ba f (Bk P r j) r i/\Bo Ba f (Bk P r j) r i<=300000:=fun i hi=>by
    have h1:=hsb i hi
    have h2:=hfb i hi
    rw[Qeg _ _ _ _ _ o_,List.take_of_length_le o_];omega
   have hb1:=fun i(hi:i<18)=>fac_ok.bd (r-1) i o_ hi
   have c1:=Qdi (Bo Ba f (Bk P r j) r) (r-1) 1 (.inl rfl) (fun i hi=>by have:=hgb i hi;omega) o_
   have c2:=Qdi (Aq (Bo Ba f (Bk P r j) r) (Ba (r-1)) 1) (As (Bk P r j)+(r-1)) (-1) (.inr rfl) (fun i hi=>by have:=hgb i hi;have:=hb1 i hi;unfold Aq;omega) o_
   have hnx:=hN (j+1,Aq (Aq (Bo Ba f (Bk P r j) r) (Ba (r-1)) 1) (Ba (As (Bk P r j)+(r-1))) (-1)) ⟨by dsimp only;omega,fun i hi=>by
    have h1:=hf i hi
    unfold Eh at h1⊢
    dsimp only
    rw[List.range_succ,List.map_append,Qc6,<-h1]
    simp only[List.map_cons,List.map_nil,Bh,Aq,Cq]
    rw[Qeg _ _ _ _ _ o_,List.take_of_length_le o_]
    omega⟩ (by dsimp only;omega)
   generalize hs':As (Bk P r j)=s at*
   generalize Bo Ba f (Bk P r j) r=g at*
   generalize Aq g (Ba (r-1)) 1=g1 at*
   generalize Aq g1 (Ba (s+(r-1))) (-1)=g2 at*
   refine⟨[yes 74,(0,.loop [0,1,2,3] (rgS size r L j (0,0,f)) [(True,.exit 4,rgX size r L j s g)]),nu 104 (r-1:Nat),fn 105 (ar g1),nu 109 (s+r:Nat),nu 110 (s+(r-1):Nat),fn 111 (ar g2),nu 76 (j+1:Nat),(0,.to [0,1,2,3] (rhS size r L (j+1,g2)))],1000,?_⟩
   clear hs' hsb hgb hb1 hf hX hN hL
   exact u_ (p:=let z6:=An [Zz,Sm (size*r),Sm (size*r-size*r)];let z7:=An [Sm (nt L),HfL (nt L)];let z0:=(size:Int);let z1:=(r:Int);let z2:=(↑(j+1):Int);let z3:=(j:Int);let z4:=(↑(s+(r-1)):Int);let z5:=arF Qah;Bn [decide (z3<z0)=true,Bn [Bn [Zz,z0=z0,z1=z1,z6,Zz,z3=z3,((0:Nat):Int)=(0:Int),((0:Nat):Int)=(0:Int)],Tt,An [z5=z5,TT 18],z7,An [Sm (arF f),TT 18]],Sat Pg none 0 (at' 24 [1,1,1,1,1,1,1,0,1,0,0,1,0,0,1,0,1,0]) (Ah g0 113 (rgS size r L j (0,0,f))) (Qaf g0 113 [(True,Ex.exit 4,rgX size r L j s g)]),(True->Bn [wr .i64 (z1-1)=(↑(r-1):Int),An [TT 18,TT 2],Ac Pg g0 43 [V.agg (arF g),i6 ↑(r-1),i6 1] (ar g1),Tt,wr .i64 ((s:Int)+z1)=(↑(s+r):Int),wr .i64 ((↑(s+r):Int)-1)=z4,An [TT 18,TT 2],Ac Pg g0 43 [V.agg (arF g1),i6 z4,i6 (-1)] (ar g2),Tt,wr .i64 (z3+1)=z2,G Ex.normal (rhS size r L (j+1,g2)),Bn [Zz,z0=z0,z1=z1,z6,Zz,z2=z2],Tt,An [z5=z5,TT 18],z7,An [Sm (arF g2),TT 18]])])
  ·have : j = size := by omega
   subst this
   have hx:=hX 2 _ ⟨rfl,f,rfl,hf⟩
   refine⟨[no 74,(0,.to [0,1,2,3] (rhX f))],1000,?_⟩
   clear hN hX hf hL
   exact u_ (p:=Bn [decide ((j:Int)<(j:Int))=false,G (Ex.exit 2) (rhX f),Bn [Zz,Zz],Tt,An [Sm (arF Qah),TT 18],Tt,An [Sm (arF f),TT 18]])
 refine key.mono ?_
 rintro e st ⟨S',rfl,rfl,f,rfl,hf⟩
 refine .inl ⟨trivial,rfl,?_⟩
 have:arF f=arF (Eh Ba P r size):=Qbf hf
 show Ah g0 113 {sl:=[(6,.ptr 1 0),(13,.ptr 3 0)],os:=[.dead,.row 37 none (arF Qah),.dead,.row 37 none (arF f)]}=_
 rw[this]
theorem rfam_fn(jj:List Nat)(cs:List (List Nat))(v ps:Nat)(hc:Bt jj)(hcs: ∀c∈cs,Cb jj c)(hv:v<jj.length)(hm:cs.length<=40)(hps:ps<256)(hsz:Qbn jj ps jj.length<=1024):Ac Pg g0 24 [dN jj cs,i6 v,u6 ps] (ar (famF jj cs v ps)):=by
 have hpo:=Qjm (ps:=ps) hc hcs hv
 have hr:=hc.each v hv
 have hpl:(Qav jj v ps cs).length<=40:=by simpa [Qav]using hm
 have hvars:=vars_fn jj.length ps (by have:=hc.six;omega)
 obtain⟨m,W,hcount⟩:=count_fn jj cs ps hc hcs hm
 have l1:=G5 jj cs v ps (Bw jj.length ps) (Qbn jj ps jj.length) (jj.getD v 0) hc hcs hm rfl rfl hv rfl _ rfl
 have l2:=rf_all (Qav jj v ps cs) (Qbn jj ps jj.length) (jj.getD v 0) _ rfl hsz o_ hr.2 (fun p hp=>(hpo p hp).2) hpl
 have hld:=@Qa5 jj v hv
 have h1:=Qet hc ps jj.length (Nat.le_refl _)
 have hrep:=Qop (Qbn jj ps jj.length*jj.getD v 0) 0
 unfold famF
 generalize Eh Ba (Qav jj v ps cs) (jj.getD v 0) (Qbn jj ps jj.length)=g at*
 generalize Ed (Qav jj v ps cs) (Qbn jj ps jj.length) (jj.getD v 0)=L at*
 generalize Qbn jj ps jj.length=size at*
 generalize jj.getD v 0=r at*
 generalize Bw jj.length ps=l at*
 have hsr:size*r<=1024*4:=Nat.mul_le_mul hsz hr.2
 have hcast:((size:Int)*(r:Int))=((size*r:Nat):Int):=by simp
 refine Ac.of_vc vE_ok Af Qaa (n:=1000) (r:=[1]) (S:={sl:=[(6,.ptr 0 0)],os:=[.row 37 none (arF g)]}) (hs:=[nu 21 ps,fn 22 (nl l),fn 25 (.agg [nl l,nl m,.im size (nt W)]),pl 31,ld 32 (i6 r),nu 35 (size*r:Nat),mk 36,(0,.loop [0,1,2] (rfS jj cs l v size r (0,List.replicate (size*r) 0)) [(True,.exit 0,rfX size r L)]),(0,.loop [0,1,2,3] (rhS size r L (0,Qah)) [(True,.exit 2,rhX g)])]) ?_
 have hw8:wr .u8 (ps:Int)=ps:=Qei (by simp[lo]) (by simp[hi];omega)
 clear hpo
 refine m_ (p:=let z8:=An [Zz,Sm (size*r),Sm (size*r-size*r)];let z0:=[i6 0,i6 0,i6 0,i6 0,i6 0,i6 0,i6 0,i6 0,i6 0,i6 0,i6 0,i6 0,i6 0,i6 0,i6 0,i6 0,i6 0,i6 0];let z1:=(↑(size*r):Int);let z2:=List.replicate (size*r) 0;let z3:=(size:Int);let z4:=(r:Int);let z5:=(v:Int);let z6:=(0:Int);let z7:=arF Qah;Bn [V.agg (arF g)=ar g,wr .u8 (ps:Int)=(ps:Int),TT 2,Ac Pg g0 40 [i6 jj.length,w8 ps] (nl l),Tt,Bn [TT 2,Tt],Ac Pg g0 41 [V.agg [V.im jj.length (nt jj),V.im cs.length (List.map nl cs)],V.im l.length (nt l)] (V.agg [nl l,nl m,V.im size (nt W)]),Tt,An [z6<=z5,z5<(jj.length:Int)],Ad (List.drop (v*1) (nt jj))=some (i6 r),wr .i64 (z3*z4)=z1,An [z6<=z1,z1<=z1,((8:Nat):Int)*z1<=281474976710656,z1<=9223372036854775807],Bn [Bn [z5=z5,Zz,Zz,An [Sm l.length,Sm (nt l)],z3=z3,z4=z4,z8,((0:Nat):Int)=z6],An [Sm [nl jj,cV cs],TT 2],An [z7=z0,TT 18],An [nt z2=rep (size*r) [i6 0],HfL (nt z2)]],Sat Pg none 0 (at' 24 [1,1,1,1,1,0,1,0]) (Ah g0 113 (rfS jj cs l v size r (0,z2))) (Qaf g0 113 [(True,Ex.exit 0,rfX size r L)]),(True->Bn [Bn [Bn [Zz,z3=z3,z4=z4,z8,Zz,((0:Nat):Int)=z6],Tt,An [z7=z7,TT 18],An [Sm (nt L),HfL (nt L)],An [z7=z0,TT 18]],Sat Pg none 0 (at' 24 [1,1,1,1,1,1,1,0,1,0]) (Ah g0 113 (rhS size r L (0,Qah))) (Qaf g0 113 [(True,Ex.exit 2,rhX g)]),(True->Bn [Bn [Zz],An [Sm (arF g),TT 18]])])]) ?_
 (repeat'(first|(with_reducible apply And.intro)|(refine fun(_:True)=>?_)))<;>first|exact aq|skip
 all_goals first|rfl|exact HfL_nls _|exact Qaz _|exact hrep.symm|exact hw8|omega
theorem wr_u64(n:Int):wr .u64 n=n%18446744073709551616:=by
 unfold wr
 split
 ·rename_i h
  simp only[lo,hi]at h
  rw[Int.emod_eq_of_lt h.1 o_]
 ·show (n - lo .u64) % wid .u64 + lo .u64 = _
  simp only[lo,wid];omega
theorem Qlr{jj:List Int}(h: ∀k,k<jj.length->2<=jj.getD k 0)(ps:Nat): ∀k,k<=jj.length->((Qbn (toN jj) ps k:Nat):Int)<=Ar jj k/\1<=Ar jj k
 |0,_=>by simp[Qbn,Ar]
 | k + 1, hk => by
  obtain⟨h1,h2⟩:=Qlr h ps k o_
  have h3:=h k o_
  have h4:Ar jj (k+1)=Ar jj k*jj.getD k 0:=rfl
  have h5:Ar jj k*1<=Ar jj k*jj.getD k 0:=Int.mul_le_mul_of_nonneg_left o_ o_
  refine⟨?_,by omega⟩
  unfold Qbn
  rw[h4]
  split
  ·have h6 : (((toN jj).getD k 0 : Nat) : Int) = jj.getD k 0 := by rw [Qhh]; omega
   rw[Int.natCast_mul,h6]
   exact Int.mul_le_mul_of_nonneg_right h1 o_
  ·omega
theorem ref_ok(jj:List Int)(cs:List (List Int))(v:Int)(ps:Nat)(h:Bx jj cs=0)(hm:memB jj.length v ps=true):Ac Pg g0 24 [gV jj cs,i6 v,u6 ps] (ar (famG jj cs v ps)):=by
 have hw:=Qj5 h
 have jy:=hw.cok.six
 rw[Qay]at jy
 unfold memB at hm
 simp only[Bool.and_eq_true,decide_eq_true_eq]at hm
 obtain⟨m1,m2,m3,m4⟩:=hm
 have hps:ps<2^jj.length:=by
  rcases Nat.lt_or_ge ps (2^jj.length)with h'|h'
  ·exact h'
  ·have := Nat.div_pos h' (Nat.two_pow_pos _)
   omega
 have hp6:2^jj.length<=2^6:=Nat.pow_le_pow_right o_ jy
 have hsz:=(Qlr (jj:=jj) (fun k hk=>by
  have:=(hw.cok.each k (by rw[Qay];exact hk)).1
  rw[Qhh]at this;omega) ps jj.length (Nat.le_refl _)).1
 have hsz2:=hw.size
 have:=rfam_fn (toN jj) (cs.map toN) v.toNat ps hw.cok hw.rok (by rw[Qay];omega) (by rw[List.length_map];exact hw.len) o_ (by rw[Qay];omega)
 rwa [<-hw.eq,Int.toNat_of_nonneg m1]at this
structure DatOk(jj:List Int)(cs:List (List Int)):Prop where
 c6:jj.length<=6
 s41:cs.length<=41
 r6: ∀c∈cs,c.length<=6
open Go.RowKit Go.ChangeShapes Go.WideShapes
section
variable {H:Type} {enc:TypeId×Value->H} {w:World}
theorem arg_bend{v:Value}{d:DataW H}{p:List MemPlace}(hv: ∃cs,v= .agg cs/\cs.size=Pg.cellsOf 27)(h:DataW.Trod enc Pg w 0 (fun _=>true) true 27 v d p):
  ∃(b a N:Int),RV (sg (Ee w)) w (beV b a N) v/\(0<=b/\b<=255)/\(0<=a/\a<=255):=by
 obtain⟨arr,rfl,hsz⟩:=hv
 obtain⟨fuel,hf⟩:=h
 obtain⟨xs,n,_,_,hl,jy,hfd⟩:=DataW.trod_struct Tryd.underlying27 hf
 have hc26:Pg.cellsOf 27=3:=by kernel_rfl
 rw[hc26]at hl
 have xf:(Value.agg arr).cells.toList=arr.toList:=rfl
 rw[xf]at hl hfd
 obtain⟨c0,c1,c2,kg⟩: ∃c0 c1 c2,arr.toList=[c0,c1,c2]:=by
  match arr.toList,hl with
  |[c0,c1,c2],_=>exact⟨c0,c1,c2,rfl⟩
 have hlen':xs.length=3:=jy
 obtain⟨y0,y1,y2,rfl⟩: ∃y0 y1 y2,xs=[y0,y1,y2]:=by
  match xs,hlen' with
  |[y0,y1,y2],_=>exact⟨y0,y1,y2,rfl⟩
 have h1c: ∀t,t=3\/t=5->Pg.cellsOf t=1:=by
  rintro t (rfl|rfl)<;>kernel_rfl
 have f0:DataW.trod enc Pg w 0 (fun _=>true) true n 5 (List.take (Pg.cellsOf 5) (List.drop 0 arr.toList))=some y0:=hfd 0 _ rfl
 have f1:DataW.trod enc Pg w 0 (fun _=>true) true n 5 (List.take (Pg.cellsOf 5) (List.drop 1 arr.toList))=some y1:=hfd 1 _ rfl
 have f2:DataW.trod enc Pg w 0 (fun _=>true) true n 3 (List.take (Pg.cellsOf 3) (List.drop 2 arr.toList))=some y2:=hfd 2 _ rfl
 rw[kg]at f0 f1 f2
 rw[h1c 5 (.inr rfl)]at f0 f1
 rw[h1c 3 (.inl rfl)]at f2
 obtain⟨k0,e0,w0⟩:=Qfj Tryd.underlying5 (x:=y0) f0
 obtain⟨k1,e1,w1⟩:=Qfj Tryd.underlying5 (x:=y1) f1
 obtain⟨k2,e2,w2⟩:=Qfj Tryd.underlying3 (x:=y2) f2
 simp at e0 e1 e2
 subst e0 e1 e2
 refine⟨k0,k1,k2,⟨arr,rfl,?_⟩,wf8 w0,wf8 w1⟩
 rw[kg]
 exact⟨_,_,rfl,rfl,_,_,rfl,rfl,_,_,rfl,rfl,rfl⟩
end
set_option maxRecDepth 100000
def Bm:List Nat->Nat
 |[]=>0
 |x::l=>x+18446744073709551616*Bm l
def WOk(l:List Nat):Prop:=∀k,l.getD k 0<18446744073709551616
theorem Qbw(a b:List Nat):Bm (a++b)=Bm a+18446744073709551616^a.length*Bm b:=by
 induction a with
 |nil=>simp[Bm]
 |cons x a ih=>
  simp only[List.cons_append,Bm,ih,List.length_cons,Nat.pow_succ,Nat.mul_add]
  rw[Nat.mul_comm (18446744073709551616^a.length) 18446744073709551616,Nat.mul_assoc]
  omega
theorem WOk.tail{x:Nat}{l:List Nat}(h:WOk (x::l)):x<18446744073709551616/\WOk l:=
 ⟨by simpa using h 0,fun k=>by simpa using h (k+1)⟩
theorem WOk.cons{x:Nat}{l:List Nat}(h1:x<18446744073709551616)(h2:WOk l):WOk (x::l)
 |0=>by simpa using h1
 |k+1=>by simpa using h2 k
theorem WOk.take{l:List Nat}(h:WOk l)(n:Nat):WOk (l.take n):=fun k=>by
 rw[List.getD_eq_getElem?_getD,List.getElem?_take]
 split
 ·rw[<-List.getD_eq_getElem?_getD];exact h k
 ·simp
theorem Qm4: ∀{l:List Nat},WOk l->Bm l<18446744073709551616^l.length
 |[],_=>by simp[Bm]
 |x::l,h=>by
  have h1:=h.tail
  have h2:=Qm4 h1.2
  simp only[Bm,List.length_cons,Nat.pow_succ]
  have h3:=h1.1
  generalize 18446744073709551616^l.length=P at*
  omega
theorem Qc8{l:List Nat}{i:Nat}(h:i<l.length):l.take (i+1)=l.take i++[l.getD i 0]:=by
 rw[List.take_succ_eq_append_getElem h,List.getD_eq_getElem?_getD,List.getElem?_eq_getElem h];rfl
theorem Qnu{l:List Nat}{i:Nat}(h:i<l.length):l.drop i=l.getD i 0::l.drop (i+1):=by
 rw[List.drop_eq_getElem_cons h,List.getD_eq_getElem?_getD,List.getElem?_eq_getElem h];rfl
theorem Qhl{l:List Nat}{i:Nat}(h:i<l.length):Bm (l.take (i+1))=Bm (l.take i)+18446744073709551616^i*l.getD i 0:=by
 rw[Qc8 h,Qbw,List.length_take,Nat.min_eq_left o_]
 simp[Bm]
def Bj(w:Nat)(l:List Nat):Nat->List Nat×Nat
 |0=>(l,0)
 |i+1=>((Bj w l i).1.set i ((l.getD i 0*w+(Bj w l i).2)%18446744073709551616),(l.getD i 0*w+(Bj w l i).2)/18446744073709551616)
theorem Qb6(w:Nat)(l:List Nat): ∀i,(Bj w l i).1.length=l.length
 |0=>rfl
 |i+1=>by rw[Bj,List.length_set,Qb6 w l i]
theorem Qla(w:Nat)(l:List Nat): ∀i,(Bj w l i).1.drop i=l.drop i
 |0=>rfl
 |i+1=>by
  have h:=Qla w l i
  rw[Bj,List.drop_set_of_lt o_]
  have:=congrArg (List.drop 1) h
  simpa [List.drop_drop]using this
theorem mulS_at(w:Nat)(l:List Nat)(i:Nat):(Bj w l i).1.getD i 0=l.getD i 0:=by
 have h:=congrArg (fun x=>x.getD 0 0) (Qla w l i)
 simpa [List.getD_eq_getElem?_getD,List.getElem?_drop]using h
theorem Qjv{l:List Nat}{i x:Nat}(h:i<l.length):(l.set i x).take (i+1)=l.take i++[x]:=by
 rw[Qc8 (by simpa using h),List.take_set_of_le o_]
 congr 2
 rw[List.getD_eq_getElem?_getD,List.getElem?_set_self h];rfl
theorem Qgz{a w c:Nat}(ha:a<18446744073709551616)(hw:w<18446744073709551616)(hc:c<18446744073709551616):a*w+c<340282366920938463463374607431768211456:=by
 have:a*w<=18446744073709551615*18446744073709551615:=Nat.mul_le_mul o_ o_
 omega
structure MulOk(w:Nat)(l:List Nat)(i:Nat)(m:List Nat)(c:Nat):Prop where
 len:m.length=l.length
 words:WOk m
 carry:c<18446744073709551616
 val:Bm (m.take i)+18446744073709551616^i*c=w*Bm (l.take i)
theorem Qmm{w:Nat}{l:List Nat}(hl:WOk l)(hw:w<18446744073709551616): ∀i,i<=l.length->MulOk w l i (Bj w l i).1 (Bj w l i).2
 |0,_=>⟨rfl,hl,by show 0< _;omega,by simp[Bj,Bm]⟩
 | i + 1, h => by
  have ih:=Qmm hl hw i o_
  have jy:=Qb6 w l i
  have ha:=hl i
  have hcc:=ih.carry
  have hb:=Qgz ha hw hcc
  refine⟨by rw[Qb6],fun k=>?_,?_,?_⟩
  ·simp only [Bj]
   rw[List.getD_eq_getElem?_getD,List.getElem?_set]
   split
   ·split
    ·simp only[Option.getD_some];omega
    ·simp
   ·rw[<-List.getD_eq_getElem?_getD];exact ih.words k
  ·simp only[Bj];omega
  ·have hv := ih.val
   simp only[Bj]
   rw[Qjv o_,Qbw,Qhl o_,List.length_take,jy,Nat.min_eq_left o_,Nat.mul_add,<-hv]
   generalize (Bj w l i).2=c at*
   generalize (Bj w l i).1=m at*
   simp only[Bm,Nat.mul_zero,Nat.add_zero]
   have hd:=Nat.mod_add_div (l.getD i 0*w+c) 18446744073709551616
   generalize (l.getD i 0*w+c)%18446744073709551616=r at*
   generalize (l.getD i 0*w+c)/18446744073709551616=q at*
   rw[Nat.pow_succ,Nat.mul_assoc (18446744073709551616^i),Nat.add_assoc (Bm (m.take i)),<-Nat.mul_add,hd,Nat.mul_add,Nat.mul_left_comm w,Nat.mul_comm w]
   omega
structure Norm(l:List Nat):Prop where
 ok:WOk l
 pos:1<=l.length
 top:18446744073709551616^(l.length-1)<=Bm l
def Dd(w:Nat)(l:List Nat):List Nat:=if(Bj w l l.length).2=0 then(Bj w l l.length).1 else(Bj w l l.length).1++[(Bj w l l.length).2]
theorem Qsm{w:Nat}{l:List Nat}(h:Norm l)(hw:w<18446744073709551616)(hp:1<=w):Norm (Dd w l)/\Bm (Dd w l)=w*Bm l/\(Dd w l).length<=l.length+1:=by
 have ho:=Qmm h.ok hw l.length (Nat.le_refl _)
 have hv:=ho.val
 have jy:=ho.len
 unfold Dd
 generalize (Bj w l l.length).1=m at*
 generalize (Bj w l l.length).2=c at*
 rw[List.take_of_length_le o_,List.take_of_length_le o_]at hv
 have hge:Bm l<=w*Bm l:=Nat.le_mul_of_pos_left _ hp
 have htop:=h.top
 have jp:=h.pos
 by_cases hc:c=0
 ·subst hc
  rw[if_pos rfl]
  simp only[Nat.mul_zero,Nat.add_zero]at hv
  exact⟨⟨ho.words,by omega,by rw[jy];omega⟩,hv,by omega⟩
 ·rw [if_neg hc]
  have xy:Bm (m++[c])=w*Bm l:=by
   rw[Qbw,jy];simpa [Bm]using hv
  refine⟨⟨fun k=>?_,by simp,?_⟩,xy,by simp;omega⟩
  ·rw [List.getD_eq_getElem?_getD, List.getElem?_append]
   split
   ·rw[<-List.getD_eq_getElem?_getD];exact ho.words k
   ·cases hk : k - m.length with
    |zero=>simpa using ho.carry
    |succ j=>simp
  ·rw [Qbw]
   simp only[List.length_append,List.length_singleton,Nat.add_sub_cancel,Bm,Nat.mul_zero,Nat.add_zero]
   have:18446744073709551616^m.length*1<=18446744073709551616^m.length*c:=Nat.mul_le_mul_left _ o_
   omega
theorem norm_one:Norm [1]:=⟨WOk.cons o_ (fun k=>by simp),by simp,by simp[Bm]⟩
theorem Qoh{a b:List Nat}(ha:Norm a)(hb:Norm b)(h:a.length<b.length):Bm a<Bm b:=by
 have h1:=Qm4 ha.ok
 have h2:=hb.top
 have h3:18446744073709551616^a.length<=18446744073709551616^(b.length-1):=Nat.pow_le_pow_right o_ o_
 omega
theorem Qo4{a b:List Nat}(ha:WOk a){i:Nat}(hl:a.length=b.length)(hi:i<a.length)(hd:a.drop (i+1)=b.drop (i+1))(h:a.getD i 0<b.getD i 0):Bm a<Bm b:=by
 have e1:Bm a=Bm (a.take (i+1))+18446744073709551616^(i+1)*Bm (a.drop (i+1)):=by
  conv=>lhs;rw[<-List.take_append_drop (i+1) a]
  rw[Qbw,List.length_take,Nat.min_eq_left o_]
 have e2:Bm b=Bm (b.take (i+1))+18446744073709551616^(i+1)*Bm (b.drop (i+1)):=by
  conv=>lhs;rw[<-List.take_append_drop (i+1) b]
  rw[Qbw,List.length_take,Nat.min_eq_left o_]
 rw[e1,e2,hd,Qhl hi,Qhl o_]
 have h1:=Qm4 (ha.take i)
 rw[List.length_take,Nat.min_eq_left o_]at h1
 have h2:18446744073709551616^i*(a.getD i 0+1)<=18446744073709551616^i*b.getD i 0:=Nat.mul_le_mul_left _ h
 rw[Nat.mul_add,Nat.mul_one]at h2
 omega
theorem Qff{a b:List Nat}{i:Nat}(hl:a.length=b.length)(hi:i<a.length)(hd:a.drop (i+1)=b.drop (i+1))(h:a.getD i 0=b.getD i 0):a.drop i=b.drop i:=by
 have hi':i<b.length:=by omega
 rw[Qnu hi,Qnu hi',h,hd]
def sgn(x y:Nat):Int:=if x<y then -1 else if y<x then 1 else 0
def Qa7(e:Nat->Nat):Nat->Nat
 |0=>1
 |k+1=>Qa7 e k*Al k^e k
theorem Qpw(k:Nat):0<Al k:=by have:=(Qbc k).1;omega
theorem Qlm(e:Nat->Nat): ∀k,0<Qa7 e k
 |0=>by simp[Qa7]
 |k+1=>Nat.mul_pos (Qlm e k) (Nat.pow_pos (Qpw k))
theorem Qbd{e f:Nat->Nat}: ∀k,(∀j,j<k->e j=f j)->Qa7 e k=Qa7 f k
 |0,_=>rfl
 |k+1,h=>by rw[Qa7,Qa7,Qbd k (fun j hj=>h j o_),h k o_]
theorem Qg5(e f:Nat->Nat): ∀k,Qa7 (fun j=>e j+f j) k=Qa7 e k*Qa7 f k
 |0=>rfl
 |k+1=>by
  rw[Qa7,Qa7,Qa7,Qg5 e f k,Nat.pow_add]
  simp only[Nat.mul_assoc,Nat.mul_left_comm,Nat.mul_comm]
def B4(f:Nat->Int)(s:Int)(j:Nat):Nat:=(s*f j).toNat
theorem quot_cmp{a b:Nat->Nat}{n m:Nat}(hn:n=Qa7 a 18)(hm:m=Qa7 b 18)(f:Nat->Int)(hf: ∀i,i<18->f i=(a i:Int)-(b i:Int)):sgn (Qa7 (B4 f 1) 18) (Qa7 (B4 f (-1)) 18)=sgn n m:=by
 have h1:n=Qa7 (B4 f 1) 18*Qa7 (fun i=>min (a i) (b i)) 18:=by
  rw[hn,<-Qg5]
  exact Qbd 18 fun j hj=>by
   have:=hf j hj
   unfold B4;omega
 have h2:m=Qa7 (B4 f (-1)) 18*Qa7 (fun i=>min (a i) (b i)) 18:=by
  rw[hm,<-Qg5]
  exact Qbd 18 fun j hj=>by
   have:=hf j hj
   unfold B4;omega
 have h3:=Qlm (fun i=>min (a i) (b i)) 18
 generalize Qa7 (B4 f 1) 18=x at*
 generalize Qa7 (B4 f (-1)) 18=y at*
 generalize Qa7 (fun i=>min (a i) (b i)) 18=z at*
 subst h1 h2
 unfold sgn
 by_cases hxy:x<y
 ·rw[if_pos hxy,if_pos (Nat.mul_lt_mul_of_pos_right hxy h3)]
 ·have hle := Nat.mul_le_mul_right z (Nat.le_of_not_lt hxy)
  have hn1: ¬x*z<y*z:=Nat.not_lt.2 hle
  rw[if_neg hxy,if_neg hn1]
  by_cases hyx:y<x
  ·rw[if_pos hyx,if_pos (Nat.mul_lt_mul_of_pos_right hyx h3)]
  ·have hn2 : ¬ y * z < x * z := Nat.not_lt.2 (Nat.mul_le_mul_right z (Nat.le_of_not_lt hyx))
   rw[if_neg hyx,if_neg hn2]
set_option maxHeartbeats 1000000
noncomputable def kFinH(nx0 n:Nat)(r:List Nat)(S:SL):KF:=fun e _ st=>match e with
 | .exit _=>False
 | _=>bif Nat.beq st.tm.n n then gcP nx0 r st S else False
noncomputable def vcFiH(P:Program)(E:Env)(sp:Qdc)(gl:T (List V))(n:Nat)(os0:List O)(ars:List V)(hs:Hs)(r:List Nat)(S:SL)(v:V):Option FI->Prop
 |some fi=>bif Nat.ble ars.length fi.ntmps then retP v (Ff E.G (Ah gl fi.ntmps S).tm (Ah gl fi.ntmps S).H fi.res)/\vc P E sp none os0.length n fi.body hs ⟨⟨Qef (Qdg fi.ntmps) 0 ars,gl,fi.ntmps⟩,Ae .e 0 os0,os0.length,[]⟩ (kFinH os0.length fi.ntmps r S)else False
 |none=>False
noncomputable def vcFnH(P:Program)(E:Env)(sp:Qdc)(gl:T (List V))(n f:Nat)(os0:List O)(ars:List V)(hs:Hs)(r:List Nat)(S:SL)(v:V):Prop:=vcFiH P E sp gl n os0 ars hs r S v (E.code f)
theorem Qmn: ∀(os:List O)(t:T O)(k i:Nat),k<=i->i<k+os.length->(Ae t k os).get i=os[i-k]?
 |[],_,_,_,h1,h2=>by simp at h2;omega
 | o :: os, t, k, i, h1, h2 => by
  rw[Ae]
  by_cases hi:i=k
  ·subst hi
   have: ∀(os:List O)(t:T O)(j i:Nat),i<j->(Ae t j os).get i=t.get i:=by
    intro os
    induction os with
    |nil=>intro t j i _;rfl
    |cons o os ih=>
     intro t j i h
     rw[Ae,ih _ _ _ o_,Bl,T.get_put,if_neg o_]
   rw[this _ _ _ _ o_,Bl,T.get_put,if_pos rfl]
   simp
  ·rw [Qmn os _ _ _ o_ (by simp at h2; omega)]
   rw[show i-k=(i-(k+1))+1 by omega,List.getElem?_cons_succ]
theorem Qoi{os:List O}{i:Nat}(h:os.length<=i):(Ae .e 0 os).get i=none:=by
 cases hg:(Ae .e 0 os).get i with
 |none=>rfl
 | some o =>
  rcases Cs os .e 0 i o hg with⟨_,h2⟩|h2
  ·have := (List.getElem?_eq_some_iff.1 h2).1
   omega
  ·cases h2
theorem Aa.of_vcH{P:Program}{E:Env}{sp:Qdc}(hE:E.Ok P)(hm:P.follows .mixedOrders=true){gl:T (List V)}(hsp:Qbx P gl sp){n f:Nat}{os0:List O}{ars:List V}{hs:Hs}{r:List Nat}{S:SL}{v:V}(hle:os0.length<=S.os.length)(hsame: ∀i,i<os0.length->i∉S.lg->S.os[i]? =os0[i]?)(h:vcFnH P E sp gl n f os0 ars hs r S v):Aa P gl (.fn f []) ars (Ae .e 0 os0) os0.length ⟨v,Ae .e 0 S.os,S.os.length,S.lg⟩:=by
 unfold vcFnH vcFiH at h
 split at h
 ·rename_i fi hfi
  obtain⟨hb,kp,hv⟩:=Qak h
  have hret':Ff E.G (Ah gl fi.ntmps S).tm (Ah gl fi.ntmps S).H fi.res=some v:=by
   unfold retP at kp
   split at kp
   ·rename_i u e;rw[e,kp]
   ·exact kp.elim
  rw[Qcv]at hv
  have hlog:Log (Ae .e 0 os0).get os0.length (Ae .e 0 S.os).get S.os.length S.lg:=by
   refine⟨hle,fun i hi hn=>?_⟩
   by_cases h1:i<os0.length
   ·rw [Qmn _ _ _ _ (Nat.zero_le _) o_, Qmn _ _ _ _ (Nat.zero_le _) o_, Nat.sub_zero]
    exact hsame i h1 hi
   ·rw[Qoi o_,Qoi o_]
  refine Aa.fnC hE hfi (by rw[List.append_nil];exact hb) hlog (R:=fun e st=>(e= .normal\/e= .ret)/\st=Ah gl fi.ntmps S) ?_ ?_
  ·rw [List.append_nil]
   refine Sat.gc_post (Sat.of_vc hE hm hsp rfl hv fun e hs' st' hg hk=>?_)
   unfold kFinH at hk
   have fin:(bif Nat.beq st'.tm.n fi.ntmps then gcP os0.length r st' S else False)->∃r st2,Gc os0.length r st' st2/\st2=Ah gl fi.ntmps S:=by
    intro hk
    obtain⟨hb,hk⟩:=Qak hk
    exact⟨r,_,Qd7 hk,by rw[hg,Nat.eq_of_beq_eq_true hb]⟩
   cases e with
   |exit=>exact hk.elim
   |normal=>obtain⟨r,st2,h1,h2⟩:=fin hk;exact⟨r,st2,h1,.inl rfl,h2⟩
   |ret=>obtain⟨r,st2,h1,h2⟩:=fin hk;exact⟨r,st2,h1,.inr rfl,h2⟩
  ·rintro e st ⟨he, rfl⟩
   exact⟨he,v,hret',fun s w ee w' _ _ hp=>hp⟩
 ·exact h.elim
theorem wru{z:Nat}(h:z<18446744073709551616):wr .u64 ((z:Nat):Int)=(z:Int):=Qei (by simp[lo]) (by simp[hi];omega)
theorem wru_mod(z:Nat):wr .u64 ((z:Nat):Int)=((z%18446744073709551616:Nat):Int):=by
 rw[Dw,IntKind.wrap_u64];omega
theorem Ql6{G:Ctx}{t:Nat}{x:Nat}:Ai G .and t (u6 (x:Int)) (u6 4294967295)=some (u6 ((x%4294967296:Nat):Int)):=by
 have h:(BitVec.ofInt 64 (x:Int)&&& BitVec.ofInt 64 4294967295).toNat=x%4294967296:=by
  rw[BitVec.toNat_and]
  have h1:(BitVec.ofInt 64 4294967295).toNat=2^32-1:=by decide
  rw[h1,Nat.and_two_pow_sub_one_eq_mod]
  have h2:(BitVec.ofInt 64 (x:Int)).toNat=x%2^64:=by
   rw[BitVec.toNat_ofInt];omega
  rw[h2];omega
 have hw:IntKind.u64.wrap ((x%4294967296:Nat):Int)=((x%4294967296:Nat):Int):=by
  rw[<-Dw];exact wru o_
 have e:Ai G .and t (u6 (x:Int)) (u6 4294967295)=some (.int .u64 (IntKind.u64.wrap ((BitVec.ofInt 64 (x:Int)&&& BitVec.ofInt 64 4294967295).toNat:Int))):=rfl
 rw[e,h,hw]
theorem Qhf{G:Ctx}{t:Nat}{x:Nat}:Ai G .shr t (u6 (x:Int)) (u6 32)=some (u6 ((x/4294967296:Nat):Int)):=by
 have h1:((32:Int)<0)=False:=by simp
 have h2:2^min (Int.toNat 32) IntKind.u64.bits=4294967296:=by decide
 simp only[Ai,intV,h1,if_false,h2]
 rw[Int.fdiv_eq_ediv_of_nonneg _ o_]
 rfl
theorem wru'{n:Int}{z:Nat}(e:n=(z:Int))(h:z<18446744073709551616):wr .u64 n=(z:Int):=by rw[e];exact wru h
abbrev mulV(x y:Nat):V:=.tup [u6 ((x*y/18446744073709551616:Nat):Int),u6 ((x*y%18446744073709551616:Nat):Int)]
theorem Qjg(x y:Nat)(hx:x<18446744073709551616)(hy:y<18446744073709551616):Ac Pg g0 66 [u6 x,u6 y] (mulV x y):=by
 show Ac Pg g0 66 [u6 x,u6 y] (.tup [u6 ((x*y/18446744073709551616:Nat):Int),u6 ((x*y%18446744073709551616:Nat):Int)])
 obtain⟨h1,h2,h3,h4⟩:=Go.Lib.mul64_hi x y hx hy
 have x1:=@Ql6 (Qac Pg) 104 x
 have y1:=@Ql6 (Qac Pg) 104 y
 have x2:=@Qhf (Qac Pg) 104 x
 have y2:=@Qhf (Qac Pg) 104 y
 have hlo:=wru_mod (x*y)
 have hbh:x*y/18446744073709551616<18446744073709551616:=by
  rw[Nat.div_lt_iff_lt_mul o_]
  have:=Qgz hx hy (c:=0) o_
  omega
 generalize x*y/18446744073709551616=H at*
 have e0:((x*y:Nat):Int)=(x:Int)*(y:Int):=Int.natCast_mul x y
 rw[e0]at hlo
 generalize x*y%18446744073709551616=L at*
 have ha0:x%4294967296<4294967296:=Nat.mod_lt _ o_
 have hb0:y%4294967296<4294967296:=Nat.mod_lt _ o_
 have ha1:x/4294967296<4294967296:=by omega
 have hb1:y/4294967296<4294967296:=by omega
 generalize x%4294967296=a0 at*
 generalize x/4294967296=a1 at*
 generalize y%4294967296=b0 at*
 generalize y/4294967296=b1 at*
 have m00:(a0:Int)*(b0:Int)=((a0*b0:Nat):Int):=(Int.natCast_mul a0 b0).symm
 have m10:(a1:Int)*(b0:Int)=((a1*b0:Nat):Int):=(Int.natCast_mul a1 b0).symm
 have m01:(a0:Int)*(b1:Int)=((a0*b1:Nat):Int):=(Int.natCast_mul a0 b1).symm
 have m11:(a1:Int)*(b1:Int)=((a1*b1:Nat):Int):=(Int.natCast_mul a1 b1).symm
 have l00:=Go.Lib.half_mul_le (a:=a0) (b:=b0) o_ o_
 have l10:=Go.Lib.half_mul_le (a:=a1) (b:=b0) o_ o_
 have l01:=Go.Lib.half_mul_le (a:=a0) (b:=b1) o_ o_
 have l11:=Go.Lib.half_mul_le (a:=a1) (b:=b1) o_ o_
 generalize a0*b0=p at*
 generalize a1*b0=q at*
 generalize a0*b1=u at*
 generalize a1*b1=v at*
 have s1:=@Qhf (Qac Pg) 104 p
 obtain⟨t,ht⟩: ∃t,t=q+p/4294967296:=⟨_,rfl⟩
 have s2:=@Ql6 (Qac Pg) 104 t
 have s3:=@Qhf (Qac Pg) 104 t
 obtain⟨w1,hw1⟩: ∃w1,w1=t%4294967296+u:=⟨_,rfl⟩
 have s4:=@Qhf (Qac Pg) 104 w1
 refine Ac.of_vc vE_ok Af Qaa (n:=1000) (r:=[]) (S:={sl:=[(4,u6 (H:Int)),(5,u6 (L:Int))]}) (hs:=[va 15 (u6 (a0:Int)),va 17 (u6 (a1:Int)),va 19 (u6 (b0:Int)),va 21 (u6 (b1:Int)),nu 24 (p:Int),nu 27 (q:Int),va 29 (u6 ((p/4294967296:Nat):Int)),nu 30 (t:Int),va 32 (u6 ((t%4294967296:Nat):Int)),va 34 (u6 ((t/4294967296:Nat):Int)),nu 38 (u:Int),nu 39 (w1:Int),nu 42 (v:Int),nu 44 ((v+t/4294967296:Nat):Int),va 46 (u6 ((w1/4294967296:Nat):Int)),nu 47 (H:Int),nu 50 (L:Int)]) ?_
 refine m_ (p:=let z0:=Qac Pg;let z1:=(↑(v+t/4294967296):Int);let z2:=u6 4294967295;let z3:=V.tup [u6 H,u6 L];let z4:=(H:Int);let z5:=(L:Int);Bn [z3=z3,Ai z0 .and 104 (u6 x) z2=some (u6 a0),Ai z0 .shr 104 (u6 x) (u6 32)=some (u6 a1),Ai z0 .and 104 (u6 y) z2=some (u6 b0),Ai z0 .shr 104 (u6 y) (u6 32)=some (u6 b1),wr .u64 ((a0:Int)*(b0:Int))=(p:Int),wr .u64 ((a1:Int)*(b0:Int))=(q:Int),Ai z0 .shr 104 (u6 p) (u6 32)=some (u6 ↑(p/4294967296)),wr .u64 ((q:Int)+(↑(p/4294967296):Int))=(t:Int),Ai z0 .and 104 (u6 t) z2=some (u6 ↑(t%4294967296)),Ai z0 .shr 104 (u6 t) (u6 32)=some (u6 ↑(t/4294967296)),wr .u64 ((a0:Int)*(b1:Int))=(u:Int),wr .u64 ((↑(t%4294967296):Int)+(u:Int))=(w1:Int),wr .u64 ((a1:Int)*(b1:Int))=(v:Int),wr .u64 ((v:Int)+(↑(t/4294967296):Int))=z1,Ai z0 .shr 104 (u6 w1) (u6 32)=some (u6 ↑(w1/4294967296)),wr .u64 (z1+(↑(w1/4294967296):Int))=z4,wr .u64 ((x:Int)*(y:Int))=z5,Bn [z4=z4,z5=z5]]) ?_
 (repeat'(first|(with_reducible apply And.intro)|(refine fun(_:True)=>?_)))
 all_goals first|assumption|rfl|trivial|exact wru' (by omega) (by omega)|(rw[m00];exact wru (by omega))|(rw[m10];exact wru (by omega))|(rw[m01];exact wru (by omega))|(rw[m11];exact wru (by omega))|skip
def add64N:List V->Option V
 |[.int .u64 (.ofNat x),.int .u64 (.ofNat y),.int .u64 (.ofNat 0)]=>some (.tup [.int .u64 (.ofNat ((x+y)%18446744073709551616)),.int .u64 (.ofNat ((x+y)/18446744073709551616))])
 | _=>none
def extN(f:Nat)(l:List V):Option V:=bif Nat.beq f 67 then add64N l else none
theorem extN_ok:Ql3 Tryd.prog extN:=by
 intro f l v h
 refine ext_ok f l v ?_
 unfold extN at h
 obtain⟨hf,k⟩:=Qar h
 unfold extF
 rw[hf,cond_true]
 unfold add64N at k
 split at k
 ·rename_i x y
  cases k
  unfold Qqj
  simp only[Int.ofNat_eq_natCast]
  rw[if_pos o_]
  congr 5<;>omega
 ·cases k
noncomputable def vN:Env:=envOf Tryd.prog Qsp extN
theorem Qhj:vN.Ok Tryd.prog:=env_ok Dx Qle extN_ok
def wt(l:List Nat):List V:=l.map fun(x:Nat)=>u6 (x:Int)
theorem Quh(l:List Nat):(wt l).length=l.length:=by simp[wt]
theorem Qbo(l:List Nat):HfL (wt l):=Qca _ l (fun _=>trivial)
theorem Qug(l:List Nat)(x:Nat):wt (l++[x])=wt l++[u6 (x:Int)]:=by simp[wt]
theorem Qr3{l:List Nat}{k:Nat}(h:k<l.length):Ad (Aj (0+k*1) (wt l))=some (u6 ((l.getD k 0:Nat):Int)):=by
 rw[Nat.zero_add,Nat.mul_one,Qau,wt,<-List.map_drop,List.drop_eq_getElem_cons h,List.getD_eq_getElem?_getD,List.getElem?_eq_getElem h];rfl
theorem lay_wt{l:List Nat}{j x:Nat}(h:j<l.length):Ax (0+j*1) (wt l) [u6 (x:Int)]=some (wt (l.set j x)):=by
 rw[Nat.zero_add,Nat.mul_one,Qc3,Quh]
 have:Nat.ble (j+[u6 (x:Int)].length) l.length=true:=Nat.ble_eq_true_of_le (by simp;omega)
 rw[this,cond_true]
 congr 1
 rw[List.set_eq_take_append_cons_drop,if_pos h]
 simp[wt,List.map_take,List.map_drop]
theorem Qld{d w c:Nat}(hd:d<18446744073709551616)(hw:w<18446744073709551616)(hc:c<18446744073709551616):
  (d*w%18446744073709551616+c)%18446744073709551616=(d*w+c)%18446744073709551616/\d*w/18446744073709551616+(d*w%18446744073709551616+c)/18446744073709551616=(d*w+c)/18446744073709551616/\(d*w+c)/18446744073709551616<18446744073709551616:=by
 have:=Qgz hd hw hc
 generalize d*w=p at*
 omega
abbrev n1(f:Nat->Int)(x:Nat):List O:=[.row 37 none (arF f),.row 112 none [.sl 2 0 1 (some 0)],.row 104 none [u6 (x:Int)]]
theorem os3{i:Nat}{l:List Nat}(hi:i<3)(hn:i∉2::l):i=0\/i=1:=by
 have:i≠2:=fun h=>hn (by rw[h];exact List.mem_cons_self)
 omega
theorem Qod(f:Nat->Int)(x w:Nat)(hx:x<18446744073709551616)(hw:w<18446744073709551616)(y:Nat)(hy:y=x*w%18446744073709551616)(hc:x*w/18446744073709551616=0):
  Aa Pg g0 (.fn 65 [.ptr 1 0]) [u6 (w:Int)] (Ae .e 0 (n1 f x)) 3 ⟨.tup [],Ae .e 0 (n1 f y),3,[2]⟩:=by
 refine Aa.caps ?_
 have hm:=Qjg x w hx hw
 have hy2:y<18446744073709551616:=by omega
 rw[show mulV x w= .tup [u6 ((0:Nat):Int),u6 (y:Int)]by rw[mulV,hc,<-hy]]at hm
 have hv:(y+0)%18446744073709551616=y:=by omega
 refine Aa.of_vcH (os0:=n1 f x) Qhj Af Qaa (n:=1000) (r:=[]) (S:={sl:=[],os:=n1 f y,lg:=[2],md:=[0,1,0]}) (hs:=[(0,.unroll 3),fn 20 (.tup [u6 ((0:Nat):Int),u6 (y:Int)]),nu 34 ((0:Nat):Int),no 38]) (by simp) (fun i hi hn=>?_) ?_
 ·rcases os3 hi hn with rfl|rfl<;>rfl
 refine m_ (p:=let z0:=((0:Nat):Int);Bn [Sm (V.tup []),TT 2,Ac Pg g0 66 [u6 x,u6 w] (V.tup [u6 ↑(0:Nat),u6 y]),Tt,wr .u64 (z0+(↑((y+0)/18446744073709551616):Int))=z0,(z0 != 0)=false,Tt,An [Sm (arF f),TT 18],Bn [An [Zz,1=1,Zz]],Bn [[u6 y]=[u6 (↑((y+0)%18446744073709551616):Int)],Tt]]) ?_
 (repeat'(first|(with_reducible apply And.intro)|(refine fun(_:True)=>?_)))<;>first|exact aq|skip
 all_goals first|(refine wru' ?_ ?_<;>omega)|skip
theorem Qoe(f:Nat->Int)(x w:Nat)(hx:x<18446744073709551616)(hw:w<18446744073709551616)(y c:Nat)(hy:y=x*w%18446744073709551616)(hc:c=x*w/18446744073709551616)(hc0:c≠0):
  Aa Pg g0 (.fn 65 [.ptr 1 0]) [u6 (w:Int)] (Ae .e 0 (n1 f x)) 3 ⟨.tup [],Ae .e 0 [.row 37 none (arF f),.row 112 none [.sl 3 0 2 none],.dead,.row 104 (some 1) [u6 (y:Int),u6 (c:Int)]],4,[2,1]⟩:=by
 refine Aa.caps ?_
 have hm:=Qjg x w hx hw
 have hp:=Qld hx hw (c:=0) o_
 have hy2:y<18446744073709551616:=by omega
 have hc2:c<18446744073709551616:=by omega
 rw[show mulV x w= .tup [u6 ((c:Nat):Int),u6 (y:Int)]by rw[mulV,<-hc,<-hy]]at hm
 have hv:(y+0)%18446744073709551616=y:=by omega
 refine Aa.of_vcH (os0:=n1 f x) Qhj Af Qaa (n:=1000) (r:=[4]) (S:={sl:=[],os:=[.row 37 none (arF f),.row 112 none [.sl 3 0 2 none],.dead,.row 104 (some 1) [u6 (y:Int),u6 (c:Int)]],lg:=[2,1],md:=[0,1,0,0]}) (hs:=[(0,.unroll 3),fn 20 (.tup [u6 ((c:Nat):Int),u6 (y:Int)]),nu 34 (c:Int),yes 38]) (by simp) (fun i hi hn=>?_) ?_
 ·have : i = 0 := by
   rcases os3 hi hn with h|h
   ·exact h
   ·exact absurd (by rw[h];simp) hn
  subst this;rfl
 refine m_ (p:=let z0:=(c:Int);Bn [Sm (V.tup []),TT 2,Ac Pg g0 66 [u6 x,u6 w] (V.tup [u6 c,u6 y]),Tt,wr .u64 (z0+(↑((y+0)/18446744073709551616):Int))=z0,(z0 != 0)=true,Tt,An [Sm (arF f),TT 18],Bn [Bn [Zz,2=2]],Tt,An [[u6 y,u6 c]=[u6 (↑((y+0)%18446744073709551616):Int)]++[u6 c],TT 2]]) ?_
 (repeat'(first|(with_reducible apply And.intro)|(refine fun(_:True)=>?_)))<;>first|exact aq|skip
 all_goals first|(refine wru' ?_ ?_<;>omega)|skip
abbrev acS(f:Nat->Int)(w n:Nat)(q:Nat×List Nat×Nat):SL:={sl:=[(0,u6 w),(1,.ptr 1 0),(3,u6 q.2.2),(10,.sl 2 0 n none),(11,i6 n),(12,i6 q.1)],os:=[.row 37 none (arF f),.row 112 none [.sl 2 0 n none],.row 104 (some 1) (wt q.2.1)],lg:=[2],md:=[0,1,0]}
abbrev acX(f:Nat->Int)(w n:Nat)(m:List Nat)(c:Nat):SL:={sl:=[(1,.ptr 1 0),(3,u6 c)],os:=[.row 37 none (arF f),.row 112 none [.sl 2 0 n none],.row 104 (some 1) (wt m)],lg:=[2],md:=[0,1,0]}
theorem Qk9(f:Nat->Int)(ws:List Nat)(w n:Nat)(hn:n=ws.length)(hn2:n<=100000)(hws:WOk ws)(hw:w<18446744073709551616):
  Sat Pg none 3 (at' 65 [1,0,1,0]) (Ah g0 43 (acS f w n (0,ws,0))) (Qaf g0 43 [(True,.exit 0,acX f w n (Bj w ws n).1 (Bj w ws n).2)]):=by
 refine Qax Qhj Af Qaa (b:=at' 65 [1,0,1,0,0]) k_ (fun q=>q.1<=n/\q.2.1=(Bj w ws q.1).1/\q.2.2=(Bj w ws q.1).2) (acS f w n) (fun q=>n-q.1) (fun q hq=>?_) (0,ws,0) ⟨Nat.zero_le _,rfl,rfl⟩
 obtain⟨i,m,c⟩:=q
 obtain⟨hi,hmm,hcc⟩:=hq
 dsimp only at hi hmm hcc
 have ho:=Qmm hws hw i o_
 rw[<-hmm,<-hcc]at ho
 have jy:=ho.len
 have hcb:=ho.carry
 by_cases hlt:i<n
 ·have hat := mulS_at w ws i
  rw[<-hmm]at hat
  have hd:=hws i
  have h1:=Qr3 (l:=m) (k:=i) o_
  rw[hat]at h1
  have e1:(Bj w ws (i+1)).1=m.set i ((ws.getD i 0*w+c)%18446744073709551616):=by rw[Bj,<-hmm,<-hcc]
  have e2:(Bj w ws (i+1)).2=(ws.getD i 0*w+c)/18446744073709551616:=by rw[Bj,<-hcc]
  have hp:=Qld hd hw hcb
  have hml:Ac Pg g0 66 [u6 (ws.getD i 0:Nat),u6 w] (.tup [u6 ((ws.getD i 0*w/18446744073709551616:Nat):Int),u6 ((ws.getD i 0*w%18446744073709551616:Nat):Int)]):=Qjg (ws.getD i 0) w hd hw
  have hlay:=lay_wt (l:=m) (j:=i) (x:=(ws.getD i 0*w+c)%18446744073709551616) o_
  obtain⟨m',hm'⟩: ∃m',m'=(Bj w ws (i+1)).1:=⟨_,rfl⟩
  rw[<-e1,<-hm']at hlay
  generalize ws.getD i 0=d at*
  generalize hc':(d*w+c)/18446744073709551616=c' at*
  generalize hs':(d*w+c)%18446744073709551616=s' at*
  generalize d*w/18446744073709551616=H at*
  generalize d*w%18446744073709551616=L at*
  obtain⟨p1,p2,p3⟩:=hp
  subst p1
  refine .inl ⟨(i+1,m',c'),[],[yes 13,pl 15,ld 16 (u6 d),fn 20 (.tup [u6 ((H:Nat):Int),u6 (L:Int)]),nu 34 (c':Int),pl 35,st (wt m'),nu 36 (i+1:Nat)],1000,⟨hlt,hm',e2.symm⟩,by dsimp only;omega,?_⟩
  clear hc' hmm hcc ho e1 e2 hm'
  refine m_ (p:=let z0:=(i:Int);let z1:=(n:Int);let z2:=(↑(i+1):Int);let z3:=(c':Int);Bn [decide (z0<z1)=true,An [(0:Int)<=z0,z0<z1],Ad (Aj (0+i*1) (wt m))=some (u6 d),TT 2,Ac Pg g0 66 [u6 d,u6 w] (V.tup [u6 H,u6 L]),Tt,wr .u64 ((H:Int)+(↑((L+c)/18446744073709551616):Int))=z3,An [(0:Int)<=z0,z0<z1],Ax (0+i*1) (wt m) [u6 (↑((L+c)%18446744073709551616):Int)]=some (wt m'),wr .i64 (z0+1)=z2,Bn [Sm (w:Int),Zz,z3=z3,Bn [Zz,n=n],z1=z1,z2=z2],An [Sm (arF f),TT 18],Bn [Bn [Zz,n=n]],An [Sm (wt m'),HfL (wt m')]]) ?_
  (repeat'(first|(with_reducible apply And.intro)|(refine fun(_:True)=>?_)))<;>first|exact aq|skip
  all_goals first|(refine wru' ?_ ?_<;>omega)|exact Qbo _|skip
 ·have : i = n := by omega
  subst this
  rw[<-hmm,<-hcc]
  refine .inr ⟨.exit 0,[],acX f w i m c,[no 13],1000,.inl ⟨trivial,rfl,rfl⟩,?_⟩
  clear hmm hcc
  refine m_ (p:=Bn [decide ((i:Int)<(i:Int))=false,Bn [Zz,Sm (c:Int)],An [Sm (arF f),TT 18],Bn [Bn [Zz,i=i]],An [Sm (wt m),HfL (wt m)]]) ?_
  (repeat'(first|(with_reducible apply And.intro)|(refine fun(_:True)=>?_)))<;>first|exact aq|skip
  all_goals first|exact Qbo _|skip
theorem mul_M0(f:Nat->Int)(ws:List Nat)(w n:Nat)(hn:n=ws.length)(hn2:n<=100000)(hws:WOk ws)(hw:w<18446744073709551616)(m:List Nat)(hm:m=(Bj w ws n).1)(hc:(Bj w ws n).2=0):
  Aa Pg g0 (.fn 65 [.ptr 1 0]) [u6 (w:Int)] (Ae .e 0 [.row 37 none (arF f),.row 112 none [.sl 2 0 n none],.row 104 (some 1) (wt ws)]) 3 ⟨.tup [],Ae .e 0 [.row 37 none (arF f),.row 112 none [.sl 2 0 n none],.row 104 (some 1) (wt m)],3,[2]⟩:=by
 refine Aa.caps ?_
 have l:=Qk9 f ws w n hn hn2 hws hw
 rw[<-hm,hc]at l
 refine Aa.of_vcH (os0:=[.row 37 none (arF f),.row 112 none [.sl 2 0 n none],.row 104 (some 1) (wt ws)]) Qhj Af Qaa (n:=1000) (r:=[]) (S:={sl:=[],os:=[.row 37 none (arF f),.row 112 none [.sl 2 0 n none],.row 104 (some 1) (wt m)],lg:=[2],md:=[0,1,0]}) (hs:=[(0,.loop [] (acS f w n (0,ws,0)) [(True,.exit 0,acX f w n m 0)]),no 38]) (by simp) (fun i hi hn=>?_) ?_
 ·rcases os3 hi hn with rfl|rfl<;>rfl
 clear hm hc
 refine m_ (p:=let z1:=An [Sm (arF f),TT 18];let z0:=((0:Nat):Int);Bn [Sm (V.tup []),Bn [Bn [Sm (w:Int),Zz,z0=(0:Int),Bn [Zz,n=n],Sm (n:Int),z0=(0:Int)],z1,Bn [Bn [Zz,n=n]],An [Sm (wt ws),HfL (wt ws)]],Sat Pg none 3 (at' 65 [1,0,1,0]) (Ah g0 43 (acS f w n (0,ws,0))) (Qaf g0 43 [(True,Ex.exit 0,acX f w n m 0)]),(True->Bn [(z0 != 0)=false,Tt,z1,Bn [Bn [Zz,n=n]],An [Sm (wt m),HfL (wt m)]])]) ?_
 (repeat'(first|(with_reducible apply And.intro)|(refine fun(_:True)=>?_)))<;>first|exact aq|skip
 all_goals first|exact Qbo _|skip
theorem mul_M1(f:Nat->Int)(ws:List Nat)(w n:Nat)(hn:n=ws.length)(hn2:n<=100000)(hws:WOk ws)(hw:w<18446744073709551616)(m:List Nat)(c:Nat)(hm:m=(Bj w ws n).1)(hc:c=(Bj w ws n).2)(hc0:c≠0):
  Aa Pg g0 (.fn 65 [.ptr 1 0]) [u6 (w:Int)] (Ae .e 0 [.row 37 none (arF f),.row 112 none [.sl 2 0 n none],.row 104 (some 1) (wt ws)]) 3 ⟨.tup [],Ae .e 0 [.row 37 none (arF f),.row 112 none [.sl 3 0 (n+1) none],.dead,.row 104 (some 1) (wt m++[u6 (c:Int)])],4,[2,1]⟩:=by
 refine Aa.caps ?_
 have l:=Qk9 f ws w n hn hn2 hws hw
 have hml:=Qb6 w ws n
 rw[<-hm]at hml
 rw[<-hm,<-hc]at l
 have hwl:=Quh m
 refine Aa.of_vcH (os0:=[.row 37 none (arF f),.row 112 none [.sl 2 0 n none],.row 104 (some 1) (wt ws)]) Qhj Af Qaa (n:=1000) (r:=[4]) (S:={sl:=[],os:=[.row 37 none (arF f),.row 112 none [.sl 3 0 (n+1) none],.dead,.row 104 (some 1) (wt m++[u6 (c:Int)])],lg:=[2,1],md:=[0,1,0,0]}) (hs:=[(0,.loop [] (acS f w n (0,ws,0)) [(True,.exit 0,acX f w n m c)]),yes 38,ap 42]) (by simp) (fun i hi hn=>?_) ?_
 ·have : i = 0 := by
   rcases os3 hi hn with h|h
   ·exact h
   ·exact absurd (by rw[h];simp) hn
  subst this;rfl
 clear hm hc
 have hf:HfL (wt m++[u6 (c:Int)]):=by have:=Qbo (m++[c]);rwa [Qug]at this
 refine m_ (p:=let z0:=An [Sm (arF f),TT 18];Bn [Sm (V.tup []),Bn [Bn [Sm (w:Int),Zz,((0:Nat):Int)=(0:Int),Bn [Zz,n=n],Sm (n:Int),((0:Nat):Int)=(0:Int)],z0,Bn [Bn [Zz,n=n]],An [Sm (wt ws),HfL (wt ws)]],Sat Pg none 3 (at' 65 [1,0,1,0]) (Ah g0 43 (acS f w n (0,ws,0))) (Qaf g0 43 [(True,Ex.exit 0,acX f w n m c)]),(True->Bn [((c:Int) != 0)=true,List.length (wt m)=n*1,n+1<=9223372036854775807,(n+1)*8<=140737488355328,Tt,z0,Bn [Bn [Zz,Sm (n+1)]],Tt,An [Sm (wt m++[u6 c]),HfL (wt m++[u6 c])]])]) ?_
 (repeat'(first|(with_reducible apply And.intro)|(refine fun(_:True)=>?_)))<;>first|exact aq|skip
 all_goals first|exact Qbo _|skip
def Qts(p w:Nat)(md:Bool)(ws:List Nat):Nat×Bool×List Nat:=if 144115188075855872<w then(p,md||decide ((Bj w ws ws.length).2≠0),Dd w ws)else(w*p,md,ws)
def itQ(p:Nat):Nat->Nat×Bool×List Nat->Nat×Bool×List Nat
 |0,s=>s
 |t+1,s=>Qts p (itQ p t s).1 (itQ p t s).2.1 (itQ p t s).2.2
def Fh(e:Nat->Nat):Nat->Nat×Bool×List Nat
 |0=>(1,false,[1])
 |i+1=>itQ (Al i) (e i) (Fh e i)
structure QOk(e:Nat->Nat)(i t:Nat)(s:Nat×Bool×List Nat):Prop where
 norm:Norm s.2.2
 val:Bm s.2.2*s.1=Qa7 e i*Al i^t
 w1:1<=s.1
 wb:s.1<=8791026472627208192
 len:s.2.2.length<=1+4000*i+t
 one:s.2.1=false->s.2.2.length=1
theorem Qsl{w:Nat}{l:List Nat}(h:(Bj w l l.length).2=0):(Dd w l).length=l.length:=by
 unfold Dd;rw[if_pos h,Qb6]
theorem QOk.step{e:Nat->Nat}{i t:Nat}{s:Nat×Bool×List Nat}(h:QOk e i t s):QOk e i (t+1) (Qts (Al i) s.1 s.2.1 s.2.2):=by
 obtain⟨w,md,ws⟩:=s
 have hp:=Qbc i
 have hv:=h.val
 have hw:=h.w1
 have hb:=h.wb
 have hl:=h.len
 dsimp only at hv hw hb hl
 unfold Qts
 dsimp only
 by_cases hc:144115188075855872<w
 ·rw [if_pos hc]
  obtain⟨m1,m2,m3⟩:=Qsm h.norm (w:=w) o_ hw
  dsimp only at m1 m2 m3
  refine⟨m1,?_,by dsimp only;omega,by dsimp only;omega,by dsimp only;omega,fun ho=>?_⟩
  ·dsimp only
   rw[m2,Nat.mul_comm w,hv,Nat.pow_succ,Nat.mul_assoc]
  ·dsimp only at ho ⊢
   rw[Bool.or_eq_false_iff]at ho
   have h0:(Bj w ws ws.length).2=0:=by
    have:=of_decide_eq_false ho.2
    omega
   rw[Qsl h0]
   exact h.one ho.1
 ·rw [if_neg hc]
  have hle:w*Al i<=144115188075855872*61:=Nat.mul_le_mul o_ hp.2
  refine⟨h.norm,?_,Nat.mul_pos o_ o_,by dsimp only;omega,by dsimp only;omega,h.one⟩
  dsimp only
  rw[<-Nat.mul_assoc,hv,Nat.pow_succ,Nat.mul_assoc]
theorem QOk.it{e:Nat->Nat}{i:Nat}{s:Nat×Bool×List Nat}(h:QOk e i 0 s): ∀t,QOk e i t (itQ (Al i) t s)
 |0=>h
 |t+1=>(QOk.it h t).step
theorem QOk.next{e:Nat->Nat}{i:Nat}{s:Nat×Bool×List Nat}(he:e i<=4000)(h:QOk e i (e i) s):QOk e (i+1) 0 s:=by
 refine⟨h.norm,?_,h.w1,h.wb,?_,h.one⟩
 ·rw[h.val,Qa7,Nat.pow_zero,Nat.mul_one]
 ·have:=h.len;omega
theorem Qmp{e:Nat->Nat}(he: ∀i,i<18->e i<=4000): ∀i,i<=18->QOk e i 0 (Fh e i)
 |0,_=>⟨norm_one,by simp[Fh,Bm,Qa7],by simp[Fh],by simp[Fh],by simp[Fh],fun _=>rfl⟩
 |i+1,h=>((Qmp he i o_).it (e i)).next (he i o_)
def bxV:Bool->Nat->V
 |false,_=>.sl 2 0 1 (some 0)
 |true,n=>.sl 2 0 n none
def bxO:Bool->List Nat->O
 |false,l=>.row 104 none (wt l)
 |true,l=>.row 104 (some 1) (wt l)
theorem Qjh(w x:Nat):Bj w [x] 1=([x*w%18446744073709551616],x*w/18446744073709551616):=by simp[Bj]
theorem Qlb{w x:Nat}(h:x*w/18446744073709551616=0):Dd w [x]=[x*w%18446744073709551616]:=by
 unfold Dd
 simp only[List.length_singleton,Qjh]
 rw[if_pos h]
theorem Qlc{w x:Nat}(h:x*w/18446744073709551616≠0):Dd w [x]=[x*w%18446744073709551616,x*w/18446744073709551616]:=by
 unfold Dd
 simp only[List.length_singleton,Qjh]
 rw[if_neg h];rfl
abbrev aoL(f:Nat->Int)(md:Bool)(ws:List Nat):List O:=[.row 37 none (arF f),.row 112 none [bxV md ws.length],bxO md ws]
abbrev aiS(f:Nat->Int)(s:Int)(i e p:Nat)(q:Nat×Nat×Bool×List Nat):SL:={sl:=[(1,i6 s),(2,.ptr 0 0),(5,.ptr 1 0),(6,.fn 65 [.ptr 1 0]),(7,u6 q.2.1),(12,prV),(13,i6 i),(9,i6 p),(22,i6 e),(23,i6 q.1)],os:=aoL f q.2.2.1 q.2.2.2,md:=[0,1,0]}
abbrev aoS(f:Nat->Int)(s:Int)(i:Nat)(w:Nat)(md:Bool)(ws:List Nat):SL:={sl:=[(1,i6 s),(2,.ptr 0 0),(5,.ptr 1 0),(6,.fn 65 [.ptr 1 0]),(7,u6 w),(12,prV),(13,i6 i)],os:=aoL f md ws,md:=[0,1,0]}
theorem wtw{x p:Nat}(h:x*p<18446744073709551616):wr .u64 ((x:Int)*(p:Int))=((x*p:Nat):Int):=wru' (by rw[Int.natCast_mul]) h
theorem av_in(f:Nat->Int)(s:Int)(E:Nat->Nat)(i e:Nat)(hi:i<18)(he:e=E i)(he4:e<=4000)(s0:Nat×Bool×List Nat)(h0:QOk E i 0 s0)(w':Nat)(md':Bool)(ws':List Nat)(hx:itQ (Al i) e s0=(w',md',ws'))(w0:Nat)(md0:Bool)(ws0:List Nat)(hs0:s0=(w0,md0,ws0)):
  Sat Pg none 0 (at' 55 [1,1,1,1,0,1,0,0,1,1,0,0,1,1,0]) (Ah g0 40 (aiS f s i e (Al i) (0,w0,md0,ws0))) (Qaf g0 40 [(True,.exit 2,aoS f s i w' md' ws')]):=by
 refine Qax Qhj Af Qaa (b:=at' 55 [1,1,1,1,0,1,0,0,1,1,0,0,1,1,0,0]) k_ (fun q=>q.1<=e/\q.2=itQ (Al i) q.1 s0) (aiS f s i e (Al i)) (fun q=>e-q.1) (fun q hq=>?_) (0,w0,md0,ws0) ⟨Nat.zero_le _,hs0.symm⟩
 obtain⟨t,w,md,ws⟩:=q
 obtain⟨ht,hq⟩:=hq
 dsimp only at ht hq
 have hok:=h0.it t
 rw[<-hq]at hok
 have hw1:=hok.w1
 have hwb:=hok.wb
 have jy:=hok.len
 have hone:=hok.one
 have xq:=hok.norm
 dsimp only at hw1 hwb jy hone xq
 have hp:=Qbc i
 by_cases hlt:t<e
 ·have hnx : itQ (Al i) (t + 1) s0 = Qts (Al i) w md ws := by rw [itQ, <- hq]
  unfold Qts at hnx
  generalize Al i=p at*
  by_cases hc:144115188075855872<w
  ·rw [if_pos hc] at hnx
   have h1p:=wtw (x:=1) (p:=p) o_
   cases md with
   | false =>
    obtain⟨x,rfl⟩: ∃x,ws=[x]:=List.length_eq_one_iff.1 (hone rfl)
    have hxb:x<18446744073709551616:=by simpa using xq.ok 0
    simp only[List.length_singleton,Qjh,Bool.false_or]at hnx
    by_cases hc0:x*w/18446744073709551616=0
    ·rw [Qlb hc0, decide_eq_false o_] at hnx
     have hcs:=Qod f x w hxb o_ _ rfl hc0
     generalize x*w%18446744073709551616=y at*
     refine .inl ⟨(t+1,p,false,[y]),[0,1,2],[yes 24,yes 26,(29,.call ⟨.tup [],Ae .e 0 (n1 f y),3,[2]⟩),nu 32 (p:Nat),nu 33 ((1*p:Nat):Int),nu 34 (t+1:Nat)],1000,⟨hlt,hnx.symm⟩,by dsimp only;omega,?_⟩
     clear hq hnx hok
     refine m_ (p:=let z0:=(p:Int);let z1:=(↑(t+1):Int);let z2:=(e:Int);Bn [decide ((t:Int)<z2)=true,decide ((w:Int)>144115188075855872)=true,Aa Pg g0 (V.fn 65 [V.ptr 1 0]) [u6 w] (Ae T.e 0 (aoL f false [x])) 3 (CR.mk (V.tup []) (Ae T.e 0 (n1 f y)) 3 [2]),Tt,wr .u64 z0=z0,wr .u64 ((1:Int)*z0)=(↑(1*p):Int),wr .i64 ((t:Int)+1)=z1,Bn [s=s,Zz,Zz,Bn [Zz],z0=(↑(1*p):Int),Bn [Sm (2:Int),Sm (3:Int),Sm (5:Int),Sm (7:Int),Sm (11:Int),Sm (13:Int),Sm (17:Int),Sm (19:Int),Sm (23:Int),Sm (29:Int),Sm (31:Int),Sm (37:Int),Sm (41:Int),Sm (43:Int),Sm (47:Int),Sm (53:Int),Sm (59:Int),Sm (61:Int)],Sm (i:Int),z0=z0,z2=z2,z1=z1],An [Sm (arF f),TT 18],Bn [An [Zz,1=1,Zz]],Bn [wt [y]=[u6 y],Tt]]) ?_
     (repeat'(first|(with_reducible apply And.intro)|(refine fun(_:True)=>?_)))<;>first|exact aq|skip
     all_goals first|exact hcs|exact rfl|exact wru o_ |exact h1p|skip
    ·rw [Qlc hc0, decide_eq_true hc0] at hnx
     have hcs:=Qoe f x w hxb o_ _ _ rfl rfl hc0
     generalize x*w%18446744073709551616=y at*
     generalize x*w/18446744073709551616=c at*
     refine .inl ⟨(t+1,p,true,[y,c]),[0,1,3],[yes 24,yes 26,(29,.call ⟨.tup [],Ae .e 0 [.row 37 none (arF f),.row 112 none [.sl 3 0 2 none],.dead,.row 104 (some 1) [u6 (y:Int),u6 (c:Int)]],4,[2,1]⟩),nu 32 (p:Nat),nu 33 ((1*p:Nat):Int),nu 34 (t+1:Nat)],1000,⟨hlt,hnx.symm⟩,by dsimp only;omega,?_⟩
     clear hq hnx hok
     refine m_ (p:=let z0:=(p:Int);let z1:=(↑(t+1):Int);let z2:=(e:Int);Bn [decide ((t:Int)<z2)=true,decide ((w:Int)>144115188075855872)=true,Aa Pg g0 (V.fn 65 [V.ptr 1 0]) [u6 w] (Ae T.e 0 (aoL f false [x])) 3 (CR.mk (V.tup []) (Ae T.e 0 [O.row 37 none (arF f),O.row 112 none [V.sl 3 0 2 none],O.dead,O.row 104 (some 1) [u6 y,u6 c]]) 4 [2,1]),Tt,wr .u64 z0=z0,wr .u64 ((1:Int)*z0)=(↑(1*p):Int),wr .i64 ((t:Int)+1)=z1,Bn [s=s,Zz,Zz,Bn [Zz],z0=(↑(1*p):Int),Bn [Sm (2:Int),Sm (3:Int),Sm (5:Int),Sm (7:Int),Sm (11:Int),Sm (13:Int),Sm (17:Int),Sm (19:Int),Sm (23:Int),Sm (29:Int),Sm (31:Int),Sm (37:Int),Sm (41:Int),Sm (43:Int),Sm (47:Int),Sm (53:Int),Sm (59:Int),Sm (61:Int)],Sm (i:Int),z0=z0,z2=z2,z1=z1],An [Sm (arF f),TT 18],Bn [Bn [Zz,2=2]],An [wt [y,c]=[u6 y,u6 c],TT 2]]) ?_
     (repeat'(first|(with_reducible apply And.intro)|(refine fun(_:True)=>?_)))<;>first|exact aq|skip
     all_goals first|exact hcs|exact rfl|exact wru o_ |exact h1p|skip
   | true =>
    simp only[Bool.true_or]at hnx
    obtain⟨n,hn⟩: ∃n,n=ws.length:=⟨_,rfl⟩
    have hwl:=Quh
    by_cases hc0:(Bj w ws n).2=0
    ·have hcs := mul_M0 f ws w n hn o_ xq.ok o_ _ rfl hc0
     have hml:=Qb6 w ws n
     rw[show Dd w ws=(Bj w ws n).1 by unfold Dd;rw[<-hn,if_pos hc0]]at hnx
     generalize (Bj w ws n).1=m at*
     refine .inl ⟨(t+1,p,true,m),[0,1,2],[yes 24,yes 26,(29,.call ⟨.tup [],Ae .e 0 [.row 37 none (arF f),.row 112 none [.sl 2 0 n none],.row 104 (some 1) (wt m)],3,[2]⟩),nu 32 (p:Nat),nu 33 ((1*p:Nat):Int),nu 34 (t+1:Nat)],1000,⟨hlt,hnx.symm⟩,by dsimp only;omega,?_⟩
     clear hq hnx hok
     subst hn
     refine m_ (p:=let z0:=(p:Int);let z1:=(↑(t+1):Int);let z2:=(e:Int);Bn [decide ((t:Int)<z2)=true,decide ((w:Int)>144115188075855872)=true,Aa Pg g0 (V.fn 65 [V.ptr 1 0]) [u6 w] (Ae T.e 0 (aoL f true ws)) 3 (CR.mk (V.tup []) (Ae T.e 0 [O.row 37 none (arF f),O.row 112 none [V.sl 2 0 ws.length none],O.row 104 (some 1) (wt m)]) 3 [2]),Tt,wr .u64 z0=z0,wr .u64 ((1:Int)*z0)=(↑(1*p):Int),wr .i64 ((t:Int)+1)=z1,Bn [s=s,Zz,Zz,Bn [Zz],z0=(↑(1*p):Int),Bn [Sm (2:Int),Sm (3:Int),Sm (5:Int),Sm (7:Int),Sm (11:Int),Sm (13:Int),Sm (17:Int),Sm (19:Int),Sm (23:Int),Sm (29:Int),Sm (31:Int),Sm (37:Int),Sm (41:Int),Sm (43:Int),Sm (47:Int),Sm (53:Int),Sm (59:Int),Sm (61:Int)],Sm (i:Int),z0=z0,z2=z2,z1=z1],An [Sm (arF f),TT 18],Bn [Bn [Zz,m.length=ws.length]],An [Sm (wt m),HfL (wt m)]]) ?_
     (repeat'(first|(with_reducible apply And.intro)|(refine fun(_:True)=>?_)))<;>first|exact aq|skip
     all_goals first|exact hcs|exact Qbo _|exact wru o_ |exact h1p|skip
    ·have hcs := mul_M1 f ws w n hn o_ xq.ok o_ _ _ rfl rfl hc0
     have hml:=Qb6 w ws n
     rw[show Dd w ws=(Bj w ws n).1++[(Bj w ws n).2]by unfold Dd;rw[<-hn,if_neg hc0]]at hnx
     generalize (Bj w ws n).1=m at*
     generalize (Bj w ws n).2=c at*
     rw[<-Qug]at hcs
     have hl2:(m++[c]).length=n+1:=by simp;omega
     generalize m++[c]=m' at*
     refine .inl ⟨(t+1,p,true,m'),[0,1,3],[yes 24,yes 26,(29,.call ⟨.tup [],Ae .e 0 [.row 37 none (arF f),.row 112 none [.sl 3 0 (n+1) none],.dead,.row 104 (some 1) (wt m')],4,[2,1]⟩),nu 32 (p:Nat),nu 33 ((1*p:Nat):Int),nu 34 (t+1:Nat)],1000,⟨hlt,hnx.symm⟩,by dsimp only;omega,?_⟩
     clear hq hnx hok
     subst hn
     refine m_ (p:=let z0:=(p:Int);let z1:=(↑(t+1):Int);let z2:=(e:Int);Bn [decide ((t:Int)<z2)=true,decide ((w:Int)>144115188075855872)=true,Aa Pg g0 (V.fn 65 [V.ptr 1 0]) [u6 w] (Ae T.e 0 (aoL f true ws)) 3 (CR.mk (V.tup []) (Ae T.e 0 [O.row 37 none (arF f),O.row 112 none [V.sl 3 0 (ws.length+1) none],O.dead,O.row 104 (some 1) (wt m')]) 4 [2,1]),Tt,wr .u64 z0=z0,wr .u64 ((1:Int)*z0)=(↑(1*p):Int),wr .i64 ((t:Int)+1)=z1,Bn [s=s,Zz,Zz,Bn [Zz],z0=(↑(1*p):Int),Bn [Sm (2:Int),Sm (3:Int),Sm (5:Int),Sm (7:Int),Sm (11:Int),Sm (13:Int),Sm (17:Int),Sm (19:Int),Sm (23:Int),Sm (29:Int),Sm (31:Int),Sm (37:Int),Sm (41:Int),Sm (43:Int),Sm (47:Int),Sm (53:Int),Sm (59:Int),Sm (61:Int)],Sm (i:Int),z0=z0,z2=z2,z1=z1],An [Sm (arF f),TT 18],Bn [Bn [Zz,m'.length=ws.length+1]],An [Sm (wt m'),HfL (wt m')]]) ?_
     (repeat'(first|(with_reducible apply And.intro)|(refine fun(_:True)=>?_)))<;>first|exact aq|skip
     all_goals first|exact hcs|exact Qbo _|exact wru o_ |exact h1p|skip
  ·rw [if_neg hc] at hnx
   have hle:w*p<=144115188075855872*61:=Nat.mul_le_mul o_ hp.2
   have h1p:=wtw (x:=w) (p:=p) o_
   generalize w*p=wp at*
   cases md with
   |false=>
    obtain⟨x,rfl⟩: ∃x,ws=[x]:=List.length_eq_one_iff.1 (hone rfl)
    refine .inl ⟨(t+1,wp,false,[x]),[0,1,2],[yes 24,no 26,nu 32 (p:Nat),nu 33 (wp:Nat),nu 34 (t+1:Nat)],1000,⟨hlt,hnx.symm⟩,by dsimp only;omega,?_⟩
    clear hq hnx hok
    refine m_ (p:=let z0:=(p:Int);let z1:=(↑(t+1):Int);let z2:=(wp:Int);let z3:=(e:Int);Bn [decide ((t:Int)<z3)=true,decide ((w:Int)>144115188075855872)=false,wr .u64 z0=z0,wr .u64 ((w:Int)*z0)=z2,wr .i64 ((t:Int)+1)=z1,Bn [s=s,Zz,Zz,Bn [Zz],z2=z2,Bn [Sm (2:Int),Sm (3:Int),Sm (5:Int),Sm (7:Int),Sm (11:Int),Sm (13:Int),Sm (17:Int),Sm (19:Int),Sm (23:Int),Sm (29:Int),Sm (31:Int),Sm (37:Int),Sm (41:Int),Sm (43:Int),Sm (47:Int),Sm (53:Int),Sm (59:Int),Sm (61:Int)],Sm (i:Int),z0=z0,z3=z3,z1=z1],An [Sm (arF f),TT 18],Bn [An [Zz,1=1,Zz]],Bn [Sm (wt [x]),Tt]]) ?_
    (repeat'(first|(with_reducible apply And.intro)|(refine fun(_:True)=>?_)))<;>first|exact aq|skip
    all_goals first|exact rfl|exact wru o_ |skip
   |true=>
    refine .inl ⟨(t+1,wp,true,ws),[0,1,2],[yes 24,no 26,nu 32 (p:Nat),nu 33 (wp:Nat),nu 34 (t+1:Nat)],1000,⟨hlt,hnx.symm⟩,by dsimp only;omega,?_⟩
    clear hq hnx hok
    refine m_ (p:=let z0:=(p:Int);let z1:=(↑(t+1):Int);let z2:=(wp:Int);let z3:=(e:Int);Bn [decide ((t:Int)<z3)=true,decide ((w:Int)>144115188075855872)=false,wr .u64 z0=z0,wr .u64 ((w:Int)*z0)=z2,wr .i64 ((t:Int)+1)=z1,Bn [s=s,Zz,Zz,Bn [Zz],z2=z2,Bn [Sm (2:Int),Sm (3:Int),Sm (5:Int),Sm (7:Int),Sm (11:Int),Sm (13:Int),Sm (17:Int),Sm (19:Int),Sm (23:Int),Sm (29:Int),Sm (31:Int),Sm (37:Int),Sm (41:Int),Sm (43:Int),Sm (47:Int),Sm (53:Int),Sm (59:Int),Sm (61:Int)],Sm (i:Int),z0=z0,z3=z3,z1=z1],An [Sm (arF f),TT 18],Bn [Bn [Zz,Sm ws.length]],An [Sm (wt ws),HfL (wt ws)]]) ?_
    (repeat'(first|(with_reducible apply And.intro)|(refine fun(_:True)=>?_)))<;>first|exact aq|skip
    all_goals first|exact Qbo _|exact wru o_ |skip
 ·have : t = e := by omega
  subst this
  rw[hx]at hq
  obtain⟨x1,x2,x3⟩:w'=w/\md'=md/\ws'=ws:=by
   simp only[Prod.mk.injEq]at hq
   exact⟨hq.1.symm,hq.2.1.symm,hq.2.2.symm⟩
  rw[x1,x2,x3]
  clear hx hq
  cases md with
  |false=>
   refine .inr ⟨.exit 2,[0,1,2],aoS f s i w false ws,[no 24],1000,.inl ⟨trivial,rfl,rfl⟩,?_⟩
   refine m_ (p:=Bn [decide ((t:Int)<(t:Int))=false,Bn [s=s,Zz,Zz,Bn [Zz],Sm (w:Int),Bn [Sm (2:Int),Sm (3:Int),Sm (5:Int),Sm (7:Int),Sm (11:Int),Sm (13:Int),Sm (17:Int),Sm (19:Int),Sm (23:Int),Sm (29:Int),Sm (31:Int),Sm (37:Int),Sm (41:Int),Sm (43:Int),Sm (47:Int),Sm (53:Int),Sm (59:Int),Sm (61:Int)],Sm (i:Int)],An [Sm (arF f),TT 18],Bn [An [Zz,1=1,Zz]],An [Sm (wt ws),HfL (wt ws)]]) ?_
   (repeat'(first|(with_reducible apply And.intro)|(refine fun(_:True)=>?_)))<;>first|exact aq|skip
   all_goals first|exact Qbo _|skip
  |true=>
   refine .inr ⟨.exit 2,[0,1,2],aoS f s i w true ws,[no 24],1000,.inl ⟨trivial,rfl,rfl⟩,?_⟩
   refine m_ (p:=Bn [decide ((t:Int)<(t:Int))=false,Bn [s=s,Zz,Zz,Bn [Zz],Sm (w:Int),Bn [Sm (2:Int),Sm (3:Int),Sm (5:Int),Sm (7:Int),Sm (11:Int),Sm (13:Int),Sm (17:Int),Sm (19:Int),Sm (23:Int),Sm (29:Int),Sm (31:Int),Sm (37:Int),Sm (41:Int),Sm (43:Int),Sm (47:Int),Sm (53:Int),Sm (59:Int),Sm (61:Int)],Sm (i:Int)],An [Sm (arF f),TT 18],Bn [Bn [Zz,Sm ws.length]],An [Sm (wt ws),HfL (wt ws)]]) ?_
   (repeat'(first|(with_reducible apply And.intro)|(refine fun(_:True)=>?_)))<;>first|exact aq|skip
   all_goals first|exact Qbo _|skip
abbrev azX(f:Nat->Int)(w:Nat)(md:Bool)(ws:List Nat):SL:={sl:=[(5,.ptr 1 0),(6,.fn 65 [.ptr 1 0]),(7,u6 w)],os:=aoL f md ws,md:=[0,1,0]}
theorem av_out(f:Nat->Int)(s:Int)(hs:s=1\/s= -1)(hf: ∀i,i<18-> -4000<=f i/\f i<=4000)(w':Nat)(md':Bool)(ws':List Nat)(hx:Fh (B4 f s) 18=(w',md',ws')):
  Sat Pg none 0 (at' 55 [1,1,1,1,0,1,0]) (Ah g0 40 (aoS f s 0 1 false [1])) (Qaf g0 40 [(True,.exit 0,azX f w' md' ws')]):=by
 have he: ∀i,i<18->B4 f s i<=4000:=fun i hi=>by
  have:=hf i hi
  unfold B4
  rcases hs with rfl|rfl<;>omega
 refine Qax Qhj Af Qaa (b:=at' 55 [1,1,1,1,0,1,0,0]) k_ (fun q:Nat×Nat×Bool×List Nat=>q.1<=18/\q.2=Fh (B4 f s) q.1) (fun q=>aoS f s q.1 q.2.1 q.2.2.1 q.2.2.2) (fun q=>18-q.1) (fun q hq=>?_) (0,1,false,[1]) ⟨Nat.zero_le _,rfl⟩
 obtain⟨i,w,md,ws⟩:=q
 obtain⟨hi,hq⟩:=hq
 dsimp only at hi hq
 by_cases hlt:i<18
 ·have hok := Qmp he i hi
  obtain⟨w2,md2,ws2,h2⟩: ∃w2 md2 ws2,Fh (B4 f s) (i+1)=(w2,md2,ws2):=⟨_,_,_,rfl⟩
  have h2':=h2
  rw[Fh,<-hq]at h2'
  rw[<-hq]at hok
  have hin:=av_in f s (B4 f s) i (B4 f s i) hlt rfl (he i hlt) (w,md,ws) hok w2 md2 ws2 h2' w md ws rfl
  have hpr:=idx40 hlt
  have hpl:=@Qbs 0 i hlt
  have hhd:=@Qbq f i hlt
  have hfi:=hf i hlt
  have jp:((B4 f s i:Nat):Int)=if(0:Int)<s*f i then s*f i else 0:=by
   unfold B4
   rcases hs with rfl|rfl<;>(split<;>omega)
  have hmul: -4000<=s*f i/\s*f i<=4000:=by rcases hs with rfl|rfl<;>omega
  generalize Al i=p at*
  generalize B4 f s i=e at*
  generalize hxe:s*f i=x at*
  cases md with
  | false =>
   cases md2 with
   |false=>
    refine .inl ⟨(i+1,w2,false,ws2),[0,1,2],[yes 14,va 16 (i6 p),va 19 (.ptr 0 i),ld 20 (i6 (f i)),nu 21 x,nu 22 (e:Nat),(0,.loop [0,1,2] (aiS f s i e p (0,w,false,ws)) [(True,.exit 2,aoS f s i w2 false ws2)]),nu 35 (i+1:Nat)],1000,⟨hlt,h2.symm⟩,by dsimp only;omega,?_⟩
    clear hq hok h2 h2' hf he
    refine m_ (p:=let z0:=Bn [Sm (2:Int),Sm (3:Int),Sm (5:Int),Sm (7:Int),Sm (11:Int),Sm (13:Int),Sm (17:Int),Sm (19:Int),Sm (23:Int),Sm (29:Int),Sm (31:Int),Sm (37:Int),Sm (41:Int),Sm (43:Int),Sm (47:Int),Sm (53:Int),Sm (59:Int),Sm (61:Int)];let z1:=(i:Int);let z2:=An [Sm (arF f),TT 18];Bn [decide (z1<18)=true,C3 (Qac Pg) 36 prV z1=some (i6 p),Az (Qac Pg) 37 (V.ptr 0 0) z1=some (V.ptr 0 i),Ad (Aj i (arF f))=some (i6 (f i)),wr .i64 (s*f i)=x,(if x>0then x else(0:Int))=(e:Int),Bn [Bn [s=s,Zz,Zz,Bn [Zz],Sm (w:Int),z0,Sm z1,Sm (p:Int),Sm (e:Int),((0:Nat):Int)=(0:Int)],z2,Bn [An [Zz,1=1,Zz]],An [Sm (wt ws),HfL (wt ws)]],Sat Pg none 0 (at' 55 [1,1,1,1,0,1,0,0,1,1,0,0,1,1,0]) (Ah g0 40 (aiS f s i e p (0,w,false,ws))) (Qaf g0 40 [(True,Ex.exit 2,aoS f s i w2 false ws2)]),(True->Bn [wr .i64 (z1+1)=(↑(i+1):Int),Bn [s=s,Zz,Zz,Bn [Zz],Sm (w2:Int),z0,Sm (↑(i+1):Int)],z2,Bn [An [Zz,1=1,Zz]],An [Sm (wt ws2),HfL (wt ws2)]])]) ?_
    (repeat'(first|(with_reducible apply And.intro)|(refine fun(_:True)=>?_)))<;>first|exact aq|skip
    all_goals first|exact Qbo _|(rw[hxe];exact wr6 o_ o_)|exact jp.symm|skip
   |true=>
    refine .inl ⟨(i+1,w2,true,ws2),[0,1,2],[yes 14,va 16 (i6 p),va 19 (.ptr 0 i),ld 20 (i6 (f i)),nu 21 x,nu 22 (e:Nat),(0,.loop [0,1,2] (aiS f s i e p (0,w,false,ws)) [(True,.exit 2,aoS f s i w2 true ws2)]),nu 35 (i+1:Nat)],1000,⟨hlt,h2.symm⟩,by dsimp only;omega,?_⟩
    clear hq hok h2 h2' hf he
    refine m_ (p:=let z0:=Bn [Sm (2:Int),Sm (3:Int),Sm (5:Int),Sm (7:Int),Sm (11:Int),Sm (13:Int),Sm (17:Int),Sm (19:Int),Sm (23:Int),Sm (29:Int),Sm (31:Int),Sm (37:Int),Sm (41:Int),Sm (43:Int),Sm (47:Int),Sm (53:Int),Sm (59:Int),Sm (61:Int)];let z1:=(i:Int);let z2:=An [Sm (arF f),TT 18];Bn [decide (z1<18)=true,C3 (Qac Pg) 36 prV z1=some (i6 p),Az (Qac Pg) 37 (V.ptr 0 0) z1=some (V.ptr 0 i),Ad (Aj i (arF f))=some (i6 (f i)),wr .i64 (s*f i)=x,(if x>0then x else(0:Int))=(e:Int),Bn [Bn [s=s,Zz,Zz,Bn [Zz],Sm (w:Int),z0,Sm z1,Sm (p:Int),Sm (e:Int),((0:Nat):Int)=(0:Int)],z2,Bn [An [Zz,1=1,Zz]],An [Sm (wt ws),HfL (wt ws)]],Sat Pg none 0 (at' 55 [1,1,1,1,0,1,0,0,1,1,0,0,1,1,0]) (Ah g0 40 (aiS f s i e p (0,w,false,ws))) (Qaf g0 40 [(True,Ex.exit 2,aoS f s i w2 true ws2)]),(True->Bn [wr .i64 (z1+1)=(↑(i+1):Int),Bn [s=s,Zz,Zz,Bn [Zz],Sm (w2:Int),z0,Sm (↑(i+1):Int)],z2,Bn [Bn [Zz,Sm ws2.length]],An [Sm (wt ws2),HfL (wt ws2)]])]) ?_
    (repeat'(first|(with_reducible apply And.intro)|(refine fun(_:True)=>?_)))<;>first|exact aq|skip
    all_goals first|exact Qbo _|(rw[hxe];exact wr6 o_ o_)|exact jp.symm|skip
  | true =>
   cases md2 with
   |false=>
    refine .inl ⟨(i+1,w2,false,ws2),[0,1,2],[yes 14,va 16 (i6 p),va 19 (.ptr 0 i),ld 20 (i6 (f i)),nu 21 x,nu 22 (e:Nat),(0,.loop [0,1,2] (aiS f s i e p (0,w,true,ws)) [(True,.exit 2,aoS f s i w2 false ws2)]),nu 35 (i+1:Nat)],1000,⟨hlt,h2.symm⟩,by dsimp only;omega,?_⟩
    clear hq hok h2 h2' hf he
    refine m_ (p:=let z0:=Bn [Sm (2:Int),Sm (3:Int),Sm (5:Int),Sm (7:Int),Sm (11:Int),Sm (13:Int),Sm (17:Int),Sm (19:Int),Sm (23:Int),Sm (29:Int),Sm (31:Int),Sm (37:Int),Sm (41:Int),Sm (43:Int),Sm (47:Int),Sm (53:Int),Sm (59:Int),Sm (61:Int)];let z1:=(i:Int);let z2:=An [Sm (arF f),TT 18];Bn [decide (z1<18)=true,C3 (Qac Pg) 36 prV z1=some (i6 p),Az (Qac Pg) 37 (V.ptr 0 0) z1=some (V.ptr 0 i),Ad (Aj i (arF f))=some (i6 (f i)),wr .i64 (s*f i)=x,(if x>0then x else(0:Int))=(e:Int),Bn [Bn [s=s,Zz,Zz,Bn [Zz],Sm (w:Int),z0,Sm z1,Sm (p:Int),Sm (e:Int),((0:Nat):Int)=(0:Int)],z2,Bn [Bn [Zz,Sm ws.length]],An [Sm (wt ws),HfL (wt ws)]],Sat Pg none 0 (at' 55 [1,1,1,1,0,1,0,0,1,1,0,0,1,1,0]) (Ah g0 40 (aiS f s i e p (0,w,true,ws))) (Qaf g0 40 [(True,Ex.exit 2,aoS f s i w2 false ws2)]),(True->Bn [wr .i64 (z1+1)=(↑(i+1):Int),Bn [s=s,Zz,Zz,Bn [Zz],Sm (w2:Int),z0,Sm (↑(i+1):Int)],z2,Bn [An [Zz,1=1,Zz]],An [Sm (wt ws2),HfL (wt ws2)]])]) ?_
    (repeat'(first|(with_reducible apply And.intro)|(refine fun(_:True)=>?_)))<;>first|exact aq|skip
    all_goals first|exact Qbo _|(rw[hxe];exact wr6 o_ o_)|exact jp.symm|skip
   |true=>
    refine .inl ⟨(i+1,w2,true,ws2),[0,1,2],[yes 14,va 16 (i6 p),va 19 (.ptr 0 i),ld 20 (i6 (f i)),nu 21 x,nu 22 (e:Nat),(0,.loop [0,1,2] (aiS f s i e p (0,w,true,ws)) [(True,.exit 2,aoS f s i w2 true ws2)]),nu 35 (i+1:Nat)],1000,⟨hlt,h2.symm⟩,by dsimp only;omega,?_⟩
    clear hq hok h2 h2' hf he
    refine m_ (p:=let z0:=Bn [Sm (2:Int),Sm (3:Int),Sm (5:Int),Sm (7:Int),Sm (11:Int),Sm (13:Int),Sm (17:Int),Sm (19:Int),Sm (23:Int),Sm (29:Int),Sm (31:Int),Sm (37:Int),Sm (41:Int),Sm (43:Int),Sm (47:Int),Sm (53:Int),Sm (59:Int),Sm (61:Int)];let z1:=(i:Int);let z2:=An [Sm (arF f),TT 18];Bn [decide (z1<18)=true,C3 (Qac Pg) 36 prV z1=some (i6 p),Az (Qac Pg) 37 (V.ptr 0 0) z1=some (V.ptr 0 i),Ad (Aj i (arF f))=some (i6 (f i)),wr .i64 (s*f i)=x,(if x>0then x else(0:Int))=(e:Int),Bn [Bn [s=s,Zz,Zz,Bn [Zz],Sm (w:Int),z0,Sm z1,Sm (p:Int),Sm (e:Int),((0:Nat):Int)=(0:Int)],z2,Bn [Bn [Zz,Sm ws.length]],An [Sm (wt ws),HfL (wt ws)]],Sat Pg none 0 (at' 55 [1,1,1,1,0,1,0,0,1,1,0,0,1,1,0]) (Ah g0 40 (aiS f s i e p (0,w,true,ws))) (Qaf g0 40 [(True,Ex.exit 2,aoS f s i w2 true ws2)]),(True->Bn [wr .i64 (z1+1)=(↑(i+1):Int),Bn [s=s,Zz,Zz,Bn [Zz],Sm (w2:Int),z0,Sm (↑(i+1):Int)],z2,Bn [Bn [Zz,Sm ws2.length]],An [Sm (wt ws2),HfL (wt ws2)]])]) ?_
    (repeat'(first|(with_reducible apply And.intro)|(refine fun(_:True)=>?_)))<;>first|exact aq|skip
    all_goals first|exact Qbo _|(rw[hxe];exact wr6 o_ o_)|exact jp.symm|skip
 ·have : i = 18 := by omega
  subst this
  rw[hx]at hq
  obtain⟨x1,x2,x3⟩:w'=w/\md'=md/\ws'=ws:=by
   simp only[Prod.mk.injEq]at hq
   exact⟨hq.1.symm,hq.2.1.symm,hq.2.2.symm⟩
  rw[x1,x2,x3]
  clear hx hq
  cases md with
  |false=>
   refine .inr ⟨.exit 0,[0,1,2],azX f w false ws,[],1000,.inl ⟨trivial,rfl,rfl⟩,?_⟩
   refine m_ (p:=Bn [Bn [Zz,Bn [Zz],Sm (w:Int)],An [Sm (arF f),TT 18],Bn [An [Zz,1=1,Zz]],An [Sm (wt ws),HfL (wt ws)]]) ?_
   (repeat'(first|(with_reducible apply And.intro)|(refine fun(_:True)=>?_)))<;>first|exact aq|skip
   all_goals first|exact Qbo _|skip
  |true=>
   refine .inr ⟨.exit 0,[0,1,2],azX f w true ws,[],1000,.inl ⟨trivial,rfl,rfl⟩,?_⟩
   refine m_ (p:=Bn [Bn [Zz,Bn [Zz],Sm (w:Int)],An [Sm (arF f),TT 18],Bn [Bn [Zz,Sm ws.length]],An [Sm (wt ws),HfL (wt ws)]]) ?_
   (repeat'(first|(with_reducible apply And.intro)|(refine fun(_:True)=>?_)))<;>first|exact aq|skip
   all_goals first|exact Qbo _|skip
abbrev lnV(l:List Nat):V:=.im l.length (wt l)
theorem Qnf(f:Nat->Int)(s:Int)(hs:s=1\/s= -1)(hf: ∀i,i<18-> -4000<=f i/\f i<=4000): ∃ws,Norm ws/\Bm ws=Qa7 (B4 f s) 18/\ws.length<=100000/\Ac Pg g0 55 [ar f,i6 s] (lnV ws):=by
 have he: ∀i,i<18->B4 f s i<=4000:=fun i hi=>by
  have:=hf i hi
  unfold B4
  rcases hs with rfl|rfl<;>omega
 have hok:=Qmp he 18 (Nat.le_refl _)
 obtain⟨w,md,ws,hx⟩: ∃w md ws,Fh (B4 f s) 18=(w,md,ws):=⟨_,_,_,rfl⟩
 have l:=av_out f s hs hf w md ws hx
 rw[hx]at hok
 have hw1:=hok.w1
 have hwb:=hok.wb
 have jy:=hok.len
 have hone:=hok.one
 have xq:=hok.norm
 have xy:=hok.val
 dsimp only at hw1 hwb jy hone xq xy
 rw[Nat.pow_zero,Nat.mul_one]at xy
 obtain⟨m1,m2,m3⟩:=Qsm xq (w:=w) o_ hw1
 refine⟨Dd w ws,m1,by rw[m2,Nat.mul_comm,xy],by omega,?_⟩
 clear hok hx xy m1 m2 m3 he hf
 cases md with
 | false =>
  obtain⟨x,rfl⟩: ∃x,ws=[x]:=List.length_eq_one_iff.1 (hone rfl)
  have hxb:x<18446744073709551616:=by simpa using xq.ok 0
  by_cases hc0:x*w/18446744073709551616=0
  ·have hcs := Qod f x w hxb o_ _ rfl hc0
   rw[Qlb hc0]
   generalize x*w%18446744073709551616=y at*
   refine Ac.of_vc Qhj Af Qaa (n:=1000) (r:=[]) (S:={sl:=[(4,.im 1 [u6 (y:Int)])]}) (hs:=[(0,.loop [0,2,1] (aoS f s 0 1 false [1]) [(True,.exit 0,azX f w false [x])]),(38,.call ⟨.tup [],Ae .e 0 (n1 f y),3,[2]⟩)]) ?_
   refine m_ (p:=Bn [V.im 1 [u6 y]=lnV [y],Bn [Bn [s=s,Zz,Zz,Bn [Zz],((1:Nat):Int)=(1:Int),Bn [Sm (2:Int),Sm (3:Int),Sm (5:Int),Sm (7:Int),Sm (11:Int),Sm (13:Int),Sm (17:Int),Sm (19:Int),Sm (23:Int),Sm (29:Int),Sm (31:Int),Sm (37:Int),Sm (41:Int),Sm (43:Int),Sm (47:Int),Sm (53:Int),Sm (59:Int),Sm (61:Int)],((0:Nat):Int)=(0:Int)],An [Sm (arF f),TT 18],Bn [An [Zz,1=1,Zz]],Bn [wt [1]=[u6 1],Tt]],Sat Pg none 0 (at' 55 [1,1,1,1,0,1,0]) (Ah g0 40 (aoS f s 0 1 false [1])) (Qaf g0 40 [(True,Ex.exit 0,azX f w false [x])]),(True->Bn [Aa Pg g0 (V.fn 65 [V.ptr 1 0]) [u6 w] (Ae T.e 0 (aoL f false [x])) 3 (CR.mk (V.tup []) (Ae T.e 0 (n1 f y)) 3 [2]),Tt,Bn [Bn [1=1,Sm [u6 y],Tt]]])]) ?_
   (repeat'(first|(with_reducible apply And.intro)|(refine fun(_:True)=>?_)))<;>first|exact aq|skip
   all_goals first|exact hcs|exact rfl|skip
  ·have hcs := Qoe f x w hxb o_ _ _ rfl rfl hc0
   rw[Qlc hc0]
   generalize x*w%18446744073709551616=y at*
   generalize x*w/18446744073709551616=c at*
   refine Ac.of_vc Qhj Af Qaa (n:=1000) (r:=[]) (S:={sl:=[(4,.im 2 [u6 (y:Int),u6 (c:Int)])]}) (hs:=[(0,.loop [0,2,1] (aoS f s 0 1 false [1]) [(True,.exit 0,azX f w false [x])]),(38,.call ⟨.tup [],Ae .e 0 [.row 37 none (arF f),.row 112 none [.sl 3 0 2 none],.dead,.row 104 (some 1) [u6 (y:Int),u6 (c:Int)]],4,[2,1]⟩)]) ?_
   refine m_ (p:=let z0:=[u6 y,u6 c];Bn [V.im 2 z0=lnV [y,c],Bn [Bn [s=s,Zz,Zz,Bn [Zz],((1:Nat):Int)=(1:Int),Bn [Sm (2:Int),Sm (3:Int),Sm (5:Int),Sm (7:Int),Sm (11:Int),Sm (13:Int),Sm (17:Int),Sm (19:Int),Sm (23:Int),Sm (29:Int),Sm (31:Int),Sm (37:Int),Sm (41:Int),Sm (43:Int),Sm (47:Int),Sm (53:Int),Sm (59:Int),Sm (61:Int)],((0:Nat):Int)=(0:Int)],An [Sm (arF f),TT 18],Bn [An [Zz,1=1,Zz]],Bn [wt [1]=[u6 1],Tt]],Sat Pg none 0 (at' 55 [1,1,1,1,0,1,0]) (Ah g0 40 (aoS f s 0 1 false [1])) (Qaf g0 40 [(True,Ex.exit 0,azX f w false [x])]),(True->Bn [Aa Pg g0 (V.fn 65 [V.ptr 1 0]) [u6 w] (Ae T.e 0 (aoL f false [x])) 3 (CR.mk (V.tup []) (Ae T.e 0 [O.row 37 none (arF f),O.row 112 none [V.sl 3 0 2 none],O.dead,O.row 104 (some 1) z0]) 4 [2,1]),Tt,Bn [An [2=2,z0=z0,TT 2]]])]) ?_
   (repeat'(first|(with_reducible apply And.intro)|(refine fun(_:True)=>?_)))<;>first|exact aq|skip
   all_goals first|exact hcs|exact rfl|skip
 | true =>
  obtain⟨n,hn⟩: ∃n,n=ws.length:=⟨_,rfl⟩
  by_cases hc0:(Bj w ws n).2=0
  ·have hcs := mul_M0 f ws w n hn o_ xq.ok o_ _ rfl hc0
   have hml:=Qb6 w ws n
   rw[show Dd w ws=(Bj w ws n).1 by unfold Dd;rw[<-hn,if_pos hc0]]
   generalize (Bj w ws n).1=m at*
   clear hc0
   subst hn
   refine Ac.of_vc Qhj Af Qaa (n:=1000) (r:=[]) (S:={sl:=[(4,lnV m)]}) (hs:=[(0,.loop [0,2,1] (aoS f s 0 1 false [1]) [(True,.exit 0,azX f w true ws)]),(38,.call ⟨.tup [],Ae .e 0 [.row 37 none (arF f),.row 112 none [.sl 2 0 ws.length none],.row 104 (some 1) (wt m)],3,[2]⟩)]) ?_
   refine m_ (p:=Bn [Sm (lnV m),Bn [Bn [s=s,Zz,Zz,Bn [Zz],((1:Nat):Int)=(1:Int),Bn [Sm (2:Int),Sm (3:Int),Sm (5:Int),Sm (7:Int),Sm (11:Int),Sm (13:Int),Sm (17:Int),Sm (19:Int),Sm (23:Int),Sm (29:Int),Sm (31:Int),Sm (37:Int),Sm (41:Int),Sm (43:Int),Sm (47:Int),Sm (53:Int),Sm (59:Int),Sm (61:Int)],((0:Nat):Int)=(0:Int)],An [Sm (arF f),TT 18],Bn [An [Zz,1=1,Zz]],Bn [wt [1]=[u6 1],Tt]],Sat Pg none 0 (at' 55 [1,1,1,1,0,1,0]) (Ah g0 40 (aoS f s 0 1 false [1])) (Qaf g0 40 [(True,Ex.exit 0,azX f w true ws)]),(True->Bn [Aa Pg g0 (V.fn 65 [V.ptr 1 0]) [u6 w] (Ae T.e 0 (aoL f true ws)) 3 (CR.mk (V.tup []) (Ae T.e 0 [O.row 37 none (arF f),O.row 112 none [V.sl 2 0 ws.length none],O.row 104 (some 1) (wt m)]) 3 [2]),Tt,Bn [An [m.length=ws.length,Sm (wt m),HfL (wt m)]]])]) ?_
   (repeat'(first|(with_reducible apply And.intro)|(refine fun(_:True)=>?_)))<;>first|exact aq|skip
   all_goals first|exact hcs|exact Qbo _|exact rfl|skip
  ·have hcs := mul_M1 f ws w n hn o_ xq.ok o_ _ _ rfl rfl hc0
   have hml:=Qb6 w ws n
   rw[show Dd w ws=(Bj w ws n).1++[(Bj w ws n).2]by unfold Dd;rw[<-hn,if_neg hc0]]
   generalize (Bj w ws n).1=m at*
   generalize (Bj w ws n).2=c at*
   rw[<-Qug]at hcs
   have hl2:(m++[c]).length=n+1:=by simp;omega
   generalize m++[c]=m' at*
   clear hc0
   subst hn
   refine Ac.of_vc Qhj Af Qaa (n:=1000) (r:=[]) (S:={sl:=[(4,lnV m')]}) (hs:=[(0,.loop [0,2,1] (aoS f s 0 1 false [1]) [(True,.exit 0,azX f w true ws)]),(38,.call ⟨.tup [],Ae .e 0 [.row 37 none (arF f),.row 112 none [.sl 3 0 (ws.length+1) none],.dead,.row 104 (some 1) (wt m')],4,[2,1]⟩)]) ?_
   refine m_ (p:=Bn [Sm (lnV m'),Bn [Bn [s=s,Zz,Zz,Bn [Zz],((1:Nat):Int)=(1:Int),Bn [Sm (2:Int),Sm (3:Int),Sm (5:Int),Sm (7:Int),Sm (11:Int),Sm (13:Int),Sm (17:Int),Sm (19:Int),Sm (23:Int),Sm (29:Int),Sm (31:Int),Sm (37:Int),Sm (41:Int),Sm (43:Int),Sm (47:Int),Sm (53:Int),Sm (59:Int),Sm (61:Int)],((0:Nat):Int)=(0:Int)],An [Sm (arF f),TT 18],Bn [An [Zz,1=1,Zz]],Bn [wt [1]=[u6 1],Tt]],Sat Pg none 0 (at' 55 [1,1,1,1,0,1,0]) (Ah g0 40 (aoS f s 0 1 false [1])) (Qaf g0 40 [(True,Ex.exit 0,azX f w true ws)]),(True->Bn [Aa Pg g0 (V.fn 65 [V.ptr 1 0]) [u6 w] (Ae T.e 0 (aoL f true ws)) 3 (CR.mk (V.tup []) (Ae T.e 0 [O.row 37 none (arF f),O.row 112 none [V.sl 3 0 (ws.length+1) none],O.dead,O.row 104 (some 1) (wt m')]) 4 [2,1]),Tt,Bn [An [m'.length=ws.length+1,Sm (wt m'),HfL (wt m')]]])]) ?_
   (repeat'(first|(with_reducible apply And.intro)|(refine fun(_:True)=>?_)))<;>first|exact aq|skip
   all_goals first|exact hcs|exact Qbo _|exact rfl|skip
def Cu:Nat->Int
 |0=> -1
 |k+1=>k
theorem Qn4{l:List Nat}{k:Nat}(h:k<l.length):Ad ((wt l).drop (k*1))=some (u6 ((l.getD k 0:Nat):Int)):=by
 have:=Qr3 h
 rwa [Qau,Nat.zero_add]at this
abbrev c5(n:Int):SL:={sl:=[(5,i6 n)]}
abbrev c4(n:Int):SL:={sl:=[(4,i6 n)]}
abbrev cmS(a b:List Nat)(k:Nat):SL:={sl:=[(0,lnV a),(1,lnV b),(5,i6 0),(6,i6 (Cu k))]}
theorem cmp_loop(a b:List Nat)(ha:WOk a)(hb:WOk b)(hl:a.length=b.length)(h6:a.length<=100000)(r:Int)(hr:r=sgn (Bm a) (Bm b)):
  Sat Pg none 0 (at' 54 [1,0,1,1,1,0,1,0]) (Ah g0 45 (cmS a b a.length)) (Qaf g0 45 [(True,.exit 0,c5 r)]):=by
 refine Qax vE_ok Af Qaa (b:=at' 54 [1,0,1,1,1,0,1,0,0]) k_ (fun k=>k<=a.length/\a.drop k=b.drop k) (cmS a b) (fun k=>k) (fun k hk=>?_) a.length ⟨Nat.le_refl _,by rw[List.drop_length,hl,List.drop_length]⟩
 obtain⟨hk,hd⟩:=hk
 cases k with
 |zero=>
  have hab:a=b:=by simpa using hd
  have hr0:r=0:=by rw[hr,hab];simp[sgn]
  subst hr0
  refine .inr ⟨.exit 0,[],c5 0,[],1000,.inl ⟨trivial,rfl,rfl⟩,?_⟩
  exact u_ (p:=Bn [Bn [Sm (0:Int)]])
 | succ j =>
  have p1:=Qn4 (l:=a) (k:=j) o_
  have p2:=Qn4 (l:=b) (k:=j) o_
  have lt1:=Qo4 ha hl (i:=j) o_ hd
  have lt2:=Qo4 hb hl.symm (i:=j) o_ hd.symm
  have st:=Qff hl (i:=j) o_ hd
  generalize a.getD j 0=x at*
  generalize b.getD j 0=y at*
  by_cases h1:x<y
  ·have := lt1 h1
   have hr0:r= -1:=by rw[hr];unfold sgn;rw[if_pos this]
   subst hr0
   refine .inr ⟨.exit 0,[],c5 (-1),[yes 21,pl 27,ld 28 (u6 x),pl 31,ld 32 (u6 y),yes 33],1000,.inl ⟨trivial,rfl,rfl⟩,?_⟩
   clear hr hd lt1 lt2 st
   refine m_ (p:=let z0:=(j:Int);Bn [decide (z0>=0)=true,An [(0:Int)<=z0,z0<(a.length:Int)],Ad (List.drop (j*1) (wt a))=some (u6 x),An [(0:Int)<=z0,z0<(b.length:Int)],Ad (List.drop (j*1) (wt b))=some (u6 y),decide ((x:Int)<(y:Int))=true,Bn [Sm (-1:Int)]]) ?_
   (repeat'(first|(with_reducible apply And.intro)|(refine fun(_:True)=>?_)))<;>first|exact aq|skip
  ·by_cases h2 : y < x
   ·have := lt2 h2
    have hr0:r=1:=by rw[hr];unfold sgn;rw[if_neg o_,if_pos this]
    subst hr0
    refine .inr ⟨.exit 0,[],c5 1,[yes 21,pl 27,ld 28 (u6 x),pl 31,ld 32 (u6 y),no 33,pl 37,ld 38 (u6 x),pl 41,ld 42 (u6 y),yes 43],1000,.inl ⟨trivial,rfl,rfl⟩,?_⟩
    clear hr hd lt1 lt2 st
    refine m_ (p:=let z0:=(j:Int);let z1:=Ad (List.drop (j*1) (wt a));let z2:=Ad (List.drop (j*1) (wt b));let z3:=(0:Int);Bn [decide (z0>=z3)=true,An [z3<=z0,z0<(a.length:Int)],z1=some (u6 x),An [z3<=z0,z0<(b.length:Int)],z2=some (u6 y),decide ((x:Int)<(y:Int))=false,An [z3<=z0,z0<(a.length:Int)],z1=some (u6 x),An [z3<=z0,z0<(b.length:Int)],z2=some (u6 y),decide ((x:Int)>(y:Int))=true,Bn [Sm (1:Int)]]) ?_
    (repeat'(first|(with_reducible apply And.intro)|(refine fun(_:True)=>?_)))<;>first|exact aq|skip
   ·refine .inl ⟨j, [], [yes 21, pl 27, ld 28 (u6 x), pl 31, ld 32 (u6 y), no 33, pl 37, ld 38 (u6 x), pl 41, ld 42 (u6 y), no 43, nu 23 (Cu j)], 1000, ⟨by omega, st o_⟩, by omega, ?_⟩
    have hdn:wr .i64 ((j:Int)-1)=Cu j:=by
     rw[wr6 o_ o_]
     cases j with
     |zero=>rfl
     |succ j=>simp only[Cu];omega
    clear hr hd lt1 lt2 st
    refine m_ (p:=let z0:=(j:Int);let z1:=(0:Int);let z2:=Ad (List.drop (j*1) (wt a));let z3:=Ad (List.drop (j*1) (wt b));Bn [decide (z0>=z1)=true,An [z1<=z0,z0<(a.length:Int)],z2=some (u6 x),An [z1<=z0,z0<(b.length:Int)],z3=some (u6 y),decide ((x:Int)<(y:Int))=false,An [z1<=z0,z0<(a.length:Int)],z2=some (u6 x),An [z1<=z0,z0<(b.length:Int)],z3=some (u6 y),decide ((x:Int)>(y:Int))=false,wr .i64 (z0-1)=Cu j,Bn [An [Sm a.length,Sm (wt a)],An [Sm b.length,Sm (wt b)],z1=z1,Sm (Cu j)]]) ?_
    (repeat'(first|(with_reducible apply And.intro)|(refine fun(_:True)=>?_)))<;>first|exact aq|skip
theorem Qpe(a b:List Nat)(ha:Norm a)(hb:Norm b)(h6:a.length<=100000)(h7:b.length<=100000):Ac Pg g0 54 [lnV a,lnV b] (i6 (sgn (Bm a) (Bm b))):=by
 by_cases hl:a.length=b.length
 ·have l := cmp_loop a b ha.ok hb.ok hl h6 _ rfl
  have jp:=ha.pos
  have hdn:wr .i64 ((a.length:Int)-1)=Cu a.length:=by
   rw[wr6 o_ o_]
   cases a with
   |nil=>simp at jp
   |cons x l=>simp only[Cu,List.length_cons];omega
  generalize sgn (Bm a) (Bm b)=r at*
  generalize hn:a.length=n at*
  refine Ac.of_vc vE_ok Af Qaa (n:=1000) (r:=[]) (S:=c4 r) (hs:=[no 11,nu 19 (Cu n),(0,.loop [] (cmS a b n) [(True,.exit 0,c5 r)])]) ?_
  refine m_ (p:=Bn [Sm (i6 r),((a.length:Int) != (b.length:Int))=false,wr .i64 ((a.length:Int)-1)=Cu n,Bn [Bn [An [Sm a.length,Sm (wt a)],An [Sm b.length,Sm (wt b)],Sm (0:Int),Sm (Cu n)]],Sat Pg none 0 (at' 54 [1,0,1,1,1,0,1,0]) (Ah g0 45 (cmS a b n)) (Qaf g0 45 [(True,Ex.exit 0,c5 r)]),(True->Bn [Bn [r=r]])]) ?_
  (repeat'(first|(with_reducible apply And.intro)|(refine fun(_:True)=>?_)))<;>first|exact aq|skip
 ·by_cases h1 : a.length < b.length
  ·have : sgn (Bm a) (Bm b) = -1 := by unfold sgn; rw [if_pos (Qoh ha hb h1)]
   rw[this]
   refine Ac.of_vc vE_ok Af Qaa (n:=1000) (r:=[]) (S:=c4 (-1)) (hs:=[yes 11,yes 16]) ?_
   refine m_ (p:=Bn [Sm (i6 (-1)),((a.length:Int) != (b.length:Int))=true,decide ((a.length:Int)<(b.length:Int))=true,Bn [Sm (-1:Int)]]) ?_
   (repeat'(first|(with_reducible apply And.intro)|(refine fun(_:True)=>?_)))<;>first|exact aq|skip
  ·have hlt := Qoh hb ha o_
   have:sgn (Bm a) (Bm b)=1:=by unfold sgn;rw[if_neg o_,if_pos hlt]
   rw[this]
   refine Ac.of_vc vE_ok Af Qaa (n:=1000) (r:=[]) (S:=c4 1) (hs:=[yes 11,no 16]) ?_
   refine m_ (p:=Bn [Sm (i6 1),((a.length:Int) != (b.length:Int))=true,decide ((a.length:Int)<(b.length:Int))=false,Bn [Sm (1:Int)]]) ?_
   (repeat'(first|(with_reducible apply And.intro)|(refine fun(_:True)=>?_)))<;>first|exact aq|skip
def Di(a b:Nat->Int):Int:=sgn (Qa7 (B4 (Bc a b (-1) 18) 1) 18) (Qa7 (B4 (Bc a b (-1) 18) (-1)) 18)
abbrev cpS2(n e:Int):SL:={sl:=[(4,i6 n),(5,i6 e)]}
theorem cmp_ok(a b:Nat->Int)(ha:inA a=true)(hb:inA b=true):Ac Pg g0 36 [ar a,ar b] (.tup [i6 (Di a b),i6 0]):=by
 have h:=Qcu a
 have h2:=Qcu b
 rw[ha]at h
 rw[hb]at h2
 by_cases he: ∀i,i<18->a i=b i
 ·have hba : ar b = ar a := congrArg V.agg (Qbf fun k hk => (he k hk).symm)
  have hz:Di a b=0:=by
   unfold Di
   have e1: ∀s,Qa7 (B4 (Bc a b (-1) 18) s) 18=Qa7 (fun _=>0) 18:=fun s=>Qbd 18 fun j hj=>by
    unfold B4
    rw[Qbi,if_pos hj,he j hj]
    have:b j+ -1*b j=0:=by omega
    rw[this,Int.mul_zero];rfl
   rw[e1,e1];simp[sgn]
  rw[hba,hz]
  refine Ac.of_vc vE_ok Af Qaa (n:=1000) (r:=[]) (S:=cpS2 0 0) (hs:=[fn 8 (.bool true),fn 12 (.bool true),yes 17]) ?_
  refine m_ (p:=let z1:=[V.agg (arF a)];let z2:=V.bool true;let z3:=O.row 37 none (arF a);let z4:=(0:Int);let z0:=pt (pt T.e 0 z3) 1 z3;Bn [Sm (V.tup [i6 0,i6 0]),Bn [TT 18],Ac Pg g0 52 z1 z2,Tt,Bn [TT 18],Ac Pg g0 52 z1 z2,Bn [(V.fn 52 []=V.fn 52 []->z1=z1->z0=z0->0+1+1=2->Sm (CR.mk z2 z0 2 []))],(a 0==a 0&&(a 1==a 1&&(a 2==a 2&&(a 3==a 3&&(a 4==a 4&&(a 5==a 5&&(a 6==a 6&&(a 7==a 7&&(a 8==a 8&&(a 9==a 9&&(a 10==a 10&&(a 11==a 11&&(a 12==a 12&&(a 13==a 13&&(a 14==a 14&&(a 15==a 15&&(a 16==a 16&&(a 17==a 17&&true))))))))))))))))))=true,Bn [z4=z4,z4=z4]]) ?_
  (repeat'(first|(with_reducible apply And.intro)|(refine fun(_:True)=>?_)))<;>first|exact aq|skip
  all_goals exact Qi6.2 (fun _ _=>rfl)
 ·have hc := Qe2 a b (-1) (fun k hk => by have := Qh9 ha hk; omega) (fun k hk => by have := Qh9 hb hk; omega)
  have hbd: ∀i,i<18-> -4000<=Bc a b (-1) 18 i/\Bc a b (-1) 18 i<=4000:=fun i hi=>by
   rw[Qbi,if_pos hi]
   have:=Qh9 ha hi
   have:=Qh9 hb hi
   omega
  unfold Di
  generalize Bc a b (-1) 18=d at*
  obtain⟨u,u1,u2,u3,u4⟩:=Qnf d 1 (.inl rfl) hbd
  obtain⟨v,v1,v2,v3,v4⟩:=Qnf d (-1) (.inr rfl) hbd
  have l:=Qpe u v u1 v1 u3 v3
  rw[u2,v2]at l
  generalize sgn (Qa7 (B4 d 1) 18) (Qa7 (B4 d (-1)) 18)=r at*
  refine Ac.of_vc vE_ok Af Qaa (n:=1000) (r:=[]) (S:=cpS2 r 0) (hs:=[fn 8 (.bool true),fn 12 (.bool true),no 17,fn 20 (ar d),fn 22 (lnV u),fn 24 (lnV v),fn 25 (i6 r)]) ?_
  refine m_ (p:=let z1:=pt (pt T.e 0 (O.row 37 none (arF a))) 1 (O.row 37 none (arF b));let z2:=V.agg (arF d);let z3:=V.bool true;let z4:=V.agg (arF a);let z5:=V.agg (arF b);let z0:=pt (pt z1 2 (O.row 37 none [i6 0,i6 0,i6 0,i6 0,i6 0,i6 0,i6 0,i6 0,i6 0,i6 0,i6 0,i6 0,i6 0,i6 0,i6 0,i6 0,i6 0,i6 0])) 2 (O.row 37 none (arF d));let z6:=[z2,i6 (-1)];Bn [Sm (V.tup [i6 r,i6 0]),Bn [TT 18],Ac Pg g0 52 [z4] z3,Tt,Bn [TT 18],Ac Pg g0 52 [z5] z3,Bn [(V.fn 52 []=V.fn 52 []->[z4]=[z5]->z1=z1->0+1+1=2->Sm (CR.mk z3 z1 2 []))],(a 0==b 0&&(a 1==b 1&&(a 2==b 2&&(a 3==b 3&&(a 4==b 4&&(a 5==b 5&&(a 6==b 6&&(a 7==b 7&&(a 8==b 8&&(a 9==b 9&&(a 10==b 10&&(a 11==b 11&&(a 12==b 12&&(a 13==b 13&&(a 14==b 14&&(a 15==b 15&&(a 16==b 16&&(a 17==b 17&&true))))))))))))))))))=false,Bn [TT 18,TT 18,Tt],Ac Pg g0 53 [z4,z5,i6 (-1)] (ar d),Tt,Bn [TT 18,Tt],Ac Pg g0 55 [z2,i6 1] (lnV u),Tt,Bn [TT 18,Tt],Ac Pg g0 55 z6 (lnV v),Bn [(V.fn 55 []=V.fn 55 []->[z2,i6 1]=z6->z0=z0->0+1+1+1=3->CR.mk (lnV u) z0 3 []=CR.mk (lnV v) z0 3 [])],TT 2,Ac Pg g0 54 [V.im u.length (wt u),V.im v.length (wt v)] (i6 r),Bn [(V.fn 55 []=V.fn 54 []->z6=[lnV u,lnV v]->z0=z0->0+1+1+1=3->CR.mk (lnV v) z0 3 []=CR.mk (i6 r) z0 3 []),(V.fn 55 []=V.fn 54 []->[z2,i6 1]=[lnV u,lnV v]->z0=z0->0+1+1+1=3->CR.mk (lnV u) z0 3 []=CR.mk (i6 r) z0 3 [])],Bn [r=r,Sm (0:Int)]]) ?_
  (repeat'(first|(with_reducible apply And.intro)|(refine fun(_:True)=>?_)))<;>first|exact aq|skip
  all_goals exact Qra he
def blF(f:Nat->List V)(n:Nat):List V:=(List.range n).flatMap f
theorem Qiy(f:Nat->List V):blF f 0=[]:=rfl
theorem Qbe(f:Nat->List V)(n:Nat):blF f (n+1)=blF f n++f n:=by
 unfold blF;rw[List.range_succ,List.flatMap_append];simp
theorem Ql7(f:Nat->List V)(n:Nat): ∀m,blF f (n+m)=blF f n++blF (fun i=>f (n+i)) m
 |0=>by rw[Qiy];simp
 |m+1=>by rw[show n+(m+1)=(n+m)+1 from rfl,Qbe,Ql7 f n m,Qbe,List.append_assoc]
theorem blF_cons(f:Nat->List V)(n:Nat):blF f (n+1)=f 0++blF (fun i=>f (i+1)) n:=by
 rw[Nat.add_comm,Ql7,show blF f 1=f 0 by unfold blF;simp]
 congr 1
 congr 1
 funext i
 rw[Nat.add_comm]
theorem Qby{f g:Nat->List V}: ∀{n:Nat},(∀i,i<n->f i=g i)->blF f n=blF g n
 |0,_=>rfl
 |n+1,h=>by rw[Qbe,Qbe,Qby (fun i hi=>h i o_),h n o_]
theorem Qdf{f:Nat->List V}{s:Nat}(hs: ∀k,(f k).length=s): ∀n,(blF f n).length=n*s
 |0=>by rw[Qiy];simp
 |n+1=>by rw[Qbe,List.length_append,Qdf hs n,hs,Nat.succ_mul]
theorem Qck: ∀{a b:List V},HfL a->HfL b->HfL (a++b)
 |[],_,_,h=>h
 | _:: _,_,⟨h1,h2⟩,h=>⟨h1,Qck h2 h⟩
theorem Qfu{f:Nat->List V}(h: ∀k,HfL (f k)): ∀n,HfL (blF f n)
 |0=>trivial
 |n+1=>by rw[Qbe];exact Qck (Qfu h n) (h n)
theorem Qf3(f:Nat->List V){k n:Nat}(h:k<n):blF f n=blF f k++(f k++blF (fun i=>f (k+1+i)) (n-(k+1))):=by
 have e:n=(k+1)+(n-(k+1)):=by omega
 rw[e,Ql7,Qbe,List.append_assoc]
 rw[show k+1+(n-(k+1))-(k+1)=n-(k+1)by omega]
theorem Qi4{f:Nat->List V}{s:Nat}(hs: ∀k,(f k).length=s){k n:Nat}(h:k<n):(blF f n).drop (k*s)=f k++blF (fun i=>f (k+1+i)) (n-(k+1)):=by
 rw[Qf3 f h,List.drop_append,Qdf hs,Nat.sub_self,List.drop_eq_nil_of_le (by rw[Qdf hs];omega)]
 simp
theorem Gq{f:Nat->List V}{s:Nat}(hs: ∀k,(f k).length=s){k n:Nat}(h:k<n):A6 s ((blF f n).drop (k*s))=some (f k):=by
 rw[Qi4 hs h,Qjz]
 have:Nat.ble s (f k++blF (fun i=>f (k+1+i)) (n-(k+1))).length=true:=Nat.ble_eq_true_of_le (by rw[List.length_append,hs];omega)
 rw[this,cond_true,List.take_append_of_le_length (by rw[hs];omega),List.take_of_length_le (by rw[hs];omega)]
theorem Qt0{f:Nat->List V}{s:Nat}(hs: ∀k,(f k).length=s){k n:Nat}(h:k<n):A6 s (Aj (k*s) (blF f n))=some (f k):=by rw[Qau];exact Gq hs h
def upB(f:Nat->List V)(k:Nat)(x:List V):Nat->List V:=fun i=>if i=k then x else f i
theorem Qmj{f:Nat->List V}{s:Nat}(hs: ∀k,(f k).length=s){k n:Nat}(h:k<n){x:List V}(hx:x.length=s):Ax (k*s) (blF f n) x=some (blF (upB f k x) n):=by
 have hle:k*s+s<=n*s:=by rw[<-Nat.succ_mul];exact Nat.mul_le_mul_right _ h
 rw[Qc3,Qdf hs]
 have:Nat.ble (k*s+x.length) (n*s)=true:=Nat.ble_eq_true_of_le (by rw[hx];exact hle)
 rw[this,cond_true,hx,<-Nat.succ_mul]
 congr 1
 rw[Qf3 (upB f k x) h]
 have e1:blF (upB f k x) k=blF f k:=Qby fun i hi=>by unfold upB;rw[if_neg o_]
 have e2:(fun i=>upB f k x (k+1+i))=fun i=>f (k+1+i):=by funext i;unfold upB;rw[if_neg o_]
 have e3:upB f k x k=x:=by unfold upB;rw[if_pos rfl]
 rw[e1,e2,e3,List.append_assoc]
 have t1:(blF f n).take (k*s)=blF f k:=by
  rw[Qf3 f h,List.take_append_of_le_length (by rw[Qdf hs];omega),List.take_of_length_le (by rw[Qdf hs];omega)]
 have t2:(blF f n).drop (k.succ*s)=blF (fun i=>f (k+1+i)) (n-(k+1)):=by
  rw[Nat.succ_mul,<-List.drop_drop,Qi4 hs h,List.drop_append,hs,Nat.sub_self,List.drop_eq_nil_of_le (by rw[hs];omega)]
  simp
 rw[t1,t2]
theorem Qg8{z:List V}: ∀n,rep n z=blF (fun _=>z) n
 |0=>rfl
 |n+1=>by rw[rep,Qg8 n,blF_cons]
def Ak(q:Nat->Nat×Nat):Nat->List (V×V×Nat)
 |0=>[]
 |k+1=>Ak q k++[(.agg [i6 ((q k).1:Nat),u6 ((q k).2:Nat)],i6 (k:Nat),k)]
def upQ(q:Nat->Nat×Nat)(k:Nat)(x:Nat×Nat):Nat->Nat×Nat:=fun j=>if j=k then x else q j
theorem Qnx(q:Nat->Nat×Nat): ∀k,(Ak q k).length=k
 |0=>rfl
 |k+1=>by rw[Ak,List.length_append,Qnx q k];rfl
theorem Qh1{q r:Nat->Nat×Nat}: ∀{k:Nat},(∀j,j<k->q j=r j)->Ak q k=Ak r k
 |0,_=>rfl
 |k+1,h=>by rw[Ak,Ak,Qh1 (fun j hj=>h j o_),h k o_]
theorem Qq8(q:Nat->Nat×Nat)(k v p:Nat):Ak (upQ q k (v,p)) (k+1)=Ak q k++[(.agg [i6 (v:Nat),u6 (p:Nat)],i6 (k:Nat),k)]:=by
 have e:upQ q k (v,p) k=(v,p):=if_pos rfl
 rw[Ak,e,Qh1 (q:=upQ q k (v,p)) (r:=q) (fun j hj=>if_neg o_)]
theorem Qqe: ∀{a b:List (V×V×Nat)},HfE a->HfE b->HfE (a++b)
 |[],_,_,h=>h
 | _:: _,_,h,k=>⟨h.1,h.2.1,Qqe h.2.2 k⟩
theorem Qae(q:Nat->Nat×Nat): ∀k,HfE (Ak q k)
 |0=>trivial
 |k+1=>Qqe (Qae q k) ⟨⟨trivial,trivial,trivial⟩,trivial,trivial⟩
theorem Qh4{ks:List Bool}{xs ys:List V}{v:V}{n:Nat}{es:List (V×V×Nat)}{i:Nat}:Bg ks xs ((.agg ys,v,n)::es) i=(match eqL ks xs ys with|some true=>some (some (i,v))|some false=>Bg ks xs es (i+1)|none=>none):=rfl
theorem Qgi{ks:List Bool}{xs:List V}{b:List (V×V×Nat)}: ∀{a:List (V×V×Nat)}{i:Nat},(Bg ks xs a i=some none->Bg ks xs (a++b) i=Bg ks xs b (i+a.length))/\(∀r,Bg ks xs a i=some (some r)->Bg ks xs (a++b) i=some (some r))
 |[],i=>⟨fun _=>rfl,fun r h=>by cases h⟩
 | (k, v, n) :: a, i => by
  have ih:=@Qgi ks xs b a (i+1)
  cases k with
  | agg ys =>
   rw[List.cons_append,Qh4,Qh4]
   cases eqL ks xs ys with
   |none=>exact⟨fun h=>(by cases h),fun r h=>(by cases h)⟩
   | some t =>
    cases t with
    |true=>exact⟨fun h=>(by cases h),fun r h=>h⟩
    |false=>
     dsimp only
     refine⟨fun h=>?_,fun r h=>ih.2 r h⟩
     rw[ih.1 h,List.length_cons,show i+1+a.length=i+(a.length+1)by omega]
  | _=>exact⟨fun h=>(by simp[Bg]at h),fun r h=>(by simp[Bg]at h)⟩
theorem Dh(q:Nat->Nat×Nat)(v p:Nat): ∀k,(∃j,j<k/\q j=(v,p)/\Bg [true,true] [i6 (v:Nat),u6 (p:Nat)] (Ak q k) 0=some (some (j,i6 (j:Nat))))\/((∀j,j<k->q j≠(v,p))/\Bg [true,true] [i6 (v:Nat),u6 (p:Nat)] (Ak q k) 0=some none)
 |0=>.inr ⟨fun j h=>absurd h (Nat.not_lt_zero _),rfl⟩
 | k + 1 => by
  rcases Dh q v p k with⟨j,h1,h2,h3⟩|⟨h1,h2⟩
  ·exact .inl ⟨j,by omega,h2,by rw[Ak];exact Qgi.2 _ h3⟩
  ·have e : Bg [true, true] [i6 (v : Nat), u6 (p : Nat)] (Ak q (k + 1)) 0 = Bg [true, true] [i6 (v : Nat), u6 (p : Nat)] [(.agg [i6 ((q k).1 : Nat), u6 ((q k).2 : Nat)], i6 (k : Nat), k)] k := by
    rw[Ak,Qgi.1 h2,Nat.zero_add,Qnx]
   have e2:Bg [true,true] [i6 (v:Nat),u6 (p:Nat)] [(.agg [i6 ((q k).1:Nat),u6 ((q k).2:Nat)],i6 (k:Nat),k)] k=(match some (((v:Int)==((q k).1:Int))&&(((p:Int)==((q k).2:Int))&&true))with|some true=>some (some (k,i6 (k:Nat)))|some false=>some none|none=>none):=by
    rfl
   by_cases hq:q k=(v,p)
   ·refine .inl ⟨k, by omega, hq, ?_⟩
    rw[e,e2,hq];simp
   ·refine .inr ⟨fun j hj => ?_, ?_⟩
    ·by_cases ej : j = k
     ·rw[ej];exact hq
     ·exact h1 j o_
    ·rw [e, e2]
     have:(((v:Int)==((q k).1:Int))&&(((p:Int)==((q k).2:Int))&&true))=false:=by
      cases hb:(((v:Int)==((q k).1:Int))&&(((p:Int)==((q k).2:Int))&&true))with
      |false=>rfl
      |true=>
       simp only[Bool.and_true,Bool.and_eq_true,beq_iff_eq]at hb
       exact absurd (Prod.ext (by dsimp only;omega) (by dsimp only;omega)) hq
     rw[this]
abbrev bF(B:Nat->Nat->Int)(n:Nat):List V:=blF (fun i=>arF (B i)) n
theorem bF_len(B:Nat->Nat->Int)(n:Nat):(bF B n).length=n*18:=Qdf (s:=18) (fun _=>rfl) n
theorem Qab(B:Nat->Nat->Int)(n:Nat):HfL (bF B n):=Qfu (fun k=>By (B k)) n
theorem Qa9{B:Nat->Nat->Int}{n j:Nat}(h:j<n):A6 18 (Aj (j*18) (bF B n))=some (arF (B j)):=Qt0 (f:=fun i=>arF (B i)) (s:=18) (fun _=>rfl) h
theorem Qep{B:Nat->Nat->Int}{n j:Nat}(h:j<n)(x:Nat->Int):Ax (0+j*18) (bF B n) (arF x)=some (bF (fun i=>if i=j then x else B i) n):=by
 rw[Nat.zero_add,Qmj (f:=fun i=>arF (B i)) (s:=18) (x:=arF x) (fun _=>rfl) h rfl]
 congr 1
 refine Qby fun i hi=>?_
 unfold upB
 dsimp only
 split<;>rfl
abbrev scF(F:Nat->Nat->Nat->Int)(q:Nat->Nat×Nat):Nat->Nat->Int:=fun j=>F (q j).1 (q j).2
theorem Gz(F:Nat->Nat->Nat->Int)(q:Nat->Nat×Nat)(k v p:Nat):bF (scF F (upQ q k (v,p))) (k+1)=bF (scF F q) k++arF (F v p):=by
 have e:upQ q k (v,p) k=(v,p):=if_pos rfl
 show blF _ (k+1)=_
 rw[Qbe]
 congr 1
 ·exact Qby fun i hi=>by show arF (F (upQ q k (v,p) i).1 _)=arF (F (q i).1 _);rw[show upQ q k (v,p) i=q i from if_neg o_]
 ·show arF (F (upQ q k (v,p) k).1 _)=_;rw[e]
mutual
theorem Hf.sc{D:Nat->Prop}: ∀(x:V),Hf x->Sc D x
 | .bool _,_| .int _ _,_| .str _,_| .nilp,_| .nilf,_| .nili,_| .nils,_| .nilm,_| .im _ _,_| .imp _,_=>trivial
 | .fn _ l,h=>HfL.sc l h
 | .agg l,h=>HfL.sc l h
 | .tup l,h=>HfL.sc l h
 | .ifc _ x,h=>Hf.sc x h
 | .ptr _ _,h| .sl _ _ _ _,h| .mp _,h| .yld _,h=>h.elim
theorem HfL.sc{D:Nat->Prop}: ∀(l:List V),HfL l->ScL D l
 |[],_=>trivial
 |x::xs,h=>⟨Hf.sc x h.1,HfL.sc xs h.2⟩
end
theorem HfE.sc{D:Nat->Prop}: ∀(l:List (V×V×Nat)),HfE l->ScE D l
 |[],_=>trivial
 |(k,v,_)::es,h=>⟨Hf.sc k h.1,Hf.sc v h.2.1,HfE.sc es h.2.2⟩
theorem Aa.dropTo{P:Program}{gl:T (List V)}{f0:Nat}{caps ars:List V}{H H' H'':T O}{nx nx1 nx':Nat}{v:V}{lg:List Nat}(hnx:nx<=nx1)(hle:nx1<=nx')(h:Aa P gl (.fn f0 caps) ars H nx ⟨v,H',nx',lg⟩)(hv:Sc (fun i=>i<nx1) v)(h1: ∀i,i<nx1->H''.get i=H'.get i)(h2: ∀i,nx1<=i->H''.get i=none)(h3: ∀i o,H''.get i=some o->ScO (fun i=>i<nx1) o)(hlog:Log H.get nx H''.get nx1 lg):Aa P gl (.fn f0 caps) ars H nx ⟨v,H'',nx1,lg⟩:=by
 refine⟨fun s w fv jk a1 a2 a3 a4 a5=>?_,hlog⟩
 obtain⟨next,e1,e2,e3⟩:=h.1 s w fv jk a1 a2 a3 a4 a5
 refine⟨next,e1,?_,e3⟩
 obtain⟨f',ars2,rfl⟩:=e3 ⟨f0,caps,rfl⟩
 refine CallsIn.mono e2 ?_
 rintro e w' ⟨u,s',rfl,g1,g2,g3,g4,g5⟩
 dsimp only at g4 g5
 have kf: ∀i,s'.dom i/\i<nx1↔s.dom i\/nx<=i/\i<nx1:=fun i=>⟨fun⟨hd,hi⟩=>((g4 i).1 hd).imp id (fun⟨h,_⟩=>⟨h,hi⟩),fun hd=>hd.elim (fun hd=>⟨(g4 i).2 (.inl hd),Nat.lt_of_not_le fun h=>a5 i o_ hd⟩) (fun⟨h1,h2⟩=>⟨(g4 i).2 (.inr ⟨h1,by omega⟩),h2⟩)⟩
 refine⟨u,s'.cut (fun i=>i<nx1) s'.mark,rfl,RV.cut _ _ g1 hv,⟨fun i o ho hl=>?_,fun i j o o' ho ho' hl hl' e=>?_,g2.old⟩,⟨⟨⟨g3.le.μ,g3.le.cp,fun i hd=>(kf i).2 (.inl hd),g3.le.fz⟩,g3.le.mark⟩,g3.fz,g3.kept,g3.mod,fun i hd hn=>g3.new i hd.1 hn⟩,kf,hnx⟩
 ·have hi : i < nx1 := Nat.lt_of_not_le fun hle => by rw [h2 i hle] at ho; cases ho
  have ho':=ho
  dsimp only at ho'
  rw[h1 i hi]at ho'
  obtain⟨b1,b2,b3,b4⟩:=g2.obj i o ho' hl
  exact⟨⟨b1,hi⟩,b2,b3,RO.cut b4 (h3 i o ho)⟩
 ·have hi : i < nx1 := Nat.lt_of_not_le fun hle => by rw [h2 i hle] at ho; cases ho
  have hj:j<nx1:=Nat.lt_of_not_le fun hle=>by rw[h2 j hle]at ho';cases ho'
  dsimp only at ho ho'
  rw[h1 i hi]at ho
  rw[h1 j hj]at ho'
  exact g2.inj i j o o' ho ho' hl hl' e
theorem Aa.dropL{P:Program}{gl:T (List V)}{f0:Nat}{caps ars:List V}{os os1:List O}(os2:List O){v:V}{lg:List Nat}(h:Aa P gl (.fn f0 caps) ars (Ae .e 0 os) os.length ⟨v,Ae .e 0 (os1++os2),(os1++os2).length,lg⟩)(hl:os.length<=os1.length)(hv:Sc (fun i=>i<os1.length) v)(h3: ∀o∈os1,ScO (fun i=>i<os1.length) o)(hlog: ∀i,i<os.length->i∉lg->os1[i]? =os[i]?):Aa P gl (.fn f0 caps) ars (Ae .e 0 os) os.length ⟨v,Ae .e 0 os1,os1.length,lg⟩:=by
 refine Aa.dropTo hl (by rw[List.length_append];omega) h hv (fun i hi=>?_) (fun i hi=>Qb1 o_) (fun i o ho=>?_) ⟨hl,fun i hn hi=>?_⟩
 ·rw[Qci _ _ _ _ (Nat.zero_le _) o_,Qci _ _ _ _ (Nat.zero_le _) (by rw[List.length_append];omega),Nat.sub_zero,List.getElem?_append_left o_]
 ·rcases Cs os1 .e 0 i o ho with ⟨_, k⟩ | k
  ·exact h3 o (List.mem_of_getElem? k)
  ·simp at k
 ·by_cases h1 : i < os.length
  ·rw [Qci _ _ _ _ (Nat.zero_le _) o_, Qci _ _ _ _ (Nat.zero_le _) o_, Nat.sub_zero]
   exact hlog i h1 hn
  ·rw[Qb1 o_,Qb1 o_]
set_option maxHeartbeats 1000000
set_option maxRecDepth 100000
section
variable (jj:List Int) (cs:List (List Int)) (F:Nat->Nat->Nat->Int) (B:Nat->Nat->Int) (size:Nat) (q:Nat->Nat×Nat)
abbrev toC(hb hm hs k:Nat):List V:=[sl jj,gC cs,.sl hb 0 size (some (size-size)),.mp hm,owV hs k]
abbrev E3:List O:=[.row 37 none (bF B size),.map (Ak q 0) 0,.row 70 none (toC jj cs size 0 1 3 0)]
abbrev Br(k:Nat):List O:=[.row 37 none (bF B size),.map (Ak q (k+1)) (k+1),.row 70 none (toC jj cs size 0 1 3 (k+1)),.row 37 (some 18) (bF (scF F q) (k+1))]
end
theorem Qap(cs:List (List Int)):HfL (cs.map sl):=Qca _ _ fun _=>trivial
theorem Eb(jj:List Int)(cs:List (List Int))(F:Nat->Nat->Nat->Int)(B:Nat->Nat->Int)(size:Nat)(q:Nat->Nat×Nat)(k n:Nat)(hn:4<=n): ∀o∈Br jj cs F B size q k,ScO (fun i=>i<n) o:=by
 intro o ho
 simp only[List.mem_cons,List.not_mem_nil,or_false]at ho
 rcases ho with rfl|rfl|rfl|rfl
 ·exact HfL.sc _ (Qab _ _)
 ·exact HfE.sc _ (Qae _ _)
 ·exact⟨trivial,trivial,(show 0<n by omega),(show 1<n by omega),(show 3<n by omega),trivial⟩
 ·exact HfL.sc _ (Qab _ _)
theorem fam_hit(jj:List Int)(cs:List (List Int))(F:Nat->Nat->Nat->Int)(B:Nat->Nat->Int)(size:Nat)(q:Nat->Nat×Nat)(k v p j:Nat)(hj:j<k+1)(hq:q j=(v,p))(hf:Bg [true,true] [i6 (v:Nat),u6 (p:Nat)] (Ak q (k+1)) 0=some (some (j,i6 (j:Nat)))):
  Aa Pg g0 (.fn 49 []) [.ptr 2 0,i6 (v:Nat),u6 (p:Nat)] (Ae .e 0 (Br jj cs F B size q k)) 4 ⟨.tup [ar (F v p),i6 0],Ae .e 0 (Br jj cs F B size q k),4,[]⟩:=by
 have h:=Aa.of_vcH (P:=Pg) (E:=vE) vE_ok Af Qaa (n:=1000) (f:=49) (os0:=Br jj cs F B size q k) (ars:=[.ptr 2 0,i6 (v:Nat),u6 (p:Nat)]) (r:=[4])
  (S := { sl := [(6, .ptr 4 0), (7, i6 0)], os := Br jj cs F B size q k ++ [.row 37 none (arF (F v p))], md := [0, 0, 1] }) (v := .tup [ar (F v p), i6 0]) (hs := [lk 22 (Ak q (k + 1)) (k + 1) (some (j, i6 (j : Nat))), pl 31, ld 32 (ar (F v p))]) (gl := g0) (by simp) (fun i hi _ => by
   rcases(show i=0\/i=1\/i=2\/i=3 by simp at hi;omega)with rfl|rfl|rfl|rfl<;>rfl) (by
  have hB:=Qab B size
  have hS:=Qab (scF F q) (k+1)
  have hE:=Qae q (k+1)
  have hc:=Qag jj
  have hg:=Qap cs
  have ht:=@Qa9 (scF F q) (k+1) j hj
  have e1:scF F q j=F v p:=by show F (q j).1 (q j).2=_;rw[hq]
  rw[e1]at ht
  clear e1 hq
  refine m_ (p:=let z0:=bF (scF F q) (k+1);let z1:=Ak q (k+1);let z2:=arF (F v p);Bn [V.tup [V.agg z2,i6 0]=V.tup [ar (F v p),i6 0],An [gt (pt (pt (pt (Ae T.e 0 (Br jj cs F B size q k)) 4 (O.row 37 none [i6 0,i6 0,i6 0,i6 0,i6 0,i6 0,i6 0,i6 0,i6 0,i6 0,i6 0,i6 0,i6 0,i6 0,i6 0,i6 0,i6 0,i6 0])) 5 (O.row 118 none [i6 0,u6 0])) 5 (O.row 118 none [i6 v,u6 p])) 1=some (O.map z1 (k+1)),Bg [true,true] [i6 v,u6 p] z1 0=some (some (j,i6 j))],An [(0:Int)<=(j:Int),(j:Int)<(↑(k+1):Int)],A6 18 (Aj (0+j*18) z0)=some z2,Bn [Zz,Sm (0:Int)],An [Sm (bF B size),HfL (bF B size)],An [z1=z1,HfE z1,Sm (k+1)],Bn [An [Sm jj.length,Sm (Ab jj)],An [Sm cs.length,Sm (List.map sl cs)],An [Zz,Sm size,Sm (size-size)],Tt,Bn [Zz,Sm (k+1)]],An [z0=z0,HfL z0],An [z2=z2,TT 18]]) ?_
  (repeat'(first|(with_reducible apply And.intro)|(refine fun(_:True)=>?_)))
  all_goals first|exact aq|exact hf|exact hB|exact hS|(rw[Nat.zero_add];exact ht)|exact hE|(show gt _ 1=some (O.map _ _);kernel_rfl)|rfl|skip)
 exact Aa.dropL (os1:=Br jj cs F B size q k) [.row 37 none (arF (F v p))] h (Nat.le_refl _) ⟨HfL.sc _ (By _),trivial,trivial⟩ (Eb jj cs F B size q k 4 (Nat.le_refl _)) (fun i hi _=>rfl)
theorem Qrp(jj:List Int)(cs:List (List Int))(F:Nat->Nat->Nat->Int)(B:Nat->Nat->Int)(size:Nat)(q:Nat->Nat×Nat)(v p:Nat)(hsc:Ac Pg g0 60 [gV jj cs,i6 (v:Nat),u6 (p:Nat)] (.tup [ar (F v p),i6 0])):
  Aa Pg g0 (.fn 49 []) [.ptr 2 0,i6 (v:Nat),u6 (p:Nat)] (Ae .e 0 (E3 jj cs B size q)) 3 ⟨.tup [ar (F v p),i6 0],Ae .e 0 (Br jj cs F B size (upQ q 0 (v,p)) 0),4,[1,2]⟩:=by
 have h:=Aa.of_vcH (P:=Pg) (E:=vE) vE_ok Af Qaa (n:=1000) (f:=49) (os0:=E3 jj cs B size q) (ars:=[.ptr 2 0,i6 (v:Nat),u6 (p:Nat)]) (r:=[7,3])
  (S := { sl := [(6, .ptr 4 0), (7, i6 0)], os := Br jj cs F B size (upQ q 0 (v, p)) 0 ++ [.row 37 none (arF (F v p))], md := [0, 0, 1], lg := [1, 2] }) (v := .tup [ar (F v p), i6 0]) (hs := [lk 22 [] 0 none, fn 40 (.tup [ar (F v p), i6 0]), st (arF (F v p)), up [] 0 (.map [(.agg [i6 (v : Nat), u6 (p : Nat)], i6 0, 0)] 1)]) (gl := g0) (by simp) (fun i hi hno => by
   rcases(show i=0\/i=1\/i=2 by simp at hi;omega)with rfl|rfl|rfl
   ·rfl
   ·simp at hno
   ·simp at hno) (by
  have hB:=Qab B size
  have hc:=Qag jj
  have hg:=Qap cs
  have e1:=Gz F q 0 v p
  have e2:=Qq8 q 0 v p
  have hE:HfE (Ak (upQ q 0 (v,p)) (0+1)):=Qae _ _
  have hS:HfL (bF (scF F (upQ q 0 (v,p))) (0+1)):=Qab _ _
  refine m_ (p:=let z0:=[i6 0,i6 0,i6 0,i6 0,i6 0,i6 0,i6 0,i6 0,i6 0,i6 0,i6 0,i6 0,i6 0,i6 0,i6 0,i6 0,i6 0,i6 0];let z2:=[i6 v,u6 p];let z3:=arF (F v p);let z4:=upQ q 0 (v,p);let z5:=List.map sl cs;let z6:=V.tup [ar (F v p),i6 0];let z1:=pt (pt (pt (Ae T.e 0 (E3 jj cs B size q)) 3 (O.row 37 none z0)) 4 (O.row 118 none [i6 0,u6 0])) 4 (O.row 118 none z2);Bn [V.tup [V.agg z3,i6 0]=z6,An [gt z1 1=some (O.map [] 0),Bg [true,true] z2 [] 0=some none],An [TT 2,TT 2],Ac Pg g0 60 [V.agg [V.im jj.length (Ab jj),V.im cs.length z5],i6 v,u6 p] z6,Tt,Ax 0 z0 z3=some z3,An [gt (pt (pt z1 5 (O.row 37 none z0)) 5 (O.row 37 none z3)) 1=some (O.map [] 0),putS [true,true] z2 (i6 ↑(0:Nat)) [] 0=some (O.map [(V.agg z2,i6 0,0)] 1)],Bn [Zz,Sm (0:Int)],An [Sm (bF B size),HfL (bF B size)],An [Ak z4 1=[(V.agg z2,i6 0,0)],HfE (Ak z4 1),1=1],Bn [An [Sm jj.length,Sm (Ab jj)],An [Sm cs.length,z5=z5],An [Zz,Sm size,Sm (size-size)],Tt,Bn [Zz,1=1]],An [bF (scF F z4) 1=z3,TT 18],An [z3=z3,TT 18]]) ?_
  (repeat'(first|(with_reducible apply And.intro)|(refine fun(_:True)=>?_)))
  all_goals first|exact aq|exact hB|exact hS|exact hE|exact e1|exact e2|(show gt _ 1=some (O.map _ _);kernel_rfl)|rfl|skip)
 exact Aa.dropL (os1:=Br jj cs F B size (upQ q 0 (v,p)) 0) [.row 37 none (arF (F v p))] h (by simp) ⟨HfL.sc _ (By _),trivial,trivial⟩ (Eb jj cs F B size _ 0 4 (Nat.le_refl _)) (fun i hi hno=>by
  rcases(show i=0\/i=1\/i=2 by simp at hi;omega)with rfl|rfl|rfl
  ·rfl
  ·simp at hno
  ·simp at hno)
abbrev Fe(jj:List Int)(cs:List (List Int))(F:Nat->Nat->Nat->Int)(B:Nat->Nat->Int)(size:Nat)(q:Nat->Nat×Nat)(k:Nat):List O:=[.row 37 none (bF B size),.map (Ak q (k+1)) (k+1),.row 70 none (toC jj cs size 0 1 4 (k+1)),.dead,.row 37 (some 18) (bF (scF F q) (k+1))]
theorem Gn(jj:List Int)(cs:List (List Int))(F:Nat->Nat->Nat->Int)(B:Nat->Nat->Int)(size:Nat)(q:Nat->Nat×Nat)(k n:Nat)(hn:5<=n): ∀o∈Fe jj cs F B size q k,ScO (fun i=>i<n) o:=by
 intro o ho
 simp only[List.mem_cons,List.not_mem_nil,or_false]at ho
 rcases ho with rfl|rfl|rfl|rfl|rfl
 ·exact HfL.sc _ (Qab _ _)
 ·exact HfE.sc _ (Qae _ _)
 ·exact⟨trivial,trivial,(show 0<n by omega),(show 1<n by omega),(show 4<n by omega),trivial⟩
 ·trivial
 ·exact HfL.sc _ (Qab _ _)
theorem Qrq(jj:List Int)(cs:List (List Int))(F:Nat->Nat->Nat->Int)(B:Nat->Nat->Int)(size:Nat)(q:Nat->Nat×Nat)(k v p:Nat)(hk:k<=1000000)(hf:Bg [true,true] [i6 (v:Nat),u6 (p:Nat)] (Ak q (k+1)) 0=some none)(hsc:Ac Pg g0 60 [gV jj cs,i6 (v:Nat),u6 (p:Nat)] (.tup [ar (F v p),i6 0])):
  Aa Pg g0 (.fn 49 []) [.ptr 2 0,i6 (v:Nat),u6 (p:Nat)] (Ae .e 0 (Br jj cs F B size q k)) 4 ⟨.tup [ar (F v p),i6 0],Ae .e 0 (Fe jj cs F B size (upQ q (k+1) (v,p)) (k+1)),5,[1,2,3]⟩:=by
 have h:=Aa.of_vcH (P:=Pg) (E:=vE) vE_ok Af Qaa (n:=1000) (f:=49) (os0:=Br jj cs F B size q k) (ars:=[.ptr 2 0,i6 (v:Nat),u6 (p:Nat)]) (r:=[8,4])
  (S := { sl := [(6, .ptr 5 0), (7, i6 0)], os := Fe jj cs F B size (upQ q (k + 1) (v, p)) (k + 1) ++ [.row 37 none (arF (F v p))], md := [0, 0, 1], lg := [1, 2, 3] }) (v := .tup [ar (F v p), i6 0]) (hs := [lk 22 (Ak q (k + 1)) (k + 1) none, fn 40 (.tup [ar (F v p), i6 0]), st (arF (F v p)), up (Ak q (k + 1)) (k + 1) (.map (Ak (upQ q (k + 1) (v, p)) (k + 1 + 1)) (k + 1 + 1)), ap 64]) (gl := g0) (by simp) (fun i hi hno => by
   rcases(show i=0\/i=1\/i=2\/i=3 by simp at hi;omega)with rfl|rfl|rfl|rfl
   ·rfl
   ·simp at hno
   ·simp at hno
   ·simp at hno) (by
  have hB:=Qab B size
  have hc:=Qag jj
  have hg:=Qap cs
  have e1:=Gz F q (k+1) v p
  have e2:=Qq8 q (k+1) v p
  have e3:putS [true,true] [i6 (v:Nat),u6 (p:Nat)] (i6 ((k+1:Nat):Int)) (Ak q (k+1)) (k+1)=some (.map (Ak (upQ q (k+1) (v,p)) (k+1+1)) (k+1+1)):=by
   unfold putS;rw[hf,e2]
  have hl:=bF_len (scF F q) (k+1)
  have hE:=Qae (upQ q (k+1) (v,p)) (k+1+1)
  have hS:HfL (bF (scF F (upQ q (k+1) (v,p))) (k+1+1)):=Qab _ _
  have hS0:HfL (bF (scF F q) (k+1)):=Qab _ _
  refine m_ (p:=let z0:=[i6 0,i6 0,i6 0,i6 0,i6 0,i6 0,i6 0,i6 0,i6 0,i6 0,i6 0,i6 0,i6 0,i6 0,i6 0,i6 0,i6 0,i6 0];let z3:=arF (F v p);let z5:=Ak q (k+1);let z6:=[i6 v,u6 p];let z7:=List.map sl cs;let z8:=V.tup [ar (F v p),i6 0];let z9:=upQ q (k+1) (v,p);let y1:=bF (scF F q) (k+1);let z1:=pt (pt (pt (Ae T.e 0 (Br jj cs F B size q k)) 4 (O.row 37 none z0)) 5 (O.row 118 none [i6 0,u6 0])) 5 (O.row 118 none z6);let z2:=Ak z9 (k+1+1);let z4:=bF (scF F z9) (k+1+1);let y0:=some (O.map z5 (k+1));Bn [V.tup [V.agg z3,i6 0]=z8,An [gt z1 1=y0,Bg [true,true] z6 z5 0=some none],An [TT 2,TT 2],Ac Pg g0 60 [V.agg [V.im jj.length (Ab jj),V.im cs.length z7],i6 v,u6 p] z8,Tt,Ax 0 z0 z3=some z3,An [gt (pt (pt z1 6 (O.row 37 none z0)) 6 (O.row 37 none z3)) 1=y0,putS [true,true] z6 (i6 ↑(k+1)) z5 (k+1)=some (O.map z2 (k+1+1))],y1.length=(k+1)*18,k+1+1<=9223372036854775807,(k+1+1)*144<=140737488355328,Bn [Zz,Sm (0:Int)],An [Sm (bF B size),HfL (bF B size)],An [z2=z2,HfE z2,Sm (k+1+1)],Bn [An [Sm jj.length,Sm (Ab jj)],An [Sm cs.length,z7=z7],An [Zz,Sm size,Sm (size-size)],Tt,Bn [Zz,Nat.succ k+1=k+1+1]],Tt,An [z4=y1++z3,HfL z4],An [z3=z3,TT 18]]) ?_
  (repeat'(first|(with_reducible apply And.intro)|(refine fun(_:True)=>?_)))
  all_goals first|exact aq|exact hB|exact hS|exact hS0|exact hE|exact hf|exact e3|exact e1|exact e1.symm|exact hl|(show gt _ 1=some (O.map _ _);kernel_rfl)|rfl|skip)
 exact Aa.dropL (os1:=Fe jj cs F B size (upQ q (k+1) (v,p)) (k+1)) [.row 37 none (arF (F v p))] h (by simp) ⟨HfL.sc _ (By _),trivial,trivial⟩ (Gn jj cs F B size _ (k+1) 5 (Nat.le_refl _)) (fun i hi hno=>by
  rcases(show i=0\/i=1\/i=2\/i=3 by simp at hi;omega)with rfl|rfl|rfl|rfl
  ·rfl
  ·simp at hno
  ·simp at hno
  ·simp at hno)
set_option maxHeartbeats 1000000
set_option maxRecDepth 100000
abbrev z18:List V:=arF (fun _=>0)
theorem Qom(jj:List Int)(cs:List (List Int))(F:Nat->Nat->Nat->Int)(B:Nat->Nat->Int)(size:Nat)(q:Nat->Nat×Nat)(k s t v p b j:Nat)(x:Nat->Int)(hj:j<k+1)(hq:q j=(v,p))(hf:Bg [true,true] [i6 (v:Nat),u6 (p:Nat)] (Ak q (k+1)) 0=some (some (j,i6 (j:Nat))))(ht:t<size)
  (h1: ∀G T,Ai G .shl T (i6 1) (i6 (v:Nat))=some (i6 (b:Nat)))(h2: ∀G T,Ai G .andNot T (i6 (s:Nat)) (i6 (b:Nat))=some (i6 (t:Nat)))(xz:Ac Pg g0 50 [ar (B t),ar (F v p)] (.tup [ar x,i6 0])):
  Aa Pg g0 (.fn 33 []) [.ptr 2 0,i6 (s:Nat),i6 (v:Nat),u6 (p:Nat)] (Ae .e 0 (Br jj cs F B size q k)) 4 ⟨.tup [ar x,i6 0],Ae .e 0 (Br jj cs F B size q k),4,[]⟩:=by
 have hB:=Qab B size
 have hS:=Qab (scF F q) (k+1)
 have hE:=Qae q (k+1)
 have hE0:=hE
 have hS0:=hS
 have hc:=Qag jj
 have hg:=Qap cs
 have htk:=@Qa9 B size t ht
 have hcall:Aa Pg g0 (.fn 49 []) [.ptr 2 0,i6 (v:Nat),u6 (p:Nat)] (Ae .e 0 (Br jj cs F B size q k++[.row 37 none z18])) 5 ⟨.tup [ar (F v p),i6 0],Ae .e 0 (Br jj cs F B size q k++[.row 37 none z18]),5,[]⟩:=
  Aa.frameL (OS:=Br jj cs F B size q k++[.row 37 none z18]) (OS':=Br jj cs F B size q k++[.row 37 none z18]) [0,1,2,3] [(0,0),(1,1),(2,2),(3,3)] [0,0,1] [0,0,1] (fam_hit jj cs F B size q k v p j hj hq hf) k_ (by
   refine m_ (p:=Bn [Zz,Sm (v:Int),Sm (p:Int)]) ?_
   (repeat'(first|(with_reducible apply And.intro)|(refine fun(_:True)=>?_)))<;>first|exact aq|skip) (by
   refine m_ (p:=let z0:=bF (scF F q) (k+1);let z1:=Ak q (k+1);Bn [An [Sm (bF B size),HfL (bF B size)],An [z1=z1,HfE z1,Sm (k+1)],Bn [An [Sm jj.length,Sm (Ab jj)],An [Sm cs.length,Sm (List.map sl cs)],An [Zz,Sm size,Sm (size-size)],Tt,Bn [Zz,Sm (k+1)]],An [z0=z0,HfL z0]]) ?_
   (repeat'(first|(with_reducible apply And.intro)|(refine fun(_:True)=>?_)))
   all_goals first|exact aq|exact hB|exact hS|exact hS0|exact hE|exact hE0|rfl|skip) (by
   refine m_ (p:=Bn [Bn [Sm (F v p 0),Sm (F v p 1),Sm (F v p 2),Sm (F v p 3),Sm (F v p 4),Sm (F v p 5),Sm (F v p 6),Sm (F v p 7),Sm (F v p 8),Sm (F v p 9),Sm (F v p 10),Sm (F v p 11),Sm (F v p 12),Sm (F v p 13),Sm (F v p 14),Sm (F v p 15),Sm (F v p 16),Sm (F v p 17)],Sm (0:Int)]) ?_
   (repeat'(first|(with_reducible apply And.intro)|(refine fun(_:True)=>?_)))<;>first|exact aq|skip) (by
   refine m_ (p:=let z0:=Br jj cs F B size q k;let z1:=O.row 37 none z18;let z2:=bF (scF F q) (k+1);let z3:=Ak q (k+1);let z4:=bF B size;Bn [(z0++[z1])[0]? =some (O.row 37 none z4),An [z4=z4,HfL z4],(z0++[z1])[1]? =some (O.map z3 (k+1)),An [z3=z3,HfE z3,Sm (k+1)],(z0++[z1])[2]? =some (O.row 70 none (toC jj cs size 0 1 3 (k+1))),Bn [An [Sm jj.length,Sm (Ab jj)],An [Sm cs.length,Sm (List.map sl cs)],An [Zz,Sm size,Sm (size-size)],Tt,Bn [Zz,Sm (k+1)]],(z0++[z1])[3]? =some (O.row 37 (some 18) z2),An [z2=z2,HfL z2],(z0++[z1])[4]? =some z1,(z0++[z1])[4]? =some z1]) ?_
   (repeat'(first|(with_reducible apply And.intro)|(refine fun(_:True)=>?_)))
   all_goals first|exact aq|exact hB|exact hS|exact hS0|exact hE|exact hE0|rfl|skip)
 have h:=Aa.of_vcH (P:=Pg) (E:=vE) vE_ok Af Qaa (n:=1000) (f:=33) (os0:=Br jj cs F B size q k) (ars:=[.ptr 2 0,i6 (s:Nat),i6 (v:Nat),u6 (p:Nat)]) (r:=[4])
  (S := { sl := [(8, .ptr 4 0), (9, i6 0)], os := Br jj cs F B size q k ++ [.row 37 none (arF x)], md := [0, 0, 1], lg := [] }) (v := .tup [ar x, i6 0]) (hs := [(16, .call ⟨.tup [ar (F v p), i6 0], Ae .e 0 (Br jj cs F B size q k ++ [.row 37 none z18]), 5, []⟩), va 29 (i6 (b : Nat)), va 30 (i6 (t : Nat)), pl 31, ld 32 (ar (B t)), fn 34 (.tup [ar x, i6 0])]) (gl := g0) (by simp) (fun i hi _ => by
   rcases(show i=0\/i=1\/i=2\/i=3 by simp at hi;omega)with rfl|rfl|rfl|rfl<;>rfl) (by
  refine m_ (p:=let z0:=bF (scF F q) (k+1);let z1:=Br jj cs F B size q k;let z2:=Ak q (k+1);let z3:=bF B size;Bn [V.tup [V.agg (arF x),i6 0]=V.tup [ar x,i6 0],Aa Pg g0 (V.fn 49 []) [V.ptr 2 0,i6 v,u6 p] (pt (Ae T.e 0 z1) 4 (O.row 37 none [i6 0,i6 0,i6 0,i6 0,i6 0,i6 0,i6 0,i6 0,i6 0,i6 0,i6 0,i6 0,i6 0,i6 0,i6 0,i6 0,i6 0,i6 0])) 5 (CR.mk (V.tup [ar (F v p),i6 0]) (Ae T.e 0 (z1++[O.row 37 none z18])) 5 []),Tt,Ai (Qac Pg) .shl 3 (i6 1) (i6 v)=some (i6 b),Ai (Qac Pg) .andNot 3 (i6 s) (i6 b)=some (i6 t),An [(0:Int)<=(t:Int),(t:Int)<(size:Int)],A6 18 (Aj (0+t*18) z3)=some (arF (B t)),Bn [TT 18,TT 18],Ac Pg g0 50 [V.agg (arF (B t)),V.agg (arF (F v p))] (V.tup [ar x,i6 0]),Tt,Bn [Zz,Sm (0:Int)],An [z3=z3,HfL z3],An [z2=z2,HfE z2,Sm (k+1)],Bn [An [Sm jj.length,Sm (Ab jj)],An [Sm cs.length,Sm (List.map sl cs)],An [Zz,Sm size,Sm (size-size)],Tt,Bn [Zz,Sm (k+1)]],An [z0=z0,HfL z0],An [Sm (arF x),TT 18]]) ?_
  (repeat'(first|(with_reducible apply And.intro)|(refine fun(_:True)=>?_)))
  all_goals first|(with_reducible exact h1 _ _)|(with_reducible exact h2 _ _)|exact aq|exact hcall|exact hB|exact hS|exact hS0|exact hE|exact hE0|exact xz|(rw[Nat.zero_add];exact htk)|exact h1 _ _|exact h2 _ _|rfl|skip)
 exact Aa.dropL (os1:=Br jj cs F B size q k) [.row 37 none (arF x)] h (by simp) ⟨HfL.sc _ (By _),trivial,trivial⟩ (Eb jj cs F B size q k 4 (Nat.le_refl _)) (fun i hi _=>by
   rcases(show i=0\/i=1\/i=2\/i=3 by simp at hi;omega)with rfl|rfl|rfl|rfl<;>rfl)
theorem Qpx(jj:List Int)(cs:List (List Int))(F:Nat->Nat->Nat->Int)(B:Nat->Nat->Int)(size:Nat)(q:Nat->Nat×Nat)(s t v p b:Nat)(x:Nat->Int)(hsc:Ac Pg g0 60 [gV jj cs,i6 (v:Nat),u6 (p:Nat)] (.tup [ar (F v p),i6 0]))(ht:t<size)
  (h1: ∀G T,Ai G .shl T (i6 1) (i6 (v:Nat))=some (i6 (b:Nat)))(h2: ∀G T,Ai G .andNot T (i6 (s:Nat)) (i6 (b:Nat))=some (i6 (t:Nat)))(xz:Ac Pg g0 50 [ar (B t),ar (F v p)] (.tup [ar x,i6 0])):
  Aa Pg g0 (.fn 33 []) [.ptr 2 0,i6 (s:Nat),i6 (v:Nat),u6 (p:Nat)] (Ae .e 0 (E3 jj cs B size q)) 3 ⟨.tup [ar x,i6 0],Ae .e 0 (Br jj cs F B size (upQ q 0 (v,p)) 0),4,[1,2]⟩:=by
 have hB:=Qab B size
 have hS:=Qab (scF F (upQ q 0 (v,p))) (0+1)
 have hE:=Qae (upQ q 0 (v,p)) (0+1)
 have hE0:=Qae q 0
 have hS0:=hS
 have hc:=Qag jj
 have hg:=Qap cs
 have htk:=@Qa9 B size t ht
 have hcall:Aa Pg g0 (.fn 49 []) [.ptr 2 0,i6 (v:Nat),u6 (p:Nat)] (Ae .e 0 (E3 jj cs B size q++[.row 37 none z18])) 4 ⟨.tup [ar (F v p),i6 0],Ae .e 0 [.row 37 none (bF B size),.map (Ak (upQ q 0 (v,p)) (0+1)) (0+1),.row 70 none (toC jj cs size 0 1 4 (0+1)),.row 37 none z18,.row 37 (some 18) (bF (scF F (upQ q 0 (v,p))) (0+1))],5,[1,2]⟩:=
  Aa.frameL (OS:=E3 jj cs B size q++[.row 37 none z18]) (OS':=[.row 37 none (bF B size),.map (Ak (upQ q 0 (v,p)) (0+1)) (0+1),.row 70 none (toC jj cs size 0 1 4 (0+1)),.row 37 none z18,.row 37 (some 18) (bF (scF F (upQ q 0 (v,p))) (0+1))]) [0,1,2] [(0,0),(1,1),(2,2),(4,3)] [0,0,1] [0,0,1] (Qrp jj cs F B size q v p hsc) k_ (by
   refine m_ (p:=Bn [Zz,Sm (v:Int),Sm (p:Int)]) ?_
   (repeat'(first|(with_reducible apply And.intro)|(refine fun(_:True)=>?_)))<;>first|exact aq|skip) (by
   refine m_ (p:=Bn [An [Sm (bF B size),HfL (bF B size)],An [Sm (Ak q 0),HfE (Ak q 0),Zz],An [An [Sm jj.length,Sm (Ab jj)],An [Sm cs.length,Sm (List.map sl cs)],An [Zz,Sm size,Sm (size-size)],TT 2]]) ?_
   (repeat'(first|(with_reducible apply And.intro)|(refine fun(_:True)=>?_)))
   all_goals first|exact aq|exact hB|exact hS|exact hS0|exact hE|exact hE0|rfl|skip) (by
   refine m_ (p:=Bn [Bn [Sm (F v p 0),Sm (F v p 1),Sm (F v p 2),Sm (F v p 3),Sm (F v p 4),Sm (F v p 5),Sm (F v p 6),Sm (F v p 7),Sm (F v p 8),Sm (F v p 9),Sm (F v p 10),Sm (F v p 11),Sm (F v p 12),Sm (F v p 13),Sm (F v p 14),Sm (F v p 15),Sm (F v p 16),Sm (F v p 17)],Sm (0:Int)]) ?_
   (repeat'(first|(with_reducible apply And.intro)|(refine fun(_:True)=>?_)))<;>first|exact aq|skip) (by
   refine m_ (p:=let z0:=O.row 37 none z18;let z1:=upQ q 0 (v,p);let z2:=E3 jj cs B size q;let z3:=bF B size;Bn [(z2++[z0])[0]? =some (O.row 37 none z3),An [z3=z3,HfL z3],Tt,An [Sm (Ak z1 1),HfE (Ak z1 1),1=1],Tt,Bn [An [Sm jj.length,Sm (Ab jj)],An [Sm cs.length,Sm (List.map sl cs)],An [Zz,Sm size,Sm (size-size)],Tt,Bn [Zz,1=1]],(z2++[z0])[3]? =some z0,(z2++[z0])[3]? =some z0,Tt,An [Sm (bF (scF F z1) 1),TT 18]]) ?_
   (repeat'(first|(with_reducible apply And.intro)|(refine fun(_:True)=>?_)))
   all_goals first|exact aq|exact hB|exact hS|exact hS0|exact hE|exact hE0|rfl|skip)
 have h:=Aa.of_vcH (P:=Pg) (E:=vE) vE_ok Af Qaa (n:=1000) (f:=33) (os0:=E3 jj cs B size q) (ars:=[.ptr 2 0,i6 (s:Nat),i6 (v:Nat),u6 (p:Nat)]) (r:=[4,3])
  (S := { sl := [(8, .ptr 4 0), (9, i6 0)], os := Br jj cs F B size (upQ q 0 (v, p)) 0 ++ [.row 37 none (arF x)], md := [0, 0, 1], lg := [1, 2] }) (v := .tup [ar x, i6 0]) (hs := [(16, .call ⟨.tup [ar (F v p), i6 0], Ae .e 0 [.row 37 none (bF B size), .map (Ak (upQ q 0 (v, p)) (0 + 1)) (0 + 1), .row 70 none (toC jj cs size 0 1 4 (0 + 1)), .row 37 none z18, .row 37 (some 18) (bF (scF F (upQ q 0 (v, p))) (0 + 1))], 5, [1, 2]⟩), va 29 (i6 (b : Nat)), va 30 (i6 (t : Nat)), pl 31, ld 32 (ar (B t)), fn 34 (.tup [ar x, i6 0])]) (gl := g0) (by simp) (fun i hi hno => by
   rcases(show i=0\/i=1\/i=2 by simp at hi;omega)with rfl|rfl|rfl<;>first|rfl|(simp at hno)) (by
  refine m_ (p:=let z0:=upQ q 0 (v,p);let z1:=bF B size;let z2:=bF (scF F z0) 1;let z3:=Ak z0 1;Bn [V.tup [V.agg (arF x),i6 0]=V.tup [ar x,i6 0],Aa Pg g0 (V.fn 49 []) [V.ptr 2 0,i6 v,u6 p] (pt (Ae T.e 0 (E3 jj cs B size q)) 3 (O.row 37 none [i6 0,i6 0,i6 0,i6 0,i6 0,i6 0,i6 0,i6 0,i6 0,i6 0,i6 0,i6 0,i6 0,i6 0,i6 0,i6 0,i6 0,i6 0])) 4 (CR.mk (V.tup [ar (F v p),i6 0]) (Ae T.e 0 [O.row 37 none z1,O.map z3 1,O.row 70 none (toC jj cs size 0 1 4 1),O.row 37 none z18,O.row 37 (some 18) z2]) 5 [1,2]),Tt,Ai (Qac Pg) .shl 3 (i6 1) (i6 v)=some (i6 b),Ai (Qac Pg) .andNot 3 (i6 s) (i6 b)=some (i6 t),An [(0:Int)<=(t:Int),(t:Int)<(size:Int)],A6 18 (Aj (0+t*18) z1)=some (arF (B t)),Bn [TT 18,TT 18],Ac Pg g0 50 [V.agg (arF (B t)),V.agg (arF (F v p))] (V.tup [ar x,i6 0]),Tt,Bn [Zz,Sm (0:Int)],An [z1=z1,HfL z1],An [z3=z3,HfE z3,1=1],Bn [An [Sm jj.length,Sm (Ab jj)],An [Sm cs.length,Sm (List.map sl cs)],An [Zz,Sm size,Sm (size-size)],Tt,Bn [Zz,1=1]],An [z2=z2,TT 18],An [Sm (arF x),TT 18]]) ?_
  (repeat'(first|(with_reducible apply And.intro)|(refine fun(_:True)=>?_)))
  all_goals first|(with_reducible exact h1 _ _)|(with_reducible exact h2 _ _)|exact aq|exact hcall|exact hB|exact hS|exact hS0|exact hE|exact hE0|exact xz|(rw[Nat.zero_add];exact htk)|exact h1 _ _|exact h2 _ _|rfl|skip)
 exact Aa.dropL (os1:=Br jj cs F B size (upQ q 0 (v,p)) 0) [.row 37 none (arF x)] h (by simp) ⟨HfL.sc _ (By _),trivial,trivial⟩ (Eb jj cs F B size _ 0 4 (Nat.le_refl _)) (fun i hi hno=>by
   rcases(show i=0\/i=1\/i=2 by simp at hi;omega)with rfl|rfl|rfl<;>first|rfl|(simp at hno))
theorem Qif(jj:List Int)(cs:List (List Int))(F:Nat->Nat->Nat->Int)(B:Nat->Nat->Int)(size:Nat)(q:Nat->Nat×Nat)(k s t v p b:Nat)(x:Nat->Int)(hk:k<=1000000)(hf:Bg [true,true] [i6 (v:Nat),u6 (p:Nat)] (Ak q (k+1)) 0=some none)(hsc:Ac Pg g0 60 [gV jj cs,i6 (v:Nat),u6 (p:Nat)] (.tup [ar (F v p),i6 0]))(ht:t<size)
  (h1: ∀G T,Ai G .shl T (i6 1) (i6 (v:Nat))=some (i6 (b:Nat)))(h2: ∀G T,Ai G .andNot T (i6 (s:Nat)) (i6 (b:Nat))=some (i6 (t:Nat)))(xz:Ac Pg g0 50 [ar (B t),ar (F v p)] (.tup [ar x,i6 0])):
  Aa Pg g0 (.fn 33 []) [.ptr 2 0,i6 (s:Nat),i6 (v:Nat),u6 (p:Nat)] (Ae .e 0 (Br jj cs F B size q k)) 4 ⟨.tup [ar x,i6 0],Ae .e 0 (Fe jj cs F B size (upQ q (k+1) (v,p)) (k+1)),5,[1,2,3]⟩:=by
 have hB:=Qab B size
 have hS:=Qab (scF F (upQ q (k+1) (v,p))) (k+1+1)
 have hE:=Qae (upQ q (k+1) (v,p)) (k+1+1)
 have hS0:=Qab (scF F q) (k+1)
 have hE0:=Qae q (k+1)
 have hc:=Qag jj
 have hg:=Qap cs
 have htk:=@Qa9 B size t ht
 have hcall:Aa Pg g0 (.fn 49 []) [.ptr 2 0,i6 (v:Nat),u6 (p:Nat)] (Ae .e 0 (Br jj cs F B size q k++[.row 37 none z18])) 5 ⟨.tup [ar (F v p),i6 0],Ae .e 0 [.row 37 none (bF B size),.map (Ak (upQ q (k+1) (v,p)) (k+1+1)) (k+1+1),.row 70 none (toC jj cs size 0 1 5 (k+1+1)),.dead,.row 37 none z18,.row 37 (some 18) (bF (scF F (upQ q (k+1) (v,p))) (k+1+1))],6,[1,2,3]⟩:=
  Aa.frameL (OS:=Br jj cs F B size q k++[.row 37 none z18]) (OS':=[.row 37 none (bF B size),.map (Ak (upQ q (k+1) (v,p)) (k+1+1)) (k+1+1),.row 70 none (toC jj cs size 0 1 5 (k+1+1)),.dead,.row 37 none z18,.row 37 (some 18) (bF (scF F (upQ q (k+1) (v,p))) (k+1+1))]) [0,1,2,3] [(0,0),(1,1),(2,2),(3,3),(5,4)] [0,0,1] [0,0,1] (Qrq jj cs F B size q k v p hk hf hsc) k_ (by
   refine m_ (p:=Bn [Zz,Sm (v:Int),Sm (p:Int)]) ?_
   (repeat'(first|(with_reducible apply And.intro)|(refine fun(_:True)=>?_)))<;>first|exact aq|skip) (by
   refine m_ (p:=let z0:=bF (scF F q) (k+1);let z1:=Ak q (k+1);Bn [An [Sm (bF B size),HfL (bF B size)],An [z1=z1,HfE z1,Sm (k+1)],Bn [An [Sm jj.length,Sm (Ab jj)],An [Sm cs.length,Sm (List.map sl cs)],An [Zz,Sm size,Sm (size-size)],Tt,Bn [Zz,Sm (k+1)]],An [z0=z0,HfL z0]]) ?_
   (repeat'(first|(with_reducible apply And.intro)|(refine fun(_:True)=>?_)))
   all_goals first|exact aq|exact hB|exact hS|exact hS0|exact hE|exact hE0|rfl|skip) (by
   refine m_ (p:=Bn [Bn [Sm (F v p 0),Sm (F v p 1),Sm (F v p 2),Sm (F v p 3),Sm (F v p 4),Sm (F v p 5),Sm (F v p 6),Sm (F v p 7),Sm (F v p 8),Sm (F v p 9),Sm (F v p 10),Sm (F v p 11),Sm (F v p 12),Sm (F v p 13),Sm (F v p 14),Sm (F v p 15),Sm (F v p 16),Sm (F v p 17)],Sm (0:Int)]) ?_
   (repeat'(first|(with_reducible apply And.intro)|(refine fun(_:True)=>?_)))<;>first|exact aq|skip) (by
   refine m_ (p:=let z0:=upQ q (k+1) (v,p);let z1:=O.row 37 none z18;let z2:=Br jj cs F B size q k;let z5:=bF B size;let z3:=bF (scF F z0) (k+1+1);let z4:=Ak z0 (k+1+1);Bn [(z2++[z1])[0]? =some (O.row 37 none z5),An [z5=z5,HfL z5],Tt,An [z4=z4,HfE z4,Sm (k+1+1)],Tt,Bn [An [Sm jj.length,Sm (Ab jj)],An [Sm cs.length,Sm (List.map sl cs)],An [Zz,Sm size,Sm (size-size)],Tt,Bn [Zz,Sm (Nat.succ k+1)]],Tt,Tt,(z2++[z1])[4]? =some z1,(z2++[z1])[4]? =some z1,Tt,An [z3=z3,HfL z3]]) ?_
   (repeat'(first|(with_reducible apply And.intro)|(refine fun(_:True)=>?_)))
   all_goals first|exact aq|exact hB|exact hS|exact hS0|exact hE|exact hE0|rfl|skip)
 have h:=Aa.of_vcH (P:=Pg) (E:=vE) vE_ok Af Qaa (n:=1000) (f:=33) (os0:=Br jj cs F B size q k) (ars:=[.ptr 2 0,i6 (s:Nat),i6 (v:Nat),u6 (p:Nat)]) (r:=[5,4])
  (S := { sl := [(8, .ptr 5 0), (9, i6 0)], os := Fe jj cs F B size (upQ q (k + 1) (v, p)) (k + 1) ++ [.row 37 none (arF x)], md := [0, 0, 1], lg := [1, 2, 3] }) (v := .tup [ar x, i6 0]) (hs := [(16, .call ⟨.tup [ar (F v p), i6 0], Ae .e 0 [.row 37 none (bF B size), .map (Ak (upQ q (k + 1) (v, p)) (k + 1 + 1)) (k + 1 + 1), .row 70 none (toC jj cs size 0 1 5 (k + 1 + 1)), .dead, .row 37 none z18, .row 37 (some 18) (bF (scF F (upQ q (k + 1) (v, p))) (k + 1 + 1))], 6, [1, 2, 3]⟩), va 29 (i6 (b : Nat)), va 30 (i6 (t : Nat)), pl 31, ld 32 (ar (B t)), fn 34 (.tup [ar x, i6 0])]) (gl := g0) (by simp) (fun i hi hno => by
   rcases(show i=0\/i=1\/i=2\/i=3 by simp at hi;omega)with rfl|rfl|rfl|rfl<;>first|rfl|(simp at hno)) (by
  refine m_ (p:=let z0:=upQ q (k+1) (v,p);let z3:=bF B size;let z1:=bF (scF F z0) (k+1+1);let z2:=Ak z0 (k+1+1);Bn [V.tup [V.agg (arF x),i6 0]=V.tup [ar x,i6 0],Aa Pg g0 (V.fn 49 []) [V.ptr 2 0,i6 v,u6 p] (pt (Ae T.e 0 (Br jj cs F B size q k)) 4 (O.row 37 none [i6 0,i6 0,i6 0,i6 0,i6 0,i6 0,i6 0,i6 0,i6 0,i6 0,i6 0,i6 0,i6 0,i6 0,i6 0,i6 0,i6 0,i6 0])) 5 (CR.mk (V.tup [ar (F v p),i6 0]) (Ae T.e 0 [O.row 37 none z3,O.map z2 (k+1+1),O.row 70 none (toC jj cs size 0 1 5 (k+1+1)),O.dead,O.row 37 none z18,O.row 37 (some 18) z1]) 6 [1,2,3]),Tt,Ai (Qac Pg) .shl 3 (i6 1) (i6 v)=some (i6 b),Ai (Qac Pg) .andNot 3 (i6 s) (i6 b)=some (i6 t),An [(0:Int)<=(t:Int),(t:Int)<(size:Int)],A6 18 (Aj (0+t*18) z3)=some (arF (B t)),Bn [TT 18,TT 18],Ac Pg g0 50 [V.agg (arF (B t)),V.agg (arF (F v p))] (V.tup [ar x,i6 0]),Tt,Bn [Zz,Sm (0:Int)],An [z3=z3,HfL z3],An [z2=z2,HfE z2,Sm (k+1+1)],Bn [An [Sm jj.length,Sm (Ab jj)],An [Sm cs.length,Sm (List.map sl cs)],An [Zz,Sm size,Sm (size-size)],Tt,Bn [Zz,Sm (Nat.succ k+1)]],Tt,An [z1=z1,HfL z1],An [Sm (arF x),TT 18]]) ?_
  (repeat'(first|(with_reducible apply And.intro)|(refine fun(_:True)=>?_)))
  all_goals first|(with_reducible exact h1 _ _)|(with_reducible exact h2 _ _)|exact aq|exact hcall|exact hB|exact hS|exact hS0|exact hE|exact hE0|exact xz|(rw[Nat.zero_add];exact htk)|exact h1 _ _|exact h2 _ _|rfl|skip)
 exact Aa.dropL (os1:=Fe jj cs F B size (upQ q (k+1) (v,p)) (k+1)) [.row 37 none (arF x)] h (by simp) ⟨HfL.sc _ (By _),trivial,trivial⟩ (Gn jj cs F B size _ (k+1) 5 (Nat.le_refl _)) (fun i hi hno=>by
   rcases(show i=0\/i=1\/i=2\/i=3 by simp at hi;omega)with rfl|rfl|rfl|rfl<;>first|rfl|(simp at hno))
end Go.Proofs.YtakfneapahohkaaDoor.Am
