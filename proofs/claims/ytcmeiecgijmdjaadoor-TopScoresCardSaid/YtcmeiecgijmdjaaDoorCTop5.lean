/- Texts behind the claim, part 5: the abstract machine, and what the functions answer. No condition. -/
import Derived.Test.YtcmeiecgijmdjaaDoorCTop4
set_option linter.unusedVariables false
set_option maxHeartbeats 4000000
set_option maxRecDepth 100000
set_option linter.unusedSimpArgs false
set_option linter.unusedSectionVars false
namespace Go.Proofs.YtcmeiecgijmdjaaDoor.Am
open Go.RowKit
abbrev w8(n:Int):V:=.int .u8 n
abbrev sl8(l:List Int):V:=.im l.length (l.map w8)
def u8s(l:List Int):Prop:=∀c∈l,0≤c∧c≤255
theorem head_8{l:List Int}{k:Nat}(h:k<l.length):headF ((l.map w8).drop (k*1))=some (w8 (l.getD k 0)):=by
 rw[Nat.mul_one,←List.map_drop,List.drop_eq_getElem_cons h,List.getD_eq_getElem?_getD,List.getElem?_eq_getElem h];rfl
theorem Qp0{l:List Int}{k:Nat}(h:k<l.length):l.getD k 0∈l:=by rw[List.getD_eq_getElem?_getD,List.getElem?_eq_getElem h];exact List.getElem_mem h
def five(f:Nat→Int):List V:=[w8 (f 0),w8 (f 1),w8 (f 2),w8 (f 3),w8 (f 4)]
def Qc4:List (Nat→Int)→List V
 |[]=>[]
 |f::l=>five f++Qc4 l
abbrev kV(ks:List (Nat→Int)):V:=.im ks.length (Qc4 ks)
theorem Ql6: ∀(ks:List (Nat→Int))(i:Nat)(f:Nat→Int),ks[i]? =some f→∃rest,(Qc4 ks).drop (i*5)=five f++rest
 |[],i,f,h=>by simp at h
 |g::ks,0,f,h=>by
  obtain rfl:g=f:=by simpa using h
  exact⟨Qc4 ks,by simp[Qc4]⟩
 |g::ks,i+1,f,h=>by
  obtain⟨rest,hr⟩:=Ql6 ks i f (by simpa using h)
  refine⟨rest,?_⟩
  rw[Qc4,Nat.add_mul,Nat.one_mul,Nat.add_comm,←List.drop_drop,List.drop_left' (by rfl),hr]
theorem lt5{j:Nat}(h:j<5):j=0∨j=1∨j=2∨j=3∨j=4:=by omega
theorem Qtt(f:Nat→Int)(rest:List V){j:Nat}(h:j<5):headF ((five f++rest).drop j)=some (w8 (f j)):=by
 rcases lt5 h with rfl|rfl|rfl|rfl|rfl<;>rfl
theorem place92{l:List V}{j:Nat}(h:j<5):placeV (Qae Pg) 72 (.imp l) (j:Int)=some (.imp (l.drop j)):=by
 rcases lt5 h with rfl|rfl|rfl|rfl|rfl<;>kernel_rfl
structure KOk(ks:List (Nat→Int)):Prop where
 bd: ∀f∈ks,∀j,j<5→0≤f j∧f j≤255
abbrev dfL(C:List Int)(ks:List (Nat→Int))(fo:Int)(M:List Int):List V:=[sl8 C,kV ks,w8 fo,sl8 M]
abbrev dfV(C:List Int)(ks:List (Nat→Int))(fo:Int)(M:List Int):V:=.agg (dfL C ks fo M)
abbrev dfO(C:List Int)(ks:List (Nat→Int))(fo:Int)(M:List Int):O:=.row 25 none (dfL C ks fo M)
def Qct(c:Int):Int:=2+c%2
theorem Qkv{C:List Int}{k:Nat}(h:k<C.length)(f:Int→Int):(C.take (k+1)).map f=(C.take k).map f++[f (C.getD k 0)]:=by
 rw[List.take_succ_eq_append_getElem h,List.map_append,List.getD_eq_getElem?_getD,List.getElem?_eq_getElem h];rfl
theorem Qp6(l:List Int)(x:Int):ints (l++[x])=ints l++[i6 x]:=by simp[ints]
abbrev n2:O:=.row 31 none [.nils,.nils]
abbrev dcS(C:List Int)(ks:List (Nat→Int))(fo:Int)(M:List Int)(k:Nat):SL:={sl:=[(1,.ptr 0 0),(2,.ptr 1 0),(3,.ptr 2 0),(4,i6 k)],os:=dfO C ks fo M::n2:: .row 31 none [owV 3 k,.nils]::owL 3 (ints ((C.take k).map Qct)) k,md:=[0,0,1]}
abbrev dcX(C:List Int)(ks:List (Nat→Int))(fo:Int)(M:List Int)(k:Nat):SL:={sl:=[(1,.ptr 0 0),(2,.ptr 1 0),(3,.ptr 2 0)],os:=dfO C ks fo M::n2:: .row 31 none [owV 3 k,.nils]::owL 3 (ints ((C.take k).map Qct)) k,md:=[0,0,1]}
theorem dc_loop(C:List Int)(ks:List (Nat→Int))(fo:Int)(M:List Int)(hC:u8s C)(n:Nat)(hn:n=min C.length 5):
  Sat Pg none 0 (at' 6 [1,1,0,1,0]) (mkSt g0 139 (dcS C ks fo M 0)) (Qaf g0 139 [(True,.exit 0,dcX C ks fo M n)]):=by
 refine Qa6 vE_ok mixed Qad (b:=at' 6 [1,1,0,1,0,0]) (by kernel_rfl) (fun k=>k≤n) (dcS C ks fo M) (fun k=>n-k) (fun k hk=>?_) 0 (Nat.zero_le _)
 by_cases hlt:k<n
 ·have h1 : k < C.length := by omega
  have hc:=hC _ (Qp0 h1)
  have hld:=head_8 h1
  have e1:(C.getD k 0).tmod 2=C.getD k 0%2:=Int.tmod_eq_emod_of_nonneg hc.1
  have hts:=Qkv h1 Qct
  have e2:Qct (C.getD k 0)=2+C.getD k 0%2:=rfl
  have hil:=Qas ((C.take k).map Qct)
  have hll:((C.take k).map Qct).length=k:=by rw[List.length_map,List.length_take];omega
  rw[e2]at hts
  have hap:=Qp6 ((C.take k).map Qct) (2+C.getD k 0%2)
  rw[←hts]at hap
  generalize C.getD k 0=c at*
  cases k with
  |zero=>
   refine .inl ⟨1,[0,1,2,4],[yes 15,yes 18,pl 27,ld 28 (w8 c),nu 29 (c%2),nu 30 (c%2),nu 31 (2+c%2),nu 21 1],1000,hlt,by omega,?_⟩
   exact m_ (p:=let z0:=(↑(0:Nat):Int);let z1:=(2:Int);let z2:=ints (List.map Qct (List.take 1 C));An [decide (z0<(↑C.length:Int))=true,decide (z0<(5:Int))=true,An [(0:Int)≤z0,z0<(↑C.length:Int)],_,_,wr .i64 (c%z1)=c%z1,wr .i64 (z1+c%z1)=z1+c%z1,wr .i64 (z0+(1:Int))=(1:Int),An [Zz,Zz,Zz,(↑(1:Nat):Int)=(1:Int),Tt],An [Sm (dfL C ks fo M),TT 4],An [Sm [V.nils,V.nils],TT 2],An [An [Zz,1=1,Tt],Tt,Tt],An [z2=[i6 (z1+c%z1)],HfL z2],Tt]) ⟨aq,aq,a_,hld,e1,a_⟩
  |succ k=>
   refine .inl ⟨k+1+1,[0,1,2,5],[yes 15,yes 18,pl 27,ld 28 (w8 c),nu 29 (c%2),nu 30 (c%2),nu 31 (2+c%2),ap 33,nu 21 (k+1+1:Nat)],1000,hlt,by omega,?_⟩
   refine Eq.mp (by kernel_rfl:(let z0:=(↑(k+1):Int);let z1:=(2:Int);let z2:=ints (List.map Qct (List.take (k+1+1) C));let z3:=ints (List.map Qct (List.take (k+1) C));let z4:=(↑(k+1+1):Int);An [decide (z0<(↑C.length:Int))=true,decide (z0<(5:Int))=true,An [(0:Int)≤z0,z0<(↑C.length:Int)],headF (List.drop ((k+1)*1) (List.map w8 C))=some (w8 c),Int.tmod c z1=c%z1,wr .i64 (c%z1)=c%z1,wr .i64 (z1+c%z1)=z1+c%z1,z3.length=(k+1)*1,k+1+1≤9223372036854775807,(k+1+1)*8≤140737488355328,wr .i64 (z0+(1:Int))=z4,An [Zz,Zz,Zz,z4=z4,Tt],An [Sm (dfL C ks fo M),TT 4],An [Sm [V.nils,V.nils],TT 2],An [An [Zz,Nat.succ k+1=k+1+1,Tt],Tt,Tt],An [z2=z3++[i6 (z1+c%z1)],HfL z2],Tt])=_) ?_
   exact au
 ·have : k = n := by omega
  subst this
  by_cases h5:k<C.length
  ·cases k with
   |zero=>omega
   |succ k=>
    refine .inr ⟨.exit 0,[0,1,2,3],dcX C ks fo M (k+1),[yes 15,no 18],1000,.inl ⟨trivial,rfl,rfl⟩,?_⟩
    refine Eq.mp (by kernel_rfl:(let z0:=ints (List.map Qct (List.take (k+1) C));An [decide ((↑(k+1):Int)<(↑C.length:Int))=true,decide ((↑(k+1):Int)<(5:Int))=false,An [Zz,Zz,Zz,Tt],An [Sm (dfL C ks fo M),TT 4],An [Sm [V.nils,V.nils],TT 2],An [An [Zz,Sm (k+1),Tt],Tt,Tt],An [z0=z0,HfL z0],Tt])=_) ?_
    exact au
  ·cases k with
   |zero=>
    refine .inr ⟨.exit 0,[0,1,2],dcX C ks fo M 0,[no 15],1000,.inl ⟨trivial,rfl,rfl⟩,?_⟩
    refine Eq.mp (by kernel_rfl:(An [decide ((↑(0:Nat):Int)<(↑C.length:Int))=false,An [Zz,Zz,Zz,Tt],An [Sm (dfL C ks fo M),TT 4],An [Sm [V.nils,V.nils],TT 2],TT 2,Tt])=_) ?_
    exact au
   |succ k=>
    refine .inr ⟨.exit 0,[0,1,2,3],dcX C ks fo M (k+1),[no 15],1000,.inl ⟨trivial,rfl,rfl⟩,?_⟩
    refine Eq.mp (by kernel_rfl:(let z0:=ints (List.map Qct (List.take (k+1) C));An [decide ((↑(k+1):Int)<(↑C.length:Int))=false,An [Zz,Zz,Zz,Tt],An [Sm (dfL C ks fo M),TT 4],An [Sm [V.nils,V.nils],TT 2],An [An [Zz,Sm (k+1),Tt],Tt,Tt],An [z0=z0,HfL z0],Tt])=_) ?_
    exact au
def Qkr(x fo prev card:Int)(j:Nat):Int:=(if 0<j∧x%8<fo%8 then prev else x)%card
def rowD(f:Nat→Int)(fo:Int)(cards:List Int):Nat→List Int
 |0=>[]
 |j+1=>rowD f fo cards j++[Qkr (f j) fo ((rowD f fo cards j).getD (j-1) 0) (cards.getD j 0) j]
theorem Qbn(f:Nat→Int)(fo:Int)(cards:List Int): ∀j,(rowD f fo cards j).length=j
 |0=>rfl
 |j+1=>by rw[rowD,List.length_append,Qbn f fo cards j];rfl
structure CdOk(cards:List Int):Prop where
 pos:1≤cards.length
 five:cards.length≤5
 each: ∀k,k<cards.length→2≤cards.getD k 0∧cards.getD k 0≤3
theorem getD_app{l:List Int}{x:Int}{t:Nat}:(l++[x]).getD t 0=if t<l.length then l.getD t 0 else if t=l.length then x else 0:=by
 rw[List.getD_eq_getElem?_getD,List.getElem?_append]
 split
 ·rw[List.getD_eq_getElem?_getD]
 ·split
  ·rename_i h;subst h;simp
  ·rw[List.getElem?_eq_none (by simp;omega)];rfl
theorem Qoh{f:Nat→Int}{fo:Int}{cards:List Int}(hc:CdOk cards): ∀j,j≤cards.length→∀t,t<j→0≤(rowD f fo cards j).getD t 0∧(rowD f fo cards j).getD t 0<cards.getD t 0
 |0,_,t,h=>absurd h (Nat.not_lt_zero _)
 | j + 1, hj, t, h => by
  have h1:=hc.each j (by omega)
  unfold rowD
  rw[getD_app,Qbn]
  by_cases ht:t<j
  ·rw[if_pos ht];exact Qoh hc j (by omega) t ht
  ·have : t = j := by omega
   subst this
   rw[if_neg ht,if_pos rfl]
   unfold Qkr
   exact⟨Int.emod_nonneg _ (by omega),Int.emod_lt_of_pos _ (by omega)⟩
abbrev dbS(i:Nat):List (Nat×V):=[(1,.ptr 0 0),(2,.ptr 1 0),(3,.ptr 2 0),(5,i6 i)]
abbrev diS(i:Nat)(q:Nat×Nat):List (Nat×V):=[(1,.ptr 0 0),(2,.ptr 1 0),(3,.ptr 2 0),(5,i6 i),(6,owV q.2 q.1),(7,i6 q.1)]
abbrev diX(i n:Nat)(h:Nat):List (Nat×V):=[(1,.ptr 0 0),(2,.ptr 1 0),(3,.ptr 2 0),(5,i6 i),(6,.sl h 0 n none)]
structure Base(C:List Int)(ks:List (Nat→Int))(fo:Int)(M:List Int)(cards:List Int)(room:Option Nat)(sp:Option Nat)(lv:V)(H:T O)(nx:Nat):Prop where
 h0:gt H 0=some (dfO C ks fo M)
 h1:gt H 1=some n2
 h2:gt H 2=some (.row 31 none [.sl 3 0 cards.length room,lv])
 h3:gt H 3=some (.row 3 sp (ints cards))
 nx:4≤nx
theorem Base.mono{C:List Int}{ks:List (Nat→Int)}{fo:Int}{M cards:List Int}{room sp:Option Nat}{lv:V}{H H':T O}{nx nx':Nat}(h:Base C ks fo M cards room sp lv H nx)(hg: ∀g,g<nx→gt H' g=gt H g)(hn:nx≤nx'):Base C ks fo M cards room sp lv H' nx':=by
 have:=h.nx
 exact⟨by rw[hg 0 (by omega)];exact h.h0,by rw[hg 1 (by omega)];exact h.h1,by rw[hg 2 (by omega)];exact h.h2,by rw[hg 3 (by omega)];exact h.h3,by omega⟩
def rowQ(H0:T O)(nx0:Nat)(c:List Int)(h:Nat)(H:T O)(nx:Nat)(_:List Nat):Prop:=(∀g,g<nx0→gt H g=gt H0 g)∧nx0≤h∧h<nx∧gt H h=some (.row 3 (some 1) (ints c))
theorem Qm5{H:T O}{h:Nat}{t:Nat}{sp:Option Nat}{x:V}{room:Option Nat}(hg:gt H h=some (.row t sp [x])):srcV H 1 (.sl h 0 1 room)=some (1,[x]):=by
 rw[Qaw]at hg
 unfold srcV
 dsimp only
 rw[hg]
 rfl
theorem di_loop(C:List Int)(ks:List (Nat→Int))(fo:Int)(M cards:List Int)(room sp:Option Nat)(lv:V)(i:Nat)(f:Nat→Int)(hf:ks[i]? =some f)(hK:KOk ks)(hfo:0≤fo∧fo≤255)(hc:CdOk cards)(H0:T O)(nx0:Nat)(lg0:List Nat)(hB:Base C ks fo M cards room sp lv H0 nx0):
  Sat Pg none 0 (at' 6 [1,1,1,1,0,1,0,0,1,0,0,1,0,1,0]) (mkSo g0 139 (diS i (0,0)) H0 nx0 lg0) (Qmu g0 139 (.exit 4) (diX i cards.length) (rowQ H0 nx0 (rowD f fo cards cards.length))):=by
 have h5:=hc.five
 have hi:i<ks.length:=(List.getElem?_eq_some_iff.1 hf).1
 obtain⟨rest,hrest⟩:=Ql6 ks i f hf
 have key:=Qmi (c:=at' 6 [1,1,1,1,0,1,0,0,1,0,0,1,0,1,0]) (b:=at' 6 [1,1,1,1,0,1,0,0,1,0,0,1,0,1,0,0]) (by kernel_rfl) (k:=139) (gl:=g0) (fun(q:Nat×Nat)(M':Mem)=>q.1≤cards.length∧nx0≤M'.nx∧(∀g,g<nx0→gt M'.H g=gt H0 g)∧(0<q.1→nx0≤q.2∧q.2<M'.nx∧gt M'.H q.2=some (.row 3 (some 1) (ints (rowD f fo cards q.1))))) (diS i) (fun q=>cards.length-q.1) (fun e sl M'=>e= .exit 4∧∃h,sl=diX i cards.length h∧rowQ H0 nx0 (rowD f fo cards cards.length) h M'.H M'.nx M'.lg) (fun q H nx lg G hI hN hE _=>?_) (0,0) ⟨H0,nx0,lg0⟩ ⟨Nat.zero_le _,Nat.le_refl _,fun _ _=>rfl,fun h=>absurd h (Nat.lt_irrefl _)⟩
 ·refine key.mono ?_
  rintro e st ⟨sl,M',rfl,rfl,h,rfl,hQ⟩
  exact⟨h,M'.H,M'.nx,M'.lg,rfl,rfl,hQ⟩
 ·obtain ⟨j, hcr⟩ := q
  obtain⟨hj,hnx,hg,hrow⟩:=hI
  dsimp only at hj hnx hg hrow hN
  have hB':=hB.mono hg hnx
  obtain⟨b0,b1,b2,b3,b4⟩:=hB'
  by_cases hlt:j<cards.length
  ·have hx := hK.bd f (List.mem_of_getElem? hf) j (by omega)
   have hcd:=hc.each j hlt
   have hp92:=@place92 ((Qc4 ks).drop (i*5)) j (by omega)
   have hhd:headF (((Qc4 ks).drop (i*5)).drop j)=some (w8 (f j)):=by rw[hrest];exact Qtt f rest (by omega)
   have hldc:=@Qak cards j hlt
   have hnext:rowD f fo cards (j+1)=rowD f fo cards j++[Qkr (f j) fo ((rowD f fo cards j).getD (j-1) 0) (cards.getD j 0) j]:=rfl
   have hrl:=Qbn f fo cards j
   have hrb:=fun t ht=>@Qoh f fo cards hc j (by omega) t ht
   have hN1:=fun h' H nx lg h1 h2 h3 h4 h5=>hN (j+1,h') H nx lg ⟨by dsimp only;omega,h1,h2,fun _=>⟨h3,h4,h5⟩⟩ (by dsimp only;omega)
   dsimp only at hN1
   rw[hnext]at hN1
   clear hnext hN hE hrest
   generalize rowD f fo cards j=c at*
   generalize hfx:f j=x at*
   generalize cards.getD j 0=cd at*
   have e1:x.tmod 8=x%8:=Int.tmod_eq_emod_of_nonneg hx.1
   have e2:fo.tmod 8=fo%8:=Int.tmod_eq_emod_of_nonneg hfo.1
   cases j with
   |zero=>
    have hc0:c=[]:=List.eq_nil_of_length_eq_zero hrl
    subst hc0
    have hst:Qkr x fo (([]:List Int).getD (0-1) 0) cd 0=x%cd:=by unfold Qkr;rw[if_neg (by omega)]
    rw[hst]at hN1
    have e3:binV (Qae Pg) .rem 3 (i6 x) (i6 cd)=some (i6 (x%cd)):=by rw[rem6 (by omega),Int.tmod_eq_emod_of_nonneg hx.1]
    refine⟨[lo_ 54 (.row 31 none [.sl 3 0 cards.length room,lv]) (.sl 3 0 cards.length room),yes 56,lo_ 60 (dfO C ks fo M) (kV ks),pl 63,va 64 (.imp (((Qc4 ks).drop (i*5)).drop 0)),ld 65 (w8 x),nu 66 x,lo_ 86 (.row 31 none [.sl 3 0 cards.length room,lv]) (.sl 3 0 cards.length room),pl 88,lo_ 89 (.row 3 sp (ints cards)) (i6 cd),va 90 (i6 (x%cd)),(92,.an 1 [i6 (x%cd)]),nu 58 1,toO (diS i (1,nx+1))],1000,?_⟩
    refine m_ (p:=let z0:=V.sl 3 0 cards.length room;let z1:=(↑(0:Nat):Int);let z3:=i6 (x%cd);let z7:=(↑cards.length:Int);let z4:=pt H nx (O.row 3 none [z3]);let z5:=headF (dropF (0+0) [z0,lv]);An [_,z5=some z0,decide (z1<z7)=true,_,headF (dropF 1 (dfL C ks fo M))=some (kV ks),An [(0:Int)≤(↑i:Int),(↑i:Int)<(↑ks.length:Int)],_,_,wr .i64 x=x,_,z5=some z0,An [(0:Int)≤z1,z1<z7],_,headF (dropF (0+0*1) (ints cards))=some (i6 cd),_,An [srcV z4 1 (V.sl nx 0 1 (some 0))=some (1,[z3]),1≤9223372036854775807,1*8≤140737488355328],wr .i64 (z1+(1:Int))=(1:Int),G Ex.normal (diS i (1,nx+1)) (pt z4 (nx+1) (O.row 3 (some 1) [z3])) (nx+1+1) ([]++lg),Sm (V.ptr 0 0),Sm (V.ptr 1 0),Sm (V.ptr 2 0),Sm (i6 ↑i),V.sl (nx+1) 0 1 none=owV (nx+1) 1,i6 1=i6 ↑(1:Nat),Tt]) ⟨b2,(by rfl),aq,b0,(by rfl),a_,hp92,hhd,aq,b2,(by rfl),a_,b3,(by (rw[Qam,Nat.zero_add];exact hldc)),e3,⟨Qm5 (t:=3) (sp:=none) ((Qa2 _ _ _ _).trans ((if_pos rfl).trans (by kernel_rfl))),a_⟩,aq,?_,a_⟩
    (repeat'(first|(with_reducible apply And.intro)|(refine fun(_:True)=>?_)))<;>first|exact aq|skip
    all_goals first|rfl|(rw[Qam,Nat.zero_add];exact hldc)|exact Qm5 (t:=3) (sp:=none) ((Qa2 _ _ _ _).trans ((if_pos rfl).trans (by kernel_rfl)))|skip
    refine hN1 (nx+1) _ _ _ ?_ (fun g hg'=>?_) ?_ ?_ ?_
    ·omega
    ·rw[Qa2,if_neg (by omega),Qa2,if_neg (by omega)];exact hg g hg'
    ·omega
    ·omega
    ·rw[Qa2,if_pos rfl];rfl
   | succ j =>
    obtain⟨r1,r2,r3⟩:=hrow (by omega)
    have hap:=Qp6 c
    have hil:=Qas c
    have hjb:=hrb j (by omega)
    have hldp:=@Qak c j (by omega)
    have hsub:j+1-1=j:=by omega
    rw[hsub]at hN1
    by_cases hlt8:x%8<fo%8
    ·have hst : Qkr x fo (c.getD j 0) cd (j + 1) = c.getD j 0 % cd := by unfold Qkr; rw [if_pos ⟨by omega, hlt8⟩]
     rw[hst]at hN1
     generalize c.getD j 0=y at*
     have e3:binV (Qae Pg) .rem 3 (i6 y) (i6 cd)=some (i6 (y%cd)):=by rw[rem6 (by omega),Int.tmod_eq_emod_of_nonneg hjb.1]
     have hap:=hap (y%cd)
     generalize y%cd=z at*
     refine⟨[lo_ 54 (.row 31 none [.sl 3 0 cards.length room,lv]) (.sl 3 0 cards.length room),yes 56,lo_ 60 (dfO C ks fo M) (kV ks),pl 63,va 64 (.imp (((Qc4 ks).drop (i*5)).drop (j+1))),ld 65 (w8 x),nu 66 x,yes 68,nu 71 (x%8),lo_ 73 (dfO C ks fo M) (w8 fo),nu 74 (fo%8),nu 75 (fo%8),yes 76,nu 80 j,pl 81,lo_ 82 (.row 3 (some 1) (ints c)) (i6 y),lo_ 86 (.row 31 none [.sl 3 0 cards.length room,lv]) (.sl 3 0 cards.length room),pl 88,lo_ 89 (.row 3 sp (ints cards)) (i6 cd),va 90 (i6 z),(92,.ao (.row 3 (some 1) (ints c)) 1 [i6 z]),nu 58 (j+1+1:Nat),toO (diS i (j+1+1,nx+1))],1000,?_⟩
     refine m_ (p:=let z0:=V.sl 3 0 cards.length room;let z1:=(↑(j+1):Int);let z2:=pt H nx (O.row 3 none [i6 z]);let z3:=List.drop (i*5) (Qc4 ks);let z4:=(8:Int);let z5:=some (O.row 3 (some 1) (ints c));let z9:=(↑cards.length:Int);let y0:=(0:Int);let y1:=(↑j:Int);let z6:=headF (dropF (0+0) [z0,lv]);let z7:=some (O.row 31 none [z0,lv]);let z8:=List.drop (j+1) z3;An [gt H 2=z7,z6=some z0,decide (z1<z9)=true,gt H 0=some (dfO C ks fo M),headF (dropF 1 (dfL C ks fo M))=some (kV ks),An [y0≤(↑i:Int),(↑i:Int)<(↑ks.length:Int)],placeV (Qae Pg) 72 (V.imp z3) z1=some (V.imp z8),headF z8=some (w8 x),wr .i64 x=x,decide (z1>y0)=true,Int.tmod x z4=x%z4,gt H 0=some (dfO C ks fo M),headF (dropF (0+2) (dfL C ks fo M))=some (w8 fo),Int.tmod fo z4=fo%z4,wr .i64 (fo%z4)=fo%z4,decide (x%z4<fo%z4)=true,wr .i64 (z1-(1:Int))=y1,An [y0≤y1,y1<z1],gt H hcr=z5,headF (dropF (0+j*1) (ints c))=some (i6 y),gt H 2=z7,z6=some z0,An [y0≤z1,z1<z9],gt H 3=some (O.row 3 sp (ints cards)),headF (dropF (0+(j+1)*1) (ints cards))=some (i6 cd),binV (Qae Pg) .rem 3 (i6 y) (i6 cd)=some (i6 z),srcV z2 1 (V.sl nx 0 1 (some 0))=some (1,[i6 z]),gt z2 hcr=z5,List.length (ints c)=(j+1)*1,j+1+1≤9223372036854775807,(j+1+1)*8≤140737488355328,wr .i64 (z1+(1:Int))=(↑(j+1+1):Int),G Ex.normal (diS i (j+1+1,nx+1)) (pt (pt z2 hcr O.dead) (nx+1) (O.row 3 (some 1) (ints c++[i6 z]))) (nx+1+1) ([hcr]++lg),Sm (V.ptr 0 0),Sm (V.ptr 1 0),Sm (V.ptr 2 0),Sm (i6 ↑i),V.sl (nx+1) 0 (j+1+1) none=owV (nx+1) (j+1+1),Sm (i6 ↑(j+1+1)),Tt]) ?_
     (repeat'(first|(with_reducible apply And.intro)|(refine fun(_:True)=>?_)))<;>first|exact aq|skip
     all_goals first|rfl|omega|(rw[Qam,Nat.zero_add];first|exact hldc|exact hldp)|exact Qm5 (t:=3) (sp:=none) ((Qa2 _ _ _ _).trans ((if_pos rfl).trans (by kernel_rfl)))|exact gq|skip
     refine hN1 (nx+1) _ _ _ ?_ (fun g hg'=>?_) ?_ ?_ ?_
     ·omega
     ·rw[Qa2,if_neg (by omega),Qa2,if_neg (by omega),Qa2,if_neg (by omega)];exact hg g hg'
     ·omega
     ·omega
     ·rw[Qa2,if_pos rfl,hap]
    ·have hst : Qkr x fo (c.getD j 0) cd (j + 1) = x % cd := by unfold Qkr; rw [if_neg (fun h => hlt8 h.2)]
     rw[hst]at hN1
     have e3:binV (Qae Pg) .rem 3 (i6 x) (i6 cd)=some (i6 (x%cd)):=by rw[rem6 (by omega),Int.tmod_eq_emod_of_nonneg hx.1]
     have hap:=hap (x%cd)
     generalize hz:x%cd=z at*
     refine⟨[lo_ 54 (.row 31 none [.sl 3 0 cards.length room,lv]) (.sl 3 0 cards.length room),yes 56,lo_ 60 (dfO C ks fo M) (kV ks),pl 63,va 64 (.imp (((Qc4 ks).drop (i*5)).drop (j+1))),ld 65 (w8 x),nu 66 x,yes 68,nu 71 (x%8),lo_ 73 (dfO C ks fo M) (w8 fo),nu 74 (fo%8),nu 75 (fo%8),no 76,lo_ 86 (.row 31 none [.sl 3 0 cards.length room,lv]) (.sl 3 0 cards.length room),pl 88,lo_ 89 (.row 3 sp (ints cards)) (i6 cd),va 90 (i6 z),(92,.ao (.row 3 (some 1) (ints c)) 1 [i6 z]),nu 58 (j+1+1:Nat),toO (diS i (j+1+1,nx+1))],1000,?_⟩
     refine m_ (p:=let z0:=V.sl 3 0 cards.length room;let z1:=(↑(j+1):Int);let z2:=pt H nx (O.row 3 none [i6 z]);let z3:=List.drop (i*5) (Qc4 ks);let z4:=(8:Int);let z8:=(↑cards.length:Int);let z5:=headF (dropF (0+0) [z0,lv]);let z6:=some (O.row 31 none [z0,lv]);let z7:=List.drop (j+1) z3;An [gt H 2=z6,z5=some z0,decide (z1<z8)=true,gt H 0=some (dfO C ks fo M),headF (dropF 1 (dfL C ks fo M))=some (kV ks),An [(0:Int)≤(↑i:Int),(↑i:Int)<(↑ks.length:Int)],placeV (Qae Pg) 72 (V.imp z3) z1=some (V.imp z7),headF z7=some (w8 x),wr .i64 x=x,decide (z1>(0:Int))=true,Int.tmod x z4=x%z4,gt H 0=some (dfO C ks fo M),headF (dropF (0+2) (dfL C ks fo M))=some (w8 fo),Int.tmod fo z4=fo%z4,wr .i64 (fo%z4)=fo%z4,decide (x%z4<fo%z4)=false,gt H 2=z6,z5=some z0,An [(0:Int)≤z1,z1<z8],gt H 3=some (O.row 3 sp (ints cards)),headF (dropF (0+(j+1)*1) (ints cards))=some (i6 cd),binV (Qae Pg) .rem 3 (i6 x) (i6 cd)=some (i6 z),srcV z2 1 (V.sl nx 0 1 (some 0))=some (1,[i6 z]),gt z2 hcr=some (O.row 3 (some 1) (ints c)),List.length (ints c)=(j+1)*1,j+1+1≤9223372036854775807,(j+1+1)*8≤140737488355328,wr .i64 (z1+(1:Int))=(↑(j+1+1):Int),G Ex.normal (diS i (j+1+1,nx+1)) (pt (pt z2 hcr O.dead) (nx+1) (O.row 3 (some 1) (ints c++[i6 z]))) (nx+1+1) ([hcr]++lg),Sm (V.ptr 0 0),Sm (V.ptr 1 0),Sm (V.ptr 2 0),Sm (i6 ↑i),V.sl (nx+1) 0 (j+1+1) none=owV (nx+1) (j+1+1),Sm (i6 ↑(j+1+1)),Tt]) ?_
     (repeat'(first|(with_reducible apply And.intro)|(refine fun(_:True)=>?_)))<;>first|exact aq|skip
     all_goals first|rfl|omega|(rw[Qam,Nat.zero_add];first|exact hldc|exact hldp)|exact Qm5 (t:=3) (sp:=none) ((Qa2 _ _ _ _).trans ((if_pos rfl).trans (by kernel_rfl)))|exact gq|skip
     refine hN1 (nx+1) _ _ _ ?_ (fun g hg'=>?_) ?_ ?_ ?_
     ·omega
     ·rw[Qa2,if_neg (by omega),Qa2,if_neg (by omega),Qa2,if_neg (by omega)];exact hg g hg'
     ·omega
     ·omega
     ·rw[Qa2,if_pos rfl,hap]
  ·have : j = cards.length := by omega
   subst this
   obtain⟨r1,r2,r3⟩:=hrow hc.pos
   have hX:=hE 4 (diX i cards.length hcr) H nx lg ⟨rfl,hcr,rfl,hg,r1,r2,r3⟩
   have hpos:=hc.pos
   generalize rowD f fo cards cards.length=c at*
   cases hn:cards.length with
   |zero=>omega
   |succ n=>
    rw[hn]at hX b2
    refine⟨[lo_ 54 (.row 31 none [.sl 3 0 (n+1) room,lv]) (.sl 3 0 (n+1) room),no 56,toO (diX i (n+1) hcr)],1000,?_⟩
    clear hn
    refine Eq.mp (by kernel_rfl:(let z0:=V.sl 3 0 (n+1) room;An [gt H 2=some (O.row 31 none [z0,lv]),headF (dropF (0+0) [z0,lv])=some z0,decide ((↑(n+1):Int)<(↑(n+1):Int))=false,G (Ex.exit 4) (diX i (n+1) hcr) H nx lg,Sm (V.ptr 0 0),Sm (V.ptr 1 0),Sm (V.ptr 2 0),Sm (i6 ↑i),owV hcr (n+1)=V.sl hcr 0 (n+1) none,Tt])=_) ?_
    exact au
structure Rows(n lo:Nat)(rows:List (List Int))(hl:Nat)(hs:List Nat)(H:T O)(nx:Nat):Prop where
 len:hs.length=rows.length
 list:0<rows.length→lo≤hl∧hl<nx∧hl∉hs∧gt H hl=some (.row 28 (some 1) (hs.map fun h=>V.sl h 0 n none))
 nodup:hs.Nodup
 row: ∀(i h:Nat),hs[i]? =some h→lo≤h∧h<nx∧∃c,rows[i]? =some c∧c.length=n∧gt H h=some (.row 3 (some 1) (ints c))
structure DH(C:List Int)(ks:List (Nat→Int))(fo:Int)(M cards:List Int)(room sp:Option Nat)(rows:List (List Int))(hl:Nat)(hs:List Nat)(H:T O)(nx:Nat):Prop where
 base:Base C ks fo M cards room sp (owV hl rows.length) H nx
 rows:Rows cards.length 4 rows hl hs H nx
theorem rows_new{n lo:Nat}{rows:List (List Int)}{hl h:Nat}{hs:List Nat}{H H':T O}{nx nx' hl':Nat}{c:List Int}(hR:Rows n lo rows hl hs H nx)(hn:nx≤h∧h<hl'∧hl'<nx')(hlo:lo≤nx)(hc:c.length=n)(h1:gt H' h=some (.row 3 (some 1) (ints c)))(h2:gt H' hl'=some (.row 28 (some 1) (hs.map (fun h=>V.sl h 0 n none)++[.sl h 0 n none])))(h3: ∀g∈hs,gt H' g=gt H g):Rows n lo (rows++[c]) hl' (hs++[h]) H' nx':=by
 have hlt: ∀g∈hs,g<nx:=fun g hg=>by
  obtain⟨i,hi,rfl⟩:=List.getElem_of_mem hg
  exact(hR.row i _ (List.getElem?_eq_getElem hi)).2.1
 refine⟨by simp[hR.len],fun _=>⟨by omega,by omega,?_,by rw[h2,List.map_append];rfl⟩,?_,fun i g hg=>?_⟩
 ·rw [List.mem_append, List.mem_singleton]
  rintro(hm|hm)
  ·have:=hlt _ hm;omega
  ·omega
 ·rw [List.nodup_append]
  refine⟨hR.nodup,by simp,fun a ha b hb=>?_⟩
  obtain rfl:=List.mem_singleton.1 hb
  have:=hlt a ha
  omega
 ·rw [List.getElem?_append] at hg
  split at hg
  ·rename_i hi
   obtain⟨a1,a2,d,a3,a4,a5⟩:=hR.row i g hg
   exact⟨a1,by omega,d,by rw[List.getElem?_append_left (by rw[←hR.len];exact hi)];exact a3,a4,by rw[h3 g (List.mem_of_getElem? hg)];exact a5⟩
  ·rename_i hi
   have hi2:i=hs.length:=by
    have:=(List.getElem?_eq_some_iff.1 hg).1
    simp at this;omega
   subst hi2
   rw[Nat.sub_self]at hg
   cases hg
   exact⟨by omega,by omega,c,by rw[hR.len];simp,hc,h1⟩
abbrev drows(ks:List (Nat→Int))(fo:Int)(cards:List Int)(m:Nat):List (List Int):=(ks.take m).map fun f=>rowD f fo cards cards.length
theorem Qrg{ks:List (Nat→Int)}{fo:Int}{cards:List Int}{m:Nat}{f:Nat→Int}(h:ks[m]? =some f):drows ks fo cards (m+1)=drows ks fo cards m++[rowD f fo cards cards.length]:=by
 unfold drows
 rw[List.take_add_one,h,List.map_append];rfl
theorem dr_loop(C:List Int)(ks:List (Nat→Int))(fo:Int)(M cards:List Int)(room sp:Option Nat)(hK:KOk ks)(hfo:0≤fo∧fo≤255)(hc:CdOk cards)(m:Nat)(hm:m=min ks.length 40)(H0:T O)(nx0:Nat)(lg0:List Nat)(hB:Base C ks fo M cards room sp .nils H0 nx0):
  Sat Pg none 0 (at' 6 [1,1,1,1,0,1,0]) (mkSo g0 139 (dbS 0) H0 nx0 lg0) (Qmu g0 139 (.exit 2) (fun _=>[(1,.ptr 0 0),(2,.ptr 1 0),(3,.ptr 2 0)]) (fun hl H nx lg=>∃hs,DH C ks fo M cards room sp (drows ks fo cards m) hl hs H nx)):=by
 have key:=Qmi (c:=at' 6 [1,1,1,1,0,1,0]) (b:=at' 6 [1,1,1,1,0,1,0,0]) (by kernel_rfl) (k:=139) (gl:=g0) (fun(q:Nat×Nat×List Nat)(M':Mem)=>q.1≤m∧DH C ks fo M cards room sp (drows ks fo cards q.1) q.2.1 q.2.2 M'.H M'.nx) (fun q=>dbS q.1) (fun q=>m-q.1) (fun e sl M'=>e= .exit 2∧sl=[(1,.ptr 0 0),(2,.ptr 1 0),(3,.ptr 2 0)]∧∃hl hs,DH C ks fo M cards room sp (drows ks fo cards m) hl hs M'.H M'.nx) (fun q H nx lg G hI hN hE _=>?_) (0,0,[]) ⟨H0,nx0,lg0⟩ ⟨Nat.zero_le _,hB,rfl,fun h=>absurd h (Nat.lt_irrefl _),List.nodup_nil,fun i h hi=>by simp at hi⟩
 ·refine key.mono ?_
  rintro e st ⟨sl,M',rfl,rfl,rfl,hl,hs,hQ⟩
  exact⟨hl,M'.H,M'.nx,M'.lg,rfl,rfl,hs,hQ⟩
 ·obtain ⟨i, hl, hs⟩ := q
  obtain⟨hi,hD⟩:=hI
  dsimp only at hi hD hN
  have hrl:(drows ks fo cards i).length=i:=by simp only[drows,List.length_map,List.length_take];omega
  obtain⟨hB',hR⟩:=hD
  rw[hrl]at hB'
  obtain⟨b0,b1,b2,b3,b4⟩:=hB'
  by_cases hlt:i<m
  ·have hki : ks[i]? = some ks[i] := List.getElem?_eq_getElem (by omega)
   have hkl:i<ks.length:=by omega
   generalize ks[i]=f at*
   have hin:=di_loop C ks fo M cards room sp (owV hl i) i f hki hK hfo hc H nx lg ⟨b0,b1,b2,b3,b4⟩
   have hcl:=Qbn f fo cards cards.length
   have hsucc:=@Qrg ks fo cards i f hki
   have hN1:=fun hl' h H nx lg h1=>hN (i+1,hl',hs++[h]) H nx lg ⟨by dsimp only;omega,h1⟩ (by dsimp only;omega)
   dsimp only at hN1
   rw[hsucc]at hN1
   have hpos:=hc.pos
   generalize rowD f fo cards cards.length=c at*
   generalize drows ks fo cards i=rows at*
   have hrlen:(rows++[c]).length=i+1:=by simp[hrl]
   have hsl:hs.length=i:=by rw[hR.len,hrl]
   have hhs: ∀g∈hs,g<nx∧4≤g:=fun g hg=>by
    obtain⟨t,ht,rfl⟩:=List.getElem_of_mem hg
    have:=hR.row t _ (List.getElem?_eq_getElem ht)
    exact⟨this.2.1,this.1⟩
   have hfin: ∀(h:Nat)(H1 H':T O)(nx' hl':Nat)(lg':List Nat),rowQ H nx c h H1 (hl'-1) []→gt H' 0=some (dfO C ks fo M)→gt H' 1=some n2→gt H' 2=some (.row 31 none [.sl 3 0 cards.length room,.sl hl' 0 (i+1) none])→gt H' 3=some (.row 3 sp (ints cards))→hl'<nx'→gt H' hl'=some (.row 28 (some 1) (hs.map (fun h=>V.sl h 0 cards.length none)++[.sl h 0 cards.length none]))→(∀g,g<hl'-1→4≤g→g≠hl∨i=0→gt H' g=gt H1 g)→G .normal (dbS (i+1)) H' nx' lg':=by
    intro h H1 H' nx' hl' lg' hQ q0 q1 q2 q3 q4 q5 q6
    obtain⟨a1,a2,a3,a4⟩:=hQ
    refine hN1 hl' h H' nx' lg' ⟨⟨q0,q1,by rw[hrlen];exact q2,q3,by omega⟩,?_⟩
    have hne: ∀g∈hs,g≠hl∨i=0:=fun g hg=>by
     by_cases h0:i=0
     ·exact .inr h0
     ·refine .inl ?_
      rintro rfl
      exact(hR.list (by omega)).2.2.1 hg
    refine rows_new hR ⟨a2,by omega,q4⟩ b4 hcl ?_ q5 (fun g hg=>?_)
    ·rw [q6 h a3 (by omega) ?_]; exact a4
     by_cases h0:i=0
     ·exact .inr h0
     ·refine .inl ?_
      have:=(hR.list (by omega)).2.1
      omega
    ·have h1 := hhs g hg
     rw[q6 g (by omega) h1.2 (hne g hg)];exact a1 g h1.1
   cases i with
   | zero =>
    refine⟨[lo_ 43 (dfO C ks fo M) (kV ks),yes 45,yes 48,(0,.loopM (diS 0 (0,0)) (.exit 4) (diX 0 cards.length) (rowQ H nx c) (fun h H' nx' lg'=>[lo_ 94 (.row 31 none [.sl 3 0 cards.length room,.nils]) .nils,(97,.an 1 [.sl h 0 cards.length none]),so (.row 31 none [.sl 3 0 cards.length room,.nils]) [.sl 3 0 cards.length room,.sl (nx'+1) 0 1 none],nu 51 1,toO (dbS 1)]))],1000,?_⟩
    refine Eq.mp (by kernel_rfl:(let z0:=V.sl 3 0 cards.length room;let z1:=(↑(0:Nat):Int);let z3:=i6 ↑(0:Nat);let z4:=V.ptr 0 0;let z5:=V.ptr 1 0;let z6:=V.ptr 2 0;let z7:=[z0,V.nils];let z2:=some (O.row 31 none z7);An [gt H 0=some (dfO C ks fo M),headF (dropF 1 (dfL C ks fo M))=some (kV ks),decide (z1<(↑ks.length:Int))=true,decide (z1<(40:Int))=true,An [z4=z4,z5=z5,z6=z6,z3=z3,V.nils=owV 0 0,i6 0=z3,Tt],Sat Pg none 0 (at' 6 [1,1,1,1,0,1,0,0,1,0,0,1,0,1,0]) (mkSo g0 139 (diS 0 (0,0)) H nx lg) (Qmu g0 139 (Ex.exit 4) (diX 0 cards.length) (rowQ H nx c)),∀(h:Nat)(H_1:T O)(nx_1:Nat)(lg:List Nat),(∀(g:Nat),g<nx→gt H_1 g=gt H g)∧nx≤h∧h<nx_1∧gt H_1 h=some (O.row 3 (some 1) (ints c))→An [gt H_1 2=z2,headF (dropF 1 z7)=some V.nils,An [srcV (pt H_1 nx_1 (O.row 28 none [V.sl h 0 cards.length none])) 1 (V.sl nx_1 0 1 (some 0))=some (1,[V.sl h 0 cards.length none]),1≤9223372036854775807,1*24≤140737488355328],An [gt (pt (pt H_1 nx_1 (O.row 28 none [V.sl h 0 cards.length none])) (nx_1+1) (O.row 28 (some 1) [V.sl h 0 cards.length none])) 2=z2,layE 1 z7 [V.sl (nx_1+1) 0 1 none]=some [z0,V.sl (nx_1+1) 0 1 none]],wr .i64 (z1+(1:Int))=(1:Int),G Ex.normal (dbS 1) (pt (pt (pt H_1 nx_1 (O.row 28 none [V.sl h 0 cards.length none])) (nx_1+1) (O.row 28 (some 1) [V.sl h 0 cards.length none])) 2 (O.row 31 none [z0,V.sl (nx_1+1) 0 1 none])) (nx_1+1+1) ([2]++([]++lg)),z4=z4,z5=z5,z6=z6,i6 1=i6 ↑(1:Nat),Tt]])=_) ?_
    refine⟨?_,?_,?_,?_,?_,?_,?_⟩
    all_goals first|exact b0|rfl|(exact decide_eq_true (by omega))|exact⟨rfl,rfl,rfl,rfl,rfl,rfl,trivial⟩|exact hin|skip
    intro h H1 nx1 lg1 hQ
    obtain⟨a1,a2,a3,a4⟩:=hQ
    have g0':gt H1 0=some (dfO C ks fo M):=(a1 0 (by omega)).trans b0
    have g1':gt H1 1=some n2:=(a1 1 (by omega)).trans b1
    have g2':=(a1 2 (by omega)).trans b2
    have g3':gt H1 3=some (.row 3 sp (ints cards)):=(a1 3 (by omega)).trans b3
    (repeat'(first|(with_reducible apply And.intro)|(refine fun(_:True)=>?_)))<;>first|exact aq|skip
    all_goals first|rfl|exact g2'|omega|exact Qm5 (t:=28) (sp:=none) ((Qa2 _ _ _ _).trans ((if_pos rfl).trans (by kernel_rfl)))|exact gq|(rw[List.length_map];omega)|skip
    refine hfin h H1 _ _ (nx1+1) _ ⟨a1,a2,a3,a4⟩ ?_ ?_ ?_ ?_ ?_ ?_ ?_
    ·exact gq
    ·exact gq
    ·exact gq
    ·exact gq
    ·omega
    ·rw[Qa2,if_neg (by omega),Qa2,if_pos rfl,List.eq_nil_of_length_eq_zero hsl];rfl
    ·intro g hg1 hg2 hg3
     rw[Qa2,if_neg (by omega),Qa2,if_neg (by omega),Qa2,if_neg (by omega)]
   | succ i =>
    refine⟨[lo_ 43 (dfO C ks fo M) (kV ks),yes 45,yes 48,(0,.loopM (diS (i+1) (0,0)) (.exit 4) (diX (i+1) cards.length) (rowQ H nx c) (fun h H' nx' lg'=>[lo_ 94 (.row 31 none [.sl 3 0 cards.length room,.sl hl 0 (i+1) none]) (.sl hl 0 (i+1) none),(97,.ao (.row 28 (some 1) (hs.map fun h=>V.sl h 0 cards.length none)) 1 [.sl h 0 cards.length none]),so (.row 31 none [.sl 3 0 cards.length room,.sl hl 0 (i+1) none]) [.sl 3 0 cards.length room,.sl (nx'+1) 0 (i+1+1) none],nu 51 (i+1+1:Nat),toO (dbS (i+1+1))]))],1000,?_⟩
    refine Eq.mp (by kernel_rfl:(let z1:=V.sl 3 0 cards.length room;let z2:=(↑(i+1):Int);let z3:=V.sl hl 0 (i+1) none;let z4:=V.ptr 0 0;let z5:=V.ptr 1 0;let z6:=V.ptr 2 0;let z0:=[z1,z3];let z7:=some (O.row 31 none z0);An [gt H 0=some (dfO C ks fo M),headF (dropF 1 (dfL C ks fo M))=some (kV ks),decide (z2<(↑ks.length:Int))=true,decide (z2<(40:Int))=true,An [z4=z4,z5=z5,z6=z6,Sm (i6 ↑(i+1)),V.nils=owV 0 0,i6 0=i6 ↑(0:Nat),Tt],Sat Pg none 0 (at' 6 [1,1,1,1,0,1,0,0,1,0,0,1,0,1,0]) (mkSo g0 139 (diS (i+1) (0,0)) H nx lg) (Qmu g0 139 (Ex.exit 4) (diX (i+1) cards.length) (rowQ H nx c)),∀(h:Nat)(H_1:T O)(nx_1:Nat)(lg:List Nat),(∀(g:Nat),g<nx→gt H_1 g=gt H g)∧nx≤h∧h<nx_1∧gt H_1 h=some (O.row 3 (some 1) (ints c))→An [gt H_1 2=z7,headF (dropF 1 z0)=some z3,srcV (pt H_1 nx_1 (O.row 28 none [V.sl h 0 cards.length none])) 1 (V.sl nx_1 0 1 (some 0))=some (1,[V.sl h 0 cards.length none]),gt (pt H_1 nx_1 (O.row 28 none [V.sl h 0 cards.length none])) hl=some (O.row 28 (some 1) (List.map (fun h=>V.sl h 0 cards.length none) hs)),List.length (List.map (fun h=>V.sl h 0 cards.length none) hs)=(i+1)*1,i+1+1≤9223372036854775807,(i+1+1)*24≤140737488355328,An [gt (pt (pt (pt H_1 nx_1 (O.row 28 none [V.sl h 0 cards.length none])) hl O.dead) (nx_1+1) (O.row 28 (some 1) (List.map (fun h=>V.sl h 0 cards.length none) hs++[V.sl h 0 cards.length none]))) 2=z7,layE 1 z0 [V.sl (nx_1+1) 0 (i+1+1) none]=some [z1,V.sl (nx_1+1) 0 (i+1+1) none]],wr .i64 (z2+(1:Int))=(↑(i+1+1):Int),G Ex.normal (dbS (i+1+1)) (pt (pt (pt (pt H_1 nx_1 (O.row 28 none [V.sl h 0 cards.length none])) hl O.dead) (nx_1+1) (O.row 28 (some 1) (List.map (fun h=>V.sl h 0 cards.length none) hs++[V.sl h 0 cards.length none]))) 2 (O.row 31 none [z1,V.sl (nx_1+1) 0 (i+1+1) none])) (nx_1+1+1) ([2]++([hl]++lg)),z4=z4,z5=z5,z6=z6,Sm (i6 ↑(i+1+1)),Tt]])=_) ?_
    refine⟨?_,?_,?_,?_,?_,?_,?_⟩
    all_goals first|exact b0|rfl|(exact decide_eq_true (by omega))|exact⟨rfl,rfl,rfl,rfl,rfl,rfl,trivial⟩|exact hin|skip
    intro h H1 nx1 lg1 hQ
    obtain⟨a1,a2,a3,a4⟩:=hQ
    have g0':gt H1 0=some (dfO C ks fo M):=(a1 0 (by omega)).trans b0
    have g1':gt H1 1=some n2:=(a1 1 (by omega)).trans b1
    have g2':=(a1 2 (by omega)).trans b2
    have g3':gt H1 3=some (.row 3 sp (ints cards)):=(a1 3 (by omega)).trans b3
    obtain⟨l1,l2,l3,l4⟩:=hR.list (by omega)
    have gl':=(a1 hl l2).trans l4
    (repeat'(first|(with_reducible apply And.intro)|(refine fun(_:True)=>?_)))<;>first|exact aq|skip
    all_goals first|rfl|exact g2'|omega|exact Qm5 (t:=28) (sp:=none) ((Qa2 _ _ _ _).trans ((if_pos rfl).trans (by kernel_rfl)))|exact gq|(rw[List.length_map];omega)|skip
    refine hfin h H1 _ _ (nx1+1) _ ⟨a1,a2,a3,a4⟩ ?_ ?_ ?_ ?_ ?_ ?_ ?_
    ·exact gq
    ·exact gq
    ·exact gq
    ·exact gq
    ·omega
    ·rw[Qa2,if_neg (by omega),Qa2,if_pos rfl]
    ·intro g hg1 hg2 hg3
     rw[Qa2,if_neg (by omega),Qa2,if_neg (by omega),Qa2,if_neg (by omega),Qa2,if_neg (by omega)]
  ·have : i = m := by omega
   subst this
   by_cases h40:i<ks.length
   ·refine ⟨[lo_ 43 (dfO C ks fo M) (kV ks), yes 45, no 48, toO [(1, .ptr 0 0), (2, .ptr 1 0), (3, .ptr 2 0)]], 1000, ?_⟩
    have hx:=hE 2 _ H nx lg ⟨rfl,rfl,hl,hs,⟨⟨b0,b1,by rw[hrl];exact b2,b3,b4⟩,hR⟩⟩
    refine Eq.mp (by kernel_rfl:(An [gt H 0=some (dfO C ks fo M),headF (dropF 1 (dfL C ks fo M))=some (kV ks),decide ((↑i:Int)<(↑ks.length:Int))=true,decide ((↑i:Int)<(40:Int))=false,G (Ex.exit 2) [(1,V.ptr 0 0),(2,V.ptr 1 0),(3,V.ptr 2 0)] H nx lg,Sm (V.ptr 0 0),Sm (V.ptr 1 0),Sm (V.ptr 2 0),Tt])=_) ?_
    exact au
   ·refine ⟨[lo_ 43 (dfO C ks fo M) (kV ks), no 45, toO [(1, .ptr 0 0), (2, .ptr 1 0), (3, .ptr 2 0)]], 1000, ?_⟩
    have hx:=hE 2 _ H nx lg ⟨rfl,rfl,hl,hs,⟨⟨b0,b1,by rw[hrl];exact b2,b3,b4⟩,hR⟩⟩
    refine Eq.mp (by kernel_rfl:(An [gt H 0=some (dfO C ks fo M),headF (dropF 1 (dfL C ks fo M))=some (kV ks),decide ((↑i:Int)<(↑ks.length:Int))=false,G (Ex.exit 2) [(1,V.ptr 0 0),(2,V.ptr 1 0),(3,V.ptr 2 0)] H nx lg,Sm (V.ptr 0 0),Sm (V.ptr 1 0),Sm (V.ptr 2 0),Tt])=_) ?_
    exact au
def Qfu(n:Nat)(rows:List (List Int))(mm:Int):List (List Int):=rows.set (mm/5%rows.length).toNat ((rows.getD (mm/5%rows.length).toNat []).set (mm%n).toNat (-1))
def Qcf(n:Nat)(rows:List (List Int))(M:List Int):List (List Int):=M.foldl (Qfu n) rows
theorem Qrp(n:Nat)(rows:List (List Int))(M:List Int)(mm:Int):Qcf n rows (M++[mm])=Qfu n (Qcf n rows M) mm:=by simp[Qcf,List.foldl_append]
theorem Qc9(n:Nat): ∀(M:List Int)(rows:List (List Int)),(Qcf n rows M).length=rows.length
 |[],_=>rfl
 |m::M,rows=>by
  have:=Qc9 n M (Qfu n rows m)
  unfold Qcf at this⊢
  rw[List.foldl_cons,this]
  simp[Qfu]
theorem Qg6(n:Nat): ∀(M:List Int),Qcf n [] M=[]
 |[]=>rfl
 |m::M=>by
  have:Qfu n [] m=[]:=by simp[Qfu]
  unfold Qcf
  rw[List.foldl_cons,this]
  exact Qg6 n M
abbrev dmS(t:Nat):List (Nat×V):=[(1,.ptr 0 0),(2,.ptr 1 0),(3,.ptr 2 0),(9,i6 t)]
abbrev dmX:List (Nat×V):=[(2,.ptr 1 0),(3,.ptr 2 0)]
theorem Quf{l:List Int}{j:Nat}{x:Int}(h:j<l.length):layE (0+j*1) (ints l) [i6 x]=some (ints (l.set j x)):=Qp9 h
theorem dm_loop(C:List Int)(ks:List (Nat→Int))(fo:Int)(M cards:List Int)(room sp:Option Nat)(hM:u8s M)(hML:M.length≤9223372036854775807)(hc:CdOk cards)(rows:List (List Int))(hl:Nat)(hs:List Nat)(H0:T O)(nx0:Nat)(lg0:List Nat)(hD:DH C ks fo M cards room sp rows hl hs H0 nx0)(h40:rows.length≤40):
  Sat Pg none 0 (at' 6 [1,1,1,1,1,0,1,0]) (mkSo g0 139 (dmS 0) H0 nx0 lg0) (fun e st=>∃(sl:List (Nat×V))(M':Mem),st=mkSo g0 139 sl M'.H M'.nx M'.lg∧e= .exit 6∧sl=dmX∧DH C ks fo M cards room sp (Qcf cards.length rows M) hl hs M'.H M'.nx):=by
 refine Qmi (b:=at' 6 [1,1,1,1,1,0,1,0,0]) (by kernel_rfl) (fun(t:Nat)(M':Mem)=>t≤M.length∧DH C ks fo M cards room sp (Qcf cards.length rows (M.take t)) hl hs M'.H M'.nx) dmS (fun t=>M.length-t) (fun e sl M'=>e= .exit 6∧sl=dmX∧DH C ks fo M cards room sp (Qcf cards.length rows M) hl hs M'.H M'.nx) (fun t H nx lg G hI hN hE _=>?_) 0 ⟨H0,nx0,lg0⟩ ⟨Nat.zero_le _,hD⟩
 obtain⟨ht,hD'⟩:=hI
 dsimp only at hD'
 have hX:=hE 6 dmX H nx lg
 have hlen:=Qc9 cards.length (M.take t) rows
 obtain⟨hB,hR⟩:=hD'
 have hBB:=hB
 obtain⟨b0,b1,b2,b3,b4⟩:=hB
 have hpos:=hc.pos
 have h5:=hc.five
 by_cases hlt:t<M.length
 ·have hmt : M[t]? = some (M.getD t 0) := by rw [List.getD_eq_getElem?_getD, List.getElem?_eq_getElem hlt]; rfl
  have hm8:=hM _ (Qp0 hlt)
  have hldm:=head_8 hlt
  have hnx:Qcf cards.length rows (M.take (t+1))=Qfu cards.length (Qcf cards.length rows (M.take t)) (M.getD t 0):=by
   rw[List.take_add_one,hmt,Option.toList_some,Qrp]
  have hN1:=fun H nx lg h=>hN (t+1) H nx lg ⟨by omega,h⟩ (by omega)
  rw[hnx]at hN1
  dsimp only at hN1
  by_cases h0:rows.length=0
  ·have hr0 : rows = [] := List.eq_nil_of_length_eq_zero h0
   subst hr0
   rw[Qg6]at hBB hR
   rw[Qg6]at hX b2
   have hx:=hX ⟨rfl,rfl,hBB,hR⟩
   clear hX hN hN1 hE hnx hlen hD hBB
   refine⟨[lo_ 101 (dfO C ks fo M) (sl8 M),yes 103,lo_ 106 (.row 31 none [.sl 3 0 cards.length room,.nils]) .nils,toO dmX],1000,?_⟩
   refine Eq.mp (by kernel_rfl:(let z0:=[V.sl 3 0 cards.length room,V.nils];An [gt H 0=some (dfO C ks fo M),headF (dropF (0+3) (dfL C ks fo M))=some (sl8 M),decide ((↑t:Int)<(↑M.length:Int))=true,gt H 2=some (O.row 31 none z0),headF (dropF 1 z0)=some V.nils,G (Ex.exit 6) dmX H nx lg,Sm (V.ptr 1 0),Sm (V.ptr 2 0),Tt])=_) ?_
   exact au
  ·generalize hrr : Qcf cards.length rows (M.take t) = rw_ at *
   generalize M.getD t 0=mm at*
   have hRl:0<rw_.length:=by omega
   have hR40:rw_.length≤40:=by omega
   unfold Qfu at hN1
   have hr1:0≤mm/5%(rw_.length:Int):=Int.emod_nonneg _ (by omega)
   have hr2:mm/5%(rw_.length:Int)<rw_.length:=Int.emod_lt_of_pos _ (by omega)
   have hc1:0≤mm%(cards.length:Int):=Int.emod_nonneg _ (by omega)
   have hc2:mm%(cards.length:Int)<cards.length:=Int.emod_lt_of_pos _ (by omega)
   have e0:mm.tdiv 5=mm/5:=Int.tdiv_eq_ediv_of_nonneg hm8.1
   have e1:binV (Qae Pg) .rem 3 (i6 (mm/5)) (i6 rw_.length)=some (i6 (((mm/5%(rw_.length:Int)).toNat:Nat):Int)):=by
    rw[rem6 (by omega),Int.tmod_eq_emod_of_nonneg (by omega),Int.toNat_of_nonneg hr1]
   have e2:binV (Qae Pg) .rem 3 (i6 mm) (i6 cards.length)=some (i6 (((mm%(cards.length:Int)).toNat:Nat):Int)):=by
    rw[rem6 (by omega),Int.tmod_eq_emod_of_nonneg hm8.1,Int.toNat_of_nonneg hc1]
   obtain⟨l1,l2,l3,l4⟩:=hR.list hRl
   have hrl:(mm/5%(rw_.length:Int)).toNat<rw_.length:=by omega
   have hcl:(mm%(cards.length:Int)).toNat<cards.length:=by omega
   generalize (mm/5%(rw_.length:Int)).toNat=ri at*
   generalize (mm%(cards.length:Int)).toNat=ci at*
   have hgi:hs[ri]? =some (hs.getD ri 0):=by rw[List.getD_eq_getElem?_getD,List.getElem?_eq_getElem (by rw[hR.len];exact hrl)];rfl
   obtain⟨r1,r2,c,r3,r4,r5⟩:=hR.row ri _ hgi
   have hgc:rw_.getD ri []=c:=by rw[List.getD_eq_getElem?_getD,r3];rfl
   rw[hgc]at hN1
   have hhead:headF ((hs.map fun h=>V.sl h 0 cards.length none).drop (ri*1))=some (V.sl (hs.getD ri 0) 0 cards.length none):=Qcu hgi
   have hgm:=List.mem_of_getElem? hgi
   have hnod:=hR.nodup
   generalize hs.getD ri 0=g at*
   have hgne:g≠hl:=fun e=>l3 (e▸hgm)
   have hlay:=@Quf c ci (-1) (by omega)
   have hfin: ∀lg',G .normal (dmS (t+1)) (pt H g (.row 3 (some 1) (ints (c.set ci (-1))))) nx lg':=fun lg'=>by
    refine hN1 _ nx lg' ⟨⟨?_,?_,?_,?_,b4⟩,⟨by rw[List.length_set];exact hR.len,fun _=>⟨l1,l2,l3,?_⟩,hnod,fun i h hi=>?_⟩⟩
    ·exact gq
    ·exact gq
    ·rw[Qa2,if_neg (by omega),List.length_set];exact b2
    ·exact gq
    ·rw[Qa2,if_neg (Ne.symm hgne)];exact l4
    ·obtain ⟨q1, q2, d, q3, q4, q5⟩ := hR.row i h hi
     by_cases hri:i=ri
     ·subst hri
      rw[hgi]at hi
      cases hi
      rw[r3]at q3
      cases q3
      exact⟨q1,q2,c.set ci (-1),by rw[List.getElem?_set_self (by omega)],by simpa using r4,by rw[Qa2,if_pos rfl]⟩
     ·have hne : h ≠ g := by
       rintro rfl
       have h1:=(List.getElem?_eq_some_iff.1 hi)
       have h2:=(List.getElem?_eq_some_iff.1 hgi)
       exact hri ((List.getElem_inj hnod).1 (h1.2.trans h2.2.symm))
      exact⟨q1,q2,d,by rw[List.getElem?_set_ne (Ne.symm hri)];exact q3,q4,by rw[Qa2,if_neg hne];exact q5⟩
   have hb2:gt H 2=some (.row 31 none [.sl 3 0 cards.length room,.sl hl 0 rw_.length none]):=by
    rw[b2]
    cases hn:rw_.length with
    |zero=>omega
    |succ n=>rfl
   generalize hRR:rw_.length=R at*
   clear hX hN hN1 hE hnx hlen hD hBB hR b2 hrr
   refine⟨[lo_ 101 (dfO C ks fo M) (sl8 M),yes 103,lo_ 106 (.row 31 none [.sl 3 0 cards.length room,.sl hl 0 R none]) (.sl hl 0 R none),yes 108,lo_ 113 (.row 31 none [.sl 3 0 cards.length room,.sl hl 0 R none]) (.sl hl 0 R none),lo_ 115 (dfO C ks fo M) (sl8 M),pl 117,ld 118 (w8 mm),nu 119 (mm/5),nu 120 (mm/5),lo_ 122 (.row 31 none [.sl 3 0 cards.length room,.sl hl 0 R none]) (.sl hl 0 R none),va 124 (i6 ri),pl 125,lo_ 126 (.row 28 (some 1) (hs.map fun h=>V.sl h 0 cards.length none)) (.sl g 0 cards.length none),lo_ 129 (dfO C ks fo M) (sl8 M),pl 131,ld 132 (w8 mm),nu 133 mm,va 136 (i6 ci),pl 137,so (.row 3 (some 1) (ints c)) (ints (c.set ci (-1))),nu 111 (t+1:Nat),toO (dmS (t+1))],1000,?_⟩
   refine m_ (p:=let z1:=headF (dropF (0+3) (dfL C ks fo M));let z2:=(↑t:Int);let z3:=V.sl hl 0 R none;let z5:=headF (List.drop (t*1) (List.map w8 M));let z6:=some (dfO C ks fo M);let z7:=(↑M.length:Int);let z8:=ints (List.set c ci (-1:Int));let y0:=(0:Int);let y1:=(5:Int);let y2:=some (sl8 M);let z0:=[V.sl 3 0 cards.length room,z3];let z4:=some (O.row 31 none z0);let z9:=headF (dropF 1 z0);An [gt H 0=z6,z1=y2,decide (z2<z7)=true,gt H 2=z4,z9=some z3,decide ((↑R:Int)>y0)=true,gt H 2=z4,z9=some z3,gt H 0=z6,z1=y2,An [y0≤z2,z2<z7],z5=some (w8 mm),wr .u8 (Int.tdiv mm y1)=mm/y1,wr .i64 (mm/y1)=mm/y1,gt H 2=z4,z9=some z3,binV (Qae Pg) .rem 3 (i6 (mm/y1)) (i6 ↑R)=some (i6 ↑ri),An [y0≤(↑ri:Int),(↑ri:Int)<(↑R:Int)],gt H hl=some (O.row 28 (some 1) (List.map (fun h=>V.sl h 0 cards.length none) hs)),headF (dropF (0+ri*1) (List.map (fun h=>V.sl h 0 cards.length none) hs))=some (V.sl g 0 cards.length none),gt H 0=z6,z1=y2,An [y0≤z2,z2<z7],z5=some (w8 mm),wr .i64 mm=mm,binV (Qae Pg) .rem 3 (i6 mm) (i6 ↑cards.length)=some (i6 ↑ci),An [y0≤(↑ci:Int),(↑ci:Int)<(↑cards.length:Int)],An [gt H g=some (O.row 3 (some 1) (ints c)),layE (0+ci*1) (ints c) [i6 (-1)]=some z8],wr .i64 (z2+(1:Int))=(↑(t+1):Int),G Ex.normal (dmS (t+1)) (pt H g (O.row 3 (some 1) z8)) nx ([g]++lg),Sm (V.ptr 0 0),Sm (V.ptr 1 0),Sm (V.ptr 2 0),Sm (i6 ↑(t+1)),Tt]) ?_
   (repeat'(first|(with_reducible apply And.intro)|(refine fun(_:True)=>?_)))<;>first|exact aq|skip
   all_goals first|rfl|exact hfin _|exact hlay|omega|(rw[Qam,Nat.zero_add];exact hhead)|(rw[e0];exact Qif (by simp[lo];omega) (by simp[hi];omega))|exact wr6 (by omega) (by omega)|skip
 ·have : t = M.length := by omega
  subst this
  rw[List.take_length]at hBB hR
  have hx:=hX ⟨rfl,rfl,hBB,hR⟩
  clear hX hN hE hlen hD hBB hR b2
  refine⟨[lo_ 101 (dfO C ks fo M) (sl8 M),no 103,toO dmX],1000,?_⟩
  refine Eq.mp (by kernel_rfl:(An [gt H 0=some (dfO C ks fo M),headF (dropF (0+3) (dfL C ks fo M))=some (sl8 M),decide ((↑M.length:Int)<(↑M.length:Int))=false,G (Ex.exit 6) dmX H nx lg,Sm (V.ptr 1 0),Sm (V.ptr 2 0),Tt])=_) ?_
  exact au
abbrev dzS(cards:List Int)(rows:List (List Int)):SL:={sl:=[(2,.ptr 0 0),(3,.ptr 1 0)],os:=[n2,.row 31 none [sl cards,gC rows]]}
theorem dm_done (C : List Int) (ks : List (Nat → Int)) (fo : Int) (M cards : List Int) (room sp : Option Nat) (hM : u8s M) (hML : M.length ≤ 9223372036854775807) (hc : CdOk cards) (rows : List (List Int)) (hl : Nat) (hs : List Nat) (H0 : T O) (nx0 : Nat) (lg0 : List Nat) (hD : DH C ks fo M cards room sp rows hl hs H0 nx0) (h40 : rows.length ≤ 40) :
  Sat Pg none 0 (at' 6 [1,1,1,1,1,0,1,0]) (mkSo g0 139 (dmS 0) H0 nx0 lg0) (Qaf g0 139 [(True,.exit 6,dzS cards (Qcf cards.length rows M))]):=by
 refine Sat.gc_post ((dm_loop C ks fo M cards room sp hM hML hc rows hl hs H0 nx0 lg0 hD h40).mono ?_)
 rintro e st ⟨slots,M',rfl,rfl,rfl,hB,hR⟩
 generalize Qcf cards.length rows M=rw_ at*
 obtain⟨H,nx,lg⟩:=M'
 have h1:=hB.h1
 have h2:=hB.h2
 have h3:=hB.h3
 have h4:=hB.nx
 rw[Qaw]at h1 h2 h3
 refine⟨[1,2],mkSt g0 139 (dzS cards rw_),⟨rfl,fun g hg=>?_,by decide,rfl,rfl,fun i x hx=>?_,fun h o ho hlive=>?_,fun h _ hlt=>absurd hlt (Nat.not_lt_zero _)⟩,.inl ⟨trivial,rfl,rfl⟩⟩
 ·refine ⟨Nat.zero_le _, ?_⟩
  show g<nx
  dsimp only at h4
  simp at hg;omega
 ·have c2 : gt (putL (blank 139) dmX) 2 = some (.ptr 1 0) := by kernel_rfl
  have c3:gt (putL (blank 139) dmX) 3=some (.ptr 2 0):=by kernel_rfl
  rw[Qaw]at c2 c3
  rcases putL_get _ _ _ _ hx with hmem|hmem
  ·simp only [List.mem_cons, List.not_mem_nil, or_false] at hmem
   rcases hmem with h|h<;>cases h
   ·exact⟨_,c2,1,rfl,rfl⟩
   ·exact⟨_,c3,2,rfl,rfl⟩
  ·rw[Qbj]at hmem;cases hmem
 ·have hF : ∀ g, 3 ≤ g → Fr 0 [1, 2] (mkSo g0 139 dmX H nx lg).lg g := fun g hg => ⟨Nat.zero_le _, by simp; omega, fun _ _ => Nat.zero_le _⟩
  rcases ofOs_get _ _ _ _ _ ho with⟨_,hm⟩|hm
  ·rw [Nat.sub_zero] at hm
   rcases h with _| _|h
   ·cases hm;exact⟨1,_,rfl,h1,_,rfl,ViewL.of_hf _ ⟨trivial,trivial,trivial⟩⟩
   ·cases hm
    refine⟨2,_,rfl,h2,_,rfl,_,_,rfl,.inr (.inr ⟨3,0,room,3,sp,ints cards,rfl,hF 3 (Nat.le_refl _),h3,ViewP.of_hf _ (Qab _)⟩),_,_,rfl,?_,rfl⟩
    cases hn:rw_ with
    |nil=>exact .inr (.inl ⟨rfl,rfl⟩)
    | cons c cs =>
     obtain⟨l1,l2,l3,l4⟩:=hR.list (by rw[hn];simp)
     rw[Qaw]at l4
     refine .inr (.inr ⟨hl,0,none,28,some 1,_,rfl,hF hl (by omega),l4,?_⟩)
     rw[←hn,List.drop_zero]
     have key: ∀(rs:List (List Int))(gs:List Nat),gs.length=rs.length→(∀(i h:Nat),gs[i]? =some h→4≤h∧∃c,rs[i]? =some c∧c.length=cards.length∧H.get h=some (.row 3 (some 1) (ints c)))→ViewP H.get (Fr 0 [1,2] (mkSo g0 139 dmX H nx lg).lg) (rs.map sl) (gs.map fun h=>V.sl h 0 cards.length none):=by
      intro rs
      induction rs with
      |nil=>intro gs _ _;trivial
      | cons r rs ih =>
       intro gs hlen hgs
       cases gs with
       |nil=>simp at hlen
       |cons g gs=>
        obtain⟨q1,c,q2,q3,q4⟩:=hgs 0 g rfl
        obtain rfl:r=c:=by simpa using q2
        refine⟨_,_,rfl,.inr (.inr ⟨g,0,none,3,some 1,ints r,by rw[q3],hF g (by omega),q4,ViewP.of_hf _ (Qab _)⟩),ih gs (by simpa using hlen) (fun i h hi=>?_)⟩
        have:=hgs (i+1) h (by simpa using hi)
        simpa using this
     refine key rw_ hs hR.len (fun i h hi=>?_)
     obtain⟨q1,_,c,q3,q4,q5⟩:=hR.row i h hi
     rw[Qaw]at q5
     exact⟨q1,c,q3,q4,q5⟩
   ·simp at hm
  ·simp at hm
def cardsD(C:List Int):List Int:=if C=[]then[2]else(C.take 5).map Qct
theorem Qen(C:List Int):CdOk (cardsD C):=by
 unfold cardsD
 by_cases h:C=[]
 ·rw [if_pos h]
  refine⟨by simp,by simp,fun k hk=>?_⟩
  have:k=0:=by simp at hk;omega
  subst this;simp
 ·rw [if_neg h]
  have hl:1≤C.length:=Nat.pos_of_ne_zero (fun h0=>h (List.eq_nil_of_length_eq_zero h0))
  refine⟨by rw[List.length_map,List.length_take];omega,by rw[List.length_map,List.length_take];omega,fun k hk=>?_⟩
  rw[List.getD_eq_getElem?_getD,List.getElem?_eq_getElem hk,Option.getD_some,List.getElem_map]
  unfold Qct;omega
def dataD(C:List Int)(ks:List (Nat→Int))(fo:Int)(M:List Int):List (List Int):=Qcf (cardsD C).length (drows ks fo (cardsD C) (min ks.length 40)) M
structure DrOk(C:List Int)(ks:List (Nat→Int))(fo:Int)(M:List Int):Prop where
 c8:u8s C
 k8:KOk ks
 f8:0≤fo∧fo≤255
 m8:u8s M
 mlen:M.length≤9223372036854775807
theorem draft_fn(C:List Int)(ks:List (Nat→Int))(fo:Int)(M:List Int)(h:DrOk C ks fo M):FnOk Pg g0 6 [dfV C ks fo M] (gV (cardsD C) (dataD C ks fo M)):=by
 obtain⟨n,hn⟩: ∃n,n=min C.length 5:=⟨_,rfl⟩
 have hl:=dc_loop C ks fo M h.c8 n hn
 have hcd:=Qen C
 have hdl:(drows ks fo (cardsD C) (min ks.length 40)).length≤40:=by simp only[drows,List.length_map,List.length_take];omega
 have hB: ∀(H:T O)(nx:Nat)(room sp:Option Nat),gt H 0=some (dfO C ks fo M)→gt H 1=some n2→gt H 2=some (.row 31 none [.sl 3 0 (cardsD C).length room,.nils])→gt H 3=some (.row 3 sp (ints (cardsD C)))→4≤nx→Base C ks fo M (cardsD C) room sp .nils H nx:=fun H nx room sp h0 h1 h2 h3 h4=>⟨h0,h1,h2,h3,h4⟩
 have hrows:=fun H nx lg room sp(hb:Base C ks fo M (cardsD C) room sp .nils H nx)=>dr_loop C ks fo M (cardsD C) room sp h.k8 h.f8 hcd _ rfl H nx lg hb
 have hdone:=fun room sp hl hs H nx lg hD=>dm_done C ks fo M (cardsD C) room sp h.m8 h.mlen hcd (drows ks fo (cardsD C) (min ks.length 40)) hl hs H nx lg hD hdl
 change∀room sp hl hs H nx lg,_→Sat Pg none 0 _ _ (Qaf g0 139 [(True,.exit 6,dzS (cardsD C) (dataD C ks fo M))])at hdone
 generalize dataD C ks fo M=rows at*
 cases n with
 |zero=>
  have hC:C=[]:=List.eq_nil_of_length_eq_zero (by omega)
  have hcs:cardsD C=[2]:=by unfold cardsD;rw[if_pos hC]
  rw[hcs]at hB hrows hdone⊢
  clear hcd hdl hcs
  refine FnOk.of_vc vE_ok mixed Qad (n:=1000) (r:=[0]) (S:={sl:=[(2,.ptr 0 0)],os:=[.row 31 none [sl [2],gC rows]]}) (hs:=[(0,.loop [0,1,2] (dcS C ks fo M 0) [(True,.exit 0,dcX C ks fo M 0)]),yes 38,(0,.loopM (dbS 0) (.exit 2) (fun _=>[(1,.ptr 0 0),(2,.ptr 1 0),(3,.ptr 2 0)]) (fun hl H nx lg=>∃hs,DH C ks fo M [2] (some 0) none (drows ks fo [2] (min ks.length 40)) hl hs H nx) (fun hl H' nx' lg'=>[(0,.loopK (dmS 0) [(True,.exit 6,dzS [2] rows)])]))]) ?_
  refine m_ (p:=let z0:=[(2:Int)];let z3:=V.ptr 0 0;let z4:=V.ptr 1 0;let z5:=V.ptr 2 0;let z6:=(0:Nat);let z1:=drows ks fo z0 (min ks.length 40);let z2:=[sl z0,gC rows];An [V.agg z2=gV z0 rows,An [An [Zz,Zz,Zz,(↑z6:Int)=(0:Int),_],An [dfL C ks fo M=[sl8 C,kV ks,w8 fo,sl8 M],TT 4],An [Sm [V.nils,V.nils],TT 2],TT 2,_],_,(True->((↑z6:Int)==(0:Int))=true∧(z3=z3∧z4=z4∧z5=z5∧i6 0=i6 ↑z6∧True)∧Sat Pg none 0 (at' 6 [1,1,1,1,0,1,0]) (mkSo g0 139 (dbS 0) (pt (pt (ofOs T.e 0 (dfO C ks fo M::n2::O.row 31 none [owV 3 0,V.nils]::owL 3 (ints (List.map Qct [])) 0)) 3 (O.row 3 none [i6 2])) 2 (O.row 31 none [V.sl 3 0 1 (some 0),V.nils])) 4 ([2]++[])) (Qmu g0 139 (Ex.exit 2) (fun x=>[(1,z3),(2,z4),(3,z5)]) fun hl H nx lg=>∃hs,DH C ks fo M z0 (some 0) none z1 hl hs H nx)∧∀(h:Nat)(H:T O)(nx:Nat)(lg:List Nat),(∃hs,DH C ks fo M z0 (some 0) none z1 h hs H nx)→An [An [z3=z3,z4=z4,z5=z5,i6 0=i6 ↑z6,Tt],Sat Pg none 0 (at' 6 [1,1,1,1,1,0,1,0]) (mkSo g0 139 (dmS 0) H nx lg) (Qaf g0 139 [(True,Ex.exit 6,dzS z0 rows)]),(True→An [An [Zz,Tt],An [z2=z2,TT 2],Tt]),Tt]),_]) ⟨aq,⟨⟨aq,aq,aq,aq,trivial⟩,a_,a_,aq,trivial⟩,hl,(fun _=>?_),trivial⟩
  (repeat'(first|(with_reducible apply And.intro)|(refine fun(_:True)=>?_)))
  all_goals first|with_reducible rfl|exact trivial|assumption|rfl|exact hrows _ _ _ (some 0) none (hB _ _ (some 0) none (by kernel_rfl) (by kernel_rfl) (by kernel_rfl) (by kernel_rfl) (by decide))|skip
  intro hl_ H_ nx_ lg_ hQ
  obtain⟨hs_,hD_⟩:=hQ
  have hd_:=hdone _ _ hl_ hs_ H_ nx_ lg_ hD_
  (repeat'(first|(with_reducible apply And.intro)|(refine fun(_:True)=>?_)))
  all_goals first|with_reducible rfl|exact trivial|assumption|rfl
 | succ n =>
  have hcs:cardsD C=(C.take (n+1)).map Qct:=by
   unfold cardsD
   rw[if_neg (by rintro rfl;simp at hn)]
   congr 1
   by_cases h5:C.length≤5
   ·rw[List.take_of_length_le h5,List.take_of_length_le (by omega)]
   ·rw[show n+1=5 by omega]
  have hLl:((C.take (n+1)).map Qct).length=n+1:=by rw[List.length_map,List.length_take];omega
  rw[hcs]at hB hrows hdone⊢
  have hl2:Sat Pg none 0 (at' 6 [1,1,0,1,0]) (mkSt g0 139 (dcS C ks fo M 0)) (Qaf g0 139 [(True,.exit 0,{sl:=[(1,.ptr 0 0),(2,.ptr 1 0),(3,.ptr 2 0)],os:=dfO C ks fo M::n2:: .row 31 none [owV 3 (n+1),.nils]::owL 3 (ints ((C.take (n+1)).map Qct)) (n+1),md:=[0,0,1]})]):=hl
  clear hcd hdl hcs hn hl
  generalize (C.take (n+1)).map Qct=L at*
  refine FnOk.of_vc vE_ok mixed Qad (n:=1000) (r:=[0]) (S:={sl:=[(2,.ptr 0 0)],os:=[.row 31 none [sl L,gC rows]]}) (hs:=[(0,.loop [0,1,2] (dcS C ks fo M 0) [(True,.exit 0,{sl:=[(1,.ptr 0 0),(2,.ptr 1 0),(3,.ptr 2 0)],os:=dfO C ks fo M::n2:: .row 31 none [owV 3 (n+1),.nils]::owL 3 (ints L) (n+1),md:=[0,0,1]})]),no 38,(0,.loopM (dbS 0) (.exit 2) (fun _=>[(1,.ptr 0 0),(2,.ptr 1 0),(3,.ptr 2 0)]) (fun hl H nx lg=>∃hs,DH C ks fo M L none (some 1) (drows ks fo L (min ks.length 40)) hl hs H nx) (fun hl H' nx' lg'=>[(0,.loopK (dmS 0) [(True,.exit 6,dzS L rows)])]))]) ?_
  refine m_ (p:=let z2:=drows ks fo L (min ks.length 40);let z3:=V.ptr 0 0;let z4:=V.ptr 1 0;let z5:=V.ptr 2 0;let z6:=[sl L,gC rows];An [V.agg z6=gV L rows,An [An [Zz,Zz,Zz,(↑(0:Nat):Int)=(0:Int),_],An [dfL C ks fo M=[sl8 C,kV ks,w8 fo,sl8 M],TT 4],An [Sm [V.nils,V.nils],TT 2],TT 2,_],_,(True->((↑(n+1):Int)==(0:Int))=false∧(z3=z3∧z4=z4∧z5=z5∧i6 0=i6 ↑(0:Nat)∧True)∧Sat Pg none 0 (at' 6 [1,1,1,1,0,1,0]) (mkSo g0 139 (dbS 0) (ofOs T.e 0 (dfO C ks fo M::n2::(O.row 31 none [owV 3 (n+1),V.nils])::(owL 3 (ints L) (n+1)))) 4 []) (Qmu g0 139 (Ex.exit 2) (fun x=>[(1,z3),(2,z4),(3,z5)]) fun hl H nx lg=>∃hs,DH C ks fo M L none (some 1) z2 hl hs H nx)∧∀(h:Nat)(H:T O)(nx:Nat)(lg:List Nat),(∃hs,DH C ks fo M L none (some 1) z2 h hs H nx)→An [An [z3=z3,z4=z4,z5=z5,i6 0=i6 ↑(0:Nat),Tt],Sat Pg none 0 (at' 6 [1,1,1,1,1,0,1,0]) (mkSo g0 139 (dmS 0) H nx lg) (Qaf g0 139 [(True,Ex.exit 6,dzS L rows)]),(True→An [An [Zz,Tt],An [z6=z6,TT 2],Tt]),Tt]),_]) ⟨aq,⟨⟨aq,aq,aq,aq,trivial⟩,a_,a_,aq,trivial⟩,hl2,(fun _=>?_),trivial⟩
  (repeat'(first|(with_reducible apply And.intro)|(refine fun(_:True)=>?_)))
  all_goals first|with_reducible rfl|exact trivial|assumption|rfl|(refine Qfa ?_;omega)|exact hrows _ _ _ none (some 1) (hB _ _ none (some 1) (by kernel_rfl) (by kernel_rfl) (by rw[hLl];kernel_rfl) (by kernel_rfl) (by decide))|skip
  intro hl_ H_ nx_ lg_ hQ
  obtain⟨hs_,hD_⟩:=hQ
  have hd_:=hdone _ _ hl_ hs_ H_ nx_ lg_ hD_
  (repeat'(first|(with_reducible apply And.intro)|(refine fun(_:True)=>?_)))
  all_goals first|with_reducible rfl|exact trivial|assumption|rfl
open Go.RowKit Go.ChangeShapes Go.WideShapes
theorem Quq{w:World}{a:Addr}{v:Value}(h:w.cell? a=some v):a=⟨a.block,a.off,none⟩∧a.block<w.heap.size:=by
 unfold World.cell? at h
 split at h
 ·rename_i c e f hb
  refine⟨?_,(Array.getElem?_eq_some_iff.1 hb).1⟩
  cases a with
  |mk b o s=>
   cases s with
   |none=>rfl
   |some x=>simp at h
 ·cases h
theorem wf8{n:Int}(h:(Lit.int .u8 n).wf=true):0≤n∧n≤255:=by
 simp only[Lit.wf,Bool.and_eq_true,decide_eq_true_eq]at h
 exact h
section
variable {H:Type} {enc:TypeId×Value→H} {w:World}
theorem Qvw{t e:TypeId}{k:IntKind}{fuel:Nat}{cs:List Value}{x:DataW H×List MemPlace}(ht:Pg.underlying t=some (.slice e))(he:Pg.underlying e=some (.int k))(hc:Pg.cellsOf e=1)
  (h:DataW.trod enc Pg w 0 (fun _=>true) true fuel t cs=some x): ∃(v:Value)(L:List Int),cs=[v]∧RV (sg (allB w)) w (.im L.length (L.map (V.int k))) v∧(∀n∈L,(Lit.int k n).wf=true)∧L.length≤9223372036854775807:=by
 rcases open_ints ht he hc h with⟨rfl,_⟩|⟨a,len,cap,zs,rfl,_,hl,hmx,hz,_,hcell,hw⟩
 ·exact⟨_,[],rfl,⟨none,0,rfl,Nat.le_refl _,fun h=>absurd rfl h⟩,(fun _ h=>by cases h),Nat.zero_le _⟩
 ·have hz' : zs.length = cap := by simpa using hz
  have hmx':cap≤9223372036854775807:=hmx
  refine⟨_,zs.take len,rfl,⟨some a,cap,?_,by simp;omega,fun hn=>?_⟩,fun n hm=>hw n (List.mem_of_mem_take hm),by rw[List.length_take];omega⟩
  ·congr 1;simp;omega
  ·have h0 : 0 < zs.length := by
    have:(zs.take len).length≠0:=hn
    simp at this;omega
   obtain⟨h1,h2⟩:=Quq (by have:=hcell 0 h0;simpa [Addr.add]using this)
   refine⟨a.block,a.off,by rw[←h1],?_⟩
   have key: ∀(l:List Int)(off:Nat),(∀(j:Nat)(h:j<l.length),w.cell? ⟨a.block,off+j,none⟩=some (.int k l[j]))→RC (sg (allB w)) w (l.map (V.int k)) a.block off:=by
    intro l
    induction l with
    |nil=>intro _ _;trivial
    | cons y l ih =>
     intro off hh
     exact⟨⟨h2,_,hh 0 (by simp),rfl⟩,ih (off+1) fun j hj=>by
      have:=hh (j+1) (by simpa using hj)
      rw[show off+1+j=off+(j+1)by omega]
      exact this⟩
   refine key _ _ fun j hj=>?_
   have hj':j<zs.length:=by simp at hj;omega
   have:=hcell j hj'
   rw[h1,Qa1]at this
   rw[this]
   simp[List.getD,List.getElem?_eq_getElem hj']
theorem trod_i{t:TypeId}{k:IntKind}{fuel:Nat}{cs:List Value}{x:DataW H×List MemPlace}(ht:Pg.underlying t=some (.int k))(h:DataW.trod enc Pg w 0 (fun _=>true) true fuel t cs=some x): ∃n,cs=[.int k n]∧(Lit.int k n).wf=true:=by
 cases fuel with
 |zero=>simp[DataW.trod]at h
 |succ m=>
  obtain⟨n,rfl,_,hw⟩:=DataW.trod_int ht h
  exact⟨n,rfl,hw⟩
theorem Qvv{fuel:Nat}{cs:List Value}{x:DataW H×List MemPlace}(h:DataW.trod enc Pg w 0 (fun _=>true) true fuel 23 cs=some x): ∃(v:Value)(ks:List (Nat→Int)),cs=[v]∧RV (sg (allB w)) w (kV ks) v∧KOk ks:=by
 have h5:Pg.cellsOf 72=5:=by kernel_rfl
 rcases DataW.trod_slice Tryd.underlying23 h with⟨rfl,_⟩|⟨a,len,cap,elems,rest,n,_,rfl,_,_,hl,_,hlen,hel,_,_⟩
 ·exact⟨_,[],rfl,⟨none,0,rfl,Nat.le_refl _,fun h=>absurd rfl h⟩,⟨fun f hf=>by cases hf⟩⟩
 ·rw [h5] at hel
  have each: ∀i:Nat,∃ns:List Int,i<len→(ns.length=5∧(∀m∈ns,(Lit.int .u8 m).wf=true)∧∀j,j<5→w.cell? ((a.add (i*5)).add j)=some (.int .u8 (ns.getD j 0))):=by
   intro i
   by_cases hi:i<len
   ·have h1 := hel i hi
    rw[List.getElem?_eq_getElem (by omega)]at h1
    obtain⟨cs',hcs,hy⟩:=Option.bind_eq_some_iff.1 h1
    obtain⟨ns,e1,e2,_,e4⟩:=Qjr Tryd.underlying72 Tryd.underlying5 (by kernel_rfl) (by kernel_rfl) hy
    refine⟨ns,fun _=>⟨e1,e4,fun j hj=>?_⟩⟩
    have:=(World.cells?_some hcs).2.2 j hj
    rw[e2,List.getElem?_map,List.getElem?_eq_getElem (by omega)]at this
    rw[this,List.getD_eq_getElem?_getD,List.getElem?_eq_getElem (by omega)]
    rfl
   ·exact⟨[],fun h=>absurd h hi⟩
  obtain⟨f,hf⟩:=Classical.axiomOfChoice each
  refine⟨_,(List.range len).map fun i j=>(f i).getD j 0,rfl,?_,⟨fun g hg j hj=>?_⟩⟩
  ·refine ⟨some a, cap, by simp, by simpa using hl, fun hn => ?_⟩
   have h0:0<len:=by
    have:((List.range len).map fun i j=>(f i).getD j 0).length≠0:=hn
    simp at this;omega
   obtain⟨h1,h2⟩:=Quq (by have:=(hf 0 h0).2.2 0 (by omega);simpa [Addr.add]using this)
   refine⟨a.block,a.off,by rw[←h1],?_⟩
   have key: ∀(l:List (Nat→Int))(off:Nat),(∀(i:Nat)(g:Nat→Int),l[i]? =some g→∀j,j<5→w.cell? ⟨a.block,off+(i*5+j),none⟩=some (.int .u8 (g j)))→RC (sg (allB w)) w (Qc4 l) a.block off:=by
    intro l
    induction l with
    |nil=>intro _ _;trivial
    | cons y l ih =>
     intro off hh
     have q:=fun j hj=>hh 0 y rfl j hj
     refine⟨⟨h2,_,q 0 (by omega),rfl⟩,⟨h2,_,?_,rfl⟩,⟨h2,_,?_,rfl⟩,⟨h2,_,?_,rfl⟩,⟨h2,_,?_,rfl⟩,ih (off+1+1+1+1+1) fun i g hi j hj=>?_⟩
     ·exact q 1 (by omega)
     ·exact q 2 (by omega)
     ·exact q 3 (by omega)
     ·exact q 4 (by omega)
     ·have := hh (i + 1) g (by simpa using hi) j hj
      rw[show off+1+1+1+1+1+(i*5+j)=off+((i+1)*5+j)by omega]
      exact this
   refine key _ _ fun i g hi j hj=>?_
   rw[List.getElem?_map]at hi
   have hlt:i<len:=by
    rcases Nat.lt_or_ge i len with h'|h'
    ·exact h'
    ·rw[List.getElem?_eq_none (by simpa using h')]at hi;cases hi
   rw[List.getElem?_range hlt]at hi
   cases hi
   have:=(hf i hlt).2.2 j hj
   rw[h1,Qa1,Qa1,Nat.add_assoc]at this
   exact this
  ·obtain ⟨i, hi, rfl⟩ := List.mem_map.1 hg
   have hlt:=List.mem_range.1 hi
   obtain⟨e1,e2,_⟩:=hf i hlt
   dsimp only
   rw[List.getD_eq_getElem?_getD,List.getElem?_eq_getElem (by omega)]
   exact wf8 (e2 _ (List.getElem_mem _))
theorem Qsm{v:Value}{d:DataW H}{p:List MemPlace}(hv: ∃cs,v= .agg cs∧cs.size=Pg.cellsOf 25)(h:DataW.Trod enc Pg w 0 (fun _=>true) true 25 v d p):
  ∃(C:List Int)(ks:List (Nat→Int))(fo:Int)(M:List Int),RV (sg (allB w)) w (dfV C ks fo M) v∧DrOk C ks fo M:=by
 obtain⟨arr,rfl,hsz⟩:=hv
 obtain⟨fuel,hf⟩:=h
 obtain⟨xs,n,_,_,hl,hlen,hfd⟩:=DataW.trod_struct Tryd.underlying25 hf
 have hc26:Pg.cellsOf 25=4:=by kernel_rfl
 rw[hc26]at hl
 have hcells:(Value.agg arr).cells.toList=arr.toList:=rfl
 rw[hcells]at hl hfd
 obtain⟨c0,c1,c2,c3,harr⟩: ∃c0 c1 c2 c3,arr.toList=[c0,c1,c2,c3]:=by
  match arr.toList,hl with
  |[c0,c1,c2,c3],_=>exact⟨c0,c1,c2,c3,rfl⟩
 have hlen':xs.length=4:=hlen
 obtain⟨y0,y1,y2,y3,rfl⟩: ∃y0 y1 y2 y3,xs=[y0,y1,y2,y3]:=by
  match xs,hlen' with
  |[y0,y1,y2,y3],_=>exact⟨y0,y1,y2,y3,rfl⟩
 have h1c: ∀t,t=22∨t=23∨t=5→Pg.cellsOf t=1:=by
  rintro t (rfl|rfl|rfl)<;>kernel_rfl
 have f0:DataW.trod enc Pg w 0 (fun _=>true) true n 22 (List.take (Pg.cellsOf 22) (List.drop 0 arr.toList))=some y0:=hfd 0 _ rfl
 have f1:DataW.trod enc Pg w 0 (fun _=>true) true n 23 (List.take (Pg.cellsOf 23) (List.drop 1 arr.toList))=some y1:=hfd 1 _ rfl
 have f2:DataW.trod enc Pg w 0 (fun _=>true) true n 5 (List.take (Pg.cellsOf 5) (List.drop 2 arr.toList))=some y2:=hfd 2 _ rfl
 have f3:DataW.trod enc Pg w 0 (fun _=>true) true n 22 (List.take (Pg.cellsOf 22) (List.drop 3 arr.toList))=some y3:=hfd 3 _ rfl
 rw[harr]at f0 f1 f2 f3
 rw[h1c 22 (.inl rfl)]at f0 f3
 rw[h1c 23 (.inr (.inl rfl))]at f1
 rw[h1c 5 (.inr (.inr rfl))]at f2
 obtain⟨v0,C,e0,r0,w0,_⟩:=Qvw Tryd.underlying22 Tryd.underlying5 (by kernel_rfl) (x:=y0) f0
 obtain⟨v1,ks,e1,r1,w1⟩:=Qvv (x:=y1) f1
 obtain⟨k2,e2,w2⟩:=trod_i Tryd.underlying5 (x:=y2) f2
 obtain⟨v3,M,e3,r3,w3,l3⟩:=Qvw Tryd.underlying22 Tryd.underlying5 (by kernel_rfl) (x:=y3) f3
 simp at e0 e1 e2 e3
 subst e0 e1 e2 e3
 refine⟨C,ks,k2,M,⟨arr,rfl,?_⟩,⟨fun c hc=>wf8 (w0 c hc),w1,wf8 w2,fun c hc=>wf8 (w3 c hc),l3⟩⟩
 rw[harr]
 exact⟨_,_,rfl,r0,_,_,rfl,r1,_,_,rfl,rfl,_,_,rfl,r3,rfl⟩
end
def memB(n:Nat)(v:Int)(ps:Nat):Bool:=decide (0≤v)&&(decide (v<n)&&(decide (ps/2^n=0)&&decide (ps/2^v.toNat%2=0)))
theorem shr_v{G:Ctx}{t:Nat}{x:Nat}{v:Int}(h0:0≤v)(hk:v≤64):binV G .shr t (u6 (x:Int)) (i6 v)=some (u6 ((x/2^v.toNat:Nat):Int)):=by
 have:=@shr_u G t x v.toNat (by omega)
 rwa [Int.toNat_of_nonneg h0]at this
def toN(l:List Int):List Nat:=l.map Int.toNat
theorem Qax(l:List Int):(toN l).length=l.length:=by simp[toN]
theorem Qos(l:List Int)(k:Nat):(toN l).getD k 0=(l.getD k 0).toNat:=by
 unfold toN
 rw[List.getD_eq_getElem?_getD,List.getD_eq_getElem?_getD,List.getElem?_map]
 cases l[k]? <;>rfl
theorem sl_nl{l:List Int}(h: ∀x∈l,0≤x):sl l=nl (toN l):=by
 show V.im l.length (ints l)=V.im (toN l).length (nt (toN l))
 rw[Qax,Qfi]
 congr 2
 unfold toN
 rw[List.map_map]
 conv=>lhs;rw[←List.map_id l]
 refine List.map_congr_left fun x hx=>?_
 simp only[Function.comp,id]
 rw[Int.toNat_of_nonneg (h x hx)]
theorem Qrl{cards:List Int}{cs:List (List Int)}(h:goodE cards cs=0):okAll cards cs=true∧cs.any negB=false:=by
 unfold goodE at h
 cases h1:okAll cards cs with
 |false=>rw[h1]at h;simp at h
 |true=>
  cases h2:cs.any negB with
  |true=>rw[h1,h2]at h;simp at h
  |false=>exact⟨rfl,rfl⟩
structure WholeOk(cards:List Int)(cs:List (List Int)):Prop where
 cok:CardsOk (toN cards)
 rok: ∀c∈cs.map toN,CaseOk (toN cards) c
 len:cs.length≤40
 eq:gV cards cs=dN (toN cards) (cs.map toN)
 size:prodT cards cards.length≤1024
theorem Qky{cards:List Int}{cs:List (List Int)}(h:goodE cards cs=0):WholeOk cards cs:=by
 obtain⟨h1,h2⟩:=Qrl h
 unfold okAll at h1
 simp only[Bool.and_eq_true,decide_eq_true_eq]at h1
 obtain⟨a1,a2,a3,a4,a5,a6⟩:=h1
 have hc: ∀k,k<cards.length→2≤cards.getD k 0∧cards.getD k 0≤4:=fun k hk=>of_decide_eq_true (all_range.1 a4 k hk)
 have hcm: ∀x∈cards,0≤x:=fun x hx=>by
  obtain⟨k,hk,rfl⟩:=List.getElem_of_mem hx
  have:=hc k hk
  rw[List.getD_eq_getElem?_getD,List.getElem?_eq_getElem hk]at this
  simp only[Option.getD_some]at this;omega
 have hrow: ∀c∈cs,c.length=cards.length∧∀k,k<cards.length→ -1≤c.getD k 0∧c.getD k 0<cards.getD k 0:=fun c hc=>by
  have:=List.all_eq_true.1 a6 c hc
  unfold okRow at this
  rw[Bool.and_eq_true,decide_eq_true_eq]at this
  exact⟨this.1,fun k hk=>of_decide_eq_true (all_range.1 this.2 k hk)⟩
 have hpos: ∀c∈cs,∀x∈c,0≤x:=fun c hc x hx=>by
  have:=List.any_eq_false.1 h2 c hc
  unfold negB at this
  have h3:=List.any_eq_false.1 (by simpa using this:(c.any fun x=>decide (x<0))=false) x hx
  simpa using h3
 refine⟨⟨by rw[Qax];exact a1,by rw[Qax];exact a2,fun k hk=>?_⟩,fun c hc'=>?_,a3,?_,a5⟩
 ·rw [Qax] at hk
  have:=hc k hk
  rw[Qos];omega
 ·obtain ⟨d, hd, rfl⟩ := List.mem_map.1 hc'
  obtain⟨r1,r2⟩:=hrow d hd
  refine⟨by rw[Qax,Qax];exact r1,fun k hk=>?_⟩
  rw[Qax]at hk
  have:=r2 k hk
  have:=hc k hk
  rw[Qos,Qos]
  omega
 ·have e2 : cs.map sl = (cs.map toN).map nl := by
   rw[List.map_map]
   exact List.map_congr_left fun c hc=>sl_nl (hpos c hc)
  show V.agg [sl cards,.im cs.length (cs.map sl)]=V.agg [nl (toN cards),.im (cs.map toN).length ((cs.map toN).map nl)]
  rw[sl_nl hcm,e2,List.length_map]
abbrev fpS(f:Nat→Int)(e:Int):SL:={sl:=[(6,.ptr 0 0),(7,i6 e)],os:=[.row 44 none (arF f)]}
def famG(cards:List Int)(cs:List (List Int))(v:Int)(ps:Nat):Nat→Int:=famF (toN cards) (cs.map toN) v.toNat ps
theorem Qva(cards:List Int)(cs:List (List Int))(v:Int)(ps:Nat)(hl1:cards.length≤64)(hl2:cs.length≤1000)(hcl: ∀c∈cs,c.length≤1000)(h:goodE cards cs=0)(hm:memB cards.length v ps=true):FnOk Pg g0 54 [gV cards cs,i6 v,u6 ps] (.tup [ar (famG cards cs v ps),i6 0]):=by
 have h1:=Qep cards cs (by omega) hl2 hcl
 have hw:=Qky h
 rw[h]at h1
 unfold memB at hm
 simp only[Bool.and_eq_true,decide_eq_true_eq]at hm
 obtain⟨m1,m2,m3,m4⟩:=hm
 have hf:=Ql2 (toN cards) (cs.map toN) v.toNat ps hw.cok hw.rok (by rw[Qax];omega) (by rw[List.length_map];exact hw.len)
 rw[←hw.eq,Int.toNat_of_nonneg m1]at hf
 have s1:=@shr_u (Qae Pg) 50 ps cards.length hl1
 have s2:=@shr_v (Qae Pg) 50 ps v m1 (by omega)
 have s3:=@and1_u (Qae Pg) 50 (ps/2^v.toNat)
 rw[m3]at s1
 rw[m4]at s3
 unfold famG
 generalize famF (toN cards) (cs.map toN) v.toNat ps=f at*
 generalize ps/2^v.toNat=b at*
 refine FnOk.of_vc vE_ok mixed Qad (n:=1000) (r:=[1]) (S:=fpS f 0) (hs:=[fn 10 (i6 0),no 16,no 22,va 29 (u6 (0:Nat)),no 30,va 35 (u6 b),va 36 (u6 (0:Nat)),no 37,fn 43 (ar f)]) ?_
 refine Eq.mp (by kernel_rfl:(let z0:=V.agg [V.im cards.length (ints cards),V.im cs.length (List.map sl cs)];let z1:=(0:Int);let z2:=(0:Nat);An [V.tup [V.agg (arF f),i6 0]=V.tup [ar f,i6 0],An [TT 2,Tt],FnOk Pg g0 23 [z0] (i6 0),Tt,decide (v<z1)=false,decide (v≥(↑cards.length:Int))=false,binV (Qae Pg) .shr 50 (u6 ↑ps) (i6 ↑cards.length)=some (u6 ↑z2),((↑z2:Int) != z1)=false,binV (Qae Pg) .shr 50 (u6 ↑ps) (i6 v)=some (u6 ↑b),binV (Qae Pg) .and 50 (u6 ↑b) (u6 1)=some (u6 ↑z2),((↑z2:Int)==(1:Int))=false,An [TT 2,TT 2],FnOk Pg g0 26 [z0,i6 v,u6 ↑ps] (ar f),Tt,An [Zz,z1=z1,Tt],An [Sm (arF f),TT 18],Tt])=_) ?_
 exact au
abbrev v8(n:Int):V:=.int .u8 n
theorem shr_8{G:Ctx}{t:Nat}{x k:Nat}(hk:k≤8):binV G .shr t (v8 (x:Int)) (i6 (k:Int))=some (v8 ((x/2^k:Nat):Int)):=by
 have h1:((k:Int)<0)=False:=by simp
 have h2:min k 8=k:=by omega
 simp only[binV,intV,h1,if_false,Int.toNat_natCast,IntKind.bits,h2]
 rw[Int.fdiv_eq_ediv_of_nonneg _ (Int.natCast_nonneg _)]
 rfl
theorem and1_8{G:Ctx}{t:Nat}{x:Nat}:binV G .and t (v8 (x:Int)) (v8 1)=some (v8 ((x%2:Nat):Int)):=by
 have h:(BitVec.ofInt 8 (x:Int)&&& BitVec.ofInt 8 1).toNat=x%2:=by
  rw[BitVec.toNat_and]
  have h1:(BitVec.ofInt 8 1).toNat=1:=by decide
  rw[h1,Nat.and_one_is_mod]
  have h2:(BitVec.ofInt 8 (x:Int)).toNat=x%2^8:=by
   rw[BitVec.toNat_ofInt];omega
  rw[h2];omega
 have hw:IntKind.u8.wrap ((x%2:Nat):Int)=((x%2:Nat):Int):=by
  rw[←wr_eq];exact Qif (by simp[lo];omega) (by simp[hi];omega)
 have e:binV G .and t (v8 (x:Int)) (v8 1)=some (.int .u8 (IntKind.u8.wrap ((BitVec.ofInt 8 (x:Int)&&& BitVec.ofInt 8 1).toNat:Int))):=rfl
 rw[e,h,hw]
end Go.Proofs.YtcmeiecgijmdjaaDoor.Am
namespace Go.Proofs.YtcmeiecgijmdjaaDoor.Am.GG
abbrev Rel:=Nat→Nat→Bool
def place1(n:Nat)(g:Rel)(out:Nat→Bool)(P:Nat→Bool)(v:Nat):Nat→Bool:=fun u=>P u||(decide (u=v)&&(!out v&&(List.range n).all fun p=> !g v p||P p))
def pass(n:Nat)(g:Rel)(out:Nat→Bool)(P:Nat→Bool):Nat→(Nat→Bool)
 |0=>P
 |v+1=>place1 n g out (pass n g out P v) v
def passes(n:Nat)(g:Rel)(out:Nat→Bool):Nat→(Nat→Bool)
 |0=>fun _=>false
 |t+1=>pass n g out (passes n g out t) n
def placedAll(n:Nat)(g:Rel)(out:Nat→Bool):Bool:=(List.range n).all (passes n g out n)
def clo1(g:Rel)(A:Nat→Bool)(j:Nat):Nat→Bool:=fun u=>A u||(A j&&g j u)
def cloR(g:Rel)(A:Nat→Bool):Nat→(Nat→Bool)
 |0=>A
 |j+1=>clo1 g (cloR g A j) j
def clo(n:Nat)(g:Rel)(i:Nat):Nat→(Nat→Bool)
 |0=>g i
 |k+1=>cloR g (clo n g i k) n
def acyclic(n:Nat)(g:Rel):Bool:=(List.range n).all fun i=> !clo n g i n i
theorem all_range{n:Nat}{p:Nat→Bool}:(List.range n).all p=true↔∀j,j<n→p j=true:=by
 rw[List.all_eq_true]
 exact⟨fun h j hj=>h j (List.mem_range.2 hj),fun h j hj=>h j (List.mem_range.1 hj)⟩
structure Qk0(n:Nat)(g:Rel)(out:Nat→Bool)(P:Nat→Bool)(r:Nat→Nat)(m:Nat):Prop where
 lt: ∀u,P u=true→r u<m
 dn: ∀u,P u=true→out u=false∧∀p,p<n→g u p=true→P p=true∧r p<r u
theorem Qki{n:Nat}{g:Rel}{out:Nat→Bool}{P:Nat→Bool}{r:Nat→Nat}{m v:Nat}(h:Qk0 n g out P r m): ∃r',Qk0 n g out (place1 n g out P v) r' (m+1):=by
 by_cases hv:P v=true
 ·refine ⟨r, fun u hu => ?_, fun u hu => ?_⟩
  ·have : P u = true := by
    unfold place1 at hu
    simp only[Bool.or_eq_true,Bool.and_eq_true,decide_eq_true_eq]at hu
    rcases hu with hu|⟨rfl,_⟩
    ·exact hu
    ·exact hv
   have:=h.lt u this;omega
  ·have hPu : P u = true := by
    unfold place1 at hu
    simp only[Bool.or_eq_true,Bool.and_eq_true,decide_eq_true_eq]at hu
    rcases hu with hu|⟨rfl,_⟩
    ·exact hu
    ·exact hv
   obtain⟨a,b⟩:=h.dn u hPu
   refine⟨a,fun p hp hg=>?_⟩
   obtain⟨c,d⟩:=b p hp hg
   exact⟨by unfold place1;rw[c];rfl,d⟩
 ·refine ⟨fun u => if u = v then m else r u, fun u hu => ?_, fun u hu => ?_⟩
  ·split
   ·omega
   ·rename_i hne
    unfold place1 at hu
    simp only[Bool.or_eq_true,Bool.and_eq_true,decide_eq_true_eq]at hu
    have:=h.lt u (hu.resolve_right (fun h'=>hne h'.1));omega
  ·unfold place1 at hu
   simp only[Bool.or_eq_true,Bool.and_eq_true,decide_eq_true_eq]at hu
   by_cases hne:u=v
   ·subst hne
    rcases hu with hu|⟨_,ho,ha⟩
    ·exact absurd hu hv
    ·refine ⟨by simpa using ho, fun p hp hg => ?_⟩
     have:=all_range.1 ha p hp
     rw[hg]at this
     have hpp:P p=true:=by simpa using this
     refine⟨by unfold place1;rw[hpp];rfl,?_⟩
     rw[if_neg (fun e=>hv (by rw[←e];exact hpp)),if_pos rfl]
     exact h.lt p hpp
   ·have hPu := hu.resolve_right (fun h' => hne h'.1)
    obtain⟨a,b⟩:=h.dn u hPu
    refine⟨a,fun p hp hg=>?_⟩
    obtain⟨c,d⟩:=b p hp hg
    refine⟨by unfold place1;rw[c];rfl,?_⟩
    rw[if_neg (fun e=>hv (by rw[←e];exact c)),if_neg hne];exact d
theorem Qhg{n:Nat}{g:Rel}{out:Nat→Bool}{P:Nat→Bool}: ∀(v:Nat),(∃r m,Qk0 n g out P r m)→∃r m,Qk0 n g out (pass n g out P v) r m
 |0,h=>h
 |v+1,h=>by
  obtain⟨r,m,h1⟩:=Qhg v h
  obtain⟨r',h2⟩:=Qki (v:=v) h1
  exact⟨r',m+1,h2⟩
theorem Qez{n:Nat}{g:Rel}{out:Nat→Bool}: ∀t,∃r m,Qk0 n g out (passes n g out t) r m
 |0=>⟨fun _=>0,0,⟨fun _ h=>(by cases h),fun _ h=>(by cases h)⟩⟩
 |t+1=>Qhg n (Qez t)
theorem Qfd{n:Nat}{g:Rel}{r:Nat→Nat}(hr: ∀u,u<n→∀p,g u p=true→p<n∧r p<r u){A:Nat→Bool}{b:Nat}(hA: ∀u,A u=true→u<n∧r u<b): ∀j,j≤n→∀u,cloR g A j u=true→u<n∧r u<b
 |0,_,u,h=>hA u h
 | j + 1, hj, u, h => by
  unfold cloR clo1 at h
  simp only[Bool.or_eq_true,Bool.and_eq_true]at h
  rcases h with h|⟨h1,h2⟩
  ·exact Qfd hr hA j (by omega) u h
  ·have h3 := Qfd hr hA j (by omega) j h1
   have h4:=hr j h3.1 u h2
   exact⟨h4.1,by omega⟩
theorem clo_below{n:Nat}{g:Rel}{r:Nat→Nat}(hr: ∀u,u<n→∀p,g u p=true→p<n∧r p<r u){i:Nat}(hi:i<n): ∀k u,clo n g i k u=true→u<n∧r u<r i
 |0,u,h=>hr i hi u h
 |k+1,u,h=>Qfd hr (clo_below hr hi k) n (Nat.le_refl _) u h
theorem Qh8{n:Nat}{g:Rel}{out:Nat→Bool}(hin: ∀u,u<n→out u=false→∀p,g u p=true→p<n)(h:placedAll n g out=true):acyclic n g=true∧∀u,u<n→out u=false:=by
 obtain⟨r,m,hR⟩:=Qez (n:=n) (g:=g) (out:=out) n
 have hall:=all_range.1 h
 have ho: ∀u,u<n→out u=false:=fun u hu=>(hR.dn u (hall u hu)).1
 refine⟨all_range.2 fun i hi=>?_,ho⟩
 have hr: ∀u,u<n→∀p,g u p=true→p<n∧r p<r u:=fun u hu p hp=>by
  have hpn:=hin u hu (ho u hu) p hp
  exact⟨hpn,((hR.dn u (hall u hu)).2 p hpn hp).2⟩
 cases hc:clo n g i n i with
 |false=>rfl
 |true=>have:=(clo_below hr hi n i hc).2;omega
theorem Qhf{n:Nat}{g:Rel}{out:Nat→Bool}{P:Nat→Bool}{u:Nat}(h:P u=true): ∀v,pass n g out P v u=true
 |0=>h
 |v+1=>by
  unfold pass place1
  rw[Qhf h v];rfl
theorem pass_fix{n:Nat}{g:Rel}{out:Nat→Bool}{P:Nat→Bool}(h: ∀u,u<n→pass n g out P n u=true→P u=true)(ho: ∀u,u<n→out u=false): ∀u,u<n→P u=false→∃p,p<n∧g u p=true∧P p=false:=by
 have hsame: ∀v,v≤n→∀u,pass n g out P v u=true→P u=true:=by
  intro v hv u hu
  have hn: ∀k,pass n g out P (v+k) u=true:=by
   intro k
   induction k with
   |zero=>exact hu
   |succ k ih=>rw[←Nat.add_assoc];unfold pass place1;rw[ih];rfl
  by_cases hun:u<n
  ·have := hn (n - v)
   rw[show v+(n-v)=n by omega]at this
   exact h u hun this
  ·have key : ∀ k, k ≤ n → pass n g out P k u = true → P u = true := by
    intro k
    induction k with
    |zero=>intro _ h;exact h
    |succ k ih=>
     intro hk h'
     unfold pass place1 at h'
     simp only[Bool.or_eq_true,Bool.and_eq_true,decide_eq_true_eq]at h'
     rcases h' with h'|⟨h1,_⟩
     ·exact ih (by omega) h'
     ·omega
   exact key v hv hu
 intro u hu hP
 have h1:pass n g out P (u+1) u=false:=by
  cases hc:pass n g out P (u+1) u with
  |false=>rfl
  |true=>rw[hsame (u+1) (by omega) u hc]at hP;cases hP
 unfold pass place1 at h1
 simp only[Bool.or_eq_false_iff,decide_true,Bool.true_and]at h1
 have h2:=h1.2
 rw[ho u hu]at h2
 simp only[Bool.not_false,Bool.true_and]at h2
 have h3: ∃p,p<n∧(!g u p||pass n g out P u p)=false:=by
  apply Classical.byContradiction
  intro hne
  have:(List.range n).all (fun p=> !g u p||pass n g out P u p)=true:=all_range.2 fun p hp=>by
   cases hc:(!g u p||pass n g out P u p)with
   |true=>rfl
   |false=>exact absurd ⟨p,hp,hc⟩ hne
  rw[this]at h2;cases h2
 obtain⟨p,hp,h4⟩:=h3
 simp only[Bool.or_eq_false_iff,Bool.not_eq_false']at h4
 refine⟨p,hp,h4.1,?_⟩
 cases hc:P p with
 |false=>rfl
 |true=>rw[Qhf hc u]at h4;cases h4.2
def cntB(P:Nat→Bool):Nat→Nat
 |0=>0
 |n+1=>cntB P n+if P n then 1 else 0
theorem Qjx(P:Nat→Bool): ∀n,cntB P n≤n
 |0=>Nat.le_refl _
 |n+1=>by have:=Qjx P n;unfold cntB;split<;>omega
theorem Qlj{P Q:Nat→Bool}(h: ∀u,P u=true→Q u=true): ∀n,cntB P n≤cntB Q n
 |0=>Nat.le_refl _
 |n+1=>by
  have h1:=Qlj h n
  unfold cntB
  by_cases hp:P n=true
  ·rw[if_pos hp,if_pos (h n hp)];omega
  ·rw[if_neg hp];omega
theorem Qsx{P Q:Nat→Bool}(h: ∀u,P u=true→Q u=true): ∀n u,u<n→P u=false→Q u=true→cntB P n<cntB Q n
 | n + 1, u, hu, h1, h2 => by
  have hm:=Qlj h n
  unfold cntB
  by_cases he:u=n
  ·subst he
   rw[if_pos h2,h1,if_neg (by simp)];omega
  ·have := Qsx h n u (by omega) h1 h2
   by_cases hp:P n=true
   ·rw[if_pos hp,if_pos (h n hp)];omega
   ·rw[if_neg hp];omega
theorem Qli{P:Nat→Bool}: ∀n,cntB P n=n→∀u,u<n→P u=true
 | n + 1, h, u, hu => by
  have h1:=Qjx P n
  unfold cntB at h
  by_cases hp:P n=true
  ·rw [if_pos hp] at h
   by_cases he:u=n
   ·subst he;exact hp
   ·exact Qli n (by omega) u (by omega)
  ·rw[if_neg hp]at h;omega
theorem some_fix{n:Nat}{g:Rel}{out:Nat→Bool}(h: ¬ ∀u,u<n→passes n g out n u=true): ∃t,(∀u,u<n→pass n g out (passes n g out t) n u=true→passes n g out t u=true)∧∃u,u<n∧passes n g out t u=false:=by
 apply Classical.byContradiction
 intro hne
 have hstep : ∀ t, t ≤ n → t ≤ cntB (passes n g out t) n ∨ ∀ u, u < n → passes n g out t u = true := by
  intro t
  induction t with
  |zero=>intro _;exact .inl (Nat.zero_le _)
  | succ t ih =>
   intro ht
   have hm: ∀u,passes n g out t u=true→passes n g out (t+1) u=true:=fun u hu=>Qhf hu n
   rcases ih (by omega)with h1|h1
   ·by_cases hall : ∀ u, u < n → passes n g out t u = true
    ·exact .inr fun u hu=>hm u (hall u hu)
    ·refine .inl ?_
     have h2: ∃u,u<n∧passes n g out t u=false:=by
      apply Classical.byContradiction
      intro h3
      exact hall fun u hu=>by
       cases hc:passes n g out t u with
       |true=>rfl
       |false=>exact absurd ⟨u,hu,hc⟩ h3
     have h4: ∃u,u<n∧pass n g out (passes n g out t) n u=true∧passes n g out t u=false:=by
      apply Classical.byContradiction
      intro h5
      refine hne ⟨t,fun u hu hp=>?_,h2⟩
      cases hc:passes n g out t u with
      |true=>rfl
      |false=>exact absurd ⟨u,hu,hp,hc⟩ h5
     obtain⟨u,hu,h6,h7⟩:=h4
     have:=Qsx hm n u hu h7 h6
     omega
   ·exact .inr fun u hu=>hm u (h1 u hu)
 rcases hstep n (Nat.le_refl _)with h1|h1
 ·exact h (Qli n (by have:=Qjx (passes n g out n) n;omega))
 ·exact h h1
theorem Qgn{g:Rel}{A:Nat→Bool}{u:Nat}(h:A u=true): ∀j,cloR g A j u=true
 |0=>h
 |j+1=>by unfold cloR clo1;rw[Qgn h j];rfl
theorem Qsv{n:Nat}{g:Rel}{A:Nat→Bool}{j u:Nat}(hj:j<n)(h:A j=true)(hg:g j u=true):cloR g A n u=true:=by
 have: ∀k,j<k→cloR g A k u=true:=by
  intro k
  induction k with
  |zero=>intro h;omega
  | succ k ih =>
   intro hk
   unfold cloR clo1
   by_cases he:j=k
   ·subst he
    rw[Qgn h j,hg];simp
   ·rw[ih (by omega)];rfl
 exact this n hj
theorem clo_mono{n:Nat}{g:Rel}{i k u:Nat}(h:clo n g i k u=true):clo n g i (k+1) u=true:=Qgn h n
theorem clo_le{n:Nat}{g:Rel}{i u:Nat}: ∀k m,k≤m→clo n g i k u=true→clo n g i m u=true:=by
 intro k m h hc
 induction m with
 |zero=>rw[show k=0 by omega]at hc;exact hc
 |succ m ih=>
  by_cases he:k=m+1
  ·rw[←he];exact hc
  ·exact clo_mono (ih (by omega))
def walk(f:Nat→Nat)(u:Nat):Nat→Nat
 |0=>u
 |k+1=>f (walk f u k)
theorem Qq1{n:Nat}{g:Rel}{f:Nat→Nat}{u:Nat}(hw: ∀k,walk f u k<n)(hg: ∀k,g (walk f u k) (walk f u (k+1))=true)(a:Nat): ∀d,clo n g (walk f u a) d (walk f u (a+d+1))=true
 |0=>hg a
 |d+1=>by
  have h1:=Qq1 hw hg a d
  have h2:=hg (a+d+1)
  exact Qsv (hw _) h1 h2
theorem pigeon{n:Nat}(f:Nat→Nat)(h: ∀k,f k<n): ∃a d,f a=f (a+d+1)∧a+d+1≤n:=by
 apply Classical.byContradiction
 intro hne
 have hinj: ∀i j,i<j→j≤n→f i≠f j:=fun i j hij hj e=>hne ⟨i,j-i-1,by rw[show i+(j-i-1)+1=j by omega];exact e,by omega⟩
 have key : ∀ m, m ≤ n + 1 → cntB (fun x => (List.range m).any fun k => f k == x) n = m := by
  intro m
  induction m with
  | zero =>
   intro _
   have: ∀n,cntB (fun x=>(List.range 0).any fun k=>f k==x) n=0:=by
    intro n
    induction n with
    |zero=>rfl
    |succ n ih=>unfold cntB;rw[ih];rfl
   exact this n
  | succ m ih =>
   intro hm
   have h1:=ih (by omega)
   have hadd: ∀(P:Nat→Bool)(y:Nat),P y=false→∀n,cntB (fun x=>P x||y==x) n=cntB P n+if y<n then 1 else 0:=by
    intro P y hy n
    induction n with
    |zero=>simp[cntB]
    | succ n ih =>
     unfold cntB
     rw[ih]
     by_cases hyn:y=n
     ·subst hyn
      simp[hy]
     ·have : (y == n) = false := by simpa using hyn
      rw[this,Bool.or_false]
      by_cases hlt:y<n
      ·rw[if_pos hlt,if_pos (show y<n+1 by omega)];omega
      ·rw[if_neg hlt,if_neg (show¬y<n+1 by omega)];omega
   have e:(fun x=>(List.range (m+1)).any fun k=>f k==x)=fun x=>((List.range m).any fun k=>f k==x)||f m==x:=by
    funext x
    rw[List.range_succ,List.any_append];simp
   rw[e,hadd _ (f m) ?_ n,h1,if_pos (h m)]
   rw[List.any_eq_false]
   intro k hk
   have:=hinj k m (List.mem_range.1 hk) (by omega)
   simpa using this
 have h1:=key (n+1) (Nat.le_refl _)
 have h2:=Qjx (fun x=>(List.range (n+1)).any fun k=>f k==x) n
 omega
theorem Qid{n:Nat}{g:Rel}{out:Nat→Bool}(ho: ∀u,u<n→out u=false)(h:placedAll n g out=false):acyclic n g=false:=by
 have h1: ¬ ∀u,u<n→passes n g out n u=true:=fun h'=>by rw[show placedAll n g out=true from all_range.2 h']at h;cases h
 obtain⟨t,hfix,u0,hu0,hP0⟩:=some_fix h1
 have hp:=pass_fix hfix ho
 generalize passes n g out t=P at*
 have: ∀u,∃p,u<n→P u=false→p<n∧g u p=true∧P p=false:=fun u=>by
  by_cases hu:u<n∧P u=false
  ·obtain ⟨p, hp⟩ := hp u hu.1 hu.2
   exact⟨p,fun _ _=>hp⟩
  ·exact⟨0,fun a b=>absurd ⟨a,b⟩ hu⟩
 obtain⟨f,hf⟩:=Classical.axiomOfChoice this
 have hw: ∀k,walk f u0 k<n∧P (walk f u0 k)=false:=by
  intro k
  induction k with
  |zero=>exact⟨hu0,hP0⟩
  |succ k ih=>have:=hf _ ih.1 ih.2;exact⟨this.1,this.2.2⟩
 have hg: ∀k,g (walk f u0 k) (walk f u0 (k+1))=true:=fun k=>(hf _ (hw k).1 (hw k).2).2.1
 obtain⟨a,d,e,hd⟩:=pigeon (walk f u0) (fun k=>(hw k).1)
 have hc:=Qq1 (fun k=>(hw k).1) hg a d
 rw[←e]at hc
 have hc2:=clo_le d n (by omega) hc
 cases hac:acyclic n g with
 |false=>rfl
 |true=>
  have:=all_range.1 hac _ (hw a).1
  rw[hc2]at this;cases this
theorem graph_same{n:Nat}{g:Rel}{out:Nat→Bool}(hin: ∀u,u<n→out u=false→∀p,g u p=true→p<n):placedAll n g out=((List.range n).all (fun u=> !out u)&&acyclic n g):=by
 cases h:placedAll n g out with
 |true=>
  obtain⟨h1,h2⟩:=Qh8 hin h
  rw[h1,show(List.range n).all (fun u=> !out u)=true from all_range.2 fun u hu=>by rw[h2 u hu];rfl];rfl
 | false =>
  cases ho:(List.range n).all (fun u=> !out u)with
  |false=>rfl
  |true=>
   have:=all_range.1 ho
   rw[Qid (fun u hu=>by have:=this u hu;simpa using this) h];rfl
end Go.Proofs.YtcmeiecgijmdjaaDoor.Am.GG
namespace Go.Proofs.YtcmeiecgijmdjaaDoor.Am
open Go.RowKit
theorem Qey(x:Nat):BitVec.ofInt 64 (x:Int)=BitVec.ofNat 64 x:=by
 apply BitVec.eq_of_toNat_eq
 rw[BitVec.toNat_ofInt,BitVec.toNat_ofNat];omega
theorem wrapn{z:Nat}(h:z<18446744073709551616):IntKind.u64.wrap ((z:Nat):Int)=(z:Int):=by
 rw[←wr_eq];exact Qif (by simp[lo]) (by simp[hi];omega)
theorem or_u{G:Ctx}{t:Nat}{x y:Nat}(hx:x<18446744073709551616)(hy:y<18446744073709551616):binV G .or t (u6 (x:Int)) (u6 (y:Int))=some (u6 ((x|||y:Nat):Int))∧x|||y<18446744073709551616:=by
 have hz:x|||y<2^64:=Nat.or_lt_two_pow hx hy
 refine⟨?_,hz⟩
 have e:binV G .or t (u6 (x:Int)) (u6 (y:Int))=some (.int .u64 (IntKind.u64.wrap ((BitVec.ofInt 64 (x:Int)|||BitVec.ofInt 64 (y:Int)).toNat:Int))):=rfl
 have h:(BitVec.ofInt 64 (x:Int)|||BitVec.ofInt 64 (y:Int)).toNat=x|||y:=by
  rw[Qey,Qey,BitVec.toNat_or,BitVec.toNat_ofNat,BitVec.toNat_ofNat,Nat.mod_eq_of_lt hx,Nat.mod_eq_of_lt hy]
 rw[e,h,wrapn hz]
theorem Qpe{G:Ctx}{t:Nat}{x y:Nat}(hx:x<18446744073709551616)(hy:y<18446744073709551616): ∃z:Nat,binV G .andNot t (u6 (x:Int)) (u6 (y:Int))=some (u6 (z:Int))∧z<18446744073709551616∧(z=0↔∀b,x.testBit b=true→y.testBit b=true):=by
 have h:(BitVec.ofInt 64 (x:Int)&&& ~~~BitVec.ofInt 64 (y:Int)).toNat=x&&& (2^64-(y+1)):=by
  rw[Qey,Qey,BitVec.toNat_and,BitVec.toNat_not,BitVec.toNat_ofNat,BitVec.toNat_ofNat,Nat.mod_eq_of_lt hx,Nat.mod_eq_of_lt hy]
  congr 1;omega
 have hz:x&&& (2^64-(y+1))<2^64:=Nat.and_lt_two_pow _ (by omega)
 refine⟨x&&& (2^64-(y+1)),?_,hz,?_⟩
 ·have e : binV G .andNot t (u6 (x : Int)) (u6 (y : Int)) = some (.int .u64 (IntKind.u64.wrap ((BitVec.ofInt 64 (x : Int) &&& ~~~BitVec.ofInt 64 (y : Int)).toNat : Int))) := rfl
  rw[e,h,wrapn hz]
 ·have hb : ∀ b, (x &&& (2 ^ 64 - (y + 1))).testBit b = (x.testBit b && !y.testBit b) := fun b => by
   rw[Nat.testBit_and,Nat.testBit_two_pow_sub_succ hy]
   by_cases hb:b<64
   ·simp[hb]
   ·have : x.testBit b = false := Nat.testBit_lt_two_pow (Nat.lt_of_lt_of_le (show x < 2 ^ 64 from hx) (Nat.pow_le_pow_right (show 0 < 2 by omega) (show 64 ≤ b by omega)))
    simp[this]
  constructor
  ·intro h0 b hxb
   have:=hb b
   rw[h0,Nat.zero_testBit,hxb]at this
   simpa using this.symm
  ·intro hall
   apply Nat.eq_of_testBit_eq
   intro b
   rw[hb,Nat.zero_testBit]
   cases hxb:x.testBit b with
   |false=>rfl
   |true=>rw[hall b hxb];rfl
theorem shl1_u{G:Ctx}{t:Nat}{k:Nat}(hk:k<64):binV G .shl t (u6 1) (i6 (k:Int))=some (u6 ((2^k:Nat):Int))∧2^k<18446744073709551616:=by
 have hp:2^k<2^64:=Nat.pow_lt_pow_right (by omega) hk
 refine⟨?_,hp⟩
 have e:binV G .shl t (u6 1) (i6 (k:Int))=if(k:Int)<0 then none else some (.int .u64 (wr .u64 (1*((2^min ((k:Int).toNat) 64:Nat):Int)))):=rfl
 rw[e,if_neg (by omega),Int.toNat_natCast,show min k 64=k by omega,Int.one_mul,wr_eq,wrapn hp]
def ut(l:List Nat):List V:=l.map fun(x:Nat)=>u6 (x:Int)
abbrev ul(l:List Nat):V:=.im l.length (ut l)
theorem Qeb{l:List Nat}{k:Nat}(h:k<l.length):headF ((ut l).drop (k*1))=some (u6 ((l.getD k 0:Nat):Int)):=by
 unfold ut
 rw[List.getD_eq_getElem?_getD,List.getElem?_eq_getElem h]
 exact Qcu (List.getElem?_eq_getElem h)
theorem Qcl(l:List Nat):HfL (ut l):=Qbd _ l (fun _=>trivial)
def S64(l:List Nat):Prop:=∀x∈l,x<18446744073709551616
theorem S64.get{l:List Nat}(h:S64 l)(k:Nat):l.getD k 0<18446744073709551616:=by
 rw[List.getD_eq_getElem?_getD]
 cases hx:l[k]? with
 |none=>decide
 |some x=>exact h x (List.mem_of_getElem? hx)
def relL(l:List Nat):GG.Rel:=fun v p=>(l.getD v 0).testBit p
def outL(l:List Nat)(n:Nat):Nat→Bool:=fun v=> !decide (l.getD v 0/2^n=0)
theorem out_in{l:List Nat}{n v:Nat}(h:outL l n v=false): ∀p,relL l v p=true→p<n:=by
 intro p hp
 unfold outL at h
 have h0:l.getD v 0/2^n=0:=by simpa using h
 have hlt:l.getD v 0<2^n:=by
  rcases Nat.lt_or_ge (l.getD v 0) (2^n)with h'|h'
  ·exact h'
  ·have:=Nat.div_pos h' (Nat.two_pow_pos _);omega
 rcases Nat.lt_or_ge p n with h'|h'
 ·exact h'
 ·have : (l.getD v 0).testBit p = false := Nat.testBit_lt_two_pow (Nat.lt_of_lt_of_le hlt (Nat.pow_le_pow_right (by omega) h'))
  unfold relL at hp
  rw[this]at hp;cases hp
theorem in_out{l:List Nat}{n v:Nat}(h: ∀p,relL l v p=true→p<n):outL l n v=false:=by
 unfold outL
 have hlt:l.getD v 0<2^n:=by
  refine Nat.lt_pow_two_of_testBit _ fun i hi=>?_
  cases hb:(l.getD v 0).testBit i with
  |false=>rfl
  |true=>have:=h i hb;omega
 rw[Nat.div_eq_of_lt hlt];rfl
abbrev igS(l:List Nat)(n:Nat)(t v P:Nat):SL:={sl:=[(0,ul l),(1,i6 n),(5,u6 P),(12,i6 n),(13,i6 t),(15,ul l),(16,i6 l.length),(17,i6 v)]}
abbrev igX(l:List Nat)(n:Nat)(t P:Nat):SL:={sl:=[(0,ul l),(1,i6 n),(5,u6 P),(12,i6 n),(13,i6 t)]}
def Bits(P:Nat)(Q:Nat→Bool):Prop:=P<18446744073709551616∧∀u,P.testBit u=Q u
theorem ig_in(l:List Nat)(n:Nat)(hl:l.length=n)(hn:n≤6)(h64:S64 l)(t P:Nat)(Q:Nat→Bool)(hP:Bits P Q)(hQ: ∀u,Q u=true→u<n):
  Sat Pg none 0 (at' 24 [1,1,1,0,1,0,0,1,1,0,0,1,0]) (mkSt g0 37 (igS l n t 0 P)) (fun e st=>∃S',st=mkSt g0 37 S'∧e= .exit 2∧∃P',S'=igX l n t P'∧Bits P' (GG.pass n (relL l) (outL l n) Q n)):=by
 refine loopHG (b:=at' 24 [1,1,1,0,1,0,0,1,1,0,0,1,0,0]) (by kernel_rfl) (fun q:Nat×Nat=>q.1≤n∧Bits q.2 (GG.pass n (relL l) (outL l n) Q q.1)∧∀u,GG.pass n (relL l) (outL l n) Q q.1 u=true→u<n) (fun q=>igS l n t q.1 q.2) (fun q=>n-q.1) (fun e S'=>e= .exit 2∧∃P',S'=igX l n t P'∧Bits P' (GG.pass n (relL l) (outL l n) Q n)) (fun q G hq hN hX _=>?_) (0,P) ⟨Nat.zero_le _,hP,hQ⟩
 obtain⟨v,p⟩:=q
 obtain⟨hv,⟨hp,hb⟩,hlt⟩:=hq
 dsimp only at hv hp hb hlt hN
 by_cases hvn:v<n
 ·have hld := @Qeb l v (by omega)
  have hs:=h64.get v
  obtain⟨z,hz1,hz2,hz3⟩:=@Qpe (Qae Pg) 50 (l.getD v 0) p hs hp
  have hpass: ∀u,GG.pass n (relL l) (outL l n) Q (v+1) u=(p.testBit u||(decide (u=v)&&(!outL l n v&&(List.range n).all fun k=> !relL l v k||p.testBit k))):=fun u=>by
   show GG.place1 n (relL l) (outL l n) (GG.pass n (relL l) (outL l n) Q v) v u=_
   unfold GG.place1
   simp only[hb]
  have hcond:(∀b,(l.getD v 0).testBit b=true→p.testBit b=true)↔(!outL l n v&&(List.range n).all fun k=> !relL l v k||p.testBit k)=true:=by
   constructor
   ·intro h
    have ho:outL l n v=false:=in_out fun k hk=>hlt k (by rw[←hb];exact h k hk)
    rw[ho,Bool.not_false,Bool.true_and]
    refine GG.all_range.2 fun k _=>?_
    cases hk:relL l v k with
    |false=>rfl
    |true=>rw[h k hk];rfl
   ·intro h b hbit
    rw[Bool.and_eq_true]at h
    have ho:outL l n v=false:=by simpa using h.1
    have hbn:=out_in ho b hbit
    have:=GG.all_range.1 h.2 b hbn
    rw[show relL l v b=true from hbit]at this
    simpa using this
  generalize l.getD v 0=s at*
  by_cases hz:z=0
  ·have hc := hcond.1 (hz3.1 hz)
   obtain⟨s1,s2⟩:=@shl1_u (Qae Pg) 50 v (by omega)
   obtain⟨o1,o2⟩:=@or_u (Qae Pg) 50 p (2^v) hp s2
   have hnx:=hN (v+1,p|||2^v) ⟨hvn,⟨o2,fun u=>by
    dsimp only
    rw[hpass,hc,Bool.and_true,Nat.testBit_or,Nat.testBit_two_pow]
    congr 1
    exact decide_eq_decide.2 eq_comm⟩,fun u hu=>by
    dsimp only at hu
    rw[hpass]at hu
    simp only[Bool.or_eq_true,Bool.and_eq_true,decide_eq_true_eq]at hu
    rcases hu with hu|⟨rfl,_⟩
    ·exact hlt u (by rw[←hb];exact hu)
    ·exact hvn⟩ (by dsimp only;omega)
   rw[hz]at hz1
   generalize p|||2^v=p2 at*
   generalize 2^v=w at*
   refine⟨[yes 18,pl 20,ld 21 (u6 s),va 24 (u6 (0:Nat)),yes 25,va 28 (u6 w),va 29 (u6 p2),nu 30 (v+1:Nat),(0,.to [] (igS l n t (v+1) p2))],1000,?_⟩
   clear hN hX hpass hcond hz3 hb hlt
   refine Eq.mp (by kernel_rfl:(let z4:=An [Sm l.length,Sm (ut l)];let z0:=(↑l.length:Int);let z1:=(↑(v+1):Int);let z2:=(↑v:Int);let z3:=(↑n:Int);An [decide (z2<z0)=true,An [(0:Int)≤z2,z2<z0],headF (List.drop (v*1) (ut l))=some (u6 ↑s),binV (Qae Pg) .andNot 50 (u6 ↑s) (u6 ↑p)=some (u6 ↑(0:Nat)),((↑(0:Nat):Int)==(0:Int))=true,binV (Qae Pg) .shl 50 (u6 1) (i6 ↑v)=some (u6 ↑w),binV (Qae Pg) .or 50 (u6 ↑p) (u6 ↑w)=some (u6 ↑p2),wr .i64 (z2+(1:Int))=z1,G Ex.normal (igS l n t (v+1) p2),An [z4,z3=z3,Sm (↑p2:Int),z3=z3,Sm (↑t:Int),z4,z0=z0,z1=z1,Tt],Tt])=_) ?_
   exact au
  ·have hc : (!outL l n v && (List.range n).all fun k => !relL l v k || p.testBit k) = false := by
    cases hcc:(!outL l n v&&(List.range n).all fun k=> !relL l v k||p.testBit k)with
    |false=>rfl
    |true=>exact absurd (hz3.2 (hcond.2 hcc)) hz
   have hnx:=hN (v+1,p) ⟨hvn,⟨hp,fun u=>by dsimp only;rw[hpass,hc,Bool.and_false,Bool.or_false]⟩,fun u hu=>by
    dsimp only at hu
    rw[hpass,hc,Bool.and_false,Bool.or_false]at hu
    exact hlt u (by rw[←hb];exact hu)⟩ (by dsimp only;omega)
   refine⟨[yes 18,pl 20,ld 21 (u6 s),va 24 (u6 z),no 25,nu 30 (v+1:Nat),(0,.to [] (igS l n t (v+1) p))],1000,?_⟩
   clear hN hX hpass hcond hz3 hb hlt hc
   refine Eq.mp (by kernel_rfl:(let z4:=An [Sm l.length,Sm (ut l)];let z0:=(↑l.length:Int);let z1:=(↑(v+1):Int);let z2:=(↑v:Int);let z3:=(↑n:Int);An [decide (z2<z0)=true,An [(0:Int)≤z2,z2<z0],headF (List.drop (v*1) (ut l))=some (u6 ↑s),binV (Qae Pg) .andNot 50 (u6 ↑s) (u6 ↑p)=some (u6 ↑z),((↑z:Int)==(0:Int))=false,wr .i64 (z2+(1:Int))=z1,G Ex.normal (igS l n t (v+1) p),An [z4,z3=z3,Sm (↑p:Int),z3=z3,Sm (↑t:Int),z4,z0=z0,z1=z1,Tt],Tt])=_) ?_
   exact au
 ·have : v = n := by omega
  subst this
  have hx:=hX 2 _ ⟨rfl,p,rfl,hp,hb⟩
  refine⟨[no 18,(0,.to [] (igX l v t p))],1000,?_⟩
  clear hN hX hb hlt
  refine Eq.mp (by kernel_rfl:(let z0:=(↑v:Int);An [decide (z0<(↑l.length:Int))=false,G (Ex.exit 2) (igX l v t p),An [An [Sm l.length,Sm (ut l)],z0=z0,Sm (↑p:Int),z0=z0,Sm (↑t:Int),Tt],Tt])=_) ?_
  exact au
abbrev v16(n:Int):V:=.int .u16 n
section
variable (N:Nat) (o:Nat→Nat) (E n:Nat)
end
theorem head_ut0{l:List Nat}{k:Nat}(h:k<l.length):headF (dropF (0+k*1) (ut l))=some (u6 ((l.getD k 0:Nat):Int)):=by
 rw[Qam,Nat.zero_add];exact Qeb h
section
variable (N:Nat) (o:Nat→Nat) (E n:Nat) (L:List Nat)
end
open Go.RowKit Go.ChangeShapes Go.WideShapes
theorem wf8n{n:Int}(h:(Lit.int .u8 n).wf=true): ∃m:Nat,n=m∧m<256:=by
 have:=wf8 h
 exact⟨n.toNat,by omega,by omega⟩
section
variable {H:Type} {enc:TypeId×Value→H} {w:World}
end
def Qf8(n:Nat)(rows:List (List Int)):Prop:=∀c∈rows,c.length=n
theorem Qs4(ks:List (Nat→Int))(fo:Int)(cards:List Int)(m:Nat):Qf8 cards.length (drows ks fo cards m):=by
 intro c hc
 obtain⟨f,_,rfl⟩:=List.mem_map.1 hc
 exact Qbn f fo cards _
theorem Qqc{n:Nat}: ∀(M:List Int)(rows:List (List Int)),Qf8 n rows→Qf8 n (Qcf n rows M)
 |[],_,h=>h
 | m :: M, rows, h => by
  have h1:Qf8 n (Qfu n rows m):=by
   intro c hc
   unfold Qfu at hc
   by_cases hr:rows=[]
   ·subst hr;simp at hc
   ·have hp : 0 < rows.length := Nat.pos_of_ne_zero (fun h0 => hr (List.eq_nil_of_length_eq_zero h0))
    have h2:=Int.emod_lt_of_pos (m/5) (show(0:Int)<rows.length by omega)
    have h3:=Int.emod_nonneg (m/5) (show(rows.length:Int)≠0 by omega)
    rcases List.mem_or_eq_of_mem_set hc with hc|rfl
    ·exact h c hc
    ·rw [List.length_set, List.getD_eq_getElem?_getD, List.getElem?_eq_getElem (by omega)]
     exact h _ (List.getElem_mem (by omega))
  exact Qqc M _ h1
theorem Qln(C:List Int)(ks:List (Nat→Int))(fo:Int)(M:List Int):Qf8 (cardsD C).length (dataD C ks fo M)∧(dataD C ks fo M).length≤40:=by
 refine⟨Qqc M _ (Qs4 ks fo _ _),?_⟩
 unfold dataD
 rw[Qc9]
 simp only[drows,List.length_map,List.length_take];omega
abbrev bdL(b a N:Int):List V:=[w8 b,w8 a,i6 N]
open Go.RowKit Go.ChangeShapes Go.WideShapes
section
variable {H:Type} {enc:TypeId×Value→H} {w:World}
end
def valW:List Nat→Nat
 |[]=>0
 |x::l=>x+18446744073709551616*valW l
def WOk(l:List Nat):Prop:=∀k,l.getD k 0<18446744073709551616
theorem Qbo(a b:List Nat):valW (a++b)=valW a+18446744073709551616^a.length*valW b:=by
 induction a with
 |nil=>simp[valW]
 |cons x a ih=>
  simp only[List.cons_append,valW,ih,List.length_cons,Nat.pow_succ,Nat.mul_add]
  rw[Nat.mul_comm (18446744073709551616^a.length) 18446744073709551616,Nat.mul_assoc]
  omega
theorem WOk.tail{x:Nat}{l:List Nat}(h:WOk (x::l)):x<18446744073709551616∧WOk l:=
 ⟨by simpa using h 0,fun k=>by simpa using h (k+1)⟩
theorem WOk.cons{x:Nat}{l:List Nat}(h1:x<18446744073709551616)(h2:WOk l):WOk (x::l)
 |0=>by simpa using h1
 |k+1=>by simpa using h2 k
theorem WOk.take{l:List Nat}(h:WOk l)(n:Nat):WOk (l.take n):=fun k=>by
 rw[List.getD_eq_getElem?_getD,List.getElem?_take]
 split
 ·rw[←List.getD_eq_getElem?_getD];exact h k
 ·simp
theorem Qov: ∀{l:List Nat},WOk l→valW l<18446744073709551616^l.length
 |[],_=>by simp[valW]
 |x::l,h=>by
  have h1:=h.tail
  have h2:=Qov h1.2
  simp only[valW,List.length_cons,Nat.pow_succ]
  have h3:=h1.1
  generalize 18446744073709551616^l.length=P at*
  omega
theorem Qe8{l:List Nat}{i:Nat}(h:i<l.length):l.take (i+1)=l.take i++[l.getD i 0]:=by
 rw[List.take_succ_eq_append_getElem h,List.getD_eq_getElem?_getD,List.getElem?_eq_getElem h];rfl
theorem Qps{l:List Nat}{i:Nat}(h:i<l.length):l.drop i=l.getD i 0::l.drop (i+1):=by
 rw[List.drop_eq_getElem_cons h,List.getD_eq_getElem?_getD,List.getElem?_eq_getElem h];rfl
theorem Qh0{l:List Nat}{i:Nat}(h:i<l.length):valW (l.take (i+1))=valW (l.take i)+18446744073709551616^i*l.getD i 0:=by
 rw[Qe8 h,Qbo,List.length_take,Nat.min_eq_left (by omega)]
 simp[valW]
def mulS(w:Nat)(l:List Nat):Nat→List Nat×Nat
 |0=>(l,0)
 |i+1=>((mulS w l i).1.set i ((l.getD i 0*w+(mulS w l i).2)%18446744073709551616),(l.getD i 0*w+(mulS w l i).2)/18446744073709551616)
theorem Qbx(w:Nat)(l:List Nat): ∀i,(mulS w l i).1.length=l.length
 |0=>rfl
 |i+1=>by rw[mulS,List.length_set,Qbx w l i]
theorem Qmo(w:Nat)(l:List Nat): ∀i,(mulS w l i).1.drop i=l.drop i
 |0=>rfl
 |i+1=>by
  have h:=Qmo w l i
  rw[mulS,List.drop_set_of_lt (by omega)]
  have:=congrArg (List.drop 1) h
  simpa [List.drop_drop]using this
theorem mulS_at(w:Nat)(l:List Nat)(i:Nat):(mulS w l i).1.getD i 0=l.getD i 0:=by
 have h:=congrArg (fun x=>x.getD 0 0) (Qmo w l i)
 simpa [List.getD_eq_getElem?_getD,List.getElem?_drop]using h
theorem set_take{l:List Nat}{i x:Nat}(h:i<l.length):(l.set i x).take (i+1)=l.take i++[x]:=by
 rw[Qe8 (by simpa using h),List.take_set_of_le (by omega)]
 congr 2
 rw[List.getD_eq_getElem?_getD,List.getElem?_set_self h];rfl
theorem Qg7{a w c:Nat}(ha:a<18446744073709551616)(hw:w<18446744073709551616)(hc:c<18446744073709551616):a*w+c<340282366920938463463374607431768211456:=by
 have:a*w≤18446744073709551615*18446744073709551615:=Nat.mul_le_mul (by omega) (by omega)
 omega
structure MulOk(w:Nat)(l:List Nat)(i:Nat)(m:List Nat)(c:Nat):Prop where
 len:m.length=l.length
 words:WOk m
 carry:c<18446744073709551616
 val:valW (m.take i)+18446744073709551616^i*c=w*valW (l.take i)
theorem Qn4{w:Nat}{l:List Nat}(hl:WOk l)(hw:w<18446744073709551616): ∀i,i≤l.length→MulOk w l i (mulS w l i).1 (mulS w l i).2
 |0,_=>⟨rfl,hl,by show 0< _;omega,by simp[mulS,valW]⟩
 | i + 1, h => by
  have ih:=Qn4 hl hw i (by omega)
  have hlen:=Qbx w l i
  have ha:=hl i
  have hcc:=ih.carry
  have hb:=Qg7 ha hw hcc
  refine⟨by rw[Qbx],fun k=>?_,?_,?_⟩
  ·simp only [mulS]
   rw[List.getD_eq_getElem?_getD,List.getElem?_set]
   split
   ·split
    ·simp only[Option.getD_some];omega
    ·simp
   ·rw[←List.getD_eq_getElem?_getD];exact ih.words k
  ·simp only[mulS];omega
  ·have hv := ih.val
   simp only[mulS]
   rw[set_take (by omega),Qbo,Qh0 (by omega),List.length_take,hlen,Nat.min_eq_left (by omega),Nat.mul_add,←hv]
   generalize (mulS w l i).2=c at*
   generalize (mulS w l i).1=m at*
   simp only[valW,Nat.mul_zero,Nat.add_zero]
   have hd:=Nat.mod_add_div (l.getD i 0*w+c) 18446744073709551616
   generalize (l.getD i 0*w+c)%18446744073709551616=r at*
   generalize (l.getD i 0*w+c)/18446744073709551616=q at*
   rw[Nat.pow_succ,Nat.mul_assoc (18446744073709551616^i),Nat.add_assoc (valW (m.take i)),←Nat.mul_add,hd,Nat.mul_add,Nat.mul_left_comm w,Nat.mul_comm w]
   omega
structure Norm(l:List Nat):Prop where
 ok:WOk l
 pos:1≤l.length
 top:18446744073709551616^(l.length-1)≤valW l
def mulW(w:Nat)(l:List Nat):List Nat:=if(mulS w l l.length).2=0 then(mulS w l l.length).1 else(mulS w l l.length).1++[(mulS w l l.length).2]
theorem Qum{w:Nat}{l:List Nat}(h:Norm l)(hw:w<18446744073709551616)(hp:1≤w):Norm (mulW w l)∧valW (mulW w l)=w*valW l∧(mulW w l).length≤l.length+1:=by
 have ho:=Qn4 h.ok hw l.length (Nat.le_refl _)
 have hv:=ho.val
 have hlen:=ho.len
 unfold mulW
 generalize (mulS w l l.length).1=m at*
 generalize (mulS w l l.length).2=c at*
 rw[List.take_of_length_le (by omega),List.take_of_length_le (by omega)]at hv
 have hge:valW l≤w*valW l:=Nat.le_mul_of_pos_left _ hp
 have htop:=h.top
 have hpos:=h.pos
 by_cases hc:c=0
 ·subst hc
  rw[if_pos rfl]
  simp only[Nat.mul_zero,Nat.add_zero]at hv
  exact⟨⟨ho.words,by omega,by rw[hlen];omega⟩,hv,by omega⟩
 ·rw [if_neg hc]
  have hval:valW (m++[c])=w*valW l:=by
   rw[Qbo,hlen];simpa [valW]using hv
  refine⟨⟨fun k=>?_,by simp,?_⟩,hval,by simp;omega⟩
  ·rw [List.getD_eq_getElem?_getD, List.getElem?_append]
   split
   ·rw[←List.getD_eq_getElem?_getD];exact ho.words k
   ·cases hk : k - m.length with
    |zero=>simpa using ho.carry
    |succ j=>simp
  ·rw [Qbo]
   simp only[List.length_append,List.length_singleton,Nat.add_sub_cancel,valW,Nat.mul_zero,Nat.add_zero]
   have:18446744073709551616^m.length*1≤18446744073709551616^m.length*c:=Nat.mul_le_mul_left _ (by omega)
   omega
theorem norm_one:Norm [1]:=⟨WOk.cons (by omega) (fun k=>by simp),by simp,by simp[valW]⟩
theorem Qqk{a b:List Nat}(ha:Norm a)(hb:Norm b)(h:a.length<b.length):valW a<valW b:=by
 have h1:=Qov ha.ok
 have h2:=hb.top
 have h3:18446744073709551616^a.length≤18446744073709551616^(b.length-1):=Nat.pow_le_pow_right (by omega) (by omega)
 omega
theorem Qq2{a b:List Nat}(ha:WOk a){i:Nat}(hl:a.length=b.length)(hi:i<a.length)(hd:a.drop (i+1)=b.drop (i+1))(h:a.getD i 0<b.getD i 0):valW a<valW b:=by
 have e1:valW a=valW (a.take (i+1))+18446744073709551616^(i+1)*valW (a.drop (i+1)):=by
  conv=>lhs;rw[←List.take_append_drop (i+1) a]
  rw[Qbo,List.length_take,Nat.min_eq_left (by omega)]
 have e2:valW b=valW (b.take (i+1))+18446744073709551616^(i+1)*valW (b.drop (i+1)):=by
  conv=>lhs;rw[←List.take_append_drop (i+1) b]
  rw[Qbo,List.length_take,Nat.min_eq_left (by omega)]
 rw[e1,e2,hd,Qh0 hi,Qh0 (by omega)]
 have h1:=Qov (ha.take i)
 rw[List.length_take,Nat.min_eq_left (by omega)]at h1
 have h2:18446744073709551616^i*(a.getD i 0+1)≤18446744073709551616^i*b.getD i 0:=Nat.mul_le_mul_left _ h
 rw[Nat.mul_add,Nat.mul_one]at h2
 omega
theorem Qlv{a b:List Nat}{i:Nat}(hl:a.length=b.length)(hi:i<a.length)(hd:a.drop (i+1)=b.drop (i+1))(h:a.getD i 0=b.getD i 0):a.drop i=b.drop i:=by
 have hi':i<b.length:=by omega
 rw[Qps hi,Qps hi',h,hd]
def sgn(x y:Nat):Int:=if x<y then -1 else if y<x then 1 else 0
def Qa0(e:Nat→Nat):Nat→Nat
 |0=>1
 |k+1=>Qa0 e k*primeN k^e k
theorem Qru(k:Nat):0<primeN k:=by have:=(Qbu k).1;omega
theorem Qmz(e:Nat→Nat): ∀k,0<Qa0 e k
 |0=>by simp[Qa0]
 |k+1=>Nat.mul_pos (Qmz e k) (Nat.pow_pos (Qru k))
theorem Qbe{e f:Nat→Nat}: ∀k,(∀j,j<k→e j=f j)→Qa0 e k=Qa0 f k
 |0,_=>rfl
 |k+1,h=>by rw[Qa0,Qa0,Qbe k (fun j hj=>h j (by omega)),h k (by omega)]
theorem Qhh(e f:Nat→Nat): ∀k,Qa0 (fun j=>e j+f j) k=Qa0 e k*Qa0 f k
 |0=>rfl
 |k+1=>by
  rw[Qa0,Qa0,Qa0,Qhh e f k,Nat.pow_add]
  simp only[Nat.mul_assoc,Nat.mul_left_comm,Nat.mul_comm]
theorem Qh9:((List.range 18).all fun i=>(List.range 18).all fun j=>decide (i=j)||decide (Nat.gcd (primeN i) (primeN j)=1))=true:=by decide+kernel
theorem Qkk{i j:Nat}(hi:i<18)(hj:j<18)(h:i≠j):Nat.Coprime (primeN i) (primeN j):=by
 have h1:=List.all_eq_true.1 (List.all_eq_true.1 Qh9 i (List.mem_range.2 hi)) j (List.mem_range.2 hj)
 rcases Bool.or_eq_true _ _▸h1 with h2|h2
 ·exact absurd (of_decide_eq_true h2) h
 ·exact of_decide_eq_true h2
theorem Qe2{e:Nat→Nat}{i:Nat}(hi:i<18)(h0:e i=0): ∀k,k≤18→Nat.Coprime (primeN i) (Qa0 e k)
 |0,_=>by simp[Qa0,Nat.Coprime]
 |k+1,hk=>by
  rw[Qa0]
  refine Nat.Coprime.mul_right (Qe2 hi h0 k (by omega)) ?_
  by_cases h:i=k
  ·subst h;rw[h0];simp[Nat.Coprime]
  ·exact Nat.Coprime.pow_right _ (Qkk hi (by omega) h)
theorem Qmy{e:Nat→Nat}{i:Nat}(h1:1≤e i): ∀k,i<k→primeN i∣Qa0 e k
 | k + 1, h => by
  rw[Qa0]
  by_cases hk:i=k
  ·subst hk
   exact Nat.dvd_mul_left_of_dvd (Nat.dvd_trans (by rw[Nat.pow_one];exact Nat.dvd_refl _) (Nat.pow_dvd_pow _ h1)) _
  ·exact Nat.dvd_mul_right_of_dvd (Qmy h1 k (by omega)) _
def posF(f:Nat→Int)(s:Int)(j:Nat):Nat:=(s*f j).toNat
theorem Qu2{e f:Nat→Nat}{i:Nat}(hi:i<18)(h1:1≤e i)(h0:f i=0):Qa0 e 18≠Qa0 f 18:=by
 intro h
 have hd:=Qmy h1 18 hi
 rw[h]at hd
 have hc:=Qe2 hi h0 18 (Nat.le_refl _)
 have:=Nat.Coprime.eq_one_of_dvd hc hd
 have:=(Qbu i).1
 omega
theorem Qm0{f:Nat→Int}(h:Qa0 (posF f 1) 18=Qa0 (posF f (-1)) 18): ∀i,i<18→f i=0:=by
 intro i hi
 rcases Int.lt_trichotomy (f i) 0 with h1|h1|h1
 ·exact absurd h.symm (Qu2 hi (by unfold posF;omega) (by unfold posF;omega))
 ·exact h1
 ·exact absurd h (Qu2 hi (by unfold posF;omega) (by unfold posF;omega))
theorem quot_cmp{a b:Nat→Nat}{n m:Nat}(hn:n=Qa0 a 18)(hm:m=Qa0 b 18)(f:Nat→Int)(hf: ∀i,i<18→f i=(a i:Int)-(b i:Int)):sgn (Qa0 (posF f 1) 18) (Qa0 (posF f (-1)) 18)=sgn n m:=by
 have h1:n=Qa0 (posF f 1) 18*Qa0 (fun i=>min (a i) (b i)) 18:=by
  rw[hn,←Qhh]
  exact Qbe 18 fun j hj=>by
   have:=hf j hj
   unfold posF;omega
 have h2:m=Qa0 (posF f (-1)) 18*Qa0 (fun i=>min (a i) (b i)) 18:=by
  rw[hm,←Qhh]
  exact Qbe 18 fun j hj=>by
   have:=hf j hj
   unfold posF;omega
 have h3:=Qmz (fun i=>min (a i) (b i)) 18
 generalize Qa0 (posF f 1) 18=x at*
 generalize Qa0 (posF f (-1)) 18=y at*
 generalize Qa0 (fun i=>min (a i) (b i)) 18=z at*
 subst h1 h2
 unfold sgn
 by_cases hxy:x<y
 ·rw[if_pos hxy,if_pos (Nat.mul_lt_mul_of_pos_right hxy h3)]
 ·have hle := Nat.mul_le_mul_right z (Nat.le_of_not_lt hxy)
  have hn1: ¬x*z<y*z:=Nat.not_lt.2 hle
  rw[if_neg hxy,if_neg hn1]
  by_cases hyx:y<x
  ·rw[if_pos hyx,if_pos (Nat.mul_lt_mul_of_pos_right hyx h3)]
  ·have hn2 : ¬ y * z < x * z := Nat.not_lt.2 (Nat.mul_le_mul_right z (Nat.le_of_not_lt hyx))
   rw[if_neg hyx,if_neg hn2]
noncomputable def kFinH(nx0 n:Nat)(r:List Nat)(S:SL):KF:=fun e _ st=>match e with
 | .exit _=>False
 | .pan _=>False
 | _=>bif Nat.beq st.tm.n n then gcP nx0 r st S else False
noncomputable def vcFiH(P:Program)(E:Env)(sp:Qc0)(gl:T (List V))(n:Nat)(os0:List O)(ars:List V)(hs:Hs)(r:List Nat)(S:SL)(v:V):Option FI→Prop
 |some fi=>bif Nat.ble ars.length fi.ntmps then retP v (retV E.G (mkSt gl fi.ntmps S).tm (mkSt gl fi.ntmps S).H fi.res)∧vc P E sp none os0.length n fi.body hs ⟨⟨Qhi (blank fi.ntmps) 0 ars,gl,fi.ntmps⟩,ofOs .e 0 os0,os0.length,[]⟩ (kFinH os0.length fi.ntmps r S)else False
 |none=>False
noncomputable def vcFnH(P:Program)(E:Env)(sp:Qc0)(gl:T (List V))(n f:Nat)(os0:List O)(ars:List V)(hs:Hs)(r:List Nat)(S:SL)(v:V):Prop:=vcFiH P E sp gl n os0 ars hs r S v (E.code f)
theorem Qn5: ∀(os:List O)(t:T O)(k i:Nat),k≤i→i<k+os.length→(ofOs t k os).get i=os[i-k]?
 |[],_,_,_,h1,h2=>by simp at h2;omega
 | o :: os, t, k, i, h1, h2 => by
  rw[ofOs]
  by_cases hi:i=k
  ·subst hi
   have: ∀(os:List O)(t:T O)(j i:Nat),i<j→(ofOs t j os).get i=t.get i:=by
    intro os
    induction os with
    |nil=>intro t j i _;rfl
    |cons o os ih=>
     intro t j i h
     rw[ofOs,ih _ _ _ (by omega),pt_eq,T.get_put,if_neg (by omega)]
   rw[this _ _ _ _ (by omega),pt_eq,T.get_put,if_pos rfl]
   simp
  ·rw [Qn5 os _ _ _ (by omega) (by simp at h2; omega)]
   rw[show i-k=(i-(k+1))+1 by omega,List.getElem?_cons_succ]
theorem Qqn{os:List O}{i:Nat}(h:os.length≤i):(ofOs .e 0 os).get i=none:=by
 cases hg:(ofOs .e 0 os).get i with
 |none=>rfl
 | some o =>
  rcases ofOs_get os .e 0 i o hg with⟨_,h2⟩|h2
  ·have := (List.getElem?_eq_some_iff.1 h2).1
   omega
  ·cases h2
theorem CallSpec.of_vcH{P:Program}{E:Env}{sp:Qc0}(hE:E.Ok P)(hm:P.follows .mixedOrders=true){gl:T (List V)}(hsp:Qbg P gl sp){n f:Nat}{os0:List O}{ars:List V}{hs:Hs}{r:List Nat}{S:SL}{v:V}(hle:os0.length≤S.os.length)(hsame: ∀i,i<os0.length→i∉S.lg→S.os[i]? =os0[i]?)(h:vcFnH P E sp gl n f os0 ars hs r S v):CallSpec P gl (.fn f []) ars (ofOs .e 0 os0) os0.length ⟨v,ofOs .e 0 S.os,S.os.length,S.lg⟩:=by
 unfold vcFnH vcFiH at h
 split at h
 ·rename_i fi hfi
  obtain⟨hb,hret,hv⟩:=Qai h
  have hret':retV E.G (mkSt gl fi.ntmps S).tm (mkSt gl fi.ntmps S).H fi.res=some v:=by
   unfold retP at hret
   split at hret
   ·rename_i u e;rw[e,hret]
   ·exact hret.elim
  rw[Qfm]at hv
  have hlog:Log (ofOs .e 0 os0).get os0.length (ofOs .e 0 S.os).get S.os.length S.lg:=by
   refine⟨hle,fun i hi hn=>?_⟩
   by_cases h1:i<os0.length
   ·rw [Qn5 _ _ _ _ (Nat.zero_le _) (by omega), Qn5 _ _ _ _ (Nat.zero_le _) (by omega), Nat.sub_zero]
    exact hsame i h1 hi
   ·rw[Qqn (by omega),Qqn (by omega)]
  refine CallSpec.fnC hE hfi (by rw[List.append_nil];exact hb) hlog (R:=fun e st=>(e= .normal∨e= .ret)∧st=mkSt gl fi.ntmps S) ?_ ?_
  ·rw [List.append_nil]
   refine Sat.gc_post (Sat.of_vc hE hm hsp rfl hv fun e hs' st' hg hk=>?_)
   unfold kFinH at hk
   have fin:(bif Nat.beq st'.tm.n fi.ntmps then gcP os0.length r st' S else False)→∃r st2,Gc os0.length r st' st2∧st2=mkSt gl fi.ntmps S:=by
    intro hk
    obtain⟨hb,hk⟩:=Qai hk
    exact⟨r,_,Qfp hk,by rw[hg,Nat.eq_of_beq_eq_true hb]⟩
   cases e with
   |exit=>exact hk.elim
   |pan=>exact hk.elim
   |normal=>obtain⟨r,st2,h1,h2⟩:=fin hk;exact⟨r,st2,h1,.inl rfl,h2⟩
   |ret=>obtain⟨r,st2,h1,h2⟩:=fin hk;exact⟨r,st2,h1,.inr rfl,h2⟩
  ·rintro e st ⟨he, rfl⟩
   exact⟨he,v,hret',fun s w ee w' _ _ hp=>hp⟩
 ·exact h.elim
theorem wru{z:Nat}(h:z<18446744073709551616):wr .u64 ((z:Nat):Int)=(z:Int):=Qif (by simp[lo]) (by simp[hi];omega)
theorem wru_mod(z:Nat):wr .u64 ((z:Nat):Int)=((z%18446744073709551616:Nat):Int):=by
 rw[wr_eq,IntKind.wrap_u64];omega
theorem Qnm{G:Ctx}{t:Nat}{x:Nat}:binV G .and t (u6 (x:Int)) (u6 4294967295)=some (u6 ((x%4294967296:Nat):Int)):=by
 have h:(BitVec.ofInt 64 (x:Int)&&& BitVec.ofInt 64 4294967295).toNat=x%4294967296:=by
  rw[BitVec.toNat_and]
  have h1:(BitVec.ofInt 64 4294967295).toNat=2^32-1:=by decide
  rw[h1,Nat.and_two_pow_sub_one_eq_mod]
  have h2:(BitVec.ofInt 64 (x:Int)).toNat=x%2^64:=by
   rw[BitVec.toNat_ofInt];omega
  rw[h2];omega
 have hw:IntKind.u64.wrap ((x%4294967296:Nat):Int)=((x%4294967296:Nat):Int):=by
  rw[←wr_eq];exact wru (by omega)
 have e:binV G .and t (u6 (x:Int)) (u6 4294967295)=some (.int .u64 (IntKind.u64.wrap ((BitVec.ofInt 64 (x:Int)&&& BitVec.ofInt 64 4294967295).toNat:Int))):=rfl
 rw[e,h,hw]
theorem Qhs{G:Ctx}{t:Nat}{x:Nat}:binV G .shr t (u6 (x:Int)) (u6 32)=some (u6 ((x/4294967296:Nat):Int)):=by
 have h1:((32:Int)<0)=False:=by simp
 have h2:2^min (Int.toNat 32) IntKind.u64.bits=4294967296:=by decide
 simp only[binV,intV,h1,if_false,h2]
 rw[Int.fdiv_eq_ediv_of_nonneg _ (by omega)]
 rfl
theorem wru'{n:Int}{z:Nat}(e:n=(z:Int))(h:z<18446744073709551616):wr .u64 n=(z:Int):=by rw[e];exact wru h
abbrev mulV(x y:Nat):V:=.tup [u6 ((x*y/18446744073709551616:Nat):Int),u6 ((x*y%18446744073709551616:Nat):Int)]
theorem Qkc(x y:Nat)(hx:x<18446744073709551616)(hy:y<18446744073709551616):FnOk Pg g0 45 [u6 x,u6 y] (mulV x y):=by
 show FnOk Pg g0 45 [u6 x,u6 y] (.tup [u6 ((x*y/18446744073709551616:Nat):Int),u6 ((x*y%18446744073709551616:Nat):Int)])
 obtain⟨h1,h2,h3,h4⟩:=Go.Lib.mul64_hi x y hx hy
 have x1:=@Qnm (Qae Pg) 111 x
 have y1:=@Qnm (Qae Pg) 111 y
 have x2:=@Qhs (Qae Pg) 111 x
 have y2:=@Qhs (Qae Pg) 111 y
 have hlo:=wru_mod (x*y)
 have hbh:x*y/18446744073709551616<18446744073709551616:=by
  rw[Nat.div_lt_iff_lt_mul (by omega)]
  have:=Qg7 hx hy (c:=0) (by omega)
  omega
 generalize x*y/18446744073709551616=H at*
 have e0:((x*y:Nat):Int)=(x:Int)*(y:Int):=Int.natCast_mul x y
 rw[e0]at hlo
 generalize x*y%18446744073709551616=L at*
 have ha0:x%4294967296<4294967296:=Nat.mod_lt _ (by omega)
 have hb0:y%4294967296<4294967296:=Nat.mod_lt _ (by omega)
 have ha1:x/4294967296<4294967296:=by omega
 have hb1:y/4294967296<4294967296:=by omega
 generalize x%4294967296=a0 at*
 generalize x/4294967296=a1 at*
 generalize y%4294967296=b0 at*
 generalize y/4294967296=b1 at*
 have m00:(a0:Int)*(b0:Int)=((a0*b0:Nat):Int):=(Int.natCast_mul a0 b0).symm
 have m10:(a1:Int)*(b0:Int)=((a1*b0:Nat):Int):=(Int.natCast_mul a1 b0).symm
 have m01:(a0:Int)*(b1:Int)=((a0*b1:Nat):Int):=(Int.natCast_mul a0 b1).symm
 have m11:(a1:Int)*(b1:Int)=((a1*b1:Nat):Int):=(Int.natCast_mul a1 b1).symm
 have l00:=Go.Lib.half_mul_le (a:=a0) (b:=b0) (by omega) (by omega)
 have l10:=Go.Lib.half_mul_le (a:=a1) (b:=b0) (by omega) (by omega)
 have l01:=Go.Lib.half_mul_le (a:=a0) (b:=b1) (by omega) (by omega)
 have l11:=Go.Lib.half_mul_le (a:=a1) (b:=b1) (by omega) (by omega)
 generalize a0*b0=p at*
 generalize a1*b0=q at*
 generalize a0*b1=u at*
 generalize a1*b1=v at*
 have s1:=@Qhs (Qae Pg) 111 p
 obtain⟨t,ht⟩: ∃t,t=q+p/4294967296:=⟨_,rfl⟩
 have s2:=@Qnm (Qae Pg) 111 t
 have s3:=@Qhs (Qae Pg) 111 t
 obtain⟨w1,hw1⟩: ∃w1,w1=t%4294967296+u:=⟨_,rfl⟩
 have s4:=@Qhs (Qae Pg) 111 w1
 refine FnOk.of_vc vE_ok mixed Qad (n:=1000) (r:=[]) (S:={sl:=[(4,u6 (H:Int)),(5,u6 (L:Int))]}) (hs:=[va 15 (u6 (a0:Int)),va 17 (u6 (a1:Int)),va 19 (u6 (b0:Int)),va 21 (u6 (b1:Int)),nu 24 (p:Int),nu 27 (q:Int),va 29 (u6 ((p/4294967296:Nat):Int)),nu 30 (t:Int),va 32 (u6 ((t%4294967296:Nat):Int)),va 34 (u6 ((t/4294967296:Nat):Int)),nu 38 (u:Int),nu 39 (w1:Int),nu 42 (v:Int),nu 44 ((v+t/4294967296:Nat):Int),va 46 (u6 ((w1/4294967296:Nat):Int)),nu 47 (H:Int),nu 50 (L:Int)]) ?_
 exact m_ (p:=let z1:=(↑(v+t/4294967296):Int);let z3:=V.tup [u6 ↑H,u6 ↑L];let z4:=(↑H:Int);An [z3=z3,_,_,_,_,wr .u64 ((↑a0:Int)*(↑b0:Int))=(↑p:Int),wr .u64 ((↑a1:Int)*(↑b0:Int))=(↑q:Int),_,wr .u64 ((↑q:Int)+(↑(p/4294967296):Int))=(↑t:Int),_,_,wr .u64 ((↑a0:Int)*(↑b1:Int))=(↑u:Int),wr .u64 ((↑(t%4294967296):Int)+(↑u:Int))=(↑w1:Int),_,wr .u64 ((↑v:Int)+(↑(t/4294967296):Int))=z1,_,wr .u64 (z1+(↑(w1/4294967296):Int))=z4,_,An [z4=z4,(↑L:Int)=(↑L:Int),Tt],Tt]) ⟨aq,x1,x2,y1,y2,wru' (by omega) (by omega),wru' (by omega) (by omega),s1,wru' (by omega) (by omega),s2,s3,wru' (by omega) (by omega),wru' (by omega) (by omega),(wru' (by omega) (by omega)),wru' (by omega) (by omega),s4,wru' (by omega) (by omega),hlo,a_⟩
def add64N:List V→Option V
 |[.int .u64 (.ofNat x),.int .u64 (.ofNat y),.int .u64 (.ofNat 0)]=>some (.tup [.int .u64 (.ofNat ((x+y)%18446744073709551616)),.int .u64 (.ofNat ((x+y)/18446744073709551616))])
 | _=>none
def extN(f:Nat)(l:List V):Option V:=bif Nat.beq f 46 then add64N l else none
theorem extN_ok:Qnj Tryd.prog extN:=by
 intro f l v h
 refine Qth f l v ?_
 unfold extN at h
 obtain⟨hf,k⟩:=Qaj h
 unfold extF
 rw[hf,cond_true]
 unfold add64N at k
 split at k
 ·rename_i x y
  cases k
  unfold Qsi
  simp only[Int.ofNat_eq_natCast]
  rw[if_pos (by omega)]
  congr 5<;>omega
 ·cases k
noncomputable def vN:Env:=envOf Tryd.prog Qqi extN
theorem Qhz:vN.Ok Tryd.prog:=Qta plain Qg9 extN_ok
def wt(l:List Nat):List V:=l.map fun(x:Nat)=>u6 (x:Int)
theorem Qwe(l:List Nat):(wt l).length=l.length:=by simp[wt]
theorem Qbk(l:List Nat):HfL (wt l):=Qbd _ l (fun _=>trivial)
theorem Qwd(l:List Nat)(x:Nat):wt (l++[x])=wt l++[u6 (x:Int)]:=by simp[wt]
theorem Qt4{l:List Nat}{k:Nat}(h:k<l.length):headF (dropF (0+k*1) (wt l))=some (u6 ((l.getD k 0:Nat):Int)):=by
 rw[Nat.zero_add,Nat.mul_one,Qam,wt,←List.map_drop,List.drop_eq_getElem_cons h,List.getD_eq_getElem?_getD,List.getElem?_eq_getElem h];rfl
theorem lay_wt{l:List Nat}{j x:Nat}(h:j<l.length):layE (0+j*1) (wt l) [u6 (x:Int)]=some (wt (l.set j x)):=by
 rw[Nat.zero_add,Nat.mul_one,Qdu,Qwe]
 have:Nat.ble (j+[u6 (x:Int)].length) l.length=true:=Nat.ble_eq_true_of_le (by simp;omega)
 rw[this,cond_true]
 congr 1
 rw[List.set_eq_take_append_cons_drop,if_pos h]
 simp[wt,List.map_take,List.map_drop]
theorem Qmr{d w c:Nat}(hd:d<18446744073709551616)(hw:w<18446744073709551616)(hc:c<18446744073709551616):
  (d*w%18446744073709551616+c)%18446744073709551616=(d*w+c)%18446744073709551616∧d*w/18446744073709551616+(d*w%18446744073709551616+c)/18446744073709551616=(d*w+c)/18446744073709551616∧(d*w+c)/18446744073709551616<18446744073709551616:=by
 have:=Qg7 hd hw hc
 generalize d*w=p at*
 omega
abbrev n1(f:Nat→Int)(x:Nat):List O:=[.row 44 none (arF f),.row 89 none [.sl 2 0 1 (some 0)],.row 111 none [u6 (x:Int)]]
theorem os3{i:Nat}{l:List Nat}(hi:i<3)(hn:i∉2::l):i=0∨i=1:=by
 have:i≠2:=fun h=>hn (by rw[h];exact List.mem_cons_self)
 omega
theorem Qqe(f:Nat→Int)(x w:Nat)(hx:x<18446744073709551616)(hw:w<18446744073709551616)(y:Nat)(hy:y=x*w%18446744073709551616)(hc:x*w/18446744073709551616=0):
  CallSpec Pg g0 (.fn 44 [.ptr 1 0]) [u6 (w:Int)] (ofOs .e 0 (n1 f x)) 3 ⟨.tup [],ofOs .e 0 (n1 f y),3,[2]⟩:=by
 refine CallSpec.caps ?_
 have hm:=Qkc x w hx hw
 have hy2:y<18446744073709551616:=by omega
 rw[show mulV x w= .tup [u6 ((0:Nat):Int),u6 (y:Int)]by rw[mulV,hc,←hy]]at hm
 have hv:(y+0)%18446744073709551616=y:=by omega
 refine CallSpec.of_vcH (os0:=n1 f x) Qhz mixed Qad (n:=1000) (r:=[]) (S:={sl:=[],os:=n1 f y,lg:=[2],md:=[0,1,0]}) (hs:=[(0,.unroll 3),fn 20 (.tup [u6 ((0:Nat):Int),u6 (y:Int)]),nu 34 ((0:Nat):Int),no 38]) (by simp) (fun i hi hn=>?_) ?_
 ·rcases os3 hi hn with rfl|rfl<;>rfl
 refine Eq.mp (by kernel_rfl:(let z0:=(↑(0:Nat):Int);An [Sm (V.tup []),TT 2,FnOk Pg g0 45 [u6 ↑x,u6 ↑w] (V.tup [u6 ↑(0:Nat),u6 ↑y]),Tt,wr .u64 (z0+(↑((y+0)/18446744073709551616):Int))=z0,(z0 != (0:Int))=false,Tt,An [Sm (arF f),TT 18],An [An [Zz,1=1,Zz],Tt],An [[u6 ↑y]=[u6 (↑((y+0)%18446744073709551616):Int)],Tt,Tt],Tt])=_) ?_
 (repeat'(first|(with_reducible apply And.intro)|(refine fun(_:True)=>?_)))<;>first|exact aq|skip
 all_goals first|(refine wru' ?_ ?_<;>omega)|skip
theorem Qqf(f:Nat→Int)(x w:Nat)(hx:x<18446744073709551616)(hw:w<18446744073709551616)(y c:Nat)(hy:y=x*w%18446744073709551616)(hc:c=x*w/18446744073709551616)(hc0:c≠0):
  CallSpec Pg g0 (.fn 44 [.ptr 1 0]) [u6 (w:Int)] (ofOs .e 0 (n1 f x)) 3 ⟨.tup [],ofOs .e 0 [.row 44 none (arF f),.row 89 none [.sl 3 0 2 none],.dead,.row 111 (some 1) [u6 (y:Int),u6 (c:Int)]],4,[2,1]⟩:=by
 refine CallSpec.caps ?_
 have hm:=Qkc x w hx hw
 have hp:=Qmr hx hw (c:=0) (by omega)
 have hy2:y<18446744073709551616:=by omega
 have hc2:c<18446744073709551616:=by omega
 rw[show mulV x w= .tup [u6 ((c:Nat):Int),u6 (y:Int)]by rw[mulV,←hc,←hy]]at hm
 have hv:(y+0)%18446744073709551616=y:=by omega
 refine CallSpec.of_vcH (os0:=n1 f x) Qhz mixed Qad (n:=1000) (r:=[4]) (S:={sl:=[],os:=[.row 44 none (arF f),.row 89 none [.sl 3 0 2 none],.dead,.row 111 (some 1) [u6 (y:Int),u6 (c:Int)]],lg:=[2,1],md:=[0,1,0,0]}) (hs:=[(0,.unroll 3),fn 20 (.tup [u6 ((c:Nat):Int),u6 (y:Int)]),nu 34 (c:Int),yes 38]) (by simp) (fun i hi hn=>?_) ?_
 ·have : i = 0 := by
   rcases os3 hi hn with h|h
   ·exact h
   ·exact absurd (by rw[h];simp) hn
  subst this;rfl
 refine Eq.mp (by kernel_rfl:(let z0:=(↑c:Int);An [Sm (V.tup []),TT 2,FnOk Pg g0 45 [u6 ↑x,u6 ↑w] (V.tup [u6 ↑c,u6 ↑y]),Tt,wr .u64 (z0+(↑((y+0)/18446744073709551616):Int))=z0,(z0 != (0:Int))=true,Tt,An [Sm (arF f),TT 18],An [An [Zz,2=2,Tt],Tt],Tt,An [[u6 ↑y,u6 ↑c]=[u6 (↑((y+0)%18446744073709551616):Int)]++[u6 ↑c],TT 2],Tt])=_) ?_
 (repeat'(first|(with_reducible apply And.intro)|(refine fun(_:True)=>?_)))<;>first|exact aq|skip
 all_goals first|(refine wru' ?_ ?_<;>omega)|skip
abbrev acS(f:Nat→Int)(w n:Nat)(q:Nat×List Nat×Nat):SL:={sl:=[(0,u6 w),(1,.ptr 1 0),(3,u6 q.2.2),(10,.sl 2 0 n none),(11,i6 n),(12,i6 q.1)],os:=[.row 44 none (arF f),.row 89 none [.sl 2 0 n none],.row 111 (some 1) (wt q.2.1)],lg:=[2],md:=[0,1,0]}
abbrev acX(f:Nat→Int)(w n:Nat)(m:List Nat)(c:Nat):SL:={sl:=[(1,.ptr 1 0),(3,u6 c)],os:=[.row 44 none (arF f),.row 89 none [.sl 2 0 n none],.row 111 (some 1) (wt m)],lg:=[2],md:=[0,1,0]}
theorem Qmn(f:Nat→Int)(ws:List Nat)(w n:Nat)(hn:n=ws.length)(hn2:n≤100000)(hws:WOk ws)(hw:w<18446744073709551616):
  Sat Pg none 3 (at' 44 [1,0,1,0]) (mkSt g0 43 (acS f w n (0,ws,0))) (Qaf g0 43 [(True,.exit 0,acX f w n (mulS w ws n).1 (mulS w ws n).2)]):=by
 refine Qa6 Qhz mixed Qad (b:=at' 44 [1,0,1,0,0]) (by kernel_rfl) (fun q=>q.1≤n∧q.2.1=(mulS w ws q.1).1∧q.2.2=(mulS w ws q.1).2) (acS f w n) (fun q=>n-q.1) (fun q hq=>?_) (0,ws,0) ⟨Nat.zero_le _,rfl,rfl⟩
 obtain⟨i,m,c⟩:=q
 obtain⟨hi,hmm,hcc⟩:=hq
 dsimp only at hi hmm hcc
 have ho:=Qn4 hws hw i (by omega)
 rw[←hmm,←hcc]at ho
 have hlen:=ho.len
 have hcb:=ho.carry
 by_cases hlt:i<n
 ·have hat := mulS_at w ws i
  rw[←hmm]at hat
  have hd:=hws i
  have h1:=Qt4 (l:=m) (k:=i) (by omega)
  rw[hat]at h1
  have e1:(mulS w ws (i+1)).1=m.set i ((ws.getD i 0*w+c)%18446744073709551616):=by rw[mulS,←hmm,←hcc]
  have e2:(mulS w ws (i+1)).2=(ws.getD i 0*w+c)/18446744073709551616:=by rw[mulS,←hcc]
  have hp:=Qmr hd hw hcb
  have hml:FnOk Pg g0 45 [u6 (ws.getD i 0:Nat),u6 w] (.tup [u6 ((ws.getD i 0*w/18446744073709551616:Nat):Int),u6 ((ws.getD i 0*w%18446744073709551616:Nat):Int)]):=Qkc (ws.getD i 0) w hd hw
  have hlay:=lay_wt (l:=m) (j:=i) (x:=(ws.getD i 0*w+c)%18446744073709551616) (by omega)
  obtain⟨m',hm'⟩: ∃m',m'=(mulS w ws (i+1)).1:=⟨_,rfl⟩
  rw[←e1,←hm']at hlay
  generalize ws.getD i 0=d at*
  generalize hc':(d*w+c)/18446744073709551616=c' at*
  generalize hs':(d*w+c)%18446744073709551616=s' at*
  generalize d*w/18446744073709551616=H at*
  generalize d*w%18446744073709551616=L at*
  obtain⟨p1,p2,p3⟩:=hp
  subst p1
  refine .inl ⟨(i+1,m',c'),[],[yes 13,pl 15,ld 16 (u6 d),fn 20 (.tup [u6 ((H:Nat):Int),u6 (L:Int)]),nu 34 (c':Int),pl 35,st (wt m'),nu 36 (i+1:Nat)],1000,⟨hlt,hm',e2.symm⟩,by dsimp only;omega,?_⟩
  clear hc' hmm hcc ho e1 e2 hm'
  refine Eq.mp (by kernel_rfl:(let z0:=(↑i:Int);let z1:=(↑n:Int);let z2:=(↑(i+1):Int);let z3:=(↑c':Int);An [decide (z0<z1)=true,An [(0:Int)≤z0,z0<z1],headF (dropF (0+i*1) (wt m))=some (u6 ↑d),TT 2,FnOk Pg g0 45 [u6 ↑d,u6 ↑w] (V.tup [u6 ↑H,u6 ↑L]),Tt,wr .u64 ((↑H:Int)+(↑((L+c)/18446744073709551616):Int))=z3,An [(0:Int)≤z0,z0<z1],layE (0+i*1) (wt m) [u6 (↑((L+c)%18446744073709551616):Int)]=some (wt m'),wr .i64 (z0+(1:Int))=z2,An [Sm (↑w:Int),Zz,z3=z3,An [Zz,n=n,Tt],z1=z1,z2=z2,Tt],An [Sm (arF f),TT 18],An [An [Zz,n=n,Tt],Tt],An [Sm (wt m'),HfL (wt m')],Tt])=_) ?_
  (repeat'(first|(with_reducible apply And.intro)|(refine fun(_:True)=>?_)))<;>first|exact aq|skip
  all_goals first|(refine wru' ?_ ?_<;>omega)|exact Qbk _|skip
 ·have : i = n := by omega
  subst this
  rw[←hmm,←hcc]
  refine .inr ⟨.exit 0,[],acX f w i m c,[no 13],1000,.inl ⟨trivial,rfl,rfl⟩,?_⟩
  clear hmm hcc
  exact m_ (p:=An [decide ((↑i:Int)<(↑i:Int))=false,An [Zz,Sm (↑c:Int),Tt],An [Sm (arF f),TT 18],An [An [Zz,i=i,Tt],Tt],An [Sm (wt m),HfL (wt m)],Tt]) ⟨aq,a_,a_,a_,⟨aq,Qbk _⟩,aq⟩
theorem mul_M0(f:Nat→Int)(ws:List Nat)(w n:Nat)(hn:n=ws.length)(hn2:n≤100000)(hws:WOk ws)(hw:w<18446744073709551616)(m:List Nat)(hm:m=(mulS w ws n).1)(hc:(mulS w ws n).2=0):
  CallSpec Pg g0 (.fn 44 [.ptr 1 0]) [u6 (w:Int)] (ofOs .e 0 [.row 44 none (arF f),.row 89 none [.sl 2 0 n none],.row 111 (some 1) (wt ws)]) 3 ⟨.tup [],ofOs .e 0 [.row 44 none (arF f),.row 89 none [.sl 2 0 n none],.row 111 (some 1) (wt m)],3,[2]⟩:=by
 refine CallSpec.caps ?_
 have l:=Qmn f ws w n hn hn2 hws hw
 rw[←hm,hc]at l
 refine CallSpec.of_vcH (os0:=[.row 44 none (arF f),.row 89 none [.sl 2 0 n none],.row 111 (some 1) (wt ws)]) Qhz mixed Qad (n:=1000) (r:=[]) (S:={sl:=[],os:=[.row 44 none (arF f),.row 89 none [.sl 2 0 n none],.row 111 (some 1) (wt m)],lg:=[2],md:=[0,1,0]}) (hs:=[(0,.loop [] (acS f w n (0,ws,0)) [(True,.exit 0,acX f w n m 0)]),no 38]) (by simp) (fun i hi hn=>?_) ?_
 ·rcases os3 hi hn with rfl|rfl<;>rfl
 clear hm hc
 exact m_ (p:=let z1:=An [Sm (arF f),TT 18];let z0:=(↑(0:Nat):Int);An [Sm (V.tup []),An [An [Sm (↑w:Int),Zz,z0=(0:Int),An [Zz,n=n,Tt],Sm (↑n:Int),z0=(0:Int),Tt],z1,An [An [Zz,n=n,Tt],Tt],An [Sm (wt ws),HfL (wt ws)],Tt],_,(True->An [(z0 != (0:Int))=false,Tt,z1,An [An [Zz,n=n,Tt],Tt],An [Sm (wt m),HfL (wt m)],Tt]),Tt]) ⟨aq,⟨a_,aq,a_,⟨aq,Qbk _⟩,aq⟩,l,(fun _=>⟨aq,aq,aq,a_,⟨aq,Qbk _⟩,aq⟩),aq⟩
theorem mul_M1(f:Nat→Int)(ws:List Nat)(w n:Nat)(hn:n=ws.length)(hn2:n≤100000)(hws:WOk ws)(hw:w<18446744073709551616)(m:List Nat)(c:Nat)(hm:m=(mulS w ws n).1)(hc:c=(mulS w ws n).2)(hc0:c≠0):
  CallSpec Pg g0 (.fn 44 [.ptr 1 0]) [u6 (w:Int)] (ofOs .e 0 [.row 44 none (arF f),.row 89 none [.sl 2 0 n none],.row 111 (some 1) (wt ws)]) 3 ⟨.tup [],ofOs .e 0 [.row 44 none (arF f),.row 89 none [.sl 3 0 (n+1) none],.dead,.row 111 (some 1) (wt m++[u6 (c:Int)])],4,[2,1]⟩:=by
 refine CallSpec.caps ?_
 have l:=Qmn f ws w n hn hn2 hws hw
 have hml:=Qbx w ws n
 rw[←hm]at hml
 rw[←hm,←hc]at l
 have hwl:=Qwe m
 refine CallSpec.of_vcH (os0:=[.row 44 none (arF f),.row 89 none [.sl 2 0 n none],.row 111 (some 1) (wt ws)]) Qhz mixed Qad (n:=1000) (r:=[4]) (S:={sl:=[],os:=[.row 44 none (arF f),.row 89 none [.sl 3 0 (n+1) none],.dead,.row 111 (some 1) (wt m++[u6 (c:Int)])],lg:=[2,1],md:=[0,1,0,0]}) (hs:=[(0,.loop [] (acS f w n (0,ws,0)) [(True,.exit 0,acX f w n m c)]),yes 38,ap 42]) (by simp) (fun i hi hn=>?_) ?_
 ·have : i = 0 := by
   rcases os3 hi hn with h|h
   ·exact h
   ·exact absurd (by rw[h];simp) hn
  subst this;rfl
 clear hm hc
 have hf:HfL (wt m++[u6 (c:Int)]):=by have:=Qbk (m++[c]);rwa [Qwd]at this
 exact m_ (p:=let z0:=An [Sm (arF f),TT 18];An [Sm (V.tup []),An [An [Sm (↑w:Int),Zz,(↑(0:Nat):Int)=(0:Int),An [Zz,n=n,Tt],Sm (↑n:Int),(↑(0:Nat):Int)=(0:Int),Tt],z0,An [An [Zz,n=n,Tt],Tt],An [Sm (wt ws),HfL (wt ws)],Tt],_,(True->An [((↑c:Int) != (0:Int))=true,List.length (wt m)=n*1,n+1≤9223372036854775807,(n+1)*8≤140737488355328,Tt,z0,An [An [Zz,Sm (n+1),Tt],Tt],Tt,An [Sm (wt m++[u6 ↑c]),_],Tt]),Tt]) ⟨aq,⟨a_,aq,a_,⟨aq,Qbk _⟩,aq⟩,l,(fun _=>⟨aq,aq,aq,aq,aq,aq,a_,aq,⟨aq,hf⟩,aq⟩),aq⟩
end Go.Proofs.YtcmeiecgijmdjaaDoor.Am
