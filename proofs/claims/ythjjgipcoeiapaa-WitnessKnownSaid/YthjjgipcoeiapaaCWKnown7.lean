/- Texts behind the claim, part 7: the abstract machine, and what the functions answer. No condition. -/
import Derived.Test.YthjjgipcoeiapaaCWKnown6
set_option linter.unusedVariables false
set_option linter.unusedSimpArgs false
set_option linter.unusedSectionVars false
namespace Go.Proofs.Ythjjgipcoeiapaa.Am
open Go.RowKit
set_option maxHeartbeats 1000000
set_option maxRecDepth 100000
theorem Sat.fst{P:Program}{rd:Option Nat}{nx0:Nat}{c:Code}{st:St}{gl:T (List V)}{n:Nat}{A B:Prop}{e e':Ex}{S S':SL}(h:Sat P rd nx0 c st (Qad gl n [(A,e,S),(B,e',S')]))(hb: ¬B):Sat P rd nx0 c st (Qad gl n [(True,e,S)]):=
 h.mono fun _ _ q=>q.elim (fun q=>.inl ⟨trivial,q.2⟩) fun q=>q.elim (fun q=>absurd q.1 hb) fun q=>q.elim
theorem Sat.snd{P:Program}{rd:Option Nat}{nx0:Nat}{c:Code}{st:St}{gl:T (List V)}{n:Nat}{A B:Prop}{e e':Ex}{S S':SL}(h:Sat P rd nx0 c st (Qad gl n [(A,e,S),(B,e',S')]))(hb: ¬A):Sat P rd nx0 c st (Qad gl n [(True,e',S')]):=
 h.mono fun _ _ q=>q.elim (fun q=>absurd q.1 hb) fun q=>q.elim (fun q=>.inl ⟨trivial,q.2⟩) fun q=>q.elim
theorem sl_inj{L M:List Int}(h:sl L=sl M):L=M:=by
 have ints_inj: ∀{L M:List Int},ints L=ints M->L=M:=by
  intro L
  induction L with
  |nil=>intro M h;cases M with
   |nil=>rfl
   |cons=>cases h
  | cons a L ih =>
   intro M h
   cases M with
   |nil=>cases h
   |cons b M=>
    simp only[ints,List.map_cons,List.cons.injEq]at h
    obtain⟨h1,h2⟩:=h
    injection h1 with h3 h4
    rw[h4,ih h2]
 injection h with h1 h2
 exact ints_inj h2
theorem Qew{n:Nat}{L:List Int}(h:incB n L=true):L.length<=n:=by
 have hi:=Qev.1 h
 have key: ∀k,k<L.length->(k:Int)<=L.getD k 0:=by
  intro k
  induction k with
  |zero=>intro hk;exact(hi 0 hk).1
  |succ k ih=>
   intro hk
   have h1:=ih o_
   have h2:=(hi (k+1) hk).2.2
   rw[Nat.add_sub_cancel]at h2
   rcases h2 with h2|h2
   ·omega
   ·omega
 by_cases h0:L.length=0
 ·omega
 ·have h1 := key (L.length - 1) o_
  have h2:=(hi (L.length-1) o_).2.1
  omega
theorem Qcv{n:Nat}{L:List Int}(h:incB n L=true):Qba L n:=fun k hk=>⟨(Qev.1 h k hk).1,(Qev.1 h k hk).2.1⟩
def crdP(N:List Mc):Nat->Int
 |0=>1
 |k+1=>crdP N k*(N.getD k mc0).c
theorem Qeg{N:List Mc}(hc: ∀k,k<N.length->1<=(N.getD k mc0).c/\(N.getD k mc0).c<=4): ∀k,k<=N.length->1<=crdP N k/\crdP N k<=4^k
 |0,_=>by simp[crdP]
 |k+1,hk=>by
  obtain⟨h1,h2⟩:=Qeg hc k o_
  obtain⟨h5,h6⟩:=hc k o_
  show 1<=crdP N k*(N.getD k mc0).c/\crdP N k*(N.getD k mc0).c<=4^(k+1)
  generalize (N.getD k mc0).c=c at*
  generalize crdP N k=a at*
  have e:(4:Int)^(k+1)=4^k*4:=Int.pow_succ ..
  rw[e]
  refine⟨?_,Int.mul_le_mul h2 h6 o_ o_⟩
  have:1*1<=a*c:=Int.mul_le_mul h1 h5 d_ o_
  omega
def inL(k:Nat)(L:List Int):Bool:=(List.range L.length).any fun i=>decide (L.getD i 0=(k:Int))
theorem Qr9{k:Nat}{L:List Int}:inL k L=false↔∀i,i<L.length->L.getD i 0≠(k:Int):=by
 unfold inL
 rw[List.any_eq_false]
 simp only[List.mem_range,decide_eq_true_eq]
def nodB(R:List (List Int))(N:List Mc)(k:Nat)(x:Mc):Bool:=
 incB N.length x.fr&&incB R.length x.no&& !inL k x.fr&&decide ((x.ou.length:Int)=proC N x.fr x.fr.length*(proR R x.no x.no.length:Nat))&&inB 0 (x.c-1) x.ou
def nodesB(R:List (List Int))(N:List Mc):Bool:=(List.range N.length).all (fun k=>nodB R N k (N.getD k mc0))&&decide (crdP N N.length<=1024)
abbrev nfS(g:Int)(n:Nat)(R:List V)(q:Nat)(N:List V)(x:Mc)(k:Nat)(p:Int)(i:Nat):SL:={sl:=[(1,.ptr 0 0),(2,.bool false),(3,i6 p),(4,i6 (k:Nat)),(5,.ptr 1 0),(11,.im q N),(12,i6 (q:Nat)),(13,i6 (k:Nat)),(39,sl x.fr),(40,i6 (x.fr.length:Nat)),(41,i6 (i:Nat))],os:=[moO g n R q N,mcO x]}
theorem nodes_in(g:Int)(n:Nat)(R:List V)(hR:HfL R)(q:Nat)(N:List V)(hN:HfL N)(c:Int)(fr nz ou:List Int)(k:Nat)(p:Int)(hl:fr.length<=8)(hk:k<=8):
  Sat Pg none 0 (at' 56 [1,1,0,1,0,0,1,1,0,0,1,1,1,0,1,0]) (mkSt g0 74 (nfS g n R q N ⟨c,fr,nz,ou⟩ k p 0)) (Qad g0 74 [(inL k fr=false,.exit 2,nfS g n R q N ⟨c,fr,nz,ou⟩ k p fr.length),(inL k fr=true,.ret,{sl:=[(2,.bool false)]})]):=by
 have h1:=Qaa fr
 have h2:=Qaa nz
 have h3:=Qaa ou
 refine Qav vE_ok mixed Qab (b:=at' 56 [1,1,0,1,0,0,1,1,0,0,1,1,1,0,1,0,0]) k_ (fun i=>i<=fr.length/\∀j,j<i->fr.getD j 0≠(k:Int)) (nfS g n R q N ⟨c,fr,nz,ou⟩ k p) (fun i=>fr.length-i) (fun i hi=>?_) 0 ⟨Nat.zero_le _,fun i h=>absurd h (Nat.not_lt_zero _)⟩
 obtain⟨hi,hin⟩:=hi
 by_cases hlt:i<fr.length
 ·have hld := Qag hlt
  by_cases he:fr.getD i 0=(k:Int)
  ·have hf : inL k fr = true := by
    cases hb:inL k fr with
    |true=>rfl
    |false=>exact absurd he (Qr9.1 hb i hlt)
   refine .inr ⟨.ret,[],{sl:=[(2,.bool false)]},[yes 42,pl 43,ld 44 (i6 (fr.getD i 0)),yes 47],1000,.inr (.inl ⟨hf,rfl,rfl⟩),?_⟩
   clear hin hf
   generalize fr.getD i 0=y at*
   refine m_ (p:=let z0:=(i:Int);Bn [decide (z0<(fr.length:Int))=true,An [(0:Int)<=z0,z0<(fr.length:Int)],headF (List.drop (i*1) (ints fr))=some (i6 y),(y==(k:Int))=true,Bn [Sm false]]) ?_
   (repeat'(first|(with_reducible apply And.intro)|(refine fun(_:True)=>?_)))<;>first|exact aq|skip
   all_goals skip
  ·refine .inl ⟨i + 1, [0, 1], [yes 42, pl 43, ld 44 (i6 (fr.getD i 0)), no 47, nu 48 ((i + 1 : Nat) : Int)], 1000, ⟨hlt, fun j hj => ?_⟩, by omega, ?_⟩
   ·by_cases hik : j = i
    ·subst hik;exact he
    ·exact hin j o_
   clear hin
   generalize fr.getD i 0=y at*
   refine m_ (p:=let z0:=(fr.length:Int);let z1:=(k:Int);let z2:=(↑(i+1):Int);let z3:=(i:Int);let z4:=[i6 c,sl fr,sl nz,sl ou];let z5:=[i6 g,V.im n R,V.im q N];Bn [decide (z3<z0)=true,An [(0:Int)<=z3,z3<z0],headF (List.drop (i*1) (ints fr))=some (i6 y),(y==z1)=false,wr .i64 (z3+1)=z2,Bn [Zz,Sm false,p=p,z1=z1,Zz,An [q=q,N=N],Sm (q:Int),z1=z1,An [Sm fr.length,Sm (ints fr)],z0=z0,z2=z2],An [z5=z5,TT 3],An [z4=z4,TT 4]]) ?_
   (repeat'(first|(with_reducible apply And.intro)|(refine fun(_:True)=>?_)))<;>first|exact aq|skip
   all_goals skip
 ·have hk2 : i = fr.length := by omega
  subst hk2
  refine .inr ⟨.exit 2,[0,1],nfS g n R q N ⟨c,fr,nz,ou⟩ k p fr.length,[no 42],1000,.inl ⟨Qr9.2 hin,rfl,rfl⟩,?_⟩
  clear hin
  refine m_ (p:=let z0:=(fr.length:Int);Bn [decide (z0<z0)=false,Bn [Zz,Sm false,p=p,Sm (k:Int),Zz,An [q=q,N=N],Sm (q:Int),Sm (k:Int),An [Sm fr.length,Sm (ints fr)],Sm z0,Sm z0],An [Sm [i6 g,V.im n R,V.im q N],TT 3],An [Sm [i6 c,sl fr,sl nz,sl ou],TT 4]]) ?_
  (repeat'(first|(with_reducible apply And.intro)|(refine fun(_:True)=>?_)))<;>first|exact aq|skip
  all_goals skip
abbrev noS(g:Int)(n:Nat)(R:List V)(q:Nat)(N:List V)(k:Nat)(p:Int):SL:={sl:=[(1,.ptr 0 0),(2,.bool false),(3,i6 p),(11,.im q N),(12,i6 (q:Nat)),(13,i6 (k:Nat))],os:=[moO g n R q N]}
section
variable (g:Int) (R:List (List Int)) (N:List Mc) (hq:N.length<=5) (hn:R.length<=8) (hc: ∀k,k<N.length->1<=(N.getD k mc0).c/\(N.getD k mc0).c<=4) (hR: ∀k,k<R.length->1<=(R.getD k []).length/\(R.getD k []).length<=4) (h6: ∀x∈N,x.fr.length<=1000000/\x.no.length<=1000000/\x.ou.length<=1000000)
include hq hn hc hR h6
theorem Qpp:Sat Pg none 0 (at' 56 [1,1,0,1,0]) (mkSt g0 74 (noS g R.length (rtL R) N.length (mcL N) 0 1)) (Qad g0 74 [((List.range N.length).all (fun k=>nodB R N k (N.getD k mc0))=true,.exit 0,{sl:=[(3,i6 (crdP N N.length))]}),((List.range N.length).all (fun k=>nodB R N k (N.getD k mc0))=false,.ret,{sl:=[(2,.bool false)]})]):=by
 have hRR:=Qah R
 have hNN:=Qaj N
 refine Qav vE_ok mixed Qab (b:=at' 56 [1,1,0,1,0,0]) k_ (fun k=>k<=N.length/\∀i,i<k->nodB R N i (N.getD i mc0)=true) (fun k=>noS g R.length (rtL R) N.length (mcL N) k (crdP N k)) (fun k=>N.length-k) (fun k hk=>?_) 0 ⟨Nat.zero_le _,fun i h=>absurd h (Nat.not_lt_zero _)⟩
 obtain⟨hk,hin⟩:=hk
 by_cases hlt:k<N.length
 ·have hld := Qc8 hlt
  have bad:nodB R N k (N.getD k mc0)=false->(List.range N.length).all (fun k=>nodB R N k (N.getD k mc0))=false:=fun h=>by
   cases hb:(List.range N.length).all (fun k=>nodB R N k (N.getD k mc0))with
   |false=>rfl
   |true=>rw[List.all_eq_true.1 hb k (List.mem_range.2 hlt)]at h;cases h
  have jn:nodB R N k (N.getD k mc0)=true->∀i,i<k+1->nodB R N i (N.getD i mc0)=true:=fun h i hi=>by
   by_cases hik:i=k
   ·subst hik;exact h
   ·exact hin i o_
  have hcb:=Qeg hc (k+1) hlt
  have h45:(4:Int)^(k+1)<=4^5:=by
   have:=Nat.pow_le_pow_right (show 4>0 by decide) (show k+1<=5 by omega)
   exact_mod_cast this
  have h46:(4:Int)^5=1024:=rfl
  have e1:crdP N (k+1)=crdP N k*(N.getD k mc0).c:=rfl
  have hx6:=h6 (N.getD k mc0) (by rw[List.getD_eq_getElem?_getD,List.getElem?_eq_getElem hlt];exact List.getElem_mem hlt)
  have hcx:=hc k hlt
  have hs:Qba (N.getD k mc0).fr N.length->Qba (N.getD k mc0).no R.length->(N.getD k mc0).fr.length<=5->(N.getD k mc0).no.length<=8->FnOk Pg g0 86 [mdV g R N,.agg [i6 (N.getD k mc0).c,sl (N.getD k mc0).fr,sl (N.getD k mc0).no,sl (N.getD k mc0).ou]] (.tup [i6 (proC N (N.getD k mc0).fr (N.getD k mc0).fr.length),i6 (proR R (N.getD k mc0).no (N.getD k mc0).no.length:Nat)]):=fun a b c d=>sizes_fn g R N (N.getD k mc0) hc hR a b c d
  have hca:=fun(a:Qba (N.getD k mc0).fr N.length)(l:(N.getD k mc0).fr.length<=5)=>Qfn hc a (N.getD k mc0).fr.length (Nat.le_refl _)
  have hra:=fun(a:Qba (N.getD k mc0).no R.length)=>Qhl hR a (N.getD k mc0).no.length (Nat.le_refl _)
  generalize hxe:N.getD k mc0=x at*
  obtain⟨c,fr,nz,ou⟩:=x
  dsimp only at*
  generalize hp1e:crdP N (k+1)=p1 at*
  generalize crdP N k=p0 at*
  have h1:=Qaa fr
  have h2:=Qaa nz
  have h3:=Qaa ou
  have w1:=Qex fr N.length hx6.1
  have w2:=Qex nz R.length hx6.2.1
  have w3:=Qbz 0 (c-1) ou hx6.2.2
  have eN:nodB R N k ⟨c,fr,nz,ou⟩=(incB N.length fr&&incB R.length nz&& !inL k fr&&decide ((ou.length:Int)=proC N fr fr.length*(proR R nz nz.length:Nat))&&inB 0 (c-1) ou):=rfl
  cases b1:incB N.length fr with
  |false=>
   rw[b1]at w1 eN
   have hf:=bad (by rw[eN];rfl)
   refine .inr ⟨.ret,[],{sl:=[(2,.bool false)]},[yes 14,pl 16,ld 17 (.agg (mcC ⟨c,fr,nz,ou⟩)),nu 21 p1,fn 27 (.bool false)],1000,.inr (.inl ⟨hf,rfl,rfl⟩),?_⟩
   clear hxe hin bad jn hs hca hra hc hR h6 eN
   generalize rtL R=RR at*
   generalize mcL N=NN at*
   refine m_ (p:=let z0:=(k:Int);Bn [decide (z0<(N.length:Int))=true,An [(0:Int)<=z0,z0<(N.length:Int)],takeE 4 (List.drop (k*4) NN)=some (mcC (Mc.mk c fr nz ou)),wr .i64 (p0*c)=p1,TT 2,FnOk Try.prog g0 85 [V.im fr.length (ints fr),i6 N.length] (V.bool false),Tt,Bn [Sm false]]) ?_
   (repeat'(first|(with_reducible apply And.intro)|(refine fun(_:True)=>?_)))<;>first|exact aq|skip
   all_goals first|exact w1|(rw[<-e1,wr6 o_ o_];done)|skip
  | true =>
   rw[b1]at w1 eN
   have pl1:=Qcv b1
   have ln1:=Qew b1
   cases b2:incB R.length nz with
   |false=>
    rw[b2]at w2 eN
    have hf:=bad (by rw[eN];rfl)
    refine .inr ⟨.ret,[],{sl:=[(2,.bool false)]},[yes 14,pl 16,ld 17 (.agg (mcC ⟨c,fr,nz,ou⟩)),nu 21 p1,fn 27 (.bool true),fn 35 (.bool false)],1000,.inr (.inl ⟨hf,rfl,rfl⟩),?_⟩
    clear hxe hin bad jn hs hca hra hc hR h6 eN
    generalize rtL R=RR at*
    generalize mcL N=NN at*
    refine m_ (p:=let z0:=pt (pt (ofOs T.e 0 [moO g R.length RR N.length NN]) 1 (O.row 40 none [i6 0,V.nils,V.nils,V.nils])) 1 (O.row 40 none [i6 c,sl fr,sl nz,sl ou]);let z1:=(k:Int);Bn [decide (z1<(N.length:Int))=true,An [(0:Int)<=z1,z1<(N.length:Int)],takeE 4 (List.drop (k*4) NN)=some (mcC (Mc.mk c fr nz ou)),wr .i64 (p0*c)=p1,TT 2,FnOk Try.prog g0 85 [V.im fr.length (ints fr),i6 N.length] (V.bool true),Tt,TT 2,FnOk Try.prog g0 85 [V.im nz.length (ints nz),i6 R.length] (V.bool false),Bn [(V.fn 85 []=V.fn 85 []->[sl fr,i6 N.length]=[sl nz,i6 R.length]->z0=z0->1+1=2->CR.mk (V.bool true) z0 2 []=CR.mk (V.bool false) z0 2 [])],Bn [Sm false]]) ?_
    (repeat'(first|(with_reducible apply And.intro)|(refine fun(_:True)=>?_)))<;>first|exact aq|skip
    all_goals first|exact w1|exact w2|(intro _ h _ _;have e3:=sl_inj (List.cons.inj h).1;have e4:=(List.cons.inj (List.cons.inj h).2).1;injection e4 with _ e5;rw[e3,e5,b2]at b1;cases b1;done)|(rw[<-e1,wr6 o_ o_];done)|skip
   | true =>
    rw[b2]at w2 eN
    have pl2:=Qcv b2
    have ln2:=Qew b2
    have hlo:=nodes_in g R.length (rtL R) hRR N.length (mcL N) hNN c fr nz ou k p1 o_ o_
    replace hs:=hs pl1 pl2 o_ o_
    unfold mdV at hs
    replace hca:=hca pl1 o_
    replace hra:=hra pl2
    have hcb5:(4:Int)^fr.length<=4^5:=by
     have:=Nat.pow_le_pow_right (show 4>0 by decide) (show fr.length<=5 by omega)
     exact_mod_cast this
    have hrb5:4^nz.length<=4^8:=Nat.pow_le_pow_right d_ o_
    have h48:4^8=65536:=rfl
    generalize proC N fr fr.length=a at*
    generalize proR R nz nz.length=b at*
    have hab:1*1<=a*(b:Int)/\a*(b:Int)<=1024*65536:=⟨Int.mul_le_mul o_ o_ o_ o_,Int.mul_le_mul o_ o_ o_ o_⟩
    obtain⟨ab,hab2⟩: ∃z,z=a*(b:Int):=⟨_,rfl⟩
    rw[<-hab2]at hab eN
    cases b3:inL k fr with
    |true=>
     rw[b3]at hlo eN
     replace hlo:=hlo.snd (fun h=>by cases h)
     have hf:=bad (by rw[eN];rfl)
     refine .inr ⟨.ret,[],{sl:=[(2,.bool false)]},[yes 14,pl 16,ld 17 (.agg (mcC ⟨c,fr,nz,ou⟩)),nu 21 p1,fn 27 (.bool true),fn 35 (.bool true),(0,.loop [0,1] (nfS g R.length (rtL R) N.length (mcL N) ⟨c,fr,nz,ou⟩ k p1 0) [(True,.ret,{sl:=[(2,.bool false)]})])],1000,.inr (.inl ⟨hf,rfl,rfl⟩),?_⟩
     clear hxe hin bad jn hs hca hra hc hR h6 eN
     generalize rtL R=RR at*
     generalize mcL N=NN at*
     refine m_ (p:=let z1:=(k:Int);let z2:=(N.length:Int);let z3:=[i6 c,sl fr,sl nz,sl ou];let z4:=[i6 g,V.im R.length RR,V.im N.length NN];let z5:=V.bool true;let z0:=pt (pt (ofOs T.e 0 [moO g R.length RR N.length NN]) 1 (O.row 40 none [i6 0,V.nils,V.nils,V.nils])) 1 (O.row 40 none z3);Bn [decide (z1<z2)=true,An [(0:Int)<=z1,z1<z2],takeE 4 (List.drop (k*4) NN)=some (mcC (Mc.mk c fr nz ou)),wr .i64 (p0*c)=p1,TT 2,FnOk Try.prog g0 85 [V.im fr.length (ints fr),i6 N.length] z5,Tt,TT 2,FnOk Try.prog g0 85 [V.im nz.length (ints nz),i6 R.length] z5,Bn [(V.fn 85 []=V.fn 85 []->[sl fr,i6 N.length]=[sl nz,i6 R.length]->z0=z0->1+1=2->Sm (CR.mk z5 z0 2 []))],Bn [Bn [Zz,Sm false,p1=p1,z1=z1,Zz,An [Sm N.length,NN=NN],z2=z2,z1=z1,An [Sm fr.length,Sm (ints fr)],Sm (fr.length:Int),((0:Nat):Int)=(0:Int)],An [z4=z4,TT 3],An [z3=z3,TT 4]],Sat Try.prog none 0 (at' 56 [1,1,0,1,0,0,1,1,0,0,1,1,1,0,1,0]) (mkSt g0 74 (nfS g R.length RR N.length NN (Mc.mk c fr nz ou) k p1 0)) (Qad g0 74 [(True,Ex.ret,SL.mk [(2,V.bool false)] [] [] [])]),(True->Bn [Bn [Sm false]])]) ?_
     (repeat'(first|(with_reducible apply And.intro)|(refine fun(_:True)=>?_)))<;>first|exact aq|skip
     all_goals first|exact w1|exact w2|exact hlo|(rw[<-e1,wr6 o_ o_];done)|(intro h;cases h;done)|skip
    | false =>
     rw[b3]at hlo eN
     replace hlo:=hlo.fst (fun h=>by cases h)
     by_cases h5:(ou.length:Int)=ab
     ·cases b4 : inB 0 (c - 1) ou with
      |false=>
       rw[b4]at w3 eN
       have hf:=bad (by rw[eN];simp)
       refine .inr ⟨.ret,[],{sl:=[(2,.bool false)]},[yes 14,pl 16,ld 17 (.agg (mcC ⟨c,fr,nz,ou⟩)),nu 21 p1,fn 27 (.bool true),fn 35 (.bool true),(0,.loop [0,1] (nfS g R.length (rtL R) N.length (mcL N) ⟨c,fr,nz,ou⟩ k p1 0) [(True,.exit 2,nfS g R.length (rtL R) N.length (mcL N) ⟨c,fr,nz,ou⟩ k p1 fr.length)]),fn 52 (.tup [i6 a,i6 (b:Nat)]),nu 60 ab,no 61,nu 65 (c-1),fn 68 (.bool false)],1000,.inr (.inl ⟨hf,rfl,rfl⟩),?_⟩
       clear hxe hin bad jn hca hra hc hR h6 eN
       generalize rtL R=RR at*
       generalize mcL N=NN at*
       refine m_ (p:=let z1:=[i6 g,V.im R.length RR,V.im N.length NN];let z2:=(k:Int);let z3:=(N.length:Int);let z4:=[i6 c,sl fr,sl nz,sl ou];let z5:=V.bool true;let z6:=Mc.mk c fr nz ou;let z7:=V.im fr.length (ints fr);let z8:=V.im nz.length (ints nz);let z9:=V.im ou.length (ints ou);let z0:=pt (pt (ofOs T.e 0 [moO g R.length RR N.length NN]) 1 (O.row 40 none [i6 0,V.nils,V.nils,V.nils])) 1 (O.row 40 none z4);Bn [decide (z2<z3)=true,An [(0:Int)<=z2,z2<z3],takeE 4 (List.drop (k*4) NN)=some (mcC z6),wr .i64 (p0*c)=p1,TT 2,FnOk Try.prog g0 85 [z7,i6 N.length] z5,Tt,TT 2,FnOk Try.prog g0 85 [z8,i6 R.length] z5,Bn [(V.fn 85 []=V.fn 85 []->[sl fr,i6 N.length]=[sl nz,i6 R.length]->z0=z0->1+1=2->Sm (CR.mk z5 z0 2 []))],Bn [Bn [Zz,Sm false,p1=p1,z2=z2,Zz,An [Sm N.length,NN=NN],z3=z3,z2=z2,An [Sm fr.length,Sm (ints fr)],Sm (fr.length:Int),((0:Nat):Int)=(0:Int)],An [z1=z1,TT 3],An [z4=z4,TT 4]],Sat Try.prog none 0 (at' 56 [1,1,0,1,0,0,1,1,0,0,1,1,1,0,1,0]) (mkSt g0 74 (nfS g R.length RR N.length NN z6 k p1 0)) (Qad g0 74 [(True,Ex.exit 2,nfS g R.length RR N.length NN z6 k p1 fr.length)]),(True->Bn [Bn [TT 3,TT 4],FnOk Try.prog g0 86 [V.agg z1,V.agg [i6 c,z7,z8,z9]] (V.tup [i6 a,i6 b]),Tt,wr .i64 (a*(b:Int))=ab,((ou.length:Int) != ab)=false,wr .i64 (c-1)=c-1,TT 3,FnOk Try.prog g0 54 [i6 0,i6 (c-1),z9] (V.bool false),Tt,Bn [Sm false]])]) ?_
       (repeat'(first|(with_reducible apply And.intro)|(refine fun(_:True)=>?_)))<;>first|exact aq|skip
       all_goals first|exact w1|exact w2|exact w3|exact hlo|exact hs|exact hp1e|(rw[<-e1,wr6 o_ o_];done)|(intro h;cases h;done)|(rw[<-hab2,wr6 o_ o_];done)|skip
      |true=>
       rw[b4]at w3 eN
       have hg:=jn (by rw[eN];simp[h5])
       refine .inl ⟨k+1,[0],[yes 14,pl 16,ld 17 (.agg (mcC ⟨c,fr,nz,ou⟩)),nu 21 p1,fn 27 (.bool true),fn 35 (.bool true),(0,.loop [0,1] (nfS g R.length (rtL R) N.length (mcL N) ⟨c,fr,nz,ou⟩ k p1 0) [(True,.exit 2,nfS g R.length (rtL R) N.length (mcL N) ⟨c,fr,nz,ou⟩ k p1 fr.length)]),fn 52 (.tup [i6 a,i6 (b:Nat)]),nu 60 ab,no 61,nu 65 (c-1),fn 68 (.bool true),nu 71 ((k+1:Nat):Int)],1000,⟨hlt,hg⟩,by omega,?_⟩
       clear hxe hin bad jn hg hca hra hc hR h6 eN
       generalize rtL R=RR at*
       generalize mcL N=NN at*
       refine m_ (p:=let z1:=[i6 g,V.im R.length RR,V.im N.length NN];let z2:=(N.length:Int);let z3:=(k:Int);let z4:=[i6 c,sl fr,sl nz,sl ou];let z5:=V.bool true;let z6:=Mc.mk c fr nz ou;let z7:=(↑(k+1):Int);let z8:=V.im fr.length (ints fr);let z9:=V.im nz.length (ints nz);let y0:=V.im ou.length (ints ou);let y1:=(1:Int);let z0:=pt (pt (ofOs T.e 0 [moO g R.length RR N.length NN]) 1 (O.row 40 none [i6 0,V.nils,V.nils,V.nils])) 1 (O.row 40 none z4);Bn [decide (z3<z2)=true,An [(0:Int)<=z3,z3<z2],takeE 4 (List.drop (k*4) NN)=some (mcC z6),wr .i64 (p0*c)=p1,TT 2,FnOk Try.prog g0 85 [z8,i6 N.length] z5,Tt,TT 2,FnOk Try.prog g0 85 [z9,i6 R.length] z5,Bn [(V.fn 85 []=V.fn 85 []->[sl fr,i6 N.length]=[sl nz,i6 R.length]->z0=z0->1+1=2->Sm (CR.mk z5 z0 2 []))],Bn [Bn [Zz,Sm false,p1=p1,z3=z3,Zz,An [Sm N.length,NN=NN],z2=z2,z3=z3,An [Sm fr.length,Sm (ints fr)],Sm (fr.length:Int),((0:Nat):Int)=(0:Int)],An [z1=z1,TT 3],An [z4=z4,TT 4]],Sat Try.prog none 0 (at' 56 [1,1,0,1,0,0,1,1,0,0,1,1,1,0,1,0]) (mkSt g0 74 (nfS g R.length RR N.length NN z6 k p1 0)) (Qad g0 74 [(True,Ex.exit 2,nfS g R.length RR N.length NN z6 k p1 fr.length)]),(True->Bn [Bn [TT 3,TT 4],FnOk Try.prog g0 86 [V.agg z1,V.agg [i6 c,z8,z9,y0]] (V.tup [i6 a,i6 b]),Tt,wr .i64 (a*(b:Int))=ab,((ou.length:Int) != ab)=false,wr .i64 (c-y1)=c-y1,TT 3,FnOk Try.prog g0 54 [i6 0,i6 (c-y1),y0] z5,Tt,wr .i64 (z3+y1)=z7,Bn [Zz,Sm false,crdP N (k+1)=p1,An [Sm N.length,NN=NN],z2=z2,z7=z7],An [z1=z1,TT 3]])]) ?_
       (repeat'(first|(with_reducible apply And.intro)|(refine fun(_:True)=>?_)))<;>first|exact aq|skip
       all_goals first|exact w1|exact w2|exact w3|exact hlo|exact hs|exact hp1e|(rw[<-e1,wr6 o_ o_];done)|(intro h;cases h;done)|(rw[<-hab2,wr6 o_ o_];done)|skip
     ·have hf := bad (by rw [eN]; simp [h5])
      refine .inr ⟨.ret,[],{sl:=[(2,.bool false)]},[yes 14,pl 16,ld 17 (.agg (mcC ⟨c,fr,nz,ou⟩)),nu 21 p1,fn 27 (.bool true),fn 35 (.bool true),(0,.loop [0,1] (nfS g R.length (rtL R) N.length (mcL N) ⟨c,fr,nz,ou⟩ k p1 0) [(True,.exit 2,nfS g R.length (rtL R) N.length (mcL N) ⟨c,fr,nz,ou⟩ k p1 fr.length)]),fn 52 (.tup [i6 a,i6 (b:Nat)]),nu 60 ab,yes 61],1000,.inr (.inl ⟨hf,rfl,rfl⟩),?_⟩
      clear hxe hin bad jn hca hra hc hR h6 eN
      generalize rtL R=RR at*
      generalize mcL N=NN at*
      refine m_ (p:=let z1:=[i6 g,V.im R.length RR,V.im N.length NN];let z2:=(k:Int);let z3:=(N.length:Int);let z4:=[i6 c,sl fr,sl nz,sl ou];let z5:=V.bool true;let z6:=Mc.mk c fr nz ou;let z7:=V.im fr.length (ints fr);let z8:=V.im nz.length (ints nz);let z0:=pt (pt (ofOs T.e 0 [moO g R.length RR N.length NN]) 1 (O.row 40 none [i6 0,V.nils,V.nils,V.nils])) 1 (O.row 40 none z4);Bn [decide (z2<z3)=true,An [(0:Int)<=z2,z2<z3],takeE 4 (List.drop (k*4) NN)=some (mcC z6),wr .i64 (p0*c)=p1,TT 2,FnOk Try.prog g0 85 [z7,i6 N.length] z5,Tt,TT 2,FnOk Try.prog g0 85 [z8,i6 R.length] z5,Bn [(V.fn 85 []=V.fn 85 []->[sl fr,i6 N.length]=[sl nz,i6 R.length]->z0=z0->1+1=2->Sm (CR.mk z5 z0 2 []))],Bn [Bn [Zz,Sm false,p1=p1,z2=z2,Zz,An [Sm N.length,NN=NN],z3=z3,z2=z2,An [Sm fr.length,Sm (ints fr)],Sm (fr.length:Int),((0:Nat):Int)=(0:Int)],An [z1=z1,TT 3],An [z4=z4,TT 4]],Sat Try.prog none 0 (at' 56 [1,1,0,1,0,0,1,1,0,0,1,1,1,0,1,0]) (mkSt g0 74 (nfS g R.length RR N.length NN z6 k p1 0)) (Qad g0 74 [(True,Ex.exit 2,nfS g R.length RR N.length NN z6 k p1 fr.length)]),(True->Bn [Bn [TT 3,TT 4],FnOk Try.prog g0 86 [V.agg z1,V.agg [i6 c,z7,z8,V.im ou.length (ints ou)]] (V.tup [i6 a,i6 b]),Tt,wr .i64 (a*(b:Int))=ab,((ou.length:Int) != ab)=true,Bn [Sm false]])]) ?_
      (repeat'(first|(with_reducible apply And.intro)|(refine fun(_:True)=>?_)))<;>first|exact aq|skip
      all_goals first|exact w1|exact w2|exact w3|exact hlo|exact hs|exact hp1e|(rw[<-e1,wr6 o_ o_];done)|(intro h;cases h;done)|(rw[<-hab2,wr6 o_ o_];done)|skip
 ·have hk2 : k = N.length := by omega
  have jx:(List.range N.length).all (fun k=>nodB R N k (N.getD k mc0))=true:=List.all_eq_true.2 fun i hi=>hin i (by have:=List.mem_range.1 hi;omega)
  subst hk2
  generalize hp0:crdP N N.length=p0 at*
  refine .inr ⟨.exit 0,[],{sl:=[(3,i6 p0)]},[no 14],1000,.inl ⟨jx,rfl,rfl⟩,?_⟩
  clear hin jx hp0
  generalize rtL R=RR at*
  generalize mcL N=NN at*
  refine m_ (p:=Bn [decide ((N.length:Int)<(N.length:Int))=false,Bn [p0=p0]]) ?_
  (repeat'(first|(with_reducible apply And.intro)|(refine fun(_:True)=>?_)))<;>first|exact aq|skip
  all_goals skip
end
set_option maxHeartbeats 1000000
set_option maxRecDepth 100000
section
variable (g:Int) (R:List (List Int)) (N:List Mc) (hq:N.length<=5) (hn:R.length<=8) (hc: ∀k,k<N.length->1<=(N.getD k mc0).c/\(N.getD k mc0).c<=4) (hR: ∀k,k<R.length->1<=(R.getD k []).length/\(R.getD k []).length<=4) (h6: ∀x∈N,x.fr.length<=1000000/\x.no.length<=1000000/\x.ou.length<=1000000)
include hq hn hc hR h6
theorem nodes_fn:FnOk Pg g0 56 [mdV g R N] (.bool (nodesB R N)):=by
 have hRR:=Qah R
 have hNN:=Qaj N
 have h:=Qpp g R N hq hn hc hR h6
 show FnOk Pg g0 56 [.agg [i6 g,.im R.length (rtL R),.im N.length (mcL N)]] (.bool ((List.range N.length).all (fun k=>nodB R N k (N.getD k mc0))&&decide (crdP N N.length<=1024)))
 generalize (List.range N.length).all (fun k=>nodB R N k (N.getD k mc0))=b at*
 generalize crdP N N.length=p at*
 generalize rtL R=RR at*
 generalize mcL N=NN at*
 cases b with
 |false=>
  replace h:=h.snd (fun h=>by cases h)
  refine FnOk.of_vc vE_ok mixed Qab (n:=1000) (r:=[]) (S:={sl:=[(2,.bool false)]}) (hs:=[(0,.loop [0] (noS g R.length RR N.length NN 0 1) [(True,.ret,{sl:=[(2,.bool false)]})])]) ?_
  clear hc hR h6
  refine m_ (p:=Bn [V.bool false=V.bool (false&&decide (p<=1024)),Bn [Bn [Zz,Sm false,Sm (1:Int),An [Sm N.length,NN=NN],Sm (N.length:Int),((0:Nat):Int)=(0:Int)],An [Sm [i6 g,V.im R.length RR,V.im N.length NN],TT 3]],Sat Try.prog none 0 (at' 56 [1,1,0,1,0]) (mkSt g0 74 (noS g R.length RR N.length NN 0 (1:Int))) (Qad g0 74 [(True,Ex.ret,SL.mk [(2,V.bool false)] [] [] [])]),(True->Bn [Bn [Sm false]])]) ?_
  (repeat'(first|(with_reducible apply And.intro)|(refine fun(_:True)=>?_)))<;>first|exact aq|skip
  all_goals first|exact h|skip
 | true =>
  replace h:=h.fst (fun h=>by cases h)
  by_cases hp:p<=1024
  ·rw [decide_eq_true hp]
   refine FnOk.of_vc vE_ok mixed Qab (n:=1000) (r:=[]) (S:={sl:=[(2,.bool true)]}) (hs:=[(0,.loop [0] (noS g R.length RR N.length NN 0 1) [(True,.exit 0,{sl:=[(3,i6 p)]})]),yes 73]) ?_
   clear hc hR h6
   refine m_ (p:=Bn [V.bool true=V.bool (true&&true),Bn [Bn [Zz,Sm false,Sm (1:Int),An [Sm N.length,NN=NN],Sm (N.length:Int),((0:Nat):Int)=(0:Int)],An [Sm [i6 g,V.im R.length RR,V.im N.length NN],TT 3]],Sat Try.prog none 0 (at' 56 [1,1,0,1,0]) (mkSt g0 74 (noS g R.length RR N.length NN 0 (1:Int))) (Qad g0 74 [(True,Ex.exit 0,SL.mk [(3,i6 p)] [] [] [])]),(True->Bn [decide (p<=1024)=true,Bn [Sm true]])]) ?_
   (repeat'(first|(with_reducible apply And.intro)|(refine fun(_:True)=>?_)))<;>first|exact aq|skip
   all_goals first|exact h|exact decide_eq_true hp|skip
  ·rw [decide_eq_false hp]
   refine FnOk.of_vc vE_ok mixed Qab (n:=1000) (r:=[]) (S:={sl:=[(2,.bool false)]}) (hs:=[(0,.loop [0] (noS g R.length RR N.length NN 0 1) [(True,.exit 0,{sl:=[(3,i6 p)]})]),no 73]) ?_
   clear hc hR h6
   refine m_ (p:=Bn [V.bool false=V.bool (true&&false),Bn [Bn [Zz,Sm false,Sm (1:Int),An [Sm N.length,NN=NN],Sm (N.length:Int),((0:Nat):Int)=(0:Int)],An [Sm [i6 g,V.im R.length RR,V.im N.length NN],TT 3]],Sat Try.prog none 0 (at' 56 [1,1,0,1,0]) (mkSt g0 74 (noS g R.length RR N.length NN 0 (1:Int))) (Qad g0 74 [(True,Ex.exit 0,SL.mk [(3,i6 p)] [] [] [])]),(True->Bn [decide (p<=1024)=false,Bn [Sm false]])]) ?_
   (repeat'(first|(with_reducible apply And.intro)|(refine fun(_:True)=>?_)))<;>first|exact aq|skip
   all_goals first|exact h|exact decide_eq_false hp|skip
end
theorem wru{n m:Int}(h1:0<=n)(h2:n<=18446744073709551615)(h:n=m):wr .u64 n=m:=by rw[<-h];exact Qlp h1 h2
def acT(N:List Mc)(d i:Nat):Nat:=if mi (setI (N.getD i mc0).fr (N.getD i mc0).fr.length) d=0 then d|||2^i else d
def acI(N:List Mc)(d:Nat):Nat->Nat
 |0=>d
 |i+1=>acT N (acI N d i) i
def acO(N:List Mc):Nat->Nat
 |0=>0
 |r+1=>acI N (acO N r) N.length
def acyB(N:List Mc):Bool:=decide (acO N N.length=2^N.length-1)
theorem acT_lt{N:List Mc}{d i:Nat}(hd:d<18446744073709551616)(hi:i<64):acT N d i<18446744073709551616:=by
 unfold acT
 split
 ·exact Nat.or_lt_two_pow (n:=64) hd (Nat.pow_lt_pow_right o_ hi)
 ·exact hd
theorem Qnd{N:List Mc}{d:Nat}(hd:d<18446744073709551616): ∀i,i<=64->acI N d i<18446744073709551616
 |0,_=>hd
 |i+1,hi=>acT_lt (Qnd hd i o_) o_
theorem Qqi{N:List Mc}(hq:N.length<=5): ∀r,acO N r<18446744073709551616
 |0=>by show 0< _;omega
 |r+1=>Qnd (Qqi hq r) _ o_
abbrev aiS(g:Int)(n:Nat)(R:List V)(q:Nat)(N:List V)(r:Nat)(i:Nat)(d:Nat):SL:={sl:=[(1,.ptr 0 0),(2,.bool false),(3,u6 (d:Nat)),(7,.im q N),(8,i6 (q:Nat)),(9,i6 (r:Nat)),(12,.im q N),(13,i6 (q:Nat)),(14,i6 (i:Nat))],os:=[moO g n R q N]}
abbrev aoS(g:Int)(n:Nat)(R:List V)(q:Nat)(N:List V)(r:Nat)(d:Nat):SL:={sl:=[(1,.ptr 0 0),(2,.bool false),(3,u6 (d:Nat)),(7,.im q N),(8,i6 (q:Nat)),(9,i6 (r:Nat))],os:=[moO g n R q N]}
section
variable (g:Int) (R:List (List Int)) (N:List Mc) (hq:N.length<=5) (hf: ∀k,k<N.length->Qba (N.getD k mc0).fr N.length/\(N.getD k mc0).fr.length<=5)
include hq hf
theorem ac_in(r d:Nat)(hr:r<=5)(hd:d<18446744073709551616):Sat Pg none 0 (at' 57 [1,1,0,1,0,0,1,1,0,0,1,0]) (mkSt g0 38 (aiS g R.length (rtL R) N.length (mcL N) r 0 d)) (Qad g0 38 [(True,.exit 2,aiS g R.length (rtL R) N.length (mcL N) r N.length (acI N d N.length))]):=by
 have hRR:=Qah R
 have hNN:=Qaj N
 refine Qav vE_ok mixed Qab (b:=at' 57 [1,1,0,1,0,0,1,1,0,0,1,0,0]) k_ (fun i=>i<=N.length) (fun i=>aiS g R.length (rtL R) N.length (mcL N) r i (acI N d i)) (fun i=>N.length-i) (fun i hi=>?_) 0 (Nat.zero_le _)
 by_cases hlt:i<N.length
 ·have hld := Qc8 hlt
  have ef:(N.getD i mc0).fr=(N.getD i mc0).fr:=rfl
  have hs:=Qj4 (N.getD i mc0).fr (by have:=(hf i hlt).2;omega) (fun k hk=>by have:=(hf i hlt).1 k hk;omega)
  have hs1:=Qfp (L:=(N.getD i mc0).fr) (fun k hk=>by have:=(hf i hlt).1 k hk;omega) _ (Nat.le_refl _)
  have e1:acI N d (i+1)=acT N (acI N d i) i:=rfl
  have hd1:=Qnd (N:=N) hd i o_
  have hd2:=Qnd (N:=N) hd (i+1) o_
  unfold acT at e1
  generalize hd2e:acI N d (i+1)=d2 at*
  generalize acI N d i=d1 at*
  clear hf
  generalize N.getD i mc0=x at*
  obtain⟨c,fr,nz,ou⟩:=x
  dsimp only at*
  generalize setI fr fr.length=s at*
  have h1:=Qaa fr
  have h2:=Qaa nz
  have h3:=Qaa ou
  have m1:=mi_u (G:=Qac Pg) (t:=29) hs1 hd1
  have m2:=Qdm (G:=Qac Pg) (t:=29) (k:=i) o_
  have m3:=or_u (G:=Qac Pg) (t:=29) hd1 m2.2
  by_cases h0:mi s d1=0
  ·rw [if_pos h0] at e1
   rw[h0]at m1
   rw[<-e1]at m3
   refine .inl ⟨i+1,[0],[yes 15,pl 17,ld 18 (.agg (mcC ⟨c,fr,nz,ou⟩)),fn 21 (u6 (s:Nat)),va 23 (u6 (0:Nat)),va 27 (u6 (2^i:Nat)),va 28 (u6 (d2:Nat)),nu 29 ((i+1:Nat):Int)],1000,hlt,by omega,?_⟩
   generalize rtL R=RR at*
   generalize mcL N=NN at*
   refine m_ (p:=let z0:=(N.length:Int);let z1:=[i6 g,V.im R.length RR,V.im N.length NN];let z2:=(↑(i+1):Int);let z3:=(i:Int);let z4:=Qac Try.prog;Bn [decide (z3<z0)=true,An [(0:Int)<=z3,z3<z0],takeE 4 (List.drop (i*4) NN)=some (mcC (Mc.mk c fr nz ou)),Bn [Tt],FnOk Try.prog g0 70 [V.im fr.length (ints fr)] (u6 s),Tt,binV z4 BinOp.andNot 29 (u6 s) (u6 d1)=some (u6 ↑(0:Nat)),binV z4 BinOp.shl 29 (u6 1) (i6 i)=some (u6 ↑(2^i)),binV z4 BinOp.or 29 (u6 d1) (u6 ↑(2^i))=some (u6 d2),wr .i64 (z3+1)=z2,Bn [Zz,Sm false,(↑(acI N d (i+1)):Int)=(d2:Int),An [Sm N.length,NN=NN],z0=z0,Sm (r:Int),An [Sm N.length,NN=NN],z0=z0,z2=z2],An [z1=z1,TT 3]]) ?_
   (repeat'(first|(with_reducible apply And.intro)|(refine fun(_:True)=>?_)))<;>first|exact aq|skip
   all_goals first|exact hs|exact m1|exact m2.1|exact m3.1|(rw[hd2e];done)|skip
  ·rw [if_neg h0] at e1
   obtain rfl:d1=d2:=e1.symm
   refine .inl ⟨i+1,[0],[yes 15,pl 17,ld 18 (.agg (mcC ⟨c,fr,nz,ou⟩)),fn 21 (u6 (s:Nat)),va 23 (u6 (mi s d1:Nat)),no 24,nu 29 ((i+1:Nat):Int)],1000,hlt,by omega,?_⟩
   generalize rtL R=RR at*
   generalize mcL N=NN at*
   generalize mi s d1=m at*
   refine m_ (p:=let z0:=(N.length:Int);let z1:=[i6 g,V.im R.length RR,V.im N.length NN];let z2:=(↑(i+1):Int);let z3:=(i:Int);Bn [decide (z3<z0)=true,An [(0:Int)<=z3,z3<z0],takeE 4 (List.drop (i*4) NN)=some (mcC (Mc.mk c fr nz ou)),Bn [Tt],FnOk Try.prog g0 70 [V.im fr.length (ints fr)] (u6 s),Tt,binV (Qac Try.prog) BinOp.andNot 29 (u6 s) (u6 d1)=some (u6 m),((m:Int)==0)=false,wr .i64 (z3+1)=z2,Bn [Zz,Sm false,(↑(acI N d (i+1)):Int)=(d1:Int),An [Sm N.length,NN=NN],z0=z0,Sm (r:Int),An [Sm N.length,NN=NN],z0=z0,z2=z2],An [z1=z1,TT 3]]) ?_
   (repeat'(first|(with_reducible apply And.intro)|(refine fun(_:True)=>?_)))<;>first|exact aq|skip
   all_goals first|exact hs|exact m1|(rw[hd2e];done)|exact beq_eq_false_iff_ne.2 o_ |skip
 ·have hk2 : i = N.length := by omega
  subst hk2
  generalize acI N d N.length=d1 at*
  refine .inr ⟨.exit 2,[0],aiS g R.length (rtL R) N.length (mcL N) r N.length d1,[no 15],1000,.inl ⟨trivial,rfl,rfl⟩,?_⟩
  generalize rtL R=RR at*
  generalize mcL N=NN at*
  clear hf
  refine m_ (p:=let z0:=(N.length:Int);let z1:=[i6 g,V.im R.length RR,V.im N.length NN];Bn [decide (z0<z0)=false,Bn [Zz,Sm false,Sm (d1:Int),An [Sm N.length,NN=NN],z0=z0,Sm (r:Int),An [Sm N.length,NN=NN],z0=z0,z0=z0],An [z1=z1,TT 3]]) ?_
  (repeat'(first|(with_reducible apply And.intro)|(refine fun(_:True)=>?_)))<;>first|exact aq|skip
  all_goals skip
theorem ac_out:Sat Pg none 0 (at' 57 [1,1,0,1,0]) (mkSt g0 38 (aoS g R.length (rtL R) N.length (mcL N) 0 0)) (Qad g0 38 [(True,.exit 0,aoS g R.length (rtL R) N.length (mcL N) N.length (acO N N.length))]):=by
 have hRR:=Qah R
 have hNN:=Qaj N
 refine Qav vE_ok mixed Qab (b:=at' 57 [1,1,0,1,0,0]) k_ (fun i=>i<=N.length) (fun i=>aoS g R.length (rtL R) N.length (mcL N) i (acO N i)) (fun i=>N.length-i) (fun i hi=>?_) 0 (Nat.zero_le _)
 by_cases hlt:i<N.length
 ·have hlo := ac_in g R N hq hf i (acO N i) o_ (Qqi hq i)
  have e1:acO N (i+1)=acI N (acO N i) N.length:=rfl
  rw[<-e1]at hlo
  generalize hd2e:acO N (i+1)=d2 at*
  generalize acO N i=d1 at*
  refine .inl ⟨i+1,[0],[yes 10,(0,.loop [0] (aiS g R.length (rtL R) N.length (mcL N) i 0 d1) [(True,.exit 2,aiS g R.length (rtL R) N.length (mcL N) i N.length d2)]),nu 30 ((i+1:Nat):Int)],1000,hlt,by omega,?_⟩
  generalize rtL R=RR at*
  generalize mcL N=NN at*
  clear hf
  refine m_ (p:=let z0:=[i6 g,V.im R.length RR,V.im N.length NN];let z1:=(N.length:Int);let z2:=(↑(i+1):Int);let z3:=(i:Int);Bn [decide (z3<z1)=true,Bn [Bn [Zz,Sm false,Sm (d1:Int),An [Sm N.length,NN=NN],z1=z1,z3=z3,An [Sm N.length,NN=NN],z1=z1,((0:Nat):Int)=(0:Int)],An [z0=z0,TT 3]],Sat Try.prog none 0 (at' 57 [1,1,0,1,0,0,1,1,0,0,1,0]) (mkSt g0 38 (aiS g R.length RR N.length NN i 0 d1)) (Qad g0 38 [(True,Ex.exit 2,aiS g R.length RR N.length NN i N.length d2)]),(True->Bn [wr .i64 (z3+1)=z2,Bn [Zz,Sm false,(↑(acO N (i+1)):Int)=(d2:Int),An [Sm N.length,NN=NN],z1=z1,z2=z2],An [z0=z0,TT 3]])]) ?_
  (repeat'(first|(with_reducible apply And.intro)|(refine fun(_:True)=>?_)))<;>first|exact aq|skip
  all_goals first|exact hlo|(rw[hd2e];done)|skip
 ·have hk2 : i = N.length := by omega
  subst hk2
  generalize acO N N.length=d1 at*
  refine .inr ⟨.exit 0,[0],aoS g R.length (rtL R) N.length (mcL N) N.length d1,[no 10],1000,.inl ⟨trivial,rfl,rfl⟩,?_⟩
  generalize rtL R=RR at*
  generalize mcL N=NN at*
  clear hf
  refine m_ (p:=let z0:=(N.length:Int);let z1:=[i6 g,V.im R.length RR,V.im N.length NN];Bn [decide (z0<z0)=false,Bn [Zz,Sm false,Sm (d1:Int),An [Sm N.length,NN=NN],z0=z0,z0=z0],An [z1=z1,TT 3]]) ?_
  (repeat'(first|(with_reducible apply And.intro)|(refine fun(_:True)=>?_)))<;>first|exact aq|skip
  all_goals skip
theorem Qo7:FnOk Pg g0 57 [mdV g R N] (.bool (acyB N)):=by
 have hRR:=Qah R
 have hNN:=Qaj N
 have h:=ac_out g R N hq hf
 have hlt:=Qqi hq N.length
 show FnOk Pg g0 57 [.agg [i6 g,.im R.length (rtL R),.im N.length (mcL N)]] (.bool (decide (acO N N.length=2^N.length-1)))
 clear hf
 generalize acO N N.length=d at*
 have m2:=Qdm (G:=Qac Pg) (t:=29) (k:=N.length) o_
 have hp:2^N.length<=2^5:=Nat.pow_le_pow_right d_ hq
 have hp0:1<=2^N.length:=Nat.one_le_two_pow
 have e32:2^5=32:=rfl
 generalize 2^N.length=z at*
 generalize rtL R=RR at*
 generalize mcL N=NN at*
 by_cases hd:d=z-1
 ·rw [decide_eq_true hd]
  refine FnOk.of_vc vE_ok mixed Qab (n:=1000) (r:=[]) (S:={sl:=[(2,.bool true)]}) (hs:=[(0,.loop [0] (aoS g R.length RR N.length NN 0 0) [(True,.exit 0,aoS g R.length RR N.length NN N.length d)]),va 35 (u6 (z:Nat)),nu 36 ((z-1:Nat):Int),yes 37]) ?_
  refine m_ (p:=Bn [Sm (V.bool true),Bn [Bn [Zz,Sm false,((0:Nat):Int)=(0:Int),An [Sm N.length,NN=NN],Sm (N.length:Int),((0:Nat):Int)=(0:Int)],An [Sm [i6 g,V.im R.length RR,V.im N.length NN],TT 3]],Sat Try.prog none 0 (at' 57 [1,1,0,1,0]) (mkSt g0 38 (aoS g R.length RR N.length NN 0 0)) (Qad g0 38 [(True,Ex.exit 0,aoS g R.length RR N.length NN N.length d)]),(True->Bn [binV (Qac Try.prog) BinOp.shl 29 (u6 1) (i6 N.length)=some (u6 z),wr .u64 ((z:Int)-1)=(↑(z-1):Int),((d:Int)==(↑(z-1):Int))=true,Bn [Sm true]])]) ?_
  (repeat'(first|(with_reducible apply And.intro)|(refine fun(_:True)=>?_)))<;>first|exact aq|skip
  all_goals first|exact h|exact m2.1|exact wru o_ o_ o_ |exact beq_iff_eq.2 o_ |exact beq_eq_false_iff_ne.2 o_ |skip
 ·rw [decide_eq_false hd]
  refine FnOk.of_vc vE_ok mixed Qab (n:=1000) (r:=[]) (S:={sl:=[(2,.bool false)]}) (hs:=[(0,.loop [0] (aoS g R.length RR N.length NN 0 0) [(True,.exit 0,aoS g R.length RR N.length NN N.length d)]),va 35 (u6 (z:Nat)),nu 36 ((z-1:Nat):Int),no 37]) ?_
  refine m_ (p:=Bn [Sm (V.bool false),Bn [Bn [Zz,Sm false,((0:Nat):Int)=(0:Int),An [Sm N.length,NN=NN],Sm (N.length:Int),((0:Nat):Int)=(0:Int)],An [Sm [i6 g,V.im R.length RR,V.im N.length NN],TT 3]],Sat Try.prog none 0 (at' 57 [1,1,0,1,0]) (mkSt g0 38 (aoS g R.length RR N.length NN 0 0)) (Qad g0 38 [(True,Ex.exit 0,aoS g R.length RR N.length NN N.length d)]),(True->Bn [binV (Qac Try.prog) BinOp.shl 29 (u6 1) (i6 N.length)=some (u6 z),wr .u64 ((z:Int)-1)=(↑(z-1):Int),((d:Int)==(↑(z-1):Int))=false,Bn [Sm false]])]) ?_
  (repeat'(first|(with_reducible apply And.intro)|(refine fun(_:True)=>?_)))<;>first|exact aq|skip
  all_goals first|exact h|exact m2.1|exact wru o_ o_ o_ |exact beq_iff_eq.2 o_ |exact beq_eq_false_iff_ne.2 o_ |skip
end
set_option maxHeartbeats 1000000
set_option maxRecDepth 100000
def cardB(x:Mc):Bool:=inB 1 4 [x.c]
theorem Qkw{x:Mc}(h:cardB x=true):1<=x.c/\x.c<=4:=Qbf.1 h 0 Nat.zero_lt_one
def chkB(g:Int)(R:List (List Int))(N:List Mc):Bool:=
 inB 1 12 [g]&&inB 0 8 [(R.length:Int)]&&inB 1 5 [(N.length:Int)]&&rootsB g R&&N.all cardB&&nodesB R N&&acyB N
abbrev ckS(g:Int)(n:Nat)(R:List V)(q:Nat)(N:List V)(k:Nat):SL:={sl:=[(1,.ptr 0 0),(2,i6 0),(30,.im q N),(31,i6 (q:Nat)),(32,i6 (k:Nat))],os:=[moO g n R q N]}
abbrev ckX(g:Int)(n:Nat)(R:List V)(q:Nat)(N:List V):SL:={sl:=[(1,.ptr 0 0)],os:=[moO g n R q N]}
theorem ck_loop(g:Int)(n:Nat)(R:List V)(hR:HfL R)(N:List Mc)(hq:N.length<=5):Sat Pg none 0 (at' 25 [1,1,1,0,1,0]) (mkSt g0 50 (ckS g n R N.length (mcL N) 0)) (Qad g0 50 [(N.all cardB=true,.exit 0,ckX g n R N.length (mcL N)),(N.all cardB=false,.ret,{sl:=[(2,i6 330)]})]):=by
 have hNN:=Qaj N
 refine Qav vE_ok mixed Qab (b:=at' 25 [1,1,1,0,1,0,0]) k_ (fun k=>k<=N.length/\∀i,i<k->cardB (N.getD i mc0)=true) (ckS g n R N.length (mcL N)) (fun k=>N.length-k) (fun k hk=>?_) 0 ⟨Nat.zero_le _,fun i h=>absurd h (Nat.not_lt_zero _)⟩
 obtain⟨hk,hin⟩:=hk
 by_cases hlt:k<N.length
 ·have hld := Qc8 hlt
  have jb:N.getD k mc0∈N:=by rw[List.getD_eq_getElem?_getD,List.getElem?_eq_getElem hlt];exact List.getElem_mem hlt
  have bad:cardB (N.getD k mc0)=false->N.all cardB=false:=fun h=>by
   cases hb:N.all cardB with
   |false=>rfl
   |true=>rw[List.all_eq_true.1 hb _ jb]at h;cases h
  have jn:cardB (N.getD k mc0)=true->∀i,i<k+1->cardB (N.getD i mc0)=true:=fun h i hi=>by
   by_cases hik:i=k
   ·subst hik;exact h
   ·exact hin i o_
  generalize N.getD k mc0=x at*
  obtain⟨c,fr,nz,ou⟩:=x
  have h1:=Qaa fr
  have h2:=Qaa nz
  have h3:=Qaa ou
  have w1:=Qbz 1 4 [c] (by simp)
  have e1:cardB ⟨c,fr,nz,ou⟩=inB 1 4 [c]:=rfl
  rw[e1]at bad jn
  cases b:inB 1 4 [c]with
  |true=>
   rw[b]at w1
   have hg:=jn b
   refine .inl ⟨k+1,[0],[yes 33,pl 34,ld 35 (.agg (mcC ⟨c,fr,nz,ou⟩)),fn 39 (.bool true),nu 41 ((k+1:Nat):Int)],1000,⟨hlt,hg⟩,by omega,?_⟩
   clear hin bad jn hg jb
   generalize mcL N=NN at*
   refine m_ (p:=let z0:=(N.length:Int);let z1:=(↑(k+1):Int);let z2:=[i6 g,V.im n R,V.im N.length NN];let z3:=(k:Int);Bn [decide (z3<z0)=true,An [(0:Int)<=z3,z3<z0],takeE 4 (List.drop (k*4) NN)=some (mcC (Mc.mk c fr nz ou)),Bn [Tt,Tt,Bn [Tt]],FnOk Try.prog g0 54 [i6 1,i6 4,V.im 1 [i6 c]] (V.bool true),Tt,wr .i64 (z3+1)=z1,Bn [Zz,Sm (0:Int),An [Sm N.length,NN=NN],z0=z0,z1=z1],An [z2=z2,TT 3]]) ?_
   (repeat'(first|(with_reducible apply And.intro)|(refine fun(_:True)=>?_)))<;>first|exact aq|skip
   all_goals first|exact w1|skip
  |false=>
   rw[b]at w1
   have hf:=bad b
   refine .inr ⟨.ret,[],{sl:=[(2,i6 330)]},[yes 33,pl 34,ld 35 (.agg (mcC ⟨c,fr,nz,ou⟩)),fn 39 (.bool false)],1000,.inr (.inl ⟨hf,rfl,rfl⟩),?_⟩
   clear hin bad jn jb hf
   generalize mcL N=NN at*
   refine m_ (p:=let z0:=(k:Int);Bn [decide (z0<(N.length:Int))=true,An [(0:Int)<=z0,z0<(N.length:Int)],takeE 4 (List.drop (k*4) NN)=some (mcC (Mc.mk c fr nz ou)),Bn [Tt,Tt,Bn [Tt]],FnOk Try.prog g0 54 [i6 1,i6 4,V.im 1 [i6 c]] (V.bool false),Tt,Bn [Sm (330:Int)]]) ?_
   (repeat'(first|(with_reducible apply And.intro)|(refine fun(_:True)=>?_)))<;>first|exact aq|skip
   all_goals first|exact w1|skip
 ·have hk2 : k = N.length := by omega
  have jx:N.all cardB=true:=List.all_eq_true.2 fun L hL=>by
   obtain⟨i,hi,e⟩:=List.getElem_of_mem hL
   have:=hin i o_
   rw[List.getD_eq_getElem?_getD,List.getElem?_eq_getElem hi]at this
   simp only[Option.getD_some]at this
   rw[e]at this;exact this
  subst hk2
  refine .inr ⟨.exit 0,[0],ckX g n R N.length (mcL N),[no 33],1000,.inl ⟨jx,rfl,rfl⟩,?_⟩
  clear hin jx
  generalize mcL N=NN at*
  refine m_ (p:=Bn [decide ((N.length:Int)<(N.length:Int))=false,Bn [Zz],An [Sm [i6 g,V.im n R,V.im N.length NN],TT 3]]) ?_
  (repeat'(first|(with_reducible apply And.intro)|(refine fun(_:True)=>?_)))<;>first|exact aq|skip
  all_goals skip
def Qbd(R:List (List Int))(N:List Mc):Prop:=(∀L∈R,L.length<=1000000)/\∀x∈N,x.fr.length<=1000000/\x.no.length<=1000000/\x.ou.length<=1000000
theorem Ql4{α:Type}{d:α}{l:List α}{k:Nat}(h:k<l.length):l.getD k d∈l:=by
 rw[List.getD_eq_getElem?_getD,List.getElem?_eq_getElem h];exact List.getElem_mem h
theorem memDG{α:Type}{d x:α}{l:List α}(h:x∈l): ∃k,k<l.length/\l.getD k d=x:=by
 obtain⟨i,hi,e⟩:=List.getElem_of_mem h
 exact⟨i,hi,by rw[List.getD_eq_getElem?_getD,List.getElem?_eq_getElem hi];exact e⟩
structure MdOk(g:Int)(R:List (List Int))(N:List Mc):Prop where
 g1:1<=g/\g<=12
 n1:R.length<=8
 q1:1<=N.length/\N.length<=5
 rt:rootsB g R=true
 cd: ∀k,k<N.length->1<=(N.getD k mc0).c/\(N.getD k mc0).c<=4
 nd:nodesB R N=true
 ac:acyB N=true
theorem Qb4{g:Int}{R:List (List Int)}{N:List Mc}(h:chkB g R N=true):MdOk g R N:=by
 unfold chkB at h
 simp only[Bool.and_eq_true]at h
 obtain⟨⟨⟨⟨⟨⟨h1,h2⟩,h3⟩,h4⟩,h5⟩,h6⟩,h7⟩:=h
 have i1:=Qbf.1 h1 0 Nat.zero_lt_one
 have i2:=Qbf.1 h2 0 Nat.zero_lt_one
 have i3:=Qbf.1 h3 0 Nat.zero_lt_one
 simp only[List.getD_cons_zero]at i1 i2 i3
 exact⟨i1,by omega,by omega,h4,fun k hk=>Qkw (List.all_eq_true.1 h5 _ (Ql4 hk)),h6,h7⟩
theorem Qoo{g:Int}{R:List (List Int)}(h:rootsB g R=true): ∀k,k<R.length->1<=(R.getD k []).length/\(R.getD k []).length<=4:=fun k hk=>by
 unfold rootsB at h
 rw[Bool.and_eq_true]at h
 exact Qto (List.all_eq_true.1 h.1 _ (Ql4 hk))
theorem Qsv{R:List (List Int)}{N:List Mc}(h:nodesB R N=true): ∀k,k<N.length->nodB R N k (N.getD k mc0)=true:=fun k hk=>by
 unfold nodesB at h
 rw[Bool.and_eq_true]at h
 exact List.all_eq_true.1 h.1 k (List.mem_range.2 hk)
theorem Qhg{R:List (List Int)}{N:List Mc}{k:Nat}{x:Mc}:nodB R N k x=true↔incB N.length x.fr=true/\incB R.length x.no=true/\inL k x.fr=false/\(x.ou.length:Int)=proC N x.fr x.fr.length*(proR R x.no x.no.length:Nat)/\inB 0 (x.c-1) x.ou=true:=by
 unfold nodB
 simp only[Bool.and_eq_true,Bool.not_eq_true',decide_eq_true_eq,and_assoc]
theorem Qas (g : Int) (R : List (List Int)) (N : List Mc) (hl : Qbd R N) : FnOk Pg g0 25 [mdV g R N] (i6 (if chkB g R N = true then 0 else 330)) := by
 have hRR:=Qah R
 have hNN:=Qaj N
 have w1:=Qbz 1 12 [g] (by simp)
 have w2:=Qbz 0 8 [(R.length:Int)] (by simp)
 have w3:=Qbz 1 5 [(N.length:Int)] (by simp)
 have hlo:=fun h:N.length<=5=>ck_loop g R.length (rtL R) hRR N h
 have i1:=fun h:inB 1 12 [g]=true=>Qbf.1 h 0 Nat.zero_lt_one
 have i2:=fun h:inB 0 8 [(R.length:Int)]=true=>Qbf.1 h 0 Nat.zero_lt_one
 have i3:=fun h:inB 1 5 [(N.length:Int)]=true=>Qbf.1 h 0 Nat.zero_lt_one
 simp only[List.getD_cons_zero]at i1 i2 i3
 have r1:=fun(h1:1<=g/\g<=12)(h2:R.length<=8)=>roots_fn g h1 R h2 hl.1 N
 have i5:N.all cardB=true->∀k,k<N.length->1<=(N.getD k mc0).c/\(N.getD k mc0).c<=4:=fun h k hk=>Qkw (List.all_eq_true.1 h _ (Ql4 hk))
 have r2:=fun(h1:N.length<=5)(h2:R.length<=8)(h3:N.all cardB=true)(h4:rootsB g R=true)=>nodes_fn g R N h1 h2 (i5 h3) (Qoo h4) hl.2
 have r3:=fun(h1:N.length<=5)(h2:nodesB R N=true)=>Qo7 g R N h1 (fun k hk=>by
  have:=Qhg.1 (Qsv h2 k hk)
  exact⟨Qcv this.1,Nat.le_trans (Qew this.1) h1⟩)
 show FnOk Pg g0 25 [.agg [i6 g,.im R.length (rtL R),.im N.length (mcL N)]] (i6 (if(inB 1 12 [g]&&inB 0 8 [(R.length:Int)]&&inB 1 5 [(N.length:Int)]&&rootsB g R&&N.all cardB&&nodesB R N&&acyB N)=true then 0 else 330))
 unfold mdV at r1 r2 r3
 generalize hb1:inB 1 12 [g]=b1 at*
 generalize hb2:inB 0 8 [(R.length:Int)]=b2 at*
 generalize hb3:inB 1 5 [(N.length:Int)]=b3 at*
 generalize rootsB g R=b4 at*
 generalize N.all cardB=b5 at*
 generalize nodesB R N=b6 at*
 generalize acyB N=b7 at*
 clear hl i5 hb1 hb2 hb3
 generalize rtL R=RR at*
 generalize mcL N=NN at*
 generalize R.length=n at*
 generalize N.length=q at*
 cases b1 with
 |false=>
  clear i1 i2 i3 r1 r2 r3 hlo
  refine FnOk.of_vc vE_ok mixed Qab (n:=1000) (r:=[]) (S:={sl:=[(2,i6 330)]}) (hs:=[fn 8 (.bool false)]) ?_
  refine m_ (p:=Bn [i6 330=i6 (if(false&&b2&&b3&&b4&&b5&&b6&&b7)=true then(0:Int)else(330:Int)),Bn [Tt,Tt,Bn [Tt]],FnOk Try.prog g0 54 [i6 1,i6 12,V.im 1 [i6 g]] (V.bool false),Tt,Bn [Sm (330:Int)]]) ?_
  (repeat'(first|(with_reducible apply And.intro)|(refine fun(_:True)=>?_)))<;>first|exact aq|skip
  all_goals first|exact w1|skip
 | true =>
  have k1:=i1 rfl
  cases b2 with
  |false=>
   clear i1 i2 i3 r1 r2 r3 hlo
   refine FnOk.of_vc vE_ok mixed Qab (n:=1000) (r:=[]) (S:={sl:=[(2,i6 330)]}) (hs:=[fn 8 (.bool true),fn 15 (.bool false)]) ?_
   refine m_ (p:=let z2:=Bn [Tt,Tt,Bn [Tt]];let z0:=pt (pt T.e 0 (O.row 26 none [i6 g,V.im n RR,V.im q NN])) 1 (O.row 3 none [i6 g]);let z1:=pt z0 2 (O.row 3 none [i6 n]);Bn [i6 330=i6 (if(true&&false&&b3&&b4&&b5&&b6&&b7)=true then(0:Int)else(330:Int)),z2,FnOk Try.prog g0 54 [i6 1,i6 12,V.im 1 [i6 g]] (V.bool true),Tt,z2,FnOk Try.prog g0 54 [i6 0,i6 8,V.im 1 [i6 n]] (V.bool false),Bn [(V.fn 54 []=V.fn 54 []->[i6 1,i6 12,V.sl 1 0 1 (some 0)]=[i6 0,i6 8,V.sl 2 0 1 (some 0)]->z0=z1->0+1+1=3->CR.mk (V.bool true) z0 2 []=CR.mk (V.bool false) z1 3 [])],Bn [Sm (330:Int)]]) ?_
   (repeat'(first|(with_reducible apply And.intro)|(refine fun(_:True)=>?_)))<;>first|exact aq|skip
   all_goals first|exact w1|exact w2|skip
  | true =>
   have k2:=i2 rfl
   have r1:=r1 k1 o_
   cases b3 with
   |false=>
    clear i1 i2 i3 r1 r2 r3 hlo
    refine FnOk.of_vc vE_ok mixed Qab (n:=1000) (r:=[]) (S:={sl:=[(2,i6 330)]}) (hs:=[fn 8 (.bool true),fn 15 (.bool true),fn 23 (.bool false)]) ?_
    refine m_ (p:=let z8:=Bn [Tt,Tt,Bn [Tt]];let z0:=pt (pt T.e 0 (O.row 26 none [i6 g,V.im n RR,V.im q NN])) 1 (O.row 3 none [i6 g]);let z3:=V.bool true;let z4:=[i6 1,i6 12,V.sl 1 0 1 (some 0)];let z5:=[i6 0,i6 8,V.sl 2 0 1 (some 0)];let z6:=[i6 1,i6 5,V.sl 3 0 1 (some 0)];let z7:=V.bool false;let z1:=pt z0 2 (O.row 3 none [i6 n]);let z2:=pt z1 3 (O.row 3 none [i6 q]);Bn [i6 330=i6 (if(true&&true&&false&&b4&&b5&&b6&&b7)=true then(0:Int)else(330:Int)),z8,FnOk Try.prog g0 54 [i6 1,i6 12,V.im 1 [i6 g]] z3,Tt,z8,FnOk Try.prog g0 54 [i6 0,i6 8,V.im 1 [i6 n]] z3,Bn [(V.fn 54 []=V.fn 54 []->z4=z5->z0=z1->0+1+1=3->CR.mk z3 z0 2 []=CR.mk z3 z1 3 [])],z8,FnOk Try.prog g0 54 [i6 1,i6 5,V.im 1 [i6 q]] z7,Bn [(V.fn 54 []=V.fn 54 []->z5=z6->z1=z2->0+1+1+1=4->CR.mk z3 z1 3 []=CR.mk z7 z2 4 []),(V.fn 54 []=V.fn 54 []->z4=z6->z0=z2->0+1+1=4->CR.mk z3 z0 2 []=CR.mk z7 z2 4 [])],Bn [Sm (330:Int)]]) ?_
    (repeat'(first|(with_reducible apply And.intro)|(refine fun(_:True)=>?_)))<;>first|exact aq|skip
    all_goals first|exact w1|exact w2|exact w3|skip
   | true =>
    have k3:=i3 rfl
    cases b4 with
    |false=>
     clear i1 i2 i3 r2 r3 hlo
     refine FnOk.of_vc vE_ok mixed Qab (n:=1000) (r:=[]) (S:={sl:=[(2,i6 330)]}) (hs:=[fn 8 (.bool true),fn 15 (.bool true),fn 23 (.bool true),fn 27 (.bool false)]) ?_
     refine m_ (p:=let z8:=Bn [Tt,Tt,Bn [Tt]];let z3:=V.bool true;let z4:=[i6 1,i6 12,V.sl 1 0 1 (some 0)];let z5:=[i6 0,i6 8,V.sl 2 0 1 (some 0)];let z6:=[i6 1,i6 5,V.sl 3 0 1 (some 0)];let z7:=[i6 g,V.im n RR,V.im q NN];let z0:=pt (pt T.e 0 (O.row 26 none z7)) 1 (O.row 3 none [i6 g]);let z1:=pt z0 2 (O.row 3 none [i6 n]);let z2:=pt z1 3 (O.row 3 none [i6 q]);Bn [i6 330=i6 (if(true&&true&&true&&false&&b5&&b6&&b7)=true then(0:Int)else(330:Int)),z8,FnOk Try.prog g0 54 [i6 1,i6 12,V.im 1 [i6 g]] z3,Tt,z8,FnOk Try.prog g0 54 [i6 0,i6 8,V.im 1 [i6 n]] z3,Bn [(V.fn 54 []=V.fn 54 []->z4=z5->z0=z1->0+1+1=3->CR.mk z3 z0 2 []=CR.mk z3 z1 3 [])],z8,FnOk Try.prog g0 54 [i6 1,i6 5,V.im 1 [i6 q]] z3,Bn [(V.fn 54 []=V.fn 54 []->z5=z6->z1=z2->0+1+1+1=4->CR.mk z3 z1 3 []=CR.mk z3 z2 4 []),(V.fn 54 []=V.fn 54 []->z4=z6->z0=z2->0+1+1=4->CR.mk z3 z0 2 []=CR.mk z3 z2 4 [])],Bn [TT 3],FnOk Try.prog g0 55 [V.agg z7] (V.bool false),Tt,Bn [Sm (330:Int)]]) ?_
     (repeat'(first|(with_reducible apply And.intro)|(refine fun(_:True)=>?_)))<;>first|exact aq|skip
     all_goals first|exact w1|exact w2|exact w3|exact r1|skip
    | true =>
     cases b5 with
     |false=>
      clear i1 i2 i3 r2 r3
      replace hlo:=(hlo o_).snd (fun h=>by cases h)
      refine FnOk.of_vc vE_ok mixed Qab (n:=1000) (r:=[]) (S:={sl:=[(2,i6 330)]}) (hs:=[fn 8 (.bool true),fn 15 (.bool true),fn 23 (.bool true),fn 27 (.bool true),(0,.loop [0] (ckS g n RR q NN 0) [(True,.ret,{sl:=[(2,i6 330)]})])]) ?_
      refine m_ (p:=let z9:=Bn [Tt,Tt,Bn [Tt]];let z2:=V.bool true;let z4:=[i6 g,V.im n RR,V.im q NN];let z5:=[i6 1,i6 12,V.sl 1 0 1 (some 0)];let z6:=[i6 0,i6 8,V.sl 2 0 1 (some 0)];let z7:=[i6 1,i6 5,V.sl 3 0 1 (some 0)];let z8:=(0:Int);let z0:=pt (pt T.e 0 (O.row 26 none z4)) 1 (O.row 3 none [i6 g]);let z1:=pt z0 2 (O.row 3 none [i6 n]);let z3:=pt z1 3 (O.row 3 none [i6 q]);Bn [i6 330=i6 (if(true&&true&&true&&true&&false&&b6&&b7)=true then z8 else(330:Int)),z9,FnOk Try.prog g0 54 [i6 1,i6 12,V.im 1 [i6 g]] z2,Tt,z9,FnOk Try.prog g0 54 [i6 0,i6 8,V.im 1 [i6 n]] z2,Bn [(V.fn 54 []=V.fn 54 []->z5=z6->z0=z1->0+1+1=3->CR.mk z2 z0 2 []=CR.mk z2 z1 3 [])],z9,FnOk Try.prog g0 54 [i6 1,i6 5,V.im 1 [i6 q]] z2,Bn [(V.fn 54 []=V.fn 54 []->z6=z7->z1=z3->0+1+1+1=4->CR.mk z2 z1 3 []=CR.mk z2 z3 4 []),(V.fn 54 []=V.fn 54 []->z5=z7->z0=z3->0+1+1=4->CR.mk z2 z0 2 []=CR.mk z2 z3 4 [])],Bn [TT 3],FnOk Try.prog g0 55 [V.agg z4] z2,Tt,Bn [Bn [Zz,z8=z8,An [q=q,NN=NN],Sm (q:Int),((0:Nat):Int)=z8],An [z4=z4,TT 3]],Sat Try.prog none 0 (at' 25 [1,1,1,0,1,0]) (mkSt g0 50 (ckS g n RR q NN 0)) (Qad g0 50 [(True,Ex.ret,SL.mk [(2,i6 330)] [] [] [])]),(True->Bn [Bn [Sm (330:Int)]])]) ?_
      (repeat'(first|(with_reducible apply And.intro)|(refine fun(_:True)=>?_)))<;>first|exact aq|skip
      all_goals first|exact w1|exact w2|exact w3|exact r1|exact hlo|skip
     | true =>
      replace hlo:=(hlo o_).fst (fun h=>by cases h)
      have r2:=r2 o_ o_ rfl rfl
      cases b6 with
      |false=>
       clear i1 i2 i3 r3
       refine FnOk.of_vc vE_ok mixed Qab (n:=1000) (r:=[]) (S:={sl:=[(2,i6 330)]}) (hs:=[fn 8 (.bool true),fn 15 (.bool true),fn 23 (.bool true),fn 27 (.bool true),(0,.loop [0] (ckS g n RR q NN 0) [(True,.exit 0,ckX g n RR q NN)]),fn 43 (.bool false)]) ?_
       refine m_ (p:=let z9:=Bn [Tt,Tt,Bn [Tt]];let z2:=[i6 g,V.im n RR,V.im q NN];let z3:=V.bool true;let z5:=[i6 1,i6 12,V.sl 1 0 1 (some 0)];let z6:=[i6 0,i6 8,V.sl 2 0 1 (some 0)];let z7:=[i6 1,i6 5,V.sl 3 0 1 (some 0)];let z8:=(0:Int);let z0:=pt (pt T.e 0 (O.row 26 none z2)) 1 (O.row 3 none [i6 g]);let z1:=pt z0 2 (O.row 3 none [i6 n]);let z4:=pt z1 3 (O.row 3 none [i6 q]);Bn [i6 330=i6 (if(true&&true&&true&&true&&true&&false&&b7)=true then z8 else(330:Int)),z9,FnOk Try.prog g0 54 [i6 1,i6 12,V.im 1 [i6 g]] z3,Tt,z9,FnOk Try.prog g0 54 [i6 0,i6 8,V.im 1 [i6 n]] z3,Bn [(V.fn 54 []=V.fn 54 []->z5=z6->z0=z1->0+1+1=3->CR.mk z3 z0 2 []=CR.mk z3 z1 3 [])],z9,FnOk Try.prog g0 54 [i6 1,i6 5,V.im 1 [i6 q]] z3,Bn [(V.fn 54 []=V.fn 54 []->z6=z7->z1=z4->0+1+1+1=4->CR.mk z3 z1 3 []=CR.mk z3 z4 4 []),(V.fn 54 []=V.fn 54 []->z5=z7->z0=z4->0+1+1=4->CR.mk z3 z0 2 []=CR.mk z3 z4 4 [])],Bn [TT 3],FnOk Try.prog g0 55 [V.agg z2] z3,Tt,Bn [Bn [Zz,z8=z8,An [q=q,NN=NN],Sm (q:Int),((0:Nat):Int)=z8],An [z2=z2,TT 3]],Sat Try.prog none 0 (at' 25 [1,1,1,0,1,0]) (mkSt g0 50 (ckS g n RR q NN 0)) (Qad g0 50 [(True,Ex.exit 0,ckX g n RR q NN)]),(True->Bn [Bn [TT 3],FnOk Try.prog g0 56 [V.agg z2] (V.bool false),Tt,Bn [Sm (330:Int)]])]) ?_
       (repeat'(first|(with_reducible apply And.intro)|(refine fun(_:True)=>?_)))<;>first|exact aq|skip
       all_goals first|exact w1|exact w2|exact w3|exact r1|exact r2|exact hlo|skip
      | true =>
       have r3:=r3 o_ rfl
       clear i1 i2 i3
       cases b7 with
       |false=>
        refine FnOk.of_vc vE_ok mixed Qab (n:=1000) (r:=[]) (S:={sl:=[(2,i6 330)]}) (hs:=[fn 8 (.bool true),fn 15 (.bool true),fn 23 (.bool true),fn 27 (.bool true),(0,.loop [0] (ckS g n RR q NN 0) [(True,.exit 0,ckX g n RR q NN)]),fn 43 (.bool true),fn 47 (.bool false)]) ?_
        refine m_ (p:=let y1:=Bn [Tt,Tt,Bn [Tt]];let y2:=Bn [TT 3];let z2:=[i6 g,V.im n RR,V.im q NN];let z3:=V.bool true;let z5:=ofOs T.e 0 [moO g n RR q NN];let z6:=[i6 1,i6 12,V.sl 1 0 1 (some 0)];let z8:=[i6 0,i6 8,V.sl 2 0 1 (some 0)];let z9:=[i6 1,i6 5,V.sl 3 0 1 (some 0)];let y0:=(0:Int);let z0:=pt (pt T.e 0 (O.row 26 none z2)) 1 (O.row 3 none [i6 g]);let z7:=[V.agg z2];let z1:=pt z0 2 (O.row 3 none [i6 n]);let z4:=pt z1 3 (O.row 3 none [i6 q]);Bn [i6 330=i6 (if(true&&true&&true&&true&&true&&true&&false)=true then y0 else(330:Int)),y1,FnOk Try.prog g0 54 [i6 1,i6 12,V.im 1 [i6 g]] z3,Tt,y1,FnOk Try.prog g0 54 [i6 0,i6 8,V.im 1 [i6 n]] z3,Bn [(V.fn 54 []=V.fn 54 []->z6=z8->z0=z1->0+1+1=3->CR.mk z3 z0 2 []=CR.mk z3 z1 3 [])],y1,FnOk Try.prog g0 54 [i6 1,i6 5,V.im 1 [i6 q]] z3,Bn [(V.fn 54 []=V.fn 54 []->z8=z9->z1=z4->0+1+1+1=4->CR.mk z3 z1 3 []=CR.mk z3 z4 4 []),(V.fn 54 []=V.fn 54 []->z6=z9->z0=z4->0+1+1=4->CR.mk z3 z0 2 []=CR.mk z3 z4 4 [])],y2,FnOk Try.prog g0 55 z7 z3,Tt,Bn [Bn [Zz,y0=y0,An [q=q,NN=NN],Sm (q:Int),((0:Nat):Int)=y0],An [z2=z2,TT 3]],Sat Try.prog none 0 (at' 25 [1,1,1,0,1,0]) (mkSt g0 50 (ckS g n RR q NN 0)) (Qad g0 50 [(True,Ex.exit 0,ckX g n RR q NN)]),(True->Bn [y2,FnOk Try.prog g0 56 z7 z3,Tt,y2,FnOk Try.prog g0 57 z7 (V.bool false),Bn [(V.fn 56 []=V.fn 57 []->z7=z7->z5=z5->1=1->CR.mk z3 z5 1 []=CR.mk (V.bool false) z5 1 [])],Bn [Sm (330:Int)]])]) ?_
        (repeat'(first|(with_reducible apply And.intro)|(refine fun(_:True)=>?_)))<;>first|exact aq|skip
        all_goals first|exact w1|exact w2|exact w3|exact r1|exact r2|exact r3|exact hlo|skip
       |true=>
        refine FnOk.of_vc vE_ok mixed Qab (n:=1000) (r:=[]) (S:={sl:=[(2,i6 0)]}) (hs:=[fn 8 (.bool true),fn 15 (.bool true),fn 23 (.bool true),fn 27 (.bool true),(0,.loop [0] (ckS g n RR q NN 0) [(True,.exit 0,ckX g n RR q NN)]),fn 43 (.bool true),fn 47 (.bool true)]) ?_
        refine m_ (p:=let y1:=Bn [Tt,Tt,Bn [Tt]];let y2:=Bn [TT 3];let z2:=[i6 g,V.im n RR,V.im q NN];let z3:=V.bool true;let z5:=ofOs T.e 0 [moO g n RR q NN];let z6:=(0:Int);let z7:=[i6 1,i6 12,V.sl 1 0 1 (some 0)];let z9:=[i6 0,i6 8,V.sl 2 0 1 (some 0)];let y0:=[i6 1,i6 5,V.sl 3 0 1 (some 0)];let z0:=pt (pt T.e 0 (O.row 26 none z2)) 1 (O.row 3 none [i6 g]);let z8:=[V.agg z2];let z1:=pt z0 2 (O.row 3 none [i6 n]);let z4:=pt z1 3 (O.row 3 none [i6 q]);Bn [i6 0=i6 (if(true&&true&&true&&true&&true&&true&&true)=true then z6 else(330:Int)),y1,FnOk Try.prog g0 54 [i6 1,i6 12,V.im 1 [i6 g]] z3,Tt,y1,FnOk Try.prog g0 54 [i6 0,i6 8,V.im 1 [i6 n]] z3,Bn [(V.fn 54 []=V.fn 54 []->z7=z9->z0=z1->0+1+1=3->CR.mk z3 z0 2 []=CR.mk z3 z1 3 [])],y1,FnOk Try.prog g0 54 [i6 1,i6 5,V.im 1 [i6 q]] z3,Bn [(V.fn 54 []=V.fn 54 []->z9=y0->z1=z4->0+1+1+1=4->CR.mk z3 z1 3 []=CR.mk z3 z4 4 []),(V.fn 54 []=V.fn 54 []->z7=y0->z0=z4->0+1+1=4->CR.mk z3 z0 2 []=CR.mk z3 z4 4 [])],y2,FnOk Try.prog g0 55 z8 z3,Tt,Bn [Bn [Zz,z6=z6,An [q=q,NN=NN],Sm (q:Int),((0:Nat):Int)=z6],An [z2=z2,TT 3]],Sat Try.prog none 0 (at' 25 [1,1,1,0,1,0]) (mkSt g0 50 (ckS g n RR q NN 0)) (Qad g0 50 [(True,Ex.exit 0,ckX g n RR q NN)]),(True->Bn [y2,FnOk Try.prog g0 56 z8 z3,Tt,y2,FnOk Try.prog g0 57 z8 z3,Bn [(V.fn 56 []=V.fn 57 []->z8=z8->z5=z5->1=1->Sm (CR.mk z3 z5 1 []))],Bn [z6=z6]])]) ?_
        (repeat'(first|(with_reducible apply And.intro)|(refine fun(_:True)=>?_)))<;>first|exact aq|skip
        all_goals first|exact w1|exact w2|exact w3|exact r1|exact r2|exact r3|exact hlo|skip
def setA(N:List Mc)(L:List Int):Bool:=(List.range N.length).all fun k=>inB (-1) ((N.getD k mc0).c-1) [L.getD k 0]
def setB(N:List Mc)(L:List Int):Bool:=decide (L.length=N.length)&&setA N L
theorem Qj3{N:List Mc}{L:List Int}:setA N L=true↔∀k,k<N.length->inB (-1) ((N.getD k mc0).c-1) [L.getD k 0]=true:=by
 unfold setA
 rw[List.all_eq_true]
 simp only[List.mem_range]
theorem Qge{N:List Mc}{L:List Int}:setB N L=true↔L.length=N.length/\∀k,k<N.length-> -1<=L.getD k 0/\L.getD k 0<=(N.getD k mc0).c-1:=by
 unfold setB
 rw[Bool.and_eq_true,decide_eq_true_eq,Qj3]
 constructor
 ·intro ⟨h1, h2⟩
  exact⟨h1,fun k hk=>Qbf.1 (h2 k hk) 0 Nat.zero_lt_one⟩
 ·intro ⟨h1, h2⟩
  refine⟨h1,fun k hk=>Qbf.2 fun i hi=>?_⟩
  have:i=0:=by simp at hi;exact hi
  subst this
  exact h2 k hk
abbrev knO(g:Int)(n:Nat)(R:List V)(q:Nat)(N:List V)(w:Nat):O:=.row 106 none [i6 g,.im n R,.im q N,i6 (w:Nat)]
abbrev kn0:O:=.row 106 none [i6 0,.nils,.nils,i6 0]
abbrev rdR:SL:={sl:=[(4,.ptr 0 0),(5,i6 2)],os:=[kn0]}
abbrev rdI(g:Int)(n:Nat)(R:List V)(q:Nat)(N:List V)(m:Nat)(S:List V)(j:Nat)(L:List Int)(k:Nat):SL:={sl:=[(2,.ptr 0 0),(4,.ptr 1 0),(5,i6 0),(20,.im m S),(21,i6 (m:Nat)),(22,i6 (j:Nat)),(33,sl L),(34,i6 (L.length:Nat)),(35,i6 (k:Nat))],os:=[moO g n R q N,kn0]}
abbrev rdU(g:Int)(n:Nat)(R:List V)(q:Nat)(N:List V)(m:Nat)(S:List V)(j:Nat):SL:={sl:=[(2,.ptr 0 0),(4,.ptr 1 0),(5,i6 0),(20,.im m S),(21,i6 (m:Nat)),(22,i6 (j:Nat))],os:=[moO g n R q N,kn0]}
abbrev rdX(g:Int)(n:Nat)(R:List V)(q:Nat)(N:List V):SL:={sl:=[(2,.ptr 0 0),(4,.ptr 1 0),(5,i6 0)],os:=[moO g n R q N,kn0]}
section
variable (g:Int) (R:List (List Int)) (N:List Mc) (hq:N.length<=5) (hc: ∀k,k<N.length->1<=(N.getD k mc0).c/\(N.getD k mc0).c<=4)
include hq hc
theorem rd_in(m:Nat)(S:List V)(hS:HfL S)(j:Nat)(hj:j<m)(hm:m<=1000000)(L:List Int)(hL:L.length=N.length):Sat Pg none 0 (at' 42 [1,1,0,1,0,0,1,1,0,0,1,1,1,0]) (mkSt g0 71 (rdI g R.length (rtL R) N.length (mcL N) m S j L 0)) (Qad g0 71 [(setA N L=true,.exit 2,rdU g R.length (rtL R) N.length (mcL N) m S j),(setA N L=false,.ret,rdR)]):=by
 have hRR:=Qah R
 have hNN:=Qaj N
 have hLL:=Qaa L
 refine Qav vE_ok mixed Qab (b:=at' 42 [1,1,0,1,0,0,1,1,0,0,1,1,1,0,0]) k_ (fun k=>k<=L.length/\∀i,i<k->inB (-1) ((N.getD i mc0).c-1) [L.getD i 0]=true) (rdI g R.length (rtL R) N.length (mcL N) m S j L) (fun k=>L.length-k) (fun k hk=>?_) 0 ⟨Nat.zero_le _,fun i h=>absurd h (Nat.not_lt_zero _)⟩
 obtain⟨hk,hin⟩:=hk
 by_cases hlt:k<L.length
 ·have hld := Qag hlt
  have hld2:=Qeu (N:=N) (k:=k) o_
  have w1:=Qbz (-1) ((N.getD k mc0).c-1) [L.getD k 0] (by simp)
  have hck:=hc k o_
  have bad:inB (-1) ((N.getD k mc0).c-1) [L.getD k 0]=false->setA N L=false:=fun h=>by
   cases hb:setA N L with
   |false=>rfl
   |true=>rw[Qj3.1 hb k o_]at h;cases h
  have jn:inB (-1) ((N.getD k mc0).c-1) [L.getD k 0]=true->∀i,i<k+1->inB (-1) ((N.getD i mc0).c-1) [L.getD i 0]=true:=fun h i hi=>by
   by_cases hik:i=k
   ·subst hik;exact h
   ·exact hin i o_
  generalize N.getD k mc0=x at*
  obtain⟨c,fr,nz,ou⟩:=x
  dsimp only at*
  generalize L.getD k 0=y at*
  cases b:inB (-1) (c-1) [y]with
  |true=>
   rw[b]at w1
   have hg:=jn b
   refine .inl ⟨k+1,[0,1],[yes 36,pl 38,ld 39 (i6 y),pl 43,ld 45 (i6 c),nu 46 (c-1),fn 49 (.bool true),nu 52 ((k+1:Nat):Int)],1000,⟨hlt,hg⟩,by omega,?_⟩
   clear hin bad jn hg hc
   generalize mcL N=NN at*
   generalize rtL R=RR at*
   refine m_ (p:=let z0:=(L.length:Int);let z1:=(k:Int);let z2:=[i6 g,V.im R.length RR,V.im N.length NN];let z3:=(↑(k+1):Int);let z4:=[i6 0,V.nils,V.nils,i6 0];let z5:=(0:Int);let z6:=(1:Int);Bn [decide (z1<z0)=true,An [z5<=z1,z1<z0],headF (List.drop (k*1) (ints L))=some (i6 y),An [z5<=z1,z1<(N.length:Int)],headF (List.drop 0 (List.drop (k*4) NN))=some (i6 c),wr .i64 (c-z6)=c-z6,Bn [Tt,Tt,Bn [Tt]],FnOk Try.prog g0 54 [i6 (-1),i6 (c-z6),V.im 1 [i6 y]] (V.bool true),Tt,wr .i64 (z1+z6)=z3,Bn [Zz,Zz,z5=z5,An [m=m,S=S],Sm (m:Int),Sm (j:Int),An [Sm L.length,Sm (ints L)],z0=z0,z3=z3],An [z2=z2,TT 3],An [z4=z4,TT 4]]) ?_
   (repeat'(first|(with_reducible apply And.intro)|(refine fun(_:True)=>?_)))<;>first|exact aq|skip
   all_goals first|exact w1|exact hld2|skip
  |false=>
   rw[b]at w1
   have hf:=bad b
   refine .inr ⟨.ret,[1],rdR,[yes 36,pl 38,ld 39 (i6 y),pl 43,ld 45 (i6 c),nu 46 (c-1),fn 49 (.bool false)],1000,.inr (.inl ⟨hf,rfl,rfl⟩),?_⟩
   clear hin bad jn hf hc
   generalize mcL N=NN at*
   generalize rtL R=RR at*
   refine m_ (p:=let z0:=(k:Int);let z1:=[i6 0,V.nils,V.nils,i6 0];Bn [decide (z0<(L.length:Int))=true,An [(0:Int)<=z0,z0<(L.length:Int)],headF (List.drop (k*1) (ints L))=some (i6 y),An [(0:Int)<=z0,z0<(N.length:Int)],headF (List.drop 0 (List.drop (k*4) NN))=some (i6 c),wr .i64 (c-1)=c-1,Bn [Tt,Tt,Bn [Tt]],FnOk Try.prog g0 54 [i6 (-1),i6 (c-1),V.im 1 [i6 y]] (V.bool false),Tt,Bn [Zz,Sm (2:Int)],An [z1=z1,TT 4]]) ?_
   (repeat'(first|(with_reducible apply And.intro)|(refine fun(_:True)=>?_)))<;>first|exact aq|skip
   all_goals first|exact w1|exact hld2|skip
 ·have hk2 : k = L.length := by omega
  have jx:setA N L=true:=Qj3.2 fun i hi=>hin i o_
  subst hk2
  refine .inr ⟨.exit 2,[0,1],rdU g R.length (rtL R) N.length (mcL N) m S j,[no 36],1000,.inl ⟨jx,rfl,rfl⟩,?_⟩
  clear hin jx hc
  generalize mcL N=NN at*
  generalize rtL R=RR at*
  refine m_ (p:=Bn [decide ((L.length:Int)<(L.length:Int))=false,Bn [Zz,Zz,Sm (0:Int),An [m=m,S=S],Sm (m:Int),Sm (j:Int)],An [Sm [i6 g,V.im R.length RR,V.im N.length NN],TT 3],An [Sm [i6 0,V.nils,V.nils,i6 0],TT 4]]) ?_
  (repeat'(first|(with_reducible apply And.intro)|(refine fun(_:True)=>?_)))<;>first|exact aq|skip
  all_goals skip
theorem rd_out(S:List (List Int))(hm:S.length<=1000000)(h6: ∀L∈S,L.length<=1000000):Sat Pg none 0 (at' 42 [1,1,0,1,0]) (mkSt g0 71 (rdU g R.length (rtL R) N.length (mcL N) S.length (rtL S) 0)) (Qad g0 71 [(S.all (setB N)=true,.exit 0,rdX g R.length (rtL R) N.length (mcL N)),(S.all (setB N)=false,.ret,rdR)]):=by
 have hRR:=Qah R
 have hNN:=Qaj N
 have hSS:=Qah S
 refine Qav vE_ok mixed Qab (b:=at' 42 [1,1,0,1,0,0]) k_ (fun k=>k<=S.length/\∀i,i<k->setB N (S.getD i [])=true) (rdU g R.length (rtL R) N.length (mcL N) S.length (rtL S)) (fun k=>S.length-k) (fun k hk=>?_) 0 ⟨Nat.zero_le _,fun i h=>absurd h (Nat.not_lt_zero _)⟩
 obtain⟨hk,hin⟩:=hk
 by_cases hlt:k<S.length
 ·have hld := Qff hlt
  have jb:S.getD k []∈S:=Ql4 hlt
  have h6k:=h6 _ jb
  have bad:setB N (S.getD k [])=false->S.all (setB N)=false:=fun h=>by
   cases hb:S.all (setB N)with
   |false=>rfl
   |true=>rw[List.all_eq_true.1 hb _ jb]at h;cases h
  have jn:setB N (S.getD k [])=true->∀i,i<k+1->setB N (S.getD i [])=true:=fun h i hi=>by
   by_cases hik:i=k
   ·subst hik;exact h
   ·exact hin i o_
  have hlo:=fun h=>rd_in g R N hq hc S.length (rtL S) hSS k hlt hm (S.getD k []) h
  generalize S.getD k []=L at*
  have hLL:=Qaa L
  have eL:setB N L=(decide (L.length=N.length)&&setA N L):=rfl
  by_cases jr:L.length=N.length
  ·rw [decide_eq_true jr, Bool.true_and] at eL
   replace hlo:=hlo jr
   rw[<-eL]at hlo
   cases b:setB N L with
   |true=>
    rw[b]at hlo
    replace hlo:=hlo.fst (fun h=>by cases h)
    have hg:=jn b
    refine .inl ⟨k+1,[0,1],[yes 23,pl 24,ld 25 (sl L),no 31,(0,.loop [0,1] (rdI g R.length (rtL R) N.length (mcL N) S.length (rtL S) k L 0) [(True,.exit 2,rdU g R.length (rtL R) N.length (mcL N) S.length (rtL S) k)]),nu 53 ((k+1:Nat):Int)],1000,⟨hlt,hg⟩,by omega,?_⟩
    clear hin bad jn hg hc eL jb h6
    generalize mcL N=NN at*
    generalize rtL R=RR at*
    generalize rtL S=SS at*
    refine m_ (p:=let z0:=[i6 g,V.im R.length RR,V.im N.length NN];let z1:=(S.length:Int);let z2:=[i6 0,V.nils,V.nils,i6 0];let z3:=(k:Int);let z4:=(0:Int);let z5:=(L.length:Int);let z6:=(↑(k+1):Int);Bn [decide (z3<z1)=true,An [z4<=z3,z3<z1],headF (List.drop (k*1) SS)=some (sl L),(z5 != (N.length:Int))=false,Bn [Bn [Zz,Zz,z4=z4,An [Sm S.length,SS=SS],z1=z1,z3=z3,An [Sm L.length,Sm (ints L)],z5=z5,((0:Nat):Int)=z4],An [z0=z0,TT 3],An [z2=z2,TT 4]],Sat Try.prog none 0 (at' 42 [1,1,0,1,0,0,1,1,0,0,1,1,1,0]) (mkSt g0 71 (rdI g R.length RR N.length NN S.length SS k L 0)) (Qad g0 71 [(True,Ex.exit 2,rdU g R.length RR N.length NN S.length SS k)]),(True->Bn [wr .i64 (z3+1)=z6,Bn [Zz,Zz,z4=z4,An [Sm S.length,SS=SS],z1=z1,z6=z6],An [z0=z0,TT 3],An [z2=z2,TT 4]])]) ?_
    (repeat'(first|(with_reducible apply And.intro)|(refine fun(_:True)=>?_)))<;>first|exact aq|skip
    all_goals first|exact hlo|skip
   |false=>
    rw[b]at hlo
    replace hlo:=hlo.snd (fun h=>by cases h)
    have hf:=bad b
    refine .inr ⟨.ret,[0],rdR,[yes 23,pl 24,ld 25 (sl L),no 31,(0,.loop [0,1] (rdI g R.length (rtL R) N.length (mcL N) S.length (rtL S) k L 0) [(True,.ret,rdR)])],1000,.inr (.inl ⟨hf,rfl,rfl⟩),?_⟩
    clear hin bad jn hf hc eL jb h6
    generalize mcL N=NN at*
    generalize rtL R=RR at*
    generalize rtL S=SS at*
    refine m_ (p:=let z0:=[i6 0,V.nils,V.nils,i6 0];let z1:=(S.length:Int);let z2:=(k:Int);let z3:=[i6 g,V.im R.length RR,V.im N.length NN];let z4:=(L.length:Int);let z5:=(0:Int);Bn [decide (z2<z1)=true,An [z5<=z2,z2<z1],headF (List.drop (k*1) SS)=some (sl L),(z4 != (N.length:Int))=false,Bn [Bn [Zz,Zz,z5=z5,An [Sm S.length,SS=SS],z1=z1,z2=z2,An [Sm L.length,Sm (ints L)],z4=z4,((0:Nat):Int)=z5],An [z3=z3,TT 3],An [z0=z0,TT 4]],Sat Try.prog none 0 (at' 42 [1,1,0,1,0,0,1,1,0,0,1,1,1,0]) (mkSt g0 71 (rdI g R.length RR N.length NN S.length SS k L 0)) (Qad g0 71 [(True,Ex.ret,rdR)]),(True->Bn [Bn [Zz,Sm (2:Int)],An [z0=z0,TT 4]])]) ?_
    (repeat'(first|(with_reducible apply And.intro)|(refine fun(_:True)=>?_)))<;>first|exact aq|skip
    all_goals first|exact hlo|skip
  ·have hf := bad (by rw [eL, decide_eq_false jr]; rfl)
   refine .inr ⟨.ret,[1],rdR,[yes 23,pl 24,ld 25 (sl L),yes 31],1000,.inr (.inl ⟨hf,rfl,rfl⟩),?_⟩
   clear hin bad jn hf hc eL jb h6 hlo
   generalize mcL N=NN at*
   generalize rtL R=RR at*
   generalize rtL S=SS at*
   refine m_ (p:=let z0:=(k:Int);Bn [decide (z0<(S.length:Int))=true,An [(0:Int)<=z0,z0<(S.length:Int)],headF (List.drop (k*1) SS)=some (sl L),((L.length:Int) != (N.length:Int))=true,Bn [Zz,Sm (2:Int)],An [Sm [i6 0,V.nils,V.nils,i6 0],TT 4]]) ?_
   (repeat'(first|(with_reducible apply And.intro)|(refine fun(_:True)=>?_)))<;>first|exact aq|skip
   all_goals skip
 ·have hk2 : k = S.length := by omega
  have jx:S.all (setB N)=true:=List.all_eq_true.2 fun L hL=>by
   obtain⟨i,hi,e⟩:=memDG (d:=[]) hL
   rw[<-e];exact hin i o_
  subst hk2
  refine .inr ⟨.exit 0,[0,1],rdX g R.length (rtL R) N.length (mcL N),[no 23],1000,.inl ⟨jx,rfl,rfl⟩,?_⟩
  clear hin jx hc h6
  generalize mcL N=NN at*
  generalize rtL R=RR at*
  generalize rtL S=SS at*
  refine m_ (p:=Bn [decide ((S.length:Int)<(S.length:Int))=false,Bn [Zz,Zz,Sm (0:Int)],An [Sm [i6 g,V.im R.length RR,V.im N.length NN],TT 3],An [Sm [i6 0,V.nils,V.nils,i6 0],TT 4]]) ?_
  (repeat'(first|(with_reducible apply And.intro)|(refine fun(_:True)=>?_)))<;>first|exact aq|skip
  all_goals skip
end
abbrev rdW(g:Int)(n:Nat)(R:List V)(q:Nat)(N:List V)(k:Nat)(w:Nat):SL:={sl:=[(4,.ptr 0 0),(5,i6 0),(11,.ptr 1 0),(57,.im n R),(58,i6 (n:Nat)),(59,i6 (k:Nat))],os:=[kn0,knO g n R q N w]}
theorem rd_w(g:Int)(R:List (List Int))(q:Nat)(N:List V)(hN:HfL N)(hn:R.length<=8)(hR: ∀k,k<R.length->1<=(R.getD k []).length/\(R.getD k []).length<=4):Sat Pg none 0 (at' 42 [1,1,1,1,0,1,0]) (mkSt g0 71 (rdW g R.length (rtL R) q N 0 1)) (Qad g0 71 [(True,.exit 4,rdW g R.length (rtL R) q N R.length (prK R R.length))]):=by
 have hRR:=Qah R
 refine Qav vE_ok mixed Qab (b:=at' 42 [1,1,1,1,0,1,0,0]) k_ (fun k=>k<=R.length) (fun k=>rdW g R.length (rtL R) q N k (prK R k)) (fun k=>R.length-k) (fun k hk=>?_) 0 (Nat.zero_le _)
 by_cases hlt:k<R.length
 ·have hld := Qff hlt
  have hb:=Qml R hR k hk
  have hb2:=Qml R hR (k+1) hlt
  have h4:4^(k+1)<=4^8:=Nat.pow_le_pow_right d_ o_
  have h48:4^8=65536:=rfl
  have e1:((prK R (k+1):Nat):Int)=(prK R k:Nat)*((R.getD k []).length:Nat):=Int.natCast_mul _ _
  generalize R.getD k []=L at*
  generalize hp1e:prK R (k+1)=p1 at*
  generalize prK R k=p0 at*
  have hLL:=Qaa L
  refine .inl ⟨k+1,[0,1],[yes 60,pl 61,ld 62 (sl L),nu 67 (p1:Nat),nu 69 ((k+1:Nat):Int)],1000,hlt,by omega,?_⟩
  clear hR
  generalize rtL R=RR at*
  refine m_ (p:=let z0:=(R.length:Int);let z1:=(↑(k+1):Int);let z2:=(k:Int);let z3:=[i6 0,V.nils,V.nils,i6 0];Bn [decide (z2<z0)=true,An [(0:Int)<=z2,z2<z0],headF (List.drop (k*1) RR)=some (sl L),wr .i64 ((p0:Int)*(L.length:Int))=(p1:Int),wr .i64 (z2+1)=z1,Bn [Zz,Sm (0:Int),Zz,An [Sm R.length,RR=RR],z0=z0,z1=z1],An [z3=z3,TT 4],An [[i6 g,V.im R.length RR,V.im q N,i6 (↑(prK R (k+1)):Int)]=[i6 g,V.im R.length RR,V.im q N,i6 p1],TT 4]]) ?_
  (repeat'(first|(with_reducible apply And.intro)|(refine fun(_:True)=>?_)))<;>first|exact aq|skip
  all_goals first|(rw[hp1e];done)|(rw[<-e1,wr6 o_ o_];done)|skip
 ·have hk2 : k = R.length := by omega
  subst hk2
  generalize prK R R.length=p at*
  refine .inr ⟨.exit 4,[0,1],rdW g R.length (rtL R) q N R.length p,[no 60],1000,.inl ⟨trivial,rfl,rfl⟩,?_⟩
  clear hR
  generalize rtL R=RR at*
  refine m_ (p:=let z0:=(R.length:Int);let z1:=[i6 g,V.im R.length RR,V.im q N,i6 p];let z2:=[i6 0,V.nils,V.nils,i6 0];Bn [decide (z0<z0)=false,Bn [Zz,Sm (0:Int),Zz,An [Sm R.length,RR=RR],z0=z0,z0=z0],An [z2=z2,TT 4],An [z1=z1,TT 4]]) ?_
  (repeat'(first|(with_reducible apply And.intro)|(refine fun(_:True)=>?_)))<;>first|exact aq|skip
  all_goals skip
abbrev knV(g:Int)(R:List (List Int))(N:List Mc):V:=.agg [i6 g,.im R.length (rtL R),.im N.length (mcL N),i6 (prK R R.length:Nat)]
theorem tread_fn(g:Int)(R:List (List Int))(N:List Mc)(hl:Qbd R N)(h:chkB g R N=true)(S:List (List Int))(hm:S.length<=1000000)(h6: ∀L∈S,L.length<=1000000)(hS:S.all (setB N)=true):FnOk Pg g0 42 [mdV g R N,.im S.length (rtL S)] (.tup [knV g R N,i6 0]):=by
 have hRR:=Qah R
 have hNN:=Qaj N
 have hSS:=Qah S
 have w:=Qas g R N hl
 rw[h,if_pos rfl]at w
 have hM:=Qb4 h
 have hlo:=(rd_out g R N hM.q1.2 hM.cd S hm h6).fst (fun h=>by rw[hS]at h;cases h)
 have hlw:=rd_w g R N.length (mcL N) hNN hM.n1 (Qoo hM.rt)
 unfold mdV knV at*
 generalize prK R R.length=p at*
 refine FnOk.of_vc vE_ok mixed Qab (n:=1000) (r:=[0]) (S:={sl:=[(4,.ptr 0 0),(5,i6 0)],os:=[knO g R.length (rtL R) N.length (mcL N) p]}) (hs:=[fn 15 (i6 0),(0,.loop [0,1] (rdU g R.length (rtL R) N.length (mcL N) S.length (rtL S) 0) [(True,.exit 0,rdX g R.length (rtL R) N.length (mcL N))]),(0,.loop [1,2] (rdW g R.length (rtL R) N.length (mcL N) 0 1) [(True,.exit 4,rdW g R.length (rtL R) N.length (mcL N) R.length p)])]) ?_
 clear hl h6 hS hM h
 generalize mcL N=NN at*
 generalize rtL R=RR at*
 generalize rtL S=SS at*
 refine m_ (p:=let z2:=[i6 0,V.nils,V.nils,i6 0];let z3:=(0:Int);let z4:=V.im R.length RR;let z5:=V.im N.length NN;let z0:=[i6 g,z4,z5,i6 p];let z1:=[i6 g,z4,z5];let z6:=V.tup [V.agg z0,i6 0];Bn [z6=z6,Bn [TT 3],FnOk Try.prog g0 25 [V.agg z1] (i6 0),Tt,Bn [Bn [Zz,Zz,z3=z3,An [Sm S.length,SS=SS],Sm (S.length:Int),((0:Nat):Int)=z3],An [z1=z1,TT 3],An [z2=z2,TT 4]],Sat Try.prog none 0 (at' 42 [1,1,0,1,0]) (mkSt g0 71 (rdU g R.length RR N.length NN S.length SS 0)) (Qad g0 71 [(True,Ex.exit 0,rdX g R.length RR N.length NN)]),(True->Bn [Bn [Bn [Zz,z3=z3,Zz,An [Sm R.length,RR=RR],Sm (R.length:Int),((0:Nat):Int)=z3],An [z2=z2,TT 4],An [[i6 g,z4,z5,i6 ↑(1:Nat)]=[i6 g,z4,z5,i6 1],TT 4]],Sat Try.prog none 0 (at' 42 [1,1,1,1,0,1,0]) (mkSt g0 71 (rdW g R.length RR N.length NN 0 1)) (Qad g0 71 [(True,Ex.exit 4,rdW g R.length RR N.length NN R.length p)]),(True->Bn [Bn [Zz,z3=z3],An [z0=z0,TT 4]])])]) ?_
 (repeat'(first|(with_reducible apply And.intro)|(refine fun(_:True)=>?_)))<;>first|exact aq|skip
 all_goals first|exact w|exact hlo|exact hlw|skip
set_option maxHeartbeats 1000000
def evI(N:List Mc)(f:Nat->Int)(L:List Int):Nat->Int
 |0=>0
 |k+1=>evI N f L k*(N.getD (L.getD k 0).toNat mc0).c+f (L.getD k 0).toNat
def evJ(R:List (List Int))(u:List Int)(a:Int)(L:List Int):Nat->Int
 |0=>a
 |k+1=>evJ R u a L k*((R.getD (L.getD k 0).toNat []).length:Nat)+u.getD (L.getD k 0).toNat 0
def nodV(N:List Mc)(R:List (List Int))(u:List Int)(f:Nat->Int)(x:Mc):Int:=
 x.ou.getD (evJ R u (evI N f x.fr x.fr.length) x.no x.no.length).toNat 0
def solF(N:List Mc)(R:List (List Int))(s u:List Int):Nat->Nat->Int
 |0,_=>0
 |m+1,i=>if 0<=s.getD i 0 then s.getD i 0 else nodV N R u (solF N R s u m) (N.getD i mc0)
def sol(N:List Mc)(R:List (List Int))(s u:List Int)(i:Nat):Int:=solF N R s u 26 i
def goF(N:List Mc)(f:Nat->Int):Nat->Nat->List Int->List Int
 |0,_,w=>w
 |m+1,i,w=>if 0<=w.getD i 0 then w else((N.getD i mc0).fr.foldl (fun w j=>goF N f m j.toNat w) w).set i (f i)
def RkOk(N:List Mc)(rk:Nat->Nat):Prop:=∀i,i<N.length->rk i<=25/\∀k,k<(N.getD i mc0).fr.length->rk ((N.getD i mc0).fr.getD k 0).toNat<rk i
def acQ(N:List Mc):Nat->Nat
 |0=>0
 |t+1=>acT N (acQ N t) (t%N.length)
theorem acI_q{N:List Mc}{r:Nat}: ∀i,i<=N.length->acI N (acQ N (r*N.length)) i=acQ N (r*N.length+i)
 |0,_=>rfl
 |i+1,h=>by
  show acT N (acI N (acQ N (r*N.length)) i) i=acT N (acQ N (r*N.length+i)) ((r*N.length+i)%N.length)
  rw[acI_q i o_,Nat.add_comm (r*N.length) i,Nat.add_mul_mod_self_right,Nat.mod_eq_of_lt o_]
theorem acO_q{N:List Mc}: ∀r,acO N r=acQ N (r*N.length)
 |0=>by rw[Nat.zero_mul];rfl
 |r+1=>by
  show acI N (acO N r) N.length=_
  rw[acO_q r,acI_q _ (Nat.le_refl _),Nat.succ_mul]
theorem Qoq{L:List Int}{b:Nat}: ∀k,k<=L.length->((setI L k).testBit b=true↔∃j,j<k/\(L.getD j 0).toNat=b)
 |0,_=>by simp[setI]
 | k + 1, h => by
  unfold setI
  rw[Nat.testBit_or,Bool.or_eq_true,Qoq k o_,Nat.testBit_two_pow,decide_eq_true_eq]
  constructor
  ·rintro (⟨j, h1, h2⟩ | h1)
   ·exact⟨j,by omega,h2⟩
   ·exact⟨k,by omega,h1⟩
  ·rintro ⟨j, h1, h2⟩
   by_cases hj:j=k
   ·subst hj;exact .inr h2
   ·exact .inl ⟨j,by omega,h2⟩
theorem acQ_lt{N:List Mc}(hq:1<=N.length/\N.length<=5): ∀t,acQ N t<18446744073709551616
 |0=>by show 0< _;omega
 |t+1=>acT_lt (acQ_lt hq t) (by have:=Nat.mod_lt t (show 0<N.length by omega);omega)
theorem rk_t{N:List Mc}(hq:1<=N.length/\N.length<=5)(hf: ∀k,k<N.length->Qba (N.getD k mc0).fr N.length/\(N.getD k mc0).fr.length<=5): ∀t,∃rk:Nat->Nat,∀i,(acQ N t).testBit i=true->rk i<t/\∀k,k<(N.getD i mc0).fr.length->(acQ N t).testBit ((N.getD i mc0).fr.getD k 0).toNat=true/\rk ((N.getD i mc0).fr.getD k 0).toNat<rk i
 |0=>⟨fun _=>0,fun i h=>by simp[acQ]at h⟩
 | t + 1 => by
  obtain⟨rk,h⟩:=rk_t hq hf t
  have hi:=Nat.mod_lt t (show 0<N.length by omega)
  have hd:=acQ_lt hq t
  have e:acQ N (t+1)=acT N (acQ N t) (t%N.length):=rfl
  rw[e]
  generalize t%N.length=i at*
  unfold acT
  by_cases h0:mi (setI (N.getD i mc0).fr (N.getD i mc0).fr.length) (acQ N t)=0
  ·rw [if_pos h0]
   by_cases hin:(acQ N t).testBit i=true
   ·have e2 : acQ N t ||| 2 ^ i = acQ N t := by
     apply Nat.eq_of_testBit_eq
     intro b
     rw[Nat.testBit_or,Nat.testBit_two_pow]
     by_cases hb:i=b
     ·subst hb;rw[hin];rfl
     ·simp[hb]
    rw[e2]
    refine⟨rk,fun j hj=>?_⟩
    obtain⟨h1,h2⟩:=h j hj
    exact⟨by omega,h2⟩
   ·have xn : ∀ b, (acQ N t ||| 2 ^ i).testBit b = true ↔ ((acQ N t).testBit b = true \/ i = b) := fun b => by
     rw[Nat.testBit_or,Nat.testBit_two_pow,Bool.or_eq_true,decide_eq_true_eq]
    have hfr: ∀k,k<(N.getD i mc0).fr.length->(acQ N t).testBit ((N.getD i mc0).fr.getD k 0).toNat=true:=fun k hk=>by
     have hb:(setI (N.getD i mc0).fr (N.getD i mc0).fr.length).testBit ((N.getD i mc0).fr.getD k 0).toNat=true:=(Qoq _ (Nat.le_refl _)).2 ⟨k,hk,rfl⟩
     have hs:=Qfp (L:=(N.getD i mc0).fr) (fun k hk=>by have:=(hf i hi).1 k hk;omega) _ (Nat.le_refl _)
     have:=congrArg (fun z=>z.testBit ((N.getD i mc0).fr.getD k 0).toNat) h0
     simp only[Nat.zero_testBit]at this
     rw[Qhd hs hd,hb,Bool.true_and,Bool.not_eq_false']at this
     exact this
    refine⟨fun x=>if x=i then t else rk x,fun j hj=>?_⟩
    dsimp only
    have hne: ∀b,(acQ N t).testBit b=true->b≠i:=fun b hb e=>hin (e▸hb)
    rcases(xn j).1 hj with hj|rfl
    ·obtain ⟨h1, h2⟩ := h j hj
     rw[if_neg (hne j hj)]
     refine⟨by omega,fun k hk=>?_⟩
     obtain⟨a,b⟩:=h2 k hk
     rw[if_neg (hne _ a)]
     exact⟨(xn _).2 (.inl a),b⟩
    ·rw [if_pos rfl]
     refine⟨by omega,fun k hk=>?_⟩
     have a:=hfr k hk
     rw[if_neg (hne _ a)]
     exact⟨(xn _).2 (.inl a),(h _ a).1⟩
  ·rw [if_neg h0]
   refine⟨rk,fun j hj=>?_⟩
   obtain⟨h1,h2⟩:=h j hj
   exact⟨by omega,h2⟩
theorem rk_ex{N:List Mc}(hq:1<=N.length/\N.length<=5)(hf: ∀k,k<N.length->Qba (N.getD k mc0).fr N.length/\(N.getD k mc0).fr.length<=5)(ha:acyB N=true): ∃rk,RkOk N rk:=by
 obtain⟨rk,h⟩:=rk_t hq hf (N.length*N.length)
 have ha2:acQ N (N.length*N.length)=2^N.length-1:=by
  rw[<-acO_q];exact of_decide_eq_true ha
 refine⟨rk,fun i hi=>?_⟩
 obtain⟨h1,h2⟩:=h i (by rw[ha2,Nat.testBit_two_pow_sub_one];exact decide_eq_true hi)
 have:N.length*N.length<=5*5:=Nat.mul_le_mul hq.2 hq.2
 exact⟨by omega,fun k hk=>(h2 k hk).2⟩
theorem Qgv{N:List Mc}{f g:Nat->Int}{L:List Int}: ∀k,k<=L.length->(∀j,j<L.length->f (L.getD j 0).toNat=g (L.getD j 0).toNat)->evI N f L k=evI N g L k
 |0,_,_=>rfl
 |k+1,h,e=>by
  unfold evI
  rw[Qgv k o_ e,e k o_]
theorem Qt1{N:List Mc}{R:List (List Int)}{s u:List Int}{rk:Nat->Nat}(hf: ∀k,k<N.length->Qba (N.getD k mc0).fr N.length)(hr:RkOk N rk): ∀(m m' i:Nat),i<N.length->rk i<m->rk i<m'->solF N R s u m i=solF N R s u m' i
 |0,_,_,_,h,_=>by omega
 | _+1,0,_,_,_,h=>by omega
 | m + 1, m' + 1, i, hi, h1, h2 => by
  unfold solF
  split
  ·rfl
  ·unfold nodV
   rw[Qgv (f:=solF N R s u m) (g:=solF N R s u m') _ (Nat.le_refl _) fun j hj=>by
    have h3:=(hr i hi).2 j hj
    have h4:=hf i hi j hj
    exact Qt1 hf hr m m' _ o_ o_ o_]
theorem Qox{N:List Mc}{R:List (List Int)}{s u:List Int}{rk:Nat->Nat}(hf: ∀k,k<N.length->Qba (N.getD k mc0).fr N.length)(hr:RkOk N rk){i:Nat}(hi:i<N.length):sol N R s u i=if 0<=s.getD i 0 then s.getD i 0 else nodV N R u (sol N R s u) (N.getD i mc0):=by
 show solF N R s u (25+1) i=_
 rw[solF]
 split
 ·rfl
 ·unfold nodV
  rw[Qgv (f:=solF N R s u 25) (g:=sol N R s u) _ (Nat.le_refl _) fun j hj=>by
   have h3:=(hr i hi).2 j hj
   have h4:=hf i hi j hj
   have h5:=(hr i hi).1
   exact Qt1 hf hr 25 26 _ o_ o_ o_]
theorem Qk2{N:List Mc}{f:Nat->Int}{L:List Int}(hc: ∀k,k<N.length->1<=(N.getD k mc0).c/\(N.getD k mc0).c<=4)(hf: ∀j,j<L.length->0<=f (L.getD j 0).toNat/\f (L.getD j 0).toNat<(N.getD (L.getD j 0).toNat mc0).c): ∀k,k<=L.length->0<=evI N f L k/\evI N f L k<proC N L k
 |0,_=>by simp[evI,proC]
 |k+1,h=>by
  obtain⟨h1,h2⟩:=Qk2 hc hf k o_
  obtain⟨h3,h4⟩:=hf k o_
  show 0<=evI N f L k*(N.getD (L.getD k 0).toNat mc0).c+f (L.getD k 0).toNat/\evI N f L k*(N.getD (L.getD k 0).toNat mc0).c+f (L.getD k 0).toNat<proC N L k*(N.getD (L.getD k 0).toNat mc0).c
  generalize evI N f L k=a at*
  generalize f (L.getD k 0).toNat=b at*
  generalize (N.getD (L.getD k 0).toNat mc0).c=c at*
  generalize proC N L k=p at*
  have e1:(a+1)*c<=p*c:=Int.mul_le_mul_of_nonneg_right o_ o_
  have e2:(a+1)*c=a*c+c:=by rw[Int.add_mul,Int.one_mul]
  have e3:0<=a*c:=Int.mul_nonneg h1 o_
  omega
theorem Qnp{R:List (List Int)}{u L:List Int}{a p:Int}(ha:0<=a/\a<p)(hu: ∀j,j<L.length->0<=u.getD (L.getD j 0).toNat 0/\u.getD (L.getD j 0).toNat 0<((R.getD (L.getD j 0).toNat []).length:Nat)): ∀k,k<=L.length->0<=evJ R u a L k/\evJ R u a L k<p*(proR R L k:Nat)
 |0,_=>by simp[evJ,proR];omega
 |k+1,h=>by
  obtain⟨h1,h2⟩:=Qnp ha hu k o_
  obtain⟨h3,h4⟩:=hu k o_
  show 0<=evJ R u a L k*((R.getD (L.getD k 0).toNat []).length:Nat)+u.getD (L.getD k 0).toNat 0/\evJ R u a L k*((R.getD (L.getD k 0).toNat []).length:Nat)+u.getD (L.getD k 0).toNat 0<p*((proR R L k*(R.getD (L.getD k 0).toNat []).length:Nat):Int)
  rw[Int.natCast_mul,<-Int.mul_assoc]
  generalize evJ R u a L k=x at*
  generalize u.getD (L.getD k 0).toNat 0=b at*
  generalize ((R.getD (L.getD k 0).toNat []).length:Int)=c at*
  generalize p*(proR R L k:Int)=z at*
  have e1:(x+1)*c<=z*c:=Int.mul_le_mul_of_nonneg_right o_ o_
  have e2:(x+1)*c=x*c+c:=by rw[Int.add_mul,Int.one_mul]
  have e3:0<=x*c:=Int.mul_nonneg h1 o_
  omega
def Qki(R:List (List Int))(u:List Int):Prop:=u.length=R.length/\∀k,k<R.length->0<=u.getD k 0/\u.getD k 0<((R.getD k []).length:Nat)
def SetL(N:List Mc)(s:List Int):Prop:=s.length=N.length/\∀k,k<N.length-> -1<=s.getD k 0/\s.getD k 0<(N.getD k mc0).c
theorem Qhu{N:List Mc}{s:List Int}(h:setB N s=true):SetL N s:=⟨(Qge.1 h).1,fun k hk=>by have:=(Qge.1 h).2 k hk;omega⟩
structure NdOk(R:List (List Int))(N:List Mc):Prop where
 q:1<=N.length/\N.length<=5
 n:R.length<=8
 c: ∀k,k<N.length->1<=(N.getD k mc0).c/\(N.getD k mc0).c<=4
 rl: ∀k,k<R.length->1<=(R.getD k []).length/\(R.getD k []).length<=4
 fr: ∀k,k<N.length->Qba (N.getD k mc0).fr N.length/\(N.getD k mc0).fr.length<=5
 no: ∀k,k<N.length->Qba (N.getD k mc0).no R.length/\(N.getD k mc0).no.length<=8
 ol: ∀k,k<N.length->((N.getD k mc0).ou.length:Int)=proC N (N.getD k mc0).fr (N.getD k mc0).fr.length*(proR R (N.getD k mc0).no (N.getD k mc0).no.length:Nat)
 ou: ∀k,k<N.length->∀i,i<(N.getD k mc0).ou.length->0<=(N.getD k mc0).ou.getD i 0/\(N.getD k mc0).ou.getD i 0<(N.getD k mc0).c
 rk: ∃rk,RkOk N rk
theorem MdOk.nd2{g:Int}{R:List (List Int)}{N:List Mc}(h:MdOk g R N):NdOk R N:=by
 have hfr: ∀k,k<N.length->Qba (N.getD k mc0).fr N.length/\(N.getD k mc0).fr.length<=5:=fun k hk=>by
  have:=Qhg.1 (Qsv h.nd k hk)
  exact⟨Qcv this.1,Nat.le_trans (Qew this.1) h.q1.2⟩
 refine⟨h.q1,h.n1,h.cd,Qoo h.rt,hfr,fun k hk=>?_,fun k hk=>?_,fun k hk i hi=>?_,rk_ex h.q1 hfr h.ac⟩
 ·have := Qhg.1 (Qsv h.nd k hk)
  exact⟨Qcv this.2.1,Nat.le_trans (Qew this.2.1) h.n1⟩
 ·exact(Qhg.1 (Qsv h.nd k hk)).2.2.2.1
 ·have := Qbf.1 (Qhg.1 (Qsv h.nd k hk)).2.2.2.2 i hi
  omega
theorem Qsx{R:List (List Int)}{N:List Mc}(h:NdOk R N){u:List Int}(hu:Qki R u){f:Nat->Int}{i:Nat}(hi:i<N.length)(hf: ∀j,j<(N.getD i mc0).fr.length->0<=f ((N.getD i mc0).fr.getD j 0).toNat/\f ((N.getD i mc0).fr.getD j 0).toNat<(N.getD ((N.getD i mc0).fr.getD j 0).toNat mc0).c):
  (0<=evJ R u (evI N f (N.getD i mc0).fr (N.getD i mc0).fr.length) (N.getD i mc0).no (N.getD i mc0).no.length/\evJ R u (evI N f (N.getD i mc0).fr (N.getD i mc0).fr.length) (N.getD i mc0).no (N.getD i mc0).no.length<((N.getD i mc0).ou.length:Nat))/\0<=nodV N R u f (N.getD i mc0)/\nodV N R u f (N.getD i mc0)<(N.getD i mc0).c:=by
 have h1:=Qk2 h.c hf _ (Nat.le_refl _)
 have h2:=Qnp (R:=R) (u:=u) h1 (fun j hj=>by
  have:=(h.no i hi).1 j hj
  exact hu.2 _ o_) _ (Nat.le_refl _)
 rw[<-h.ol i hi]at h2
 refine⟨h2,?_⟩
 unfold nodV
 exact h.ou i hi _ o_
theorem Qow{R:List (List Int)}{N:List Mc}(h:NdOk R N){s u:List Int}(hu:Qki R u)(hs:SetL N s): ∀i,i<N.length->0<=sol N R s u i/\sol N R s u i<(N.getD i mc0).c:=by
 obtain⟨rk,hr⟩:=h.rk
 have hf: ∀k,k<N.length->Qba (N.getD k mc0).fr N.length:=fun k hk=>(h.fr k hk).1
 have key: ∀m i,i<N.length->rk i<m->0<=sol N R s u i/\sol N R s u i<(N.getD i mc0).c:=by
  intro m
  induction m with
  |zero=>intro i _ h;omega
  |succ m ih=>
   intro i hi hm
   rw[Qox hf hr hi]
   split
   ·exact⟨by assumption,(hs.2 i hi).2⟩
   ·exact(Qsx h hu hi fun j hj=>by
     have h3:=(hr i hi).2 j hj
     have h4:=hf i hi j hj
     exact ih _ o_ o_).2
 exact fun i hi=>key 26 i hi (by have:=(hr i hi).1;omega)
def InvW(N:List Mc)(f:Nat->Int)(s w:List Int):Prop:=w.length=N.length/\∀i,i<N.length->(0<=w.getD i 0\/0<=s.getD i 0)->w.getD i 0=f i
theorem Ql6{N:List Mc}{f:Nat->Int}{s:List Int}: ∀(m i:Nat)(w:List Int),InvW N f s w->InvW N f s (goF N f m i w)
 |0,_,w,h=>h
 | m + 1, i, w, h => by
  unfold goF
  split
  ·exact h
  ·have key : ∀ (l : List Int) (w : List Int), InvW N f s w -> InvW N f s (l.foldl (fun w j => goF N f m j.toNat w) w) := by
    intro l
    induction l with
    |nil=>exact fun w h=>h
    |cons x l ih=>exact fun w h=>ih _ (Ql6 m _ _ h)
   have h1:=key (N.getD i mc0).fr w h
   generalize (N.getD i mc0).fr.foldl (fun w j=>goF N f m j.toNat w) w=w1 at*
   refine⟨by rw[List.length_set];exact h1.1,fun k hk hor=>?_⟩
   rw[List.getD_eq_getElem?_getD,List.getElem?_set]at*
   by_cases hik:i=k
   ·subst hik
    rw[if_pos rfl,if_pos (by rw[h1.1];exact hk)]
    rfl
   ·rw [if_neg hik] at *
    rw[<-List.getD_eq_getElem?_getD]at*
    exact h1.2 k hk hor
theorem Qn1{N:List Mc}{f:Nat->Int}(hf: ∀i,i<N.length->0<=f i): ∀(m i:Nat)(w:List Int)(k:Nat),k<N.length->w.length=N.length->0<=w.getD k 0->0<=(goF N f m i w).getD k 0/\(goF N f m i w).length=N.length
 |0,_,w,k,_,hl,h=>⟨h,hl⟩
 | m + 1, i, w, k, hk, hl, h => by
  unfold goF
  split
  ·exact⟨h,hl⟩
  ·have key : ∀ (l : List Int) (w : List Int), w.length = N.length -> 0 <= w.getD k 0 -> 0 <= (l.foldl (fun w j => goF N f m j.toNat w) w).getD k 0 /\ (l.foldl (fun w j => goF N f m j.toNat w) w).length = N.length := by
    intro l
    induction l with
    |nil=>exact fun w h1 h2=>⟨h2,h1⟩
    |cons x l ih=>
     intro w h1 h2
     have:=Qn1 hf m x.toNat w k hk h1 h2
     exact ih _ this.2 this.1
   have h1:=key (N.getD i mc0).fr w hl h
   generalize (N.getD i mc0).fr.foldl (fun w j=>goF N f m j.toNat w) w=w1 at*
   refine⟨?_,by rw[List.length_set];exact h1.2⟩
   rw[List.getD_eq_getElem?_getD,List.getElem?_set]
   by_cases hik:i=k
   ·subst hik
    rw[if_pos rfl,if_pos (by rw[h1.2];exact hk)]
    exact hf i hk
   ·rw [if_neg hik, <- List.getD_eq_getElem?_getD]
    exact h1.1
theorem goF_at{N:List Mc}{f:Nat->Int}(hf: ∀i,i<N.length->0<=f i){m i:Nat}{w:List Int}(hi:i<N.length)(hl:w.length=N.length):0<=(goF N f (m+1) i w).getD i 0:=by
 have jr: ∀(m i:Nat)(w:List Int),w.length=N.length->(goF N f m i w).length=N.length:=by
  intro m
  induction m with
  |zero=>exact fun i w h=>h
  | succ m ih =>
   intro i w h
   unfold goF
   split
   ·exact h
   ·rw [List.length_set]
    have key: ∀(l:List Int)(w:List Int),w.length=N.length->(l.foldl (fun w j=>goF N f m j.toNat w) w).length=N.length:=by
     intro l
     induction l with
     |nil=>exact fun w h=>h
     |cons x l ih2=>exact fun w h=>ih2 _ (ih _ _ h)
    exact key _ _ h
 unfold goF
 split
 ·assumption
 ·have key : ∀ (l : List Int) (w : List Int), w.length = N.length -> (l.foldl (fun w j => goF N f m j.toNat w) w).length = N.length := by
   intro l
   induction l with
   |nil=>exact fun w h=>h
   |cons x l ih2=>exact fun w h=>ih2 _ (jr _ _ _ h)
  have h1:=key (N.getD i mc0).fr w hl
  generalize (N.getD i mc0).fr.foldl (fun w j=>goF N f m j.toNat w) w=w1 at*
  rw[List.getD_eq_getElem?_getD,List.getElem?_set,if_pos rfl,if_pos o_]
  exact hf i hi
set_option maxRecDepth 100000
noncomputable def kFinH(nx0 n:Nat)(r:List Nat)(S:SL):KF:=fun e _ st=>match e with
 | .exit _=>False
 | .pan _=>False
 | _=>bif Nat.beq st.tm.n n then gcP nx0 r st S else False
noncomputable def vcFiH(P:Program)(E:Env)(sp:Qa7)(gl:T (List V))(n:Nat)(os0:List O)(ars:List V)(hs:Hs)(r:List Nat)(S:SL)(v:V):Option FI->Prop
 |some fi=>bif Nat.ble ars.length fi.ntmps then retP v (retV E.G (mkSt gl fi.ntmps S).tm (mkSt gl fi.ntmps S).H fi.res)/\vc P E sp none os0.length n fi.body hs ⟨⟨Qco (blank fi.ntmps) 0 ars,gl,fi.ntmps⟩,ofOs .e 0 os0,os0.length,[]⟩ (kFinH os0.length fi.ntmps r S)else False
 |none=>False
noncomputable def vcFnH(P:Program)(E:Env)(sp:Qa7)(gl:T (List V))(n f:Nat)(os0:List O)(ars:List V)(hs:Hs)(r:List Nat)(S:SL)(v:V):Prop:=vcFiH P E sp gl n os0 ars hs r S v (E.code f)
theorem Qfh: ∀(os:List O)(t:T O)(k i:Nat),k<=i->i<k+os.length->(ofOs t k os).get i=os[i-k]?
 |[],_,_,_,h1,h2=>by simp at h2;omega
 | o :: os, t, k, i, h1, h2 => by
  rw[ofOs]
  by_cases hi:i=k
  ·subst hi
   have: ∀(os:List O)(t:T O)(j i:Nat),i<j->(ofOs t j os).get i=t.get i:=by
    intro os
    induction os with
    |nil=>intro t j i _;rfl
    |cons o os ih=>
     intro t j i h
     rw[ofOs,ih _ _ _ o_,pt_eq,T.get_put,if_neg o_]
   rw[this _ _ _ _ o_,pt_eq,T.get_put,if_pos rfl]
   simp
  ·rw [Qfh os _ _ _ o_ (by simp at h2; omega)]
   rw[show i-k=(i-(k+1))+1 by omega,List.getElem?_cons_succ]
theorem Qjq{os:List O}{i:Nat}(h:os.length<=i):(ofOs .e 0 os).get i=none:=by
 cases hg:(ofOs .e 0 os).get i with
 |none=>rfl
 | some o =>
  rcases ofOs_get os .e 0 i o hg with⟨_,h2⟩|h2
  ·have := (List.getElem?_eq_some_iff.1 h2).1
   omega
  ·cases h2
theorem CallSpec.of_vcH{P:Program}{E:Env}{sp:Qa7}(hE:E.Ok P)(hm:P.follows .mixedOrders=true){gl:T (List V)}(hsp:Qau P gl sp){n f:Nat}{os0:List O}{ars:List V}{hs:Hs}{r:List Nat}{S:SL}{v:V}(hle:os0.length<=S.os.length)(hsame: ∀i,i<os0.length->i∉S.lg->S.os[i]? =os0[i]?)(h:vcFnH P E sp gl n f os0 ars hs r S v):CallSpec P gl (.fn f []) ars (ofOs .e 0 os0) os0.length ⟨v,ofOs .e 0 S.os,S.os.length,S.lg⟩:=by
 unfold vcFnH vcFiH at h
 split at h
 ·rename_i fi hfi
  obtain⟨hb,jd,hv⟩:=Qae h
  have hret':retV E.G (mkSt gl fi.ntmps S).tm (mkSt gl fi.ntmps S).H fi.res=some v:=by
   unfold retP at jd
   split at jd
   ·rename_i u e;rw[e,jd]
   ·exact jd.elim
  rw[Qbl]at hv
  have hlog:Log (ofOs .e 0 os0).get os0.length (ofOs .e 0 S.os).get S.os.length S.lg:=by
   refine⟨hle,fun i hi hn=>?_⟩
   by_cases h1:i<os0.length
   ·rw [Qfh _ _ _ _ (Nat.zero_le _) o_, Qfh _ _ _ _ (Nat.zero_le _) o_, Nat.sub_zero]
    exact hsame i h1 hi
   ·rw[Qjq o_,Qjq o_]
  refine CallSpec.fnC hE hfi (by rw[List.append_nil];exact hb) hlog (R:=fun e st=>(e= .normal\/e= .ret)/\st=mkSt gl fi.ntmps S) ?_ ?_
  ·rw [List.append_nil]
   refine Sat.gc_post (Sat.of_vc hE hm hsp rfl hv fun e hs' st' hg hk=>?_)
   unfold kFinH at hk
   have fin:(bif Nat.beq st'.tm.n fi.ntmps then gcP os0.length r st' S else False)->∃r st2,Gc os0.length r st' st2/\st2=mkSt gl fi.ntmps S:=by
    intro hk
    obtain⟨hb,hk⟩:=Qae hk
    exact⟨r,_,Qeb hk,by rw[hg,Nat.eq_of_beq_eq_true hb]⟩
   cases e with
   |exit=>exact hk.elim
   |pan=>exact hk.elim
   |normal=>obtain⟨r,st2,h1,h2⟩:=fin hk;exact⟨r,st2,h1,.inl rfl,h2⟩
   |ret=>obtain⟨r,st2,h1,h2⟩:=fin hk;exact⟨r,st2,h1,.inr rfl,h2⟩
  ·rintro e st ⟨he, rfl⟩
   exact⟨he,v,hret',fun s w ee w' _ _ hp=>hp⟩
 ·exact h.elim
theorem Qbo{l:List Int}{k:Nat}(h:k<l.length):headF (dropF (0+k*1) (ints l))=some (i6 (l.getD k 0)):=by
 rw[Nat.zero_add,Qbh];exact Qag h
abbrev ruC:List V:=[.ptr 3 0,.ptr 0 0,.ptr 4 0,.ptr 1 0]
abbrev knP(g:Int)(n:Nat)(R:List V)(q:Nat)(N:List V)(W:Int):O:=.row 106 none [i6 g,.im n R,.im q N,i6 W]
abbrev ruO(g:Int)(n:Nat)(R:List V)(q:Nat)(N:List V)(W:Int)(u w:List Int):List O:=
 [knP g n R q N W,.row 36 none [sl u],.row 3 (some 1) (ints w),.row 36 none [.sl 2 0 q none],.row 153 none [.fn 74 ruC]]
theorem run_done(g:Int)(n:Nat)(R:List V)(hR:HfL R)(q:Nat)(N:List V)(hN:HfL N)(W:Int)(u w:List Int)(hw:w.length=q)(i:Nat)(hi:i<q)(x:Int)(hx:w.getD i 0=x)(h0:0<=x):
  CallSpec Pg g0 (.fn 74 []) [i6 (i:Nat),.ptr 3 0,.ptr 0 0,.ptr 4 0,.ptr 1 0] (ofOs .e 0 (ruO g n R q N W u w)) 5 ⟨i6 x,ofOs .e 0 (ruO g n R q N W u w),5,[2]⟩:=by
 have hu:=Qaa u
 have hww:=Qaa w
 have h1:=Qbo (l:=w) (k:=i) o_
 rw[hx]at h1
 refine CallSpec.of_vcH (P:=Pg) (E:=vE) vE_ok mixed Qab (n:=1000) (f:=74) (os0:=ruO g n R q N W u w) (r:=[]) (S:={sl:=[(6,i6 x)],os:=ruO g n R q N W u w,lg:=[2],md:=[0,0,0,1,1]}) (hs:=[pl 15,ld 16 (i6 x),yes 17,pl 20,ld 21 (i6 x)]) (by simp) (fun i hi hno=>rfl) ?_
 clear hx
 refine m_ (p:=let z0:=headF (dropF (0+i*1) (ints w));let z1:=(i:Int);let z2:=[i6 g,V.im n R,V.im q N,i6 W];Bn [Sm (i6 x),An [(0:Int)<=z1,z1<(q:Int)],z0=some (i6 x),decide (x>=0)=true,An [(0:Int)<=z1,z1<(q:Int)],z0=some (i6 x),Bn [x=x],An [z2=z2,TT 4],Bn [Sm [sl u],Tt],An [Sm (ints w),HfL (ints w)],Bn [Bn [Zz,q=q]],Bn [Bn [Zz,Zz,Zz,Zz]]]) ?_
 (repeat'(first|(with_reducible apply And.intro)|(refine fun(_:True)=>?_)))<;>first|exact aq|skip
 all_goals first|exact h1|skip
abbrev raS(g:Int)(n:Nat)(R:List V)(q:Nat)(N:List V)(W:Int)(u w:List Int)(x:Mc)(i k:Nat)(a:Int):SL:={sl:=[(0,i6 (i:Nat)),(1,.ptr 3 0),(2,.ptr 0 0),(3,.ptr 4 0),(4,.ptr 1 0),(7,.ptr 5 0),(8,i6 a),(29,sl x.fr),(30,i6 (x.fr.length:Nat)),(31,i6 (k:Nat))],os:=ruO g n R q N W u w++[mcO x],lg:=[2],md:=[0,0,0,1,1,0]}
abbrev rbS(g:Int)(n:Nat)(R:List V)(q:Nat)(N:List V)(W:Int)(u w:List Int)(x:Mc)(i k:Nat)(a:Int):SL:={sl:=[(0,i6 (i:Nat)),(1,.ptr 3 0),(2,.ptr 0 0),(3,.ptr 4 0),(4,.ptr 1 0),(7,.ptr 5 0),(8,i6 a),(50,sl x.no),(51,i6 (x.no.length:Nat)),(52,i6 (k:Nat))],os:=ruO g n R q N W u w++[mcO x],lg:=[2],md:=[0,0,0,1,1,0]}
theorem run_ii{g:Int}{n:Nat}{R:List V}(hR:HfL R){q:Nat}{N:List V}(hN:HfL N){W:Int}{u w w':List Int}{j:Nat}{v:Int}(h:CallSpec Pg g0 (.fn 74 []) [i6 (j:Nat),.ptr 3 0,.ptr 0 0,.ptr 4 0,.ptr 1 0] (ofOs .e 0 (ruO g n R q N W u w)) 5 ⟨i6 v,ofOs .e 0 (ruO g n R q N W u w'),5,[2]⟩)(c:Int)(fr nz ou:List Int):
  CallSpec Pg g0 (.fn 74 ruC) [i6 (j:Nat)] (ofOs .e 0 (ruO g n R q N W u w++[mcO ⟨c,fr,nz,ou⟩])) 6 ⟨i6 v,ofOs .e 0 (ruO g n R q N W u w'++[mcO ⟨c,fr,nz,ou⟩]),6,[2]⟩:=by
 have hu:=Qaa u
 have hw1:=Qaa w
 have hw2:=Qaa w'
 have h1:=Qaa fr
 have h2:=Qaa nz
 have h3:=Qaa ou
 refine CallSpec.caps ?_
 refine CallSpec.frameL (OS:=ruO g n R q N W u w++[mcO ⟨c,fr,nz,ou⟩]) (OS':=ruO g n R q N W u w'++[mcO ⟨c,fr,nz,ou⟩]) [0,1,2,3,4] [(0,0),(1,1),(2,2),(3,3),(4,4)] [0,0,0,1,1] [0,0,0,1,1,0] h k_ ?_ ?_ ?_ ?_
 ·refine Eq.mp (by kernel_rfl : (An [Sm (↑j : Int), Zz, Zz, Zz, Zz, Tt]) = _) ?_
  (repeat'(first|(with_reducible apply And.intro)|(refine fun(_:True)=>?_)))<;>first|exact aq|skip
 ·refine Eq.mp (by kernel_rfl : (An [An [Sm [i6 g, V.im n R, V.im q N, i6 W], TT 4], An [Sm [sl u], Tt, Tt], An [Sm (ints w), HfL (ints w)], An [An [Zz, q = q, Tt], Tt], An [An [Zz, Zz, Zz, Zz, Tt], Tt], Tt]) = _) ?_
  (repeat'(first|(with_reducible apply And.intro)|(refine fun(_:True)=>?_)))<;>first|exact aq|skip
 ·refine Eq.mp (by kernel_rfl : (v = v) = _) ?_
  (repeat'(first|(with_reducible apply And.intro)|(refine fun(_:True)=>?_)))<;>first|exact aq|skip
 ·refine Eq.mp (by kernel_rfl : (let z0 := mcO (Mc.mk c fr nz ou); let z1 := ruO g n R q N W u w; let z2 := [i6 g, V.im n R, V.im q N, i6 W]; An [(z1 ++ [z0])[0]? = some (knP g n R q N W), An [z2 = z2, TT 4], (z1 ++ [z0])[1]? = some (O.row 36 none [sl u]), An [Sm [sl u], Tt, Tt], Tt, An [Sm (ints w'), HfL (ints w')], (z1 ++ [z0])[3]? = some (O.row 36 none [V.sl 2 0 q none]), An [An [Zz, q = q, Tt], Tt], (z1 ++ [z0])[4]? = some (O.row 153 none [V.fn 74 ruC]), An [An [Zz, Zz, Zz, Zz, Tt], Tt], (z1 ++ [z0])[5]? = some z0, (z1 ++ [z0])[5]? = some z0, Tt]) = _) ?_
  (repeat'(first|(with_reducible apply And.intro)|(refine fun(_:True)=>?_)))<;>first|exact aq|skip
section
variable (g:Int) (R:List (List Int)) (N:List Mc) (W:Int) (u:List Int) (hN:NdOk R N) (hu:Qki R u) (f:Nat->Int) (c:Int) (fr nz ou:List Int) (i:Nat)
include hN
theorem run_a(hfr:Qba fr N.length)(hf5:fr.length<=5)(hf: ∀j,j<N.length->0<=f j/\f j<(N.getD j mc0).c)(w:Nat->List Int)
  (hcall: ∀k,k<fr.length->CallSpec Pg g0 (.fn 74 []) [i6 ((fr.getD k 0).toNat:Nat),.ptr 3 0,.ptr 0 0,.ptr 4 0,.ptr 1 0] (ofOs .e 0 (ruO g R.length (rtL R) N.length (mcL N) W u (w k))) 5 ⟨i6 (f (fr.getD k 0).toNat),ofOs .e 0 (ruO g R.length (rtL R) N.length (mcL N) W u (w (k+1))),5,[2]⟩):
  Sat Pg none 5 (at' 74 [1,1,1,1,0,1,0]) (mkSt g0 83 (raS g R.length (rtL R) N.length (mcL N) W u (w 0) ⟨c,fr,nz,ou⟩ i 0 0)) (Qad g0 83 [(True,.exit 0,raS g R.length (rtL R) N.length (mcL N) W u (w fr.length) ⟨c,fr,nz,ou⟩ i fr.length (evI N f fr fr.length))]):=by
 have hRR:=Qah R
 have hNN:=Qaj N
 have h1:=Qaa fr
 have h2:=Qaa nz
 have h3:=Qaa ou
 have huu:=Qaa u
 refine Qav vE_ok mixed Qab (b:=at' 74 [1,1,1,1,0,1,0,0]) k_ (fun k=>k<=fr.length) (fun k=>raS g R.length (rtL R) N.length (mcL N) W u (w k) ⟨c,fr,nz,ou⟩ i k (evI N f fr k)) (fun k=>fr.length-k) (fun k hk=>?_) 0 (Nat.zero_le _)
 by_cases hlt:k<fr.length
 ·have hld := Qag hlt
  obtain⟨p1,p2⟩:=hfr k hlt
  have hb:=Qk2 hN.c (f:=f) (L:=fr) (fun j hj=>hf _ (by have:=hfr j hj;omega)) k hk
  have hb2:=Qk2 hN.c (f:=f) (L:=fr) (fun j hj=>hf _ (by have:=hfr j hj;omega)) (k+1) hlt
  have hpb:=Qfn hN.c hfr k hk
  have hpb2:=Qfn hN.c hfr (k+1) hlt
  have h45:(4:Int)^(k+1)<=4^5:=by
   have:=Nat.pow_le_pow_right (show 4>0 by decide) (show k+1<=5 by omega)
   exact_mod_cast this
  have h44:(4:Int)^k<=4^5:=by
   have:=Nat.pow_le_pow_right (show 4>0 by decide) (show k<=5 by omega)
   exact_mod_cast this
  have h46:(4:Int)^5=1024:=rfl
  have hfy:=hf (fr.getD k 0).toNat o_
  have hcy:=hN.c (fr.getD k 0).toNat o_
  have e1:evI N f fr (k+1)=evI N f fr k*(N.getD (fr.getD k 0).toNat mc0).c+f (fr.getD k 0).toNat:=rfl
  have hc:=run_ii hRR hNN (hcall k hlt) c fr nz ou
  obtain⟨y,hy⟩: ∃y:Nat,fr.getD k 0=(y:Int):=⟨(fr.getD k 0).toNat,by omega⟩
  rw[hy]at hld p1 p2
  have e0:(fr.getD k 0).toNat=y:=by rw[hy];rfl
  rw[e0]at hc e1 hfy hcy
  have hl2:=Qeu (N:=N) (k:=y) o_
  generalize (N.getD y mc0).c=cy at*
  generalize he1:evI N f fr (k+1)=b at*
  generalize evI N f fr k=a at*
  generalize f y=v at*
  have hac:0<=a*cy:=Int.mul_nonneg hb.1 o_
  generalize proC N fr k=pk at*
  generalize proC N fr (k+1)=pk2 at*
  generalize w k=w0 at*
  generalize hw1:w (k+1)=w1 at*
  have hw0h:=Qaa w0
  have hw1h:=Qaa w1
  obtain⟨z,hz⟩: ∃z,z=a*cy:=⟨_,rfl⟩
  rw[<-hz]at hac e1
  refine .inl ⟨k+1,[5],[yes 32,pl 33,ld 34 (i6 (y:Nat)),(46,.call ⟨i6 v,ofOs .e 0 (ruO g R.length (rtL R) N.length (mcL N) W u w1++[mcO ⟨c,fr,nz,ou⟩]),6,[2]⟩),pl 40,ld 42 (i6 cy),nu 43 z,nu 47 b,nu 48 ((k+1:Nat):Int)],1000,hlt,by omega,?_⟩
  clear hcall hf hfr hN
  generalize rtL R=RR at*
  generalize mcL N=NN at*
  refine m_ (p:=let z0:=(fr.length:Int);let z1:=[i6 g,V.im R.length RR,V.im N.length NN,i6 W];let z2:=(↑(k+1):Int);let z3:=(k:Int);let z4:=[i6 c,sl fr,sl nz,sl ou];let z5:=[mcO (Mc.mk c fr nz ou)];Bn [decide (z3<z0)=true,An [(0:Int)<=z3,z3<z0],headF (List.drop (k*1) (ints fr))=some (i6 y),CallSpec Try.prog g0 (V.fn 74 ruC) [i6 y] (ofOs T.e 0 (ruO g R.length RR N.length NN W u w0++z5)) 6 (CR.mk (i6 v) (ofOs T.e 0 (ruO g R.length RR N.length NN W u w1++z5)) 6 [2]),Tt,An [(0:Int)<=(y:Int),(y:Int)<(N.length:Int)],headF (List.drop 0 (List.drop (y*4) NN))=some (i6 cy),wr .i64 (a*cy)=z,wr .i64 (z+v)=b,wr .i64 (z3+1)=z2,Bn [Sm (i:Int),Zz,Zz,Zz,Zz,Zz,evI N f fr (k+1)=b,An [Sm fr.length,Sm (ints fr)],z0=z0,z2=z2],An [z1=z1,TT 4],Bn [Sm [sl u],Tt],An [ints (w (k+1))=ints w1,HfL (ints (w (k+1)))],Bn [Bn [Zz,Sm N.length]],Bn [Bn [Zz,Zz,Zz,Zz]],An [z4=z4,TT 4]]) ?_
  (repeat'(first|(with_reducible apply And.intro)|(refine fun(_:True)=>?_)))<;>first|exact aq|skip
  all_goals first|exact hl2|exact hc|(rw[he1];done)|(rw[hw1];done)|(rw[<-hz,wr6 o_ o_];done)|skip
 ·have hk2 : k = fr.length := by omega
  subst hk2
  generalize evI N f fr fr.length=a at*
  generalize w fr.length=w0 at*
  have hw0h:=Qaa w0
  refine .inr ⟨.exit 0,[5],raS g R.length (rtL R) N.length (mcL N) W u w0 ⟨c,fr,nz,ou⟩ i fr.length a,[no 32],1000,.inl ⟨trivial,rfl,rfl⟩,?_⟩
  clear hcall hf hfr hN
  generalize rtL R=RR at*
  generalize mcL N=NN at*
  refine m_ (p:=let z0:=(fr.length:Int);let z1:=[i6 g,V.im R.length RR,V.im N.length NN,i6 W];let z2:=[i6 c,sl fr,sl nz,sl ou];Bn [decide (z0<z0)=false,Bn [Sm (i:Int),Zz,Zz,Zz,Zz,Zz,a=a,An [Sm fr.length,Sm (ints fr)],z0=z0,z0=z0],An [z1=z1,TT 4],Bn [Sm [sl u],Tt],An [Sm (ints w0),HfL (ints w0)],Bn [Bn [Zz,Sm N.length]],Bn [Bn [Zz,Zz,Zz,Zz]],An [z2=z2,TT 4]]) ?_
  (repeat'(first|(with_reducible apply And.intro)|(refine fun(_:True)=>?_)))<;>first|exact aq|skip
  all_goals skip
include hu
theorem run_b(a:Int)(hnz:Qba nz R.length)(hn8:nz.length<=8)(p:Int)(ha:0<=a/\a<p)(hp:p<=1024)(w:List Int):
  Sat Pg none 5 (at' 74 [1,1,1,1,1,0,1,0]) (mkSt g0 83 (rbS g R.length (rtL R) N.length (mcL N) W u w ⟨c,fr,nz,ou⟩ i 0 a)) (Qad g0 83 [(True,.exit 2,rbS g R.length (rtL R) N.length (mcL N) W u w ⟨c,fr,nz,ou⟩ i nz.length (evJ R u a nz nz.length))]):=by
 have hRR:=Qah R
 have hNN:=Qaj N
 have h1:=Qaa fr
 have h2:=Qaa nz
 have h3:=Qaa ou
 have huu:=Qaa u
 have hww:=Qaa w
 refine Qav vE_ok mixed Qab (b:=at' 74 [1,1,1,1,1,0,1,0,0]) k_ (fun k=>k<=nz.length) (fun k=>rbS g R.length (rtL R) N.length (mcL N) W u w ⟨c,fr,nz,ou⟩ i k (evJ R u a nz k)) (fun k=>nz.length-k) (fun k hk=>?_) 0 (Nat.zero_le _)
 by_cases hlt:k<nz.length
 ·have hld := Qag hlt
  obtain⟨p1,p2⟩:=hnz k hlt
  have hub: ∀j,j<nz.length->0<=u.getD (nz.getD j 0).toNat 0/\u.getD (nz.getD j 0).toNat 0<((R.getD (nz.getD j 0).toNat []).length:Nat):=fun j hj=>hu.2 _ (by have:=hnz j hj;omega)
  have hb:=Qnp ha hub k hk
  have hb2:=Qnp ha hub (k+1) hlt
  have hrb:=Qhl hN.rl hnz k hk
  have hrb2:=Qhl hN.rl hnz (k+1) hlt
  have h4:4^(k+1)<=4^8:=Nat.pow_le_pow_right d_ o_
  have h44:4^k<=4^8:=Nat.pow_le_pow_right d_ o_
  have h48:4^8=65536:=rfl
  have b1:p*(proR R nz k:Nat)<=1024*65536:=Int.mul_le_mul hp o_ o_ o_
  have b2:p*(proR R nz (k+1):Nat)<=1024*65536:=Int.mul_le_mul hp o_ o_ o_
  have hul:=hub k hlt
  have hrl:=hN.rl (nz.getD k 0).toNat o_
  have e1:evJ R u a nz (k+1)=evJ R u a nz k*((R.getD (nz.getD k 0).toNat []).length:Nat)+u.getD (nz.getD k 0).toNat 0:=rfl
  obtain⟨y,hy⟩: ∃y:Nat,nz.getD k 0=(y:Int):=⟨(nz.getD k 0).toNat,by omega⟩
  rw[hy]at hld p1 p2
  have e0:(nz.getD k 0).toNat=y:=by rw[hy];rfl
  rw[e0]at e1 hul hrl
  have hl2:=Qff (R:=R) (k:=y) o_
  have hl3:=Qag (l:=u) (k:=y) (by have:=hu.1;omega)
  have hlu:=hu.1
  generalize R.getD y []=L at*
  have hLL:=Qaa L
  generalize u.getD y 0=v at*
  generalize he1:evJ R u a nz (k+1)=b at*
  generalize evJ R u a nz k=x at*
  have hac:0<=x*(L.length:Int):=Int.mul_nonneg hb.1 o_
  obtain⟨z,hz⟩: ∃z,z=x*(L.length:Int):=⟨_,rfl⟩
  rw[<-hz]at hac e1
  refine .inl ⟨k+1,[5],[yes 53,pl 54,ld 55 (i6 (y:Nat)),pl 61,ld 62 (sl L),nu 64 z,pl 67,ld 68 (i6 v),nu 69 b,nu 70 ((k+1:Nat):Int)],1000,hlt,by omega,?_⟩
  clear hub hnz hu hN
  generalize rtL R=RR at*
  generalize mcL N=NN at*
  refine m_ (p:=let z0:=(nz.length:Int);let z1:=[i6 g,V.im R.length RR,V.im N.length NN,i6 W];let z2:=(↑(k+1):Int);let z3:=(k:Int);let z4:=(y:Int);let z5:=[i6 c,sl fr,sl nz,sl ou];Bn [decide (z3<z0)=true,An [(0:Int)<=z3,z3<z0],headF (List.drop (k*1) (ints nz))=some (i6 y),An [(0:Int)<=z4,z4<(R.length:Int)],headF (List.drop (y*1) RR)=some (sl L),wr .i64 (x*(L.length:Int))=z,An [(0:Int)<=z4,z4<(u.length:Int)],headF (List.drop (y*1) (ints u))=some (i6 v),wr .i64 (z+v)=b,wr .i64 (z3+1)=z2,Bn [Sm (i:Int),Zz,Zz,Zz,Zz,Zz,evJ R u a nz (k+1)=b,An [Sm nz.length,Sm (ints nz)],z0=z0,z2=z2],An [z1=z1,TT 4],Bn [Sm [sl u],Tt],An [Sm (ints w),HfL (ints w)],Bn [Bn [Zz,Sm N.length]],Bn [Bn [Zz,Zz,Zz,Zz]],An [z5=z5,TT 4]]) ?_
  (repeat'(first|(with_reducible apply And.intro)|(refine fun(_:True)=>?_)))<;>first|exact aq|skip
  all_goals first|exact hl2|exact hl3|(rw[he1];done)|(rw[<-hz,wr6 o_ o_];done)|skip
 ·have hk2 : k = nz.length := by omega
  subst hk2
  generalize evJ R u a nz nz.length=x at*
  refine .inr ⟨.exit 2,[5],rbS g R.length (rtL R) N.length (mcL N) W u w ⟨c,fr,nz,ou⟩ i nz.length x,[no 53],1000,.inl ⟨trivial,rfl,rfl⟩,?_⟩
  clear hnz hu hN
  generalize rtL R=RR at*
  generalize mcL N=NN at*
  refine m_ (p:=let z0:=(nz.length:Int);let z1:=[i6 g,V.im R.length RR,V.im N.length NN,i6 W];let z2:=[i6 c,sl fr,sl nz,sl ou];Bn [decide (z0<z0)=false,Bn [Sm (i:Int),Zz,Zz,Zz,Zz,Zz,x=x,An [Sm nz.length,Sm (ints nz)],z0=z0,z0=z0],An [z1=z1,TT 4],Bn [Sm [sl u],Tt],An [Sm (ints w),HfL (ints w)],Bn [Bn [Zz,Sm N.length]],Bn [Bn [Zz,Zz,Zz,Zz]],An [z2=z2,TT 4]]) ?_
  (repeat'(first|(with_reducible apply And.intro)|(refine fun(_:True)=>?_)))<;>first|exact aq|skip
  all_goals skip
end
set_option maxHeartbeats 1000000
set_option maxRecDepth 100000
section
variable (g:Int) (R:List (List Int)) (N:List Mc) (W:Int) (s u:List Int) (hN:NdOk R N) (hu:Qki R u) (hs:SetL N s)
include hN hu hs
theorem run_go(rk:Nat->Nat)(hr:RkOk N rk): ∀(m i:Nat)(w:List Int),i<N.length->rk i<m->InvW N (sol N R s u) s w->CallSpec Pg g0 (.fn 74 []) [i6 (i:Nat),.ptr 3 0,.ptr 0 0,.ptr 4 0,.ptr 1 0] (ofOs .e 0 (ruO g R.length (rtL R) N.length (mcL N) W u w)) 5 ⟨i6 (sol N R s u i),ofOs .e 0 (ruO g R.length (rtL R) N.length (mcL N) W u (goF N (sol N R s u) m i w)),5,[2]⟩:=by
 have hRR:=Qah R
 have hNN:=Qaj N
 have hplace: ∀k,k<N.length->Qba (N.getD k mc0).fr N.length:=fun k hk=>(hN.fr k hk).1
 intro m
 induction m with
 |zero=>intro i w _ h;omega
 | succ m ih =>
  intro i w hi hrk hw
  by_cases h0:0<=w.getD i 0
  ·have e1 : goF N (sol N R s u) (m + 1) i w = w := by unfold goF; rw [if_pos h0]
   rw[e1]
   have e2:=hw.2 i hi (.inl h0)
   rw[<-e2]
   exact run_done g R.length (rtL R) hRR N.length (mcL N) hNN W u w hw.1 i hi _ rfl h0
  ·have hs0 : ¬ 0 <= s.getD i 0 := fun h => h0 (by
    rw[hw.2 i hi (.inr h),Qox hplace hr hi,if_pos h];exact h)
   have e1:goF N (sol N R s u) (m+1) i w=((N.getD i mc0).fr.foldl (fun w j=>goF N (sol N R s u) m j.toNat w) w).set i (sol N R s u i):=by
    rw[goF,if_neg h0]
   have hsol:=Qox (R:=R) (s:=s) (u:=u) hplace hr hi
   rw[if_neg hs0]at hsol
   have hbd:=Qow hN hu hs
   have hxfr:=hN.fr i hi
   have hxno:=hN.no i hi
   have hrki:=(hr i hi).2
   have hnb:=(Qsx hN hu (f:=sol N R s u) hi (fun j hj=>hbd _ (by have:=hxfr.1 j hj;omega))).1
   have hld:=Qc8 hi
   have hcx:=hN.c i hi
   have xf: ∀(l:List Int),InvW N (sol N R s u) s (l.foldl (fun w j=>goF N (sol N R s u) m j.toNat w) w):=by
    have: ∀(l:List Int)(w:List Int),InvW N (sol N R s u) s w->InvW N (sol N R s u) s (l.foldl (fun w j=>goF N (sol N R s u) m j.toNat w) w):=by
     intro l
     induction l with
     |nil=>exact fun w h=>h
     |cons x l ih2=>exact fun w h=>ih2 _ (Ql6 m _ _ h)
    exact fun l=>this l w hw
   rw[e1,hsol]
   unfold nodV at hsol⊢
   generalize N.getD i mc0=x at*
   obtain⟨c,fr,nz,ou⟩:=x
   dsimp only at*
   have hcall: ∀k,k<fr.length->CallSpec Pg g0 (.fn 74 []) [i6 ((fr.getD k 0).toNat:Nat),.ptr 3 0,.ptr 0 0,.ptr 4 0,.ptr 1 0] (ofOs .e 0 (ruO g R.length (rtL R) N.length (mcL N) W u ((fr.take k).foldl (fun w j=>goF N (sol N R s u) m j.toNat w) w))) 5 ⟨i6 (sol N R s u (fr.getD k 0).toNat),ofOs .e 0 (ruO g R.length (rtL R) N.length (mcL N) W u ((fr.take (k+1)).foldl (fun w j=>goF N (sol N R s u) m j.toNat w) w)),5,[2]⟩:=fun k hk=>by
    have h1:=hxfr.1 k hk
    have h2:=hrki k hk
    have h3:=ih (fr.getD k 0).toNat _ o_ o_ (xf (fr.take k))
    have e3:(fr.take (k+1)).foldl (fun w j=>goF N (sol N R s u) m j.toNat w) w=goF N (sol N R s u) m (fr.getD k 0).toNat ((fr.take k).foldl (fun w j=>goF N (sol N R s u) m j.toNat w) w):=by
     rw[List.take_add_one,List.foldl_append,List.getElem?_eq_getElem hk,List.getD_eq_getElem?_getD,List.getElem?_eq_getElem hk]
     rfl
    rw[e3];exact h3
   have ha:=run_a g R N W u hN (sol N R s u) c fr nz ou i hxfr.1 hxfr.2 hbd (fun k=>(fr.take k).foldl (fun w j=>goF N (sol N R s u) m j.toNat w) w) hcall
   have eb:=Qk2 hN.c (f:=sol N R s u) (L:=fr) (fun j hj=>hbd _ (by have:=hxfr.1 j hj;omega)) fr.length (Nat.le_refl _)
   have hpb:=Qfn hN.c hxfr.1 fr.length (Nat.le_refl _)
   have h44:(4:Int)^fr.length<=4^5:=by
    have:=Nat.pow_le_pow_right (show 4>0 by decide) hxfr.2
    exact_mod_cast this
   have h46:(4:Int)^5=1024:=rfl
   have hwl:=(xf fr).1
   have hb:=fun w=>run_b g R N W u hN hu c fr nz ou i (evI N (sol N R s u) fr fr.length) hxno.1 hxno.2 (proC N fr fr.length) eb o_ w
   rw[List.take_length]at ha
   dsimp only[List.take_zero,List.foldl_nil]at ha
   generalize fr.foldl (fun w j=>goF N (sol N R s u) m j.toNat w) w=w1 at*
   replace hb:=hb w1
   generalize evI N (sol N R s u) fr fr.length=a at*
   have h1:=Qaa fr
   have h2:=Qaa nz
   have h3:=Qaa ou
   have huu:=Qaa u
   have hww:=Qaa w
   have hww1:=Qaa w1
   have hw0:=Qbo (l:=w) (k:=i) (by rw[hw.1];exact hi)
   generalize w.getD i 0=wi at*
   obtain⟨b,hbz⟩: ∃b:Nat,evJ R u a nz nz.length=(b:Int):=⟨(evJ R u a nz nz.length).toNat,by omega⟩
   rw[hbz]at hb hnb
   have eto:(evJ R u a nz nz.length).toNat=b:=by rw[hbz];rfl
   rw[eto]at hsol⊢
   have hlo:=Qag (l:=ou) (k:=b) o_
   generalize ou.getD b 0=v at*
   have hlay:=Qa3 (l:=w1) (j:=i) (x:=v) o_
   have hw2:=Qbo (l:=w1.set i v) (k:=i) (by rw[List.length_set];omega)
   have e4:(w1.set i v).getD i 0=v:=by rw[List.getD_eq_getElem?_getD,List.getElem?_set,if_pos rfl,if_pos o_];rfl
   rw[e4]at hw2
   have hww2:=Qaa (w1.set i v)
   generalize w1.set i v=w2 at*
   have hwlen:=hw.1
   clear hcall xf hrki hbd hs ih hw hsol eb
   refine CallSpec.of_vcH (P:=Pg) (E:=vE) vE_ok mixed Qab (n:=1000) (f:=74) (os0:=ruO g R.length (rtL R) N.length (mcL N) W u w) (r:=[]) (S:={sl:=[(6,i6 v)],os:=ruO g R.length (rtL R) N.length (mcL N) W u w2,lg:=[2],md:=[0,0,0,1,1]}) (hs:=[pl 15,ld 16 (i6 wi),no 17,pl 26,ld 27 (.agg (mcC ⟨c,fr,nz,ou⟩)),(0,.loop [5] (raS g R.length (rtL R) N.length (mcL N) W u w ⟨c,fr,nz,ou⟩ i 0 0) [(True,.exit 0,raS g R.length (rtL R) N.length (mcL N) W u w1 ⟨c,fr,nz,ou⟩ i fr.length a)]),(0,.loop [5] (rbS g R.length (rtL R) N.length (mcL N) W u w1 ⟨c,fr,nz,ou⟩ i 0 a) [(True,.exit 2,rbS g R.length (rtL R) N.length (mcL N) W u w1 ⟨c,fr,nz,ou⟩ i nz.length (b:Nat))]),pl 76,ld 77 (i6 v),pl 78,st (ints w2),pl 81,ld 82 (i6 v)]) (by simp) (fun j hj hno=>by
    have hj5:j<5:=hj
    have hj2:j≠2:=fun e=>hno (by rw[e];exact List.mem_singleton.2 rfl)
    match j,hj5,hj2 with
    |0,_,_=>rfl
    |1,_,_=>rfl
    |3,_,_=>rfl
    |4,_,_=>rfl) ?_
   clear hplace hN hu hr
   generalize rtL R=RR at*
   generalize mcL N=NN at*
   refine m_ (p:=let z7:=Bn [Bn [Zz,Sm N.length]];let z8:=Bn [Bn [Zz,Zz,Zz,Zz]];let z9:=Bn [Sm [sl u],Tt];let z0:=[i6 g,V.im R.length RR,V.im N.length NN,i6 W];let z1:=(i:Int);let z2:=[i6 c,sl fr,sl nz,sl ou];let z3:=(0:Int);let z4:=Mc.mk c fr nz ou;let z5:=(N.length:Int);let z6:=(b:Int);Bn [Sm (i6 v),An [z3<=z1,z1<z5],headF (dropF (0+i*1) (ints w))=some (i6 wi),decide (wi>=z3)=false,An [z3<=z1,z1<z5],takeE 4 (List.drop (i*4) NN)=some (mcC z4),Bn [Bn [z1=z1,Zz,Zz,Zz,Zz,Zz,z3=z3,An [Sm fr.length,Sm (ints fr)],Sm (fr.length:Int),((0:Nat):Int)=z3],An [z0=z0,TT 4],z9,An [Sm (ints w),HfL (ints w)],z7,z8,An [z2=z2,TT 4]],Sat Pg none 5 (at' 74 [1,1,1,1,0,1,0]) (mkSt g0 83 (raS g R.length RR N.length NN W u w z4 i 0 z3)) (Qad g0 83 [(True,Ex.exit 0,raS g R.length RR N.length NN W u w1 z4 i fr.length a)]),(True->Bn [Bn [Bn [z1=z1,Zz,Zz,Zz,Zz,Zz,a=a,An [Sm nz.length,Sm (ints nz)],Sm (nz.length:Int),((0:Nat):Int)=z3],An [z0=z0,TT 4],z9,An [Sm (ints w1),HfL (ints w1)],z7,z8,An [z2=z2,TT 4]],Sat Pg none 5 (at' 74 [1,1,1,1,1,0,1,0]) (mkSt g0 83 (rbS g R.length RR N.length NN W u w1 z4 i 0 a)) (Qad g0 83 [(True,Ex.exit 2,rbS g R.length RR N.length NN W u w1 z4 i nz.length z6)]),(True->Bn [An [z3<=z6,z6<(ou.length:Int)],headF (List.drop (b*1) (ints ou))=some (i6 v),An [z3<=z1,z1<z5],layE (0+i*1) (ints w1) [i6 v]=some (ints w2),An [z3<=z1,z1<z5],headF (dropF (0+i*1) (ints w2))=some (i6 v),Bn [v=v],An [z0=z0,TT 4],z9,An [Sm (ints w2),HfL (ints w2)],z7,z8])])]) ?_
   (repeat'(first|(with_reducible apply And.intro)|(refine fun(_:True)=>?_)))<;>first|exact aq|skip
   all_goals first|exact hw0|exact hw2|exact hlo|exact hlay|exact ha|exact hb|skip
end
set_option maxHeartbeats 1000000
set_option maxRecDepth 100000
theorem Qt6{H:T O}{l:List Int}:srcV H 1 (sl l)=some (l.length,ints l):=by
 unfold srcV
 have h:Nat.ble (l.length*1) (ints l).length=true:=Nat.ble_eq_true_of_le (by rw[Qbs];omega)
 simp only[h,cond_true]
 rw[Nat.mul_one,List.take_of_length_le (by rw[Qbs];omega)]
theorem srcI_nil{H:T O}{h:Nat}{t:Nat}{sp:Option Nat}{room:Option Nat}(hg:gt H h=some (.row t sp [])):srcV H 1 (.sl h 0 0 room)=some (0,[]):=by
 rw[Qak]at hg
 unfold srcV
 dsimp only
 rw[hg]
 rfl
def solL(N:List Mc)(R:List (List Int))(s u:List Int):List Int:=(List.range N.length).map (sol N R s u)
theorem Qc7{N:List Mc}{R:List (List Int)}{s u:List Int}:(solL N R s u).length=N.length:=by simp[solL]
theorem Qmw{N:List Mc}{R:List (List Int)}{s u:List Int}{i:Nat}(h:i<N.length):(solL N R s u).getD i 0=sol N R s u i:=by
 unfold solL
 rw[List.getD_eq_getElem?_getD,List.getElem?_map,List.getElem?_range h];rfl
def wK(N:List Mc)(f:Nat->Int)(s:List Int):Nat->List Int
 |0=>s
 |k+1=>goF N f 26 k (wK N f s k)
theorem Qu1{N:List Mc}{f:Nat->Int}{s:List Int}(h:InvW N f s s): ∀k,InvW N f s (wK N f s k)
 |0=>h
 |k+1=>Ql6 26 k _ (Qu1 h k)
theorem wK_pos{N:List Mc}{f:Nat->Int}{s:List Int}(h:InvW N f s s)(hf: ∀i,i<N.length->0<=f i): ∀k,k<=N.length->∀i,i<k->0<=(wK N f s k).getD i 0
 |0,_,_,h=>by omega
 | k + 1, hk, i, hi => by
  show 0<=(goF N f 26 k (wK N f s k)).getD i 0
  have hl:=(Qu1 h k).1
  by_cases hik:i=k
  ·subst hik
   exact goF_at (m:=25) hf o_ hl
  ·exact(Qn1 hf 26 k _ i o_ hl (wK_pos h hf k o_ i o_)).1
abbrev rkS(g:Int)(n:Nat)(R:List V)(q:Nat)(N:List V)(W:Int)(u w:List Int)(k:Nat):SL:={sl:=[(7,.ptr 3 0),(8,.ptr 4 0),(14,.sl 2 0 q none),(15,i6 (q:Nat)),(16,i6 (k:Nat))],os:=ruO g n R q N W u w,md:=[0,0,0,1,1]}
section
variable (g:Int) (R:List (List Int)) (N:List Mc) (W:Int) (s u:List Int) (hN:NdOk R N) (hu:Qki R u) (hs:SetL N s)
include hN hu hs
theorem run_loop:Sat Pg none 0 (at' 44 [1,1,1,1,0,1,0]) (mkSt g0 24 (rkS g R.length (rtL R) N.length (mcL N) W u s 0)) (Qad g0 24 [(True,.exit 0,{sl:=[(7,.ptr 1 0)],os:=[.row 3 (some 1) (ints (solL N R s u)),.row 36 none [.sl 0 0 N.length none]],md:=[0,1]})]):=by
 have hRR:=Qah R
 have hNN:=Qaj N
 have huu:=Qaa u
 obtain⟨rk,hr⟩:=hN.rk
 have hbd:=Qow hN hu hs
 have hpl: ∀k,k<N.length->Qba (N.getD k mc0).fr N.length:=fun k hk=>(hN.fr k hk).1
 have hinv0:InvW N (sol N R s u) s s:=⟨hs.1,fun i hi h=>by
  rw[Qox hpl hr hi,if_pos (h.elim id id)]⟩
 have xf:=Qu1 hinv0
 have hq:=hN.q
 refine Qav vE_ok mixed Qab (b:=at' 44 [1,1,1,1,0,1,0,0]) k_ (fun k=>k<=N.length) (fun k=>rkS g R.length (rtL R) N.length (mcL N) W u (wK N (sol N R s u) s k) k) (fun k=>N.length-k) (fun k hk=>?_) 0 (Nat.zero_le _)
 by_cases hlt:k<N.length
 ·have hc := run_go g R N W s u hN hu hs rk hr 26 k _ hlt (by have := (hr k hlt).1; omega) (xf k)
  have e1:wK N (sol N R s u) s (k+1)=goF N (sol N R s u) 26 k (wK N (sol N R s u) s k):=rfl
  rw[<-e1]at hc
  clear e1
  generalize hw1:wK N (sol N R s u) s (k+1)=w1 at*
  generalize wK N (sol N R s u) s k=w0 at*
  generalize sol N R s u k=v at*
  have hw1h:=Qaa w1
  have hw0h:=Qaa w0
  have hcc:CallSpec Pg g0 (.fn 74 ruC) [i6 (k:Nat)] (ofOs .e 0 (ruO g R.length (rtL R) N.length (mcL N) W u w0)) 5 ⟨i6 v,ofOs .e 0 (ruO g R.length (rtL R) N.length (mcL N) W u w1),5,[2]⟩:=CallSpec.caps hc
  refine .inl ⟨k+1,[0,1,2,3,4],[yes 17,(21,.call ⟨i6 v,ofOs .e 0 (ruO g R.length (rtL R) N.length (mcL N) W u w1),5,[2]⟩),nu 22 ((k+1:Nat):Int)],1000,hlt,by omega,?_⟩
  clear xf hinv0 hbd hpl hr hN hu hs hc
  generalize rtL R=RR at*
  generalize mcL N=NN at*
  refine m_ (p:=let z4:=Bn [Zz,Sm N.length];let z0:=[i6 g,V.im R.length RR,V.im N.length NN,i6 W];let z1:=ints (wK N (sol N R s u) s (k+1));let z2:=(N.length:Int);let z3:=(↑(k+1):Int);Bn [decide ((k:Int)<z2)=true,CallSpec Try.prog g0 (V.fn 74 ruC) [i6 k] (ofOs T.e 0 (ruO g R.length RR N.length NN W u w0)) 5 (CR.mk (i6 v) (ofOs T.e 0 (ruO g R.length RR N.length NN W u w1)) 5 [2]),Tt,wr .i64 ((k:Int)+1)=z3,Bn [Zz,Zz,z4,z2=z2,z3=z3],An [z0=z0,TT 4],Bn [Sm [sl u],Tt],An [z1=ints w1,HfL z1],Bn [z4],Bn [Bn [Zz,Zz,Zz,Zz]]]) ?_
  (repeat'(first|(with_reducible apply And.intro)|(refine fun(_:True)=>?_)))<;>first|exact aq|skip
  all_goals first|exact hcc|(rw[hw1];done)|skip
 ·have hk2 : k = N.length := by omega
  have eL:wK N (sol N R s u) s k=solL N R s u:=by
   have hp:=wK_pos hinv0 (fun i hi=>(hbd i hi).1) N.length (Nat.le_refl _)
   have hl:=(xf N.length).1
   rw[hk2]
   apply List.ext_getElem?
   intro i
   by_cases hi:i<N.length
   ·have a1 := (xf N.length).2 i hi (.inl (hp i hi))
    have a2:=Qmw (R:=R) (s:=s) (u:=u) hi
    rw[List.getD_eq_getElem?_getD,List.getElem?_eq_getElem o_]at a1
    rw[List.getD_eq_getElem?_getD,List.getElem?_eq_getElem (by rw[Qc7];omega)]at a2
    simp only[Option.getD_some]at a1 a2
    rw[List.getElem?_eq_getElem o_,List.getElem?_eq_getElem (by rw[Qc7];omega),a1,a2]
   ·rw[List.getElem?_eq_none o_,List.getElem?_eq_none (by rw[Qc7];omega)]
  have eL2:=Qc7 (N:=N) (R:=R) (s:=s) (u:=u)
  rw[eL]
  generalize solL N R s u=L at*
  have hLL:=Qaa L
  subst hk2
  refine .inr ⟨.exit 0,[2,3],{sl:=[(7,.ptr 1 0)],os:=[.row 3 (some 1) (ints L),.row 36 none [.sl 0 0 N.length none]],md:=[0,1]},[no 17],1000,.inl ⟨trivial,rfl,rfl⟩,?_⟩
  clear xf hinv0 hbd hpl hr hN hu hs eL
  generalize rtL R=RR at*
  generalize mcL N=NN at*
  refine m_ (p:=Bn [decide ((N.length:Int)<(N.length:Int))=false,Bn [Zz],An [Sm (ints L),HfL (ints L)],Bn [Bn [Zz,Sm N.length]]]) ?_
  (repeat'(first|(with_reducible apply And.intro)|(refine fun(_:True)=>?_)))<;>first|exact aq|skip
  all_goals first|(intro _;exact⟨_,rfl⟩)|skip
theorem run_own:CallSpec Pg g0 (.fn 44 []) [.agg [i6 g,.im R.length (rtL R),.im N.length (mcL N),i6 W],sl u,sl s] .e 0 ⟨.sl 0 0 N.length none,ofOs .e 0 [.row 3 (some 1) (ints (solL N R s u))],1,[]⟩:=by
 have hRR:=Qah R
 have hNN:=Qaj N
 have huu:=Qaa u
 have hss:=Qaa s
 have hlo:=run_loop g R N W s u hN hu hs
 have hq:=hN.q
 have hsl:=hs.1
 have hLl:=Qc7 (N:=N) (R:=R) (s:=s) (u:=u)
 generalize solL N R s u=L at*
 have hLL:=Qaa L
 refine CallSpec.of_vcH (P:=Pg) (E:=vE) vE_ok mixed Qab (n:=1000) (f:=44) (os0:=[]) (r:=[0]) (S:={sl:=[(6,.sl 0 0 N.length none)],os:=[.row 3 (some 1) (ints L)]}) (hs:=[(12,.cp N.length (ints s)),(0,.loop [0,1,3,4,5] (rkS g R.length (rtL R) N.length (mcL N) W u s 0) [(True,.exit 0,{sl:=[(7,.ptr 1 0)],os:=[.row 3 (some 1) (ints L),.row 36 none [.sl 0 0 N.length none]],md:=[0,1]})])]) (by simp) (fun i hi=>absurd hi (Nat.not_lt_zero _)) ?_
 clear hN hu hs
 generalize rtL R=RR at*
 generalize mcL N=NN at*
 generalize N.length=q at*
 refine m_ (p:=let z0:=[i6 g,V.im R.length RR,V.im q NN,i6 W];let z1:=V.sl 0 0 q none;let z2:=O.row 36 none [sl u];Bn [z1=z1,An [srcV (pt (pt (pt (ofOs T.e 0 []) 0 (O.row 106 none z0)) 1 z2) 2 (O.row 3 none [])) 1 (sl s)=some (q,ints s),srcV (pt (pt (pt (ofOs T.e 0 []) 0 (O.row 106 none z0)) 1 z2) 2 (O.row 3 none [])) 1 (V.sl 2 0 0 (some 0))=some (0,[]),1<=q,q<=9223372036854775807,q*8<=140737488355328],Bn [Bn [Zz,Zz,Bn [Zz,q=q],Sm (q:Int),((0:Nat):Int)=(0:Int)],An [z0=z0,TT 4],Bn [Sm [sl u],Tt],An [Sm (ints s),HfL (ints s)],Bn [Bn [Zz,q=q]],Bn [Bn [Zz,Zz,Zz,Zz]]],Sat Pg none 0 (at' 44 [1,1,1,1,0,1,0]) (mkSt g0 24 (rkS g R.length RR q NN W u s 0)) (Qad g0 24 [(True,Ex.exit 0,SL.mk [(7,V.ptr 1 0)] [O.row 3 (some 1) (ints L),O.row 36 none [z1]] [] [0,1])]),(True->Bn [Bn [Bn [Zz,q=q]],An [Sm (ints L),HfL (ints L)]])]) ?_
 (repeat'(first|(with_reducible apply And.intro)|(refine fun(_:True)=>?_)))<;>first|exact aq|skip
 all_goals first|exact hlo|exact Qt6|(rw[<-hsl];exact Qt6)|exact srcI_nil rfl|skip
end
set_option maxHeartbeats 1000000
set_option maxRecDepth 100000
def rtN(R:List (List Int))(i:Nat):Nat:=(R.getD i []).length
def xq(R:List (List Int))(x:Nat):Nat->Nat
 |0=>x
 |t+1=>xq R x t/rtN R (R.length-1-t)
def dgt(R:List (List Int))(x t:Nat):Nat:=xq R x t%rtN R (R.length-1-t)
def wq(R:List (List Int))(x:Nat):Nat->Int
 |0=>1
 |t+1=>wq R x t*(R.getD (R.length-1-t) []).getD (dgt R x t) 0
def dl(R:List (List Int))(x:Nat)(l:List Int):Nat->List Int
 |0=>l
 |t+1=>(dl R x l t).set (R.length-1-t) (dgt R x t:Nat)
def wld(R:List (List Int))(x:Nat):List Int:=dl R x (List.replicate R.length 0) R.length
def wgt(R:List (List Int))(x:Nat):Int:=wq R x R.length
theorem Qdg{R:List (List Int)}{x:Nat}{l:List Int}: ∀t,(dl R x l t).length=l.length
 |0=>rfl
 |t+1=>by unfold dl;rw[List.length_set,Qdg t]
theorem dl_at{R:List (List Int)}{x:Nat}{l:List Int}(hl:l.length=R.length): ∀t,t<=R.length->∀i,R.length-t<=i->i<R.length->(dl R x l t).getD i 0=(dgt R x (R.length-1-i):Nat)
 |0,_,i,h1,h2=>by omega
 | t + 1, ht, i, h1, h2 => by
  unfold dl
  rw[List.getD_eq_getElem?_getD,List.getElem?_set]
  by_cases hi:R.length-1-t=i
  ·rw [if_pos hi, if_pos (by rw [Qdg, hl]; omega)]
   subst hi
   rw[show R.length-1-(R.length-1-t)=t by omega];rfl
  ·rw [if_neg hi, <- List.getD_eq_getElem?_getD]
   exact dl_at hl t o_ i o_ h2
theorem dl_wld{R:List (List Int)}{x:Nat}{l:List Int}(hl:l.length=R.length):dl R x l R.length=wld R x:=by
 unfold wld
 apply List.ext_getElem?
 intro i
 by_cases hi:i<R.length
 ·have h1 := dl_at (x := x) hl R.length (Nat.le_refl _) i o_ hi
  have h2:=dl_at (x:=x) (l:=List.replicate R.length 0) (by simp) R.length (Nat.le_refl _) i o_ hi
  rw[List.getD_eq_getElem?_getD,List.getElem?_eq_getElem (by rw[Qdg];omega)]at h1
  rw[List.getD_eq_getElem?_getD,List.getElem?_eq_getElem (by rw[Qdg];simpa using hi)]at h2
  simp only[Option.getD_some]at h1 h2
  rw[List.getElem?_eq_getElem (by rw[Qdg];omega),List.getElem?_eq_getElem (by rw[Qdg];simpa using hi),h1,h2]
 ·rw[List.getElem?_eq_none (by rw[Qdg];omega),List.getElem?_eq_none (by rw[Qdg];simp;omega)]
theorem Qda{R:List (List Int)}{x:Nat}:(wld R x).length=R.length:=by unfold wld;rw[Qdg];simp
theorem Qu3{R:List (List Int)}{x i:Nat}(h:i<R.length):(wld R x).getD i 0=(dgt R x (R.length-1-i):Nat):=dl_at (by simp) R.length (Nat.le_refl _) i o_ h
theorem Qo4{R:List (List Int)}(hr: ∀k,k<R.length->1<=(R.getD k []).length)(x:Nat):Qki R (wld R x):=by
 refine⟨Qda,fun k hk=>?_⟩
 rw[Qu3 hk]
 have:=Nat.mod_lt (xq R x (R.length-1-k)) (show 0<rtN R (R.length-1-(R.length-1-k))by
  rw[show R.length-1-(R.length-1-k)=k by omega];exact hr k hk)
 unfold dgt
 rw[show R.length-1-(R.length-1-k)=k by omega]at*
 unfold rtN at*
 omega
theorem xq_le{R:List (List Int)}{x:Nat}: ∀t,xq R x t<=x
 |0=>Nat.le_refl _
 |t+1=>Nat.le_trans (Nat.div_le_self _ _) (xq_le t)
def WtOk(R:List (List Int)):Prop:=∀k,k<R.length->1<=(R.getD k []).length/\(R.getD k []).length<=4/\∀j,j<(R.getD k []).length->0<=(R.getD k []).getD j 0/\(R.getD k []).getD j 0<=12
theorem wq_bd{R:List (List Int)}(h:WtOk R){x:Nat}: ∀t,t<=R.length->0<=wq R x t/\wq R x t<=((12^t:Nat):Int)
 |0,_=>by simp[wq]
 |t+1,ht=>by
  obtain⟨h1,h2⟩:=wq_bd h (x:=x) t o_
  obtain⟨a,b,c⟩:=h (R.length-1-t) o_
  have hd:dgt R x t<(R.getD (R.length-1-t) []).length:=Nat.mod_lt _ (by show 0<(R.getD _ []).length;omega)
  obtain⟨h3,h4⟩:=c _ hd
  unfold wq
  refine⟨Int.mul_nonneg h1 h3,?_⟩
  rw[Nat.pow_succ,Int.natCast_mul]
  exact Int.mul_le_mul h2 h4 h3 o_
def prodT(cs:List Int):Nat->Int
 |0=>1
 |k+1=>prodT cs k*cs.getD k 0
theorem Qbn{l:List Int}{k:Nat}{x:Int}(h:k<l.length):(l.set k x).getD k 0=x:=by
 rw[List.getD_eq_getElem?_getD,List.getElem?_set_self h];rfl
theorem Qbr{l:List Int}{k j:Nat}{x:Int}(h:k≠j):(l.set k x).getD j 0=l.getD j 0:=by
 rw[List.getD_eq_getElem?_getD,List.getElem?_set_ne h,<-List.getD_eq_getElem?_getD]
def nxV(cs:List Int):List Int->Nat->List Int
 |vs,0=>vs
 |vs,k+1=>if vs.getD k 0=cs.getD k 0-1 then nxV cs (vs.set k 0) k else vs.set k (vs.getD k 0+1)
def nxB(cs:List Int):List Int->Nat->Bool
 | _,0=>false
 |vs,k+1=>if vs.getD k 0=cs.getD k 0-1 then nxB cs (vs.set k 0) k else true
theorem Qsy(cs:List Int): ∀(k:Nat)(vs:List Int),(nxV cs vs k).length=vs.length
 |0,_=>rfl
 |k+1,vs=>by
  unfold nxV
  split
  ·rw[Qsy cs k];simp
  ·simp
def valT(cs vs:List Int)(k:Nat):Prop:=∀i,i<k->0<=vs.getD i 0/\vs.getD i 0<cs.getD i 0
def idxT(cs vs:List Int):Nat->Int
 |0=>0
 |k+1=>idxT cs vs k*cs.getD k 0+vs.getD k 0
theorem Qjj{cs:List Int}: ∀{k j:Nat}{vs:List Int}{x:Int},k<=j->idxT cs (vs.set j x) k=idxT cs vs k
 |0,_,_,_,_=>rfl
 |k+1,j,vs,x,h=>by
  unfold idxT
  rw[Qjj o_,Qbr o_]
theorem Qr8{cs:List Int}: ∀{k:Nat}{vs:List Int},valT cs vs k->0<=idxT cs vs k/\idxT cs vs k<prodT cs k
 |0,_,_=>⟨Int.le_refl _,by show(0:Int)<1;decide⟩
 |k+1,vs,h=>by
  have ih:=@Qr8 cs k vs (fun i hi=>h i o_)
  have hk:=h k o_
  have h1:=Int.mul_nonneg ih.1 (show 0<=cs.getD k 0 by omega)
  have h2:=Int.mul_le_mul_of_nonneg_right (show idxT cs vs k+1<=prodT cs k by omega) (show 0<=cs.getD k 0 by omega)
  rw[Int.add_mul]at h2
  unfold idxT prodT
  omega
theorem Qmi{cs:List Int}: ∀{k:Nat}{vs:List Int},valT cs vs k->k<=vs.length->(nxB cs vs k=true->valT cs (nxV cs vs k) k/\idxT cs (nxV cs vs k) k=idxT cs vs k+1)/\(nxB cs vs k=false->idxT cs vs k+1=prodT cs k)
 |0,vs,_,_=>⟨fun h=>(by cases h),fun _=>rfl⟩
 | k + 1, vs, h, hl => by
  have hk:=h k o_
  have hr:valT cs vs k:=fun i hi=>h i o_
  unfold nxB nxV
  by_cases he:vs.getD k 0=cs.getD k 0-1
  ·rw [if_pos he, if_pos he]
   have hs:valT cs (vs.set k 0) k:=fun i hi=>by rw[Qbr o_];exact hr i hi
   have ih:=@Qmi cs k (vs.set k 0) hs (by simp;omega)
   rw[Qjj (Nat.le_refl _)]at ih
   have hg: ∀(k':Nat)(w:List Int),k'<=k->(nxV cs w k').getD k 0=w.getD k 0:=by
    intro k'
    induction k' with
    |zero=>intro w _;rfl
    |succ k' ihk=>
     intro w hw
     unfold nxV
     split
     ·rw[ihk _ o_,Qbr o_]
     ·rw[Qbr o_]
   have hz:(nxV cs (vs.set k 0) k).getD k 0=0:=by rw[hg k _ (Nat.le_refl _),Qbn o_]
   refine⟨fun hb=>?_,fun hb=>?_⟩
   ·obtain ⟨h1, h2⟩ := ih.1 hb
    refine⟨fun i hi=>?_,?_⟩
    ·by_cases hik : i = k
     ·subst hik;rw[hz];omega
     ·exact h1 i o_
    ·unfold idxT
     rw[h2,hz,he,Int.add_mul]
     omega
   ·have h2 := ih.2 hb
    unfold idxT prodT
    rw[<-h2,he,Int.add_mul]
    omega
  ·rw [if_neg he, if_neg he]
   refine⟨fun _=>⟨fun i hi=>?_,?_⟩,fun hb=>by cases hb⟩
   ·by_cases hik : i = k
    ·subst hik;rw[Qbn o_];omega
    ·rw[Qbr o_];exact h i hi
   ·unfold idxT
    rw[Qjj (Nat.le_refl _),Qbn o_]
    omega
def cmb(cs:List Int):Nat->List Int
 |0=>List.replicate cs.length 0
 |j+1=>nxV cs (cmb cs j) cs.length
theorem Qcz(cs:List Int): ∀j,(cmb cs j).length=cs.length
 |0=>by simp[cmb]
 |j+1=>by rw[cmb,Qsy,Qcz cs j]
theorem Qn0(n k:Nat):(List.replicate n (0:Int)).getD k 0=0:=by
 rw[List.getD_eq_getElem?_getD,List.getElem?_replicate];split<;>rfl
theorem Qk9(cs:List Int): ∀k,idxT cs (List.replicate cs.length 0) k=0
 |0=>rfl
 |k+1=>by unfold idxT;rw[Qk9 cs k,Qn0];simp
theorem Qky{cs:List Int}(hc: ∀i,i<cs.length->1<=cs.getD i 0): ∀{j:Nat},(j:Int)<prodT cs cs.length->valT cs (cmb cs j) cs.length/\idxT cs (cmb cs j) cs.length=j
 |0,_=>⟨fun i hi=>by rw[cmb,Qn0];have:=hc i hi;omega,by rw[cmb,Qk9];rfl⟩
 |j+1,h=>by
  obtain⟨h1,h2⟩:=@Qky cs hc j o_
  have hs:=Qmi h1 (by rw[Qcz];exact Nat.le_refl _)
  cases hb:nxB cs (cmb cs j) cs.length with
  |true=>obtain⟨a,b⟩:=hs.1 hb;exact⟨a,by rw[cmb,b,h2];omega⟩
  |false=>have:=hs.2 hb;omega
theorem cmb_more{cs:List Int}(hc: ∀i,i<cs.length->1<=cs.getD i 0){j:Nat}(h:(j:Int)<prodT cs cs.length):nxB cs (cmb cs j) cs.length=decide ((j:Int)+1<prodT cs cs.length):=by
 obtain⟨h1,h2⟩:=Qky hc h
 have hs:=Qmi h1 (by rw[Qcz];exact Nat.le_refl _)
 cases hb:nxB cs (cmb cs j) cs.length with
 |true=>
  obtain⟨a,b⟩:=hs.1 hb
  have:=Qr8 a
  rw[decide_eq_true o_]
 |false=>
  have:=hs.2 hb
  rw[decide_eq_false o_]
def nxK(cs:List Int):List Int->Nat->Nat
 | _,0=>0
 |vs,k+1=>if vs.getD k 0=cs.getD k 0-1 then nxK cs (vs.set k 0) k else k+1
theorem nxK_B{cs:List Int}: ∀{k:Nat}{vs:List Int},(nxB cs vs k=true->1<=nxK cs vs k)/\(nxB cs vs k=false->nxK cs vs k=0)
 |0,vs=>⟨fun h=>(by cases h),fun _=>rfl⟩
 | k + 1, vs => by
  unfold nxB nxK
  by_cases he:vs.getD k 0=cs.getD k 0-1
  ·rw [if_pos he, if_pos he]
   exact @nxK_B cs k (vs.set k 0)
  ·rw [if_neg he, if_neg he]
   exact⟨fun _=>by omega,fun h=>by cases h⟩
def mkC(cs:List Int)(s:Nat):List Int:=(List.range cs.length).map fun i=>if s.testBit i then cs.getD i 0 else 1
theorem Qbi{cs:List Int}{s:Nat}:(mkC cs s).length=cs.length:=by simp[mkC]
theorem Qld{cs:List Int}{s i:Nat}(h:i<cs.length):(mkC cs s).getD i 0=if s.testBit i then cs.getD i 0 else 1:=by
 unfold mkC
 rw[List.getD_eq_getElem?_getD,List.getElem?_map,List.getElem?_eq_getElem (by simpa using h)]
 simp
theorem Qsu{cs:List Int}{s:Nat}(hc: ∀i,i<cs.length->1<=cs.getD i 0/\cs.getD i 0<=4): ∀i,i<cs.length->1<=(mkC cs s).getD i 0/\(mkC cs s).getD i 0<=4:=fun i hi=>by
 rw[Qld hi]
 split
 ·exact hc i hi
 ·omega
theorem Qga{cs:List Int}(hc: ∀i,i<cs.length->1<=cs.getD i 0/\cs.getD i 0<=4): ∀k,k<=cs.length->1<=prodT cs k/\prodT cs k<=4^k
 |0,_=>by simp[prodT]
 |k+1,h=>by
  obtain⟨h1,h2⟩:=Qga hc k o_
  obtain⟨h3,h4⟩:=hc k o_
  show 1<=prodT cs k*cs.getD k 0/\prodT cs k*cs.getD k 0<=4^(k+1)
  rw[Int.pow_succ]
  generalize prodT cs k=a at*
  generalize cs.getD k 0=c at*
  refine⟨?_,Int.mul_le_mul h2 h4 o_ o_⟩
  have:=Int.mul_le_mul h1 h3 o_ (show 0<=a by omega)
  simpa using this
theorem set_same{l:List Int}{k:Nat}{x:Int}(h:l.getD k 0=x):l.set k x=l:=by
 apply List.ext_getElem?
 intro i
 rw[List.getElem?_set]
 by_cases hk:k=i
 ·subst hk
  rw[if_pos rfl]
  by_cases hl:k<l.length
  ·rw [if_pos hl, List.getElem?_eq_getElem hl]
   rw[List.getD_eq_getElem?_getD,List.getElem?_eq_getElem hl]at h
   exact congrArg some h.symm
  ·rw[if_neg hl,List.getElem?_eq_none o_]
 ·rw[if_neg hk]
theorem bit01(s k:Nat):(s.testBit k=true↔s/2^k%2=1)/\(s.testBit k=false↔s/2^k%2=0):=by
 rw[Nat.testBit_eq_decide_div_mod_eq]
 have:=Nat.mod_lt (s/2^k) (show 0<2 by decide)
 constructor
 ·exact⟨fun h=>of_decide_eq_true h,fun h=>decide_eq_true h⟩
 ·exact⟨fun h=>by have:=of_decide_eq_false h;omega,fun h=>decide_eq_false o_⟩
abbrev rw3(l:List Int):O:=.row 3 none (ints l)
theorem tmod_nat(x y:Nat):((x:Nat):Int).tmod ((y:Nat):Int)=((x%y:Nat):Int):=rfl
theorem tdiv_nat(x y:Nat):((x:Nat):Int).tdiv ((y:Nat):Int)=((x/y:Nat):Int):=rfl
abbrev woS(g:Int)(nR:Nat)(RR:List V)(q:Nat)(NN:List V)(W:Nat)(hd hv k:Nat):List (Nat×V):=[(0,.yld hd),(1,.imp [i6 g,.im nR RR,.im q NN,i6 (W:Nat)]),(3,.sl hv 0 nR (some (nR-nR))),(14,i6 (W:Nat)),(15,i6 (k:Nat))]
abbrev wjS(g:Int)(nR:Nat)(RR:List V)(q:Nat)(NN:List V)(W:Nat)(hd hv k:Nat)(w:Int)(x:Nat)(j:Int):List (Nat×V):=[(0,.yld hd),(1,.imp [i6 g,.im nR RR,.im q NN,i6 (W:Nat)]),(3,.sl hv 0 nR (some (nR-nR))),(14,i6 (W:Nat)),(15,i6 (k:Nat)),(5,i6 w),(6,i6 (x:Nat)),(7,i6 j)]
abbrev wxS(g:Int)(nR:Nat)(RR:List V)(q:Nat)(NN:List V)(W:Nat)(hd hv k:Nat)(w:Int):List (Nat×V):=[(0,.yld hd),(1,.imp [i6 g,.im nR RR,.im q NN,i6 (W:Nat)]),(3,.sl hv 0 nR (some (nR-nR))),(14,i6 (W:Nat)),(15,i6 (k:Nat)),(5,i6 w)]
abbrev wdQ(H0:T O)(hv nx0:Nat)(l:List Int)(L:List Nat)(_:Nat)(H:T O)(nx:Nat)(lg:List Nat):Prop:=H=pt H0 hv (rw3 l)/\nx=nx0/\SubL lg L
section
variable (g:Int) (R:List (List Int)) (q:Nat) (NN:List V) (W:Nat) (hR:WtOk R) (hn:R.length<=8) (hNN:HfL NN)
include hR hn hNN
theorem Qlz(nx0 hd hv nx k:Nat)(hk:k<=65536)(l:List Int)(hl:l.length=R.length)(H0:T O)(L lg0:List Nat)(hL:hv∈L)(hlg:SubL lg0 L):
  Sat Pg none nx0 (at' 73 [1,1,0,0,1,1,0,0,1,1,0,1,0]) (mkSo g0 67 (wjS g R.length (rtL R) q NN W hd hv k 1 k ((R.length:Int)-1)) (pt H0 hv (rw3 l)) nx lg0) (Qbq g0 67 (.exit 2) (fun _=>wxS g R.length (rtL R) q NN W hd hv k (wgt R k)) (wdQ H0 hv nx (wld R k) L)):=by
 have hRR:=Qah R
 have e00:(R.length:Int)-1=(R.length:Int)-1-(0:Nat):=by omega
 rw[e00]
 refine(Qha (b:=at' 73 [1,1,0,0,1,1,0,0,1,1,0,1,0,0]) k_ (fun(t:Nat) M=>t<=R.length/\M.H=pt H0 hv (rw3 (dl R k l t))/\M.nx=nx/\SubL M.lg L) (fun t=>wjS g R.length (rtL R) q NN W hd hv k (wq R k t) (xq R k t) ((R.length:Int)-1-(t:Nat))) (fun t=>R.length-t) (fun e sl M=>e= .exit 2/\sl=wxS g R.length (rtL R) q NN W hd hv k (wgt R k)/\wdQ H0 hv nx (wld R k) L 0 M.H M.nx M.lg) (fun t H nx1 lg G hI hN hE hR2=>?_) 0 ⟨_,_,_⟩ ⟨Nat.zero_le _,rfl,rfl,hlg⟩).mono ?_
 ·obtain ⟨ht, rfl, rfl, hs⟩ := hI
  dsimp only at ht hs
  by_cases hlt:t<R.length
  ·obtain ⟨j, hj⟩ : ∃ j : Nat, j = R.length - 1 - t := ⟨_, rfl⟩
   have ej:(R.length:Int)-1-(t:Nat)=(j:Nat):=by omega
   have ej2:(R.length:Int)-1-((t+1:Nat):Int)=(j:Int)-1:=by omega
   obtain⟨r1,r2,r3⟩:=hR j o_
   have hrt:=Qff (R:=R) (k:=j) o_
   have hdl:=Qdg (R:=R) (x:=k) (l:=l) t
   have hwb:=wq_bd hR (x:=k) t ht
   have hwb2:=wq_bd hR (x:=k) (t+1) hlt
   have h12:12^(t+1)<=12^8:=Nat.pow_le_pow_right d_ o_
   have h12a:12^t<=12^8:=Nat.pow_le_pow_right d_ o_
   have h128:12^8=429981696:=rfl
   have hx:=xq_le (R:=R) (x:=k) t
   have hdg:dgt R k t<(R.getD j []).length:=by
    have:=Nat.mod_lt (xq R k t) (show 0<rtN R (R.length-1-t)by rw[<-hj];exact r1)
    rw[<-hj]at this
    unfold dgt;rw[<-hj];exact this
   have ed:((dgt R k t:Nat):Int)=((xq R k t:Nat):Int).tmod (((R.getD j []).length:Nat):Int):=by
    rw[tmod_nat];unfold dgt rtN;rw[hj]
   have ex:((xq R k (t+1):Nat):Int)=((xq R k t:Nat):Int).tdiv (((R.getD j []).length:Nat):Int):=by
    rw[tdiv_nat];show((xq R k t/rtN R (R.length-1-t):Nat):Int)=_;unfold rtN;rw[hj]
   have ew:wq R k (t+1)=wq R k t*(R.getD j []).getD (dgt R k t) 0:=by rw[hj];rfl
   have edl:dl R k l (t+1)=(dl R k l t).set j (dgt R k t:Nat):=by rw[hj];rfl
   have hx2:=xq_le (R:=R) (x:=k) (t+1)
   have jg:=fun lg' h=>hN (t+1) (pt (pt H0 hv (rw3 (dl R k l t))) hv (rw3 (dl R k l (t+1)))) nx1 lg' ⟨hlt,Qhm _ _ _ _,rfl,h⟩ o_
   rw[ej2]at jg
   rw[ej]
   have hlay:=Qa3 (l:=dl R k l t) (j:=j) (x:=(dgt R k t:Nat)) (by rw[hdl,hl];omega)
   rw[<-edl]at hlay
   have hh2:=Qbo (l:=dl R k l (t+1)) (k:=j) (by rw[Qdg,hl];omega)
   have e5:(dl R k l (t+1)).getD j 0=(dgt R k t:Nat):=by
    rw[edl,List.getD_eq_getElem?_getD,List.getElem?_set,if_pos rfl,if_pos (by rw[hdl,hl];omega)];rfl
   rw[e5]at hh2
   have hrv:=Qag (l:=R.getD j []) (k:=dgt R k t) hdg
   generalize (R.getD j []).getD (dgt R k t) 0=rv at*
   generalize R.getD j []=Lj at*
   have hLj:=Qaa Lj
   generalize dl R k l (t+1)=d2 at*
   generalize dl R k l t=d1 at*
   generalize dgt R k t=dg at*
   generalize xq R k (t+1)=x2 at*
   generalize xq R k t=x1 at*
   generalize wq R k (t+1)=w2 at*
   generalize wq R k t=w1 at*
   have s1:=rem6 (G:=Qac Pg) (t:=3) (x:=(x1:Nat)) (y:=(Lj.length:Nat)) o_
   have s2:=quo6 (G:=Qac Pg) (t:=3) (x:=(x1:Nat)) (y:=(Lj.length:Nat)) o_ o_ o_
   rw[<-ed]at s1
   rw[<-ex]at s2
   have g1:gt (pt H0 hv (rw3 d1)) hv=some (rw3 d1):=by rw[gt_pt,if_pos rfl]
   have g2:gt (pt (pt H0 hv (rw3 d1)) hv (rw3 d2)) hv=some (rw3 d2):=by rw[gt_pt,if_pos rfl]
   have hfin:=jg ([hv]++lg) (fun g hg=>by
    rcases List.mem_cons.1 hg with rfl|hg
    ·exact hL
    ·exact hs g hg)
   refine⟨[yes 23,pl 33,ld 34 (sl Lj),va 36 (i6 (dg:Nat)),pl 37,so (rw3 d1) (ints d2),pl 43,ld 44 (sl Lj),va 46 (i6 (x2:Nat)),pl 52,ld 53 (sl Lj),pl 56,lo_ 57 (rw3 d2) (i6 (dg:Nat)),pl 58,ld 59 (i6 rv),nu 60 w2,nu 25 ((j:Int)-1),toO (wjS g R.length (rtL R) q NN W hd hv k w2 x2 ((j:Int)-1))],1000,?_⟩
   clear hN hE hR2 hR jg edl e5 ed ex r3
   generalize rtL R=RR at*
   generalize R.length=n at*
   refine m_ (p:=let z0:=(j:Int);let z1:=headF (List.drop (j*1) RR);let z2:=pt (pt H0 hv (rw3 d1)) hv (O.row 3 none (ints d2));let z3:=(0:Int);let z5:=V.imp [i6 g,V.im n RR,V.im q NN,i6 W];let z6:=(n:Int);let z7:=V.sl hv 0 n (some (n-n));let z8:=some (sl Lj);let z4:=(z0-1);Bn [decide (z0>=z3)=true,An [z3<=z0,z0<z6],z1=z8,binV (Qac Try.prog) BinOp.rem 3 (i6 x1) (i6 Lj.length)=some (i6 dg),An [z3<=z0,z0<z6],An [gt (pt H0 hv (rw3 d1)) hv=some (rw3 d1),layE (0+j*1) (ints d1) [i6 dg]=some (ints d2)],An [z3<=z0,z0<z6],z1=z8,binV (Qac Try.prog) BinOp.quo 3 (i6 x1) (i6 Lj.length)=some (i6 x2),An [z3<=z0,z0<z6],z1=z8,An [z3<=z0,z0<z6],gt z2 hv=some (rw3 d2),headF (dropF (0+j*1) (ints d2))=some (i6 dg),An [z3<=(dg:Int),(dg:Int)<(Lj.length:Int)],headF (List.drop (dg*1) (ints Lj))=some (i6 rv),wr .i64 (w1*rv)=w2,wr .i64 z4=z0-1,G Ex.normal (wjS g n RR q NN W hd hv k w2 x2 z4) z2 nx1 ([hv]++lg),Sm (V.yld hd),z5=z5,z7=z7,Sm (i6 W),Sm (i6 k),Sm (i6 w2),Sm (i6 x2),Sm (i6 z4)]) ?_
   (repeat'(first|(with_reducible apply And.intro)|(refine fun(_:True)=>?_)))<;>first|exact aq|skip
   all_goals first|exact s1|exact s2|exact g1|exact g2|exact hrt|exact hlay|exact hh2|exact hrv|exact hfin|(rw[ew,wr6 o_ o_];done)|(rw[<-ew,wr6 o_ o_];done)|skip
  ·have hk2 : t = R.length := by omega
   have hex:=hE 2 (wxS g R.length (rtL R) q NN W hd hv k (wgt R k)) (pt H0 hv (rw3 (dl R k l t))) nx1 lg ⟨rfl,rfl,by rw[hk2,dl_wld hl],rfl,hs⟩
   have ej:(R.length:Int)-1-(t:Nat)= -1:=by omega
   have ew:wq R k t=wgt R k:=by rw[hk2];rfl
   rw[ej,ew]
   generalize wgt R k=w at*
   generalize xq R k t=x1 at*
   refine⟨[toO (wxS g R.length (rtL R) q NN W hd hv k w)],1000,?_⟩
   clear hN hE hR2 hR
   generalize rtL R=RR at*
   generalize R.length=n at*
   refine m_ (p:=Bn [G (Ex.exit 2) (wxS g n RR q NN W hd hv k w) (pt H0 hv (rw3 (dl R k l t))) nx1 lg,Sm (V.yld hd),Sm (V.imp [i6 g,V.im n RR,V.im q NN,i6 W]),Sm (V.sl hv 0 n (some (n-n))),Sm (i6 W),Sm (i6 k),Sm (i6 w)]) ?_
   (repeat'(first|(with_reducible apply And.intro)|(refine fun(_:True)=>?_)))<;>first|exact aq|skip
   all_goals first|exact hex|skip
 ·rintro e st ⟨sl', M', rfl, rfl, rfl, hQ⟩
  exact⟨0,_,_,_,rfl,rfl,hQ⟩
end
end Go.Proofs.Ythjjgipcoeiapaa.Am
