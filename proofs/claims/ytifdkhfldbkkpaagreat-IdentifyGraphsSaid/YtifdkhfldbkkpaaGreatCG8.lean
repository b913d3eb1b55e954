/- Texts behind the claim, part 8: the abstract machine, and what the functions answer. No condition. -/
import Derived.Test.YtifdkhfldbkkpaaGreatCG7
set_option linter.unusedVariables false
set_option maxHeartbeats 4000000
set_option maxRecDepth 100000
set_option linter.unusedSimpArgs false
set_option linter.unusedSectionVars false
namespace Go.Proofs.YtifdkhfldbkkpaaGreat.Am
open Go.RowKit
def plB(R:List (List Int))(N:List Mc)(k:Nat):Bool:=decide (1≤(N.getD k mc0).c)&&decide ((N.getD k mc0).c≤4)&&incB N.length (N.getD k mc0).fr&&incB R.length (N.getD k mc0).no
def plA(R:List (List Int))(N:List Mc):Bool:=(List.range N.length).all (plB R N)
abbrev rr4(g:Int)(nR:Nat)(RR:List V)(nN:Nat)(NN:List V)(hd:Nat)(k:Nat)(p:Int):SL:={sl:=[(1,.ptr 0 0),(3,i6 (hd:Nat)),(4,i6 p),(8,i6 (k:Nat))],os:=[cuO g nR RR nN NN]}
abbrev rr4E(g:Int)(nR:Nat)(RR:List V)(nN:Nat)(NN:List V)(hd:Nat)(p:Int):SL:={sl:=[(1,.ptr 0 0),(3,i6 (hd:Nat)),(4,i6 p)],os:=[cuO g nR RR nN NN]}
theorem rn_loop(g:Int)(R:List (List Int))(N:List Mc)(hq:N.length≤5)(hl:Qbo R N)(hd:Nat):
  Sat Pg none 0 (at' 8 [1,1,1,1,0,1,0]) (mkSt g0 227 (rr4 g R.length (rtL R) N.length (mcL N) hd 0 1)) (Qae g0 227 [(plA R N=true,.exit 4,rr4E g R.length (rtL R) N.length (mcL N) hd (crdP N N.length)),(plA R N=false,.ret,rrF)]):=by
 have hRR:=Qar R
 have hNN:=Qav N
 refine Qaw vE_ok Qaf Qab (b:=at' 8 [1,1,1,1,0,1,0,0]) (by kernel_rfl) (fun q=>q.1≤N.length∧q.2=crdP N q.1∧(1≤q.2∧q.2≤4^q.1)∧∀i,i<q.1→plB R N i=true) (fun q=>rr4 g R.length (rtL R) N.length (mcL N) hd q.1 q.2) (fun q=>N.length-q.1) (fun q hq=>?_) (0,1) ⟨Nat.zero_le _,rfl,by decide,fun i h=>absurd h (Nat.not_lt_zero _)⟩
 obtain⟨k,p⟩:=q
 obtain⟨hk,hp,hpb,hin⟩:=hq
 dsimp only at hk hp hpb hin
 by_cases hlt:k<N.length
 ·have hld := Qdp hlt
  have hx:=hl.2 _ (Qdz (d:=mc0) hlt)
  have hno:plB R N k=false→plA R N=false:=fun h=>Qf1 hlt h
  have hnx:plB R N k=true→∀i,i<k+1→plB R N i=true:=fun hx i hi=>by
   by_cases hiv:i=k
   ·subst hiv;exact hx
   ·exact hin i (by omega)
  have hp2:crdP N (k+1)=p*(N.getD k mc0).c:=by rw[hp];rfl
  have he:plB R N k=(decide (1≤(N.getD k mc0).c)&&decide ((N.getD k mc0).c≤4)&&incB N.length (N.getD k mc0).fr&&incB R.length (N.getD k mc0).no):=rfl
  rw[he]at hno hnx
  have h44:(4:Int)^k≤256:=by
   rcases(by omega:k=0∨k=1∨k=2∨k=3∨k=4)with rfl|rfl|rfl|rfl|rfl<;>decide
  have e44:(4:Int)^(k+1)=4^k*4:=Int.pow_succ ..
  clear he hin
  generalize N.getD k mc0=x at*
  obtain⟨c,fr,nz,ou⟩:=x
  dsimp only at*
  have f1:=Qad fr
  have f2:=Qad nz
  have f3:=Qad ou
  have p1:=Qj6 fr N.length hx.1
  have p2:=Qj6 nz R.length hx.2.1
  by_cases h1:1≤c
  ·by_cases h4 : c ≤ 4
   ·rw [decide_eq_true h1, decide_eq_true h4] at hno hnx
    cases b1:incB N.length fr with
    |false=>
     rw[b1]at p1
     have hf:=hno (by rw[b1];rfl)
     clear hno hnx p2 b1 hl hp2 hp
     refine .inr ⟨.ret,[],rrF,[yes 122,pl 128,ld 129 (.agg (mcC ⟨c,fr,nz,ou⟩)),no 132,no 136,fn 144 (.bool false)],1000,.inr (.inl ⟨hf,rfl,rfl⟩),?_⟩
     try dsimp only
     generalize rtL R=RR at*
     generalize mcL N=NN at*
     generalize R.length=nR at*
     generalize N.length=n at*
     exact m_ (p:=let z0:=(↑k:Int);An [decide (z0<(↑n:Int))=true,An [(0:Int)≤z0,z0<(↑n:Int)],_,decide (c<(1:Int))=false,decide (c>(4:Int))=false,TT 2,_,Tt,An [Sm false,Tt],Tt]) ⟨aq,a_,hld,aq,aq,aq,p1,a_⟩
    | true =>
     rw[b1]at p1
     cases b2:incB R.length nz with
     |false=>
      rw[b2]at p2
      have hf:=hno (by rw[b1,b2];rfl)
      clear hno hnx hl hp2 hp
      refine .inr ⟨.ret,[],rrF,[yes 122,pl 128,ld 129 (.agg (mcC ⟨c,fr,nz,ou⟩)),no 132,no 136,fn 144 (.bool true),fn 153 (.bool false)],1000,.inr (.inl ⟨hf,rfl,rfl⟩),?_⟩
      try dsimp only
      generalize rtL R=RR at*
      generalize mcL N=NN at*
      generalize R.length=nR at*
      generalize N.length=n at*
      exact m_ (p:=let z0:=pt (pt (ofOs T.e 0 [cuO g nR RR n NN]) 1 (O.row 86 none [i6 0,V.nils,V.nils,V.nils])) 1 (O.row 86 none [i6 c,sl fr,sl nz,sl ou]);let z1:=(↑k:Int);An [decide (z1<(↑n:Int))=true,An [(0:Int)≤z1,z1<(↑n:Int)],_,decide (c<(1:Int))=false,decide (c>(4:Int))=false,TT 2,_,Tt,TT 2,_,An [V.fn 37 []=V.fn 37 []→[sl fr,i6 ↑n]=[sl nz,i6 ↑nR]→z0=z0→1+1=2→CR.mk (V.bool true) z0 2 []=CR.mk (V.bool false) z0 2 [],Tt],An [Sm false,Tt],Tt]) ⟨aq,a_,hld,aq,aq,aq,p1,aq,aq,p2,⟨(by (intro _ h9;simp only[List.cons.injEq,V.int.injEq,and_true,true_and]at h9;obtain⟨e1,e2⟩:=h9;have e3:=sl_inj e1;subst e3;rw[e2]at b1;rw[b1]at b2;cases b2)),aq⟩,a_⟩
     |true=>
      rw[b2]at p2
      have hnx:=hnx (by rw[b1,b2];rfl)
      have hm1:1*1≤p*c:=Int.mul_le_mul hpb.1 h1 (by decide) (by omega)
      have hm2:p*c≤4^k*4:=Int.mul_le_mul hpb.2 h4 (by omega) (by omega)
      have hwm:wr .i64 (p*c)=p*c:=Qg9 (by simp[lo];omega) (by simp[hi];omega)
      rw[←hp2]at hwm hm1 hm2
      refine .inl ⟨(k+1,crdP N (k+1)),[0],[yes 122,pl 128,ld 129 (.agg (mcC ⟨c,fr,nz,ou⟩)),no 132,no 136,fn 144 (.bool true),fn 153 (.bool true),nu 159 (crdP N (k+1)),nu 124 ((k+1:Nat):Int)],1000,⟨hlt,rfl,⟨by dsimp only;omega,by dsimp only;omega⟩,hnx⟩,by dsimp only;omega,?_⟩
      try dsimp only
      clear hno hnx b1 b2 hl hp hm1 hm2 hpb e44 h44
      rw[hp2]at hwm⊢
      clear hp2
      generalize hp':p*c=p' at*
      generalize rtL R=RR at*
      generalize mcL N=NN at*
      generalize R.length=nR at*
      generalize N.length=n at*
      exact m_ (p:=let z0:=pt (pt (ofOs T.e 0 [cuO g nR RR n NN]) 1 (O.row 86 none [i6 0,V.nils,V.nils,V.nils])) 1 (O.row 86 none [i6 c,sl fr,sl nz,sl ou]);let z2:=(↑(k+1):Int);let z3:=(↑k:Int);let z4:=[i6 g,V.im nR RR,V.im n NN];An [decide (z3<(↑n:Int))=true,An [(0:Int)≤z3,z3<(↑n:Int)],_,decide (c<(1:Int))=false,decide (c>(4:Int))=false,TT 2,_,Tt,TT 2,_,An [V.fn 37 []=V.fn 37 []→[sl fr,i6 ↑n]=[sl nz,i6 ↑nR]→z0=z0→1+1=2→Sm (CR.mk (V.bool true) z0 2 []),Tt],wr .i64 (p*c)=p',wr .i64 (z3+(1:Int))=z2,An [Zz,Sm (↑hd:Int),p'=p',z2=z2,Tt],An [z4=z4,TT 3],Tt]) ⟨aq,a_,hld,aq,aq,aq,p1,aq,aq,p2,a_⟩
   ·have hf := hno (by rw [decide_eq_false h4, Bool.and_false]; rfl)
    clear hno hnx p1 p2 hl hp2 hp
    refine .inr ⟨.ret,[],rrF,[yes 122,pl 128,ld 129 (.agg (mcC ⟨c,fr,nz,ou⟩)),no 132,yes 136],1000,.inr (.inl ⟨hf,rfl,rfl⟩),?_⟩
    try dsimp only
    generalize rtL R=RR at*
    generalize mcL N=NN at*
    generalize R.length=nR at*
    generalize N.length=n at*
    exact m_ (p:=let z0:=(↑k:Int);An [decide (z0<(↑n:Int))=true,An [(0:Int)≤z0,z0<(↑n:Int)],_,decide (c<(1:Int))=false,decide (c>(4:Int))=true,An [Sm false,Tt],Tt]) ⟨aq,a_,hld,a_⟩
  ·have hf := hno (by rw [decide_eq_false h1]; rfl)
   clear hno hnx p1 p2 hl hp2 hp
   refine .inr ⟨.ret,[],rrF,[yes 122,pl 128,ld 129 (.agg (mcC ⟨c,fr,nz,ou⟩)),yes 132],1000,.inr (.inl ⟨hf,rfl,rfl⟩),?_⟩
   try dsimp only
   generalize rtL R=RR at*
   generalize mcL N=NN at*
   generalize R.length=nR at*
   generalize N.length=n at*
   exact m_ (p:=let z0:=(↑k:Int);An [decide (z0<(↑n:Int))=true,An [(0:Int)≤z0,z0<(↑n:Int)],_,decide (c<(1:Int))=true,An [Sm false,Tt],Tt]) ⟨aq,a_,hld,a_⟩
 ·have hk2 : k = N.length := by omega
  subst hk2
  have hall:plA R N=true:=Qbs hin
  refine .inr ⟨.exit 4,[0],rr4E g R.length (rtL R) N.length (mcL N) hd (crdP N N.length),[no 122],1000,.inl ⟨hall,rfl,rfl⟩,?_⟩
  rw[←hp]
  try dsimp only
  clear hin hall hp hl
  generalize rtL R=RR at*
  generalize mcL N=NN at*
  generalize R.length=nR at*
  generalize N.length=n at*
  refine Eq.mp (by kernel_rfl:(An [decide ((↑n:Int)<(↑n:Int))=false,An [Zz,Sm (↑hd:Int),p=p,Tt],An [Sm [i6 g,V.im nR RR,V.im n NN],TT 3],Tt])=_) ?_
  (repeat'(first|(with_reducible apply And.intro)|(refine fun(_:True)=>?_)))<;>first|exact aq|skip
  all_goals skip
def prI(cs:List Int):Nat→Int
 |0=>1
 |k+1=>prI cs k*cs.getD k 0
theorem Qro{a b:List Int}: ∀k,prI (a++b) (a.length+k)=prI a a.length*prI b k
 | 0 => by
  have key: ∀k,k≤a.length→prI (a++b) k=prI a k:=by
   intro k
   induction k with
   |zero=>intro _;rfl
   |succ k ih=>
    intro hk
    show prI (a++b) k* _=prI a k* _
    rw[ih (by omega),List.getD_eq_getElem?_getD,List.getElem?_append_left (by omega),←List.getD_eq_getElem?_getD]
  rw[Nat.add_zero,key _ (Nat.le_refl _)]
  show _=_*1
  omega
 |k+1=>by
  show prI (a++b) (a.length+k)*(a++b).getD (a.length+k) 0=prI a a.length*(prI b k*b.getD k 0)
  rw[Qro k,List.getD_eq_getElem?_getD,List.getElem?_append_right (by omega),Nat.add_sub_cancel_left,←List.getD_eq_getElem?_getD,Int.mul_assoc]
theorem prI_bd{cs:List Int}(h: ∀k,k<cs.length→1≤cs.getD k 0∧cs.getD k 0≤4): ∀k,k≤cs.length→1≤prI cs k∧prI cs k≤4^k
 |0,_=>by show 1≤(1:Int)∧(1:Int)≤4^0;decide
 |k+1,hk=>by
  obtain⟨h1,h2⟩:=prI_bd h k (by omega)
  obtain⟨h3,h4⟩:=h k (by omega)
  show 1≤prI cs k* _∧prI cs k* _≤_
  have e:(4:Int)^(k+1)=4^k*4:=Int.pow_succ ..
  have a1:1*1≤prI cs k*cs.getD k 0:=Int.mul_le_mul h1 h3 (by decide) (by omega)
  rw[e]
  exact⟨by omega,Int.mul_le_mul h2 h4 (by omega) (by omega)⟩
def rAt(L P:List Int):List Int:=P.map fun p=>L.getD p.toNat 0
theorem Qbm(L P:List Int):(rAt L P).length=P.length:=by simp[rAt]
theorem rAt_get{L P:List Int}{k:Nat}(h:k<P.length):(rAt L P).getD k 0=L.getD (P.getD k 0).toNat 0:=by
 unfold rAt
 rw[List.getD_eq_getElem?_getD,List.getElem?_map,List.getElem?_eq_getElem h,List.getD_eq_getElem?_getD (l:=P),List.getElem?_eq_getElem h]
 rfl
section
variable (L P:List Int) (hP: ∀k,k<P.length→0≤P.getD k 0∧P.getD k 0<L.length) (h6:P.length≤1000000)
abbrev raS7(L P:List Int)(q:Nat×List V):SL:={sl:=[(0,sl L),(1,sl P),(5,owV 0 q.1),(6,i6 (q.1:Nat))],os:=owL 3 1 q.2 q.1}
include hP h6
theorem Qo4:Sat Pg none 0 (at' 73 [1,1,0,1,0]) (mkSt g0 24 (raS7 L P (0,[]))) (Qae g0 24 [(True,.exit 0,{sl:=[(5,owV 0 P.length)],os:=owL 3 1 (ints (rAt L P)) P.length})]):=by
 have hLf:=Qad L
 have hPf:=Qad P
 refine Qaw vE_ok Qaf Qab (b:=at' 73 [1,1,0,1,0,0]) (by kernel_rfl) (fun q=>q.1≤P.length∧q.2=ints ((rAt L P).take q.1)) (raS7 L P) (fun q=>P.length-q.1) (fun q hq=>?_) (0,[]) ⟨Nat.zero_le _,rfl⟩
 obtain⟨k,a⟩:=q
 obtain⟨hk,ha⟩:=hq
 dsimp only at hk ha
 have hrl:=Qbm L P
 have hal:a.length=k:=by rw[ha];exact Qcx (by omega)
 have haf:HfL a:=by rw[ha];exact Qad _
 by_cases hlt:k<P.length
 ·have hnx := Qgl (l := rAt L P) (k := k) (by omega)
  rw[←ha,rAt_get hlt]at hnx
  have h1:=Qao hlt
  obtain⟨b1,b2⟩:=hP k hlt
  obtain⟨p,hp⟩: ∃p:Nat,P.getD k 0=p:=⟨(P.getD k 0).toNat,by omega⟩
  have h2:=Qao (l:=L) (k:=p) (by omega)
  rw[hp]at h1 hnx b2
  rw[show((p:Int)).toNat=p from rfl]at hnx
  clear ha hP hp
  generalize L.getD p 0=x at*
  cases k with
  |zero=>
   obtain rfl:a=[]:=List.eq_nil_of_length_eq_zero hal
   refine .inl ⟨(1,[i6 x]),[1],[yes 10,pl 17,ld 18 (i6 p),pl 19,ld 20 (i6 x),nu 12 (1:Nat)],1000,⟨hlt,hnx.symm⟩,by dsimp only;omega,?_⟩
   clear hnx
   exact m_ (p:=let z0:=(↑(0:Nat):Int);let z1:=(↑(1:Nat):Int);An [decide (z0<(↑P.length:Int))=true,An [(0:Int)≤z0,z0<(↑P.length:Int)],_,An [(0:Int)≤(↑p:Int),_],_,wr .i64 (z0+(1:Int))=z1,An [An [Sm L.length,Sm (ints L)],An [Sm P.length,Sm (ints P)],An [Zz,1=1,Tt],z1=z1,Tt],An [Sm [i6 x],Tt,Tt],Tt]) ⟨aq,a_,h1,⟨aq,b2⟩,h2,a_⟩
  |succ k=>
   refine .inl ⟨(k+2,a++[i6 x]),[2],[yes 10,pl 17,ld 18 (i6 p),pl 19,ld 20 (i6 x),ap 22,nu 12 (k+2:Nat)],1000,⟨hlt,hnx.symm⟩,by dsimp only;omega,?_⟩
   clear hnx
   exact m_ (p:=let z0:=(↑(k+1):Int);let z1:=(↑(k+2):Int);An [decide (z0<(↑P.length:Int))=true,An [(0:Int)≤z0,z0<(↑P.length:Int)],_,An [(0:Int)≤(↑p:Int),_],_,a.length=(k+1)*1,k+1+1≤9223372036854775807,(k+1+1)*8≤140737488355328,wr .i64 (z0+(1:Int))=z1,An [An [Sm L.length,Sm (ints L)],An [Sm P.length,Sm (ints P)],An [Zz,Nat.succ k+1=k+1+1,Tt],z1=z1,Tt],An [Sm (a++[i6 x]),HfL (a++[i6 x])],Tt]) ⟨aq,a_,h1,⟨aq,b2⟩,h2,aq,aq,aq,aq,a_,⟨aq,Qe0 haf ⟨trivial,trivial⟩⟩,aq⟩
 ·obtain rfl : k = P.length := by omega
  have hI:ints (rAt L P)=a:=by rw[ha,List.take_of_length_le (by omega)]
  rw[hI]
  clear ha hI hP
  generalize hq:P.length=k at*
  cases k with
  |zero=>
   obtain rfl:a=[]:=List.eq_nil_of_length_eq_zero hal
   refine .inr ⟨.exit 0,[],{sl:=[(5,.nils)]},[no 10],1000,.inl ⟨trivial,rfl,rfl⟩,?_⟩
   refine Eq.mp (by kernel_rfl:(An [decide ((↑(0:Nat):Int)<(↑P.length:Int))=false,An [Tt,Tt],Tt])=_) ?_
   (repeat'(first|(with_reducible apply And.intro)|(refine fun(_:True)=>?_)))<;>first|exact aq|skip
   all_goals first|omega|rfl|skip
  |succ k=>
   refine .inr ⟨.exit 0,[0],{sl:=[(5,.sl 0 0 (k+1) none)],os:=[.row 3 (some 1) a]},[no 10],1000,.inl ⟨trivial,rfl,rfl⟩,?_⟩
   exact m_ (p:=An [decide ((↑(k+1):Int)<(↑P.length:Int))=false,An [An [Zz,Sm (k+1),Tt],Tt],An [a=a,_],Tt]) ⟨aq,a_,⟨aq,haf⟩,aq⟩
theorem at_own{m:Nat}(hm:P.length=m+1):CallSpec Pg g0 (.fn 73 []) [sl L,sl P] .e 0 ⟨.sl 0 0 (m+1) none,ofOs .e 0 [.row 3 (some 1) (ints (rAt L P))],1,[]⟩:=by
 have hlp:=Qo4 L P hP h6
 have hLf:=Qad L
 have hPf:=Qad P
 have hAf:=Qad (rAt L P)
 clear hP
 generalize ints (rAt L P)=A at*
 rw[hm]at hlp
 refine CallSpec.of_vcH (P:=Pg) (E:=vE) vE_ok Qaf Qab (n:=1000) (f:=73) (os0:=[]) (r:=[0]) (S:={sl:=[(4,.sl 0 0 (m+1) none)],os:=[.row 3 (some 1) A]}) (hs:=[(0,.loop [] (raS7 L P (0,[])) [(True,.exit 0,{sl:=[(5,.sl 0 0 (m+1) none)],os:=[.row 3 (some 1) A]})])]) (by simp) (fun i hi=>absurd hi (Nat.not_lt_zero _)) ?_
 exact m_ (p:=let z0:=V.sl 0 0 (m+1) none;An [z0=z0,An [An [An [Sm L.length,Sm (ints L)],An [Sm P.length,Sm (ints P)],Tt,(↑(0:Nat):Int)=(0:Int),Tt],Tt],Sat Pg none 0 (at' 73 [1,1,0,1,0]) (mkSt g0 24 (raS7 L P (0,[]))) (Qae g0 24 [(True,Ex.exit 0,SL.mk [(5,z0)] [O.row 3 (some 1) A] [] [])]),(True->An [An [An [Zz,Sm (m+1),Tt],Tt],An [A=A,_],Tt]),Tt]) ⟨aq,a_,hlp,(fun _=>⟨a_,⟨aq,hAf⟩,aq⟩),aq⟩
end
theorem Qmc(L:List Int):FnOk Pg g0 73 [sl L,sl []] .nils:=by
 have hLf:=Qad L
 have hlp:=Qo4 L [] (fun k hk=>absurd hk (Nat.not_lt_zero _)) (Nat.zero_le _)
 refine FnOk.of_vc vE_ok Qaf Qab (n:=1000) (r:=[]) (S:={sl:=[(4,.nils)]}) (hs:=[(0,.loop [] (raS7 L [] (0,[])) [(True,.exit 0,{sl:=[(5,.nils)]})])]) ?_
 exact m_ (p:=An [Sm V.nils,An [An [An [Sm L.length,Sm (ints L)],An [Zz,Sm (ints [])],Tt,(↑(0:Nat):Int)=(0:Int),Tt],Tt],Sat Tryz.prog none 0 (at' 73 [1,1,0,1,0]) (mkSt g0 24 (raS7 L [] (0,[]))) (Qae g0 24 [(True,Ex.exit 0,SL.mk [(5,V.nils)] [] [] [])]),(True->An [An [Tt,Tt],Tt]),Tt]) ⟨aq,a_,hlp,a_⟩
theorem at_any(L P:List Int)(hP: ∀k,k<P.length→0≤P.getD k 0∧P.getD k 0<L.length)(h6:P.length≤1000000){m:Nat}(hm:P.length=m+1){H:T O}{nx:Nat}:CallSpec Pg g0 (.fn 73 []) [sl L,sl P] H nx ⟨.sl nx 0 (m+1) none,pt H nx (.row 3 (some 1) (ints (rAt L P))),nx+1,[]⟩:=
 frameN (at_own L P hP h6 hm) (ViewL.of_hf _ ⟨trivial,trivial,trivial⟩) (Qf0 _)
def rSz(R:List (List Int))(N:List Mc)(x:Mc):List Int:=rAt (cdT N) x.fr++rAt (lnT R) x.no
structure SzOk(R:List (List Int))(N:List Mc)(x:Mc):Prop where
 nl:N.length≤1000000
 rl:R.length≤1000000
 fr: ∀k,k<x.fr.length→0≤x.fr.getD k 0∧x.fr.getD k 0<N.length
 no: ∀k,k<x.no.length→0≤x.no.getD k 0∧x.no.getD k 0<R.length
 fl:x.fr.length≤1000
 ol:x.no.length≤1000
theorem Qnp(l:List Int):atoms (ints l)=true:=by
 induction l with
 |nil=>rfl
 |cons x l ih=>exact ih
theorem lnT_len(R:List (List Int)):(lnT R).length=R.length:=by simp[lnT]
theorem Qsf{H:T O}{h n t:Nat}{sp room:Option Nat}{l:List Int}(hg:gt H h=some (.row t sp (ints l)))(hn:l.length=n):srcV H 1 (.sl h 0 n room)=some (n,ints l):=by
 grind[Qay,srcV,Qal,Nat.ble_eq_true_of_le]
section
variable (g:Int) (R:List (List Int)) (N:List Mc) (x:Mc) (v:Nat) (hx:N[v]? =some x) (ok:SzOk R N x)
include hx ok
theorem Qkh(h1:x.fr=[])(h2:x.no=[]):FnOk Pg g0 36 [mdV g R N,i6 (v:Nat)] .nils:=by
 have hc:FnOk Pg g0 12 [.agg [i6 g,.im R.length (rtL R),.im N.length (mcL N)]] (sl (cdT N)):=Qj8 g R N ok.nl
 have hl:FnOk Pg g0 74 [.agg [i6 g,.im R.length (rtL R),.im N.length (mcL N)]] (sl (lnT R)):=Qm8 g R N ok.rl
 have hv:=(List.getElem?_eq_some_iff.1 hx).1
 have hd:=Qb5 hx
 have hRR:=Qar R
 have hNN:=Qav N
 have a1:=Qmc (cdT N)
 have a2:=Qmc (lnT R)
 obtain⟨c,fr,nz,ou⟩:=x
 dsimp only at h1 h2
 subst h1 h2
 clear ok hx
 have hc1:=Qad (cdT N)
 have hl1:=Qad (lnT R)
 generalize cdT N=C at*
 generalize lnT R=L at*
 have hX:=Qav (N.drop (v+1))
 unfold mcC at hd
 generalize mcL (N.drop (v+1))=X at*
 show FnOk Pg g0 36 [.agg [i6 g,.im R.length (rtL R),.im N.length (mcL N)],i6 (v:Nat)] .nils
 generalize rtL R=RR at*
 generalize mcL N=NN at*
 generalize R.length=nR at*
 generalize N.length=nN at*
 refine FnOk.of_vc vE_ok Qaf Qab (n:=1000) (r:=[]) (S:={sl:=[(4,.nils)]}) (hs:=[fn 6 (sl C),pl 10,ld 12 (sl []),fn 13 .nils,fn 15 (sl L),pl 19,ld 21 (sl []),fn 22 .nils]) ?_
 exact m_ (p:=let z2:=(↑v:Int);let z3:=[i6 g,V.im nR RR,V.im nN NN];let z4:=List.drop (v*4) NN;let z0:=pt T.e 0 (O.row 34 none z3);let z1:=[V.agg z3];An [Sm V.nils,An [TT 3,Tt],_,Tt,An [(0:Int)≤z2,z2<(↑nN:Int)],headF (List.drop 1 z4)=some (sl []),TT 2,FnOk Tryz.prog g0 73 [V.im C.length (ints C),V.im 0 (ints [])] V.nils,An [V.fn 12 []=V.fn 73 []→z1=[sl C,sl []]→z0=z0→0+1=1→CR.mk (sl C) z0 1 []=CR.mk V.nils z0 1 [],Tt],An [TT 3,Tt],_,An [V.fn 73 []=V.fn 74 []→[sl C,sl []]=z1→z0=z0→0+1=1→CR.mk V.nils z0 1 []=CR.mk (sl L) z0 1 [],V.fn 12 []=V.fn 74 []→z1=z1→z0=z0→0+1=1→CR.mk (sl C) z0 1 []=CR.mk (sl L) z0 1 [],Tt],An [(0:Int)≤z2,z2<(↑nN:Int)],headF (List.drop 2 z4)=some (sl []),TT 2,FnOk Tryz.prog g0 73 [V.im L.length (ints L),V.im 0 (ints [])] V.nils,An [V.fn 74 []=V.fn 73 []→z1=[sl L,sl []]→z0=z0→0+1=1→CR.mk (sl L) z0 1 []=CR.mk V.nils z0 1 [],V.fn 73 []=V.fn 73 []→[sl C,sl []]=[sl L,sl []]→z0=z0→0+1=1→Sm (CR.mk V.nils z0 1 []),V.fn 12 []=V.fn 73 []→z1=[sl L,sl []]→z0=z0→0+1=1→CR.mk (sl C) z0 1 []=CR.mk V.nils z0 1 [],Tt],An [Tt,Tt],Tt]) ⟨aq,a_,hc,aq,a_,(by (rw[hd];rfl)),aq,aq,a_,a_,hl,a_,a_,(by (rw[hd];rfl)),a_⟩
theorem Qki{m:Nat}(hm:(rSz R N x).length=m+1):CallSpec Pg g0 (.fn 36 []) [mdV g R N,i6 (v:Nat)] .e 0 ⟨.sl 0 0 (m+1) none,ofOs .e 0 [.row 3 (some 1) (ints (rSz R N x))],1,[]⟩:=by
 have hc:FnOk Pg g0 12 [.agg [i6 g,.im R.length (rtL R),.im N.length (mcL N)]] (sl (cdT N)):=Qj8 g R N ok.nl
 have hl:FnOk Pg g0 74 [.agg [i6 g,.im R.length (rtL R),.im N.length (mcL N)]] (sl (lnT R)):=Qm8 g R N ok.rl
 have hv:=(List.getElem?_eq_some_iff.1 hx).1
 have hd:=Qb5 hx
 have hRR:=Qar R
 have hNN:=Qav N
 have a1:=Qmc (cdT N)
 have a2:=Qmc (lnT R)
 obtain⟨_,_,hfr,hno,h1,h2⟩:=ok
 have b1:=fun(m:Nat) hm(H:T O)(nx:Nat)=>at_any (cdT N) x.fr (by grind[cdT_len]) (by omega) (m:=m) hm (H:=H) (nx:=nx)
 have b2:=fun(m:Nat) hm(H:T O)(nx:Nat)=>at_any (lnT R) x.no (by grind[lnT_len]) (by omega) (m:=m) hm (H:=H) (nx:=nx)
 obtain⟨c,fr,nz,ou⟩:=x
 unfold rSz at hm⊢
 dsimp only at*
 have l1:=Qbm (cdT N) fr
 have l2:=Qbm (lnT R) nz
 rw[List.length_append,l1,l2]at hm
 clear hx hfr hno
 have hc1:=Qad (cdT N)
 have hl1:=Qad (lnT R)
 generalize rAt (cdT N) fr=A at*
 generalize rAt (lnT R) nz=B at*
 generalize cdT N=C at*
 generalize lnT R=L at*
 have hX:=Qav (N.drop (v+1))
 unfold mcC at hd
 generalize mcL (N.drop (v+1))=X at*
 show CallSpec Pg g0 (.fn 36 []) [.agg [i6 g,.im R.length (rtL R),.im N.length (mcL N)],i6 (v:Nat)] _ _ _
 generalize rtL R=RR at*
 generalize mcL N=NN at*
 generalize R.length=nR at*
 generalize N.length=nN at*
 have hAB:=Qad (A++B)
 have hF:=Qad fr
 have hZ:=Qad nz
 have hhd1:headF (dropF 1 ([i6 c,sl fr,sl nz,sl ou]++X))=some (sl fr):=rfl
 cases fr with
 | nil =>
  obtain rfl:A=[]:=List.eq_nil_of_length_eq_zero l1
  cases nz with
  |nil=>simp at hm
  |cons z nz=>
   obtain rfl:nz.length=m:=by simp_all
   rw[List.nil_append]at*
   have hs:=fun H h=>Qsf (H:=H) (h:=h) (n:=nz.length+1) (t:=3) (sp:=some 1) (room:=none) (l:=B) (hn:=by rw[l2];rfl)
   have b2:=fun H nx=>b2 nz.length rfl H nx
   refine CallSpec.of_vcH (P:=Pg) (E:=vE) vE_ok Qaf Qab (n:=1000) (f:=36) (os0:=[]) (r:=[2]) (S:={sl:=[(4,.sl 0 0 (nz.length+1) none)],os:=[.row 3 (some 1) (ints B)]}) (hs:=[fn 6 (sl C),pl 10,ld 12 (sl []),fn 13 .nils,fn 15 (sl L),pl 19,ld 21 (sl (z::nz)),(22,.call ⟨.sl 1 0 (nz.length+1) none,pt (ofOs .e 0 [cuO g nR RR nN NN]) 1 (.row 3 (some 1) (ints B)),2,[]⟩),(23,.an (nz.length+1) (ints B))]) (by simp) (fun i hi=>absurd hi (Nat.not_lt_zero _)) ?_
   clear hm l1 b1
   have h3:nz.length+1≤1000:=h2
   exact m_ (p:=let z1:=pt (ofOs T.e 0 [cuO g nR RR nN NN]) 1 (O.row 3 (some 1) (ints B));let z3:=V.sl 1 0 (nz.length+1) none;let z4:=[sl L,sl (z::nz)];let z5:=(↑v:Int);let z6:=[i6 g,V.im nR RR,V.im nN NN];let z7:=V.sl 0 0 (nz.length+1) none;let z8:=List.drop (v*4) NN;let z0:=O.row 34 none z6;let z2:=[V.agg z6];An [z7=z7,An [TT 3,Tt],_,Tt,An [(0:Int)≤z5,z5<(↑nN:Int)],headF (List.drop 1 z8)=some (sl []),TT 2,FnOk Pg g0 73 [V.im C.length (ints C),V.im 0 (ints [])] V.nils,An [V.fn 12 []=V.fn 73 []→z2=[sl C,sl []]→pt (ofOs T.e 0 []) 0 z0=pt (ofOs T.e 0 []) 0 z0→0+1=1→CR.mk (sl C) (pt (ofOs T.e 0 []) 0 z0) 1 []=CR.mk V.nils (pt (ofOs T.e 0 []) 0 z0) 1 [],Tt],An [TT 3,Tt],_,An [V.fn 73 []=V.fn 74 []→[sl C,sl []]=z2→pt (ofOs T.e 0 []) 0 z0=pt (ofOs T.e 0 []) 0 z0→0+1=1→CR.mk V.nils (pt (ofOs T.e 0 []) 0 z0) 1 []=CR.mk (sl L) (pt (ofOs T.e 0 []) 0 z0) 1 [],V.fn 12 []=V.fn 74 []→z2=z2→pt (ofOs T.e 0 []) 0 z0=pt (ofOs T.e 0 []) 0 z0→0+1=1→CR.mk (sl C) (pt (ofOs T.e 0 []) 0 z0) 1 []=CR.mk (sl L) (pt (ofOs T.e 0 []) 0 z0) 1 [],Tt],An [(0:Int)≤z5,z5<(↑nN:Int)],headF (List.drop 2 z8)=some (sl (z::nz)),CallSpec Pg g0 (V.fn 73 []) z4 (pt (ofOs T.e 0 []) 0 z0) 1 (CR.mk z3 z1 2 []),An [V.fn 74 []=V.fn 73 []→z2=z4→pt (ofOs T.e 0 []) 0 z0=pt (ofOs T.e 0 []) 0 z0→0+1=1→CR.mk (sl L) (pt (ofOs T.e 0 []) 0 z0) 1 []=CR.mk z3 z1 2 [],V.fn 73 []=V.fn 73 []→[sl C,sl []]=z4→pt (ofOs T.e 0 []) 0 z0=pt (ofOs T.e 0 []) 0 z0→0+1=1→CR.mk V.nils (pt (ofOs T.e 0 []) 0 z0) 1 []=CR.mk z3 z1 2 [],V.fn 12 []=V.fn 73 []→z2=z4→pt (ofOs T.e 0 []) 0 z0=pt (ofOs T.e 0 []) 0 z0→0+1=1→CR.mk (sl C) (pt (ofOs T.e 0 []) 0 z0) 1 []=CR.mk z3 z1 2 [],Tt],An [srcV z1 1 z3=some (nz.length+1,ints B),nz.length+1≤9223372036854775807,(nz.length+1)*8≤140737488355328],An [An [Zz,Sm (nz.length+1),Tt],Tt],An [Sm (ints B),_],Tt]) ⟨aq,a_,hc,aq,a_,(by (rw[hd];rfl)),aq,aq,a_,a_,hl,a_,a_,(by (rw[hd];rfl)),b2 _ _,a_,⟨hs _ _ rfl,a_⟩,a_,⟨aq,hAB⟩,aq⟩
 | cons y fr =>
  have b1:=fun H nx=>b1 fr.length rfl H nx
  cases nz with
  |nil=>
   obtain rfl:B=[]:=List.eq_nil_of_length_eq_zero l2
   rw[List.append_nil]at*
   obtain rfl:fr.length=m:=by simp_all
   refine CallSpec.of_vcH (P:=Pg) (E:=vE) vE_ok Qaf Qab (n:=1000) (f:=36) (os0:=[]) (r:=[1]) (S:={sl:=[(4,.sl 0 0 (fr.length+1) none)],os:=[.row 3 (some 1) (ints A)]}) (hs:=[fn 6 (sl C),pl 10,ld 12 (sl (y::fr)),(13,.call ⟨.sl 1 0 (fr.length+1) none,pt (ofOs .e 0 [cuO g nR RR nN NN]) 1 (.row 3 (some 1) (ints A)),2,[]⟩),fn 15 (sl L),pl 19,ld 21 (sl []),fn 22 .nils]) (by simp) (fun i hi=>absurd hi (Nat.not_lt_zero _)) ?_
   clear hm l2 b2
   exact m_ (p:=let z0:=pt (ofOs T.e 0 [cuO g nR RR nN NN]) 1 (O.row 3 (some 1) (ints A));let z1:=[i6 g,V.im nR RR,V.im nN NN];let z3:=V.sl 1 0 (fr.length+1) none;let z5:=[sl C,sl (y::fr)];let z6:=(↑v:Int);let z7:=V.sl 0 0 (fr.length+1) none;let z8:=List.drop (v*4) NN;let z2:=O.row 34 none z1;let z4:=[V.agg z1];An [z7=z7,An [TT 3,Tt],_,Tt,An [(0:Int)≤z6,z6<(↑nN:Int)],headF (List.drop 1 z8)=some (sl (y::fr)),CallSpec Pg g0 (V.fn 73 []) z5 (pt (ofOs T.e 0 []) 0 z2) 1 (CR.mk z3 z0 2 []),An [V.fn 12 []=V.fn 73 []→z4=z5→pt (ofOs T.e 0 []) 0 z2=pt (ofOs T.e 0 []) 0 z2→0+1=1→CR.mk (sl C) (pt (ofOs T.e 0 []) 0 z2) 1 []=CR.mk z3 z0 2 [],Tt],An [TT 3,Tt],_,An [V.fn 73 []=V.fn 74 []→z5=z4→pt (ofOs T.e 0 []) 0 z2=z0→0+1=2→CR.mk z3 z0 2 []=CR.mk (sl L) z0 2 [],V.fn 12 []=V.fn 74 []→z4=z4→pt (ofOs T.e 0 []) 0 z2=z0→0+1=2→CR.mk (sl C) (pt (ofOs T.e 0 []) 0 z2) 1 []=CR.mk (sl L) z0 2 [],Tt],An [(0:Int)≤z6,z6<(↑nN:Int)],headF (List.drop 2 z8)=some (sl []),TT 2,FnOk Pg g0 73 [V.im L.length (ints L),V.im 0 (ints [])] V.nils,An [V.fn 74 []=V.fn 73 []→z4=[sl L,sl []]→z0=z0→2=2→CR.mk (sl L) z0 2 []=CR.mk V.nils z0 2 [],V.fn 73 []=V.fn 73 []→z5=[sl L,sl []]→pt (ofOs T.e 0 []) 0 z2=z0→0+1=2→CR.mk z3 z0 2 []=CR.mk V.nils z0 2 [],V.fn 12 []=V.fn 73 []→z4=[sl L,sl []]→pt (ofOs T.e 0 []) 0 z2=z0→0+1=2→CR.mk (sl C) (pt (ofOs T.e 0 []) 0 z2) 1 []=CR.mk V.nils z0 2 [],Tt],An [An [Zz,Sm (fr.length+1),Tt],Tt],An [Sm (ints A),_],Tt]) ⟨aq,a_,hc,aq,a_,(by (rw[hd];rfl)),b1 _ _,a_,a_,hl,a_,a_,(by (rw[hd];rfl)),aq,aq,a_,a_,⟨aq,hAB⟩,aq⟩
  |cons z nz=>
   obtain rfl:m=fr.length+1+nz.length:=by grind
   have hs:=fun H h=>Qsf (H:=H) (h:=h) (n:=nz.length+1) (t:=3) (sp:=some 1) (room:=none) (l:=B) (hn:=by rw[l2];rfl)
   have b2:=fun H nx=>b2 nz.length rfl H nx
   have e1:ints (A++B)=ints A++ints B:=by unfold ints;rw[List.map_append]
   have lA:(ints A).length=fr.length+1:=by rw[Qal,l1];rfl
   rw[e1]at hAB⊢
   refine CallSpec.of_vcH (P:=Pg) (E:=vE) vE_ok Qaf Qab (n:=1000) (f:=36) (os0:=[]) (r:=[3]) (S:={sl:=[(4,.sl 0 0 (fr.length+1+(nz.length+1)) none)],os:=[.row 3 (some 1) (ints A++ints B)]}) (hs:=[fn 6 (sl C),pl 10,ld 12 (sl (y::fr)),(13,.call ⟨.sl 1 0 (fr.length+1) none,pt (ofOs .e 0 [cuO g nR RR nN NN]) 1 (.row 3 (some 1) (ints A)),2,[]⟩),fn 15 (sl L),pl 19,ld 21 (sl (z::nz)),(22,.call ⟨.sl 2 0 (nz.length+1) none,pt (pt (ofOs .e 0 [cuO g nR RR nN NN]) 1 (.row 3 (some 1) (ints A))) 2 (.row 3 (some 1) (ints B)),3,[]⟩),(23,.aop (.row 3 (some 1) (ints A)) (nz.length+1) (ints B))]) (by simp) (fun i hi=>absurd hi (Nat.not_lt_zero _)) ?_
   have atB:atoms (ints B)=true:=Qnp B
   clear hm
   simp only[List.length_cons]at h1 h2
   generalize fr.length=p1 at*
   generalize nz.length=p2 at*
   exact m_ (p:=let z1:=[i6 g,V.im nR RR,V.im nN NN];let z4:=V.sl 2 0 (p2+1) none;let z5:=V.sl 1 0 (p1+1) none;let z7:=[sl C,sl (y::fr)];let z8:=[sl L,sl (z::nz)];let z9:=(↑v:Int);let y0:=O.row 3 (some 1) (ints A);let y1:=List.drop (v*4) NN;let z0:=pt (ofOs T.e 0 [cuO g nR RR nN NN]) 1 y0;let z3:=O.row 34 none z1;let z6:=[V.agg z1];let z2:=pt z0 2 (O.row 3 (some 1) (ints B));An [V.sl 0 0 (p1+1+(p2+1)) none=V.sl 0 0 (p1+1+p2+1) none,An [TT 3,Tt],_,Tt,An [(0:Int)≤z9,z9<(↑nN:Int)],headF (List.drop 1 y1)=some (sl (y::fr)),CallSpec Pg g0 (V.fn 73 []) z7 (pt (ofOs T.e 0 []) 0 z3) 1 (CR.mk z5 z0 2 []),An [V.fn 12 []=V.fn 73 []→z6=z7→pt (ofOs T.e 0 []) 0 z3=pt (ofOs T.e 0 []) 0 z3→0+1=1→CR.mk (sl C) (pt (ofOs T.e 0 []) 0 z3) 1 []=CR.mk z5 z0 2 [],Tt],An [TT 3,Tt],_,An [V.fn 73 []=V.fn 74 []→z7=z6→pt (ofOs T.e 0 []) 0 z3=z0→0+1=2→CR.mk z5 z0 2 []=CR.mk (sl L) z0 2 [],V.fn 12 []=V.fn 74 []→z6=z6→pt (ofOs T.e 0 []) 0 z3=z0→0+1=2→CR.mk (sl C) (pt (ofOs T.e 0 []) 0 z3) 1 []=CR.mk (sl L) z0 2 [],Tt],An [(0:Int)≤z9,z9<(↑nN:Int)],headF (List.drop 2 y1)=some (sl (z::nz)),CallSpec Pg g0 (V.fn 73 []) z8 z0 2 (CR.mk z4 z2 3 []),An [V.fn 74 []=V.fn 73 []→z6=z8→z0=z0→2=2→CR.mk (sl L) z0 2 []=CR.mk z4 z2 3 [],V.fn 73 []=V.fn 73 []→z7=z8→pt (ofOs T.e 0 []) 0 z3=z0→0+1=2→CR.mk z5 z0 2 []=CR.mk z4 z2 3 [],V.fn 12 []=V.fn 73 []→z6=z8→pt (ofOs T.e 0 []) 0 z3=z0→0+1=2→CR.mk (sl C) (pt (ofOs T.e 0 []) 0 z3) 1 []=CR.mk z4 z2 3 [],Tt],srcV z2 1 z4=some (p2+1,ints B),An [gt z2 1=some y0,List.length (ints A)=(p1+1)*1,1≤p2+1,p1+1+(p2+1)≤9223372036854775807,(p1+1+(p2+1))*8≤140737488355328,_],An [An [Zz,Sm (p1+1+(p2+1)),Tt],Tt],An [Sm (ints A++ints B),_],Tt]) ⟨aq,a_,hc,aq,a_,(by (rw[hd];rfl)),b1 _ _,a_,a_,hl,a_,a_,(by (rw[hd];rfl)),aq,a_,hs _ _ rfl,⟨(by rfl),aq,aq,aq,aq,atB⟩,a_,⟨aq,hAB⟩,aq⟩
end
theorem Qmy{l:List Int}{k:Nat}(h:k<l.length):headF (dropF (0+k*1) (ints l))=some (i6 (l.getD k 0)):=by
 grind[Qa2,Qao]
abbrev nwO(l:List Int):List O:=[.row 3 (some 1) (ints l)]
abbrev nwS(cs:List Int)(q:Nat)(p:Nat×List Int):SL:={sl:=[(0,.im q (ints cs)),(6,.sl 0 0 q none),(7,i6 ((p.1:Int)-1))],os:=nwO p.2}
theorem Qog(cs vs:List Int)(q:Nat)(h1:cs.length=q)(h2:vs.length=q)(h12:q≤12)(hc: ∀i,i<q→1≤cs.getD i 0∧cs.getD i 0≤8)(hval:valT cs vs q):
  Sat Pg none 0 (at' 72 [1,1,1,0,1,0]) (mkSt g0 40 (nwS cs q (q,vs))) (Qae g0 40 [(nxB cs vs q=true,.ret,{sl:=[(4,.sl 0 0 q none),(5,.bool true)],os:=nwO (nxV cs vs q)}),(nxB cs vs q=false,.exit 0,{sl:=[(6,.sl 0 0 q none)],os:=nwO (nxV cs vs q)})]):=by
 refine Qaw vE_ok Qaf Qab (b:=at' 72 [1,1,1,0,1,0,0]) (by kernel_rfl) (fun p=>p.1≤q∧p.2.length=q∧valT cs p.2 q∧nxV cs p.2 p.1=nxV cs vs q∧nxB cs p.2 p.1=nxB cs vs q) (nwS cs q) (fun p=>p.1) (fun p hp=>?_) (q,vs) ⟨Nat.le_refl _,h2,hval,rfl,rfl⟩
 obtain⟨k,row⟩:=p
 obtain⟨hk,hl,hvr,e1,e2⟩:=hp
 dsimp only at hk hl hvr e1 e2
 have hH:=Qad (nxV cs vs q)
 cases k with
 |zero=>
  have e3:nxV cs row 0=row:=rfl
  rw[←e1,←e2,e3]
  have hH1:=Qad row
  refine .inr ⟨.exit 0,[0],{sl:=[(6,.sl 0 0 q none)],os:=nwO row},[],1000,.inr (.inl ⟨rfl,rfl,rfl⟩),?_⟩
  clear hvr hc e1 e2
  exact m_ (p:=An [An [An [Zz,q=q,Tt],Tt],An [Sm (ints row),_],Tt]) ⟨a_,⟨aq,hH1⟩,aq⟩
 | succ k =>
  have hb:=hvr k (by omega)
  have hcb:=hc k (by omega)
  have g1:=@Qmy row k (by omega)
  have g2:=@Qao cs k (by omega)
  have g3:=@Qmy (row.set k (row.getD k 0+1)) k (by simp;omega)
  rw[Qbz (by omega)]at g3
  have l1:=@Qfp row k (row.getD k 0+1) (by omega)
  have hz:((k+1:Nat):Int)-1=(k:Nat):=by omega
  by_cases he:row.getD k 0=cs.getD k 0-1
  ·have e3 : nxV cs row (k + 1) = nxV cs (row.set k 0) k := by conv => lhs; unfold nxV; rw [if_pos he]
   have e4:nxB cs row (k+1)=nxB cs (row.set k 0) k:=by conv=>lhs;unfold nxB;rw[if_pos he]
   have l2:=@Qfp (row.set k (row.getD k 0+1)) k 0 (by simp;omega)
   rw[List.set_set]at l2
   have hH2:=Qad (row.set k 0)
   refine .inl ⟨(k,row.set k 0),[0],[pl 22,ld 23 (i6 (row.getD k 0)),nu 24 (row.getD k 0+1),pl 25,st (ints (row.set k (row.getD k 0+1))),pl 28,ld 29 (i6 (row.getD k 0+1)),pl 32,ld 33 (i6 (cs.getD k 0)),no 34,pl 38,st (ints (row.set k 0)),nu 17 ((k:Int)-1)],1000,⟨by omega,by simpa using hl,fun i hi=>by
    by_cases hik:k=i
    ·grind
    ·dsimp only;rw[Qbp hik];exact hvr i hi,by simp_all,by simp_all⟩,by omega,?_⟩
   show vc _ _ _ _ _ _ _ _ (mkSt g0 40 {sl:=[(0,.im q (ints cs)),(6,.sl 0 0 q none),(7,i6 (((k+1:Nat):Int)-1))],os:=nwO row}) _
   rw[hz]
   clear hvr hc e1 e2 e3 e4 hval
   exact m_ (p:=let z1:=(↑k:Int);let z4:=(1:Int);let z5:=(0:Int);let z6:=(↑q:Int);let z0:=List.getD row k z5;let z2:=ints (List.set row k z5);An [An [z5≤z1,z1<z6],_,wr .i64 (z0+z4)=z0+z4,An [z5≤z1,z1<z6],_,An [z5≤z1,z1<z6],_,An [z5≤z1,z1<z6],_,decide (z0+z4<List.getD cs k z5)=false,An [z5≤z1,z1<z6],_,wr .i64 (z1-z4)=z1-z4,An [An [q=q,Sm (ints cs)],An [Zz,q=q,Tt],Sm (z1-z4),Tt],An [z2=z2,_],Tt]) ⟨a_,g1,aq,a_,l1,a_,g3,a_,g2,aq,a_,l2,aq,a_,⟨aq,hH2⟩,aq⟩
  ·have e3 : nxV cs row (k + 1) = row.set k (row.getD k 0 + 1) := by conv => lhs; unfold nxV; rw [if_neg he]
   have e4:nxB cs row (k+1)=true:=by conv=>lhs;unfold nxB;rw[if_neg he]
   rw[←e1,←e2,e3,e4]
   have hH2:=Qad (row.set k (row.getD k 0+1))
   refine .inr ⟨.ret,[0],{sl:=[(4,.sl 0 0 q none),(5,.bool true)],os:=nwO (row.set k (row.getD k 0+1))},[pl 22,ld 23 (i6 (row.getD k 0)),nu 24 (row.getD k 0+1),pl 25,st (ints (row.set k (row.getD k 0+1))),pl 28,ld 29 (i6 (row.getD k 0+1)),pl 32,ld 33 (i6 (cs.getD k 0)),yes 34],1000,.inl ⟨rfl,rfl,rfl⟩,?_⟩
   show vc _ _ _ _ _ _ _ _ (mkSt g0 40 {sl:=[(0,.im q (ints cs)),(6,.sl 0 0 q none),(7,i6 (((k+1:Nat):Int)-1))],os:=nwO row}) _
   rw[hz]
   clear hvr hc e1 e2 e3 e4 hval
   exact m_ (p:=let z3:=(↑k:Int);let z4:=(0:Int);let z5:=(↑q:Int);let z2:=List.getD row k z4;let z1:=ints (List.set row k (z2+(1:Int)));An [An [z4≤z3,z3<z5],_,wr .i64 (z2+(1:Int))=z2+(1:Int),An [z4≤z3,z3<z5],_,An [z4≤z3,z3<z5],_,An [z4≤z3,z3<z5],_,decide (z2+(1:Int)<List.getD cs k z4)=true,An [An [Zz,q=q,Tt],Sm true,Tt],An [z1=z1,_],Tt]) ⟨a_,g1,aq,a_,l1,a_,g3,a_,g2,aq,a_,⟨aq,hH2⟩,aq⟩
theorem rnext_fn(cs vs:List Int)(q:Nat)(h1:cs.length=q)(h2:vs.length=q)(h12:q≤12)(hc: ∀i,i<q→1≤cs.getD i 0∧cs.getD i 0≤8)(hval:valT cs vs q):FnOk Pg g0 72 [.im q (ints cs),.im q (ints vs)] (.tup [.im q (ints (nxV cs vs q)),.bool (nxB cs vs q)]):=by
 cases q with
 |zero=>
  have z1:cs=[]:=List.eq_nil_of_length_eq_zero h1
  have z2:vs=[]:=List.eq_nil_of_length_eq_zero h2
  subst z1 z2
  show FnOk Pg g0 72 [.im 0 [],.im 0 []] (.tup [.im 0 [],.bool false])
  refine FnOk.of_vc vE_ok Qaf Qab (n:=1000) (r:=[]) (S:={sl:=[(4,.im 0 []),(5,.bool false)]}) (hs:=[(0,.unroll 1)]) ?_
  refine Eq.mp (by kernel_rfl:(An [Sm (V.tup [V.im 0 [],V.bool false]),An [Zz,Sm false,Tt],Tt])=_) ?_
  (repeat'(first|(with_reducible apply And.intro)|(refine fun(_:True)=>?_)))<;>first|exact aq|skip
 | succ k =>
  have l:=Qog cs vs (k+1) h1 h2 h12 hc hval
  have hsrc: ∀H':T O,srcV H' 1 (.im (k+1) (ints vs))=some (k+1,ints vs):=fun H'=>by
   grind[srcV,Qal,Nat.ble_eq_true_of_le]
  have hH:=Qad vs
  have hH2:=Qad (nxV cs vs (k+1))
  clear hc hval
  refine FnOk.of_vc vE_ok Qaf Qab (n:=1000) (r:=[]) (S:={sl:=[(4,.im (k+1) (ints (nxV cs vs (k+1)))),(5,.bool (nxB cs vs (k+1)))]}) (hs:=[(10,.an (k+1) (ints vs)),nu 13 (k:Nat),(0,.loop [0] (nwS cs (k+1) (k+1,vs)) [(nxB cs vs (k+1)=true,.ret,{sl:=[(4,.sl 0 0 (k+1) none),(5,.bool true)],os:=nwO (nxV cs vs (k+1))}),(nxB cs vs (k+1)=false,.exit 0,{sl:=[(6,.sl 0 0 (k+1) none)],os:=nwO (nxV cs vs (k+1))})])]) ?_
  generalize nxV cs vs (k+1)=V at*
  exact m_ (p:=let z3:=An [Sm (k+1),Sm (ints V),HfL (ints V)];let z0:=nxB cs vs (k+1);let z1:=Am.V.tup [Am.V.im (k+1) (ints V),Am.V.bool z0];An [z1=z1,An [srcV T.e 1 (Am.V.im (k+1) (ints vs))=some (k+1,ints vs),k+1≤9223372036854775807,(k+1)*8≤140737488355328],wr .i64 ((↑(k+1):Int)-(1:Int))=(↑k:Int),An [An [An [Sm (k+1),Sm (ints cs)],An [Zz,Sm (k+1),Tt],(↑(k+1):Int)-(1:Int)=(↑k:Int),Tt],An [Sm (ints vs),_],Tt],_,z0=true→An [An [z3,z0=true,Tt],Tt],z0=false→An [An [z3,z0=false,Tt],Tt],Tt]) ⟨aq,a_,aq,⟨a_,⟨aq,hH⟩,aq⟩,l,a_⟩
def cmL(cs:List Int)(P:Nat):List (List Int):=(List.range P).map (cmb cs)
theorem Qpr(cs:List Int)(P:Nat):(cmL cs P).length=P:=by simp[cmL]
theorem cmL_get{cs:List Int}{P k:Nat}(h:k<P):(cmL cs P).getD k []=cmb cs k:=by
 grind[cmL]
theorem cmL_succ(cs:List Int)(j:Nat):rtL (cmL cs (j+1))=rtL (cmL cs j)++[sl (cmb cs j)]:=by
 grind[cmL,rtL,List.range_succ]
abbrev awS(cs:List Int)(q:Nat)(p:Nat×Bool):SL:={sl:=[(0,.im q (ints cs)),(3,owV 0 p.1),(4,.im q (ints (cmb cs p.1))),(5,.bool p.2)],os:=owL 47 1 (rtL (cmL cs p.1)) p.1}
theorem Qrq(cs:List Int)(q:Nat)(hq:cs.length=q)(h12:q≤12)(hc: ∀i,i<q→1≤cs.getD i 0∧cs.getD i 0≤8)(P:Nat)(hP:(P:Int)=prodT cs q)(hP0:1≤P)(hPb:P≤4096):
  Sat Pg none 0 (at' 35 [1,1,1,1,0,0]) (mkSt g0 21 (awS cs q (0,true))) (Qae g0 21 [(True,.exit 0,{sl:=[(3,.im P (rtL (cmL cs P)))]})]):=by
 refine Qaw vE_ok Qaf Qab (b:=at' 35 [1,1,1,1,0,0,0]) (by kernel_rfl) (fun p=>p.1≤P∧p.2=decide (p.1<P)) (awS cs q) (fun p=>(P-p.1)+(if p.2 then 1 else 0)) (fun p hp=>?_) (0,true) ⟨Nat.zero_le _,by grind⟩
 obtain⟨j,b⟩:=p
 obtain⟨hj,hb⟩:=hp
 dsimp only at hj hb
 have hH:=Qar (cmL cs j)
 have hH1:=Qar (cmL cs (j+1))
 cases b with
 | true =>
  have hlt:j<P:=of_decide_eq_true hb.symm
  obtain⟨hval,_⟩:=@Qmf cs (fun i hi=>(hc i (by omega)).1) j (by rw[hq];omega)
  have hmore:=@cmb_more cs (fun i hi=>(hc i (by omega)).1) j (by rw[hq];omega)
  have hl:=Qe5 cs j
  rw[hq]at hval hmore hl
  have hn:=rnext_fn cs (cmb cs j) q hq hl h12 hc hval
  rw[show nxV cs (cmb cs j) q=cmb cs (j+1)by rw[cmb,hq],hmore]at hn
  have hb2:decide ((j:Int)+1<prodT cs q)=decide (j+1<P):=by rw[←hP];congr 1;exact propext ⟨fun h=>by omega,fun h=>by omega⟩
  rw[hb2]at hn
  have hs:=cmL_succ cs j
  rw[show sl (cmb cs j)= .im q (ints (cmb cs j))by simp_all]at hs
  have hlen:(rtL (cmL cs j)).length=j:=by unfold rtL;rw[List.length_map,Qpr]
  have hm:P-(j+1)+(if decide (j+1<P)=true then 1 else 0)<P-j+(if true=true then 1 else 0):=by split<;>simp<;>omega
  cases j with
  |zero=>
   refine .inl ⟨(1,decide (0+1<P)),[1],[fn 17 (.tup [.im q (ints (cmb cs (0+1))),.bool (decide (0+1<P))])],1000,⟨hlt,rfl⟩,hm,?_⟩
   clear hval hmore hc hb2 hm
   generalize decide (0+1<P)=b' at*
   exact m_ (p:=let z0:=ints (cmb cs 1);An [TT 2,_,Tt,An [An [q=q,Sm (ints cs)],An [Zz,1=1,Tt],An [q=q,z0=z0],b'=b',Tt],An [rtL (cmL cs 1)=[(V.im q (ints (cmb cs 0)))],Tt,Tt],Tt]) ⟨aq,hn,a_⟩
  |succ j=>
   refine .inl ⟨(j+1+1,decide (j+1+1<P)),[2],[ap 13,fn 17 (.tup [.im q (ints (cmb cs (j+1+1))),.bool (decide (j+1+1<P))])],1000,⟨hlt,rfl⟩,hm,?_⟩
   clear hval hmore hc hb2 hm
   generalize decide (j+1+1<P)=b' at*
   exact m_ (p:=let z0:=ints (cmb cs (j+1+1));An [(rtL (cmL cs (j+1))).length=(j+1)*1,j+1+1≤9223372036854775807,(j+1+1)*24≤140737488355328,TT 2,_,Tt,An [An [q=q,Sm (ints cs)],An [Zz,Nat.succ j+1=j+1+1,Tt],An [q=q,z0=z0],b'=b',Tt],An [_,_],Tt]) ⟨aq,aq,aq,aq,hn,aq,a_,⟨hs,hH1⟩,aq⟩
 |false=>
  have:j=P:=by have:=of_decide_eq_false hb.symm;omega
  subst this
  obtain⟨p,rfl⟩: ∃p,j=p+1:=⟨j-1,by omega⟩
  refine .inr ⟨.exit 0,[],{sl:=[(3,.im (p+1) (rtL (cmL cs (p+1))))]},[],1000,.inl ⟨trivial,rfl,rfl⟩,?_⟩
  clear hc
  exact m_ (p:=let z0:=rtL (cmL cs (p+1));An [An [An [Sm (p+1),z0=z0,_],Tt],Tt]) ⟨⟨⟨aq,aq,hH⟩,aq⟩,aq⟩
theorem rall_fn(cs:List Int)(q:Nat)(hq:cs.length=q)(h12:q≤12)(hc: ∀i,i<q→1≤cs.getD i 0∧cs.getD i 0≤8)(P:Nat)(hP:(P:Int)=prodT cs q)(hP0:1≤P)(hPb:P≤4096):FnOk Pg g0 35 [.im q (ints cs)] (.im P (rtL (cmL cs P))):=by
 have l:=Qrq cs q hq h12 hc P hP hP0 hPb
 have hz:rep q [i6 0]=ints (cmb cs 0):=by rw[rep_ints,cmb,hq]
 have hH:=Qar (cmL cs P)
 have hH0:=Qad (cmb cs 0)
 clear hc
 refine FnOk.of_vc vE_ok Qaf Qab (n:=1000) (r:=[]) (S:={sl:=[(2,.im P (rtL (cmL cs P)))]}) (hs:=[mk 8,(0,.loop [] (awS cs q (0,true)) [(True,.exit 0,{sl:=[(3,.im P (rtL (cmL cs P)))]})])]) ?_
 exact m_ (p:=let z0:=rtL (cmL cs P);let z1:=(↑q:Int);An [Sm (V.im P z0),An [(0:Int)≤z1,z1≤z1,(↑(8:Nat):Int)*z1≤(281474976710656:Int),z1≤(9223372036854775807:Int)],An [An [An [q=q,Sm (ints cs)],Tt,An [q=q,_,HfL (rep q [i6 0])],Sm true,Tt],Tt],_,(True->An [An [An [P=P,z0=z0],Tt],Tt]),Tt]) ⟨aq,a_,⟨⟨a_,aq,⟨aq,hz.symm,aq⟩,a_⟩,aq⟩,l,a_⟩
section
variable (g:Int) (nR:Nat) (RR:List V) (hRR:HfL RR) (nN:Nat) (NN:List V) (hNN:HfL NN) (c:Int) (fr nz ou:List Int)
include hRR hNN
abbrev rr8(g:Int)(nR:Nat)(RR:List V)(nN:Nat)(NN:List V)(x:Mc)(cs:List Int)(n k i:Nat)(p:Int):SL:={sl:=[(1,.ptr 0 0),(10,i6 (k:Nat)),(11,.ptr 1 0),(12,i6 p),(13,.im n (ints cs)),(14,i6 (i:Nat))],os:=[cuO g nR RR nN NN,mcO x]}
abbrev rr8E(g:Int)(nR:Nat)(RR:List V)(nN:Nat)(NN:List V)(x:Mc)(k:Nat)(p:Int):SL:={sl:=[(1,.ptr 0 0),(10,i6 (k:Nat)),(11,.ptr 1 0),(12,i6 p)],os:=[cuO g nR RR nN NN,mcO x]}
theorem rt_prod(cs:List Int)(n k:Nat)(hn:cs.length=n)(h13:n≤13)(h4: ∀i,i<cs.length→1≤cs.getD i 0∧cs.getD i 0≤4):
  Sat Pg none 0 (at' 8 [1,1,1,1,1,1,0,1,0,0,1,0,0,1,1,1,0,1,0]) (mkSt g0 227 (rr8 g nR RR nN NN ⟨c,fr,nz,ou⟩ cs n k 0 1)) (Qae g0 227 [(True,.exit 8,rr8E g nR RR nN NN ⟨c,fr,nz,ou⟩ k (prI cs n))]):=by
 have hCf:=Qad cs
 have f1:=Qad fr
 have f2:=Qad nz
 have f3:=Qad ou
 refine Qaw vE_ok Qaf Qab (b:=at' 8 [1,1,1,1,1,1,0,1,0,0,1,0,0,1,1,1,0,1,0,0]) (by kernel_rfl) (fun q=>q.1≤n∧q.2=prI cs q.1) (fun q=>rr8 g nR RR nN NN ⟨c,fr,nz,ou⟩ cs n k q.1 q.2) (fun q=>n-q.1) (fun q hq=>?_) (0,1) ⟨Nat.zero_le _,rfl⟩
 obtain⟨i,p⟩:=q
 obtain⟨hii,hp⟩:=hq
 dsimp only at hii hp
 by_cases hlt:i<n
 ·have hld := Qao (l := cs) (k := i) (by omega)
  have hb:=prI_bd h4 (i+1) (by omega)
  have h44:(4:Int)^(i+1)≤4^13:=by
   have:=Nat.pow_le_pow_right (n:=4) (by decide) (show i+1≤13 by omega)
   have e1:((4^(i+1):Nat):Int)=(4:Int)^(i+1):=by simp
   have e2:((4^13:Nat):Int)=(4:Int)^13:=by simp
   omega
  have e:prI cs (i+1)=p*cs.getD i 0:=by rw[hp];rfl
  have hwm:wr .i64 (p*cs.getD i 0)=prI cs (i+1):=by
   rw[←e]
   have e3:(4:Int)^13=67108864:=by decide
   exact Qg9 (by grind[lo]) (by grind[hi])
  generalize cs.getD i 0=y at*
  refine .inl ⟨(i+1,prI cs (i+1)),[0,1],[yes 190,pl 196,ld 197 (i6 y),nu 198 (prI cs (i+1)),nu 192 ((i+1:Nat):Int)],1000,⟨hlt,rfl⟩,by omega,?_⟩
  try dsimp only
  clear hb h44 e hp h4
  generalize prI cs (i+1)=p' at*
  exact m_ (p:=let z0:=(↑i:Int);An [decide (z0<(↑n:Int))=true,An [(0:Int)≤z0,z0<(↑n:Int)],_,_,wr .i64 (z0+(1:Int))=(↑(i+1):Int),An [Zz,Sm (↑k:Int),Zz,p'=p',An [n=n,Sm (ints cs)],Sm (↑(i+1):Int),Tt],An [Sm [i6 g,V.im nR RR,V.im nN NN],TT 3],An [Sm [i6 c,sl fr,sl nz,sl ou],TT 4],Tt]) ⟨aq,a_,hld,hwm,a_⟩
 ·have hin : i = n := by omega
  subst hin
  rw[←hp]
  refine .inr ⟨.exit 8,[0,1],rr8E g nR RR nN NN ⟨c,fr,nz,ou⟩ k p,[no 190],1000,.inl ⟨trivial,rfl,rfl⟩,?_⟩
  try dsimp only
  clear hp h4
  refine Eq.mp (by kernel_rfl:(An [decide ((↑i:Int)<(↑i:Int))=false,An [Zz,Sm (↑k:Int),Zz,p=p,Tt],An [Sm [i6 g,V.im nR RR,V.im nN NN],TT 3],An [Sm [i6 c,sl fr,sl nz,sl ou],TT 4],Tt])=_) ?_
  (repeat'(first|(with_reducible apply And.intro)|(refine fun(_:True)=>?_)))<;>first|exact aq|skip
  all_goals skip
abbrev rr10(g:Int)(nR:Nat)(RR:List V)(nN:Nat)(NN:List V)(x:Mc)(k i:Nat):SL:={sl:=[(1,.ptr 0 0),(10,i6 (k:Nat)),(11,.ptr 1 0),(15,i6 (i:Nat))],os:=[cuO g nR RR nN NN,mcO x]}
abbrev rr6(g:Int)(nR:Nat)(RR:List V)(nN:Nat)(NN:List V)(k:Nat):SL:={sl:=[(1,.ptr 0 0),(10,i6 (k:Nat))],os:=[cuO g nR RR nN NN]}
theorem rt_out(k:Nat)(hl:ou.length≤1000000):
  Sat Pg none 0 (at' 8 [1,1,1,1,1,1,0,1,0,0,1,0,0,1,1,1,1,1,1,0]) (mkSt g0 227 (rr10 g nR RR nN NN ⟨c,fr,nz,ou⟩ k 0)) (Qae g0 227 [(inB 0 (c-1) ou=true,.exit 10,rr6 g nR RR nN NN k),(inB 0 (c-1) ou=false,.ret,rrF)]):=by
 have f1:=Qad fr
 have f2:=Qad nz
 have f3:=Qad ou
 refine Qaw vE_ok Qaf Qab (b:=at' 8 [1,1,1,1,1,1,0,1,0,0,1,0,0,1,1,1,1,1,1,0,0]) (by kernel_rfl) (fun i=>i≤ou.length∧∀m,m<i→0≤ou.getD m 0∧ou.getD m 0≤c-1) (rr10 g nR RR nN NN ⟨c,fr,nz,ou⟩ k) (fun i=>ou.length-i) (fun i hi=>?_) 0 ⟨Nat.zero_le _,fun i h=>absurd h (Nat.not_lt_zero _)⟩
 obtain⟨hi,hin⟩:=hi
 by_cases hlt:i<ou.length
 ·have hld := Qao (l := ou) hlt
  have bad:(¬(0≤ou.getD i 0∧ou.getD i 0≤c-1))→inB 0 (c-1) ou=false:=fun hno=>by
   grind[Qa7]
  have good:(0≤ou.getD i 0∧ou.getD i 0≤c-1)→∀m,m<i+1→0≤ou.getD m 0∧ou.getD m 0≤c-1:=fun h m hm=>by
   grind
  generalize ou.getD i 0=y at*
  by_cases h1:0≤y
  ·by_cases h2 : y ≤ c - 1
   ·have good := good ⟨h1, h2⟩
    refine .inl ⟨i+1,[0,1],[yes 208,pl 214,ld 215 (i6 y),no 216,pl 221,ld 222 (i6 y),no 225,nu 210 ((i+1:Nat):Int)],1000,⟨hlt,good⟩,by omega,?_⟩
    clear good bad hin
    exact m_ (p:=let z0:=(↑i:Int);let z1:=(↑ou.length:Int);let z3:=(↑(i+1):Int);let z4:=[i6 g,V.im nR RR,V.im nN NN];let z5:=[i6 c,sl fr,sl nz,sl ou];An [decide (z0<z1)=true,An [(0:Int)≤z0,z0<z1],_,decide (y<(0:Int))=false,An [(0:Int)≤z0,z0<z1],_,decide (y≥c)=false,wr .i64 (z0+(1:Int))=z3,An [Zz,Sm (↑k:Int),Zz,z3=z3,Tt],An [z4=z4,TT 3],An [z5=z5,TT 4],Tt]) ⟨aq,a_,hld,aq,a_,hld,a_⟩
   ·have hf := bad (fun h => h2 h.2)
    refine .inr ⟨.ret,[],rrF,[yes 208,pl 214,ld 215 (i6 y),no 216,pl 221,ld 222 (i6 y),yes 225],1000,.inr (.inl ⟨hf,rfl,rfl⟩),?_⟩
    clear good bad hin hf
    exact m_ (p:=let z0:=(↑i:Int);let z1:=(↑ou.length:Int);An [decide (z0<z1)=true,An [(0:Int)≤z0,z0<z1],_,decide (y<(0:Int))=false,An [(0:Int)≤z0,z0<z1],_,decide (y≥c)=true,An [Sm false,Tt],Tt]) ⟨aq,a_,hld,aq,a_,hld,a_⟩
  ·have hf := bad (fun h => h1 h.1)
   refine .inr ⟨.ret,[],rrF,[yes 208,pl 214,ld 215 (i6 y),yes 216],1000,.inr (.inl ⟨hf,rfl,rfl⟩),?_⟩
   clear good bad hin hf
   exact m_ (p:=let z0:=(↑i:Int);An [decide (z0<(↑ou.length:Int))=true,An [(0:Int)≤z0,z0<(↑ou.length:Int)],_,decide (y<(0:Int))=true,An [Sm false,Tt],Tt]) ⟨aq,a_,hld,a_⟩
 ·have hkl : i = ou.length := by omega
  subst hkl
  have hf:inB 0 (c-1) ou=true:=Qa7.2 hin
  refine .inr ⟨.exit 10,[0],rr6 g nR RR nN NN k,[no 208],1000,.inl ⟨hf,rfl,rfl⟩,?_⟩
  clear hf hin
  refine Eq.mp (by kernel_rfl:(An [decide ((↑ou.length:Int)<(↑ou.length:Int))=false,An [Zz,Sm (↑k:Int),Tt],An [Sm [i6 g,V.im nR RR,V.im nN NN],TT 3],Tt])=_) ?_
  (repeat'(first|(with_reducible apply And.intro)|(refine fun(_:True)=>?_)))<;>first|exact aq|skip
  all_goals first|omega|(simp;omega)|skip
end
def ttB9(R:List (List Int))(N:List Mc)(k:Nat):Bool:=decide (((N.getD k mc0).ou.length:Int)=prI (rSz R N (N.getD k mc0)) (rSz R N (N.getD k mc0)).length)&&inB 0 ((N.getD k mc0).c-1) (N.getD k mc0).ou
def ttA9(R:List (List Int))(N:List Mc):Bool:=(List.range N.length).all (ttB9 R N)
theorem rt_loop9(g:Int)(R:List (List Int))(N:List Mc)(hq5:N.length≤5)(hl:Qbo R N)(hz: ∀k,k<N.length→SzOk R N (N.getD k mc0))(h13: ∀k,k<N.length→(rSz R N (N.getD k mc0)).length≤13∧∀i,i<(rSz R N (N.getD k mc0)).length→1≤(rSz R N (N.getD k mc0)).getD i 0∧(rSz R N (N.getD k mc0)).getD i 0≤4):
  Sat Pg none 0 (at' 8 [1,1,1,1,1,1,0,1,0]) (mkSt g0 227 (rr6 g R.length (rtL R) N.length (mcL N) 0)) (Qae g0 227 [(ttA9 R N=true,.exit 6,{sl:=[]}),(ttA9 R N=false,.ret,rrF)]):=by
 have hRR:=Qar R
 have hNN:=Qav N
 refine Qaw vE_ok Qaf Qab (b:=at' 8 [1,1,1,1,1,1,0,1,0,0]) (by kernel_rfl) (fun k=>k≤N.length∧∀i,i<k→ttB9 R N i=true) (rr6 g R.length (rtL R) N.length (mcL N)) (fun k=>N.length-k) (fun k hk=>?_) 0 ⟨Nat.zero_le _,fun i h=>absurd h (Nat.not_lt_zero _)⟩
 obtain⟨hk,hin⟩:=hk
 by_cases hlt:k<N.length
 ·have hld := Qdp hlt
  have hx:=(hl.2 _ (Qdz (d:=mc0) hlt)).2.2
  have hget:N[k]? =some (N.getD k mc0):=by rw[List.getD_eq_getElem?_getD,List.getElem?_eq_getElem hlt];rfl
  have hno:ttB9 R N k=false→ttA9 R N=false:=fun h=>Qf1 hlt h
  have hnx:ttB9 R N k=true→∀i,i<k+1→ttB9 R N i=true:=fun hx i hi=>by
   grind
  have he:ttB9 R N k=(decide (((N.getD k mc0).ou.length:Int)=prI (rSz R N (N.getD k mc0)) (rSz R N (N.getD k mc0)).length)&&inB 0 ((N.getD k mc0).c-1) (N.getD k mc0).ou):=rfl
  rw[he]at hno hnx
  have hzk:=hz k hlt
  obtain⟨h1,h2⟩:=h13 k hlt
  clear he hin hz h13 hl
  generalize hxe:N.getD k mc0=x at*
  have hsn:=fun e1 e2=>Qkh g R N x k hget hzk e1 e2
  have hsw:=fun m hm=>Qki g R N x k hget hzk (m:=m) hm
  have e0:x.fr=[]∧x.no=[]↔(rSz R N x).length=0:=by
   unfold rSz
   rw[List.length_append,Qbm,Qbm]
   constructor
   ·simp
   ·simp
  obtain⟨c,fr,nz,ou⟩:=x
  dsimp only at*
  clear hzk hxe hget
  generalize rSz R N ⟨c,fr,nz,ou⟩=cs at*
  have f1:=Qad fr
  have f2:=Qad nz
  have f3:=Qad ou
  have f4:=Qad cs
  have hou:=rt_out g R.length (rtL R) hRR N.length (mcL N) hNN c fr nz ou k hx
  unfold mdV at hsn hsw
  rcases hm:cs.length with _|m
  ·obtain ⟨a1, a2⟩ := e0.2 hm
   have hs:=hsn a1 a2
   have hp1:prI cs cs.length=1:=by rw[hm];rfl
   rw[hp1]at hno hnx
   clear hsn hsw e0 h1 h2 hp1
   generalize rtL R=RR at*
   generalize hNNe:mcL N=NN at*
   by_cases he:(ou.length:Int)=1
   ·have he' : ou.length = 1 := by omega
    rw[decide_eq_true he,Bool.true_and]at hno hnx
    generalize inB 0 (c-1) ou=b at*
    cases b with
    |true=>
     have hnx:=hnx rfl
     have hou':=hou.fst (fun h=>by cases h)
     clear hou hno
     refine .inl ⟨k+1,[0],[yes 176,pl 182,ld 183 (.agg (mcC ⟨c,fr,nz,ou⟩)),fn 186 .nils,(0,.unroll 1),no 203,(0,.loop [0,1] (rr10 g R.length RR N.length NN ⟨c,fr,nz,ou⟩ k 0) [(True,.exit 10,rr6 g R.length RR N.length NN k)]),nu 178 ((k+1:Nat):Int)],1000,⟨hlt,hnx⟩,by omega,?_⟩
     clear hnx
     generalize R.length=nR at*
     generalize N.length=n at*
     exact m_ (p:=let z0:=[i6 g,V.im nR RR,V.im n NN];let z1:=(↑k:Int);let z2:=(↑(k+1):Int);let z3:=[i6 c,sl fr,sl nz,sl ou];An [decide (z1<(↑n:Int))=true,An [(0:Int)≤z1,z1<(↑n:Int)],_,An [TT 3,Tt,Tt],_,Tt,((↑ou.length:Int) != (1:Int))=false,An [An [Zz,z1=z1,Zz,(↑(0:Nat):Int)=(0:Int),Tt],An [z0=z0,TT 3],An [z3=z3,TT 4],Tt],_,(True->An [wr .i64 (z1+(1:Int))=z2,An [Zz,z2=z2,Tt],An [z0=z0,TT 3],Tt]),Tt]) ⟨aq,a_,hld,a_,hs,aq,aq,a_,hou',a_⟩
    |false=>
     have hf:=hno rfl
     have hou':=hou.snd (fun h=>by cases h)
     clear hou hno hnx
     refine .inr ⟨.ret,[],rrF,[yes 176,pl 182,ld 183 (.agg (mcC ⟨c,fr,nz,ou⟩)),fn 186 .nils,(0,.unroll 1),no 203,(0,.loop [0,1] (rr10 g R.length RR N.length NN ⟨c,fr,nz,ou⟩ k 0) [(True,.ret,rrF)])],1000,.inr (.inl ⟨hf,rfl,rfl⟩),?_⟩
     clear hf
     generalize R.length=nR at*
     generalize N.length=n at*
     exact m_ (p:=let z0:=[i6 g,V.im nR RR,V.im n NN];let z1:=(↑k:Int);let z2:=[i6 c,sl fr,sl nz,sl ou];An [decide (z1<(↑n:Int))=true,An [(0:Int)≤z1,z1<(↑n:Int)],_,An [TT 3,Tt,Tt],_,Tt,((↑ou.length:Int) != (1:Int))=false,An [An [Zz,z1=z1,Zz,(↑(0:Nat):Int)=(0:Int),Tt],An [z0=z0,TT 3],An [z2=z2,TT 4],Tt],_,(True->An [An [Sm false,Tt],Tt]),Tt]) ⟨aq,a_,hld,a_,hs,aq,aq,a_,hou',a_⟩
   ·have hf := hno (by simp_all)
    clear hou hno hnx
    refine .inr ⟨.ret,[],rrF,[yes 176,pl 182,ld 183 (.agg (mcC ⟨c,fr,nz,ou⟩)),fn 186 .nils,(0,.unroll 1),yes 203],1000,.inr (.inl ⟨hf,rfl,rfl⟩),?_⟩
    clear hf
    generalize R.length=nR at*
    generalize N.length=n at*
    exact m_ (p:=let z0:=(↑k:Int);An [decide (z0<(↑n:Int))=true,An [(0:Int)≤z0,z0<(↑n:Int)],_,An [TT 3,Tt,Tt],_,Tt,((↑ou.length:Int) != (1:Int))=true,An [Sm false,Tt],Tt]) ⟨aq,a_,hld,a_,hs,a_⟩
  ·have hpr := rt_prod g R.length (rtL R) hRR N.length (mcL N) hNN c fr nz ou cs (m + 1) k hm (by omega) h2
   have hs0:=hsw m hm
   have hml:(ints cs).length=m+1:=by rw[Qal,hm]
   have hs:FnOk Pg g0 36 [.agg [i6 g,.im R.length (rtL R),.im N.length (mcL N)],i6 (k:Nat)] (.im (m+1) (ints cs)):=frameZ hs0 (ViewL.of_hf _ ⟨⟨trivial,trivial,trivial,trivial⟩,trivial,trivial⟩) (Qf0 _) hml
   rw[hm]at hno hnx
   clear hsn hsw e0 h1 h2 hs0
   generalize rtL R=RR at*
   generalize hNNe:mcL N=NN at*
   generalize prI cs (m+1)=pr at*
   by_cases he:(ou.length:Int)=pr
   ·rw [decide_eq_true he, Bool.true_and] at hno hnx
    generalize inB 0 (c-1) ou=b at*
    cases b with
    |true=>
     have hnx:=hnx rfl
     have hou':=hou.fst (fun h=>by cases h)
     clear hou hno
     refine .inl ⟨k+1,[0],[yes 176,pl 182,ld 183 (.agg (mcC ⟨c,fr,nz,ou⟩)),fn 186 (.im (m+1) (ints cs)),(0,.loop [0,1] (rr8 g R.length RR N.length NN ⟨c,fr,nz,ou⟩ cs (m+1) k 0 1) [(True,.exit 8,rr8E g R.length RR N.length NN ⟨c,fr,nz,ou⟩ k pr)]),no 203,(0,.loop [0,1] (rr10 g R.length RR N.length NN ⟨c,fr,nz,ou⟩ k 0) [(True,.exit 10,rr6 g R.length RR N.length NN k)]),nu 178 ((k+1:Nat):Int)],1000,⟨hlt,hnx⟩,by omega,?_⟩
     clear hnx
     generalize R.length=nR at*
     generalize N.length=n at*
     exact m_ (p:=let z0:=[i6 g,V.im nR RR,V.im n NN];let z1:=[i6 c,sl fr,sl nz,sl ou];let z2:=(↑k:Int);let z4:=(↑(k+1):Int);An [decide (z2<(↑n:Int))=true,An [(0:Int)≤z2,z2<(↑n:Int)],_,An [TT 3,Tt,Tt],_,Tt,An [An [Zz,z2=z2,Zz,(1:Int)=(1:Int),An [Sm (m+1),Sm (ints cs)],(↑(0:Nat):Int)=(0:Int),Tt],An [z0=z0,TT 3],An [z1=z1,TT 4],Tt],_,(True->An [((↑ou.length:Int) != pr)=false,An [An [Zz,z2=z2,Zz,(↑(0:Nat):Int)=(0:Int),Tt],An [z0=z0,TT 3],An [z1=z1,TT 4],Tt],_,(True->An [wr .i64 (z2+(1:Int))=z4,An [Zz,z4=z4,Tt],An [z0=z0,TT 3],Tt]),Tt]),Tt]) ⟨aq,a_,hld,a_,hs,aq,a_,hpr,(fun _=>⟨aq,a_,hou',a_⟩),aq⟩
    |false=>
     have hf:=hno rfl
     have hou':=hou.snd (fun h=>by cases h)
     clear hou hno hnx
     refine .inr ⟨.ret,[],rrF,[yes 176,pl 182,ld 183 (.agg (mcC ⟨c,fr,nz,ou⟩)),fn 186 (.im (m+1) (ints cs)),(0,.loop [0,1] (rr8 g R.length RR N.length NN ⟨c,fr,nz,ou⟩ cs (m+1) k 0 1) [(True,.exit 8,rr8E g R.length RR N.length NN ⟨c,fr,nz,ou⟩ k pr)]),no 203,(0,.loop [0,1] (rr10 g R.length RR N.length NN ⟨c,fr,nz,ou⟩ k 0) [(True,.ret,rrF)])],1000,.inr (.inl ⟨hf,rfl,rfl⟩),?_⟩
     clear hf
     generalize R.length=nR at*
     generalize N.length=n at*
     exact m_ (p:=let z0:=[i6 g,V.im nR RR,V.im n NN];let z1:=[i6 c,sl fr,sl nz,sl ou];let z2:=(↑k:Int);An [decide (z2<(↑n:Int))=true,An [(0:Int)≤z2,z2<(↑n:Int)],_,An [TT 3,Tt,Tt],_,Tt,An [An [Zz,z2=z2,Zz,Sm (1:Int),An [Sm (m+1),Sm (ints cs)],(↑(0:Nat):Int)=(0:Int),Tt],An [z0=z0,TT 3],An [z1=z1,TT 4],Tt],_,(True->An [((↑ou.length:Int) != pr)=false,An [An [Zz,z2=z2,Zz,(↑(0:Nat):Int)=(0:Int),Tt],An [z0=z0,TT 3],An [z1=z1,TT 4],Tt],_,(True->An [An [Sm false,Tt],Tt]),Tt]),Tt]) ⟨aq,a_,hld,a_,hs,aq,a_,hpr,(fun _=>⟨aq,a_,hou',a_⟩),aq⟩
   ·have hf := hno (by simp_all)
    clear hou hno hnx
    refine .inr ⟨.ret,[],rrF,[yes 176,pl 182,ld 183 (.agg (mcC ⟨c,fr,nz,ou⟩)),fn 186 (.im (m+1) (ints cs)),(0,.loop [0,1] (rr8 g R.length RR N.length NN ⟨c,fr,nz,ou⟩ cs (m+1) k 0 1) [(True,.exit 8,rr8E g R.length RR N.length NN ⟨c,fr,nz,ou⟩ k pr)]),yes 203],1000,.inr (.inl ⟨hf,rfl,rfl⟩),?_⟩
    clear hf
    generalize R.length=nR at*
    generalize N.length=n at*
    exact m_ (p:=let z0:=[i6 g,V.im nR RR,V.im n NN];let z1:=(↑k:Int);let z3:=[i6 c,sl fr,sl nz,sl ou];An [decide (z1<(↑n:Int))=true,An [(0:Int)≤z1,z1<(↑n:Int)],_,An [TT 3,Tt,Tt],_,Tt,An [An [Zz,z1=z1,Zz,Sm (1:Int),An [Sm (m+1),Sm (ints cs)],(↑(0:Nat):Int)=(0:Int),Tt],An [z0=z0,TT 3],An [z3=z3,TT 4],Tt],_,(True->An [((↑ou.length:Int) != pr)=true,An [Sm false,Tt],Tt]),Tt]) ⟨aq,a_,hld,a_,hs,aq,a_,hpr,a_⟩
 ·have hk2 : k = N.length := by omega
  subst hk2
  have hall:ttA9 R N=true:=Qbs hin
  refine .inr ⟨.exit 6,[],{sl:=[]},[no 176],1000,.inl ⟨hall,rfl,rfl⟩,?_⟩
  clear hin hall hl hz h13
  generalize rtL R=RR at*
  generalize mcL N=NN at*
  generalize R.length=nR at*
  generalize N.length=n at*
  refine Eq.mp (by kernel_rfl:(An [decide ((↑n:Int)<(↑n:Int))=false,Tt,Tt])=_) ?_
  (repeat'(first|(with_reducible apply And.intro)|(refine fun(_:True)=>?_)))<;>first|exact aq|skip
  all_goals skip
theorem Qiv{L P:List Int}{k:Nat}(h:k<P.length):(rAt L P).getD k 0=L.getD (P.getD k 0).toNat 0:=by
 grind[rAt]
theorem Qpg(N:List Mc)(i:Nat):(cdT N).getD i 0=(N.getD i mc0).c:=by
 grind[cdT]
theorem Qq2(R:List (List Int))(i:Nat):(lnT R).getD i 0=((R.getD i []).length:Int):=by
 grind[lnT]
theorem prI_cd(N:List Mc)(P:List Int): ∀k,k≤P.length→prI (rAt (cdT N) P) k=proC N P k
 |0,_=>rfl
 |k+1,h=>by
  show prI _ k* _=proC N P k* _
  rw[prI_cd N P k (by omega),Qiv (by omega),Qpg]
theorem prI_ln(R:List (List Int))(P:List Int): ∀k,k≤P.length→prI (rAt (lnT R) P) k=(proR R P k:Nat)
 |0,_=>rfl
 |k+1,h=>by
  show prI _ k* _=((proR R P k* _:Nat):Int)
  rw[prI_ln R P k (by omega),Qiv (by omega),Qq2,Int.natCast_mul]
theorem prI_sz(R:List (List Int))(N:List Mc)(x:Mc):prI (rSz R N x) (rSz R N x).length=proC N x.fr x.fr.length*(proR R x.no x.no.length:Nat):=by
 unfold rSz
 rw[List.length_append,Qro,Qbm,Qbm,prI_cd N x.fr _ (Nat.le_refl _),prI_ln R x.no _ (Nat.le_refl _)]
theorem Qrn{R:List (List Int)}{N:List Mc}:plA R N=true↔∀k,k<N.length→(1≤(N.getD k mc0).c∧(N.getD k mc0).c≤4)∧incB N.length (N.getD k mc0).fr=true∧incB R.length (N.getD k mc0).no=true:=by
 simp_all[plA,plB,and_assoc]
theorem ttA_iff{R:List (List Int)}{N:List Mc}:ttA9 R N=true↔∀k,k<N.length→((N.getD k mc0).ou.length:Int)=proC N (N.getD k mc0).fr (N.getD k mc0).fr.length*(proR R (N.getD k mc0).no (N.getD k mc0).no.length:Nat)∧inB 0 ((N.getD k mc0).c-1) (N.getD k mc0).ou=true:=by
 simp_all[ttA9,ttB9,prI_sz]
theorem Qn3{R:List (List Int)}{N:List Mc}:nodesB R N=true↔(∀k,k<N.length→nodB R N k (N.getD k mc0)=true)∧crdP N N.length≤1024:=by
 grind[nodesB]
theorem Qpf{N:List Mc}:N.all Qds=true↔∀k,k<N.length→1≤(N.getD k mc0).c∧(N.getD k mc0).c≤4:=by
 rw[List.all_eq_true]
 constructor
 ·simp_all[Qgb]
 ·intro h x hx
  obtain⟨k,hk,rfl⟩:=memDG (d:=mc0) hx
  refine Qa7.2 fun i hi=>?_
  simp_all
theorem in1{lo hi x:Int}:inB lo hi [x]=true↔lo≤x∧x≤hi:=by simp[inB]
theorem Qcc{g:Int}{R:List (List Int)}{N:List Mc}:chkB g R N=true↔(1≤g∧g≤12)∧R.length≤8∧(1≤N.length∧N.length≤5)∧R.all (rtB g)=true∧plA R N=true∧prK R R.length≤1024∧crdP N N.length≤1024∧acR (pL N)=true∧ttA9 R N=true:=by
 unfold chkB
 simp only[Bool.and_eq_true,in1]
 rw[Qpf,Qn3,Qrn,ttA_iff]
 unfold rootsB
 simp only[Bool.and_eq_true,decide_eq_true_eq,Qfa]
 have hpf:(∀k,k<N.length→incB N.length (N.getD k mc0).fr=true)→N.length≤5→∀k,k<N.length→Qbk (N.getD k mc0).fr N.length∧(N.getD k mc0).fr.length≤5:=fun h h5 k hk=>⟨Qbg (h k hk),Nat.le_trans (Qcd (h k hk)) h5⟩
 grind[acP_iff,acyP_in,Qox]
theorem Qkp{a:Bool}(h: ¬a=true):a=false:=by simp_all
theorem boolX{a b:Bool}(h:a=true↔b=true):a=b:=by simp_all
theorem Qr1(g:Int)(R:List (List Int))(N:List Mc)(hl:Qbo R N):FnOk Pg g0 8 [mdV g R N] (.bool (chkB g R N)):=by
 have hRR:=Qar R
 have hNN:=Qav N
 show FnOk Pg g0 8 [.agg [i6 g,.im R.length (rtL R),.im N.length (mcL N)]] _
 by_cases c1:g<1
 ·rw [Qkp (a := chkB g R N) (fun h => by grind[Qcc])]
  generalize rtL R=RR at*
  generalize mcL N=NN at*
  refine FnOk.of_vc vE_ok Qaf Qab (n:=1000) (r:=[]) (S:=rrF) (hs:=[yes 18]) ?_
  clear hl
  generalize R.length=nR at*
  generalize N.length=n at*
  refine Eq.mp (by kernel_rfl:(An [Sm (V.bool false),decide (g<(1:Int))=true,An [Sm false,Tt],Tt])=_) ?_
  (repeat'(first|(with_reducible apply And.intro)|(refine fun(_:True)=>?_)))<;>first|exact aq|skip
  all_goals first|omega|(simp;omega)|skip
 by_cases c2:12<g
 ·rw [Qkp (a := chkB g R N) (fun h => by grind[Qcc])]
  generalize rtL R=RR at*
  generalize mcL N=NN at*
  refine FnOk.of_vc vE_ok Qaf Qab (n:=1000) (r:=[]) (S:=rrF) (hs:=[no 18,yes 22]) ?_
  clear hl
  generalize R.length=nR at*
  generalize N.length=n at*
  refine Eq.mp (by kernel_rfl:(An [Sm (V.bool false),decide (g<(1:Int))=false,decide (g>(12:Int))=true,An [Sm false,Tt],Tt])=_) ?_
  (repeat'(first|(with_reducible apply And.intro)|(refine fun(_:True)=>?_)))<;>first|exact aq|skip
  all_goals first|omega|(simp;omega)|skip
 by_cases c3:8<R.length
 ·rw [Qkp (a := chkB g R N) (fun h => by grind[Qcc])]
  generalize rtL R=RR at*
  generalize mcL N=NN at*
  refine FnOk.of_vc vE_ok Qaf Qab (n:=1000) (r:=[]) (S:=rrF) (hs:=[no 18,no 22,yes 28]) ?_
  clear hl
  generalize R.length=nR at*
  generalize N.length=n at*
  refine Eq.mp (by kernel_rfl:(An [Sm (V.bool false),decide (g<(1:Int))=false,decide (g>(12:Int))=false,decide ((↑nR:Int)>(8:Int))=true,An [Sm false,Tt],Tt])=_) ?_
  (repeat'(first|(with_reducible apply And.intro)|(refine fun(_:True)=>?_)))<;>first|exact aq|skip
  all_goals first|omega|(simp;omega)|skip
 by_cases c4:N.length<1
 ·rw [Qkp (a := chkB g R N) (fun h => by grind[Qcc])]
  generalize rtL R=RR at*
  generalize mcL N=NN at*
  refine FnOk.of_vc vE_ok Qaf Qab (n:=1000) (r:=[]) (S:=rrF) (hs:=[no 18,no 22,no 28,yes 34]) ?_
  clear hl
  generalize R.length=nR at*
  generalize N.length=n at*
  refine Eq.mp (by kernel_rfl:(An [Sm (V.bool false),decide (g<(1:Int))=false,decide (g>(12:Int))=false,decide ((↑nR:Int)>(8:Int))=false,decide ((↑n:Int)<(1:Int))=true,An [Sm false,Tt],Tt])=_) ?_
  (repeat'(first|(with_reducible apply And.intro)|(refine fun(_:True)=>?_)))<;>first|exact aq|skip
  all_goals first|omega|(simp;omega)|skip
 by_cases c5:5<N.length
 ·rw [Qkp (a := chkB g R N) (fun h => by grind[Qcc])]
  generalize rtL R=RR at*
  generalize mcL N=NN at*
  refine FnOk.of_vc vE_ok Qaf Qab (n:=1000) (r:=[]) (S:=rrF) (hs:=[no 18,no 22,no 28,no 34,yes 40]) ?_
  clear hl
  generalize R.length=nR at*
  generalize N.length=n at*
  refine Eq.mp (by kernel_rfl:(An [Sm (V.bool false),decide (g<(1:Int))=false,decide (g>(12:Int))=false,decide ((↑nR:Int)>(8:Int))=false,decide ((↑n:Int)<(1:Int))=false,decide ((↑n:Int)>(5:Int))=true,An [Sm false,Tt],Tt])=_) ?_
  (repeat'(first|(with_reducible apply And.intro)|(refine fun(_:True)=>?_)))<;>first|exact aq|skip
  all_goals first|omega|(simp;omega)|skip
 have hl1:=rr_out g (by omega) R (by omega) N.length (mcL N) hNN
 cases hr:R.all (rtB g)with
 |false=>
  rw[Qkp (a:=chkB g R N) (fun h=>by grind[Qcc])]
  rw[hr]at hl1
  have hl1':=hl1.snd (fun h=>by cases h)
  clear hl1 hl hr
  generalize rtL R=RR at*
  generalize mcL N=NN at*
  generalize R.length=nR at*
  generalize N.length=n at*
  refine FnOk.of_vc vE_ok Qaf Qab (n:=1000) (r:=[]) (S:=rrF) (hs:=[no 18,no 22,no 28,no 34,no 40,(0,.loop [0] (rr0 g nR RR n NN 0 1) [(True,.ret,rrF)])]) ?_
  exact m_ (p:=let z0:=(1:Int);An [Sm (V.bool false),decide (g<z0)=false,decide (g>(12:Int))=false,decide ((↑nR:Int)>(8:Int))=false,decide ((↑n:Int)<z0)=false,decide ((↑n:Int)>(5:Int))=false,An [An [Zz,(↑(1:Nat):Int)=z0,Sm z0,(↑(0:Nat):Int)=(0:Int),Tt],An [Sm [i6 g,V.im nR RR,V.im n NN],TT 3],Tt],_,(True->An [An [Sm false,Tt],Tt]),Tt]) ⟨aq,aq,aq,aq,aq,aq,a_,hl1',a_⟩
 | true =>
  rw[hr]at hl1
  have hl1':=hl1.fst (fun h=>by cases h)
  have hl2:=rn_loop g R N (by omega) hl (prK R R.length)
  cases hp:plA R N with
  |false=>
   rw[Qkp (a:=chkB g R N) (fun h=>by grind[Qcc])]
   rw[hp]at hl2
   have hl2':=hl2.snd (fun h=>by cases h)
   clear hl1 hl2 hl hr hp
   generalize prK R R.length=hd at*
   generalize rtL R=RR at*
   generalize mcL N=NN at*
   generalize R.length=nR at*
   generalize N.length=n at*
   refine FnOk.of_vc vE_ok Qaf Qab (n:=1000) (r:=[]) (S:=rrF) (hs:=[no 18,no 22,no 28,no 34,no 40,(0,.loop [0] (rr0 g nR RR n NN 0 1) [(True,.exit 0,rr0E g nR RR n NN hd)]),(0,.loop [0] (rr4 g nR RR n NN hd 0 1) [(True,.ret,rrF)])]) ?_
   exact m_ (p:=let z0:=[i6 g,V.im nR RR,V.im n NN];let z1:=(1:Int);An [Sm (V.bool false),decide (g<z1)=false,decide (g>(12:Int))=false,decide ((↑nR:Int)>(8:Int))=false,decide ((↑n:Int)<z1)=false,decide ((↑n:Int)>(5:Int))=false,An [An [Zz,(↑(1:Nat):Int)=z1,z1=z1,(↑(0:Nat):Int)=(0:Int),Tt],An [z0=z0,TT 3],Tt],_,(True->An [An [An [Zz,Sm (↑hd:Int),z1=z1,(↑(0:Nat):Int)=(0:Int),Tt],An [z0=z0,TT 3],Tt],_,(True->An [An [Sm false,Tt],Tt]),Tt]),Tt]) ⟨aq,aq,aq,aq,aq,aq,a_,hl1',(fun _=>⟨a_,hl2',a_⟩),aq⟩
  | true =>
   rw[hp]at hl2
   have hl2':=hl2.fst (fun h=>by cases h)
   have hpl:=Qrn.1 hp
   have hq:1≤N.length∧N.length≤5:=by omega
   have hpf: ∀k,k<N.length→Qbk (N.getD k mc0).fr N.length∧(N.getD k mc0).fr.length≤5:=fun k hk=>⟨Qbg (hpl k hk).2.1,Nat.le_trans (Qcd (hpl k hk).2.1) hq.2⟩
   have hpn: ∀k,k<N.length→Qbk (N.getD k mc0).no R.length∧(N.getD k mc0).no.length≤8:=fun k hk=>⟨Qbg (hpl k hk).2.2,Nat.le_trans (Qcd (hpl k hk).2.2) (by omega)⟩
   have hrt: ∀k,k<R.length→1≤(R.getD k []).length∧(R.getD k []).length≤4:=fun k hk=>Qix (List.all_eq_true.1 hr _ (Qdz hk))
   have hSm:SmN N:=⟨by omega,fun k hk=>⟨by grind,by grind⟩,fun k hk i hi=>by have:=(hpf k hk).1 i hi;omega,fun k hk i hi=>by have:=(hpn k hk).1 i hi;omega⟩
   have hSz: ∀k,k<N.length→SzOk R N (N.getD k mc0):=fun k hk=>⟨by omega,by omega,(hpf k hk).1,(hpn k hk).1,by grind,by grind⟩
   have h13: ∀k,k<N.length→(rSz R N (N.getD k mc0)).length≤13∧∀i,i<(rSz R N (N.getD k mc0)).length→1≤(rSz R N (N.getD k mc0)).getD i 0∧(rSz R N (N.getD k mc0)).getD i 0≤4:=fun k hk=>by
    have f1:=(hpf k hk).2
    have f2:=(hpn k hk).2
    unfold rSz
    rw[List.length_append,Qbm,Qbm]
    refine⟨by omega,fun i hi=>?_⟩
    by_cases hlt:i<(N.getD k mc0).fr.length
    ·rw [List.getD_eq_getElem?_getD, List.getElem?_append_left (by grind[Qbm]), ← List.getD_eq_getElem?_getD, Qiv hlt, Qpg]
     have:=(hpf k hk).1 i hlt
     simp_all
    ·rw [List.getD_eq_getElem?_getD, List.getElem?_append_right (by rw [Qbm]; omega), ← List.getD_eq_getElem?_getD, Qbm, Qiv (by omega), Qq2]
     have:=(hpn k hk).1 (i-(N.getD k mc0).fr.length) (by omega)
     grind
   have hl3:=rt_loop9 g R N (by omega) hl hSz h13
   have hpar:=Qiw g R N hSm
   rw[pL_ut]at hpar
   have hac:=Qoy (pL N) (by rw[Qet];omega) (pL_64 hSm)
   have e:chkB g R N=(decide (prK R R.length≤1024)&&decide (crdP N N.length≤1024)&&acR (pL N)&&ttA9 R N):=by
    refine boolX ?_
    rw[Qcc]
    simp only[Bool.and_eq_true,decide_eq_true_eq]
    exact⟨fun h=>⟨⟨⟨h.2.2.2.2.2.1,h.2.2.2.2.2.2.1⟩,h.2.2.2.2.2.2.2.1⟩,h.2.2.2.2.2.2.2.2⟩,fun h=>⟨by omega,by omega,hq,hr,hp,h.1.1.1,h.1.1.2,h.1.2,h.2⟩⟩
   rw[e]
   clear e hl1 hl2 hl hr hp hpl hpf hpn hrt hSm hSz h13
   have hpf:=Qag (pL N)
   have hac':FnOk Pg g0 38 [.im N.length (ut (pL N))] (.bool (acR (pL N))):=by rw[←Qet N];exact hac
   have hpar':FnOk Pg g0 17 [.agg [i6 g,.im R.length (rtL R),.im N.length (mcL N)]] (.im N.length (ut (pL N))):=hpar
   clear hac hpar
   generalize acR (pL N)=ba at*
   generalize ttA9 R N=bt at*
   generalize prK R R.length=hd at*
   generalize crdP N N.length=sn at*
   generalize ut (pL N)=PP at*
   generalize rtL R=RR at*
   generalize mcL N=NN at*
   generalize R.length=nR at*
   generalize N.length=n at*
   by_cases d1:hd≤1024
   ·by_cases d2 : sn ≤ 1024
    ·rw [decide_eq_true d1, decide_eq_true d2]
     cases ba with
     |false=>
      refine FnOk.of_vc vE_ok Qaf Qab (n:=1000) (r:=[]) (S:=rrF) (hs:=[no 18,no 22,no 28,no 34,no 40,(0,.loop [0] (rr0 g nR RR n NN 0 1) [(True,.exit 0,rr0E g nR RR n NN hd)]),(0,.loop [0] (rr4 g nR RR n NN hd 0 1) [(True,.exit 4,rr4E g nR RR n NN hd sn)]),no 161,no 164,fn 168 (.im n PP),fn 169 (.bool false)]) ?_
      clear hl3
      exact m_ (p:=let z0:=[i6 g,V.im nR RR,V.im n NN];let z1:=ofOs T.e 0 [cuO g nR RR n NN];let z2:=(1:Int);let z4:=V.bool false;let z5:=(↑hd:Int);An [z4=V.bool (true&&true&&false&&bt),decide (g<z2)=false,decide (g>(12:Int))=false,decide ((↑nR:Int)>(8:Int))=false,decide ((↑n:Int)<z2)=false,decide ((↑n:Int)>(5:Int))=false,An [An [Zz,(↑(1:Nat):Int)=z2,z2=z2,(↑(0:Nat):Int)=(0:Int),Tt],An [z0=z0,TT 3],Tt],_,(True->An [An [An [Zz,z5=z5,z2=z2,(↑(0:Nat):Int)=(0:Int),Tt],An [z0=z0,TT 3],Tt],_,(True->An [decide (z5>(1024:Int))=false,decide (sn>(1024:Int))=false,An [TT 3,Tt],_,Tt,An [Tt,Tt],_,An [V.fn 17 []=V.fn 38 []→[V.agg z0]=[(V.im n PP)]→z1=z1→1=1→CR.mk (V.im n PP) z1 1 []=CR.mk z4 z1 1 [],Tt],An [Sm false,Tt],Tt]),Tt]),Tt]) ⟨aq,aq,aq,aq,aq,aq,a_,hl1',(fun _=>⟨a_,hl2',(fun _=>⟨aq,aq,a_,hpar',aq,a_,hac',a_⟩),aq⟩),aq⟩
     |true=>
      rw[Bool.true_and,Bool.true_and,Bool.true_and]
      refine FnOk.of_vc vE_ok Qaf Qab (n:=1000) (r:=[]) (S:={sl:=[(2,.bool bt)]}) (hs:=[no 18,no 22,no 28,no 34,no 40,(0,.loop [0] (rr0 g nR RR n NN 0 1) [(True,.exit 0,rr0E g nR RR n NN hd)]),(0,.loop [0] (rr4 g nR RR n NN hd 0 1) [(True,.exit 4,rr4E g nR RR n NN hd sn)]),no 161,no 164,fn 168 (.im n PP),fn 169 (.bool true),(0,.loop [0] (rr6 g nR RR n NN 0) [(bt=true,.exit 6,{sl:=[]}),(bt=false,.ret,rrF)])]) ?_
      exact m_ (p:=let z0:=[i6 g,V.im nR RR,V.im n NN];let z1:=ofOs T.e 0 [cuO g nR RR n NN];let z2:=(1:Int);let z3:=(↑(0:Nat):Int);let z5:=(↑hd:Int);An [Sm (V.bool bt),decide (g<z2)=false,decide (g>(12:Int))=false,decide ((↑nR:Int)>(8:Int))=false,decide ((↑n:Int)<z2)=false,decide ((↑n:Int)>(5:Int))=false,An [An [Zz,(↑(1:Nat):Int)=z2,z2=z2,z3=(0:Int),Tt],An [z0=z0,TT 3],Tt],_,(True->An [An [An [Zz,z5=z5,z2=z2,z3=(0:Int),Tt],An [z0=z0,TT 3],Tt],_,(True->An [decide (z5>(1024:Int))=false,decide (sn>(1024:Int))=false,An [TT 3,Tt],_,Tt,An [Tt,Tt],_,An [V.fn 17 []=V.fn 38 []→[V.agg z0]=[(V.im n PP)]→z1=z1→1=1→CR.mk (V.im n PP) z1 1 []=CR.mk (V.bool true) z1 1 [],Tt],An [An [Zz,z3=(0:Int),Tt],An [z0=z0,TT 3],Tt],_,bt=true→An [An [bt=true,Tt],Tt],bt=false→An [An [bt=false,Tt],Tt],Tt]),Tt]),Tt]) ⟨aq,aq,aq,aq,aq,aq,a_,hl1',(fun _=>⟨a_,hl2',(fun _=>⟨aq,aq,a_,hpar',aq,a_,hac',a_,a_,hl3,a_⟩),aq⟩),aq⟩
    ·rw [decide_eq_false d2, Bool.and_false, Bool.false_and, Bool.false_and]
     refine FnOk.of_vc vE_ok Qaf Qab (n:=1000) (r:=[]) (S:=rrF) (hs:=[no 18,no 22,no 28,no 34,no 40,(0,.loop [0] (rr0 g nR RR n NN 0 1) [(True,.exit 0,rr0E g nR RR n NN hd)]),(0,.loop [0] (rr4 g nR RR n NN hd 0 1) [(True,.exit 4,rr4E g nR RR n NN hd sn)]),no 161,yes 164]) ?_
     clear hl3 hac' hpar'
     exact m_ (p:=let z0:=[i6 g,V.im nR RR,V.im n NN];let z1:=(1:Int);let z2:=(↑hd:Int);An [Sm (V.bool false),decide (g<z1)=false,decide (g>(12:Int))=false,decide ((↑nR:Int)>(8:Int))=false,decide ((↑n:Int)<z1)=false,decide ((↑n:Int)>(5:Int))=false,An [An [Zz,(↑(1:Nat):Int)=z1,z1=z1,(↑(0:Nat):Int)=(0:Int),Tt],An [z0=z0,TT 3],Tt],_,(True->An [An [An [Zz,z2=z2,z1=z1,(↑(0:Nat):Int)=(0:Int),Tt],An [z0=z0,TT 3],Tt],_,(True->An [decide (z2>(1024:Int))=false,decide (sn>(1024:Int))=true,An [Sm false,Tt],Tt]),Tt]),Tt]) ⟨aq,aq,aq,aq,aq,aq,a_,hl1',(fun _=>⟨a_,hl2',a_⟩),aq⟩
   ·rw [decide_eq_false d1, Bool.false_and, Bool.false_and, Bool.false_and]
    refine FnOk.of_vc vE_ok Qaf Qab (n:=1000) (r:=[]) (S:=rrF) (hs:=[no 18,no 22,no 28,no 34,no 40,(0,.loop [0] (rr0 g nR RR n NN 0 1) [(True,.exit 0,rr0E g nR RR n NN hd)]),(0,.loop [0] (rr4 g nR RR n NN hd 0 1) [(True,.exit 4,rr4E g nR RR n NN hd sn)]),yes 161]) ?_
    clear hl3 hac' hpar'
    exact m_ (p:=let z0:=[i6 g,V.im nR RR,V.im n NN];let z1:=(1:Int);let z2:=(↑hd:Int);An [Sm (V.bool false),decide (g<z1)=false,decide (g>(12:Int))=false,decide ((↑nR:Int)>(8:Int))=false,decide ((↑n:Int)<z1)=false,decide ((↑n:Int)>(5:Int))=false,An [An [Zz,(↑(1:Nat):Int)=z1,z1=z1,(↑(0:Nat):Int)=(0:Int),Tt],An [z0=z0,TT 3],Tt],_,(True->An [An [An [Zz,z2=z2,z1=z1,(↑(0:Nat):Int)=(0:Int),Tt],An [z0=z0,TT 3],Tt],_,(True->An [decide (z2>(1024:Int))=true,An [Sm false,Tt],Tt]),Tt]),Tt]) ⟨aq,aq,aq,aq,aq,aq,a_,hl1',(fun _=>⟨a_,hl2',a_⟩),aq⟩
def onV(p j:List Nat)(N:List Mc)(v:Nat):Bool:=decide (mi (grP N v) (p.getD v 0)=0)&&decide (mi (grJ N v) (j.getD v 0)=0)
def onB(p j:List Nat)(g:Int)(R:List (List Int))(N:List Mc):Bool:=chkB g R N&&decide (N.length=p.length)&&(List.range N.length).all (onV p j N)
section
variable {p j:List Nat} (hg:GrOk p j) {R:List (List Int)} {N:List Mc} (hN:NdOk R N) (hl:N.length=p.length)
abbrev onS(p j:List Nat)(q:Nat)(A B:List V)(k:Nat):SL:={sl:=[(0,ul p),(1,ul j),(8,.im q A),(9,.im q B),(32,i6 (q:Nat)),(33,i6 (k:Nat))]}
include hg hN hl
theorem on_loop:Sat Pg none 0 (at' 22 [1,1,1,1,0,1,0]) (mkSt g0 59 (onS p j N.length (uF (grP N) N.length) (uF (grJ N) N.length) 0)) (Qae g0 59 [((List.range N.length).all (onV p j N)=true,.exit 0,{sl:=[]}),((List.range N.length).all (onV p j N)=false,.ret,{sl:=[(6,.bool false),(7,i6 0)]})]):=by
 have hq:=hN.q
 have hjl:=hg.jl
 have hpp:=Qag p
 have hjj:=Qag j
 have y1:=Qax (grP N) N.length
 have z1:=Qak (grP N) N.length
 have y2:=Qax (grJ N) N.length
 have z2:=Qak (grJ N) N.length
 refine Qaw vE_ok Qaf Qab (b:=at' 22 [1,1,1,1,0,1,0,0]) (by kernel_rfl) (fun k=>k≤N.length∧∀i,i<k→onV p j N i=true) (onS p j N.length (uF (grP N) N.length) (uF (grJ N) N.length)) (fun k=>N.length-k) (fun k hk=>?_) 0 ⟨Nat.zero_le _,fun i h=>absurd h (Nat.not_lt_zero _)⟩
 obtain⟨hk,hin⟩:=hk
 by_cases hlt:k<N.length
 ·have h1 := Qbv (f := grP N) hlt
  have h3:=Qbv (f:=grJ N) hlt
  rw[Nat.zero_add,Qa2]at h1 h3
  have h2:=Qa0 (l:=p) (k:=k) (by omega)
  have h4:=Qa0 (l:=j) (k:=k) (by omega)
  have q1:=grP_lt hN hlt
  have q2:grJ N k<18446744073709551616:=Qjv N.length (by omega)
  have q3:p.getD k 0<18446744073709551616:=hg.p64 _ (Qdz (by omega))
  have q4:j.getD k 0<18446744073709551616:=hg.j64 _ (Qdz (by omega))
  have m1:=mi_u (G:=Qac Pg) (t:=29) q1 q3
  have m2:=mi_u (G:=Qac Pg) (t:=29) q2 q4
  have bad:onV p j N k=false→(List.range N.length).all (onV p j N)=false:=fun h=>by
   grind
  have hon:onV p j N k=(decide (mi (grP N k) (p.getD k 0)=0)&&decide (mi (grJ N k) (j.getD k 0)=0)):=rfl
  by_cases e1:mi (grP N k) (p.getD k 0)=0
  ·by_cases e2 : mi (grJ N k) (j.getD k 0) = 0
   ·have hgd : ∀ i, i < k + 1 → onV p j N i = true := fun i hi => by
     grind
    refine .inl ⟨k+1,[],[yes 34,pl 38,ld 39 (u6 (grP N k:Nat)),pl 42,ld 43 (u6 (p.getD k 0:Nat)),va 44 (u6 (mi (grP N k) (p.getD k 0):Nat)),no 45,pl 49,ld 50 (u6 (grJ N k:Nat)),pl 53,ld 54 (u6 (j.getD k 0:Nat)),va 55 (u6 (mi (grJ N k) (j.getD k 0):Nat)),no 56,nu 58 ((k+1:Nat):Int)],1000,⟨hlt,hgd⟩,by omega,?_⟩
    clear hgd hon bad hin
    generalize mi (grP N k) (p.getD k 0)=w1 at*
    generalize mi (grJ N k) (j.getD k 0)=w2 at*
    generalize grP N k=u1 at*
    generalize grJ N k=u2 at*
    generalize p.getD k 0=v1 at*
    generalize j.getD k 0=v2 at*
    generalize uF (grP N) N.length=A at*
    generalize uF (grJ N) N.length=B at*
    clear hN
    generalize N.length=n at*
    exact m_ (p:=let z0:=(↑k:Int);let z1:=(↑n:Int);let z2:=(0:Int);let z3:=(↑(k+1):Int);An [decide (z0<z1)=true,An [z2≤z0,z0<z1],_,An [z2≤z0,z0<(↑p.length:Int)],_,_,((↑w1:Int) != z2)=false,An [z2≤z0,z0<z1],_,An [z2≤z0,z0<(↑j.length:Int)],_,_,((↑w2:Int) != z2)=false,wr .i64 (z0+(1:Int))=z3,An [An [Sm p.length,Sm (ut p)],An [Sm j.length,Sm (ut j)],An [n=n,A=A],An [n=n,B=B],z1=z1,z3=z3,Tt],Tt]) ⟨aq,a_,h1,a_,h2,m1,aq,a_,h3,a_,h4,m2,a_⟩
   ·have hf := bad (by simp_all)
    refine .inr ⟨.ret,[],{sl:=[(6,.bool false),(7,i6 0)]},[yes 34,pl 38,ld 39 (u6 (grP N k:Nat)),pl 42,ld 43 (u6 (p.getD k 0:Nat)),va 44 (u6 (mi (grP N k) (p.getD k 0):Nat)),no 45,pl 49,ld 50 (u6 (grJ N k:Nat)),pl 53,ld 54 (u6 (j.getD k 0:Nat)),va 55 (u6 (mi (grJ N k) (j.getD k 0):Nat)),yes 56],1000,.inr (.inl ⟨hf,rfl,rfl⟩),?_⟩
    clear hf hon bad hin
    generalize mi (grP N k) (p.getD k 0)=w1 at*
    generalize mi (grJ N k) (j.getD k 0)=w2 at*
    generalize grP N k=u1 at*
    generalize grJ N k=u2 at*
    generalize p.getD k 0=v1 at*
    generalize j.getD k 0=v2 at*
    generalize uF (grP N) N.length=A at*
    generalize uF (grJ N) N.length=B at*
    clear hN
    generalize N.length=n at*
    exact m_ (p:=let z0:=(↑k:Int);let z1:=(0:Int);let z2:=(↑n:Int);An [decide (z0<z2)=true,An [z1≤z0,z0<z2],_,An [z1≤z0,z0<(↑p.length:Int)],_,_,((↑w1:Int) != z1)=false,An [z1≤z0,z0<z2],_,An [z1≤z0,z0<(↑j.length:Int)],_,_,((↑w2:Int) != z1)=true,An [Sm false,z1=z1,Tt],Tt]) ⟨aq,a_,h1,a_,h2,m1,aq,a_,h3,a_,h4,m2,a_⟩
  ·have hf := bad (by simp_all)
   refine .inr ⟨.ret,[],{sl:=[(6,.bool false),(7,i6 0)]},[yes 34,pl 38,ld 39 (u6 (grP N k:Nat)),pl 42,ld 43 (u6 (p.getD k 0:Nat)),va 44 (u6 (mi (grP N k) (p.getD k 0):Nat)),yes 45],1000,.inr (.inl ⟨hf,rfl,rfl⟩),?_⟩
   clear hf hon bad hin
   generalize mi (grP N k) (p.getD k 0)=w1 at*
   generalize grP N k=u1 at*
   generalize p.getD k 0=v1 at*
   generalize uF (grP N) N.length=A at*
   generalize uF (grJ N) N.length=B at*
   clear hN
   generalize N.length=n at*
   exact m_ (p:=let z0:=(↑k:Int);let z1:=(0:Int);An [decide (z0<(↑n:Int))=true,An [z1≤z0,z0<(↑n:Int)],_,An [z1≤z0,z0<(↑p.length:Int)],_,_,((↑w1:Int) != z1)=true,An [Sm false,z1=z1,Tt],Tt]) ⟨aq,a_,h1,a_,h2,m1,a_⟩
 ·have hk2 : k = N.length := by omega
  have hf:(List.range N.length).all (onV p j N)=true:=List.all_eq_true.2 fun i hi=>hin i (by simp_all)
  refine .inr ⟨.exit 0,[],{sl:=[]},[no 34],1000,.inl ⟨hf,rfl,rfl⟩,?_⟩
  clear hf hin
  generalize uF (grP N) N.length=A at*
  generalize uF (grJ N) N.length=B at*
  clear hN
  generalize N.length=n at*
  refine Eq.mp (by kernel_rfl:(An [decide ((↑k:Int)<(↑n:Int))=false,Tt,Tt])=_) ?_
  (repeat'(first|(with_reducible apply And.intro)|(refine fun(_:True)=>?_)))<;>first|exact aq|skip
  all_goals skip
end
theorem on_fn{p j:List Nat}(hg:GrOk p j)(g:Int)(R:List (List Int))(N:List Mc)(hlo:Qbo R N):FnOk Pg g0 22 [ul p,ul j,mdV g R N] (.tup [.bool (onB p j g R N),i6 0]):=by
 have hpp:=Qag p
 have hjj:=Qag j
 have hRR:=Qar R
 have hNN:=Qav N
 have c1:=Qeb p j hg
 have h5:=hg.l5
 cases hc:chkB g R N with
 |false=>
  have c2:=Qqi g R N hlo hc
  have e:onB p j g R N=false:=by unfold onB;rw[hc];rfl
  rw[e]
  unfold mdV at*
  refine FnOk.of_vc vE_ok Qaf Qab (n:=1000) (r:=[]) (S:={sl:=[(6,.bool false),(7,i6 0)]}) (hs:=[fn 14 (i6 0),fn 18 (.tup [.nils,.nils,i6 330])]) ?_
  generalize rtL R=RR at*
  generalize mcL N=NN at*
  exact m_ (p:=An [Sm (V.tup [V.bool false,i6 0]),TT 2,_,Tt,An [TT 3,Tt],_,Tt,An [Sm false,Sm (0:Int),Tt],Tt]) ⟨aq,aq,c1,aq,a_,c2,a_⟩
 | true =>
  have c2:=graph_fn g R N hlo hc
  have hM:=md_ok hc
  have hq:=hM.q1
  by_cases hl:N.length=p.length
  ·have lo := on_loop hg hM.nd2 hl
   have e:onB p j g R N=(List.range N.length).all (onV p j N):=by unfold onB;rw[hc,decide_eq_true hl];rfl
   rw[e]
   generalize (List.range N.length).all (onV p j N)=b at*
   have y1:=Qax (grP N) N.length
   have z1:=Qak (grP N) N.length
   have y2:=Qax (grJ N) N.length
   have z2:=Qak (grJ N) N.length
   generalize uF (grP N) N.length=A at*
   generalize uF (grJ N) N.length=B at*
   unfold mdV at*
   refine FnOk.of_vc vE_ok Qaf Qab (n:=1000) (r:=[]) (S:={sl:=[(6,.bool b),(7,i6 0)]}) (hs:=[fn 14 (i6 0),fn 18 (.tup [.im N.length A,.im N.length B,i6 0]),no 29,(0,.loop [] (onS p j N.length A B 0) [(b=true,.exit 0,{sl:=[]}),(b=false,.ret,{sl:=[(6,.bool false),(7,i6 0)]})])]) ?_
   clear hM hc hlo e
   generalize rtL R=RR at*
   generalize mcL N=NN at*
   generalize N.length=n at*
   exact m_ (p:=An [Sm (V.tup [V.bool b,i6 0]),TT 2,_,Tt,An [TT 3,Tt],_,Tt,((↑n:Int) != (↑p.length:Int))=false,An [An [An [Sm p.length,Sm (ut p)],An [Sm j.length,Sm (ut j)],An [n=n,A=A],An [n=n,B=B],Sm (↑n:Int),(↑(0:Nat):Int)=(0:Int),Tt],Tt],_,b=true→An [An [b=true,Sm (0:Int),Tt],Tt],b=false→An [An [b=false,Sm (0:Int),Tt],Tt],Tt]) ⟨aq,aq,c1,aq,a_,c2,aq,aq,a_,lo,a_⟩
  ·have e : onB p j g R N = false := by unfold onB; rw [hc, decide_eq_false hl]; rfl
   rw[e]
   have y1:=Qax (grP N) N.length
   have z1:=Qak (grP N) N.length
   have y2:=Qax (grJ N) N.length
   have z2:=Qak (grJ N) N.length
   generalize uF (grP N) N.length=A at*
   generalize uF (grJ N) N.length=B at*
   unfold mdV at*
   refine FnOk.of_vc vE_ok Qaf Qab (n:=1000) (r:=[]) (S:={sl:=[(6,.bool false),(7,i6 0)]}) (hs:=[fn 14 (i6 0),fn 18 (.tup [.im N.length A,.im N.length B,i6 0]),yes 29]) ?_
   clear hM hc hlo e
   generalize rtL R=RR at*
   generalize mcL N=NN at*
   generalize N.length=n at*
   exact m_ (p:=An [Sm (V.tup [V.bool false,i6 0]),TT 2,_,Tt,An [TT 3,Tt],_,Tt,((↑n:Int) != (↑p.length:Int))=true,An [Sm false,Sm (0:Int),Tt],Tt]) ⟨aq,aq,c1,aq,a_,c2,a_⟩
theorem NdOk.sm{R:List (List Int)}{N:List Mc}(hN:NdOk R N):SmN N:=by
 have hq:=hN.q
 have hn:=hN.n
 exact⟨by omega,fun k hk=>⟨by have:=(hN.fr k hk).2;omega,by have:=(hN.no k hk).2;omega⟩,fun k hk i hi=>by have:=(hN.fr k hk).1 i hi;omega,fun k hk i hi=>by have:=(hN.no k hk).1 i hi;omega⟩
abbrev r3S(n:Nat)(p j:List Nat)(A B:List V)(k:Nat):SL:={sl:=[(0,.im n (ut p)),(1,.im n (ut j)),(7,.im n A),(8,.im n B),(9,i6 (k:Nat))]}
section
variable {p j:List Nat} (hg:GrOk p j) {R:List (List Int)} {N:List Mc} (hN:NdOk R N) (hl:N.length=p.length)
include hg hN hl
theorem ron_loop:Sat Pg none 0 (at' 23 [1,1,1,0,1,0]) (mkSt g0 53 (r3S N.length p j (uF (grP N) N.length) (uF (grJ N) N.length) 0)) (Qae g0 53 [((List.range N.length).all (onV p j N)=true,.exit 0,{sl:=[]}),((List.range N.length).all (onV p j N)=false,.ret,{sl:=[(6,.bool false)]})]):=by
 have hq:=hN.q
 have hjl:=hg.jl
 have hpp:=Qag p
 have hjj:=Qag j
 have y1:=Qax (grP N) N.length
 have z1:=Qak (grP N) N.length
 have y2:=Qax (grJ N) N.length
 have z2:=Qak (grJ N) N.length
 refine Qaw vE_ok Qaf Qab (b:=at' 23 [1,1,1,0,1,0,0]) (by kernel_rfl) (fun k=>k≤N.length∧∀i,i<k→onV p j N i=true) (r3S N.length p j (uF (grP N) N.length) (uF (grJ N) N.length)) (fun k=>N.length-k) (fun k hk=>?_) 0 ⟨Nat.zero_le _,fun i h=>absurd h (Nat.not_lt_zero _)⟩
 obtain⟨hk,hin⟩:=hk
 by_cases hlt:k<N.length
 ·have h1 := Qbv (f := grP N) hlt
  have h3:=Qbv (f:=grJ N) hlt
  rw[Nat.zero_add,Qa2]at h1 h3
  have h2:=Qa0 (l:=p) (k:=k) (by omega)
  have h4:=Qa0 (l:=j) (k:=k) (by omega)
  have q1:=grP_lt hN hlt
  have q2:grJ N k<18446744073709551616:=Qjv N.length (by omega)
  have q3:p.getD k 0<18446744073709551616:=hg.p64 _ (Qdz (by omega))
  have q4:j.getD k 0<18446744073709551616:=hg.j64 _ (Qdz (by omega))
  have m1:=mi_u (G:=Qac Pg) (t:=29) q1 q3
  have m2:=mi_u (G:=Qac Pg) (t:=29) q2 q4
  have bad:onV p j N k=false→(List.range N.length).all (onV p j N)=false:=fun h=>Qf1 hlt h
  have hon:onV p j N k=(decide (mi (grP N k) (p.getD k 0)=0)&&decide (mi (grJ N k) (j.getD k 0)=0)):=rfl
  by_cases e1:mi (grP N k) (p.getD k 0)=0
  ·rw [e1] at m1
   by_cases e2:mi (grJ N k) (j.getD k 0)=0
   ·rw [e2] at m2
    have hgd: ∀i,i<k+1→onV p j N i=true:=fun i hi=>by
     by_cases hik:i=k
     ·subst hik;rw[hon,e1,e2];rfl
     ·exact hin i (by omega)
    refine .inl ⟨k+1,[],[yes 28,pl 33,ld 34 (u6 (grP N k:Nat)),pl 37,ld 38 (u6 (p.getD k 0:Nat)),va 39 (u6 (0:Nat)),no 40,pl 44,ld 45 (u6 (grJ N k:Nat)),pl 48,ld 49 (u6 (j.getD k 0:Nat)),va 50 (u6 (0:Nat)),no 51,nu 30 ((k+1:Nat):Int)],1000,⟨hlt,hgd⟩,by omega,?_⟩
    clear hgd hon bad hin e1 e2
    generalize grP N k=u1 at*
    generalize grJ N k=u2 at*
    generalize p.getD k 0=v1 at*
    generalize j.getD k 0=v2 at*
    generalize uF (grP N) N.length=A at*
    generalize uF (grJ N) N.length=B at*
    clear hN
    generalize N.length=n at*
    exact m_ (p:=let z0:=(↑k:Int);let z1:=(↑n:Int);let z2:=(0:Int);let z3:=(↑(k+1):Int);let z4:=((↑(0:Nat):Int) != z2);An [decide (z0<z1)=true,An [z2≤z0,z0<z1],_,An [z2≤z0,z0<z1],_,_,z4=false,An [z2≤z0,z0<z1],_,An [z2≤z0,z0<z1],_,_,z4=false,wr .i64 (z0+(1:Int))=z3,An [An [n=n,Sm (ut p)],An [n=n,Sm (ut j)],An [n=n,A=A],An [n=n,B=B],z3=z3,Tt],Tt]) ⟨aq,a_,h1,a_,h2,m1,aq,a_,h3,a_,h4,m2,a_⟩
   ·have hf := bad (by rw [hon, e1, decide_eq_false e2]; rfl)
    refine .inr ⟨.ret,[],{sl:=[(6,.bool false)]},[yes 28,pl 33,ld 34 (u6 (grP N k:Nat)),pl 37,ld 38 (u6 (p.getD k 0:Nat)),va 39 (u6 (0:Nat)),no 40,pl 44,ld 45 (u6 (grJ N k:Nat)),pl 48,ld 49 (u6 (j.getD k 0:Nat)),va 50 (u6 (mi (grJ N k) (j.getD k 0):Nat)),yes 51],1000,.inr (.inl ⟨hf,rfl,rfl⟩),?_⟩
    clear hf hon bad hin e1
    generalize mi (grJ N k) (j.getD k 0)=w2 at*
    generalize grP N k=u1 at*
    generalize grJ N k=u2 at*
    generalize p.getD k 0=v1 at*
    generalize j.getD k 0=v2 at*
    generalize uF (grP N) N.length=A at*
    generalize uF (grJ N) N.length=B at*
    clear hN
    generalize N.length=n at*
    exact m_ (p:=let z0:=(↑k:Int);let z1:=(↑n:Int);let z2:=(0:Int);An [decide (z0<z1)=true,An [z2≤z0,z0<z1],_,An [z2≤z0,z0<z1],_,_,((↑(0:Nat):Int) != z2)=false,An [z2≤z0,z0<z1],_,An [z2≤z0,z0<z1],_,_,((↑w2:Int) != z2)=true,An [Sm false,Tt],Tt]) ⟨aq,a_,h1,a_,h2,m1,aq,a_,h3,a_,h4,m2,a_⟩
  ·have hf := bad (by rw [hon, decide_eq_false e1]; rfl)
   refine .inr ⟨.ret,[],{sl:=[(6,.bool false)]},[yes 28,pl 33,ld 34 (u6 (grP N k:Nat)),pl 37,ld 38 (u6 (p.getD k 0:Nat)),va 39 (u6 (mi (grP N k) (p.getD k 0):Nat)),yes 40],1000,.inr (.inl ⟨hf,rfl,rfl⟩),?_⟩
   clear hf hon bad hin
   generalize mi (grP N k) (p.getD k 0)=w1 at*
   generalize grP N k=u1 at*
   generalize p.getD k 0=v1 at*
   generalize uF (grP N) N.length=A at*
   generalize uF (grJ N) N.length=B at*
   clear hN
   generalize N.length=n at*
   exact m_ (p:=let z0:=(↑k:Int);let z1:=(↑n:Int);An [decide (z0<z1)=true,An [(0:Int)≤z0,z0<z1],_,An [(0:Int)≤z0,z0<z1],_,_,((↑w1:Int) != (0:Int))=true,An [Sm false,Tt],Tt]) ⟨aq,a_,h1,a_,h2,m1,a_⟩
 ·have hk2 : k = N.length := by omega
  have hf:(List.range N.length).all (onV p j N)=true:=Qbs fun i hi=>hin i (by omega)
  refine .inr ⟨.exit 0,[],{sl:=[]},[no 28],1000,.inl ⟨hf,rfl,rfl⟩,?_⟩
  clear hf hin
  generalize uF (grP N) N.length=A at*
  generalize uF (grJ N) N.length=B at*
  clear hN
  generalize N.length=n at*
  refine Eq.mp (by kernel_rfl:(An [decide ((↑k:Int)<(↑n:Int))=false,Tt,Tt])=_) ?_
  (repeat'(first|(with_reducible apply And.intro)|(refine fun(_:True)=>?_)))<;>first|exact aq|skip
  all_goals skip
end
theorem ron_fn{p j:List Nat}(hg:GrOk p j)(g:Int)(R:List (List Int))(N:List Mc)(hlo:Qbo R N):FnOk Pg g0 23 [ul p,ul j,mdV g R N] (.bool (onB p j g R N)):=by
 have hpp:=Qag p
 have hjj:=Qag j
 have hRR:=Qar R
 have hNN:=Qav N
 have c1:=Qr1 g R N hlo
 have h5:=hg.l5
 have hjl:=hg.jl
 show FnOk Pg g0 23 [.im p.length (ut p),.im j.length (ut j),.agg [i6 g,.im R.length (rtL R),.im N.length (mcL N)]] _
 rw[hjl]
 cases hc:chkB g R N with
 |false=>
  have e:onB p j g R N=false:=by unfold onB;rw[hc];rfl
  rw[e]
  rw[hc]at c1
  unfold mdV at c1
  clear e hc hlo
  generalize rtL R=RR at*
  generalize mcL N=NN at*
  generalize R.length=nR at*
  generalize N.length=n at*
  generalize p.length=np at*
  refine FnOk.of_vc vE_ok Qaf Qab (n:=1000) (r:=[]) (S:={sl:=[(6,.bool false)]}) (hs:=[fn 11 (.bool false)]) ?_
  exact m_ (p:=An [Sm (V.bool false),An [TT 3,Tt],_,Tt,An [Sm false,Tt],Tt]) ⟨aq,a_,c1,a_⟩
 | true =>
  rw[hc]at c1
  have hM:=md_ok hc
  have hq:=hM.q1
  by_cases hl:N.length=p.length
  ·have lo := ron_loop hg hM.nd2 hl
   have hS:=hM.nd2.sm
   have d1:=Qiw g R N hS
   have d2:=Qhz g R N hS hq.1
   have e:onB p j g R N=(List.range N.length).all (onV p j N):=by unfold onB;rw[hc,decide_eq_true hl];rfl
   rw[e]
   generalize (List.range N.length).all (onV p j N)=b at*
   have y1:=Qax (grP N) N.length
   have z1:=Qak (grP N) N.length
   have y2:=Qax (grJ N) N.length
   have z2:=Qak (grJ N) N.length
   unfold mdV at c1 d1 d2
   rw[←hl]
   clear hM hc hlo e hS hl hjl h5
   generalize uF (grP N) N.length=A at*
   generalize uF (grJ N) N.length=B at*
   generalize rtL R=RR at*
   generalize mcL N=NN at*
   generalize R.length=nR at*
   generalize N.length=n at*
   refine FnOk.of_vc vE_ok Qaf Qab (n:=1000) (r:=[]) (S:={sl:=[(6,.bool b)]}) (hs:=[fn 11 (.bool true),no 19,fn 22 (.im n A),fn 24 (.im n B),(0,.loop [] (r3S n p j A B 0) [(b=true,.exit 0,{sl:=[]}),(b=false,.ret,{sl:=[(6,.bool false)]})])]) ?_
   exact m_ (p:=let z3:=An [TT 3,Tt];let z0:=[i6 g,V.im nR RR,V.im n NN];let z1:=pt T.e 0 (O.row 34 none z0);An [Sm (V.bool b),z3,_,Tt,((↑n:Int) != (↑n:Int))=false,z3,_,Tt,z3,_,An [V.fn 17 []=V.fn 18 []→[V.agg z0]=[V.agg z0]→z1=z1→0+1=1→CR.mk (V.im n A) z1 1 []=CR.mk (V.im n B) z1 1 [],Tt],An [An [An [n=n,Sm (ut p)],An [n=n,Sm (ut j)],An [n=n,A=A],An [n=n,B=B],(↑(0:Nat):Int)=(0:Int),Tt],Tt],_,b=true→An [An [b=true,Tt],Tt],b=false→An [An [b=false,Tt],Tt],Tt]) ⟨aq,aq,c1,aq,aq,aq,d1,aq,aq,d2,a_,a_,lo,a_⟩
  ·have e : onB p j g R N = false := by unfold onB; rw [hc, decide_eq_false hl]; rfl
   rw[e]
   unfold mdV at c1
   clear e hc hlo hM
   generalize rtL R=RR at*
   generalize mcL N=NN at*
   generalize R.length=nR at*
   generalize N.length=n at*
   generalize p.length=np at*
   refine FnOk.of_vc vE_ok Qaf Qab (n:=1000) (r:=[]) (S:={sl:=[(6,.bool false)]}) (hs:=[fn 11 (.bool true),yes 19]) ?_
   exact m_ (p:=An [Sm (V.bool false),An [TT 3,Tt],_,Tt,((↑n:Int) != (↑np:Int))=true,An [Sm false,Tt],Tt]) ⟨aq,a_,c1,a_⟩
theorem Qec(p j:List Nat)(hp64:S64 p)(hj64:S64 j)(h:rightB p j=false)(s:Nat):FnOk Pg g0 24 [ul p,ul j,u6 (s:Nat)] (.tup [.nils,i6 350]):=by
 have hp:=Qag p
 have hj:=Qag j
 have h1:=Qpj p j hp64 hj64 h
 refine FnOk.of_vc vE_ok Qaf Qab (n:=1000) (r:=[]) (S:={sl:=[(6,.nils),(7,i6 350)]}) (hs:=[fn 13 (i6 350),yes 14]) ?_
 exact m_ (p:=An [Sm (V.tup [V.nils,i6 350]),TT 2,_,Tt,((350:Int) != (0:Int))=true,An [Tt,Sm (350:Int),Tt],Tt]) ⟨aq,aq,h1,a_⟩
theorem Qil(p j:List Nat)(h:GrOk p j)(s:Nat)(hs:s<18446744073709551616)(hsa:mi s (alN p.length)≠0):FnOk Pg g0 24 [ul p,ul j,u6 (s:Nat)] (.tup [.nils,i6 2]):=by
 have hp:=Qag p
 have hj:=Qag j
 have h5:=h.l5
 have hck:=Qeb p j h
 have hall:=Qo1 p j (by omega)
 have s1:=mi_u (G:=Qac Pg) (t:=29) (x:=s) (y:=alN p.length) hs (Qfz (by omega))
 generalize mi s (alN p.length)=w at*
 generalize alN p.length=al at*
 refine FnOk.of_vc vE_ok Qaf Qab (n:=1000) (r:=[]) (S:={sl:=[(6,.nils),(7,i6 2)]}) (hs:=[fn 13 (i6 0),fn 20 (u6 (al:Nat)),va 21 (u6 (w:Nat)),yes 22]) ?_
 exact m_ (p:=An [Sm (V.tup [V.nils,i6 2]),TT 2,_,Tt,An [TT 2,Tt],_,Tt,_,((↑w:Int) != (0:Int))=true,An [Tt,Sm (2:Int),Tt],Tt]) ⟨aq,aq,hck,aq,a_,hall,aq,s1,a_⟩
theorem gc_nils{H:T O}{nx:Nat}{lg:List Nat}:
  Gc 0 [] (mkSo g0 32 [(6,.nils),(7,i6 0)] H nx lg) (mkSt g0 32 {sl:=[(6,.nils),(7,i6 0)]}):=by
 refine⟨rfl,fun g hg=>(by cases hg),List.nodup_nil,rfl,rfl,fun i x hx=>?_,fun h' o ho hlive=>?_,fun h _ hlt=>absurd hlt (Nat.not_lt_zero _)⟩
 ·have c6 : gt (putL (blank 32) [(6, V.nils), (7, i6 0)]) 6 = some .nils := by kernel_rfl
  have c7:gt (putL (blank 32) [(6,V.nils),(7,i6 0)]) 7=some (i6 0):=by kernel_rfl
  rw[Qay]at c6 c7
  rcases putL_get _ _ _ _ hx with hmem|hmem
  ·simp only [List.mem_cons, List.not_mem_nil, or_false] at hmem
   rcases hmem with hmem|hmem
   ·cases hmem
    exact⟨_,c6,rfl⟩
   ·cases hmem
    exact⟨_,c7,rfl⟩
  ·rw[Qbl]at hmem;cases hmem
 ·simp[mkSt,ofOs]at ho
theorem Qhd(p j:List Nat)(h:GrOk p j):FnOk Pg g0 24 [ul p,ul j,u6 (0:Nat)] (.tup [.nils,i6 0]):=by
 have hp:=Qag p
 have hj:=Qag j
 have h5:=h.l5
 have hck:=Qeb p j h
 have hall:=Qo1 p j (by omega)
 have hpt:=Qm6 p j 0
 have s1:=mi_u (G:=Qac Pg) (t:=29) (x:=0) (y:=alN p.length) (by decide) (Qfz (by omega))
 rw[show mi 0 (alN p.length)=0 by unfold mi;exact Nat.zero_and _]at s1
 have hr0:rn j 0=0:=rfl
 obtain⟨H1,m1,L,hM,hsat⟩:=Qmi p j 0 (by decide) (by have:=h.jl;omega) h.j64 (by rw[hr0];decide) (pt (pt (pt .e 0 (.row 138 none [.nils,.nils])) 0 (.row 138 none [ul p,ul j])) 1 (lsO .nils)) [0] rfl
 rw[hr0]at hM
 obtain⟨m2,b,m⟩:=hM
 rcases m with⟨_,q1⟩|⟨hq,w,g1,g2,g3,q1,q2⟩
 ·have r1 : gt (pt H1 2 .dead) 1 = some (lsO .nils) := by rw [Qaa, if_neg (by decide)]; exact q1
  generalize alN p.length=al at*
  refine FnOk.of_vcX (n:=1000) (r:=[]) (sl:=[(6,.nils),(7,i6 0)]) (S:={sl:=[(6,.nils),(7,i6 0)]}) (hs:=[fn 13 (i6 0),fn 20 (u6 (al:Nat)),va 21 (u6 (0:Nat)),fn 25 (ptC p j 0),(0,.loopM (dcS p j 0) .normal (fun _=>dcS p j 0) (fun _ H' nx' lg'=>H'=pt H1 2 .dead∧nx'=m1∧lg'=L++[0]) (fun _ _ _ _=>[lo_ 31 (lsO .nils) .nils]))]) ?_
  clear h
  refine Eq.mp (by kernel_rfl:(let z0:=[V.im p.length (ut p),V.im j.length (ut j)];let z1:=u6 ↑(0:Nat);let z2:=[(6,V.nils),(7,i6 0)];An [Sm (V.tup [V.nils,i6 0]),TT 2,FnOk Pg g0 21 z0 (i6 0),Tt,An [TT 2,Tt],FnOk Pg g0 66 [V.agg z0] (u6 ↑al),Tt,binV (Qac Tryz.prog) BinOp.andNot 29 z1 (u6 ↑al)=some z1,An [TT 2,Tt,Tt],FnOk Pg g0 67 [V.agg z0,z1] (ptC p j 0),Tt,An [Sm (V.ptr 0 0),Sm (V.ptr 1 0),Sm (ptC p j 0),Tt],Sat Pg none 0 (at' 24 [1,1,1,1,1,0,1,0]) (mkSo g0 32 (dcS p j 0) (pt (pt (pt T.e 0 (O.row 138 none [V.nils,V.nils])) 0 (O.row 138 none [ul p,ul j])) 1 (O.row 55 none [V.nils])) 2 ([]++([]++([0]++([]++[]))))) (Qj3 g0 32 Ex.normal (fun x=>dcS p j 0) fun x H' nx' lg'=>H'=pt H1 2 O.dead∧nx'=m1∧lg'=L++[0]),∀(h:Nat)(H:T O)(nx:Nat)(lg:List Nat),H=pt H1 2 O.dead∧nx=m1∧lg=L++[0]→An [gt H 1=some (lsO V.nils),headF [V.nils]=some V.nils,An [Sm V.nils,Sm (i6 0),Tt],Gc 0 [] (mkSo g0 32 z2 H nx lg) (mkSt g0 32 (SL.mk z2 [] [] []))]])=_) ?_
  (repeat'(first|(with_reducible apply And.intro)|(refine fun(_:True)=>?_)))
  all_goals first|exact hck|exact hall|exact s1|exact hpt|exact hsat|(rintro h H nx lg ⟨rfl,rfl,rfl⟩;(repeat'(first|(with_reducible apply And.intro)|(refine fun(_:True)=>?_)));all_goals first|rfl|exact aq|exact r1|exact gc_nils|skip)|exact aq|skip
 ·have := Qik j 0 0
  rw[this]at g3
  cases g3
theorem on_bad(p j:List Nat)(hp64:S64 p)(hj64:S64 j)(h:rightB p j=false)(g:Int)(R:List (List Int))(N:List Mc):FnOk Pg g0 22 [ul p,ul j,mdV g R N] (.tup [.bool false,i6 350]):=by
 have hp:=Qag p
 have hj:=Qag j
 have hRR:=Qar R
 have hNN:=Qav N
 have h1:=Qpj p j hp64 hj64 h
 unfold mdV at*
 refine FnOk.of_vc vE_ok Qaf Qab (n:=1000) (r:=[]) (S:={sl:=[(6,.bool false),(7,i6 350)]}) (hs:=[fn 14 (i6 350),yes 15]) ?_
 generalize rtL R=RR at*
 generalize mcL N=NN at*
 generalize R.length=nR at*
 generalize N.length=nN at*
 exact m_ (p:=An [Sm (V.tup [V.bool false,i6 350]),TT 2,_,Tt,((350:Int) != (0:Int))=true,An [Sm false,Sm (350:Int),Tt],Tt]) ⟨aq,aq,h1,a_⟩
def dsQ(j:List Nat)(s k:Nat):Nat:=j.getD k 0&&& s
section
variable (j:List Nat) (s:Nat) (hl:j.length≤64) (h64:S64 j) (hs:s<18446744073709551616)
include hl h64 hs
theorem dsQ_64(k:Nat):dsQ j s k<18446744073709551616:=Nat.and_lt_two_pow (n:=64) _ hs
theorem Qnb{x:Nat}(hx:x<18446744073709551616): ∀k,swG (dsQ j s) x k<18446744073709551616
 |0=>hx
 |k+1=>by
  unfold swG
  split
  ·exact Nat.or_lt_two_pow (n:=64) (Qnb hx k) (dsQ_64 j s hl h64 hs k)
  ·exact Qnb hx k
theorem itD_64{x n:Nat}(hx:x<18446744073709551616): ∀m,itG (dsQ j s) n x m<18446744073709551616
 |0=>hx
 |m+1=>Qnb j s hl h64 hs (itD_64 hx m) n
abbrev dsI(j:List Nat)(s n x m k:Nat):SL:={sl:=[(0,.im n (ut j)),(2,u6 (s:Nat)),(7,u6 (swG (dsQ j s) x k:Nat)),(8,i6 (m:Nat)),(9,i6 (k:Nat))]}
theorem ds_in(n x m:Nat)(hn:j.length=n)(hx:x<18446744073709551616):
  Sat Pg none 0 (at' 68 [1,1,0,1,0,0,1,0,0,1,0]) (mkSt g0 37 (dsI j s n x m 0)) (Qae g0 37 [(True,.exit 2,{sl:=[(0,.im n (ut j)),(2,u6 (s:Nat)),(7,u6 (swG (dsQ j s) x n:Nat)),(8,i6 (m:Nat))]})]):=by
 have hp:=Qag j
 refine Qaw vE_ok Qaf Qab (b:=at' 68 [1,1,0,1,0,0,1,0,0,1,0,0]) (by kernel_rfl) (fun k=>k≤n) (dsI j s n x m) (fun k=>n-k) (fun k hk=>?_) 0 (Nat.zero_le _)
 by_cases hlt:k<n
 ·have s0 := Qa0 (l := j) (k := k) (by omega)
  have h1:=Qd0 (swG (dsQ j s) x k) k (by omega)
  have h2:=Qnb j s hl h64 hs hx k
  have h4:=Qje (G:=Qac Pg) (t:=29) (h64.get k) hs
  have h3:=(or_u (G:=Qac Pg) (t:=29) h2 (dsQ_64 j s hl h64 hs k)).1
  have e:swG (dsQ j s) x (k+1)=if(swG (dsQ j s) x k).testBit k=true then swG (dsQ j s) x k|||dsQ j s k else swG (dsQ j s) x k:=rfl
  change binV _ _ _ _ _=some (u6 ((dsQ j s k:Nat):Int))at h4
  cases hb:(swG (dsQ j s) x k).testBit k with
  |true=>
   rw[hb,if_pos rfl]at e
   rw[hb]at h1
   rw[←e]at h3
   clear e hb h2
   refine .inl ⟨k+1,[],[yes 22,fn 27 (.bool true),pl 31,ld 32 (u6 (j.getD k 0:Nat)),va 34 (u6 (dsQ j s k:Nat)),va 35 (u6 (swG (dsQ j s) x (k+1):Nat)),nu 24 ((k+1:Nat):Int)],1000,by omega,by omega,?_⟩
   unfold dsI
   generalize swG (dsQ j s) x (k+1)=y2 at*
   generalize swG (dsQ j s) x k=y1 at*
   generalize dsQ j s k=y3 at*
   generalize j.getD k 0=y at*
   exact m_ (p:=let z0:=(↑(k+1):Int);let z1:=(↑k:Int);An [decide (z1<(↑n:Int))=true,TT 2,_,Tt,An [(0:Int)≤z1,z1<(↑n:Int)],_,_,_,wr .i64 (z1+(1:Int))=z0,An [An [n=n,Sm (ut j)],Sm (↑s:Int),Sm (↑y2:Int),Sm (↑m:Int),z0=z0,Tt],Tt]) ⟨aq,aq,h1,aq,a_,s0,h4,h3,a_⟩
  |false=>
   rw[hb,if_neg (by simp)]at e
   rw[hb]at h1
   refine .inl ⟨k+1,[],[yes 22,fn 27 (.bool false),nu 24 ((k+1:Nat):Int)],1000,by omega,by omega,?_⟩
   unfold dsI
   rw[e]
   clear e hb h2 h3
   generalize swG (dsQ j s) x k=y1 at*
   exact m_ (p:=An [decide ((↑k:Int)<(↑n:Int))=true,TT 2,_,Tt,wr .i64 ((↑k:Int)+(1:Int))=(↑(k+1):Int),An [An [n=n,Sm (ut j)],Sm (↑s:Int),Sm (↑y1:Int),Sm (↑m:Int),Sm (↑(k+1):Int),Tt],Tt]) ⟨aq,aq,h1,a_⟩
 ·obtain rfl : k = n := by omega
  refine .inr ⟨.exit 2,[],{sl:=[(0,.im k (ut j)),(2,u6 (s:Nat)),(7,u6 (swG (dsQ j s) x k:Nat)),(8,i6 (m:Nat))]},[no 22],1000,.inl ⟨trivial,rfl,rfl⟩,?_⟩
  unfold dsI
  generalize swG (dsQ j s) x k=y1 at*
  refine Eq.mp (by kernel_rfl:(An [decide ((↑k:Int)<(↑k:Int))=false,An [An [k=k,Sm (ut j)],Sm (↑s:Int),Sm (↑y1:Int),Sm (↑m:Int),Tt],Tt])=_) ?_
  (repeat'(first|(with_reducible apply And.intro)|(refine fun(_:True)=>?_)))<;>first|exact aq|skip
  all_goals skip
abbrev dsO(j:List Nat)(s n x m:Nat):SL:={sl:=[(0,.im n (ut j)),(2,u6 (s:Nat)),(7,u6 (itG (dsQ j s) n x m:Nat)),(8,i6 (m:Nat))]}
theorem ds_out(n x:Nat)(hn:j.length=n)(hx:x<18446744073709551616):
  Sat Pg none 0 (at' 68 [1,1,0,1,0]) (mkSt g0 37 (dsO j s n x 0)) (Qae g0 37 [(True,.exit 0,{sl:=[(7,u6 (itG (dsQ j s) n x n:Nat))]})]):=by
 have hp:=Qag j
 refine Qaw vE_ok Qaf Qab (b:=at' 68 [1,1,0,1,0,0]) (by kernel_rfl) (fun k=>k≤n) (dsO j s n x) (fun k=>n-k) (fun m hm=>?_) 0 (Nat.zero_le _)
 by_cases hlt:m<n
 ·have h2 := itD_64 j s hl h64 hs (n := n) hx m
  have hin:=ds_in j s hl h64 hs n (itG (dsQ j s) n x m) m hn h2
  refine .inl ⟨m+1,[],[yes 16,(0,.loop [] (dsI j s n (itG (dsQ j s) n x m) m 0) [(True,.exit 2,{sl:=[(0,.im n (ut j)),(2,u6 (s:Nat)),(7,u6 (itG (dsQ j s) n x (m+1):Nat)),(8,i6 (m:Nat))]})]),nu 18 ((m+1:Nat):Int)],1000,by omega,by omega,?_⟩
  have e:itG (dsQ j s) n x (m+1)=swG (dsQ j s) (itG (dsQ j s) n x m) n:=rfl
  rw[←e]at hin
  unfold dsO dsI at*
  rw[show swG (dsQ j s) (itG (dsQ j s) n x m) 0=itG (dsQ j s) n x m from rfl]at*
  clear e h2
  generalize itG (dsQ j s) n x (m+1)=y2 at*
  generalize itG (dsQ j s) n x m=y1 at*
  exact m_ (p:=let z0:=(↑m:Int);An [decide (z0<(↑n:Int))=true,An [An [An [n=n,Sm (ut j)],Sm (↑s:Int),Sm (↑y1:Int),Sm z0,(↑(0:Nat):Int)=(0:Int),Tt],Tt],_,(True->An [wr .i64 (z0+(1:Int))=(↑(m+1):Int),An [An [n=n,Sm (ut j)],Sm (↑s:Int),Sm (↑y2:Int),Sm (↑(m+1):Int),Tt],Tt]),Tt]) ⟨aq,a_,hin,a_⟩
 ·obtain rfl : m = n := by omega
  refine .inr ⟨.exit 0,[],{sl:=[(7,u6 (itG (dsQ j s) m x m:Nat))]},[no 16],1000,.inl ⟨trivial,rfl,rfl⟩,?_⟩
  unfold dsO
  generalize itG (dsQ j s) m x m=y1 at*
  refine Eq.mp (by kernel_rfl:(An [decide ((↑m:Int)<(↑m:Int))=false,An [Sm (↑y1:Int),Tt],Tt])=_) ?_
  (repeat'(first|(with_reducible apply And.intro)|(refine fun(_:True)=>?_)))<;>first|exact aq|skip
  all_goals skip
theorem Qku(v:Nat)(hv:v<64):FnOk Pg g0 68 [ul j,i6 (v:Nat),u6 (s:Nat)] (u6 (itG (dsQ j s) j.length (2^v) j.length:Nat)):=by
 have hp:=Qag j
 obtain⟨s1,s2⟩:=Qd2 (G:=Qac Pg) (t:=29) (k:=v) hv
 have w1:=wrk hv
 have h:=ds_out j s hl h64 hs j.length (2^v) rfl s2
 unfold dsO at h
 rw[show itG (dsQ j s) j.length (2^v) 0=2^v from rfl]at h
 generalize itG (dsQ j s) j.length (2^v) j.length=r at*
 generalize 2^v=z at*
 show FnOk Pg g0 _ [.im j.length (ut j),_,_] _
 generalize j.length=n at*
 refine FnOk.of_vc vE_ok Qaf Qab (n:=1000) (r:=[]) (S:={sl:=[(6,u6 (r:Nat))]}) (hs:=[nu 11 (v:Nat),va 12 (u6 (z:Nat)),(0,.loop [] {sl:=[(0,.im n (ut j)),(2,u6 (s:Nat)),(7,u6 (z:Nat)),(8,i6 (0:Nat))]} [(True,.exit 0,{sl:=[(7,u6 (r:Nat))]})])]) ?_
 exact m_ (p:=An [Sm (u6 ↑r),_,_,An [An [An [n=n,Sm (ut j)],Sm (↑s:Int),Sm (↑z:Int),(↑(0:Nat):Int)=(0:Int),Tt],Tt],_,(True->An [An [Sm (↑r:Int),Tt],Tt]),Tt]) ⟨aq,w1,s1,a_,h,a_⟩
theorem dist_clo(hsn:s<2^j.length){v:Nat}(hv:v<j.length):itG (dsQ j s) j.length (2^v) j.length=clo (2^v) s j:=by
 refine Nat.eq_of_testBit_eq fun b=>Bool.eq_iff_iff.2 ?_
 rw[Qqp (q:=dsQ j s) (l:=j) (w:=s) (fun k _=>rfl) (Nat.pow_lt_pow_right (by omega) hv) (fun k _=>Nat.and_lt_two_pow _ hsn),clo_iff (pow_lt64 (by omega)) hs]
end
abbrev dd0(j:List Nat)(s n v c l:Nat)(A:List V):SL:={sl:=[(0,.im n (ut j)),(1,u6 (s:Nat)),(5,owV 0 c),(6,u6 (l:Nat)),(7,i6 (v:Nat))],os:=owL 29 1 A c}
section
variable (j:List Nat) (s:Nat) (hl:j.length≤64) (h64:S64 j) (hs:s<18446744073709551616) (hsn:s<2^j.length)
include hl h64 hs hsn
theorem Qru{c v:Nat}(hb:(reF j s c).testBit v=true)(hmin: ∀i,i<v→(reF j s c).testBit i=false):dkF j s c=clo (2^v) s j∧reF j s c≠0:=by
 grind[Qk5,Qgy,dkF]
theorem dd_loop(n:Nat)(hn:j.length=n):
  Sat Pg none 0 (at' 26 [1,1,1,0,1,0]) (mkSt g0 31 (dd0 j s n 0 0 s [])) (Qae g0 31 [(True,.exit 0,{sl:=[(5,.im (rn j s) (ut (diL j s (rn j s))))]})]):=by
 have hp:=Qag j
 refine Qaw vE_ok Qaf Qab (b:=at' 26 [1,1,1,0,1,0,0]) (by kernel_rfl) (fun q=>q.1≤n∧q.2.1≤q.1∧q.2.2.1=reF j s q.2.1∧q.2.2.2=ut (diL j s q.2.1)∧(∀i,i<q.2.1→reF j s i≠0)∧∀i,i<q.1→(reF j s q.2.1).testBit i=false) (fun(q:Nat×Nat×Nat×List V)=>dd0 j s n q.1 q.2.1 q.2.2.1 q.2.2.2) (fun q=>n-q.1) (fun q hq=>?_) (0,0,s,[]) ⟨Nat.zero_le _,Nat.le_refl _,rfl,rfl,fun i h=>absurd h (Nat.not_lt_zero _),fun i h=>absurd h (Nat.not_lt_zero _)⟩
 obtain⟨v,c,l,A⟩:=q
 obtain⟨hv,hcv,hle,hA,hne,hmin⟩:=hq
 dsimp only at hv hcv hle hA hne hmin
 have hAf:HfL A:=by rw[hA];exact Qag _
 have hAl:A.length=c:=by rw[hA,ut_len,Qik]
 have hl64:l<18446744073709551616:=by rw[hle];exact Qgy hs c
 by_cases hlt:v<n
 ·have h1 := Qd0 l v (by omega)
  cases hb:l.testBit v with
  | true =>
   rw[hb]at h1
   obtain⟨d1,d2⟩:=Qru j s hl h64 hs hsn (c:=c) (v:=v) (by simp_all) hmin
   have h2:=Qku j s hl h64 hs v (by omega)
   rw[dist_clo j s hl h64 hs hsn (by omega),←d1]at h2
   have h3:=mi_u (G:=Qac Pg) (t:=29) hl64 (Qmk (j:=j) hs c)
   have hmin2: ∀i,i<v+1→(reF j s (c+1)).testBit i=false:=fun i hi=>by
    grind[reF,dkF,Qep,Qmk,Qii]
   have hne2: ∀i,i<c+1→reF j s i≠0:=fun i hi=>by
    grind
   have e3:mi l (dkF j s c)=reF j s (c+1):=by rw[hle];rfl
   have e4:A++[u6 (dkF j s c:Nat)]=ut (diL j s (c+1)):=by rw[hA,Qmj,ut_app];rfl
   rw[e3]at h3
   have hm':n-(v+1)<n-v:=by omega
   have h2':FnOk Pg g0 68 [.im n (ut j),i6 (v:Nat),u6 (s:Nat)] (u6 (dkF j s c:Nat)):=by rw[←hn];exact h2
   cases c with
   |zero=>
    obtain rfl:A=[]:=List.eq_nil_of_length_eq_zero hAl
    refine .inl ⟨(v+1,1,reF j s 1,[u6 (dkF j s 0:Nat)]),[1],[yes 13,fn 18 (.bool true),fn 22 (u6 (dkF j s 0:Nat)),va 29 (u6 (reF j s 1:Nat)),nu 15 ((v+1:Nat):Int)],1000,⟨hlt,by simp,rfl,e4,hne2,hmin2⟩,hm',?_⟩
    clear hmin2 hne2 e3 e4 h2 hA hle hne hmin d1 d2
    try dsimp only
    generalize dkF j s 0=d at*
    generalize reF j s (0+1)=l2 at*
    exact m_ (p:=An [decide ((↑v:Int)<(↑n:Int))=true,TT 2,_,Tt,TT 3,_,Tt,_,wr .i64 ((↑v:Int)+(1:Int))=(↑(v+1):Int),An [An [n=n,Sm (ut j)],Sm (↑s:Int),An [Zz,1=1,Tt],Sm (↑l2:Int),Sm (↑(v+1):Int),Tt],An [Sm [u6 ↑d],Tt,Tt],Tt]) ⟨aq,aq,h1,aq,aq,h2',aq,h3,a_⟩
   |succ c=>
    refine .inl ⟨(v+1,c+2,reF j s (c+2),A++[u6 (dkF j s (c+1):Nat)]),[2],[yes 13,fn 18 (.bool true),fn 22 (u6 (dkF j s (c+1):Nat)),ap 26,va 29 (u6 (reF j s (c+2):Nat)),nu 15 ((v+1:Nat):Int)],1000,⟨hlt,by simp_all,rfl,e4,hne2,hmin2⟩,hm',?_⟩
    clear hmin2 hne2 e3 e4 h2 hA hle hne hmin d1 d2
    try dsimp only
    generalize dkF j s (c+1)=d at*
    generalize reF j s (c+1+1)=l2 at*
    exact m_ (p:=An [decide ((↑v:Int)<(↑n:Int))=true,TT 2,_,Tt,TT 3,_,Tt,A.length=(c+1)*1,c+1+1≤9223372036854775807,(c+1+1)*8≤140737488355328,_,wr .i64 ((↑v:Int)+(1:Int))=(↑(v+1):Int),An [An [n=n,Sm (ut j)],Sm (↑s:Int),An [Zz,Nat.succ c+1=c+1+1,Tt],Sm (↑l2:Int),Sm (↑(v+1):Int),Tt],An [Sm (A++[u6 ↑d]),HfL (A++[u6 ↑d])],Tt]) ⟨aq,aq,h1,aq,aq,h2',aq,aq,aq,aq,h3,aq,a_,⟨aq,Qe0 hAf ⟨trivial,trivial⟩⟩,aq⟩
  | false =>
   rw[hb]at h1
   have hmin2: ∀i,i<v+1→(reF j s c).testBit i=false:=fun i hi=>by
    grind
   have hm':n-(v+1)<n-v:=by omega
   cases c with
   |zero=>
    refine .inl ⟨(v+1,0,l,A),[],[yes 13,fn 18 (.bool false),nu 15 ((v+1:Nat):Int)],1000,⟨hlt,by simp,hle,hA,hne,hmin2⟩,hm',?_⟩
    clear hmin2 hA hle hne hmin
    try dsimp only
    exact m_ (p:=An [decide ((↑v:Int)<(↑n:Int))=true,TT 2,_,Tt,wr .i64 ((↑v:Int)+(1:Int))=(↑(v+1):Int),An [An [n=n,Sm (ut j)],Sm (↑s:Int),Tt,Sm (↑l:Int),Sm (↑(v+1):Int),Tt],Tt]) ⟨aq,aq,h1,a_⟩
   |succ c=>
    refine .inl ⟨(v+1,c+1,l,A),[0],[yes 13,fn 18 (.bool false),nu 15 ((v+1:Nat):Int)],1000,⟨hlt,by grind,hle,hA,hne,hmin2⟩,hm',?_⟩
    clear hmin2 hA hle hne hmin
    try dsimp only
    exact m_ (p:=An [decide ((↑v:Int)<(↑n:Int))=true,TT 2,_,Tt,wr .i64 ((↑v:Int)+(1:Int))=(↑(v+1):Int),An [An [n=n,Sm (ut j)],Sm (↑s:Int),An [Zz,Sm (c+1),Tt],Sm (↑l:Int),Sm (↑(v+1):Int),Tt],An [A=A,_],Tt]) ⟨aq,aq,h1,aq,aq,a_,⟨aq,hAf⟩,aq⟩
 ·obtain rfl : v = n := by omega
  have hz:reF j s c=0:=Qpb fun i=>by
   rcases Nat.lt_or_ge i v with h|h
   ·exact hmin i h
   ·cases hb : (reF j s c).testBit i with
    |false=>rfl
    |true=>
     have:=Qli hs c i hb
     grind[Nat.testBit_lt_two_pow,Nat.lt_of_lt_of_le,Nat.pow_le_pow_right]
  have hc:c=rn j s:=by
   obtain⟨r1,r2⟩:=rn_ok (j:=j) hs
   rcases Nat.lt_trichotomy c (rn j s)with h|h|h
   ·simp_all
   ·exact h
   ·simp_all
  rw[←hc,←hA]
  clear hz hA hle hne hmin hc
  cases c with
  |zero=>
   obtain rfl:A=[]:=List.eq_nil_of_length_eq_zero hAl
   refine .inr ⟨.exit 0,[],{sl:=[(5,.im 0 noL)]},[no 13],1000,.inl ⟨trivial,rfl,rfl⟩,?_⟩
   try dsimp only
   refine Eq.mp (by kernel_rfl:(An [decide ((↑v:Int)<(↑v:Int))=false,An [Zz,Tt],Tt])=_) ?_
   (repeat'(first|(with_reducible apply And.intro)|(refine fun(_:True)=>?_)))<;>first|exact aq|skip
   all_goals first|rfl|skip
  |succ c=>
   refine .inr ⟨.exit 0,[],{sl:=[(5,.im (c+1) A)]},[no 13],1000,.inl ⟨trivial,rfl,rfl⟩,?_⟩
   try dsimp only
   exact m_ (p:=An [decide ((↑v:Int)<(↑v:Int))=false,An [An [Sm (c+1),A=A,_],Tt],Tt]) ⟨aq,⟨⟨aq,aq,hAf⟩,aq⟩,aq⟩
theorem Qhc:FnOk Pg g0 26 [ul j,u6 (s:Nat)] (.im (rn j s) (ut (diL j s (rn j s)))):=by
 have hp:=Qag j
 have h:=dd_loop j s hl h64 hs hsn j.length rfl
 have hAf:=Qag (diL j s (rn j s))
 generalize ut (diL j s (rn j s))=A at*
 generalize rn j s=r at*
 show FnOk Pg g0 _ [.im j.length (ut j),_] _
 clear h64 hsn
 generalize j.length=n at*
 refine FnOk.of_vc vE_ok Qaf Qab (n:=1000) (r:=[]) (S:={sl:=[(4,.im r A)]}) (hs:=[(0,.loop [] (dd0 j s n 0 0 s []) [(True,.exit 0,{sl:=[(5,.im r A)]})])]) ?_
 exact m_ (p:=An [Sm (V.im r A),An [An [An [n=n,Sm (ut j)],Sm (↑s:Int),Tt,Sm (↑s:Int),(↑(0:Nat):Int)=(0:Int),Tt],Tt],_,(True->An [An [An [r=r,A=A],Tt],Tt]),Tt]) ⟨aq,a_,h,a_⟩
end
theorem Qr6(n:Nat)(L:List Nat)(hn:L.length=n)(h6:n≤1000000):
  Sat Pg none 0 (at' 25 [1,1,0,1,0]) (mkSt g0 26 {sl:=[(0,.im n (ut L)),(1,.im n (ut L)),(5,i6 (0:Nat))]}) (Qae g0 26 [(True,.exit 0,{sl:=[]})]):=by
 have hp:=Qag L
 refine Qaw vE_ok Qaf Qab (b:=at' 25 [1,1,0,1,0,0]) (by kernel_rfl) (fun k=>k≤n) (fun(k:Nat)=>{sl:=[(0,.im n (ut L)),(1,.im n (ut L)),(5,i6 (k:Nat))]}) (fun k=>n-k) (fun k hk=>?_) 0 (Nat.zero_le _)
 by_cases hlt:k<n
 ·have s0 := Qa0 (l := L) (k := k) (by omega)
  generalize L.getD k 0=y at*
  refine .inl ⟨k+1,[],[yes 14,pl 19,ld 20 (u6 (y:Nat)),pl 23,ld 24 (u6 (y:Nat)),no 25,nu 16 ((k+1:Nat):Int)],1000,by omega,by omega,?_⟩
  exact m_ (p:=let z0:=(↑k:Int);let z1:=(↑(k+1):Int);let z3:=(↑n:Int);An [decide (z0<z3)=true,An [(0:Int)≤z0,z0<z3],_,An [(0:Int)≤z0,z0<z3],_,((↑y:Int) != (↑y:Int))=false,wr .i64 (z0+(1:Int))=z1,An [An [n=n,Sm (ut L)],An [n=n,Sm (ut L)],z1=z1,Tt],Tt]) ⟨aq,a_,s0,a_,s0,a_⟩
 ·obtain rfl : k = n := by omega
  refine .inr ⟨.exit 0,[],{sl:=[]},[no 14],1000,.inl ⟨trivial,rfl,rfl⟩,?_⟩
  refine Eq.mp (by kernel_rfl:(An [decide ((↑k:Int)<(↑k:Int))=false,Tt,Tt])=_) ?_
  (repeat'(first|(with_reducible apply And.intro)|(refine fun(_:True)=>?_)))<;>first|exact aq|skip
  all_goals skip
theorem Qr5(L:List Nat)(n:Nat)(hn:L.length=n)(h6:n≤1000000):FnOk Pg g0 25 [.im n (ut L),.im n (ut L)] (.bool true):=by
 have hp:=Qag L
 have h:=Qr6 n L hn h6
 generalize ut L=A at*
 refine FnOk.of_vc vE_ok Qaf Qab (n:=1000) (r:=[]) (S:={sl:=[(4,.bool true)]}) (hs:=[no 10,(0,.loop [] {sl:=[(0,.im n A),(1,.im n A),(5,i6 (0:Nat))]} [(True,.exit 0,{sl:=[]})])]) ?_
 exact m_ (p:=An [Sm (V.bool true),((↑n:Int) != (↑n:Int))=false,An [An [An [n=n,A=A],An [n=n,A=A],(↑(0:Nat):Int)=(0:Int),Tt],Tt],_,(True->An [An [Sm true,Tt],Tt]),Tt]) ⟨aq,aq,a_,h,a_⟩
theorem slice_ut(P:List Nat)(k:Nat)(h:k≤P.length):sliceV (Qac Pg) 55 (ul P) none (some (k:Int)) none=some (ul (P.take k)):=by
 have e:sliceV (Qac Pg) 55 (ul P) none (some (k:Int)) none=(if 0≤(0:Int)∧0≤(k:Int)∧(k:Int)≤(P.length:Nat)∧(none:Option Int).isNone=true then some (if(0:Int)=(k:Int)then .im 0 []else .im ((k:Int).toNat-(0:Int).toNat) (((ut P).drop ((0:Int).toNat*1)).take (((k:Int).toNat-(0:Int).toNat)*1)))else none):=by kernel_rfl
 grind[ut,List.map_take]
theorem Qsb(P:List Nat):sliceV (Qac Pg) 55 (ul P) none (some ((P.take 6).length:Int)) none=some (ul (P.take 6)):=by
 grind[slice_ut]
theorem Qqj(A B P Q:List Nat)(pr:List (Nat×Nat))(hP: ∀x∈P,x<256)(hQ: ∀x∈Q,x<256)(h256: ∀x∈pr,x.1<256∧x.2<256):FnOk Pg g0 19 [.agg [ul A,ul B],.agg [bl P,bl Q,.im pr.length (prT pr)]] (.agg [ul (A.take 6),ul (B.take 6),ul (mgP P Q),ul (mgJ P pr)]):=by
 have hm:=Qq6 P Q pr hP hQ h256
 have s1:=Qsb A
 have s2:=Qsb B
 have n1:min (A.length:Int) 6=(((A.take 6).length:Nat):Int):=by rw[List.length_take];omega
 have n2:min (B.length:Int) 6=(((B.take 6).length:Nat):Int):=by rw[List.length_take];omega
 have f1:=Qag A
 have f2:=Qag B
 have f3:=Qag (A.take 6)
 have f4:=Qag (B.take 6)
 have f5:=Qag (mgP P Q)
 have f6:=Qag (mgJ P pr)
 have f7:=Qau P
 have f8:=Qau Q
 have f9:=Qdu pr
 generalize mgP P Q=X at*
 generalize mgJ P pr=Y at*
 generalize A.take 6=A6 at*
 generalize B.take 6=B6 at*
 generalize prT pr=PP at*
 refine FnOk.of_vc vE_ok Qaf Qab (n:=1000) (r:=[2]) (S:={sl:=[(4,.ptr 0 0)],os:=[.row 62 none [ul A6,ul B6,ul X,ul Y]],md:=[1]}) (hs:=[fn 9 (.tup [ul X,ul Y]),nu 17 (A6.length:Nat),va 18 (ul A6),nu 24 (B6.length:Nat),va 25 (ul B6)]) ?_
 exact m_ (p:=let z0:=(6:Int);An [Sm (V.agg [ul A6,ul B6,ul X,ul Y]),An [TT 3,Tt],_,Tt,(if z0<(↑A.length:Int)then z0 else(↑A.length:Int))=(↑A6.length:Int),_,(if z0<(↑B.length:Int)then z0 else(↑B.length:Int))=(↑B6.length:Int),_,An [Zz,Tt],An [An [Sm A6.length,Sm (ut A6)],An [Sm B6.length,Sm (ut B6)],An [Sm X.length,Sm (ut X)],An [Sm Y.length,Sm (ut Y)],Tt],Tt]) ⟨aq,a_,hm,aq,aq,s1,aq,s2,a_⟩
end Go.Proofs.YtifdkhfldbkkpaaGreat.Am
