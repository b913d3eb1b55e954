/- Texts behind the claim, part 10: the abstract machine, and what the functions answer. No condition. -/
import Derived.Test.YtcmeiecgijmdjaaDoorCTop9
set_option linter.unusedVariables false
set_option maxHeartbeats 4000000
set_option maxRecDepth 100000
set_option linter.unusedSimpArgs false
set_option linter.unusedSectionVars false
namespace Go.Proofs.YtcmeiecgijmdjaaDoor.Am
open Go.RowKit
theorem Qsu(L:List Int)(P:List Nat)(cards:List Int)(cs:List (List Int))(F:Nat→Nat→Nat→Int)(size:Nat)(q:Nat→Nat×Nat)(B:Nat→Nat→Int)(la pa:Nat→Nat)(k lim:Nat)
  (h:CallSpec Pg g0 (.fn 20 []) [gV cards cs,i6 (lim:Int)] (ofOs .e 0 []) 0 ⟨cbV size,ofOs .e 0 (cbO cards cs F size q B la pa k),6,[]⟩):
  CallSpec Pg g0 (.fn 20 []) [gV cards cs,i6 (lim:Int)] (ofOs .e 0 [gO cards cs,lO L P]) 2 ⟨cbW size,ofOs .e 0 ([gO cards cs,lO L P]++cbD cards cs F size q B la pa k),8,[]⟩:=by
 have hB:=Qaa B size
 have hla:=Qah la size
 have hpa:=Qag pa size
 have hE:=Qac q (k+1)
 have hS:=Qaa (scF F q) (k+1)
 have hg:=Qav cs
 have hc:=Qab cards
 have hlo:=Qab L
 have hu:=Qcl P
 refine CallSpec.frameL (OS:=[gO cards cs,_]) (OS':=[gO cards cs,_]++cbD cards cs F size q B la pa k) [] [(2,0),(3,1),(4,2),(5,3),(6,4),(7,5)] [] [0,0,0,0,1] h (by kernel_rfl) ?_ ?_ ?_ ?_
 ·refine Eq.mp (by kernel_rfl : (An [An [An [Sm cards.length, Sm (ints cards)], An [Sm cs.length, Sm (List.map sl cs)], Tt], Sm (↑lim : Int), Tt]) = _) ?_
  (repeat'(first|(with_reducible apply And.intro)|(refine fun(_:True)=>?_)))
  all_goals first|exact aq|exact hB|exact hS|exact hE|exact hla|exact hpa|exact hg|exact hc|exact hlo|exact hu|rfl|skip
 ·refine Eq.mp (by kernel_rfl : (Tt) = _) ?_
  (repeat'(first|(with_reducible apply And.intro)|(refine fun(_:True)=>?_)))
  all_goals first|exact aq|exact hB|exact hS|exact hE|exact hla|exact hpa|exact hg|exact hc|exact hlo|exact hu|rfl|skip
 ·refine Eq.mp (by kernel_rfl : (let z0 := An [Zz, Sm size, Sm (size - size)]; An [Zz, An [z0, z0, Tt], Sm (0 : Int), Tt]) = _) ?_
  (repeat'(first|(with_reducible apply And.intro)|(refine fun(_:True)=>?_)))
  all_goals first|exact aq|exact hB|exact hS|exact hE|exact hla|exact hpa|exact hg|exact hc|exact hlo|exact hu|rfl|skip
 ·refine Eq.mp (by kernel_rfl : (let z1 := bF (scF F q) (k + 1); let z2 := entM q (k + 1); let z3 := gO cards cs; let z0 := [z3, lO L P]; An [z0[0]? = some z3, z0[0]? = some z3, z0[1]? = some (lO L P), z0[1]? = some (lO L P), Tt, An [Sm (bF B size), HfL (bF B size)], Tt, An [z2 = z2, HfE z2, Sm (k + 1)], Tt, An [An [Sm cards.length, Sm (ints cards)], An [Sm cs.length, Sm (List.map sl cs)], An [Zz, Sm size, Sm (size - size)], Tt, An [Zz, Sm (k + 1), Tt], Tt], Tt, An [Sm (nF la size), HfL (nF la size)], Tt, An [Sm (uF pa size), HfL (uF pa size)], Tt, An [z1 = z1, HfL z1], Tt]) = _) ?_
  (repeat'(first|(with_reducible apply And.intro)|(refine fun(_:True)=>?_)))
  all_goals first|exact aq|exact hB|exact hS|exact hE|exact hla|exact hpa|exact hg|exact hc|exact hlo|exact hu|rfl|skip
section
variable (L:List Int) (P:List Nat) (cards:List Int) (cs:List (List Int)) (F:Nat→Nat→Nat→Int) (B:Nat→Nat→Int) (size:Nat) (q:Nat→Nat×Nat) (k:Nat)
abbrev rtO:List O:=[lO L P,.row 44 none (bF B size),.map (entM q (k+1)) (k+1),.row 81 none (toC cards cs size 1 2 4 (k+1)),.row 44 (some 18) (bF (scF F q) (k+1))]
abbrev rtO2:List O:=[lO L P,.row 44 none (bF B size),.map (entM q (k+1)) (k+1),.row 81 none (toC cards cs size 1 2 5 (k+1)),.dead,.row 44 (some 18) (bF (scF F q) (k+1))]
end
theorem rt_hit(L:List Int)(P:List Nat)(cards:List Int)(cs:List (List Int))(F:Nat→Nat→Nat→Int)(B:Nat→Nat→Int)(size:Nat)(q:Nat→Nat×Nat)(k s v p:Nat)(x:Nat→Int)
  (h:CallSpec Pg g0 (.fn 28 []) [.ptr 2 0,i6 (s:Nat),i6 (v:Nat),u6 (p:Nat)] (ofOs .e 0 (toO1 cards cs F B size q k)) 4 ⟨.tup [ar x,i6 0],ofOs .e 0 (toO1 cards cs F B size q k),4,[]⟩):
  CallSpec Pg g0 (.fn 28 []) [.ptr 3 0,i6 (s:Nat),i6 (v:Nat),u6 (p:Nat)] (ofOs .e 0 (rtO L P cards cs F B size q k)) 5 ⟨.tup [ar x,i6 0],ofOs .e 0 (rtO L P cards cs F B size q k),5,[]⟩:=by
 have hB:=Qaa B size
 have hE:=Qac q (k+1)
 have hS:=Qaa (scF F q) (k+1)
 have hg:=Qav cs
 have hc:=Qab cards
 have hlo:=Qab L
 have hu:=Qcl P
 exact CallSpec.frameL (OS:=rtO L P cards cs F B size q k) (OS':=rtO L P cards cs F B size q k) [1,2,3,4] [(1,0),(2,1),(3,2),(4,3)] [0,0,1] [0,0,0,1] h (by kernel_rfl) (by
  refine Eq.mp (by kernel_rfl:(An [Zz,Sm (↑s:Int),Sm (↑v:Int),Sm (↑p:Int),Tt])=_) ?_
  (repeat'(first|(with_reducible apply And.intro)|(refine fun(_:True)=>?_)))<;>first|exact aq|skip) (by
  refine Eq.mp (by kernel_rfl:(let z0:=bF (scF F q) (k+1);let z1:=entM q (k+1);An [An [Sm (bF B size),HfL (bF B size)],An [z1=z1,HfE z1,Sm (k+1)],An [An [Sm cards.length,Sm (ints cards)],An [Sm cs.length,Sm (List.map sl cs)],An [Zz,Sm size,Sm (size-size)],Tt,An [Zz,Sm (k+1),Tt],Tt],An [z0=z0,HfL z0],Tt])=_) ?_
  (repeat'(first|(with_reducible apply And.intro)|(refine fun(_:True)=>?_)))
  all_goals first|exact aq|exact hB|exact hS|exact hE|exact hg|exact hc|exact hlo|exact hu|rfl|skip) (by
  refine Eq.mp (by kernel_rfl:(An [An [x 0=x 0,x 1=x 1,x 2=x 2,x 3=x 3,x 4=x 4,x 5=x 5,x 6=x 6,x 7=x 7,x 8=x 8,x 9=x 9,Sm (x 10),Sm (x 11),Sm (x 12),Sm (x 13),Sm (x 14),Sm (x 15),Sm (x 16),Sm (x 17),Tt],Sm (0:Int),Tt])=_) ?_
  (repeat'(first|(with_reducible apply And.intro)|(refine fun(_:True)=>?_)))<;>first|exact aq|skip) (by
  refine Eq.mp (by kernel_rfl:(let z0:=rtO L P cards cs F B size q k;let z1:=bF (scF F q) (k+1);let z2:=entM q (k+1);let z3:=bF B size;An [z0[0]? =some (lO L P),z0[0]? =some (lO L P),z0[1]? =some (O.row 44 none z3),An [z3=z3,HfL z3],z0[2]? =some (O.map z2 (k+1)),An [z2=z2,HfE z2,Sm (k+1)],z0[3]? =some (O.row 81 none (toC cards cs size 1 2 4 (k+1))),An [An [Sm cards.length,Sm (ints cards)],An [Sm cs.length,Sm (List.map sl cs)],An [Zz,Sm size,Sm (size-size)],Tt,An [Zz,Sm (k+1),Tt],Tt],z0[4]? =some (O.row 44 (some 18) z1),An [z1=z1,HfL z1],Tt])=_) ?_
  (repeat'(first|(with_reducible apply And.intro)|(refine fun(_:True)=>?_)))
  all_goals first|exact aq|exact hB|exact hS|exact hE|exact hg|exact hc|exact hlo|exact hu|rfl|skip)
theorem rt_miss(L:List Int)(P:List Nat)(cards:List Int)(cs:List (List Int))(F:Nat→Nat→Nat→Int)(B:Nat→Nat→Int)(size:Nat)(q q':Nat→Nat×Nat)(k s v p:Nat)(x:Nat→Int)
  (h:CallSpec Pg g0 (.fn 28 []) [.ptr 2 0,i6 (s:Nat),i6 (v:Nat),u6 (p:Nat)] (ofOs .e 0 (toO1 cards cs F B size q k)) 4 ⟨.tup [ar x,i6 0],ofOs .e 0 (toO2 cards cs F B size q' (k+1)),5,[1,2,3]⟩):
  CallSpec Pg g0 (.fn 28 []) [.ptr 3 0,i6 (s:Nat),i6 (v:Nat),u6 (p:Nat)] (ofOs .e 0 (rtO L P cards cs F B size q k)) 5 ⟨.tup [ar x,i6 0],ofOs .e 0 (rtO2 L P cards cs F B size q' (k+1)),6,[2,3,4]⟩:=by
 have hB:=Qaa B size
 have hE:=Qac q (k+1)
 have hS:=Qaa (scF F q) (k+1)
 have hE2:=Qac q' (k+1+1)
 have hS2:=Qaa (scF F q') (k+1+1)
 have hg:=Qav cs
 have hc:=Qab cards
 have hlo:=Qab L
 have hu:=Qcl P
 exact CallSpec.frameL (OS:=rtO L P cards cs F B size q k) (OS':=rtO2 L P cards cs F B size q' (k+1)) [1,2,3,4] [(1,0),(2,1),(3,2),(4,3),(5,4)] [0,0,1] [0,0,0,1] h (by kernel_rfl) (by
  refine Eq.mp (by kernel_rfl:(An [Zz,Sm (↑s:Int),Sm (↑v:Int),Sm (↑p:Int),Tt])=_) ?_
  (repeat'(first|(with_reducible apply And.intro)|(refine fun(_:True)=>?_)))<;>first|exact aq|skip) (by
  refine Eq.mp (by kernel_rfl:(let z0:=bF (scF F q) (k+1);let z1:=entM q (k+1);An [An [Sm (bF B size),HfL (bF B size)],An [z1=z1,HfE z1,Sm (k+1)],An [An [Sm cards.length,Sm (ints cards)],An [Sm cs.length,Sm (List.map sl cs)],An [Zz,Sm size,Sm (size-size)],Tt,An [Zz,Sm (k+1),Tt],Tt],An [z0=z0,HfL z0],Tt])=_) ?_
  (repeat'(first|(with_reducible apply And.intro)|(refine fun(_:True)=>?_)))
  all_goals first|exact aq|exact hB|exact hS|exact hE|exact hS2|exact hE2|exact hg|exact hc|exact hlo|exact hu|rfl|skip) (by
  refine Eq.mp (by kernel_rfl:(An [An [x 0=x 0,x 1=x 1,x 2=x 2,x 3=x 3,x 4=x 4,x 5=x 5,x 6=x 6,x 7=x 7,x 8=x 8,x 9=x 9,Sm (x 10),Sm (x 11),Sm (x 12),Sm (x 13),Sm (x 14),Sm (x 15),Sm (x 16),Sm (x 17),Tt],Sm (0:Int),Tt])=_) ?_
  (repeat'(first|(with_reducible apply And.intro)|(refine fun(_:True)=>?_)))<;>first|exact aq|skip) (by
  refine Eq.mp (by kernel_rfl:(let z0:=rtO L P cards cs F B size q k;let z1:=bF (scF F q') (k+1+1);let z2:=entM q' (k+1+1);let z3:=bF B size;An [z0[0]? =some (lO L P),z0[0]? =some (lO L P),z0[1]? =some (O.row 44 none z3),An [z3=z3,HfL z3],Tt,An [z2=z2,HfE z2,Sm (k+1+1)],Tt,An [An [Sm cards.length,Sm (ints cards)],An [Sm cs.length,Sm (List.map sl cs)],An [Zz,Sm size,Sm (size-size)],Tt,An [Zz,Sm (Nat.succ k+1),Tt],Tt],Tt,Tt,Tt,An [z1=z1,HfL z1],Tt])=_) ?_
  (repeat'(first|(with_reducible apply And.intro)|(refine fun(_:True)=>?_)))
  all_goals first|exact aq|exact hB|exact hS|exact hE|exact hS2|exact hE2|exact hg|exact hc|exact hlo|exact hu|rfl|skip)
section
variable (L:List Int) (P:List Nat) (cards:List Int) (cs:List (List Int)) (F:Nat→Nat→Nat→Int) (B:Nat→Nat→Int) (size lim:Nat)
abbrev rrS(x:Nat×(Nat→Nat×Nat)×Nat):SL:={sl:=[(1,i6 (lim:Nat)),(5,.ptr 0 0),(8,.ptr 3 0),(37,i6 (size:Nat)),(38,i6 (x.1:Nat))],os:=rtO L P cards cs F B size x.2.1 x.2.2,md:=[0,0,0,1]}
end
abbrev rtR(b:Bool):SL:={sl:=[(6,.bool b),(7,i6 0)]}
def rgtS(lim:Nat)(F:Nat→Nat→Nat→Int)(B:Nat→Nat→Int)(L:List Int)(P:List Nat)(s:Nat):Bool:=decide (popc (P.getD s 0)≤lim)&&eqA (addA (B (s-2^laL L s)) (F (laL L s) (paL P s)) 1) (B s)
structure AskOk(cards:List Int)(cs:List (List Int))(F:Nat→Nat→Nat→Int)(B:Nat→Nat→Int)(s v p:Nat):Prop where
 add:FnOk Pg g0 43 [ar (B (s-2^v)),ar (F v p)] (.tup [ar (addA (B (s-2^v)) (F v p) 1),i6 0])
 fam:FnOk Pg g0 54 [gV cards cs,i6 (v:Nat),u6 (p:Nat)] (.tup [ar (F v p),i6 0])
theorem rt_loop(L:List Int)(P:List Nat)(hP:S64 P)(cards:List Int)(cs:List (List Int))(F:Nat→Nat→Nat→Int)(B:Nat→Nat→Int)(n size lim:Nat)(hsz:size=2^n)(h:LdOk L P n)
  (hask: ∀s,0<s→s<size→popc (paL P s)≤lim→AskOk cards cs F B s (laL L s) (paL P s))(q0:Nat→Nat×Nat)(k0:Nat)(hk0:k0≤100000)(b:Bool)(hb:b=(List.range size).all (fun s=>decide (s=0)||rgtS lim F B L P s)):
  Sat Pg none 0 (at' 11 [1,1,1,1,0,1,0]) (mkSt g0 80 (rrS L P cards cs F B size lim (0,q0,k0))) (Qaf g0 80 [(b=true,.exit 0,{sl:=[]}),(b=false,.ret,rtR false)]):=by
 have hB:=Qaa B size
 have hEE:=fun q k=>Qac q k
 have hSS:=fun q k=>Qaa (scF F q) k
 have hg:=Qav cs
 have hc:=Qab cards
 have hlo:=Qab L
 have hu:=Qcl P
 have h5:=h.w5
 have h32:size≤32:=by rw[hsz];exact Qau h5
 have e1:=h.lenL
 have e2:=h.lenP
 rw[←hsz]at e1 e2
 refine Qa6 vE_ok mixed Qad (b:=at' 11 [1,1,1,1,0,1,0,0]) (by kernel_rfl) (fun x=>x.1≤size∧x.2.2≤100000+x.1∧∀j,j<x.1→(decide (j=0)||rgtS lim F B L P j)=true) (rrS L P cards cs F B size lim) (fun x=>size-x.1) (fun x hx=>?_) (0,q0,k0) ⟨Nat.zero_le _,by dsimp only;omega,fun j hj=>absurd hj (Nat.not_lt_zero _)⟩
 obtain⟨s,q,k⟩:=x
 obtain⟨hs,hk,hj⟩:=hx
 dsimp only at hs hk hj
 have hE:=Qac q (k+1)
 have hS:=Qaa (scF F q) (k+1)
 by_cases hlt:s<size
 ·by_cases h0 : s = 0
  ·refine .inl ⟨(s + 1, q, k), [0, 1, 2, 3, 4], [yes 39, yes 42, nu 79 ((s + 1 : Nat) : Int)], 1000, ⟨hlt, by dsimp only; omega, fun j hj2 => by rw [decide_eq_true (show j = 0 by dsimp only at hj2; omega)]; rfl⟩, by dsimp only; omega, ?_⟩
   clear hj hb hask
   have hs0:((s:Int)==0)=true:=by rw[beq_iff_eq];omega
   exact m_ (p:=let z0:=bF (scF F q) (k+1);let z1:=(↑(s+1):Int);let z2:=(↑size:Int);let z3:=entM q (k+1);An [decide ((↑s:Int)<z2)=true,_,wr .i64 ((↑s:Int)+(1:Int))=z1,An [Sm (↑lim:Int),Zz,Zz,z2=z2,z1=z1,_],An [Sm [sl L,ul P],TT 2],An [Sm (bF B size),_],An [z3=z3,_,Sm (k+1)],An [An [Sm cards.length,Sm (ints cards)],An [Sm cs.length,Sm (List.map sl cs)],An [Zz,Sm size,Sm (size-size)],_,An [Zz,Sm (k+1),_],_],An [z0=z0,_],_]) ⟨aq,hs0,aq,⟨aq,aq,aq,aq,aq,aq⟩,a_,⟨aq,hB⟩,⟨aq,hE,aq⟩,⟨a_,a_,a_,aq,⟨aq,aq,aq⟩,aq⟩,⟨aq,hS⟩,aq⟩
  ·have hs0 : ((s : Int) == 0) = false := by rw [beq_eq_false_iff_ne]; omega
   obtain⟨a1,a2,a3⟩:=h.ok.at_ s (by omega) (by omega)
   have hld:=@Qak L s (by omega)
   rw[h.nn s (by omega) (by omega)]at hld
   have hlp:=@Qeb P s (by omega)
   have hpp:P.getD s 0<32:=by
    rw[show P.getD s 0=paL P s from rfl,←a3]
    exact Nat.lt_of_le_of_lt Nat.and_le_right (by have:=Nat.sub_le s (2^laL L s);omega)
   have hone:=Qn6 (P.getD s 0) hpp
   have hbad:rgtS lim F B L P s=false→b=false:=fun hh=>by
    rw[hb];exact Qcp hlt (by rw[hh,decide_eq_false h0];rfl)
   have hgood:rgtS lim F B L P s=true→∀j,j<s+1→(decide (j=0)||rgtS lim F B L P j)=true:=fun hh j hj1=>by
    rcases Nat.lt_succ_iff_lt_or_eq.1 hj1 with h2|h2
    ·exact hj j h2
    ·subst h2;rw[hh,Bool.or_true]
   have hask:=hask s (by omega) hlt
   have hpow:2^laL L s≤s:=(Qb6 s (by omega) _ (by omega) a2).1
   have s3:=fun G t=>@Qm4 G t (laL L s) (by omega)
   have s4:=fun G t=>@Qsk G t s (laL L s) (by omega) (by omega) a2
   have htk:=@Qbf B size s hlt
   unfold rgtS at hbad hgood
   unfold paL at hask hbad hgood
   by_cases hpc:popc (P.getD s 0)≤lim
   ·obtain ⟨hadd, hfam⟩ := hask hpc
    rw[decide_eq_true hpc,Bool.true_and]at hbad hgood
    clear hj hb
    generalize hv:laL L s=v at*
    generalize hpd:P.getD s 0=p at*
    clear hpd hv
    generalize hx:addA (B (s-2^v)) (F v p) 1=x at*
    have ht:s-2^v<size:=Nat.lt_of_le_of_lt (Nat.sub_le _ _) hlt
    generalize s-2^v=t at*
    generalize 2^v=bt at*
    have hpc':(lim:Int)<(popc p:Nat)↔False:=⟨fun hh=>by omega,False.elim⟩
    rcases find_entM q v p (k+1)with⟨j,hj1,hj2,hf⟩|⟨_,hf⟩
    ·have hcall := rt_hit L P cards cs F B size q k s v p x (Qqq cards cs F B size q k s t v p bt j x hj1 hj2 hf ht s3 s4 hadd)
     clear hf hfam hadd
     cases hEq:eqA x (B s)with
     |true=>
      have hg2:=hgood hEq
      have hEqn:(!eqA x (B s))=false:=by rw[hEq];rfl
      unfold eqA at hEqn
      refine .inl ⟨(s+1,q,k),[0,1,2,3,4],[yes 39,no 42,pl 46,ld 47 (u6 (p:Nat)),fn 48 (i6 (popc p:Nat)),no 50,pl 57,ld 58 (i6 (v:Nat)),pl 62,ld 63 (u6 (p:Nat)),(64,.call ⟨.tup [ar x,i6 0],ofOs .e 0 (rtO L P cards cs F B size q k),5,[]⟩),pl 76,ld 77 (ar (B s)),no 78,nu 79 ((s+1:Nat):Int)],1000,⟨hlt,by dsimp only;omega,hg2⟩,by dsimp only;omega,?_⟩
      clear hgood hbad hg2 hask hx
      exact m_ (p:=let z0:=(↑s:Int);let z2:=(↑size:Int);let z3:=bF (scF F q) (k+1);let z4:=(↑(s+1):Int);let z6:=(0:Int);let z7:=entM q (k+1);let z8:=bF B size;let z9:=(↑lim:Int);An [decide (z0<z2)=true,_,An [z6≤z0,z0<(↑P.length:Int)],_,An [_,_],_,_,decide ((↑(popc p):Int)>z9)=false,An [z6≤z0,z0<(↑L.length:Int)],_,An [z6≤z0,z0<(↑P.length:Int)],_,_,_,An [z6≤z0,z0<z2],takeE 18 (dropF (0+s*18) z8)=some (arF (B s)),_,wr .i64 (z0+(1:Int))=z4,An [z9=z9,Zz,Zz,z2=z2,z4=z4,_],An [Sm [sl L,ul P],TT 2],An [z8=z8,_],An [z7=z7,_,Sm (k+1)],An [An [Sm cards.length,Sm (ints cards)],An [Sm cs.length,Sm (List.map sl cs)],An [Zz,Sm size,Sm (size-size)],_,An [Zz,Sm (k+1),_],_],An [z3=z3,_],_]) ⟨aq,hs0,a_,hlp,⟨aq,aq⟩,hone,aq,aq,a_,hld,a_,hlp,hcall,aq,a_,aq,hEqn,aq,⟨aq,aq,aq,aq,aq,aq⟩,a_,⟨aq,hB⟩,⟨aq,hE,aq⟩,⟨a_,a_,a_,aq,⟨aq,aq,aq⟩,aq⟩,⟨aq,hS⟩,aq⟩
     |false=>
      have hb2:=hbad hEq
      have hEqn:(!eqA x (B s))=true:=by rw[hEq];rfl
      unfold eqA at hEqn
      refine .inr ⟨.ret,[],rtR false,[yes 39,no 42,pl 46,ld 47 (u6 (p:Nat)),fn 48 (i6 (popc p:Nat)),no 50,pl 57,ld 58 (i6 (v:Nat)),pl 62,ld 63 (u6 (p:Nat)),(64,.call ⟨.tup [ar x,i6 0],ofOs .e 0 (rtO L P cards cs F B size q k),5,[]⟩),pl 76,ld 77 (ar (B s)),yes 78],1000,.inr (.inl ⟨hb2,rfl,rfl⟩),?_⟩
      clear hgood hbad hb2 hask hx
      exact m_ (p:=let z0:=(↑s:Int);let z2:=(0:Int);An [decide (z0<(↑size:Int))=true,_,An [z2≤z0,z0<(↑P.length:Int)],_,An [_,_],_,_,decide ((↑(popc p):Int)>(↑lim:Int))=false,An [z2≤z0,z0<(↑L.length:Int)],_,An [z2≤z0,z0<(↑P.length:Int)],_,_,_,An [z2≤z0,z0<(↑size:Int)],takeE 18 (dropF (0+s*18) (bF B size))=some (arF (B s)),_,An [Sm false,z2=z2,_],_]) ⟨aq,hs0,a_,hlp,⟨aq,aq⟩,hone,aq,aq,a_,hld,a_,hlp,hcall,aq,a_,aq,hEqn,⟨aq,aq,aq⟩,aq⟩
    ·have hcall := rt_miss L P cards cs F B size q _ k s v p x (Qi6 cards cs F B size q k s t v p bt x (by omega) hf hfam ht s3 s4 hadd)
     have hE2:=Qac (upQ q (k+1) (v,p)) (k+1+1)
     have hS2:=Qaa (scF F (upQ q (k+1) (v,p))) (k+1+1)
     clear hf hfam hadd
     cases hEq:eqA x (B s)with
     |true=>
      have hg2:=hgood hEq
      have hEqn:(!eqA x (B s))=false:=by rw[hEq];rfl
      unfold eqA at hEqn
      refine .inl ⟨(s+1,upQ q (k+1) (v,p),k+1),[0,1,2,3,5],[yes 39,no 42,pl 46,ld 47 (u6 (p:Nat)),fn 48 (i6 (popc p:Nat)),no 50,pl 57,ld 58 (i6 (v:Nat)),pl 62,ld 63 (u6 (p:Nat)),(64,.call ⟨.tup [ar x,i6 0],ofOs .e 0 (rtO2 L P cards cs F B size (upQ q (k+1) (v,p)) (k+1)),6,[2,3,4]⟩),pl 76,ld 77 (ar (B s)),no 78,nu 79 ((s+1:Nat):Int)],1000,⟨hlt,by dsimp only;omega,hg2⟩,by dsimp only;omega,?_⟩
      clear hgood hbad hg2 hask hx
      generalize upQ q (k+1) (v,p)=q' at*
      exact m_ (p:=let z0:=(↑s:Int);let z1:=bF (scF F q') (k+1+1);let z2:=(↑size:Int);let z3:=entM q' (k+1+1);let z4:=(↑(s+1):Int);let z6:=(0:Int);let z7:=bF B size;let z8:=(↑lim:Int);An [decide (z0<z2)=true,_,An [z6≤z0,z0<(↑P.length:Int)],_,An [_,_],_,_,decide ((↑(popc p):Int)>z8)=false,An [z6≤z0,z0<(↑L.length:Int)],_,An [z6≤z0,z0<(↑P.length:Int)],_,_,_,An [z6≤z0,z0<z2],takeE 18 (dropF (0+s*18) z7)=some (arF (B s)),_,wr .i64 (z0+(1:Int))=z4,An [z8=z8,Zz,Zz,z2=z2,z4=z4,_],An [Sm [sl L,ul P],TT 2],An [z7=z7,_],An [z3=z3,_,Sm (k+1+1)],An [An [Sm cards.length,Sm (ints cards)],An [Sm cs.length,Sm (List.map sl cs)],An [Zz,Sm size,Sm (size-size)],_,An [Zz,Sm (Nat.succ k+1),_],_],An [z1=z1,_],_]) ⟨aq,hs0,a_,hlp,⟨aq,aq⟩,hone,aq,aq,a_,hld,a_,hlp,hcall,aq,a_,aq,hEqn,aq,⟨aq,aq,aq,aq,aq,aq⟩,a_,⟨aq,hB⟩,⟨aq,hE2,aq⟩,⟨a_,a_,a_,aq,⟨aq,aq,aq⟩,aq⟩,⟨aq,hS2⟩,aq⟩
     |false=>
      have hb2:=hbad hEq
      have hEqn:(!eqA x (B s))=true:=by rw[hEq];rfl
      unfold eqA at hEqn
      refine .inr ⟨.ret,[],rtR false,[yes 39,no 42,pl 46,ld 47 (u6 (p:Nat)),fn 48 (i6 (popc p:Nat)),no 50,pl 57,ld 58 (i6 (v:Nat)),pl 62,ld 63 (u6 (p:Nat)),(64,.call ⟨.tup [ar x,i6 0],ofOs .e 0 (rtO2 L P cards cs F B size (upQ q (k+1) (v,p)) (k+1)),6,[2,3,4]⟩),pl 76,ld 77 (ar (B s)),yes 78],1000,.inr (.inl ⟨hb2,rfl,rfl⟩),?_⟩
      clear hgood hbad hb2 hask hx
      generalize upQ q (k+1) (v,p)=q' at*
      exact m_ (p:=let z0:=(↑s:Int);let z1:=(0:Int);An [decide (z0<(↑size:Int))=true,_,An [z1≤z0,z0<(↑P.length:Int)],_,An [_,_],_,_,decide ((↑(popc p):Int)>(↑lim:Int))=false,An [z1≤z0,z0<(↑L.length:Int)],_,An [z1≤z0,z0<(↑P.length:Int)],_,_,_,An [z1≤z0,z0<(↑size:Int)],takeE 18 (dropF (0+s*18) (bF B size))=some (arF (B s)),_,An [Sm false,z1=z1,_],_]) ⟨aq,hs0,a_,hlp,⟨aq,aq⟩,hone,aq,aq,a_,hld,a_,hlp,hcall,aq,a_,aq,hEqn,⟨aq,aq,aq⟩,aq⟩
   ·rw [decide_eq_false hpc, Bool.false_and] at hbad
    have hb2:=hbad rfl
    clear hj hb hask hgood hbad
    generalize P.getD s 0=p at*
    refine .inr ⟨.ret,[],rtR false,[yes 39,no 42,pl 46,ld 47 (u6 (p:Nat)),fn 48 (i6 (popc p:Nat)),yes 50],1000,.inr (.inl ⟨hb2,rfl,rfl⟩),?_⟩
    clear hb2
    exact m_ (p:=let z0:=(↑s:Int);An [decide (z0<(↑size:Int))=true,_,An [(0:Int)≤z0,z0<(↑P.length:Int)],_,An [_,_],_,_,decide ((↑(popc p):Int)>(↑lim:Int))=true,An [Sm false,(0:Int)=(0:Int),_],_]) ⟨aq,hs0,a_,hlp,⟨aq,aq⟩,hone,aq,aq,⟨aq,aq,aq⟩,aq⟩
 ·have hall : b = true := by rw [hb]; exact all_range.2 fun j hj1 => hj j (by omega)
  refine .inr ⟨.exit 0,[],{sl:=[]},[no 39],1000,.inl ⟨hall,rfl,rfl⟩,?_⟩
  clear hj hall hb hask
  exact m_ (p:=An [decide ((↑s:Int)<(↑size:Int))=false,_,_]) ⟨aq,aq,aq⟩
abbrev rtE(b:Bool)(e:Int):SL:={sl:=[(6,.bool b),(7,i6 e)]}
theorem sum_add1(f g:Nat→Int):ar (sumF f g)=ar (addA f g 1):=congrArg V.agg (Qcq fun k hk=>Qqx f g hk)
theorem ask_ok{cards:List Int}{cs:List (List Int)}(hl2:cs.length≤40)(hcl: ∀c∈cs,c.length≤1000)(h:goodE cards cs=0)(hn:cards.length≤5){lim s v p:Nat}(hs:s<2^cards.length)(hv:v<cards.length)(hok:okT lim s v p=true)(B:Nat→Nat→Int)(hB:inB (B (s-2^v)) 800):AskOk cards cs (fF cards cs) B s v p:=by
 have hF:=Qrj h hl2
 refine⟨?_,?_⟩
 ·have := add_ok (B (s - 2 ^ v)) (fF cards cs v p) (hB.inA (by decide)) ((hF v p).inA (by decide)) (by
   refine Qt6 fun k hk=>?_
   have h1:=hB k hk
   have h2:=hF v p k hk
   have:sumF (B (s-2^v)) (fF cards cs v p) k=B (s-2^v) k+1*fF cards cs v p k:=Qqx _ _ hk
   omega)
  rwa [sum_add1]at this
 ·have ho := Qb4.1 hok
  have hps:p≤s:=by rw[←ho.1];exact Nat.and_le_right
  have hF2:fF cards cs v p=famG cards cs v p:=if_pos hv
  rw[hF2]
  refine Qva cards cs v p (by omega) (by omega) hcl h ?_
  unfold memB
  have e1:p/2^cards.length=0:=Nat.div_eq_of_lt (by omega)
  have e2:p/2^v%2=0:=by
   have:=ho.2.1
   rw[Nat.testBit_eq_decide_div_mod_eq]at this
   have:=of_decide_eq_false this
   omega
  simp[e1,e2,hv]
theorem rgt_all(n lim:Nat)(F:Nat→Nat→Nat→Int)(L:List Int)(P:List Nat)(h:LdOk L P n):(List.range (2^n)).all (fun s=>decide (s=0)||rgtS lim F (tabB n lim F (2^n)) L P s)=rgtB n lim F L P:=by
 have key: ∀s,s<2^n→(decide (s=0)||rgtS lim F (tabB n lim F (2^n)) L P s)=(decide (s=0)||(decide (popc (P.getD s 0)≤lim)&&eqA (addA (topB n lim F (s-2^laL L s)) (F (laL L s) (paL P s)) 1) (topB n lim F s))):=fun s hs=>by
  unfold rgtS
  rw[Qdh,Qdh,if_pos hs,if_pos (Nat.lt_of_le_of_lt (Nat.sub_le _ _) hs)]
 unfold rgtB
 apply Bool.eq_iff_iff.2
 constructor
 ·intro h;exact all_range.2 fun s hs=>by rw[←key s hs];exact all_range.1 h s hs
 ·intro h;exact all_range.2 fun s hs=>by rw[key s hs];exact all_range.1 h s hs
theorem right_ok(cards:List Int)(cs:List (List Int))(lim:Nat)(L:List Int)(P:List Nat)(hP:S64 P)(he:Qib cards cs (lim:Int)=0)(hgood:goodL L P cards.length=true):FnOk Pg g0 11 [gV cards cs,i6 (lim:Int),lV L P] (.tup [.bool (rgtB cards.length lim (fF cards cs) L P),i6 0]):=by
 obtain⟨hg0,hn1,hn5,_,_,hl2,hcl⟩:=Qkq he
 obtain⟨q,k,hk,h⟩:=Qjw cards cs lim he
 have hck:=Qfo L P hP
 have hvr:=Qdi L P
 rw[Qma,Bool.and_eq_true]at hgood
 obtain⟨hb,hw⟩:=hgood
 have hw:=of_decide_eq_true hw
 have hlad:=Qnz hb
 rw[hb,if_pos rfl]at hck
 rw[hw]at hvr hlad
 have hF:=Qrj hg0 hl2
 have hpos:1≤2^cards.length:=Nat.pow_pos (by decide)
 have h32:=Qau hn5
 have l:=rt_loop L P hP cards cs (fF cards cs) (tabB cards.length lim (fF cards cs) (2^cards.length)) cards.length (2^cards.length) lim rfl hlad (fun s h0 hs hpc=>by
  obtain⟨a1,a2,a3⟩:=hlad.ok.at_ s h0 hs
  have hp32:paL P s<32:=by
   rw[←a3];exact Nat.lt_of_le_of_lt Nat.and_le_right (by have:=Nat.sub_le s (2^laL L s);omega)
  refine ask_ok hl2 (fun c hc=>by rw[hcl c hc];omega) hg0 hn5 hs a1 ((Qee (by omega) (by omega) a2 hp32).2 ⟨a3,hpc⟩) _ ?_
  rw[Qdh,if_pos (Nat.lt_of_le_of_lt (Nat.sub_le _ _) hs)]
  exact Qhx hF hn5 (Nat.lt_of_le_of_lt (Nat.sub_le _ _) hs)) q k hk _ rfl
 rw[rgt_all _ _ _ _ _ hlad]at l
 have e1:=hlad.lenL
 have e2:=hlad.lenP
 generalize rgtB cards.length lim (fF cards cs) L P=b at*
 generalize tabB cards.length lim (fF cards cs) (2^cards.length)=B at*
 generalize laT cards.length lim (fF cards cs) (2^cards.length)=la at*
 generalize paT cards.length lim (fF cards cs) (2^cards.length)=pa at*
 generalize fF cards cs=F at*
 generalize 2^cards.length=size at*
 have hcall:=Qsu L P cards cs F size q B la pa k lim h
 have hB:=Qaa B size
 have hla:=Qah la size
 have hpa:=Qag pa size
 have hE:=Qac q (k+1)
 have hS:=Qaa (scF F q) (k+1)
 have hg:=Qav cs
 have hc:=Qab cards
 have hlo:=Qab L
 have hu:=Qcl P
 have hrt:rrS L P cards cs F B size lim (0,q,k)={sl:=[(1,i6 (lim:Nat)),(5,.ptr 0 0),(8,.ptr 3 0),(37,i6 (L.length:Nat)),(38,i6 0)],os:=rtO L P cards cs F B size q k,md:=[0,0,0,1]}:=by rw[e1];rfl
 rw[hrt]at l
 clear h he hw hb hrt hF
 cases b with
 |true=>
  have l:=l.mono (Qda rfl (by simp))
  refine FnOk.of_vc vE_ok mixed Qad (n:=1000) (r:=[]) (S:=rtE true 0) (hs:=[(17,.call ⟨cbW size,ofOs .e 0 ([gO cards cs,lO L P]++cbD cards cs F size q B la pa k),8,[]⟩),fn 25 (i6 0),fn 29 (i6 (cards.length:Nat)),no 33,(0,.loop [1,2,3,4,7] {sl:=[(1,i6 (lim:Nat)),(5,.ptr 0 0),(8,.ptr 3 0),(37,i6 (L.length:Nat)),(38,i6 0)],os:=rtO L P cards cs F B size q k,md:=[0,0,0,1]} [(True,.exit 0,{sl:=[]})])]) ?_
  exact m_ (p:=let z1:=ofOs T.e 0 ([gO cards cs,lO L P]++cbD cards cs F size q B la pa k);let z3:=[sl L,ul P];let z4:=bF (scF F q) (k+1);let z5:=entM q (k+1);let z6:=V.tup [V.bool true,i6 0];let z7:=(↑cards.length:Int);let z8:=(0:Int);let y0:=some (size-size);let z0:=pt (pt z1 8 (O.row 38 none [V.nils,V.nils])) 8 (O.row 38 none [V.sl 5 0 size y0,V.sl 6 0 size y0]);An [z6=z6,CallSpec Pg g0 (V.fn 20 []) [V.agg [sl cards,gC cs],i6 ↑lim] (pt (pt T.e 0 (O.row 31 none [sl cards,gC cs])) 1 (O.row 38 none z3)) 2 (CR.mk (cbW size) z1 8 []),_,An [TT 2,_],_,_,An [TT 2,_],_,An [V.fn 21 []=V.fn 22 []→[V.agg z3]=[V.agg z3]→z0=z0→8+1=9→CR.mk (i6 0) z0 9 []=CR.mk (i6 ↑cards.length) z0 9 [],_],(z7 != z7)=false,An [An [Sm (↑lim:Int),Zz,Zz,Sm (↑L.length:Int),z8=z8,_],An [z3=z3,TT 2],An [Sm (bF B size),_],An [z5=z5,_,Sm (k+1)],An [An [Sm cards.length,Sm (ints cards)],An [Sm cs.length,Sm (List.map sl cs)],An [Zz,Sm size,Sm (size-size)],_,An [Zz,Sm (k+1),_],_],An [z4=z4,_],_],_,(True->An [An [Sm true,z8=z8,_],_]),_]) ⟨aq,hcall,aq,⟨aq,aq⟩,hck,aq,⟨aq,aq⟩,hvr,⟨aq,aq⟩,aq,⟨⟨aq,aq,aq,aq,aq,aq⟩,a_,⟨aq,hB⟩,⟨aq,hE,aq⟩,⟨a_,a_,a_,aq,⟨aq,aq,aq⟩,aq⟩,⟨aq,hS⟩,aq⟩,l,(fun _=>⟨⟨aq,aq,aq⟩,aq⟩),aq⟩
 |false=>
  have l:=l.mono (Qdb (by simp) rfl)
  refine FnOk.of_vc vE_ok mixed Qad (n:=1000) (r:=[]) (S:=rtE false 0) (hs:=[(17,.call ⟨cbW size,ofOs .e 0 ([gO cards cs,lO L P]++cbD cards cs F size q B la pa k),8,[]⟩),fn 25 (i6 0),fn 29 (i6 (cards.length:Nat)),no 33,(0,.loop [1,2,3,4,7] {sl:=[(1,i6 (lim:Nat)),(5,.ptr 0 0),(8,.ptr 3 0),(37,i6 (L.length:Nat)),(38,i6 0)],os:=rtO L P cards cs F B size q k,md:=[0,0,0,1]} [(True,.ret,rtR false)])]) ?_
  exact m_ (p:=let z1:=ofOs T.e 0 ([gO cards cs,lO L P]++cbD cards cs F size q B la pa k);let z3:=[sl L,ul P];let z4:=bF (scF F q) (k+1);let z5:=entM q (k+1);let z6:=V.tup [V.bool false,i6 0];let z7:=(↑cards.length:Int);let z8:=(0:Int);let y0:=some (size-size);let z0:=pt (pt z1 8 (O.row 38 none [V.nils,V.nils])) 8 (O.row 38 none [V.sl 5 0 size y0,V.sl 6 0 size y0]);An [z6=z6,CallSpec Pg g0 (V.fn 20 []) [V.agg [sl cards,gC cs],i6 ↑lim] (pt (pt T.e 0 (O.row 31 none [sl cards,gC cs])) 1 (O.row 38 none z3)) 2 (CR.mk (cbW size) z1 8 []),_,An [TT 2,_],_,_,An [TT 2,_],_,An [V.fn 21 []=V.fn 22 []→[V.agg z3]=[V.agg z3]→z0=z0→8+1=9→CR.mk (i6 0) z0 9 []=CR.mk (i6 ↑cards.length) z0 9 [],_],(z7 != z7)=false,An [An [Sm (↑lim:Int),Zz,Zz,Sm (↑L.length:Int),z8=z8,_],An [z3=z3,TT 2],An [Sm (bF B size),_],An [z5=z5,_,Sm (k+1)],An [An [Sm cards.length,Sm (ints cards)],An [Sm cs.length,Sm (List.map sl cs)],An [Zz,Sm size,Sm (size-size)],_,An [Zz,Sm (k+1),_],_],An [z4=z4,_],_],_,(True->An [An [Sm false,z8=z8,_],_]),_]) ⟨aq,hcall,aq,⟨aq,aq⟩,hck,aq,⟨aq,aq⟩,hvr,⟨aq,aq⟩,aq,⟨⟨aq,aq,aq,aq,aq,aq⟩,a_,⟨aq,hB⟩,⟨aq,hE,aq⟩,⟨a_,a_,a_,aq,⟨aq,aq,aq⟩,aq⟩,⟨aq,hS⟩,aq⟩,l,(fun _=>⟨⟨aq,aq,aq⟩,aq⟩),aq⟩
theorem Qoa{cards:List Int}(h:CdOk cards): ∀k:Nat,k≤cards.length→1≤prodT cards k∧prodT cards k≤3^k
 |0,_=>by simp[prodT]
 |k+1,hk=>by
  have h1:=Qoa h k (by omega)
  have h2:=h.each k (by omega)
  unfold prodT
  rw[Int.pow_succ]
  generalize (3:Int)^k=P at*
  generalize prodT cards k=a at*
  generalize cards.getD k 0=c at*
  constructor
  ·exact Int.mul_le_mul h1.1 (by omega:(1:Int)≤c) (by omega) (by omega) |> fun h=>by simpa using h
  ·exact Int.mul_le_mul h1.2 h2.2 (by omega) (by omega)
theorem Qtz{l:List Int}{x:Int}(h:x∈l): ∃k,k<l.length∧x=l.getD k 0:=by
 obtain⟨k,hk,rfl⟩:=List.getElem_of_mem h
 exact⟨k,hk,by rw[List.getD_eq_getElem?_getD,List.getElem?_eq_getElem hk];rfl⟩
theorem good_of{cards:List Int}{cs:List (List Int)}(hc:CdOk cards)(hl:cs.length≤40)(hrow: ∀r∈cs,r.length=cards.length∧∀k,k<cards.length→0≤r.getD k 0∧r.getD k 0<cards.getD k 0):goodE cards cs=0:=by
 have h1:okAll cards cs=true:=by
  unfold okAll
  have hp:=hc.pos
  have h5:=hc.five
  have hpr:prodT cards cards.length≤1024:=by
   have h3:=(Qoa hc cards.length (Nat.le_refl _)).2
   have h4:(3:Int)^cards.length≤243:=by
    rcases(show cards.length=1∨cards.length=2∨cards.length=3∨cards.length=4∨cards.length=5 by omega)with e|e|e|e|e<;>rw[e]<;>decide
   omega
  simp only[Bool.and_eq_true,decide_eq_true_eq]
  refine⟨hp,by omega,hl,?_,hpr,?_⟩
  ·unfold okCs
   exact all_range.2 fun j hj=>by
    have:=hc.each j hj
    exact decide_eq_true (by omega)
  ·rw [List.all_eq_true]
   intro r hr
   obtain⟨r1,r2⟩:=hrow r hr
   unfold okRow
   rw[Bool.and_eq_true]
   exact⟨decide_eq_true r1,all_range.2 fun j hj=>by
    have:=r2 j hj
    exact decide_eq_true (by omega)⟩
 have h2:cs.any negB=false:=by
  rw[List.any_eq_false]
  intro r hr
  obtain⟨r1,r2⟩:=hrow r hr
  unfold negB
  rw[Bool.not_eq_true,List.any_eq_false]
  intro x hx
  obtain⟨k,hk,rfl⟩:=Qtz hx
  have:=r2 k (by omega)
  simpa using this.1
 unfold goodE
 rw[h1,h2];rfl
theorem Qre(C:List Int)(ks:List (Nat→Int))(fo:Int): ∀r∈dataD C ks fo [],r.length=(cardsD C).length∧∀k,k<(cardsD C).length→0≤r.getD k 0∧r.getD k 0<(cardsD C).getD k 0:=by
 have hc:=Qen C
 rw[show dataD C ks fo []=drows ks fo (cardsD C) (min ks.length 40)from rfl]
 intro r hr
 obtain⟨f,_,rfl⟩:=List.mem_map.1 hr
 exact⟨Qbn _ _ _ _,fun k hk=>Qoh hc _ (Nat.le_refl _) k hk⟩
theorem Qt1{cards:List Int}{rows:List (List Int)}(hg:goodE cards rows=0)(h1:1≤cards.length)(h5:cards.length≤5)(hr:rows.length≤40)(hcl: ∀c∈rows,c.length≤1000)(lim:Nat){g r:Nat→Nat}(hrk:Qni cards.length g r)(hl: ∀v,v<cards.length→popc (g v)≤lim): ∃S c,FnOk Pg g0 10 [gV cards rows,gV' cards.length g] (.tup [ar S,i6 0])∧FnOk Pg g0 14 [ar S,ar (topB cards.length lim (fF cards rows) (2^cards.length-1))] (.tup [i6 c,i6 0])∧c≤0∧(c=0↔∀i,i<18→S i=topB cards.length lim (fF cards rows) (2^cards.length-1) i):=by
 have hF:=Qrj hg hr
 have hfull:2^cards.length-1<2^cards.length:=by
  have:0<2^cards.length:=Nat.pow_pos (by decide)
  omega
 have h32:=Qau h5
 have hT:inB (topB cards.length lim (fF cards rows) (2^cards.length-1)) 800:=Qhx hF h5 hfull
 have hS:=sc_in hF h5 g (2^cards.length-1)
 have e:=Qvc cards rows ((List.range cards.length).map g) (by omega) (by omega) hcl (fun x hx=>by
  obtain⟨v,hv,rfl⟩:=List.mem_map.1 hx
  have:=(hrk v (List.mem_range.1 hv)).1
  omega) hg (Qi8 h1 (by omega) hrk)
 rw[Qt0 h5,←gV_ul]at e
 have hc:=Qc2 (hS.mono (show(800:Int)≤4000 by decide)) (hT.mono (show(800:Int)≤4000 by decide))
 refine⟨_,_,e,Qsw _ _ (hS.inA (by decide)) (hT.inA (by decide)),cmp_le hS hT (sc_top hF h1 h5 hrk hl),?_,fun hi=>cmp_zero hS hT hi⟩
 intro h0
 rw[hc]at h0
 exact nv_inj (hS.mono (by decide)) (hT.mono (by decide)) (Qe5.1 h0)
structure BestOk(cards:List Int)(rows:List (List Int))(lim:Nat)(L:List Int)(P:List Nat)(g:Nat→Nat):Prop where
 top:FnOk Pg g0 9 [gV cards rows,i6 (lim:Int)] (.tup [ar (topB cards.length lim (fF cards rows) (2^cards.length-1)),i6 0])
 sol:FnOk Pg g0 7 [gV cards rows,i6 (lim:Int)] (.tup [lV L P,i6 0])
 gra:FnOk Pg g0 8 [lV L P] (.tup [gV' cards.length g,i6 0])
 s64:S64 P
 rank: ∃r,Qni cards.length g r
 few: ∀v,popc (g v)≤lim
 sc:FnOk Pg g0 10 [gV cards rows,gV' cards.length g] (.tup [ar (topB cards.length lim (fF cards rows) (2^cards.length-1)),i6 0])
 rgt:FnOk Pg g0 11 [gV cards rows,i6 (lim:Int),lV L P] (.tup [.bool true,i6 0])
 lenL:L.length=2^cards.length
theorem best_ok{cards:List Int}{rows:List (List Int)}(hg:goodE cards rows=0)(h1:1≤cards.length)(h5:cards.length≤5)(hr:rows.length≤40)(hcl: ∀c∈rows,c.length≤1000)(lim:Nat)(hlim:lim≤4): ∃L P g,BestOk cards rows lim L P g:=by
 have hF:=Qrj hg hr
 have he:Qib cards rows (lim:Int)=0:=by
  unfold Qib
  rw[if_pos hg,if_neg (by omega)]
 have h32:=Qau h5
 have hsol:FnOk Pg g0 7 [gV cards rows,i6 (lim:Int)] (.tup [lV (solL cards.length lim (fF cards rows)) (solP cards.length lim (fF cards rows)),i6 0]):=by
  have:=solve_ok _ _ lim he
  rwa [mk_V]at this
 have hS:=sol_S64 (lim:=lim) hF h5
 have hb:=sol_lad (lim:=lim) hF h1 h5
 have hlo:=sol_ok (lim:=lim) hF h1 h5
 have hrg:=sol_rgt (lim:=lim) hF h5
 have hgr:=graph_ok _ _ hS hb
 rw[Qqd _ _ h1 h5]at hgr
 have hrank:=lad_rank hlo
 have hsc:=Qvc cards rows ((List.range cards.length).map (gL (solL cards.length lim (fF cards rows)) (solP cards.length lim (fF cards rows)) cards.length)) (by omega) (by omega) hcl (fun x hx=>by
  obtain⟨v,hv,rfl⟩:=List.mem_map.1 hx
  have:=(hrank v (List.mem_range.1 hv)).1
  omega) hg (Qi8 h1 (by omega) hrank)
 rw[Qt0 h5,←gV_ul,show ar (scG (fF cards rows) (gL (solL cards.length lim (fF cards rows)) (solP cards.length lim (fF cards rows)) cards.length) (2^cards.length-1) cards.length)=ar (topB cards.length lim (fF cards rows) (2^cards.length-1))from congrArg V.agg (Qcq (Qud hlo hrg))]at hsc
 have hgood:goodL (solL cards.length lim (fF cards rows)) (solP cards.length lim (fF cards rows)) cards.length=true:=by
  rw[Qma,hb,Qqd _ _ h1 h5,decide_eq_true rfl];rfl
 have hri:=right_ok cards rows lim _ _ hS he hgood
 rw[hrg]at hri
 exact⟨_,_,_,top_ok cards rows lim he,hsol,hgr,hS,⟨_,hrank⟩,lad_lim hlo hrg,hsc,hri,by simp[solL,mkL]⟩
mutual
noncomputable def vxB(H:T O):V→V→Bool
 | .int k n,y=>match y with
  | .int k' n'=>decide (k=k')&&decide (n=n')
  | _=>false
 | .bool a,y=>match y with
  | .bool b=>a==b
  | _=>false
 | .nils,y=>match y with
  | .nils=>true
  | _=>false
 | .agg l,y=>match y with
  | .agg l'=>vxL H l l'
  | _=>false
 | .fn f l,y=>match y with
  | .fn f' l'=>Nat.beq f f'&&vxL H l l'
  | _=>false
 | .im n l, y => match y with
  | .nils=>Nat.beq n 0
  | .im k m=>Nat.beq n k&&beqL l m
  | .sl h off m _=>Nat.beq n m&&(match gt H h with
   |some (.row _ _ c)=>vxP H l (c.drop off)
   | _=>false)
  | _=>false
 | .imp l, y => match y with
  | .ptr h off=>(match gt H h with
   |some (.row _ _ c)=>vxP H l (c.drop off)
   | _=>false)
  | _=>false
 | _,_=>false
noncomputable def vxL(H:T O):List V→List V→Bool
 |[],ys=>match ys with
  |[]=>true
  | _=>false
 |x::xs,ys=>match ys with
  |y::ys'=>vxB H x y&&vxL H xs ys'
  |[]=>false
noncomputable def vxP(H:T O):List V→List V→Bool
 |[],_=>true
 |x::xs,ys=>match ys with
  |y::ys'=>vxB H x y&&vxP H xs ys'
  |[]=>false
end
mutual
theorem Qv8{H:T O}{ρ:Nat→Option Nat}: ∀(x y:V),vxB H x y=true→View H.get (fun _=>True) ρ x y
 | .int k n,y,h=>by
  cases y<;>simp[vxB]at h
  obtain⟨rfl,rfl⟩:=h
  rfl
 | .bool a,y,h=>by
  cases y<;>simp[vxB]at h
  subst h;rfl
 | .nils,y,h=>by
  cases y<;>first|rfl|simp[vxB]at h
 | .agg l,y,h=>by
  cases y with
  |agg l'=>exact⟨l',rfl,Qnh l l' (by simpa [vxB]using h)⟩
  | _=>simp[vxB]at h
 | .fn f l, y, h => by
  cases y with
  |fn f' l'=>
   unfold vxB at h
   rw[Bool.and_eq_true]at h
   rw[Nat.eq_of_beq_eq_true h.1]
   exact⟨l',rfl,Qnh l l' h.2⟩
  | _=>simp[vxB]at h
 | .im n l, y, h => by
  cases y with
  |nils=>exact .inr (.inl ⟨rfl,Nat.eq_of_beq_eq_true (by simpa [vxB]using h)⟩)
  |im k m=>
   unfold vxB at h
   simp only[Bool.and_eq_true]at h
   have h1:=Nat.eq_of_beq_eq_true h.1
   subst h1
   exact .inl (by rw[beqL_eq _ _ h.2])
  | sl g off m room =>
   unfold vxB at h
   simp only[Bool.and_eq_true]at h
   obtain⟨h1,h2⟩:=h
   have h1:=Nat.eq_of_beq_eq_true h1
   subst h1
   split at h2
   ·rename_i t sp c hg
    rw[Qaw]at hg
    exact .inr (.inr ⟨g,off,room,t,sp,c,rfl,trivial,hg,Qv9 l _ h2⟩)
   ·cases h2
  | _=>simp[vxB]at h
 | .imp l, y, h => by
  cases y with
  | ptr g off =>
   unfold vxB at h
   dsimp only at h
   split at h
   ·rename_i t sp c hg
    rw[Qaw]at hg
    exact .inr ⟨g,off,t,sp,c,rfl,trivial,hg,Qv9 l _ h⟩
   ·cases h
  | _=>simp[vxB]at h
 | .str _,_,h| .nilp,_,h| .nilf,_,h| .nili,_,h| .nilm,_,h| .tup _,_,h| .mfn _ _,_,h| .ifc _ _,_,h| .ptr _ _,_,h| .sl _ _ _ _,_,h| .mp _,_,h| .yld _,_,h=>by simp[vxB]at h
theorem Qnh{H:T O}{ρ:Nat→Option Nat}: ∀(xs ys:List V),vxL H xs ys=true→ViewL H.get (fun _=>True) ρ xs ys
 |[],ys,h=>by
  cases ys with
  |nil=>rfl
  |cons=>simp[vxL]at h
 | x :: xs, ys, h => by
  cases ys with
  |nil=>simp[vxL]at h
  |cons y ys=>
   unfold vxL at h
   simp only[Bool.and_eq_true]at h
   exact⟨y,ys,rfl,Qv8 x y h.1,Qnh xs ys h.2⟩
theorem Qv9{H:T O}: ∀(xs ys:List V),vxP H xs ys=true→ViewP H.get (fun _=>True) xs ys
 |[],ys,h=>trivial
 | x :: xs, ys, h => by
  cases ys with
  |nil=>simp[vxP]at h
  |cons y ys=>
   unfold vxP at h
   simp only[Bool.and_eq_true]at h
   exact⟨y,ys,rfl,Qv8 x y h.1,Qv9 xs ys h.2⟩
end
noncomputable def memoF(f:Nat)(l:List V)(v:V)(h:Hook):Hook:=fun f' ars H gl=>match gl with
 | .e=>bif Nat.beq f' f&&vxL H l ars then some v else h f' ars H gl
 | _=>h f' ars H gl
theorem Qqb{f:Nat}{l:List V}{v:V}{h:Hook}(hh:Qo3 Pg h)(hv:gnd v=true)(hc:(codeOf Pg f).isSome=true)(hok:FnOk Pg .e f l v):Qo3 Pg (memoF f l v h):=by
 intro f' ars H gl u hu s w vals ha hH hgl nx hnx
 unfold memoF at hu
 split at hu
 ·cases hb : (Nat.beq f' f && vxL H l ars) with
  |false=>rw[hb]at hu;exact hh f' ars H _ u hu s w vals ha hH hgl nx hnx
  | true =>
   rw[hb,cond_true]at hu
   cases hu
   simp only[Bool.and_eq_true]at hb
   have e1:=Nat.eq_of_beq_eq_true hb.1
   subst e1
   have hview:=Qnh (ρ:=fun _=>none) _ _ hb.2
   obtain⟨fi,hfi⟩:=Option.isSome_iff_exists.1 hc
   obtain⟨fn,f1,f2,f3,f4,f5⟩:=Qsy plain hfi
   have hF: ∀b,(s.fz b∨∃g t sp c,H.get g=some (.row t sp c)∧b=s.μ g)→b<w.heap.size:=by
    rintro b (hb|⟨g,t,sp,c,hg,rfl⟩)
    ·exact hH.old b (.inl hb)
    ·exact(hH.obj _ _ hg rfl).2.1
   have hrl:=ViewL.rl hH (s':=sg (fun b=>s.fz b∨∃g t sp c,H.get g=some (.row t sp c)∧b=s.μ g)) ⟨fun _ _ e=>(by cases e),fun g t sp c _ hg=>.inr ⟨g,t,sp,c,hg,rfl⟩,fun b hb=>.inl hb⟩ _ _ _ hview ha
   obtain⟨next,q1,q2,q3⟩:=hok.1 (sg _) w (.func (.func f') #[] #[]) vals ⟨#[],rfl,rfl⟩ hrl (Qup (fun b hb=>hb.elim (hF b) (fun hb=>hb.elim))) (fun g l hg=>by simp at hg) (fun _ _ h=>h)
   have hn:next= .enter f' vals:=by
    have h5:=f5 vals w
    simp[Deferred.ofValue,invoke,h5]at q1
    exact q1.symm
   subst hn
   refine⟨f5 vals w,(callsIn_wide.1 q2).mono ?_⟩
   rintro e w' ⟨x,s',rfl,g1,g2,g3,g4,g5⟩
   exact hook_gnd hH ⟨x,rfl,⟨g3.mod.os,g3.mod.tape,g3.mod.output,g3.mod.size,fun k hk=>g3.mod.block k hk (by rintro⟨h,hm,_⟩;cases hm)⟩,fun s'' w''=>gnd_rv _ _ hv g1⟩
 ·exact hh f' ars H gl u hu s w vals ha hH hgl nx hnx
noncomputable def vxT(H:T O):V→V→Bool
 | .tup l,y=>match y with
  | .tup l'=>vxL H l l'
  | _=>false
 |x,y=>vxB H x y
theorem vxT_ok{H:T O}{ρ:Nat→Option Nat}: ∀(x y:V),vxT H x y=true→View H.get (fun _=>True) ρ x y
 | .tup l,y,h=>by
  cases y with
  |tup l'=>exact⟨l',rfl,Qnh l l' (by simpa [vxT]using h)⟩
  | _=>simp[vxT]at h
 | .bool _,y,h| .int _ _,y,h| .str _,y,h| .nilp,y,h| .nilf,y,h| .nili,y,h| .nils,y,h| .nilm,y,h| .agg _,y,h| .im _ _,y,h| .imp _,y,h| .fn _ _,y,h| .mfn _ _,y,h| .ifc _ _,y,h| .ptr _ _,y,h| .sl _ _ _ _,y,h| .mp _,y,h| .yld _,y,h=>Qv8 _ y h
theorem Qiq{s:Sig}{w w':World}{v v0:V}{H:T O}{nx:Nat}{lg:List Nat}{ee:Ending}(hH:RH s w (T.e:T O).get)(hn: ∀i,0≤i→¬s.dom i)(hv:vxT H v v0=true)(hf:Hf v)(h:Qa8 s w 0 ⟨v0,H,nx,lg⟩ ee w'):Qa8 s w 0 ⟨v,.e,0,[]⟩ ee w':=by
 obtain⟨u,s',rfl,g1,g2,g3,g4,g5⟩:=h
 have hr: ∀g t sp c,H.get g=some (.row t sp c)→s'.dom g∧s'.μ g<w'.heap.size:=fun g t sp c hg=>by
  obtain⟨a,b,_⟩:=g2.obj g _ hg rfl
  exact⟨a,b⟩
 have hrv:RV {s' with fz:=fun b=>s'.fz b∨∃g t sp c,H.get g=some (.row t sp c)∧b=s'.μ g} w' v u:=View.rv (s':={s' with fz:=fun b=>s'.fz b∨∃g t sp c,H.get g=some (.row t sp c)∧b=s'.μ g}) g2 ⟨fun _ _ e=>(by cases e),fun g t sp c _ hg=>.inr ⟨g,t,sp,c,hg,rfl⟩,fun b hb=>.inl hb⟩ v v0 u (vxT_ok (ρ:=fun _=>none) v v0 hv) g1
 have hst:Step s w {s' with fz:=fun b=>s'.fz b∨∃g t sp c,H.get g=some (.row t sp c)∧b=s'.μ g} w' lg:=⟨⟨⟨g3.le.μ,g3.le.cp,g3.le.dom,fun b hb=>.inl (g3.le.fz b hb)⟩,g3.le.mark⟩,fun b hb=>by
  rcases hb with hb|⟨g,t,sp,c,hg,rfl⟩
  ·exact g3.fz b hb
  ·obtain ⟨a, _⟩ := hr g t sp c hg
   rcases g3.new g a (hn g (Nat.zero_le _))with h|⟨k,_,h,_⟩
   ·exact .inr (.inl h)
   ·exact absurd h (hn k (Nat.zero_le _)),g3.kept,g3.mod,g3.new⟩
 obtain⟨s'',q1,q2,q3,q4⟩:=Qlu hH hrv hf hst (fun h _=>hn h (Nat.zero_le _)) (fun b hb=>by
  rcases hb with hb|⟨g,t,sp,c,hg,rfl⟩
  ·exact g2.old b (.inl hb)
  ·exact(hr g t sp c hg).2)
 exact⟨u,s'',rfl,q1,q2,q3,fun i=>by rw[q4];exact dom_same s _ i,Nat.le_refl _⟩
noncomputable def runV(E:Env)(n f:Nat)(ars:List V)(v:V):Bool:=match E.code f with
 |some fi=>Nat.ble ars.length fi.ntmps&&(match exec E n none fi.body ⟨⟨putAll (blank fi.ntmps) 0 ars,(.e:T (List V)),fi.ntmps⟩,.e,0,[]⟩with
  |some [(.normal,st)]=>(match retV E.G st.tm st.H fi.res with|some v0=>vxT st.H v v0|none=>false)
  |some [(.ret,st)]=>(match retV E.G st.tm st.H fi.res with|some v0=>vxT st.H v v0|none=>false)
  | _=>false)
 |none=>false
theorem FnOk.of_runV{E:Env}(hE:E.Ok Pg){n f:Nat}{ars:List V}{v:V}(hf:hfB v=true)(h:runV E n f ars v=true):FnOk Pg (.e:T (List V)) f ars v:=by
 unfold runV at h
 split at h
 ·rename_i fi hfi
  rw[Bool.and_eq_true]at h
  obtain⟨hle,h⟩:=h
  have key: ∀(e:Ex)(st':St),e= .normal∨e= .ret→exec E n none fi.body ⟨⟨putAll (blank fi.ntmps) 0 ars,(.e:T (List V)),fi.ntmps⟩,.e,0,[]⟩=some [(e,st')]→(match retV E.G st'.tm st'.H fi.res with|some v0=>vxT st'.H v v0|none=>false)=true→FnOk Pg (.e:T (List V)) f ars v:=fun e st' he hx hr=>by
   split at hr
   ·rename_i v0 hret
    refine CallSpec.fnC hE hfi (by rw[List.append_nil];exact hle) (Log.refl _ _ _) (R:=fun e' s=>e'=e∧s=st') ?_ ?_
    ·rw [List.append_nil]
     intro B s0 w0 s w a hn hB hrd A Q hQ
     refine(Qdq hE mixed n).one none _ _ st' e s w a B hx A.rel (Nat.le_trans hB A.step.mod.size) (fun h e=>by cases e) Q (fun a' w'⟨lg,s',W⟩=>?_)
     have:=hQ e st' ⟨rfl,rfl⟩ s' w' a' (A.went W)
     rcases he with rfl|rfl<;>exact this
    ·rintro e' st ⟨rfl, rfl⟩
     exact⟨he,v0,hret,fun s w ee w' hH hn hp=>Qiq hH hn hr (Qmb.1 v hf) hp⟩
   ·cases hr
  split at h
  ·rename_i st' hx;exact key .normal st' (.inl rfl) hx h
  ·rename_i st' hx;exact key .ret st' (.inr rfl) hx h
  ·cases h
 ·cases h
theorem FnOk.any{P:Program}{gl:T (List V)}{f:Nat}{l:List V}{v:V}(h:FnOk P .e f l v):FnOk P gl f l v:=
 ⟨fun s w fv vals a b c _ e=>h.1 s w fv vals a b c (fun g l hg=>by simp at hg) e,h.2⟩
theorem Qsq(s:Nat)(h:s<16):FnOk Pg g0 12 [u6 (s:Nat)] (i6 (popc s:Nat)):=by
 have key:(List.range 16).all (fun s=>runV vE 1000 12 [u6 (s:Nat)] (i6 (popc s:Nat)))=true:=by kernel_rfl
 exact FnOk.any (FnOk.of_runV vE_ok rfl (List.all_eq_true.1 key s (List.mem_range.2 h)))
abbrev t8L(a:Nat→Nat):List V:=[w8 (a 0:Nat),w8 (a 1:Nat),w8 (a 2:Nat),w8 (a 3:Nat),w8 (a 4:Nat),w8 (a 5:Nat),w8 (a 6:Nat),w8 (a 7:Nat)]
theorem Qcd(a:Nat→Nat){k:Nat}(h:k<8):headF (dropF k (t8L a))=some (w8 (a k:Nat)):=by
 rcases(show k=0∨k=1∨k=2∨k=3∨k=4∨k=5∨k=6∨k=7 by omega)with rfl|rfl|rfl|rfl|rfl|rfl|rfl|rfl<;>rfl
theorem Qbp{g k:Nat}(h:k<8):placeV (Qae Pg) 26 (.ptr g 0) (k:Int)=some (.ptr g k):=by
 have e:placeV (Qae Pg) 26 (.ptr g 0) (k:Int)=(if 0≤(k:Int)∧(k:Int)<((8:Nat):Int)then Qgc (.ptr g 0) ((k:Int).toNat*1)else none):=by kernel_rfl
 rw[e,if_pos (by omega)]
 simp[Qgc]
theorem Qba(a:Nat→Nat):HfL (t8L a):=⟨trivial,trivial,trivial,trivial,trivial,trivial,trivial,trivial,trivial⟩
theorem Qcw{G:Ctx}{t:Nat}{a b:Nat}(h:b≠0):binV G .rem t (i6 (a:Nat)) (i6 (b:Nat))=some (i6 ((a%b:Nat):Int)):=by
 grind [rem6]
def rmL(L:List Int)(k:Nat):List Int:=L.take k++L.drop (k+1)
theorem Qe6{h m k:Nat}{rm:Option Nat}(hk:k<m):sliceV (Qae Pg) 28 (.sl h 0 m rm) none (some ((k:Nat):Int)) (some ((k:Nat):Int))=some (.sl h 0 k (some 0)):=by
 have e:sliceV (Qae Pg) 28 (.sl h 0 m rm) none (some ((k:Nat):Int)) (some ((k:Nat):Int))=(if 0≤(0:Int)∧(0:Int)≤(k:Int)∧(k:Int)≤(k:Int)∧(k:Int)≤((m:Int)+((rm.getD 0:Nat):Int))∧(true=true→true=true)then(some (.sl h (if(0:Int)=(k:Int)then 0 else 0+(0:Int).toNat*1) ((k:Int).toNat-(0:Int).toNat) (some ((k:Int).toNat-(k:Int).toNat))))else none):=by cases rm<;>rfl
 rw[e,if_pos ⟨by omega,by omega,by omega,by omega,fun _=>rfl⟩]
 simp
theorem sl_a0{h m k:Nat}(hk:m=k+1):sliceV (Qae Pg) 28 (.sl h 0 m none) (some ((k+1:Nat):Int)) none none=some (.im 0 []):=by
 subst hk
 have e:sliceV (Qae Pg) 28 (.sl h 0 (k+1) none) (some ((k+1:Nat):Int)) none none=(if(0:Int)≤((k+1:Nat):Int)∧((k+1:Nat):Int)≤((k+1:Nat):Int)∧((k+1:Nat):Int)≤(((k+1:Nat):Int)+((0:Nat):Int))∧(((k+1:Nat):Int)+((0:Nat):Int))≤((k+1:Nat):Int)+((0:Nat):Int)∧(false=true→false=true)then(if((k+1:Nat):Int)=((k+1:Nat):Int)then some (.im 0 [])else if((k+1:Nat):Int)=0∨(1:Nat)≠0 then some (.sl h (0+((k+1:Nat):Int).toNat*1) (((k+1:Nat):Int).toNat-((k+1:Nat):Int).toNat) none)else none)else none):=rfl
 rw[e,if_pos ⟨by omega,by omega,by omega,by omega,fun h=>h⟩,if_pos rfl]
theorem sl_a1{h m k:Nat}(hk:m=k+1):sliceV (Qae Pg) 28 (.sl h 0 m (some 0)) (some ((k+1:Nat):Int)) none none=some (.sl h 0 0 (some 0)):=by
 subst hk
 have e:sliceV (Qae Pg) 28 (.sl h 0 (k+1) (some 0)) (some ((k+1:Nat):Int)) none none=(if(0:Int)≤((k+1:Nat):Int)∧((k+1:Nat):Int)≤((k+1:Nat):Int)∧((k+1:Nat):Int)≤(((k+1:Nat):Int)+((0:Nat):Int))∧(((k+1:Nat):Int)+((0:Nat):Int))≤((k+1:Nat):Int)+((0:Nat):Int)∧(false=true→false=true)then some (.sl h (if((k+1:Nat):Int)=(((k+1:Nat):Int)+((0:Nat):Int))then 0 else 0+((k+1:Nat):Int).toNat*1) (((k+1:Nat):Int).toNat-((k+1:Nat):Int).toNat) (some ((((k+1:Nat):Int)+((0:Nat):Int)).toNat-((k+1:Nat):Int).toNat)))else none):=rfl
 rw[e,if_pos ⟨by omega,by omega,by omega,by omega,fun h=>h⟩,if_pos (by omega)]
 simp
theorem sl_m0{h m k M:Nat}(hk:m=k+1+(M+1)):sliceV (Qae Pg) 28 (.sl h 0 m none) (some ((k+1:Nat):Int)) none none=some (.sl h (k+1) (M+1) none):=by
 subst hk
 have e:sliceV (Qae Pg) 28 (.sl h 0 (k+1+(M+1)) none) (some ((k+1:Nat):Int)) none none=(if(0:Int)≤((k+1:Nat):Int)∧((k+1:Nat):Int)≤((k+1+(M+1):Nat):Int)∧((k+1+(M+1):Nat):Int)≤(((k+1+(M+1):Nat):Int)+((0:Nat):Int))∧(((k+1+(M+1):Nat):Int)+((0:Nat):Int))≤((k+1+(M+1):Nat):Int)+((0:Nat):Int)∧(false=true→false=true)then(if((k+1:Nat):Int)=((k+1+(M+1):Nat):Int)then some (.im 0 [])else if((k+1:Nat):Int)=0∨(1:Nat)≠0 then some (.sl h (0+((k+1:Nat):Int).toNat*1) (((k+1+(M+1):Nat):Int).toNat-((k+1:Nat):Int).toNat) none)else none)else none):=rfl
 rw[e,if_pos ⟨by omega,by omega,by omega,by omega,fun h=>h⟩,if_neg (by omega),if_pos (.inr (by decide))]
 simp only[Int.toNat_natCast,Nat.zero_add,Nat.mul_one]
 congr 2
 omega
theorem sl_m1{h m k M:Nat}(hk:m=k+1+(M+1)):sliceV (Qae Pg) 28 (.sl h 0 m (some 0)) (some ((k+1:Nat):Int)) none none=some (.sl h (k+1) (M+1) (some 0)):=by
 subst hk
 have e:sliceV (Qae Pg) 28 (.sl h 0 (k+1+(M+1)) (some 0)) (some ((k+1:Nat):Int)) none none=(if(0:Int)≤((k+1:Nat):Int)∧((k+1:Nat):Int)≤((k+1+(M+1):Nat):Int)∧((k+1+(M+1):Nat):Int)≤(((k+1+(M+1):Nat):Int)+((0:Nat):Int))∧(((k+1+(M+1):Nat):Int)+((0:Nat):Int))≤((k+1+(M+1):Nat):Int)+((0:Nat):Int)∧(false=true→false=true)then some (.sl h (if((k+1:Nat):Int)=(((k+1+(M+1):Nat):Int)+((0:Nat):Int))then 0 else 0+((k+1:Nat):Int).toNat*1) (((k+1+(M+1):Nat):Int).toNat-((k+1:Nat):Int).toNat) (some ((((k+1+(M+1):Nat):Int)+((0:Nat):Int)).toNat-((k+1+(M+1):Nat):Int).toNat)))else none):=rfl
 rw[e,if_pos ⟨by omega,by omega,by omega,by omega,fun h=>h⟩,if_neg (by omega)]
 simp only[Int.toNat_natCast,Nat.zero_add,Nat.mul_one,Option.some.injEq,V.sl.injEq,true_and]
 exact⟨by omega,by omega⟩
theorem Qbc{H:T O}{g t off n:Nat}{sp room:Option Nat}{C:List Int}{N:List V}(hg:gt H g=some (.row t sp (ints C)))(h:off+n≤C.length)(e:ints ((C.drop off).take n)=N):srcV H 1 (.sl g off n room)=some (n,N):=by
 rw[Qaw]at hg
 unfold srcV
 dsimp only
 rw[hg]
 dsimp only
 have:Nat.ble (off+n*1) (ints C).length=true:=Nat.ble_eq_true_of_le (by rw[Qas];omega)
 rw[this,cond_true,←e]
 simp[ints,List.map_drop,List.map_take]
theorem Qof(C:List Int)(k M m:Nat)(hm:m=k+1+(M+1))(hC:m≤C.length):ints ((C.drop (k+1)).take (M+1))=(ints (rmL (C.take m) k)).drop (k*1):=by
 have h1:((C.take m).take k).length=k:=by simp;omega
 rw[Nat.mul_one,Qmd]
 congr 1
 unfold rmL
 rw[List.drop_left' h1,List.drop_take]
 congr 1
 omega
theorem Qog(C:List Int)(k M m:Nat)(hm:m=k+1+(M+1))(hC:m≤C.length):ints ((C.drop 0).take k)=(ints (rmL (C.take m) k)).take (k*1):=by
 have h1:((C.take m).take k).length=k:=by simp;omega
 rw[Nat.mul_one,show(ints (rmL (C.take m) k)).take k=ints ((rmL (C.take m) k).take k)by simp[ints,List.map_take]]
 congr 1
 unfold rmL
 rw[List.take_left' h1,List.take_take,List.drop_zero]
 congr 1
 omega
abbrev tuS(a:Nat→Nat)(j m:Nat)(C:List Int)(b:Bool)(O:List Int):SL:=
 {sl:=[(3,.ptr 0 0),(5,bif b then .sl 1 0 m (some 0)else .sl 1 0 m none),(6,match j with|0=>.nils|i+1=>.sl 2 0 (i+1) none)]
  os:=[.row 26 none (t8L a),.row 3 (some 1) (ints C)]++(match j with|0=>[]| _+1=>[.row 3 (some 1) (ints O)])}
theorem tu_00a(a:Nat→Nat)(C:List Int)(k:Nat)(hm:(k+1)≤4)(hC:(k+1)≤C.length)(y:Nat)(hy:a (k+1)=y)(hy8:y<256)(hk:y%(k+1)=k)(x:Int)(hx:C.getD k 0=x):
  vc Pg vE sp0 none 0 1000 (at' 29 [1,1,1,0,0,0]) [yes 20,va 23 (i6 ((k+1):Nat)),va 24 (.ptr 0 (k+1)),ld 25 (w8 (y:Nat)),nu 26 (y:Nat),va 29 (i6 (k:Nat)),pl 33,ld 34 (i6 x),va 40 (.sl 1 0 k (some 0)),nu 43 ((k+1:Nat):Int),va 44 (.im 0 [])] (mkSt g0 47 (tuS a 0 (k+1) C false [])) (Qfh 0 47 [0,1,3] (tuS a (0+1) k C true [x])):=by
 have h0:=@Qbp 0 (k+1) (by omega)
 have h1:=Qcd a (k:=(k+1)) (by omega)
 rw[hy]at h1
 have h2:=Qcw (G:=Qae Pg) (t:=3) (a:=(k+1)) (b:=8) (by omega)
 rw[Nat.mod_eq_of_lt (by omega)]at h2
 have h3:=Qcw (G:=Qae Pg) (t:=3) (a:=y) (b:=(k+1)) (by omega)
 rw[hk]at h3
 have h4:=@Qak C k (by omega)
 rw[hx,←Nat.zero_add (k*1),←Qam]at h4
 have hA:=Qba a
 have hCC:=Qab C
 have s1:=Qe6 (h:=1) (m:=(k+1)) (k:=k) (rm:=none) (by omega)
 have s2:=@sl_a0 1 (k+1) k (by omega)
 skip
 skip
 clear hy hk hx
 exact m_ (p:=let z0:=(↑(k+1):Int);let z1:=(↑k:Int);An [decide (z0>(0:Int))=true,binV (Qae Pg) .rem 3 (i6 ↑(k+1)) (i6 8)=some (i6 ↑(k+1)),_,_,wr .i64 (↑y:Int)=(↑y:Int),_,An [(0:Int)≤z1,z1<z0],_,_,wr .i64 (z1+(1:Int))=z0,_,An [Zz,An [Zz,k=k,Zz],An [Zz,1=1,_],_],An [Sm (t8L a),TT 8],An [Sm (ints C),_],An [ints [x]=[i6 x],_,_],_]) ⟨aq,aq,h0,h1,aq,h3,a_,h4,s1,aq,s2,⟨aq,a_,⟨aq,aq,aq⟩,aq⟩,a_,⟨aq,hCC⟩,⟨(by (simp[ints];done)),aq,aq⟩,aq⟩
theorem tu_00b(a:Nat→Nat)(C:List Int)(M:Nat)(hm:(M+1+1)≤4)(hC:(M+1+1)≤C.length)(y:Nat)(hy:a (M+1+1)=y)(hy8:y<256)(hk:y%(M+1+1)=0)(x:Int)(hx:C.getD 0 0=x)(N:List V)(hN:N=ints (rmL (C.take (M+1+1)) 0)):
  vc Pg vE sp0 none 0 1000 (at' 29 [1,1,1,0,0,0]) [yes 20,va 23 (i6 ((M+1+1):Nat)),va 24 (.ptr 0 (M+1+1)),ld 25 (w8 (y:Nat)),nu 26 (y:Nat),va 29 (i6 (0:Nat)),pl 33,ld 34 (i6 x),va 40 (.sl 1 0 0 (some 0)),nu 43 ((0+1:Nat):Int),va 44 (.sl 1 1 (M+1) none),(45,.cp (M+1) N)] (mkSt g0 47 (tuS a 0 (M+1+1) C false [])) (Qfh 0 47 [0,4,3] (tuS a (0+1) (M+1) (rmL (C.take (M+1+1)) 0) false [x])):=by
 have h0:=@Qbp 0 (M+1+1) (by omega)
 have h1:=Qcd a (k:=(M+1+1)) (by omega)
 rw[hy]at h1
 have h2:=Qcw (G:=Qae Pg) (t:=3) (a:=(M+1+1)) (b:=8) (by omega)
 rw[Nat.mod_eq_of_lt (by omega)]at h2
 have h3:=Qcw (G:=Qae Pg) (t:=3) (a:=y) (b:=(M+1+1)) (by omega)
 rw[hk]at h3
 have h4:=@Qak C 0 (by omega)
 rw[hx,←Nat.zero_add (0*1),←Qam]at h4
 have hA:=Qba a
 have hCC:=Qab C
 have s1:=Qe6 (h:=1) (m:=(M+1+1)) (k:=0) (rm:=none) (by omega)
 have s2:=@sl_m0 1 (M+1+1) 0 M (by omega)
 have e1:ints ((C.drop 1).take (M+1))=N:=by rw[hN];unfold rmL;simp[List.drop_take]
 skip
 clear hy hk hx
 exact m_ (p:=let z0:=(↑(0:Nat):Int);let z1:=[O.row 26 none (t8L a),O.row 3 (some 1) (ints C)];let z2:=(↑(M+1+1):Int);let z3:=ints (rmL (List.take (M+1+1) C) 0);let z4:=i6 ↑(M+1+1);let z7:=O.row 3 (some 1) [i6 x];let z8:=V.sl 1 1 (M+1) none;let y0:=O.row 3 none [i6 x];An [decide (z2>(0:Int))=true,binV (Qae Pg) .rem 3 z4 (i6 8)=some z4,_,_,wr .i64 (↑y:Int)=(↑y:Int),_,An [(0:Int)≤z0,z0<z2],_,_,wr .i64 (z0+(1:Int))=(↑(1):Int),sliceV (Qae Pg) 28 (V.sl 1 0 (M+1+1) none) (some (↑(1):Int)) none none=some z8,An [srcV (T.put (pt (ofOs T.e 0 (z1++[])) 2 y0) 3 z7) 1 z8=some (M+1,N),srcV (T.put (pt (ofOs T.e 0 (z1++[])) 2 y0) 3 z7) 1 (V.sl 1 0 0 (some 0))=some (0,[]),1≤M+1,M+1≤9223372036854775807,(M+1)*8≤140737488355328],An [Zz,An [Zz,Sm (M+1),_],An [Zz,1=1,_],_],An [Sm (t8L a),TT 8],An [z3=N,HfL z3],An [ints [x]=[i6 x],_,_],_]) ⟨aq,aq,h0,h1,aq,h3,a_,h4,s1,aq,aq,⟨Qbc (t:=3) (sp:=some 1) (C:=C) (by kernel_rfl) (by omega) e1,Qbc (t:=3) (sp:=some 1) (C:=C) (n:=0) (by kernel_rfl) (by omega) rfl,a_⟩,⟨aq,⟨aq,aq,aq⟩,⟨aq,aq,aq⟩,aq⟩,a_,a_,⟨(by (simp[ints];done)),aq,aq⟩,aq⟩
theorem tu_00c(a:Nat→Nat)(C:List Int)(K M:Nat)(hm:(K+1+(M+1)+1)≤4)(hC:(K+1+(M+1)+1)≤C.length)(y:Nat)(hy:a (K+1+(M+1)+1)=y)(hy8:y<256)(hk:y%(K+1+(M+1)+1)=(K+1))(x:Int)(hx:C.getD (K+1) 0=x)(N:List V)(hN:N=ints (rmL (C.take (K+1+(M+1)+1)) (K+1))):
  vc Pg vE sp0 none 0 1000 (at' 29 [1,1,1,0,0,0]) [yes 20,va 23 (i6 ((K+1+(M+1)+1):Nat)),va 24 (.ptr 0 (K+1+(M+1)+1)),ld 25 (w8 (y:Nat)),nu 26 (y:Nat),va 29 (i6 ((K+1):Nat)),pl 33,ld 34 (i6 x),va 40 (.sl 1 0 (K+1) (some 0)),nu 43 (((K+1)+1:Nat):Int),va 44 (.sl 1 (K+1+1) (M+1) none),(45,.cp (M+1) N)] (mkSt g0 47 (tuS a 0 (K+1+(M+1)+1) C false [])) (Qfh 0 47 [0,4,3] (tuS a (0+1) (K+1+(M+1)) (rmL (C.take (K+1+(M+1)+1)) (K+1)) false [x])):=by
 have h0:=@Qbp 0 (K+1+(M+1)+1) (by omega)
 have h1:=Qcd a (k:=(K+1+(M+1)+1)) (by omega)
 rw[hy]at h1
 have h2:=Qcw (G:=Qae Pg) (t:=3) (a:=(K+1+(M+1)+1)) (b:=8) (by omega)
 rw[Nat.mod_eq_of_lt (by omega)]at h2
 have h3:=Qcw (G:=Qae Pg) (t:=3) (a:=y) (b:=(K+1+(M+1)+1)) (by omega)
 rw[hk]at h3
 have h4:=@Qak C (K+1) (by omega)
 rw[hx,←Nat.zero_add ((K+1)*1),←Qam]at h4
 have hA:=Qba a
 have hCC:=Qab C
 have s1:=Qe6 (h:=1) (m:=(K+1+(M+1)+1)) (k:=(K+1)) (rm:=none) (by omega)
 have s2:=@sl_m0 1 (K+1+(M+1)+1) (K+1) M (by omega)
 have e1:=Qof C (K+1) M (K+1+(M+1)+1) (by omega) hC
 have e2:=Qog C (K+1) M (K+1+(M+1)+1) (by omega) hC
 rw[←hN]at e1 e2
 skip
 clear hy hk hx
 exact m_ (p:=let z0:=(↑(K+1+(M+1)+1):Int);let z1:=(↑(K+1):Int);let z2:=ints (rmL (List.take (K+1+(M+1)+1) C) (K+1));let z3:=[O.row 26 none (t8L a),O.row 3 (some 1) (ints C)];let z8:=O.row 3 (some 1) [i6 x];let z9:=O.row 3 none [i6 x];An [decide (z0>(0:Int))=true,binV (Qae Pg) .rem 3 (i6 z0) (i6 8)=some (i6 z0),_,_,wr .i64 (↑y:Int)=(↑y:Int),_,An [(0:Int)≤z1,z1<z0],_,_,wr .i64 (z1+(1:Int))=(↑(K+1+1):Int),_,An [srcV (T.put (pt (ofOs T.e 0 (z3++[])) 2 z9) 3 z8) 1 (V.sl 1 (K+1+1) (M+1) none)=some (M+1,List.drop ((K+1)*1) N),srcV (T.put (pt (ofOs T.e 0 (z3++[])) 2 z9) 3 z8) 1 (V.sl 1 0 (K+1) (some 0))=some (K+1,List.take ((K+1)*1) N),1≤M+1,K+1+(M+1)≤9223372036854775807,(K+1+(M+1))*8≤140737488355328],An [Zz,An [Zz,Sm (K+1+(M+1)),_],An [Zz,1=1,_],_],An [Sm (t8L a),TT 8],An [z2=N,HfL z2],An [ints [x]=[i6 x],_,_],_]) ⟨aq,aq,h0,h1,aq,h3,a_,h4,s1,aq,s2,⟨Qbc (t:=3) (sp:=some 1) (C:=C) (by kernel_rfl) (by omega) e1,Qbc (t:=3) (sp:=some 1) (C:=C) (by kernel_rfl) (by omega) e2,a_⟩,⟨aq,⟨aq,aq,aq⟩,⟨aq,aq,aq⟩,aq⟩,a_,a_,⟨(by (simp[ints];done)),aq,aq⟩,aq⟩
theorem tu_10a(a:Nat→Nat)(C:List Int)(i:Nat)(O:List Int)(hO:O.length=i+1)(hi:i≤4)(k:Nat)(hm:(k+1)≤4)(hC:(k+1)≤C.length)(y:Nat)(hy:a (k+1)=y)(hy8:y<256)(hk:y%(k+1)=k)(x:Int)(hx:C.getD k 0=x):
  vc Pg vE sp0 none 0 1000 (at' 29 [1,1,1,0,0,0]) [yes 20,va 23 (i6 ((k+1):Nat)),va 24 (.ptr 0 (k+1)),ld 25 (w8 (y:Nat)),nu 26 (y:Nat),va 29 (i6 (k:Nat)),pl 33,ld 34 (i6 x),ap 36,va 40 (.sl 1 0 k (some 0)),nu 43 ((k+1:Nat):Int),va 44 (.im 0 [])] (mkSt g0 47 (tuS a (i+1) (k+1) C false O)) (Qfh 0 47 [0,1,4] (tuS a ((i+1)+1) k C true (O++[x]))):=by
 have h0:=@Qbp 0 (k+1) (by omega)
 have h1:=Qcd a (k:=(k+1)) (by omega)
 rw[hy]at h1
 have h2:=Qcw (G:=Qae Pg) (t:=3) (a:=(k+1)) (b:=8) (by omega)
 rw[Nat.mod_eq_of_lt (by omega)]at h2
 have h3:=Qcw (G:=Qae Pg) (t:=3) (a:=y) (b:=(k+1)) (by omega)
 rw[hk]at h3
 have h4:=@Qak C k (by omega)
 rw[hx,←Nat.zero_add (k*1),←Qam]at h4
 have hA:=Qba a
 have hCC:=Qab C
 have s1:=Qe6 (h:=1) (m:=(k+1)) (k:=k) (rm:=none) (by omega)
 have s2:=@sl_a0 1 (k+1) k (by omega)
 skip
 have hOO:=Qab O
 have hOl:(ints O).length=i+1:=by rw[Qas,hO]
 clear hy hk hx
 exact m_ (p:=let z0:=(↑(k+1):Int);let z1:=(↑k:Int);An [decide (z0>(0:Int))=true,binV (Qae Pg) .rem 3 (i6 ↑(k+1)) (i6 8)=some (i6 ↑(k+1)),_,_,wr .i64 (↑y:Int)=(↑y:Int),_,An [(0:Int)≤z1,z1<z0],_,List.length (ints O)=(i+1)*1,i+1+1≤9223372036854775807,(i+1+1)*8≤140737488355328,_,wr .i64 (z1+(1:Int))=z0,_,An [Zz,An [Zz,k=k,Zz],An [Zz,Nat.succ i+1=i+1+1,_],_],An [Sm (t8L a),TT 8],An [Sm (ints C),_],An [ints (O++[x])=ints O++[i6 x],HfL (ints (O++[x]))],_]) ⟨aq,aq,h0,h1,aq,h3,a_,h4,aq,aq,aq,s1,aq,s2,⟨aq,a_,⟨aq,aq,aq⟩,aq⟩,a_,⟨aq,hCC⟩,⟨(by (simp[ints];done)),aq⟩,aq⟩
theorem tu_10b(a:Nat→Nat)(C:List Int)(i:Nat)(O:List Int)(hO:O.length=i+1)(hi:i≤4)(M:Nat)(hm:(M+1+1)≤4)(hC:(M+1+1)≤C.length)(y:Nat)(hy:a (M+1+1)=y)(hy8:y<256)(hk:y%(M+1+1)=0)(x:Int)(hx:C.getD 0 0=x)(N:List V)(hN:N=ints (rmL (C.take (M+1+1)) 0)):
  vc Pg vE sp0 none 0 1000 (at' 29 [1,1,1,0,0,0]) [yes 20,va 23 (i6 ((M+1+1):Nat)),va 24 (.ptr 0 (M+1+1)),ld 25 (w8 (y:Nat)),nu 26 (y:Nat),va 29 (i6 (0:Nat)),pl 33,ld 34 (i6 x),ap 36,va 40 (.sl 1 0 0 (some 0)),nu 43 ((0+1:Nat):Int),va 44 (.sl 1 1 (M+1) none),(45,.cp (M+1) N)] (mkSt g0 47 (tuS a (i+1) (M+1+1) C false O)) (Qfh 0 47 [0,5,4] (tuS a ((i+1)+1) (M+1) (rmL (C.take (M+1+1)) 0) false (O++[x]))):=by
 have h0:=@Qbp 0 (M+1+1) (by omega)
 have h1:=Qcd a (k:=(M+1+1)) (by omega)
 rw[hy]at h1
 have h2:=Qcw (G:=Qae Pg) (t:=3) (a:=(M+1+1)) (b:=8) (by omega)
 rw[Nat.mod_eq_of_lt (by omega)]at h2
 have h3:=Qcw (G:=Qae Pg) (t:=3) (a:=y) (b:=(M+1+1)) (by omega)
 rw[hk]at h3
 have h4:=@Qak C 0 (by omega)
 rw[hx,←Nat.zero_add (0*1),←Qam]at h4
 have hA:=Qba a
 have hCC:=Qab C
 have s1:=Qe6 (h:=1) (m:=(M+1+1)) (k:=0) (rm:=none) (by omega)
 have s2:=@sl_m0 1 (M+1+1) 0 M (by omega)
 have e1:ints ((C.drop 1).take (M+1))=N:=by rw[hN];unfold rmL;simp[List.drop_take]
 have hOO:=Qab O
 have hOl:(ints O).length=i+1:=by rw[Qas,hO]
 clear hy hk hx
 exact m_ (p:=let z0:=pt (pt (pt (ofOs T.e 0 ([Am.O.row 26 none (t8L a),Am.O.row 3 (some 1) (ints C)]++[Am.O.row 3 (some 1) (ints O)])) 3 (Am.O.row 3 none [i6 x])) 2 Am.O.dead) 4 (Am.O.row 3 (some 1) (ints O++[i6 x]));let z1:=(↑(0:Nat):Int);let z2:=(↑(M+1+1):Int);let z3:=ints (rmL (List.take (M+1+1) C) 0);let z4:=i6 ↑(M+1+1);let z7:=V.sl 1 1 (M+1) none;An [decide (z2>(0:Int))=true,binV (Qae Pg) .rem 3 z4 (i6 8)=some z4,_,_,wr .i64 (↑y:Int)=(↑y:Int),_,An [(0:Int)≤z1,z1<z2],_,List.length (ints O)=(i+1)*1,i+1+1≤9223372036854775807,(i+1+1)*8≤140737488355328,_,wr .i64 (z1+(1:Int))=(↑(1):Int),sliceV (Qae Pg) 28 (V.sl 1 0 (M+1+1) none) (some (↑(1):Int)) none none=some z7,An [srcV z0 1 z7=some (M+1,N),srcV z0 1 (V.sl 1 0 0 (some 0))=some (0,[]),1≤M+1,M+1≤9223372036854775807,(M+1)*8≤140737488355328],An [Zz,An [Zz,Sm (M+1),_],An [Zz,Nat.succ i+1=i+1+1,_],_],An [Sm (t8L a),TT 8],An [z3=N,HfL z3],An [ints (O++[x])=ints O++[i6 x],HfL (ints (O++[x]))],_]) ⟨aq,aq,h0,h1,aq,h3,a_,h4,aq,aq,aq,s1,aq,aq,⟨Qbc (t:=3) (sp:=some 1) (C:=C) (by kernel_rfl) (by omega) e1,Qbc (t:=3) (sp:=some 1) (C:=C) (n:=0) (by kernel_rfl) (by omega) rfl,a_⟩,⟨aq,⟨aq,aq,aq⟩,⟨aq,aq,aq⟩,aq⟩,a_,a_,⟨(by (simp[ints];done)),aq⟩,aq⟩
theorem tu_10c(a:Nat→Nat)(C:List Int)(i:Nat)(O:List Int)(hO:O.length=i+1)(hi:i≤4)(K M:Nat)(hm:(K+1+(M+1)+1)≤4)(hC:(K+1+(M+1)+1)≤C.length)(y:Nat)(hy:a (K+1+(M+1)+1)=y)(hy8:y<256)(hk:y%(K+1+(M+1)+1)=(K+1))(x:Int)(hx:C.getD (K+1) 0=x)(N:List V)(hN:N=ints (rmL (C.take (K+1+(M+1)+1)) (K+1))):
  vc Pg vE sp0 none 0 1000 (at' 29 [1,1,1,0,0,0]) [yes 20,va 23 (i6 ((K+1+(M+1)+1):Nat)),va 24 (.ptr 0 (K+1+(M+1)+1)),ld 25 (w8 (y:Nat)),nu 26 (y:Nat),va 29 (i6 ((K+1):Nat)),pl 33,ld 34 (i6 x),ap 36,va 40 (.sl 1 0 (K+1) (some 0)),nu 43 (((K+1)+1:Nat):Int),va 44 (.sl 1 (K+1+1) (M+1) none),(45,.cp (M+1) N)] (mkSt g0 47 (tuS a (i+1) (K+1+(M+1)+1) C false O)) (Qfh 0 47 [0,5,4] (tuS a ((i+1)+1) (K+1+(M+1)) (rmL (C.take (K+1+(M+1)+1)) (K+1)) false (O++[x]))):=by
 have h0:=@Qbp 0 (K+1+(M+1)+1) (by omega)
 have h1:=Qcd a (k:=(K+1+(M+1)+1)) (by omega)
 rw[hy]at h1
 have h2:=Qcw (G:=Qae Pg) (t:=3) (a:=(K+1+(M+1)+1)) (b:=8) (by omega)
 rw[Nat.mod_eq_of_lt (by omega)]at h2
 have h3:=Qcw (G:=Qae Pg) (t:=3) (a:=y) (b:=(K+1+(M+1)+1)) (by omega)
 rw[hk]at h3
 have h4:=@Qak C (K+1) (by omega)
 rw[hx,←Nat.zero_add ((K+1)*1),←Qam]at h4
 have hA:=Qba a
 have hCC:=Qab C
 have s1:=Qe6 (h:=1) (m:=(K+1+(M+1)+1)) (k:=(K+1)) (rm:=none) (by omega)
 have s2:=@sl_m0 1 (K+1+(M+1)+1) (K+1) M (by omega)
 have e1:=Qof C (K+1) M (K+1+(M+1)+1) (by omega) hC
 have e2:=Qog C (K+1) M (K+1+(M+1)+1) (by omega) hC
 rw[←hN]at e1 e2
 have hOO:=Qab O
 have hOl:(ints O).length=i+1:=by rw[Qas,hO]
 clear hy hk hx
 exact m_ (p:=let z0:=pt (pt (pt (ofOs T.e 0 ([Am.O.row 26 none (t8L a),Am.O.row 3 (some 1) (ints C)]++[Am.O.row 3 (some 1) (ints O)])) 3 (Am.O.row 3 none [i6 x])) 2 Am.O.dead) 4 (Am.O.row 3 (some 1) (ints O++[i6 x]));let z1:=(↑(K+1+(M+1)+1):Int);let z2:=(↑(K+1):Int);let z3:=ints (rmL (List.take (K+1+(M+1)+1) C) (K+1));An [decide (z1>(0:Int))=true,binV (Qae Pg) .rem 3 (i6 z1) (i6 8)=some (i6 z1),_,_,wr .i64 (↑y:Int)=(↑y:Int),_,An [(0:Int)≤z2,z2<z1],_,List.length (ints O)=(i+1)*1,i+1+1≤9223372036854775807,(i+1+1)*8≤140737488355328,_,wr .i64 (z2+(1:Int))=(↑(K+1+1):Int),_,An [srcV z0 1 (V.sl 1 (K+1+1) (M+1) none)=some (M+1,List.drop ((K+1)*1) N),srcV z0 1 (V.sl 1 0 (K+1) (some 0))=some (K+1,List.take ((K+1)*1) N),1≤M+1,K+1+(M+1)≤9223372036854775807,(K+1+(M+1))*8≤140737488355328],An [Zz,An [Zz,Sm (K+1+(M+1)),_],An [Zz,Nat.succ i+1=i+1+1,_],_],An [Sm (t8L a),TT 8],An [z3=N,HfL z3],An [ints (O++[x])=ints O++[i6 x],HfL (ints (O++[x]))],_]) ⟨aq,aq,h0,h1,aq,h3,a_,h4,aq,aq,aq,s1,aq,s2,⟨Qbc (t:=3) (sp:=some 1) (C:=C) (by kernel_rfl) (by omega) e1,Qbc (t:=3) (sp:=some 1) (C:=C) (by kernel_rfl) (by omega) e2,a_⟩,⟨aq,⟨aq,aq,aq⟩,⟨aq,aq,aq⟩,aq⟩,a_,a_,⟨(by (simp[ints];done)),aq⟩,aq⟩
theorem tu_11a(a:Nat→Nat)(C:List Int)(i:Nat)(O:List Int)(hO:O.length=i+1)(hi:i≤4)(k:Nat)(hm:(k+1)≤4)(hC:(k+1)≤C.length)(y:Nat)(hy:a (k+1)=y)(hy8:y<256)(hk:y%(k+1)=k)(x:Int)(hx:C.getD k 0=x):
  vc Pg vE sp0 none 0 1000 (at' 29 [1,1,1,0,0,0]) [yes 20,va 23 (i6 ((k+1):Nat)),va 24 (.ptr 0 (k+1)),ld 25 (w8 (y:Nat)),nu 26 (y:Nat),va 29 (i6 (k:Nat)),pl 33,ld 34 (i6 x),ap 36,va 40 (.sl 1 0 k (some 0)),nu 43 ((k+1:Nat):Int),va 44 (.sl 1 0 0 (some 0))] (mkSt g0 47 (tuS a (i+1) (k+1) C true O)) (Qfh 0 47 [0,1,4] (tuS a ((i+1)+1) k C true (O++[x]))):=by
 have h0:=@Qbp 0 (k+1) (by omega)
 have h1:=Qcd a (k:=(k+1)) (by omega)
 rw[hy]at h1
 have h2:=Qcw (G:=Qae Pg) (t:=3) (a:=(k+1)) (b:=8) (by omega)
 rw[Nat.mod_eq_of_lt (by omega)]at h2
 have h3:=Qcw (G:=Qae Pg) (t:=3) (a:=y) (b:=(k+1)) (by omega)
 rw[hk]at h3
 have h4:=@Qak C k (by omega)
 rw[hx,←Nat.zero_add (k*1),←Qam]at h4
 have hA:=Qba a
 have hCC:=Qab C
 have s1:=Qe6 (h:=1) (m:=(k+1)) (k:=k) (rm:=(some 0)) (by omega)
 have s2:=@sl_a1 1 (k+1) k (by omega)
 skip
 have hOO:=Qab O
 have hOl:(ints O).length=i+1:=by rw[Qas,hO]
 clear hy hk hx
 exact m_ (p:=let z0:=(↑(k+1):Int);let z1:=(↑k:Int);An [decide (z0>(0:Int))=true,binV (Qae Pg) .rem 3 (i6 ↑(k+1)) (i6 8)=some (i6 ↑(k+1)),_,_,wr .i64 (↑y:Int)=(↑y:Int),_,An [(0:Int)≤z1,z1<z0],_,List.length (ints O)=(i+1)*1,i+1+1≤9223372036854775807,(i+1+1)*8≤140737488355328,_,wr .i64 (z1+(1:Int))=z0,_,An [Zz,An [Zz,k=k,Zz],An [Zz,Nat.succ i+1=i+1+1,_],_],An [Sm (t8L a),TT 8],An [Sm (ints C),_],An [ints (O++[x])=ints O++[i6 x],HfL (ints (O++[x]))],_]) ⟨aq,aq,h0,h1,aq,h3,a_,h4,aq,aq,aq,s1,aq,s2,⟨aq,a_,⟨aq,aq,aq⟩,aq⟩,a_,⟨aq,hCC⟩,⟨(by (simp[ints];done)),aq⟩,aq⟩
theorem tu_11b(a:Nat→Nat)(C:List Int)(i:Nat)(O:List Int)(hO:O.length=i+1)(hi:i≤4)(M:Nat)(hm:(M+1+1)≤4)(hC:(M+1+1)≤C.length)(y:Nat)(hy:a (M+1+1)=y)(hy8:y<256)(hk:y%(M+1+1)=0)(x:Int)(hx:C.getD 0 0=x)(N:List V)(hN:N=ints (rmL (C.take (M+1+1)) 0)):
  vc Pg vE sp0 none 0 1000 (at' 29 [1,1,1,0,0,0]) [yes 20,va 23 (i6 ((M+1+1):Nat)),va 24 (.ptr 0 (M+1+1)),ld 25 (w8 (y:Nat)),nu 26 (y:Nat),va 29 (i6 (0:Nat)),pl 33,ld 34 (i6 x),ap 36,va 40 (.sl 1 0 0 (some 0)),nu 43 ((0+1:Nat):Int),va 44 (.sl 1 1 (M+1) (some 0)),(45,.cp (M+1) N)] (mkSt g0 47 (tuS a (i+1) (M+1+1) C true O)) (Qfh 0 47 [0,5,4] (tuS a ((i+1)+1) (M+1) (rmL (C.take (M+1+1)) 0) false (O++[x]))):=by
 have h0:=@Qbp 0 (M+1+1) (by omega)
 have h1:=Qcd a (k:=(M+1+1)) (by omega)
 rw[hy]at h1
 have h2:=Qcw (G:=Qae Pg) (t:=3) (a:=(M+1+1)) (b:=8) (by omega)
 rw[Nat.mod_eq_of_lt (by omega)]at h2
 have h3:=Qcw (G:=Qae Pg) (t:=3) (a:=y) (b:=(M+1+1)) (by omega)
 rw[hk]at h3
 have h4:=@Qak C 0 (by omega)
 rw[hx,←Nat.zero_add (0*1),←Qam]at h4
 have hA:=Qba a
 have hCC:=Qab C
 have s1:=Qe6 (h:=1) (m:=(M+1+1)) (k:=0) (rm:=(some 0)) (by omega)
 have s2:=@sl_m1 1 (M+1+1) 0 M (by omega)
 have e1:ints ((C.drop 1).take (M+1))=N:=by rw[hN];unfold rmL;simp[List.drop_take]
 have hOO:=Qab O
 have hOl:(ints O).length=i+1:=by rw[Qas,hO]
 clear hy hk hx
 exact m_ (p:=let z0:=pt (pt (pt (ofOs T.e 0 ([Am.O.row 26 none (t8L a),Am.O.row 3 (some 1) (ints C)]++[Am.O.row 3 (some 1) (ints O)])) 3 (Am.O.row 3 none [i6 x])) 2 Am.O.dead) 4 (Am.O.row 3 (some 1) (ints O++[i6 x]));let z1:=(↑(0:Nat):Int);let z2:=(↑(M+1+1):Int);let z3:=ints (rmL (List.take (M+1+1) C) 0);let z4:=i6 ↑(M+1+1);let z7:=V.sl 1 1 (M+1) (some 0);An [decide (z2>(0:Int))=true,binV (Qae Pg) .rem 3 z4 (i6 8)=some z4,_,_,wr .i64 (↑y:Int)=(↑y:Int),_,An [(0:Int)≤z1,z1<z2],_,List.length (ints O)=(i+1)*1,i+1+1≤9223372036854775807,(i+1+1)*8≤140737488355328,_,wr .i64 (z1+(1:Int))=(↑(1):Int),sliceV (Qae Pg) 28 (V.sl 1 0 (M+1+1) (some 0)) (some (↑(1):Int)) none none=some z7,An [srcV z0 1 z7=some (M+1,N),srcV z0 1 (V.sl 1 0 0 (some 0))=some (0,[]),1≤M+1,M+1≤9223372036854775807,(M+1)*8≤140737488355328],An [Zz,An [Zz,Sm (M+1),_],An [Zz,Nat.succ i+1=i+1+1,_],_],An [Sm (t8L a),TT 8],An [z3=N,HfL z3],An [ints (O++[x])=ints O++[i6 x],HfL (ints (O++[x]))],_]) ⟨aq,aq,h0,h1,aq,h3,a_,h4,aq,aq,aq,s1,aq,aq,⟨Qbc (t:=3) (sp:=some 1) (C:=C) (by kernel_rfl) (by omega) e1,Qbc (t:=3) (sp:=some 1) (C:=C) (n:=0) (by kernel_rfl) (by omega) rfl,a_⟩,⟨aq,⟨aq,aq,aq⟩,⟨aq,aq,aq⟩,aq⟩,a_,a_,⟨(by (simp[ints];done)),aq⟩,aq⟩
theorem tu_11c(a:Nat→Nat)(C:List Int)(i:Nat)(O:List Int)(hO:O.length=i+1)(hi:i≤4)(K M:Nat)(hm:(K+1+(M+1)+1)≤4)(hC:(K+1+(M+1)+1)≤C.length)(y:Nat)(hy:a (K+1+(M+1)+1)=y)(hy8:y<256)(hk:y%(K+1+(M+1)+1)=(K+1))(x:Int)(hx:C.getD (K+1) 0=x)(N:List V)(hN:N=ints (rmL (C.take (K+1+(M+1)+1)) (K+1))):
  vc Pg vE sp0 none 0 1000 (at' 29 [1,1,1,0,0,0]) [yes 20,va 23 (i6 ((K+1+(M+1)+1):Nat)),va 24 (.ptr 0 (K+1+(M+1)+1)),ld 25 (w8 (y:Nat)),nu 26 (y:Nat),va 29 (i6 ((K+1):Nat)),pl 33,ld 34 (i6 x),ap 36,va 40 (.sl 1 0 (K+1) (some 0)),nu 43 (((K+1)+1:Nat):Int),va 44 (.sl 1 (K+1+1) (M+1) (some 0)),(45,.cp (M+1) N)] (mkSt g0 47 (tuS a (i+1) (K+1+(M+1)+1) C true O)) (Qfh 0 47 [0,5,4] (tuS a ((i+1)+1) (K+1+(M+1)) (rmL (C.take (K+1+(M+1)+1)) (K+1)) false (O++[x]))):=by
 have h0:=@Qbp 0 (K+1+(M+1)+1) (by omega)
 have h1:=Qcd a (k:=(K+1+(M+1)+1)) (by omega)
 rw[hy]at h1
 have h2:=Qcw (G:=Qae Pg) (t:=3) (a:=(K+1+(M+1)+1)) (b:=8) (by omega)
 rw[Nat.mod_eq_of_lt (by omega)]at h2
 have h3:=Qcw (G:=Qae Pg) (t:=3) (a:=y) (b:=(K+1+(M+1)+1)) (by omega)
 rw[hk]at h3
 have h4:=@Qak C (K+1) (by omega)
 rw[hx,←Nat.zero_add ((K+1)*1),←Qam]at h4
 have hA:=Qba a
 have hCC:=Qab C
 have s1:=Qe6 (h:=1) (m:=(K+1+(M+1)+1)) (k:=(K+1)) (rm:=(some 0)) (by omega)
 have s2:=@sl_m1 1 (K+1+(M+1)+1) (K+1) M (by omega)
 have e1:=Qof C (K+1) M (K+1+(M+1)+1) (by omega) hC
 have e2:=Qog C (K+1) M (K+1+(M+1)+1) (by omega) hC
 rw[←hN]at e1 e2
 have hOO:=Qab O
 have hOl:(ints O).length=i+1:=by rw[Qas,hO]
 clear hy hk hx
 exact m_ (p:=let z0:=pt (pt (pt (ofOs T.e 0 ([Am.O.row 26 none (t8L a),Am.O.row 3 (some 1) (ints C)]++[Am.O.row 3 (some 1) (ints O)])) 3 (Am.O.row 3 none [i6 x])) 2 Am.O.dead) 4 (Am.O.row 3 (some 1) (ints O++[i6 x]));let z1:=(↑(K+1+(M+1)+1):Int);let z2:=(↑(K+1):Int);let z3:=ints (rmL (List.take (K+1+(M+1)+1) C) (K+1));An [decide (z1>(0:Int))=true,binV (Qae Pg) .rem 3 (i6 z1) (i6 8)=some (i6 z1),_,_,wr .i64 (↑y:Int)=(↑y:Int),_,An [(0:Int)≤z2,z2<z1],_,List.length (ints O)=(i+1)*1,i+1+1≤9223372036854775807,(i+1+1)*8≤140737488355328,_,wr .i64 (z2+(1:Int))=(↑(K+1+1):Int),_,An [srcV z0 1 (V.sl 1 (K+1+1) (M+1) (some 0))=some (M+1,List.drop ((K+1)*1) N),srcV z0 1 (V.sl 1 0 (K+1) (some 0))=some (K+1,List.take ((K+1)*1) N),1≤M+1,K+1+(M+1)≤9223372036854775807,(K+1+(M+1))*8≤140737488355328],An [Zz,An [Zz,Sm (K+1+(M+1)),_],An [Zz,Nat.succ i+1=i+1+1,_],_],An [Sm (t8L a),TT 8],An [z3=N,HfL z3],An [ints (O++[x])=ints O++[i6 x],HfL (ints (O++[x]))],_]) ⟨aq,aq,h0,h1,aq,h3,a_,h4,aq,aq,aq,s1,aq,s2,⟨Qbc (t:=3) (sp:=some 1) (C:=C) (by kernel_rfl) (by omega) e1,Qbc (t:=3) (sp:=some 1) (C:=C) (by kernel_rfl) (by omega) e2,a_⟩,⟨aq,⟨aq,aq,aq⟩,⟨aq,aq,aq⟩,aq⟩,a_,a_,⟨(by (simp[ints];done)),aq⟩,aq⟩
theorem tu_out(a:Nat→Nat)(i:Nat)(C O:List Int):vc Pg vE sp0 none 0 1000 (at' 29 [1,1,1,0,0,0]) [] (mkSt g0 47 (tuS a (i+1) 0 C true O)) (kOut 0 47 (.exit 2) [2] {sl:=[(6,.sl 0 0 (i+1) none)],os:=[.row 3 (some 1) (ints O)]}):=by
 have hOO:=Qab O
 exact m_ (p:=An [An [An [Zz,Sm (i+1),_],_],An [Sm (ints O),_],_]) ⟨⟨⟨aq,aq,aq⟩,aq⟩,⟨aq,hOO⟩,aq⟩
def tuF(a:Nat→Nat):Nat→List Int→List Int
 |0,_=>[]
 |m+1,L=>L.getD (a (m+1)%(m+1)) 0::tuF a m (rmL L (a (m+1)%(m+1)))
theorem rmL_perm{L:List Int}{k:Nat}(h:k<L.length):(L.getD k 0::rmL L k).Perm L:=by
 have e:L=L.take k++L.getD k 0::L.drop (k+1):=by
  rw[List.getD_eq_getElem?_getD,List.getElem?_eq_getElem h,Option.getD_some,←List.drop_eq_getElem_cons h,List.take_append_drop]
 conv=>rhs;rw[e]
 exact List.perm_middle.symm
theorem Qqz(a:Nat→Nat): ∀(m:Nat)(L:List Int),L.length=m→(tuF a m L).Perm L
 |0,L,h=>by rw[List.eq_nil_of_length_eq_zero h];exact List.Perm.refl _
 |m+1,L,h=>by
  have hk:a (m+1)%(m+1)<m+1:=Nat.mod_lt _ (by omega)
  rw[tuF]
  generalize a (m+1)%(m+1)=k at*
  exact(List.Perm.cons _ (Qqz a m _ (by unfold rmL;simp;omega))).trans (rmL_perm (by omega))
theorem tu_round(a:Nat→Nat)(ha: ∀k,a k<256)(j m:Nat)(C:List Int)(b:Bool)(O:List Int)(hO:O.length=j)(hj:j+(m+1)≤4)(hb:j=0→b=false)(hC:m+1≤C.length):
  ∃(C':List Int)(b':Bool)(r:List Nat)(hs:Hs),C'.take m=rmL (C.take (m+1)) (a (m+1)%(m+1))∧m≤C'.length∧(m=0→b'=true)∧
   vc Pg vE sp0 none 0 1000 (at' 29 [1,1,1,0,0,0]) hs (mkSt g0 47 (tuS a j (m+1) C b O)) (Qfh 0 47 r (tuS a (j+1) m C' b' (O++[C.getD (a (m+1)%(m+1)) 0]))):=by
 have hk:a (m+1)%(m+1)<m+1:=Nat.mod_lt _ (by omega)
 have hy8:=ha (m+1)
 generalize hu:a (m+1)%(m+1)=u at*
 have hrm: ∀n,n=m+1→(rmL (C.take n) u).length=m:=fun n hn=>by
  subst hn;unfold rmL;simp;omega
 rcases(show u=m∨(u=0∧∃M,m=M+1)∨∃K M,u=K+1∧m=K+1+(M+1)by
  by_cases h1:u=m
  ·exact .inl h1
  ·by_cases h2 : u = 0
   ·exact .inr (.inl ⟨h2,m-1,by omega⟩)
   ·exact .inr (.inr ⟨u-1,m-u-1,by omega,by omega⟩))with rfl|⟨rfl,M,rfl⟩|⟨K,M,rfl,rfl⟩
 ·have e1 : C.take u = rmL (C.take (u + 1)) u := by
   unfold rmL
   rw[List.take_take,Nat.min_eq_left (by omega),List.drop_of_length_le (by simp;omega),List.append_nil]
  refine⟨C,true,?_⟩
  rcases j with _|i
  ·obtain rfl := List.eq_nil_of_length_eq_zero hO
   obtain rfl:=hb rfl
   exact⟨_,_,e1,by omega,fun _=>rfl,tu_00a a C u (by omega) hC _ rfl hy8 hu _ rfl⟩
  ·cases b
   ·exact⟨_,_,e1,by omega,fun _=>rfl,tu_10a a C i O hO (by omega) u (by omega) hC _ rfl hy8 hu _ rfl⟩
   ·exact⟨_,_,e1,by omega,fun _=>rfl,tu_11a a C i O hO (by omega) u (by omega) hC _ rfl hy8 hu _ rfl⟩
 ·have hl := hrm _ rfl
  refine⟨rmL (C.take (M+1+1)) 0,false,?_⟩
  rcases j with _|i
  ·obtain rfl := List.eq_nil_of_length_eq_zero hO
   obtain rfl:=hb rfl
   exact⟨_,_,List.take_of_length_le (by omega),by omega,fun h=>by omega,tu_00b a C M (by omega) hC _ rfl hy8 hu _ rfl _ rfl⟩
  ·cases b
   ·exact⟨_,_,List.take_of_length_le (by omega),by omega,fun h=>by omega,tu_10b a C i O hO (by omega) M (by omega) hC _ rfl hy8 hu _ rfl _ rfl⟩
   ·exact⟨_,_,List.take_of_length_le (by omega),by omega,fun h=>by omega,tu_11b a C i O hO (by omega) M (by omega) hC _ rfl hy8 hu _ rfl _ rfl⟩
 ·have hl := hrm _ rfl
  refine⟨rmL (C.take (K+1+(M+1)+1)) (K+1),false,?_⟩
  rcases j with _|i
  ·obtain rfl := List.eq_nil_of_length_eq_zero hO
   obtain rfl:=hb rfl
   exact⟨_,_,List.take_of_length_le (by omega),by omega,fun h=>by omega,tu_00c a C K M (by omega) hC _ rfl hy8 hu _ rfl _ rfl⟩
  ·cases b
   ·exact⟨_,_,List.take_of_length_le (by omega),by omega,fun h=>by omega,tu_10c a C i O hO (by omega) K M (by omega) hC _ rfl hy8 hu _ rfl _ rfl⟩
   ·exact⟨_,_,List.take_of_length_le (by omega),by omega,fun h=>by omega,tu_11c a C i O hO (by omega) K M (by omega) hC _ rfl hy8 hu _ rfl _ rfl⟩
theorem Qkw(a:Nat→Nat)(ha: ∀k,a k<256)(n:Nat)(h1:1≤n)(h4:n≤4)(C:List Int)(hC:C.length=n)(T:List Int)(hT:tuF a n C=T):
  Sat Pg none 0 (at' 29 [1,1,1,0,0]) (mkSt g0 47 (tuS a 0 n C false [])) (Qaf g0 47 [(True,.exit 2,{sl:=[(6,.sl 0 0 n none)],os:=[.row 3 (some 1) (ints T)]})]):=by
 refine Qa6 vE_ok mixed Qad (b:=at' 29 [1,1,1,0,0,0]) (by kernel_rfl) (fun q:Nat×Nat×List Int×Bool×List Int=>q.2.2.2.2.length=q.1∧q.1+q.2.1=n∧(q.1=0→q.2.2.2.1=false)∧q.2.1≤q.2.2.1.length∧(q.2.1=0→q.2.2.2.1=true)∧q.2.2.2.2++tuF a q.2.1 (q.2.2.1.take q.2.1)=T) (fun q=>tuS a q.1 q.2.1 q.2.2.1 q.2.2.2.1 q.2.2.2.2) (fun q=>q.2.1) (fun q hq=>?_) (0,n,C,false,[]) ⟨rfl,by simp,fun _=>rfl,by simp[hC],fun h=>by dsimp only at h;omega,by rw[←hT];dsimp only;rw[List.take_of_length_le (by omega),List.nil_append]⟩
 obtain⟨j,m,C,b,O⟩:=q
 obtain⟨q1,q2,q3,q4,q5,q6⟩:=hq
 dsimp only at q1 q2 q3 q4 q5 q6
 cases m with
 |zero=>
  obtain rfl:=q5 rfl
  rw[tuF,List.append_nil]at q6
  subst q6
  obtain⟨i,rfl⟩: ∃i,j=i+1:=⟨j-1,by omega⟩
  obtain rfl:n=i+1:=by omega
  exact .inr ⟨.exit 2,[2],_,_,1000,.inl ⟨trivial,rfl,rfl⟩,tu_out a i C O⟩
 | succ m =>
  obtain⟨C',b',r,hs,k1,k2,k3,k4⟩:=tu_round a ha j m C b O q1 (by omega) q3 q4
  refine .inl ⟨(j+1,m,C',b',O++[C.getD (a (m+1)%(m+1)) 0]),r,hs,1000,⟨by simp[q1],by dsimp only;omega,fun h=>by dsimp only at h;omega,k2,k3,?_⟩,by dsimp only;omega,k4⟩
  dsimp only
  rw[k1,List.append_assoc,List.singleton_append]
  rw[tuF]at q6
  have hk:a (m+1)%(m+1)<m+1:=Nat.mod_lt _ (by omega)
  generalize a (m+1)%(m+1)=u at*
  have e:(C.take (m+1)).getD u 0=C.getD u 0:=by
   rw[List.getD_eq_getElem?_getD,List.getD_eq_getElem?_getD,List.getElem?_take_of_lt hk]
  rw[e]at q6
  exact q6
theorem turned_1(a:Nat→Nat)(ha: ∀k,a k<256):FnOk Pg g0 29 [i6 1,.agg (t8L a)] (.im 1 (ints (tuF a 1 (idL 1)))):=by
 have l:=Qkw a ha 1 (by decide) (by decide) (idL 1) (Qce _) _ rfl
 have hA:=Qba a
 generalize tuF a 1 (idL 1)=T at*
 have hT:=Qab T
 refine FnOk.of_vc vE_ok mixed Qad (n:=1000) (r:=[]) (S:={sl:=[(4,.im 1 (ints T))]}) (hs:=[(0,.unroll 10),(0,.loop [0,2] (tuS a 0 1 (idL 1) false []) [(True,.exit 2,{sl:=[(6,.sl 0 0 1 none)],os:=[.row 3 (some 1) (ints T)]})])]) ?_
 exact m_ (p:=An [Sm (V.im 1 (ints T)),An [An [Zz,An [Zz,1=1,_],_,_],An [t8L a=[w8 ↑(a 0),w8 ↑(a 1),w8 ↑(a 2),w8 ↑(a 3),w8 ↑(a 4),w8 ↑(a 5),w8 ↑(a 6),w8 ↑(a 7)],TT 8],An [ints (idL 1)=[i6 0],_,_],_],_,(True->An [An [An [1=1,Sm (ints T),_],_],_]),_]) ⟨aq,⟨⟨aq,⟨aq,aq,aq⟩,aq,aq⟩,a_,⟨(by rfl),aq,aq⟩,aq⟩,l,(fun _=>⟨⟨⟨aq,aq,hT⟩,aq⟩,aq⟩),aq⟩
theorem turned_2(a:Nat→Nat)(ha: ∀k,a k<256):FnOk Pg g0 29 [i6 2,.agg (t8L a)] (.im 2 (ints (tuF a 2 (idL 2)))):=by
 have l:=Qkw a ha 2 (by decide) (by decide) (idL 2) (Qce _) _ rfl
 have hA:=Qba a
 generalize tuF a 2 (idL 2)=T at*
 have hT:=Qab T
 refine FnOk.of_vc vE_ok mixed Qad (n:=1000) (r:=[]) (S:={sl:=[(4,.im 2 (ints T))]}) (hs:=[(0,.unroll 10),(0,.loop [0,4] (tuS a 0 2 (idL 2) false []) [(True,.exit 2,{sl:=[(6,.sl 0 0 2 none)],os:=[.row 3 (some 1) (ints T)]})])]) ?_
 exact m_ (p:=An [Sm (V.im 2 (ints T)),An [An [Zz,An [Zz,2=2,_],_,_],An [t8L a=[w8 ↑(a 0),w8 ↑(a 1),w8 ↑(a 2),w8 ↑(a 3),w8 ↑(a 4),w8 ↑(a 5),w8 ↑(a 6),w8 ↑(a 7)],TT 8],An [ints (idL 2)=[i6 0]++[i6 (wr .i64 ((0:Int)+(1:Int)))],TT 2],_],_,(True->An [An [An [2=2,Sm (ints T),_],_],_]),_]) ⟨aq,⟨⟨aq,⟨aq,aq,aq⟩,aq,aq⟩,a_,⟨(by rfl),aq⟩,aq⟩,l,(fun _=>⟨⟨⟨aq,aq,hT⟩,aq⟩,aq⟩),aq⟩
theorem turned_3(a:Nat→Nat)(ha: ∀k,a k<256):FnOk Pg g0 29 [i6 3,.agg (t8L a)] (.im 3 (ints (tuF a 3 (idL 3)))):=by
 have l:=Qkw a ha 3 (by decide) (by decide) (idL 3) (Qce _) _ rfl
 have hA:=Qba a
 generalize tuF a 3 (idL 3)=T at*
 have hT:=Qab T
 refine FnOk.of_vc vE_ok mixed Qad (n:=1000) (r:=[]) (S:={sl:=[(4,.im 3 (ints T))]}) (hs:=[(0,.unroll 10),(0,.loop [0,6] (tuS a 0 3 (idL 3) false []) [(True,.exit 2,{sl:=[(6,.sl 0 0 3 none)],os:=[.row 3 (some 1) (ints T)]})])]) ?_
 exact m_ (p:=let z0:=wr .i64 ((0:Int)+(1:Int));An [Sm (V.im 3 (ints T)),An [An [Zz,An [Zz,3=3,_],_,_],An [t8L a=[w8 ↑(a 0),w8 ↑(a 1),w8 ↑(a 2),w8 ↑(a 3),w8 ↑(a 4),w8 ↑(a 5),w8 ↑(a 6),w8 ↑(a 7)],TT 8],An [ints (idL 3)=[i6 0]++[i6 z0]++[i6 (wr .i64 (z0+(1:Int)))],TT 3],_],_,(True->An [An [An [3=3,Sm (ints T),_],_],_]),_]) ⟨aq,⟨⟨aq,⟨aq,aq,aq⟩,aq,aq⟩,a_,⟨(by rfl),aq⟩,aq⟩,l,(fun _=>⟨⟨⟨aq,aq,hT⟩,aq⟩,aq⟩),aq⟩
theorem turned_4(a:Nat→Nat)(ha: ∀k,a k<256):FnOk Pg g0 29 [i6 4,.agg (t8L a)] (.im 4 (ints (tuF a 4 (idL 4)))):=by
 have l:=Qkw a ha 4 (by decide) (by decide) (idL 4) (Qce _) _ rfl
 have hA:=Qba a
 generalize tuF a 4 (idL 4)=T at*
 have hT:=Qab T
 refine FnOk.of_vc vE_ok mixed Qad (n:=1000) (r:=[]) (S:={sl:=[(4,.im 4 (ints T))]}) (hs:=[(0,.unroll 10),(0,.loop [0,8] (tuS a 0 4 (idL 4) false []) [(True,.exit 2,{sl:=[(6,.sl 0 0 4 none)],os:=[.row 3 (some 1) (ints T)]})])]) ?_
 exact m_ (p:=let z0:=wr .i64 ((0:Int)+(1:Int));let z1:=wr .i64 (z0+(1:Int));An [Sm (V.im 4 (ints T)),An [An [Zz,An [Zz,4=4,_],_,_],An [t8L a=[w8 ↑(a 0),w8 ↑(a 1),w8 ↑(a 2),w8 ↑(a 3),w8 ↑(a 4),w8 ↑(a 5),w8 ↑(a 6),w8 ↑(a 7)],TT 8],An [ints (idL 4)=[i6 0]++[i6 z0]++[i6 z1]++[i6 (wr .i64 (z1+(1:Int)))],TT 4],_],_,(True->An [An [An [4=4,Sm (ints T),_],_],_]),_]) ⟨aq,⟨⟨aq,⟨aq,aq,aq⟩,aq,aq⟩,a_,⟨(by rfl),aq⟩,aq⟩,l,(fun _=>⟨⟨⟨aq,aq,hT⟩,aq⟩,aq⟩),aq⟩
theorem Qvy(a:Nat→Nat)(ha: ∀k,a k<256)(n:Nat)(h1:1≤n)(h4:n≤4):FnOk Pg g0 29 [i6 (n:Nat),.agg (t8L a)] (.im n (ints (tuF a n (idL n)))):=by
 rcases(show n=1∨n=2∨n=3∨n=4 by omega)with rfl|rfl|rfl|rfl
 ·exact turned_1 a ha
 ·exact turned_2 a ha
 ·exact turned_3 a ha
 ·exact turned_4 a ha
theorem Qp2{f:Nat→Nat}{n k:Nat}(h:k<n):headF (dropF (0+k*1) (uF f n))=some (u6 ((f k:Nat):Int)):=by
 have e:=@head_ut0 ((List.range n).map f) k (by simpa using h)
 rw[←uF_ut,Qf0 h]at e
 exact e
def grJ(y lim v:Nat)(t:Nat→Nat):Nat→(Nat→Nat)→Nat→Nat
 |0,f=>f
 |j+1,f=>if y/2^j%2=1∧popc (grJ y lim v t j f v)<lim then(fun i=>if i=v then grJ y lim v t j f v|||2^t j else grJ y lim v t j f i)else grJ y lim v t j f
def grW(p:Nat→Nat)(lim:Nat)(t:Nat→Nat):Nat→Nat→Nat
 |0=>fun _=>0
 |i+1=>grJ (p (t i)) lim (t i) t i (grW p lim t i)
section
variable (p:Nat→Nat) (lim n:Nat) (T:List Int) (i v j:Nat) (f:Nat→Nat)
abbrev bfV(i:Nat):V:=match i with|0=>.sl 2 0 0 (some 0)|q+1=>.sl 2 0 (q+1) none
abbrev bfO(T:List Int)(i:Nat):O:=match i with|0=>.row 3 none noL|q+1=>.row 3 (some 1) (ints (T.take (q+1)))
abbrev ggS:SL:={sl:=[(3,i6 (lim:Nat)),(6,.ptr 0 0),(9,.sl 1 0 n (some (n-n))),(10,bfV i),(20,.im n (ints T)),(21,i6 (n:Nat)),(22,i6 (i:Nat))],os:=[.row 26 none (t8L p),.row 50 none (uF f n),bfO T i]}
abbrev giS:SL:={sl:=[(3,i6 (lim:Nat)),(6,.ptr 0 0),(9,.sl 1 0 n (some (n-n))),(10,.sl 2 0 (i+1) none),(20,.im n (ints T)),(21,i6 (n:Nat)),(22,i6 ((i+1:Nat):Int)),(12,i6 (v:Nat)),(26,.sl 2 0 (i+1) none),(27,i6 ((i+1:Nat):Int)),(28,i6 (j:Nat))],os:=[.row 26 none (t8L p),.row 50 none (uF f n),.row 3 (some 1) (ints (T.take (i+1)))]}
abbrev giX:SL:={sl:=[(3,i6 (lim:Nat)),(6,.ptr 0 0),(9,.sl 1 0 n (some (n-n))),(10,.sl 2 0 (i+1) none),(20,.im n (ints T)),(21,i6 (n:Nat)),(22,i6 ((i+1:Nat):Int)),(12,i6 (v:Nat))],os:=[.row 26 none (t8L p),.row 50 none (uF f n),.row 3 (some 1) (ints (T.take (i+1)))]}
end
theorem gi_loop(p:Nat→Nat)(hp: ∀k,p k<256)(lim n:Nat)(hn:n≤4)(T:List Int)(t:Nat→Nat)(ht: ∀k,k<n→T.getD k 0=(t k:Int)∧t k<n)(hT:T.length=n)(i v:Nat)(hi:i+1<n)(hv:v<n)(f:Nat→Nat)(hf: ∀j,j≤i+1→grJ (p v) lim v t j f v<16):
  Sat Pg none 0 (at' 13 [1,1,1,0,1,0,0,1,1,0,0,1,0,1,0]) (mkSt g0 70 (giS p lim n T i v 0 f)) (Qaf g0 70 [(True,.exit 2,giX p lim n T i v (grJ (p v) lim v t (i+1) f))]):=by
 have hA:=Qba p
 have hTT:=Qab T
 have hB:=Qab (T.take (i+1))
 refine Qa6 vE_ok mixed Qad (b:=at' 13 [1,1,1,0,1,0,0,1,1,0,0,1,0,1,0,0]) (by kernel_rfl) (fun q:Nat×(Nat→Nat)=>q.1≤i+1∧q.2=grJ (p v) lim v t q.1 f) (fun q=>giS p lim n T i v q.1 q.2) (fun q=>i+1-q.1) (fun q hq=>?_) (0,f) ⟨Nat.zero_le _,rfl⟩
 obtain⟨j,g⟩:=q
 obtain⟨hj,hgj⟩:=hq
 dsimp only at hj hgj
 by_cases hlt:j<i+1
 ·obtain ⟨tj, tn⟩ := ht j (by omega)
  have h1:=@Qak (T.take (i+1)) j (by simp;omega)
  rw[←Nat.zero_add (j*1),←Qam,show(T.take (i+1)).getD j 0=T.getD j 0 by rw[List.getD_eq_getElem?_getD,List.getD_eq_getElem?_getD,List.getElem?_take_of_lt hlt],tj]at h1
  have h2:=Qcw (G:=Qae Pg) (t:=3) (a:=v) (b:=8) (by omega)
  rw[Nat.mod_eq_of_lt (by omega)]at h2
  have h3:=@Qbp 0 v (by omega)
  have h4:=Qcd p (k:=v) (by omega)
  have hy:=hp v
  have hg:=hf j (by omega)
  rw[←hgj]at hg
  have hg1:=hf (j+1) (by omega)
  have hstep:grJ (p v) lim v t (j+1) f=if p v/2^j%2=1∧popc (grJ (p v) lim v t j f v)<lim then(fun i=>if i=v then grJ (p v) lim v t j f v|||2^t j else grJ (p v) lim v t j f i)else grJ (p v) lim v t j f:=rfl
  rw[←hgj]at hstep
  clear hgj
  obtain⟨g1,hG⟩: ∃g1,g1=grJ (p v) lim v t (j+1) f:=⟨_,rfl⟩
  rw[←hG]at hstep hg1
  have h5:=@shr_8 (Qae Pg) 5 (p v) j (by omega)
  have h6:=@and1_8 (Qae Pg) 5 (p v/2^j)
  have hU:=Qag g n
  have h7:=@Qp2 g n v hv
  have h8:=Qsq (g v) hg
  generalize hyv:p v=y at*
  by_cases c1:y/2^j%2=1
  ·by_cases c2 : popc (g v) < lim
   ·rw [if_pos ⟨c1, c2⟩] at hstep
    have h9:=@Qvd (Qae Pg) 50 (t j) (by omega)
    have hx:2^t j<18446744073709551616:=Nat.pow_lt_pow_right (by decide) (show t j<64 by omega)
    obtain⟨h10,_⟩:=@or_u (Qae Pg) 50 (g v) (2^t j) (by omega) hx
    have h11:=@Qc6 g n v hv (g v|||2^t j)
    have hU1:=Qag g1 n
    rw[←hstep]at h11
    clear hstep
    generalize t j=u at*
    generalize 2^u=w at*
    generalize g v|||w=z at*
    generalize g v=x at*
    generalize popc x=b at*
    generalize y/2^j=yj at*
    refine .inl ⟨(j+1,g1),[0,1,2],[yes 29,pl 31,ld 32 (i6 (u:Nat)),va 34 (i6 (v:Nat)),va 35 (.ptr 0 v),ld 36 (w8 (y:Nat)),va 38 (w8 (yj:Nat)),va 39 (w8 (yj%2:Nat)),yes 40,yes 44,pl 49,ld 50 (u6 (x:Nat)),fn 51 (i6 (b:Nat)),yes 53,pl 57,ld 58 (u6 (x:Nat)),va 60 (u6 (w:Nat)),va 61 (u6 (z:Nat)),pl 62,st (uF g1 n),nu 63 ((j+1:Nat):Int)],1000,⟨by dsimp only;omega,hG⟩,by dsimp only;omega,?_⟩
    clear hG
    exact m_ (p:=let y0:=An [Zz,Sm (i+1),Tt];let z0:=(↑(i+1):Int);let z1:=(↑v:Int);let z2:=ints (List.take (i+1) T);let z4:=(↑n:Int);let z6:=(↑(j+1):Int);let z7:=(↑j:Int);let z8:=(0:Int);let z9:=(↑lim:Int);An [decide (z7<z0)=true,An [z8≤z7,z7<z0],_,binV (Qae Pg) .rem 3 (i6 ↑v) (i6 8)=some (i6 ↑v),_,_,_,_,((↑(yj%2):Int)==(1:Int))=true,decide (z0>z8)=true,An [z8≤z1,z1<z4],_,An [_,_],_,_,decide ((↑b:Int)<z9)=true,An [z8≤z1,z1<z4],_,_,_,An [z8≤z1,z1<z4],_,wr .i64 (z7+(1:Int))=z6,An [z9=z9,Zz,An [Zz,n=n,Sm (n-n)],y0,An [n=n,Sm (ints T)],z4=z4,z0=z0,z1=z1,y0,z0=z0,z6=z6,_],An [Sm (t8L p),TT 8],An [Sm (uF g1 n),_],An [z2=z2,_],_]) ⟨aq,a_,h1,aq,h3,h4,h5,h6,aq,aq,a_,h7,⟨aq,aq⟩,h8,aq,aq,a_,h7,h9,h10,a_,h11,aq,⟨aq,aq,a_,aq,a_,aq,aq,aq,aq,aq,aq,aq⟩,a_,⟨aq,hU1⟩,⟨aq,hB⟩,aq⟩
   ·rw [if_neg (fun h => c2 h.2)] at hstep
    subst hstep
    generalize g1 v=x at*
    generalize popc x=b at*
    generalize y/2^j=yj at*
    generalize t j=u at*
    refine .inl ⟨(j+1,g1),[0,1,2],[yes 29,pl 31,ld 32 (i6 (u:Nat)),va 34 (i6 (v:Nat)),va 35 (.ptr 0 v),ld 36 (w8 (y:Nat)),va 38 (w8 (yj:Nat)),va 39 (w8 (yj%2:Nat)),yes 40,yes 44,pl 49,ld 50 (u6 (x:Nat)),fn 51 (i6 (b:Nat)),no 53,nu 63 ((j+1:Nat):Int)],1000,⟨by dsimp only;omega,hG⟩,by dsimp only;omega,?_⟩
    clear hG
    exact m_ (p:=let z8:=An [Zz,Sm (i+1),Tt];let z0:=(↑(i+1):Int);let z1:=ints (List.take (i+1) T);let z2:=(↑v:Int);let z3:=(↑(j+1):Int);let z4:=(↑j:Int);let z6:=(↑lim:Int);let z7:=(↑n:Int);An [decide (z4<z0)=true,An [(0:Int)≤z4,z4<z0],_,binV (Qae Pg) .rem 3 (i6 ↑v) (i6 8)=some (i6 ↑v),_,_,_,_,((↑(yj%2):Int)==(1:Int))=true,decide (z0>(0:Int))=true,An [(0:Int)≤z2,z2<z7],_,An [_,_],_,_,decide ((↑b:Int)<z6)=false,wr .i64 (z4+(1:Int))=z3,An [z6=z6,Zz,An [Zz,n=n,Sm (n-n)],z8,An [n=n,Sm (ints T)],z7=z7,z0=z0,z2=z2,z8,z0=z0,z3=z3,_],An [Sm (t8L p),TT 8],An [Sm (uF g1 n),_],An [z1=z1,_],_]) ⟨aq,a_,h1,aq,h3,h4,h5,h6,aq,aq,a_,h7,⟨aq,aq⟩,h8,aq,aq,aq,⟨aq,aq,a_,aq,a_,aq,aq,aq,aq,aq,aq,aq⟩,a_,⟨aq,hU⟩,⟨aq,hB⟩,aq⟩
  ·rw [if_neg (fun h => c1 h.1)] at hstep
   subst hstep
   generalize y/2^j=yj at*
   generalize t j=u at*
   refine .inl ⟨(j+1,g1),[0,1,2],[yes 29,pl 31,ld 32 (i6 (u:Nat)),va 34 (i6 (v:Nat)),va 35 (.ptr 0 v),ld 36 (w8 (y:Nat)),va 38 (w8 (yj:Nat)),va 39 (w8 (yj%2:Nat)),no 40,nu 63 ((j+1:Nat):Int)],1000,⟨by dsimp only;omega,hG⟩,by dsimp only;omega,?_⟩
   clear hG
   exact m_ (p:=let z6:=An [Zz,Sm (i+1),Tt];let z0:=(↑(i+1):Int);let z1:=ints (List.take (i+1) T);let z2:=(↑(j+1):Int);let z3:=(↑j:Int);An [decide (z3<z0)=true,An [(0:Int)≤z3,z3<z0],_,binV (Qae Pg) .rem 3 (i6 ↑v) (i6 8)=some (i6 ↑v),_,_,_,_,((↑(yj%2):Int)==(1:Int))=false,wr .i64 (z3+(1:Int))=z2,An [Sm (↑lim:Int),Zz,An [Zz,n=n,Sm (n-n)],z6,An [n=n,Sm (ints T)],Sm (↑n:Int),z0=z0,(↑v:Int)=(↑v:Int),z6,z0=z0,z2=z2,_],An [Sm (t8L p),TT 8],An [Sm (uF g1 n),_],An [z1=z1,_],_]) ⟨aq,a_,h1,aq,h3,h4,h5,h6,aq,aq,⟨aq,aq,a_,aq,a_,aq,aq,aq,aq,aq,aq,aq⟩,a_,⟨aq,hU⟩,⟨aq,hB⟩,aq⟩
 ·obtain rfl : j = i + 1 := by omega
  rw[←hgj]
  have hU:=Qag g n
  refine .inr ⟨.exit 2,[0,1,2],giX p lim n T i v g,[no 29],1000,.inl ⟨trivial,rfl,rfl⟩,?_⟩
  exact m_ (p:=let z0:=ints (List.take (i+1) T);let z1:=(↑(i+1):Int);An [decide (z1<z1)=false,An [Sm (↑lim:Int),Zz,An [Zz,n=n,Sm (n-n)],An [Zz,Sm (i+1),_],An [n=n,Sm (ints T)],Sm (↑n:Int),z1=z1,Sm (↑v:Int),_],An [Sm (t8L p),TT 8],An [Sm (uF g n),_],An [z0=z0,_],_]) ⟨aq,⟨aq,aq,a_,⟨aq,aq,aq⟩,a_,aq,aq,aq,aq⟩,a_,⟨aq,hU⟩,⟨aq,hB⟩,aq⟩
theorem popc_or0: ∀x:Nat,x<16→∀u:Nat,u<4→popc (x|||2^u)≤popc x+1∧x|||2^u<16:=by decide+kernel
def InvG(n lim:Nat)(r f:Nat→Nat):Prop:=∀v,v<n→f v<2^n∧popc (f v)≤lim∧∀q,q<n→(f v).testBit q=true→r q<r v
theorem InvG.step{n lim y:Nat}{r t f:Nat→Nat}(hn:n≤4)(ht: ∀k,k<n→t k<n∧r (t k)=k)(i:Nat)(hi:i<n)(h:InvG n lim r f): ∀j,j≤i→InvG n lim r (grJ y lim (t i) t j f)
 |0,_=>h
 | j + 1, hj => by
  have ih:=InvG.step (y:=y) hn ht i hi h j (by omega)
  have e:grJ y lim (t i) t (j+1) f=if y/2^j%2=1∧popc (grJ y lim (t i) t j f (t i))<lim then(fun k=>if k=t i then grJ y lim (t i) t j f (t i)|||2^t j else grJ y lim (t i) t j f k)else grJ y lim (t i) t j f:=rfl
  rw[e]
  generalize grJ y lim (t i) t j f=g at*
  obtain⟨t1,t2⟩:=ht i hi
  obtain⟨t3,t4⟩:=ht j (by omega)
  have h16:2^n≤2^4:=Nat.pow_le_pow_right (by decide) hn
  split
  ·rename_i hc
   intro v hv
   obtain⟨a1,a2,a3⟩:=ih v hv
   by_cases hvt:v=t i
   ·subst hvt
    obtain⟨b1,b2⟩:=popc_or0 (g (t i)) (by omega) (t j) (by omega)
    simp only[if_pos]
    refine⟨Nat.or_lt_two_pow a1 (Nat.pow_lt_pow_right (by decide) t3),by omega,fun q hq hb=>?_⟩
    rw[Nat.testBit_or,Bool.or_eq_true]at hb
    rcases hb with hb|hb
    ·exact a3 q hq hb
    ·rw [Nat.testBit_two_pow] at hb
     have:t j=q:=of_decide_eq_true hb
     rw[←this,t4,t2]
     omega
   ·simp only [if_neg hvt]
    exact⟨a1,a2,a3⟩
  ·exact ih
theorem InvG.all{n lim:Nat}{p r t:Nat→Nat}(hn:n≤4)(ht: ∀k,k<n→t k<n∧r (t k)=k): ∀i,i≤n→InvG n lim r (grW p lim t i)
 |0,_=>fun v hv=>⟨Nat.pow_pos (by decide),by show popc 0≤lim;exact Nat.zero_le _,fun q _ h=>by simp[grW]at h⟩
 |i+1,hi=>InvG.step hn ht i (by omega) (InvG.all hn ht i (by omega)) i (Nat.le_refl _)
theorem gg_loop(p:Nat→Nat)(hp: ∀k,p k<256)(lim n:Nat)(hn:n≤4)(h1n:1≤n)(T:List Int)(t r:Nat→Nat)(ht: ∀k,k<n→T.getD k 0=(t k:Int)∧t k<n∧r (t k)=k)(hT:T.length=n):
  Sat Pg none 0 (at' 13 [1,1,1,0,1,0]) (mkSt g0 70 (ggS p lim n T 0 (fun _=>0))) (Qaf g0 70 [(True,.exit 0,{sl:=[(9,.sl 0 0 n (some (n-n)))],os:=[.row 50 none (uF (grW p lim t n) n)]})]):=by
 have hA:=Qba p
 have hTT:=Qab T
 have h16:2^n≤2^4:=Nat.pow_le_pow_right (by decide) hn
 refine Qa6 vE_ok mixed Qad (b:=at' 13 [1,1,1,0,1,0,0]) (by kernel_rfl) (fun q:Nat×(Nat→Nat)=>q.1≤n∧q.2=grW p lim t q.1) (fun q=>ggS p lim n T q.1 q.2) (fun q=>n-q.1) (fun q hq=>?_) (0,fun _=>0) ⟨Nat.zero_le _,rfl⟩
 obtain⟨i,f⟩:=q
 obtain⟨hi,hf⟩:=hq
 dsimp only at hi hf
 have hU:=Qag f n
 by_cases hlt:i<n
 ·obtain ⟨e1, e2, _⟩ := ht i hlt
  have h1:=@Qak T i (by omega)
  rw[e1]at h1
  have hnx:grW p lim t (i+1)=grJ (p (t i)) lim (t i) t i (grW p lim t i):=rfl
  cases i with
  | zero =>
   have hTk:ints (T.take (0+1))=[i6 (t 0:Nat)]:=by
    rcases T with _|⟨x,L⟩
    ·simp at hT;omega
    ·have : x = (t 0 : Int) := e1
     simp[ints,this]
   have hB:=Qab (T.take (0+1))
   rw[←hf]at hnx
   generalize t 0=v at*
   refine .inl ⟨(1,f),[0,1,4],[yes 23,pl 24,ld 25 (i6 (v:Nat)),(0,.unroll 1)],1000,⟨hlt,hnx.symm⟩,by dsimp only;omega,?_⟩
   clear hnx hf
   exact m_ (p:=let z0:=(↑(0:Nat):Int);let z1:=(↑n:Int);An [decide (z0<z1)=true,An [(0:Int)≤z0,z0<z1],_,An [Sm (↑lim:Int),Zz,An [Zz,n=n,Sm (n-n)],An [Zz,1=1,_],An [n=n,Sm (ints T)],z1=z1,(↑(1:Nat):Int)=wr .i64 (z0+(1:Int)),_],An [Sm (t8L p),TT 8],An [Sm (uF f n),_],An [(ints (List.take 1 T))=[]++[i6 ↑v],_],_]) ⟨aq,a_,h1,⟨aq,aq,a_,⟨aq,aq,aq⟩,a_,aq,(by rfl),aq⟩,a_,⟨aq,hU⟩,⟨aq,hB⟩,aq⟩
  | succ i =>
   have hin:InvG n lim r (grW p lim t (i+1)):=InvG.all hn (fun k hk=>⟨(ht k hk).2.1,(ht k hk).2.2⟩) _ (by omega)
   have l:=gi_loop p hp lim n hn T t (fun k hk=>⟨(ht k hk).1,(ht k hk).2.1⟩) hT i (t (i+1)) hlt e2 f (fun j hj=>by
    have:=(InvG.step (y:=p (t (i+1))) hn (fun k hk=>⟨(ht k hk).2.1,(ht k hk).2.2⟩) (i+1) hlt hin j hj (t (i+1)) e2).1
    rw[hf];omega)
   rw[←hf]at hnx
   rw[←hnx]at l
   have hTk:ints (T.take (i+1))++[i6 (t (i+1):Nat)]=ints (T.take (i+1+1)):=by
    have:T[i+1]=(t (i+1):Int):=by
     rw[←e1,List.getD_eq_getElem?_getD,List.getElem?_eq_getElem (by omega)];rfl
    unfold ints
    rw[List.take_add_one (i:=i+1),List.getElem?_eq_getElem (by omega),this,List.map_append]
    rfl
   have hl:(ints (T.take (i+1))).length=i+1:=by rw[Qas,List.length_take];omega
   have hB:=Qab (T.take (i+1))
   have hB2:=Qab (T.take (i+1+1))
   obtain⟨f2,hf2⟩: ∃f2,f2=grW p lim t (i+1+1):=⟨_,rfl⟩
   rw[←hf2]at l
   have hU2:=Qag f2 n
   generalize t (i+1)=v at*
   refine .inl ⟨(i+1+1,f2),[0,1,4],[yes 23,pl 24,ld 25 (i6 (v:Nat)),(0,.loop [0,1,2] (giS p lim n T i v 0 f) [(True,.exit 2,giX p lim n T i v f2)]),ap 67,nu 68 ((i+1+1:Nat):Int)],1000,⟨hlt,hf2⟩,by dsimp only;omega,?_⟩
   clear hnx hf hf2 hin
   exact m_ (p:=let z6:=An [Zz,Sm (i+1),Tt];let z0:=(↑(i+1):Int);let z1:=ints (List.take (i+1) T);let z2:=(↑n:Int);let z3:=(↑(i+1+1):Int);let z4:=(↑lim:Int);An [decide (z0<z2)=true,An [(0:Int)≤z0,z0<z2],_,An [An [z4=z4,Zz,An [Zz,n=n,Sm (n-n)],z6,An [n=n,Sm (ints T)],z2=z2,z0=z0,Sm (↑v:Int),z6,z0=z0,(↑(0:Nat):Int)=(0:Int),_],An [Sm (t8L p),TT 8],An [Sm (uF f n),_],An [z1=z1,_],_],_,(True->An [z1.length=(i+1)*1,i+1+1≤9223372036854775807,(i+1+1)*8≤140737488355328,wr .i64 (z0+(1:Int))=z3,An [z4=z4,Zz,An [Zz,n=n,Sm (n-n)],An [Zz,Nat.succ i+1=i+1+1,_],An [n=n,Sm (ints T)],z2=z2,z3=z3,_],An [Sm (t8L p),TT 8],An [Sm (uF f2 n),_],An [(ints (List.take (Nat.succ i+1) T))=z1++[i6 ↑v],_],_]),_]) ⟨aq,a_,h1,⟨⟨aq,aq,a_,aq,a_,aq,aq,aq,aq,aq,aq,aq⟩,a_,⟨aq,hU⟩,⟨aq,hB⟩,aq⟩,l,(fun _=>⟨aq,aq,aq,aq,⟨aq,aq,a_,⟨aq,aq,aq⟩,a_,aq,aq,aq⟩,a_,⟨aq,hU2⟩,⟨aq,hB2⟩,aq⟩),aq⟩
 ·obtain ⟨q, rfl⟩ : ∃ q, i = q + 1 := ⟨i - 1, by omega⟩
  have hin:q+1=n:=by omega
  rw[hin]at hf
  rw[←hf]
  have hB:=Qab (T.take (q+1))
  have hlt2: ¬(q+1)<n:=hlt
  clear hf
  refine .inr ⟨.exit 0,[1],{sl:=[(9,.sl 0 0 n (some (n-n)))],os:=[.row 50 none (uF f n)]},[no 23],1000,.inl ⟨trivial,rfl,rfl⟩,?_⟩
  exact m_ (p:=An [decide ((↑(q+1):Int)<(↑n:Int))=false,An [An [Zz,n=n,Sm (n-n)],_],An [Sm (uF f n),_],_]) ⟨aq,⟨a_,aq⟩,⟨aq,hU⟩,aq⟩
theorem graph_fn(a p:Nat→Nat)(ha: ∀k,a k<256)(hp: ∀k,p k<256)(lim n:Nat)(h1n:1≤n)(hn:n≤4):
  ∃g r:Nat→Nat,Qni n g r∧(∀v,v<n→popc (g v)≤lim)∧FnOk Pg g0 13 [i6 (n:Nat),.agg (t8L a),.agg (t8L p),i6 (lim:Nat)] (gV' n g):=by
 have htu:=Qvy a ha n h1n hn
 have hperm:=Qqz a n (idL n) (Qce n)
 generalize tuF a n (idL n)=T at*
 have hT:T.length=n:=by rw[hperm.length_eq,Qce]
 have hnd:T.Nodup:=hperm.nodup_iff.2 (by
  rcases(show n=1∨n=2∨n=3∨n=4 by omega)with rfl|rfl|rfl|rfl<;>decide)
 have hmem: ∀x∈T,∃k:Nat,k<n∧x=(k:Int):=fun x hx=>by
  have:=hperm.mem_iff.1 hx
  unfold idL at this
  obtain⟨k,h1,h2⟩:=List.mem_map.1 this
  exact⟨k,List.mem_range.1 h1,h2.symm⟩
 have ht: ∀k,k<n→T.getD k 0=(((T.getD k 0).toNat:Nat):Int)∧(T.getD k 0).toNat<n∧T.idxOf ((((T.getD k 0).toNat:Nat):Int))=k:=fun k hk=>by
  have e:T.getD k 0=T[k]:=by rw[List.getD_eq_getElem?_getD,List.getElem?_eq_getElem (by omega)];rfl
  obtain⟨m,m1,m2⟩:=hmem T[k] (List.getElem_mem _)
  have e2:(((T.getD k 0).toNat:Nat):Int)=T[k]:=by rw[e,m2];simp
  exact⟨by rw[e2,e],by rw[e,m2];simpa using m1,by rw[e2];exact hnd.idxOf_getElem k (by omega)⟩
 have l:=gg_loop p hp lim n hn h1n T (fun k=>(T.getD k 0).toNat) (fun v=>T.idxOf (v:Int)) ht hT
 have hin:InvG n lim (fun v=>T.idxOf (v:Int)) (grW p lim (fun k=>(T.getD k 0).toNat) n):=InvG.all hn (fun k hk=>(ht k hk).2) n (Nat.le_refl _)
 refine⟨_,_,fun v hv=>⟨(hin v hv).1,(hin v hv).2.2⟩,fun v hv=>(hin v hv).2.1,?_⟩
 generalize grW p lim (fun k=>(T.getD k 0).toNat) n=f at*
 have hA:=Qba a
 have hP:=Qba p
 have hTT:=Qab T
 have hU:=Qag f n
 have hU0:=Qag (fun _=>0) n
 have hrep:=Qod n
 refine FnOk.of_vc vE_ok mixed Qad (n:=1000) (r:=[]) (S:={sl:=[(8,gV' n f)]}) (hs:=[mk 16,fn 20 (.im n (ints T)),(0,.loop [1,2,3] (ggS p lim n T 0 (fun _=>0)) [(True,.exit 0,{sl:=[(9,.sl 0 0 n (some (n-n)))],os:=[.row 50 none (uF f n)]})])]) ?_
 exact m_ (p:=let z0:=(↑n:Int);An [Sm (gV' n f),An [(0:Int)≤z0,z0≤z0,(↑(8:Nat):Int)*z0≤(281474976710656:Int),z0≤(9223372036854775807:Int)],An [_,TT 8,_],_,_,An [An [Sm (↑lim:Int),Zz,An [Zz,n=n,Sm (n-n)],An [Zz,Zz,Zz],An [n=n,Sm (ints T)],z0=z0,(↑(0:Nat):Int)=(0:Int),_],An [t8L p=[w8 ↑(p 0),w8 ↑(p 1),w8 ↑(p 2),w8 ↑(p 3),w8 ↑(p 4),w8 ↑(p 5),w8 ↑(p 6),w8 ↑(p 7)],TT 8],An [uF (fun x=>0) n=rep n [u6 0],_],An [noL=[],_],_],_,(True->An [An [An [n=n,Sm (uF f n),_],_],_]),_]) ⟨aq,a_,⟨aq,aq,aq⟩,htu,aq,⟨⟨aq,aq,a_,a_,a_,aq,aq,aq⟩,a_,⟨aq,hU0⟩,⟨(by rfl),aq⟩,aq⟩,l,(fun _=>⟨⟨⟨aq,aq,hU⟩,aq⟩,aq⟩),aq⟩
abbrev cwV(h:Nat):Nat→V
 |0=>.sl h 0 0 (some 0)
 |k+1=>.sl h 0 (k+1) none
abbrev cwO(l:List V):Nat→O
 |0=>.row 28 none noL
 | _+1=>.row 28 (some 1) l
theorem Qjz(cards:List Int)(cs:List (List Int))(hl1:cards.length≤1000)(hl2:cs.length≤1000)(hok:okAll cards cs=true)(a:List (List Int))(ha:comp cs=a)(m:Nat)(hm:a.length=m):
  CallSpec Pg g0 (.fn 5 []) [gV cards cs] (ofOs .e 0 []) 0 ⟨.tup [.agg [sl cards,cwV 0 m],i6 0],ofOs .e 0 [cwO (a.map sl) m,.row 31 none [sl cards,cwV 0 m]],2,[]⟩:=by
 have hck:=Qjv cards cs hl1 hl2
 have hg:=Qav cs
 have hc:=Qab cards
 have e:chkE cards cs=0:=by unfold chkE;rw[hok];rfl
 rw[e]at hck
 have hb:decide (1≤cards.length)=true∧decide (cards.length≤6)=true∧decide (cs.length≤40)=true∧okCs cards=true∧decide (prodT cards cards.length≤1024)=true∧cs.all (okRow cards)=true:=by
  unfold okAll at hok
  simpa [Bool.and_eq_true]using hok
 have h1:=of_decide_eq_true hb.1
 have h6:=of_decide_eq_true hb.2.1
 have h40:=of_decide_eq_true hb.2.2.1
 have hcl: ∀c∈cs,c.length=cards.length:=fun c hcm=>by
  have:=List.all_eq_true.1 hb.2.2.2.2.2 c hcm
  unfold okRow at this
  rw[Bool.and_eq_true]at this
  exact of_decide_eq_true this.1
 have lx:=Qp5 cards cs h6
 have hrep:=rep_nF cards.length
 have hem:=Qis cards cs h1 h6
 have hkn:=Qp8 cards cs cards.length
 have hF:=Qah (idF 0) cards.length
 have hla:=Qbd sl a (fun _=>trivial)
 have hle:a.length≤40:=by
  rw[←ha];unfold comp
  exact Nat.le_trans (List.length_filter_le _ _) h40
 cases m with
 |zero=>
  have lr:=Qf5 cards cs h1 h6 h40 hcl a ha.symm 0 hm
  have:a=[]:=List.eq_nil_of_length_eq_zero hm
  subst this
  clear hb hok
  refine CallSpec.of_vcH (P:=Pg) (E:=vE) vE_ok mixed Qad (n:=1000) (f:=5) (os0:=[]) (ars:=[gV cards cs]) (r:=[2,0]) (S:={sl:=[(2,.ptr 1 0),(3,i6 0)],os:=[cwO [] 0,.row 31 none [sl cards,cwV 0 0]],md:=[0,1]}) (v:=.tup [.agg [sl cards,cwV 0 0],i6 0]) (hs:=[fn 11 (i6 0),mk 19,(0,.loop [0,1,2] (idxS cards cs 0) [(True,.exit 0,idxX cards cs)]),(31,.call ⟨.agg [sl cards,.sl 2 0 0 (some 0)],ofOs .e 0 [gO cards cs,.row 31 none [.nils,.nils],.row 28 none noL,.row 31 none [sl cards,.sl 2 0 0 (some 0)]],4,[]⟩),fn 34 (.fn 35 [.imp [sl cards,gC cs],.imp [sl (idL cards.length)]]),(0,.loop [1,4,2] (kS0 cards cs) [(True,.normal,kS1 cards [] 0)])]) (gl:=g0) (by simp) (fun i hi _=>absurd hi (Nat.not_lt_zero _)) ?_
  exact m_ (p:=let y0:=Sm cards.length;let z0:=(↑cards.length:Int);let z1:=[sl cards,gC cs];let z2:=[V.nils,V.nils];let z5:=V.tup [V.agg [sl cards,cwV 0 0],i6 0];let z6:=ints cards;let z9:=(0:Int);An [z5=z5,An [TT 2,_],_,_,An [z9≤z0,z0≤z0,(↑(8:Nat):Int)*z0≤(281474976710656:Int),z0≤(9223372036854775807:Int)],An [An [Zz,Zz,An [Zz,y0,Sm (cards.length-cards.length)],z0=z0,(↑(0:Nat):Int)=z9,_],An [z1=z1,TT 2],An [z2=z2,TT 2],An [(nF (idF 0) cards.length)=rep cards.length [i6 0],_],_],_,(True->An [_,_,An [TT 2,_,_],_,_,An [An [Zz,Zz,An [z1=z1,Sm [sl (idL cards.length)],_],_],An [z2=z2,TT 2],An [An [y0,z6=z6],An [Zz,Zz,Zz],_],An [noL=noL,_],_],_,(True->An [An [Zz,z9=z9,_],An [noL=noL,_],An [An [y0,z6=z6],An [Zz,Zz,Zz],_],_]),_]),_]) ⟨aq,⟨aq,aq⟩,hck,aq,a_,⟨⟨aq,aq,a_,aq,aq,aq⟩,a_,a_,⟨aq,hF⟩,aq⟩,lx,(fun _=>⟨hem,aq,⟨aq,aq,aq⟩,hkn,aq,⟨⟨aq,aq,⟨aq,aq,aq⟩,aq⟩,a_,⟨a_,a_,aq⟩,⟨aq,aq⟩,aq⟩,lr,(fun _=>⟨⟨aq,aq,aq⟩,⟨aq,aq⟩,⟨a_,a_,aq⟩,aq⟩),aq⟩),aq⟩
 |succ k=>
  have lr:=Qf5 cards cs h1 h6 h40 hcl a ha.symm (k+1) hm
  clear hb hok
  generalize hA:a.map sl=A at*
  have lr:Sat Pg none 0 rkC (mkSt g0 45 (kS0 cards cs)) (Qaf g0 45 [(True,.normal,{sl:=[(2,.ptr 0 0),(7,.ptr 1 0)],os:=[.row 31 none [.nils,.nils],.row 31 none [sl cards,.sl 2 0 (k+1) none],.row 28 (some 1) A],md:=[0,1]})]):=by rw[←hA];exact lr
  refine CallSpec.of_vcH (P:=Pg) (E:=vE) vE_ok mixed Qad (n:=1000) (f:=5) (os0:=[]) (ars:=[gV cards cs]) (r:=[2,0]) (S:={sl:=[(2,.ptr 1 0),(3,i6 0)],os:=[cwO A (k+1),.row 31 none [sl cards,cwV 0 (k+1)]],md:=[0,1]}) (v:=.tup [.agg [sl cards,cwV 0 (k+1)],i6 0]) (hs:=[fn 11 (i6 0),mk 19,(0,.loop [0,1,2] (idxS cards cs 0) [(True,.exit 0,idxX cards cs)]),(31,.call ⟨.agg [sl cards,.sl 2 0 0 (some 0)],ofOs .e 0 [gO cards cs,.row 31 none [.nils,.nils],.row 28 none noL,.row 31 none [sl cards,.sl 2 0 0 (some 0)]],4,[]⟩),fn 34 (.fn 35 [.imp [sl cards,gC cs],.imp [sl (idL cards.length)]]),(0,.loop [1,4,2] (kS0 cards cs) [(True,.normal,{sl:=[(2,.ptr 0 0),(7,.ptr 1 0)],os:=[.row 31 none [.nils,.nils],.row 31 none [sl cards,.sl 2 0 (k+1) none],.row 28 (some 1) A],md:=[0,1]})])]) (gl:=g0) (by simp) (fun i hi _=>absurd hi (Nat.not_lt_zero _)) ?_
  exact m_ (p:=let y1:=Sm cards.length;let z0:=(↑cards.length:Int);let z1:=[V.nils,V.nils];let z2:=[sl cards,gC cs];let z5:=V.tup [V.agg [sl cards,cwV 0 (k+1)],i6 0];let z6:=ints cards;let y0:=(0:Int);An [z5=z5,An [TT 2,_],_,_,An [y0≤z0,z0≤z0,(↑(8:Nat):Int)*z0≤(281474976710656:Int),z0≤(9223372036854775807:Int)],An [An [Zz,Zz,An [Zz,y1,Sm (cards.length-cards.length)],z0=z0,(↑(0:Nat):Int)=y0,_],An [z2=z2,TT 2],An [z1=z1,TT 2],An [(nF (idF 0) cards.length)=rep cards.length [i6 0],_],_],_,(True->An [_,_,An [TT 2,_,_],_,_,An [An [Zz,Zz,An [z2=z2,Sm [sl (idL cards.length)],_],_],An [z1=z1,TT 2],An [An [y1,z6=z6],An [Zz,Zz,Zz],_],An [noL=noL,_],_],_,(True->An [An [Zz,y0=y0,_],An [A=A,_],An [An [y1,z6=z6],An [Zz,Sm (k+1),_],_],_]),_]),_]) ⟨aq,⟨aq,aq⟩,hck,aq,a_,⟨⟨aq,aq,a_,aq,aq,aq⟩,a_,a_,⟨aq,hF⟩,aq⟩,lx,(fun _=>⟨hem,aq,⟨aq,aq,aq⟩,hkn,aq,⟨⟨aq,aq,⟨aq,aq,aq⟩,aq⟩,a_,⟨a_,a_,aq⟩,⟨aq,aq⟩,aq⟩,lr,(fun _=>⟨⟨aq,aq,aq⟩,⟨aq,hla⟩,⟨a_,⟨aq,aq,aq⟩,aq⟩,aq⟩),aq⟩),aq⟩
abbrev tsO(d a p:List V):List O:=[.row 25 none d,.row 26 none a,.row 26 none p]
theorem Qlm(d a p:List V)(hd:HfL d)(ha:HfL a)(hp:HfL p)(cards:List Int)(A:List V)(hA:HfL A)(m:Nat)(cs:List (List Int))
  (h:CallSpec Pg g0 (.fn 5 []) [gV cards cs] (ofOs .e 0 []) 0 ⟨.tup [.agg [sl cards,cwV 0 m],i6 0],ofOs .e 0 [cwO A m,.row 31 none [sl cards,cwV 0 m]],2,[]⟩):
  CallSpec Pg g0 (.fn 5 []) [gV cards cs] (ofOs .e 0 (tsO d a p)) 3 ⟨.tup [.agg [sl cards,cwV 3 m],i6 0],ofOs .e 0 (tsO d a p++[cwO A m,.row 31 none [sl cards,cwV 3 m]]),5,[]⟩:=by
 have hc:=Qab cards
 have hg:=Qav cs
 cases m with
 | zero =>
  refine CallSpec.frameL (OS:=tsO d a p) (OS':=tsO d a p++[cwO A 0,.row 31 none [sl cards,cwV 3 0]]) [] [(3,0),(4,1)] [] [0,0,0,0,1] h (by kernel_rfl) ?_ ?_ ?_ ?_
  ·refine Eq.mp (by kernel_rfl : (An [An [An [Sm cards.length, Sm (ints cards)], An [Sm cs.length, Sm (List.map sl cs)], Tt], Tt]) = _) ?_
   (repeat'(first|(with_reducible apply And.intro)|(refine fun(_:True)=>?_)))
   all_goals first|exact aq|exact hd|exact ha|exact hp|exact hA|exact hc|exact hg|rfl|skip
  ·refine Eq.mp (by kernel_rfl : (Tt) = _) ?_
   (repeat'(first|(with_reducible apply And.intro)|(refine fun(_:True)=>?_)))
   all_goals first|exact aq|exact hd|exact ha|exact hp|exact hA|exact hc|exact hg|rfl|skip
  ·refine Eq.mp (by kernel_rfl : (An [An [An [Sm cards.length, Sm (ints cards)], An [Zz, Zz, Zz], Tt], Sm (0 : Int), Tt]) = _) ?_
   (repeat'(first|(with_reducible apply And.intro)|(refine fun(_:True)=>?_)))
   all_goals first|exact aq|exact hd|exact ha|exact hp|exact hA|exact hc|exact hg|rfl|skip
  ·refine Eq.mp (by kernel_rfl : (let z0 := tsO d a p; let z1 := some (O.row 25 none d); let z2 := some (O.row 26 none a); let z3 := some (O.row 26 none p); An [z0[0]? = z1, z0[0]? = z1, z0[1]? = z2, z0[1]? = z2, z0[2]? = z3, z0[2]? = z3, Tt, An [noL = noL, Tt], Tt, An [An [Sm cards.length, Sm (ints cards)], An [Zz, Zz, Zz], Tt], Tt]) = _) ?_
   (repeat'(first|(with_reducible apply And.intro)|(refine fun(_:True)=>?_)))
   all_goals first|exact aq|exact hd|exact ha|exact hp|exact hA|exact hc|exact hg|rfl|skip
 | succ k =>
  refine CallSpec.frameL (OS:=tsO d a p) (OS':=tsO d a p++[cwO A (k+1),.row 31 none [sl cards,cwV 3 (k+1)]]) [] [(3,0),(4,1)] [] [0,0,0,0,1] h (by kernel_rfl) ?_ ?_ ?_ ?_
  ·refine Eq.mp (by kernel_rfl : (An [An [An [Sm cards.length, Sm (ints cards)], An [Sm cs.length, Sm (List.map sl cs)], Tt], Tt]) = _) ?_
   (repeat'(first|(with_reducible apply And.intro)|(refine fun(_:True)=>?_)))
   all_goals first|exact aq|exact hd|exact ha|exact hp|exact hA|exact hc|exact hg|rfl|skip
  ·refine Eq.mp (by kernel_rfl : (Tt) = _) ?_
   (repeat'(first|(with_reducible apply And.intro)|(refine fun(_:True)=>?_)))
   all_goals first|exact aq|exact hd|exact ha|exact hp|exact hA|exact hc|exact hg|rfl|skip
  ·refine Eq.mp (by kernel_rfl : (An [An [An [Sm cards.length, Sm (ints cards)], An [Zz, Sm (k + 1), Tt], Tt], Sm (0 : Int), Tt]) = _) ?_
   (repeat'(first|(with_reducible apply And.intro)|(refine fun(_:True)=>?_)))
   all_goals first|exact aq|exact hd|exact ha|exact hp|exact hA|exact hc|exact hg|rfl|skip
  ·refine Eq.mp (by kernel_rfl : (let z0 := tsO d a p; let z1 := some (O.row 25 none d); let z2 := some (O.row 26 none a); let z3 := some (O.row 26 none p); An [z0[0]? = z1, z0[0]? = z1, z0[1]? = z2, z0[1]? = z2, z0[2]? = z3, z0[2]? = z3, Tt, An [A = A, HfL A], Tt, An [An [Sm cards.length, Sm (ints cards)], An [Zz, Sm (k + 1), Tt], Tt], Tt]) = _) ?_
   (repeat'(first|(with_reducible apply And.intro)|(refine fun(_:True)=>?_)))
   all_goals first|exact aq|exact hd|exact ha|exact hp|exact hA|exact hc|exact hg|rfl|skip
theorem Qmm{cards:List Int}(hc: ∀k,k<cards.length→0≤cards.getD k 0): ∀(M:List Int)(rows:List (List Int)),(∀r∈rows,r.length=cards.length∧∀k,k<cards.length→ -1≤r.getD k 0∧r.getD k 0<cards.getD k 0)→∀r∈Qcf cards.length rows M,r.length=cards.length∧∀k,k<cards.length→ -1≤r.getD k 0∧r.getD k 0<cards.getD k 0
 |[],rows,h=>h
 | mm :: M, rows, h => by
  have e:Qcf cards.length rows (mm::M)=Qcf cards.length (Qfu cards.length rows mm) M:=rfl
  rw[e]
  refine Qmm hc M _ fun r hr=>?_
  unfold Qfu at hr
  generalize (mm/5%(rows.length:Int)).toNat=i at hr
  generalize (mm%(cards.length:Int)).toNat=j at hr
  by_cases hi:i<rows.length
  ·rcases List.mem_or_eq_of_mem_set hr with hr | rfl
   ·exact h r hr
   ·have hg : rows.getD i [] = rows[i] := by rw [List.getD_eq_getElem?_getD, List.getElem?_eq_getElem hi]; rfl
    rw[hg]
    obtain⟨a,b⟩:=h _ (List.getElem_mem hi)
    refine⟨by rw[List.length_set];exact a,fun k hk=>?_⟩
    rw[List.getD_eq_getElem?_getD,List.getElem?_set]
    have:=b k hk
    have h0:=hc k hk
    rw[List.getD_eq_getElem?_getD]at this
    by_cases hjk:j=k
    ·subst hjk
     rw[if_pos rfl,if_pos (by omega)]
     simp only[Option.getD_some]
     omega
    ·rw[if_neg hjk];exact this
  ·rw [List.set_eq_of_length_le (by omega)] at hr
   exact h r hr
theorem ok_draft(C:List Int)(ks:List (Nat→Int))(fo:Int)(M:List Int):okAll (cardsD C) (dataD C ks fo M)=true∧∀r∈dataD C ks fo M,r.length=(cardsD C).length∧∀k,k<(cardsD C).length→ -1≤r.getD k 0∧r.getD k 0<(cardsD C).getD k 0:=by
 have hc:=Qen C
 have hrow:=Qmm (cards:=cardsD C) (fun k hk=>by have:=hc.each k hk;omega) M _ (fun r hr=>by
  obtain⟨a,b⟩:=Qre C ks fo r hr
  exact⟨a,fun k hk=>by have:=b k hk;omega⟩)
 have e:Qcf (cardsD C).length (dataD C ks fo []) M=dataD C ks fo M:=rfl
 rw[e]at hrow
 refine⟨?_,hrow⟩
 have hl:=(Qln C ks fo M).2
 generalize dataD C ks fo M=cs at*
 generalize cardsD C=cards at*
 have hp:=hc.pos
 have h5:=hc.five
 have hpr:prodT cards cards.length≤1024:=by
  have h3:=(Qoa hc cards.length (Nat.le_refl _)).2
  have h4:(3:Int)^cards.length≤243:=by
   rcases(show cards.length=1∨cards.length=2∨cards.length=3∨cards.length=4∨cards.length=5 by omega)with e|e|e|e|e<;>rw[e]<;>decide
  omega
 unfold okAll
 simp only[Bool.and_eq_true,decide_eq_true_eq]
 refine⟨hp,by omega,hl,?_,hpr,?_⟩
 ·unfold okCs
  exact all_range.2 fun j hj=>by
   have:=hc.each j hj
   exact decide_eq_true (by omega)
 ·rw [List.all_eq_true]
  intro r hr
  obtain⟨r1,r2⟩:=hrow r hr
  unfold okRow
  rw[Bool.and_eq_true]
  exact⟨decide_eq_true r1,all_range.2 fun j hj=>by
   have:=r2 j hj
   exact decide_eq_true (by omega)⟩
theorem Qgy{L:List Int}{k n:Nat}(h:k<n):(L.take n).getD k 0=L.getD k 0:=by
 rw[List.getD_eq_getElem?_getD,List.getD_eq_getElem?_getD,List.getElem?_take_of_lt h]
theorem good_cut{cards:List Int}(hc:CdOk cards){cs:List (List Int)}(hl:cs.length≤40)(hrow: ∀r∈cs,r.length=cards.length∧∀k,k<cards.length→ -1≤r.getD k 0∧r.getD k 0<cards.getD k 0)(n:Nat)(hn:n≤cards.length)(h1:1≤n):goodE (cards.take n) ((comp cs).map (·.take n))=0:=by
 have hp:=hc.pos
 have h5:=hc.five
 have hlen:(cards.take n).length=n:=by rw[List.length_take];omega
 refine good_of ⟨by omega,by omega,fun k hk=>?_⟩ ?_ fun r hr=>?_
 ·rw [Qgy (by omega)]
  exact hc.each k (by omega)
 ·rw [List.length_map]; unfold comp
  exact Nat.le_trans (List.length_filter_le _ _) hl
 ·obtain ⟨c, hcm, rfl⟩ := List.mem_map.1 hr
  unfold comp at hcm
  obtain⟨c1,c2⟩:=List.mem_filter.1 hcm
  obtain⟨r1,r2⟩:=hrow c c1
  refine⟨by rw[List.length_take,hlen];omega,fun k hk=>?_⟩
  rw[hlen]at hk
  rw[Qgy hk,Qgy hk]
  have:=r2 k (by omega)
  refine⟨?_,this.2⟩
  have hng:negB c=false:=by simpa using c2
  unfold negB at hng
  rw[List.any_eq_false]at hng
  have hm:c.getD k 0∈c:=by
   rw[List.getD_eq_getElem?_getD,List.getElem?_eq_getElem (by omega)]
   exact List.getElem_mem _
  have:=hng _ hm
  simp only[decide_eq_true_eq]at this
  omega
theorem sl_im{n k:Nat}{L:List Int}(h1:1≤k)(h:k≤n):sliceV (Qae Pg) 28 (.im n (ints L)) none (some ((k:Nat):Int)) none=some (.im k (ints (L.take k))):=by
 have e:sliceV (Qae Pg) 28 (.im n (ints L)) none (some ((k:Nat):Int)) none=(if 0≤(0:Int)∧(0:Int)≤(k:Int)∧(k:Int)≤(n:Int)∧true=true then some (if(0:Int)=(k:Int)then .im 0 []else .im ((k:Int).toNat-(0:Int).toNat) (((ints L).drop ((0:Int).toNat*1)).take (((k:Int).toNat-(0:Int).toNat)*1)))else none):=rfl
 rw[e,if_pos ⟨by omega,by omega,by omega,rfl⟩,if_neg (by omega)]
 simp[ints,List.map_take]
theorem src_imT{H:T O}{n:Nat}{L:List Int}(h:L.length=n):srcV H 1 (.im n (ints L))=some (n,ints L):=by
 unfold srcV
 dsimp only
 have:Nat.ble (n*1) (ints L).length=true:=Nat.ble_eq_true_of_le (by rw[Qas];omega)
 rw[this,cond_true,List.take_of_length_le (by rw[Qas];omega)]
theorem Qng{H:Nat→Option O}{F:Nat→Prop}{ρ:Nat→Option Nat}: ∀(l:List V)(k:Nat)(x y:V),HfL l→View H F ρ x y→ViewL H F ρ (l.set k x) (l.set k y)
 |[],_,_,_,_,_=>rfl
 |z::l,0,x,y,h,hv=>⟨y,l,rfl,hv,ViewL.of_hf l h.2⟩
 |z::l,k+1,x,y,h,hv=>⟨z,l.set k y,rfl,View.of_hf z h.1,Qng l k x y h.2 hv⟩
theorem lay_setV{l:List V}{j:Nat}{x:V}(h:j<l.length):layE (0+j*1) l [x]=some (l.set j x):=by
 rw[Nat.zero_add,Nat.mul_one,Qdu]
 have:Nat.ble (j+[x].length) l.length=true:=Nat.ble_eq_true_of_le (by simp;omega)
 rw[this,cond_true]
 congr 1
 rw[List.set_eq_take_append_cons_drop,if_pos h]
 simp
abbrev tcS(x n:Nat)(Cd:List V)(a p:List V)(q:Nat)(k:Nat×List (List Int)):SL:={sl:=[(1,w8 (x:Nat)),(6,.ptr 0 0),(7,.ptr 1 0),(9,.ptr 2 0),(51,.sl 3 0 (q+1) none),(52,i6 ((q+1:Nat):Int)),(53,i6 (k.1:Nat))],os:=[.row 26 none a,.row 26 none p,.row 31 none [.im n Cd,.sl 3 0 (q+1) none],.row 28 (some 1) (k.2.map sl)],md:=[0,0,1,2]}
abbrev tcX(x n:Nat)(Cd:List V)(a p:List V)(m:Nat)(R:List V):SL:={sl:=[(1,w8 (x:Nat)),(6,.ptr 0 0),(7,.ptr 1 0),(9,.ptr 2 0)],os:=[.row 26 none a,.row 26 none p,.row 31 none [.im n Cd,.im m R]],md:=[0,0,1]}
abbrev tcS0(x n:Nat)(Cd:List V)(a p:List V):SL:={sl:=[(1,w8 (x:Nat)),(6,.ptr 0 0),(7,.ptr 1 0),(9,.ptr 2 0),(51,.sl 3 0 0 (some 0)),(52,i6 ((0:Nat):Int)),(53,i6 ((0:Nat):Int))],os:=[.row 26 none a,.row 26 none p,.row 31 none [.im n Cd,.sl 3 0 0 (some 0)],.row 28 none noL],md:=[0,0,1]}
theorem Qs0(x n:Nat)(Cd:List V)(hc:HfL Cd)(a p:List V)(ha:HfL a)(hp:HfL p):
  Sat Pg none 0 (at' 3 [1,1,1,1,1,0,1,0]) (mkSt g0 191 (tcS0 x n Cd a p)) (Qaf g0 191 [(True,.exit 0,tcX x n Cd a p 0 noL)]):=by
 refine Qa6 vE_ok mixed Qad (b:=at' 3 [1,1,1,1,1,0,1,0,0]) (by kernel_rfl) (fun _:Nat=>True) (fun _=>tcS0 x n Cd a p) (fun _=>0) (fun k _=>.inr ⟨.exit 0,[0,1,2],tcX x n Cd a p 0 noL,[],1000,.inl ⟨trivial,rfl,rfl⟩,?_⟩) 0 trivial
 exact m_ (p:=An [An [Sm (↑x:Int),Zz,Zz,Zz,_],An [a=a,_],An [p=p,_],An [An [n=n,Cd=Cd],An [Zz,noL=noL,_],_],_]) ⟨⟨aq,aq,aq,aq,aq⟩,⟨aq,ha⟩,⟨aq,hp⟩,⟨a_,⟨aq,aq,aq⟩,aq⟩,aq⟩
theorem cut_loop(x n n0:Nat)(h1:1≤n)(hn:n=min n0 4)(h6:n0≤6)(Cd:List V)(hc:HfL Cd)(a p:List V)(ha:HfL a)(hp:HfL p)(q:Nat)(hq:q≤40)(cs:List (List Int))(hcl: ∀c∈cs,c.length=n0)(hcs:cs.length=q+1)(R:List V)(hR:((cs.map (·.take n)).map sl)=R):
  Sat Pg none 0 (at' 3 [1,1,1,1,1,0,1,0]) (mkSt g0 191 (tcS x n Cd a p q (0,cs))) (Qaf g0 191 [(True,.exit 0,tcX x n Cd a p (q+1) R)]):=by
 refine Qa6 vE_ok mixed Qad (b:=at' 3 [1,1,1,1,1,0,1,0,0]) (by kernel_rfl) (fun k=>k.1≤q+1∧k.2=(cs.map (·.take n)).take k.1++cs.drop k.1) (tcS x n Cd a p q) (fun k=>q+1-k.1) (fun k hk=>?_) (0,cs) ⟨Nat.zero_le _,rfl⟩
 obtain⟨k,A⟩:=k
 obtain⟨hk,hA⟩:=hk
 dsimp only at hk hA
 have hAl:A.length=q+1:=by rw[hA];simp;omega
 have hAA:=Qbd sl A (fun _=>trivial)
 by_cases hlt:k<q+1
 ·obtain ⟨c, hck⟩ : ∃ c, cs[k]? = some c := ⟨_, List.getElem?_eq_getElem (by omega)⟩
  have hcl':=hcl c (List.mem_of_getElem? hck)
  have hAk:A[k]? =some c:=by
   rw[hA,List.getElem?_append_right (by simp;omega)]
   simp only[List.length_take,List.length_map,List.getElem?_drop]
   rw[show k+(k-min k cs.length)=k by omega]
   exact hck
  have h2:headF (dropF (0+k*1) (A.map sl))=some (sl c):=by rw[Qam,Nat.zero_add];exact Qcu hAk
  have h3:=@sl_im c.length n c h1 (by omega)
  have hct:(c.take n).length=n:=by rw[List.length_take];omega
  have hcc:=Qab (c.take n)
  have hnx:A.set k (c.take n)=(cs.map (·.take n)).take (k+1)++cs.drop (k+1):=by
   have hkl:((cs.map (·.take n)).take k).length=k:=by simp;omega
   have e1:cs.drop k=c::cs.drop (k+1):=by
    obtain⟨h,e⟩:=List.getElem?_eq_some_iff.1 hck
    rw[List.drop_eq_getElem_cons h,e]
   have e2:(cs.map (·.take n)).take (k+1)=(cs.map (·.take n)).take k++[c.take n]:=by
    rw[List.take_add_one,List.getElem?_map,hck];rfl
   rw[hA,List.set_append_right _ _ (by omega),hkl,Nat.sub_self,e1,List.set_cons_zero,e2,List.append_assoc]
   rfl
  have h4:layE (0+k*1) (A.map sl) [.sl 5 0 n none]=some ((A.map sl).set k (.sl 5 0 n none)):=lay_setV (by rw[List.length_map];omega)
  have h5:(A.set k (c.take n)).map sl=(A.map sl).set k (.im n (ints (c.take n))):=by
   rw[List.map_set,show sl (c.take n)=V.im n (ints (c.take n))by show V.im (c.take n).length _=_;rw[hct]]
  obtain⟨A2,hA2⟩: ∃A2,A2=A.set k (c.take n):=⟨_,rfl⟩
  rw[←hA2]at hnx h5
  have hw: ∀(H:T O) lg,gt H 5=some (.row 3 (some 1) (ints (c.take n)))→(∀h∈lg,0≤h)→ViewL H.get (Fr 0 [0,1,2,3] lg) (rho 0 [0,1,2,3]) (A2.map sl) ((A.map sl).set k (.sl 5 0 n none)):=fun H lg hg hl=>by
   rw[h5]
   refine Qng _ _ _ _ hAA (.inr (.inr ⟨5,0,none,_,_,_,rfl,⟨Nat.zero_le _,by decide,hl⟩,by rw[←Qaw];exact hg,ViewP.of_hf _ (by simpa using hcc)⟩))
  have hsi: ∀H:T O,srcV H 1 (.im n (ints (c.take n)))=some (n,ints (c.take n)):=fun H=>src_imT hct
  generalize hCt:ints (c.take n)=Ct at*
  generalize hAc:A.map sl=Ac at*
  refine .inl ⟨(k+1,A2),[0,1,2,3],[yes 54,pl 63,ld 64 (sl c),pl 68,ld 69 (sl c),nu 71 (n:Nat),va 72 (.im n Ct),(73,.cp n Ct),pl 74,st (Ac.set k (.sl 5 0 n none)),nu 75 ((k+1:Nat):Int)],1000,⟨hlt,hnx⟩,by dsimp only;omega,?_⟩
  exact m_ (p:=let z7:=An [Zz,Sm (q+1),Tt];let z1:=(↑(q+1):Int);let z2:=(↑k:Int);let z3:=List.set Ac k (V.sl 5 0 n none);let z4:=List.map sl A;let z5:=(↑(k+1):Int);let z0:=ofOs T.e 0 [O.row 26 none a,O.row 26 none p,O.row 31 none [V.im n Cd,V.sl 3 0 (q+1) none],O.row 28 (some 1) z4];let z6:=headF (dropF (0+k*1) z4);An [decide (z2<z1)=true,An [(0:Int)≤z2,z2<z1],z6=some (sl c),An [(0:Int)≤z2,z2<z1],z6=some (sl c),(if(4:Int)<(↑c.length:Int)then(4:Int)else(↑c.length:Int))=(↑n:Int),_,An [srcV (pt z0 4 (O.row 3 none [])) 1 (V.im n Ct)=some (n,Ct),srcV (pt z0 4 (O.row 3 none [])) 1 (V.sl 4 0 0 (some 0))=some (0,[]),_,n≤9223372036854775807,n*8≤140737488355328],An [(0:Int)≤z2,z2<z1],layE (0+k*1) z4 [V.sl 5 0 n none]=some z3,wr .i64 (z2+(1:Int))=z5,An [Sm (↑x:Int),Zz,Zz,Zz,z7,z1=z1,z5=z5,_],An [a=a,_],An [p=p,_],An [An [n=n,Cd=Cd],z7,_],An [_,ViewL (T.get (pt (pt (pt z0 4 (O.row 3 none [])) 5 (O.row 3 (some 1) Ct)) 3 (O.row 28 (some 1) z3))) (Fr 0 [0,1,2,3] ([3]++([]++[]))) (rho 0 [0,1,2,3]) (List.map sl A2) z3],_]) ⟨aq,a_,aq,a_,aq,aq,h3,⟨aq,(by rfl),h1,a_⟩,a_,aq,aq,⟨aq,aq,aq,aq,aq,aq,aq,aq⟩,⟨aq,ha⟩,⟨aq,hp⟩,⟨a_,aq,aq⟩,⟨aq,hw _ _ rfl (fun _ _=>Nat.zero_le _)⟩,aq⟩
 ·obtain rfl : k = q + 1 := by omega
  have hAR:A.map sl=R:=by
   rw[←hR,hA,List.take_of_length_le (by simp;omega),List.drop_of_length_le (by omega),List.append_nil]
  have hRR:HfL R:=hAR▸hAA
  refine .inr ⟨.exit 0,[0,1,2],tcX x n Cd a p (q+1) R,[no 54],1000,.inl ⟨trivial,rfl,rfl⟩,?_⟩
  exact m_ (p:=An [decide ((↑(q+1):Int)<(↑(q+1):Int))=false,An [Sm (↑x:Int),Zz,Zz,Zz,_],An [a=a,_],An [p=p,_],An [An [n=n,Cd=Cd],An [Sm (q+1),R=List.map sl A,_],_],_]) ⟨aq,⟨aq,aq,aq,aq,aq⟩,⟨aq,ha⟩,⟨aq,hp⟩,⟨a_,⟨aq,aq,hAA⟩,aq⟩,aq⟩
end Go.Proofs.YtcmeiecgijmdjaaDoor.Am
