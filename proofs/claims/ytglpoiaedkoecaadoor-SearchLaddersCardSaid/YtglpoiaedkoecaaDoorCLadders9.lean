/- Texts behind the claim, part 9: the abstract machine, and what the functions answer. No condition. -/
import Derived.Test.YtglpoiaedkoecaaDoorCLadders8
namespace Go.Proofs.YtglpoiaedkoecaaDoor.Am
open Go.RowKit
set_option maxHeartbeats 4000000
set_option maxRecDepth 100000
theorem Qoz(L:List Int)(P:List Nat)(cards:List Int)(cs:List (List Int))(F:Nat→Nat→Nat→Int)(size:Nat)(q:Nat→Nat×Nat)(B:Nat→Nat→Int)(la pa:Nat→Nat)(k lim:Nat)
  (h:CallSpec Pg g0 (.fn 88 []) [gV cards cs,i6 (lim:Int)] (ofOs .e 0 []) 0 ⟨cbV size,ofOs .e 0 (cbO cards cs F size q B la pa k),6,[]⟩):
  CallSpec Pg g0 (.fn 88 []) [gV cards cs,i6 (lim:Int)] (ofOs .e 0 [gO cards cs,lO L P]) 2 ⟨cbW size,ofOs .e 0 ([gO cards cs,lO L P]++cbD cards cs F size q B la pa k),8,[]⟩:=by
 have hB:=Qaa B size
 have hla:=Qag la size
 have hpa:=Qaf pa size
 have hE:=Qac q (k+1)
 have hS:=Qaa (scF F q) (k+1)
 have hg:=Qas cs
 have hc:=Qae cards
 have hlo:=Qae L
 have hu:=Qaq P
 refine CallSpec.frameL (OS:=[gO cards cs,_]) (OS':=[gO cards cs,_]++cbD cards cs F size q B la pa k) [] [(2,0),(3,1),(4,2),(5,3),(6,4),(7,5)] [] [0,0,0,0,1] h (by kernel_rfl) ?_ ?_ ?_ ?_
 ·refine Eq.mp (by kernel_rfl : (An [An [An [Sm cards.length, Sm (ints cards)], An [Sm cs.length, Sm (List.map sl cs)], Tt], Sm (↑lim : Int), Tt]) = _) ?_
  (repeat'(first|(with_reducible apply And.intro)|(refine fun(_:True)=>?_)))
  all_goals first|exact aq|exact hB|exact hS|exact hE|exact hla|exact hpa|exact hg|exact hc|exact hlo|exact hu|rfl|skip
 ·refine Eq.mp (by kernel_rfl : (Tt) = _) ?_
  (repeat'(first|(with_reducible apply And.intro)|(refine fun(_:True)=>?_)))
  all_goals first|exact aq|exact hB|exact hS|exact hE|exact hla|exact hpa|exact hg|exact hc|exact hlo|exact hu|rfl|skip
 ·refine Eq.mp (by kernel_rfl : (let z0 := An [Zz, Sm size, Sm (size - size)]; An [Zz, An [z0, z0, Tt], Sm (0 : Int), Tt]) = _) ?_
  (repeat'(first|(with_reducible apply And.intro)|(refine fun(_:True)=>?_)))
  all_goals first|exact aq|exact hB|exact hS|exact hE|exact hla|exact hpa|exact hg|exact hc|exact hlo|exact hu|rfl|skip
 ·refine Eq.mp (by kernel_rfl : (let z1 := bF (scF F q) (k + 1); let z2 := entM q (k + 1); let z3 := gO cards cs; let z0 := [z3, lO L P]; An [z0[0]? = some z3, z0[0]? = some z3, z0[1]? = some (lO L P), z0[1]? = some (lO L P), Tt, An [Sm (bF B size), HfL (bF B size)], Tt, An [z2 = z2, HfE z2, Sm (k + 1)], Tt, An [An [Sm cards.length, Sm (ints cards)], An [Sm cs.length, Sm (List.map sl cs)], An [Zz, Sm size, Sm (size - size)], Tt, An [Zz, Sm (k + 1), Tt], Tt], Tt, An [Sm (nF la size), HfL (nF la size)], Tt, An [Sm (uF pa size), HfL (uF pa size)], Tt, An [z1 = z1, HfL z1], Tt]) = _) ?_
  (repeat'(first|(with_reducible apply And.intro)|(refine fun(_:True)=>?_)))
  all_goals first|exact aq|exact hB|exact hS|exact hE|exact hla|exact hpa|exact hg|exact hc|exact hlo|exact hu|rfl|skip
section
variable (L:List Int) (P:List Nat) (cards:List Int) (cs:List (List Int)) (F:Nat→Nat→Nat→Int) (B:Nat→Nat→Int) (size:Nat) (q:Nat→Nat×Nat) (k:Nat)
abbrev rtO:List O:=[lO L P,.row 41 none (bF B size),.map (entM q (k+1)) (k+1),.row 158 none (toC cards cs size 1 2 4 (k+1)),.row 41 (some 18) (bF (scF F q) (k+1))]
abbrev rtO2:List O:=[lO L P,.row 41 none (bF B size),.map (entM q (k+1)) (k+1),.row 158 none (toC cards cs size 1 2 5 (k+1)),.dead,.row 41 (some 18) (bF (scF F q) (k+1))]
end
theorem rt_hit(L:List Int)(P:List Nat)(cards:List Int)(cs:List (List Int))(F:Nat→Nat→Nat→Int)(B:Nat→Nat→Int)(size:Nat)(q:Nat→Nat×Nat)(k s v p:Nat)(x:Nat→Int)
  (h:CallSpec Pg g0 (.fn 90 []) [.ptr 2 0,i6 (s:Nat),i6 (v:Nat),u6 (p:Nat)] (ofOs .e 0 (toO1 cards cs F B size q k)) 4 ⟨.tup [ar x,i6 0],ofOs .e 0 (toO1 cards cs F B size q k),4,[]⟩):
  CallSpec Pg g0 (.fn 90 []) [.ptr 3 0,i6 (s:Nat),i6 (v:Nat),u6 (p:Nat)] (ofOs .e 0 (rtO L P cards cs F B size q k)) 5 ⟨.tup [ar x,i6 0],ofOs .e 0 (rtO L P cards cs F B size q k),5,[]⟩:=by
 have hB:=Qaa B size
 have hE:=Qac q (k+1)
 have hS:=Qaa (scF F q) (k+1)
 have hg:=Qas cs
 have hc:=Qae cards
 have hlo:=Qae L
 have hu:=Qaq P
 exact CallSpec.frameL (OS:=rtO L P cards cs F B size q k) (OS':=rtO L P cards cs F B size q k) [1,2,3,4] [(1,0),(2,1),(3,2),(4,3)] [0,0,1] [0,0,0,1] h (by kernel_rfl) (by
  refine Eq.mp (by kernel_rfl:(An [Zz,Sm (↑s:Int),Sm (↑v:Int),Sm (↑p:Int),Tt])=_) ?_
  (repeat'(first|(with_reducible apply And.intro)|(refine fun(_:True)=>?_)))<;>first|exact aq|skip) (by
  refine Eq.mp (by kernel_rfl:(let z0:=bF (scF F q) (k+1);let z1:=entM q (k+1);An [An [Sm (bF B size),HfL (bF B size)],An [z1=z1,HfE z1,Sm (k+1)],An [An [Sm cards.length,Sm (ints cards)],An [Sm cs.length,Sm (List.map sl cs)],An [Zz,Sm size,Sm (size-size)],Tt,An [Zz,Sm (k+1),Tt],Tt],An [z0=z0,HfL z0],Tt])=_) ?_
  (repeat'(first|(with_reducible apply And.intro)|(refine fun(_:True)=>?_)))
  all_goals first|exact aq|exact hB|exact hS|exact hE|exact hg|exact hc|exact hlo|exact hu|rfl|skip) (by
  refine Eq.mp (by kernel_rfl:(An [An [x 0=x 0,x 1=x 1,x 2=x 2,x 3=x 3,x 4=x 4,x 5=x 5,x 6=x 6,x 7=x 7,x 8=x 8,x 9=x 9,Sm (x 10),Sm (x 11),Sm (x 12),Sm (x 13),Sm (x 14),Sm (x 15),Sm (x 16),Sm (x 17),Tt],Sm (0:Int),Tt])=_) ?_
  (repeat'(first|(with_reducible apply And.intro)|(refine fun(_:True)=>?_)))<;>first|exact aq|skip) (by
  refine Eq.mp (by kernel_rfl:(let z0:=rtO L P cards cs F B size q k;let z1:=bF (scF F q) (k+1);let z2:=entM q (k+1);let z3:=bF B size;An [z0[0]? =some (lO L P),z0[0]? =some (lO L P),z0[1]? =some (O.row 41 none z3),An [z3=z3,HfL z3],z0[2]? =some (O.map z2 (k+1)),An [z2=z2,HfE z2,Sm (k+1)],z0[3]? =some (O.row 158 none (toC cards cs size 1 2 4 (k+1))),An [An [Sm cards.length,Sm (ints cards)],An [Sm cs.length,Sm (List.map sl cs)],An [Zz,Sm size,Sm (size-size)],Tt,An [Zz,Sm (k+1),Tt],Tt],z0[4]? =some (O.row 41 (some 18) z1),An [z1=z1,HfL z1],Tt])=_) ?_
  (repeat'(first|(with_reducible apply And.intro)|(refine fun(_:True)=>?_)))
  all_goals first|exact aq|exact hB|exact hS|exact hE|exact hg|exact hc|exact hlo|exact hu|rfl|skip)
theorem rt_miss(L:List Int)(P:List Nat)(cards:List Int)(cs:List (List Int))(F:Nat→Nat→Nat→Int)(B:Nat→Nat→Int)(size:Nat)(q q':Nat→Nat×Nat)(k s v p:Nat)(x:Nat→Int)
  (h:CallSpec Pg g0 (.fn 90 []) [.ptr 2 0,i6 (s:Nat),i6 (v:Nat),u6 (p:Nat)] (ofOs .e 0 (toO1 cards cs F B size q k)) 4 ⟨.tup [ar x,i6 0],ofOs .e 0 (toO2 cards cs F B size q' (k+1)),5,[1,2,3]⟩):
  CallSpec Pg g0 (.fn 90 []) [.ptr 3 0,i6 (s:Nat),i6 (v:Nat),u6 (p:Nat)] (ofOs .e 0 (rtO L P cards cs F B size q k)) 5 ⟨.tup [ar x,i6 0],ofOs .e 0 (rtO2 L P cards cs F B size q' (k+1)),6,[2,3,4]⟩:=by
 have hB:=Qaa B size
 have hE:=Qac q (k+1)
 have hS:=Qaa (scF F q) (k+1)
 have hE2:=Qac q' (k+1+1)
 have hS2:=Qaa (scF F q') (k+1+1)
 have hg:=Qas cs
 have hc:=Qae cards
 have hlo:=Qae L
 have hu:=Qaq P
 exact CallSpec.frameL (OS:=rtO L P cards cs F B size q k) (OS':=rtO2 L P cards cs F B size q' (k+1)) [1,2,3,4] [(1,0),(2,1),(3,2),(4,3),(5,4)] [0,0,1] [0,0,0,1] h (by kernel_rfl) (by
  refine Eq.mp (by kernel_rfl:(An [Zz,Sm (↑s:Int),Sm (↑v:Int),Sm (↑p:Int),Tt])=_) ?_
  (repeat'(first|(with_reducible apply And.intro)|(refine fun(_:True)=>?_)))<;>first|exact aq|skip) (by
  refine Eq.mp (by kernel_rfl:(let z0:=bF (scF F q) (k+1);let z1:=entM q (k+1);An [An [Sm (bF B size),HfL (bF B size)],An [z1=z1,HfE z1,Sm (k+1)],An [An [Sm cards.length,Sm (ints cards)],An [Sm cs.length,Sm (List.map sl cs)],An [Zz,Sm size,Sm (size-size)],Tt,An [Zz,Sm (k+1),Tt],Tt],An [z0=z0,HfL z0],Tt])=_) ?_
  (repeat'(first|(with_reducible apply And.intro)|(refine fun(_:True)=>?_)))
  all_goals first|exact aq|exact hB|exact hS|exact hE|exact hS2|exact hE2|exact hg|exact hc|exact hlo|exact hu|rfl|skip) (by
  refine Eq.mp (by kernel_rfl:(An [An [x 0=x 0,x 1=x 1,x 2=x 2,x 3=x 3,x 4=x 4,x 5=x 5,x 6=x 6,x 7=x 7,x 8=x 8,x 9=x 9,Sm (x 10),Sm (x 11),Sm (x 12),Sm (x 13),Sm (x 14),Sm (x 15),Sm (x 16),Sm (x 17),Tt],Sm (0:Int),Tt])=_) ?_
  (repeat'(first|(with_reducible apply And.intro)|(refine fun(_:True)=>?_)))<;>first|exact aq|skip) (by
  refine Eq.mp (by kernel_rfl:(let z0:=rtO L P cards cs F B size q k;let z1:=bF (scF F q') (k+1+1);let z2:=entM q' (k+1+1);let z3:=bF B size;An [z0[0]? =some (lO L P),z0[0]? =some (lO L P),z0[1]? =some (O.row 41 none z3),An [z3=z3,HfL z3],Tt,An [z2=z2,HfE z2,Sm (k+1+1)],Tt,An [An [Sm cards.length,Sm (ints cards)],An [Sm cs.length,Sm (List.map sl cs)],An [Zz,Sm size,Sm (size-size)],Tt,An [Zz,Sm (Nat.succ k+1),Tt],Tt],Tt,Tt,Tt,An [z1=z1,HfL z1],Tt])=_) ?_
  (repeat'(first|(with_reducible apply And.intro)|(refine fun(_:True)=>?_)))
  all_goals first|exact aq|exact hB|exact hS|exact hE|exact hS2|exact hE2|exact hg|exact hc|exact hlo|exact hu|rfl|skip)
section
variable (L:List Int) (P:List Nat) (cards:List Int) (cs:List (List Int)) (F:Nat→Nat→Nat→Int) (B:Nat→Nat→Int) (size lim:Nat)
abbrev rrS(x:Nat×(Nat→Nat×Nat)×Nat):SL:={sl:=[(1,i6 (lim:Nat)),(5,.ptr 0 0),(8,.ptr 3 0),(37,i6 (size:Nat)),(38,i6 (x.1:Nat))],os:=rtO L P cards cs F B size x.2.1 x.2.2,md:=[0,0,0,1]}
end
abbrev rtR(b:Bool):SL:={sl:=[(6,.bool b),(7,i6 0)]}
def rgtS(lim:Nat)(F:Nat→Nat→Nat→Int)(B:Nat→Nat→Int)(L:List Int)(P:List Nat)(s:Nat):Bool:=decide (popc (P.getD s 0)≤lim)&&eqA (addA (B (s-2^laL L s)) (F (laL L s) (paL P s)) 1) (B s)
structure AskOk(cards:List Int)(cs:List (List Int))(F:Nat→Nat→Nat→Int)(B:Nat→Nat→Int)(s v p:Nat):Prop where
 add:FnOk Pg g0 34 [ar (B (s-2^v)),ar (F v p)] (.tup [ar (addA (B (s-2^v)) (F v p) 1),i6 0])
 fam:FnOk Pg g0 22 [gV cards cs,i6 (v:Nat),u6 (p:Nat)] (.tup [ar (F v p),i6 0])
theorem rt_loop(L:List Int)(P:List Nat)(hP:S64 P)(cards:List Int)(cs:List (List Int))(F:Nat→Nat→Nat→Int)(B:Nat→Nat→Int)(n size lim:Nat)(hsz:size=2^n)(h:LdOk L P n)
  (hask: ∀s,0<s→s<size→popc (paL P s)≤lim→AskOk cards cs F B s (laL L s) (paL P s))(q0:Nat→Nat×Nat)(k0:Nat)(hk0:k0≤100000)(b:Bool)(hb:b=(List.range size).all (fun s=>decide (s=0)||rgtS lim F B L P s)):
  Sat Pg none 0 (at' 42 [1,1,1,1,0,1,0]) (mkSt g0 80 (rrS L P cards cs F B size lim (0,q0,k0))) (Qah g0 80 [(b=true,.exit 0,{sl:=[]}),(b=false,.ret,rtR false)]):=by
 have hB:=Qaa B size
 have hEE:=fun q k=>Qac q k
 have hSS:=fun q k=>Qaa (scF F q) k
 have hg:=Qas cs
 have hc:=Qae cards
 have hlo:=Qae L
 have hu:=Qaq P
 have h5:=h.w5
 have h32:size≤32:=by rw[hsz];exact Qat h5
 have e1:=h.lenL
 have e2:=h.lenP
 rw[←hsz]at e1 e2
 refine Qa6 vE_ok mixed Qab (b:=at' 42 [1,1,1,1,0,1,0,0]) (by kernel_rfl) (fun x=>x.1≤size∧x.2.2≤100000+x.1∧∀j,j<x.1→(decide (j=0)||rgtS lim F B L P j)=true) (rrS L P cards cs F B size lim) (fun x=>size-x.1) (fun x hx=>?_) (0,q0,k0) ⟨Nat.zero_le _,by dsimp only;omega,fun j hj=>absurd hj (Nat.not_lt_zero _)⟩
 obtain⟨s,q,k⟩:=x
 obtain⟨hs,hk,hj⟩:=hx
 dsimp only at hs hk hj
 have hE:=Qac q (k+1)
 have hS:=Qaa (scF F q) (k+1)
 by_cases hlt:s<size
 ·by_cases h0 : s = 0
  ·refine .inl ⟨(s + 1, q, k), [0, 1, 2, 3, 4], [yes 39, yes 42, nu 79 ((s + 1 : Nat) : Int)], 1000, ⟨hlt, by dsimp only; omega, fun j hj2 => by rw [decide_eq_true (show j = 0 by dsimp only at hj2; omega)]; rfl⟩, by dsimp only; omega, ?_⟩
   clear hj hb hask
   have hs0:((s:Int)==0)=true:=by rw[beq_iff_eq];omega
   refine Eq.mp (by kernel_rfl:(let z0:=bF (scF F q) (k+1);let z1:=(↑(s+1):Int);let z2:=(↑size:Int);let z3:=entM q (k+1);let z4:=(↑s:Int);An [decide (z4<z2)=true,(z4==(0:Int))=true,wr .i64 (z4+(1:Int))=z1,An [Sm (↑lim:Int),Zz,Zz,z2=z2,z1=z1,Tt],An [Sm [sl L,ul P],TT 2],An [Sm (bF B size),HfL (bF B size)],An [z3=z3,HfE z3,Sm (k+1)],An [An [Sm cards.length,Sm (ints cards)],An [Sm cs.length,Sm (List.map sl cs)],An [Zz,Sm size,Sm (size-size)],Tt,An [Zz,Sm (k+1),Tt],Tt],An [z0=z0,HfL z0],Tt])=_) ?_
   (repeat'(first|(with_reducible apply And.intro)|(refine fun(_:True)=>?_)))
   all_goals first|exact hB|exact hE|exact hS|exact hg|exact hc|exact hlo|exact hu|(with_reducible exact hs0)|exact aq|rfl|skip
  ·have hs0 : ((s : Int) == 0) = false := by rw [beq_eq_false_iff_ne]; omega
   obtain⟨a1,a2,a3⟩:=h.ok.at_ s (by omega) (by omega)
   have hld:=@Qar L s (by omega)
   rw[h.nn s (by omega) (by omega)]at hld
   have hlp:=@Qcn P s (by omega)
   have hpp:P.getD s 0<32:=by
    rw[show P.getD s 0=paL P s from rfl,←a3]
    exact Nat.lt_of_le_of_lt Nat.and_le_right (by have:=Nat.sub_le s (2^laL L s);omega)
   have hone:=Qk1 (P.getD s 0) hpp
   have hbad:rgtS lim F B L P s=false→b=false:=fun hh=>by
    rw[hb];exact Qbn hlt (by rw[hh,decide_eq_false h0];rfl)
   have hgood:rgtS lim F B L P s=true→∀j,j<s+1→(decide (j=0)||rgtS lim F B L P j)=true:=fun hh j hj1=>by
    rcases Nat.lt_succ_iff_lt_or_eq.1 hj1 with h2|h2
    ·exact hj j h2
    ·subst h2;rw[hh,Bool.or_true]
   have hask:=hask s (by omega) hlt
   have hpow:2^laL L s≤s:=(Qf1 s (by omega) _ (by omega) a2).1
   have s3:=fun G t=>@Qj2 G t (laL L s) (by omega)
   have s4:=fun G t=>@Qos G t s (laL L s) (by omega) (by omega) a2
   have htk:=@Qa3 B size s hlt
   unfold rgtS at hbad hgood
   unfold paL at hask hbad hgood
   by_cases hpc:popc (P.getD s 0)≤lim
   ·obtain ⟨hadd, hfam⟩ := hask hpc
    rw[decide_eq_true hpc,Bool.true_and]at hbad hgood
    clear hj hb
    generalize hv:laL L s=v at*
    generalize hpd:P.getD s 0=p at*
    clear hpd hv
    generalize hx:addA (B (s-2^v)) (F v p) 1=x at*
    have ht:s-2^v<size:=Nat.lt_of_le_of_lt (Nat.sub_le _ _) hlt
    generalize s-2^v=t at*
    generalize 2^v=bt at*
    have hpc':(lim:Int)<(popc p:Nat)↔False:=⟨fun hh=>by omega,False.elim⟩
    rcases find_entM q v p (k+1)with⟨j,hj1,hj2,hf⟩|⟨_,hf⟩
    ·have hcall := rt_hit L P cards cs F B size q k s v p x (Qmy cards cs F B size q k s t v p bt j x hj1 hj2 hf ht s3 s4 hadd)
     clear hf hfam hadd
     cases hEq:eqA x (B s)with
     |true=>
      have hg2:=hgood hEq
      have hEqn:(!eqA x (B s))=false:=by rw[hEq];rfl
      unfold eqA at hEqn
      refine .inl ⟨(s+1,q,k),[0,1,2,3,4],[yes 39,no 42,pl 46,ld 47 (u6 (p:Nat)),fn 48 (i6 (popc p:Nat)),no 50,pl 57,ld 58 (i6 (v:Nat)),pl 62,ld 63 (u6 (p:Nat)),(64,.call ⟨.tup [ar x,i6 0],ofOs .e 0 (rtO L P cards cs F B size q k),5,[]⟩),pl 76,ld 77 (ar (B s)),no 78,nu 79 ((s+1:Nat):Int)],1000,⟨hlt,by dsimp only;omega,hg2⟩,by dsimp only;omega,?_⟩
      clear hgood hbad hg2 hask hx
      refine Eq.mp (by kernel_rfl:(let z0:=(↑s:Int);let z1:=ofOs T.e 0 (rtO L P cards cs F B size q k);let z2:=(↑size:Int);let z3:=bF (scF F q) (k+1);let z4:=(↑(s+1):Int);let z5:=headF (List.drop (s*1) (ut P));let z6:=(0:Int);let z7:=entM q (k+1);let z8:=bF B size;let z9:=(↑lim:Int);An [decide (z0<z2)=true,(z0==z6)=false,An [z6≤z0,z0<(↑P.length:Int)],z5=some (u6 ↑p),An [Tt,Tt],FnOk Pg g0 65 [u6 ↑p] (i6 ↑(popc p)),Tt,decide ((↑(popc p):Int)>z9)=false,An [z6≤z0,z0<(↑L.length:Int)],headF (List.drop (s*1) (ints L))=some (i6 ↑v),An [z6≤z0,z0<(↑P.length:Int)],z5=some (u6 ↑p),CallSpec Pg g0 (V.fn 90 []) [V.ptr 3 0,i6 ↑s,i6 ↑v,u6 ↑p] z1 5 (CR.mk (V.tup [ar x,i6 0]) z1 5 []),Tt,An [z6≤z0,z0<z2],takeE 18 (dropF (0+s*18) z8)=some (arF (B s)),(!(x 0==B s 0&&(x 1==B s 1&&(x 2==B s 2&&(x 3==B s 3&&(x 4==B s 4&&(x 5==B s 5&&(x 6==B s 6&&(x 7==B s 7&&(x 8==B s 8&&(x 9==B s 9&&(x 10==B s 10&&(x 11==B s 11&&(x 12==B s 12&&(x 13==B s 13&&(x 14==B s 14&&(x 15==B s 15&&(x 16==B s 16&&(x 17==B s 17&&true)))))))))))))))))))=false,wr .i64 (z0+(1:Int))=z4,An [z9=z9,Zz,Zz,z2=z2,z4=z4,Tt],An [Sm [sl L,ul P],TT 2],An [z8=z8,HfL z8],An [z7=z7,HfE z7,Sm (k+1)],An [An [Sm cards.length,Sm (ints cards)],An [Sm cs.length,Sm (List.map sl cs)],An [Zz,Sm size,Sm (size-size)],Tt,An [Zz,Sm (k+1),Tt],Tt],An [z3=z3,HfL z3],Tt])=_) ?_
      (repeat'(first|(with_reducible apply And.intro)|(refine fun(_:True)=>?_)))
      all_goals first|exact hcall|exact hone|(with_reducible exact hld)|(with_reducible exact hlp)|(with_reducible exact htk)|(rw[Nat.zero_add];with_reducible exact htk)|(with_reducible exact hEqn)|exact hB|exact hE|exact hS|exact hg|exact hc|exact hlo|exact hu|(with_reducible exact hs0)|exact aq|rfl|skip
     |false=>
      have hb2:=hbad hEq
      have hEqn:(!eqA x (B s))=true:=by rw[hEq];rfl
      unfold eqA at hEqn
      refine .inr ⟨.ret,[],rtR false,[yes 39,no 42,pl 46,ld 47 (u6 (p:Nat)),fn 48 (i6 (popc p:Nat)),no 50,pl 57,ld 58 (i6 (v:Nat)),pl 62,ld 63 (u6 (p:Nat)),(64,.call ⟨.tup [ar x,i6 0],ofOs .e 0 (rtO L P cards cs F B size q k),5,[]⟩),pl 76,ld 77 (ar (B s)),yes 78],1000,.inr (.inl ⟨hb2,rfl,rfl⟩),?_⟩
      clear hgood hbad hb2 hask hx
      refine Eq.mp (by kernel_rfl:(let z0:=(↑s:Int);let z1:=ofOs T.e 0 (rtO L P cards cs F B size q k);let z2:=(0:Int);let z3:=headF (List.drop (s*1) (ut P));An [decide (z0<(↑size:Int))=true,(z0==z2)=false,An [z2≤z0,z0<(↑P.length:Int)],z3=some (u6 ↑p),An [Tt,Tt],FnOk Pg g0 65 [u6 ↑p] (i6 ↑(popc p)),Tt,decide ((↑(popc p):Int)>(↑lim:Int))=false,An [z2≤z0,z0<(↑L.length:Int)],headF (List.drop (s*1) (ints L))=some (i6 ↑v),An [z2≤z0,z0<(↑P.length:Int)],z3=some (u6 ↑p),CallSpec Pg g0 (V.fn 90 []) [V.ptr 3 0,i6 ↑s,i6 ↑v,u6 ↑p] z1 5 (CR.mk (V.tup [ar x,i6 0]) z1 5 []),Tt,An [z2≤z0,z0<(↑size:Int)],takeE 18 (dropF (0+s*18) (bF B size))=some (arF (B s)),(!(x 0==B s 0&&(x 1==B s 1&&(x 2==B s 2&&(x 3==B s 3&&(x 4==B s 4&&(x 5==B s 5&&(x 6==B s 6&&(x 7==B s 7&&(x 8==B s 8&&(x 9==B s 9&&(x 10==B s 10&&(x 11==B s 11&&(x 12==B s 12&&(x 13==B s 13&&(x 14==B s 14&&(x 15==B s 15&&(x 16==B s 16&&(x 17==B s 17&&true)))))))))))))))))))=true,An [Sm false,z2=z2,Tt],Tt])=_) ?_
      (repeat'(first|(with_reducible apply And.intro)|(refine fun(_:True)=>?_)))
      all_goals first|exact hcall|exact hone|(with_reducible exact hld)|(with_reducible exact hlp)|(with_reducible exact htk)|(rw[Nat.zero_add];with_reducible exact htk)|(with_reducible exact hEqn)|exact hB|exact hE|exact hS|exact hg|exact hc|exact hlo|exact hu|(with_reducible exact hs0)|exact aq|rfl|skip
    ·have hcall := rt_miss L P cards cs F B size q _ k s v p x (Qg3 cards cs F B size q k s t v p bt x (by omega) hf hfam ht s3 s4 hadd)
     have hE2:=Qac (upQ q (k+1) (v,p)) (k+1+1)
     have hS2:=Qaa (scF F (upQ q (k+1) (v,p))) (k+1+1)
     clear hf hfam hadd
     cases hEq:eqA x (B s)with
     |true=>
      have hg2:=hgood hEq
      have hEqn:(!eqA x (B s))=false:=by rw[hEq];rfl
      unfold eqA at hEqn
      refine .inl ⟨(s+1,upQ q (k+1) (v,p),k+1),[0,1,2,3,5],[yes 39,no 42,pl 46,ld 47 (u6 (p:Nat)),fn 48 (i6 (popc p:Nat)),no 50,pl 57,ld 58 (i6 (v:Nat)),pl 62,ld 63 (u6 (p:Nat)),(64,.call ⟨.tup [ar x,i6 0],ofOs .e 0 (rtO2 L P cards cs F B size (upQ q (k+1) (v,p)) (k+1)),6,[2,3,4]⟩),pl 76,ld 77 (ar (B s)),no 78,nu 79 ((s+1:Nat):Int)],1000,⟨hlt,by dsimp only;omega,hg2⟩,by dsimp only;omega,?_⟩
      clear hgood hbad hg2 hask hx
      generalize upQ q (k+1) (v,p)=q' at*
      refine Eq.mp (by kernel_rfl:(let z0:=(↑s:Int);let z1:=bF (scF F q') (k+1+1);let z2:=(↑size:Int);let z3:=entM q' (k+1+1);let z4:=(↑(s+1):Int);let z5:=headF (List.drop (s*1) (ut P));let z6:=(0:Int);let z7:=bF B size;let z8:=(↑lim:Int);An [decide (z0<z2)=true,(z0==z6)=false,An [z6≤z0,z0<(↑P.length:Int)],z5=some (u6 ↑p),An [Tt,Tt],FnOk Pg g0 65 [u6 ↑p] (i6 ↑(popc p)),Tt,decide ((↑(popc p):Int)>z8)=false,An [z6≤z0,z0<(↑L.length:Int)],headF (List.drop (s*1) (ints L))=some (i6 ↑v),An [z6≤z0,z0<(↑P.length:Int)],z5=some (u6 ↑p),CallSpec Pg g0 (V.fn 90 []) [V.ptr 3 0,i6 ↑s,i6 ↑v,u6 ↑p] (ofOs T.e 0 (rtO L P cards cs F B size q k)) 5 (CR.mk (V.tup [ar x,i6 0]) (ofOs T.e 0 (rtO2 L P cards cs F B size q' (k+1))) 6 [2,3,4]),Tt,An [z6≤z0,z0<z2],takeE 18 (dropF (0+s*18) z7)=some (arF (B s)),(!(x 0==B s 0&&(x 1==B s 1&&(x 2==B s 2&&(x 3==B s 3&&(x 4==B s 4&&(x 5==B s 5&&(x 6==B s 6&&(x 7==B s 7&&(x 8==B s 8&&(x 9==B s 9&&(x 10==B s 10&&(x 11==B s 11&&(x 12==B s 12&&(x 13==B s 13&&(x 14==B s 14&&(x 15==B s 15&&(x 16==B s 16&&(x 17==B s 17&&true)))))))))))))))))))=false,wr .i64 (z0+(1:Int))=z4,An [z8=z8,Zz,Zz,z2=z2,z4=z4,Tt],An [Sm [sl L,ul P],TT 2],An [z7=z7,HfL z7],An [z3=z3,HfE z3,Sm (k+1+1)],An [An [Sm cards.length,Sm (ints cards)],An [Sm cs.length,Sm (List.map sl cs)],An [Zz,Sm size,Sm (size-size)],Tt,An [Zz,Sm (Nat.succ k+1),Tt],Tt],An [z1=z1,HfL z1],Tt])=_) ?_
      (repeat'(first|(with_reducible apply And.intro)|(refine fun(_:True)=>?_)))
      all_goals first|exact hcall|exact hone|(with_reducible exact hld)|(with_reducible exact hlp)|(with_reducible exact htk)|(rw[Nat.zero_add];with_reducible exact htk)|(with_reducible exact hEqn)|exact hB|exact hE|exact hS|exact hE2|exact hS2|exact hg|exact hc|exact hlo|exact hu|(with_reducible exact hs0)|exact aq|rfl|skip
     |false=>
      have hb2:=hbad hEq
      have hEqn:(!eqA x (B s))=true:=by rw[hEq];rfl
      unfold eqA at hEqn
      refine .inr ⟨.ret,[],rtR false,[yes 39,no 42,pl 46,ld 47 (u6 (p:Nat)),fn 48 (i6 (popc p:Nat)),no 50,pl 57,ld 58 (i6 (v:Nat)),pl 62,ld 63 (u6 (p:Nat)),(64,.call ⟨.tup [ar x,i6 0],ofOs .e 0 (rtO2 L P cards cs F B size (upQ q (k+1) (v,p)) (k+1)),6,[2,3,4]⟩),pl 76,ld 77 (ar (B s)),yes 78],1000,.inr (.inl ⟨hb2,rfl,rfl⟩),?_⟩
      clear hgood hbad hb2 hask hx
      generalize upQ q (k+1) (v,p)=q' at*
      refine Eq.mp (by kernel_rfl:(let z0:=(↑s:Int);let z1:=(0:Int);let z2:=headF (List.drop (s*1) (ut P));An [decide (z0<(↑size:Int))=true,(z0==z1)=false,An [z1≤z0,z0<(↑P.length:Int)],z2=some (u6 ↑p),An [Tt,Tt],FnOk Pg g0 65 [u6 ↑p] (i6 ↑(popc p)),Tt,decide ((↑(popc p):Int)>(↑lim:Int))=false,An [z1≤z0,z0<(↑L.length:Int)],headF (List.drop (s*1) (ints L))=some (i6 ↑v),An [z1≤z0,z0<(↑P.length:Int)],z2=some (u6 ↑p),CallSpec Pg g0 (V.fn 90 []) [V.ptr 3 0,i6 ↑s,i6 ↑v,u6 ↑p] (ofOs T.e 0 (rtO L P cards cs F B size q k)) 5 (CR.mk (V.tup [ar x,i6 0]) (ofOs T.e 0 (rtO2 L P cards cs F B size q' (k+1))) 6 [2,3,4]),Tt,An [z1≤z0,z0<(↑size:Int)],takeE 18 (dropF (0+s*18) (bF B size))=some (arF (B s)),(!(x 0==B s 0&&(x 1==B s 1&&(x 2==B s 2&&(x 3==B s 3&&(x 4==B s 4&&(x 5==B s 5&&(x 6==B s 6&&(x 7==B s 7&&(x 8==B s 8&&(x 9==B s 9&&(x 10==B s 10&&(x 11==B s 11&&(x 12==B s 12&&(x 13==B s 13&&(x 14==B s 14&&(x 15==B s 15&&(x 16==B s 16&&(x 17==B s 17&&true)))))))))))))))))))=true,An [Sm false,z1=z1,Tt],Tt])=_) ?_
      (repeat'(first|(with_reducible apply And.intro)|(refine fun(_:True)=>?_)))
      all_goals first|exact hcall|exact hone|(with_reducible exact hld)|(with_reducible exact hlp)|(with_reducible exact htk)|(rw[Nat.zero_add];with_reducible exact htk)|(with_reducible exact hEqn)|exact hB|exact hE|exact hS|exact hE2|exact hS2|exact hg|exact hc|exact hlo|exact hu|(with_reducible exact hs0)|exact aq|rfl|skip
   ·rw [decide_eq_false hpc, Bool.false_and] at hbad
    have hb2:=hbad rfl
    clear hj hb hask hgood hbad
    generalize P.getD s 0=p at*
    refine .inr ⟨.ret,[],rtR false,[yes 39,no 42,pl 46,ld 47 (u6 (p:Nat)),fn 48 (i6 (popc p:Nat)),yes 50],1000,.inr (.inl ⟨hb2,rfl,rfl⟩),?_⟩
    clear hb2
    refine Eq.mp (by kernel_rfl:(let z0:=(↑s:Int);let z1:=(0:Int);An [decide (z0<(↑size:Int))=true,(z0==z1)=false,An [z1≤z0,z0<(↑P.length:Int)],headF (List.drop (s*1) (ut P))=some (u6 ↑p),An [Tt,Tt],FnOk Pg g0 65 [u6 ↑p] (i6 ↑(popc p)),Tt,decide ((↑(popc p):Int)>(↑lim:Int))=true,An [Sm false,z1=z1,Tt],Tt])=_) ?_
    (repeat'(first|(with_reducible apply And.intro)|(refine fun(_:True)=>?_)))
    all_goals first|exact hone|(with_reducible exact hlp)|exact hB|exact hE|exact hS|exact hg|exact hc|exact hlo|exact hu|(with_reducible exact hs0)|exact aq|rfl|skip
 ·have hall : b = true := by rw [hb]; exact Qan.2 fun j hj1 => hj j (by omega)
  refine .inr ⟨.exit 0,[],{sl:=[]},[no 39],1000,.inl ⟨hall,rfl,rfl⟩,?_⟩
  clear hj hall hb hask
  refine Eq.mp (by kernel_rfl:(An [decide ((↑s:Int)<(↑size:Int))=false,Tt,Tt])=_) ?_
  (repeat'(first|(with_reducible apply And.intro)|(refine fun(_:True)=>?_)))
  all_goals first|exact hB|exact hE|exact hS|exact hg|exact hc|exact hlo|exact hu|exact aq|rfl|skip
set_option maxHeartbeats 4000000
set_option maxRecDepth 100000
abbrev rtE(b:Bool)(e:Int):SL:={sl:=[(6,.bool b),(7,i6 e)]}
theorem sum_add1(f g:Nat→Int):ar (sumF f g)=ar (addA f g 1):=congrArg V.agg (Qbt fun k hk=>Qm6 f g hk)
theorem ask_ok{cards:List Int}{cs:List (List Int)}(hl2:cs.length≤40)(hcl: ∀c∈cs,c.length≤1000)(h:goodE cards cs=0)(hn:cards.length≤5){lim s v p:Nat}(hs:s<2^cards.length)(hv:v<cards.length)(hok:okT lim s v p=true)(B:Nat→Nat→Int)(hB:inB (B (s-2^v)) 800):AskOk cards cs (fF cards cs) B s v p:=by
 have hF:=fF_bd h hl2
 refine⟨?_,?_⟩
 ·have := add_ok (B (s - 2 ^ v)) (fF cards cs v p) (hB.inA (by decide)) ((hF v p).inA (by decide)) (by
   refine Qp1 fun k hk=>?_
   have h1:=hB k hk
   have h2:=hF v p k hk
   have:sumF (B (s-2^v)) (fF cards cs v p) k=B (s-2^v) k+1*fF cards cs v p k:=Qm6 _ _ hk
   omega)
  rwa [sum_add1]at this
 ·have ho := Qeb.1 hok
  have hps:p≤s:=by rw[←ho.1];exact Nat.and_le_right
  have hF2:fF cards cs v p=famG cards cs v p:=if_pos hv
  rw[hF2]
  refine Qq2 cards cs v p (by omega) (by omega) hcl h ?_
  unfold memB
  have e1:p/2^cards.length=0:=Nat.div_eq_of_lt (by omega)
  have e2:p/2^v%2=0:=by
   have:=ho.2.1
   rw[Nat.testBit_eq_decide_div_mod_eq]at this
   have:=of_decide_eq_false this
   omega
  simp[e1,e2,hv]
theorem rgt_all(n lim:Nat)(F:Nat→Nat→Nat→Int)(L:List Int)(P:List Nat)(h:LdOk L P n):(List.range (2^n)).all (fun s=>decide (s=0)||rgtS lim F (tabB n lim F (2^n)) L P s)=rgtB n lim F L P:=by
 have key: ∀s,s<2^n→(decide (s=0)||rgtS lim F (tabB n lim F (2^n)) L P s)=(decide (s=0)||(decide (popc (P.getD s 0)≤lim)&&eqA (addA (topB n lim F (s-2^laL L s)) (F (laL L s) (paL P s)) 1) (topB n lim F s))):=fun s hs=>by
  unfold rgtS
  rw[Qda,Qda,if_pos hs,if_pos (Nat.lt_of_le_of_lt (Nat.sub_le _ _) hs)]
 unfold rgtB
 apply Bool.eq_iff_iff.2
 constructor
 ·intro h;exact Qan.2 fun s hs=>by rw[←key s hs];exact Qan.1 h s hs
 ·intro h;exact Qan.2 fun s hs=>by rw[key s hs];exact Qan.1 h s hs
theorem Qib(cards:List Int)(cs:List (List Int))(lim:Nat)(L:List Int)(P:List Nat)(hP:S64 P)(he:Qel cards cs (lim:Int)=0)(hgood:goodL L P cards.length=true):FnOk Pg g0 42 [gV cards cs,i6 (lim:Int),lV L P] (.tup [.bool (rgtB cards.length lim (fF cards cs) L P),i6 0]):=by
 obtain⟨hg0,hn1,hn5,_,_,hl2,hcl⟩:=Qie he
 obtain⟨q,k,hk,h⟩:=Ql4 cards cs lim he
 have hck:=Qau L P hP
 have hvr:=Qbi L P
 rw[Qjf,Bool.and_eq_true]at hgood
 obtain⟨hb,hw⟩:=hgood
 have hw:=of_decide_eq_true hw
 have hlad:=Qfh hb
 rw[hb,if_pos rfl]at hck
 rw[hw]at hvr hlad
 have hF:=fF_bd hg0 hl2
 have hpos:1≤2^cards.length:=Nat.pow_pos (by decide)
 have h32:=Qat hn5
 have l:=rt_loop L P hP cards cs (fF cards cs) (tabB cards.length lim (fF cards cs) (2^cards.length)) cards.length (2^cards.length) lim rfl hlad (fun s h0 hs hpc=>by
  obtain⟨a1,a2,a3⟩:=hlad.ok.at_ s h0 hs
  have hp32:paL P s<32:=by
   rw[←a3];exact Nat.lt_of_le_of_lt Nat.and_le_right (by have:=Nat.sub_le s (2^laL L s);omega)
  refine ask_ok hl2 (fun c hc=>by rw[hcl c hc];omega) hg0 hn5 hs a1 ((Qec (by omega) (by omega) a2 hp32).2 ⟨a3,hpc⟩) _ ?_
  rw[Qda,if_pos (Nat.lt_of_le_of_lt (Nat.sub_le _ _) hs)]
  exact Qri hF hn5 (Nat.lt_of_le_of_lt (Nat.sub_le _ _) hs)) q k hk _ rfl
 rw[rgt_all _ _ _ _ _ hlad]at l
 have e1:=hlad.lenL
 have e2:=hlad.lenP
 generalize rgtB cards.length lim (fF cards cs) L P=b at*
 generalize tabB cards.length lim (fF cards cs) (2^cards.length)=B at*
 generalize laT cards.length lim (fF cards cs) (2^cards.length)=la at*
 generalize paT cards.length lim (fF cards cs) (2^cards.length)=pa at*
 generalize fF cards cs=F at*
 generalize 2^cards.length=size at*
 have hcall:=Qoz L P cards cs F size q B la pa k lim h
 have hB:=Qaa B size
 have hla:=Qag la size
 have hpa:=Qaf pa size
 have hE:=Qac q (k+1)
 have hS:=Qaa (scF F q) (k+1)
 have hg:=Qas cs
 have hc:=Qae cards
 have hlo:=Qae L
 have hu:=Qaq P
 have hrt:rrS L P cards cs F B size lim (0,q,k)={sl:=[(1,i6 (lim:Nat)),(5,.ptr 0 0),(8,.ptr 3 0),(37,i6 (L.length:Nat)),(38,i6 0)],os:=rtO L P cards cs F B size q k,md:=[0,0,0,1]}:=by rw[e1];rfl
 rw[hrt]at l
 clear h he hw hb hrt hF
 cases b with
 |true=>
  have l:=l.mono (Qb2 rfl (by simp))
  refine FnOk.of_vc vE_ok mixed Qab (n:=1000) (r:=[]) (S:=rtE true 0) (hs:=[(17,.call ⟨cbW size,ofOs .e 0 ([gO cards cs,lO L P]++cbD cards cs F size q B la pa k),8,[]⟩),fn 25 (i6 0),fn 29 (i6 (cards.length:Nat)),no 33,(0,.loop [1,2,3,4,7] {sl:=[(1,i6 (lim:Nat)),(5,.ptr 0 0),(8,.ptr 3 0),(37,i6 (L.length:Nat)),(38,i6 0)],os:=rtO L P cards cs F B size q k,md:=[0,0,0,1]} [(True,.exit 0,{sl:=[]})])]) ?_
  refine Eq.mp (by kernel_rfl:(let z1:=ofOs T.e 0 ([gO cards cs,lO L P]++cbD cards cs F size q B la pa k);let z2:=[V.agg [V.im L.length (ints L),V.im P.length (ut P)]];let z3:=[sl L,ul P];let z4:=bF (scF F q) (k+1);let z5:=entM q (k+1);let z6:=V.tup [V.bool true,i6 0];let z7:=(↑cards.length:Int);let z8:=(0:Int);let z9:=i6 ↑cards.length;let y0:=some (size-size);let z0:=pt (pt z1 8 (O.row 77 none [V.nils,V.nils])) 8 (O.row 77 none [V.sl 5 0 size y0,V.sl 6 0 size y0]);An [z6=z6,CallSpec Pg g0 (V.fn 88 []) [V.agg [sl cards,gC cs],i6 ↑lim] (pt (pt T.e 0 (O.row 32 none [sl cards,gC cs])) 1 (O.row 77 none z3)) 2 (CR.mk (cbW size) z1 8 []),Tt,An [TT 2,Tt],FnOk Pg g0 56 z2 (i6 0),Tt,An [TT 2,Tt],FnOk Pg g0 89 z2 z9,An [(V.fn 56 []=V.fn 89 []→[V.agg z3]=[V.agg z3]→z0=z0→8+1=9→CR.mk (i6 0) z0 9 []=CR.mk z9 z0 9 []),Tt],(z7 != z7)=false,An [An [Sm (↑lim:Int),Zz,Zz,Sm (↑L.length:Int),z8=z8,Tt],An [z3=z3,TT 2],An [Sm (bF B size),HfL (bF B size)],An [z5=z5,HfE z5,Sm (k+1)],An [An [Sm cards.length,Sm (ints cards)],An [Sm cs.length,Sm (List.map sl cs)],An [Zz,Sm size,Sm (size-size)],Tt,An [Zz,Sm (k+1),Tt],Tt],An [z4=z4,HfL z4],Tt],Sat Pg none 0 (at' 42 [1,1,1,1,0,1,0]) (mkSt g0 80 (SL.mk [(1,i6 ↑lim),(5,V.ptr 0 0),(8,V.ptr 3 0),(37,i6 ↑L.length),(38,i6 0)] (rtO L P cards cs F B size q k) [] [0,0,0,1])) (Qah g0 80 [(True,Ex.exit 0,SL.mk [] [] [] [])]),(True→An [An [Sm true,z8=z8,Tt],Tt]),Tt])=_) ?_
  (repeat'(first|(with_reducible apply And.intro)|(refine fun(_:True)=>?_)))
  all_goals first|exact l|exact hcall|exact hck|exact hvr|exact hg|exact hc|exact hB|exact hla|exact hpa|exact hE|exact hS|exact hlo|exact hu|exact aq|rfl|skip
 |false=>
  have l:=l.mono (Qb3 (by simp) rfl)
  refine FnOk.of_vc vE_ok mixed Qab (n:=1000) (r:=[]) (S:=rtE false 0) (hs:=[(17,.call ⟨cbW size,ofOs .e 0 ([gO cards cs,lO L P]++cbD cards cs F size q B la pa k),8,[]⟩),fn 25 (i6 0),fn 29 (i6 (cards.length:Nat)),no 33,(0,.loop [1,2,3,4,7] {sl:=[(1,i6 (lim:Nat)),(5,.ptr 0 0),(8,.ptr 3 0),(37,i6 (L.length:Nat)),(38,i6 0)],os:=rtO L P cards cs F B size q k,md:=[0,0,0,1]} [(True,.ret,rtR false)])]) ?_
  refine Eq.mp (by kernel_rfl:(let z1:=ofOs T.e 0 ([gO cards cs,lO L P]++cbD cards cs F size q B la pa k);let z2:=[V.agg [V.im L.length (ints L),V.im P.length (ut P)]];let z3:=[sl L,ul P];let z4:=bF (scF F q) (k+1);let z5:=entM q (k+1);let z6:=V.tup [V.bool false,i6 0];let z7:=(↑cards.length:Int);let z8:=(0:Int);let z9:=i6 ↑cards.length;let y0:=some (size-size);let z0:=pt (pt z1 8 (O.row 77 none [V.nils,V.nils])) 8 (O.row 77 none [V.sl 5 0 size y0,V.sl 6 0 size y0]);An [z6=z6,CallSpec Pg g0 (V.fn 88 []) [V.agg [sl cards,gC cs],i6 ↑lim] (pt (pt T.e 0 (O.row 32 none [sl cards,gC cs])) 1 (O.row 77 none z3)) 2 (CR.mk (cbW size) z1 8 []),Tt,An [TT 2,Tt],FnOk Pg g0 56 z2 (i6 0),Tt,An [TT 2,Tt],FnOk Pg g0 89 z2 z9,An [(V.fn 56 []=V.fn 89 []→[V.agg z3]=[V.agg z3]→z0=z0→8+1=9→CR.mk (i6 0) z0 9 []=CR.mk z9 z0 9 []),Tt],(z7 != z7)=false,An [An [Sm (↑lim:Int),Zz,Zz,Sm (↑L.length:Int),z8=z8,Tt],An [z3=z3,TT 2],An [Sm (bF B size),HfL (bF B size)],An [z5=z5,HfE z5,Sm (k+1)],An [An [Sm cards.length,Sm (ints cards)],An [Sm cs.length,Sm (List.map sl cs)],An [Zz,Sm size,Sm (size-size)],Tt,An [Zz,Sm (k+1),Tt],Tt],An [z4=z4,HfL z4],Tt],Sat Pg none 0 (at' 42 [1,1,1,1,0,1,0]) (mkSt g0 80 (SL.mk [(1,i6 ↑lim),(5,V.ptr 0 0),(8,V.ptr 3 0),(37,i6 ↑L.length),(38,i6 0)] (rtO L P cards cs F B size q k) [] [0,0,0,1])) (Qah g0 80 [(True,Ex.ret,rtR false)]),(True→An [An [Sm false,z8=z8,Tt],Tt]),Tt])=_) ?_
  (repeat'(first|(with_reducible apply And.intro)|(refine fun(_:True)=>?_)))
  all_goals first|exact l|exact hcall|exact hck|exact hvr|exact hg|exact hc|exact hB|exact hla|exact hpa|exact hE|exact hS|exact hlo|exact hu|exact aq|rfl|skip
set_option maxHeartbeats 1000000
def redP(lim:Nat):Nat→Nat→Nat
 |0,p=>p
 |f+1,p=>if lim<popc p then redP lim f (p&&& (p-1))else p
def drV(n s:Nat):Nat→Nat→Nat
 |0,v=>v
 |f+1,v=>if s.testBit v then v else drV n s f ((v+1)%n)
theorem drV_all: ∀n:Nat,n<6→∀s:Nat,s<32→∀v:Nat,v<5→(n=0∨2^n≤s∨s=0∨n≤v∨(s.testBit (drV n s 5 v)=true∧drV n s 5 v<n)):=by decide+kernel
theorem drV_ok{n s v:Nat}(h1:1≤n)(h5:n≤5)(h0:0<s)(hs:s<2^n)(hv:v<n):s.testBit (drV n s 5 v)=true∧drV n s 5 v<n:=by
 have h32:=Qat h5
 rcases drV_all n (by omega) s (by omega) v (by omega)with h|h|h|h|h
 ·omega
 ·omega
 ·omega
 ·omega
 ·exact h
section
variable (n:Nat) (a b:Nat→Nat)
def dlV(s:Nat):Nat:=drV n s 5 (a s%n)
def dlA(k s:Nat):Nat:=if 0<s∧s<k then dlV n a s else 0
def dlB(k s:Nat):Nat:=if 0<s∧s<k then b s&&& (s-2^dlV n a s)else 0
end
theorem dlA_next(n:Nat)(a:Nat→Nat){k:Nat}(hk:0<k):(fun i=>if i=k then dlV n a k else dlA n a k i)=dlA n a (k+1):=by
 funext i
 unfold dlA
 by_cases h:i=k
 ·subst h;rw[if_pos rfl,if_pos ⟨hk,by omega⟩]
 ·rw [if_neg h]
  by_cases h2:0<i∧i<k
  ·rw[if_pos h2,if_pos (by omega)]
  ·rw[if_neg h2,if_neg (by omega)]
theorem dlB_next(n:Nat)(a b:Nat→Nat){k:Nat}(hk:0<k):(fun i=>if i=k then b k&&& (k-2^dlV n a k)else dlB n a b k i)=dlB n a b (k+1):=by
 funext i
 unfold dlB
 by_cases h:i=k
 ·subst h;rw[if_pos rfl,if_pos ⟨hk,by omega⟩]
 ·rw [if_neg h]
  by_cases h2:0<i∧i<k
  ·rw[if_pos h2,if_pos (by omega)]
  ·rw[if_neg h2,if_neg (by omega)]
theorem dl_S64{n:Nat}(a b:Nat→Nat)(h5:n≤5):S64 (mkP (dlB n a b (2^n)) n):=mk_S64 fun s hs=>by
 have h32:=Qat h5
 unfold dlB
 split
 ·exact Nat.lt_of_le_of_lt Nat.and_le_right (by have:=Nat.sub_le s (2^dlV n a s);omega)
 ·decide
theorem Qoq: ∀b:Nat,b<256→∀s:Nat,s<32→IntKind.u64.wrap ((BitVec.ofInt 64 (b:Int)&&& BitVec.ofInt 64 (s:Int)).toNat:Int)=((b&&& s:Nat):Int):=by decide+kernel
theorem and_u8{G:Ctx}{t b s:Nat}(hb:b<256)(hs:s<32):binV G .and t (u6 (b:Int)) (u6 (s:Int))=some (u6 ((b&&& s:Nat):Int)):=by
 have e:binV G .and t (u6 (b:Int)) (u6 (s:Int))=some (.int .u64 (IntKind.u64.wrap ((BitVec.ofInt 64 (b:Int)&&& BitVec.ofInt 64 (s:Int)).toNat:Int))):=rfl
 rw[e,Qoq b hb s hs]
theorem Qor: ∀x:Nat,x<32→∀v:Nat,v<5→IntKind.u64.wrap ((BitVec.ofInt 64 (x:Int)&&& ~~~ BitVec.ofInt 64 ((2^v:Nat):Int)).toNat:Int)=((x&&& (31-2^v):Nat):Int):=by decide+kernel
theorem andn_all2: ∀s:Nat,s<32→∀v:Nat,v<5→(s.testBit v=false∨s&&& (31-2^v)=s-2^v):=by decide+kernel
theorem andn_u8{G:Ctx}{t b s v:Nat}(hs:s<32)(hv:v<5)(h:s.testBit v=true):binV G .andNot t (u6 ((b&&& s:Nat):Int)) (u6 ((2^v:Nat):Int))=some (u6 ((b&&& (s-2^v):Nat):Int)):=by
 have hx:b&&& s<32:=Nat.lt_of_le_of_lt Nat.and_le_right hs
 have e:binV G .andNot t (u6 ((b&&& s:Nat):Int)) (u6 ((2^v:Nat):Int))=some (.int .u64 (IntKind.u64.wrap ((BitVec.ofInt 64 ((b&&& s:Nat):Int)&&& ~~~ BitVec.ofInt 64 ((2^v:Nat):Int)).toNat:Int))):=rfl
 rw[e,Qor _ hx v hv]
 rcases andn_all2 s hs v hv with e|e
 ·rw[h]at e;cases e
 ·rw[Nat.and_assoc,e]
set_option maxHeartbeats 4000000
set_option maxRecDepth 100000
def litF(l:List Int):Nat→Int:=fun i=>l.getD i 0
abbrev exC:List Int:=[2,2]
abbrev exD:List (List Int):=[[0,0],[0,0],[1,1],[0,1]]
def exG(v p:Nat):Nat→Int:=match v,p with
 |0,0=>litF [-2,0,-1]
 |0,2=>litF [-1,-2]
 |1,0=>litF [-1,-1,-1]
 |1,1=>litF [-3,-1]
 | _,_=>fF exC exD v p
theorem Qi9: ∀v,v<2→∀p,p<4→∀i,i<18→fF exC exD v p i=exG v p i:=by decide+kernel
def exT(lim:Nat)(s:Nat):Nat→Int:=match s with
 |1=>litF [-2,0,-1]
 |2=>litF [-1,-1,-1]
 |3=>if lim=0 then litF [-3,-1,-2]else litF [-5,-1,-1]
 | _=>Qak
theorem exT0: ∀s,s<4→∀i,i<18→valO (outB 0 exG (exT 0) s 2) i=exT 0 s i:=by decide+kernel
theorem exT1: ∀s,s<4→∀i,i<18→valO (outB 1 exG (exT 1) s 2) i=exT 1 s i:=by decide+kernel
theorem Qpf: ∀s,s<4→∀i,i<18→topB 2 0 (fF exC exD) s i=exT 0 s i:=fun s hs=>(Qm8 (lim:=0) (exT 0) 4 Qi9 exT0 s hs).2
theorem Qkl: ∀s,s<4→∀i,i<18→topB 2 1 (fF exC exD) s i=exT 1 s i:=fun s hs=>(Qm8 (lim:=1) (exT 1) 4 Qi9 exT1 s hs).2
noncomputable def vcFi2(P:Program)(E:Env)(sp:Qdb)(gl:T (List V))(n:Nat)(ars:List V)(hs:Hs)(r1:List Nat)(S1:SL)(r:List Nat)(S:SL)(v:V):Option FI→Prop
 |some fi=>bif Nat.ble ars.length fi.ntmps&&hfB v then retP v (retV E.G (mkSt gl fi.ntmps S).tm (mkSt gl fi.ntmps S).H fi.res)∧gcP 0 r (mkSt gl fi.ntmps S1) S∧vc P E sp none 0 n fi.body hs ⟨⟨Qdh (blank fi.ntmps) 0 ars,gl,fi.ntmps⟩,.e,0,[]⟩ (kFin fi.ntmps r1 S1)else False
 |none=>False
theorem FnOk.of_vc2{P:Program}{E:Env}{sp:Qdb}(hE:E.Ok P)(hm:P.follows .mixedOrders=true){gl:T (List V)}(hsp:Qbf P gl sp){n f:Nat}{ars:List V}{hs:Hs}{r1:List Nat}{S1:SL}{r:List Nat}{S:SL}{v:V}(h:vcFi2 P E sp gl n ars hs r1 S1 r S v (E.code f)):FnOk P gl f ars v:=by
 unfold vcFi2 at h
 split at h
 ·rename_i fi hfi
  obtain⟨hb,hret,hgc,hv⟩:=Qai h
  rw[Bool.and_eq_true]at hb
  have hret':retV E.G (mkSt gl fi.ntmps S).tm (mkSt gl fi.ntmps S).H fi.res=some v:=by
   unfold retP at hret
   split at hret
   ·rename_i u e;rw[e,hret]
   ·exact hret.elim
  rw[Qb7]at hv
  refine CallSpec.fnC hE hfi (by rw[List.append_nil];exact hb.1) (Log.refl _ _ _) (R:=fun e st=>(e= .normal∨e= .ret)∧st=mkSt gl fi.ntmps S) ?_ ?_
  ·rw [List.append_nil]
   refine Sat.gc_post (Sat.gc_post (Sat.of_vc hE hm hsp rfl hv fun e hs' st' hg hk=>?_))
   unfold kFin at hk
   have fin:(bif Nat.beq st'.tm.n fi.ntmps then gcP 0 r1 st' S1 else False)→∃r0 st2,Gc 0 r0 st' st2∧∃r1' st3,Gc 0 r1' st2 st3∧st3=mkSt gl fi.ntmps S:=by
    intro hk
    obtain⟨hb,hk⟩:=Qai hk
    have hn:=Nat.eq_of_beq_eq_true hb
    have g1:=Qc8 hk
    rw[hg,hn]at g1
    exact⟨r1,_,g1,r,_,Qc8 hgc,rfl⟩
   cases e with
   |exit=>exact hk.elim
   |normal=>obtain⟨r0,st2,h1,r2,st3,h2,h3⟩:=fin hk;exact⟨r0,st2,h1,r2,st3,h2,.inl rfl,h3⟩
   |ret=>obtain⟨r0,st2,h1,r2,st3,h2,h3⟩:=fin hk;exact⟨r0,st2,h1,r2,st3,h2,.inr rfl,h3⟩
  ·rintro e st ⟨he, rfl⟩
   refine⟨he,v,hret',fun s w ee w' hH hn⟨u,s',h1,g1,g2,g3,_,_⟩=>?_⟩
   subst h1
   obtain⟨s'',q1,q2,q3,q4⟩:=Qe5 hH g1 (Qjg.1 v hb.2) g3 (fun h _=>hn h (Nat.zero_le _)) (fun b hb=>g2.old b (.inl hb))
   exact⟨u,s'',rfl,q1,q2,q3,fun i=>by rw[q4];exact dom_same s _ i,Nat.le_refl _⟩
 ·exact h.elim
theorem Qia{n lim:Nat}{F G:Nat→Nat→Nat→Int}{T:Nat→Nat→Int}{L:List Int}{P:List Nat}(h:LdOk L P n)(hT: ∀s,s<2^n→∀i,i<18→topB n lim F s i=T s i)(hG: ∀v,v<n→∀p,p<2^n→∀i,i<18→F v p i=G v p i):rgtB n lim F L P=(List.range (2^n)).all fun s=>decide (s=0)||(decide (popc (P.getD s 0)≤lim)&&eqA (addA (T (s-2^laL L s)) (G (laL L s) (paL P s)) 1) (T s)):=by
 have key: ∀s,s<2^n→(decide (s=0)||(decide (popc (P.getD s 0)≤lim)&&eqA (addA (topB n lim F (s-2^laL L s)) (F (laL L s) (paL P s)) 1) (topB n lim F s)))=(decide (s=0)||(decide (popc (P.getD s 0)≤lim)&&eqA (addA (T (s-2^laL L s)) (G (laL L s) (paL P s)) 1) (T s))):=fun s hs=>by
  by_cases h0:s=0
  ·rw[decide_eq_true h0];rfl
  ·obtain ⟨a1, a2, a3⟩ := h.ok.at_ s (by omega) hs
   have hp:paL P s<2^n:=by
    rw[←a3];exact Nat.lt_of_le_of_lt Nat.and_le_right (by have:=Nat.sub_le s (2^laL L s);omega)
   congr 2
   apply Bool.eq_iff_iff.2
   rw[Qhp,Qhp]
   have ht:=Nat.sub_le s (2^laL L s)
   constructor
   ·intro hh i hi
    rw[Qd4,←hT _ (by omega) i hi,←hG _ a1 _ hp i hi,←hT _ hs i hi,←hh i hi,Qd4]
   ·intro hh i hi
    rw[Qd4,hT _ (by omega) i hi,hG _ a1 _ hp i hi,hT _ hs i hi,←hh i hi,Qd4]
 unfold rgtB
 apply Bool.eq_iff_iff.2
 constructor
 ·intro h;exact Qan.2 fun s hs=>by rw[←key s hs];exact Qan.1 h s hs
 ·intro h;exact Qan.2 fun s hs=>by rw[key s hs];exact Qan.1 h s hs
abbrev l1L:List Int:=[0,0,1,1]
abbrev l1P:List Nat:=[0,0,0,1]
abbrev l2L:List Int:=[0,0,1,0]
abbrev l2P:List Nat:=[0,0,0,2]
theorem Qn7{a b c d:Nat}(ha:a<100)(hb:b<100)(hc:c<100)(hd:d<100):S64 [a,b,c,d]:=fun x hx=>by
 simp at hx
 omega
theorem Qd8:Qel exC exD 0=0∧Qel exC exD 1=0∧Qel exC exD 5=2:=by decide+kernel
theorem l1_ok:LdOk l1L l1P 2:=Qfh (L:=l1L) (P:=l1P) (by decide+kernel)
theorem l2_ok:LdOk l2L l2P 2:=Qfh (L:=l2L) (P:=l2P) (by decide+kernel)
theorem r11:rgtB 2 1 (fF exC exD) l1L l1P=true:=by rw[Qia l1_ok Qkl Qi9];decide+kernel
theorem r12:rgtB 2 1 (fF exC exD) l2L l2P=false:=by rw[Qia l2_ok Qkl Qi9];decide+kernel
theorem r01:rgtB 2 0 (fF exC exD) l1L l1P=false:=by rw[Qia l1_ok Qpf Qi9];decide+kernel
theorem over_600:FnOk Pg g0 96 [i6 600] (ar (litF [-3,-1,-2])):=FnOk.of_run vE_ok mixed (n:=100000) rfl (by kernel_rfl)
theorem over_480:FnOk Pg g0 96 [i6 480] (ar (litF [-5,-1,-1])):=FnOk.of_run vE_ok mixed (n:=100000) rfl (by kernel_rfl)
theorem Qns:FnOk Pg g0 66 [] (gV exC exD):=by
 refine FnOk.of_vc2 vE_ok mixed Qab (n:=1000) (r1:=[0,6]) (S1:={sl:=[(0,.ptr 0 0)],os:=[.row 32 none [sl exC,.sl 1 0 4 (some 0)],.row 29 none [sl [0,0],sl [0,0],sl [1,1],sl [0,1]]],md:=[1,1]}) (r:=[0]) (S:={sl:=[(0,.ptr 0 0)],os:=[.row 32 none [sl exC,gC exD]],md:=[1]}) (hs:=[]) ?_
 refine Eq.mp (by kernel_rfl:(let z0:=(0:Int);let z1:=(1:Int);An [V.agg [sl exC,gC exD]=gV exC exD,An [An [Zz,Tt],An [An [2=2,Sm (ints exC)],An [4=4,List.map sl exD=[sl [z0,z0],sl [z0,z0],sl [z1,z1],sl [z0,z1]],TT 4],Tt],Tt],An [Zz,Tt],An [An [2=2,ints exC=[i6 2,i6 2],TT 2],An [Zz,4=4,Zz],Tt],An [An [2=2,ints [z0,z0]=[i6 0,i6 0],TT 2],An [2=2,ints [z0,z0]=[i6 0,i6 0],TT 2],An [2=2,ints [z1,z1]=[i6 1,i6 1],TT 2],An [2=2,ints [z0,z1]=[i6 0,i6 1],TT 2],Tt],Tt])=_) ?_
 (repeat'(first|(with_reducible apply And.intro)|(refine fun(_:True)=>?_)))
 all_goals first|exact aq|rfl|skip
theorem top_0:FnOk Pg g0 41 [gV exC exD,i6 0] (.tup [ar (litF [-3,-1,-2]),i6 0]):=by
 have h:=top_ok exC exD 0 Qd8.1
 rw[show ar (topB exC.length 0 (fF exC exD) (2^exC.length-1))=ar (litF [-3,-1,-2])from congrArg V.agg (Qbt (Qpf 3 (by decide)))]at h
 exact h
theorem top_1:FnOk Pg g0 41 [gV exC exD,i6 1] (.tup [ar (litF [-5,-1,-1]),i6 0]):=by
 have h:=top_ok exC exD 1 Qd8.2.1
 rw[show ar (topB exC.length 1 (fF exC exD) (2^exC.length-1))=ar (litF [-5,-1,-1])from congrArg V.agg (Qbt (Qkl 3 (by decide)))]at h
 exact h
theorem top_5:FnOk Pg g0 41 [gV exC exD,i6 5] (.tup [ar Qak,i6 2]):=top_bad exC exD 5 (by decide) (by decide) 2 Qd8.2.2 (by decide)
abbrev wkO:List O:=[.row 32 none [sl exC,gC exD],.row 41 none (arF (litF [-3,-1,-2])),.row 41 none (arF (litF [-5,-1,-1])),.row 3 none [i6 0,i6 0,i6 1,i6 1],.row 28 none [u6 0,u6 0,u6 0,u6 1],.row 77 none [.sl 3 0 4 (some 0),.sl 4 0 4 (some 0)],.row 3 none [i6 0,i6 0,i6 1,i6 0],.row 28 none [u6 0,u6 0,u6 0,u6 2],.row 77 none [.sl 6 0 4 (some 0),.sl 7 0 4 (some 0)]]
abbrev wkO1:List O:=wkO++[.row 28 none [u6 0,u6 1]]
theorem wk_small(n:Nat)(h:n<9):n=0∨n=1∨n=2∨n=3∨n=4∨n=5∨n=6∨n=7∨n=8:=by omega
theorem wk_small1(n:Nat)(h:n<10):n=0∨n=1∨n=2∨n=3∨n=4∨n=5∨n=6∨n=7∨n=8∨n=9:=by omega
theorem chk_l1:FnOk Pg g0 56 [lV l1L l1P] (i6 0):=by
 have h:=Qau l1L l1P (Qn7 (by decide) (by decide) (by decide) (by decide))
 rw[show(if ladB l1L l1P then(0:Int)else 290)=0 by decide+kernel]at h
 exact h
theorem chk_l2:FnOk Pg g0 56 [lV l2L l2P] (i6 0):=by
 have h:=Qau l2L l2P (Qn7 (by decide) (by decide) (by decide) (by decide))
 rw[show(if ladB l2L l2P then(0:Int)else 290)=0 by decide+kernel]at h
 exact h
theorem var_l1:FnOk Pg g0 89 [lV l1L l1P] (i6 2):=by
 have h:=Qbi l1L l1P
 rw[show wdt l1L l1P=2 by decide+kernel]at h
 exact h
theorem var_l2:FnOk Pg g0 89 [lV l2L l2P] (i6 2):=by
 have h:=Qbi l2L l2P
 rw[show wdt l2L l2P=2 by decide+kernel]at h
 exact h
theorem gra_l1:CallSpec Pg g0 (.fn 40 []) [.agg [.sl 3 0 4 (some 0),.sl 4 0 4 (some 0)]] (ofOs .e 0 wkO) 9 ⟨.tup [.sl 9 0 2 (some 0),i6 0],ofOs .e 0 wkO1,10,[]⟩:=by
 have h1:=chk_l1
 have h2:=var_l1
 refine CallSpec.of_vcH (P:=Pg) (E:=vE) vE_ok mixed Qab (n:=1000) (f:=40) (os0:=wkO) (ars:=[.agg [.sl 3 0 4 (some 0),.sl 4 0 4 (some 0)]]) (r:=[10]) (S:={sl:=[(2,.sl 9 0 2 (some 0)),(3,i6 0)],os:=wkO1,md:=[0,0,0,0,0,1,0,0,1]}) (v:=.tup [.sl 9 0 2 (some 0),i6 0]) (hs:=[fn 8 (i6 0),fn 13 (i6 2),(0,.unroll 5)]) (gl:=g0) (by simp) (fun i hi _=>by
   rcases wk_small i (by simpa using hi)with rfl|rfl|rfl|rfl|rfl|rfl|rfl|rfl|rfl<;>rfl) (by
  refine Eq.mp (by kernel_rfl:(let z9:=An [An [TT 4,TT 4,Tt],Tt];let z1:=arF (litF [(-3:Int),(-1:Int),(-2:Int)]);let z2:=arF (litF [(-5:Int),(-1:Int),(-1:Int)]);let z3:=[i6 0,i6 0,i6 1,i6 1];let z4:=[u6 0,u6 0,u6 0,u6 1];let z5:=Int.toNat (2:Int);let z6:=V.tup [V.sl 9 0 2 (some 0),i6 0];let z7:=[i6 0,i6 0,i6 1,i6 0];let z8:=[u6 0,u6 0,u6 0,u6 2];let z0:=[V.agg [V.im 4 z3,V.im 4 z4]];An [z6=z6,z9,FnOk Pg g0 56 z0 (i6 0),Tt,z9,FnOk Pg g0 89 z0 (i6 2),Tt,An [An [Zz,2=z5,0=z5-z5],Sm (0:Int),Tt],An [Sm [sl exC,gC exD],TT 2],An [z1=z1,TT 18],An [z2=z2,TT 18],An [z3=z3,TT 4],An [z4=z4,TT 4],An [An [Zz,4=4,Zz],An [Zz,4=4,Zz],Tt],An [z7=z7,TT 4],An [z8=z8,TT 4],An [An [Zz,4=4,Zz],An [Zz,4=4,Zz],Tt],An [Sm [u6 0,u6 1],TT 2],Tt])=_) ?_
  (repeat'(first|(with_reducible apply And.intro)|(refine fun(_:True)=>?_)))
  all_goals first|exact h1|exact h2|exact aq|rfl|skip)
theorem gra_l2:CallSpec Pg g0 (.fn 40 []) [.agg [.sl 6 0 4 (some 0),.sl 7 0 4 (some 0)]] (ofOs .e 0 wkO1) 10 ⟨.tup [.sl 10 0 2 (some 0),i6 0],ofOs .e 0 (wkO1++[.row 28 none [u6 2,u6 0]]),11,[]⟩:=by
 have h1:=chk_l2
 have h2:=var_l2
 refine CallSpec.of_vcH (P:=Pg) (E:=vE) vE_ok mixed Qab (n:=1000) (f:=40) (os0:=wkO1) (ars:=[.agg [.sl 6 0 4 (some 0),.sl 7 0 4 (some 0)]]) (r:=[11]) (S:={sl:=[(2,.sl 10 0 2 (some 0)),(3,i6 0)],os:=wkO1++[.row 28 none [u6 2,u6 0]],md:=[0,0,0,0,0,1,0,0,1]}) (v:=.tup [.sl 10 0 2 (some 0),i6 0]) (hs:=[fn 8 (i6 0),fn 13 (i6 2),(0,.unroll 5)]) (gl:=g0) (by simp) (fun i hi _=>by
   rcases wk_small1 i (by simpa using hi)with rfl|rfl|rfl|rfl|rfl|rfl|rfl|rfl|rfl|rfl<;>rfl) (by
  refine Eq.mp (by kernel_rfl:(let z9:=An [An [TT 4,TT 4,Tt],Tt];let z1:=arF (litF [(-3:Int),(-1:Int),(-2:Int)]);let z2:=arF (litF [(-5:Int),(-1:Int),(-1:Int)]);let z3:=[i6 0,i6 0,i6 1,i6 0];let z4:=[u6 0,u6 0,u6 0,u6 2];let z5:=Int.toNat (2:Int);let z6:=V.tup [V.sl 10 0 2 (some 0),i6 0];let z7:=[i6 0,i6 0,i6 1,i6 1];let z8:=[u6 0,u6 0,u6 0,u6 1];let z0:=[V.agg [V.im 4 z3,V.im 4 z4]];An [z6=z6,z9,FnOk Pg g0 56 z0 (i6 0),Tt,z9,FnOk Pg g0 89 z0 (i6 2),Tt,An [An [Zz,2=z5,0=z5-z5],Sm (0:Int),Tt],An [Sm [sl exC,gC exD],TT 2],An [z1=z1,TT 18],An [z2=z2,TT 18],An [z7=z7,TT 4],An [z8=z8,TT 4],An [An [Zz,4=4,Zz],An [Zz,4=4,Zz],Tt],An [z3=z3,TT 4],An [z4=z4,TT 4],An [An [Zz,4=4,Zz],An [Zz,4=4,Zz],Tt],An [Sm [u6 0,u6 1],TT 2],An [Sm [u6 2,u6 0],TT 2],Tt])=_) ?_
  (repeat'(first|(with_reducible apply And.intro)|(refine fun(_:True)=>?_)))
  all_goals first|exact h1|exact h2|exact aq|rfl|skip)
theorem rgt_11:FnOk Pg g0 42 [gV exC exD,i6 1,lV l1L l1P] (.tup [.bool true,i6 0]):=by
 have h:=Qib exC exD 1 l1L l1P (Qn7 (by decide) (by decide) (by decide) (by decide)) Qd8.2.1 (by decide+kernel)
 rw[show rgtB exC.length 1 (fF exC exD) l1L l1P=true from r11]at h
 exact h
theorem rgt_12:FnOk Pg g0 42 [gV exC exD,i6 1,lV l2L l2P] (.tup [.bool false,i6 0]):=by
 have h:=Qib exC exD 1 l2L l2P (Qn7 (by decide) (by decide) (by decide) (by decide)) Qd8.2.1 (by decide+kernel)
 rw[show rgtB exC.length 1 (fF exC exD) l2L l2P=false from r12]at h
 exact h
theorem rgt_01:FnOk Pg g0 42 [gV exC exD,i6 0,lV l1L l1P] (.tup [.bool false,i6 0]):=by
 have h:=Qib exC exD 0 l1L l1P (Qn7 (by decide) (by decide) (by decide) (by decide)) Qd8.1 (by decide+kernel)
 rw[show rgtB exC.length 0 (fF exC exD) l1L l1P=false from r01]at h
 exact h
theorem chk_a:FnOk Pg g0 56 [lV [0,1,1,1] [0,0,0,0]] (i6 290):=by
 have h:=Qau [0,1,1,1] [0,0,0,0] (Qn7 (by decide) (by decide) (by decide) (by decide))
 rw[show(if ladB [0,1,1,1] [0,0,0,0]then(0:Int)else 290)=290 by decide+kernel]at h
 exact h
theorem chk_b:FnOk Pg g0 56 [lV [0,0,1] [0,0,0]] (i6 290):=by
 have h:=Qau [0,0,1] [0,0,0] (fun x hx=>by simp at hx;omega)
 rw[show(if ladB [0,0,1] [0,0,0]then(0:Int)else 290)=290 by decide+kernel]at h
 exact h
theorem works29:FnOk Pg g0 60 [] (.bool true):=by
 have h1:=Qns
 have h2:=top_0
 have h3:=top_1
 have h4:=gra_l1
 have h5:=gra_l2
 have h6:=rgt_11
 have h7:=rgt_12
 have h8:=rgt_01
 have h9:=top_5
 have ha:=over_600
 have hb:=over_480
 have hc:=Qd7 [0,1] (by decide)
 have hd:=Qd7 [2,0] (by decide)
 have he:=chk_a
 have hf:=chk_b
 refine FnOk.of_vc vE_ok mixed Qab (n:=1000) (r:=[]) (S:={sl:=[(0,.bool true)]}) (hs:=[fn 21 (gV exC exD),fn 24 (.tup [ar (litF [-3,-1,-2]),i6 0]),fn 29 (.tup [ar (litF [-5,-1,-1]),i6 0]),(40,.call ⟨.tup [.sl 9 0 2 (some 0),i6 0],ofOs .e 0 wkO1,10,[]⟩),(45,.call ⟨.tup [.sl 10 0 2 (some 0),i6 0],ofOs .e 0 (wkO1++[.row 28 none [u6 2,u6 0]]),11,[]⟩),fn 51 (.tup [.bool true,i6 0]),fn 57 (.tup [.bool false,i6 0]),fn 63 (.tup [.bool false,i6 0]),fn 68 (.tup [ar Qak,i6 2]),fn 79 (ar (litF [-3,-1,-2])),fn 84 (ar (litF [-5,-1,-1])),fn 94 (.bool true),fn 103 (.bool true),fn 137 (i6 290),fn 144 (i6 290)]) ?_
 refine Eq.mp (by kernel_rfl:(let w0:=An [TT 2,Tt,An [TT 4,TT 4,Tt],Tt];let w1:=An [TT 2,Tt,Tt];let z1:=[(-3:Int),(-1:Int),(-2:Int)];let z2:=[(-5:Int),(-1:Int),(-1:Int)];let z5:=O.row 41 none [i6 0,i6 0,i6 0,i6 0,i6 0,i6 0,i6 0,i6 0,i6 0,i6 0,i6 0,i6 0,i6 0,i6 0,i6 0,i6 0,i6 0,i6 0];let z6:=V.agg [V.im 2 (ints exC),V.im 4 (List.map sl exD)];let z8:=V.bool true;let y0:=[V.sl 10 0 2 (some 0),V.sl 13 0 2 (some 0)];let y1:=[V.sl 9 0 2 (some 0),V.sl 12 0 2 (some 0)];let y3:=Int.toNat (4:Int);let y4:=Int.toNat (3:Int);let y8:=[V.sl 3 0 4 (some 0),V.sl 4 0 4 (some 0)];let y9:=[V.sl 6 0 4 (some 0),V.sl 7 0 4 (some 0)];let x0:=O.row 77 none [V.nils,V.nils];let x1:=[u6 2,u6 0];let x2:=V.tup [V.bool false,i6 0];let x3:=[i6 0,i6 0,i6 1,i6 1];let x4:=[u6 0,u6 0,u6 0,u6 1];let x5:=[i6 0,i6 0,i6 1,i6 0];let x6:=[u6 0,u6 0,u6 0,u6 2];let x7:=[i6 0,i6 1,i6 1,i6 1];let x8:=[u6 0,u6 0,u6 0,u6 0];let x9:=[u6 0,u6 1];let y2:=V.agg [V.im 4 x3,V.im 4 x4];let y5:=ofOs T.e 0 (wkO1++[O.row 28 none x1]);let y6:=ar (litF z1);let y7:=ar (litF z2);let z0:=pt (pt y5 11 z5) 11 (O.row 41 none (arF Qak));let z7:=pt z0 12 (O.row 28 none x9);let z3:=pt z7 13 (O.row 28 none x1);let z4:=pt (pt z3 14 (O.row 3 none x7)) 15 (O.row 28 none x8);let z9:=pt (pt z4 16 (O.row 3 none [i6 0,i6 0,i6 1])) 17 (O.row 28 none [u6 0,u6 0,u6 0]);An [z8=z8,Tt,FnOk Pg g0 66 [] (gV exC exD),Tt,w1,FnOk Pg g0 41 [z6,i6 0] (V.tup [y6,i6 0]),Tt,w1,FnOk Pg g0 41 [z6,i6 1] (V.tup [y7,i6 0]),Tt,CallSpec Pg g0 (V.fn 40 []) [V.agg y8] (pt (pt (pt (pt (pt (pt (pt (pt (pt (pt (pt (pt (pt (pt T.e 0 (O.row 32 none [V.nils,V.nils])) 0 (O.row 32 none [sl exC,gC exD])) 1 z5) 1 (O.row 41 none (arF (litF z1)))) 2 z5) 2 (O.row 41 none (arF (litF z2)))) 3 (O.row 3 none x3)) 4 (O.row 28 none x4)) 5 x0) 5 (O.row 77 none y8)) 6 (O.row 3 none x5)) 7 (O.row 28 none x6)) 8 x0) 8 (O.row 77 none y9)) 9 (CR.mk (V.tup [V.sl 9 0 2 (some 0),i6 0]) (ofOs T.e 0 wkO1) 10 []),Tt,CallSpec Pg g0 (V.fn 40 []) [V.agg y9] (ofOs T.e 0 wkO1) 10 (CR.mk (V.tup [V.sl 10 0 2 (some 0),i6 0]) y5 11 []),Tt,w0,FnOk Pg g0 42 [z6,i6 1,y2] (V.tup [z8,i6 0]),Tt,w0,FnOk Pg g0 42 [z6,i6 1,V.agg [V.im 4 x5,V.im 4 x6]] x2,Tt,w0,FnOk Pg g0 42 [z6,i6 0,y2] x2,Tt,w1,FnOk Pg g0 41 [z6,i6 5] (V.tup [ar Qak,i6 2]),Tt,An [Tt,Tt],FnOk Pg g0 96 [i6 600] y6,Tt,An [Tt,Tt],FnOk Pg g0 96 [i6 480] y7,An [(V.fn 96 []=V.fn 96 []→[i6 600]=[i6 480]→z0=z0→11+1=12→CR.mk y6 z0 12 []=CR.mk y7 z0 12 []),Tt],An [TT 2,TT 2,Tt],FnOk Pg g0 58 [V.im 2 x9,V.im 2 x9] z8,An [(V.fn 96 []=V.fn 58 []→[i6 480]=y1→z0=z7→11+1=13→CR.mk y7 z0 12 []=CR.mk z8 z7 13 []),(V.fn 96 []=V.fn 58 []→[i6 600]=y1→z0=z7→11+1=13→CR.mk y6 z0 12 []=CR.mk z8 z7 13 []),Tt],An [TT 2,TT 2,Tt],FnOk Pg g0 58 [V.im 2 x1,V.im 2 x1] z8,An [(V.fn 58 []=V.fn 58 []→y1=y0→z7=z3→11+1+1=14→CR.mk z8 z7 13 []=CR.mk z8 z3 14 []),(V.fn 96 []=V.fn 58 []→[i6 480]=y0→z0=z3→11+1=14→CR.mk y7 z0 12 []=CR.mk z8 z3 14 []),(V.fn 96 []=V.fn 58 []→[i6 600]=y0→z0=z3→11+1=14→CR.mk y6 z0 12 []=CR.mk z8 z3 14 []),Tt],An [An [TT 4,TT 4,Tt],Tt],FnOk Pg g0 56 [V.agg [V.im 4 x7,V.im y3 x8]] (i6 290),Tt,An [An [TT 3,TT 3,Tt],Tt],FnOk Pg g0 56 [V.agg [V.im 3 [i6 0,i6 0,i6 1],V.im y4 [u6 0,u6 0,u6 0]]] (i6 290),An [(V.fn 56 []=V.fn 56 []→[V.agg [V.sl 14 0 4 (some 0),V.sl 15 0 y3 (some (y3-y3))]]=[V.agg [V.sl 16 0 3 (some 0),V.sl 17 0 y4 (some (y4-y4))]]→z4=z9→11+1+1+1+1+1=18→CR.mk (i6 290) z4 16 []=CR.mk (i6 290) z9 18 []),Tt],An [true=((290:Int)==(290:Int)),Tt],Tt])=_) ?_
 (repeat'(first|(with_reducible apply And.intro)|(refine fun(_:True)=>?_)))
 all_goals first|exact h1|exact h2|exact h3|exact h4|exact h5|exact h6|exact h7|exact h8|exact h9|exact ha|exact hb|exact hc|exact hd|exact he|exact hf|exact aq|rfl|skip
theorem slice_sl{t:Nat}(L:List Int)(h: ∀n:Nat,n≤L.length→sliceV (Qad Pg) t (sl L) none (some (n:Int)) none=some (if(0:Int)=n then .im 0 []else .im n ((ints L).take (n*1))))(n:Nat)(hn:n≤L.length):sliceV (Qad Pg) t (sl L) none (some (n:Int)) none=some (sl (L.take n)):=by
 rw[h n hn]
 by_cases h0:(0:Int)=n
 ·rw [if_pos h0]
  have:n=0:=by omega
  subst this;rfl
 ·rw [if_neg h0, Nat.mul_one]
  show some (V.im n _)=some (V.im (L.take n).length (ints (L.take n)))
  rw[List.length_take,Nat.min_eq_left hn]
  unfold ints
  rw[List.map_take]
theorem slice29(L:List Int)(n:Nat)(hn:n≤L.length):sliceV (Qad Pg) 29 (sl L) none (some (n:Int)) none=some (sl (L.take n)):=
 slice_sl L (fun n hn=>by
  have e:sliceV (Qad Pg) 29 (sl L) none (some (n:Int)) none=if 0≤(0:Int)∧(0:Int)≤(n:Int)∧(n:Int)≤(L.length:Int)∧true=true then some (if(0:Int)=n then .im 0 []else .im ((n:Int).toNat-(0:Int).toNat) (((ints L).drop ((0:Int).toNat*1)).take (((n:Int).toNat-(0:Int).toNat)*1)))else none:=by kernel_rfl
  rw[e,if_pos ⟨by omega,by omega,by omega,rfl⟩]
  rfl) n hn
theorem slice52(P:List Nat)(n:Nat)(hn:n≤P.length):sliceV (Qad Pg) 52 (ul P) none (some (n:Int)) none=some (ul (P.take n)):=by
 have e:sliceV (Qad Pg) 52 (ul P) none (some (n:Int)) none=if 0≤(0:Int)∧(0:Int)≤(n:Int)∧(n:Int)≤(P.length:Int)∧true=true then some (if(0:Int)=n then .im 0 []else .im ((n:Int).toNat-(0:Int).toNat) (((ut P).drop ((0:Int).toNat*1)).take (((n:Int).toNat-(0:Int).toNat)*1)))else none:=by kernel_rfl
 rw[e,if_pos ⟨by omega,by omega,by omega,rfl⟩]
 by_cases h0:(0:Int)=n
 ·rw [if_pos h0]
  have:n=0:=by omega
  subst this;rfl
 ·rw [if_neg h0]
  show some (V.im n (List.take (n*1) (ut P)))=some (V.im (P.take n).length (ut (P.take n)))
  rw[List.length_take,Nat.min_eq_left hn,Nat.mul_one]
  unfold ut
  rw[List.map_take]
theorem few_fn(L:List Int)(P:List Nat)(hL:L.length≤9223372036854775807)(hP:P.length≤9223372036854775807):FnOk Pg g0 55 [lV L P] (lV (L.take 33) (P.take 33)):=by
 have hu:=Qaq P
 have s1:=slice29 L (min L.length 33) (Nat.min_le_left _ _)
 have s2:=slice52 P (min P.length 33) (Nat.min_le_left _ _)
 have e1:L.take (min L.length 33)=L.take 33:=by
  rw[Nat.min_comm,←List.take_take,List.take_length]
 have e2:P.take (min P.length 33)=P.take 33:=by
  rw[Nat.min_comm,←List.take_take,List.take_length]
 rw[e1]at s1
 rw[e2]at s2
 have hm1:((min L.length 33:Nat):Int)=min (L.length:Int) 33:=by omega
 have hm2:((min P.length 33:Nat):Int)=min (P.length:Int) 33:=by omega
 generalize hL2:L.take 33=L2 at*
 generalize hP2:P.take 33=P2 at*
 generalize hz1:min L.length 33=z1 at*
 generalize hz2:min P.length 33=z2 at*
 have hu2:=Qaq P2
 refine FnOk.of_vc vE_ok mixed Qab (n:=1000) (r:=[1]) (S:={sl:=[(2,.ptr 0 0)],os:=[lO L2 P2]}) (hs:=[nu 8 (z1:Int),va 9 (sl L2),nu 15 (z2:Int),va 16 (ul P2)]) ?_
 refine Eq.mp (by kernel_rfl:(let z0:=[sl L2,ul P2];let z3:=(33:Int);An [V.agg z0=lV L2 P2,(if z3<(↑L.length:Int)then z3 else(↑L.length:Int))=(↑z1:Int),sliceV (Qad Pg) 29 (sl L) none (some (↑z1:Int)) none=some (sl L2),(if z3<(↑P.length:Int)then z3 else(↑P.length:Int))=(↑z2:Int),sliceV (Qad Pg) 52 (ul P) none (some (↑z2:Int)) none=some (ul P2),An [Zz,Tt],An [z0=z0,TT 2],Tt])=_) ?_
 (repeat'(first|(with_reducible apply And.intro)|(refine fun(_:True)=>?_)))
 all_goals first|(with_reducible exact s1)|(with_reducible exact s2)|exact hu|exact hu2|omega|exact aq|rfl|skip
abbrev r8F(f:Nat→Nat)(n:Nat):List V:=blF (fun i=>[w8 (f i:Nat)]) n
theorem Qol(f:Nat→Nat)(n:Nat):HfL (r8F f n):=Qeq (f:=fun i=>[w8 (f i:Nat)]) (fun k=>⟨trivial,trivial⟩) n
def drL(N:Nat)(a b:Nat→Nat):List V:=w8 (N:Nat)::(r8F a 32++r8F b 32)
abbrev drW(N:Nat)(a b:Nat→Nat):V:=.agg (drL N a b)
theorem Qhd(N:Nat)(a b:Nat→Nat):HfL (drL N a b):=⟨trivial,Qhc (Qol a 32) (Qol b 32)⟩
theorem Qqt(f:Nat→Nat){n k:Nat}(h:k<n):(r8F f n)[k]? =some (w8 (f k:Nat)):=by
 have:=Qhn (f:=fun i=>[w8 (f i:Nat)]) (s:=1) (fun _=>rfl) h
 rw[Nat.mul_one]at this
 have h2:(r8F f n)[k]? =((r8F f n).drop k)[0]? :=by rw[List.getElem?_drop];rfl
 rw[h2,this];rfl
theorem Qh8(f:Nat→Nat)(n:Nat):(r8F f n).length=n:=by
 have:=Qck (f:=fun i=>[w8 (f i:Nat)]) (s:=1) (fun _=>rfl) n
 rwa [Nat.mul_one]at this
theorem Qpz{l:List V}{k:Nat}{v:V}(h:l[k]? =some v):headF (dropF k l)=some v:=by
 rw[Qaz]
 obtain⟨hk,e⟩:=List.getElem?_eq_some_iff.1 h
 rw[List.drop_eq_getElem_cons hk,e];rfl
theorem head_drA{N:Nat}{a b:Nat→Nat}{k:Nat}(h:k<32):headF (dropF (1+k) (drL N a b))=some (w8 (a k:Nat)):=by
 refine Qpz ?_
 unfold drL
 rw[Nat.add_comm 1 k,List.getElem?_cons_succ,List.getElem?_append_left (by rw[Qh8];exact h)]
 exact Qqt a h
theorem head_drB{N:Nat}{a b:Nat→Nat}{k:Nat}(h:k<32):headF (dropF (33+k) (drL N a b))=some (w8 (b k:Nat)):=by
 refine Qpz ?_
 unfold drL
 rw[show 33+k=(32+k)+1 by omega,List.getElem?_cons_succ,List.getElem?_append_right (by rw[Qh8];omega),Qh8,show 32+k-32=k by omega]
 exact Qqt b h
theorem Qqq{g o k:Nat}(h:k<32):placeV (Qad Pg) 99 (.ptr g o) (k:Int)=some (.ptr g (o+k)):=by
 have e:placeV (Qad Pg) 99 (.ptr g o) (k:Int)=(if 0≤(k:Int)∧(k:Int)<((32:Nat):Int)then Qet (.ptr g o) ((k:Int).toNat*1)else none):=by kernel_rfl
 rw[e,if_pos (by omega)]
 simp[Qet]
section
variable (N:Nat) (a b:Nat→Nat) (n size:Nat) (la pa:Nat→Nat)
abbrev dlO:List O:=[.row 101 none (drL N a b),.row 77 none [.nils,.nils],.row 77 none [.sl 3 0 size (some (size-size)),.sl 4 0 size (some (size-size))],.row 3 none (nF la size),.row 28 none (uF pa size)]
abbrev dlS(s:Nat):SL:={sl:=[(1,i6 (n:Nat)),(2,.ptr 0 0),(4,.ptr 1 0),(5,.ptr 2 0),(6,u6 (s:Nat))],os:=dlO N a b size la pa,md:=[0,0,1]}
abbrev dlI(s v:Nat):SL:={sl:=[(1,i6 (n:Nat)),(2,.ptr 0 0),(4,.ptr 1 0),(5,.ptr 2 0),(6,u6 (s:Nat)),(7,i6 (v:Nat))],os:=dlO N a b size la pa,md:=[0,0,1]}
abbrev dlX:SL:={sl:=[(4,.ptr 0 0),(5,.ptr 1 0)],os:=[.row 77 none [.nils,.nils],.row 77 none [.im size (nF la size),.im size (uF pa size)]],md:=[0,1]}
end
theorem dl_in(N:Nat)(a b:Nat→Nat)(n size:Nat)(la pa:Nat→Nat)(h1:1≤n)(h5:n≤5)(s v0:Nat)(h0:0<s)(hs:s<2^n)(hv0:v0<n):
  Sat Pg none 0 (at' 53 [1,1,0,1,0,0,1,0,0,1,0,0]) (mkSt g0 56 (dlI N a b n size la pa s v0)) (Qah g0 56 [(True,.exit 2,dlI N a b n size la pa s (drV n s 5 v0))]):=by
 have hd:=Qhd N a b
 have hla:=Qag la size
 have hpa:=Qaf pa size
 have h32:=Qat h5
 obtain⟨t1,t2⟩:=drV_ok h1 h5 h0 hs hv0
 generalize hT:drV n s 5 v0=T at*
 refine Qa6 vE_ok mixed Qab (b:=at' 53 [1,1,0,1,0,0,1,0,0,1,0,0,0]) (by kernel_rfl) (fun x:Nat×Nat=>x.1<n∧drV n s x.2 x.1=T) (fun x=>dlI N a b n size la pa s x.1) (fun x=>x.2) (fun x hx=>?_) (v0,5) ⟨hv0,hT⟩
 obtain⟨v,f⟩:=x
 obtain⟨hv,hx⟩:=hx
 dsimp only at hv hx
 have hin:=in29 s v (by omega)
 cases hb:s.testBit v with
 | true =>
  have e:v=T:=by
   rw[←hx]
   cases f with
   |zero=>rfl
   |succ f=>unfold drV;rw[if_pos hb]
  subst e
  rw[hb]at hin
  refine .inr ⟨.exit 2,[0,1,2,3,4],dlI N a b n size la pa s v,[fn 30 (.bool true)],1000,.inl ⟨trivial,rfl,rfl⟩,?_⟩
  clear hT t1 t2 hx hb
  refine Eq.mp (by kernel_rfl:(let z0:=An [Zz,Sm size,Sm (size-size)];An [TT 2,FnOk Pg g0 95 [u6 ↑s,i6 ↑v] (V.bool true),Tt,An [Sm (↑n:Int),Zz,Zz,Zz,Sm (↑s:Int),Sm (↑v:Int),Tt],An [Sm (drL N a b),TT 65],An [Sm [V.nils,V.nils],TT 2],An [z0,z0,Tt],An [Sm (nF la size),HfL (nF la size)],An [Sm (uF pa size),HfL (uF pa size)],Tt])=_) ?_
  (repeat'(first|(with_reducible apply And.intro)|(refine fun(_:True)=>?_)))
  all_goals first|exact hin|exact hd|exact hla|exact hpa|exact aq|rfl|skip
 | false =>
  rw[hb]at hin
  cases f with
  |zero=>
   have:v=T:=hx
   rw[this,t1]at hb;cases hb
  | succ f =>
   have hx2:drV n s f ((v+1)%n)=T:=by
    rw[←hx,drV,hb];rfl
   have hlt:(v+1)%n<n:=Nat.mod_lt _ (by omega)
   have hrem:binV (Qad Pg) .rem 3 (i6 ((v+1:Nat):Int)) (i6 (n:Nat))=some (i6 (((v+1)%n:Nat):Int)):=by rw[rem6 (by omega),Qik]
   generalize (v+1)%n=w at*
   refine .inl ⟨(w,f),[0,1,2,3,4],[fn 30 (.bool false),nu 33 ((v+1:Nat):Int),va 35 (i6 (w:Nat))],1000,⟨hlt,hx2⟩,by dsimp only;omega,?_⟩
   clear hT t1 t2 hx hx2 hb
   refine Eq.mp (by kernel_rfl:(let z0:=An [Zz,Sm size,Sm (size-size)];An [TT 2,FnOk Pg g0 95 [u6 ↑s,i6 ↑v] (V.bool false),Tt,wr .i64 ((↑v:Int)+(1:Int))=(↑(v+1):Int),binV (Qad Pg) .rem 3 (i6 ↑(v+1)) (i6 ↑n)=some (i6 ↑w),An [Sm (↑n:Int),Zz,Zz,Zz,Sm (↑s:Int),Sm (↑w:Int),Tt],An [Sm (drL N a b),TT 65],An [Sm [V.nils,V.nils],TT 2],An [z0,z0,Tt],An [Sm (nF la size),HfL (nF la size)],An [Sm (uF pa size),HfL (uF pa size)],Tt])=_) ?_
   (repeat'(first|(with_reducible apply And.intro)|(refine fun(_:True)=>?_)))
   all_goals first|exact hin|(with_reducible exact hrem)|exact hd|exact hla|exact hpa|exact aq|rfl|skip
theorem dl_out(N:Nat)(a b:Nat→Nat)(n:Nat)(h1:1≤n)(h5:n≤5)(ha: ∀k,a k<256)(hb: ∀k,b k<256):
  Sat Pg none 0 (at' 53 [1,1,0,1,0]) (mkSt g0 56 (dlS N a b n (2^n) (dlA n a 1) (dlB n a b 1) 1)) (Qah g0 56 [(True,.exit 0,dlX (2^n) (dlA n a (2^n)) (dlB n a b (2^n)))]):=by
 have hd:=Qhd N a b
 have hla:=fun la=>Qag la (2^n)
 have hpa:=fun pa=>Qaf pa (2^n)
 have h32:=Qat h5
 have hp:1≤2^n:=Nat.pow_pos (by decide)
 have sn:=fun G t=>@Qf4 G t n (by omega)
 refine Qa6 vE_ok mixed Qab (b:=at' 53 [1,1,0,1,0,0]) (by kernel_rfl) (fun s=>1≤s∧s≤2^n) (fun s=>dlS N a b n (2^n) (dlA n a s) (dlB n a b s) s) (fun s=>2^n-s) (fun s hs=>?_) 1 ⟨Nat.le_refl _,hp⟩
 obtain⟨hs1,hs2⟩:=hs
 by_cases hlt:s<2^n
 ·have hmod : a s % n < n := Nat.mod_lt _ (by omega)
  obtain⟨t1,t2⟩:=drV_ok h1 h5 hs1 hlt hmod
  have hin:=dl_in N a b n (2^n) (dlA n a s) (dlB n a b s) h1 h5 s (a s%n) hs1 hlt hmod
  have hrem:binV (Qad Pg) .rem 3 (i6 (a s:Nat)) (i6 (n:Nat))=some (i6 ((a s%n:Nat):Int)):=by rw[rem6 (by omega),Qik]
  have hpl:=@Qqq 0 1 s (by omega)
  have hpl2:=@Qqq 0 33 s (by omega)
  have hh1:=@head_drA N a b s (by omega)
  have hh2:=@head_drB N a b s (by omega)
  have y1:=@Qco (dlA n a s) (2^n) s hlt (dlV n a s)
  rw[dlA_next n a hs1]at y1
  have y2:=@Qci (dlB n a b s) (2^n) s hlt (b s&&& (s-2^dlV n a s))
  rw[dlB_next n a b hs1]at y2
  have s1:=fun G t=>@and_u8 G t (b s) s (hb s) (by omega)
  have s2:=fun G t=>@Qf4 G t (dlV n a s) (by unfold dlV;omega)
  have s3:=fun G t=>@andn_u8 G t (b s) s (dlV n a s) (by omega) (by unfold dlV;omega) t1
  have hw1:=ha s
  have hw2:=hb s
  have hu1:wr .u64 ((b s:Nat):Int)=((b s:Nat):Int):=Qgi (by simp only[lo];omega) (by simp only[hi];omega)
  have hu2:wr .u64 ((s:Int)+1)=((s+1:Nat):Int):=by rw[show(s:Int)+1=((s+1:Nat):Int)by omega];exact Qgi (by simp only[lo];omega) (by simp only[hi];omega)
  rw[show drV n s 5 (a s%n)=dlV n a s from rfl]at hin t1 t2
  generalize dlV n a s=v at*
  generalize a s%n=v0 at*
  generalize hA:dlA n a s=A at*
  generalize hB:dlB n a b s=B at*
  generalize hA2:dlA n a (s+1)=A2 at*
  generalize hB2:dlB n a b (s+1)=B2 at*
  generalize hx1:a s=x1 at*
  generalize hx2:b s=x2 at*
  generalize hz1:x2&&& (s-2^v)=z1 at*
  generalize hz2:x2&&& s=z2 at*
  refine .inl ⟨s+1,[0,1,2,3,4],[va 17 (u6 ((2^n:Nat):Int)),yes 18,va 23 (.ptr 0 (1+s)),ld 24 (w8 (x1:Nat)),nu 25 (x1:Nat),va 27 (i6 (v0:Nat)),(0,.loop [0,1,2,3,4] (dlI N a b n (2^n) A B s v0) [(True,.exit 2,dlI N a b n (2^n) A B s v)]),pl 40,st (nF A2 (2^n)),va 46 (.ptr 0 (33+s)),ld 47 (w8 (x2:Nat)),nu 48 (x2:Nat),va 50 (u6 (z2:Nat)),va 52 (u6 ((2^v:Nat):Int)),va 53 (u6 (z1:Nat)),pl 54,st (uF B2 (2^n)),nu 20 ((s+1:Nat):Int)],1000,⟨by omega,by omega⟩,by omega,?_⟩
  ·rw [hA2, hB2]
   clear hA hB hA2 hB2 hx1 hx2 hz1 hz2 ha hb
   generalize hz:2^n=z at*
   generalize 2^v=pv at*
   clear hz
   refine Eq.mp (by kernel_rfl:(let z9:=Sm (z-z);let z0:=(↑s:Int);let z3:=Qad Pg;let z4:=[V.nils,V.nils];let z5:=drL N a b;let z6:=(↑(s+1):Int);let z7:=(↑n:Int);let z8:=(↑z:Int);An [binV z3 .shl 28 (u6 1) (i6 ↑n)=some (u6 ↑z),decide (z0<z8)=true,placeV z3 99 (V.ptr 0 1) z0=some (V.ptr 0 (1+s)),headF (dropF (1+s) z5)=some (w8 ↑x1),wr .i64 (↑x1:Int)=(↑x1:Int),binV z3 .rem 3 (i6 ↑x1) (i6 ↑n)=some (i6 ↑v0),An [An [z7=z7,Zz,Zz,Zz,z0=z0,Sm (↑v0:Int),Tt],An [z5=z5,TT 65],An [z4=z4,TT 2],An [An [Zz,z=z,z9],An [Zz,z=z,z9],Tt],An [Sm (nF A z),HfL (nF A z)],An [Sm (uF B z),HfL (uF B z)],Tt],Sat Pg none 0 (at' 53 [1,1,0,1,0,0,1,0,0,1,0,0]) (mkSt g0 56 (dlI N a b n z A B s v0)) (Qah g0 56 [(True,Ex.exit 2,dlI N a b n z A B s v)]),(True→An [An [(0:Int)≤z0,z0<z8],layE (0+s*1) (nF A z) [i6 ↑v]=some (nF A2 z),placeV z3 99 (V.ptr 0 (0+33)) z0=some (V.ptr 0 (33+s)),headF (dropF (33+s) z5)=some (w8 ↑x2),wr .u64 (↑x2:Int)=(↑x2:Int),binV z3 .and 28 (u6 ↑x2) (u6 ↑s)=some (u6 ↑z2),binV z3 .shl 28 (u6 1) (i6 ↑v)=some (u6 ↑pv),binV z3 .andNot 28 (u6 ↑z2) (u6 ↑pv)=some (u6 ↑z1),An [(0:Int)≤z0,z0<z8],layE (0+s*1) (uF B z) [u6 ↑z1]=some (uF B2 z),wr .u64 (z0+(1:Int))=z6,An [z7=z7,Zz,Zz,Zz,z6=z6,Tt],An [z5=z5,TT 65],An [z4=z4,TT 2],An [An [Zz,z=z,z9],An [Zz,z=z,z9],Tt],An [Sm (nF A2 z),HfL (nF A2 z)],An [Sm (uF B2 z),HfL (uF B2 z)],Tt]),Tt])=_) ?_
   (repeat'(first|(with_reducible apply And.intro)|(refine fun(_:True)=>?_)))
   all_goals first|exact hin|(with_reducible exact hrem)|(with_reducible exact hpl)|(with_reducible exact hpl2)|(with_reducible exact hh1)|(with_reducible exact hh2)|(with_reducible exact y1)|(with_reducible exact y2)|(with_reducible exact s1 _ _)|(with_reducible exact s2 _ _)|(with_reducible exact s3 _ _)|(with_reducible exact sn _ _)|(with_reducible exact hu1)|(with_reducible exact hu2)|exact hd|(with_reducible exact hla _)|(with_reducible exact hpa _)|exact aq|rfl|skip
 ·have : s = 2 ^ n := by omega
  subst this
  generalize dlA n a (2^n)=A at*
  generalize dlB n a b (2^n)=B at*
  generalize 2^n=z at*
  refine .inr ⟨.exit 0,[1,2],dlX z A B,[va 17 (u6 (z:Nat)),no 18],1000,.inl ⟨trivial,rfl,rfl⟩,?_⟩
  refine Eq.mp (by kernel_rfl:(An [binV (Qad Pg) .shl 28 (u6 1) (i6 ↑n)=some (u6 ↑z),decide ((↑z:Int)<(↑z:Int))=false,An [Zz,Zz,Tt],An [Sm [V.nils,V.nils],TT 2],An [An [z=z,Sm (nF A z),HfL (nF A z)],An [z=z,Sm (uF B z),HfL (uF B z)],Tt],Tt])=_) ?_
  (repeat'(first|(with_reducible apply And.intro)|(refine fun(_:True)=>?_)))
  all_goals first|(with_reducible exact sn _ _)|(with_reducible exact hu1)|(with_reducible exact hu2)|exact hd|(with_reducible exact hla _)|(with_reducible exact hpa _)|exact aq|rfl|skip
theorem Qp6(N:Nat)(a b:Nat→Nat)(n:Nat)(h1:1≤n)(h5:n≤5)(ha: ∀k,a k<256)(hb: ∀k,b k<256):FnOk Pg g0 53 [drW N a b,i6 (n:Nat)] (lV (mkL (dlA n a (2^n)) n) (mkP (dlB n a b (2^n)) n)):=by
 have hl:=dl_out N a b n h1 h5 ha hb
 have e0:dlA n a 1=fun _=>0:=by funext i;unfold dlA;rw[if_neg (by omega)]
 have e1:dlB n a b 1=fun _=>0:=by funext i;unfold dlB;rw[if_neg (by omega)]
 rw[e0,e1]at hl
 clear e0 e1
 rw[←mk_V]
 have hd:=Qhd N a b
 have h32:=Qat h5
 have hp:1≤2^n:=Nat.pow_pos (by decide)
 have hs:=Qk9 n (by omega)
 have hr1:=Qqx (2^n)
 have hr2:=Qh9 (2^n)
 have hn0:=Qag (fun _=>0) (2^n)
 have hu0:=Qaf (fun _=>0) (2^n)
 generalize dlA n a (2^n)=A at*
 generalize dlB n a b (2^n)=B at*
 have hn1:=Qag A (2^n)
 have hu1:=Qaf B (2^n)
 generalize 2^n=z at*
 refine FnOk.of_vc vE_ok mixed Qab (n:=1000) (r:=[0]) (S:={sl:=[(4,.ptr 0 0)],os:=[.row 77 none [.im z (nF A z),.im z (uF B z)]],md:=[1]}) (hs:=[va 9 (i6 (z:Nat)),mk 10,va 12 (i6 (z:Nat)),mk 13,(0,.loop [0,1,4,2,3] (dlS N a b n z (fun _=>0) (fun _=>0) 1) [(True,.exit 0,dlX z A B)])]) ?_
 refine Eq.mp (by kernel_rfl:(let z0:=(↑z:Int);let z1:=binV (Qad Pg) .shl 3 (i6 1) (i6 ↑n);let z2:=(9223372036854775807:Int);let z3:=(281474976710656:Int);An [V.agg [V.im z (nF A z),V.im z (uF B z)]=ldV z A B,z1=some (i6 ↑z),An [(0:Int)≤z0,z0≤z0,(↑(8:Nat):Int)*z0≤z3,z0≤z2],z1=some (i6 ↑z),An [(0:Int)≤z0,z0≤z0,(↑(8:Nat):Int)*z0≤z3,z0≤z2],An [An [Sm (↑n:Int),Zz,Zz,Zz,(↑(1:Nat):Int)=(1:Int),Tt],An [drL N a b=w8 ↑N::(r8F a 32++r8F b 32),TT 65],An [Sm [V.nils,V.nils],TT 2],An [An [Zz,z=z,Sm (z-z)],An [Zz,z=z,Sm (z-z)],Tt],An [nF (fun x=>0) z=rep z [i6 0],HfL (nF (fun x=>0) z)],An [uF (fun x=>0) z=rep z [u6 0],HfL (uF (fun x=>0) z)],Tt],Sat Pg none 0 (at' 53 [1,1,0,1,0]) (mkSt g0 56 (dlS N a b n z (fun x=>0) (fun x=>0) 1)) (Qah g0 56 [(True,Ex.exit 0,dlX z A B)]),(True→An [An [Zz,Tt],An [An [z=z,Sm (nF A z)],An [z=z,Sm (uF B z)],Tt],Tt]),Tt])=_) ?_
 (repeat'(first|(with_reducible apply And.intro)|(refine fun(_:True)=>?_)))
 all_goals first|exact hl|(with_reducible exact hs _ _)|(with_reducible exact hr1)|(with_reducible exact hr2)|exact hd|exact hn0|exact hu0|exact hn1|exact hu1|exact aq|rfl|skip
set_option maxHeartbeats 1000000
set_option maxRecDepth 100000
theorem src_u{H:T O}{l:List Nat}:srcV H 1 (ul l)=some (l.length,ut l):=by
 unfold srcV
 have h:Nat.ble (l.length*1) (ut l).length=true:=Nat.ble_eq_true_of_le (by rw[Qd0];omega)
 simp only[h,cond_true]
 rw[Nat.mul_one,List.take_of_length_le (by rw[Qd0];omega)]
structure PrOk(n:Nat)(f t:List Nat):Prop where
 len:t.length=f.length
 f: ∀x∈f,x<n
 t: ∀x∈t,x<n
section
variable (l:List Nat) (a:Int)
end
set_option maxHeartbeats 4000000
set_option maxRecDepth 100000
abbrev bnX(L:List Int)(P:List Nat):SL:={sl:=[(4,.ptr 0 0)],os:=[.row 77 none [sl L,ul P]],md:=[1]}
theorem cons_of{α:Type}{l:List α}(h:l.length≠0): ∃x m,l=x::m:=by
 cases l with
 |nil=>exact absurd rfl h
 |cons x m=>exact⟨x,m,rfl⟩
theorem S64.drop1{l:List Nat}(h:S64 l):S64 (l.drop 1):=fun x hx=>h x (List.mem_of_mem_drop hx)
theorem Qqf{a:Int}{n:Nat}(ha:0≤a)(hn:n≠0):0≤a%(n:Int)∧a%(n:Int)<n:=⟨Int.emod_nonneg _ (by omega),Int.emod_lt_of_pos _ (by omega)⟩
theorem emod4{b:Int}(h:0≤b∧b≤255):b.tmod 4=b%4:=by
 rw[Int.tmod_eq_emod_of_nonneg h.1]
theorem wr_u64n(N:Int):wr .u64 N=(((N%18446744073709551616).toNat:Nat):Int):=by
 rw[Int.toNat_of_nonneg (Int.emod_nonneg _ (by decide)),wr_u64]
theorem cty52:(Qad Pg).ty 52=some {desc:=.slice 28,size:=1,bytes:=24,agg:=false,zero:=some [.nils]}:=by kernel_rfl
theorem cty28:(Qad Pg).ty 28=some {desc:=.int .u64,size:=1,bytes:=8,agg:=false,zero:=some [.int .u64 0]}:=by kernel_rfl
theorem bend29(b a N:Int)(L:List Int)(P:List Nat)(hb:0≤b∧b≤255)(ha:0≤a∧a≤255)(hP:S64 P)(hL:L.length≤1000)(hPl:P.length≤1000): ∃L' P',S64 P'∧L'.length≤L.length+1∧P'.length≤P.length+1∧FnOk Pg g0 54 [beV b a N,lV L P] (lV L' P'):=by
 have hu:=Qaq P
 have hs1:=fun H=>@src_im H L
 have hs2:=fun H=>@src_u H P
 have hul:=Qd0 P
 by_cases eL:L.length=0
 ·obtain rfl := List.eq_nil_of_length_eq_zero eL
  refine⟨[],P,hP,by simp,by omega,?_⟩
  by_cases eP:P.length=0
  ·obtain rfl := List.eq_nil_of_length_eq_zero eP
   refine FnOk.of_vc vE_ok mixed Qab (n:=1000) (r:=[2]) (S:={sl:=[(4,.ptr 0 0)],os:=[.row 77 none [.im 0 noL,.im 0 noL]],md:=[1]}) (hs:=[]) ?_
   refine Eq.mp (by kernel_rfl:(An [V.agg [V.im 0 noL,V.im 0 noL]=lV [] [],An [Zz,Tt],An [An [Zz,noL=[],Tt],An [Zz,noL=[],Tt],Tt],Tt])=_) ?_
   (repeat'(first|(with_reducible apply And.intro)|(refine fun(_:True)=>?_)))
   all_goals first|exact hu|exact aq|rfl|skip
  ·refine FnOk.of_vc vE_ok mixed Qab (n := 1000) (r := [2]) (S := { sl := [(4, .ptr 0 0)], os := [.row 77 none [.im 0 noL, ul P]], md := [1] }) (hs := [(13, .cp P.length (ut P))]) ?_
   refine Eq.mp (by kernel_rfl:(let z0:=pt T.e 0 (O.row 102 none [w8 b,w8 a,i6 N]);let z1:=O.row 77 none [V.nils,V.nils];An [V.agg [V.im 0 noL,ul P]=lV [] P,An [srcV (pt (pt (pt (pt z0 1 (O.row 77 none [sl [],ul P])) 2 z1) 3 (O.row 3 none [])) 4 (O.row 28 none [])) 1 (ul P)=some (P.length,ut P),srcV (pt (pt (pt (pt z0 1 (O.row 77 none [sl [],ul P])) 2 z1) 3 (O.row 3 none [])) 4 (O.row 28 none [])) 1 (V.sl 4 0 0 (some 0))=some (0,[]),1≤P.length,P.length≤9223372036854775807,P.length*8≤140737488355328],An [Zz,Tt],An [An [Zz,noL=[],Tt],An [Sm P.length,Sm (ut P),HfL (ut P)],Tt],Tt])=_) ?_
   (repeat'(first|(with_reducible apply And.intro)|(refine fun(_:True)=>?_)))
   all_goals first|exact hu|(with_reducible exact hs2 _)|exact Qdj (by rw[Qde,if_pos rfl])|exact aq|rfl|skip
 ·by_cases eP : P.length = 0
  ·obtain rfl := List.eq_nil_of_length_eq_zero eP
   refine⟨L,[],hP,by omega,by simp,?_⟩
   refine FnOk.of_vc vE_ok mixed Qab (n:=1000) (r:=[2]) (S:=bnX L []) (hs:=[(9,.cp L.length (ints L)),no 18]) ?_
   refine Eq.mp (by kernel_rfl:(let z0:=pt T.e 0 (O.row 102 none [w8 b,w8 a,i6 N]);let z1:=O.row 77 none [V.nils,V.nils];An [V.agg [sl L,ul []]=lV L [],An [srcV (pt (pt (pt z0 1 (O.row 77 none [sl L,ul []])) 2 z1) 3 (O.row 3 none [])) 1 (sl L)=some (L.length,ints L),srcV (pt (pt (pt z0 1 (O.row 77 none [sl L,ul []])) 2 z1) 3 (O.row 3 none [])) 1 (V.sl 3 0 0 (some 0))=some (0,[]),1≤L.length,L.length≤9223372036854775807,L.length*8≤140737488355328],((↑L.length:Int)==(0:Int))=false,An [Zz,Tt],An [An [Sm L.length,Sm (ints L),HfL (ints L)],An [Zz,ut ([]:List Nat)=[],Tt],Tt],Tt])=_) ?_
   (repeat'(first|(with_reducible apply And.intro)|(refine fun(_:True)=>?_)))
   all_goals first|exact hu|(with_reducible exact hs1 _)|exact Qdj (by rw[Qde,if_pos rfl])|exact aq|rfl|skip
  ·have hm := @emod4 b hb
   have hm4:=@Qqf b 4 hb.1 (by decide)
   rcases(show b%4=0∨b%4=1∨b%4=2∨b%4=3 by omega)with e|e|e|e
   ·obtain ⟨q1, q2⟩ := Qqf ha.1 eL
    have hrem:binV (Qad Pg) .rem 3 (i6 a) (i6 L.length)=some (i6 (((a%(L.length:Int)).toNat:Nat):Int)):=by
     rw[rem6 (by omega),Int.tmod_eq_emod_of_nonneg ha.1,Int.toNat_of_nonneg q1]
    have q3:(a%(L.length:Int)).toNat<L.length:=by omega
    generalize (a%(L.length:Int)).toNat=k at*
    have hlay:=@Qp8 L k N q3
    have hll:(L.set k N).length=L.length:=List.length_set
    refine⟨L.set k N,P,hP,by omega,by omega,?_⟩
    generalize hL2:L.set k N=L2 at*
    have hX:bnX L2 P={sl:=[(4,.ptr 0 0)],os:=[.row 77 none [.im L.length (ints L2),ul P]],md:=[1]}:=by rw[←hll]
    rw[show lV L2 P= .agg [.im L.length (ints L2),ul P]by rw[←hll]]
    clear hL2
    refine FnOk.of_vc vE_ok mixed Qab (n:=1000) (r:=[2]) (S:={sl:=[(4,.ptr 0 0)],os:=[.row 77 none [.im L.length (ints L2),ul P]],md:=[1]}) (hs:=[(9,.cp L.length (ints L)),(13,.cp P.length (ut P)),no 18,no 23,nu 28 (b%4),yes 34,nu 39 a,va 43 (i6 (k:Nat)),pl 46,st (ints L2)]) ?_
    refine Eq.mp (by kernel_rfl:(let z0:=pt (pt (pt T.e 0 (O.row 102 none [w8 b,w8 a,i6 N])) 1 (O.row 77 none [sl L,ul P])) 2 (O.row 77 none [V.nils,V.nils]);let z1:=V.agg [V.im L.length (ints L2),ul P];let z2:=O.row 3 (some 1) (ints L);let z3:=(0:Int);An [z1=z1,An [srcV (pt z0 3 (O.row 3 none [])) 1 (sl L)=some (L.length,ints L),srcV (pt z0 3 (O.row 3 none [])) 1 (V.sl 3 0 0 (some 0))=some (0,[]),1≤L.length,L.length≤9223372036854775807,L.length*8≤140737488355328],An [srcV (pt (pt (pt z0 3 (O.row 3 none [])) 4 z2) 5 (O.row 28 none [])) 1 (ul P)=some (P.length,ut P),srcV (pt (pt (pt z0 3 (O.row 3 none [])) 4 z2) 5 (O.row 28 none [])) 1 (V.sl 5 0 0 (some 0))=some (0,[]),1≤P.length,P.length≤9223372036854775807,P.length*8≤140737488355328],((↑L.length:Int)==z3)=false,((↑P.length:Int)==z3)=false,Int.tmod b (4:Int)=b%(4:Int),(b%(4:Int)==z3)=true,wr .i64 a=a,binV (Qad Pg) .rem 3 (i6 a) (i6 ↑L.length)=some (i6 ↑k),An [z3≤(↑k:Int),(↑k:Int)<(↑L.length:Int)],layE (0+k*1) (ints L) [i6 N]=some (ints L2),An [Zz,Tt],An [An [Sm L.length,Sm (ints L2),HfL (ints L2)],An [Sm P.length,Sm (ut P),HfL (ut P)],Tt],Tt])=_) ?_
    (repeat'(first|(with_reducible apply And.intro)|(refine fun(_:True)=>?_)))
    all_goals first|exact hu|(with_reducible exact hm)|(with_reducible exact hrem)|(with_reducible exact hlay)|(with_reducible exact hs1 _)|(with_reducible exact hs2 _)|exact Qdj (by rw[Qde,if_pos rfl])|(with_reducible refine Qbo ?_;omega)|(with_reducible refine Qbb ?_;omega)|exact aq|rfl|skip
   ·obtain ⟨q1, q2⟩ := Qqf ha.1 eP
    have hrem:binV (Qad Pg) .rem 3 (i6 a) (i6 P.length)=some (i6 (((a%(P.length:Int)).toNat:Nat):Int)):=by
     rw[rem6 (by omega),Int.tmod_eq_emod_of_nonneg ha.1,Int.toNat_of_nonneg q1]
    have q3:(a%(P.length:Int)).toNat<P.length:=by omega
    generalize (a%(P.length:Int)).toNat=k at*
    have hwr:=wr_u64n N
    have hz:(N%18446744073709551616).toNat<18446744073709551616:=by
     have:=Int.emod_lt_of_pos N (show(0:Int)<18446744073709551616 by decide)
     omega
    generalize (N%18446744073709551616).toNat=z at*
    have hlay:=@lay_ut P k z q3
    have hll:(P.set k z).length=P.length:=List.length_set
    refine⟨L,P.set k z,hP.set hz,by omega,by omega,?_⟩
    generalize hP2:P.set k z=P2 at*
    have hu2:=Qaq P2
    rw[show lV L P2= .agg [sl L,.im P.length (ut P2)]by rw[←hll]]
    clear hP2
    refine FnOk.of_vc vE_ok mixed Qab (n:=1000) (r:=[2]) (S:={sl:=[(4,.ptr 0 0)],os:=[.row 77 none [sl L,.im P.length (ut P2)]],md:=[1]}) (hs:=[(9,.cp L.length (ints L)),(13,.cp P.length (ut P)),no 18,no 23,nu 28 (b%4),no 34,yes 48,nu 53 a,va 57 (i6 (k:Nat)),nu 60 (z:Nat),pl 61,st (ut P2)]) ?_
    refine Eq.mp (by kernel_rfl:(let z0:=pt (pt (pt T.e 0 (O.row 102 none [w8 b,w8 a,i6 N])) 1 (O.row 77 none [sl L,ul P])) 2 (O.row 77 none [V.nils,V.nils]);let z1:=V.agg [sl L,V.im P.length (ut P2)];let z2:=O.row 3 (some 1) (ints L);let z3:=(0:Int);let z4:=(4:Int);An [z1=z1,An [srcV (pt z0 3 (O.row 3 none [])) 1 (sl L)=some (L.length,ints L),srcV (pt z0 3 (O.row 3 none [])) 1 (V.sl 3 0 0 (some 0))=some (0,[]),1≤L.length,L.length≤9223372036854775807,L.length*8≤140737488355328],An [srcV (pt (pt (pt z0 3 (O.row 3 none [])) 4 z2) 5 (O.row 28 none [])) 1 (ul P)=some (P.length,ut P),srcV (pt (pt (pt z0 3 (O.row 3 none [])) 4 z2) 5 (O.row 28 none [])) 1 (V.sl 5 0 0 (some 0))=some (0,[]),1≤P.length,P.length≤9223372036854775807,P.length*8≤140737488355328],((↑L.length:Int)==z3)=false,((↑P.length:Int)==z3)=false,Int.tmod b z4=b%z4,(b%z4==z3)=false,(b%z4==(1:Int))=true,wr .i64 a=a,binV (Qad Pg) .rem 3 (i6 a) (i6 ↑P.length)=some (i6 ↑k),wr .u64 N=(↑z:Int),An [z3≤(↑k:Int),(↑k:Int)<(↑P.length:Int)],layE (0+k*1) (ut P) [u6 ↑z]=some (ut P2),An [Zz,Tt],An [An [Sm L.length,Sm (ints L),HfL (ints L)],An [Sm P.length,Sm (ut P2),HfL (ut P2)],Tt],Tt])=_) ?_
    (repeat'(first|(with_reducible apply And.intro)|(refine fun(_:True)=>?_)))
    all_goals first|exact hu|exact hu2|(with_reducible exact hm)|(with_reducible exact hrem)|(with_reducible exact hlay)|(with_reducible exact hwr)|(with_reducible exact hs1 _)|(with_reducible exact hs2 _)|exact Qdj (by rw[Qde,if_pos rfl])|(with_reducible refine Qbo ?_;omega)|(with_reducible refine Qbb ?_;omega)|exact aq|rfl|skip
   ·have hap : ints (L ++ [0]) = ints L ++ [i6 0] := by simp [ints]
    refine⟨L++[0],P,hP,by simp,by omega,?_⟩
    rw[show lV (L++[0]) P= .agg [.im (L.length+1) (ints L++[i6 0]),ul P]by rw[←hap];simp]
    refine FnOk.of_vc vE_ok mixed Qab (n:=1000) (r:=[2]) (S:={sl:=[(4,.ptr 0 0)],os:=[.row 77 none [.im (L.length+1) (ints L++[i6 0]),ul P]],md:=[1]}) (hs:=[(9,.cp L.length (ints L)),(13,.cp P.length (ut P)),no 18,no 23,nu 28 (b%4),no 34,no 48,yes 63,ap 67]) ?_
    refine Eq.mp (by kernel_rfl:(let z0:=pt (pt (pt T.e 0 (O.row 102 none [w8 b,w8 a,i6 N])) 1 (O.row 77 none [sl L,ul P])) 2 (O.row 77 none [V.nils,V.nils]);let z1:=V.agg [V.im (L.length+1) (ints L++[i6 0]),ul P];let z2:=(4:Int);let z3:=O.row 3 (some 1) (ints L);An [z1=z1,An [srcV (pt z0 3 (O.row 3 none [])) 1 (sl L)=some (L.length,ints L),srcV (pt z0 3 (O.row 3 none [])) 1 (V.sl 3 0 0 (some 0))=some (0,[]),1≤L.length,L.length≤9223372036854775807,L.length*8≤140737488355328],An [srcV (pt (pt (pt z0 3 (O.row 3 none [])) 4 z3) 5 (O.row 28 none [])) 1 (ul P)=some (P.length,ut P),srcV (pt (pt (pt z0 3 (O.row 3 none [])) 4 z3) 5 (O.row 28 none [])) 1 (V.sl 5 0 0 (some 0))=some (0,[]),1≤P.length,P.length≤9223372036854775807,P.length*8≤140737488355328],((↑L.length:Int)==(0:Int))=false,((↑P.length:Int)==(0:Int))=false,Int.tmod b z2=b%z2,(b%z2==(0:Int))=false,(b%z2==(1:Int))=false,(b%z2==(2:Int))=true,List.length (ints L)=L.length*1,L.length+1≤9223372036854775807,(L.length+1)*8≤140737488355328,An [Zz,Tt],An [An [Sm (L.length+1),Sm (ints L++[i6 0]),HfL (ints L++[i6 0])],An [Sm P.length,Sm (ut P),HfL (ut P)],Tt],Tt])=_) ?_
    (repeat'(first|(with_reducible apply And.intro)|(refine fun(_:True)=>?_)))
    all_goals first|exact hu|(with_reducible exact hm)|(with_reducible exact hs1 _)|(with_reducible exact hs2 _)|exact Qdj (by rw[Qde,if_pos rfl])|(with_reducible refine Qbo ?_;omega)|(with_reducible refine Qbb ?_;omega)|(rw[Qcd,Nat.mul_one])|exact Qhc (Qae _) ⟨trivial,trivial⟩|exact aq|rfl|skip
   ·refine ⟨L, P.drop 1, hP.drop1, by omega, by simp; omega, ?_⟩
    obtain⟨p0,P1,rfl⟩:=cons_of eP
    show FnOk Pg g0 54 [beV b a N,lV L (p0::P1)] (lV L P1)
    have hu1:=Qaq P1
    by_cases e1:P1.length=0
    ·obtain rfl := List.eq_nil_of_length_eq_zero e1
     refine FnOk.of_vc vE_ok mixed Qab (n:=1000) (r:=[2]) (S:=bnX L []) (hs:=[(9,.cp L.length (ints L)),no 18,nu 28 (b%4),no 34,no 48,no 63]) ?_
     refine Eq.mp (by kernel_rfl:(let z0:=pt (pt (pt T.e 0 (O.row 102 none [w8 b,w8 a,i6 N])) 1 (O.row 77 none [sl L,ul [p0]])) 2 (O.row 77 none [V.nils,V.nils]);let z1:=(4:Int);An [V.agg [sl L,ul []]=lV L [],An [srcV (pt z0 3 (O.row 3 none [])) 1 (sl L)=some (L.length,ints L),srcV (pt z0 3 (O.row 3 none [])) 1 (V.sl 3 0 0 (some 0))=some (0,[]),1≤L.length,L.length≤9223372036854775807,L.length*8≤140737488355328],((↑L.length:Int)==(0:Int))=false,Int.tmod b z1=b%z1,(b%z1==(0:Int))=false,(b%z1==(1:Int))=false,(b%z1==(2:Int))=false,An [Zz,Tt],An [An [Sm L.length,Sm (ints L),HfL (ints L)],An [Zz,ut []=[]],Tt],Tt])=_) ?_
     (repeat'(first|(with_reducible apply And.intro)|(refine fun(_:True)=>?_)))
     all_goals first|exact hu|(with_reducible exact hm)|(with_reducible exact hs1 _)|(with_reducible exact hs2 _)|exact Qdj (by rw[Qde,if_pos rfl])|(with_reducible refine Qbo ?_;omega)|(with_reducible refine Qbb ?_;omega)|exact aq|rfl|skip
    ·have hsl : ∀ h : Nat, sliceV (Qad Pg) 52 (.sl h 0 (P1.length + 1) none) (some (1 : Int)) none none = some (.sl h 1 P1.length none) := fun h => by
      unfold sliceV
      simp only[cty52,cty28,Option.getD_none,Option.getD_some,Option.isNone_none,Bool.and_self,cond_true]
      rw[if_pos ⟨by omega,by omega,by simp,by simp,by simp⟩,if_neg (by omega),if_pos (.inr (by simp))]
      simp
     have hp1:P1.length+1≤1000:=by simpa using hPl
     refine FnOk.of_vc vE_ok mixed Qab (n:=1000) (r:=[2]) (S:=bnX L P1) (hs:=[(9,.cp L.length (ints L)),(13,.cp (P1.length+1) (ut (p0::P1))),no 18,no 23,nu 28 (b%4),no 34,no 48,no 63,va 31 (.sl 6 1 P1.length none)]) ?_
     refine Eq.mp (by kernel_rfl:(let z0:=pt (pt (pt T.e 0 (O.row 102 none [w8 b,w8 a,i6 N])) 1 (O.row 77 none [sl L,ul (p0::P1)])) 2 (O.row 77 none [V.nils,V.nils]);let z1:=(4:Int);let z2:=O.row 3 (some 1) (ints L);let z3:=ut (p0::P1);An [V.agg [sl L,ul P1]=lV L P1,An [srcV (pt z0 3 (O.row 3 none [])) 1 (sl L)=some (L.length,ints L),srcV (pt z0 3 (O.row 3 none [])) 1 (V.sl 3 0 0 (some 0))=some (0,[]),1≤L.length,L.length≤9223372036854775807,L.length*8≤140737488355328],An [srcV (pt (pt (pt z0 3 (O.row 3 none [])) 4 z2) 5 (O.row 28 none [])) 1 (ul (p0::P1))=some (P1.length+1,z3),srcV (pt (pt (pt z0 3 (O.row 3 none [])) 4 z2) 5 (O.row 28 none [])) 1 (V.sl 5 0 0 (some 0))=some (0,[]),1≤P1.length+1,P1.length+1≤9223372036854775807,(P1.length+1)*8≤140737488355328],((↑L.length:Int)==(0:Int))=false,((↑(P1.length+1):Int)==(0:Int))=false,Int.tmod b z1=b%z1,(b%z1==(0:Int))=false,(b%z1==(1:Int))=false,(b%z1==(2:Int))=false,sliceV (Qad Pg) 52 (V.sl 6 0 (P1.length+1) none) (some (1:Int)) none none=some (V.sl 6 1 P1.length none),An [Zz,Tt],An [An [Sm L.length,Sm (ints L),HfL (ints L)],An [Sm P1.length,ut P1=dropF 1 z3,HfL (dropF 1 z3)],Tt],Tt])=_) ?_
     (repeat'(first|(with_reducible apply And.intro)|(refine fun(_:True)=>?_)))
     all_goals first|exact hu|exact hu1|(with_reducible exact hm)|(with_reducible exact hsl _)|(with_reducible exact hs1 _)|(with_reducible exact hs2 _)|exact Qdj (by rw[Qde,if_pos rfl])|(with_reducible refine Qbo ?_;omega)|(with_reducible refine Qbb ?_;omega)|exact aq|rfl|skip
abbrev l4V(a b c d:List Int)(e f g h:List Nat):V:=.agg [sl a,ul e,sl b,ul f,sl c,ul g,sl d,ul h]
def pick4{α:Type}(a b c d:α)(k:Nat):α:=match k with
 |0=>a
 |1=>b
 |2=>c
 | _=>d
theorem idx106(a b c d:List Int)(e f g h:List Nat){k:Nat}(hk:k<4):idxV (Qad Pg) 106 (l4V a b c d e f g h) (k:Int)=some (lV (pick4 a b c d k) (pick4 e f g h k)):=by
 rcases(show k=0∨k=1∨k=2∨k=3 by omega)with rfl|rfl|rfl|rfl<;>kernel_rfl
abbrev slS(v:V)(k:Nat):SL:={sl:=[(34,v),(35,i6 (k:Nat))]}
theorem sl_loop(a b c d:List Int)(e f g h:List Nat)(he:S64 e)(hf:S64 f)(hg:S64 g)(hh:S64 h):
  Sat Pg none 0 (at' 11 [1,1,1,0,1,0]) (mkSt g0 76 (slS (l4V a b c d e f g h) 0)) (Qah g0 76 [(True,.exit 0,{sl:=[]})]):=by
 have ue:=Qaq e
 have uf:=Qaq f
 have ug:=Qaq g
 have uh:=Qaq h
 refine Qa6 vE_ok mixed Qab (b:=at' 11 [1,1,1,0,1,0,0]) (by kernel_rfl) (fun k=>k≤4) (slS (l4V a b c d e f g h)) (fun k=>4-k) (fun k hk=>?_) 0 (by decide)
 by_cases hlt:k<4
 ·have hidx := idx106 a b c d e f g h hlt
  have hS:S64 (pick4 e f g h k):=by
   rcases(show k=0∨k=1∨k=2∨k=3 by omega)with rfl|rfl|rfl|rfl<;>assumption
  generalize pick4 a b c d k=L at*
  generalize pick4 e f g h k=P at*
  have hck:=Qau L P hS
  have hwd:=width_fn L P hS
  have hu:=Qaq P
  cases hb:ladB L P with
  |false=>
   have hgr:=Qpw L P hS hb
   rw[hb,if_neg (by decide)]at hck
   rw[show widL L P=0 by unfold widL;rw[hb];rfl]at hwd
   refine .inl ⟨k+1,[],[yes 36,va 37 (lV L P),fn 39 (i6 290),fn 42 (.tup [.nils,i6 290]),fn 46 (i6 0),nu 74 ((k+1:Nat):Int)],1000,by omega,by omega,?_⟩
   clear hb hS
   refine Eq.mp (by kernel_rfl:(let z3:=An [TT 2,Tt];let z0:=[V.agg [V.im L.length (ints L),V.im P.length (ut P)]];let z1:=(↑(k+1):Int);let z2:=(↑k:Int);An [decide (z2<(4:Int))=true,idxV (Qad Pg) 106 (l4V a b c d e f g h) z2=some (lV L P),z3,FnOk Pg g0 56 z0 (i6 290),Tt,z3,FnOk Pg g0 40 z0 (V.tup [V.nils,i6 290]),Tt,z3,FnOk Pg g0 57 z0 (i6 0),Tt,wr .i64 (z2+(1:Int))=z1,An [An [An [Sm a.length,Sm (ints a)],An [Sm e.length,Sm (ut e)],An [Sm b.length,Sm (ints b)],An [Sm f.length,Sm (ut f)],An [Sm c.length,Sm (ints c)],An [Sm g.length,Sm (ut g)],An [Sm d.length,Sm (ints d)],An [Sm h.length,Sm (ut h)],Tt],z1=z1,Tt],Tt])=_) ?_
   (repeat'(first|(with_reducible apply And.intro)|(refine fun(_:True)=>?_)))
   all_goals first|(with_reducible exact hidx)|exact hck|exact hgr|exact hwd|exact hu|exact ue|exact uf|exact ug|exact uh|exact aq|rfl|skip
  |true=>
   have hgr:=graph_ok L P hS hb
   have hlo:=Qfh hb
   rw[hb,if_pos rfl]at hck
   rw[show widL L P=wdt L P by unfold widL;rw[hb];rfl]at hwd
   have hrg:=rgraph29 L P _ hlo
   have heq:=Qkk (wdt L P) (gL L P (wdt L P)) (by have:=hlo.w5;omega)
   have h1:=hlo.w1
   have hU:=Qaf (gL L P (wdt L P)) (wdt L P)
   clear hlo hb hS
   generalize gL L P (wdt L P)=gg at*
   generalize wdt L P=w at*
   have hw0:((w:Int)==0)=false:=by rw[beq_eq_false_iff_ne];omega
   refine .inl ⟨k+1,[],[yes 36,va 37 (lV L P),fn 39 (i6 0),fn 42 (.tup [gV' w gg,i6 0]),fn 46 (i6 (w:Nat)),no 48,fn 70 (gV' w gg),fn 71 (.bool true),nu 74 ((k+1:Nat):Int)],1000,by omega,by omega,?_⟩
   refine Eq.mp (by kernel_rfl:(let z6:=An [TT 2,Tt];let z0:=V.agg [V.im L.length (ints L),V.im P.length (ut P)];let z1:=O.row 77 none [V.nils,V.nils];let z2:=O.row 77 none [sl L,ul P];let z3:=(↑(k+1):Int);let z4:=gV' w gg;let z5:=(↑k:Int);An [decide (z5<(4:Int))=true,idxV (Qad Pg) 106 (l4V a b c d e f g h) z5=some (lV L P),z6,FnOk Pg g0 56 [z0] (i6 0),Tt,z6,FnOk Pg g0 40 [z0] (V.tup [z4,i6 0]),Tt,z6,FnOk Pg g0 57 [z0] (i6 ↑w),Tt,((↑w:Int)==(0:Int))=false,An [TT 2,Tt,Tt],FnOk Pg g0 59 [z0,i6 ↑w] z4,Tt,TT 2,FnOk Pg g0 58 [V.im w (uF gg w),V.im w (uF gg w)] (V.bool true),An [(V.fn 59 []=V.fn 58 []→[V.agg [sl L,ul P],i6 ↑w]=[z4,z4]→pt (pt (ofOs T.e 0 []) 0 z1) 0 z2=pt (pt (ofOs T.e 0 []) 0 z1) 0 z2→0+1=1→CR.mk z4 (pt (pt (ofOs T.e 0 []) 0 z1) 0 z2) 1 []=CR.mk (V.bool true) (pt (pt (ofOs T.e 0 []) 0 z1) 0 z2) 1 []),Tt],wr .i64 (z5+(1:Int))=z3,An [An [An [Sm a.length,Sm (ints a)],An [Sm e.length,Sm (ut e)],An [Sm b.length,Sm (ints b)],An [Sm f.length,Sm (ut f)],An [Sm c.length,Sm (ints c)],An [Sm g.length,Sm (ut g)],An [Sm d.length,Sm (ints d)],An [Sm h.length,Sm (ut h)],Tt],z3=z3,Tt],Tt])=_) ?_
   (repeat'(first|(with_reducible apply And.intro)|(refine fun(_:True)=>?_)))
   all_goals first|(with_reducible exact hidx)|(with_reducible exact hw0)|exact hck|exact hgr|exact hwd|exact hrg|exact heq|exact hU|exact hu|exact ue|exact uf|exact ug|exact uh|exact aq|rfl|skip
 ·have : k = 4 := by omega
  subst this
  refine .inr ⟨.exit 0,[],{sl:=[]},[],1000,.inl ⟨trivial,rfl,rfl⟩,?_⟩
  refine Eq.mp (by kernel_rfl:(An [Tt,Tt])=_) ?_
  (repeat'(first|(with_reducible apply And.intro)|(refine fun(_:True)=>?_)))
  all_goals first|exact ue|exact uf|exact ug|exact uh|exact aq|rfl|skip
abbrev be2(b0 a0 N0 b1 a1 N1:Int):V:=.agg [w8 b0,w8 a0,i6 N0,w8 b1,w8 a1,i6 N1]
theorem emod5{N:Nat}(h:N<256):(N:Int).tmod 5=((N%5:Nat):Int):=by
 rw[show(5:Int)=((5:Nat):Int)from rfl,Qik]
theorem Qjj(N:Nat)(la pa:Nat→Nat)(b0 a0 N0 b1 a1 N1:Int)(rL:List Int)(rP:List Nat)(hN:N<256)(hla: ∀k,la k<256)(hpa: ∀k,pa k<256)(hb0:0≤b0∧b0≤255)(ha0:0≤a0∧a0≤255)(hb1:0≤b1∧b1≤255)(ha1:0≤a1∧a1≤255)(hrP:S64 rP)(hr1:rL.length≤9223372036854775807)(hr2:rP.length≤9223372036854775807):
  FnOk Pg g0 11 [drW N la pa,be2 b0 a0 N0 b1 a1 N1,lV rL rP] (.bool true):=by
 have hw:=works29
 have hm:=emod5 hN
 have hn5:N%5<5:=Nat.mod_lt _ (by decide)
 have hd:=Qhd N la pa
 have hru:=Qaq rP
 obtain⟨n,hn⟩: ∃n,n=N%5+1:=⟨_,rfl⟩
 have hown:=Qp6 N la pa n (by omega) (by omega) hla hpa
 have hS0:=dl_S64 (n:=n) la pa (by omega)
 have h32:=Qat (show n≤5 by omega)
 have hl0:(mkL (dlA n la (2^n)) n).length≤32:=by simp[mkL];exact h32
 have hl1:(mkP (dlB n la pa (2^n)) n).length≤32:=by simp[mkP];exact h32
 generalize mkL (dlA n la (2^n)) n=L0 at*
 generalize mkP (dlB n la pa (2^n)) n=P0 at*
 obtain⟨L1,P1,s1,m1,m2,f1⟩:=bend29 b0 a0 N0 L0 P0 hb0 ha0 hS0 (by omega) (by omega)
 obtain⟨L2,P2,s2,m3,m4,f2⟩:=bend29 b1 a1 N1 L1 P1 hb1 ha1 s1 (by omega) (by omega)
 have f3:=few_fn rL rP hr1 hr2
 have s3:S64 (rP.take 33):=fun x hx=>hrP x (List.mem_of_mem_take hx)
 have l:=sl_loop L0 L1 L2 (rL.take 33) P0 P1 P2 (rP.take 33) hS0 s1 s2 s3
 generalize rL.take 33=L3 at*
 generalize rP.take 33=P3 at*
 have u0:=Qaq P0
 have u1:=Qaq P1
 have u2:=Qaq P2
 have u3:=Qaq P3
 generalize hN5:N%5=c at*
 refine FnOk.of_vc vE_ok mixed Qab (n:=1000) (r:=[]) (S:={sl:=[(6,.bool true)]}) (hs:=[nu 18 (c:Nat),nu 19 (c:Nat),nu 20 (n:Nat),fn 21 (lV L0 P0),fn 25 (lV L1 P1),fn 31 (lV L2 P2),fn 33 (lV L3 P3),(0,.loop [] (slS (l4V L0 L1 L2 L3 P0 P1 P2 P3) 0) [(True,.exit 0,{sl:=[]})]),fn 75 (.bool true)]) ?_
 refine Eq.mp (by kernel_rfl:(let z1:=O.row 77 none [V.nils,V.nils];let z2:=(↑c:Int);let z3:=V.agg [w8 b1,w8 a1,i6 N1];let z4:=V.bool true;let z0:=pt (pt (pt (pt (pt (pt (pt T.e 0 (O.row 101 none (w8 ↑N::(r8F la 32++r8F pa 32)))) 1 (O.row 103 none [w8 b0,w8 a0,i6 N0,w8 b1,w8 a1,i6 N1])) 2 (O.row 77 none [sl rL,ul rP])) 3 z1) 3 (O.row 77 none [sl L0,ul P0])) 4 z1) 4 (O.row 77 none [sl L1,ul P1]);An [z4=z4,Int.tmod (↑N:Int) (5:Int)=z2,wr .i64 z2=z2,wr .i64 ((1:Int)+z2)=(↑n:Int),An [TT 65,Tt,Tt],FnOk Pg g0 53 [V.agg (drL N la pa),i6 ↑n] (lV L0 P0),Tt,An [TT 3,TT 2,Tt],FnOk Pg g0 54 [V.agg [w8 b0,w8 a0,i6 N0],V.agg [V.im L0.length (ints L0),V.im P0.length (ut P0)]] (lV L1 P1),Tt,An [TT 3,TT 2,Tt],FnOk Pg g0 54 [z3,V.agg [V.im L1.length (ints L1),V.im P1.length (ut P1)]] (lV L2 P2),Tt,An [TT 2,Tt],FnOk Pg g0 55 [V.agg [V.im rL.length (ints rL),V.im rP.length (ut rP)]] (lV L3 P3),An [(V.fn 54 []=V.fn 55 []→[z3,V.agg [sl L1,ul P1]]=[V.agg [sl rL,ul rP]]→z0=z0→0+1+1+1+1+1=5→CR.mk (lV L2 P2) z0 5 []=CR.mk (lV L3 P3) z0 5 []),Tt],An [An [An [An [Sm L0.length,Sm (ints L0)],An [Sm P0.length,Sm (ut P0)],An [Sm L1.length,Sm (ints L1)],An [Sm P1.length,Sm (ut P1)],An [Sm L2.length,Sm (ints L2)],An [Sm P2.length,Sm (ut P2)],An [Sm L3.length,Sm (ints L3)],An [Sm P3.length,Sm (ut P3)],Tt],(↑(0:Nat):Int)=(0:Int),Tt],Tt],Sat Pg none 0 (at' 11 [1,1,1,0,1,0]) (mkSt g0 76 (slS (l4V L0 L1 L2 L3 P0 P1 P2 P3) 0)) (Qah g0 76 [(True,Ex.exit 0,SL.mk [] [] [] [])]),(True→An [Tt,FnOk Pg g0 60 [] z4,Tt,An [Sm true,Tt],Tt]),Tt])=_) ?_
 (repeat'(first|(with_reducible apply And.intro)|(refine fun(_:True)=>?_)))
 all_goals first|exact l|exact hw|exact hown|exact f1|exact f2|exact f3|(with_reducible exact hm)|exact hd|exact hru|exact u0|exact u1|exact u2|exact u3|exact aq|rfl|skip
open Go.RowKit Go.ChangeShapes Go.WideShapes
theorem wf64{n:Int}(h:(Lit.int .u64 n).wf=true):0≤n∧n≤18446744073709551615:=by
 simp only[Lit.wf,Bool.and_eq_true,decide_eq_true_eq]at h
 exact h
section
variable {H:Type} {enc:TypeId×Value→H} {w:World}
end
open Go.RowKit Go.ChangeShapes Go.WideShapes
set_option maxRecDepth 100000
section
variable {H:Type} {enc:TypeId×Value→H} {w:World}
theorem r8F_of{ns:List Int}{n:Nat}(hl:ns.length=n)(h: ∀x∈ns,0≤x):r8F (fun k=>(ns.getD k 0).toNat) n=ns.map (V.int .u8):=by
 refine List.ext_getElem? fun i=>?_
 by_cases hi:i<n
 ·rw [Qqt _ hi, List.getElem?_map, List.getElem?_eq_getElem (by omega)]
  have hx:=h (ns[i]'(by omega)) (List.getElem_mem _)
  simp only[Option.map_some]
  rw[List.getD_eq_getElem?_getD,List.getElem?_eq_getElem (by omega)]
  simp only[Option.getD_some]
  rw[Int.toNat_of_nonneg hx]
 ·rw[List.getElem?_eq_none (by rw[Qh8];omega),List.getElem?_eq_none (by simp;omega)]
theorem arg_dr29{v:Value}{d:DataW H}{p:List MemPlace}(hv: ∃cs,v= .agg cs∧cs.size=Pg.cellsOf 101)(h:DataW.Trod enc Pg w 0 (fun _=>true) true 101 v d p):
  ∃(N:Nat)(a b:Nat→Nat),RV (sg (allB w)) w (drW N a b) v∧N<256∧(∀k,a k<256)∧(∀k,b k<256):=by
 obtain⟨arr,rfl,hsz⟩:=hv
 obtain⟨fuel,hf⟩:=h
 obtain⟨xs,n,_,_,hl,hlen,hfd⟩:=DataW.trod_struct Tryd.underlying101 hf
 have hc:Pg.cellsOf 101=65:=by kernel_rfl
 rw[hc]at hl
 have hcells:(Value.agg arr).cells.toList=arr.toList:=rfl
 rw[hcells]at hl hfd
 have hlen':xs.length=3:=hlen
 obtain⟨y0,y1,y2,rfl⟩: ∃y0 y1 y2,xs=[y0,y1,y2]:=by
  match xs,hlen' with
  |[y0,y1,y2],_=>exact⟨y0,y1,y2,rfl⟩
 have h5:Pg.cellsOf 5=1:=by kernel_rfl
 have h99:Pg.cellsOf 99=32:=by kernel_rfl
 have f0:DataW.trod enc Pg w 0 (fun _=>true) true n 5 (List.take (Pg.cellsOf 5) (List.drop 0 arr.toList))=some y0:=hfd 0 _ rfl
 have f1:DataW.trod enc Pg w 0 (fun _=>true) true n 99 (List.take (Pg.cellsOf 99) (List.drop 1 arr.toList))=some y1:=hfd 1 _ rfl
 have f2:DataW.trod enc Pg w 0 (fun _=>true) true n 99 (List.take (Pg.cellsOf 99) (List.drop 33 arr.toList))=some y2:=hfd 2 _ rfl
 rw[h5]at f0
 rw[h99]at f1 f2
 obtain⟨k0,e0,w0⟩:=Qm9 Tryd.underlying5 (x:=y0) f0
 obtain⟨na,a1,a2,_,a4⟩:=Qhi Tryd.underlying99 Tryd.underlying5 h5 h99 (x:=y1) f1
 obtain⟨nb,b1,b2,_,b4⟩:=Qhi Tryd.underlying99 Tryd.underlying5 h5 h99 (x:=y2) f2
 have hk:=wf8 w0
 have hall:arr.toList=(k0::(na++nb)).map (Value.int .u8):=by
  generalize arr.toList=l at*
  have g0:l=List.take 1 l++(List.take 32 (List.drop 1 l)++List.take 32 (List.drop 33 l)):=by
   have e1:List.drop 33 l=List.drop 32 (List.drop 1 l):=by rw[List.drop_drop]
   have e2:List.take 32 (List.drop 33 l)=List.drop 33 l:=List.take_of_length_le (by rw[List.length_drop];omega)
   rw[e2,e1,List.take_append_drop,List.take_append_drop]
  rw[List.drop_zero]at e0
  rw[g0,e0,a2,b2]
  simp
 have hna: ∀x∈na,0≤x∧x≤255:=fun x hx=>wf8 (a4 x hx)
 have hnb: ∀x∈nb,0≤x∧x≤255:=fun x hx=>wf8 (b4 x hx)
 have bd: ∀(l:List Int),(∀x∈l,0≤x∧x≤255)→∀k,(l.getD k 0).toNat<256:=fun l hl k=>by
  by_cases hk:k<l.length
  ·rw [List.getD_eq_getElem?_getD, List.getElem?_eq_getElem hk]
   have:=hl _ (List.getElem_mem hk)
   simp only[Option.getD_some];omega
  ·rw[List.getD_eq_getElem?_getD,List.getElem?_eq_none (by omega)];decide
 refine⟨k0.toNat,fun k=>(na.getD k 0).toNat,fun k=>(nb.getD k 0).toNat,⟨arr,rfl,?_⟩,by omega,bd na hna,bd nb hnb⟩
 rw[hall]
 have e:drL k0.toNat (fun k=>(na.getD k 0).toNat) (fun k=>(nb.getD k 0).toNat)=(k0::(na++nb)).map (V.int .u8):=by
  unfold drL
  rw[r8F_of a1 fun x hx=>(hna x hx).1,r8F_of b1 fun x hx=>(hnb x hx).1,Int.toNat_of_nonneg hk.1]
  simp
 rw[e]
 exact RL_map _
theorem Qgn{fuel:Nat}{cs:List Value}{x:DataW H×List MemPlace}(h:DataW.trod enc Pg w 0 (fun _=>true) true fuel 102 cs=some x): ∃(b a N:Int),cs=[.int .u8 b,.int .u8 a,.int .i64 N]∧(0≤b∧b≤255)∧(0≤a∧a≤255):=by
 obtain⟨xs,n,_,_,hl,hlen,hfd⟩:=DataW.trod_struct Tryd.underlying102 h
 have hc:Pg.cellsOf 102=3:=by kernel_rfl
 rw[hc]at hl
 obtain⟨c0,c1,c2,rfl⟩: ∃c0 c1 c2,cs=[c0,c1,c2]:=by
  match cs,hl with
  |[c0,c1,c2],_=>exact⟨c0,c1,c2,rfl⟩
 have hlen':xs.length=3:=hlen
 obtain⟨y0,y1,y2,rfl⟩: ∃y0 y1 y2,xs=[y0,y1,y2]:=by
  match xs,hlen' with
  |[y0,y1,y2],_=>exact⟨y0,y1,y2,rfl⟩
 have h1c: ∀t,t=3∨t=5→Pg.cellsOf t=1:=by
  rintro t (rfl|rfl)<;>kernel_rfl
 have f0:DataW.trod enc Pg w 0 (fun _=>true) true n 5 (List.take (Pg.cellsOf 5) (List.drop 0 [c0,c1,c2]))=some y0:=hfd 0 _ rfl
 have f1:DataW.trod enc Pg w 0 (fun _=>true) true n 5 (List.take (Pg.cellsOf 5) (List.drop 1 [c0,c1,c2]))=some y1:=hfd 1 _ rfl
 have f2:DataW.trod enc Pg w 0 (fun _=>true) true n 3 (List.take (Pg.cellsOf 3) (List.drop 2 [c0,c1,c2]))=some y2:=hfd 2 _ rfl
 rw[h1c 5 (.inr rfl)]at f0 f1
 rw[h1c 3 (.inl rfl)]at f2
 obtain⟨k0,e0,w0⟩:=Qm9 Tryd.underlying5 (x:=y0) f0
 obtain⟨k1,e1,w1⟩:=Qm9 Tryd.underlying5 (x:=y1) f1
 obtain⟨k2,e2,w2⟩:=Qm9 Tryd.underlying3 (x:=y2) f2
 simp at e0 e1 e2
 subst e0 e1 e2
 exact⟨k0,k1,k2,rfl,wf8 w0,wf8 w1⟩
theorem arg_be2{v:Value}{d:DataW H}{p:List MemPlace}(hv: ∃cs,v= .agg cs)(h:DataW.Trod enc Pg w 0 (fun _=>true) true 103 v d p):
  ∃(b0 a0 N0 b1 a1 N1:Int),RV (sg (allB w)) w (.agg [w8 b0,w8 a0,i6 N0,w8 b1,w8 a1,i6 N1]) v∧(0≤b0∧b0≤255)∧(0≤a0∧a0≤255)∧(0≤b1∧b1≤255)∧(0≤a1∧a1≤255):=by
 obtain⟨arr,rfl⟩:=hv
 obtain⟨fuel,hf⟩:=h
 obtain⟨xs,f,_,_,hl,hxl,hx⟩:=DataW.trod_array Tryd.underlying103 hf
 have hc:Pg.cellsOf 103=6:=by kernel_rfl
 have hc2:Pg.cellsOf 102=3:=by kernel_rfl
 have hcells:(Value.agg arr).cells.toList=arr.toList:=rfl
 rw[hc]at hl
 rw[hcells]at hl hx
 have h0:=hx 0 (by decide)
 have h1:=hx 1 (by decide)
 rw[hc2]at h0 h1
 obtain⟨x0,e0⟩: ∃x,xs[0]? =some x:=⟨xs[0]'(by omega),List.getElem?_eq_getElem _⟩
 obtain⟨x1,e1⟩: ∃x,xs[1]? =some x:=⟨xs[1]'(by omega),List.getElem?_eq_getElem _⟩
 rw[e0]at h0
 rw[e1]at h1
 obtain⟨b0,a0,N0,r0,p0,p1⟩:=Qgn h0
 obtain⟨b1,a1,N1,r1,p2,p3⟩:=Qgn h1
 have hall:arr.toList=[.int .u8 b0,.int .u8 a0,.int .i64 N0,.int .u8 b1,.int .u8 a1,.int .i64 N1]:=by
  generalize arr.toList=l at*
  have g0:l=List.take 3 l++List.take 3 (List.drop 3 l):=by
   have e2:List.take 3 (List.drop 3 l)=List.drop 3 l:=List.take_of_length_le (by rw[List.length_drop];omega)
   rw[e2,List.take_append_drop]
  rw[Nat.zero_mul,List.drop_zero]at r0
  rw[Nat.one_mul]at r1
  rw[g0,r0,r1];rfl
 refine⟨b0,a0,N0,b1,a1,N1,⟨arr,rfl,?_⟩,p0,p1,p2,p3⟩
 rw[hall]
 exact⟨_,_,rfl,rfl,_,_,rfl,rfl,_,_,rfl,rfl,_,_,rfl,rfl,_,_,rfl,rfl,_,_,rfl,rfl,rfl⟩
theorem ut_toNat{L:List Int}(h: ∀n∈L,(Lit.int .u64 n).wf=true):ut (L.map Int.toNat)=L.map (V.int .u64)∧S64 (L.map Int.toNat):=by
 constructor
 ·unfold ut
  rw[List.map_map]
  refine List.map_congr_left fun n hn=>?_
  have:=wf64 (h n hn)
  simp only[Function.comp]
  rw[Int.toNat_of_nonneg this.1]
 ·intro x hx
  obtain⟨n,hn,rfl⟩:=List.mem_map.1 hx
  have:=wf64 (h n hn)
  omega
theorem arg_lad{v:Value}{d:DataW H}{p:List MemPlace}(hv: ∃cs,v= .agg cs∧cs.size=Pg.cellsOf 77)(h:DataW.Trod enc Pg w 0 (fun _=>true) true 77 v d p):
  ∃(L:List Int)(P:List Nat),RV (sg (allB w)) w (lV L P) v∧S64 P∧L.length≤9223372036854775807∧P.length≤9223372036854775807:=by
 obtain⟨arr,rfl,hsz⟩:=hv
 obtain⟨fuel,hf⟩:=h
 obtain⟨xs,n,_,_,hl,hlen,hfd⟩:=DataW.trod_struct Tryd.underlying77 hf
 have hc:Pg.cellsOf 77=2:=by kernel_rfl
 rw[hc]at hl
 have hcells:(Value.agg arr).cells.toList=arr.toList:=rfl
 rw[hcells]at hl hfd
 obtain⟨c0,c1,harr⟩: ∃c0 c1,arr.toList=[c0,c1]:=by
  match arr.toList,hl with
  |[c0,c1],_=>exact⟨c0,c1,rfl⟩
 have hlen':xs.length=2:=hlen
 obtain⟨y0,y1,rfl⟩: ∃y0 y1,xs=[y0,y1]:=by
  match xs,hlen' with
  |[y0,y1],_=>exact⟨y0,y1,rfl⟩
 have h1c: ∀t,t=29∨t=52→Pg.cellsOf t=1:=by
  rintro t (rfl|rfl)<;>kernel_rfl
 have f0:DataW.trod enc Pg w 0 (fun _=>true) true n 29 (List.take (Pg.cellsOf 29) (List.drop 0 arr.toList))=some y0:=hfd 0 _ rfl
 have f1:DataW.trod enc Pg w 0 (fun _=>true) true n 52 (List.take (Pg.cellsOf 52) (List.drop 1 arr.toList))=some y1:=hfd 1 _ rfl
 rw[harr]at f0 f1
 rw[h1c 29 (.inl rfl)]at f0
 rw[h1c 52 (.inr rfl)]at f1
 obtain⟨v0,L,e0,r0,w0,l0⟩:=Qrj Tryd.underlying29 Tryd.underlying3 (by kernel_rfl) (x:=y0) f0
 obtain⟨v1,P,e1,r1,w1,l1⟩:=Qrj Tryd.underlying52 Tryd.underlying28 (by kernel_rfl) (x:=y1) f1
 simp at e0 e1
 subst e0 e1
 obtain⟨u1,u2⟩:=ut_toNat w1
 refine⟨L,P.map Int.toNat,⟨arr,rfl,?_⟩,u2,l0,by rw[List.length_map];exact l1⟩
 rw[harr]
 refine⟨_,_,rfl,r0,_,_,rfl,?_,rfl⟩
 unfold ul
 rw[u1,List.length_map]
 exact r1
end
end Go.Proofs.YtglpoiaedkoecaaDoor.Am
