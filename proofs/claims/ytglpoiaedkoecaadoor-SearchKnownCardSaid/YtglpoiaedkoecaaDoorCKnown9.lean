/- Texts behind the claim, part 9: the abstract machine, and what the functions answer. No condition. -/
import Derived.Test.YtglpoiaedkoecaaDoorCKnown8
set_option linter.unusedVariables false
set_option linter.unusedSimpArgs false
set_option linter.unusedSectionVars false
namespace Go.Proofs.YtglpoiaedkoecaaDoor.Am
open Go.RowKit
set_option maxHeartbeats 4000000
set_option maxRecDepth 100000
abbrev rtE(b:Bool)(e:Int):SL:={sl:=[(6,.bool b),(7,i6 e)]}
theorem Qfv(cards:List Int)(cs:List (List Int))(lim:Int)(L:List Int)(P:List Nat)(hl1:cards.length≤1000)(hl2:cs.length≤1000)(e:Int)(he:Qca cards cs lim=e)(h0:e≠0):FnOk Pg g0 42 [gV cards cs,i6 lim,lV L P] (.tup [.bool false,i6 e]):=by
 have hd:=Qex cards cs lim hl1 hl2 e he h0
 have hg:=Qap cs
 have hc:=Qad cards
 have hlo:=Qad L
 have hu:=Qa6 P
 refine FnOk.of_vc vE_ok mixed Qac (n:=1000) (r:=[]) (S:=rtE false e) (hs:=[fn 17 (.tup [.nilp,.agg [.nils,.nils],i6 e]),yes 22]) ?_
 refine Eq.mp (by kernel_rfl:(An [Sm (V.tup [V.bool false,i6 e]),An [TT 2,Tt,Tt],FnOk Pg g0 88 [V.agg [V.im cards.length (ints cards),V.im cs.length (List.map sl cs)],i6 lim] (V.tup [V.nilp,V.agg [V.nils,V.nils],i6 e]),Tt,(e != (0:Int))=true,An [Sm false,e=e,Tt],Tt])=_) ?_
 (repeat'(first|(with_reducible apply And.intro)|(refine fun(_:True)=>?_)))
 all_goals first|exact hd|exact hg|exact hc|exact hlo|exact hu|exact aq|rfl|skip
theorem Qqj(cards:List Int)(cs:List (List Int))(lim:Nat)(L:List Int)(P:List Nat)(hP:S64 P)(he:Qca cards cs (lim:Int)=0)(hbad:goodL L P cards.length=false):FnOk Pg g0 42 [gV cards cs,i6 (lim:Int),lV L P] (.tup [.bool false,i6 290]):=by
 obtain⟨hg0,hn1,hn5,_,_,hl2,hcl⟩:=Qek he
 obtain⟨q,k,_,h⟩:=Qeh cards cs lim he
 generalize tabB cards.length lim (fF cards cs) (2^cards.length)=B at*
 generalize laT cards.length lim (fF cards cs) (2^cards.length)=la at*
 generalize paT cards.length lim (fF cards cs) (2^cards.length)=pa at*
 generalize fF cards cs=F at*
 generalize 2^cards.length=size at*
 have hcall:=Qis L P cards cs F size q B la pa k lim h
 have hB:=Qaa B size
 have hla:=Qaf la size
 have hpa:=Qag pa size
 have hE:=Qab q (k+1)
 have hS:=Qaa (scF F q) (k+1)
 have hg:=Qap cs
 have hc:=Qad cards
 have hlo:=Qad L
 have hu:=Qa6 P
 have hck:=Qaq L P hP
 have hvr:=Qa4 L P
 rw[Qjb]at hbad
 clear h he
 cases hb:ladB L P with
 |false=>
  rw[hb,if_neg (by decide)]at hck
  refine FnOk.of_vc vE_ok mixed Qac (n:=1000) (r:=[]) (S:=rtE false 290) (hs:=[(17,.call ⟨cbW size,ofOs .e 0 ([gO cards cs,lO L P]++cbD cards cs F size q B la pa k),8,[]⟩),fn 25 (i6 290)]) ?_
  clear hbad hb hvr
  refine Eq.mp (by kernel_rfl:(An [Sm (V.tup [V.bool false,i6 290]),CallSpec Pg g0 (V.fn 88 []) [V.agg [sl cards,gC cs],i6 ↑lim] (pt (pt T.e 0 (O.row 32 none [sl cards,gC cs])) 1 (O.row 77 none [sl L,ul P])) 2 (CR.mk (cbW size) (ofOs T.e 0 ([gO cards cs,lO L P]++cbD cards cs F size q B la pa k)) 8 []),Tt,An [TT 2,Tt],FnOk Pg g0 56 [V.agg [V.im L.length (ints L),V.im P.length (ut P)]] (i6 290),Tt,An [Sm false,Sm (290:Int),Tt],Tt])=_) ?_
  (repeat'(first|(with_reducible apply And.intro)|(refine fun(_:True)=>?_)))
  all_goals first|exact hcall|exact hck|exact hg|exact hc|exact hB|exact hla|exact hpa|exact hE|exact hS|exact hlo|exact hu|exact aq|rfl|skip
 |true=>
  rw[hb,if_pos rfl]at hck
  rw[hb,Bool.true_and]at hbad
  have hw:=of_decide_eq_false hbad
  generalize wdt L P=w at*
  have hne:((w:Int)==(cards.length:Int))=false:=by rw[Qd0,decide_eq_false hw]
  refine FnOk.of_vc vE_ok mixed Qac (n:=1000) (r:=[]) (S:=rtE false 290) (hs:=[(17,.call ⟨cbW size,ofOs .e 0 ([gO cards cs,lO L P]++cbD cards cs F size q B la pa k),8,[]⟩),fn 25 (i6 0),fn 29 (i6 (w:Nat)),yes 33]) ?_
  clear hbad hb
  refine Eq.mp (by kernel_rfl:(let z1:=ofOs T.e 0 ([gO cards cs,lO L P]++cbD cards cs F size q B la pa k);let z2:=[V.agg [V.im L.length (ints L),V.im P.length (ut P)]];let z3:=V.tup [V.bool false,i6 290];let z4:=[sl L,ul P];let z5:=some (size-size);let z0:=pt (pt z1 8 (O.row 77 none [V.nils,V.nils])) 8 (O.row 77 none [V.sl 5 0 size z5,V.sl 6 0 size z5]);An [z3=z3,CallSpec Pg g0 (V.fn 88 []) [V.agg [sl cards,gC cs],i6 ↑lim] (pt (pt T.e 0 (O.row 32 none [sl cards,gC cs])) 1 (O.row 77 none z4)) 2 (CR.mk (cbW size) z1 8 []),Tt,An [TT 2,Tt],FnOk Pg g0 56 z2 (i6 0),Tt,An [TT 2,Tt],FnOk Pg g0 89 z2 (i6 ↑w),An [(V.fn 56 []=V.fn 89 []→[V.agg z4]=[V.agg z4]→z0=z0→8+1=9→CR.mk (i6 0) z0 9 []=CR.mk (i6 ↑w) z0 9 []),Tt],((↑w:Int) != (↑cards.length:Int))=true,An [Sm false,Sm (290:Int),Tt],Tt])=_) ?_
  (repeat'(first|(with_reducible apply And.intro)|(refine fun(_:True)=>?_)))
  all_goals first|exact hcall|exact hck|exact hvr|exact hne|exact hg|exact hc|exact hB|exact hla|exact hpa|exact hE|exact hS|exact hlo|exact hu|exact aq|rfl|skip
theorem sum_add1(f g:Nat→Int):ar (sumF f g)=ar (addA f g 1):=congrArg V.agg (Qa7 fun k hk=>Qmz f g hk)
theorem ask_ok{cards:List Int}{cs:List (List Int)}(hl2:cs.length≤40)(hcl: ∀c∈cs,c.length≤1000)(h:goodE cards cs=0)(hn:cards.length≤5){lim s v p:Nat}(hs:s<2^cards.length)(hv:v<cards.length)(hok:okT lim s v p=true)(B:Nat→Nat→Int)(hB:inB (B (s-2^v)) 800):AskOk cards cs (fF cards cs) B s v p:=by
 have hF:=Qo3 h hl2
 refine⟨?_,?_⟩
 ·have := add_ok (B (s - 2 ^ v)) (fF cards cs v p) (hB.inA (by decide)) ((hF v p).inA (by decide)) (by
   refine Qpp fun k hk=>?_
   have h1:=hB k hk
   have h2:=hF v p k hk
   have:sumF (B (s-2^v)) (fF cards cs v p) k=B (s-2^v) k+1*fF cards cs v p k:=Qmz _ _ hk
   omega)
  rwa [sum_add1]at this
 ·have ho := Qcg.1 hok
  have hps:p≤s:=by rw[←ho.1];exact Nat.and_le_right
  have hF2:fF cards cs v p=famG cards cs v p:=if_pos hv
  rw[hF2]
  refine Qqp cards cs v p (by omega) (by omega) hcl h ?_
  unfold memB
  have e1:p/2^cards.length=0:=Nat.div_eq_of_lt (by omega)
  have e2:p/2^v%2=0:=by
   have:=ho.2.1
   rw[Nat.testBit_eq_decide_div_mod_eq]at this
   have:=of_decide_eq_false this
   omega
  simp[e1,e2,hv]
theorem rgt_all(n lim:Nat)(F:Nat→Nat→Nat→Int)(L:List Int)(P:List Nat)(h:LdOk L P n):(List.range (2^n)).all (fun s=>decide (s=0)||rgtS lim F (tabB n lim F (2^n)) L P s)=rgtB n lim F L P:=by
 have key: ∀s,s<2^n→(decide (s=0)||rgtS lim F (tabB n lim F (2^n)) L P s)=(decide (s=0)||(decide (popc (P.getD s 0)≤lim)&&eqA (addA (topB n lim F (s-2^laL L s)) (F (laL L s) (paL P s)) 1) (topB n lim F s))):=fun s hs=>by
  unfold rgtS
  rw[Qcm,Qcm,if_pos hs,if_pos (Nat.lt_of_le_of_lt (Nat.sub_le _ _) hs)]
 unfold rgtB
 apply Bool.eq_iff_iff.2
 constructor
 ·intro h;exact Qam.2 fun s hs=>by rw[←key s hs];exact Qam.1 h s hs
 ·intro h;exact Qam.2 fun s hs=>by rw[key s hs];exact Qam.1 h s hs
theorem Qh3(cards:List Int)(cs:List (List Int))(lim:Nat)(L:List Int)(P:List Nat)(hP:S64 P)(he:Qca cards cs (lim:Int)=0)(hgood:goodL L P cards.length=true):FnOk Pg g0 42 [gV cards cs,i6 (lim:Int),lV L P] (.tup [.bool (rgtB cards.length lim (fF cards cs) L P),i6 0]):=by
 obtain⟨hg0,hn1,hn5,_,_,hl2,hcl⟩:=Qek he
 obtain⟨q,k,hk,h⟩:=Qeh cards cs lim he
 have hck:=Qaq L P hP
 have hvr:=Qa4 L P
 rw[Qjb,Bool.and_eq_true]at hgood
 obtain⟨hb,hw⟩:=hgood
 have hw:=of_decide_eq_true hw
 have hlad:=Qhn hb
 rw[hb,if_pos rfl]at hck
 rw[hw]at hvr hlad
 have hF:=Qo3 hg0 hl2
 have hpos:1≤2^cards.length:=Nat.pow_pos (by decide)
 have h32:=Qa0 hn5
 have l:=rt_loop L P hP cards cs (fF cards cs) (tabB cards.length lim (fF cards cs) (2^cards.length)) cards.length (2^cards.length) lim rfl hlad (fun s h0 hs hpc=>by
  obtain⟨a1,a2,a3⟩:=hlad.ok.at_ s h0 hs
  have hp32:paL P s<32:=by
   rw[←a3];exact Nat.lt_of_le_of_lt Nat.and_le_right (by have:=Nat.sub_le s (2^laL L s);omega)
  refine ask_ok hl2 (fun c hc=>by rw[hcl c hc];omega) hg0 hn5 hs a1 ((Qdc (by omega) (by omega) a2 hp32).2 ⟨a3,hpc⟩) _ ?_
  rw[Qcm,if_pos (Nat.lt_of_le_of_lt (Nat.sub_le _ _) hs)]
  exact Qq5 hF hn5 (Nat.lt_of_le_of_lt (Nat.sub_le _ _) hs)) q k hk _ rfl
 rw[rgt_all _ _ _ _ _ hlad]at l
 have e1:=hlad.lenL
 have e2:=hlad.lenP
 generalize rgtB cards.length lim (fF cards cs) L P=b at*
 generalize tabB cards.length lim (fF cards cs) (2^cards.length)=B at*
 generalize laT cards.length lim (fF cards cs) (2^cards.length)=la at*
 generalize paT cards.length lim (fF cards cs) (2^cards.length)=pa at*
 generalize fF cards cs=F at*
 generalize 2^cards.length=size at*
 have hcall:=Qis L P cards cs F size q B la pa k lim h
 have hB:=Qaa B size
 have hla:=Qaf la size
 have hpa:=Qag pa size
 have hE:=Qab q (k+1)
 have hS:=Qaa (scF F q) (k+1)
 have hg:=Qap cs
 have hc:=Qad cards
 have hlo:=Qad L
 have hu:=Qa6 P
 have hrt:rrS L P cards cs F B size lim (0,q,k)={sl:=[(1,i6 (lim:Nat)),(5,.ptr 0 0),(8,.ptr 3 0),(37,i6 (L.length:Nat)),(38,i6 0)],os:=rtO L P cards cs F B size q k,md:=[0,0,0,1]}:=by rw[e1];rfl
 rw[hrt]at l
 clear h he hw hb hrt hF
 cases b with
 |true=>
  have l:=l.mono (Qch rfl (by simp))
  refine FnOk.of_vc vE_ok mixed Qac (n:=1000) (r:=[]) (S:=rtE true 0) (hs:=[(17,.call ⟨cbW size,ofOs .e 0 ([gO cards cs,lO L P]++cbD cards cs F size q B la pa k),8,[]⟩),fn 25 (i6 0),fn 29 (i6 (cards.length:Nat)),no 33,(0,.loop [1,2,3,4,7] {sl:=[(1,i6 (lim:Nat)),(5,.ptr 0 0),(8,.ptr 3 0),(37,i6 (L.length:Nat)),(38,i6 0)],os:=rtO L P cards cs F B size q k,md:=[0,0,0,1]} [(True,.exit 0,{sl:=[]})])]) ?_
  refine Eq.mp (by kernel_rfl:(let z1:=ofOs T.e 0 ([gO cards cs,lO L P]++cbD cards cs F size q B la pa k);let z2:=[V.agg [V.im L.length (ints L),V.im P.length (ut P)]];let z3:=[sl L,ul P];let z4:=bF (scF F q) (k+1);let z5:=entM q (k+1);let z6:=V.tup [V.bool true,i6 0];let z7:=(↑cards.length:Int);let z8:=(0:Int);let z9:=i6 ↑cards.length;let y0:=some (size-size);let z0:=pt (pt z1 8 (O.row 77 none [V.nils,V.nils])) 8 (O.row 77 none [V.sl 5 0 size y0,V.sl 6 0 size y0]);An [z6=z6,CallSpec Pg g0 (V.fn 88 []) [V.agg [sl cards,gC cs],i6 ↑lim] (pt (pt T.e 0 (O.row 32 none [sl cards,gC cs])) 1 (O.row 77 none z3)) 2 (CR.mk (cbW size) z1 8 []),Tt,An [TT 2,Tt],FnOk Pg g0 56 z2 (i6 0),Tt,An [TT 2,Tt],FnOk Pg g0 89 z2 z9,An [(V.fn 56 []=V.fn 89 []→[V.agg z3]=[V.agg z3]→z0=z0→8+1=9→CR.mk (i6 0) z0 9 []=CR.mk z9 z0 9 []),Tt],(z7 != z7)=false,An [An [Sm (↑lim:Int),Zz,Zz,Sm (↑L.length:Int),z8=z8,Tt],An [z3=z3,TT 2],An [Sm (bF B size),HfL (bF B size)],An [z5=z5,HfE z5,Sm (k+1)],An [An [Sm cards.length,Sm (ints cards)],An [Sm cs.length,Sm (List.map sl cs)],An [Zz,Sm size,Sm (size-size)],Tt,An [Zz,Sm (k+1),Tt],Tt],An [z4=z4,HfL z4],Tt],Sat Pg none 0 (at' 42 [1,1,1,1,0,1,0]) (mkSt g0 80 (SL.mk [(1,i6 ↑lim),(5,V.ptr 0 0),(8,V.ptr 3 0),(37,i6 ↑L.length),(38,i6 0)] (rtO L P cards cs F B size q k) [] [0,0,0,1])) (Qah g0 80 [(True,Ex.exit 0,SL.mk [] [] [] [])]),(True→An [An [Sm true,z8=z8,Tt],Tt]),Tt])=_) ?_
  (repeat'(first|(with_reducible apply And.intro)|(refine fun(_:True)=>?_)))
  all_goals first|exact l|exact hcall|exact hck|exact hvr|exact hg|exact hc|exact hB|exact hla|exact hpa|exact hE|exact hS|exact hlo|exact hu|exact aq|rfl|skip
 |false=>
  have l:=l.mono (Qci (by simp) rfl)
  refine FnOk.of_vc vE_ok mixed Qac (n:=1000) (r:=[]) (S:=rtE false 0) (hs:=[(17,.call ⟨cbW size,ofOs .e 0 ([gO cards cs,lO L P]++cbD cards cs F size q B la pa k),8,[]⟩),fn 25 (i6 0),fn 29 (i6 (cards.length:Nat)),no 33,(0,.loop [1,2,3,4,7] {sl:=[(1,i6 (lim:Nat)),(5,.ptr 0 0),(8,.ptr 3 0),(37,i6 (L.length:Nat)),(38,i6 0)],os:=rtO L P cards cs F B size q k,md:=[0,0,0,1]} [(True,.ret,rtR false)])]) ?_
  refine Eq.mp (by kernel_rfl:(let z1:=ofOs T.e 0 ([gO cards cs,lO L P]++cbD cards cs F size q B la pa k);let z2:=[V.agg [V.im L.length (ints L),V.im P.length (ut P)]];let z3:=[sl L,ul P];let z4:=bF (scF F q) (k+1);let z5:=entM q (k+1);let z6:=V.tup [V.bool false,i6 0];let z7:=(↑cards.length:Int);let z8:=(0:Int);let z9:=i6 ↑cards.length;let y0:=some (size-size);let z0:=pt (pt z1 8 (O.row 77 none [V.nils,V.nils])) 8 (O.row 77 none [V.sl 5 0 size y0,V.sl 6 0 size y0]);An [z6=z6,CallSpec Pg g0 (V.fn 88 []) [V.agg [sl cards,gC cs],i6 ↑lim] (pt (pt T.e 0 (O.row 32 none [sl cards,gC cs])) 1 (O.row 77 none z3)) 2 (CR.mk (cbW size) z1 8 []),Tt,An [TT 2,Tt],FnOk Pg g0 56 z2 (i6 0),Tt,An [TT 2,Tt],FnOk Pg g0 89 z2 z9,An [(V.fn 56 []=V.fn 89 []→[V.agg z3]=[V.agg z3]→z0=z0→8+1=9→CR.mk (i6 0) z0 9 []=CR.mk z9 z0 9 []),Tt],(z7 != z7)=false,An [An [Sm (↑lim:Int),Zz,Zz,Sm (↑L.length:Int),z8=z8,Tt],An [z3=z3,TT 2],An [Sm (bF B size),HfL (bF B size)],An [z5=z5,HfE z5,Sm (k+1)],An [An [Sm cards.length,Sm (ints cards)],An [Sm cs.length,Sm (List.map sl cs)],An [Zz,Sm size,Sm (size-size)],Tt,An [Zz,Sm (k+1),Tt],Tt],An [z4=z4,HfL z4],Tt],Sat Pg none 0 (at' 42 [1,1,1,1,0,1,0]) (mkSt g0 80 (SL.mk [(1,i6 ↑lim),(5,V.ptr 0 0),(8,V.ptr 3 0),(37,i6 ↑L.length),(38,i6 0)] (rtO L P cards cs F B size q k) [] [0,0,0,1])) (Qah g0 80 [(True,Ex.ret,rtR false)]),(True→An [An [Sm false,z8=z8,Tt],Tt]),Tt])=_) ?_
  (repeat'(first|(with_reducible apply And.intro)|(refine fun(_:True)=>?_)))
  all_goals first|exact l|exact hcall|exact hck|exact hvr|exact hg|exact hc|exact hB|exact hla|exact hpa|exact hE|exact hS|exact hlo|exact hu|exact aq|rfl|skip
set_option maxHeartbeats 1000000
section
variable (n:Nat) (a b:Nat→Nat)
end
set_option maxHeartbeats 4000000
set_option maxRecDepth 100000
def litF(l:List Int):Nat→Int:=fun i=>l.getD i 0
abbrev exC:List Int:=[2,2]
abbrev exD:List (List Int):=[[0,0],[0,0],[1,1],[0,1]]
def exG(v p:Nat):Nat→Int:=match v,p with
 |0,0=>litF [-2,0,-1]
 |0,2=>litF [-1,-2]
 |1,0=>litF [-1,-1,-1]
 |1,1=>litF [-3,-1]
 | _,_=>fF exC exD v p
theorem Qi5: ∀v,v<2→∀p,p<4→∀i,i<18→fF exC exD v p i=exG v p i:=by decide+kernel
def exT(lim:Nat)(s:Nat):Nat→Int:=match s with
 |1=>litF [-2,0,-1]
 |2=>litF [-1,-1,-1]
 |3=>if lim=0 then litF [-3,-1,-2]else litF [-5,-1,-1]
 | _=>zeroF
theorem exT0: ∀s,s<4→∀i,i<18→valO (outB 0 exG (exT 0) s 2) i=exT 0 s i:=by decide+kernel
theorem exT1: ∀s,s<4→∀i,i<18→valO (outB 1 exG (exT 1) s 2) i=exT 1 s i:=by decide+kernel
theorem Qo2: ∀s,s<4→∀i,i<18→topB 2 0 (fF exC exD) s i=exT 0 s i:=fun s hs=>(Qcy (lim:=0) (exT 0) 4 Qi5 exT0 s hs).2
theorem Qkh: ∀s,s<4→∀i,i<18→topB 2 1 (fF exC exD) s i=exT 1 s i:=fun s hs=>(Qcy (lim:=1) (exT 1) 4 Qi5 exT1 s hs).2
noncomputable def vcFi2(P:Program)(E:Env)(sp:Qc6)(gl:T (List V))(n:Nat)(ars:List V)(hs:Hs)(r1:List Nat)(S1:SL)(r:List Nat)(S:SL)(v:V):Option FI→Prop
 |some fi=>bif Nat.ble ars.length fi.ntmps&&hfB v then retP v (retV E.G (mkSt gl fi.ntmps S).tm (mkSt gl fi.ntmps S).H fi.res)∧gcP 0 r (mkSt gl fi.ntmps S1) S∧vc P E sp none 0 n fi.body hs ⟨⟨Qdd (blank fi.ntmps) 0 ars,gl,fi.ntmps⟩,.e,0,[]⟩ (kFin fi.ntmps r1 S1)else False
 |none=>False
theorem FnOk.of_vc2{P:Program}{E:Env}{sp:Qc6}(hE:E.Ok P)(hm:P.follows .mixedOrders=true){gl:T (List V)}(hsp:Qbe P gl sp){n f:Nat}{ars:List V}{hs:Hs}{r1:List Nat}{S1:SL}{r:List Nat}{S:SL}{v:V}(h:vcFi2 P E sp gl n ars hs r1 S1 r S v (E.code f)):FnOk P gl f ars v:=by
 unfold vcFi2 at h
 split at h
 ·rename_i fi hfi
  obtain⟨hb,hret,hgc,hv⟩:=Qai h
  rw[Bool.and_eq_true]at hb
  have hret':retV E.G (mkSt gl fi.ntmps S).tm (mkSt gl fi.ntmps S).H fi.res=some v:=by
   unfold retP at hret
   split at hret
   ·rename_i u e;rw[e,hret]
   ·exact hret.elim
  rw[Qbz]at hv
  refine CallSpec.fnC hE hfi (by rw[List.append_nil];exact hb.1) (Log.refl _ _ _) (R:=fun e st=>(e= .normal∨e= .ret)∧st=mkSt gl fi.ntmps S) ?_ ?_
  ·rw [List.append_nil]
   refine Sat.gc_post (Sat.gc_post (Sat.of_vc hE hm hsp rfl hv fun e hs' st' hg hk=>?_))
   unfold kFin at hk
   have fin:(bif Nat.beq st'.tm.n fi.ntmps then gcP 0 r1 st' S1 else False)→∃r0 st2,Gc 0 r0 st' st2∧∃r1' st3,Gc 0 r1' st2 st3∧st3=mkSt gl fi.ntmps S:=by
    intro hk
    obtain⟨hb,hk⟩:=Qai hk
    have hn:=Nat.eq_of_beq_eq_true hb
    have g1:=Qc2 hk
    rw[hg,hn]at g1
    exact⟨r1,_,g1,r,_,Qc2 hgc,rfl⟩
   cases e with
   |exit=>exact hk.elim
   |normal=>obtain⟨r0,st2,h1,r2,st3,h2,h3⟩:=fin hk;exact⟨r0,st2,h1,r2,st3,h2,.inl rfl,h3⟩
   |ret=>obtain⟨r0,st2,h1,r2,st3,h2,h3⟩:=fin hk;exact⟨r0,st2,h1,r2,st3,h2,.inr rfl,h3⟩
  ·rintro e st ⟨he, rfl⟩
   refine⟨he,v,hret',fun s w ee w' hH hn⟨u,s',h1,g1,g2,g3,_,_⟩=>?_⟩
   subst h1
   obtain⟨s'',q1,q2,q3,q4⟩:=Qez hH g1 (Qjd.1 v hb.2) g3 (fun h _=>hn h (Nat.zero_le _)) (fun b hb=>g2.old b (.inl hb))
   exact⟨u,s'',rfl,q1,q2,q3,fun i=>by rw[q4];exact dom_same s _ i,Nat.le_refl _⟩
 ·exact h.elim
theorem Qh2{n lim:Nat}{F G:Nat→Nat→Nat→Int}{T:Nat→Nat→Int}{L:List Int}{P:List Nat}(h:LdOk L P n)(hT: ∀s,s<2^n→∀i,i<18→topB n lim F s i=T s i)(hG: ∀v,v<n→∀p,p<2^n→∀i,i<18→F v p i=G v p i):rgtB n lim F L P=(List.range (2^n)).all fun s=>decide (s=0)||(decide (popc (P.getD s 0)≤lim)&&eqA (addA (T (s-2^laL L s)) (G (laL L s) (paL P s)) 1) (T s)):=by
 have key: ∀s,s<2^n→(decide (s=0)||(decide (popc (P.getD s 0)≤lim)&&eqA (addA (topB n lim F (s-2^laL L s)) (F (laL L s) (paL P s)) 1) (topB n lim F s)))=(decide (s=0)||(decide (popc (P.getD s 0)≤lim)&&eqA (addA (T (s-2^laL L s)) (G (laL L s) (paL P s)) 1) (T s))):=fun s hs=>by
  by_cases h0:s=0
  ·rw[decide_eq_true h0];rfl
  ·obtain ⟨a1, a2, a3⟩ := h.ok.at_ s (by omega) hs
   have hp:paL P s<2^n:=by
    rw[←a3];exact Nat.lt_of_le_of_lt Nat.and_le_right (by have:=Nat.sub_le s (2^laL L s);omega)
   congr 2
   apply Bool.eq_iff_iff.2
   rw[Qhh,Qhh]
   have ht:=Nat.sub_le s (2^laL L s)
   constructor
   ·intro hh i hi
    rw[Qdz,←hT _ (by omega) i hi,←hG _ a1 _ hp i hi,←hT _ hs i hi,←hh i hi,Qdz]
   ·intro hh i hi
    rw[Qdz,hT _ (by omega) i hi,hG _ a1 _ hp i hi,hT _ hs i hi,←hh i hi,Qdz]
 unfold rgtB
 apply Bool.eq_iff_iff.2
 constructor
 ·intro h;exact Qam.2 fun s hs=>by rw[←key s hs];exact Qam.1 h s hs
 ·intro h;exact Qam.2 fun s hs=>by rw[key s hs];exact Qam.1 h s hs
abbrev l1L:List Int:=[0,0,1,1]
abbrev l1P:List Nat:=[0,0,0,1]
abbrev l2L:List Int:=[0,0,1,0]
abbrev l2P:List Nat:=[0,0,0,2]
theorem Qnw{a b c d:Nat}(ha:a<100)(hb:b<100)(hc:c<100)(hd:d<100):S64 [a,b,c,d]:=fun x hx=>by
 simp at hx
 omega
theorem Qd3:Qca exC exD 0=0∧Qca exC exD 1=0∧Qca exC exD 5=2:=by decide+kernel
theorem l1_ok:LdOk l1L l1P 2:=Qhn (L:=l1L) (P:=l1P) (by decide+kernel)
theorem l2_ok:LdOk l2L l2P 2:=Qhn (L:=l2L) (P:=l2P) (by decide+kernel)
theorem r11:rgtB 2 1 (fF exC exD) l1L l1P=true:=by rw[Qh2 l1_ok Qkh Qi5];decide+kernel
theorem r12:rgtB 2 1 (fF exC exD) l2L l2P=false:=by rw[Qh2 l2_ok Qkh Qi5];decide+kernel
theorem r01:rgtB 2 0 (fF exC exD) l1L l1P=false:=by rw[Qh2 l1_ok Qo2 Qi5];decide+kernel
theorem over_600:FnOk Pg g0 96 [i6 600] (ar (litF [-3,-1,-2])):=FnOk.of_run vE_ok mixed (n:=100000) rfl (by kernel_rfl)
theorem over_480:FnOk Pg g0 96 [i6 480] (ar (litF [-5,-1,-1])):=FnOk.of_run vE_ok mixed (n:=100000) rfl (by kernel_rfl)
theorem Qgn:FnOk Pg g0 66 [] (gV exC exD):=by
 refine FnOk.of_vc2 vE_ok mixed Qac (n:=1000) (r1:=[0,6]) (S1:={sl:=[(0,.ptr 0 0)],os:=[.row 32 none [sl exC,.sl 1 0 4 (some 0)],.row 29 none [sl [0,0],sl [0,0],sl [1,1],sl [0,1]]],md:=[1,1]}) (r:=[0]) (S:={sl:=[(0,.ptr 0 0)],os:=[.row 32 none [sl exC,gC exD]],md:=[1]}) (hs:=[]) ?_
 refine Eq.mp (by kernel_rfl:(let z0:=(0:Int);let z1:=(1:Int);An [V.agg [sl exC,gC exD]=gV exC exD,An [An [Zz,Tt],An [An [2=2,Sm (ints exC)],An [4=4,List.map sl exD=[sl [z0,z0],sl [z0,z0],sl [z1,z1],sl [z0,z1]],TT 4],Tt],Tt],An [Zz,Tt],An [An [2=2,ints exC=[i6 2,i6 2],TT 2],An [Zz,4=4,Zz],Tt],An [An [2=2,ints [z0,z0]=[i6 0,i6 0],TT 2],An [2=2,ints [z0,z0]=[i6 0,i6 0],TT 2],An [2=2,ints [z1,z1]=[i6 1,i6 1],TT 2],An [2=2,ints [z0,z1]=[i6 0,i6 1],TT 2],Tt],Tt])=_) ?_
 (repeat'(first|(with_reducible apply And.intro)|(refine fun(_:True)=>?_)))
 all_goals first|exact aq|rfl|skip
theorem top_0:FnOk Pg g0 41 [gV exC exD,i6 0] (.tup [ar (litF [-3,-1,-2]),i6 0]):=by
 have h:=Qj2 exC exD 0 Qd3.1
 rw[show ar (topB exC.length 0 (fF exC exD) (2^exC.length-1))=ar (litF [-3,-1,-2])from congrArg V.agg (Qa7 (Qo2 3 (by decide)))]at h
 exact h
theorem top_1:FnOk Pg g0 41 [gV exC exD,i6 1] (.tup [ar (litF [-5,-1,-1]),i6 0]):=by
 have h:=Qj2 exC exD 1 Qd3.2.1
 rw[show ar (topB exC.length 1 (fF exC exD) (2^exC.length-1))=ar (litF [-5,-1,-1])from congrArg V.agg (Qa7 (Qkh 3 (by decide)))]at h
 exact h
theorem top_5:FnOk Pg g0 41 [gV exC exD,i6 5] (.tup [ar zeroF,i6 2]):=Qq6 exC exD 5 (by decide) (by decide) 2 Qd3.2.2 (by decide)
abbrev wkO:List O:=[.row 32 none [sl exC,gC exD],.row 41 none (arF (litF [-3,-1,-2])),.row 41 none (arF (litF [-5,-1,-1])),.row 3 none [i6 0,i6 0,i6 1,i6 1],.row 28 none [u6 0,u6 0,u6 0,u6 1],.row 77 none [.sl 3 0 4 (some 0),.sl 4 0 4 (some 0)],.row 3 none [i6 0,i6 0,i6 1,i6 0],.row 28 none [u6 0,u6 0,u6 0,u6 2],.row 77 none [.sl 6 0 4 (some 0),.sl 7 0 4 (some 0)]]
abbrev wkO1:List O:=wkO++[.row 28 none [u6 0,u6 1]]
theorem wk_small(n:Nat)(h:n<9):n=0∨n=1∨n=2∨n=3∨n=4∨n=5∨n=6∨n=7∨n=8:=by omega
theorem wk_small1(n:Nat)(h:n<10):n=0∨n=1∨n=2∨n=3∨n=4∨n=5∨n=6∨n=7∨n=8∨n=9:=by omega
theorem chk_l1:FnOk Pg g0 56 [lV l1L l1P] (i6 0):=by
 have h:=Qaq l1L l1P (Qnw (by decide) (by decide) (by decide) (by decide))
 rw[show(if ladB l1L l1P then(0:Int)else 290)=0 by decide+kernel]at h
 exact h
theorem chk_l2:FnOk Pg g0 56 [lV l2L l2P] (i6 0):=by
 have h:=Qaq l2L l2P (Qnw (by decide) (by decide) (by decide) (by decide))
 rw[show(if ladB l2L l2P then(0:Int)else 290)=0 by decide+kernel]at h
 exact h
theorem var_l1:FnOk Pg g0 89 [lV l1L l1P] (i6 2):=by
 have h:=Qa4 l1L l1P
 rw[show wdt l1L l1P=2 by decide+kernel]at h
 exact h
theorem var_l2:FnOk Pg g0 89 [lV l2L l2P] (i6 2):=by
 have h:=Qa4 l2L l2P
 rw[show wdt l2L l2P=2 by decide+kernel]at h
 exact h
theorem gra_l1:CallSpec Pg g0 (.fn 40 []) [.agg [.sl 3 0 4 (some 0),.sl 4 0 4 (some 0)]] (ofOs .e 0 wkO) 9 ⟨.tup [.sl 9 0 2 (some 0),i6 0],ofOs .e 0 wkO1,10,[]⟩:=by
 have h1:=chk_l1
 have h2:=var_l1
 refine CallSpec.of_vcH (P:=Pg) (E:=vE) vE_ok mixed Qac (n:=1000) (f:=40) (os0:=wkO) (ars:=[.agg [.sl 3 0 4 (some 0),.sl 4 0 4 (some 0)]]) (r:=[10]) (S:={sl:=[(2,.sl 9 0 2 (some 0)),(3,i6 0)],os:=wkO1,md:=[0,0,0,0,0,1,0,0,1]}) (v:=.tup [.sl 9 0 2 (some 0),i6 0]) (hs:=[fn 8 (i6 0),fn 13 (i6 2),(0,.unroll 5)]) (gl:=g0) (by simp) (fun i hi _=>by
   rcases wk_small i (by simpa using hi)with rfl|rfl|rfl|rfl|rfl|rfl|rfl|rfl|rfl<;>rfl) (by
  refine Eq.mp (by kernel_rfl:(let z9:=An [An [TT 4,TT 4,Tt],Tt];let z1:=arF (litF [(-3:Int),(-1:Int),(-2:Int)]);let z2:=arF (litF [(-5:Int),(-1:Int),(-1:Int)]);let z3:=[i6 0,i6 0,i6 1,i6 1];let z4:=[u6 0,u6 0,u6 0,u6 1];let z5:=Int.toNat (2:Int);let z6:=V.tup [V.sl 9 0 2 (some 0),i6 0];let z7:=[i6 0,i6 0,i6 1,i6 0];let z8:=[u6 0,u6 0,u6 0,u6 2];let z0:=[V.agg [V.im 4 z3,V.im 4 z4]];An [z6=z6,z9,FnOk Pg g0 56 z0 (i6 0),Tt,z9,FnOk Pg g0 89 z0 (i6 2),Tt,An [An [Zz,2=z5,0=z5-z5],Sm (0:Int),Tt],An [Sm [sl exC,gC exD],TT 2],An [z1=z1,TT 18],An [z2=z2,TT 18],An [z3=z3,TT 4],An [z4=z4,TT 4],An [An [Zz,4=4,Zz],An [Zz,4=4,Zz],Tt],An [z7=z7,TT 4],An [z8=z8,TT 4],An [An [Zz,4=4,Zz],An [Zz,4=4,Zz],Tt],An [Sm [u6 0,u6 1],TT 2],Tt])=_) ?_
  (repeat'(first|(with_reducible apply And.intro)|(refine fun(_:True)=>?_)))
  all_goals first|exact h1|exact h2|exact aq|rfl|skip)
theorem gra_l2:CallSpec Pg g0 (.fn 40 []) [.agg [.sl 6 0 4 (some 0),.sl 7 0 4 (some 0)]] (ofOs .e 0 wkO1) 10 ⟨.tup [.sl 10 0 2 (some 0),i6 0],ofOs .e 0 (wkO1++[.row 28 none [u6 2,u6 0]]),11,[]⟩:=by
 have h1:=chk_l2
 have h2:=var_l2
 refine CallSpec.of_vcH (P:=Pg) (E:=vE) vE_ok mixed Qac (n:=1000) (f:=40) (os0:=wkO1) (ars:=[.agg [.sl 6 0 4 (some 0),.sl 7 0 4 (some 0)]]) (r:=[11]) (S:={sl:=[(2,.sl 10 0 2 (some 0)),(3,i6 0)],os:=wkO1++[.row 28 none [u6 2,u6 0]],md:=[0,0,0,0,0,1,0,0,1]}) (v:=.tup [.sl 10 0 2 (some 0),i6 0]) (hs:=[fn 8 (i6 0),fn 13 (i6 2),(0,.unroll 5)]) (gl:=g0) (by simp) (fun i hi _=>by
   rcases wk_small1 i (by simpa using hi)with rfl|rfl|rfl|rfl|rfl|rfl|rfl|rfl|rfl|rfl<;>rfl) (by
  refine Eq.mp (by kernel_rfl:(let z9:=An [An [TT 4,TT 4,Tt],Tt];let z1:=arF (litF [(-3:Int),(-1:Int),(-2:Int)]);let z2:=arF (litF [(-5:Int),(-1:Int),(-1:Int)]);let z3:=[i6 0,i6 0,i6 1,i6 0];let z4:=[u6 0,u6 0,u6 0,u6 2];let z5:=Int.toNat (2:Int);let z6:=V.tup [V.sl 10 0 2 (some 0),i6 0];let z7:=[i6 0,i6 0,i6 1,i6 1];let z8:=[u6 0,u6 0,u6 0,u6 1];let z0:=[V.agg [V.im 4 z3,V.im 4 z4]];An [z6=z6,z9,FnOk Pg g0 56 z0 (i6 0),Tt,z9,FnOk Pg g0 89 z0 (i6 2),Tt,An [An [Zz,2=z5,0=z5-z5],Sm (0:Int),Tt],An [Sm [sl exC,gC exD],TT 2],An [z1=z1,TT 18],An [z2=z2,TT 18],An [z7=z7,TT 4],An [z8=z8,TT 4],An [An [Zz,4=4,Zz],An [Zz,4=4,Zz],Tt],An [z3=z3,TT 4],An [z4=z4,TT 4],An [An [Zz,4=4,Zz],An [Zz,4=4,Zz],Tt],An [Sm [u6 0,u6 1],TT 2],An [Sm [u6 2,u6 0],TT 2],Tt])=_) ?_
  (repeat'(first|(with_reducible apply And.intro)|(refine fun(_:True)=>?_)))
  all_goals first|exact h1|exact h2|exact aq|rfl|skip)
theorem rgt_11:FnOk Pg g0 42 [gV exC exD,i6 1,lV l1L l1P] (.tup [.bool true,i6 0]):=by
 have h:=Qh3 exC exD 1 l1L l1P (Qnw (by decide) (by decide) (by decide) (by decide)) Qd3.2.1 (by decide+kernel)
 rw[show rgtB exC.length 1 (fF exC exD) l1L l1P=true from r11]at h
 exact h
theorem rgt_12:FnOk Pg g0 42 [gV exC exD,i6 1,lV l2L l2P] (.tup [.bool false,i6 0]):=by
 have h:=Qh3 exC exD 1 l2L l2P (Qnw (by decide) (by decide) (by decide) (by decide)) Qd3.2.1 (by decide+kernel)
 rw[show rgtB exC.length 1 (fF exC exD) l2L l2P=false from r12]at h
 exact h
theorem rgt_01:FnOk Pg g0 42 [gV exC exD,i6 0,lV l1L l1P] (.tup [.bool false,i6 0]):=by
 have h:=Qh3 exC exD 0 l1L l1P (Qnw (by decide) (by decide) (by decide) (by decide)) Qd3.1 (by decide+kernel)
 rw[show rgtB exC.length 0 (fF exC exD) l1L l1P=false from r01]at h
 exact h
theorem chk_a:FnOk Pg g0 56 [lV [0,1,1,1] [0,0,0,0]] (i6 290):=by
 have h:=Qaq [0,1,1,1] [0,0,0,0] (Qnw (by decide) (by decide) (by decide) (by decide))
 rw[show(if ladB [0,1,1,1] [0,0,0,0]then(0:Int)else 290)=290 by decide+kernel]at h
 exact h
theorem chk_b:FnOk Pg g0 56 [lV [0,0,1] [0,0,0]] (i6 290):=by
 have h:=Qaq [0,0,1] [0,0,0] (fun x hx=>by simp at hx;omega)
 rw[show(if ladB [0,0,1] [0,0,0]then(0:Int)else 290)=290 by decide+kernel]at h
 exact h
theorem works29:FnOk Pg g0 60 [] (.bool true):=by
 have h1:=Qgn
 have h2:=top_0
 have h3:=top_1
 have h4:=gra_l1
 have h5:=gra_l2
 have h6:=rgt_11
 have h7:=rgt_12
 have h8:=rgt_01
 have h9:=top_5
 have ha:=over_600
 have hb:=over_480
 have hc:=Qgm [0,1] (by decide)
 have hd:=Qgm [2,0] (by decide)
 have he:=chk_a
 have hf:=chk_b
 refine FnOk.of_vc vE_ok mixed Qac (n:=1000) (r:=[]) (S:={sl:=[(0,.bool true)]}) (hs:=[fn 21 (gV exC exD),fn 24 (.tup [ar (litF [-3,-1,-2]),i6 0]),fn 29 (.tup [ar (litF [-5,-1,-1]),i6 0]),(40,.call ⟨.tup [.sl 9 0 2 (some 0),i6 0],ofOs .e 0 wkO1,10,[]⟩),(45,.call ⟨.tup [.sl 10 0 2 (some 0),i6 0],ofOs .e 0 (wkO1++[.row 28 none [u6 2,u6 0]]),11,[]⟩),fn 51 (.tup [.bool true,i6 0]),fn 57 (.tup [.bool false,i6 0]),fn 63 (.tup [.bool false,i6 0]),fn 68 (.tup [ar zeroF,i6 2]),fn 79 (ar (litF [-3,-1,-2])),fn 84 (ar (litF [-5,-1,-1])),fn 94 (.bool true),fn 103 (.bool true),fn 137 (i6 290),fn 144 (i6 290)]) ?_
 refine Eq.mp (by kernel_rfl:(let w0:=An [TT 2,Tt,An [TT 4,TT 4,Tt],Tt];let w1:=An [TT 2,Tt,Tt];let z1:=[(-3:Int),(-1:Int),(-2:Int)];let z2:=[(-5:Int),(-1:Int),(-1:Int)];let z5:=O.row 41 none [i6 0,i6 0,i6 0,i6 0,i6 0,i6 0,i6 0,i6 0,i6 0,i6 0,i6 0,i6 0,i6 0,i6 0,i6 0,i6 0,i6 0,i6 0];let z6:=V.agg [V.im 2 (ints exC),V.im 4 (List.map sl exD)];let z8:=V.bool true;let y0:=[V.sl 10 0 2 (some 0),V.sl 13 0 2 (some 0)];let y1:=[V.sl 9 0 2 (some 0),V.sl 12 0 2 (some 0)];let y3:=Int.toNat (4:Int);let y4:=Int.toNat (3:Int);let y8:=[V.sl 3 0 4 (some 0),V.sl 4 0 4 (some 0)];let y9:=[V.sl 6 0 4 (some 0),V.sl 7 0 4 (some 0)];let x0:=O.row 77 none [V.nils,V.nils];let x1:=[u6 2,u6 0];let x2:=V.tup [V.bool false,i6 0];let x3:=[i6 0,i6 0,i6 1,i6 1];let x4:=[u6 0,u6 0,u6 0,u6 1];let x5:=[i6 0,i6 0,i6 1,i6 0];let x6:=[u6 0,u6 0,u6 0,u6 2];let x7:=[i6 0,i6 1,i6 1,i6 1];let x8:=[u6 0,u6 0,u6 0,u6 0];let x9:=[u6 0,u6 1];let y2:=V.agg [V.im 4 x3,V.im 4 x4];let y5:=ofOs T.e 0 (wkO1++[O.row 28 none x1]);let y6:=ar (litF z1);let y7:=ar (litF z2);let z0:=pt (pt y5 11 z5) 11 (O.row 41 none (arF zeroF));let z7:=pt z0 12 (O.row 28 none x9);let z3:=pt z7 13 (O.row 28 none x1);let z4:=pt (pt z3 14 (O.row 3 none x7)) 15 (O.row 28 none x8);let z9:=pt (pt z4 16 (O.row 3 none [i6 0,i6 0,i6 1])) 17 (O.row 28 none [u6 0,u6 0,u6 0]);An [z8=z8,Tt,FnOk Pg g0 66 [] (gV exC exD),Tt,w1,FnOk Pg g0 41 [z6,i6 0] (V.tup [y6,i6 0]),Tt,w1,FnOk Pg g0 41 [z6,i6 1] (V.tup [y7,i6 0]),Tt,CallSpec Pg g0 (V.fn 40 []) [V.agg y8] (pt (pt (pt (pt (pt (pt (pt (pt (pt (pt (pt (pt (pt (pt T.e 0 (O.row 32 none [V.nils,V.nils])) 0 (O.row 32 none [sl exC,gC exD])) 1 z5) 1 (O.row 41 none (arF (litF z1)))) 2 z5) 2 (O.row 41 none (arF (litF z2)))) 3 (O.row 3 none x3)) 4 (O.row 28 none x4)) 5 x0) 5 (O.row 77 none y8)) 6 (O.row 3 none x5)) 7 (O.row 28 none x6)) 8 x0) 8 (O.row 77 none y9)) 9 (CR.mk (V.tup [V.sl 9 0 2 (some 0),i6 0]) (ofOs T.e 0 wkO1) 10 []),Tt,CallSpec Pg g0 (V.fn 40 []) [V.agg y9] (ofOs T.e 0 wkO1) 10 (CR.mk (V.tup [V.sl 10 0 2 (some 0),i6 0]) y5 11 []),Tt,w0,FnOk Pg g0 42 [z6,i6 1,y2] (V.tup [z8,i6 0]),Tt,w0,FnOk Pg g0 42 [z6,i6 1,V.agg [V.im 4 x5,V.im 4 x6]] x2,Tt,w0,FnOk Pg g0 42 [z6,i6 0,y2] x2,Tt,w1,FnOk Pg g0 41 [z6,i6 5] (V.tup [ar zeroF,i6 2]),Tt,An [Tt,Tt],FnOk Pg g0 96 [i6 600] y6,Tt,An [Tt,Tt],FnOk Pg g0 96 [i6 480] y7,An [(V.fn 96 []=V.fn 96 []→[i6 600]=[i6 480]→z0=z0→11+1=12→CR.mk y6 z0 12 []=CR.mk y7 z0 12 []),Tt],An [TT 2,TT 2,Tt],FnOk Pg g0 58 [V.im 2 x9,V.im 2 x9] z8,An [(V.fn 96 []=V.fn 58 []→[i6 480]=y1→z0=z7→11+1=13→CR.mk y7 z0 12 []=CR.mk z8 z7 13 []),(V.fn 96 []=V.fn 58 []→[i6 600]=y1→z0=z7→11+1=13→CR.mk y6 z0 12 []=CR.mk z8 z7 13 []),Tt],An [TT 2,TT 2,Tt],FnOk Pg g0 58 [V.im 2 x1,V.im 2 x1] z8,An [(V.fn 58 []=V.fn 58 []→y1=y0→z7=z3→11+1+1=14→CR.mk z8 z7 13 []=CR.mk z8 z3 14 []),(V.fn 96 []=V.fn 58 []→[i6 480]=y0→z0=z3→11+1=14→CR.mk y7 z0 12 []=CR.mk z8 z3 14 []),(V.fn 96 []=V.fn 58 []→[i6 600]=y0→z0=z3→11+1=14→CR.mk y6 z0 12 []=CR.mk z8 z3 14 []),Tt],An [An [TT 4,TT 4,Tt],Tt],FnOk Pg g0 56 [V.agg [V.im 4 x7,V.im y3 x8]] (i6 290),Tt,An [An [TT 3,TT 3,Tt],Tt],FnOk Pg g0 56 [V.agg [V.im 3 [i6 0,i6 0,i6 1],V.im y4 [u6 0,u6 0,u6 0]]] (i6 290),An [(V.fn 56 []=V.fn 56 []→[V.agg [V.sl 14 0 4 (some 0),V.sl 15 0 y3 (some (y3-y3))]]=[V.agg [V.sl 16 0 3 (some 0),V.sl 17 0 y4 (some (y4-y4))]]→z4=z9→11+1+1+1+1+1=18→CR.mk (i6 290) z4 16 []=CR.mk (i6 290) z9 18 []),Tt],An [true=((290:Int)==(290:Int)),Tt],Tt])=_) ?_
 (repeat'(first|(with_reducible apply And.intro)|(refine fun(_:True)=>?_)))
 all_goals first|exact h1|exact h2|exact h3|exact h4|exact h5|exact h6|exact h7|exact h8|exact h9|exact ha|exact hb|exact hc|exact hd|exact he|exact hf|exact aq|rfl|skip
abbrev paC:List Int:=[2,2,2]
def paR(k:Nat):List Int:=[((k%2:Nat):Int),((k/2%2:Nat):Int),(((k+k/2)%2:Nat):Int)]
def paW(k:Nat):List (List Int):=(List.range k).map paR
def paG(v p:Nat):Nat→Int:=match v,p with
 |0,0|1,0|2,0=>litF [-1,-3,-1,0,-1,0,-1,-1,-1,-1,-1]
 |0,2|0,4|1,1|1,4|2,1|2,2=>litF [-2,-4,-2,0,-2,-2,-2]
 |0,6|1,5|2,3=>litF [0,-8]
 | _,_=>fF paC (paW 32) v p
theorem Qqb: ∀v,v<3→∀p,p<8→∀i,i<18→fF paC (paW 32) v p i=paG v p i:=by decide+kernel
abbrev pa7(lim:Nat):List Int:=if lim=1 then[-3,-9,-3,0,-3,0,-3,-3,-3,-3,-3]else[-2,-14,-2,0,-2,0,-2,-2,-2,-2,-2]
def paQ(lim:Nat)(s:Nat):Nat→Int:=match s with
 |1|2|4=>litF [-1,-3,-1,0,-1,0,-1,-1,-1,-1,-1]
 |3|5|6=>litF [-2,-6,-2,0,-2,0,-2,-2,-2,-2,-2]
 |7=>litF (pa7 lim)
 | _=>zeroF
theorem paQ1: ∀s,s<8→∀i,i<18→valO (outB 1 paG (paQ 1) s 3) i=paQ 1 s i:=by decide+kernel
theorem paQ2: ∀s,s<8→∀i,i<18→valO (outB 2 paG (paQ 2) s 3) i=paQ 2 s i:=by decide+kernel
theorem laT_at(n lim:Nat)(F:Nat→Nat→Nat→Int): ∀N s,s<N→laT n lim F N s=vO (stB n lim F s)∧paT n lim F N s=pO (stB n lim F s)
 |0,s,h=>absurd h (Nat.not_lt_zero _)
 | N + 1, s, h => by
  show sL N (stB n lim F N) (laT n lim F N) s=_∧sP N (stB n lim F N) (paT n lim F N) s=_
  unfold sL sP
  by_cases e:s=N
  ·subst e;rw[if_pos rfl,if_pos rfl];exact⟨rfl,rfl⟩
  ·rw [if_neg e, if_neg e]
   exact laT_at n lim F N s (by omega)
theorem Qpu{la pa la' pa':Nat→Nat}: ∀f s v,(∀t,t≤s→la t=la' t∧pa t=pa' t)→ladG la pa f s v=ladG la' pa' f s v
 |0,_,_,_=>rfl
 |f+1,s,v,h=>by
  rw[ladG,ladG,(h s (Nat.le_refl _)).1,(h s (Nat.le_refl _)).2]
  rw[Qpu f _ v (fun t ht=>h t (Nat.le_trans ht (Nat.sub_le _ _)))]
theorem Qky:goodE paC (paW 32)=0∧Qca paC (paW 32) 1=0∧Qca paC (paW 32) 2=0:=by decide+kernel
theorem pa_top1:FnOk Pg g0 41 [gV paC (paW 32),i6 1] (.tup [ar (paQ 1 7),i6 0]):=by
 have h:=Qj2 paC (paW 32) 1 Qky.2.1
 rw[show ar (topB paC.length 1 (fF paC (paW 32)) (2^paC.length-1))=ar (paQ 1 7)from congrArg V.agg (Qa7 ((Qcy (n:=3) (lim:=1) (paQ 1) 8 Qqb paQ1 7 (by decide)).2))]at h
 exact h
theorem pa_top2:FnOk Pg g0 41 [gV paC (paW 32),i6 2] (.tup [ar (paQ 2 7),i6 0]):=by
 have h:=Qj2 paC (paW 32) 2 Qky.2.2
 rw[show ar (topB paC.length 2 (fF paC (paW 32)) (2^paC.length-1))=ar (paQ 2 7)from congrArg V.agg (Qa7 ((Qcy (n:=3) (lim:=2) (paQ 2) 8 Qqb paQ2 7 (by decide)).2))]at h
 exact h
theorem pa_cmp:FnOk Pg g0 45 [ar (paQ 2 7),ar (paQ 1 7)] (.tup [i6 1,i6 0]):=by
 have h:=cmp_ok (paQ 2 7) (paQ 1 7) (by decide+kernel) (by decide+kernel)
 rw[show cmpF (paQ 2 7) (paQ 1 7)=1 by decide+kernel]at h
 exact h
theorem pa_solve: ∃L P,S64 P∧FnOk Pg g0 39 [gV paC (paW 32),i6 2] (.tup [lV L P,i6 0])∧FnOk Pg g0 40 [lV L P] (.tup [.im 3 [u6 6,u6 0,u6 0],i6 0]):=by
 obtain⟨hgo,_,he⟩:=Qky
 have hF:=Qo3 hgo (show(paW 32).length≤40 by decide)
 have hsol:=Qmy paC (paW 32) 2 he
 rw[mk_V]at hsol
 have hS:=Qqt (n:=3) (lim:=2) hF (by decide)
 have hb:=sol_lad (n:=3) (lim:=2) hF (by decide) (by decide)
 have hgr:=graph_ok _ _ hS hb
 rw[show wdt (solL 3 2 (fF paC (paW 32))) (solP 3 2 (fF paC (paW 32)))=3 from mk_wdt _ _ (by decide) (by decide)]at hgr
 have hat: ∀t,t<8→laL (solL 3 2 (fF paC (paW 32))) t=vO (outB 2 paG (paQ 2) t 3)∧paL (solP 3 2 (fF paC (paW 32))) t=pO (outB 2 paG (paQ 2) t 3):=fun t ht=>by
  have e:=vpO_eqv (Qcy (n:=3) (lim:=2) (paQ 2) 8 Qqb paQ2 t ht).1
  have e2:=laT_at 3 2 (fF paC (paW 32)) 8 t ht
  exact⟨by rw[show laL (solL 3 2 (fF paC (paW 32))) t=laT 3 2 (fF paC (paW 32)) (2^3) t from mk_la (n:=3) ht];exact e2.1.trans e.1,by rw[show paL (solP 3 2 (fF paC (paW 32))) t=paT 3 2 (fF paC (paW 32)) (2^3) t from mk_pa (n:=3) ht];exact e2.2.trans e.2⟩
 have hg: ∀v,v<3→gL (solL 3 2 (fF paC (paW 32))) (solP 3 2 (fF paC (paW 32))) 3 v=if v=0 then 6 else 0:=fun v hv=>by
  unfold gL
  rw[Qpu 3 7 v (fun t ht=>hat t (by omega))]
  revert v
  decide+kernel
 have e:gV' 3 (gL (solL 3 2 (fF paC (paW 32))) (solP 3 2 (fF paC (paW 32))) 3)= .im 3 [u6 6,u6 0,u6 0]:=by
  show V.im 3 [u6 _,u6 _,u6 _]=_
  rw[hg 0 (by decide),hg 1 (by decide),hg 2 (by decide)];rfl
 rw[e]at hgr
 exact⟨_,_,hS,hsol,hgr⟩
abbrev pkS(k:Nat)(l:List (List Int)):SL:={sl:=[(1,.ptr 0 0),(33,i6 (k:Nat))],os:=.row 32 none [sl paC,owV 1 k]::owL 29 (l.map sl) k,md:=[1,2]}
theorem Qg5{H:Nat→Option O}{F:Nat→Prop}{ρ:Nat→Option Nat}: ∀{l l':List V}{x y:V},ViewL H F ρ l l'→View H F ρ x y→ViewL H F ρ (l++[x]) (l'++[y])
 |[],_,_,_,h,hx=>by cases h;exact⟨_,_,rfl,hx,rfl⟩
 |a::l,_,_,_,⟨b,l',e,h1,h2⟩,hx=>by subst e;exact⟨b,l'++[_],rfl,h1,Qg5 h2 hx⟩
theorem Qid{H:Nat→Option O}{F:Nat→Prop}{ρ:Nat→Option Nat}{h n t:Nat}{room sp:Option Nat}{l:List V}(hF:F h)(hg:H h=some (.row t sp l))(hl:HfL l):View H F ρ (.im n l) (.sl h 0 n room):=
 .inr (.inr ⟨h,0,room,t,sp,l,rfl,hF,hg,by rw[List.drop_zero];exact ViewP.of_hf l hl⟩)
theorem paW_succ(k:Nat):(paW (k+1)).map sl=(paW k).map sl++[sl (paR k)]:=by
 unfold paW
 rw[List.range_succ,List.map_append,List.map_append];rfl
theorem pk_loop:Sat Pg none 0 (at' 14 [1,1,1,0,1,0]) (mkSt g0 264 (pkS 0 (paW 0))) (Qah g0 264 [(True,.exit 0,{sl:=[(1,.ptr 0 0)],os:=[gO paC (paW 32)]})]):=by
 refine Qbi vE_ok mixed Qac (b:=at' 14 [1,1,1,0,1,0,0]) (by kernel_rfl) (fun k=>k≤32) (fun k=>pkS k (paW k)) (fun k=>32-k) (fun k hk=>?_) 0 (by decide)
 by_cases hlt:k<32
 ·have e1 : (k : Int).tmod 2 = ((k % 2 : Nat) : Int) := by rw [show (2 : Int) = ((2 : Nat) : Int) from rfl, Qib]
  have e2:((k/2:Nat):Int).tmod 2=((k/2%2:Nat):Int):=by rw[show(2:Int)=((2:Nat):Int)from rfl,Qib]
  have e3:(((k+k/2:Nat)):Int).tmod 2=(((k+k/2)%2:Nat):Int):=by rw[show(2:Int)=((2:Nat):Int)from rfl,Qib]
  have e4:wr .i64 ((k:Int).tdiv 2)=((k/2:Nat):Int):=by
   rw[Int.tdiv_eq_ediv_of_nonneg (by omega)]
   exact wr6' (by omega) (by omega) (by omega)
  have e5:wr .i64 ((k:Int)+((k/2:Nat):Int))=((k+k/2:Nat):Int):=wr6' (by omega) (by omega) (by omega)
  have hs:=paW_succ k
  have hsl:sl (paR k)= .im 3 [i6 ((k%2:Nat):Int),i6 ((k/2%2:Nat):Int),i6 (((k+k/2)%2:Nat):Int)]:=rfl
  have hl:((paW k).map sl).length=k:=by simp[paW]
  have hg:=Qap (paW k)
  rw[hsl]at hs
  have hx:HfL [i6 ((k%2:Nat):Int),i6 ((k/2%2:Nat):Int),i6 (((k+k/2)%2:Nat):Int)]:=⟨trivial,trivial,trivial,trivial⟩
  have hFr: ∀(r lg:List Nat)(h:Nat),h∉r→Fr 0 r lg h:=fun r lg h hn=>⟨Nat.zero_le _,hn,fun _ _=>Nat.zero_le _⟩
  generalize hka:k%2=ka at*
  generalize hkb:k/2%2=kb at*
  generalize hkc:(k+k/2)%2=kc at*
  generalize hkd:k/2=kd at*
  generalize hke:k+kd=ke at*
  have hv: ∀(H:Nat→Option O)(r lg:List Nat)(h:Nat)(ρ:Nat→Option Nat),h∉r→H h=some (.row 3 none [i6 (ka:Int),i6 (kb:Int),i6 (kc:Int)])→ViewL H (Fr 0 r lg) ρ ((paW (k+1)).map sl) ((paW k).map sl++[.sl h 0 3 (some 0)]):=fun H r lg h ρ h1 h2=>by
   rw[hs]
   exact Qg5 (ViewL.of_hf _ hg) (Qid (hFr r lg h h1) h2 hx)
  clear hs
  cases k with
  |zero=>
   refine .inl ⟨1,[0,3],[nu 39 (ka:Nat),nu 41 (kd:Nat),nu 42 (kb:Nat),nu 45 (kd:Nat),nu 46 (ke:Nat),nu 47 (kc:Nat),nu 52 ((1:Nat):Int)],1000,by omega,by omega,?_⟩
   skip
   generalize paW 1=W at hv⊢
   refine Eq.mp (by kernel_rfl:(let z0:=(↑(0:Nat):Int);let z1:=[V.sl 1 0 3 (some 0)];let z2:=(↑(1:Nat):Int);let z3:=(↑kd:Int);let z5:=(2:Int);let z4:=wr .i64 (Int.tdiv z0 z5);An [Int.tmod z0 z5=(↑ka:Int),z4=z3,Int.tmod z3 z5=(↑kb:Int),z4=z3,wr .i64 (z0+z3)=(↑ke:Int),Int.tmod (↑ke:Int) z5=(↑kc:Int),wr .i64 (z0+(1:Int))=z2,An [Zz,z2=z2,Tt],An [An [3=3,Sm (ints paC)],An [Zz,1=1,Tt],Tt],ViewL (pt (pt (pt (pt (ofOs T.e 0 (O.row 32 none [sl paC,owV 1 0]::owL 29 (List.map sl (paW 0)) 0)) 1 (O.row 3 none [i6 ↑ka,i6 ↑kb,i6 ↑kc])) 2 (O.row 29 none z1)) 3 (O.row 29 (some 1) z1)) 0 (O.row 32 none [sl paC,V.sl 3 0 1 none])).get (Fr 0 [0,3] [0]) (rho 0 [0,3]) (List.map sl W) z1,Tt])=_) ?_
   (repeat'(first|(with_reducible apply And.intro)|(refine fun(_:True)=>?_)))
   all_goals first|exact hg|exact hv _ _ _ 1 _ (by decide) rfl|exact aq|rfl|skip
  |succ k=>
   refine .inl ⟨k+1+1,[0,4],[yes 34,nu 39 (ka:Nat),nu 41 (kd:Nat),nu 42 (kb:Nat),nu 45 (kd:Nat),nu 46 (ke:Nat),nu 47 (kc:Nat),ap 50,nu 52 ((k+1+1:Nat):Int)],1000,by omega,by omega,?_⟩
   skip
   generalize paW (k+1+1)=W at*
   generalize paW (k+1)=W0 at*
   refine Eq.mp (by kernel_rfl:(let z0:=(↑(k+1):Int);let z1:=List.map sl W0;let z2:=(↑(k+1+1):Int);let z3:=[V.sl 2 0 3 (some 0)];let z4:=(↑kd:Int);let z6:=(2:Int);let z5:=wr .i64 (Int.tdiv z0 z6);An [decide (z0<(32:Int))=true,Int.tmod z0 z6=(↑ka:Int),z5=z4,Int.tmod z4 z6=(↑kb:Int),z5=z4,wr .i64 (z0+z4)=(↑ke:Int),Int.tmod (↑ke:Int) z6=(↑kc:Int),z1.length=(k+1)*1,k+1+1≤9223372036854775807,(k+1+1)*24≤140737488355328,wr .i64 (z0+(1:Int))=z2,An [Zz,z2=z2,Tt],An [An [3=3,Sm (ints paC)],An [Zz,Nat.succ k+1=k+1+1,Tt],Tt],ViewL (pt (pt (pt (pt (pt (ofOs T.e 0 (O.row 32 none [sl paC,owV 1 (k+1)]::owL 29 z1 (k+1))) 2 (O.row 3 none [i6 ↑ka,i6 ↑kb,i6 ↑kc])) 3 (O.row 29 none z3)) 1 O.dead) 4 (O.row 29 (some 1) (z1++z3))) 0 (O.row 32 none [sl paC,V.sl 4 0 (k+1+1) none])).get (Fr 0 [0,4] [0,1]) (rho 0 [0,4]) (List.map sl W) (z1++z3),Tt])=_) ?_
   (repeat'(first|(with_reducible apply And.intro)|(refine fun(_:True)=>?_)))
   all_goals first|exact hg|exact hv _ _ _ 2 _ (by decide) rfl|exact aq|rfl|skip
 ·have : k = 32 := by omega
  subst this
  have hg:=Qap (paW 32)
  have hl:(paW 32).length=32:=rfl
  generalize paW 32=l at*
  refine .inr ⟨.exit 0,[0],{sl:=[(1,.ptr 0 0)],os:=[gO paC l],md:=[1]},[no 34],1000,.inl ⟨trivial,rfl,rfl⟩,?_⟩
  refine Eq.mp (by kernel_rfl:(An [decide ((↑(32:Nat):Int)<(32:Int))=false,An [Zz,Tt],An [An [3=3,Sm (ints paC)],An [l.length=32,Sm (List.map sl l),HfL (List.map sl l)],Tt],Tt])=_) ?_
  (repeat'(first|(with_reducible apply And.intro)|(refine fun(_:True)=>?_)))
  all_goals first|exact hg|exact aq|rfl|skip
section
variable (W:List (List Int)) (T1 T2 T3:Nat→Int) (L:List Int) (P:List Nat)
abbrev gaO:List O:=[gO paC W,.row 77 none [sl L,ul P],.row 41 none (arF T1),.row 41 none (arF T2),.row 3 none [i6 2,i6 2,i6 2,i6 2,i6 2,i6 2],.row 32 none [.sl 4 0 6 (some 0),.nils],.row 41 none (arF T3),.row 77 none [.nils,.nils]]
abbrev gaO1:List O:=gaO W T1 T2 T3 L P++[.row 32 none [.sl 9 0 2 (some 0),.sl 14 0 4 (some 0)],.row 3 none [i6 2,i6 2],.row 3 none [i6 0,i6 0],.row 3 none [i6 0,i6 0],.row 3 none [i6 1,i6 1],.row 3 none [i6 0,i6 1],.row 29 none [.sl 10 0 2 (some 0),.sl 11 0 2 (some 0),.sl 12 0 2 (some 0),.sl 13 0 2 (some 0)]]
abbrev gaO2:List O:=gaO W T1 T2 T3 L P++[.row 32 none [.sl 9 0 2 (some 0),.sl 14 0 4 (some 0)],.row 3 none [i6 2,i6 2],.row 3 none [i6 (-1),i6 0],.row 3 none [i6 0,i6 0],.row 3 none [i6 1,i6 1],.row 3 none [i6 0,i6 1],.row 29 none [.sl 10 0 2 (some 0),.sl 11 0 2 (some 0),.sl 12 0 2 (some 0),.sl 13 0 2 (some 0)],.row 32 none [.sl 9 0 2 (some 0),.sl 14 0 4 (some 0)]]
abbrev gaV:V:=.agg [.sl 9 0 2 (some 0),.sl 14 0 4 (some 0)]
end
theorem ga_small(n:Nat)(h:n<8):n=0∨n=1∨n=2∨n=3∨n=4∨n=5∨n=6∨n=7:=by omega
theorem ga_call(W:List (List Int))(T1 T2 T3:Nat→Int)(L:List Int)(P:List Nat):CallSpec Pg g0 (.fn 66 []) [] (ofOs .e 0 (gaO W T1 T2 T3 L P)) 8 ⟨gaV,ofOs .e 0 (gaO1 W T1 T2 T3 L P),15,[]⟩:=by
 have hu:=Qa6 P
 have hl:=Qad L
 have hg:=Qap W
 have h1:=HfL_ar T1
 have h2:=HfL_ar T2
 have h3:=HfL_ar T3
 refine CallSpec.of_vcH (P:=Pg) (E:=vE) vE_ok mixed Qac (n:=1000) (f:=66) (os0:=[gO paC W,.row 77 none [sl L,ul P],.row 41 none (arF T1),.row 41 none (arF T2),.row 3 none [i6 2,i6 2,i6 2,i6 2,i6 2,i6 2],.row 32 none [.sl 4 0 6 (some 0),.nils],.row 41 none (arF T3),.row 77 none [.nils,.nils]]) (ars:=[]) (r:=[8,9,10,11,12,13,14]) (S:={sl:=[(0,.ptr 8 0)],os:=[gO paC W,.row 77 none [sl L,ul P],.row 41 none (arF T1),.row 41 none (arF T2),.row 3 none [i6 2,i6 2,i6 2,i6 2,i6 2,i6 2],.row 32 none [.sl 4 0 6 (some 0),.nils],.row 41 none (arF T3),.row 77 none [.nils,.nils],.row 32 none [.sl 9 0 2 (some 0),.sl 14 0 4 (some 0)],.row 3 none [i6 2,i6 2],.row 3 none [i6 0,i6 0],.row 3 none [i6 0,i6 0],.row 3 none [i6 1,i6 1],.row 3 none [i6 0,i6 1],.row 29 none [.sl 10 0 2 (some 0),.sl 11 0 2 (some 0),.sl 12 0 2 (some 0),.sl 13 0 2 (some 0)]],md:=[0,0,0,0,0,1,0,0,1,0,0,0,0,0,1]}) (v:=gaV) (hs:=[]) (gl:=g0) (by simp) (fun i hi _=>by
   rcases ga_small i (by simpa using hi)with rfl|rfl|rfl|rfl|rfl|rfl|rfl|rfl<;>rfl) (by
  refine Eq.mp (by kernel_rfl:(let z0:=An [Sm [i6 0,i6 0],TT 2];An [V.agg [V.sl 9 0 2 (some 0),V.sl 14 0 4 (some 0)]=gaV,An [Zz,Tt],An [Sm [sl paC,gC W],TT 2],An [Sm [sl L,ul P],TT 2],An [Sm (arF T1),TT 18],An [Sm (arF T2),TT 18],An [Sm [i6 2,i6 2,i6 2,i6 2,i6 2,i6 2],TT 6],An [An [Zz,6=6,Zz],Tt,Tt],An [Sm (arF T3),TT 18],An [Sm [V.nils,V.nils],TT 2],An [An [Zz,2=2,Zz],An [Zz,4=4,Zz],Tt],An [Sm [i6 2,i6 2],TT 2],z0,z0,An [Sm [i6 1,i6 1],TT 2],An [Sm [i6 0,i6 1],TT 2],An [An [Zz,2=2,Zz],An [Zz,2=2,Zz],An [Zz,2=2,Zz],An [Zz,2=2,Zz],Tt],Tt])=_) ?_
  (repeat'(first|(with_reducible apply And.intro)|(refine fun(_:True)=>?_)))
  all_goals first|exact hu|exact hl|exact hg|exact h1|exact h2|exact h3|exact aq|(with_reducible rfl)|skip)
abbrev gaD:List (List Int):=[[-1,0],[0,0],[1,1],[0,1]]
theorem ga_right(W:List (List Int))(T1 T2 T3:Nat→Int)(L:List Int)(P:List Nat):CallSpec Pg g0 (.fn 42 []) [gaV,i6 9,.agg [.nils,.nils]] (ofOs .e 0 (gaO2 W T1 T2 T3 L P)) 16 ⟨.tup [.bool false,i6 260],ofOs .e 0 (gaO2 W T1 T2 T3 L P),16,[]⟩:=by
 have h:=Qfv [2,2] gaD 9 [] [] (by decide) (by decide) 260 (by decide+kernel) (by decide)
 refine Qpj h ?_ rfl
 have hr: ∀(h:Nat)(a b:Int),(ofOs .e 0 (gaO2 W T1 T2 T3 L P)).get h=some (.row 3 none [i6 a,i6 b])→View (ofOs .e 0 (gaO2 W T1 T2 T3 L P)).get (fun _=>True) (fun _=>none) (sl [a,b]) (.sl h 0 2 (some 0)):=fun h a b hg=>Qid trivial hg ⟨trivial,trivial,trivial⟩
 refine⟨_,_,rfl,⟨_,rfl,⟨_,_,rfl,hr 9 2 2 rfl,⟨_,_,rfl,.inr (.inr ⟨14,0,some 0,29,none,_,rfl,trivial,rfl,?_⟩),rfl⟩⟩⟩,⟨_,_,rfl,rfl,⟨_,_,rfl,⟨_,rfl,⟨_,_,rfl,.inr (.inl ⟨rfl,rfl⟩),⟨_,_,rfl,.inr (.inl ⟨rfl,rfl⟩),rfl⟩⟩⟩,rfl⟩⟩⟩
 exact⟨_,_,rfl,hr 10 (-1) 0 rfl,⟨_,_,rfl,hr 11 0 0 rfl,⟨_,_,rfl,hr 12 1 1 rfl,⟨_,_,rfl,hr 13 0 1 rfl,trivial⟩⟩⟩⟩
set_option maxHeartbeats 4000000
set_option maxRecDepth 100000
theorem Qon(L:List Int)(P:List Nat)(hP:S64 P)(e:Int)(h:(if ladB L P then(0:Int)else 290)=e):FnOk Pg g0 56 [lV L P] (i6 e):=by
 have:=Qaq L P hP
 rwa [h]at this
theorem Qql{a b:Nat}(ha:a<100)(hb:b<100):S64 [a,b]:=fun x hx=>by
 simp at hx
 omega
theorem no_fam: ∀v,v<3→∀p,p<8→∀i,i<18→fF [2,3,4] [] v p i=(fun _ _=>zeroF:Nat→Nat→Nat→Int) v p i:=by decide+kernel
theorem no_top: ∀s,s<8→∀i,i<18→valO (outB 4 (fun _ _=>zeroF) (fun _=>zeroF) s 3) i=(fun _=>zeroF:Nat→Nat→Int) s i:=by decide+kernel
theorem top_no:FnOk Pg g0 41 [gV [2,3,4] [],i6 4] (.tup [ar zeroF,i6 0]):=by
 have h:=Qj2 [2,3,4] [] 4 (by decide+kernel)
 rw[show ar (topB [(2:Int),3,4].length 4 (fF [2,3,4] []) (2^[(2:Int),3,4].length-1))=ar zeroF from congrArg V.agg (Qa7 ((Qcy (n:=3) (lim:=4) (fun _=>zeroF) 8 no_fam no_top 7 (by decide)).2))]at h
 exact h
theorem Qn6: ∃L P,S64 P∧L.length=32∧P.length=32∧FnOk Pg g0 39 [gV [2,2,2,2,2] [],i6 4] (.tup [lV L P,i6 0]):=by
 have hgo:goodE [2,2,2,2,2] []=0:=by decide+kernel
 have hF:=Qo3 hgo (show([]:List (List Int)).length≤40 by decide)
 have hsol:=Qmy [2,2,2,2,2] [] 4 (by decide+kernel)
 rw[mk_V]at hsol
 exact⟨_,_,Qqt (n:=5) (lim:=4) hF (by decide),by simp[mkL],by simp[mkP],hsol⟩
abbrev gaO3(W:List (List Int))(T1 T2 T3:Nat→Int)(L:List Int)(P:List Nat):List O:=gaO2 W T1 T2 T3 L P++[.row 3 none [i6 0,i6 0],.row 28 none [u6 0,u6 0],.row 3 none [i6 2,i6 3,i6 4],.row 41 none (arF T3),.row 3 none [i6 2,i6 2,i6 2,i6 2,i6 2]]
theorem ga_wide(W:List (List Int))(T1 T2 T3:Nat→Int)(L:List Int)(P:List Nat)(L5:List Int)(P5:List Nat)(h:FnOk Pg g0 39 [gV [2,2,2,2,2] [],i6 4] (.tup [lV L5 P5,i6 0])):CallSpec Pg g0 (.fn 39 []) [.agg [.sl 20 0 5 (some 0),.nils],i6 4] (ofOs .e 0 (gaO3 W T1 T2 T3 L P)) 21 ⟨.tup [lV L5 P5,i6 0],pt (ofOs .e 0 (gaO3 W T1 T2 T3 L P)) 20 .dead,21,[20]⟩:=by
 have hx:HfL [i6 2,i6 2,i6 2,i6 2,i6 2]:=⟨trivial,trivial,trivial,trivial,trivial,trivial⟩
 refine frameD [20] h ⟨_,_,rfl,⟨_,rfl,⟨_,_,rfl,Qid (l:=[i6 2,i6 2,i6 2,i6 2,i6 2]) (t:=3) (sp:=none) (List.mem_singleton.2 rfl) rfl hx,⟨_,_,rfl,.inr (.inl ⟨rfl,rfl⟩),rfl⟩⟩⟩,⟨_,_,rfl,rfl,rfl⟩⟩ ⟨⟨trivial,trivial,trivial⟩,trivial,trivial⟩ (fun g hg=>?_) (fun i hi=>?_) (fun i hi=>?_)
 ·obtain rfl := List.mem_singleton.1 hg
  exact⟨3,none,_,rfl⟩
 ·rw[pt_eq,T.get_put,if_neg (fun e=>hi (List.mem_singleton.2 e))]
 ·obtain rfl := List.mem_singleton.1 hi
  rw[pt_eq,T.get_put,if_pos rfl]
theorem known29:FnOk Pg g0 14 [] (.bool true):=by
 have hw:=works29
 have hex:=Qgn
 have lA:=pk_loop
 have t1:=pa_top1
 have t2:=pa_top2
 have hcmp:=pa_cmp
 obtain⟨L,P,hS,hsol,hgr⟩:=pa_solve
 obtain⟨L5,P5,hS5,hl5,hp5,hwide⟩:=Qn6
 have hone:=Qht 6 (by decide)
 rw[show popc 6=2 from rfl]at hone
 have hsix:=Qq6 [2,2,2,2,2,2] [] 1 (by decide) (by decide) 2 (by decide+kernel) (by decide)
 have hneg:=Qqv exC exD (-1) (by decide) (by decide) 2 (by decide+kernel) (by decide)
 have hno:=Qfv [] [] 9 [] [] (by decide) (by decide) 250 (by decide+kernel) (by decide)
 have hlad:=Qqj exC exD 1 [0,0] [0,0] (Qql (by decide) (by decide)) (by decide+kernel) (by decide+kernel)
 have hnine:=Qfv exC exD 9 [] [] (by decide) (by decide) 2 (by decide+kernel) (by decide)
 have hnt:=top_no
 have c1:=Qon [1,0] [0,0] (Qql (by decide) (by decide)) 290 (by decide+kernel)
 have c2:=Qon [0,0] [1,0] (Qql (by decide) (by decide)) 290 (by decide+kernel)
 have c3:=Qon [0,0] [0,1] (Qql (by decide) (by decide)) 290 (by decide+kernel)
 have c4:=Qon [0] [0] (fun x hx=>by simp at hx;omega) 290 (by decide+kernel)
 have c5:=Qon [0,0] [0,0] (Qql (by decide) (by decide)) 0 (by decide+kernel)
 have hga:=fun W T1 T2=>ga_call W T1 T2 zeroF L P
 have hgb:=fun W T1 T2=>ga_right W T1 T2 zeroF L P
 have hwide:=fun W T1 T2=>ga_wide W T1 T2 zeroF L P L5 P5 hwide
 have hu:=Qa6 P
 have hu5:=Qa6 P5
 generalize paW 32=W at*
 generalize paQ 1 7=T1 at*
 generalize paQ 2 7=T2 at*
 have hg:=Qap W
 have h1:=HfL_ar T1
 have h2:=HfL_ar T2
 have h3:=HfL_ar zeroF
 have hga:=hga W T1 T2
 have hgb:=hgb W T1 T2
 have hz:(zeroF 0==0&&(zeroF 1==0&&(zeroF 2==0&&(zeroF 3==0&&(zeroF 4==0&&(zeroF 5==0&&(zeroF 6==0&&(zeroF 7==0&&(zeroF 8==0&&(zeroF 9==0&&(zeroF 10==0&&(zeroF 11==0&&(zeroF 12==0&&(zeroF 13==0&&(zeroF 14==0&&(zeroF 15==0&&(zeroF 16==0&&(zeroF 17==0&&true))))))))))))))))))=true:=by decide
 generalize zeroF=T3 at*
 refine FnOk.of_vc vE_ok mixed Qac (n:=1000) (r:=[]) (S:={sl:=[(0,.bool true)]}) (hs:=[st [.sl 1 0 3 (some 0),.nils],(0,.loop [0] (pkS 0 (paW 0)) [(True,.exit 0,{sl:=[(1,.ptr 0 0)],os:=[gO paC W]})]),fn 55 (.tup [lV L P,i6 0]),fn 60 (.tup [.im 3 [u6 6,u6 0,u6 0],i6 0]),fn 65 (.tup [ar T1,i6 0]),fn 70 (.tup [ar T2,i6 0]),fn 76 (.tup [i6 1,i6 0]),fn 118 (i6 2),fn 125 (.tup [ar T3,i6 2]),fn 129 (gV exC exD),fn 130 (.tup [.agg [.nils,.nils],i6 2]),fn 136 (.tup [.bool false,i6 250]),(139,.call ⟨gaV,ofOs .e 0 (gaO1 W T1 T2 T3 L P),15,[]⟩),(148,.call ⟨.tup [.bool false,i6 260],ofOs .e 0 (gaO2 W T1 T2 T3 L P),16,[]⟩),fn 152 (gV exC exD),fn 156 (.tup [.bool false,i6 290]),fn 160 (gV exC exD),fn 162 (.tup [.bool false,i6 2]),fn 168 (.tup [ar T3,i6 0]),(174,.call ⟨.tup [lV L5 P5,i6 0],pt (ofOs .e 0 (gaO3 W T1 T2 T3 L P)) 20 .dead,21,[20]⟩),fn 178 (.bool true),yes 211,yes 221,yes 227,fn 233 (i6 290),fn 240 (i6 290),fn 247 (i6 290),fn 254 (i6 290),fn 261 (i6 0)]) ?_
 refine Eq.mp (by kernel_rfl:(let w6:=An [An [TT 2,TT 2,Tt],Tt];let w7:=An [TT 2,Tt,Tt];let w8:=An [TT 2,Tt,TT 2,Tt];let z8:=O.row 41 none [i6 0,i6 0,i6 0,i6 0,i6 0,i6 0,i6 0,i6 0,i6 0,i6 0,i6 0,i6 0,i6 0,i6 0,i6 0,i6 0,i6 0,i6 0];let z9:=[V.agg [V.sl 22 0 2 (some 0),V.sl 23 0 2 (some 0)]];let y0:=[V.agg [V.sl 24 0 2 (some 0),V.sl 25 0 2 (some 0)]];let y1:=[V.agg [V.sl 26 0 2 (some 0),V.sl 27 0 2 (some 0)]];let y2:=[V.agg [V.sl 28 0 1 (some 0),V.sl 29 0 1 (some 0)]];let y3:=[V.agg [V.sl 30 0 2 (some 0),V.sl 31 0 2 (some 0)]];let y4:=(0:Int);let y5:=[V.nils,V.nils];let y6:=V.agg [V.im 3 (ints paC),V.im W.length (List.map sl W)];let y7:=V.agg [V.im 2 (ints exC),V.im 4 (List.map sl exD)];let y8:=ofOs T.e 0 (gaO2 W T1 T2 T3 L P);let y9:=O.row 3 none [i6 0,i6 0];let x0:=gV exC exD;let x1:=V.bool true;let x2:=IntKind.bits IntKind.u64;let x3:=O.row 28 none [u6 0,u6 0];let x4:=V.im 2 [i6 0,i6 0];let x5:=V.bool false;let x7:=pt (ofOs T.e 0 (gaO3 W T1 T2 T3 L P)) 20 O.dead;let x8:=[V.sl 9 0 2 (some 0),V.sl 14 0 4 (some 0)];let x9:=[i6 2,i6 2,i6 2,i6 2,i6 2,i6 2];let w0:=ofOs T.e 0 (gaO1 W T1 T2 T3 L P);let w1:=V.im 2 [u6 0,u6 0];let w3:=O.row 41 none (arF T3);let w4:=[i6 1,i6 0];let z7:=pt (pt y8 16 y9) 17 x3;let x6:=O.row 77 none y5;let w2:=V.tup [V.agg y5,i6 2];let w5:=V.tup [x5,i6 290];let z1:=pt (pt (pt (pt (pt (pt (pt (pt (pt (pt (pt (ofOs T.e 0 [gO paC W]) 1 x6) 1 (O.row 77 none [sl L,ul P])) 2 z8) 2 (O.row 41 none (arF T1))) 3 z8) 3 (O.row 41 none (arF T2))) 4 (O.row 3 none x9)) 5 (O.row 32 none y5)) 5 (O.row 32 none [V.sl 4 0 6 (some 0),V.nils])) 6 z8) 6 w3;let z3:=pt (pt x7 21 x6) 21 (O.row 77 none [sl L5,ul P5]);let z4:=pt (pt z3 22 (O.row 3 none w4)) 23 x3;let z0:=pt (pt z4 24 y9) 25 (O.row 28 none [u6 1,u6 0]);let z5:=pt (pt z0 26 y9) 27 (O.row 28 none [u6 0,u6 1]);let z2:=pt (pt z5 28 (O.row 3 none [i6 0])) 29 (O.row 28 none [u6 0]);let z6:=pt (pt z2 30 y9) 31 x3;An [x1=x1,layE (0+0) y5 [V.sl 1 0 3 (some 0)]=some [V.sl 1 0 3 (some 0),V.nils],An [An [Zz,(↑(0:Nat):Int)=y4,Tt],An [An [3=3,ints paC=[i6 2,i6 2,i6 2],TT 3],Tt,Tt],Tt],Sat Pg none 0 (at' 14 [1,1,1,0,1,0]) (mkSt g0 264 (pkS 0 (paW 0))) (Qah g0 264 [(True,Ex.exit 0,SL.mk [(1,V.ptr 0 0)] [gO paC W] [] [])]),(True→An [w7,FnOk Pg g0 39 [y6,i6 2] (V.tup [lV L P,i6 0]),Tt,An [TT 2,Tt],FnOk Pg g0 40 [V.agg [V.im L.length (ints L),V.im P.length (ut P)]] (V.tup [V.im 3 [u6 6,u6 0,u6 0],i6 0]),Tt,w7,FnOk Pg g0 41 [y6,i6 1] (V.tup [ar T1,i6 0]),Tt,w7,FnOk Pg g0 41 [y6,i6 2] (V.tup [ar T2,i6 0]),Tt,An [TT 18,TT 18,Tt],FnOk Pg g0 45 [V.agg (arF T2),V.agg (arF T1)] (V.tup w4),Tt,An [Tt,Tt],FnOk Pg g0 65 [u6 (IntKind.wrap IntKind.u64 (↑(BitVec.toNat (BitVec.ofInt x2 (IntKind.wrap IntKind.u64 (↑(BitVec.toNat (BitVec.ofInt x2 (6:Int)|||BitVec.ofInt x2 y4)):Int))|||BitVec.ofInt x2 y4)):Int))] (i6 2),Tt,An [An [TT 6,Tt,Tt],Tt,Tt],FnOk Pg g0 41 [V.agg [V.im 6 x9,V.im 0 []],i6 1] (V.tup [ar T3,i6 2]),Tt,Tt,FnOk Pg g0 66 [] x0,Tt,w7,FnOk Pg g0 39 [y7,i6 (-1)] w2,An [(V.fn 66 []=V.fn 39 []→[]=[x0,i6 (-1)]→z1=z1→1+1+1+1+1+1+1=7→CR.mk x0 z1 7 []=CR.mk w2 z1 7 []),Tt],w8,FnOk Pg g0 42 [V.agg [V.im 0 [],V.im 0 []],i6 9,V.agg [V.im 0 [],V.im 0 []]] (V.tup [x5,i6 250]),Tt,CallSpec Pg g0 (V.fn 66 []) [] (pt (pt z1 7 x6) 7 x6) 8 (CR.mk gaV w0 15 []),Tt,CallSpec Pg g0 (V.fn 42 []) [V.agg x8,i6 9,V.agg y5] (pt (pt (pt w0 15 (O.row 32 none y5)) 15 (O.row 32 none x8)) 10 (O.row 3 none [i6 (-1),i6 0])) 16 (CR.mk (V.tup [x5,i6 260]) y8 16 []),Tt,Tt,FnOk Pg g0 66 [] x0,Tt,An [TT 2,Tt,An [TT 2,TT 2,Tt],Tt],FnOk Pg g0 42 [y7,i6 1,V.agg [x4,w1]] w5,An [(V.fn 66 []=V.fn 42 []→[]=[x0,i6 1,V.agg [V.sl 16 0 2 (some 0),V.sl 17 0 2 (some 0)]]→y8=z7→16=18→CR.mk x0 y8 16 []=CR.mk w5 z7 18 []),Tt],Tt,FnOk Pg g0 66 [] x0,Tt,w8,FnOk Pg g0 42 [y7,i6 9,V.agg [V.im 0 [],V.im 0 []]] (V.tup [x5,i6 2]),An [(V.fn 66 []=V.fn 42 []→[]=[x0,i6 9,V.agg y5]→z7=z7→16+1+1=18→CR.mk x0 z7 18 []=CR.mk (V.tup [x5,i6 2]) z7 18 []),Tt],An [An [TT 3,Tt,Tt],Tt,Tt],FnOk Pg g0 41 [V.agg [V.im 3 [i6 2,i6 3,i6 4],V.im 0 []],i6 4] (V.tup [ar T3,i6 0]),Tt,CallSpec Pg g0 (V.fn 39 []) [V.agg [V.sl 20 0 5 (some 0),V.nils],i6 4] (pt (pt (pt (pt z7 18 (O.row 3 none [i6 2,i6 3,i6 4])) 19 z8) 19 w3) 20 (O.row 3 none [i6 2,i6 2,i6 2,i6 2,i6 2])) 21 (CR.mk (V.tup [lV L5 P5,i6 0]) x7 21 [20]),Tt,Tt,FnOk Pg g0 60 [] x1,Tt,(T3 0==y4&&(T3 1==y4&&(T3 2==y4&&(T3 3==y4&&(T3 4==y4&&(T3 5==y4&&(T3 6==y4&&(T3 7==y4&&(T3 8==y4&&(T3 9==y4&&(T3 10==y4&&(T3 11==y4&&(T3 12==y4&&(T3 13==y4&&(T3 14==y4&&(T3 15==y4&&(T3 16==y4&&(T3 17==y4&&true))))))))))))))))))=true,((↑L5.length:Int)==(32:Int))=true,((↑P5.length:Int)==(32:Int))=true,w6,FnOk Pg g0 56 [V.agg [V.im 2 w4,w1]] (i6 290),An [(V.fn 60 []=V.fn 56 []→[]=z9→z3=z4→21+1=24→CR.mk x1 z3 22 []=CR.mk (i6 290) z4 24 []),Tt],w6,FnOk Pg g0 56 [V.agg [x4,V.im 2 [u6 1,u6 0]]] (i6 290),An [(V.fn 56 []=V.fn 56 []→z9=y0→z4=z0→21+1+1+1=26→CR.mk (i6 290) z4 24 []=CR.mk (i6 290) z0 26 []),(V.fn 60 []=V.fn 56 []→[]=y0→z3=z0→21+1=26→CR.mk x1 z3 22 []=CR.mk (i6 290) z0 26 []),Tt],w6,FnOk Pg g0 56 [V.agg [x4,V.im 2 [u6 0,u6 1]]] (i6 290),An [(V.fn 56 []=V.fn 56 []→y0=y1→z0=z5→21+1+1+1+1+1=28→CR.mk (i6 290) z0 26 []=CR.mk (i6 290) z5 28 []),(V.fn 56 []=V.fn 56 []→z9=y1→z4=z5→21+1+1+1=28→CR.mk (i6 290) z4 24 []=CR.mk (i6 290) z5 28 []),(V.fn 60 []=V.fn 56 []→[]=y1→z3=z5→21+1=28→CR.mk x1 z3 22 []=CR.mk (i6 290) z5 28 []),Tt],An [An [An [Tt,Tt],An [Tt,Tt],Tt],Tt],FnOk Pg g0 56 [V.agg [V.im 1 [i6 0],V.im 1 [u6 0]]] (i6 290),An [(V.fn 56 []=V.fn 56 []→y1=y2→z5=z2→21+1+1+1+1+1+1+1=30→CR.mk (i6 290) z5 28 []=CR.mk (i6 290) z2 30 []),(V.fn 56 []=V.fn 56 []→y0=y2→z0=z2→21+1+1+1+1+1=30→CR.mk (i6 290) z0 26 []=CR.mk (i6 290) z2 30 []),(V.fn 56 []=V.fn 56 []→z9=y2→z4=z2→21+1+1+1=30→CR.mk (i6 290) z4 24 []=CR.mk (i6 290) z2 30 []),(V.fn 60 []=V.fn 56 []→[]=y2→z3=z2→21+1=30→CR.mk x1 z3 22 []=CR.mk (i6 290) z2 30 []),Tt],w6,FnOk Pg g0 56 [V.agg [x4,w1]] (i6 0),An [(V.fn 56 []=V.fn 56 []→y2=y3→z2=z6→21+1+1+1+1+1+1+1+1+1=32→CR.mk (i6 290) z2 30 []=CR.mk (i6 0) z6 32 []),(V.fn 56 []=V.fn 56 []→y1=y3→z5=z6→21+1+1+1+1+1+1+1=32→CR.mk (i6 290) z5 28 []=CR.mk (i6 0) z6 32 []),(V.fn 56 []=V.fn 56 []→y0=y3→z0=z6→21+1+1+1+1+1=32→CR.mk (i6 290) z0 26 []=CR.mk (i6 0) z6 32 []),(V.fn 56 []=V.fn 56 []→z9=y3→z4=z6→21+1+1+1=32→CR.mk (i6 290) z4 24 []=CR.mk (i6 0) z6 32 []),(V.fn 60 []=V.fn 56 []→[]=y3→z3=z6→21+1=32→CR.mk x1 z3 22 []=CR.mk (i6 0) z6 32 []),Tt],An [true=(y4==y4),Tt],Tt]),Tt])=_) ?_
 (repeat'(first|(with_reducible apply And.intro)|(refine fun(_:True)=>?_)))
 all_goals first|exact hw|exact hex|exact lA|exact t1|exact t2|exact hcmp|exact hsol|exact hgr|exact hwide _ _ _|exact hone|exact hsix|exact hneg|exact hno|exact hlad|exact hnine|exact hnt|exact c1|exact c2|exact c3|exact c4|exact c5|exact hga|exact hgb|exact hz|exact hg|exact h1|exact h2|exact h3|exact hu|exact hu5|exact aq|(with_reducible rfl)|rfl|skip
end Go.Proofs.YtglpoiaedkoecaaDoor.Am
