/- Texts behind the claim, part 12: the abstract machine, and what the functions answer. No condition. -/
import Derived.Test.YtakfneapahohkaaDoorCRights11
set_option linter.unusedVariables false
set_option linter.unusedSimpArgs false
set_option linter.unusedSectionVars false
namespace Go.Proofs.YtakfneapahohkaaDoor.Am
open Go.RowKit
set_option maxHeartbeats 4000000
set_option maxRecDepth 100000
theorem Qjs{n lim:Nat}{F G:Nat->Nat->Nat->Int}{T:Nat->Nat->Int}{L:List Int}{P:List Nat}(h:LdOk L P n)(hT: ∀s,s<2^n->∀i,i<18->Cl n lim F s i=T s i)(hG: ∀v,v<n->∀p,p<2^n->∀i,i<18->F v p i=G v p i):Ea n lim F L P=(List.range (2^n)).all fun s=>decide (s=0)||(decide (Ao (P.getD s 0)<=lim)&&eqA (Aq (T (s-2^laL L s)) (G (laL L s) (paL P s)) 1) (T s)):=by
 have key: ∀s,s<2^n->(decide (s=0)||(decide (Ao (P.getD s 0)<=lim)&&eqA (Aq (Cl n lim F (s-2^laL L s)) (F (laL L s) (paL P s)) 1) (Cl n lim F s)))=(decide (s=0)||(decide (Ao (P.getD s 0)<=lim)&&eqA (Aq (T (s-2^laL L s)) (G (laL L s) (paL P s)) 1) (T s))):=fun s hs=>by
  by_cases h0:s=0
  ·rw[decide_eq_true h0];rfl
  ·obtain ⟨a1, a2, a3⟩ := h.ok.at_ s o_ hs
   have hp:paL P s<2^n:=by
    rw[<-a3];exact Nat.lt_of_le_of_lt Nat.and_le_right (by have:=Nat.sub_le s (2^laL L s);omega)
   congr 2
   apply Bool.eq_iff_iff.2
   rw[Qi6,Qi6]
   have ht:=Nat.sub_le s (2^laL L s)
   constructor
   ·intro hh i hi
    rw[Qez,<-hT _ o_ i hi,<-hG _ a1 _ hp i hi,<-hT _ hs i hi,<-hh i hi,Qez]
   ·intro hh i hi
    rw[Qez,hT _ o_ i hi,hG _ a1 _ hp i hi,hT _ hs i hi,<-hh i hi,Qez]
 unfold Ea
 apply Bool.eq_iff_iff.2
 constructor
 ·intro h;exact Qam.2 fun s hs=>by rw[<-key s hs];exact Qam.1 h s hs
 ·intro h;exact Qam.2 fun s hs=>by rw[key s hs];exact Qam.1 h s hs
abbrev l1L:List Int:=[0,0,1,1]
abbrev l1P:List Nat:=[0,0,0,1]
abbrev l2L:List Int:=[0,0,1,0]
abbrev l2P:List Nat:=[0,0,0,2]
theorem Qp0{a b c d:Nat}(ha:a<100)(hb:b<100)(hc:c<100)(hd:d<100):S64 [a,b,c,d]:=fun x hx=>by
 simp at hx
 omega
theorem Qe3:B8 exC exD 0=0/\B8 exC exD 1=0/\B8 exC exD 5=2:=by decide+kernel
theorem l1_ok:LdOk l1L l1P 2:=Qjd (L:=l1L) (P:=l1P) (by decide+kernel)
theorem l2_ok:LdOk l2L l2P 2:=Qjd (L:=l2L) (P:=l2P) (by decide+kernel)
theorem r11:Ea 2 1 (fF exC exD) l1L l1P=true:=by rw[Qjs l1_ok Qmd Qku];decide+kernel
theorem r12:Ea 2 1 (fF exC exD) l2L l2P=false:=by rw[Qjs l2_ok Qmd Qku];decide+kernel
theorem r01:Ea 2 0 (fF exC exD) l1L l1P=false:=by rw[Qjs l1_ok Qrg Qku];decide+kernel
theorem over_600:Ac Pg g0 28 [i6 600] (ar (A5 [-3,-1,-2])):=by
 have h:=of_one 600 d_ d_ (by decide+kernel)
 rw[show ar (ofF 600 18)=ar (A5 [3,1,2])by kernel_rfl]at h
 refine Ac.of_vc vE_ok Af Qaa (n:=1000) (r:=[0]) (S:={sl:=[(2,.ptr 0 0)],os:=[.row 37 none (arF (A5 [-3,-1,-2]))]}) (hs:=[fn 8 (.tup [ar (A5 [3,1,2]),i6 0]),(0,.unroll 20)]) ?_
 refine m_ (p:=let z0:=[(-3:Int),(-1:Int),(-2:Int)];let z1:=[(3:Int),(1:Int),(2:Int)];let z2:=(0:Int);Bn [V.agg (arF (A5 z0))=ar (A5 z0),Bn [Tt],Ac Pg g0 46 [i6 600] (V.tup [ar (A5 z1),i6 0]),Tt,Bn [Zz],An [arF (A5 z0)=[i6 (wr .i64 (z2-A5 z1 0)),i6 (wr .i64 (z2-A5 z1 1)),i6 (wr .i64 (z2-A5 z1 2)),i6 (wr .i64 (z2-A5 z1 3)),i6 (wr .i64 (z2-A5 z1 4)),i6 (wr .i64 (z2-A5 z1 5)),i6 (wr .i64 (z2-A5 z1 6)),i6 (wr .i64 (z2-A5 z1 7)),i6 (wr .i64 (z2-A5 z1 8)),i6 (wr .i64 (z2-A5 z1 9)),i6 (wr .i64 (z2-A5 z1 10)),i6 (wr .i64 (z2-A5 z1 11)),i6 (wr .i64 (z2-A5 z1 12)),i6 (wr .i64 (z2-A5 z1 13)),i6 (wr .i64 (z2-A5 z1 14)),i6 (wr .i64 (z2-A5 z1 15)),i6 (wr .i64 (z2-A5 z1 16)),i6 (wr .i64 (z2-A5 z1 17))],TT 18]]) ?_
 (repeat'(first|(with_reducible apply And.intro)|(refine fun(_:True)=>?_)))<;>first|exact aq|skip
 all_goals first|exact h|kernel_rfl
theorem over_480:Ac Pg g0 28 [i6 480] (ar (A5 [-5,-1,-1])):=by
 have h:=of_one 480 d_ d_ (by decide+kernel)
 rw[show ar (ofF 480 18)=ar (A5 [5,1,1])by kernel_rfl]at h
 refine Ac.of_vc vE_ok Af Qaa (n:=1000) (r:=[0]) (S:={sl:=[(2,.ptr 0 0)],os:=[.row 37 none (arF (A5 [-5,-1,-1]))]}) (hs:=[fn 8 (.tup [ar (A5 [5,1,1]),i6 0]),(0,.unroll 20)]) ?_
 refine m_ (p:=let z0:=[(-5:Int),(-1:Int),(-1:Int)];let z1:=[(5:Int),(1:Int),(1:Int)];let z2:=(0:Int);Bn [V.agg (arF (A5 z0))=ar (A5 z0),Bn [Tt],Ac Pg g0 46 [i6 480] (V.tup [ar (A5 z1),i6 0]),Tt,Bn [Zz],An [arF (A5 z0)=[i6 (wr .i64 (z2-A5 z1 0)),i6 (wr .i64 (z2-A5 z1 1)),i6 (wr .i64 (z2-A5 z1 2)),i6 (wr .i64 (z2-A5 z1 3)),i6 (wr .i64 (z2-A5 z1 4)),i6 (wr .i64 (z2-A5 z1 5)),i6 (wr .i64 (z2-A5 z1 6)),i6 (wr .i64 (z2-A5 z1 7)),i6 (wr .i64 (z2-A5 z1 8)),i6 (wr .i64 (z2-A5 z1 9)),i6 (wr .i64 (z2-A5 z1 10)),i6 (wr .i64 (z2-A5 z1 11)),i6 (wr .i64 (z2-A5 z1 12)),i6 (wr .i64 (z2-A5 z1 13)),i6 (wr .i64 (z2-A5 z1 14)),i6 (wr .i64 (z2-A5 z1 15)),i6 (wr .i64 (z2-A5 z1 16)),i6 (wr .i64 (z2-A5 z1 17))],TT 18]]) ?_
 (repeat'(first|(with_reducible apply And.intro)|(refine fun(_:True)=>?_)))<;>first|exact aq|skip
 all_goals first|exact h|kernel_rfl
theorem Qpl:Ac Pg g0 26 [] (gV exC exD):=by
 refine Ac.of_vc2 vE_ok Af Qaa (n:=1000) (r1:=[0,6]) (S1:={sl:=[(0,.ptr 0 0)],os:=[.row 31 none [sl exC,.sl 1 0 4 (some 0)],.row 28 none [sl [0,0],sl [0,0],sl [1,1],sl [0,1]]],md:=[1,1]}) (r:=[0]) (S:={sl:=[(0,.ptr 0 0)],os:=[.row 31 none [sl exC,gC exD]],md:=[1]}) (hs:=[]) ?_
 exact v_ (p:=let z0:=(0:Int);let z1:=(1:Int);Bn [V.agg [sl exC,gC exD]=gV exC exD,Bn [Bn [Zz],Bn [An [2=2,Sm (Ab exC)],An [4=4,List.map sl exD=[sl [z0,z0],sl [z0,z0],sl [z1,z1],sl [z0,z1]],TT 4]]],Bn [Zz],Bn [An [2=2,Ab exC=[i6 2,i6 2],TT 2],An [Zz,4=4,Zz]],Bn [An [2=2,Ab [z0,z0]=[i6 0,i6 0],TT 2],An [2=2,Ab [z0,z0]=[i6 0,i6 0],TT 2],An [2=2,Ab [z1,z1]=[i6 1,i6 1],TT 2],An [2=2,Ab [z0,z1]=[i6 0,i6 1],TT 2]]])
theorem top_0:Ac Pg g0 8 [gV exC exD,i6 0] (.tup [ar (A5 [-3,-1,-2]),i6 0]):=by
 have h:=Gl exC exD 0 Qe3.1
 rw[show ar (Cl exC.length 0 (fF exC exD) (2^exC.length-1))=ar (A5 [-3,-1,-2])from congrArg V.agg (Qbf (Qrg 3 d_))]at h
 exact h
theorem top_1:Ac Pg g0 8 [gV exC exD,i6 1] (.tup [ar (A5 [-5,-1,-1]),i6 0]):=by
 have h:=Gl exC exD 1 Qe3.2.1
 rw[show ar (Cl exC.length 1 (fF exC exD) (2^exC.length-1))=ar (A5 [-5,-1,-1])from congrArg V.agg (Qbf (Qmd 3 d_))]at h
 exact h
theorem top_5:Ac Pg g0 8 [gV exC exD,i6 5] (.tup [ar Qah,i6 2]):=top_bad exC exD 5 d_ d_ 2 Qe3.2.2 d_
abbrev wkO:List O:=[.row 31 none [sl exC,gC exD],.row 37 none (arF (A5 [-3,-1,-2])),.row 37 none (arF (A5 [-5,-1,-1])),.row 3 none [i6 0,i6 0,i6 1,i6 1],.row 72 none [u6 0,u6 0,u6 0,u6 1],.row 43 none [.sl 3 0 4 (some 0),.sl 4 0 4 (some 0)],.row 3 none [i6 0,i6 0,i6 1,i6 0],.row 72 none [u6 0,u6 0,u6 0,u6 2],.row 43 none [.sl 6 0 4 (some 0),.sl 7 0 4 (some 0)]]
abbrev Fd:List O:=wkO++[.row 72 none [u6 0,u6 1]]
theorem Ge(n:Nat)(h:n<9):n=0\/n=1\/n=2\/n=3\/n=4\/n=5\/n=6\/n=7\/n=8:=by omega
theorem Gb(n:Nat)(h:n<10):n=0\/n=1\/n=2\/n=3\/n=4\/n=5\/n=6\/n=7\/n=8\/n=9:=by omega
theorem chk_l1:Ac Pg g0 30 [lV l1L l1P] (i6 0):=by
 have h:=Qbl l1L l1P (Qp0 d_ d_ d_ d_)
 rw[show(if Fl l1L l1P then(0:Int)else 290)=0 by decide+kernel]at h
 exact h
theorem chk_l2:Ac Pg g0 30 [lV l2L l2P] (i6 0):=by
 have h:=Qbl l2L l2P (Qp0 d_ d_ d_ d_)
 rw[show(if Fl l2L l2P then(0:Int)else 290)=0 by decide+kernel]at h
 exact h
theorem var_l1:Ac Pg g0 31 [lV l1L l1P] (i6 2):=by
 have h:=Qb2 l1L l1P
 rw[show wdt l1L l1P=2 by decide+kernel]at h
 exact h
theorem var_l2:Ac Pg g0 31 [lV l2L l2P] (i6 2):=by
 have h:=Qb2 l2L l2P
 rw[show wdt l2L l2P=2 by decide+kernel]at h
 exact h
theorem gra_l1:Aa Pg g0 (.fn 27 []) [.agg [.sl 3 0 4 (some 0),.sl 4 0 4 (some 0)]] (Ae .e 0 wkO) 9 ⟨.tup [.sl 9 0 2 (some 0),i6 0],Ae .e 0 Fd,10,[]⟩:=by
 have h1:=chk_l1
 have h2:=var_l1
 refine Aa.of_vcH (P:=Pg) (E:=vE) vE_ok Af Qaa (n:=1000) (f:=27) (os0:=wkO) (ars:=[.agg [.sl 3 0 4 (some 0),.sl 4 0 4 (some 0)]]) (r:=[10]) (S:={sl:=[(2,.sl 9 0 2 (some 0)),(3,i6 0)],os:=Fd,md:=[0,0,0,0,0,1,0,0,1]}) (v:=.tup [.sl 9 0 2 (some 0),i6 0]) (hs:=[fn 8 (i6 0),fn 13 (i6 2),(0,.unroll 5)]) (gl:=g0) (by simp) (fun i hi _=>by
   rcases Ge i (by simpa using hi)with rfl|rfl|rfl|rfl|rfl|rfl|rfl|rfl|rfl<;>rfl) (by
  refine m_ (p:=let z9:=Bn [Bn [TT 4,TT 4]];let z1:=arF (A5 [(-3:Int),(-1:Int),(-2:Int)]);let z2:=arF (A5 [(-5:Int),(-1:Int),(-1:Int)]);let z3:=[i6 0,i6 0,i6 1,i6 1];let z4:=[u6 0,u6 0,u6 0,u6 1];let z5:=Int.toNat (2:Int);let z6:=V.tup [V.sl 9 0 2 (some 0),i6 0];let z7:=[i6 0,i6 0,i6 1,i6 0];let z8:=[u6 0,u6 0,u6 0,u6 2];let z0:=[V.agg [V.im 4 z3,V.im 4 z4]];Bn [z6=z6,z9,Ac Pg g0 30 z0 (i6 0),Tt,z9,Ac Pg g0 31 z0 (i6 2),Tt,Bn [An [Zz,2=z5,0=z5-z5],Sm (0:Int)],An [Sm [sl exC,gC exD],TT 2],An [z1=z1,TT 18],An [z2=z2,TT 18],An [z3=z3,TT 4],An [z4=z4,TT 4],Bn [An [Zz,4=4,Zz],An [Zz,4=4,Zz]],An [z7=z7,TT 4],An [z8=z8,TT 4],Bn [An [Zz,4=4,Zz],An [Zz,4=4,Zz]],An [Sm [u6 0,u6 1],TT 2]]) ?_
  (repeat'(first|(with_reducible apply And.intro)|(refine fun(_:True)=>?_)))
  all_goals first|exact h1|exact h2|exact aq|rfl|skip)
theorem gra_l2:Aa Pg g0 (.fn 27 []) [.agg [.sl 6 0 4 (some 0),.sl 7 0 4 (some 0)]] (Ae .e 0 Fd) 10 ⟨.tup [.sl 10 0 2 (some 0),i6 0],Ae .e 0 (Fd++[.row 72 none [u6 2,u6 0]]),11,[]⟩:=by
 have h1:=chk_l2
 have h2:=var_l2
 refine Aa.of_vcH (P:=Pg) (E:=vE) vE_ok Af Qaa (n:=1000) (f:=27) (os0:=Fd) (ars:=[.agg [.sl 6 0 4 (some 0),.sl 7 0 4 (some 0)]]) (r:=[11]) (S:={sl:=[(2,.sl 10 0 2 (some 0)),(3,i6 0)],os:=Fd++[.row 72 none [u6 2,u6 0]],md:=[0,0,0,0,0,1,0,0,1]}) (v:=.tup [.sl 10 0 2 (some 0),i6 0]) (hs:=[fn 8 (i6 0),fn 13 (i6 2),(0,.unroll 5)]) (gl:=g0) (by simp) (fun i hi _=>by
   rcases Gb i (by simpa using hi)with rfl|rfl|rfl|rfl|rfl|rfl|rfl|rfl|rfl|rfl<;>rfl) (by
  refine m_ (p:=let z9:=Bn [Bn [TT 4,TT 4]];let z1:=arF (A5 [(-3:Int),(-1:Int),(-2:Int)]);let z2:=arF (A5 [(-5:Int),(-1:Int),(-1:Int)]);let z3:=[i6 0,i6 0,i6 1,i6 0];let z4:=[u6 0,u6 0,u6 0,u6 2];let z5:=Int.toNat (2:Int);let z6:=V.tup [V.sl 10 0 2 (some 0),i6 0];let z7:=[i6 0,i6 0,i6 1,i6 1];let z8:=[u6 0,u6 0,u6 0,u6 1];let z0:=[V.agg [V.im 4 z3,V.im 4 z4]];Bn [z6=z6,z9,Ac Pg g0 30 z0 (i6 0),Tt,z9,Ac Pg g0 31 z0 (i6 2),Tt,Bn [An [Zz,2=z5,0=z5-z5],Sm (0:Int)],An [Sm [sl exC,gC exD],TT 2],An [z1=z1,TT 18],An [z2=z2,TT 18],An [z7=z7,TT 4],An [z8=z8,TT 4],Bn [An [Zz,4=4,Zz],An [Zz,4=4,Zz]],An [z3=z3,TT 4],An [z4=z4,TT 4],Bn [An [Zz,4=4,Zz],An [Zz,4=4,Zz]],An [Sm [u6 0,u6 1],TT 2],An [Sm [u6 2,u6 0],TT 2]]) ?_
  (repeat'(first|(with_reducible apply And.intro)|(refine fun(_:True)=>?_)))
  all_goals first|exact h1|exact h2|exact aq|rfl|skip)
theorem rgt_11:Ac Pg g0 18 [gV exC exD,i6 1,lV l1L l1P] (.tup [.bool true,i6 0]):=by
 have h:=Qfq exC exD 1 l1L l1P (Qp0 d_ d_ d_ d_) Qe3.2.1 (by decide+kernel)
 rw[show Ea exC.length 1 (fF exC exD) l1L l1P=true from r11]at h
 exact h
theorem rgt_12:Ac Pg g0 18 [gV exC exD,i6 1,lV l2L l2P] (.tup [.bool false,i6 0]):=by
 have h:=Qfq exC exD 1 l2L l2P (Qp0 d_ d_ d_ d_) Qe3.2.1 (by decide+kernel)
 rw[show Ea exC.length 1 (fF exC exD) l2L l2P=false from r12]at h
 exact h
theorem rgt_01:Ac Pg g0 18 [gV exC exD,i6 0,lV l1L l1P] (.tup [.bool false,i6 0]):=by
 have h:=Qfq exC exD 0 l1L l1P (Qp0 d_ d_ d_ d_) Qe3.1 (by decide+kernel)
 rw[show Ea exC.length 0 (fF exC exD) l1L l1P=false from r01]at h
 exact h
theorem chk_a:Ac Pg g0 30 [lV [0,1,1,1] [0,0,0,0]] (i6 290):=by
 have h:=Qbl [0,1,1,1] [0,0,0,0] (Qp0 d_ d_ d_ d_)
 rw[show(if Fl [0,1,1,1] [0,0,0,0]then(0:Int)else 290)=290 by decide+kernel]at h
 exact h
theorem chk_b:Ac Pg g0 30 [lV [0,0,1] [0,0,0]] (i6 290):=by
 have h:=Qbl [0,0,1] [0,0,0] (fun x hx=>by simp at hx;omega)
 rw[show(if Fl [0,0,1] [0,0,0]then(0:Int)else 290)=290 by decide+kernel]at h
 exact h
theorem works29:Ac Pg g0 14 [] (.bool true):=by
 have h1:=Qpl
 have h2:=top_0
 have h3:=top_1
 have h4:=gra_l1
 have h5:=gra_l2
 have h6:=rgt_11
 have h7:=rgt_12
 have h8:=rgt_01
 have h9:=top_5
 have ha:=over_600
 have hb:=over_480
 have hc:=Qh2 [0,1] d_
 have hd:=Qh2 [2,0] d_
 have he:=chk_a
 have hf:=chk_b
 refine Ac.of_vc vE_ok Af Qaa (n:=1000) (r:=[]) (S:={sl:=[(0,.bool true)]}) (hs:=[fn 21 (gV exC exD),fn 24 (.tup [ar (A5 [-3,-1,-2]),i6 0]),fn 29 (.tup [ar (A5 [-5,-1,-1]),i6 0]),(40,.call ⟨.tup [.sl 9 0 2 (some 0),i6 0],Ae .e 0 Fd,10,[]⟩),(45,.call ⟨.tup [.sl 10 0 2 (some 0),i6 0],Ae .e 0 (Fd++[.row 72 none [u6 2,u6 0]]),11,[]⟩),fn 51 (.tup [.bool true,i6 0]),fn 57 (.tup [.bool false,i6 0]),fn 63 (.tup [.bool false,i6 0]),fn 68 (.tup [ar Qah,i6 2]),fn 79 (ar (A5 [-3,-1,-2])),fn 84 (ar (A5 [-5,-1,-1])),fn 94 (.bool true),fn 103 (.bool true),fn 137 (i6 290),fn 144 (i6 290)]) ?_
 exact v_ (p:=let w0:=Bn [TT 2,Tt,Bn [TT 4,TT 4]];let w1:=Bn [TT 2,Tt];let z1:=[(-3:Int),(-1:Int),(-2:Int)];let z2:=[(-5:Int),(-1:Int),(-1:Int)];let z5:=O.row 37 none [i6 0,i6 0,i6 0,i6 0,i6 0,i6 0,i6 0,i6 0,i6 0,i6 0,i6 0,i6 0,i6 0,i6 0,i6 0,i6 0,i6 0,i6 0];let z6:=V.agg [V.im 2 (Ab exC),V.im 4 (List.map sl exD)];let z8:=V.bool true;let y0:=[V.sl 10 0 2 (some 0),V.sl 13 0 2 (some 0)];let y1:=[V.sl 9 0 2 (some 0),V.sl 12 0 2 (some 0)];let y3:=Int.toNat (4:Int);let y4:=Int.toNat (3:Int);let y8:=[V.sl 3 0 4 (some 0),V.sl 4 0 4 (some 0)];let y9:=[V.sl 6 0 4 (some 0),V.sl 7 0 4 (some 0)];let x0:=O.row 43 none [V.nils,V.nils];let x1:=[u6 2,u6 0];let x2:=V.tup [V.bool false,i6 0];let x3:=[i6 0,i6 0,i6 1,i6 1];let x4:=[u6 0,u6 0,u6 0,u6 1];let x5:=[i6 0,i6 0,i6 1,i6 0];let x6:=[u6 0,u6 0,u6 0,u6 2];let x7:=[i6 0,i6 1,i6 1,i6 1];let x8:=[u6 0,u6 0,u6 0,u6 0];let x9:=[u6 0,u6 1];let y2:=V.agg [V.im 4 x3,V.im 4 x4];let y5:=Ae T.e 0 (Fd++[O.row 72 none x1]);let y6:=ar (A5 z1);let y7:=ar (A5 z2);let z0:=pt (pt y5 11 z5) 11 (O.row 37 none (arF Qah));let z7:=pt z0 12 (O.row 72 none x9);let z3:=pt z7 13 (O.row 72 none x1);let z4:=pt (pt z3 14 (O.row 3 none x7)) 15 (O.row 72 none x8);let z9:=pt (pt z4 16 (O.row 3 none [i6 0,i6 0,i6 1])) 17 (O.row 72 none [u6 0,u6 0,u6 0]);Bn [z8=z8,Tt,Ac Pg g0 26 [] (gV exC exD),Tt,w1,Ac Pg g0 8 [z6,i6 0] (V.tup [y6,i6 0]),Tt,w1,Ac Pg g0 8 [z6,i6 1] (V.tup [y7,i6 0]),Tt,Aa Pg g0 (V.fn 27 []) [V.agg y8] (pt (pt (pt (pt (pt (pt (pt (pt (pt (pt (pt (pt (pt (pt T.e 0 (O.row 31 none [V.nils,V.nils])) 0 (O.row 31 none [sl exC,gC exD])) 1 z5) 1 (O.row 37 none (arF (A5 z1)))) 2 z5) 2 (O.row 37 none (arF (A5 z2)))) 3 (O.row 3 none x3)) 4 (O.row 72 none x4)) 5 x0) 5 (O.row 43 none y8)) 6 (O.row 3 none x5)) 7 (O.row 72 none x6)) 8 x0) 8 (O.row 43 none y9)) 9 (CR.mk (V.tup [V.sl 9 0 2 (some 0),i6 0]) (Ae T.e 0 Fd) 10 []),Tt,Aa Pg g0 (V.fn 27 []) [V.agg y9] (Ae T.e 0 Fd) 10 (CR.mk (V.tup [V.sl 10 0 2 (some 0),i6 0]) y5 11 []),Tt,w0,Ac Pg g0 18 [z6,i6 1,y2] (V.tup [z8,i6 0]),Tt,w0,Ac Pg g0 18 [z6,i6 1,V.agg [V.im 4 x5,V.im 4 x6]] x2,Tt,w0,Ac Pg g0 18 [z6,i6 0,y2] x2,Tt,w1,Ac Pg g0 8 [z6,i6 5] (V.tup [ar Qah,i6 2]),Tt,Bn [Tt],Ac Pg g0 28 [i6 600] y6,Tt,Bn [Tt],Ac Pg g0 28 [i6 480] y7,Bn [(V.fn 28 []=V.fn 28 []->[i6 600]=[i6 480]->z0=z0->11+1=12->CR.mk y6 z0 12 []=CR.mk y7 z0 12 [])],Bn [TT 2,TT 2],Ac Pg g0 29 [V.im 2 x9,V.im 2 x9] z8,Bn [(V.fn 28 []=V.fn 29 []->[i6 480]=y1->z0=z7->11+1=13->CR.mk y7 z0 12 []=CR.mk z8 z7 13 []),(V.fn 28 []=V.fn 29 []->[i6 600]=y1->z0=z7->11+1=13->CR.mk y6 z0 12 []=CR.mk z8 z7 13 [])],Bn [TT 2,TT 2],Ac Pg g0 29 [V.im 2 x1,V.im 2 x1] z8,Bn [(V.fn 29 []=V.fn 29 []->y1=y0->z7=z3->11+1+1=14->CR.mk z8 z7 13 []=CR.mk z8 z3 14 []),(V.fn 28 []=V.fn 29 []->[i6 480]=y0->z0=z3->11+1=14->CR.mk y7 z0 12 []=CR.mk z8 z3 14 []),(V.fn 28 []=V.fn 29 []->[i6 600]=y0->z0=z3->11+1=14->CR.mk y6 z0 12 []=CR.mk z8 z3 14 [])],Bn [Bn [TT 4,TT 4]],Ac Pg g0 30 [V.agg [V.im 4 x7,V.im y3 x8]] (i6 290),Tt,Bn [Bn [TT 3,TT 3]],Ac Pg g0 30 [V.agg [V.im 3 [i6 0,i6 0,i6 1],V.im y4 [u6 0,u6 0,u6 0]]] (i6 290),Bn [(V.fn 30 []=V.fn 30 []->[V.agg [V.sl 14 0 4 (some 0),V.sl 15 0 y3 (some (y3-y3))]]=[V.agg [V.sl 16 0 3 (some 0),V.sl 17 0 y4 (some (y4-y4))]]->z4=z9->11+1+1+1+1+1=18->CR.mk (i6 290) z4 16 []=CR.mk (i6 290) z9 18 [])],Bn [true=((290:Int)==290)]])
theorem Gx{t:Nat}(L:List Int)(h: ∀n:Nat,n<=L.length->Bv (Qac Pg) t (sl L) none (some (n:Int)) none=some (if(0:Int)=n then .im 0 []else .im n ((Ab L).take (n*1))))(n:Nat)(hn:n<=L.length):Bv (Qac Pg) t (sl L) none (some (n:Int)) none=some (sl (L.take n)):=by
 rw[h n hn]
 by_cases h0:(0:Int)=n
 ·rw [if_pos h0]
  have:n=0:=by omega
  subst this;rfl
 ·rw [if_neg h0, Nat.mul_one]
  show some (V.im n _)=some (V.im (L.take n).length (Ab (L.take n)))
  rw[List.length_take,Nat.min_eq_left hn]
  unfold Ab
  rw[List.map_take]
theorem slice29(L:List Int)(n:Nat)(hn:n<=L.length):Bv (Qac Pg) 28 (sl L) none (some (n:Int)) none=some (sl (L.take n)):=
 Gx L (fun n hn=>by
  have e:Bv (Qac Pg) 28 (sl L) none (some (n:Int)) none=if 0<=(0:Int)/\(0:Int)<=(n:Int)/\(n:Int)<=(L.length:Int)/\true=true then some (if(0:Int)=n then .im 0 []else .im ((n:Int).toNat-(0:Int).toNat) (((Ab L).drop ((0:Int).toNat*1)).take (((n:Int).toNat-(0:Int).toNat)*1)))else none:=by kernel_rfl
  rw[e,if_pos ⟨by omega,by omega,by omega,rfl⟩]
  rfl) n hn
theorem slice52(P:List Nat)(n:Nat)(hn:n<=P.length):Bv (Qac Pg) 41 (ul P) none (some (n:Int)) none=some (ul (P.take n)):=by
 have e:Bv (Qac Pg) 41 (ul P) none (some (n:Int)) none=if 0<=(0:Int)/\(0:Int)<=(n:Int)/\(n:Int)<=(P.length:Int)/\true=true then some (if(0:Int)=n then .im 0 []else .im ((n:Int).toNat-(0:Int).toNat) (((ut P).drop ((0:Int).toNat*1)).take (((n:Int).toNat-(0:Int).toNat)*1)))else none:=by kernel_rfl
 rw[e,if_pos ⟨by omega,by omega,by omega,rfl⟩]
 by_cases h0:(0:Int)=n
 ·rw [if_pos h0]
  have:n=0:=by omega
  subst this;rfl
 ·rw [if_neg h0]
  show some (V.im n (List.take (n*1) (ut P)))=some (V.im (P.take n).length (ut (P.take n)))
  rw[List.length_take,Nat.min_eq_left hn,Nat.mul_one]
  unfold ut
  rw[List.map_take]
theorem few_fn(L:List Int)(P:List Nat)(hL:L.length<=9223372036854775807)(hP:P.length<=9223372036854775807):Ac Pg g0 16 [lV L P] (lV (L.take 33) (P.take 33)):=by
 have hu:=Qas P
 have s1:=slice29 L (min L.length 33) (Nat.min_le_left _ _)
 have s2:=slice52 P (min P.length 33) (Nat.min_le_left _ _)
 have e1:L.take (min L.length 33)=L.take 33:=by
  rw[Nat.min_comm,<-List.take_take,List.take_length]
 have e2:P.take (min P.length 33)=P.take 33:=by
  rw[Nat.min_comm,<-List.take_take,List.take_length]
 rw[e1]at s1
 rw[e2]at s2
 have hm1:((min L.length 33:Nat):Int)=min (L.length:Int) 33:=by omega
 have hm2:((min P.length 33:Nat):Int)=min (P.length:Int) 33:=by omega
 generalize hL2:L.take 33=L2 at*
 generalize hP2:P.take 33=P2 at*
 generalize hz1:min L.length 33=z1 at*
 generalize hz2:min P.length 33=z2 at*
 have hu2:=Qas P2
 refine Ac.of_vc vE_ok Af Qaa (n:=1000) (r:=[1]) (S:={sl:=[(2,.ptr 0 0)],os:=[lO L2 P2]}) (hs:=[nu 8 (z1:Int),va 9 (sl L2),nu 15 (z2:Int),va 16 (ul P2)]) ?_
 exact v_ (p:=let z0:=[sl L2,ul P2];let z3:=(33:Int);Bn [V.agg z0=lV L2 P2,(if z3<(L.length:Int)then z3 else(L.length:Int))=(z1:Int),Bv (Qac Pg) 28 (sl L) none (some (z1:Int)) none=some (sl L2),(if z3<(P.length:Int)then z3 else(P.length:Int))=(z2:Int),Bv (Qac Pg) 41 (ul P) none (some (z2:Int)) none=some (ul P2),Bn [Zz],An [z0=z0,TT 2]])
abbrev r8F(f:Nat->Nat)(n:Nat):List V:=blF (fun i=>[w8 (f i:Nat)]) n
theorem Qqf(f:Nat->Nat)(n:Nat):HfL (r8F f n):=Qfu (f:=fun i=>[w8 (f i:Nat)]) (fun k=>⟨trivial,trivial⟩) n
def drL(N:Nat)(a b:Nat->Nat):List V:=w8 (N:Nat)::(r8F a 32++r8F b 32)
abbrev drW(N:Nat)(a b:Nat->Nat):V:=.agg (drL N a b)
theorem Qey(N:Nat)(a b:Nat->Nat):HfL (drL N a b):=⟨trivial,Qck (Qqf a 32) (Qqf b 32)⟩
theorem Qs3(f:Nat->Nat){n k:Nat}(h:k<n):(r8F f n)[k]? =some (w8 (f k:Nat)):=by
 have:=Qi4 (f:=fun i=>[w8 (f i:Nat)]) (s:=1) (fun _=>rfl) h
 rw[Nat.mul_one]at this
 have h2:(r8F f n)[k]? =((r8F f n).drop k)[0]? :=by rw[List.getElem?_drop];rfl
 rw[h2,this];rfl
theorem Qjq(f:Nat->Nat)(n:Nat):(r8F f n).length=n:=by
 have:=Qdf (f:=fun i=>[w8 (f i:Nat)]) (s:=1) (fun _=>rfl) n
 rwa [Nat.mul_one]at this
theorem Qr2{l:List V}{k:Nat}{v:V}(h:l[k]? =some v):Ad (Aj k l)=some v:=by
 rw[Qau]
 obtain⟨hk,e⟩:=List.getElem?_eq_some_iff.1 h
 rw[List.drop_eq_getElem_cons hk,e];rfl
theorem head_drA{N:Nat}{a b:Nat->Nat}{k:Nat}(h:k<32):Ad (Aj (1+k) (drL N a b))=some (w8 (a k:Nat)):=by
 refine Qr2 ?_
 unfold drL
 rw[Nat.add_comm 1 k,List.getElem?_cons_succ,List.getElem?_append_left (by rw[Qjq];exact h)]
 exact Qs3 a h
theorem head_drB{N:Nat}{a b:Nat->Nat}{k:Nat}(h:k<32):Ad (Aj (33+k) (drL N a b))=some (w8 (b k:Nat)):=by
 refine Qr2 ?_
 unfold drL
 rw[show 33+k=(32+k)+1 by omega,List.getElem?_cons_succ,List.getElem?_append_right (by rw[Qjq];omega),Qjq,show 32+k-32=k by omega]
 exact Qs3 b h
theorem Qs1{g o k:Nat}(h:k<32):Az (Qac Pg) 53 (.ptr g o) (k:Int)=some (.ptr g (o+k)):=by
 have e:Az (Qac Pg) 53 (.ptr g o) (k:Int)=(if 0<=(k:Int)/\(k:Int)<((32:Nat):Int)then Qfy (.ptr g o) ((k:Int).toNat*1)else none):=by kernel_rfl
 rw[e,if_pos o_]
 simp[Qfy]
section
variable (N:Nat) (a b:Nat->Nat) (n size:Nat) (la pa:Nat->Nat)
abbrev dlO:List O:=[.row 55 none (drL N a b),.row 43 none [.nils,.nils],.row 43 none [.sl 3 0 size (some (size-size)),.sl 4 0 size (some (size-size))],.row 3 none (nF la size),.row 72 none (uF pa size)]
abbrev dlS(s:Nat):SL:={sl:=[(1,i6 (n:Nat)),(2,.ptr 0 0),(4,.ptr 1 0),(5,.ptr 2 0),(6,u6 (s:Nat))],os:=dlO N a b size la pa,md:=[0,0,1]}
abbrev dlI(s v:Nat):SL:={sl:=[(1,i6 (n:Nat)),(2,.ptr 0 0),(4,.ptr 1 0),(5,.ptr 2 0),(6,u6 (s:Nat)),(7,i6 (v:Nat))],os:=dlO N a b size la pa,md:=[0,0,1]}
abbrev dlX:SL:={sl:=[(4,.ptr 0 0),(5,.ptr 1 0)],os:=[.row 43 none [.nils,.nils],.row 43 none [.im size (nF la size),.im size (uF pa size)]],md:=[0,1]}
end
theorem dl_in(N:Nat)(a b:Nat->Nat)(n size:Nat)(la pa:Nat->Nat)(h1:1<=n)(h5:n<=5)(s v0:Nat)(h0:0<s)(hs:s<2^n)(hv0:v0<n):
  Sat Pg none 0 (at' 15 [1,1,0,1,0,0,1,0,0,1,0,0]) (Ah g0 56 (dlI N a b n size la pa s v0)) (Qaf g0 56 [(True,.exit 2,dlI N a b n size la pa s (drV n s 5 v0))]):=by
 have hd:=Qey N a b
 have hla:=Qai la size
 have hpa:=Qaj pa size
 have h32:=Qa1 h5
 obtain⟨t1,t2⟩:=drV_ok h1 h5 h0 hs hv0
 generalize hT:drV n s 5 v0=T at*
 refine Qax vE_ok Af Qaa (b:=at' 15 [1,1,0,1,0,0,1,0,0,1,0,0,0]) k_ (fun x:Nat×Nat=>x.1<n/\drV n s x.2 x.1=T) (fun x=>dlI N a b n size la pa s x.1) (fun x=>x.2) (fun x hx=>?_) (v0,5) ⟨hv0,hT⟩
 obtain⟨v,f⟩:=x
 obtain⟨hv,hx⟩:=hx
 dsimp only at hv hx
 have hin:=F1 s v o_
 cases hb:s.testBit v with
 | true =>
  have e:v=T:=by
   rw[<-hx]
   cases f with
   |zero=>rfl
   |succ f=>unfold drV;rw[if_pos hb]
  subst e
  rw[hb]at hin
  refine .inr ⟨.exit 2,[0,1,2,3,4],dlI N a b n size la pa s v,[fn 30 (.bool true)],1000,.inl ⟨trivial,rfl,rfl⟩,?_⟩
  clear hT t1 t2 hx hb
  exact v_ (p:=let z0:=An [Zz,Sm size,Sm (size-size)];Bn [TT 2,Ac Pg g0 21 [u6 s,i6 v] (V.bool true),Tt,Bn [Sm (n:Int),Zz,Zz,Zz,Sm (s:Int),Sm (v:Int)],An [Sm (drL N a b),TT 65],An [Sm [V.nils,V.nils],TT 2],Bn [z0,z0],An [Sm (nF la size),HfL (nF la size)],An [Sm (uF pa size),HfL (uF pa size)]])
 | false =>
  rw[hb]at hin
  cases f with
  |zero=>
   have:v=T:=hx
   rw[this,t1]at hb;cases hb
  | succ f =>
   have hx2:drV n s f ((v+1)%n)=T:=by
    rw[<-hx,drV,hb];rfl
   have hlt:(v+1)%n<n:=Nat.mod_lt _ o_
   have hrem:Ai (Qac Pg) .rem 3 (i6 ((v+1:Nat):Int)) (i6 (n:Nat))=some (i6 (((v+1)%n:Nat):Int)):=by rw[Db o_,Qd2]
   generalize (v+1)%n=w at*
   refine .inl ⟨(w,f),[0,1,2,3,4],[fn 30 (.bool false),nu 33 ((v+1:Nat):Int),va 35 (i6 (w:Nat))],1000,⟨hlt,hx2⟩,by dsimp only;omega,?_⟩
   clear hT t1 t2 hx hx2 hb
   exact v_ (p:=let z0:=An [Zz,Sm size,Sm (size-size)];Bn [TT 2,Ac Pg g0 21 [u6 s,i6 v] (V.bool false),Tt,wr .i64 ((v:Int)+1)=(↑(v+1):Int),Ai (Qac Pg) .rem 3 (i6 ↑(v+1)) (i6 n)=some (i6 w),Bn [Sm (n:Int),Zz,Zz,Zz,Sm (s:Int),Sm (w:Int)],An [Sm (drL N a b),TT 65],An [Sm [V.nils,V.nils],TT 2],Bn [z0,z0],An [Sm (nF la size),HfL (nF la size)],An [Sm (uF pa size),HfL (uF pa size)]])
theorem dl_out(N:Nat)(a b:Nat->Nat)(n:Nat)(h1:1<=n)(h5:n<=5)(ha: ∀k,a k<256)(hb: ∀k,b k<256):
  Sat Pg none 0 (at' 15 [1,1,0,1,0]) (Ah g0 56 (dlS N a b n (2^n) (dlA n a 1) (dlB n a b 1) 1)) (Qaf g0 56 [(True,.exit 0,dlX (2^n) (dlA n a (2^n)) (dlB n a b (2^n)))]):=by
 have hd:=Qey N a b
 have hla:=fun la=>Qai la (2^n)
 have hpa:=fun pa=>Qaj pa (2^n)
 have h32:=Qa1 h5
 have hp:1<=2^n:=Nat.pow_pos d_
 have sn:=fun G t=>@Qhe G t n o_
 refine Qax vE_ok Af Qaa (b:=at' 15 [1,1,0,1,0,0]) k_ (fun s=>1<=s/\s<=2^n) (fun s=>dlS N a b n (2^n) (dlA n a s) (dlB n a b s) s) (fun s=>2^n-s) (fun s hs=>?_) 1 ⟨Nat.le_refl _,hp⟩
 obtain⟨hs1,hs2⟩:=hs
 by_cases hlt:s<2^n
 ·have hmod : a s % n < n := Nat.mod_lt _ o_
  obtain⟨t1,t2⟩:=drV_ok h1 h5 hs1 hlt hmod
  have hin:=dl_in N a b n (2^n) (dlA n a s) (dlB n a b s) h1 h5 s (a s%n) hs1 hlt hmod
  have hrem:Ai (Qac Pg) .rem 3 (i6 (a s:Nat)) (i6 (n:Nat))=some (i6 ((a s%n:Nat):Int)):=by rw[Db o_,Qd2]
  have hpl:=@Qs1 0 1 s o_
  have hpl2:=@Qs1 0 33 s o_
  have hh1:=@head_drA N a b s o_
  have hh2:=@head_drB N a b s o_
  have y1:=@Qdl (dlA n a s) (2^n) s hlt (dlV n a s)
  rw[dlA_next n a hs1]at y1
  have y2:=@Qd8 (dlB n a b s) (2^n) s hlt (b s&&& (s-2^dlV n a s))
  rw[dlB_next n a b hs1]at y2
  have s1:=fun G t=>@and_u8 G t (b s) s (hb s) o_
  have s2:=fun G t=>@Qhe G t (dlV n a s) (by unfold dlV;omega)
  have s3:=fun G t=>@andn_u8 G t (b s) s (dlV n a s) o_ (by unfold dlV;omega) t1
  have hw1:=ha s
  have hw2:=hb s
  have hu1:wr .u64 ((b s:Nat):Int)=((b s:Nat):Int):=Qei (by simp only[lo];omega) (by simp only[hi];omega)
  have hu2:wr .u64 ((s:Int)+1)=((s+1:Nat):Int):=by rw[show(s:Int)+1=((s+1:Nat):Int)by omega];exact Qei (by simp only[lo];omega) (by simp only[hi];omega)
  rw[show drV n s 5 (a s%n)=dlV n a s from rfl]at hin t1 t2
  generalize dlV n a s=v at*
  generalize a s%n=v0 at*
  generalize hA:dlA n a s=A at*
  generalize hB:dlB n a b s=B at*
  generalize hA2:dlA n a (s+1)=A2 at*
  generalize hB2:dlB n a b (s+1)=B2 at*
  generalize hx1:a s=x1 at*
  generalize hx2:b s=x2 at*
  generalize hz1:x2&&& (s-2^v)=z1 at*
  generalize hz2:x2&&& s=z2 at*
  refine .inl ⟨s+1,[0,1,2,3,4],[va 17 (u6 ((2^n:Nat):Int)),yes 18,va 23 (.ptr 0 (1+s)),ld 24 (w8 (x1:Nat)),nu 25 (x1:Nat),va 27 (i6 (v0:Nat)),(0,.loop [0,1,2,3,4] (dlI N a b n (2^n) A B s v0) [(True,.exit 2,dlI N a b n (2^n) A B s v)]),pl 40,st (nF A2 (2^n)),va 46 (.ptr 0 (33+s)),ld 47 (w8 (x2:Nat)),nu 48 (x2:Nat),va 50 (u6 (z2:Nat)),va 52 (u6 ((2^v:Nat):Int)),va 53 (u6 (z1:Nat)),pl 54,st (uF B2 (2^n)),nu 20 ((s+1:Nat):Int)],1000,⟨by omega,by omega⟩,by omega,?_⟩
  ·rw [hA2, hB2]
   clear hA hB hA2 hB2 hx1 hx2 hz1 hz2 ha hb
   generalize hz:2^n=z at*
   generalize 2^v=pv at*
   clear hz
   exact v_ (p:=let z9:=Sm (z-z);let z0:=(s:Int);let z3:=Qac Pg;let z4:=[V.nils,V.nils];let z5:=drL N a b;let z6:=(↑(s+1):Int);let z7:=(n:Int);let z8:=(z:Int);Bn [Ai z3 .shl 72 (u6 1) (i6 n)=some (u6 z),decide (z0<z8)=true,Az z3 53 (V.ptr 0 1) z0=some (V.ptr 0 (1+s)),Ad (Aj (1+s) z5)=some (w8 x1),wr .i64 (x1:Int)=(x1:Int),Ai z3 .rem 3 (i6 x1) (i6 n)=some (i6 v0),Bn [Bn [z7=z7,Zz,Zz,Zz,z0=z0,Sm (v0:Int)],An [z5=z5,TT 65],An [z4=z4,TT 2],Bn [An [Zz,z=z,z9],An [Zz,z=z,z9]],An [Sm (nF A z),HfL (nF A z)],An [Sm (uF B z),HfL (uF B z)]],Sat Pg none 0 (at' 15 [1,1,0,1,0,0,1,0,0,1,0,0]) (Ah g0 56 (dlI N a b n z A B s v0)) (Qaf g0 56 [(True,Ex.exit 2,dlI N a b n z A B s v)]),(True->Bn [An [(0:Int)<=z0,z0<z8],Ax (0+s*1) (nF A z) [i6 v]=some (nF A2 z),Az z3 53 (V.ptr 0 (0+33)) z0=some (V.ptr 0 (33+s)),Ad (Aj (33+s) z5)=some (w8 x2),wr .u64 (x2:Int)=(x2:Int),Ai z3 .and 72 (u6 x2) (u6 s)=some (u6 z2),Ai z3 .shl 72 (u6 1) (i6 v)=some (u6 pv),Ai z3 .andNot 72 (u6 z2) (u6 pv)=some (u6 z1),An [(0:Int)<=z0,z0<z8],Ax (0+s*1) (uF B z) [u6 z1]=some (uF B2 z),wr .u64 (z0+1)=z6,Bn [z7=z7,Zz,Zz,Zz,z6=z6],An [z5=z5,TT 65],An [z4=z4,TT 2],Bn [An [Zz,z=z,z9],An [Zz,z=z,z9]],An [Sm (nF A2 z),HfL (nF A2 z)],An [Sm (uF B2 z),HfL (uF B2 z)]])])
 ·have : s = 2 ^ n := by omega
  subst this
  generalize dlA n a (2^n)=A at*
  generalize dlB n a b (2^n)=B at*
  generalize 2^n=z at*
  refine .inr ⟨.exit 0,[1,2],dlX z A B,[va 17 (u6 (z:Nat)),no 18],1000,.inl ⟨trivial,rfl,rfl⟩,?_⟩
  exact v_ (p:=Bn [Ai (Qac Pg) .shl 72 (u6 1) (i6 n)=some (u6 z),decide ((z:Int)<(z:Int))=false,Bn [Zz,Zz],An [Sm [V.nils,V.nils],TT 2],Bn [An [z=z,Sm (nF A z),HfL (nF A z)],An [z=z,Sm (uF B z),HfL (uF B z)]]])
theorem Qk3(N:Nat)(a b:Nat->Nat)(n:Nat)(h1:1<=n)(h5:n<=5)(ha: ∀k,a k<256)(hb: ∀k,b k<256):Ac Pg g0 15 [drW N a b,i6 (n:Nat)] (lV (mkL (dlA n a (2^n)) n) (mkP (dlB n a b (2^n)) n)):=by
 have hl:=dl_out N a b n h1 h5 ha hb
 have e0:dlA n a 1=fun _=>0:=by funext i;unfold dlA;rw[if_neg o_]
 have e1:dlB n a b 1=fun _=>0:=by funext i;unfold dlB;rw[if_neg o_]
 rw[e0,e1]at hl
 clear e0 e1
 rw[<-mk_V]
 have hd:=Qey N a b
 have h32:=Qa1 h5
 have hp:1<=2^n:=Nat.pow_pos d_
 have hs:=Qmv n o_
 have hr1:=Qs8 (2^n)
 have hr2:=Qs9 (2^n)
 have hn0:=Qai (fun _=>0) (2^n)
 have hu0:=Qaj (fun _=>0) (2^n)
 generalize dlA n a (2^n)=A at*
 generalize dlB n a b (2^n)=B at*
 have hn1:=Qai A (2^n)
 have hu1:=Qaj B (2^n)
 generalize 2^n=z at*
 refine Ac.of_vc vE_ok Af Qaa (n:=1000) (r:=[0]) (S:={sl:=[(4,.ptr 0 0)],os:=[.row 43 none [.im z (nF A z),.im z (uF B z)]],md:=[1]}) (hs:=[va 9 (i6 (z:Nat)),mk 10,va 12 (i6 (z:Nat)),mk 13,(0,.loop [0,1,4,2,3] (dlS N a b n z (fun _=>0) (fun _=>0) 1) [(True,.exit 0,dlX z A B)])]) ?_
 exact v_ (p:=let z0:=(z:Int);let z1:=Ai (Qac Pg) .shl 3 (i6 1) (i6 n);let z2:=(9223372036854775807:Int);let z3:=(281474976710656:Int);Bn [V.agg [V.im z (nF A z),V.im z (uF B z)]=ldV z A B,z1=some (i6 z),An [(0:Int)<=z0,z0<=z0,((8:Nat):Int)*z0<=z3,z0<=z2],z1=some (i6 z),An [(0:Int)<=z0,z0<=z0,((8:Nat):Int)*z0<=z3,z0<=z2],Bn [Bn [Sm (n:Int),Zz,Zz,Zz,((1:Nat):Int)=(1:Int)],An [drL N a b=w8 ↑N::(r8F a 32++r8F b 32),TT 65],An [Sm [V.nils,V.nils],TT 2],Bn [An [Zz,z=z,Sm (z-z)],An [Zz,z=z,Sm (z-z)]],An [nF (fun x=>0) z=rep z [i6 0],HfL (nF (fun x=>0) z)],An [uF (fun x=>0) z=rep z [u6 0],HfL (uF (fun x=>0) z)]],Sat Pg none 0 (at' 15 [1,1,0,1,0]) (Ah g0 56 (dlS N a b n z (fun x=>0) (fun x=>0) 1)) (Qaf g0 56 [(True,Ex.exit 0,dlX z A B)]),(True->Bn [Bn [Zz],Bn [An [z=z,Sm (nF A z)],An [z=z,Sm (uF B z)]]])])
set_option maxHeartbeats 1000000
set_option maxRecDepth 100000
theorem src_u{H:T O}{l:List Nat}:A3 H 1 (ul l)=some (l.length,ut l):=by
 unfold A3
 have h:Nat.ble (l.length*1) (ut l).length=true:=Nat.ble_eq_true_of_le (by rw[Qev];omega)
 simp only[h,cond_true]
 rw[Nat.mul_one,List.take_of_length_le (by rw[Qev];omega)]
section
variable (l:List Nat) (a:Int)
end
set_option maxHeartbeats 4000000
set_option maxRecDepth 100000
abbrev bnX(L:List Int)(P:List Nat):SL:={sl:=[(4,.ptr 0 0)],os:=[.row 43 none [sl L,ul P]],md:=[1]}
theorem cons_of{α:Type}{l:List α}(h:l.length≠0): ∃x m,l=x::m:=by
 cases l with
 |nil=>exact absurd rfl h
 |cons x m=>exact⟨x,m,rfl⟩
theorem S64.drop1{l:List Nat}(h:S64 l):S64 (l.drop 1):=fun x hx=>h x (List.mem_of_mem_drop hx)
theorem Qsi{a:Int}{n:Nat}(ha:0<=a)(hn:n≠0):0<=a%(n:Int)/\a%(n:Int)<n:=⟨Int.emod_nonneg _ o_,Int.emod_lt_of_pos _ o_⟩
theorem emod4{b:Int}(h:0<=b/\b<=255):b.tmod 4=b%4:=by
 rw[Int.tmod_eq_emod_of_nonneg h.1]
theorem wr_u64n(N:Int):wr .u64 N=(((N%18446744073709551616).toNat:Nat):Int):=by
 rw[Int.toNat_of_nonneg (Int.emod_nonneg _ d_),wr_u64]
theorem cty52:(Qac Pg).ty 41=some {desc:=.slice 72,size:=1,bytes:=24,agg:=false,zero:=some [.nils]}:=by kernel_rfl
theorem cty28:(Qac Pg).ty 72=some {desc:=.int .u64,size:=1,bytes:=8,agg:=false,zero:=some [.int .u64 0]}:=by kernel_rfl
theorem bend29(b a N:Int)(L:List Int)(P:List Nat)(hb:0<=b/\b<=255)(ha:0<=a/\a<=255)(hP:S64 P)(hL:L.length<=1000)(hPl:P.length<=1000): ∃L' P',S64 P'/\L'.length<=L.length+1/\P'.length<=P.length+1/\Ac Pg g0 17 [beV b a N,lV L P] (lV L' P'):=by
 have hu:=Qas P
 have hs1:=fun H=>@Qcj H L
 have hs2:=fun H=>@src_u H P
 have hul:=Qev P
 by_cases eL:L.length=0
 ·obtain rfl := List.eq_nil_of_length_eq_zero eL
  refine⟨[],P,hP,by simp,by omega,?_⟩
  by_cases eP:P.length=0
  ·obtain rfl := List.eq_nil_of_length_eq_zero eP
   refine Ac.of_vc vE_ok Af Qaa (n:=1000) (r:=[2]) (S:={sl:=[(4,.ptr 0 0)],os:=[.row 43 none [.im 0 noL,.im 0 noL]],md:=[1]}) (hs:=[]) ?_
   exact v_ (p:=Bn [V.agg [V.im 0 noL,V.im 0 noL]=lV [] [],Bn [Zz],Bn [Bn [Zz,noL=[]],Bn [Zz,noL=[]]]])
  ·refine Ac.of_vc vE_ok Af Qaa (n := 1000) (r := [2]) (S := { sl := [(4, .ptr 0 0)], os := [.row 43 none [.im 0 noL, ul P]], md := [1] }) (hs := [(13, .cp P.length (ut P))]) ?_
   exact v_ (p:=let z0:=pt T.e 0 (O.row 56 none [w8 b,w8 a,i6 N]);let z1:=O.row 43 none [V.nils,V.nils];Bn [V.agg [V.im 0 noL,ul P]=lV [] P,An [A3 (pt (pt (pt (pt z0 1 (O.row 43 none [sl [],ul P])) 2 z1) 3 (O.row 3 none [])) 4 (O.row 72 none [])) 1 (ul P)=some (P.length,ut P),A3 (pt (pt (pt (pt z0 1 (O.row 43 none [sl [],ul P])) 2 z1) 3 (O.row 3 none [])) 4 (O.row 72 none [])) 1 (V.sl 4 0 0 (some 0))=some (0,[]),1<=P.length,P.length<=9223372036854775807,P.length*8<=140737488355328],Bn [Zz],Bn [Bn [Zz,noL=[]],An [Sm P.length,Sm (ut P),HfL (ut P)]]])
 ·by_cases eP : P.length = 0
  ·obtain rfl := List.eq_nil_of_length_eq_zero eP
   refine⟨L,[],hP,by omega,by simp,?_⟩
   refine Ac.of_vc vE_ok Af Qaa (n:=1000) (r:=[2]) (S:=bnX L []) (hs:=[(9,.cp L.length (Ab L)),no 18]) ?_
   exact v_ (p:=let z0:=pt T.e 0 (O.row 56 none [w8 b,w8 a,i6 N]);let z1:=O.row 43 none [V.nils,V.nils];Bn [V.agg [sl L,ul []]=lV L [],An [A3 (pt (pt (pt z0 1 (O.row 43 none [sl L,ul []])) 2 z1) 3 (O.row 3 none [])) 1 (sl L)=some (L.length,Ab L),A3 (pt (pt (pt z0 1 (O.row 43 none [sl L,ul []])) 2 z1) 3 (O.row 3 none [])) 1 (V.sl 3 0 0 (some 0))=some (0,[]),1<=L.length,L.length<=9223372036854775807,L.length*8<=140737488355328],((L.length:Int)==0)=false,Bn [Zz],Bn [An [Sm L.length,Sm (Ab L),HfL (Ab L)],Bn [Zz,ut ([]:List Nat)=[]]]])
  ·have hm := @emod4 b hb
   have hm4:=@Qsi b 4 hb.1 d_
   rcases(show b%4=0\/b%4=1\/b%4=2\/b%4=3 by omega)with e|e|e|e
   ·obtain ⟨q1, q2⟩ := Qsi ha.1 eL
    have hrem:Ai (Qac Pg) .rem 3 (i6 a) (i6 L.length)=some (i6 (((a%(L.length:Int)).toNat:Nat):Int)):=by
     rw[Db o_,Int.tmod_eq_emod_of_nonneg ha.1,Int.toNat_of_nonneg q1]
    have q3:(a%(L.length:Int)).toNat<L.length:=by omega
    generalize (a%(L.length:Int)).toNat=k at*
    have hlay:=@Qdk L k N q3
    have hll:(L.set k N).length=L.length:=List.length_set
    refine⟨L.set k N,P,hP,by omega,by omega,?_⟩
    generalize hL2:L.set k N=L2 at*
    have hX:bnX L2 P={sl:=[(4,.ptr 0 0)],os:=[.row 43 none [.im L.length (Ab L2),ul P]],md:=[1]}:=by rw[<-hll]
    rw[show lV L2 P= .agg [.im L.length (Ab L2),ul P]by rw[<-hll]]
    clear hL2
    refine Ac.of_vc vE_ok Af Qaa (n:=1000) (r:=[2]) (S:={sl:=[(4,.ptr 0 0)],os:=[.row 43 none [.im L.length (Ab L2),ul P]],md:=[1]}) (hs:=[(9,.cp L.length (Ab L)),(13,.cp P.length (ut P)),no 18,no 23,nu 28 (b%4),yes 34,nu 39 a,va 43 (i6 (k:Nat)),pl 46,st (Ab L2)]) ?_
    exact v_ (p:=let z0:=pt (pt (pt T.e 0 (O.row 56 none [w8 b,w8 a,i6 N])) 1 (O.row 43 none [sl L,ul P])) 2 (O.row 43 none [V.nils,V.nils]);let z1:=V.agg [V.im L.length (Ab L2),ul P];let z2:=O.row 3 (some 1) (Ab L);let z3:=(0:Int);Bn [z1=z1,An [A3 (pt z0 3 (O.row 3 none [])) 1 (sl L)=some (L.length,Ab L),A3 (pt z0 3 (O.row 3 none [])) 1 (V.sl 3 0 0 (some 0))=some (0,[]),1<=L.length,L.length<=9223372036854775807,L.length*8<=140737488355328],An [A3 (pt (pt (pt z0 3 (O.row 3 none [])) 4 z2) 5 (O.row 72 none [])) 1 (ul P)=some (P.length,ut P),A3 (pt (pt (pt z0 3 (O.row 3 none [])) 4 z2) 5 (O.row 72 none [])) 1 (V.sl 5 0 0 (some 0))=some (0,[]),1<=P.length,P.length<=9223372036854775807,P.length*8<=140737488355328],((L.length:Int)==z3)=false,((P.length:Int)==z3)=false,Int.tmod b (4:Int)=b%4,(b%4==z3)=true,wr .i64 a=a,Ai (Qac Pg) .rem 3 (i6 a) (i6 L.length)=some (i6 k),An [z3<=(k:Int),(k:Int)<(L.length:Int)],Ax (0+k*1) (Ab L) [i6 N]=some (Ab L2),Bn [Zz],Bn [An [Sm L.length,Sm (Ab L2),HfL (Ab L2)],An [Sm P.length,Sm (ut P),HfL (ut P)]]])
   ·obtain ⟨q1, q2⟩ := Qsi ha.1 eP
    have hrem:Ai (Qac Pg) .rem 3 (i6 a) (i6 P.length)=some (i6 (((a%(P.length:Int)).toNat:Nat):Int)):=by
     rw[Db o_,Int.tmod_eq_emod_of_nonneg ha.1,Int.toNat_of_nonneg q1]
    have q3:(a%(P.length:Int)).toNat<P.length:=by omega
    generalize (a%(P.length:Int)).toNat=k at*
    have hwr:=wr_u64n N
    have hz:(N%18446744073709551616).toNat<18446744073709551616:=by
     have:=Int.emod_lt_of_pos N (show(0:Int)<18446744073709551616 by decide)
     omega
    generalize (N%18446744073709551616).toNat=z at*
    have hlay:=@lay_ut P k z q3
    have hll:(P.set k z).length=P.length:=List.length_set
    refine⟨L,P.set k z,hP.set hz,by omega,by omega,?_⟩
    generalize hP2:P.set k z=P2 at*
    have hu2:=Qas P2
    rw[show lV L P2= .agg [sl L,.im P.length (ut P2)]by rw[<-hll]]
    clear hP2
    refine Ac.of_vc vE_ok Af Qaa (n:=1000) (r:=[2]) (S:={sl:=[(4,.ptr 0 0)],os:=[.row 43 none [sl L,.im P.length (ut P2)]],md:=[1]}) (hs:=[(9,.cp L.length (Ab L)),(13,.cp P.length (ut P)),no 18,no 23,nu 28 (b%4),no 34,yes 48,nu 53 a,va 57 (i6 (k:Nat)),nu 60 (z:Nat),pl 61,st (ut P2)]) ?_
    exact v_ (p:=let z0:=pt (pt (pt T.e 0 (O.row 56 none [w8 b,w8 a,i6 N])) 1 (O.row 43 none [sl L,ul P])) 2 (O.row 43 none [V.nils,V.nils]);let z1:=V.agg [sl L,V.im P.length (ut P2)];let z2:=O.row 3 (some 1) (Ab L);let z3:=(0:Int);let z4:=(4:Int);Bn [z1=z1,An [A3 (pt z0 3 (O.row 3 none [])) 1 (sl L)=some (L.length,Ab L),A3 (pt z0 3 (O.row 3 none [])) 1 (V.sl 3 0 0 (some 0))=some (0,[]),1<=L.length,L.length<=9223372036854775807,L.length*8<=140737488355328],An [A3 (pt (pt (pt z0 3 (O.row 3 none [])) 4 z2) 5 (O.row 72 none [])) 1 (ul P)=some (P.length,ut P),A3 (pt (pt (pt z0 3 (O.row 3 none [])) 4 z2) 5 (O.row 72 none [])) 1 (V.sl 5 0 0 (some 0))=some (0,[]),1<=P.length,P.length<=9223372036854775807,P.length*8<=140737488355328],((L.length:Int)==z3)=false,((P.length:Int)==z3)=false,Int.tmod b z4=b%z4,(b%z4==z3)=false,(b%z4==1)=true,wr .i64 a=a,Ai (Qac Pg) .rem 3 (i6 a) (i6 P.length)=some (i6 k),wr .u64 N=(z:Int),An [z3<=(k:Int),(k:Int)<(P.length:Int)],Ax (0+k*1) (ut P) [u6 z]=some (ut P2),Bn [Zz],Bn [An [Sm L.length,Sm (Ab L),HfL (Ab L)],An [Sm P.length,Sm (ut P2),HfL (ut P2)]]])
   ·have hap : Ab (L ++ [0]) = Ab L ++ [i6 0] := by simp [Ab]
    refine⟨L++[0],P,hP,by simp,by omega,?_⟩
    rw[show lV (L++[0]) P= .agg [.im (L.length+1) (Ab L++[i6 0]),ul P]by rw[<-hap];simp]
    refine Ac.of_vc vE_ok Af Qaa (n:=1000) (r:=[2]) (S:={sl:=[(4,.ptr 0 0)],os:=[.row 43 none [.im (L.length+1) (Ab L++[i6 0]),ul P]],md:=[1]}) (hs:=[(9,.cp L.length (Ab L)),(13,.cp P.length (ut P)),no 18,no 23,nu 28 (b%4),no 34,no 48,yes 63,ap 67]) ?_
    refine m_ (p:=let z0:=pt (pt (pt T.e 0 (O.row 56 none [w8 b,w8 a,i6 N])) 1 (O.row 43 none [sl L,ul P])) 2 (O.row 43 none [V.nils,V.nils]);let z1:=V.agg [V.im (L.length+1) (Ab L++[i6 0]),ul P];let z2:=(4:Int);let z3:=O.row 3 (some 1) (Ab L);Bn [z1=z1,An [A3 (pt z0 3 (O.row 3 none [])) 1 (sl L)=some (L.length,Ab L),A3 (pt z0 3 (O.row 3 none [])) 1 (V.sl 3 0 0 (some 0))=some (0,[]),1≤L.length,L.length≤9223372036854775807,L.length*8≤140737488355328],An [A3 (pt (pt (pt z0 3 (O.row 3 none [])) 4 z3) 5 (O.row 72 none [])) 1 (ul P)=some (P.length,ut P),A3 (pt (pt (pt z0 3 (O.row 3 none [])) 4 z3) 5 (O.row 72 none [])) 1 (V.sl 5 0 0 (some 0))=some (0,[]),1≤P.length,P.length≤9223372036854775807,P.length*8≤140737488355328],((L.length:Int)==0)=false,((P.length:Int)==0)=false,Int.tmod b z2=b%z2,(b%z2==0)=false,(b%z2==1)=false,(b%z2==2)=true,List.length (Ab L)=L.length*1,L.length+1≤9223372036854775807,(L.length+1)*8≤140737488355328,Bn [Zz],Bn [An [Sm (L.length+1),Sm (Ab L++[i6 0]),HfL (Ab L++[i6 0])],An [Sm P.length,Sm (ut P),HfL (ut P)]]]) ?_
    (repeat'(first|(with_reducible apply And.intro)|(refine fun(_:True)=>?_)))
    all_goals first|exact hu|(with_reducible exact hm)|(with_reducible exact hs1 _)|(with_reducible exact hs2 _)|exact Qa2 (by rw[Qad,if_pos rfl])|(with_reducible refine Qat ?_;omega)|(with_reducible refine Qan ?_;omega)|(rw[Qbr,Nat.mul_one])|exact Qck (Qag _) ⟨trivial,trivial⟩|exact aq|rfl|skip
   ·refine ⟨L, P.drop 1, hP.drop1, by omega, by simp; omega, ?_⟩
    obtain⟨p0,P1,rfl⟩:=cons_of eP
    show Ac Pg g0 17 [beV b a N,lV L (p0::P1)] (lV L P1)
    have hu1:=Qas P1
    by_cases e1:P1.length=0
    ·obtain rfl := List.eq_nil_of_length_eq_zero e1
     refine Ac.of_vc vE_ok Af Qaa (n:=1000) (r:=[2]) (S:=bnX L []) (hs:=[(9,.cp L.length (Ab L)),no 18,nu 28 (b%4),no 34,no 48,no 63]) ?_
     exact v_ (p:=let z0:=pt (pt (pt T.e 0 (O.row 56 none [w8 b,w8 a,i6 N])) 1 (O.row 43 none [sl L,ul [p0]])) 2 (O.row 43 none [V.nils,V.nils]);let z1:=(4:Int);Bn [V.agg [sl L,ul []]=lV L [],An [A3 (pt z0 3 (O.row 3 none [])) 1 (sl L)=some (L.length,Ab L),A3 (pt z0 3 (O.row 3 none [])) 1 (V.sl 3 0 0 (some 0))=some (0,[]),1<=L.length,L.length<=9223372036854775807,L.length*8<=140737488355328],((L.length:Int)==0)=false,Int.tmod b z1=b%z1,(b%z1==0)=false,(b%z1==1)=false,(b%z1==2)=false,Bn [Zz],Bn [An [Sm L.length,Sm (Ab L),HfL (Ab L)],An [Zz,ut []=[]]]])
    ·have hsl : ∀ h : Nat, Bv (Qac Pg) 41 (.sl h 0 (P1.length + 1) none) (some (1 : Int)) none none = some (.sl h 1 P1.length none) := fun h => by
      unfold Bv
      simp only[cty52,cty28,Option.getD_none,Option.getD_some,Option.isNone_none,Bool.and_self,cond_true]
      rw[if_pos ⟨by omega,by omega,by simp,by simp,by simp⟩,if_neg o_,if_pos (.inr (by simp))]
      simp
     have hp1:P1.length+1<=1000:=by simpa using hPl
     refine Ac.of_vc vE_ok Af Qaa (n:=1000) (r:=[2]) (S:=bnX L P1) (hs:=[(9,.cp L.length (Ab L)),(13,.cp (P1.length+1) (ut (p0::P1))),no 18,no 23,nu 28 (b%4),no 34,no 48,no 63,va 31 (.sl 6 1 P1.length none)]) ?_
     exact v_ (p:=let z0:=pt (pt (pt T.e 0 (O.row 56 none [w8 b,w8 a,i6 N])) 1 (O.row 43 none [sl L,ul (p0::P1)])) 2 (O.row 43 none [V.nils,V.nils]);let z1:=(4:Int);let z2:=O.row 3 (some 1) (Ab L);let z3:=ut (p0::P1);Bn [V.agg [sl L,ul P1]=lV L P1,An [A3 (pt z0 3 (O.row 3 none [])) 1 (sl L)=some (L.length,Ab L),A3 (pt z0 3 (O.row 3 none [])) 1 (V.sl 3 0 0 (some 0))=some (0,[]),1<=L.length,L.length<=9223372036854775807,L.length*8<=140737488355328],An [A3 (pt (pt (pt z0 3 (O.row 3 none [])) 4 z2) 5 (O.row 72 none [])) 1 (ul (p0::P1))=some (P1.length+1,z3),A3 (pt (pt (pt z0 3 (O.row 3 none [])) 4 z2) 5 (O.row 72 none [])) 1 (V.sl 5 0 0 (some 0))=some (0,[]),1<=P1.length+1,P1.length+1<=9223372036854775807,(P1.length+1)*8<=140737488355328],((L.length:Int)==0)=false,((↑(P1.length+1):Int)==0)=false,Int.tmod b z1=b%z1,(b%z1==0)=false,(b%z1==1)=false,(b%z1==2)=false,Bv (Qac Pg) 41 (V.sl 6 0 (P1.length+1) none) (some (1:Int)) none none=some (V.sl 6 1 P1.length none),Bn [Zz],Bn [An [Sm L.length,Sm (Ab L),HfL (Ab L)],An [Sm P1.length,ut P1=Aj 1 z3,HfL (Aj 1 z3)]]])
set_option maxHeartbeats 1000000
section
variable (v:Int) (ps:Nat) (c0:List Int) (s0:List (List Int)) (c1:List Int) (s1:List (List Int)) (c2:List Int) (s2:List (List Int)) (i:Nat) (jj:List Int) (cs:List (List Int)) (e:Int) (n w q r j:Nat)
end
set_option maxHeartbeats 4000000
set_option maxRecDepth 100000
def pick5{α:Type}(a b c d e:α)(k:Nat):α:=match k with
 |0=>a
 |1=>b
 |2=>c
 |3=>d
 | _=>e
abbrev l5V(a b c d e:List Int)(f g h i j:List Nat):V:=.agg [sl a,ul f,sl b,ul g,sl c,ul h,sl d,ul i,sl e,ul j]
theorem idx119(a b c d e:List Int)(f g h i j:List Nat){k:Nat}(hk:k<5):C3 (Qac Pg) 60 (l5V a b c d e f g h i j) (k:Int)=some (lV (pick5 a b c d e k) (pick5 f g h i j k)):=by
 rcases(show k=0\/k=1\/k=2\/k=3\/k=4 by omega)with rfl|rfl|rfl|rfl|rfl<;>kernel_rfl
abbrev d2V(c0:List Int)(s0:List (List Int))(c1:List Int)(s1:List (List Int)):V:=.agg [sl c0,gC s0,sl c1,gC s1]
theorem idx118(c0:List Int)(s0:List (List Int))(c1:List Int)(s1:List (List Int)){j:Nat}(h:j<2): ∃c s,((c=c0/\s=s0)\/(c=c1/\s=s1))/\C3 (Qac Pg) 57 (d2V c0 s0 c1 s1) (j:Int)=some (gV c s):=by
 rcases(show j=0\/j=1 by omega)with rfl|rfl
 ·exact⟨c0,s0,.inl ⟨rfl,rfl⟩,by kernel_rfl⟩
 ·exact⟨c1,s1,.inr ⟨rfl,rfl⟩,by kernel_rfl⟩
theorem sl_inj9{l m:List Int}(h:sl l=sl m):l=m:=by
 injection h with _ h
 have: ∀(l m:List Int),Ab l=Ab m->l=m:=by
  intro l
  induction l with
  |nil=>intro m h;cases m with
   |nil=>rfl
   |cons y m=>cases h
  | cons x l ih => intro m h; cases m with
   |nil=>cases h
   |cons y m=>
    obtain⟨h1,h2⟩:=List.cons.inj h
    injection h1 with _ h1
    rw[h1,ih m h2]
 exact this _ _ h
theorem ul_inj9{l m:List Nat}(h:ul l=ul m):l=m:=by
 injection h with _ h
 have: ∀(l m:List Nat),ut l=ut m->l=m:=by
  intro l
  induction l with
  |nil=>intro m h;cases m with
   |nil=>rfl
   |cons y m=>cases h
  | cons x l ih => intro m h; cases m with
   |nil=>cases h
   |cons y m=>
    obtain⟨h1,h2⟩:=List.cons.inj h
    injection h1 with _ h1
    have h1:x=y:=by omega
    rw[h1,ih m h2]
 exact this _ _ h
section
variable (lim:Int) (N:Nat) (la pa:Nat->Nat) (b a M:Int) (rL:List Int) (rP:List Nat) (sL:List Int) (sP:List Nat) (c0:List Int) (s0:List (List Int)) (c1:List Int) (s1:List (List Int)) (j:Nat) (jj:List Int) (cs:List (List Int)) (lv:V)
abbrev srO:List O:=[.row 55 none (drL N la pa),.row 56 none [w8 b,w8 a,i6 M],lO rL rP,lO sL sP]
abbrev srS:SL:={sl:=[(2,i6 lim),(9,.ptr 0 0),(10,.ptr 1 0),(11,.ptr 2 0),(14,.ptr 3 0),(37,d2V c0 s0 c1 s1),(38,i6 (j:Nat))],os:=srO N la pa b a M rL rP sL sP,md:=[0,0,0,1]}
abbrev srI(i:Nat):SL:={sl:=[(2,i6 lim),(9,.ptr 0 0),(10,.ptr 1 0),(11,.ptr 2 0),(14,.ptr 3 0),(17,.ptr 4 0),(37,d2V c0 s0 c1 s1),(38,i6 (j:Nat)),(62,lv),(63,i6 (i:Nat))],os:=srO N la pa b a M rL rP sL sP++[gO jj cs],md:=[0,0,0,1]}
end
theorem sr_in(lim:Int)(N:Nat)(la pa:Nat->Nat)(b a M:Int)(rL:List Int)(rP:List Nat)(sL:List Int)(sP:List Nat)(c0:List Int)(s0:List (List Int))(c1:List Int)(s1:List (List Int))(j:Nat)(jj:List Int)(cs:List (List Int))(h1:jj.length<=6)(h2:cs.length<=41)(h3: ∀c∈cs,c.length<=6)(x0 x1 x2 x3 x4:List Int)(y0 y1 y2 y3 y4:List Nat)(z0:S64 y0)(z1:S64 y1)(z2:S64 y2)(z3:S64 y3)(z4:S64 y4):
  Sat Pg none 0 (at' 4 [1,1,1,0,1,0,0,1,1,0,0,1,1,1,0]) (Ah g0 103 (srI lim N la pa b a M rL rP sL sP c0 s0 c1 s1 j jj cs (l5V x0 x1 x2 x3 x4 y0 y1 y2 y3 y4) 0)) (Qaf g0 103 [(True,.exit 2,srS lim N la pa b a M rL rP sL sP c0 s0 c1 s1 j)]):=by
 have hg:=Qap cs
 have hc:=Qag jj
 have hd:=Qey N la pa
 have hr:=Qas rP
 have hs:=Qas sP
 have q0:=Qap s0
 have q1:=Qap s1
 have u0:=Qas y0
 have u1:=Qas y1
 have u2:=Qas y2
 have u3:=Qas y3
 have u4:=Qas y4
 have her:=Qrc jj cs lim o_ o_ (fun c hc=>by have:=h3 c hc;omega)
 refine Qax vE_ok Af Qaa (b:=at' 4 [1,1,1,0,1,0,0,1,1,0,0,1,1,1,0,0]) k_ (fun i=>i<=5) (srI lim N la pa b a M rL rP sL sP c0 s0 c1 s1 j jj cs (l5V x0 x1 x2 x3 x4 y0 y1 y2 y3 y4)) (fun i=>5-i) (fun i hi=>?_) 0 d_
 by_cases hlt:i<5
 ·have hidx := idx119 x0 x1 x2 x3 x4 y0 y1 y2 y3 y4 hlt
  have hS:S64 (pick5 y0 y1 y2 y3 y4 i):=by
   rcases(show i=0\/i=1\/i=2\/i=3\/i=4 by omega)with rfl|rfl|rfl|rfl|rfl<;>assumption
  generalize pick5 x0 x1 x2 x3 x4 i=L at*
  generalize pick5 y0 y1 y2 y3 y4 i=P at*
  have hu:=Qas P
  clear z0 z1 z2 z3 z4
  by_cases h0:B8 jj cs lim=0
  ·obtain ⟨k, rfl⟩ : ∃ k : Nat, lim = k := ⟨lim.toNat, by have := (Qb8 h0).2.2.2.1; omega⟩
   have hgd:=good29 L P hS jj.length o_
   rw[h0]at her
   cases jv:E1 L P jj.length with
   |false=>
    have hri:=Qtc jj cs k L P hS h0 jv
    rw[jv]at hgd
    refine .inl ⟨i+1,[0,1,2,3,4],[yes 64,va 65 (lV L P),fn 70 (.tup [.bool false,i6 290]),fn 75 (i6 0),fn 83 (.bool false),nu 100 ((i+1:Nat):Int)],1000,by omega,by omega,?_⟩
    clear h0 jv hS
    exact v_ (p:=let z0:=V.agg [V.im jj.length (Ab jj),V.im cs.length (List.map sl cs)];let z1:=V.agg [V.im L.length (Ab L),V.im P.length (ut P)];let z2:=(↑(i+1):Int);let z3:=(i:Int);Bn [decide (z3<5)=true,C3 (Qac Pg) 60 (l5V x0 x1 x2 x3 x4 y0 y1 y2 y3 y4) z3=some (lV L P),Bn [TT 2,Tt,TT 2],Ac Pg g0 18 [z0,i6 k,z1] (V.tup [V.bool false,i6 290]),Tt,Bn [TT 2,Tt],Ac Pg g0 10 [z0,i6 k] (i6 0),Tt,Bn [TT 2,Tt],Ac Pg g0 12 [z1,i6 jj.length] (V.bool false),Tt,wr .i64 (z3+1)=z2,Bn [Sm (k:Int),Zz,Zz,Zz,Zz,Zz,Bn [An [Sm c0.length,Sm (Ab c0)],An [Sm s0.length,Sm (List.map sl s0)],An [Sm c1.length,Sm (Ab c1)],An [Sm s1.length,Sm (List.map sl s1)]],Sm (j:Int),Bn [An [Sm x0.length,Sm (Ab x0)],An [Sm y0.length,Sm (ut y0)],An [Sm x1.length,Sm (Ab x1)],An [Sm y1.length,Sm (ut y1)],An [Sm x2.length,Sm (Ab x2)],An [Sm y2.length,Sm (ut y2)],An [Sm x3.length,Sm (Ab x3)],An [Sm y3.length,Sm (ut y3)],An [Sm x4.length,Sm (Ab x4)],An [Sm y4.length,Sm (ut y4)]],z2=z2],An [Sm (drL N la pa),TT 65],An [Sm [w8 b,w8 a,i6 M],TT 3],An [Sm [sl rL,ul rP],TT 2],Bn [An [Sm sL.length,Sm (Ab sL)],An [Sm sP.length,Sm (ut sP)]],An [Sm [sl jj,gC cs],TT 2]])
   |true=>
    have hri:=Qfq jj cs k L P hS h0 jv
    have hrr:=Qmu jj cs k L P hS h0 jv
    rw[jv]at hgd
    generalize Ea jj.length k (fF jj cs) L P=w at*
    have hw:(!(w==w))=false:=by cases w<;>rfl
    refine .inl ⟨i+1,[0,1,2,3,4],[yes 64,va 65 (lV L P),fn 70 (.tup [.bool w,i6 0]),fn 75 (i6 0),fn 83 (.bool true),fn 91 (.bool w),no 94,nu 100 ((i+1:Nat):Int)],1000,by omega,by omega,?_⟩
    clear h0 jv hS
    exact v_ (p:=let z4:=Bn [TT 2,Tt,TT 2];let z0:=V.agg [V.im jj.length (Ab jj),V.im cs.length (List.map sl cs)];let z1:=V.agg [V.im L.length (Ab L),V.im P.length (ut P)];let z2:=(↑(i+1):Int);let z3:=(i:Int);Bn [decide (z3<5)=true,C3 (Qac Pg) 60 (l5V x0 x1 x2 x3 x4 y0 y1 y2 y3 y4) z3=some (lV L P),z4,Ac Pg g0 18 [z0,i6 k,z1] (V.tup [V.bool w,i6 0]),Tt,Bn [TT 2,Tt],Ac Pg g0 10 [z0,i6 k] (i6 0),Tt,Bn [TT 2,Tt],Ac Pg g0 12 [z1,i6 jj.length] (V.bool true),Tt,z4,Ac Pg g0 13 [z0,i6 k,z1] (V.bool w),Tt,(!w==w)=false,wr .i64 (z3+1)=z2,Bn [Sm (k:Int),Zz,Zz,Zz,Zz,Zz,Bn [An [Sm c0.length,Sm (Ab c0)],An [Sm s0.length,Sm (List.map sl s0)],An [Sm c1.length,Sm (Ab c1)],An [Sm s1.length,Sm (List.map sl s1)]],Sm (j:Int),Bn [An [Sm x0.length,Sm (Ab x0)],An [Sm y0.length,Sm (ut y0)],An [Sm x1.length,Sm (Ab x1)],An [Sm y1.length,Sm (ut y1)],An [Sm x2.length,Sm (Ab x2)],An [Sm y2.length,Sm (ut y2)],An [Sm x3.length,Sm (Ab x3)],An [Sm y3.length,Sm (ut y3)],An [Sm x4.length,Sm (Ab x4)],An [Sm y4.length,Sm (ut y4)]],z2=z2],An [Sm (drL N la pa),TT 65],An [Sm [w8 b,w8 a,i6 M],TT 3],An [Sm [sl rL,ul rP],TT 2],Bn [An [Sm sL.length,Sm (Ab sL)],An [Sm sP.length,Sm (ut sP)]],An [Sm [sl jj,gC cs],TT 2]])
  ·have hri := Qtb jj cs lim L P o_ o_ _ rfl h0
   generalize B8 jj cs lim=e at*
   have hne:((e:Int)==0)=false:=by rw[beq_eq_false_iff_ne];exact h0
   refine .inl ⟨i+1,[0,1,2,3,4],[yes 64,va 65 (lV L P),fn 70 (.tup [.bool false,i6 e]),fn 75 (i6 e),no 77,no 87,no 98,nu 100 ((i+1:Nat):Int)],1000,by omega,by omega,?_⟩
   clear hS
   exact v_ (p:=let z0:=V.agg [V.im jj.length (Ab jj),V.im cs.length (List.map sl cs)];let z1:=(↑(i+1):Int);let z2:=(i:Int);Bn [decide (z2<5)=true,C3 (Qac Pg) 60 (l5V x0 x1 x2 x3 x4 y0 y1 y2 y3 y4) z2=some (lV L P),Bn [TT 2,Tt,TT 2],Ac Pg g0 18 [z0,i6 lim,V.agg [V.im L.length (Ab L),V.im P.length (ut P)]] (V.tup [V.bool false,i6 e]),Tt,Bn [TT 2,Tt],Ac Pg g0 10 [z0,i6 lim] (i6 e),Tt,(e==0)=false,(e==0)=false,(e != e)=false,wr .i64 (z2+1)=z1,Bn [lim=lim,Zz,Zz,Zz,Zz,Zz,Bn [An [Sm c0.length,Sm (Ab c0)],An [Sm s0.length,Sm (List.map sl s0)],An [Sm c1.length,Sm (Ab c1)],An [Sm s1.length,Sm (List.map sl s1)]],Sm (j:Int),Bn [An [Sm x0.length,Sm (Ab x0)],An [Sm y0.length,Sm (ut y0)],An [Sm x1.length,Sm (Ab x1)],An [Sm y1.length,Sm (ut y1)],An [Sm x2.length,Sm (Ab x2)],An [Sm y2.length,Sm (ut y2)],An [Sm x3.length,Sm (Ab x3)],An [Sm y3.length,Sm (ut y3)],An [Sm x4.length,Sm (Ab x4)],An [Sm y4.length,Sm (ut y4)]],z1=z1],An [Sm (drL N la pa),TT 65],An [Sm [w8 b,w8 a,i6 M],TT 3],An [Sm [sl rL,ul rP],TT 2],Bn [An [Sm sL.length,Sm (Ab sL)],An [Sm sP.length,Sm (ut sP)]],An [Sm [sl jj,gC cs],TT 2]])
 ·have : i = 5 := by omega
  subst this
  refine .inr ⟨.exit 2,[0,1,2,3],srS lim N la pa b a M rL rP sL sP c0 s0 c1 s1 j,[],1000,.inl ⟨trivial,rfl,rfl⟩,?_⟩
  exact v_ (p:=Bn [Bn [lim=lim,Zz,Zz,Zz,Zz,Bn [An [Sm c0.length,Sm (Ab c0)],An [Sm s0.length,Sm (List.map sl s0)],An [Sm c1.length,Sm (Ab c1)],An [Sm s1.length,Sm (List.map sl s1)]],Sm (j:Int)],An [Sm (drL N la pa),TT 65],An [Sm [w8 b,w8 a,i6 M],TT 3],An [Sm [sl rL,ul rP],TT 2],Bn [An [Sm sL.length,Sm (Ab sL)],An [Sm sP.length,Sm (ut sP)]]])
theorem sr_out(lim:Int)(N:Nat)(la pa:Nat->Nat)(b a M:Int)(rL:List Int)(rP:List Nat)(sL:List Int)(sP:List Nat)(c0:List Int)(s0:List (List Int))(c1:List Int)(s1:List (List Int))(h0:DatOk c0 s0)(h1:DatOk c1 s1)(hla: ∀k,la k<256)(hpa: ∀k,pa k<256)(hb:0<=b/\b<=255)(ha:0<=a/\a<=255)(hrP:S64 rP)(hr1:rL.length<=9223372036854775807)(hr2:rP.length<=9223372036854775807)(hsP:S64 sP)(hs1:sL.length<=32)(hs2:sP.length<=32):
  Sat Pg none 0 (at' 4 [1,1,1,0,1,0]) (Ah g0 103 (srS lim N la pa b a M rL rP sL sP c0 s0 c1 s1 0)) (Qaf g0 103 [(True,.exit 0,{sl:=[]})]):=by
 have hd:=Qey N la pa
 have hr:=Qas rP
 have hs:=Qas sP
 have q0:=Qap s0
 have q1:=Qap s1
 have w1:=few_fn rL rP hr1 hr2
 have w2:=few_fn sL sP o_ o_
 have f1:S64 (rP.take 33):=fun x hx=>hrP x (List.mem_of_mem_take hx)
 have e1:sL.take 33=sL:=List.take_of_length_le o_
 have e2:sP.take 33=sP:=List.take_of_length_le o_
 rw[e1,e2]at w2
 have k55:[V.agg [sl sL,ul sP]]=[V.agg [sl rL,ul rP]]->lV sL sP=lV (rL.take 33) (rP.take 33):=fun hh=>by
  have hh:=(List.cons.inj hh).1
  injection hh with hh
  have ha:=List.cons.inj hh
  have hb:=(List.cons.inj ha.2).1
  have i1:=sl_inj9 ha.1
  have i2:=ul_inj9 hb
  subst i1 i2
  rw[e1,e2]
 clear e1 e2
 generalize rL.take 33=fL at*
 generalize rP.take 33=fP at*
 obtain⟨bL,bP,g1,g2,g3,w3⟩:=bend29 b a M sL sP hb ha hsP o_ o_
 have v1:=Qas fP
 have v2:=Qas bP
 refine Qax vE_ok Af Qaa (b:=at' 4 [1,1,1,0,1,0,0]) k_ (fun j=>j<=2) (srS lim N la pa b a M rL rP sL sP c0 s0 c1 s1) (fun j=>2-j) (fun j hj=>?_) 0 d_
 by_cases hlt:j<2
 ·obtain ⟨c, s, hcs, hidx⟩ := idx118 c0 s0 c1 s1 hlt
  have hdd:DatOk c s:=by
   rcases hcs with⟨rfl,rfl⟩|⟨rfl,rfl⟩<;>assumption
  obtain⟨d1,d2,d3⟩:=hdd
  obtain⟨n,hn⟩: ∃n,n=max 1 (min c.length 5):=⟨_,rfl⟩
  have n1:1<=n:=by omega
  have n5:n<=5:=by omega
  have l1:=Qk3 N la pa n n1 n5 hla hpa
  have hm1:1<=n%5+1:=by omega
  have hm5:n%5+1<=5:=by have:=Nat.mod_lt n (show 0<5 by decide);omega
  have l2:=Qk3 N la pa (n%5+1) hm1 hm5 hla hpa
  have z0:=dl_S64 (n:=n) la pa n5
  have z4:=dl_S64 (n:=n%5+1) la pa hm5
  have hrem:Ai (Qac Pg) .rem 3 (i6 (n:Nat)) (i6 5)=some (i6 ((n%5:Nat):Int)):=by
   rw[Db d_,show(5:Int)=((5:Nat):Int)from rfl,Qd2]
  have hmin:((min c.length 5:Nat):Int)=min (c.length:Int) 5:=by omega
  have k53: ∀(A B:V),[A,i6 (n:Nat)]=[B,i6 ((n%5+1:Nat):Int)]->lV (mkL (dlA n la (2^n)) n) (mkP (dlB n la pa (2^n)) n)=lV (mkL (dlA (n%5+1) la (2^(n%5+1))) (n%5+1)) (mkP (dlB (n%5+1) la pa (2^(n%5+1))) (n%5+1)):=fun A B hh=>by
   have hh:=(List.cons.inj (List.cons.inj hh).2).1
   injection hh with _ hh
   have hh:n=n%5+1:=by omega
   rw[<-hh]
  generalize hmn:min c.length 5=mn at*
  generalize mkL (dlA n la (2^n)) n=L0 at*
  generalize mkP (dlB n la pa (2^n)) n=P0 at*
  generalize mkL (dlA (n%5+1) la (2^(n%5+1))) (n%5+1)=L4 at*
  generalize mkP (dlB (n%5+1) la pa (2^(n%5+1))) (n%5+1)=P4 at*
  have l:=sr_in lim N la pa b a M rL rP sL sP c0 s0 c1 s1 j c s d1 d2 d3 L0 sL bL fL L4 P0 sP bP fP P4 z0 hsP g1 f1 z4
  have v3:=Qas P0
  have v4:=Qas P4
  have hg:=Qap s
  have hc:=Qag c
  generalize n%5=m at*
  refine .inl ⟨j+1,[0,1,2,3],[yes 39,va 40 (gV c s),nu 44 (mn:Nat),nu 45 (n:Nat),fn 48 (lV L0 P0),fn 50 (lV sL sP),fn 53 (lV sL sP),fn 54 (lV bL bP),fn 56 (lV fL fP),va 59 (i6 (m:Nat)),nu 60 ((m+1:Nat):Int),fn 61 (lV L4 P4),(0,.loop [0,1,2,3,4] (srI lim N la pa b a M rL rP sL sP c0 s0 c1 s1 j c s (l5V L0 sL bL fL L4 P0 sP bP fP P4) 0) [(True,.exit 2,srS lim N la pa b a M rL rP sL sP c0 s0 c1 s1 j)]),nu 101 ((j+1:Nat):Int)],1000,by omega,by omega,?_⟩
  clear z0 z4 hla hpa hrP hsP f1 g1 g2 g3
  refine m_ (p:=let x4:=An [Sm c0.length,Sm (Ab c0)];let x5:=An [Sm c1.length,Sm (Ab c1)];let x6:=An [Sm sL.length,Sm (Ab sL)];let x7:=An [Sm sP.length,Sm (ut sP)];let x8:=Bn [TT 2];let x3:=Bn [x6,x7];let z2:=[V.agg [sl sL,ul sP]];let z3:=[w8 b,w8 a,i6 M];let z4:=lV sL sP;let z5:=V.agg [V.im sL.length (Ab sL),V.im sP.length (ut sP)];let z6:=[sl rL,ul rP];let y0:=lV L0 P0;let y1:=lV bL bP;let y2:=lV fL fP;let y3:=lV L4 P4;let y4:=(j:Int);let y5:=drL N la pa;let y6:=List.map sl s0;let y7:=List.map sl s1;let y9:=(↑(j+1):Int);let x0:=(mn:Int);let x1:=(1:Int);let x2:=[sl c,gC s];let z0:=pt (pt (Ae T.e 0 (srO N la pa b a M rL rP sL sP)) 4 (O.row 31 none [V.nils,V.nils])) 4 (O.row 31 none x2);let z1:=V.agg y5;let z9:=[V.agg z3,z4];let y8:=[V.agg z6];let z7:=[z1,i6 ↑(m+1)];let z8:=[z1,i6 n];Bn [decide (y4<2)=true,C3 (Qac Pg) 57 (d2V c0 s0 c1 s1) y4=some (gV c s),(if(5:Int)<(c.length:Int)then(5:Int)else(c.length:Int))=x0,(if x0>x1 then x0 else x1)=(n:Int),Bn [TT 65,Tt],Ac Pg g0 15 z8 y0,Tt,x8,Ac Pg g0 16 [z5] z4,Bn [(V.fn 15 []=V.fn 16 []→z8=z2→z0=z0→4+1=5→CR.mk y0 z0 5 []=CR.mk z4 z0 5 [])],x8,Ac Pg g0 16 [z5] z4,Bn [(V.fn 16 []=V.fn 16 []→z2=z2→z0=z0→4+1=5→Sm (CR.mk z4 z0 5 [])),(V.fn 15 []=V.fn 16 []→z8=z2→z0=z0→4+1=5→CR.mk y0 z0 5 []=CR.mk z4 z0 5 [])],Bn [TT 3,TT 2],Ac Pg g0 17 [V.agg z3,z5] y1,Bn [(V.fn 16 []=V.fn 17 []→z2=z9→z0=z0→4+1=5→CR.mk z4 z0 5 []=CR.mk y1 z0 5 []),(V.fn 16 []=V.fn 17 []→z2=z9→z0=z0→4+1=5→CR.mk z4 z0 5 []=CR.mk y1 z0 5 []),(V.fn 15 []=V.fn 17 []→z8=z9→z0=z0→4+1=5→CR.mk y0 z0 5 []=CR.mk y1 z0 5 [])],x8,Ac Pg g0 16 [V.agg [V.im rL.length (Ab rL),V.im rP.length (ut rP)]] y2,Bn [(V.fn 17 []=V.fn 16 []→z9=y8→z0=z0→4+1=5→CR.mk y1 z0 5 []=CR.mk y2 z0 5 []),(V.fn 16 []=V.fn 16 []→z2=y8→z0=z0→4+1=5→CR.mk z4 z0 5 []=CR.mk y2 z0 5 []),(V.fn 16 []=V.fn 16 []→z2=y8→z0=z0→4+1=5→CR.mk z4 z0 5 []=CR.mk y2 z0 5 []),(V.fn 15 []=V.fn 16 []→z8=y8→z0=z0→4+1=5→CR.mk y0 z0 5 []=CR.mk y2 z0 5 [])],Ai (Qac Pg) .rem 3 (i6 n) (i6 5)=some (i6 m),wr .i64 (x1+(m:Int))=(↑(m+1):Int),Bn [TT 65,Tt],Ac Pg g0 15 z7 y3,Bn [(V.fn 16 []=V.fn 15 []→y8=z7→z0=z0→4+1=5→CR.mk y2 z0 5 []=CR.mk y3 z0 5 []),(V.fn 17 []=V.fn 15 []→z9=z7→z0=z0→4+1=5→CR.mk y1 z0 5 []=CR.mk y3 z0 5 []),(V.fn 16 []=V.fn 15 []→z2=z7→z0=z0→4+1=5→CR.mk z4 z0 5 []=CR.mk y3 z0 5 []),(V.fn 16 []=V.fn 15 []→z2=z7→z0=z0→4+1=5→CR.mk z4 z0 5 []=CR.mk y3 z0 5 []),(V.fn 15 []=V.fn 15 []→z8=z7→z0=z0→4+1=5→CR.mk y0 z0 5 []=CR.mk y3 z0 5 [])],Bn [Bn [lim=lim,Zz,Zz,Zz,Zz,Zz,Bn [x4,An [Sm s0.length,y6=y6],x5,An [Sm s1.length,y7=y7]],y4=y4,Bn [An [Sm L0.length,Sm (Ab L0)],An [Sm P0.length,Sm (ut P0)],x6,x7,An [Sm bL.length,Sm (Ab bL)],An [Sm bP.length,Sm (ut bP)],An [Sm fL.length,Sm (Ab fL)],An [Sm fP.length,Sm (ut fP)],An [Sm L4.length,Sm (Ab L4)],An [Sm P4.length,Sm (ut P4)]],((0:Nat):Int)=(0:Int)],An [y5=y5,TT 65],An [z3=z3,TT 3],An [z6=z6,TT 2],x3,An [x2=x2,TT 2]],Sat Pg none 0 (at' 4 [1,1,1,0,1,0,0,1,1,0,0,1,1,1,0]) (Ah g0 103 (srI lim N la pa b a M rL rP sL sP c0 s0 c1 s1 j c s (l5V L0 sL bL fL L4 P0 sP bP fP P4) 0)) (Qaf g0 103 [(True,Ex.exit 2,srS lim N la pa b a M rL rP sL sP c0 s0 c1 s1 j)]),(True→Bn [wr .i64 (y4+x1)=y9,Bn [lim=lim,Zz,Zz,Zz,Zz,Bn [x4,An [Sm s0.length,y6=y6],x5,An [Sm s1.length,y7=y7]],y9=y9],An [y5=y5,TT 65],An [z3=z3,TT 3],An [z6=z6,TT 2],x3])]) ?_
  (repeat'(first|(with_reducible apply And.intro)|(refine fun(_:True)=>?_)))
  all_goals first|exact l|exact l1|exact l2|exact w1|exact w2|exact w3|(with_reducible exact hidx)|(with_reducible exact hrem)|exact hd|exact hr|exact hs|exact q0|exact q1|exact v1|exact v2|exact v3|exact v4|exact hg|exact hc|exact aq|omega|exact fun _ h _ _=>by rw[k55 h]|exact fun _ h _ _=>by rw[k53 _ _ h]|rfl|skip
 ·have : j = 2 := by omega
  subst this
  refine .inr ⟨.exit 0,[],{sl:=[]},[],1000,.inl ⟨trivial,rfl,rfl⟩,?_⟩
  exact v_ (p:=Bn [Tt])
theorem Qmt(C:List Int)(ks:List (Nat->Int))(fo:Int)(M:List Int)(b a K lim:Int)(N:Nat)(la pa:Nat->Nat)(b2 a2 K2:Int)(rL:List Int)(rP:List Nat)(h:DrOk C ks fo M)(hb:0<=b/\b<=255)(ha:0<=a/\a<=255)(hla: ∀k,la k<256)(hpa: ∀k,pa k<256)(hb2:0<=b2/\b2<=255)(ha2:0<=a2/\a2<=255)(hrP:S64 rP)(hr1:rL.length<=9223372036854775807)(hr2:rP.length<=9223372036854775807):Ac Pg g0 4 [dfV C ks fo M,beV b a K,i6 lim,drW N la pa,.agg [w8 b2,w8 a2,i6 K2],lV rL rP] (.bool true):=by
 have hw:=works29
 have hwd:=Qm8 C ks fo M h
 have hc:=Qki C
 obtain⟨x1,x2⟩:=Qq3 C ks fo []
 obtain⟨cb,sb,hbf,b1,b3,b4⟩:=bend_fn b a K (A0 C) (B9 C ks fo []) hb ha hc.pos (by have:=hc.five;omega) x1 x2
 have hdat:DatOk (A0 C) (B9 C ks fo []):=⟨by have:=hc.five;omega,by omega,fun c hc'=>by rw[x1 c hc'];have:=hc.five;omega⟩
 have hd:=Qey N la pa
 have hr:=Qas rP
 have l:=fun sL sP=>sr_out lim N la pa b2 a2 K2 rL rP sL sP (A0 C) (B9 C ks fo []) cb sb hdat ⟨b1,b3,b4⟩ hla hpa hb2 ha2 hrP hr1 hr2
 have hq:=hdat.c6
 have hdl:=x2
 by_cases h0:B8 (A0 C) (B9 C ks fo []) lim=0
 ·obtain ⟨k, rfl⟩ : ∃ k : Nat, lim = k := ⟨lim.toNat, by have := (Qb8 h0).2.2.2.1; omega⟩
  obtain⟨hg0,hn1,hn5,_,_,hl2,hcl⟩:=Qb8 h0
  have hF:=Qme hg0 hl2
  have hsol:Ac Pg g0 9 [gV (A0 C) (B9 C ks fo []),i6 (k:Int)] (.tup [lV (solL (A0 C).length k (fF (A0 C) (B9 C ks fo []))) (solP (A0 C).length k (fF (A0 C) (B9 C ks fo []))),i6 0]):=by
   have:=Gw _ _ k h0
   rwa [mk_V]at this
  have hS:=sol_S64 (lim:=k) hF hn5
  have h32:=Qa1 hn5
  have s1:(solL (A0 C).length k (fF (A0 C) (B9 C ks fo []))).length<=32:=by simp[solL,mkL];exact h32
  have s2:(solP (A0 C).length k (fF (A0 C) (B9 C ks fo []))).length<=32:=by simp[solP,mkP];exact h32
  have l:=l _ _ hS s1 s2
  generalize solL (A0 C).length k (fF (A0 C) (B9 C ks fo []))=sL at*
  generalize solP (A0 C).length k (fF (A0 C) (B9 C ks fo []))=sP at*
  have hs:=Qas sP
  generalize A0 C=jj at*
  generalize B9 C ks fo []=t0 at*
  have q0:=Qap t0
  have q1:=Qap sb
  clear h0 hg0 hF
  refine Ac.of_vc vE_ok Af Qaa (n:=1000) (r:=[]) (S:={sl:=[(12,.bool true)]}) (hs:=[fn 26 (gV jj t0),fn 30 (.tup [lV sL sP,i6 0]),fn 36 (gV cb sb),(0,.loop [2,3,4,6] (srS (k:Int) N la pa b2 a2 K2 rL rP sL sP jj t0 cb sb 0) [(True,.exit 0,{sl:=[]})]),fn 102 (.bool true)]) ?_
  exact v_ (p:=let z1:=List.map sl t0;let z2:=V.bool true;let z3:=(k:Int);let z0:=V.agg [V.im jj.length (Ab jj),V.im t0.length z1];Bn [z2=z2,Bn [TT 4],Ac Pg g0 5 [V.agg [V.im C.length (List.map w8 C),V.im ks.length (Qda ks),w8 fo,V.im M.length (List.map w8 M)]] (gV jj t0),Tt,Bn [TT 2,Tt],Ac Pg g0 9 [z0,i6 k] (V.tup [lV sL sP,i6 0]),Tt,Bn [TT 3,TT 2],Ac Pg g0 7 [V.agg [w8 b,w8 a,i6 K],z0] (gV cb sb),Tt,Bn [Bn [z3=z3,Zz,Zz,Zz,Zz,Bn [An [Sm jj.length,Sm (Ab jj)],An [Sm t0.length,z1=z1],An [Sm cb.length,Sm (Ab cb)],An [Sm sb.length,Sm (List.map sl sb)]],((0:Nat):Int)=(0:Int)],An [drL N la pa=w8 ↑N::(r8F la 32++r8F pa 32),TT 65],An [Sm [w8 b2,w8 a2,i6 K2],TT 3],An [Sm [sl rL,ul rP],TT 2],Bn [An [Sm sL.length,Sm (Ab sL)],An [Sm sP.length,Sm (ut sP)]]],Sat Pg none 0 (at' 4 [1,1,1,0,1,0]) (Ah g0 103 (srS z3 N la pa b2 a2 K2 rL rP sL sP jj t0 cb sb 0)) (Qaf g0 103 [(True,Ex.exit 0,SL.mk [] [] [] [])]),(True->Bn [Tt,Ac Pg g0 14 [] z2,Tt,Bn [Sm true]])])
 ·have hsol := Qtn (A0 C) (B9 C ks fo []) lim o_ o_ _ rfl h0
  have l:=l [] [] (fun x hx=>by cases hx) d_ d_
  generalize B8 (A0 C) (B9 C ks fo []) lim=e at*
  generalize A0 C=jj at*
  generalize B9 C ks fo []=t0 at*
  have q0:=Qap t0
  have q1:=Qap sb
  refine Ac.of_vc vE_ok Af Qaa (n:=1000) (r:=[]) (S:={sl:=[(12,.bool true)]}) (hs:=[fn 26 (gV jj t0),fn 30 (.tup [.agg [.nils,.nils],i6 e]),fn 36 (gV cb sb),(0,.loop [2,3,4,6] (srS lim N la pa b2 a2 K2 rL rP [] [] jj t0 cb sb 0) [(True,.exit 0,{sl:=[]})]),fn 102 (.bool true)]) ?_
  exact v_ (p:=let z1:=List.map sl t0;let z2:=V.bool true;let z0:=V.agg [V.im jj.length (Ab jj),V.im t0.length z1];Bn [z2=z2,Bn [TT 4],Ac Pg g0 5 [V.agg [V.im C.length (List.map w8 C),V.im ks.length (Qda ks),w8 fo,V.im M.length (List.map w8 M)]] (gV jj t0),Tt,Bn [TT 2,Tt],Ac Pg g0 9 [z0,i6 lim] (V.tup [V.agg [V.nils,V.nils],i6 e]),Tt,Bn [TT 3,TT 2],Ac Pg g0 7 [V.agg [w8 b,w8 a,i6 K],z0] (gV cb sb),Tt,Bn [Bn [lim=lim,Zz,Zz,Zz,Zz,Bn [An [Sm jj.length,Sm (Ab jj)],An [Sm t0.length,z1=z1],An [Sm cb.length,Sm (Ab cb)],An [Sm sb.length,Sm (List.map sl sb)]],((0:Nat):Int)=(0:Int)],An [drL N la pa=w8 ↑N::(r8F la 32++r8F pa 32),TT 65],An [Sm [w8 b2,w8 a2,i6 K2],TT 3],An [Sm [sl rL,ul rP],TT 2],Bn [Zz,Zz]],Sat Pg none 0 (at' 4 [1,1,1,0,1,0]) (Ah g0 103 (srS lim N la pa b2 a2 K2 rL rP [] [] jj t0 cb sb 0)) (Qaf g0 103 [(True,Ex.exit 0,SL.mk [] [] [] [])]),(True->Bn [Tt,Ac Pg g0 14 [] z2,Tt,Bn [Sm true]])])
open Go.RowKit Go.ChangeShapes Go.WideShapes
set_option maxRecDepth 100000
theorem wf64{n:Int}(h:(Lit.int .u64 n).wf=true):0<=n/\n<=18446744073709551615:=by
 simp only[Lit.wf,Bool.and_eq_true,decide_eq_true_eq]at h
 exact h
section
variable {H:Type} {enc:TypeId×Value->H} {w:World}
end
open Go.RowKit Go.ChangeShapes Go.WideShapes
set_option maxRecDepth 100000
section
variable {H:Type} {enc:TypeId×Value->H} {w:World}
theorem r8F_of{ns:List Int}{n:Nat}(hl:ns.length=n)(h: ∀x∈ns,0<=x):r8F (fun k=>(ns.getD k 0).toNat) n=ns.map (V.int .u8):=by
 refine List.ext_getElem? fun i=>?_
 by_cases hi:i<n
 ·rw [Qs3 _ hi, List.getElem?_map, List.getElem?_eq_getElem o_]
  have hx:=h (ns[i]' o_) (List.getElem_mem _)
  simp only[Option.map_some]
  rw[List.getD_eq_getElem?_getD,List.getElem?_eq_getElem o_]
  simp only[Option.getD_some]
  rw[Int.toNat_of_nonneg hx]
 ·rw[List.getElem?_eq_none (by rw[Qjq];omega),List.getElem?_eq_none (by simp;omega)]
theorem arg_dr29{v:Value}{d:DataW H}{p:List MemPlace}(hv: ∃cs,v= .agg cs/\cs.size=Pg.cellsOf 55)(h:DataW.Trod enc Pg w 0 (fun _=>true) true 55 v d p):
  ∃(N:Nat)(a b:Nat->Nat),RV (sg (Ee w)) w (drW N a b) v/\N<256/\(∀k,a k<256)/\(∀k,b k<256):=by
 obtain⟨arr,rfl,hsz⟩:=hv
 obtain⟨fuel,hf⟩:=h
 obtain⟨xs,n,_,_,hl,jy,hfd⟩:=DataW.trod_struct Tryd.underlying55 hf
 have hc:Pg.cellsOf 55=65:=by kernel_rfl
 rw[hc]at hl
 have xf:(Value.agg arr).cells.toList=arr.toList:=rfl
 rw[xf]at hl hfd
 have hlen':xs.length=3:=jy
 obtain⟨y0,y1,y2,rfl⟩: ∃y0 y1 y2,xs=[y0,y1,y2]:=by
  match xs,hlen' with
  |[y0,y1,y2],_=>exact⟨y0,y1,y2,rfl⟩
 have h5:Pg.cellsOf 5=1:=by kernel_rfl
 have h99:Pg.cellsOf 53=32:=by kernel_rfl
 have f0:DataW.trod enc Pg w 0 (fun _=>true) true n 5 (List.take (Pg.cellsOf 5) (List.drop 0 arr.toList))=some y0:=hfd 0 _ rfl
 have f1:DataW.trod enc Pg w 0 (fun _=>true) true n 53 (List.take (Pg.cellsOf 53) (List.drop 1 arr.toList))=some y1:=hfd 1 _ rfl
 have f2:DataW.trod enc Pg w 0 (fun _=>true) true n 53 (List.take (Pg.cellsOf 53) (List.drop 33 arr.toList))=some y2:=hfd 2 _ rfl
 rw[h5]at f0
 rw[h99]at f1 f2
 obtain⟨k0,e0,w0⟩:=Qfj Tryd.underlying5 (x:=y0) f0
 obtain⟨na,a1,a2,_,a4⟩:=Qfl Tryd.underlying53 Tryd.underlying5 h5 h99 (x:=y1) f1
 obtain⟨nb,b1,b2,_,b4⟩:=Qfl Tryd.underlying53 Tryd.underlying5 h5 h99 (x:=y2) f2
 have hk:=wf8 w0
 have jf:arr.toList=(k0::(na++nb)).map (Value.int .u8):=by
  generalize arr.toList=l at*
  have g0:l=List.take 1 l++(List.take 32 (List.drop 1 l)++List.take 32 (List.drop 33 l)):=by
   have e1:List.drop 33 l=List.drop 32 (List.drop 1 l):=by rw[List.drop_drop]
   have e2:List.take 32 (List.drop 33 l)=List.drop 33 l:=List.take_of_length_le (by rw[List.length_drop];omega)
   rw[e2,e1,List.take_append_drop,List.take_append_drop]
  rw[List.drop_zero]at e0
  rw[g0,e0,a2,b2]
  simp
 have hna: ∀x∈na,0<=x/\x<=255:=fun x hx=>wf8 (a4 x hx)
 have hnb: ∀x∈nb,0<=x/\x<=255:=fun x hx=>wf8 (b4 x hx)
 have bd: ∀(l:List Int),(∀x∈l,0<=x/\x<=255)->∀k,(l.getD k 0).toNat<256:=fun l hl k=>by
  by_cases hk:k<l.length
  ·rw [List.getD_eq_getElem?_getD, List.getElem?_eq_getElem hk]
   have:=hl _ (List.getElem_mem hk)
   simp only[Option.getD_some];omega
  ·rw[List.getD_eq_getElem?_getD,List.getElem?_eq_none o_];decide
 refine⟨k0.toNat,fun k=>(na.getD k 0).toNat,fun k=>(nb.getD k 0).toNat,⟨arr,rfl,?_⟩,by omega,bd na hna,bd nb hnb⟩
 rw[jf]
 have e:drL k0.toNat (fun k=>(na.getD k 0).toNat) (fun k=>(nb.getD k 0).toNat)=(k0::(na++nb)).map (V.int .u8):=by
  unfold drL
  rw[r8F_of a1 fun x hx=>(hna x hx).1,r8F_of b1 fun x hx=>(hnb x hx).1,Int.toNat_of_nonneg hk.1]
  simp
 rw[e]
 exact RL_map _
theorem Qo9{fuel:Nat}{cs:List Value}{x:DataW H×List MemPlace}(h:DataW.trod enc Pg w 0 (fun _=>true) true fuel 56 cs=some x): ∃(b a N:Int),cs=[.int .u8 b,.int .u8 a,.int .i64 N]/\(0<=b/\b<=255)/\(0<=a/\a<=255):=by
 obtain⟨xs,n,_,_,hl,jy,hfd⟩:=DataW.trod_struct Tryd.underlying56 h
 have hc:Pg.cellsOf 56=3:=by kernel_rfl
 rw[hc]at hl
 obtain⟨c0,c1,c2,rfl⟩: ∃c0 c1 c2,cs=[c0,c1,c2]:=by
  match cs,hl with
  |[c0,c1,c2],_=>exact⟨c0,c1,c2,rfl⟩
 have hlen':xs.length=3:=jy
 obtain⟨y0,y1,y2,rfl⟩: ∃y0 y1 y2,xs=[y0,y1,y2]:=by
  match xs,hlen' with
  |[y0,y1,y2],_=>exact⟨y0,y1,y2,rfl⟩
 have h1c: ∀t,t=3\/t=5->Pg.cellsOf t=1:=by
  rintro t (rfl|rfl)<;>kernel_rfl
 have f0:DataW.trod enc Pg w 0 (fun _=>true) true n 5 (List.take (Pg.cellsOf 5) (List.drop 0 [c0,c1,c2]))=some y0:=hfd 0 _ rfl
 have f1:DataW.trod enc Pg w 0 (fun _=>true) true n 5 (List.take (Pg.cellsOf 5) (List.drop 1 [c0,c1,c2]))=some y1:=hfd 1 _ rfl
 have f2:DataW.trod enc Pg w 0 (fun _=>true) true n 3 (List.take (Pg.cellsOf 3) (List.drop 2 [c0,c1,c2]))=some y2:=hfd 2 _ rfl
 rw[h1c 5 (.inr rfl)]at f0 f1
 rw[h1c 3 (.inl rfl)]at f2
 obtain⟨k0,e0,w0⟩:=Qfj Tryd.underlying5 (x:=y0) f0
 obtain⟨k1,e1,w1⟩:=Qfj Tryd.underlying5 (x:=y1) f1
 obtain⟨k2,e2,w2⟩:=Qfj Tryd.underlying3 (x:=y2) f2
 simp at e0 e1 e2
 subst e0 e1 e2
 exact⟨k0,k1,k2,rfl,wf8 w0,wf8 w1⟩
theorem arg_be29{v:Value}{d:DataW H}{p:List MemPlace}(hv: ∃cs,v= .agg cs/\cs.size=Pg.cellsOf 56)(h:DataW.Trod enc Pg w 0 (fun _=>true) true 56 v d p):
  ∃(b a N:Int),RV (sg (Ee w)) w (.agg [w8 b,w8 a,i6 N]) v/\(0<=b/\b<=255)/\(0<=a/\a<=255):=by
 obtain⟨arr,rfl,hsz⟩:=hv
 obtain⟨fuel,hf⟩:=h
 obtain⟨b,a,N,e,h1,h2⟩:=Qo9 hf
 have e':arr.toList=[.int .u8 b,.int .u8 a,.int .i64 N]:=e
 refine⟨b,a,N,⟨arr,rfl,?_⟩,h1,h2⟩
 rw[e']
 exact⟨_,_,rfl,rfl,_,_,rfl,rfl,_,_,rfl,rfl,rfl⟩
theorem Gi{L:List Int}(h: ∀n∈L,(Lit.int .u64 n).wf=true):ut (L.map Int.toNat)=L.map (V.int .u64)/\S64 (L.map Int.toNat):=by
 constructor
 ·unfold ut
  rw[List.map_map]
  refine List.map_congr_left fun n hn=>?_
  have:=wf64 (h n hn)
  simp only[Function.comp]
  rw[Int.toNat_of_nonneg this.1]
 ·intro x hx
  obtain⟨n,hn,rfl⟩:=List.mem_map.1 hx
  have:=wf64 (h n hn)
  omega
theorem arg_lad{v:Value}{d:DataW H}{p:List MemPlace}(hv: ∃cs,v= .agg cs/\cs.size=Pg.cellsOf 43)(h:DataW.Trod enc Pg w 0 (fun _=>true) true 43 v d p):
  ∃(L:List Int)(P:List Nat),RV (sg (Ee w)) w (lV L P) v/\S64 P/\L.length<=9223372036854775807/\P.length<=9223372036854775807:=by
 obtain⟨arr,rfl,hsz⟩:=hv
 obtain⟨fuel,hf⟩:=h
 obtain⟨xs,n,_,_,hl,jy,hfd⟩:=DataW.trod_struct Tryd.underlying43 hf
 have hc:Pg.cellsOf 43=2:=by kernel_rfl
 rw[hc]at hl
 have xf:(Value.agg arr).cells.toList=arr.toList:=rfl
 rw[xf]at hl hfd
 obtain⟨c0,c1,kg⟩: ∃c0 c1,arr.toList=[c0,c1]:=by
  match arr.toList,hl with
  |[c0,c1],_=>exact⟨c0,c1,rfl⟩
 have hlen':xs.length=2:=jy
 obtain⟨y0,y1,rfl⟩: ∃y0 y1,xs=[y0,y1]:=by
  match xs,hlen' with
  |[y0,y1],_=>exact⟨y0,y1,rfl⟩
 have h1c: ∀t,t=28\/t=41->Pg.cellsOf t=1:=by
  rintro t (rfl|rfl)<;>kernel_rfl
 have f0:DataW.trod enc Pg w 0 (fun _=>true) true n 28 (List.take (Pg.cellsOf 28) (List.drop 0 arr.toList))=some y0:=hfd 0 _ rfl
 have f1:DataW.trod enc Pg w 0 (fun _=>true) true n 41 (List.take (Pg.cellsOf 41) (List.drop 1 arr.toList))=some y1:=hfd 1 _ rfl
 rw[kg]at f0 f1
 rw[h1c 28 (.inl rfl)]at f0
 rw[h1c 41 (.inr rfl)]at f1
 obtain⟨v0,L,e0,r0,w0,l0⟩:=Qj2 Tryd.underlying28 Tryd.underlying3 k_ (x:=y0) f0
 obtain⟨v1,P,e1,r1,w1,l1⟩:=Qj2 Tryd.underlying41 Tryd.underlying72 k_ (x:=y1) f1
 simp at e0 e1
 subst e0 e1
 obtain⟨u1,u2⟩:=Gi w1
 refine⟨L,P.map Int.toNat,⟨arr,rfl,?_⟩,u2,l0,by rw[List.length_map];exact l1⟩
 rw[kg]
 refine⟨_,_,rfl,r0,_,_,rfl,?_,rfl⟩
 unfold ul
 rw[u1,List.length_map]
 exact r1
end
end Go.Proofs.YtakfneapahohkaaDoor.Am
