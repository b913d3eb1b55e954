/- Texts behind the claim, part 12: the abstract machine, and what the functions answer. No condition. -/
import Derived.Test.YtakfneapahohkaaDoorCTops11
set_option linter.unusedVariables false
set_option linter.unusedSimpArgs false
set_option linter.unusedSectionVars false
namespace Go.Proofs.YtakfneapahohkaaDoor.Am
open Go.RowKit
set_option maxHeartbeats 4000000
set_option maxRecDepth 100000
theorem Qjh{n lim:Nat}{F G:Nat->Nat->Nat->Int}{T:Nat->Nat->Int}{L:List Int}{P:List Nat}(h:LdOk L P n)(hT: ∀s,s<2^n->∀i,i<18->topB n lim F s i=T s i)(hG: ∀v,v<n->∀p,p<2^n->∀i,i<18->F v p i=G v p i):rgtB n lim F L P=(List.range (2^n)).all fun s=>decide (s=0)||(decide (popc (P.getD s 0)<=lim)&&eqA (addA (T (s-2^laL L s)) (G (laL L s) (paL P s)) 1) (T s)):=by
 have key: ∀s,s<2^n->(decide (s=0)||(decide (popc (P.getD s 0)<=lim)&&eqA (addA (topB n lim F (s-2^laL L s)) (F (laL L s) (paL P s)) 1) (topB n lim F s)))=(decide (s=0)||(decide (popc (P.getD s 0)<=lim)&&eqA (addA (T (s-2^laL L s)) (G (laL L s) (paL P s)) 1) (T s))):=fun s hs=>by
  by_cases h0:s=0
  ·rw[decide_eq_true h0];rfl
  ·obtain ⟨a1, a2, a3⟩ := h.ok.at_ s o_ hs
   have hp:paL P s<2^n:=by
    rw[<-a3];exact Nat.lt_of_le_of_lt Nat.and_le_right (by have:=Nat.sub_le s (2^laL L s);omega)
   congr 2
   apply Bool.eq_iff_iff.2
   rw[Qf6,Qf6]
   have ht:=Nat.sub_le s (2^laL L s)
   constructor
   ·intro hh i hi
    rw[Qew,<-hT _ o_ i hi,<-hG _ a1 _ hp i hi,<-hT _ hs i hi,<-hh i hi,Qew]
   ·intro hh i hi
    rw[Qew,hT _ o_ i hi,hG _ a1 _ hp i hi,hT _ hs i hi,<-hh i hi,Qew]
 unfold rgtB
 apply Bool.eq_iff_iff.2
 constructor
 ·intro h;exact Qam.2 fun s hs=>by rw[<-key s hs];exact Qam.1 h s hs
 ·intro h;exact Qam.2 fun s hs=>by rw[key s hs];exact Qam.1 h s hs
abbrev l1L:List Int:=[0,0,1,1]
abbrev l1P:List Nat:=[0,0,0,1]
abbrev l2L:List Int:=[0,0,1,0]
abbrev l2P:List Nat:=[0,0,0,2]
theorem Qpt{a b c d:Nat}(ha:a<100)(hb:b<100)(hc:c<100)(hd:d<100):S64 [a,b,c,d]:=fun x hx=>by
 simp at hx
 omega
theorem Qe0:srchE exC exD 0=0/\srchE exC exD 1=0/\srchE exC exD 5=2:=by decide+kernel
theorem l1_ok:LdOk l1L l1P 2:=Qi2 (L:=l1L) (P:=l1P) (by decide+kernel)
theorem l2_ok:LdOk l2L l2P 2:=Qi2 (L:=l2L) (P:=l2P) (by decide+kernel)
theorem r11:rgtB 2 1 (fF exC exD) l1L l1P=true:=by rw[Qjh l1_ok Ql3 Qkl];decide+kernel
theorem r12:rgtB 2 1 (fF exC exD) l2L l2P=false:=by rw[Qjh l2_ok Ql3 Qkl];decide+kernel
theorem r01:rgtB 2 0 (fF exC exD) l1L l1P=false:=by rw[Qjh l1_ok Qq7 Qkl];decide+kernel
theorem over_600:FnOk Pg g0 28 [i6 600] (ar (litF [-3,-1,-2])):=by
 have h:=of_one 600 d_ d_ (by decide+kernel)
 rw[show ar (ofF 600 18)=ar (litF [3,1,2])by kernel_rfl]at h
 refine FnOk.of_vc vE_ok mixed Qaa (n:=1000) (r:=[0]) (S:={sl:=[(2,.ptr 0 0)],os:=[.row 37 none (arF (litF [-3,-1,-2]))]}) (hs:=[fn 8 (.tup [ar (litF [3,1,2]),i6 0]),(0,.unroll 20)]) ?_
 refine m_ (p:=let z0:=[(-3:Int),(-1:Int),(-2:Int)];let z1:=[(3:Int),(1:Int),(2:Int)];let z2:=(0:Int);Bn [V.agg (arF (litF z0))=ar (litF z0),Bn [Tt],FnOk Pg g0 46 [i6 600] (V.tup [ar (litF z1),i6 0]),Tt,Bn [Zz],An [arF (litF z0)=[i6 (wr .i64 (z2-litF z1 0)),i6 (wr .i64 (z2-litF z1 1)),i6 (wr .i64 (z2-litF z1 2)),i6 (wr .i64 (z2-litF z1 3)),i6 (wr .i64 (z2-litF z1 4)),i6 (wr .i64 (z2-litF z1 5)),i6 (wr .i64 (z2-litF z1 6)),i6 (wr .i64 (z2-litF z1 7)),i6 (wr .i64 (z2-litF z1 8)),i6 (wr .i64 (z2-litF z1 9)),i6 (wr .i64 (z2-litF z1 10)),i6 (wr .i64 (z2-litF z1 11)),i6 (wr .i64 (z2-litF z1 12)),i6 (wr .i64 (z2-litF z1 13)),i6 (wr .i64 (z2-litF z1 14)),i6 (wr .i64 (z2-litF z1 15)),i6 (wr .i64 (z2-litF z1 16)),i6 (wr .i64 (z2-litF z1 17))],TT 18]]) ?_
 (repeat'(first|(with_reducible apply And.intro)|(refine fun(_:True)=>?_)))<;>first|exact aq|skip
 all_goals first|exact h|kernel_rfl
theorem over_480:FnOk Pg g0 28 [i6 480] (ar (litF [-5,-1,-1])):=by
 have h:=of_one 480 d_ d_ (by decide+kernel)
 rw[show ar (ofF 480 18)=ar (litF [5,1,1])by kernel_rfl]at h
 refine FnOk.of_vc vE_ok mixed Qaa (n:=1000) (r:=[0]) (S:={sl:=[(2,.ptr 0 0)],os:=[.row 37 none (arF (litF [-5,-1,-1]))]}) (hs:=[fn 8 (.tup [ar (litF [5,1,1]),i6 0]),(0,.unroll 20)]) ?_
 refine m_ (p:=let z0:=[(-5:Int),(-1:Int),(-1:Int)];let z1:=[(5:Int),(1:Int),(1:Int)];let z2:=(0:Int);Bn [V.agg (arF (litF z0))=ar (litF z0),Bn [Tt],FnOk Pg g0 46 [i6 480] (V.tup [ar (litF z1),i6 0]),Tt,Bn [Zz],An [arF (litF z0)=[i6 (wr .i64 (z2-litF z1 0)),i6 (wr .i64 (z2-litF z1 1)),i6 (wr .i64 (z2-litF z1 2)),i6 (wr .i64 (z2-litF z1 3)),i6 (wr .i64 (z2-litF z1 4)),i6 (wr .i64 (z2-litF z1 5)),i6 (wr .i64 (z2-litF z1 6)),i6 (wr .i64 (z2-litF z1 7)),i6 (wr .i64 (z2-litF z1 8)),i6 (wr .i64 (z2-litF z1 9)),i6 (wr .i64 (z2-litF z1 10)),i6 (wr .i64 (z2-litF z1 11)),i6 (wr .i64 (z2-litF z1 12)),i6 (wr .i64 (z2-litF z1 13)),i6 (wr .i64 (z2-litF z1 14)),i6 (wr .i64 (z2-litF z1 15)),i6 (wr .i64 (z2-litF z1 16)),i6 (wr .i64 (z2-litF z1 17))],TT 18]]) ?_
 (repeat'(first|(with_reducible apply And.intro)|(refine fun(_:True)=>?_)))<;>first|exact aq|skip
 all_goals first|exact h|kernel_rfl
theorem Qpe:FnOk Pg g0 26 [] (gV exC exD):=by
 refine FnOk.of_vc2 vE_ok mixed Qaa (n:=1000) (r1:=[0,6]) (S1:={sl:=[(0,.ptr 0 0)],os:=[.row 31 none [sl exC,.sl 1 0 4 (some 0)],.row 28 none [sl [0,0],sl [0,0],sl [1,1],sl [0,1]]],md:=[1,1]}) (r:=[0]) (S:={sl:=[(0,.ptr 0 0)],os:=[.row 31 none [sl exC,gC exD]],md:=[1]}) (hs:=[]) ?_
 exact v_ (p:=let z0:=(0:Int);let z1:=(1:Int);Bn [V.agg [sl exC,gC exD]=gV exC exD,Bn [Bn [Zz],Bn [An [2=2,Sm (ints exC)],An [4=4,List.map sl exD=[sl [z0,z0],sl [z0,z0],sl [z1,z1],sl [z0,z1]],TT 4]]],Bn [Zz],Bn [An [2=2,ints exC=[i6 2,i6 2],TT 2],An [Zz,4=4,Zz]],Bn [An [2=2,ints [z0,z0]=[i6 0,i6 0],TT 2],An [2=2,ints [z0,z0]=[i6 0,i6 0],TT 2],An [2=2,ints [z1,z1]=[i6 1,i6 1],TT 2],An [2=2,ints [z0,z1]=[i6 0,i6 1],TT 2]]])
theorem top_0:FnOk Pg g0 8 [gV exC exD,i6 0] (.tup [ar (litF [-3,-1,-2]),i6 0]):=by
 have h:=Qtq exC exD 0 Qe0.1
 rw[show ar (topB exC.length 0 (fF exC exD) (2^exC.length-1))=ar (litF [-3,-1,-2])from congrArg V.agg (Qbd (Qq7 3 d_))]at h
 exact h
theorem top_1:FnOk Pg g0 8 [gV exC exD,i6 1] (.tup [ar (litF [-5,-1,-1]),i6 0]):=by
 have h:=Qtq exC exD 1 Qe0.2.1
 rw[show ar (topB exC.length 1 (fF exC exD) (2^exC.length-1))=ar (litF [-5,-1,-1])from congrArg V.agg (Qbd (Ql3 3 d_))]at h
 exact h
theorem top_5:FnOk Pg g0 8 [gV exC exD,i6 5] (.tup [ar Qah,i6 2]):=Qtp exC exD 5 d_ d_ 2 Qe0.2.2 d_
abbrev wkO:List O:=[.row 31 none [sl exC,gC exD],.row 37 none (arF (litF [-3,-1,-2])),.row 37 none (arF (litF [-5,-1,-1])),.row 3 none [i6 0,i6 0,i6 1,i6 1],.row 72 none [u6 0,u6 0,u6 0,u6 1],.row 43 none [.sl 3 0 4 (some 0),.sl 4 0 4 (some 0)],.row 3 none [i6 0,i6 0,i6 1,i6 0],.row 72 none [u6 0,u6 0,u6 0,u6 2],.row 43 none [.sl 6 0 4 (some 0),.sl 7 0 4 (some 0)]]
abbrev wkO1:List O:=wkO++[.row 72 none [u6 0,u6 1]]
theorem wk_small(n:Nat)(h:n<9):n=0\/n=1\/n=2\/n=3\/n=4\/n=5\/n=6\/n=7\/n=8:=by omega
theorem wk_small1(n:Nat)(h:n<10):n=0\/n=1\/n=2\/n=3\/n=4\/n=5\/n=6\/n=7\/n=8\/n=9:=by omega
theorem chk_l1:FnOk Pg g0 30 [lV l1L l1P] (i6 0):=by
 have h:=Qbz l1L l1P (Qpt d_ d_ d_ d_)
 rw[show(if ladB l1L l1P then(0:Int)else 290)=0 by decide+kernel]at h
 exact h
theorem chk_l2:FnOk Pg g0 30 [lV l2L l2P] (i6 0):=by
 have h:=Qbz l2L l2P (Qpt d_ d_ d_ d_)
 rw[show(if ladB l2L l2P then(0:Int)else 290)=0 by decide+kernel]at h
 exact h
theorem var_l1:FnOk Pg g0 31 [lV l1L l1P] (i6 2):=by
 have h:=Qci l1L l1P
 rw[show wdt l1L l1P=2 by decide+kernel]at h
 exact h
theorem var_l2:FnOk Pg g0 31 [lV l2L l2P] (i6 2):=by
 have h:=Qci l2L l2P
 rw[show wdt l2L l2P=2 by decide+kernel]at h
 exact h
theorem gra_l1:CallSpec Pg g0 (.fn 27 []) [.agg [.sl 3 0 4 (some 0),.sl 4 0 4 (some 0)]] (ofOs .e 0 wkO) 9 ⟨.tup [.sl 9 0 2 (some 0),i6 0],ofOs .e 0 wkO1,10,[]⟩:=by
 have h1:=chk_l1
 have h2:=var_l1
 refine CallSpec.of_vcH (P:=Pg) (E:=vE) vE_ok mixed Qaa (n:=1000) (f:=27) (os0:=wkO) (ars:=[.agg [.sl 3 0 4 (some 0),.sl 4 0 4 (some 0)]]) (r:=[10]) (S:={sl:=[(2,.sl 9 0 2 (some 0)),(3,i6 0)],os:=wkO1,md:=[0,0,0,0,0,1,0,0,1]}) (v:=.tup [.sl 9 0 2 (some 0),i6 0]) (hs:=[fn 8 (i6 0),fn 13 (i6 2),(0,.unroll 5)]) (gl:=g0) (by simp) (fun i hi _=>by
   rcases wk_small i (by simpa using hi)with rfl|rfl|rfl|rfl|rfl|rfl|rfl|rfl|rfl<;>rfl) (by
  refine m_ (p:=let z9:=Bn [Bn [TT 4,TT 4]];let z1:=arF (litF [(-3:Int),(-1:Int),(-2:Int)]);let z2:=arF (litF [(-5:Int),(-1:Int),(-1:Int)]);let z3:=[i6 0,i6 0,i6 1,i6 1];let z4:=[u6 0,u6 0,u6 0,u6 1];let z5:=Int.toNat (2:Int);let z6:=V.tup [V.sl 9 0 2 (some 0),i6 0];let z7:=[i6 0,i6 0,i6 1,i6 0];let z8:=[u6 0,u6 0,u6 0,u6 2];let z0:=[V.agg [V.im 4 z3,V.im 4 z4]];Bn [z6=z6,z9,FnOk Pg g0 30 z0 (i6 0),Tt,z9,FnOk Pg g0 31 z0 (i6 2),Tt,Bn [An [Zz,2=z5,0=z5-z5],Sm (0:Int)],An [Sm [sl exC,gC exD],TT 2],An [z1=z1,TT 18],An [z2=z2,TT 18],An [z3=z3,TT 4],An [z4=z4,TT 4],Bn [An [Zz,4=4,Zz],An [Zz,4=4,Zz]],An [z7=z7,TT 4],An [z8=z8,TT 4],Bn [An [Zz,4=4,Zz],An [Zz,4=4,Zz]],An [Sm [u6 0,u6 1],TT 2]]) ?_
  (repeat'(first|(with_reducible apply And.intro)|(refine fun(_:True)=>?_)))
  all_goals first|exact h1|exact h2|exact aq|rfl|skip)
theorem gra_l2:CallSpec Pg g0 (.fn 27 []) [.agg [.sl 6 0 4 (some 0),.sl 7 0 4 (some 0)]] (ofOs .e 0 wkO1) 10 ⟨.tup [.sl 10 0 2 (some 0),i6 0],ofOs .e 0 (wkO1++[.row 72 none [u6 2,u6 0]]),11,[]⟩:=by
 have h1:=chk_l2
 have h2:=var_l2
 refine CallSpec.of_vcH (P:=Pg) (E:=vE) vE_ok mixed Qaa (n:=1000) (f:=27) (os0:=wkO1) (ars:=[.agg [.sl 6 0 4 (some 0),.sl 7 0 4 (some 0)]]) (r:=[11]) (S:={sl:=[(2,.sl 10 0 2 (some 0)),(3,i6 0)],os:=wkO1++[.row 72 none [u6 2,u6 0]],md:=[0,0,0,0,0,1,0,0,1]}) (v:=.tup [.sl 10 0 2 (some 0),i6 0]) (hs:=[fn 8 (i6 0),fn 13 (i6 2),(0,.unroll 5)]) (gl:=g0) (by simp) (fun i hi _=>by
   rcases wk_small1 i (by simpa using hi)with rfl|rfl|rfl|rfl|rfl|rfl|rfl|rfl|rfl|rfl<;>rfl) (by
  refine m_ (p:=let z9:=Bn [Bn [TT 4,TT 4]];let z1:=arF (litF [(-3:Int),(-1:Int),(-2:Int)]);let z2:=arF (litF [(-5:Int),(-1:Int),(-1:Int)]);let z3:=[i6 0,i6 0,i6 1,i6 0];let z4:=[u6 0,u6 0,u6 0,u6 2];let z5:=Int.toNat (2:Int);let z6:=V.tup [V.sl 10 0 2 (some 0),i6 0];let z7:=[i6 0,i6 0,i6 1,i6 1];let z8:=[u6 0,u6 0,u6 0,u6 1];let z0:=[V.agg [V.im 4 z3,V.im 4 z4]];Bn [z6=z6,z9,FnOk Pg g0 30 z0 (i6 0),Tt,z9,FnOk Pg g0 31 z0 (i6 2),Tt,Bn [An [Zz,2=z5,0=z5-z5],Sm (0:Int)],An [Sm [sl exC,gC exD],TT 2],An [z1=z1,TT 18],An [z2=z2,TT 18],An [z7=z7,TT 4],An [z8=z8,TT 4],Bn [An [Zz,4=4,Zz],An [Zz,4=4,Zz]],An [z3=z3,TT 4],An [z4=z4,TT 4],Bn [An [Zz,4=4,Zz],An [Zz,4=4,Zz]],An [Sm [u6 0,u6 1],TT 2],An [Sm [u6 2,u6 0],TT 2]]) ?_
  (repeat'(first|(with_reducible apply And.intro)|(refine fun(_:True)=>?_)))
  all_goals first|exact h1|exact h2|exact aq|rfl|skip)
theorem rgt_11:FnOk Pg g0 18 [gV exC exD,i6 1,lV l1L l1P] (.tup [.bool true,i6 0]):=by
 have h:=Qji exC exD 1 l1L l1P (Qpt d_ d_ d_ d_) Qe0.2.1 (by decide+kernel)
 rw[show rgtB exC.length 1 (fF exC exD) l1L l1P=true from r11]at h
 exact h
theorem rgt_12:FnOk Pg g0 18 [gV exC exD,i6 1,lV l2L l2P] (.tup [.bool false,i6 0]):=by
 have h:=Qji exC exD 1 l2L l2P (Qpt d_ d_ d_ d_) Qe0.2.1 (by decide+kernel)
 rw[show rgtB exC.length 1 (fF exC exD) l2L l2P=false from r12]at h
 exact h
theorem rgt_01:FnOk Pg g0 18 [gV exC exD,i6 0,lV l1L l1P] (.tup [.bool false,i6 0]):=by
 have h:=Qji exC exD 0 l1L l1P (Qpt d_ d_ d_ d_) Qe0.1 (by decide+kernel)
 rw[show rgtB exC.length 0 (fF exC exD) l1L l1P=false from r01]at h
 exact h
theorem chk_a:FnOk Pg g0 30 [lV [0,1,1,1] [0,0,0,0]] (i6 290):=by
 have h:=Qbz [0,1,1,1] [0,0,0,0] (Qpt d_ d_ d_ d_)
 rw[show(if ladB [0,1,1,1] [0,0,0,0]then(0:Int)else 290)=290 by decide+kernel]at h
 exact h
theorem chk_b:FnOk Pg g0 30 [lV [0,0,1] [0,0,0]] (i6 290):=by
 have h:=Qbz [0,0,1] [0,0,0] (fun x hx=>by simp at hx;omega)
 rw[show(if ladB [0,0,1] [0,0,0]then(0:Int)else 290)=290 by decide+kernel]at h
 exact h
theorem works29:FnOk Pg g0 14 [] (.bool true):=by
 have h1:=Qpe
 have h2:=top_0
 have h3:=top_1
 have h4:=gra_l1
 have h5:=gra_l2
 have h6:=rgt_11
 have h7:=rgt_12
 have h8:=rgt_01
 have h9:=top_5
 have ha:=over_600
 have hb:=over_480
 have hc:=Qhq [0,1] d_
 have hd:=Qhq [2,0] d_
 have he:=chk_a
 have hf:=chk_b
 refine FnOk.of_vc vE_ok mixed Qaa (n:=1000) (r:=[]) (S:={sl:=[(0,.bool true)]}) (hs:=[fn 21 (gV exC exD),fn 24 (.tup [ar (litF [-3,-1,-2]),i6 0]),fn 29 (.tup [ar (litF [-5,-1,-1]),i6 0]),(40,.call ⟨.tup [.sl 9 0 2 (some 0),i6 0],ofOs .e 0 wkO1,10,[]⟩),(45,.call ⟨.tup [.sl 10 0 2 (some 0),i6 0],ofOs .e 0 (wkO1++[.row 72 none [u6 2,u6 0]]),11,[]⟩),fn 51 (.tup [.bool true,i6 0]),fn 57 (.tup [.bool false,i6 0]),fn 63 (.tup [.bool false,i6 0]),fn 68 (.tup [ar Qah,i6 2]),fn 79 (ar (litF [-3,-1,-2])),fn 84 (ar (litF [-5,-1,-1])),fn 94 (.bool true),fn 103 (.bool true),fn 137 (i6 290),fn 144 (i6 290)]) ?_
 exact v_ (p:=let w0:=Bn [TT 2,Tt,Bn [TT 4,TT 4]];let w1:=Bn [TT 2,Tt];let z1:=[(-3:Int),(-1:Int),(-2:Int)];let z2:=[(-5:Int),(-1:Int),(-1:Int)];let z5:=O.row 37 none [i6 0,i6 0,i6 0,i6 0,i6 0,i6 0,i6 0,i6 0,i6 0,i6 0,i6 0,i6 0,i6 0,i6 0,i6 0,i6 0,i6 0,i6 0];let z6:=V.agg [V.im 2 (ints exC),V.im 4 (List.map sl exD)];let z8:=V.bool true;let y0:=[V.sl 10 0 2 (some 0),V.sl 13 0 2 (some 0)];let y1:=[V.sl 9 0 2 (some 0),V.sl 12 0 2 (some 0)];let y3:=Int.toNat (4:Int);let y4:=Int.toNat (3:Int);let y8:=[V.sl 3 0 4 (some 0),V.sl 4 0 4 (some 0)];let y9:=[V.sl 6 0 4 (some 0),V.sl 7 0 4 (some 0)];let x0:=O.row 43 none [V.nils,V.nils];let x1:=[u6 2,u6 0];let x2:=V.tup [V.bool false,i6 0];let x3:=[i6 0,i6 0,i6 1,i6 1];let x4:=[u6 0,u6 0,u6 0,u6 1];let x5:=[i6 0,i6 0,i6 1,i6 0];let x6:=[u6 0,u6 0,u6 0,u6 2];let x7:=[i6 0,i6 1,i6 1,i6 1];let x8:=[u6 0,u6 0,u6 0,u6 0];let x9:=[u6 0,u6 1];let y2:=V.agg [V.im 4 x3,V.im 4 x4];let y5:=ofOs T.e 0 (wkO1++[O.row 72 none x1]);let y6:=ar (litF z1);let y7:=ar (litF z2);let z0:=pt (pt y5 11 z5) 11 (O.row 37 none (arF Qah));let z7:=pt z0 12 (O.row 72 none x9);let z3:=pt z7 13 (O.row 72 none x1);let z4:=pt (pt z3 14 (O.row 3 none x7)) 15 (O.row 72 none x8);let z9:=pt (pt z4 16 (O.row 3 none [i6 0,i6 0,i6 1])) 17 (O.row 72 none [u6 0,u6 0,u6 0]);Bn [z8=z8,Tt,FnOk Pg g0 26 [] (gV exC exD),Tt,w1,FnOk Pg g0 8 [z6,i6 0] (V.tup [y6,i6 0]),Tt,w1,FnOk Pg g0 8 [z6,i6 1] (V.tup [y7,i6 0]),Tt,CallSpec Pg g0 (V.fn 27 []) [V.agg y8] (pt (pt (pt (pt (pt (pt (pt (pt (pt (pt (pt (pt (pt (pt T.e 0 (O.row 31 none [V.nils,V.nils])) 0 (O.row 31 none [sl exC,gC exD])) 1 z5) 1 (O.row 37 none (arF (litF z1)))) 2 z5) 2 (O.row 37 none (arF (litF z2)))) 3 (O.row 3 none x3)) 4 (O.row 72 none x4)) 5 x0) 5 (O.row 43 none y8)) 6 (O.row 3 none x5)) 7 (O.row 72 none x6)) 8 x0) 8 (O.row 43 none y9)) 9 (CR.mk (V.tup [V.sl 9 0 2 (some 0),i6 0]) (ofOs T.e 0 wkO1) 10 []),Tt,CallSpec Pg g0 (V.fn 27 []) [V.agg y9] (ofOs T.e 0 wkO1) 10 (CR.mk (V.tup [V.sl 10 0 2 (some 0),i6 0]) y5 11 []),Tt,w0,FnOk Pg g0 18 [z6,i6 1,y2] (V.tup [z8,i6 0]),Tt,w0,FnOk Pg g0 18 [z6,i6 1,V.agg [V.im 4 x5,V.im 4 x6]] x2,Tt,w0,FnOk Pg g0 18 [z6,i6 0,y2] x2,Tt,w1,FnOk Pg g0 8 [z6,i6 5] (V.tup [ar Qah,i6 2]),Tt,Bn [Tt],FnOk Pg g0 28 [i6 600] y6,Tt,Bn [Tt],FnOk Pg g0 28 [i6 480] y7,Bn [(V.fn 28 []=V.fn 28 []->[i6 600]=[i6 480]->z0=z0->11+1=12->CR.mk y6 z0 12 []=CR.mk y7 z0 12 [])],Bn [TT 2,TT 2],FnOk Pg g0 29 [V.im 2 x9,V.im 2 x9] z8,Bn [(V.fn 28 []=V.fn 29 []->[i6 480]=y1->z0=z7->11+1=13->CR.mk y7 z0 12 []=CR.mk z8 z7 13 []),(V.fn 28 []=V.fn 29 []->[i6 600]=y1->z0=z7->11+1=13->CR.mk y6 z0 12 []=CR.mk z8 z7 13 [])],Bn [TT 2,TT 2],FnOk Pg g0 29 [V.im 2 x1,V.im 2 x1] z8,Bn [(V.fn 29 []=V.fn 29 []->y1=y0->z7=z3->11+1+1=14->CR.mk z8 z7 13 []=CR.mk z8 z3 14 []),(V.fn 28 []=V.fn 29 []->[i6 480]=y0->z0=z3->11+1=14->CR.mk y7 z0 12 []=CR.mk z8 z3 14 []),(V.fn 28 []=V.fn 29 []->[i6 600]=y0->z0=z3->11+1=14->CR.mk y6 z0 12 []=CR.mk z8 z3 14 [])],Bn [Bn [TT 4,TT 4]],FnOk Pg g0 30 [V.agg [V.im 4 x7,V.im y3 x8]] (i6 290),Tt,Bn [Bn [TT 3,TT 3]],FnOk Pg g0 30 [V.agg [V.im 3 [i6 0,i6 0,i6 1],V.im y4 [u6 0,u6 0,u6 0]]] (i6 290),Bn [(V.fn 30 []=V.fn 30 []->[V.agg [V.sl 14 0 4 (some 0),V.sl 15 0 y3 (some (y3-y3))]]=[V.agg [V.sl 16 0 3 (some 0),V.sl 17 0 y4 (some (y4-y4))]]->z4=z9->11+1+1+1+1+1=18->CR.mk (i6 290) z4 16 []=CR.mk (i6 290) z9 18 [])],Bn [true=((290:Int)==290)]])
set_option maxHeartbeats 1000000
section
variable (v:Int) (ps:Nat) (c0:List Int) (s0:List (List Int)) (c1:List Int) (s1:List (List Int)) (c2:List Int) (s2:List (List Int)) (i:Nat) (jj:List Int) (cs:List (List Int)) (e:Int) (n w q r j:Nat)
end
set_option maxHeartbeats 4000000
set_option maxRecDepth 100000
theorem idx62{a b:Int}{k:Nat}(hk:k<2):idxV (Qad Pg) 35 (.agg [i6 a,i6 b]) (k:Int)=some (i6 (if k=0 then a else b)):=by
 rcases(show k=0\/k=1 by omega)with rfl|rfl<;>kernel_rfl
theorem emod5'{N:Nat}:(N:Int).tmod 5=((N%5:Nat):Int):=by
 rw[show(5:Int)=((5:Nat):Int)from rfl,Qfj]
structure SolOk(jj:List Int)(cs:List (List Int))(n:Int)(x:Nat->Int)(L:List Int)(P:List Nat)(size:Nat)(B:Nat->Nat->Int):Prop where
 top:FnOk Pg g0 8 [gV jj cs,i6 n] (.tup [ar x,i6 0])
 sol:FnOk Pg g0 9 [gV jj cs,i6 n] (.tup [lV L P,i6 0])
 tops:FnOk Pg g0 11 [gV jj cs,i6 n] (.im size (bF B size))
 good:FnOk Pg g0 12 [lV L P,i6 (jj.length:Nat)] (.bool true)
 right:FnOk Pg g0 13 [gV jj cs,i6 n,lV L P] (.bool true)
 last:B (size-1)=x
 s1:1<=size
 s32:size<=32
theorem Qs8(jj:List Int)(cs:List (List Int))(n:Int)(h:srchE jj cs n=0): ∃x L P size B,SolOk jj cs n x L P size B:=by
 obtain⟨hg0,hn1,hn5,hn0,_,hl2,hcl⟩:=Qdx h
 obtain⟨lim,rfl⟩: ∃k:Nat,n=k:=⟨n.toNat,by omega⟩
 have hF:=Ql4 hg0 hl2
 have hp:1<=2^jj.length:=Nat.pow_pos d_
 have hsol:=solve_ok jj cs lim h
 rw[mk_V]at hsol
 have hS:=sol_S64 (lim:=lim) hF hn5
 have jv:Ql6 (solL jj.length lim (fF jj cs)) (solP jj.length lim (fF jj cs)) jj.length=true:=by
  rw[Qgc,sol_lad hF hn1 hn5,mk_wdt _ _ hn1 hn5,decide_eq_true rfl];rfl
 have hgd:=good29 (solL jj.length lim (fF jj cs)) (solP jj.length lim (fF jj cs)) hS jj.length o_
 rw[jv]at hgd
 have hr:=Qmk jj cs lim _ _ hS h jv
 rw[sol_rgt hF hn5]at hr
 exact⟨_,_,_,_,_,Qtq jj cs lim h,hsol,Qtr jj cs lim h,hgd,hr,by rw[Qbm,if_pos o_],hp,Qa9 hn5⟩
section
variable (lim:Int) (k m:Nat) (dv:V) (j:Nat) (jj:List Int) (cs:List (List Int))
abbrev soI(i:Nat):SL:={sl:=[(2,i6 lim),(3,w8 (k:Nat)),(28,dv),(29,i6 (j:Nat)),(11,.ptr 0 0),(36,.agg [i6 lim,i6 ((m:Nat):Int)]),(37,i6 (i:Nat))],os:=[gO jj cs]}
abbrev soO:SL:={sl:=[(2,i6 lim),(3,w8 (k:Nat)),(28,dv),(29,i6 (j:Nat))]}
end
theorem st_in(lim:Int)(k m:Nat)(c0:List Int)(s0:List (List Int))(c1:List Int)(s1:List (List Int))(c2:List Int)(s2:List (List Int))(j:Nat)(jj:List Int)(cs:List (List Int))(h1:jj.length<=6)(h2:cs.length<=41)(h3: ∀c∈cs,c.length<=6):
  Sat Pg none 0 (at' 3 [1,1,0,1,0,0,1,1,0,0,1,1,0]) (mkSt g0 109 (soI lim k m (y3 c0 s0 c1 s1 c2 s2) j jj cs 0)) (Qaf g0 109 [(True,.exit 2,soO lim k (y3 c0 s0 c1 s1 c2 s2) j)]):=by
 have hg:=Qap cs
 have hc:=Qag jj
 have q0:=Qap s0
 have q1:=Qap s1
 have q2:=Qap s2
 have hidx: ∀i:Nat,i<2->idxV (Qad Pg) 35 (.agg [i6 lim,i6 ((m:Nat):Int)]) (i:Int)=some (i6 (if i=0 then lim else(m:Int))):=fun i hi=>idx62 hi
 refine Qau vE_ok mixed Qaa (b:=at' 3 [1,1,0,1,0,0,1,1,0,0,1,1,0,0]) k_ (fun i=>i<=2) (fun i=>{sl:=[(2,i6 lim),(3,w8 (k:Nat)),(28,y3 c0 s0 c1 s1 c2 s2),(29,i6 (j:Nat)),(11,.ptr 0 0),(36,.agg [i6 lim,i6 ((m:Nat):Int)]),(37,i6 (i:Nat))],os:=[gO jj cs]}) (fun i=>2-i) (fun i hi=>?_) 0 d_
 by_cases hlt:i<2
 ·have hidx := hidx i hlt
  generalize (if i=0 then lim else(m:Int))=n at*
  have her:=Qq3 jj cs n o_ o_ (fun c hc=>by have:=h3 c hc;omega)
  by_cases h0:srchE jj cs n=0
  ·obtain ⟨x, L, P, size, B, H⟩ := Qs8 jj cs n h0
   obtain⟨t1,t2,t3,t4,t5,t6,t7,t8⟩:=H
   rw[h0]at her
   have hu:=Qbv P
   have hB:=Qab B size
   have hHx:=HfL_ar x
   have htk:=@Qa5 B size (size-1) o_
   rw[t6]at htk
   have htk':=htk
   rw[Qar]at htk'
   have hs1:((size:Int)-1)=((size-1:Nat):Int):=by omega
   have heq:(!eqA x x)=false:=by rw[Qnr];rfl
   unfold eqA at heq
   have hq:size-1<size:=by omega
   generalize size-1=q at*
   refine .inl ⟨i+1,[0],[yes 38,va 39 (i6 n),fn 43 (.tup [ar x,i6 0]),fn 49 (.tup [lV L P,i6 0]),fn 54 (i6 0),fn 82 (.im size (bF B size)),nu 87 (q:Nat),pl 88,ld 89 (ar x),no 90,fn 96 (.bool true),fn 103 (.bool true),nu 106 ((i+1:Nat):Int)],1000,by omega,by omega,?_⟩
   clear h0
   exact v_ (p:=let y0:=Bn [TT 2,Tt];let z1:=V.agg [V.im jj.length (ints jj),V.im cs.length (List.map sl cs)];let z2:=V.agg [V.im L.length (ints L),V.im P.length (ut P)];let z3:=V.bool true;let z4:=(↑(i+1):Int);let z5:=[sl jj,gC cs];let z7:=(i:Int);let z8:=(q:Int);let z9:=[sl L,ul P];let z0:=pt (pt (pt (pt (ofOs T.e 0 [gO jj cs]) 1 (O.row 37 none [i6 0,i6 0,i6 0,i6 0,i6 0,i6 0,i6 0,i6 0,i6 0,i6 0,i6 0,i6 0,i6 0,i6 0,i6 0,i6 0,i6 0,i6 0])) 1 (O.row 37 none (arF x))) 2 (O.row 43 none [V.nils,V.nils])) 2 (O.row 43 none z9);let z6:=[z1,i6 n];Bn [decide (z7<2)=true,idxV (Qad Pg) 35 (V.agg [i6 lim,i6 m]) z7=some (i6 n),y0,FnOk Pg g0 8 z6 (V.tup [ar x,i6 0]),Tt,y0,FnOk Pg g0 9 z6 (V.tup [lV L P,i6 0]),Tt,y0,FnOk Pg g0 10 z6 (i6 0),Tt,y0,FnOk Pg g0 11 z6 (V.im size (bF B size)),Tt,wr .i64 ((size:Int)-1)=z8,An [(0:Int)<=z8,z8<(size:Int)],takeE 18 (List.drop (q*18) (bF B size))=some (arF x),(!(x 0==x 0&&(x 1==x 1&&(x 2==x 2&&(x 3==x 3&&(x 4==x 4&&(x 5==x 5&&(x 6==x 6&&(x 7==x 7&&(x 8==x 8&&(x 9==x 9&&(x 10==x 10&&(x 11==x 11&&(x 12==x 12&&(x 13==x 13&&(x 14==x 14&&(x 15==x 15&&(x 16==x 16&&(x 17==x 17&&true)))))))))))))))))))=false,y0,FnOk Pg g0 12 [z2,i6 jj.length] z3,Tt,Bn [TT 2,Tt,TT 2],FnOk Pg g0 13 [z1,i6 n,z2] z3,Bn [(V.fn 12 []=V.fn 13 []->[V.agg z9,i6 jj.length]=[V.agg z5,i6 n,V.agg z9]->z0=z0->1+1+1=3->Sm (CR.mk z3 z0 3 []))],wr .i64 (z7+1)=z4,Bn [lim=lim,Sm (k:Int),Bn [An [Sm c0.length,Sm (ints c0)],An [Sm s0.length,Sm (List.map sl s0)],An [Sm c1.length,Sm (ints c1)],An [Sm s1.length,Sm (List.map sl s1)],An [Sm c2.length,Sm (ints c2)],An [Sm s2.length,Sm (List.map sl s2)]],Sm (j:Int),Zz,Bn [lim=lim,Sm (m:Int)],z4=z4],An [z5=z5,TT 2]])
  ·have ht := Qtp jj cs n o_ o_ _ rfl h0
   have hs:=Qta jj cs n o_ o_ _ rfl h0
   generalize srchE jj cs n=e at*
   have hne:((e:Int)==0)=false:=by rw[beq_eq_false_iff_ne];exact h0
   refine .inl ⟨i+1,[0],[yes 38,va 39 (i6 n),fn 43 (.tup [ar Qah,i6 e]),fn 49 (.tup [.agg [.nils,.nils],i6 e]),fn 54 (i6 e),no 57,no 61,yes 64,nu 106 ((i+1:Nat):Int)],1000,by omega,by omega,?_⟩
   exact v_ (p:=let z3:=Bn [TT 2,Tt];let z0:=[V.agg [V.im jj.length (ints jj),V.im cs.length (List.map sl cs)],i6 n];let z1:=(↑(i+1):Int);let z2:=(i:Int);Bn [decide (z2<2)=true,idxV (Qad Pg) 35 (V.agg [i6 lim,i6 m]) z2=some (i6 n),z3,FnOk Pg g0 8 z0 (V.tup [ar Qah,i6 e]),Tt,z3,FnOk Pg g0 9 z0 (V.tup [V.agg [V.nils,V.nils],i6 e]),Tt,z3,FnOk Pg g0 10 z0 (i6 e),Tt,(e != e)=false,(e != e)=false,(e != 0)=true,wr .i64 (z2+1)=z1,Bn [lim=lim,Sm (k:Int),Bn [An [Sm c0.length,Sm (ints c0)],An [Sm s0.length,Sm (List.map sl s0)],An [Sm c1.length,Sm (ints c1)],An [Sm s1.length,Sm (List.map sl s1)],An [Sm c2.length,Sm (ints c2)],An [Sm s2.length,Sm (List.map sl s2)]],Sm (j:Int),Zz,Bn [lim=lim,Sm (m:Int)],z1=z1],An [Sm [sl jj,gC cs],TT 2]])
 ·have : i = 2 := by omega
  subst this
  refine .inr ⟨.exit 2,[],soO lim k (y3 c0 s0 c1 s1 c2 s2) j,[],1000,.inl ⟨trivial,rfl,rfl⟩,?_⟩
  exact v_ (p:=Bn [Bn [lim=lim,Sm (k:Int),Bn [An [Sm c0.length,Sm (ints c0)],An [Sm s0.length,Sm (List.map sl s0)],An [Sm c1.length,Sm (ints c1)],An [Sm s1.length,Sm (List.map sl s1)],An [Sm c2.length,Sm (ints c2)],An [Sm s2.length,Sm (List.map sl s2)]],Sm (j:Int)]])
theorem idx35(c0:List Int)(s0:List (List Int))(c1:List Int)(s1:List (List Int))(c2:List Int)(s2:List (List Int)){j:Nat}(h:j<3): ∃c s,((c=c0/\s=s0)\/(c=c1/\s=s1)\/(c=c2/\s=s2))/\idxV (Qad Pg) 34 (y3 c0 s0 c1 s1 c2 s2) (j:Int)=some (gV c s):=by
 rcases(show j=0\/j=1\/j=2 by omega)with rfl|rfl|rfl
 ·exact⟨c0,s0,.inl ⟨rfl,rfl⟩,by kernel_rfl⟩
 ·exact⟨c1,s1,.inr (.inl ⟨rfl,rfl⟩),by kernel_rfl⟩
 ·exact⟨c2,s2,.inr (.inr ⟨rfl,rfl⟩),by kernel_rfl⟩
theorem st_out(lim:Int)(k:Nat)(hk:k<256)(c0:List Int)(s0:List (List Int))(c1:List Int)(s1:List (List Int))(c2:List Int)(s2:List (List Int))(h0:DatOk c0 s0)(h1:DatOk c1 s1)(h2:DatOk c2 s2):
  Sat Pg none 0 (at' 3 [1,1,0,1,0]) (mkSt g0 109 (soO lim k (y3 c0 s0 c1 s1 c2 s2) 0)) (Qaf g0 109 [(True,.exit 0,{sl:=[]})]):=by
 have g0':=Qap s0
 have g1':=Qap s1
 have g2':=Qap s2
 have hm:=emod5' (N:=k)
 refine Qau vE_ok mixed Qaa (b:=at' 3 [1,1,0,1,0,0]) k_ (fun j=>j<=3) (soO lim k (y3 c0 s0 c1 s1 c2 s2)) (fun j=>3-j) (fun j hj=>?_) 0 d_
 by_cases hlt:j<3
 ·obtain ⟨c, s, hcs, hidx⟩ := idx35 c0 s0 c1 s1 c2 s2 hlt
  have hd:DatOk c s:=by
   rcases hcs with⟨rfl,rfl⟩|⟨rfl,rfl⟩|⟨rfl,rfl⟩<;>assumption
  obtain⟨d1,d2,d3⟩:=hd
  have l:=st_in lim k (k%5) c0 s0 c1 s1 c2 s2 j c s d1 d2 d3
  have hg:=Qap s
  have hc:=Qag c
  have hk5:k%5<5:=Nat.mod_lt _ d_
  generalize k%5=m at*
  refine .inl ⟨j+1,[],[yes 30,va 31 (gV c s),nu 34 (m:Nat),nu 35 (m:Nat),(0,.loop [0] (soI lim k m (y3 c0 s0 c1 s1 c2 s2) j c s 0) [(True,.exit 2,soO lim k (y3 c0 s0 c1 s1 c2 s2) j)]),nu 107 ((j+1:Nat):Int)],1000,by omega,by omega,?_⟩
  exact v_ (p:=let z8:=An [Sm c0.length,Sm (ints c0)];let z9:=An [Sm c1.length,Sm (ints c1)];let y0:=An [Sm c2.length,Sm (ints c2)];let z0:=y3 c0 s0 c1 s1 c2 s2;let z1:=(j:Int);let z2:=(k:Int);let z3:=(m:Int);let z4:=List.map sl s0;let z5:=List.map sl s1;let z6:=List.map sl s2;let z7:=(↑(j+1):Int);Bn [decide (z1<3)=true,idxV (Qad Pg) 34 z0 z1=some (gV c s),Int.tmod z2 (5:Int)=z3,wr .i64 z3=z3,Bn [Bn [lim=lim,z2=z2,Bn [z8,An [Sm s0.length,z4=z4],z9,An [Sm s1.length,z5=z5],y0,An [Sm s2.length,z6=z6]],z1=z1,Zz,Bn [lim=lim,z3=z3],((0:Nat):Int)=(0:Int)],An [Sm [sl c,gC s],TT 2]],Sat Pg none 0 (at' 3 [1,1,0,1,0,0,1,1,0,0,1,1,0]) (mkSt g0 109 (soI lim k m z0 j c s 0)) (Qaf g0 109 [(True,Ex.exit 2,soO lim k z0 j)]),(True->Bn [wr .i64 (z1+1)=z7,Bn [lim=lim,z2=z2,Bn [z8,An [Sm s0.length,z4=z4],z9,An [Sm s1.length,z5=z5],y0,An [Sm s2.length,z6=z6]],z7=z7]])])
 ·have : j = 3 := by omega
  subst this
  refine .inr ⟨.exit 0,[],{sl:=[]},[],1000,.inl ⟨trivial,rfl,rfl⟩,?_⟩
  exact v_ (p:=Bn [Tt])
theorem Qts(C:List Int)(ks:List (Nat->Int))(fo:Int)(M:List Int)(b a N lim:Int)(k:Nat)(h:DrOk C ks fo M)(hb:0<=b/\b<=255)(ha:0<=a/\a<=255)(hk:k<256):FnOk Pg g0 3 [dfV C ks fo M,beV b a N,i6 lim,w8 (k:Nat)] (.bool true):=by
 have hw:=works29
 have hwd:=Qmx C ks fo M h
 have hdd:=Qnk C ks fo M h
 have hc:=Qj8 C
 obtain⟨x1,x2⟩:=Qkd C ks fo []
 obtain⟨y1,y2⟩:=Qkd C ks fo M
 obtain⟨cb,sb,hbf,b1,b2,b3⟩:=bend_fn b a N (cardsD C) (dataD C ks fo []) hb ha hc.pos (by have:=hc.five;omega) x1 x2
 have l:=st_out lim k hk (cardsD C) (dataD C ks fo []) (cardsD C) (dataD C ks fo M) cb sb ⟨by have:=hc.five;omega,by omega,fun c hc'=>by rw[x1 c hc'];have:=hc.five;omega⟩ ⟨by have:=hc.five;omega,by omega,fun c hc'=>by rw[y1 c hc'];have:=hc.five;omega⟩ ⟨b1,b2,b3⟩
 generalize cardsD C=jj at*
 generalize dataD C ks fo []=s0 at*
 generalize dataD C ks fo M=s1 at*
 refine FnOk.of_vc vE_ok mixed Qaa (n:=1000) (r:=[]) (S:={sl:=[(8,.bool true)]}) (hs:=[fn 21 (gV jj s0),fn 24 (gV jj s1),fn 27 (gV cb sb),(0,.loop [] (soO lim k (y3 jj s0 jj s1 cb sb) 0) [(True,.exit 0,{sl:=[]})]),fn 108 (.bool true)]) ?_
 exact v_ (p:=let z1:=[V.agg [V.im C.length (List.map w8 C),V.im ks.length (Qdf ks),w8 fo,V.im M.length (List.map w8 M)]];let z2:=ints jj;let z3:=[w8 b,w8 a,i6 N];let z4:=List.map sl s0;let z5:=[sl8 C,kV ks,w8 fo,sl8 M];let z6:=V.bool true;let z0:=pt (pt (pt (pt T.e 0 (O.row 25 none z5)) 1 (O.row 27 none z3)) 2 (O.row 31 none [V.nils,V.nils])) 2 (O.row 31 none [sl jj,gC s0]);Bn [z6=z6,Bn [TT 4],FnOk Pg g0 5 z1 (gV jj s0),Tt,Bn [TT 4],FnOk Pg g0 6 z1 (gV jj s1),Tt,Bn [TT 3,TT 2],FnOk Pg g0 7 [V.agg z3,V.agg [V.im jj.length z2,V.im s0.length z4]] (gV cb sb),Bn [(V.fn 6 []=V.fn 7 []->[V.agg z5]=[V.agg z3,V.agg [sl jj,gC s0]]->z0=z0->0+1+1+1=3->CR.mk (gV jj s1) z0 3 []=CR.mk (gV cb sb) z0 3 [])],Bn [Bn [lim=lim,Sm (k:Int),Bn [An [Sm jj.length,z2=z2],An [Sm s0.length,z4=z4],An [Sm jj.length,z2=z2],An [Sm s1.length,Sm (List.map sl s1)],An [Sm cb.length,Sm (ints cb)],An [Sm sb.length,Sm (List.map sl sb)]],((0:Nat):Int)=(0:Int)]],Sat Pg none 0 (at' 3 [1,1,0,1,0]) (mkSt g0 109 (soO lim k (y3 jj s0 jj s1 cb sb) 0)) (Qaf g0 109 [(True,Ex.exit 0,SL.mk [] [] [] [])]),(True->Bn [Tt,FnOk Pg g0 14 [] z6,Tt,Bn [Sm true]])])
open Go.RowKit Go.ChangeShapes Go.WideShapes
set_option maxRecDepth 100000
theorem wf8n{n:Int}(h:(Lit.int .u8 n).wf=true): ∃m:Nat,n=m/\m<256:=by
 have:=wf8 h
 exact⟨n.toNat,by omega,by omega⟩
section
variable {H:Type} {enc:TypeId×Value->H} {w:World}
end
set_option maxHeartbeats 4000000
set_option maxRecDepth 100000
section
variable (N:Nat) (a b:Nat->Nat) (n size:Nat) (la pa:Nat->Nat)
end
open Go.RowKit Go.ChangeShapes Go.WideShapes
set_option maxRecDepth 100000
section
variable {H:Type} {enc:TypeId×Value->H} {w:World}
end
end Go.Proofs.YtakfneapahohkaaDoor.Am
