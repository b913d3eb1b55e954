/- Texts behind the claim, part 9: the abstract machine, and what the functions answer. No condition. -/
import Derived.Test.YtifdkhfldbkkpaaGreatCG8
set_option linter.unusedVariables false
set_option maxHeartbeats 4000000
set_option maxRecDepth 100000
set_option linter.unusedSimpArgs false
set_option linter.unusedSectionVars false
namespace Go.Proofs.YtifdkhfldbkkpaaGreat.Am
open Go.RowKit
theorem mi_al{t n:Nat}(ht:t<18446744073709551616)(hn:n<64):mi t (alN n)=0↔t/2^n=0:=by
 rw[Nat.div_eq_zero_iff_lt (Nat.two_pow_pos _),Qk6 ht (Qfz hn)]
 constructor
 ·intro h
  refine Nat.lt_pow_two_of_testBit t fun i hi=>?_
  cases hb:t.testBit i with
  |false=>rfl
  |true=>
   have:=h i hb
   grind[Qib]
 ·intro h i hb
  grind[Qib,Nat.testBit_lt_two_pow,Nat.lt_of_lt_of_le,Nat.pow_le_pow_right]
theorem FnOk.view{f:Nat}{ars:List V}{v v0:V}(h:FnOk Pg g0 f ars v0)(hf:hfB v=true)(hv:vxT .e v v0=true):FnOk Pg g0 f ars v:=⟨fun s w fv vals hc ha hH hgl hn=>by
 obtain⟨next,q1,q2,q3⟩:=h.1 s w fv vals hc ha hH hgl hn
 obtain⟨f',a',rfl⟩:=q3 ⟨_,_,rfl⟩
 exact⟨_,q1,callsIn_wide.2 ((callsIn_wide.1 q2).mono fun e w' hp=>Qe6 hH (fun i _=>hn i (Nat.zero_le _)) hv (Qek.1 v hf) hp),q3⟩,Log.refl _ _ _⟩
theorem ds_cases{p j:List Nat}(g:GrOk p j){t:Nat}(ht:t<18446744073709551616):
  (t/2^p.length≠0∧FnOk Pg g0 24 [ul p,ul j,u6 (t:Nat)] (.tup [.nils,i6 2]))∨
  (t/2^p.length=0∧∃(w:Nat)(A:List V),HfL A∧FnOk Pg g0 24 [ul p,ul j,u6 (t:Nat)] (.tup [.im w A,i6 0])∧FnOk Pg g0 26 [ul j,u6 (t:Nat)] (.im w A)∧FnOk Pg g0 25 [.im w A,.im w A] (.bool true)):=by
 have h5:=g.l5
 have hjl:=g.jl
 by_cases h:t/2^p.length=0
 ·have hm := (mi_al ht (show p.length < 64 by omega)).2 h
  have hlt:t<2^j.length:=by rw[hjl];exact(Nat.div_eq_zero_iff_lt (Nat.two_pow_pos _)).1 h
  have hd:=Qhc j t (by omega) g.j64 ht hlt
  have hr:rn j t≤64:=rn_le ht fun i hi=>bit_lt64 ht hi
  by_cases h0:t=0
  ·subst h0
   exact .inr ⟨h,0,[],trivial,(Qhd p j g).view rfl rfl,hd,Qr5 [] 0 rfl (by decide)⟩
  grind[Qjl,diL,Qag,Qr5]
 grind[Qil,mi_al]
abbrev bdO(bw ba bk:Nat)(bn:Int):O:=.row 28 none [w8 (bw:Nat),w8 (ba:Nat),w8 (bk:Nat),i6 bn]
abbrev lwS(bw ba bk:Nat)(bn:Int)(g:Int)(nR:Nat)(RR:List V)(nN:Nat)(NN:List V)(s:Nat)(C:List V)(k:Nat):SL:={sl:=[(4,u6 (s:Nat)),(8,.ptr 0 0),(11,.ptr 1 0),(41,.sl 2 0 3 none),(42,i6 3),(43,i6 (k:Nat))],os:=[bdO bw ba bk bn,cuO g nR RR nN NN,.row 56 (some 2) C]}
section
variable (bw ba bk:Nat) (bn g:Int) (nR:Nat) (RR:List V) (hRR:HfL RR) (nN:Nat) (NN:List V) (hNN:HfL NN) (s:Nat) (hs:s<18446744073709551616) (C:List V) (hC:HfL C) (k:Nat) (hk:k<3) (p j:List Nat) (hp6:p.length≤60) (ht:takeE 2 (dropF (0+k*2) C)=some [ul p,ul j]) (g2:Int) (nR2:Nat) (RR2:List V) (hRR2:HfL RR2) (nN2:Nat) (NN2:List V) (hNN2:HfL NN2) (hbd:FnOk Pg g0 7 [.agg [w8 (bw:Nat),w8 (ba:Nat),w8 (bk:Nat),i6 bn],.agg [i6 g,.im nR RR,.im nN NN]] (.agg [i6 g2,.im nR2 RR2,.im nN2 NN2]))
include hRR hNN hs hC hk hp6 ht hRR2 hNN2 hbd
theorem rd_bad(hp64:S64 p)(hj64:S64 j)(hr:rightB p j=false)(ho1:FnOk Pg g0 22 [ul p,ul j,.agg [i6 g,.im nR RR,.im nN NN]] (.tup [.bool false,i6 350]))(ho2:FnOk Pg g0 22 [ul p,ul j,.agg [i6 g2,.im nR2 RR2,.im nN2 NN2]] (.tup [.bool false,i6 350])): ∃hs n,vc Pg vE sp0 none 0 n (at' 4 [1,1,1,1,1,0,1,0,0]) hs (mkSt g0 172 (lwS bw ba bk bn g nR RR nN NN s C k)) (Qci 0 172 [0,1,2] (lwS bw ba bk bn g nR RR nN NN s C (k+1))):=by
 have r1:=Qhy p j hp64 hj64
 rw[hr]at r1
 have r2:=Qpj p j hp64 hj64 hr
 have d1:=Qec p j hp64 hj64 hr s
 have d2:=Qec p j hp64 hj64 hr (s&&& alN p.length)
 clear hr hp64 hj64
 have hpf:=Qag p
 have hjf:=Qag j
 obtain⟨q1,q2⟩:=Qew (G:=Qac Pg) (t:=29) (k:=p.length) (by omega)
 have q3:wr .u64 (((2^p.length:Nat):Int)-1)=((alN p.length:Nat):Int):=by
  have:=Nat.two_pow_pos p.length
  unfold alN
  rw[wr_eq,show((2^p.length:Nat):Int)-1=((2^p.length-1:Nat):Int)by omega]
  exact Qez (by omega)
 have q4:=Qje (G:=Qac Pg) (t:=29) hs (Qfz (n:=p.length) (by omega))
 generalize s&&& alN p.length=t2 at*
 generalize alN p.length=al at*
 generalize 2^p.length=z at*
 refine⟨[yes 44,pl 45,ld 46 (.agg [ul p,ul j]),fn 51 (.bool false),fn 56 (i6 350),fn 72 (.agg [i6 g2,.im nR2 RR2,.im nN2 NN2]),(0,.unroll 3),fn 83 (.tup [.bool false,i6 350]),fn 83 (.tup [.bool false,i6 350]),va 118 (u6 (z:Nat)),nu 119 (al:Nat),va 120 (u6 (t2:Nat)),(0,.unroll 3),fn 131 (.tup [.nils,i6 350]),fn 131 (.tup [.nils,i6 350]),nu 171 ((k+1:Nat):Int)],1000,?_⟩
 refine m_ (p:=let z0:=V.im p.length (ut p);let z1:=V.im j.length (ut j);let z2:=[i6 g,V.im nR RR,V.im nN NN];let z3:=[w8 ↑bw,w8 ↑ba,w8 ↑bk,i6 bn];let z4:=V.agg [i6 g2,V.im nR2 RR2,V.im nN2 NN2];let z5:=(↑(k+1):Int);let z6:=(↑k:Int);let z7:=V.tup [V.bool false,i6 350];let z8:=V.tup [V.nils,i6 350];An [decide (z6<(3:Int))=true,An [(0:Int)≤z6,z6<(↑(3:Nat):Int)],takeE 2 (dropF (0+k*2) C)=some [ul p,ul j],TT 2,FnOk Pg g0 20 [z0,z1] (V.bool false),Tt,TT 2,FnOk Pg g0 21 [z0,z1] (i6 350),Tt,An [TT 4,TT 3,Tt],FnOk Pg g0 7 [V.agg z3,V.agg z2] z4,Tt,An [Tt,Tt,TT 3,Tt],FnOk Pg g0 22 [z0,z1,V.agg z2] z7,Tt,An [Tt,Tt,TT 3,Tt],FnOk Pg g0 22 [z0,z1,z4] z7,Tt,binV (Qac Tryz.prog) BinOp.shl 29 (u6 1) (i6 ↑p.length)=some (u6 ↑z),wr .u64 ((↑z:Int)-(1:Int))=(↑al:Int),binV (Qac Tryz.prog) BinOp.and 29 (u6 ↑s) (u6 ↑al)=some (u6 ↑t2),TT 3,FnOk Pg g0 24 [z0,z1,u6 ↑s] z8,Tt,TT 3,FnOk Pg g0 24 [z0,z1,u6 ↑t2] z8,Tt,wr .i64 (z6+(1:Int))=z5,An [Sm (↑s:Int),Zz,Zz,An [Zz,3=3,Tt],Sm (3:Int),z5=z5,Tt],An [z3=z3,TT 4],An [z2=z2,TT 3],An [C=C,HfL C],Tt]) ?_
 (repeat'(first|(with_reducible apply And.intro)|(refine fun(_:True)=>?_)))<;>first|exact aq|skip
 all_goals first|with_reducible exact r1|with_reducible exact r2|with_reducible exact ho1|with_reducible exact ho2|with_reducible exact d1|with_reducible exact d2|with_reducible exact ht|with_reducible exact hbd|exact q1|exact q3|exact q4|(simp;done)|(intro h9;cases h9;done)|skip
theorem Qob(b1 b2:Bool)(r1:FnOk Pg g0 20 [ul p,ul j] (.bool true))(r2:FnOk Pg g0 21 [ul p,ul j] (i6 0))(ho1:FnOk Pg g0 22 [ul p,ul j,.agg [i6 g,.im nR RR,.im nN NN]] (.tup [.bool b1,i6 0]))(ho2:FnOk Pg g0 22 [ul p,ul j,.agg [i6 g2,.im nR2 RR2,.im nN2 NN2]] (.tup [.bool b2,i6 0]))(hq1:FnOk Pg g0 23 [ul p,ul j,.agg [i6 g,.im nR RR,.im nN NN]] (.bool b1))(hq2:FnOk Pg g0 23 [ul p,ul j,.agg [i6 g2,.im nR2 RR2,.im nN2 NN2]] (.bool b2))(e1:FnOk Pg g0 24 [ul p,ul j,u6 (s:Nat)] (.tup [.nils,i6 2]))(n1:s/2^p.length≠0)(w2:Nat)(A2:List V)(f2:HfL A2)(e2:FnOk Pg g0 24 [ul p,ul j,u6 ((s&&& alN p.length):Nat)] (.tup [.im w2 A2,i6 0]))(n2:(s&&& alN p.length)/2^p.length=0)(o2:FnOk Pg g0 26 [ul j,u6 ((s&&& alN p.length):Nat)] (.im w2 A2))(u2:FnOk Pg g0 25 [.im w2 A2,.im w2 A2] (.bool true)): ∃hs n,vc Pg vE sp0 none 0 n (at' 4 [1,1,1,1,1,0,1,0,0]) hs (mkSt g0 172 (lwS bw ba bk bn g nR RR nN NN s C k)) (Qci 0 172 [0,1,2] (lwS bw ba bk bn g nR RR nN NN s C (k+1))):=by
 have hpf:=Qag p
 have hjf:=Qag j
 obtain⟨q1,q2⟩:=Qew (G:=Qac Pg) (t:=29) (k:=p.length) (by omega)
 have q3:wr .u64 (((2^p.length:Nat):Int)-1)=((alN p.length:Nat):Int):=by
  have:=Nat.two_pow_pos p.length
  unfold alN
  rw[wr_eq,show((2^p.length:Nat):Int)-1=((2^p.length-1:Nat):Int)by omega]
  exact Qez (by omega)
 have q4:=Qje (G:=Qac Pg) (t:=29) hs (Qfz (n:=p.length) (by omega))
 have v1:=Qc5 (G:=Qac Pg) (t:=29) (x:=s) (k:=p.length) (by omega)
 have v2:=Qc5 (G:=Qac Pg) (t:=29) (x:=(s&&& alN p.length)) (k:=p.length) (by omega)
 rw[n2]at v2
 clear n2
 generalize s/2^p.length=x1 at*
 generalize s&&& alN p.length=t2 at*
 generalize alN p.length=al at*
 generalize 2^p.length=z at*
 refine⟨[yes 44,pl 45,ld 46 (.agg [ul p,ul j]),fn 51 (.bool true),fn 56 (i6 0),fn 72 (.agg [i6 g2,.im nR2 RR2,.im nN2 NN2]),(0,.unroll 3),fn 83 (.tup [.bool b1,i6 0]),fn 107 (.bool b1),no 108,fn 83 (.tup [.bool b2,i6 0]),fn 107 (.bool b2),no 108,va 118 (u6 (z:Nat)),nu 119 (al:Nat),va 120 (u6 (t2:Nat)),(0,.unroll 3),fn 131 (.tup [.nils,i6 2]),va 149 (u6 (x1:Nat)),yes 150,fn 131 (.tup [.im w2 A2,i6 0]),va 149 (u6 (0:Nat)),no 150,fn 166 (.im w2 A2),fn 167 (.bool true),nu 171 ((k+1:Nat):Int)],1000,?_⟩
 refine m_ (p:=let y4:=An [Tt,Tt,TT 3,Tt];let z1:=V.im j.length (ut j);let z2:=[i6 g,V.im nR RR,V.im nN NN];let z3:=V.im p.length (ut p);let z4:=[i6 g2,V.im nR2 RR2,V.im nN2 NN2];let z5:=[w8 ↑bw,w8 ↑ba,w8 ↑bk,i6 bn];let z6:=V.im w2 A2;let z7:=Qac Tryz.prog;let z8:=O.row 34 none [i6 0,V.nils,V.nils];let z9:=(↑(k+1):Int);let y0:=(↑k:Int);let y1:=i6 ↑p.length;let y2:=u6 ↑t2;let y3:=V.bool true;let z0:=pt (pt (pt (pt (pt (pt (ofOs T.e 0 [bdO bw ba bk bn,cuO g nR RR nN NN,O.row 56 (some 2) C]) 3 (O.row 56 none [V.nils,V.nils])) 3 (O.row 56 none [ul p,ul j])) 4 z8) 4 (O.row 34 none z2)) 5 z8) 5 (O.row 34 none z4);An [decide (y0<(3:Int))=true,An [(0:Int)≤y0,y0<(↑(3:Nat):Int)],takeE 2 (dropF (0+k*2) C)=some [ul p,ul j],TT 2,FnOk Pg g0 20 [z3,z1] y3,Tt,TT 2,FnOk Pg g0 21 [z3,z1] (i6 0),Tt,An [TT 4,TT 3,Tt],FnOk Pg g0 7 [V.agg z5,V.agg z2] (V.agg z4),Tt,y4,FnOk Pg g0 22 [z3,z1,V.agg z2] (V.tup [V.bool b1,i6 0]),Tt,y4,FnOk Pg g0 23 [z3,z1,V.agg z2] (V.bool b1),Tt,(!b1==b1)=false,y4,FnOk Pg g0 22 [z3,z1,V.agg z4] (V.tup [V.bool b2,i6 0]),Tt,y4,FnOk Pg g0 23 [z3,z1,V.agg z4] (V.bool b2),Tt,(!b2==b2)=false,binV z7 BinOp.shl 29 (u6 1) y1=some (u6 ↑z),wr .u64 ((↑z:Int)-(1:Int))=(↑al:Int),binV z7 BinOp.and 29 (u6 ↑s) (u6 ↑al)=some y2,TT 3,FnOk Pg g0 24 [z3,z1,u6 ↑s] (V.tup [V.nils,i6 2]),Tt,binV z7 BinOp.shr 29 (u6 ↑s) y1=some (u6 ↑x1),((↑x1:Int) != (0:Int))=true,TT 3,FnOk Pg g0 24 [z3,z1,y2] (V.tup [z6,i6 0]),Tt,binV z7 BinOp.shr 29 y2 y1=some (u6 ↑(0:Nat)),((↑(0:Nat):Int) != (0:Int))=false,TT 2,FnOk Pg g0 26 [z1,y2] z6,Tt,TT 2,FnOk Pg g0 25 [z6,z6] y3,An [(V.fn 26 []=V.fn 25 []→[ul j,y2]=[z6,z6]→z0=z0→3+1+1+1=6→CR.mk z6 z0 6 []=CR.mk y3 z0 6 []),Tt],wr .i64 (y0+(1:Int))=z9,An [Sm (↑s:Int),Zz,Zz,An [Zz,3=3,Tt],Sm (3:Int),z9=z9,Tt],An [z5=z5,TT 4],An [z2=z2,TT 3],An [C=C,HfL C],Tt]) ?_
 (repeat'(first|(with_reducible apply And.intro)|(refine fun(_:True)=>?_)))<;>first|exact aq|skip
 all_goals first|with_reducible exact r1|with_reducible exact r2|with_reducible exact ho1|with_reducible exact ho2|with_reducible exact hq1|with_reducible exact hq2|with_reducible exact e1|with_reducible exact v1|exact n1|(simp;exact n1)|omega|with_reducible exact e2|with_reducible exact v2|with_reducible exact o2|with_reducible exact u2|with_reducible exact ht|with_reducible exact hbd|exact q1|exact q3|exact q4|(cases b1<;>rfl)|(cases b2<;>rfl)|(simp;done)|(intro h9;cases h9;done)|skip
theorem Qoc(b1 b2:Bool)(r1:FnOk Pg g0 20 [ul p,ul j] (.bool true))(r2:FnOk Pg g0 21 [ul p,ul j] (i6 0))(ho1:FnOk Pg g0 22 [ul p,ul j,.agg [i6 g,.im nR RR,.im nN NN]] (.tup [.bool b1,i6 0]))(ho2:FnOk Pg g0 22 [ul p,ul j,.agg [i6 g2,.im nR2 RR2,.im nN2 NN2]] (.tup [.bool b2,i6 0]))(hq1:FnOk Pg g0 23 [ul p,ul j,.agg [i6 g,.im nR RR,.im nN NN]] (.bool b1))(hq2:FnOk Pg g0 23 [ul p,ul j,.agg [i6 g2,.im nR2 RR2,.im nN2 NN2]] (.bool b2))(w1:Nat)(A1:List V)(f1:HfL A1)(e1:FnOk Pg g0 24 [ul p,ul j,u6 (s:Nat)] (.tup [.im w1 A1,i6 0]))(n1:s/2^p.length=0)(o1:FnOk Pg g0 26 [ul j,u6 (s:Nat)] (.im w1 A1))(u1:FnOk Pg g0 25 [.im w1 A1,.im w1 A1] (.bool true))(w2:Nat)(A2:List V)(f2:HfL A2)(e2:FnOk Pg g0 24 [ul p,ul j,u6 ((s&&& alN p.length):Nat)] (.tup [.im w2 A2,i6 0]))(n2:(s&&& alN p.length)/2^p.length=0)(o2:FnOk Pg g0 26 [ul j,u6 ((s&&& alN p.length):Nat)] (.im w2 A2))(u2:FnOk Pg g0 25 [.im w2 A2,.im w2 A2] (.bool true)): ∃hs n,vc Pg vE sp0 none 0 n (at' 4 [1,1,1,1,1,0,1,0,0]) hs (mkSt g0 172 (lwS bw ba bk bn g nR RR nN NN s C k)) (Qci 0 172 [0,1,2] (lwS bw ba bk bn g nR RR nN NN s C (k+1))):=by
 have hpf:=Qag p
 have hjf:=Qag j
 obtain⟨q1,q2⟩:=Qew (G:=Qac Pg) (t:=29) (k:=p.length) (by omega)
 have q3:wr .u64 (((2^p.length:Nat):Int)-1)=((alN p.length:Nat):Int):=by
  have:=Nat.two_pow_pos p.length
  unfold alN
  rw[wr_eq,show((2^p.length:Nat):Int)-1=((2^p.length-1:Nat):Int)by omega]
  exact Qez (by omega)
 have q4:=Qje (G:=Qac Pg) (t:=29) hs (Qfz (n:=p.length) (by omega))
 have v1:=Qc5 (G:=Qac Pg) (t:=29) (x:=s) (k:=p.length) (by omega)
 rw[n1]at v1
 have v2:=Qc5 (G:=Qac Pg) (t:=29) (x:=(s&&& alN p.length)) (k:=p.length) (by omega)
 rw[n2]at v2
 clear n1
 clear n2
 generalize s&&& alN p.length=t2 at*
 generalize alN p.length=al at*
 generalize 2^p.length=z at*
 refine⟨[yes 44,pl 45,ld 46 (.agg [ul p,ul j]),fn 51 (.bool true),fn 56 (i6 0),fn 72 (.agg [i6 g2,.im nR2 RR2,.im nN2 NN2]),(0,.unroll 3),fn 83 (.tup [.bool b1,i6 0]),fn 107 (.bool b1),no 108,fn 83 (.tup [.bool b2,i6 0]),fn 107 (.bool b2),no 108,va 118 (u6 (z:Nat)),nu 119 (al:Nat),va 120 (u6 (t2:Nat)),(0,.unroll 3),fn 131 (.tup [.im w1 A1,i6 0]),va 149 (u6 (0:Nat)),no 150,fn 166 (.im w1 A1),fn 167 (.bool true),fn 131 (.tup [.im w2 A2,i6 0]),va 149 (u6 (0:Nat)),no 150,fn 166 (.im w2 A2),fn 167 (.bool true),nu 171 ((k+1:Nat):Int)],1000,?_⟩
 refine m_ (p:=let y7:=An [Tt,Tt,TT 3,Tt];let z1:=V.im j.length (ut j);let z2:=[i6 g,V.im nR RR,V.im nN NN];let z3:=V.im p.length (ut p);let z4:=[i6 g2,V.im nR2 RR2,V.im nN2 NN2];let z5:=[w8 ↑bw,w8 ↑ba,w8 ↑bk,i6 bn];let z6:=V.im w1 A1;let z7:=V.im w2 A2;let z8:=Qac Tryz.prog;let z9:=V.bool true;let y0:=O.row 34 none [i6 0,V.nils,V.nils];let y1:=((↑(0:Nat):Int) != (0:Int));let y2:=(↑(k+1):Int);let y3:=(↑k:Int);let y4:=i6 ↑p.length;let y5:=u6 ↑t2;let y6:=some (u6 ↑(0:Nat));let z0:=pt (pt (pt (pt (pt (pt (ofOs T.e 0 [bdO bw ba bk bn,cuO g nR RR nN NN,O.row 56 (some 2) C]) 3 (O.row 56 none [V.nils,V.nils])) 3 (O.row 56 none [ul p,ul j])) 4 y0) 4 (O.row 34 none z2)) 5 y0) 5 (O.row 34 none z4);An [decide (y3<(3:Int))=true,An [(0:Int)≤y3,y3<(↑(3:Nat):Int)],takeE 2 (dropF (0+k*2) C)=some [ul p,ul j],TT 2,FnOk Pg g0 20 [z3,z1] z9,Tt,TT 2,FnOk Pg g0 21 [z3,z1] (i6 0),Tt,An [TT 4,TT 3,Tt],FnOk Pg g0 7 [V.agg z5,V.agg z2] (V.agg z4),Tt,y7,FnOk Pg g0 22 [z3,z1,V.agg z2] (V.tup [V.bool b1,i6 0]),Tt,y7,FnOk Pg g0 23 [z3,z1,V.agg z2] (V.bool b1),Tt,(!b1==b1)=false,y7,FnOk Pg g0 22 [z3,z1,V.agg z4] (V.tup [V.bool b2,i6 0]),Tt,y7,FnOk Pg g0 23 [z3,z1,V.agg z4] (V.bool b2),Tt,(!b2==b2)=false,binV z8 BinOp.shl 29 (u6 1) y4=some (u6 ↑z),wr .u64 ((↑z:Int)-(1:Int))=(↑al:Int),binV z8 BinOp.and 29 (u6 ↑s) (u6 ↑al)=some y5,TT 3,FnOk Pg g0 24 [z3,z1,u6 ↑s] (V.tup [z6,i6 0]),Tt,binV z8 BinOp.shr 29 (u6 ↑s) y4=y6,y1=false,TT 2,FnOk Pg g0 26 [z1,u6 ↑s] z6,Tt,TT 2,FnOk Pg g0 25 [z6,z6] z9,An [(V.fn 26 []=V.fn 25 []→[ul j,u6 ↑s]=[z6,z6]→z0=z0→3+1+1+1=6→CR.mk z6 z0 6 []=CR.mk z9 z0 6 []),Tt],TT 3,FnOk Pg g0 24 [z3,z1,y5] (V.tup [z7,i6 0]),Tt,binV z8 BinOp.shr 29 y5 y4=y6,y1=false,TT 2,FnOk Pg g0 26 [z1,y5] z7,Tt,TT 2,FnOk Pg g0 25 [z7,z7] z9,An [(V.fn 26 []=V.fn 25 []→[ul j,y5]=[z7,z7]→z0=z0→3+1+1+1=6→CR.mk z7 z0 6 []=CR.mk z9 z0 6 []),Tt],wr .i64 (y3+(1:Int))=y2,An [Sm (↑s:Int),Zz,Zz,An [Zz,3=3,Tt],Sm (3:Int),y2=y2,Tt],An [z5=z5,TT 4],An [z2=z2,TT 3],An [C=C,HfL C],Tt]) ?_
 (repeat'(first|(with_reducible apply And.intro)|(refine fun(_:True)=>?_)))<;>first|exact aq|skip
 all_goals first|with_reducible exact r1|with_reducible exact r2|with_reducible exact ho1|with_reducible exact ho2|with_reducible exact hq1|with_reducible exact hq2|with_reducible exact e1|with_reducible exact v1|with_reducible exact o1|with_reducible exact u1|with_reducible exact e2|with_reducible exact v2|with_reducible exact o2|with_reducible exact u2|with_reducible exact ht|with_reducible exact hbd|exact q1|exact q3|exact q4|(cases b1<;>rfl)|(cases b2<;>rfl)|(simp;done)|(intro h9;cases h9;done)|skip
end
variable {P:Program}
def SatO(P:Program):Option Nat→Option Nat→Nat→Code→St→(Ex→St→Prop)→Prop
 |none,rd,nx0,c,st,R=>Sat P rd nx0 c st R
 |some f,rd,nx0,c,st,R=>SatF P f rd nx0 c st R
abbrev PX:=Option Nat→Option Nat→Code→St→Option (V×St)
def crOf:Option (V×St)→Option CR
 |some (v,st)=>some ⟨v,st.H,st.nx,st.lg⟩
 |none=>none
def panCallX (E : Env) (px : PX) (ex : Option Nat → Code → St → Option Rs) : Qoq := fun g l H nx gl => match g with
 | .fn f caps => match E.code f with
  |some fi=>bif Nat.ble (l++caps).length fi.ntmps then(match crOf (px none none fi.body ⟨⟨putAll (blank fi.ntmps) 0 (l++caps),gl,fi.ntmps⟩,H,nx,[]⟩)with
   |some r=>some r
   |none=>crOf (px (some f) none fi.body ⟨⟨putAll (blank fi.ntmps) 0 (l++caps),gl,fi.ntmps⟩,H,nx,[]⟩))else none
  |none=>none
 | .yld hd => match H.get hd with
  | some (.loop .ready _ (f0 + 1) tm ps asg body) => match E.code f0, putPs tm ps l with
   | some _, some tm1 => match ex (some hd) asg ⟨tm1, H, nx, []⟩ with
    |some [(.normal,st1)]=>match st1.H.get hd with
     |some (.loop .ready pd1 fn1 tmx ps1 as1 bd1)=>crOf (px (some f0) (some hd) body ⟨st1.tm,st1.H.put hd (.loop .busy pd1 fn1 tmx ps1 as1 bd1),st1.nx,hd::st1.lg⟩)
     | _=>none
    | _=>none
   | _,_=>none
  | _=>none
 | _=>none
def panX (E : Env) : Nat → PX
 |0,_,_,_,_=>none
 | n + 1, f, rd, c, st => match c with
  | .seq a b=>match exec E n rd a st with
   |some [(.normal,st1)]=>panX E n f rd b st1
   | _=>panX E n f rd a st
  | .cond c a b=>match ev st.tm c with
   |some (.bool t)=>panX E n f rd (bif t then a else b) st
   | _=>none
  | .block _ b=>panX E n f rd b st
  | .scope b=>panX E n f rd b st
  | .loop b=>match f with
   |none=>panL (exec E n rd b) (panX E n none rd b) n st
   |some _=>none
  | .rangeFunc g ps asg body => match f, ev st.tm g with
   |some f0,some (.fn f' caps)=>bif rdOk rd st.H then(match panCallX E (panX E n) (exec E n) (.fn f' caps) [.yld st.nx] (st.H.put st.nx (.loop .ready none (f0+1) st.tm ps.toList asg body)) (st.nx+1) st.tm.gl with
    |some r=>some (r.v,⟨st.tm,r.H,r.nx,r.lg++st.lg⟩)
    |none=>none)else none
   | _,_=>none
  | .region _ ops draw=>panR E (callW E (exec E n) st.tm.gl) (panCallX E (panX E n) (exec E n)) ops draw st
  | _=>none
theorem Qkt{x:Option (V×St)}{r:CR}(h:crOf x=some r): ∃v st,x=some (v,st)∧r=⟨v,st.H,st.nx,st.lg⟩:=by
 unfold crOf at h
 grind
def PxOk(P:Program)(px:PX):Prop:=∀f rd c st v st',px f rd c st=some (v,st')→∀nx0,SatO P f rd nx0 c st (fun e s=>e= .pan v∧s=st')
theorem Qeh{E:Env}(hE:E.Ok P)(hm:P.follows .mixedOrders=true){n:Nat}{rd:Option Nat}{c:Code}{st st1:St}(hx:exec E n rd c st=some [(.normal,st1)]){nx0:Nat}:Sat P rd nx0 c st (fun e s=>e= .normal∧s=st1):=by
 intro B s0 w0 s w a hn hB hrd A Q hQ
 have e:rd.map s0.μ=rd.map s.μ:=by
  cases rd with
  |none=>rfl
  |some h=>exact congrArg some (A.step.le.μ h (hrd h rfl)).symm
 rw[e]
 exact(Qdj hE hm n).one rd c st st1 .normal s w a B hx A.rel (Nat.le_trans hB A.step.mod.size) (fun h e=>A.step.le.dom h (hrd h e)) Q (fun a' w'⟨lg,s',W⟩=>hQ .normal st1 ⟨rfl,rfl⟩ s' w' a' (A.went W))
theorem Qgw{E:Env}(hE:E.Ok P)(hm:P.follows .mixedOrders=true){n:Nat}{px:PX}(hpx:PxOk P px){g:V}{l:List V}{H:T O}{nx:Nat}{gl:T (List V)}{r:CR}(h:panCallX E px (exec E n) g l H nx gl=some r):CallPan P gl g l H nx r:=by
 unfold panCallX at h
 split at h
 ·rename_i f' caps
  split at h
  ·rename_i fi hfi
   obtain⟨hle,h⟩:=Qam h
   split at h
   ·rename_i r' h1
    cases h
    obtain⟨v,st,e,rfl⟩:=Qkt h1
    exact CallPan.fn hE hfi hle ((hpx _ _ _ _ _ _ e nx).mono fun e s⟨h1,h2⟩=>⟨h1,by rw[h2],by rw[h2],by rw[h2]⟩)
   ·obtain ⟨v, st, e, rfl⟩ := Qkt h
    exact CallPan.fnF hE hfi hle ((show SatF P _ _ _ _ _ _ from hpx _ _ _ _ _ _ e nx).mono fun e s⟨h1,h2⟩=>⟨h1,by rw[h2],by rw[h2],by rw[h2]⟩)
  ·cases h
 ·rename_i hd
  split at h
  ·rename_i pd f0 tm ps asg body ho
   split at h
   ·rename_i fi tm1 hfi htm
    split at h
    ·rename_i st1 h1
     split at h
     ·rename_i pd1 fn1 tmx ps1 as1 bd1 ho1
      obtain⟨v,st,e,rfl⟩:=Qkt h
      obtain⟨fn,f1,_⟩:=hE.code _ _ hfi
      refine CallPan.yld f1 ho htm (SatF.of ((Qeh hE hm h1).mono ?_))
      rintro e' s ⟨rfl,rfl⟩
      exact⟨rfl,_,_,_,_,_,_,ho1,(show SatF P _ _ _ _ _ _ from hpx _ _ _ _ _ _ e nx).mono fun e s⟨h1,h2⟩=>⟨h1,by rw[h2],by rw[h2],by simp_all⟩⟩
     ·cases h
    ·cases h
   ·cases h
  ·cases h
 ·cases h
theorem Qri{E:Env}(hE:E.Ok P)(hm:P.follows .mixedOrders=true): ∀n,PxOk P (panX E n)
 |0,_,_,_,_,_,_,h,_=>by cases h
 | n + 1, f, rd, c, st, v, st', h, nx0 => by
  have ih:=Qri hE hm n
  have up: ∀{c st R},Sat P rd nx0 c st R→SatO P f rd nx0 c st R:=fun k=>by cases f;exact k;exact SatF.of k
  unfold panX at h
  split at h
  ·split at h
   ·rename_i h1
    cases f
    ·exact Sat.seq (Qeh hE hm h1) (fun s⟨_,e⟩=>by subst e;exact ih _ _ _ _ _ _ h nx0) (fun e s hne⟨he,_⟩=>absurd he hne)
    ·exact SatF.seq (SatF.of (Qeh hE hm h1)) (fun s⟨_,e⟩=>by subst e;exact ih _ _ _ _ _ _ h nx0) (fun e s hne⟨he,_⟩=>absurd he hne)
   ·have h1 := ih _ _ _ _ _ _ h nx0
    cases f
    ·exact Sat.seq h1 (fun s⟨e,_⟩=>by cases e) (fun _ _ _ h=>h)
    ·exact SatF.seq h1 (fun s⟨e,_⟩=>by cases e) (fun _ _ _ h=>h)
  ·split at h
   ·rename_i t ht
    have h1:=ih _ _ _ _ _ _ h nx0
    cases f
    ·exact Sat.cond ht h1
    ·exact SatF.cond ht h1
   ·cases h
  ·have h1 := ih _ _ _ _ _ _ h nx0
   cases f
   ·exact Sat.block h1 (fun s⟨e,_⟩=>by cases e) (fun _ _ _ h=>h)
   ·exact SatF.block h1 (fun s⟨e,_⟩=>by cases e) (fun _ _ _ h=>h)
  ·have h1 := ih _ _ _ _ _ _ h nx0
   cases f
   ·exact Sat.scope h1
   ·exact SatF.scope h1
  ·rename_i b
   split at h
   ·have key : ∀ (k : Nat) (st : St), panL (exec E n rd b) (panX E n none rd b) k st = some (v, st') → Lp P rd nx0 b (fun e s => e = .pan v ∧ s = st') k st := by
     intro k
     induction k with
     |zero=>intro st h;cases h
     | succ k ihk =>
      intro st h
      unfold panL at h
      split at h
      ·rename_i st1 h1
       exact(Qeh hE hm h1).mono fun e s⟨e1,e2⟩=>.inl ⟨e1,by rw[e2];exact ihk _ h⟩
      ·exact(show Sat P _ _ _ _ _ from ih _ _ _ _ _ _ h nx0).mono fun e s h=>.inr ⟨fun e1=>(by simp_all),h⟩
    exact(key n st h).sat
   ·cases h
  ·split at h
   ·rename_i f0 f' caps hg
    obtain⟨hb,h⟩:=Qam h
    split at h
    ·rename_i r hr
     cases h
     exact SatF.rangePan hg hb (Qgw hE hm ih hr) ⟨rfl,rfl⟩
    ·cases h
   ·cases h
  all_goals grind[panR_ok,Qgw]
variable {P:Program}
inductive Chain(P:Program)(E:Env)(gl:T (List V))(res:List ResultVar)(nx:Nat)(Z:V→T O→Nat→List Nat→Prop):(St→Prop)→Code→Prop
 |more {R R':St→Prop} {c2 X:Code} (h: ∀st,R st→Sat P none nx c2 st (fun e st'=>(e= .normal∧st'.tm.gl=gl∧R' st')∨(e= .ret∧∃v,retV E.G st'.tm st'.H res=some v∧Z v st'.H st'.nx st'.lg))) (k:Chain P E gl res nx Z R' X):Chain P E gl res nx Z R (.seq c2 X)
 |last {R:St→Prop} {id:Nat} {ops:Array Oper} {rest:Code} (h: ∀st,R st→∃(st3:St)(g:Nat)(dcaps dars:List V)(call:Qap)(i:Nat)(o:Oper)(c:Call)(fo:Operand)(fg:FI),Qbj P gl call∧seqR E call ops (ops.toList.take i) st=some st3∧ops[i]? =some o∧wantedV st3.tm ops o=some true∧o.op= .defer c∧c.callee= .value fo∧ev st3.tm fo=some (.fn g dcaps)∧evs st3.tm c.args.toList=some dars∧i+1=ops.size∧o.dst=none∧E.code g=some fg∧st3.tm.gl=gl∧
Sat P none st3.nx rest ⟨st3.tm,st3.H,st3.nx,[]⟩ (fun e st4=>Ql1 P E gl g dcaps dars res (fun v H' nx' lg'=>Z v H' nx' (lg'++st3.lg)) e st4)):Chain P E gl res nx Z R (.seq (.region id ops false) rest)
theorem CallSpec.guardC {E : Env} (hE : E.Ok P) {gl : T (List V)} {f : Nat} {caps ars : List V} {H : T O} {nx : Nat} {r : CR} {fi : FI} (hfi : E.code f = some fi) (hle : Nat.ble (ars ++ caps).length fi.ntmps = true) (hlog : Log H.get nx r.H.get r.nx r.lg)
  {Z:V→T O→Nat→List Nat→Prop}
  (hZ: ∀v H' nx' lg',Z v H' nx' lg'→∀(s:Sig)(w:World)(ee:Ending)(w':World),RH s w H.get→(∀i,nx≤i→¬s.dom i)→Qbb s w nx ⟨v,H',nx',lg'⟩ ee w'→Qbb s w nx r ee w')
  (hch:Chain P E gl fi.res nx Z (fun st=>st=⟨⟨putAll (blank fi.ntmps) 0 (ars++caps),gl,fi.ntmps⟩,H,nx,[]⟩) fi.body):CallSpec P gl (.fn f caps) ars H nx r:=by
 refine⟨fun s w fv vals hc hargs hH hgl hn=>?_,hlog⟩
 obtain⟨vs,rfl,hcaps⟩:=hc
 have hrun: ∀x:Result Next,(callFunc f (vals++vs)).run P w=x→((do let d←Deferred.ofValue (.func (.func f) #[] vs) vals;invoke d.target d.args):Sem Next).run P w=x:=by
  intro x hx;simp[Deferred.ofValue,invoke,hx]
 obtain⟨fn,f1,f2,f3,f4,f5⟩:=hE.code f fi hfi
 refine⟨_,hrun _ (f5 _ w),?_,fun _=>⟨_,_,rfl⟩⟩
 have A0:=Qef hE hfi hle hcaps hargs hH hgl hn []
 refine callsIn_of_wp_marks (F:=Fence.wide) (n:=4) f1 f2 trivial (Qbr (n:=5) (l:=none) ?_)
 rw[f3]
 -- a frame that leaves with marks alone
 have leave: ∀(Ds:List Nat)(tm:TM)(H':T O)(nx':Nat)(lg':List Nat)(s':Sig)(w':World)(a':Act)(v:V),a'.defers=Ds.map Qc8→Ds.Nodup→(∀D∈Ds,DOk w.heap.size s' w' D)→RH s' w' H'.get→RT s' w' tm a'.tmps→Step s w s' w' lg'→(∀i,s'.dom i↔s.dom i∨nx≤i∧i<nx')→nx≤nx'→
   retV E.G tm H' fi.res=some v→Z v H' nx' lg'→∀Ds':List Nat,Ds'.Nodup→(∀D∈Ds',D∈Ds)→LeavesInM Fence.wide 4 P fn a'.tmps (Qbb s w nx r) (Ds'.map Qc8++[]) .returning w':=by
  intro Ds tm H' nx' lg' s' w' a' v hd hnd hdk hH' hT hs hdom hnx hret hz Ds' hnd' hsub
  refine Qb2 (F:=Fence.wide) (by simp) Ds' w' hnd' (fun D hD=>(hdk D (hsub D hD)).2.2.1) (fun w'' g1 g2 g3 g4 g5=>?_)
  have A:Ats ⟨w.heap.size,[],[]⟩ s w nx ⟨tm,H',nx',lg'⟩ s' w' {a' with defers:=Ds.map Qc8}:=⟨⟨hH',hT,fun i hi hdm=>by
   rcases(hdom i).1 hdm with h|h
   ·exact hn i (Nat.le_trans hnx hi) h
   ·dsimp only at hi;omega,Ds,by simp,by simpa using hnd,by simpa using hdk⟩,hs,hdom,hnx⟩
  obtain⟨k1,k2,k3⟩:=A.unmarked (Ds:=Ds') (Nat.le_refl _) (fun D hD=>hdk D (hsub D hD)) g1 g2 g3 g4 g5 hH.old
  rw[←f4]at hret
  obtain⟨u,v1,v2⟩:=Qfv (P:=P) hE.G k1 (hT.mono (Sig.Le.refl s') k3) rfl hret
  exact⟨u,v2,hZ _ _ _ _ hz s w _ _ hH hn ⟨u,s',rfl,v1,k1,k2,hdom,hnx⟩⟩
 have main : ∀ (R : St → Prop) (X : Code), Chain P E gl fi.res nx Z R X → ∀ st2, R st2 → st2.tm.gl = gl → ∀ (s2 : Sig) (w2 : World) (a2 : Act), Ats ⟨w.heap.size, [], []⟩ s w nx st2 s2 w2 a2 → X.wpIn (FF none) 5 P (bodyPostM Fence.wide 4 P fn (Qbb s w nx r)) a2 w2 := by
  intro R X hch
  induction hch with
  | @more R R' c2 X h k ih =>
   intro st1 hr1 hg1 s1 w1 a1 A1
   refine wpIn_seq (h st1 hr1 _ s w s1 w1 a1 hn (Nat.le_refl _) (fun h e=>by cases e) A1 _ ?_)
   rintro e st2 (⟨rfl,hg2,hr2⟩|⟨rfl,v,hret,hz⟩) s2 w2 a2 A2
   ·exact ih st2 hr2 hg2 s2 w2 a2 A2
   ·skip
    obtain⟨Ds,d1,d2,d3⟩:=A2.rel.df
    have d2:=(List.nodup_append.1 d2).1
    have d3:=fun D(hD:D∈Ds)=>d3 D (List.mem_append.2 (.inl hD))
    show LeavesInM Fence.wide 4 P fn a2.tmps (Qbb s w nx r) a2.defers .returning w2
    rw[d1]
    have:=leave Ds st2.tm st2.H st2.nx st2.lg s2 w2 {a2 with defers:=Ds.map Qc8} v rfl d2 d3 A2.rel.rh A2.rel.rt A2.step A2.dom A2.le hret hz Ds d2 (fun D hD=>hD)
    exact this
  | @last R id ops rest h =>
   intro st2 hr2 hg2 s2 w2 a2 A2
   obtain⟨st3,g,dcaps,dars,call,i,o,c,fo,fg,q1,q2,q3,q4,q5,q6,q7,q8,q9,q10,q11,q12,q13⟩:=h st2 hr2
   refine wpIn_seq ?_
   refine wpIn_region ?_
   have hlen:(ops.toList.take i).length=i:=by rw[List.length_take,Array.length_toList];omega
   have hsp:List.range ops.size=List.range' 0 (ops.toList.take i).length++[i]:=by
    rw[hlen,List.range_eq_range',←q9,List.range'_1_concat];simp
   rw[hsp]
   refine Qg8 _ _ _ ?_
   refine Qh3 hE.G hE.ext (gl:=gl) q1 (l:=none) (ops.toList.take i) 0 st2 st3 s2 w2 a2 (fun j hj=>?_) q2 hg2 A2.rel ?_
   ·rw [hlen] at hj
    rw[List.getElem?_take_of_lt hj,Array.getElem?_toList,Nat.zero_add]
   ·rintro a3 w3 ⟨lg3, s3, W3⟩
    have A3:=A2.went W3
    show wpOpsIn _ _ _ _ _ _ _ _
    rw[wpOpsIn_cons]
    unfold wpOpIn
    rw[q3]
    dsimp only
    rw[if_pos (Qa3 A3.rel.rt q4)]
    refine defer_wp (l:=none) rfl q5 q6 A3.rel.rt q7 q8 (fun dvs dvals hdc hda=>?_)
    obtain⟨Ds0,d1,d2,d3⟩:=A3.rel.df
    have d2:=(List.nodup_append.1 d2).1
    have d3:=fun D(hD:D∈Ds0)=>d3 D (List.mem_append.2 (.inl hD))
    rw[List.append_nil]at d1
    have hnx3:=A3.rel.nx
    -- the rest, in a frame of its own reckoning
    have A3':Ats ⟨w3.heap.size,{target:=.fn (.func g) dvs,args:=dvals}::Ds0.map Qc8,[]⟩ s3 w3 st3.nx ⟨st3.tm,st3.H,st3.nx,[]⟩ s3 w3 ({a3 with defers:={target:=.fn (.func g) dvs,args:=dvals}::a3.defers}.put o.dst undef):=by
     rw[q10]
     exact⟨⟨A3.rel.rh,A3.rel.rt,hnx3,[],by show _::a3.defers=_;rw[d1];rfl,List.nodup_nil,fun D hD=>by simp at hD⟩,Step.refl s3 w3 [],dom_same s3 _,Nat.le_refl _⟩
    show wpOpsIn (FF none) 5 P ops _ [] _ w3
    show Code.wpIn _ _ _ _ _ _ _
    refine q13 _ s3 w3 s3 w3 _ hnx3 (Nat.le_refl _) (fun h e=>by cases e) A3' _ ?_
    rintro e st4 ⟨pan,r4,hpan,hdef,v,hret,hz⟩ s4 w4 a4 A4
    -- the frame leaves: its own marks, the closure, the marks ahead of it
    have key : ∀ (u : Value), (∀ x, pan = some x → ∀ s2 w2, RV s2 w2 x u) → LeavesInM Fence.wide 4 P fn a4.tmps (Qbb s w nx r) a4.defers (defMode pan false u) w4 := by
     intro u hu
     obtain⟨Ds4,e1,e2,e3⟩:=A4.rel.df
     have e2:=(List.nodup_append.1 e2).1
     have e3:=fun D(hD:D∈Ds4)=>e3 D (List.mem_append.2 (.inl hD))
     rw[e1]
     refine Qb2 (F:=Fence.wide) (Qhq _ _ _) Ds4 w4 e2 (fun D hD=>(e3 D hD).2.2.1) (fun w5 g1 g2 g3 g4 g5=>?_)
     obtain⟨k1,k2,k3⟩:=A4.unmarked (Ds:=Ds4) (Nat.le_refl _) e3 g1 g2 g3 g4 g5 A3.rel.rh.old
     have hgl4:GL s4 w5 gl:=by
      have:RT s4 w5 st3.tm a3.tmps:=A3.rel.rt.mono k2.le k2.k
      rw[←q12];exact this.2.2
     obtain⟨fng,y1,y2,y3,y4,y5⟩:=hE.code g fg q11
     have hcl:=hdef s4 w5 dvs dvals u (RL.mono k2.le k2.k _ _ hdc) (RL.mono k2.le k2.k _ _ hda) k1 hgl4 A4.rel.nx hu
     refine⟨Qhq _ _ _,.inr ⟨fun h=>(by cases h),.func g,dvs,g,dvals++dvs,rfl,by simp[invoke,y5],fun _ _=>trivial,hcl.mono ?_⟩⟩
     rintro ee u' w6 ⟨⟨uu,s6,rfl,_,z2,z3,z4,z5⟩,rfl⟩
     show LeavesInM Fence.wide 4 P fn a4.tmps (Qbb s w nx r) (Ds0.map Qc8) (settle (defMode pan true u)) w6
     rw[Qoi]
     have hs36:Step s3 w3 s6 w6 (r4.lg++st4.lg):=(k2.trans z3).more (fun x hx=>by rw[List.mem_append]at hx⊢;exact hx.symm)
     have hdom6: ∀i,s6.dom i↔s.dom i∨nx≤i∧i<r4.nx:=fun i=>by
      rw[z4,A4.dom,A3.dom]
      have b1:=A3.le
      have b2:=A4.le
      constructor
      ·rintro ((h | h) | h)
       ·exact h.imp (fun h=>h) (fun h=>⟨h.1,by omega⟩)
       ·exact .inr ⟨by omega,by omega⟩
       ·exact .inr ⟨by omega,h.2⟩
      ·rintro (h | h)
       ·exact .inl (.inl (.inl h))
       ·by_cases h3 : i < st3.nx
        ·exact .inl (.inl (.inr ⟨h.1,h3⟩))
        ·by_cases h4 : i < st4.nx
         ·exact .inl (.inr ⟨by omega,h4⟩)
         ·exact .inr ⟨by omega,h.2⟩
     have:=leave Ds0 st4.tm r4.H r4.nx (r4.lg++st4.lg++st3.lg) s6 w6 {a4 with defers:=Ds0.map Qc8} v rfl d2 (fun D hD=>(d3 D hD).step hs36) z2 (A4.rel.rt.mono (Sig.Le.refl s4) k3 |>.mono z3.le z3.k) ((A3.step.trans hs36).more (fun x hx=>by simp only[List.mem_append]at hx⊢;rcases hx with h|h|h<;>simp[h])) hdom6 (Nat.le_trans A3.le (Nat.le_trans A4.le z5)) hret hz Ds0 d2 (fun D hD=>hD)
     rw[List.append_nil]at this
     exact this
    rcases hpan with⟨rfl|rfl,rfl⟩|⟨x,rfl,rfl⟩
    ·exact key .nilIface (fun x e=>by cases e)
    ·exact key .nilIface (fun x e=>by cases e)
    ·exact fun u hu=>key u (fun x' e=>by cases e;exact hu)
 exact main _ _ hch _ rfl rfl _ _ _ A0
def endS:Option Rs→Option (Ex×St)
 |some [(.normal,st)]=>some (.normal,st)
 |some [(.ret,st)]=>some (.ret,st)
 | _=>none
theorem Qp3{E:Env}(hE:E.Ok Pg){n nx0:Nat}{c:Code}{st st':St}{e:Ex}(h:endS (exec E n none c st)=some (e,st')){R:Ex→St→Prop}(hR:R e st'):(e= .normal∨e= .ret)∧Sat Pg none nx0 c st R:=by
 have key: ∀e:Ex,e= .normal∨e= .ret→exec E n none c st=some [(e,st')]→R e st'→(e= .normal∨e= .ret)∧Sat Pg none nx0 c st R:=fun e he hx hR=>⟨he,fun B s0 w0 s w a hn hB hrd A Q hQ=>by
  refine(Qdj hE Qaf n).one none c st st' e s w a B hx A.rel (Nat.le_trans hB A.step.mod.size) (fun h e=>by cases e) Q (fun a' w'⟨lg,s',W⟩=>?_)
  have h1:=hQ e st' hR s' w' a' (A.went W)
  rcases he with rfl|rfl<;>exact h1⟩
 unfold endS at h
 grind
noncomputable def Qpt(E:Env)(n g:Nat)(dc:List V)(x:V)(H:T O)(nx:Nat):Option St:=match E.code g with
 | some fg => match fg.body, fg.res with
  | .seq (.region _ ops false) c, [] => match ops.toList with
   | o :: os => match o.guard, o.op with
    | none, .call k => match k.callee with
     | .builtin .recover=>bif Nat.ble dc.length fg.ntmps then(match calmsR E ops H os ((⟨putAll (blank fg.ntmps) 0 dc,g0,fg.ntmps⟩:TM).put o.dst x)with
      |some tm1=>(endS (exec E n none c ⟨tm1,H,nx,[]⟩)).map (·.2)
      |none=>none)else none
     | _=>none
    | _,_=>none
   |[]=>none
  | _,_=>none
 |none=>none
theorem dRunX_ok{E:Env}(hE:E.Ok Pg){n g nx:Nat}{dc:List V}{pan:Option V}{H:T O}{st:St}(h:Qpt E n g dc (recV pan) H nx=some st):(∃fg,E.code g=some fg)∧DefSpec Pg g0 g dc [] H nx pan ⟨.tup [],st.H,st.nx,st.lg⟩:=by
 unfold Qpt at h
 split at h
 ·rename_i fg h1
  split at h
  ·rename_i id ops c hb hr
   split at h
   ·rename_i o os ho
    split at h
    ·rename_i k hg hop
     split at h
     ·rename_i hk
      obtain⟨hle,h⟩:=Qam h
      split at h
      ·rename_i tm1 e1
       obtain⟨⟨e,st'⟩,e2,e3⟩:=Option.map_eq_some_iff.1 h
       cases e3
       obtain⟨he,hs⟩:=Qp3 hE (nx0:=nx) (R:=fun e' s=>e'=e∧s=st') e2 ⟨rfl,rfl⟩
       refine⟨⟨fg,h1⟩,DefSpec.of hE h1 hle hb ho hg hop hk e1 (hs.mono ?_)⟩
       rintro e' s ⟨rfl,rfl⟩
       exact⟨he,by rw[hr];rfl,rfl,rfl,rfl⟩
      ·cases h
     ·cases h
    ·cases h
   ·cases h
  ·cases h
 ·cases h
noncomputable def retX(E:Env)(res:List ResultVar)(v:V)(tm:TM):Option St→Bool
 |some st=>match retV E.G tm st.H res with
  |some v0=>vxT st.H v v0
  |none=>false
 |none=>false
noncomputable def gEndX(E:Env)(n:Nat)(res:List ResultVar)(v:V)(st:St)(ops:Array Oper)(rest:Code):Bool:=match seqR E (tbl []) ops (ops.toList.take 1) st,ops[1]? with
 | some st3, some o => match wantedV st3.tm ops o, o.op, st3.tm.gl, o.dst with
  | some true, .defer c, .e, none => match c.callee, c.args.toList with
   | .value fo, [] => match ev st3.tm fo with
    | some (.fn g dc) => Nat.beq 2 ops.size && (match endS (exec E n none rest ⟨st3.tm, st3.H, st3.nx, []⟩) with
     |some (_,st4)=>retX E res v st4.tm (Qpt E n g dc .nili st4.H st4.nx)
     |none=>match panX E n none none rest ⟨st3.tm,st3.H,st3.nx,[]⟩with
      |some (x,st4)=>retX E res v st4.tm (Qpt E n g dc x st4.H st4.nx)
      |none=>false)
    | _=>false
   | _,_=>false
  | _,_,_,_=>false
 | _,_=>false
noncomputable def Qqh(E:Env)(n:Nat)(res:List ResultVar)(v:V):Nat→Code→St→Bool
 |0,X,st=>match X with
  | .seq (.region _ ops false) rest=>gEndX E n res v st ops rest
  | _=>false
 | k + 1, X, st => match X with
  | .seq c Y => match exec E n none c st with
   |some [(.normal,st')]=>match st'.tm.gl with
    | .e=>Qqh E n res v k Y st'
    | _=>false
   | _=>false
  | _=>false
noncomputable def gFnX(E:Env)(n k f:Nat)(ars:List V)(v:V):Bool:=match E.code f with
 |some fi=>Nat.ble ars.length fi.ntmps&&Qqh E n fi.res v k fi.body ⟨⟨putAll (blank fi.ntmps) 0 ars,g0,fi.ntmps⟩,.e,0,[]⟩
 |none=>false
theorem retX_ok{E:Env}{res:List ResultVar}{v:V}{tm:TM}{x:Option St}(h:retX E res v tm x=true): ∃st v0,x=some st∧retV E.G tm st.H res=some v0∧vxT st.H v v0=true:=by
 unfold retX at h
 grind
theorem Qmt {E : Env} (hE : E.Ok Pg) {n : Nat} {res : List ResultVar} {v : V} : ∀ (k : Nat) (X : Code) (st : St), Qqh E n res v k X st = true → Chain Pg E g0 res 0 (fun u H _ _ => vxT H v u = true) (fun st' => st' = st) X
 | 0, X, st, h => by
  unfold Qqh at h
  split at h
  ·rename_i id ops rest
   refine Chain.last fun st' e=>?_
   subst e
   unfold gEndX at h
   split at h
   ·rename_i st3 o e1 e2
    split at h
    ·rename_i c e3 e4 e5 e8
     split at h
     ·rename_i fo e6 e7
      split at h
      ·rename_i g dc e9
       rw[Bool.and_eq_true]at h
       obtain⟨b2,h⟩:=h
       have key: ∀{pan:Option V}{st4:St},retX E res v st4.tm (Qpt E n g dc (recV pan) st4.H st4.nx)=true→∃fg,E.code g=some fg∧∀e,((e= .normal∨e= .ret)∧pan=none∨∃x,e= .pan x∧pan=some x)→Ql1 Pg E g0 g dc [] res (fun u H' _ _=>vxT H' v u=true) e st4:=fun{pan st4} h=>by
        obtain⟨st5,v0,k1,k2,k3⟩:=retX_ok h
        obtain⟨⟨fg,k4⟩,k5⟩:=dRunX_ok hE k1
        exact⟨fg,k4,fun e he=>⟨pan,_,he,k5,v0,k2,k3⟩⟩
       have go: ∀{fg:FI},E.code g=some fg→Sat Pg none st3.nx rest ⟨st3.tm,st3.H,st3.nx,[]⟩ (fun e st4=>Ql1 Pg E g0 g dc [] res (fun u H' _ _=>vxT H' v u=true) e st4)→_:=fun{fg} hg hs=>
        (⟨st3, g, dc, [], tbl [], 1, o, c, fo, fg, TblOk.nil.call, e1, e2, e3, e4, e6, e9, by rw [e7]; rfl, Nat.eq_of_beq_eq_true b2, e8, hg, e5, hs⟩ : ∃ (st3 : St) (g : Nat) (dcaps dars : List V) (call : Qap) (i : Nat) (o : Oper) (c : Call) (fo : Operand) (fg : FI), Qbj Pg g0 call ∧ seqR E call ops (ops.toList.take i) st' = some st3 ∧ ops[i]? = some o ∧ wantedV st3.tm ops o = some true ∧ o.op = .defer c ∧ c.callee = .value fo ∧ ev st3.tm fo = some (.fn g dcaps) ∧ evs st3.tm c.args.toList = some dars ∧ i + 1 = ops.size ∧ o.dst = none ∧ E.code g = some fg ∧ st3.tm.gl = g0 ∧
         Sat Pg none st3.nx rest ⟨st3.tm,st3.H,st3.nx,[]⟩ (fun e st4=>Ql1 Pg E g0 g dcaps dars res (fun v' H' nx' lg'=>vxT H' v v'=true) e st4))
       split at h
       ·rename_i e st4 e10
        obtain⟨fg,hg,hd⟩:=key (pan:=none) h
        obtain⟨he,hs⟩:=Qp3 hE (nx0:=st3.nx) (R:=fun e' s=>e'=e∧s=st4) e10 ⟨rfl,rfl⟩
        exact go hg (hs.mono fun e' s⟨q1,q2⟩=>by grind)
       ·split at h
        ·rename_i x st4 e10
         obtain⟨fg,hg,hd⟩:=key (pan:=some x) h
         exact go hg ((show Sat Pg none st3.nx _ _ _ from Qri hE Qaf n none none _ _ _ _ e10 st3.nx).mono fun e' s⟨q1,q2⟩=>by grind)
        ·cases h
      ·cases h
     ·cases h
    ·cases h
   ·cases h
  ·cases h
 | k + 1, X, st, h => by
  unfold Qqh at h
  split at h
  ·rename_i c Y
   split at h
   ·rename_i st' e1
    split at h
    ·rename_i e2
     refine Chain.more (R':=fun s=>s=st') (fun s e=>?_) (Qmt hE k Y st' h)
     subst e
     exact(Qeh hE Qaf e1).mono fun e s⟨q1,q2⟩=>.inl (by simp_all)
    ·cases h
   ·cases h
  ·cases h
theorem FnOk.of_gX{E:Env}(hE:E.Ok Pg){n k f:Nat}{ars:List V}{v:V}(hf:hfB v=true)(h:gFnX E n k f ars v=true):FnOk Pg g0 f ars v:=by
 unfold gFnX at h
 split at h
 ·rename_i fi hfi
  rw[Bool.and_eq_true]at h
  refine CallSpec.guardC hE hfi (by simp_all) (Log.refl _ _ _) (Z:=fun u H _ _=>vxT H v u=true) ?_ (by rw[List.append_nil];exact Qmt hE k _ _ h.2)
  exact fun v0 H' nx' lg' hv s w ee w' hH hn hp=>Qe6 hH hn hv (Qek.1 v hf) hp
 ·cases h
section
abbrev iq(l:List Int):V:=.im l.length (l.map fun n=>i6 n)
abbrev faV:V:=.agg [iq [0,1],iq [2,2],iq [3,1,1,3]]
abbrev qV(a b:Int)(e:Nat):V:=.tup [.agg [i6 a,i6 b],i6 (e:Nat)]
abbrev a4(p j:List Nat)(x y:Nat):List V:=[ul p,ul j,u6 (x:Nat),u6 (y:Nat)]
abbrev iV(t:V)(a b c:Nat)(e:Nat):V:=.tup [t,.agg [u6 (a:Nat),u6 (b:Nat),u6 (c:Nat)],i6 (e:Nat)]
abbrev e0V:V:=.agg [i6 0,u6 0,.nils]
abbrev eN:V:=.agg [i6 1,u6 3,.nils]
theorem gw_t:FnOk Pg g0 129 [u6 3] eN:=FnOk.of_runV vE_ok (n:=1000) rfl (by kernel_rfl)
abbrev p1V:V:=.imp [ul [0,1],ul [2,1],u6 1,u6 2,iq [0,1]]
theorem gw_p:FnOk Pg g0 128 [p1V,u6 3,u6 3,eN] eN:=FnOk.of_runV vE_ok (n:=1000) rfl (by kernel_rfl)
theorem gw_o:FnOk Pg g0 144 [.agg [ul [0,1],ul [2,1]],u6 2] (u6 1):=FnOk.of_runV vE_ok (n:=1000) rfl (by kernel_rfl)
noncomputable def gwH:Hook:=Qeo 144 [.agg [ul [0,1],ul [2,1]],u6 2] (u6 1)<|Qeo 128 [p1V,u6 3,u6 3,eN] eN<|Qeo 129 [u6 3] eN Qjz
noncomputable def gwE:Env:=Qp4 Pg gwH extF
theorem gwE_ok:gwE.Ok Pg:=Qmn plain (Qbe (Qbe (Qbe Qes rfl (by kernel_rfl) gw_t) rfl (by kernel_rfl) gw_p) rfl (by kernel_rfl) gw_o) Qmp
theorem gw_1:FnOk Pg g0 50 (a4 [0,1] [2,1] 1 2) (iV e0V 3 2 2 351):=FnOk.of_gX gwE_ok (n:=100000) (k:=2) rfl (by kernel_rfl)
theorem gw_2:FnOk Pg g0 50 (a4 [0,1] [2,1] 2 1) (iV (esV (.mk 1 1 [])) 0 0 0 0):=FnOk.of_gX vE_ok (n:=100000) (k:=2) rfl (by kernel_rfl)
theorem gw_3:FnOk Pg g0 50 (a4 [0,1,2] [4,0,1] 1 4) (iV (esV (.mk 2 2 [.mk 3 0 [.mk 4 0 [.mk 1 3 [],.mk 1 1 []],.mk 2 1 [.mk 3 0 [.mk 1 1 [],.mk 4 0 [.mk 1 7 [],.mk 1 3 []]]]]])) 0 0 0 0):=FnOk.of_gX vE_ok (n:=100000) (k:=2) rfl (by kernel_rfl)
theorem gw_4:FnOk Pg g0 50 (a4 [4,5,0] [0,0,0] 1 2) (iV (esV (.mk 2 4 [.mk 3 0 [.mk 4 0 [.mk 1 7 [],.mk 1 5 []],.mk 1 4 []]])) 0 0 0 0):=FnOk.of_gX vE_ok (n:=100000) (k:=2) rfl (by kernel_rfl)
theorem gw_6:FnOk Pg g0 54 [faV,esV (.mk 1 1 []),iq [0,0]] (qV 1 2 0):=FnOk.of_gX vE_ok (n:=100000) (k:=9) rfl (by kernel_rfl)
theorem gw_7:FnOk Pg g0 54 [faV,esV (.mk 4 0 [.mk 1 3 [],.mk 1 1 []]),iq [0,1]] (qV 1 4 0):=FnOk.of_gX vE_ok (n:=100000) (k:=9) rfl (by kernel_rfl)
theorem gw_8:FnOk Pg g0 54 [faV,esV (.mk 2 2 [.mk 1 2 []]),iq [0,0]] (qV 1 1 0):=FnOk.of_gX vE_ok (n:=100000) (k:=9) rfl (by kernel_rfl)
theorem gw_9:FnOk Pg g0 54 [faV,esV (.mk 3 0 []),iq [0,0]] (qV 1 1 0):=FnOk.of_gX vE_ok (n:=100000) (k:=9) rfl (by kernel_rfl)
theorem gw_5:FnOk Pg g0 50 (a4 [0,1] [2,1] 1 1) (iV e0V 0 0 0 2):=FnOk.of_runV vE_ok (n:=100000) rfl (by kernel_rfl)
end
abbrev q2V:V:=iV (esV (.mk 1 1 [])) 0 0 0 0
abbrev q3V:V:=iV (esV (.mk 2 2 [.mk 3 0 [.mk 4 0 [.mk 1 3 [],.mk 1 1 []],.mk 2 1 [.mk 3 0 [.mk 1 1 [],.mk 4 0 [.mk 1 7 [],.mk 1 3 []]]]]])) 0 0 0 0
abbrev q4V:V:=iV (esV (.mk 2 4 [.mk 3 0 [.mk 4 0 [.mk 1 7 [],.mk 1 5 []],.mk 1 4 []]])) 0 0 0 0
noncomputable def gcH:Hook:=Qn1 50 (a4 [0,1] [2,1] 2 1) q2V<|Qn1 50 (a4 [0,1,2] [4,0,1] 1 4) q3V<|Qn1 50 (a4 [4,5,0] [0,0,0] 1 2) q4V<|Qn1 50 (a4 [0,1] [2,1] 1 1) (iV e0V 0 0 0 2) Qjz
noncomputable def gcE:Env:=Qp4 Pg gcH extF
theorem Qmu:gcE.Ok Pg:=Qmn plain (Qfs (Qfs (Qfs (Qfs Qes rfl (by kernel_rfl) gw_5) rfl (by kernel_rfl) gw_4) rfl (by kernel_rfl) gw_3) rfl (by kernel_rfl) gw_2) Qmp
theorem gc_2:FnOk Pg g0 51 (a4 [0,1] [2,1] 2 1) (i6 0):=FnOk.of_runV Qmu (n:=1000) rfl (by kernel_rfl)
theorem gc_3:FnOk Pg g0 51 (a4 [0,1,2] [4,0,1] 1 4) (i6 0):=FnOk.of_runV Qmu (n:=1000) rfl (by kernel_rfl)
theorem gc_4:FnOk Pg g0 51 (a4 [4,5,0] [0,0,0] 1 2) (i6 0):=FnOk.of_runV Qmu (n:=1000) rfl (by kernel_rfl)
theorem gc_5:FnOk Pg g0 51 (a4 [0,1] [2,1] 1 1) (i6 2):=FnOk.of_runV Qmu (n:=1000) rfl (by kernel_rfl)
noncomputable def gzH:Hook:=Qeo 54 [faV,esV (.mk 1 1 []),iq [0,0]] (qV 1 2 0)<|Qeo 54 [faV,esV (.mk 4 0 [.mk 1 3 [],.mk 1 1 []]),iq [0,1]] (qV 1 4 0)<|Qeo 54 [faV,esV (.mk 2 2 [.mk 1 2 []]),iq [0,0]] (qV 1 1 0)<|Qeo 54 [faV,esV (.mk 3 0 []),iq [0,0]] (qV 1 1 0)<|
 Qeo 50 (a4 [0,1] [2,1] 1 2) (iV e0V 3 2 2 351)<|Qeo 51 (a4 [0,1] [2,1] 2 1) (i6 0)<|Qeo 51 (a4 [0,1,2] [4,0,1] 1 4) (i6 0)<|Qeo 51 (a4 [4,5,0] [0,0,0] 1 2) (i6 0)<|Qeo 51 (a4 [0,1] [2,1] 1 1) (i6 2) Qjz
noncomputable def gzE:Env:=Qp4 Pg gzH extF
theorem gzE_ok:gzE.Ok Pg:=Qmn plain (Qbe (Qbe (Qbe (Qbe (Qbe (Qbe (Qbe (Qbe (Qbe Qes rfl (by kernel_rfl) gc_5) rfl (by kernel_rfl) gc_4) rfl (by kernel_rfl) gc_3) rfl (by kernel_rfl) gc_2) rfl (by kernel_rfl) gw_1) rfl (by kernel_rfl) gw_9) rfl (by kernel_rfl) gw_8) rfl (by kernel_rfl) gw_7) rfl (by kernel_rfl) gw_6) Qmp
theorem works_fn:FnOk Pg g0 16 [] (.bool true):=FnOk.of_runV gzE_ok (n:=100000) rfl (by kernel_rfl)
structure Pc where
 c:Nat
 f:Nat
 o:Nat
 u:List Nat
 z:Bool
def pcU(x:Pc):V:=if x.z then .nils else bl x.u
def pcC(x:Pc):List V:=[w8 (x.c:Nat),w8 (x.f:Nat),w8 (x.o:Nat),pcU x]
def pcL:List Pc→List V
 |[]=>[]
 |x::l=>pcC x++pcL l
structure PcOk(x:Pc):Prop where
 c:x.c<256
 f:x.f<256
 o:x.o<256
 u: ∀y∈x.u,y<256
 l:x.u.length≤9223372036854775807
 z:x.z=true→x.u=[]
theorem HfL_pc: ∀l,HfL (pcL l)
 |[]=>trivial
 |x::l=>⟨trivial,trivial,trivial,by unfold pcU;split<;>trivial,HfL_pc l⟩
theorem Qp1: ∀{N:List Pc}{k:Nat}{x:Pc},N[k]? =some x→(pcL N).drop (k*4)=pcC x++pcL (N.drop (k+1))
 |[],k,x,h=>by simp at h
 |y::l,0,x,h=>by cases h;rfl
 |y::l,k+1,x,h=>by
  show(pcC y++pcL l).drop ((k+1)*4)=_
  rw[Nat.succ_mul,Nat.add_comm,List.drop_append,show(pcC y).drop (4+k*4)=[]from List.drop_eq_nil_of_le (by show 4≤_;omega)]
  show([]:List V)++(pcL l).drop (4+k*4-4)=_
  rw[Nat.add_sub_cancel_left,List.nil_append]
  exact Qp1 (N:=l) (by simpa using h)
structure DrOk(gr:Nat)(NN:List Pc)(SS:List (Nat×Nat))(W Q:List Nat):Prop where
 g:gr<256
 n: ∀x∈NN,PcOk x∧x.z=false
 s: ∀x∈SS,x.1<256∧x.2<256
 sl:SS.length≤9223372036854775807
 w: ∀x∈W,x<256
 wl:W.length≤9223372036854775807
 o: ∀x∈Q,x<256
abbrev drL(gr:Nat)(NN:List Pc)(SS:List (Nat×Nat))(W Q:List Nat):List V:=[w8 (gr:Nat),.im NN.length (pcL NN),.im SS.length (prT SS),bl W,bl Q]
abbrev dr9(gr:Nat)(NN:List Pc)(SS:List (Nat×Nat))(W Q:List Nat):O:=.row 26 none (drL gr NN SS W Q)
abbrev ca9(g:Int)(r n:V):O:=.row 34 none [i6 g,r,n]
abbrev nv9(cnt:Nat):V:=.sl 2 0 cnt (some (cnt-cnt))
abbrev pv9(cnt:Nat):V:=.sl 4 0 cnt (some (cnt-cnt))
section
variable (gr:Nat) (NN:List Pc) (SS:List (Nat×Nat)) (W Q:List Nat)
theorem md_0:To 365 (at' 6 [0]) [(0,.agg (drL gr NN SS W Q))] .e 0 .normal [(1,.ptr 0 0),(2,.ptr 1 0)] (ofOs .e 0 [dr9 gr NN SS W Q,ca9 0 .nils .nils]) 2:=by
 refine To.of_vc (n:=100) (hs:=[toO [(1,.ptr 0 0),(2,.ptr 1 0)]]) fun nx0 lg G hG=>?_
 exact m_ (p:=An [G Ex.normal [(1,V.ptr 0 0),(2,V.ptr 1 0)] (pt (pt T.e 0 (O.row 26 none [w8 ↑gr,V.im NN.length (pcL NN),V.im SS.length (prT SS),bl W,bl Q])) 1 (O.row 34 none [i6 0,V.nils,V.nils])) 2 lg,Sm (V.ptr 0 0),Sm (V.ptr 1 0),Tt]) ⟨hG _,a_⟩
theorem md_1(cnt:Nat)(hc:cnt=min (max NN.length 1) 4):To 365 (at' 6 [1,0]) [(1,.ptr 0 0),(2,.ptr 1 0)] (ofOs .e 0 [dr9 gr NN SS W Q,ca9 0 .nils .nils]) 2 .normal [(1,.ptr 0 0),(2,.ptr 1 0),(3,i6 (cnt:Nat))] (ofOs .e 0 [dr9 gr NN SS W Q,ca9 0 .nils .nils]) 2:=by
 obtain⟨mx,hmx⟩: ∃mx:Nat,mx=max NN.length 1:=⟨_,rfl⟩
 refine To.of_vc (n:=100) (hs:=[nu 27 (mx:Nat),nu 28 (cnt:Nat),toO [(1,.ptr 0 0),(2,.ptr 1 0),(3,i6 (cnt:Nat))]]) fun nx0 lg G hG=>?_
 refine Eq.mp (by kernel_rfl:(let z0:=(↑mx:Int);An [(if(1:Int)>(↑NN.length:Int)then(1:Int)else(↑NN.length:Int))=z0,(if(4:Int)<z0 then(4:Int)else z0)=(↑cnt:Int),G Ex.normal [(1,V.ptr 0 0),(2,V.ptr 1 0),(3,i6 ↑cnt)] (ofOs T.e 0 [dr9 gr NN SS W Q,ca9 (0:Int) V.nils V.nils]) 2 lg,Sm (V.ptr 0 0),Sm (V.ptr 1 0),Sm (i6 ↑cnt),Tt])=_) ?_
 (repeat'(first|(with_reducible apply And.intro)|(refine fun(_:True)=>?_)))<;>first|exact aq|skip
 all_goals first|exact hG _|omega|skip
theorem md_2(ok:DrOk gr NN SS W Q)(cnt:Nat)(hc:1≤cnt∧cnt≤4): ∃g:Int,(2≤g∧g≤12)∧To 365 (at' 6 [1,1,0]) [(1,.ptr 0 0),(2,.ptr 1 0),(3,i6 (cnt:Nat))] (ofOs .e 0 [dr9 gr NN SS W Q,ca9 0 .nils .nils]) 2 .normal [(1,.ptr 0 0),(2,.ptr 1 0),(3,i6 (cnt:Nat)),(4,.ptr 3 0)] (ofOs .e 0 [dr9 gr NN SS W Q,ca9 0 .nils .nils,.row 86 none (rep cnt [i6 0,.nils,.nils,.nils]),ca9 g .nils (nv9 cnt)]) 4:=by
 have hg:=ok.g
 have hw:(gr:Int).tmod 11=(gr%11:Nat):=by
  rw[Int.tmod_eq_emod_of_nonneg (by omega)];omega
 have hb:gr%11<11:=by omega
 refine⟨2+((gr%11:Nat):Int),by omega,?_⟩
 refine To.of_vc (n:=100) (hs:=[nu 31 (gr%11:Nat),nu 32 (gr%11:Nat),nu 33 (2+((gr%11:Nat):Int)),mk 35,toO [(1,.ptr 0 0),(2,.ptr 1 0),(3,i6 (cnt:Nat)),(4,.ptr 3 0)]]) fun nx0 lg G hG=>?_
 generalize gr%11=g at*
 exact m_ (p:=let z0:=(↑g:Int);let z1:=(↑cnt:Int);An [_,wr .i64 z0=z0,wr .i64 ((2:Int)+z0)=(2:Int)+z0,An [(0:Int)≤z1,z1≤z1,(↑(80:Nat):Int)*z1≤(281474976710656:Int),z1≤(9223372036854775807:Int)],G Ex.normal [(1,V.ptr 0 0),(2,V.ptr 1 0),(3,i6 ↑cnt),(4,V.ptr 3 0)] (pt (pt (pt (ofOs T.e 0 [dr9 gr NN SS W Q,ca9 (0:Int) V.nils V.nils]) 2 (O.row 86 none (rep cnt [i6 0,V.nils,V.nils,V.nils]))) 3 (O.row 34 none [i6 0,V.nils,V.nils])) 3 (O.row 34 none [i6 ((2:Int)+z0),V.nils,V.sl 2 0 cnt (some (cnt-cnt))])) 4 ([3]++lg),Sm (V.ptr 0 0),Sm (V.ptr 1 0),Sm (i6 ↑cnt),Sm (V.ptr 3 0),Tt]) ⟨hw,aq,aq,a_,hG _,a_⟩
abbrev me9(c:List V):O:=.row 86 none c
abbrev pi9(P:List Pc):O:=.row 88 none (pcL P)
abbrev sA9(cnt:Nat):List (Nat×V):=[(1,.ptr 0 0),(2,.ptr 1 0),(3,i6 (cnt:Nat)),(4,.ptr 3 0)]
abbrev sB9(cnt:Nat):List (Nat×V):=[(1,.ptr 0 0),(2,.ptr 1 0),(3,i6 (cnt:Nat)),(4,.ptr 3 0),(5,pv9 cnt)]
theorem md_3(g:Int)(Z:List V)(cnt:Nat)(hc:1≤cnt∧cnt≤4):To 365 (at' 6 [1,1,1,0]) (sA9 cnt) (ofOs .e 0 [dr9 gr NN SS W Q,ca9 0 .nils .nils,me9 Z,ca9 g .nils (nv9 cnt)]) 4 .normal (sB9 cnt) (ofOs .e 0 [dr9 gr NN SS W Q,ca9 0 .nils .nils,me9 Z,ca9 g .nils (nv9 cnt),.row 88 none (rep cnt [w8 0,w8 0,w8 0,.nils])]) 5:=by
 refine To.of_vc (n:=100) (hs:=[mk 38,toO (sB9 cnt)]) fun nx0 lg G hG=>?_
 exact m_ (p:=let z0:=(↑cnt:Int);An [An [(0:Int)≤z0,z0≤z0,(↑(32:Nat):Int)*z0≤(281474976710656:Int),z0≤(9223372036854775807:Int)],G Ex.normal (sB9 cnt) (pt (ofOs T.e 0 [dr9 gr NN SS W Q,ca9 (0:Int) V.nils V.nils,me9 Z,ca9 g V.nils (nv9 cnt)]) 4 (O.row 88 none (rep cnt [w8 0,w8 0,w8 0,V.nils]))) 5 lg,Sm (V.ptr 0 0),Sm (V.ptr 1 0),Sm (i6 ↑cnt),Sm (V.ptr 3 0),V.sl 4 0 cnt (some (cnt-cnt))=pv9 cnt,Tt]) ⟨a_,hG _,a_⟩
theorem md_4(ok:DrOk gr NN SS W Q)(g:Int)(Z:List V)(cnt:Nat)(hc:cnt=min (max NN.length 1) 4): ∃P:List Pc,P.length=cnt∧(∀x∈P,PcOk x)∧To 365 (at' 6 [1,1,1,1,0]) (sB9 cnt) (ofOs .e 0 [dr9 gr NN SS W Q,ca9 0 .nils .nils,me9 Z,ca9 g .nils (nv9 cnt),.row 88 none (rep cnt [w8 0,w8 0,w8 0,.nils])]) 5 .normal (sB9 cnt) (ofOs .e 0 [dr9 gr NN SS W Q,ca9 0 .nils .nils,me9 Z,ca9 g .nils (nv9 cnt),pi9 P]) 5:=by
 have hn:=ok.n
 clear ok
 match NN,hn,hc with
 |[],_,hc=>
  obtain rfl:cnt=1:=by simpa using hc
  refine⟨[⟨0,0,0,[],true⟩],rfl,fun x hx=>?_,?_⟩
  ·rw[List.mem_singleton.1 hx];exact⟨by decide,by decide,by decide,(fun _ h=>by cases h),by decide,fun _=>rfl⟩
  refine To.of_vc (n:=100) (hs:=[toO (sB9 1)]) fun nx0 lg G hG=>?_
  exact m_ (p:=let z0:=O.row 88 none [w8 0,w8 0,w8 0,V.nils];An [G Ex.normal (sB9 1) (T.put (ofOs T.e 0 [dr9 gr [] SS W Q,ca9 (0:Int) V.nils V.nils,me9 Z,ca9 g V.nils (nv9 1),z0]) 4 z0) 5 ([4]++lg),Sm (V.ptr 0 0),Sm (V.ptr 1 0),Sm (i6 ↑(1:Nat)),Sm (V.ptr 3 0),Sm (pv9 1),_]) ⟨hG _,aq,aq,aq,aq,aq,trivial⟩
 |[x0],hn,hc=>
  obtain rfl:cnt=1:=by simpa using hc
  obtain⟨c0,f0,o0,u0,z0⟩:=x0
  obtain⟨k0,hz⟩:=hn ⟨c0,f0,o0,u0,z0⟩ (by simp)
  obtain rfl:z0=false:=hz
  refine⟨[⟨c0,f0,o0,u0,false⟩],rfl,fun x hx=>(hn x (hx)).1,?_⟩
  clear hn
  refine To.of_vc (n:=100) (hs:=[toO (sB9 1)]) fun nx0 lg G hG=>?_
  exact m_ (p:=let z0:=Pc.mk c0 f0 o0 u0 false;An [G Ex.normal (sB9 1) (T.put (ofOs T.e 0 [dr9 gr [z0] SS W Q,ca9 (0:Int) V.nils V.nils,me9 Z,ca9 g V.nils (nv9 1),O.row 88 none [w8 0,w8 0,w8 0,V.nils]]) 4 (O.row 88 none [w8 ↑c0,w8 ↑f0,w8 ↑o0,pcU z0])) 5 ([4]++lg),Sm (V.ptr 0 0),Sm (V.ptr 1 0),Sm (i6 ↑(1:Nat)),Sm (V.ptr 3 0),Sm (pv9 1),_]) ⟨hG _,aq,aq,aq,aq,aq,trivial⟩
 |[x0,x1],hn,hc=>
  obtain rfl:cnt=2:=by simpa using hc
  obtain⟨c0,f0,o0,u0,z0⟩:=x0
  obtain⟨k0,hz⟩:=hn ⟨c0,f0,o0,u0,z0⟩ (by simp)
  obtain rfl:z0=false:=hz
  obtain⟨c1,f1,o1,u1,z1⟩:=x1
  obtain⟨k1,hz⟩:=hn ⟨c1,f1,o1,u1,z1⟩ (by simp)
  obtain rfl:z1=false:=hz
  refine⟨[⟨c0,f0,o0,u0,false⟩,⟨c1,f1,o1,u1,false⟩],rfl,fun x hx=>(hn x (hx)).1,?_⟩
  clear hn
  refine To.of_vc (n:=100) (hs:=[toO (sB9 2)]) fun nx0 lg G hG=>?_
  exact m_ (p:=let z0:=Pc.mk c0 f0 o0 u0 false;let z1:=Pc.mk c1 f1 o1 u1 false;An [G Ex.normal (sB9 2) (T.put (ofOs T.e 0 [dr9 gr [z0,z1] SS W Q,ca9 (0:Int) V.nils V.nils,me9 Z,ca9 g V.nils (nv9 2),O.row 88 none [w8 0,w8 0,w8 0,V.nils,w8 0,w8 0,w8 0,V.nils]]) 4 (O.row 88 none [w8 ↑c0,w8 ↑f0,w8 ↑o0,pcU z0,w8 ↑c1,w8 ↑f1,w8 ↑o1,pcU z1])) 5 ([4]++lg),Sm (V.ptr 0 0),Sm (V.ptr 1 0),Sm (i6 ↑(2:Nat)),Sm (V.ptr 3 0),Sm (pv9 2),_]) ⟨hG _,aq,aq,aq,aq,aq,trivial⟩
 |[x0,x1,x2],hn,hc=>
  obtain rfl:cnt=3:=by simpa using hc
  obtain⟨c0,f0,o0,u0,z0⟩:=x0
  obtain⟨k0,hz⟩:=hn ⟨c0,f0,o0,u0,z0⟩ (by simp)
  obtain rfl:z0=false:=hz
  obtain⟨c1,f1,o1,u1,z1⟩:=x1
  obtain⟨k1,hz⟩:=hn ⟨c1,f1,o1,u1,z1⟩ (by simp)
  obtain rfl:z1=false:=hz
  obtain⟨c2,f2,o2,u2,z2⟩:=x2
  obtain⟨k2,hz⟩:=hn ⟨c2,f2,o2,u2,z2⟩ (by simp)
  obtain rfl:z2=false:=hz
  refine⟨[⟨c0,f0,o0,u0,false⟩,⟨c1,f1,o1,u1,false⟩,⟨c2,f2,o2,u2,false⟩],rfl,fun x hx=>(hn x (hx)).1,?_⟩
  clear hn
  refine To.of_vc (n:=100) (hs:=[toO (sB9 3)]) fun nx0 lg G hG=>?_
  exact m_ (p:=let z0:=Pc.mk c0 f0 o0 u0 false;let z1:=Pc.mk c1 f1 o1 u1 false;let z2:=Pc.mk c2 f2 o2 u2 false;An [G Ex.normal (sB9 3) (T.put (ofOs T.e 0 [dr9 gr [z0,z1,z2] SS W Q,ca9 (0:Int) V.nils V.nils,me9 Z,ca9 g V.nils (nv9 3),O.row 88 none [w8 0,w8 0,w8 0,V.nils,w8 0,w8 0,w8 0,V.nils,w8 0,w8 0,w8 0,V.nils]]) 4 (O.row 88 none [w8 ↑c0,w8 ↑f0,w8 ↑o0,pcU z0,w8 ↑c1,w8 ↑f1,w8 ↑o1,pcU z1,w8 ↑c2,w8 ↑f2,w8 ↑o2,pcU z2])) 5 ([4]++lg),Sm (V.ptr 0 0),Sm (V.ptr 1 0),Sm (i6 ↑(3:Nat)),Sm (V.ptr 3 0),Sm (pv9 3),_]) ⟨hG _,aq,aq,aq,aq,aq,trivial⟩
 |[x0,x1,x2,x3],hn,hc=>
  obtain rfl:cnt=4:=by simpa using hc
  obtain⟨c0,f0,o0,u0,z0⟩:=x0
  obtain⟨k0,hz⟩:=hn ⟨c0,f0,o0,u0,z0⟩ (by simp)
  obtain rfl:z0=false:=hz
  obtain⟨c1,f1,o1,u1,z1⟩:=x1
  obtain⟨k1,hz⟩:=hn ⟨c1,f1,o1,u1,z1⟩ (by simp)
  obtain rfl:z1=false:=hz
  obtain⟨c2,f2,o2,u2,z2⟩:=x2
  obtain⟨k2,hz⟩:=hn ⟨c2,f2,o2,u2,z2⟩ (by simp)
  obtain rfl:z2=false:=hz
  obtain⟨c3,f3,o3,u3,z3⟩:=x3
  obtain⟨k3,hz⟩:=hn ⟨c3,f3,o3,u3,z3⟩ (by simp)
  obtain rfl:z3=false:=hz
  refine⟨[⟨c0,f0,o0,u0,false⟩,⟨c1,f1,o1,u1,false⟩,⟨c2,f2,o2,u2,false⟩,⟨c3,f3,o3,u3,false⟩],rfl,fun x hx=>(hn x (hx)).1,?_⟩
  clear hn
  refine To.of_vc (n:=100) (hs:=[toO (sB9 4)]) fun nx0 lg G hG=>?_
  exact m_ (p:=let z0:=Pc.mk c0 f0 o0 u0 false;let z1:=Pc.mk c1 f1 o1 u1 false;let z2:=Pc.mk c2 f2 o2 u2 false;let z3:=Pc.mk c3 f3 o3 u3 false;An [G Ex.normal (sB9 4) (T.put (ofOs T.e 0 [dr9 gr [z0,z1,z2,z3] SS W Q,ca9 (0:Int) V.nils V.nils,me9 Z,ca9 g V.nils (nv9 4),O.row 88 none [w8 0,w8 0,w8 0,V.nils,w8 0,w8 0,w8 0,V.nils,w8 0,w8 0,w8 0,V.nils,w8 0,w8 0,w8 0,V.nils]]) 4 (O.row 88 none [w8 ↑c0,w8 ↑f0,w8 ↑o0,pcU z0,w8 ↑c1,w8 ↑f1,w8 ↑o1,pcU z1,w8 ↑c2,w8 ↑f2,w8 ↑o2,pcU z2,w8 ↑c3,w8 ↑f3,w8 ↑o3,pcU z3])) 5 ([4]++lg),Sm (V.ptr 0 0),Sm (V.ptr 1 0),Sm (i6 ↑(4:Nat)),Sm (V.ptr 3 0),Sm (pv9 4),_]) ⟨hG _,aq,aq,aq,aq,aq,trivial⟩
 |x0::x1::x2::x3::x4::r,hn,hc=>
  obtain rfl:cnt=4:=by assumption
  obtain⟨c0,f0,o0,u0,z0⟩:=x0
  obtain⟨k0,hz⟩:=hn ⟨c0,f0,o0,u0,z0⟩ (by simp)
  obtain rfl:z0=false:=hz
  obtain⟨c1,f1,o1,u1,z1⟩:=x1
  obtain⟨k1,hz⟩:=hn ⟨c1,f1,o1,u1,z1⟩ (by simp)
  obtain rfl:z1=false:=hz
  obtain⟨c2,f2,o2,u2,z2⟩:=x2
  obtain⟨k2,hz⟩:=hn ⟨c2,f2,o2,u2,z2⟩ (by simp)
  obtain rfl:z2=false:=hz
  obtain⟨c3,f3,o3,u3,z3⟩:=x3
  obtain⟨k3,hz⟩:=hn ⟨c3,f3,o3,u3,z3⟩ (by simp)
  obtain rfl:z3=false:=hz
  refine⟨[⟨c0,f0,o0,u0,false⟩,⟨c1,f1,o1,u1,false⟩,⟨c2,f2,o2,u2,false⟩,⟨c3,f3,o3,u3,false⟩],rfl,fun x hx=>(hn x (by grind)).1,?_⟩
  clear hn
  refine To.of_vc (n:=100) (hs:=[toO (sB9 4)]) fun nx0 lg G hG=>?_
  exact m_ (p:=let z0:=Pc.mk c0 f0 o0 u0 false;let z1:=Pc.mk c1 f1 o1 u1 false;let z2:=Pc.mk c2 f2 o2 u2 false;let z3:=Pc.mk c3 f3 o3 u3 false;An [G Ex.normal (sB9 4) (T.put (ofOs T.e 0 [dr9 gr (z0::z1::z2::z3::x4::r) SS W Q,ca9 (0:Int) V.nils V.nils,me9 Z,ca9 g V.nils (nv9 4),O.row 88 none [w8 0,w8 0,w8 0,V.nils,w8 0,w8 0,w8 0,V.nils,w8 0,w8 0,w8 0,V.nils,w8 0,w8 0,w8 0,V.nils]]) 4 (O.row 88 none [w8 ↑c0,w8 ↑f0,w8 ↑o0,pcU z0,w8 ↑c1,w8 ↑f1,w8 ↑o1,pcU z1,w8 ↑c2,w8 ↑f2,w8 ↑o2,pcU z2,w8 ↑c3,w8 ↑f3,w8 ↑o3,pcU z3])) 5 ([4]++lg),Sm (V.ptr 0 0),Sm (V.ptr 1 0),Sm (i6 ↑(4:Nat)),Sm (V.ptr 3 0),Sm (pv9 4),_]) ⟨hG _,aq,aq,aq,aq,aq,trivial⟩
end
section
variable (gr:Nat) (NN:List Pc) (SS:List (Nat×Nat)) (W Q:List Nat) (g:Int) (P:List Pc) (cnt:Nat) (hc:1≤cnt∧cnt≤4)
abbrev sC9(cnt:Nat)(q:List Nat):List (Nat×V):=[(1,.ptr 0 0),(2,.ptr 1 0),(3,i6 (cnt:Nat)),(4,.ptr 3 0),(5,pv9 cnt),(6,.im cnt (it q))]
abbrev sD9(cnt:Nat)(q:List Nat):List (Nat×V):=[(1,.ptr 0 0),(2,.ptr 1 0),(3,i6 (cnt:Nat)),(4,.ptr 3 0),(5,pv9 cnt),(6,.im cnt (it q)),(7,.ptr 6 0)]
include hc
theorem md_5(hQ: ∀x∈Q,x<256)(Z:List V):To 365 (at' 6 [1,1,1,1,1,0]) (sB9 cnt) (ofOs .e 0 [dr9 gr NN SS W Q,ca9 0 .nils .nils,me9 Z,ca9 g .nils (nv9 cnt),pi9 P]) 5 .normal (sC9 cnt (orL Q cnt)) (ofOs .e 0 [dr9 gr NN SS W Q,ca9 0 .nils .nils,me9 Z,ca9 g .nils (nv9 cnt),pi9 P,.dead]) 6:=by
 have hp:=perm_z Q hQ cnt hc
 have hz:HfL (rep cnt [w8 0]):=Qcf cnt _ ⟨trivial,trivial⟩
 have hcall:CallSpec Pg g0 (.fn 31 []) [.agg [.sl 5 0 cnt (some (cnt-cnt)),.int .u16 0,bl Q]] (ofOs .e 0 [dr9 gr NN SS W Q,ca9 0 .nils .nils,me9 Z,ca9 g .nils (nv9 cnt),pi9 P,.row 5 none (rep cnt [w8 0])]) 6 ⟨.im cnt (it (orL Q cnt)),ofOs .e 0 [dr9 gr NN SS W Q,ca9 0 .nils .nils,me9 Z,ca9 g .nils (nv9 cnt),pi9 P,.dead],6,[5]⟩:=by
  have hsame:ofOs .e 0 [dr9 gr NN SS W Q,ca9 0 .nils .nils,me9 Z,ca9 g .nils (nv9 cnt),pi9 P,.dead]=pt (ofOs .e 0 [dr9 gr NN SS W Q,ca9 0 .nils .nils,me9 Z,ca9 g .nils (nv9 cnt),pi9 P,.row 5 none (rep cnt [w8 0])]) 5 .dead:=by kernel_rfl
  have h5:gt (ofOs .e 0 [dr9 gr NN SS W Q,ca9 0 .nils .nils,me9 Z,ca9 g .nils (nv9 cnt),pi9 P,.row 5 none (rep cnt [w8 0])]) 5=some (.row 5 none (rep cnt [w8 0])):=by kernel_rfl
  refine frameD [5] hp ⟨_,_,rfl,⟨_,rfl,_,_,rfl,.inr (.inr ⟨5,0,_,_,_,_,rfl,by simp,by assumption,ViewP.of_hf _ hz⟩),_,_,rfl,rfl,_,_,rfl,.inl rfl,rfl⟩,rfl⟩ trivial (fun g hg=>by grind[Qay]) (fun i hi=>?_) (fun i hi=>?_)
  ·rw[hsame,←Qay,←Qay,Qaa,if_neg (fun e=>hi (by simp_all))]
  ·rw[List.mem_singleton.1 hi,hsame,←Qay,Qaa,if_pos rfl]
 have hL:=Qaq (orL Q cnt)
 refine To.of_vc (n:=100) (hs:=[mk 44,(48,.call ⟨.im cnt (it (orL Q cnt)),ofOs .e 0 [dr9 gr NN SS W Q,ca9 0 .nils .nils,me9 Z,ca9 g .nils (nv9 cnt),pi9 P,.dead],6,[5]⟩),toO [(1,.ptr 0 0),(2,.ptr 1 0),(3,i6 (cnt:Nat)),(4,.ptr 3 0),(5,pv9 cnt),(6,.im cnt (it (orL Q cnt)))]]) fun nx0 lg G hG=>?_
 exact m_ (p:=let z1:=V.im cnt (it (orL Q cnt));let z2:=(↑cnt:Int);let z3:=ca9 (0:Int) V.nils V.nils;let z4:=ca9 g V.nils (nv9 cnt);let z0:=ofOs T.e 0 [dr9 gr NN SS W Q,z3,me9 Z,z4,pi9 P,O.dead];An [An [(0:Int)≤z2,z2≤z2,(↑(1:Nat):Int)*z2≤(281474976710656:Int),z2≤(9223372036854775807:Int)],CallSpec Pg g0 (V.fn 31 []) [V.agg [V.sl 5 0 cnt (some (cnt-cnt)),v16 0,bl Q]] (pt (ofOs T.e 0 [dr9 gr NN SS W Q,z3,me9 Z,z4,pi9 P]) 5 (O.row 5 none (rep cnt [w8 0]))) 6 (CR.mk z1 z0 6 [5]),_,G Ex.normal [(1,V.ptr 0 0),(2,V.ptr 1 0),(3,i6 ↑cnt),(4,V.ptr 3 0),(5,pv9 cnt),(6,z1)] z0 6 ([5]++lg),Sm (V.ptr 0 0),Sm (V.ptr 1 0),Sm (i6 ↑cnt),Sm (V.ptr 3 0),Sm (pv9 cnt),z1=z1,_]) ⟨a_,hcall,trivial,aq,aq,aq,aq,aq,aq,aq,trivial⟩
theorem md_6(Z:List V)(L:List Nat):To 365 (at' 6 [1,1,1,1,1,1,0]) (sC9 cnt L) (ofOs .e 0 [dr9 gr NN SS W Q,ca9 0 .nils .nils,me9 Z,ca9 g .nils (nv9 cnt),pi9 P,.dead]) 6 .normal (sD9 cnt L) (ofOs .e 0 [dr9 gr NN SS W Q,ca9 0 .nils .nils,me9 Z,ca9 g .nils (nv9 cnt),pi9 P,.dead,nmO W 0]) 7:=by
 have hL:=Qaq L
 have hcall:=@Qq1 (ofOs .e 0 [dr9 gr NN SS W Q,ca9 0 .nils .nils,me9 Z,ca9 g .nils (nv9 cnt),pi9 P,.dead]) 6 W
 refine To.of_vc (n:=100) (hs:=[(51,.call ⟨.ptr 6 0,pt (ofOs .e 0 [dr9 gr NN SS W Q,ca9 0 .nils .nils,me9 Z,ca9 g .nils (nv9 cnt),pi9 P,.dead]) 6 (nmO W 0),7,[]⟩),toO (sD9 cnt L)]) fun nx0 lg G hG=>?_
 exact m_ (p:=An [_,_,G Ex.normal (sD9 cnt L) (pt (ofOs T.e 0 [dr9 gr NN SS W Q,ca9 (0:Int) V.nils V.nils,me9 Z,ca9 g V.nils (nv9 cnt),pi9 P,O.dead]) 6 (nmO W 0)) 7 ([]++lg),Sm (V.ptr 0 0),Sm (V.ptr 1 0),Sm (i6 ↑cnt),Sm (V.ptr 3 0),Sm (pv9 cnt),Sm (V.im cnt (it L)),Sm (V.ptr 6 0),_]) ⟨hcall,trivial,hG _,aq,aq,aq,aq,aq,aq,aq,trivial⟩
end
theorem Qcn{n k:Nat}{F:Nat→V}{x:V}(h:k<n):layE k (cellsF n F) [x]=some (cellsF n (upF F k x)):=by
 rw[Qem,Qa6]
 have:Nat.ble (k+[x].length) n=true:=Nat.ble_eq_true_of_le (by simp;omega)
 rw[this,cond_true,←Qnu]
 grind[List.set_eq_take_append_cons_drop]
theorem Qbq{n k:Nat}{F:Nat→V}(h:k<n):headF (dropF k (cellsF n F))=some (F k):=by
 rw[Qa2]
 have h1:=Qgc (F:=F) h
 obtain⟨hk,e⟩:=List.getElem?_eq_some_iff.1 h1
 rw[List.drop_eq_getElem_cons hk,e];rfl
section
variable (gr:Nat) (NN:List Pc) (SS:List (Nat×Nat)) (W Q:List Nat) (g:Int) (P:List Pc) (cnt:Nat) (hc:1≤cnt∧cnt≤4)
noncomputable def ME9(gr:Nat)(NN:List Pc)(SS:List (Nat×Nat))(W Q:List Nat)(g:Int)(P:List Pc)(cnt:Nat)(F:Nat→V):T O:=ofOs .e 0 [dr9 gr NN SS W Q,ca9 0 .nils .nils,me9 (cellsF (4*cnt) F),ca9 g .nils (nv9 cnt),pi9 P,.dead,nmO W 0]
theorem ME9_up(F:Nat→V)(k:Nat)(x:V):pt (ME9 gr NN SS W Q g P cnt F) 2 (me9 (cellsF (4*cnt) (upF F k x)))=ME9 gr NN SS W Q g P cnt (upF F k x):=by kernel_rfl
theorem Qop(F:Nat→V):gt (ME9 gr NN SS W Q g P cnt F) 2=some (me9 (cellsF (4*cnt) F))∧gt (ME9 gr NN SS W Q g P cnt F) 3=some (ca9 g .nils (nv9 cnt))∧gt (ME9 gr NN SS W Q g P cnt F) 4=some (pi9 P):=⟨by kernel_rfl,by kernel_rfl,by kernel_rfl⟩
abbrev sE9(cnt:Nat)(q:List Nat)(i:Nat):List (Nat×V):=[(1,.ptr 0 0),(2,.ptr 1 0),(3,i6 (cnt:Nat)),(4,.ptr 3 0),(5,pv9 cnt),(6,.im cnt (it q)),(7,.ptr 6 0),(8,i6 (i:Nat))]
structure C0(cnt:Nat)(F:Nat→V):Prop where
 nil: ∀j,j<4*cnt→j%4≠0→F j= .nils
 num: ∀v,v<cnt→∃c:Int,F (4*v)=i6 c
theorem C0.up{F:Nat→V}(h:C0 cnt F)(v:Nat)(c:Int):C0 cnt (upF F (4*v) (i6 c)) where
 nil j h1 h2:=by rw[Qah (by omega)];exact h.nil j h1 h2
 num w hw:=by
  by_cases hv:w=v
  ·simp_all[Qai]
  ·rw[Qah (by omega)];exact h.num w hw
include hc
theorem md_7(L:List Nat)(hl:L.length=cnt)(hm: ∀x∈L,x<cnt)(ha: ∀v,v<cnt→v∈L)(F:Nat→V)(hF:C0 cnt F): ∃F',C0 cnt F'∧(∀v,v<cnt→F' (4*v)=i6 2)∧To 365 (at' 6 [1,1,1,1,1,1,1,0]) (sD9 cnt L) (ME9 gr NN SS W Q g P cnt F) 7 .normal (sD9 cnt L) (ME9 gr NN SS W Q g P cnt F') 7:=by
 have hLf:=Qaq L
 have key: ∃e sl H' nx',(∃F',e= .exit 0∧sl=sD9 cnt L∧H'=ME9 gr NN SS W Q g P cnt F'∧nx'=7∧C0 cnt F'∧∀v,v<cnt→F' (4*v)=i6 2)∧To 365 (at' 6 [1,1,1,1,1,1,1,0,1,0]) (sE9 cnt L 0) (ME9 gr NN SS W Q g P cnt F) 7 e sl H' nx':=by
  refine To.loop (c:=at' 6 [1,1,1,1,1,1,1,0,1,0]) (b:=at' 6 [1,1,1,1,1,1,1,0,1,0,0]) (by kernel_rfl) (k:=365) (fun(q:Nat×(Nat→V)) H nx=>q.1≤cnt∧H=ME9 gr NN SS W Q g P cnt q.2∧nx=7∧C0 cnt q.2∧∀v,v<cnt→v∈L.take q.1→q.2 (4*v)=i6 2) (fun q=>sE9 cnt L q.1) (fun q=>cnt-q.1) (fun e sl H nx=>∃F',e= .exit 0∧sl=sD9 cnt L∧H=ME9 gr NN SS W Q g P cnt F'∧nx=7∧C0 cnt F'∧∀v,v<cnt→F' (4*v)=i6 2) (fun q H nx hI=>?_) (0,F) _ _ ⟨Nat.zero_le _,rfl,rfl,hF,fun v hv h=>by cases h⟩
  obtain⟨i,F⟩:=q
  obtain⟨hi,rfl,rfl,hF,h2⟩:=hI
  dsimp only at hi hF h2
  obtain⟨m2,m3,m4⟩:=Qop gr NN SS W Q g P cnt F
  by_cases hlt:i<cnt
  ·refine .inl ?_
   have hp:=hm (L.getD i 0) (by simp_all)
   have hd:=Qgj (l:=L) (k:=i) (by omega)
   have htk:L.take (i+1)=L.take i++[L.getD i 0]:=by rw[List.take_add_one,List.getElem?_eq_getElem (by omega),List.getD_eq_getElem?_getD,List.getElem?_eq_getElem (by omega)];rfl
   refine⟨(i+1,upF F (4*L.getD i 0) (i6 2)),ME9 gr NN SS W Q g P cnt (upF F (4*L.getD i 0) (i6 2)),7,⟨hlt,rfl,rfl,hF.up cnt _ _,fun v hv h=>?_⟩,by omega,?_⟩
   ·grind[Qai,Qah]
   ·generalize L.getD i 0 = p at *
    have hlay:=Qcn (n:=4*cnt) (k:=p*4) (F:=F) (x:=i6 2) (by omega)
    have hup:=ME9_up gr NN SS W Q g P cnt F (4*p) (i6 2)
    have e4:p*4=4*p:=by omega
    rw[e4]at hlay
    generalize ME9 gr NN SS W Q g P cnt (upF F (4*p) (i6 2))=M2 at*
    generalize ME9 gr NN SS W Q g P cnt F=M at*
    generalize hC2:cellsF (4*cnt) (upF F (4*p) (i6 2))=C2 at*
    generalize cellsF (4*cnt) F=C1 at*
    refine To.of_vc (n:=100) (hs:=[yes 54,lo_ 58 (ca9 g .nils (nv9 cnt)) (nv9 cnt),pl 61,ld 62 (i6 (p:Nat)),pl 63,so (me9 C1) C2,nu 56 (i+1:Nat),toO (sE9 cnt L (i+1))]) fun nx0 lg G hG=>?_
    clear h2 hF
    exact m_ (p:=let z0:=(↑i:Int);let z1:=(↑cnt:Int);An [decide (z0<z1)=true,_,headF (dropF (0+2) [i6 g,V.nils,nv9 cnt])=some (nv9 cnt),An [(0:Int)≤z0,z0<z1],_,An [(0:Int)≤(↑p:Int),(↑p:Int)<z1],An [_,layE (0+p*4+0) C1 [i6 2]=some C2],wr .i64 (z0+(1:Int))=(↑(i+1):Int),G Ex.normal (sE9 cnt L (i+1)) (pt M 2 (O.row 86 none C2)) 7 ([2]++lg),Sm (V.ptr 0 0),Sm (V.ptr 1 0),Sm (i6 ↑cnt),Sm (V.ptr 3 0),Sm (pv9 cnt),Sm (V.im cnt (it L)),Sm (V.ptr 6 0),Sm (i6 ↑(i+1)),_]) ⟨aq,m3,(by rfl),a_,hd,a_,⟨m2,aq⟩,aq,aq,aq,aq,aq,aq,aq,aq,aq,aq,tq⟩
  ·obtain rfl : i = cnt := by omega
   refine .inr ⟨.exit 0,sD9 i L,_,_,(fun h=>by cases h),⟨F,rfl,rfl,rfl,rfl,hF,fun v hv=>h2 v hv (by grind)⟩,?_⟩
   refine To.of_vc (n:=100) (hs:=[no 54,toO (sD9 i L)]) fun nx0 lg G hG=>?_
   generalize ME9 gr NN SS W Q g P i F=M at*
   exact m_ (p:=An [decide ((↑i:Int)<(↑i:Int))=false,G (Ex.exit 0) (sD9 i L) M 7 lg,Sm (V.ptr 0 0),Sm (V.ptr 1 0),Sm (i6 ↑i),Sm (V.ptr 3 0),Sm (pv9 i),Sm (V.im i (it L)),Sm (V.ptr 6 0),_]) ⟨aq,aq,aq,aq,aq,aq,aq,aq,aq,trivial⟩
 obtain⟨e,sl,H',nx',⟨F',rfl,rfl,rfl,rfl,h1,h2⟩,h3⟩:=key
 refine⟨F',h1,h2,To.seq (sl1:=sE9 cnt L 0) (H1:=ME9 gr NN SS W Q g P cnt F) (nx1:=7) (by kernel_rfl) (b:=at' 6 [1,1,1,1,1,1,1,0,1]) (a:=at' 6 [1,1,1,1,1,1,1,0,0]) ?_ (To.block (by kernel_rfl) h3)⟩
 refine To.of_vc (n:=100) (hs:=[toO (sE9 cnt L 0)]) fun nx0 lg G hG=>?_
 generalize ME9 gr NN SS W Q g P cnt F=M at*
 exact m_ (p:=An [G Ex.normal (sE9 cnt L 0) M 7 lg,Sm (V.ptr 0 0),Sm (V.ptr 1 0),Sm (i6 ↑cnt),Sm (V.ptr 3 0),Sm (pv9 cnt),Sm (V.im cnt (it L)),Sm (V.ptr 6 0),i6 0=i6 ↑(0:Nat),_]) ⟨aq,aq,aq,aq,aq,aq,aq,aq,aq,trivial⟩
end
theorem Qn9{P:List Pc}{k:Nat}{x:Pc}(h:P[k]? =some x):headF (dropF (4*k) (pcL P))=some (w8 (x.c:Nat))∧headF (dropF (4*k+1) (pcL P))=some (w8 (x.f:Nat))∧headF (dropF (4*k+2) (pcL P))=some (w8 (x.o:Nat))∧headF (dropF (4*k+3) (pcL P))=some (pcU x):=by
 have hd:=Qp1 h
 simp only[Qa2]
 have key: ∀i,(pcL P).drop (4*k+i)=(pcC x++pcL (P.drop (k+1))).drop i:=fun i=>by rw[←hd,List.drop_drop];congr 1;omega
 refine⟨?_,?_,?_,?_⟩
 ·have:=key 0;rw[Nat.add_zero]at this;rw[this];rfl
 ·rw[key 1];rfl
 ·rw[key 2];rfl
 ·rw[key 3];rfl
structure C1(cnt:Nat)(F:Nat→V):Prop where
 nil: ∀j,j<4*cnt→j%4≠0→F j= .nils
 num: ∀v,v<cnt→∃c:Int,(c=2∨c=3)∧F (4*v)=i6 c
section
variable (gr:Nat) (NN:List Pc) (SS:List (Nat×Nat)) (W Q:List Nat) (g:Int) (P:List Pc) (cnt:Nat) (hc:1≤cnt∧cnt≤4)
abbrev sF9(cnt:Nat)(q:List Nat):List (Nat×V):=[(1,.ptr 0 0),(2,.ptr 1 0),(3,i6 (cnt:Nat)),(4,.ptr 3 0),(5,pv9 cnt),(6,.im cnt (it q)),(7,.ptr 6 0),(9,.sl 7 0 cnt (some (cnt-cnt)))]
noncomputable abbrev MF9(gr:Nat)(NN:List Pc)(SS:List (Nat×Nat))(W Q:List Nat)(g:Int)(P:List Pc)(cnt:Nat)(F:Nat→V):T O:=pt (ME9 gr NN SS W Q g P cnt F) 7 (.row 4 none (rep cnt [.bool false]))
include hc
theorem md_8(L:List Nat)(hl:L.length=cnt)(hm: ∀x∈L,x<cnt)(hP:P.length=cnt)(hPo: ∀x∈P,PcOk x)(F:Nat→V)(hF:C0 cnt F)(h2: ∀v,v<cnt→F (4*v)=i6 2): ∃F',C1 cnt F'∧To 365 (at' 6 [1,1,1,1,1,1,1,1,0]) (sD9 cnt L) (ME9 gr NN SS W Q g P cnt F) 7 .normal (sD9 cnt L) (ME9 gr NN SS W Q g P cnt F') 7:=by
 have hLf:=Qaq L
 obtain⟨m2,m3,m4⟩:=Qop gr NN SS W Q g P cnt F
 have m4:gt (ME9 gr NN SS W Q g P cnt F) 4=some (.row 88 none (pcL P)):=m4
 obtain⟨x,hx⟩: ∃x,P[0]? =some x:=⟨P[0]'(by omega),List.getElem?_eq_getElem _⟩
 have hpc:=(Qn9 hx).1
 have hxo:=hPo x (List.mem_of_getElem? hx)
 have hxc:=hxo.c
 have hp:=hm (L.getD 0 0) (by rw[List.getD_eq_getElem?_getD,List.getElem?_eq_getElem (by omega)];exact List.getElem_mem _)
 have hd:=Qgj (l:=L) (k:=0) (by omega)
 have hw:((x.c:Int)).tmod 3=(x.c%3:Nat):=by rw[Int.tmod_eq_emod_of_nonneg (by omega)];omega
 have hpf:=HfL_pc P
 generalize x.c=y at*
 by_cases h3:y%3=2
 ·refine ⟨upF F (4 * L.getD 0 0) (i6 3), ⟨fun j h1 h => by rw [Qah (by omega)]; exact hF.nil j h1 h, fun v hv => ?_⟩, ?_⟩
  ·by_cases hv2 : v = L.getD 0 0
   ·exact⟨3,.inr rfl,by rw[hv2,Qai]⟩
   ·exact⟨2,.inl rfl,by rw[Qah (by omega)];exact h2 v hv⟩
  ·generalize L.getD 0 0 = p at *
   have hlay:=Qcn (n:=4*cnt) (k:=4*p) (F:=F) (x:=i6 3) (by omega)
   have hup:=ME9_up gr NN SS W Q g P cnt F (4*p) (i6 3)
   generalize ME9 gr NN SS W Q g P cnt (upF F (4*p) (i6 3))=M2 at*
   generalize ME9 gr NN SS W Q g P cnt F=M at*
   generalize hC2:cellsF (4*cnt) (upF F (4*p) (i6 3))=C2 at*
   generalize cellsF (4*cnt) F=C1 at*
   generalize pcL P=PL at*
   refine To.of_vc (n:=100) (hs:=[pl 66,lo_ 68 (.row 88 none PL) (w8 (y:Nat)),nu 69 (2:Nat),yes 70,lo_ 72 (ca9 g .nils (nv9 cnt)) (nv9 cnt),pl 74,ld 75 (i6 (p:Nat)),pl 76,so (me9 C1) C2,toO (sD9 cnt L)]) fun nx0 lg G hG=>?_
   clear h2 hF
   rw[h3]at hw
   exact m_ (p:=let z0:=(0:Int);let z1:=(↑cnt:Int);An [An [z0≤z0,z0<z1],_,headF (dropF (0+Int.toNat z0*4+0) PL)=some (w8 ↑y),_,((↑(2:Nat):Int)==(2:Int))=true,_,headF (dropF (0+2) [i6 g,V.nils,nv9 cnt])=some (nv9 cnt),An [z0≤z0,z0<z1],headF (List.drop (Int.toNat z0*1) (it L))=some (i6 ↑p),An [z0≤(↑p:Int),(↑p:Int)<z1],An [_,layE (0+p*4+0) C1 [i6 3]=some C2],G Ex.normal (sD9 cnt L) (pt M 2 (O.row 86 none C2)) 7 ([2]++lg),Sm (V.ptr 0 0),Sm (V.ptr 1 0),Sm (i6 ↑cnt),Sm (V.ptr 3 0),Sm (pv9 cnt),Sm (V.im cnt (it L)),Sm (V.ptr 6 0),_]) ⟨a_,m4,aq,hw,aq,m3,(by rfl),a_,aq,a_,⟨m2,(by (rw[show 0+p*4+0=4*p by omega];exact hlay))⟩,aq,aq,aq,aq,aq,aq,aq,aq,tq⟩
 ·refine ⟨F, ⟨hF.nil, fun v hv => ⟨2, .inl rfl, h2 v hv⟩⟩, ?_⟩
  generalize ME9 gr NN SS W Q g P cnt F=M at*
  generalize cellsF (4*cnt) F=C1 at*
  generalize pcL P=PL at*
  have hne:((y%3:Nat):Int)≠2:=by omega
  refine To.of_vc (n:=100) (hs:=[pl 66,lo_ 68 (.row 88 none PL) (w8 (y:Nat)),nu 69 (y%3:Nat),no 70,toO (sD9 cnt L)]) fun nx0 lg G hG=>?_
  clear h2 hF
  generalize y%3=z at*
  exact m_ (p:=let z0:=(0:Int);An [An [z0≤z0,z0<(↑cnt:Int)],_,headF (dropF (0+Int.toNat z0*4+0) PL)=some (w8 ↑y),_,_,G Ex.normal (sD9 cnt L) M 7 lg,Sm (V.ptr 0 0),Sm (V.ptr 1 0),Sm (i6 ↑cnt),Sm (V.ptr 3 0),Sm (pv9 cnt),Sm (V.im cnt (it L)),Sm (V.ptr 6 0),_]) ⟨a_,m4,aq,hw,(Qdi hne),aq,aq,aq,aq,aq,aq,aq,aq,tq⟩
theorem md_9(L:List Nat)(F:Nat→V):To 365 (at' 6 [1,1,1,1,1,1,1,1,1,0]) (sD9 cnt L) (ME9 gr NN SS W Q g P cnt F) 7 .normal (sF9 cnt L) (MF9 gr NN SS W Q g P cnt F) 8:=by
 refine To.of_vc (n:=100) (hs:=[mk 79,toO (sF9 cnt L)]) fun nx0 lg G hG=>?_
 exact m_ (p:=let z0:=(↑cnt:Int);let z1:=V.sl 7 0 cnt (some (cnt-cnt));An [An [(0:Int)≤z0,z0≤z0,(↑(1:Nat):Int)*z0≤(281474976710656:Int),z0≤(9223372036854775807:Int)],G Ex.normal (sF9 cnt L) (pt (ME9 gr NN SS W Q g P cnt F) 7 (O.row 4 none (rep cnt [V.bool false]))) 8 lg,Sm (V.ptr 0 0),Sm (V.ptr 1 0),Sm (i6 ↑cnt),Sm (V.ptr 3 0),Sm (pv9 cnt),Sm (V.im cnt (it L)),Sm (V.ptr 6 0),z1=z1,_]) ⟨a_,aq,aq,aq,aq,aq,aq,aq,aq,aq,tq⟩
omit hc
theorem rep_c0(hc:1≤cnt∧cnt≤4):rep cnt [i6 0,.nils,.nils,.nils]=cellsF (4*cnt) (fun j=>if j%4=0 then i6 0 else .nils):=by
 rcases(show cnt=1∨cnt=2∨cnt=3∨cnt=4 by omega)with rfl|rfl|rfl|rfl<;>rfl
theorem md_start(ok:DrOk gr NN SS W Q): ∃(cnt:Nat)(g:Int)(P:List Pc)(F:Nat→V),(1≤cnt∧cnt≤4)∧(2≤g∧g≤12)∧P.length=cnt∧(∀x∈P,PcOk x)∧C1 cnt F∧∀e sl' H' nx',To 365 (at' 6 [1,1,1,1,1,1,1,1,1,1]) (sF9 cnt (orL Q cnt)) (MF9 gr NN SS W Q g P cnt F) 8 e sl' H' nx'→To 365 (at' 6 []) [(0,.agg (drL gr NN SS W Q))] .e 0 e sl' H' nx':=by
 obtain⟨cnt,hcnt⟩: ∃cnt,cnt=min (max NN.length 1) 4:=⟨_,rfl⟩
 have hc:1≤cnt∧cnt≤4:=by omega
 obtain⟨g,hg,t2⟩:=md_2 gr NN SS W Q ok cnt hc
 obtain⟨P,hP,hPo,t4⟩:=md_4 gr NN SS W Q ok g (rep cnt [i6 0,.nils,.nils,.nils]) cnt hcnt
 have t3:=md_3 gr NN SS W Q g (rep cnt [i6 0,.nils,.nils,.nils]) cnt hc
 have t5:=md_5 gr NN SS W Q g P cnt hc ok.o (rep cnt [i6 0,.nils,.nils,.nils])
 have t6:=md_6 gr NN SS W Q g P cnt hc (rep cnt [i6 0,.nils,.nils,.nils]) (orL Q cnt)
 have e0:ofOs .e 0 [dr9 gr NN SS W Q,ca9 0 .nils .nils,me9 (rep cnt [i6 0,.nils,.nils,.nils]),ca9 g .nils (nv9 cnt),pi9 P,.dead,nmO W 0]=ME9 gr NN SS W Q g P cnt (fun j=>if j%4=0 then i6 0 else .nils):=by unfold ME9;rw[rep_c0 cnt hc]
 rw[e0]at t6
 obtain⟨F1,hF1,h2,t7⟩:=md_7 gr NN SS W Q g P cnt hc (orL Q cnt) (Qcz Q cnt) (Qc9 cnt) (fun v hv=>orL_all hv) (fun j=>if j%4=0 then i6 0 else .nils) ⟨fun j _ h=>if_neg h,fun v _=>⟨0,if_pos (by omega)⟩⟩
 obtain⟨F,hF,t8⟩:=md_8 gr NN SS W Q g P cnt hc (orL Q cnt) (Qcz Q cnt) (Qc9 cnt) hP hPo F1 hF1 h2
 have t9:=md_9 gr NN SS W Q g P cnt hc (orL Q cnt) F
 refine⟨cnt,g,P,F,hc,hg,hP,hPo,hF,fun e sl' H' nx' h=>?_⟩
 exact(To.seq (b:=at' 6 [1]) (by kernel_rfl) (md_0 gr NN SS W Q) (To.seq (b:=at' 6 [1,1]) (by kernel_rfl) (md_1 gr NN SS W Q cnt hcnt) (To.seq (b:=at' 6 [1,1,1]) (by kernel_rfl) t2 (To.seq (b:=at' 6 [1,1,1,1]) (by kernel_rfl) t3 (To.seq (b:=at' 6 [1,1,1,1,1]) (by kernel_rfl) t4 (To.seq (b:=at' 6 [1,1,1,1,1,1]) (by kernel_rfl) t5 (To.seq (b:=at' 6 [1,1,1,1,1,1,1]) (by kernel_rfl) t6 (To.seq (b:=at' 6 [1,1,1,1,1,1,1,1]) (by kernel_rfl) t7 (To.seq (b:=at' 6 [1,1,1,1,1,1,1,1,1]) (by kernel_rfl) t8 (To.seq (b:=at' 6 [1,1,1,1,1,1,1,1,1,1]) (by kernel_rfl) t9 h))))))))))
end
def S9(j:Nat):Bool:=decide (j%4≠0)
abbrev ow9(cnt:Nat)(ow:Nat→Bool):O:=.row 4 none (cellsF cnt fun v=>.bool (ow v))
abbrev rr9(c:List V):O:=.row 47 (some 1) c
structure MB(dc:List V)(W:List Nat)(g:Int)(pl:List V)(cnt a:Nat)(ow:Nat→Bool)(rv:V)(H:T O):Prop where
 h0:gt H 0=some (.row 26 none dc)
 h1:gt H 1=some (ca9 0 .nils .nils)
 h3:gt H 3=some (ca9 g rv (nv9 cnt))
 h4:gt H 4=some (.row 88 none pl)
 h6:gt H 6=some (nmO W a)
 h7:gt H 7=some (ow9 cnt ow)
abbrev NL(cnt:Nat)(F:Nat→V)(ls:Nat→List Int)(hd:Nat→Nat)(kd:Nat→Bool)(H:T O)(nx:Nat):Prop:=NR H 8 nx 2 86 none (4*cnt) F S9 ls hd kd
structure RO9(cnt:Nat)(ls:Nat→List Int)(hd:Nat→Nat)(rv:V)(R:List (List Int))(hr:Nat)(H:T O)(nx:Nat):Prop where
 nil:R=[]→rv= .nils
 own:R≠[]→rv= .sl hr 0 R.length none∧8≤hr∧hr<nx∧gt H hr=some (rr9 (rtL R))
 sep:R≠[]→∀j,j<4*cnt→S9 j=true→ls j≠[]→hd j≠hr
abbrev KO(cnt:Nat)(ls:Nat→List Int)(kd:Nat→Bool):Prop:=∀j,j<4*cnt→ls j≠[]→kd j=false→(ls j).length=1
theorem S9_0(v:Nat):S9 (4*v)=false:=by simp[S9]
theorem S9_i{v i:Nat}(h:1≤i∧i≤3):S9 (4*v+i)=true:=by grind[S9]
theorem Qan{H:T O}{nx t:Nat}{x:V}{sp room:Option Nat}(h:gt H nx=some (.row t sp [x])):srcV H 1 (.sl nx 0 1 room)=some (1,[x]):=by
 rw[Qay]at h
 unfold srcV;dsimp only;rw[h];rfl
abbrev sG9(cnt:Nat)(q:List Nat)(i:Nat):List (Nat×V):=[(1,.ptr 0 0),(2,.ptr 1 0),(3,i6 (cnt:Nat)),(4,.ptr 3 0),(5,pv9 cnt),(6,.im cnt (it q)),(7,.ptr 6 0),(9,.sl 7 0 cnt (some (cnt-cnt))),(10,i6 (i:Nat))]
theorem ow_up{cnt v:Nat}{ow:Nat→Bool}(h:v<cnt):layE (0+v*1+0) (cellsF cnt fun v=>.bool (ow v)) [.bool true]=some (cellsF cnt fun w=>.bool (if w=v then true else ow w)):=by
 grind[Qcn,List.map_congr_left,upF]
section
variable {dc:List V} {W:List Nat} {g:Int} {P:List Pc} {cnt a:Nat} {ow:Nat→Bool} {rv:V} {H:T O} {m:Nat} {F:Nat→V} {ls:Nat→List Int} {hd:Nat→Nat} {kd:Nat→Bool} {R:List (List Int)} {hr:Nat} (L:List Nat)
 (hc:1≤cnt∧cnt≤4) (hg:2≤g∧g≤12) (hW: ∀x∈W,x<256) (hWl:W.length≤9223372036854775807) (ha:a≤1000) (hB:MB dc W g (pcL P) cnt a ow rv H) (hN:NL cnt F ls hd kd H (m+8)) (hR:RO9 cnt ls hd rv R hr H (m+8)) (hrl:R.length≤1000) (hP:P.length=cnt) (hPo: ∀x∈P,PcOk x)
 (hnum: ∀v,v<cnt→∃c:Int,(c=2∨c=3)∧F (4*v)=i6 c)
include hc hg hW hWl ha hB hN hR hrl hP hPo hnum
theorem ow_no(v:Nat)(hv:v<cnt)(x:Pc)(hx:P[v]? =some x)(h4:x.o%4=0):To 365 (at' 6 [1,1,1,1,1,1,1,1,1,1,0,1,0,0]) (sG9 cnt L v) H (m+8) .normal (sG9 cnt L (v+1)) H (m+8):=by
 obtain⟨h0,h1,h3,h4',h6,h7⟩:=hB
 have hpc:=(Qn9 hx).2.2.1
 have hxo:=(hPo x (List.mem_of_getElem? hx)).o
 have hLf:=Qaq L
 have hw:((x.o:Int)).tmod 4=(0:Nat):=by rw[Int.tmod_eq_emod_of_nonneg (by omega)];omega
 generalize x.o=y at*
 generalize pcL P=PL at*
 clear hN hR hnum
 refine To.of_vc (n:=100) (hs:=[yes 82,pl 87,lo_ 89 (.row 88 none PL) (w8 (y:Nat)),nu 90 (0:Nat),nu 84 (v+1:Nat),toO (sG9 cnt L (v+1))]) fun nx0 lg G hG=>?_
 exact m_ (p:=let z0:=(↑v:Int);let z1:=V.sl 7 0 cnt (some (cnt-cnt));An [decide (z0<(↑cnt:Int))=true,An [(0:Int)≤z0,z0<(↑cnt:Int)],_,headF (dropF (0+v*4+2) PL)=some (w8 ↑y),_,wr .i64 (z0+(1:Int))=(↑(v+1):Int),G Ex.normal (sG9 cnt L (v+1)) H (m+8) lg,Sm (V.ptr 0 0),Sm (V.ptr 1 0),Sm (i6 ↑cnt),Sm (V.ptr 3 0),Sm (pv9 cnt),Sm (V.im cnt (it L)),Sm (V.ptr 6 0),z1=z1,Sm (i6 ↑(v+1)),_]) ⟨aq,a_,h4',(by (rw[show 0+v*4+2=4*v+2 by omega];exact hpc)),hw,aq,aq,aq,aq,aq,aq,aq,aq,aq,aq,aq,tq⟩
theorem ow_yes(v:Nat)(hv:v<cnt)(x:Pc)(hx:P[v]? =some x)(h4:x.o%4≠0): ∃(l:List Int)(H':T O)(a':Nat),(l.length=2∨l.length=3)∧a'≤a+1∧
  MB dc W g (pcL P) cnt a' (fun w=>if w=v then true else ow w) (.sl (m+10) 0 (R.length+1) none) H'∧NL cnt (upF F (4*v+2) (.sl (m+8) 0 1 (some 0))) (upF ls (4*v+2) [(R.length:Int)]) (upF hd (4*v+2) (m+8)) (upF kd (4*v+2) false) H' (m+11)∧RO9 cnt (upF ls (4*v+2) [(R.length:Int)]) (upF hd (4*v+2) (m+8)) (.sl (m+10) 0 (R.length+1) none) (R++[l]) (m+10) H' (m+11)∧
  To 365 (at' 6 [1,1,1,1,1,1,1,1,1,1,0,1,0,0]) (sG9 cnt L v) H (m+8) .normal (sG9 cnt L (v+1)) H' (m+11):=by
 obtain⟨h0,h1,h3,h4',h6,h7⟩:=hB
 have h2:=hN.row
 have hpc:=(Qn9 hx).2.2.1
 have hxo:=(hPo x (List.mem_of_getElem? hx)).o
 have hLf:=Qaq L
 have hw:((x.o:Int)).tmod 4=(x.o%4:Nat):=by rw[Int.tmod_eq_emod_of_nonneg (by omega)];omega
 have hne:((x.o%4:Nat):Int)≠0:=by omega
 obtain⟨c,hc23,hFc⟩:=hnum v hv
 have hou:=ow_up (ow:=ow) hv
 have hlay:=Qcn (n:=4*cnt) (k:=4*v+2) (F:=F) (x:=.sl (m+8) 0 1 (some 0)) (by omega)
 have hcard:=Qbq (n:=4*cnt) (k:=4*v) (F:=upF F (4*v+2) (.sl (m+8) 0 1 (some 0))) (by omega)
 rw[Qah (by omega),hFc]at hcard
 obtain⟨Hc,hHc⟩: ∃Hc,Hc=pt (pt (pt H 7 (.row 4 none (cellsF cnt fun w=>.bool (if w=v then true else ow w)))) (m+8) (.row 3 none [i6 (R.length:Nat)])) 2 (.row 86 none (cellsF (4*cnt) (upF F (4*v+2) (.sl (m+8) 0 1 (some 0))))):=⟨_,rfl⟩
 have gc: ∀i,i≠7→i≠m+8→i≠2→gt Hc i=gt H i:=fun i a1 a2 a3=>by grind[Qaa]
 obtain⟨y,H',a',hy,ha',n6,ng,hnext⟩:=Qrb (H:=Hc) (nx:=m+9) (h:=6) W hW hWl ha (by simp_all)
 obtain⟨l,hl,hwt⟩:=Qh8 g c y hg hy
 have hl23:l.length=2∨l.length=3:=by rw[hl];split<;>simp
 have n2:gt H' 2=some (me9 (cellsF (4*cnt) (upF F (4*v+2) (.sl (m+8) 0 1 (some 0))))):=by rw[ng 2 (by omega),hHc,Qaa,if_pos rfl]
 have n3:gt H' 3=some (ca9 g rv (nv9 cnt)):=by rw[ng 3 (by omega),gc 3 (by omega) (by omega) (by omega)];exact h3
 have n8:gt H' (m+8)=some (.row 3 none [i6 (R.length:Nat)]):=by rw[ng (m+8) (by omega),hHc,Qaa,if_neg (by omega),Qaa,if_pos rfl]
 have n7:gt H' 7=some (ow9 cnt fun w=>if w=v then true else ow w):=by rw[ng 7 (by omega),hHc,Qaa,if_neg (by omega),Qaa,if_neg (by omega),Qaa,if_pos rfl]
 have nn: ∀i,i≠7→i≠m+8→i≠2→i≠6→gt H' i=gt H i:=fun i a1 a2 a3 a4=>by simp_all
 -- what is shown of the end, whatever the append was
 have fin: ∀Hf:T O,(∀i,i≠3→i≠m+9→i≠m+10→(R≠[]→i≠hr)→gt Hf i=gt H' i)→gt Hf 3=some (ca9 g (.sl (m+10) 0 (R.length+1) none) (nv9 cnt))→gt Hf (m+10)=some (rr9 (rtL (R++[l])))→
   MB dc W g (pcL P) cnt a' (fun w=>if w=v then true else ow w) (.sl (m+10) 0 (R.length+1) none) Hf∧NL cnt (upF F (4*v+2) (.sl (m+8) 0 1 (some 0))) (upF ls (4*v+2) [(R.length:Int)]) (upF hd (4*v+2) (m+8)) (upF kd (4*v+2) false) Hf (m+11)∧RO9 cnt (upF ls (4*v+2) [(R.length:Int)]) (upF hd (4*v+2) (m+8)) (.sl (m+10) 0 (R.length+1) none) (R++[l]) (m+10) Hf (m+11):=by
  intro Hf f1 f2 f3
  have hrb: ∀i,i<8→R≠[]→i≠hr:=fun i hi hRn=>by have:=(hR.own hRn).2.1;omega
  refine⟨⟨?_,?_,f2,?_,?_,?_⟩,?_,⟨fun h=>by simp at h,fun _=>⟨by simp,by omega,by omega,f3⟩,fun _ j hj hS hl'=>?_⟩⟩
  ·simp_all
  ·simp_all
  ·simp_all
  ·simp_all
  ·simp_all
  ·refine NR.new (l := [(R.length : Int)]) (k := false) hN (fun h => by cases h) (Nat.le_refl _) (by omega) (by omega) (by omega) ?_ ?_ (fun j hj hS hl' hjv => ?_)
   ·grind
   ·rw[f1 (m+8) (by omega) (by omega) (by omega) (fun hRn=>by have:=(hR.own hRn).2.2.1;omega)];exact n8
   ·obtain ⟨o1, o2, o3, o4, o5⟩ := hN.own j hj hS hl'
    rw[f1 (hd j) (by omega) (by omega) (by omega) (fun hRn=>hR.sep hRn j hj hS hl'),nn (hd j) (by omega) (by omega) (by omega) (by omega)]
  ·by_cases hj2 : j = 4 * v + 2
   ·grind[Qai]
   ·rw [Qah hj2] at hl' ⊢
    have:=(hN.own j hj hS hl').2.2.1
    omega
 have h7:gt H 7=some (.row 4 none (cellsF cnt fun w=>.bool (ow w))):=h7
 have hne2:((x.o%4:Nat):Int)≠0:=hne
 rw[hHc]at hnext
 clear hHc gc ng n7 n8
 generalize hC2:cellsF (4*cnt) (upF F (4*v+2) (.sl (m+8) 0 1 (some 0)))=C2 at*
 generalize cellsF (4*cnt) F=C1 at*
 generalize pcL P=PL at*
 generalize x.o=yo at*
 generalize hO1:(cellsF cnt fun w=>V.bool (if w=v then true else ow w))=O1 at*
 generalize hO0:(cellsF cnt fun w=>V.bool (ow w))=O0 at*
 by_cases hRn:R=[]
 ·subst hRn
  obtain rfl:=hR.nil rfl
  have hf:=fin (pt (pt (pt H' (m+9) (.row 47 none [sl l])) (m+10) (rr9 [sl l])) 3 (ca9 g (.sl (m+10) 0 1 none) (nv9 cnt))) (fun i i1 i2 i3 _=>by grind[Qaa]) (by simp_all[Qaa]) (by rw[Qaa,if_neg (by omega),Qaa,if_pos rfl];rfl)
  refine⟨l,_,a',hl23,ha',hf.1,hf.2.1,hf.2.2,?_⟩
  clear hf fin hN hnum hR
  refine To.of_vc (n:=100) (hs:=[yes 82,pl 87,lo_ 89 (.row 88 none PL) (w8 (yo:Nat)),nu 90 (yo%4:Nat),yes 91,pl 94,so (.row 4 none O0) O1,lo_ 96 (ca9 g .nils (nv9 cnt)) (nv9 cnt),lo_ 99 (ca9 g .nils (nv9 cnt)) .nils,pl 102,so (me9 C1) C2,(115,.call ⟨w8 (y:Nat),H',m+9,[6]⟩),lo_ 107 (ca9 g .nils (nv9 cnt)) (i6 g),lo_ 109 (ca9 g .nils (nv9 cnt)) (nv9 cnt),pl 111,lo_ 113 (me9 C2) (i6 c),fn 116 (sl l),lo_ 105 (ca9 g .nils (nv9 cnt)) .nils,(118,.an 1 [sl l]),so (ca9 g .nils (nv9 cnt)) [i6 g,.sl (m+10) 0 1 none,nv9 cnt],nu 84 (v+1:Nat),toO (sG9 cnt L (v+1))]) fun nx0 lg G hG=>?_
  refine m_ (p:=let z1:=some (ca9 g V.nils (nv9 cnt));let z2:=[i6 g,V.nils,nv9 cnt];let z3:=(↑v:Int);let z5:=pt H 7 (O.row 4 none O1);let z6:=(↑cnt:Int);let z7:=pt H' (m+9) (O.row 47 none [sl l]);let z8:=[i6 g,V.sl (m+10) 0 1 none,nv9 cnt];let z9:=CR.mk (w8 ↑y) H' (m+9) [6];let y0:=V.sl 7 0 cnt (some (cnt-cnt));let y1:=(0:Int);let y4:=V.ptr 6 0;let z0:=pt z5 (m+8) (O.row 3 none [i6 ↑(0:Nat)]);let z4:=pt z7 (m+9+1) (O.row 47 (some 1) [sl l]);let y3:=headF (dropF (0+2) z2);let y2:=pt z0 2 (O.row 86 none C2);An [decide (z3<z6)=true,An [y1≤z3,z3<z6],gt H 4=some (O.row 88 none PL),headF (dropF (0+v*4+2) PL)=some (w8 ↑yo),Int.tmod (↑yo:Int) (4:Int)=(↑(yo%4):Int),((↑(yo%4):Int) != y1)=true,An [y1≤z3,z3<z6],An [gt H 7=some (O.row 4 none O0),layE (0+v*1) O0 [V.bool true]=some O1],gt z5 3=z1,y3=some (nv9 cnt),gt z5 3=z1,headF (dropF 1 z2)=some V.nils,An [y1≤z3,z3<z6],An [gt z0 2=some (me9 C1),layE (0+v*4+2) C1 [V.sl (m+8) 0 1 (some 0)]=some C2],CallSpec Pg g0 (V.fn 34 []) [y4] y2 (m+8+1) z9,Tt,gt H' 3=z1,headF (dropF (0+0) z2)=some (i6 g),gt H' 3=z1,y3=some (nv9 cnt),An [y1≤z3,z3<z6],gt H' 2=some (me9 C2),headF (dropF (0+v*4+0) C2)=some (i6 c),TT 3,FnOk Pg g0 33 [i6 g,i6 c,w8 ↑y] (sl l),An [(V.fn 34 []=V.fn 33 []→[y4]=[i6 g,i6 c,w8 ↑y]→y2=H'→m+8+1=m+9→z9=CR.mk (sl l) H' (m+9) []),Tt],gt H' 3=z1,headF (dropF 1 z2)=some V.nils,An [srcV z7 1 (V.sl (m+9) 0 1 (some 0))=some (1,[sl l]),1≤9223372036854775807,1*24≤140737488355328],An [gt z4 3=z1,layE 1 z2 [V.sl (m+9+1) 0 1 none]=some z8],wr .i64 (z3+(1:Int))=(↑(v+1):Int),G Ex.normal (sG9 cnt L (v+1)) (pt z4 3 (O.row 34 none z8)) (m+9+1+1) ([3]++([]++([]++([6]++([2]++([7]++lg)))))),Sm (V.ptr 0 0),Sm (V.ptr 1 0),Sm (i6 ↑cnt),Sm (V.ptr 3 0),Sm (pv9 cnt),Sm (V.im cnt (it L)),y4=y4,y0=y0,Sm (i6 ↑(v+1)),Tt]) ?_
  (repeat'(first|(with_reducible apply And.intro)|(refine fun(_:True)=>?_)))
  all_goals first|exact tq|exact hG _|(with_reducible exact hw)|(rw[show 0+v*4+2=4*v+2 by omega];first|exact hpc|exact hlay)|(rw[show 0+v*4+0=4*v by omega];exact hcard)|exact hou|exact gq|exact hnext|exact Qan (by exact gq)|exact(fun hk_=>absurd (V.fn.inj hk_).1 (by decide))|rfl|skip
 ·obtain ⟨hrv, r1, r2, r3⟩ := hR.own hRn
  subst hrv
  obtain⟨k,rfl⟩: ∃k,hr=k+8:=⟨hr-8,by omega⟩
  have n8:gt H' (k+8)=some (.row 47 (some 1) (rtL R)):=by rw[nn (k+8) (by omega) (by omega) (by omega) (by omega)];exact r3
  have hRf:=Qar R
  have hRl:(rtL R).length=R.length:=by unfold rtL;rw[List.length_map]
  have eR:rtL (R++[l])=rtL R++[sl l]:=by unfold rtL;rw[List.map_append];rfl
  rw[eR]at fin
  have hf:=fin (pt (pt (pt (pt H' (m+9) (.row 47 none [sl l])) (k+8) .dead) (m+10) (rr9 (rtL R++[sl l]))) 3 (ca9 g (.sl (m+10) 0 (R.length+1) none) (nv9 cnt))) (fun i i1 i2 i3 i4=>by grind[Qaa]) (by grind[Qaa]) (by grind[Qaa])
  refine⟨l,_,a',hl23,ha',hf.1,hf.2.1,hf.2.2,?_⟩
  clear hf fin hN hnum hR nn
  generalize rtL R=RR at*
  generalize R.length=q at*
  refine To.of_vc (n:=100) (hs:=[yes 82,pl 87,lo_ 89 (.row 88 none PL) (w8 (yo:Nat)),nu 90 (yo%4:Nat),yes 91,pl 94,so (.row 4 none O0) O1,lo_ 96 (ca9 g (.sl (k+8) 0 q none) (nv9 cnt)) (nv9 cnt),lo_ 99 (ca9 g (.sl (k+8) 0 q none) (nv9 cnt)) (.sl (k+8) 0 q none),pl 102,so (me9 C1) C2,(115,.call ⟨w8 (y:Nat),H',m+9,[6]⟩),lo_ 107 (ca9 g (.sl (k+8) 0 q none) (nv9 cnt)) (i6 g),lo_ 109 (ca9 g (.sl (k+8) 0 q none) (nv9 cnt)) (nv9 cnt),pl 111,lo_ 113 (me9 C2) (i6 c),fn 116 (sl l),lo_ 105 (ca9 g (.sl (k+8) 0 q none) (nv9 cnt)) (.sl (k+8) 0 q none),(118,.aop (rr9 RR) 1 [sl l]),so (ca9 g (.sl (k+8) 0 q none) (nv9 cnt)) [i6 g,.sl (m+10) 0 (q+1) none,nv9 cnt],nu 84 (v+1:Nat),toO (sG9 cnt L (v+1))]) fun nx0 lg G hG=>?_
  refine m_ (p:=let z0:=V.sl (k+8) 0 q none;let z3:=pt H' (m+9) (O.row 47 none [sl l]);let z4:=(↑v:Int);let z7:=pt H 7 (O.row 4 none O1);let z8:=(↑cnt:Int);let z9:=[i6 g,V.sl (m+10) 0 (q+1) none,nv9 cnt];let y0:=CR.mk (w8 ↑y) H' (m+9) [6];let y1:=V.sl 7 0 cnt (some (cnt-cnt));let y2:=(0:Int);let y5:=V.ptr 6 0;let z1:=pt z7 (m+8) (O.row 3 none [i6 ↑q]);let z2:=some (ca9 g z0 (nv9 cnt));let z5:=[i6 g,z0,nv9 cnt];let z6:=pt (pt z3 (k+8) O.dead) (m+9+1) (O.row 47 (some 1) (RR++[sl l]));let y3:=pt z1 2 (O.row 86 none C2);let y4:=headF (dropF (0+2) z5);An [decide (z4<z8)=true,An [y2≤z4,z4<z8],gt H 4=some (O.row 88 none PL),headF (dropF (0+v*4+2) PL)=some (w8 ↑yo),Int.tmod (↑yo:Int) (4:Int)=(↑(yo%4):Int),((↑(yo%4):Int) != y2)=true,An [y2≤z4,z4<z8],An [gt H 7=some (O.row 4 none O0),layE (0+v*1) O0 [V.bool true]=some O1],gt z7 3=z2,y4=some (nv9 cnt),gt z7 3=z2,headF (dropF 1 z5)=some z0,An [y2≤z4,z4<z8],An [gt z1 2=some (me9 C1),layE (0+v*4+2) C1 [V.sl (m+8) 0 1 (some 0)]=some C2],CallSpec Pg g0 (V.fn 34 []) [y5] y3 (m+8+1) y0,Tt,gt H' 3=z2,headF (dropF (0+0) z5)=some (i6 g),gt H' 3=z2,y4=some (nv9 cnt),An [y2≤z4,z4<z8],gt H' 2=some (me9 C2),headF (dropF (0+v*4+0) C2)=some (i6 c),TT 3,FnOk Pg g0 33 [i6 g,i6 c,w8 ↑y] (sl l),An [(V.fn 34 []=V.fn 33 []→[y5]=[i6 g,i6 c,w8 ↑y]→y3=H'→m+8+1=m+9→y0=CR.mk (sl l) H' (m+9) []),Tt],gt H' 3=z2,headF (dropF 1 z5)=some z0,srcV z3 1 (V.sl (m+9) 0 1 (some 0))=some (1,[sl l]),An [gt z3 (k+8)=some (rr9 RR),RR.length=q*1,1≤1,q+1≤9223372036854775807,(q+1)*24≤140737488355328,atoms [sl l]=true],An [gt z6 3=z2,layE 1 z5 [V.sl (m+9+1) 0 (q+1) none]=some z9],wr .i64 (z4+(1:Int))=(↑(v+1):Int),G Ex.normal (sG9 cnt L (v+1)) (pt z6 3 (O.row 34 none z9)) (m+9+1+1) ([3]++([k+8]++([]++([6]++([2]++([7]++lg)))))),Sm (V.ptr 0 0),Sm (V.ptr 1 0),Sm (i6 ↑cnt),Sm (V.ptr 3 0),Sm (pv9 cnt),Sm (V.im cnt (it L)),y5=y5,y1=y1,Sm (i6 ↑(v+1)),Tt]) ?_
  (repeat'(first|(with_reducible apply And.intro)|(refine fun(_:True)=>?_)))
  all_goals first|exact tq|exact hG _|(with_reducible exact hw)|(rw[show 0+v*4+2=4*v+2 by omega];first|exact hpc|exact hlay)|(rw[show 0+v*4+0=4*v by omega];exact hcard)|exact hou|exact gq|exact hnext|exact Qan (by exact gq)|exact(fun hk_=>absurd (V.fn.inj hk_).1 (by decide))|rfl|skip
end
structure Q2(cnt i k:Nat)(ow:Nat→Bool)(F:Nat→V)(ls:Nat→List Int)(R:List (List Int)):Prop where
 num: ∀v,v<cnt→∃c:Int,(c=2∨c=3)∧F (4*v)=i6 c
 fr: ∀v,v<cnt→ls (4*v+1)=[]∧ls (4*v+3)=[]
 no: ∀v,v<cnt→∀z∈ls (4*v+2),0≤z∧z<R.length
 len: ∀v,v<cnt→(ls (4*v+2)).length≤k
 rn:R.length≤i
 ow: ∀v,v<cnt→ow v=true→ls (4*v+2)≠[]
 rl: ∀L∈R,L.length=2∨L.length=3
def MQ(dc:List V)(W:List Nat)(g:Int)(P:List Pc)(cnt i k:Nat)(H:T O)(nx:Nat):Prop:=
 ∃(m a:Nat)(ow:Nat→Bool)(rv:V)(F:Nat→V)(ls:Nat→List Int)(hd:Nat→Nat)(kd:Nat→Bool)(R:List (List Int))(hr:Nat),nx=m+8∧a≤i∧MB dc W g (pcL P) cnt a ow rv H∧NL cnt F ls hd kd H nx∧RO9 cnt ls hd rv R hr H nx∧Q2 cnt i k ow F ls R∧KO cnt ls kd
section
variable {dc:List V} {W:List Nat} {g:Int} {P:List Pc} {cnt:Nat} (L:List Nat)
 (hc:1≤cnt∧cnt≤4) (hg:2≤g∧g≤12) (hW: ∀x∈W,x<256) (hWl:W.length≤9223372036854775807) (hP:P.length=cnt) (hPo: ∀x∈P,PcOk x)
include hc hg hW hWl hP hPo
theorem ow_loop(H:T O)(nx:Nat)(h:MQ dc W g P cnt 0 1 H nx): ∃H' nx',MQ dc W g P cnt cnt 1 H' nx'∧To 365 (at' 6 [1,1,1,1,1,1,1,1,1,1,0]) (sF9 cnt L) H nx .normal (sF9 cnt L) H' nx':=by
 have key : ∃ e sl H' nx', (e = .exit 2 ∧ sl = sF9 cnt L ∧ MQ dc W g P cnt cnt 1 H' nx') ∧ To 365 (at' 6 [1, 1, 1, 1, 1, 1, 1, 1, 1, 1, 0, 1, 0]) (sG9 cnt L 0) H nx e sl H' nx' := by
  refine To.loop (b:=at' 6 [1,1,1,1,1,1,1,1,1,1,0,1,0,0]) (by kernel_rfl) (fun(i:Nat) H nx=>i≤cnt∧MQ dc W g P cnt i 1 H nx) (fun i=>sG9 cnt L i) (fun i=>cnt-i) (fun e sl H nx=>e= .exit 2∧sl=sF9 cnt L∧MQ dc W g P cnt cnt 1 H nx) (fun i H nx hI=>?_) 0 H nx ⟨Nat.zero_le _,h⟩
  obtain⟨hi,m,a,ow,rv,F,ls,hd,kd,R,hr,rfl,ha,hB,hN,hR,hQ,hK⟩:=hI
  have hrl:=hQ.rn
  by_cases hlt:i<cnt
  ·left
   obtain⟨x,hx⟩: ∃x,P[i]? =some x:=⟨P[i]'(by omega),List.getElem?_eq_getElem _⟩
   by_cases h4:x.o%4=0
   ·exact⟨i+1,H,m+8,⟨hlt,m,a,ow,rv,F,ls,hd,kd,R,hr,rfl,by omega,hB,hN,hR,⟨hQ.num,hQ.fr,hQ.no,hQ.len,by omega,hQ.ow,hQ.rl⟩,hK⟩,by omega,ow_no L hc hg hW hWl (by omega) hB hN hR (by omega) hP hPo hQ.num i hlt x hx h4⟩
   ·obtain ⟨l, H', a', hl, ha', hB', hN', hR', ht⟩ := ow_yes L hc hg hW hWl (by omega) hB hN hR (by omega) hP hPo hQ.num i hlt x hx h4
    refine⟨i+1,H',m+11,⟨hlt,m+3,a',_,_,_,_,_,_,_,_,rfl,by omega,hB',hN',hR',⟨fun v hv=>?_,fun v hv=>?_,fun v hv z hz=>?_,fun v hv=>?_,?_,fun v hv h=>?_,fun l' hl'=>?_⟩,fun j hj hl' hk=>?_⟩,by omega,ht⟩
    ·rw[Qah (by omega)];exact hQ.num v hv
    ·rw[Qah (by omega),Qah (by omega)];exact hQ.fr v hv
    ·rw [List.length_append, List.length_singleton]
     by_cases hv2:v=i
     ·subst hv2
      rw[Qai,List.mem_singleton]at hz
      omega
     ·rw [Qah (by omega)] at hz
      have:=hQ.no v hv z hz
      omega
    ·by_cases hv2 : v = i
     ·subst hv2;rw[Qai];exact Nat.le_refl _
     ·rw[Qah (by omega)];exact hQ.len v hv
    ·rw[List.length_append,List.length_singleton];omega
    ·by_cases hv2 : v = i
     ·subst hv2;rw[Qai];exact fun h=>by cases h
     ·rw[Qah (by omega)];rw[if_neg hv2]at h;exact hQ.ow v hv h
    ·rcases List.mem_append.1 hl' with h | h
     ·exact hQ.rl l' h
     ·rw[List.mem_singleton.1 h];exact hl
    ·by_cases hj2 : j = 4 * i + 2
     ·subst hj2;rw[Qai];rfl
     ·rw[Qah hj2]at hl' hk⊢;exact hK j hj hl' hk
  ·right
   obtain rfl:i=cnt:=by omega
   refine⟨.exit 2,sF9 i L,H,m+8,(fun h=>by cases h),⟨rfl,rfl,m,a,ow,rv,F,ls,hd,kd,R,hr,rfl,ha,hB,hN,hR,hQ,hK⟩,?_⟩
   refine To.of_vc (n:=100) (hs:=[no 82,toO (sF9 i L)]) fun nx0 lg G hG=>?_
   have hLf:=Qaq L
   clear hB hN hR hQ
   exact m_ (p:=An [decide ((↑i:Int)<(↑i:Int))=false,G (Ex.exit 2) (sF9 i L) H (m+8) lg,Sm (V.ptr 0 0),Sm (V.ptr 1 0),Sm (i6 ↑i),Sm (V.ptr 3 0),Sm (pv9 i),Sm (V.im i (it L)),Sm (V.ptr 6 0),Sm (V.sl 7 0 i (some (i-i))),_]) ⟨aq,aq,aq,aq,aq,aq,aq,aq,aq,aq,tq⟩
 obtain⟨e,sl,H',nx',⟨rfl,rfl,h1⟩,h3⟩:=key
 refine⟨H',nx',h1,To.seq (sl1:=sG9 cnt L 0) (H1:=H) (nx1:=nx) (by kernel_rfl) (b:=at' 6 [1,1,1,1,1,1,1,1,1,1,0,1]) (a:=at' 6 [1,1,1,1,1,1,1,1,1,1,0,0]) ?_ (To.block (by kernel_rfl) h3)⟩
 refine To.of_vc (n:=100) (hs:=[toO (sG9 cnt L 0)]) fun nx0 lg G hG=>?_
 have hLf:=Qaq L
 clear h h1 h3
 exact m_ (p:=An [G Ex.normal (sG9 cnt L 0) H nx lg,Sm (V.ptr 0 0),Sm (V.ptr 1 0),Sm (i6 ↑cnt),Sm (V.ptr 3 0),Sm (pv9 cnt),Sm (V.im cnt (it L)),Sm (V.ptr 6 0),Sm (V.sl 7 0 cnt (some (cnt-cnt))),i6 0=i6 ↑(0:Nat),_]) ⟨aq,aq,aq,aq,aq,aq,aq,aq,aq,aq,tq⟩
end
theorem rep_ow(cnt:Nat)(hc:1≤cnt∧cnt≤4):rep cnt [V.bool false]=cellsF cnt fun _=>V.bool false:=by
 rcases(show cnt=1∨cnt=2∨cnt=3∨cnt=4 by omega)with rfl|rfl|rfl|rfl<;>rfl
theorem mq_start{gr:Nat}{NN:List Pc}{SS:List (Nat×Nat)}{W Q:List Nat}{g:Int}{P:List Pc}{cnt:Nat}(hc:1≤cnt∧cnt≤4){F:Nat→V}(hF:C1 cnt F):MQ (drL gr NN SS W Q) W g P cnt 0 1 (MF9 gr NN SS W Q g P cnt F) 8:=by
 have ge: ∀i,i≠7→gt (MF9 gr NN SS W Q g P cnt F) i=gt (ME9 gr NN SS W Q g P cnt F) i:=fun i hi=>by rw[Qaa,if_neg hi]
 obtain⟨m2,m3,m4⟩:=Qop gr NN SS W Q g P cnt F
 refine⟨0,0,fun _=>false,.nils,F,fun _=>[],fun _=>0,fun _=>false,[],0,rfl,Nat.le_refl _,⟨?_,?_,?_,?_,?_,?_⟩,⟨?_,fun j hj hS _=>hF.nil j hj (of_decide_eq_true hS),fun j _ _ h=>absurd rfl h,fun j _ _ _ _ _ h=>absurd rfl h⟩,⟨fun _=>rfl,fun h=>absurd rfl h,fun h=>absurd rfl h⟩,⟨hF.num,fun v _=>⟨rfl,rfl⟩,(fun v _ z hz=>by cases hz),fun v _=>Nat.zero_le _,Nat.le_refl _,(fun v _ h=>by cases h),(fun l hl=>by cases hl)⟩,fun _ _ h=>absurd rfl h⟩
 ·rw[ge 0 (by omega)];kernel_rfl
 ·rw[ge 1 (by omega)];kernel_rfl
 ·rw[ge 3 (by omega)];exact m3
 ·rw[ge 4 (by omega)];exact m4
 ·rw[ge 6 (by omega)];kernel_rfl
 ·rw[Qaa,if_pos rfl,rep_ow cnt hc]
 ·rw[ge 2 (by omega)];exact m2
section
variable {dc:List V} {W:List Nat} {g:Int} {qc:List V} {cnt a:Nat} {ow:Nat→Bool} {rv:V} {H:T O} {m:Nat} {F:Nat→V} {ls:Nat→List Int} {hd:Nat→Nat} {kd:Nat→Bool} {R:List (List Int)} {hr:Nat}
 (hB:MB dc W g qc cnt a ow rv H) (hN:NL cnt F ls hd kd H (m+8)) (hR:RO9 cnt ls hd rv R hr H (m+8))
include hB hN hR
theorem Qft(j:Nat)(hj:j<4*cnt)(hS:S9 j=true)(x:Int)(Hf:T O)(f1: ∀i,i≠2→i≠m+8→i≠m+9→(ls j≠[]→i≠hd j)→gt Hf i=gt H i)(f2:gt Hf 2=some (.row 86 none (cellsF (4*cnt) (upF F j (.sl (m+9) 0 ((ls j).length+1) none)))))(f3:gt Hf (m+9)=some (.row 3 (some 1) (ints (ls j++[x])))):
  MB dc W g qc cnt a ow rv Hf∧NL cnt (upF F j (.sl (m+9) 0 ((ls j).length+1) none)) (upF ls j (ls j++[x])) (upF hd j (m+9)) (upF kd j true) Hf (m+10)∧RO9 cnt (upF ls j (ls j++[x])) (upF hd j (m+9)) rv R hr Hf (m+10):=by
 have hlo: ∀i,i<8→ls j≠[]→i≠hd j:=fun i hi hl=>by have:=(hN.own j hj hS hl).2.1;omega
 obtain⟨h0,h1,h3,h4,h6,h7⟩:=hB
 refine⟨⟨?_,?_,?_,?_,?_,?_⟩,?_,⟨hR.nil,fun hn=>?_,fun hn i hi hSi hl=>?_⟩⟩
 ·rw[f1 0 (by omega) (by omega) (by omega) (hlo 0 (by omega))];exact h0
 ·rw[f1 1 (by omega) (by omega) (by omega) (hlo 1 (by omega))];exact h1
 ·rw[f1 3 (by omega) (by omega) (by omega) (hlo 3 (by omega))];exact h3
 ·rw[f1 4 (by omega) (by omega) (by omega) (hlo 4 (by omega))];exact h4
 ·rw[f1 6 (by omega) (by omega) (by omega) (hlo 6 (by omega))];exact h6
 ·rw[f1 7 (by omega) (by omega) (by omega) (hlo 7 (by omega))];exact h7
 ·have e : (ls j).length + 1 = (ls j ++ [x]).length := by rw [List.length_append, List.length_singleton]
  rw[e]at f2⊢
  refine NR.new (k:=true) hN (by simp) (show m+8≤m+9 by omega) (by omega) (by omega) (by omega) f2 f3 (fun i hi hSi hl hij=>?_)
  obtain⟨o1,o2,o3,o4,o5⟩:=hN.own i hi hSi hl
  rw[f1 (hd i) (by omega) (by omega) (by omega) (fun hlj=>hN.ne hj hS hlj hi hSi hl hij)]
 ·obtain ⟨r1, r2, r3, r4⟩ := hR.own hn
  refine⟨r1,r2,by omega,?_⟩
  rw[f1 hr (by omega) (by omega) (by omega) (fun hl=>Ne.symm (hR.sep hn j hj hS hl))]
  exact r4
 ·by_cases hij : i = j
  ·subst hij
   rw[Qai]
   have:=(hR.own hn).2.2.1
   omega
  ·rw [Qah hij] at hl ⊢
   exact hR.sep hn i hi hSi hl
end
theorem Qq0{x:V}{R:List (List Int)}{hr:Nat}(h0:R=[]→x= .nils)(h1:R≠[]→x= .sl hr 0 R.length none):(x= .nils∧R.length=0)∨x= .sl hr 0 R.length none:=by
 by_cases h:R=[]
 ·exact .inl ⟨h0 h,by rw[h];rfl⟩
 ·exact .inr (h1 h)
theorem KO.up{cnt:Nat}{ls:Nat→List Int}{kd:Nat→Bool}(h:KO cnt ls kd)(j:Nat)(l:List Int):KO cnt (upF ls j l) (upF kd j true):=fun i hi hl hk=>by
 by_cases hij:i=j
 ·subst hij;rw[Qai]at hk;cases hk
 ·rw[Qah hij]at hl hk⊢;exact h i hi hl hk
theorem Qcw(a b:List Int):ints (a++b)=ints a++ints b:=by unfold ints;rw[List.map_append]
abbrev sH9(cnt:Nat)(q:List Nat)(i:Nat):List (Nat×V):=[(1,.ptr 0 0),(2,.ptr 1 0),(3,i6 (cnt:Nat)),(4,.ptr 3 0),(5,pv9 cnt),(6,.im cnt (it q)),(7,.ptr 6 0),(9,.sl 7 0 cnt (some (cnt-cnt))),(11,i6 (i:Nat))]
abbrev sI9(cnt:Nat)(q:List Nat)(i a b:Nat):List (Nat×V):=[(1,.ptr 0 0),(2,.ptr 1 0),(3,i6 (cnt:Nat)),(4,.ptr 3 0),(5,pv9 cnt),(6,.im cnt (it q)),(7,.ptr 6 0),(9,.sl 7 0 cnt (some (cnt-cnt))),(11,i6 (i:Nat)),(12,i6 (a:Nat)),(13,i6 (b:Nat))]
section
variable {dc:List V} {W:List Nat} {g:Int} {qc:List V} {cnt a:Nat} {ow:Nat→Bool} {rv:V} {H:T O} {m:Nat} {F:Nat→V} {ls:Nat→List Int} {hd:Nat→Nat} {kd:Nat→Bool} {R:List (List Int)} {hr:Nat} (L:List Nat)
 (hc:1≤cnt∧cnt≤4) (hB:MB dc W g qc cnt a ow rv H) (hN:NL cnt F ls hd kd H (m+8)) (hR:RO9 cnt ls hd rv R hr H (m+8)) (hK:KO cnt ls kd) (hrl:R.length≤1000)
include hc hB hN hR hK hrl
theorem push_a(k x y:Nat)(hx:x<cnt)(hl:(ls (4*x+2)).length≤1000)(hne:ls (4*x+2)≠[]→R≠[]): ∃H':T O,MB dc W g qc cnt a ow rv H'∧NL cnt (upF F (4*x+2) (.sl (m+9) 0 ((ls (4*x+2)).length+1) none)) (upF ls (4*x+2) (ls (4*x+2)++[(R.length:Int)])) (upF hd (4*x+2) (m+9)) (upF kd (4*x+2) true) H' (m+10)∧RO9 cnt (upF ls (4*x+2) (ls (4*x+2)++[(R.length:Int)])) (upF hd (4*x+2) (m+9)) rv R hr H' (m+10)∧
  To 365 (at' 6 [1,1,1,1,1,1,1,1,1,1,1,0,1,0,0,1,0,0,1,1,0,0]) (sI9 cnt L k x y) H (m+8) .normal (sI9 cnt L k x y) H' (m+10):=by
 have fin:=Qft hB hN hR (4*x+2) (by omega) (S9_i (by omega)) (R.length:Int)
 have hlay:=Qcn (n:=4*cnt) (k:=4*x+2) (F:=F) (x:=.sl (m+9) 0 ((ls (4*x+2)).length+1) none) (by omega)
 have hcell:=Qbq (n:=4*cnt) (k:=4*x+2) (F:=F) (by omega)
 have h2:gt H 2=some (.row 86 none (cellsF (4*cnt) F)):=hN.row
 obtain⟨h0,h1,h3,h4,h6,h7⟩:=hB
 have hLf:=Qaq L
 have hrv:=Qq0 hR.nil (fun h=>(hR.own h).1)
 generalize hC2:cellsF (4*cnt) (upF F (4*x+2) (.sl (m+9) 0 ((ls (4*x+2)).length+1) none))=C2 at*
 by_cases hnil:ls (4*x+2)=[]
 ·clear hne
  rw[hN.nil _ (by omega) (S9_i (by omega)) hnil]at hcell
  generalize hq:R.length=q at*
  have hf:=fin (pt (pt (pt H (m+8) (.row 3 none [i6 (q:Nat)])) (m+9) (.row 3 (some 1) [i6 (q:Nat)])) 2 (.row 86 none C2)) (fun i i1 i2 i3 i4=>by rw[Qaa,if_neg i1,Qaa,if_neg i3,Qaa,if_neg i2]) (by rw[Qaa,if_pos rfl]) (by rw[Qaa,if_neg (by omega),Qaa,if_pos rfl,hnil];rfl)
  refine⟨_,hf.1,hf.2.1,hf.2.2,?_⟩
  clear hf fin hN hR hK
  rw[hnil]at hlay hC2
  generalize cellsF (4*cnt) F=C1 at*
  rcases hrv with⟨rfl,rfl⟩|rfl
  ·refine To.of_vc (n := 100) (hs := [lo_ 156 (ca9 g .nils (nv9 cnt)) (nv9 cnt), pl 158, lo_ 160 (.row 86 none C1) .nils, lo_ 162 (ca9 g .nils (nv9 cnt)) .nils, (165, .an 1 [i6 (0 : Nat)]), lo_ 153 (ca9 g .nils (nv9 cnt)) (nv9 cnt), pl 166, so (.row 86 none C1) C2, toO (sI9 cnt L k x y)]) fun nx0 lg G hG => ?_
   exact m_ (p:=let z4:=(↑x:Int);let z5:=[i6 ↑(0:Nat)];let z6:=V.sl 7 0 cnt (some (cnt-cnt));let z8:=[i6 g,V.nils,nv9 cnt];let z2:=pt H (m+8) (O.row 3 none z5);let z3:=headF (dropF (0+2) z8);let z0:=pt z2 (m+8+1) (O.row 3 (some 1) z5);An [_,z3=some (nv9 cnt),An [(0:Int)≤z4,z4<(↑cnt:Int)],_,headF (dropF (0+x*4+2) C1)=some V.nils,_,headF (dropF 1 z8)=some V.nils,An [srcV z2 1 (V.sl (m+8) 0 1 (some 0))=some (1,z5),1≤9223372036854775807,1*8≤140737488355328],gt z0 3=(some (ca9 g V.nils (nv9 cnt))),z3=some (nv9 cnt),An [(0:Int)≤z4,z4<(↑cnt:Int)],An [gt z0 2=(some (O.row 86 none C1)),layE (0+x*4+2) C1 [V.sl (m+8+1) 0 1 none]=some C2],G Ex.normal (sI9 cnt L k x y) (pt z0 2 (O.row 86 none C2)) (m+8+1+1) ([2]++([]++lg)),Sm (V.ptr 0 0),Sm (V.ptr 1 0),Sm (i6 ↑cnt),Sm (V.ptr 3 0),Sm (pv9 cnt),Sm (V.im cnt (it L)),Sm (V.ptr 6 0),z6=z6,Sm (i6 ↑k),Sm (i6 ↑x),Sm (i6 ↑y),_]) ⟨h3,gq,a_,h2,(by (rw[show 0+x*4+2=4*x+2 by omega];first|exact hcell|exact hlay)),h3,gq,⟨Qan (by exact gq),a_⟩,gq,gq,a_,⟨gq,(by (rw[show 0+x*4+2=4*x+2 by omega];first|exact hcell|exact hlay))⟩,aq,aq,aq,aq,aq,aq,aq,aq,aq,aq,aq,aq,tq⟩
  ·refine To.of_vc (n := 100) (hs := [lo_ 156 (ca9 g (.sl hr 0 q none) (nv9 cnt)) (nv9 cnt), pl 158, lo_ 160 (.row 86 none C1) .nils, lo_ 162 (ca9 g (.sl hr 0 q none) (nv9 cnt)) (.sl hr 0 q none), (165, .an 1 [i6 (q : Nat)]), lo_ 153 (ca9 g (.sl hr 0 q none) (nv9 cnt)) (nv9 cnt), pl 166, so (.row 86 none C1) C2, toO (sI9 cnt L k x y)]) fun nx0 lg G hG => ?_
   exact m_ (p:=let z1:=V.sl hr 0 q none;let z4:=pt H (m+8) (O.row 3 none [i6 ↑q]);let z5:=(↑x:Int);let z6:=V.sl 7 0 cnt (some (cnt-cnt));let z0:=pt z4 (m+8+1) (O.row 3 (some 1) [i6 ↑q]);let z3:=headF (dropF (0+2) [i6 g,z1,nv9 cnt]);An [_,z3=some (nv9 cnt),An [(0:Int)≤z5,z5<(↑cnt:Int)],_,headF (dropF (0+x*4+2) C1)=some V.nils,_,headF (dropF 1 [i6 g,z1,nv9 cnt])=some z1,An [srcV z4 1 (V.sl (m+8) 0 1 (some 0))=some (1,[i6 ↑q]),1≤9223372036854775807,1*8≤140737488355328],gt z0 3=(some (ca9 g z1 (nv9 cnt))),z3=some (nv9 cnt),An [(0:Int)≤z5,z5<(↑cnt:Int)],An [gt z0 2=(some (O.row 86 none C1)),layE (0+x*4+2) C1 [V.sl (m+8+1) 0 1 none]=some C2],G Ex.normal (sI9 cnt L k x y) (pt z0 2 (O.row 86 none C2)) (m+8+1+1) ([2]++([]++lg)),Sm (V.ptr 0 0),Sm (V.ptr 1 0),Sm (i6 ↑cnt),Sm (V.ptr 3 0),Sm (pv9 cnt),Sm (V.im cnt (it L)),Sm (V.ptr 6 0),z6=z6,Sm (i6 ↑k),Sm (i6 ↑x),Sm (i6 ↑y),_]) ⟨h3,gq,a_,h2,(by (rw[show 0+x*4+2=4*x+2 by omega];first|exact hcell|exact hlay)),h3,gq,⟨Qan (by exact gq),a_⟩,gq,gq,a_,⟨gq,(by (rw[show 0+x*4+2=4*x+2 by omega];first|exact hcell|exact hlay))⟩,aq,aq,aq,aq,aq,aq,aq,aq,aq,aq,aq,aq,tq⟩
 ·obtain ⟨o1, o2, o3, o4, o5⟩ := hN.own _ (by omega) (S9_i (by omega)) hnil
  have hrv:rv= .sl hr 0 R.length none:=(hR.own (hne hnil)).1
  have hko:=hK _ (by omega) hnil
  rw[o1]at hcell
  generalize hq:R.length=q at*
  subst hrv
  generalize hd (4*x+2)=h9 at*
  obtain⟨kk,rfl⟩: ∃kk,h9=kk+8:=⟨h9-8,by omega⟩
  cases hkd:kd (4*x+2)with
  | false =>
   obtain⟨z,hz⟩: ∃z,ls (4*x+2)=[z]:=by
    match ls (4*x+2),hko hkd with
    |[z],_=>exact⟨z,rfl⟩
   rw[hkd,hz]at hcell o5
   rw[hz]at hC2 hlay fin
   have hf:=fin (pt (pt (pt H (m+8) (.row 3 none [i6 (q:Nat)])) (m+9) (.row 3 (some 1) [i6 z,i6 (q:Nat)])) 2 (.row 86 none C2)) (fun i i1 i2 i3 i4=>by rw[Qaa,if_neg i1,Qaa,if_neg i3,Qaa,if_neg i2]) (by rw[Qaa,if_pos rfl]) (by rw[Qaa,if_neg (by omega),Qaa,if_pos rfl];rfl)
   rw[hz]
   refine⟨_,hf.1,hf.2.1,hf.2.2,?_⟩
   have o5:gt H (kk+8)=some (.row 3 none [i6 z]):=o5
   have hcell:headF (dropF (4*x+2) (cellsF (4*cnt) F))=some (.sl (kk+8) 0 1 (some 0)):=hcell
   clear hf fin hN hR hK hne hnil o1 hko
   generalize cellsF (4*cnt) F=C1 at*
   refine To.of_vc (n:=100) (hs:=[lo_ 156 (ca9 g (.sl hr 0 q none) (nv9 cnt)) (nv9 cnt),pl 158,lo_ 160 (.row 86 none C1) (.sl (kk+8) 0 1 (some 0)),lo_ 162 (ca9 g (.sl hr 0 q none) (nv9 cnt)) (.sl hr 0 q none),(165,.cp 1 [i6 z,i6 (q:Nat)]),lo_ 153 (ca9 g (.sl hr 0 q none) (nv9 cnt)) (nv9 cnt),pl 166,so (.row 86 none C1) C2,toO (sI9 cnt L k x y)]) fun nx0 lg G hG=>?_
   exact m_ (p:=let z1:=V.sl hr 0 q none;let z2:=pt H (m+8) (O.row 3 none [i6 ↑q]);let z5:=(↑x:Int);let z6:=V.sl 7 0 cnt (some (cnt-cnt));let z7:=V.sl (kk+8) 0 1 (some 0);let z0:=pt z2 (m+8+1) (O.row 3 (some 1) [i6 z,i6 ↑q]);let z4:=headF (dropF (0+2) [i6 g,z1,nv9 cnt]);An [_,z4=some (nv9 cnt),An [(0:Int)≤z5,z5<(↑cnt:Int)],_,headF (dropF (0+x*4+2) C1)=some z7,_,headF (dropF 1 [i6 g,z1,nv9 cnt])=some z1,An [srcV z2 1 (V.sl (m+8) 0 1 (some 0))=some (1,[i6 ↑q]),srcV z2 1 z7=some (1,[i6 z]),1≤1,2≤9223372036854775807,2*8≤140737488355328],gt z0 3=(some (ca9 g z1 (nv9 cnt))),z4=some (nv9 cnt),An [(0:Int)≤z5,z5<(↑cnt:Int)],An [gt z0 2=(some (O.row 86 none C1)),layE (0+x*4+2) C1 [V.sl (m+8+1) 0 2 none]=some C2],G Ex.normal (sI9 cnt L k x y) (pt z0 2 (O.row 86 none C2)) (m+8+1+1) ([2]++([]++lg)),Sm (V.ptr 0 0),Sm (V.ptr 1 0),Sm (i6 ↑cnt),Sm (V.ptr 3 0),Sm (pv9 cnt),Sm (V.im cnt (it L)),Sm (V.ptr 6 0),z6=z6,Sm (i6 ↑k),Sm (i6 ↑x),Sm (i6 ↑y),_]) ⟨h3,gq,a_,h2,(by (rw[show 0+x*4+2=4*x+2 by omega];first|exact hcell|exact hlay)),h3,gq,⟨Qan (by exact gq),Qan (by exact gq),a_⟩,gq,gq,a_,⟨gq,(by (rw[show 0+x*4+2=4*x+2 by omega];first|exact hcell|exact hlay))⟩,aq,aq,aq,aq,aq,aq,aq,aq,aq,aq,aq,aq,tq⟩
  |true=>
   rw[hkd]at hcell o5
   have o5:gt H (kk+8)=some (.row 3 (some 1) (ints (ls (4*x+2)))):=o5
   have hcell:headF (dropF (4*x+2) (cellsF (4*cnt) F))=some (.sl (kk+8) 0 (ls (4*x+2)).length none):=hcell
   have il:=Qal (ls (4*x+2))
   have hif:=Qad (ls (4*x+2))
   have ia:ints (ls (4*x+2)++[(q:Int)])=ints (ls (4*x+2))++[i6 (q:Nat)]:=Qcw _ _
   have hf:=fin (pt (pt (pt (pt H (m+8) (.row 3 none [i6 (q:Nat)])) (kk+8) .dead) (m+9) (.row 3 (some 1) (ints (ls (4*x+2))++[i6 (q:Nat)]))) 2 (.row 86 none C2)) (fun i i1 i2 i3 i4=>by rw[Qaa,if_neg i1,Qaa,if_neg i3,Qaa,if_neg (i4 hnil),Qaa,if_neg i2]) (by rw[Qaa,if_pos rfl]) (by rw[Qaa,if_neg (by omega),Qaa,if_pos rfl,ia])
   refine⟨_,hf.1,hf.2.1,hf.2.2,?_⟩
   clear hf fin hN hR hK hne hnil o1 hko ia
   generalize ints (ls (4*x+2))=l at*
   generalize (ls (4*x+2)).length=ll at*
   generalize cellsF (4*cnt) F=C1 at*
   refine To.of_vc (n:=100) (hs:=[lo_ 156 (ca9 g (.sl hr 0 q none) (nv9 cnt)) (nv9 cnt),pl 158,lo_ 160 (.row 86 none C1) (.sl (kk+8) 0 ll none),lo_ 162 (ca9 g (.sl hr 0 q none) (nv9 cnt)) (.sl hr 0 q none),(165,.aop (.row 3 (some 1) l) 1 [i6 (q:Nat)]),lo_ 153 (ca9 g (.sl hr 0 q none) (nv9 cnt)) (nv9 cnt),pl 166,so (.row 86 none C1) C2,toO (sI9 cnt L k x y)]) fun nx0 lg G hG=>?_
   exact m_ (p:=let z1:=V.sl hr 0 q none;let z5:=(↑x:Int);let z6:=V.sl 7 0 cnt (some (cnt-cnt));let z8:=[i6 ↑q];let z2:=pt H (m+8) (O.row 3 none z8);let z4:=headF (dropF (0+2) [i6 g,z1,nv9 cnt]);let z0:=pt (pt z2 (kk+8) O.dead) (m+8+1) (O.row 3 (some 1) (l++z8));An [_,z4=some (nv9 cnt),An [(0:Int)≤z5,z5<(↑cnt:Int)],_,headF (dropF (0+x*4+2) C1)=some (V.sl (kk+8) 0 ll none),_,headF (dropF 1 [i6 g,z1,nv9 cnt])=some z1,srcV z2 1 (V.sl (m+8) 0 1 (some 0))=some (1,z8),An [gt z2 (kk+8)=some (O.row 3 (some 1) l),l.length=ll*1,1≤1,ll+1≤9223372036854775807,(ll+1)*8≤140737488355328,atoms z8=true],gt z0 3=(some (ca9 g z1 (nv9 cnt))),z4=some (nv9 cnt),An [(0:Int)≤z5,z5<(↑cnt:Int)],An [gt z0 2=(some (O.row 86 none C1)),layE (0+x*4+2) C1 [V.sl (m+8+1) 0 (ll+1) none]=some C2],G Ex.normal (sI9 cnt L k x y) (pt z0 2 (O.row 86 none C2)) (m+8+1+1) ([2]++([kk+8]++lg)),Sm (V.ptr 0 0),Sm (V.ptr 1 0),Sm (i6 ↑cnt),Sm (V.ptr 3 0),Sm (pv9 cnt),Sm (V.im cnt (it L)),Sm (V.ptr 6 0),z6=z6,Sm (i6 ↑k),Sm (i6 ↑x),Sm (i6 ↑y),_]) ⟨h3,gq,a_,h2,(by (rw[show 0+x*4+2=4*x+2 by omega];first|exact hcell|exact hlay)),h3,gq,Qan (by exact gq),⟨gq,aq,aq,aq,aq,gq⟩,gq,gq,a_,⟨gq,(by (rw[show 0+x*4+2=4*x+2 by omega];first|exact hcell|exact hlay))⟩,aq,aq,aq,aq,aq,aq,aq,aq,aq,aq,aq,aq,tq⟩
theorem push_b(k x y:Nat)(hx:y<cnt)(hl:(ls (4*y+2)).length≤1000)(hne:ls (4*y+2)≠[]→R≠[]): ∃H':T O,MB dc W g qc cnt a ow rv H'∧NL cnt (upF F (4*y+2) (.sl (m+9) 0 ((ls (4*y+2)).length+1) none)) (upF ls (4*y+2) (ls (4*y+2)++[(R.length:Int)])) (upF hd (4*y+2) (m+9)) (upF kd (4*y+2) true) H' (m+10)∧RO9 cnt (upF ls (4*y+2) (ls (4*y+2)++[(R.length:Int)])) (upF hd (4*y+2) (m+9)) rv R hr H' (m+10)∧
  To 365 (at' 6 [1,1,1,1,1,1,1,1,1,1,1,0,1,0,0,1,0,0,1,1,0,1,0]) (sI9 cnt L k x y) H (m+8) .normal (sI9 cnt L k x y) H' (m+10):=by
 have fin:=Qft hB hN hR (4*y+2) (by omega) (S9_i (by omega)) (R.length:Int)
 have hlay:=Qcn (n:=4*cnt) (k:=4*y+2) (F:=F) (x:=.sl (m+9) 0 ((ls (4*y+2)).length+1) none) (by omega)
 have hcell:=Qbq (n:=4*cnt) (k:=4*y+2) (F:=F) (by omega)
 have h2:gt H 2=some (.row 86 none (cellsF (4*cnt) F)):=hN.row
 obtain⟨h0,h1,h3,h4,h6,h7⟩:=hB
 have hLf:=Qaq L
 have hrv:=Qq0 hR.nil (fun h=>(hR.own h).1)
 generalize hC2:cellsF (4*cnt) (upF F (4*y+2) (.sl (m+9) 0 ((ls (4*y+2)).length+1) none))=C2 at*
 by_cases hnil:ls (4*y+2)=[]
 ·clear hne
  rw[hN.nil _ (by omega) (S9_i (by omega)) hnil]at hcell
  generalize hq:R.length=q at*
  have hf:=fin (pt (pt (pt H (m+8) (.row 3 none [i6 (q:Nat)])) (m+9) (.row 3 (some 1) [i6 (q:Nat)])) 2 (.row 86 none C2)) (fun i i1 i2 i3 i4=>by rw[Qaa,if_neg i1,Qaa,if_neg i3,Qaa,if_neg i2]) (by rw[Qaa,if_pos rfl]) (by rw[Qaa,if_neg (by omega),Qaa,if_pos rfl,hnil];rfl)
  refine⟨_,hf.1,hf.2.1,hf.2.2,?_⟩
  clear hf fin hN hR hK
  rw[hnil]at hlay hC2
  generalize cellsF (4*cnt) F=C1 at*
  rcases hrv with⟨rfl,rfl⟩|rfl
  ·refine To.of_vc (n := 100) (hs := [lo_ 172 (ca9 g .nils (nv9 cnt)) (nv9 cnt), pl 174, lo_ 176 (.row 86 none C1) .nils, lo_ 178 (ca9 g .nils (nv9 cnt)) .nils, (181, .an 1 [i6 (0 : Nat)]), lo_ 169 (ca9 g .nils (nv9 cnt)) (nv9 cnt), pl 182, so (.row 86 none C1) C2, toO (sI9 cnt L k x y)]) fun nx0 lg G hG => ?_
   exact m_ (p:=let z4:=(↑y:Int);let z5:=[i6 ↑(0:Nat)];let z6:=V.sl 7 0 cnt (some (cnt-cnt));let z8:=[i6 g,V.nils,nv9 cnt];let z2:=pt H (m+8) (O.row 3 none z5);let z3:=headF (dropF (0+2) z8);let z0:=pt z2 (m+8+1) (O.row 3 (some 1) z5);An [_,z3=some (nv9 cnt),An [(0:Int)≤z4,z4<(↑cnt:Int)],_,headF (dropF (0+y*4+2) C1)=some V.nils,_,headF (dropF 1 z8)=some V.nils,An [srcV z2 1 (V.sl (m+8) 0 1 (some 0))=some (1,z5),1≤9223372036854775807,1*8≤140737488355328],gt z0 3=(some (ca9 g V.nils (nv9 cnt))),z3=some (nv9 cnt),An [(0:Int)≤z4,z4<(↑cnt:Int)],An [gt z0 2=(some (O.row 86 none C1)),layE (0+y*4+2) C1 [V.sl (m+8+1) 0 1 none]=some C2],G Ex.normal (sI9 cnt L k x y) (pt z0 2 (O.row 86 none C2)) (m+8+1+1) ([2]++([]++lg)),Sm (V.ptr 0 0),Sm (V.ptr 1 0),Sm (i6 ↑cnt),Sm (V.ptr 3 0),Sm (pv9 cnt),Sm (V.im cnt (it L)),Sm (V.ptr 6 0),z6=z6,Sm (i6 ↑k),Sm (i6 ↑x),Sm (i6 ↑y),_]) ⟨h3,gq,a_,h2,(by (rw[show 0+y*4+2=4*y+2 by omega];first|exact hcell|exact hlay)),h3,gq,⟨Qan (by exact gq),a_⟩,gq,gq,a_,⟨gq,(by (rw[show 0+y*4+2=4*y+2 by omega];first|exact hcell|exact hlay))⟩,aq,aq,aq,aq,aq,aq,aq,aq,aq,aq,aq,aq,tq⟩
  ·refine To.of_vc (n := 100) (hs := [lo_ 172 (ca9 g (.sl hr 0 q none) (nv9 cnt)) (nv9 cnt), pl 174, lo_ 176 (.row 86 none C1) .nils, lo_ 178 (ca9 g (.sl hr 0 q none) (nv9 cnt)) (.sl hr 0 q none), (181, .an 1 [i6 (q : Nat)]), lo_ 169 (ca9 g (.sl hr 0 q none) (nv9 cnt)) (nv9 cnt), pl 182, so (.row 86 none C1) C2, toO (sI9 cnt L k x y)]) fun nx0 lg G hG => ?_
   exact m_ (p:=let z1:=V.sl hr 0 q none;let z4:=pt H (m+8) (O.row 3 none [i6 ↑q]);let z5:=(↑y:Int);let z6:=V.sl 7 0 cnt (some (cnt-cnt));let z0:=pt z4 (m+8+1) (O.row 3 (some 1) [i6 ↑q]);let z3:=headF (dropF (0+2) [i6 g,z1,nv9 cnt]);An [_,z3=some (nv9 cnt),An [(0:Int)≤z5,z5<(↑cnt:Int)],_,headF (dropF (0+y*4+2) C1)=some V.nils,_,headF (dropF 1 [i6 g,z1,nv9 cnt])=some z1,An [srcV z4 1 (V.sl (m+8) 0 1 (some 0))=some (1,[i6 ↑q]),1≤9223372036854775807,1*8≤140737488355328],gt z0 3=(some (ca9 g z1 (nv9 cnt))),z3=some (nv9 cnt),An [(0:Int)≤z5,z5<(↑cnt:Int)],An [gt z0 2=(some (O.row 86 none C1)),layE (0+y*4+2) C1 [V.sl (m+8+1) 0 1 none]=some C2],G Ex.normal (sI9 cnt L k x y) (pt z0 2 (O.row 86 none C2)) (m+8+1+1) ([2]++([]++lg)),Sm (V.ptr 0 0),Sm (V.ptr 1 0),Sm (i6 ↑cnt),Sm (V.ptr 3 0),Sm (pv9 cnt),Sm (V.im cnt (it L)),Sm (V.ptr 6 0),z6=z6,Sm (i6 ↑k),Sm (i6 ↑x),Sm (i6 ↑y),_]) ⟨h3,gq,a_,h2,(by (rw[show 0+y*4+2=4*y+2 by omega];first|exact hcell|exact hlay)),h3,gq,⟨Qan (by exact gq),a_⟩,gq,gq,a_,⟨gq,(by (rw[show 0+y*4+2=4*y+2 by omega];first|exact hcell|exact hlay))⟩,aq,aq,aq,aq,aq,aq,aq,aq,aq,aq,aq,aq,tq⟩
 ·obtain ⟨o1, o2, o3, o4, o5⟩ := hN.own _ (by omega) (S9_i (by omega)) hnil
  have hrv:rv= .sl hr 0 R.length none:=(hR.own (hne hnil)).1
  have hko:=hK _ (by omega) hnil
  rw[o1]at hcell
  generalize hq:R.length=q at*
  subst hrv
  generalize hd (4*y+2)=h9 at*
  obtain⟨kk,rfl⟩: ∃kk,h9=kk+8:=⟨h9-8,by omega⟩
  cases hkd:kd (4*y+2)with
  | false =>
   obtain⟨z,hz⟩: ∃z,ls (4*y+2)=[z]:=by
    match ls (4*y+2),hko hkd with
    |[z],_=>exact⟨z,rfl⟩
   rw[hkd,hz]at hcell o5
   rw[hz]at hC2 hlay fin
   have hf:=fin (pt (pt (pt H (m+8) (.row 3 none [i6 (q:Nat)])) (m+9) (.row 3 (some 1) [i6 z,i6 (q:Nat)])) 2 (.row 86 none C2)) (fun i i1 i2 i3 i4=>by rw[Qaa,if_neg i1,Qaa,if_neg i3,Qaa,if_neg i2]) (by rw[Qaa,if_pos rfl]) (by rw[Qaa,if_neg (by omega),Qaa,if_pos rfl];rfl)
   rw[hz]
   refine⟨_,hf.1,hf.2.1,hf.2.2,?_⟩
   have o5:gt H (kk+8)=some (.row 3 none [i6 z]):=o5
   have hcell:headF (dropF (4*y+2) (cellsF (4*cnt) F))=some (.sl (kk+8) 0 1 (some 0)):=hcell
   clear hf fin hN hR hK hne hnil o1 hko
   generalize cellsF (4*cnt) F=C1 at*
   refine To.of_vc (n:=100) (hs:=[lo_ 172 (ca9 g (.sl hr 0 q none) (nv9 cnt)) (nv9 cnt),pl 174,lo_ 176 (.row 86 none C1) (.sl (kk+8) 0 1 (some 0)),lo_ 178 (ca9 g (.sl hr 0 q none) (nv9 cnt)) (.sl hr 0 q none),(181,.cp 1 [i6 z,i6 (q:Nat)]),lo_ 169 (ca9 g (.sl hr 0 q none) (nv9 cnt)) (nv9 cnt),pl 182,so (.row 86 none C1) C2,toO (sI9 cnt L k x y)]) fun nx0 lg G hG=>?_
   exact m_ (p:=let z1:=V.sl hr 0 q none;let z2:=pt H (m+8) (O.row 3 none [i6 ↑q]);let z5:=(↑y:Int);let z6:=V.sl 7 0 cnt (some (cnt-cnt));let z7:=V.sl (kk+8) 0 1 (some 0);let z0:=pt z2 (m+8+1) (O.row 3 (some 1) [i6 z,i6 ↑q]);let z4:=headF (dropF (0+2) [i6 g,z1,nv9 cnt]);An [_,z4=some (nv9 cnt),An [(0:Int)≤z5,z5<(↑cnt:Int)],_,headF (dropF (0+y*4+2) C1)=some z7,_,headF (dropF 1 [i6 g,z1,nv9 cnt])=some z1,An [srcV z2 1 (V.sl (m+8) 0 1 (some 0))=some (1,[i6 ↑q]),srcV z2 1 z7=some (1,[i6 z]),1≤1,2≤9223372036854775807,2*8≤140737488355328],gt z0 3=(some (ca9 g z1 (nv9 cnt))),z4=some (nv9 cnt),An [(0:Int)≤z5,z5<(↑cnt:Int)],An [gt z0 2=(some (O.row 86 none C1)),layE (0+y*4+2) C1 [V.sl (m+8+1) 0 2 none]=some C2],G Ex.normal (sI9 cnt L k x y) (pt z0 2 (O.row 86 none C2)) (m+8+1+1) ([2]++([]++lg)),Sm (V.ptr 0 0),Sm (V.ptr 1 0),Sm (i6 ↑cnt),Sm (V.ptr 3 0),Sm (pv9 cnt),Sm (V.im cnt (it L)),Sm (V.ptr 6 0),z6=z6,Sm (i6 ↑k),Sm (i6 ↑x),Sm (i6 ↑y),_]) ⟨h3,gq,a_,h2,(by (rw[show 0+y*4+2=4*y+2 by omega];first|exact hcell|exact hlay)),h3,gq,⟨Qan (by exact gq),Qan (by exact gq),a_⟩,gq,gq,a_,⟨gq,(by (rw[show 0+y*4+2=4*y+2 by omega];first|exact hcell|exact hlay))⟩,aq,aq,aq,aq,aq,aq,aq,aq,aq,aq,aq,aq,tq⟩
  |true=>
   rw[hkd]at hcell o5
   have o5:gt H (kk+8)=some (.row 3 (some 1) (ints (ls (4*y+2)))):=o5
   have hcell:headF (dropF (4*y+2) (cellsF (4*cnt) F))=some (.sl (kk+8) 0 (ls (4*y+2)).length none):=hcell
   have il:=Qal (ls (4*y+2))
   have hif:=Qad (ls (4*y+2))
   have ia:ints (ls (4*y+2)++[(q:Int)])=ints (ls (4*y+2))++[i6 (q:Nat)]:=Qcw _ _
   have hf:=fin (pt (pt (pt (pt H (m+8) (.row 3 none [i6 (q:Nat)])) (kk+8) .dead) (m+9) (.row 3 (some 1) (ints (ls (4*y+2))++[i6 (q:Nat)]))) 2 (.row 86 none C2)) (fun i i1 i2 i3 i4=>by rw[Qaa,if_neg i1,Qaa,if_neg i3,Qaa,if_neg (i4 hnil),Qaa,if_neg i2]) (by rw[Qaa,if_pos rfl]) (by rw[Qaa,if_neg (by omega),Qaa,if_pos rfl,ia])
   refine⟨_,hf.1,hf.2.1,hf.2.2,?_⟩
   clear hf fin hN hR hK hne hnil o1 hko ia
   generalize ints (ls (4*y+2))=l at*
   generalize (ls (4*y+2)).length=ll at*
   generalize cellsF (4*cnt) F=C1 at*
   refine To.of_vc (n:=100) (hs:=[lo_ 172 (ca9 g (.sl hr 0 q none) (nv9 cnt)) (nv9 cnt),pl 174,lo_ 176 (.row 86 none C1) (.sl (kk+8) 0 ll none),lo_ 178 (ca9 g (.sl hr 0 q none) (nv9 cnt)) (.sl hr 0 q none),(181,.aop (.row 3 (some 1) l) 1 [i6 (q:Nat)]),lo_ 169 (ca9 g (.sl hr 0 q none) (nv9 cnt)) (nv9 cnt),pl 182,so (.row 86 none C1) C2,toO (sI9 cnt L k x y)]) fun nx0 lg G hG=>?_
   exact m_ (p:=let z1:=V.sl hr 0 q none;let z5:=(↑y:Int);let z6:=V.sl 7 0 cnt (some (cnt-cnt));let z8:=[i6 ↑q];let z2:=pt H (m+8) (O.row 3 none z8);let z4:=headF (dropF (0+2) [i6 g,z1,nv9 cnt]);let z0:=pt (pt z2 (kk+8) O.dead) (m+8+1) (O.row 3 (some 1) (l++z8));An [_,z4=some (nv9 cnt),An [(0:Int)≤z5,z5<(↑cnt:Int)],_,headF (dropF (0+y*4+2) C1)=some (V.sl (kk+8) 0 ll none),_,headF (dropF 1 [i6 g,z1,nv9 cnt])=some z1,srcV z2 1 (V.sl (m+8) 0 1 (some 0))=some (1,z8),An [gt z2 (kk+8)=some (O.row 3 (some 1) l),l.length=ll*1,1≤1,ll+1≤9223372036854775807,(ll+1)*8≤140737488355328,atoms z8=true],gt z0 3=(some (ca9 g z1 (nv9 cnt))),z4=some (nv9 cnt),An [(0:Int)≤z5,z5<(↑cnt:Int)],An [gt z0 2=(some (O.row 86 none C1)),layE (0+y*4+2) C1 [V.sl (m+8+1) 0 (ll+1) none]=some C2],G Ex.normal (sI9 cnt L k x y) (pt z0 2 (O.row 86 none C2)) (m+8+1+1) ([2]++([kk+8]++lg)),Sm (V.ptr 0 0),Sm (V.ptr 1 0),Sm (i6 ↑cnt),Sm (V.ptr 3 0),Sm (pv9 cnt),Sm (V.im cnt (it L)),Sm (V.ptr 6 0),z6=z6,Sm (i6 ↑k),Sm (i6 ↑x),Sm (i6 ↑y),_]) ⟨h3,gq,a_,h2,(by (rw[show 0+y*4+2=4*y+2 by omega];first|exact hcell|exact hlay)),h3,gq,Qan (by exact gq),⟨gq,aq,aq,aq,aq,gq⟩,gq,gq,a_,⟨gq,(by (rw[show 0+y*4+2=4*y+2 by omega];first|exact hcell|exact hlay))⟩,aq,aq,aq,aq,aq,aq,aq,aq,aq,aq,aq,aq,tq⟩
end
theorem To.cond{k:Nat}{c x y:Code}{o:Operand}{sl sl1:List (Nat×V)}{H H1:T O}{nx nx1:Nat}{e:Ex}(hc:c= .cond o x y)(t:Bool)(ho:ev ⟨putL (blank k) sl,g0,k⟩ o=some (.bool t))(h:To k (bif t then x else y) sl H nx e sl1 H1 nx1):To k c sl H nx e sl1 H1 nx1:=fun nx0 lg=>by
 subst hc
 exact Sat.cond (t:=t) ho (h nx0 lg)
section
variable {dc:List V} {W:List Nat} {g:Int} {qc:List V} {cnt a:Nat} {ow:Nat→Bool} {rv:V} {H:T O} {m:Nat} {F:Nat→V} {ls:Nat→List Int} {hd:Nat→Nat} {kd:Nat→Bool} {R:List (List Int)} {hr:Nat} (L:List Nat)
 (hg:2≤g∧g≤12) (hW: ∀x∈W,x<256) (hWl:W.length≤9223372036854775807) (ha:a≤1000) (hB:MB dc W g qc cnt a ow rv H) (hN:NL cnt F ls hd kd H (m+8)) (hR:RO9 cnt ls hd rv R hr H (m+8)) (hrl:R.length≤1000)
include hg hW hWl ha hB hN hR hrl
theorem push_r(k x y:Nat): ∃(l:List Int)(H':T O)(a':Nat),(l.length=2∨l.length=3)∧a'≤a+1∧MB dc W g qc cnt a' ow (.sl (m+9) 0 (R.length+1) none) H'∧NL cnt F ls hd kd H' (m+10)∧RO9 cnt ls hd (.sl (m+9) 0 (R.length+1) none) (R++[l]) (m+9) H' (m+10)∧
  To 365 (at' 6 [1,1,1,1,1,1,1,1,1,1,1,0,1,0,0,1,0,0,1,1,0,1,1]) (sI9 cnt L k x y) H (m+8) .normal (sI9 cnt L k x y) H' (m+10):=by
 obtain⟨h0,h1,h3,h4,h6,h7⟩:=hB
 have hLf:=Qaq L
 obtain⟨yy,H',a',hy,ha',n6,ng,hnext⟩:=Qrb (H:=H) (nx:=m+8) (h:=6) W hW hWl ha h6
 obtain⟨l,hl,hwt⟩:=Qh8 g 2 yy hg hy
 have hl23:l.length=2∨l.length=3:=by rw[hl];split<;>simp
 have n3:gt H' 3=some (ca9 g rv (nv9 cnt)):=by rw[ng 3 (by omega)];exact h3
 have fin: ∀Hf:T O,(∀i,i≠3→i≠m+8→i≠m+9→(R≠[]→i≠hr)→gt Hf i=gt H' i)→gt Hf 3=some (ca9 g (.sl (m+9) 0 (R.length+1) none) (nv9 cnt))→gt Hf (m+9)=some (rr9 (rtL (R++[l])))→
   MB dc W g qc cnt a' ow (.sl (m+9) 0 (R.length+1) none) Hf∧NL cnt F ls hd kd Hf (m+10)∧RO9 cnt ls hd (.sl (m+9) 0 (R.length+1) none) (R++[l]) (m+9) Hf (m+10):=by
  intro Hf f1 f2 f3
  have hrb: ∀i,i<8→R≠[]→i≠hr:=fun i hi hRn=>by have:=(hR.own hRn).2.1;omega
  refine⟨⟨?_,?_,f2,?_,?_,?_⟩,?_,⟨fun h=>by simp at h,fun _=>⟨by rw[List.length_append];rfl,by omega,by omega,f3⟩,fun _ j hj hS hl'=>?_⟩⟩
  ·rw[f1 0 (by omega) (by omega) (by omega) (hrb 0 (by omega)),ng 0 (by omega)];exact h0
  ·rw[f1 1 (by omega) (by omega) (by omega) (hrb 1 (by omega)),ng 1 (by omega)];exact h1
  ·rw[f1 4 (by omega) (by omega) (by omega) (hrb 4 (by omega)),ng 4 (by omega)];exact h4
  ·rw[f1 6 (by omega) (by omega) (by omega) (hrb 6 (by omega))];exact n6
  ·rw[f1 7 (by omega) (by omega) (by omega) (hrb 7 (by omega)),ng 7 (by omega)];exact h7
  ·refine hN.frame (by omega) ?_ (fun j hj hS hl' => ?_)
   ·rw[f1 2 (by omega) (by omega) (by omega) (hrb 2 (by omega)),ng 2 (by omega)]
   ·obtain ⟨o1, o2, o3, o4, o5⟩ := hN.own j hj hS hl'
    rw[f1 (hd j) (by omega) (by omega) (by omega) (fun hRn=>hR.sep hRn j hj hS hl'),ng (hd j) (by omega)]
  ·have := (hN.own j hj hS hl').2.2.1
   omega
 by_cases hRn:R=[]
 ·subst hRn
  obtain rfl:=hR.nil rfl
  have hf:=fin (pt (pt (pt H' (m+8) (.row 47 none [sl l])) (m+9) (rr9 [sl l])) 3 (ca9 g (.sl (m+9) 0 1 none) (nv9 cnt))) (fun i i1 i2 i3 _=>by rw[Qaa,if_neg i1,Qaa,if_neg i3,Qaa,if_neg i2]) (by rw[Qaa,if_pos rfl];rfl) (by rw[Qaa,if_neg (by omega),Qaa,if_pos rfl];rfl)
  refine⟨l,_,a',hl23,ha',hf.1,hf.2.1,hf.2.2,?_⟩
  clear hf fin hN hR
  refine To.of_vc (n:=100) (hs:=[(189,.call ⟨w8 (yy:Nat),H',m+8,[6]⟩),lo_ 187 (ca9 g .nils (nv9 cnt)) (i6 g),fn 190 (sl l),lo_ 185 (ca9 g .nils (nv9 cnt)) .nils,(192,.an 1 [sl l]),so (ca9 g .nils (nv9 cnt)) [i6 g,.sl (m+9) 0 1 none,nv9 cnt],toO (sI9 cnt L k x y)]) fun nx0 lg G hG=>?_
  exact m_ (p:=let z2:=[i6 g,V.nils,nv9 cnt];let z3:=pt H' (m+8) (O.row 47 none [sl l]);let z4:=[i6 g,V.sl (m+9) 0 1 none,nv9 cnt];let z6:=V.sl 7 0 cnt (some (cnt-cnt));let z7:=V.ptr 6 0;let z0:=pt z3 (m+8+1) (O.row 47 (some 1) [sl l]);An [_,_,_,headF (dropF (0+0) z2)=some (i6 g),TT 3,_,An [V.fn 34 []=V.fn 33 []→[z7]=[i6 g,i6 2,w8 ↑yy]→H=H'→m+8=m+8→(CR.mk (w8 ↑yy) H' (m+8) [6])=CR.mk (sl l) H' (m+8) [],_],_,headF (dropF 1 z2)=some V.nils,An [srcV z3 1 (V.sl (m+8) 0 1 (some 0))=some (1,[sl l]),1≤9223372036854775807,1*24≤140737488355328],An [gt z0 3=(some (ca9 g V.nils (nv9 cnt))),layE 1 z2 [V.sl (m+8+1) 0 1 none]=some z4],G Ex.normal (sI9 cnt L k x y) (pt z0 3 (O.row 34 none z4)) (m+8+1+1) ([3]++([]++([]++([6]++lg)))),Sm (V.ptr 0 0),Sm (V.ptr 1 0),Sm (i6 ↑cnt),Sm (V.ptr 3 0),Sm (pv9 cnt),Sm (V.im cnt (it L)),z7=z7,z6=z6,Sm (i6 ↑k),Sm (i6 ↑x),Sm (i6 ↑y),_]) ⟨hnext,tq,n3,gq,aq,hwt,⟨aq,tq⟩,n3,gq,⟨Qan (by exact gq),a_⟩,⟨gq,gq⟩,aq,aq,aq,aq,aq,aq,aq,aq,aq,aq,aq,aq,tq⟩
 ·obtain ⟨hrv, r1, r2, r3⟩ := hR.own hRn
  subst hrv
  obtain⟨kk,rfl⟩: ∃kk,hr=kk+8:=⟨hr-8,by omega⟩
  have n8:gt H' (kk+8)=some (.row 47 (some 1) (rtL R)):=by rw[ng (kk+8) (by omega)];exact r3
  have hRf:=Qar R
  have hRl:(rtL R).length=R.length:=by unfold rtL;rw[List.length_map]
  have eR:rtL (R++[l])=rtL R++[sl l]:=by unfold rtL;rw[List.map_append];rfl
  rw[eR]at fin
  have hf:=fin (pt (pt (pt (pt H' (m+8) (.row 47 none [sl l])) (kk+8) .dead) (m+9) (rr9 (rtL R++[sl l]))) 3 (ca9 g (.sl (m+9) 0 (R.length+1) none) (nv9 cnt))) (fun i i1 i2 i3 i4=>by rw[Qaa,if_neg i1,Qaa,if_neg i3,Qaa,if_neg (i4 hRn),Qaa,if_neg i2]) (by rw[Qaa,if_pos rfl]) (by rw[Qaa,if_neg (by omega),Qaa,if_pos rfl])
  refine⟨l,_,a',hl23,ha',hf.1,hf.2.1,hf.2.2,?_⟩
  clear hf fin hN hR
  generalize rtL R=RR at*
  generalize R.length=q at*
  refine To.of_vc (n:=100) (hs:=[(189,.call ⟨w8 (yy:Nat),H',m+8,[6]⟩),lo_ 187 (ca9 g (.sl (kk+8) 0 q none) (nv9 cnt)) (i6 g),fn 190 (sl l),lo_ 185 (ca9 g (.sl (kk+8) 0 q none) (nv9 cnt)) (.sl (kk+8) 0 q none),(192,.aop (rr9 RR) 1 [sl l]),so (ca9 g (.sl (kk+8) 0 q none) (nv9 cnt)) [i6 g,.sl (m+9) 0 (q+1) none,nv9 cnt],toO (sI9 cnt L k x y)]) fun nx0 lg G hG=>?_
  exact m_ (p:=let z0:=V.sl (kk+8) 0 q none;let z2:=pt H' (m+8) (O.row 47 none [sl l]);let z4:=[i6 g,V.sl (m+9) 0 (q+1) none,nv9 cnt];let z7:=V.sl 7 0 cnt (some (cnt-cnt));let z8:=V.ptr 6 0;let z1:=pt (pt z2 (kk+8) O.dead) (m+8+1) (O.row 47 (some 1) (RR++[sl l]));let z5:=[i6 g,z0,nv9 cnt];An [_,_,_,headF (dropF (0+0) z5)=some (i6 g),TT 3,_,An [V.fn 34 []=V.fn 33 []→[z8]=[i6 g,i6 2,w8 ↑yy]→H=H'→m+8=m+8→(CR.mk (w8 ↑yy) H' (m+8) [6])=CR.mk (sl l) H' (m+8) [],_],_,headF (dropF 1 z5)=some z0,srcV z2 1 (V.sl (m+8) 0 1 (some 0))=some (1,[sl l]),An [gt z2 (kk+8)=some (rr9 RR),RR.length=q*1,1≤1,q+1≤9223372036854775807,(q+1)*24≤140737488355328,atoms [sl l]=true],An [gt z1 3=(some (ca9 g z0 (nv9 cnt))),layE 1 z5 [V.sl (m+8+1) 0 (q+1) none]=some z4],G Ex.normal (sI9 cnt L k x y) (pt z1 3 (O.row 34 none z4)) (m+8+1+1) ([3]++([kk+8]++([]++([6]++lg)))),Sm (V.ptr 0 0),Sm (V.ptr 1 0),Sm (i6 ↑cnt),Sm (V.ptr 3 0),Sm (pv9 cnt),Sm (V.im cnt (it L)),z8=z8,z7=z7,Sm (i6 ↑k),Sm (i6 ↑x),Sm (i6 ↑y),_]) ⟨hnext,tq,n3,gq,aq,hwt,⟨aq,tq⟩,n3,gq,Qan (by exact gq),⟨gq,aq,aq,aq,aq,gq⟩,⟨gq,gq⟩,aq,aq,aq,aq,aq,aq,aq,aq,aq,aq,aq,aq,tq⟩
end
section
variable {gr:Nat} {NN:List Pc} {SS:List (Nat×Nat)} {W Q:List Nat} {g:Int} {P:List Pc} {cnt:Nat} (L:List Nat)
 (hc:1≤cnt∧cnt≤4) (hg:2≤g∧g≤12) (ok:DrOk gr NN SS W Q) (hP:P.length=cnt) (hPo: ∀x∈P,PcOk x)
include hc hg ok hP hPo
theorem sh_head{a:Nat}{ow:Nat→Bool}{rv:V}{H:T O}{nx:Nat}(hB:MB (drL gr NN SS W Q) W g (pcL P) cnt a ow rv H)(k:Nat)(hk:k<SS.length)(hk2:k<2)(x:Nat×Nat)(hx:SS[k]? =some x):
  To 365 (at' 6 [1,1,1,1,1,1,1,1,1,1,1,0,1,0,0,0]) (sH9 cnt L k) H nx .normal (sH9 cnt L k) H nx∧
  To 365 (at' 6 [1,1,1,1,1,1,1,1,1,1,1,0,1,0,0,1,0,0,0]) (sH9 cnt L k) H nx .normal (sI9 cnt L k (x.1%cnt) (x.2%cnt)) H nx:=by
 have h0:gt H 0=some (.row 26 none [w8 (gr:Nat),.im NN.length (pcL NN),.im SS.length (prT SS),bl W,bl Q]):=hB.h0
 obtain⟨b1,b2⟩:=ok.s x (List.mem_of_getElem? hx)
 obtain⟨r,hr⟩:=Qrp hx
 have hLf:=Qaq L
 have hpf:=Qdu SS
 have hsl:=ok.sl
 have m1:=Qcp (G:=Qac Pg) (t:=3) (a:=x.1) (b:=cnt) (by omega)
 have m2:=Qcp (G:=Qac Pg) (t:=3) (a:=x.2) (b:=cnt) (by omega)
 obtain⟨u,w⟩:=x
 dsimp only at*
 have hd1:headF ((prT SS).drop (k*2))=some (w8 (u:Nat)):=by rw[hr];rfl
 have hd2:headF (((prT SS).drop (k*2)).drop 1)=some (w8 (w:Nat)):=by rw[hr];rfl
 have hd3:headF (dropF 1 ((prT SS).drop (k*2)))=some (w8 (w:Nat)):=by rw[hr];rfl
 generalize u%cnt=p at*
 generalize w%cnt=q at*
 clear hr
 generalize prT SS=PP at*
 generalize pcL NN=NP at*
 constructor
 ·refine To.of_vc (n := 100) (hs := [lo_ 122 (.row 26 none [w8 (gr : Nat), .im NN.length NP, .im SS.length PP, bl W, bl Q]) (.im SS.length PP), yes 124, yes 127, toO (sH9 cnt L k)]) fun nx0 lg G hG => ?_
  exact m_ (p:=let z1:=V.sl 7 0 cnt (some (cnt-cnt));An [_,headF (dropF (0+2) [w8 ↑gr,V.im NN.length NP,V.im SS.length PP,bl W,bl Q])=some (V.im SS.length PP),decide ((↑k:Int)<(↑SS.length:Int))=true,decide ((↑k:Int)<(2:Int))=true,G Ex.normal (sH9 cnt L k) H nx lg,Sm (V.ptr 0 0),Sm (V.ptr 1 0),Sm (i6 ↑cnt),Sm (V.ptr 3 0),Sm (pv9 cnt),Sm (V.im cnt (it L)),Sm (V.ptr 6 0),z1=z1,Sm (i6 ↑k),_]) ⟨h0,(by rfl),aq,aq,aq,aq,aq,aq,aq,aq,aq,aq,aq,aq,tq⟩
 ·refine To.of_vc (n := 100) (hs := [lo_ 132 (.row 26 none [w8 (gr : Nat), .im NN.length NP, .im SS.length PP, bl W, bl Q]) (.im SS.length PP), pl 134, ld 136 (w8 (u : Nat)), nu 137 (u : Nat), va 139 (i6 (p : Nat)), lo_ 141 (.row 26 none [w8 (gr : Nat), .im NN.length NP, .im SS.length PP, bl W, bl Q]) (.im SS.length PP), pl 143, ld 145 (w8 (w : Nat)), nu 146 (w : Nat), va 148 (i6 (q : Nat)), toO (sI9 cnt L k p q)]) fun nx0 lg G hG => ?_
  exact m_ (p:=let z1:=V.im SS.length PP;let z2:=(↑k:Int);let z3:=V.sl 7 0 cnt (some (cnt-cnt));let z6:=List.drop (k*2) PP;let z5:=headF (dropF (0+2) [w8 ↑gr,V.im NN.length NP,z1,bl W,bl Q]);An [_,z5=some z1,An [(0:Int)≤z2,z2<(↑SS.length:Int)],headF (List.drop (Int.toNat (0:Int)*1) z6)=some (w8 ↑u),wr .i64 (↑u:Int)=(↑u:Int),_,_,z5=some z1,An [(0:Int)≤z2,z2<(↑SS.length:Int)],headF (List.drop (Int.toNat (1:Int)*1) z6)=some (w8 ↑w),wr .i64 (↑w:Int)=(↑w:Int),_,G Ex.normal (sI9 cnt L k p q) H nx lg,Sm (V.ptr 0 0),Sm (V.ptr 1 0),(i6 ↑cnt)=(i6 ↑cnt),Sm (V.ptr 3 0),Sm (pv9 cnt),Sm (V.im cnt (it L)),Sm (V.ptr 6 0),z3=z3,Sm (i6 ↑k),Sm (i6 ↑p),Sm (i6 ↑q),_]) ⟨h0,(by rfl),a_,aq,aq,m1,h0,(by rfl),a_,aq,aq,m2,aq,aq,aq,aq,aq,aq,aq,aq,aq,aq,aq,aq,tq⟩
omit ok in
theorem Qr7{H:T O}{nx:Nat}(k a b:Nat)(t:Bool)(ht:t=decide (a≠b)):To 365 (at' 6 [1,1,1,1,1,1,1,1,1,1,1,0,1,0,0,1,0,0,1,0]) (sI9 cnt L k a b) H nx .normal (sI9 cnt L k a b++[(151,.bool t)]) H nx∧
  (k≤1000→To 365 (at' 6 [1,1,1,1,1,1,1,1,1,1,1,0,1,0,0,1,1]) (sI9 cnt L k a b) H nx .normal (sH9 cnt L (k+1)) H nx):=by
 have hLf:=Qaq L
 constructor
 ·refine To.of_vc (n := 100) (hs := [(151, .bool t), toO (sI9 cnt L k a b ++ [(151, .bool t)])]) fun nx0 lg G hG => ?_
  have hb:(((a:Nat):Int) != ((b:Nat):Int))=t:=by
   rw[ht]
   by_cases h:a=b
   ·subst h;simp
   ·rw[Qfn (by omega),decide_eq_true h]
  exact m_ (p:=An [_,G Ex.normal (sI9 cnt L k a b++[(151,V.bool t)]) H nx lg,Sm (V.ptr 0 0),Sm (V.ptr 1 0),Sm (i6 ↑cnt),Sm (V.ptr 3 0),Sm (pv9 cnt),Sm (V.im cnt (it L)),Sm (V.ptr 6 0),Sm (V.sl 7 0 cnt (some (cnt-cnt))),Sm (i6 ↑k),Sm (i6 ↑a),Sm (i6 ↑b),Sm (V.bool t),_]) ⟨hb,aq,aq,aq,aq,aq,aq,aq,aq,aq,aq,aq,aq,aq,tq⟩
 ·intro hk
  refine To.of_vc (n:=100) (hs:=[nu 130 (k+1:Nat),toO (sH9 cnt L (k+1))]) fun nx0 lg G hG=>?_
  exact m_ (p:=An [wr .i64 ((↑k:Int)+(1:Int))=(↑(k+1):Int),G Ex.normal (sH9 cnt L (k+1)) H nx lg,Sm (V.ptr 0 0),Sm (V.ptr 1 0),Sm (i6 ↑cnt),Sm (V.ptr 3 0),Sm (pv9 cnt),Sm (V.im cnt (it L)),Sm (V.ptr 6 0),Sm (V.sl 7 0 cnt (some (cnt-cnt))),Sm (i6 ↑(k+1)),_]) ⟨aq,aq,aq,aq,aq,aq,aq,aq,aq,aq,aq,tq⟩
end
end Go.Proofs.YtifdkhfldbkkpaaGreat.Am
