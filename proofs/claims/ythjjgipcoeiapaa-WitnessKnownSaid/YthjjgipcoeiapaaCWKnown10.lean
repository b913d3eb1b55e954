/- Texts behind the claim, part 10: the abstract machine, and what the functions answer. No condition. -/
import Derived.Test.YthjjgipcoeiapaaCWKnown9
set_option linter.unusedVariables false
set_option linter.unusedSimpArgs false
set_option linter.unusedSectionVars false
namespace Go.Proofs.Ythjjgipcoeiapaa.Am
open Go.RowKit
set_option maxHeartbeats 1000000
set_option maxRecDepth 100000
def bF(N:List Mc)(i k x:Nat):Nat:=if x<i then grJ N x else if x=i then jnR N i k else 0
theorem bF_next{N:List Mc}{i:Nat}:bF N i N.length=bF N (i+1) 0:=funext fun x=>by
 unfold bF
 by_cases h:x<i
 ·rw[if_pos h,if_pos o_]
 ·rw [if_neg h]
  by_cases h2:x=i
  ·subst h2;rw[if_pos rfl,if_pos o_];rfl
  ·rw [if_neg h2, if_neg o_]
   split<;>rfl
theorem bF_step{N:List Mc}{i k:Nat}(h:i≠k/\grZ N i&&& grZ N k≠0):(fun x=>if x=i then jnR N i k|||2^k else bF N i k x)=bF N i (k+1):=funext fun x=>by
 have e:jnR N i (k+1)=jnR N i k|||2^k:=by show(if _ then _ else _)=_;rw[if_pos h]
 unfold bF
 by_cases h2:x=i
 ·subst h2;rw[if_pos rfl,if_neg o_,if_pos rfl,e]
 ·rw[if_neg h2,if_neg h2,if_neg h2]
theorem Qqo{N:List Mc}{i k:Nat}(h: ¬(i≠k/\grZ N i&&& grZ N k≠0)):bF N i k=bF N i (k+1):=by
 have e:jnR N i (k+1)=jnR N i k:=by show(if _ then _ else _)=_;rw[if_neg h]
 unfold bF
 rw[e]
theorem bF_at{N:List Mc}{i k:Nat}:bF N i k i=jnR N i k:=by
 unfold bF;rw[if_neg o_,if_pos rfl]
section
variable (q:Nat) (A Z:List V)
abbrev g2S(i:Nat)(B:List V):SL:={sl:=[(2,.im q A),(3,.sl 0 0 q (some (q-q))),(6,.im q Z),(50,i6 (q:Nat)),(51,i6 (i:Nat))],os:=[.row 29 none B]}
abbrev g3S(i k:Nat)(B:List V):SL:={sl:=[(2,.im q A),(3,.sl 0 0 q (some (q-q))),(6,.im q Z),(50,i6 (q:Nat)),(51,i6 (i:Nat)),(9,i6 (i:Nat)),(55,i6 (q:Nat)),(56,i6 (k:Nat))],os:=[.row 29 none B]}
abbrev g2X(B:List V):SL:={sl:=[(2,.im q A),(3,.im q B)],os:=[]}
end
section
variable {R:List (List Int)} {N:List Mc} (hN:NdOk R N) (A:List V) (hA:HfL A) (hAl:A.length=N.length)
include hN hA hAl
theorem g3_loop(i:Nat)(hi:i<N.length):Sat Pg none 0 (at' 40 [1,1,1,1,1,0,1,0,0,1,1,0,0,1,1,0]) (mkSt g0 86 (g3S N.length A (uF (grZ N) N.length) i 0 (uF (bF N i 0) N.length))) (Qad g0 86 [(True,.exit 4,g2S N.length A (uF (grZ N) N.length) i (uF (bF N i N.length) N.length))]):=by
 have hq:=hN.q
 refine Qav vE_ok mixed Qab (b:=at' 40 [1,1,1,1,1,0,1,0,0,1,1,0,0,1,1,0,0]) k_ (fun k=>k<=N.length) (fun k=>g3S N.length A (uF (grZ N) N.length) i k (uF (bF N i k) N.length)) (fun k=>N.length-k) (fun k hk=>?_) 0 (Nat.zero_le _)
 have y3:=Qaz (grZ N) N.length
 have z3:=Qat (grZ N) N.length
 have y1:=Qaz (bF N i k) N.length
 have z1:=Qat (bF N i k) N.length
 by_cases hlt:k<N.length
 ·have y2 := Qaz (bF N i (k + 1)) N.length
  have z2:=Qat (bF N i (k+1)) N.length
  have h1:=Qfg (f:=grZ N) hi
  have h2:=Qfg (f:=grZ N) hlt
  rw[Nat.zero_add,Qbh]at h1 h2
  have h3:=Qfg (f:=bF N i k) hi
  rw[bF_at]at h3
  have a1:=Qls (G:=Qac Pg) (t:=29) (grZ_lt hN hi) (grZ_lt hN hlt)
  obtain⟨a2,a3⟩:=Qdm (G:=Qac Pg) (t:=29) (k:=k) o_
  have a4:=(or_u (G:=Qac Pg) (t:=29) (jnR_lt (N:=N) (i:=i) k o_) a3).1
  have l1:=Qn8 (f:=bF N i k) hi (jnR N i k|||2^k)
  by_cases hik:i=k
  ·have es := Qqo (N := N) (i := i) (k := k) (fun h => h.1 hik)
   refine .inl ⟨k+1,[0],[yes 57,no 61,nu 82 ((k+1:Nat):Int)],1000,hlt,by omega,?_⟩
   rw[<-es]
   clear l1 a1 a2 a3 a4 h1 h2 h3 es y2 z2
   generalize uF (grZ N) N.length=Z at*
   generalize uF (bF N i k) N.length=B at*
   clear hN
   generalize N.length=n at*
   refine m_ (p:=let z0:=(n:Int);let z1:=(i:Int);let z2:=(↑(k+1):Int);let z3:=(k:Int);Bn [decide (z3<z0)=true,(z1 != z3)=false,wr .i64 (z3+1)=z2,Bn [An [n=n,A=A],An [Zz,n=n,Sm (n-n)],An [n=n,Z=Z],z0=z0,z1=z1,z1=z1,z0=z0,z2=z2],An [B=B,HfL B]]) ?_
   (repeat'(first|(with_reducible apply And.intro)|(refine fun(_:True)=>?_)))<;>first|exact aq|skip
   all_goals skip
  ·by_cases hz : grZ N i &&& grZ N k = 0
   ·have es := Qqo (N := N) (i := i) (k := k) (fun h => h.2 hz)
    refine .inl ⟨k+1,[0],[yes 57,yes 61,pl 65,ld 66 (u6 (grZ N i:Nat)),pl 69,ld 70 (u6 (grZ N k:Nat)),va 71 (u6 (grZ N i&&& grZ N k:Nat)),no 72,nu 82 ((k+1:Nat):Int)],1000,hlt,by omega,?_⟩
    rw[<-es]
    clear l1 a2 a3 a4 h3 es y2 z2
    generalize grZ N i&&& grZ N k=w at*
    generalize grZ N i=u at*
    generalize grZ N k=v at*
    generalize uF (grZ N) N.length=Z at*
    generalize uF (bF N i k) N.length=B at*
    clear hN
    generalize N.length=n at*
    refine m_ (p:=let z0:=(n:Int);let z1:=(i:Int);let z2:=(k:Int);let z3:=(↑(k+1):Int);Bn [decide (z2<z0)=true,(z1 != z2)=true,An [(0:Int)<=z1,z1<z0],headF (List.drop (i*1) Z)=some (u6 u),An [(0:Int)<=z2,z2<z0],headF (List.drop (k*1) Z)=some (u6 v),binV (Qac Try.prog) BinOp.and 29 (u6 u) (u6 v)=some (u6 w),((w:Int) != 0)=false,wr .i64 (z2+1)=z3,Bn [An [n=n,A=A],An [Zz,n=n,Sm (n-n)],An [n=n,Z=Z],z0=z0,z1=z1,z1=z1,z0=z0,z3=z3],An [B=B,HfL B]]) ?_
    (repeat'(first|(with_reducible apply And.intro)|(refine fun(_:True)=>?_)))<;>first|exact aq|skip
    all_goals first|exact h1|exact h2|exact a1|(rw[hz];rfl)|skip
   ·have es := bF_step (N := N) (i := i) (k := k) ⟨hik, hz⟩
    rw[es]at l1
    refine .inl ⟨k+1,[0],[yes 57,yes 61,pl 65,ld 66 (u6 (grZ N i:Nat)),pl 69,ld 70 (u6 (grZ N k:Nat)),va 71 (u6 (grZ N i&&& grZ N k:Nat)),yes 72,pl 76,ld 77 (u6 (jnR N i k:Nat)),va 79 (u6 (2^k:Nat)),va 80 (u6 (jnR N i k|||2^k:Nat)),pl 81,st (uF (bF N i (k+1)) N.length),nu 82 ((k+1:Nat):Int)],1000,hlt,by omega,?_⟩
    clear es
    generalize jnR N i k|||2^k=w2 at*
    generalize jnR N i k=w1 at*
    generalize 2^k=w3 at*
    generalize grZ N i&&& grZ N k=w at*
    generalize grZ N i=u at*
    generalize grZ N k=v at*
    generalize uF (grZ N) N.length=Z at*
    generalize uF (bF N i k) N.length=B at*
    generalize uF (bF N i (k+1)) N.length=B2 at*
    clear hN
    generalize N.length=n at*
    refine m_ (p:=let z0:=(i:Int);let z1:=(n:Int);let z2:=(k:Int);let z3:=(↑(k+1):Int);let z4:=Qac Try.prog;let z5:=(0:Int);Bn [decide (z2<z1)=true,(z0 != z2)=true,An [z5<=z0,z0<z1],headF (List.drop (i*1) Z)=some (u6 u),An [z5<=z2,z2<z1],headF (List.drop (k*1) Z)=some (u6 v),binV z4 BinOp.and 29 (u6 u) (u6 v)=some (u6 w),((w:Int) != z5)=true,An [z5<=z0,z0<z1],headF (dropF (0+i*1) B)=some (u6 w1),binV z4 BinOp.shl 29 (u6 1) (i6 k)=some (u6 w3),binV z4 BinOp.or 29 (u6 w1) (u6 w3)=some (u6 w2),An [z5<=z0,z0<z1],layE (0+i*1) B [u6 w2]=some B2,wr .i64 (z2+1)=z3,Bn [An [n=n,A=A],An [Zz,n=n,Sm (n-n)],An [n=n,Z=Z],z1=z1,z0=z0,z0=z0,z1=z1,z3=z3],An [B2=B2,HfL B2]]) ?_
    (repeat'(first|(with_reducible apply And.intro)|(refine fun(_:True)=>?_)))<;>first|exact aq|skip
    all_goals first|exact h1|exact h2|exact h3|exact a1|exact a2|exact a4|exact l1|(simp;omega)|skip
 ·have hk2 : k = N.length := by omega
  subst hk2
  refine .inr ⟨.exit 4,[0],_,[no 57],1000,.inl ⟨trivial,rfl,rfl⟩,?_⟩
  generalize uF (grZ N) N.length=Z at*
  generalize uF (bF N i N.length) N.length=B at*
  clear hN
  generalize N.length=n at*
  refine m_ (p:=let z0:=(n:Int);Bn [decide (z0<z0)=false,Bn [An [n=n,A=A],An [Zz,n=n,Sm (n-n)],An [n=n,Z=Z],z0=z0,Sm (i:Int)],An [B=B,HfL B]]) ?_
  (repeat'(first|(with_reducible apply And.intro)|(refine fun(_:True)=>?_)))<;>first|exact aq|skip
  all_goals skip
theorem g2_loop:Sat Pg none 0 (at' 40 [1,1,1,1,1,0,1,0]) (mkSt g0 86 (g2S N.length A (uF (grZ N) N.length) 0 (uF (bF N 0 0) N.length))) (Qad g0 86 [(True,.exit 2,g2X N.length A (uF (grJ N) N.length))]):=by
 have hq:=hN.q
 refine Qav vE_ok mixed Qab (b:=at' 40 [1,1,1,1,1,0,1,0,0]) k_ (fun k=>k<=N.length) (fun k=>g2S N.length A (uF (grZ N) N.length) k (uF (bF N k 0) N.length)) (fun k=>N.length-k) (fun k hk=>?_) 0 (Nat.zero_le _)
 have y3:=Qaz (grZ N) N.length
 have z3:=Qat (grZ N) N.length
 have y1:=Qaz (bF N k 0) N.length
 have z1:=Qat (bF N k 0) N.length
 by_cases hlt:k<N.length
 ·have y2 := Qaz (bF N k N.length) N.length
  have z2:=Qat (bF N k N.length) N.length
  have hin:=g3_loop hN A hA hAl k hlt
  refine .inl ⟨k+1,[0],[yes 52,(0,.loop [0] (g3S N.length A (uF (grZ N) N.length) k 0 (uF (bF N k 0) N.length)) [(True,.exit 4,g2S N.length A (uF (grZ N) N.length) k (uF (bF N k N.length) N.length))]),nu 83 ((k+1:Nat):Int)],1000,hlt,by omega,?_⟩
  rw[<-bF_next]
  generalize uF (grZ N) N.length=Z at*
  generalize uF (bF N k N.length) N.length=B2 at*
  generalize uF (bF N k 0) N.length=B at*
  clear hN
  generalize N.length=n at*
  refine m_ (p:=let z0:=(n:Int);let z1:=(k:Int);let z2:=(↑(k+1):Int);Bn [decide (z1<z0)=true,Bn [Bn [An [n=n,A=A],An [Zz,n=n,Sm (n-n)],An [n=n,Z=Z],z0=z0,z1=z1,z1=z1,z0=z0,((0:Nat):Int)=(0:Int)],An [B=B,HfL B]],Sat Try.prog none 0 (at' 40 [1,1,1,1,1,0,1,0,0,1,1,0,0,1,1,0]) (mkSt g0 86 (g3S n A Z k 0 B)) (Qad g0 86 [(True,Ex.exit 4,g2S n A Z k B2)]),(True->Bn [wr .i64 (z1+1)=z2,Bn [An [n=n,A=A],An [Zz,n=n,Sm (n-n)],An [n=n,Z=Z],z0=z0,z2=z2],An [B2=B2,HfL B2]])]) ?_
  (repeat'(first|(with_reducible apply And.intro)|(refine fun(_:True)=>?_)))<;>first|exact aq|skip
  all_goals first|exact hin|skip
 ·have hk2 : k = N.length := by omega
  subst hk2
  have e:uF (bF N N.length 0) N.length=uF (grJ N) N.length:=Qe7 fun x hx=>by unfold bF;rw[if_pos hx]
  refine .inr ⟨.exit 2,[],_,[no 52],1000,.inl ⟨trivial,rfl,rfl⟩,?_⟩
  rw[<-e]
  generalize uF (grZ N) N.length=Z at*
  generalize uF (bF N N.length 0) N.length=B at*
  clear hN
  generalize N.length=n at*
  refine m_ (p:=Bn [decide ((n:Int)<(n:Int))=false,Bn [An [n=n,A=A],An [n=n,B=B,HfL B]]]) ?_
  (repeat'(first|(with_reducible apply And.intro)|(refine fun(_:True)=>?_)))<;>first|exact aq|skip
  all_goals first|rfl|skip
end
theorem graph_fn(g:Int)(R:List (List Int))(N:List Mc)(hl:Qbd R N)(h:chkB g R N=true):FnOk Pg g0 40 [mdV g R N] (.tup [.im N.length (uF (grP N) N.length),.im N.length (uF (grJ N) N.length),i6 0]):=by
 have c1:=Qas g R N hl
 rw[h,if_pos rfl]at c1
 have hM:=Qb4 h
 have hN:=hM.nd2
 have hq:=hN.q
 have l1:=g1_loop g R N hN
 have l2:=g2_loop hN (uF (grP N) N.length) (Qat _ _) (Qaz _ _)
 have y1:=Qaz (grP N) N.length
 have z1:=Qat (grP N) N.length
 have y2:=Qaz (grJ N) N.length
 have z2:=Qat (grJ N) N.length
 have y3:=Qaz (grZ N) N.length
 have z3:=Qat (grZ N) N.length
 have e0:uF (bF N 0 0) N.length=rep N.length [u6 0]:=by
  rw[<-Qec N.length (p:=[])]
  exact Qe7 fun x hx=>by
   unfold bF
   rw[if_neg o_]
   split
   ·rfl
   ·rfl
 rw[Qtb,Qtb]at l1
 rw[e0]at l2
 have hRR:=Qah R
 have hNN:=Qaj N
 have z5:HfL (rep N.length [u6 0]):=by rw[<-Qec N.length (p:=[])];exact Qat _ _
 have y5:(rep N.length [u6 0]).length=N.length:=by rw[<-Qec N.length (p:=[]),Qaz]
 unfold mdV at*
 refine FnOk.of_vc vE_ok mixed Qab (n:=1000) (r:=[]) (S:={sl:=[(2,.im N.length (uF (grP N) N.length)),(3,.im N.length (uF (grJ N) N.length)),(4,i6 0)]}) (hs:=[fn 12 (i6 0),mk 19,mk 23,mk 27,(0,.loop [0,1,2,3] (g1S g R.length (rtL R) N.length (mcL N) 0 (rep N.length [u6 0]) (rep N.length [u6 0]) (rep N.length [u6 0])) [(True,.exit 0,g1X N.length (uF (grP N) N.length) (rep N.length [u6 0]) (uF (grZ N) N.length))]),(0,.loop [0] (g2S N.length (uF (grP N) N.length) (uF (grZ N) N.length) 0 (rep N.length [u6 0])) [(True,.exit 2,g2X N.length (uF (grP N) N.length) (uF (grJ N) N.length))])]) ?_
 clear hM hN e0 h hl
 generalize uF (grP N) N.length=A at*
 generalize uF (grZ N) N.length=Z at*
 generalize uF (grJ N) N.length=B at*
 generalize rtL R=RR at*
 generalize mcL N=NN at*
 generalize N.length=n at*
 refine m_ (p:=let z8:=Sm (n-n);let z0:=(n:Int);let z1:=rep n [u6 0];let z2:=[i6 g,V.im R.length RR,V.im n NN];let z3:=(9223372036854775807:Int);let z4:=(0:Int);let z5:=(281474976710656:Int);let z6:=((8:Nat):Int);let z7:=V.tup [V.im n A,V.im n B,i6 0];Bn [z7=z7,Bn [TT 3],FnOk Try.prog g0 25 [V.agg z2] (i6 0),Tt,An [z4<=z0,z0<=z0,z6*z0<=z5,z0<=z3],An [z4<=z0,z0<=z0,z6*z0<=z5,z0<=z3],An [z4<=z0,z0<=z0,z6*z0<=z5,z0<=z3],Bn [Bn [Zz,An [Zz,n=n,z8],An [Zz,n=n,z8],An [Zz,n=n,z8],An [n=n,NN=NN],z0=z0,((0:Nat):Int)=z4],An [z2=z2,TT 3],An [z1=z1,HfL z1],An [z1=z1,HfL z1],An [z1=z1,HfL z1]],Sat Try.prog none 0 (at' 40 [1,1,1,1,0,1,0]) (mkSt g0 86 (g1S g R.length RR n NN 0 z1 z1 z1)) (Qad g0 86 [(True,Ex.exit 0,g1X n A z1 Z)]),(True->Bn [Bn [Bn [An [n=n,A=A],An [Zz,n=n,z8],An [n=n,Z=Z],z0=z0,((0:Nat):Int)=z4],An [z1=z1,HfL z1]],Sat Try.prog none 0 (at' 40 [1,1,1,1,1,0,1,0]) (mkSt g0 86 (g2S n A Z 0 z1)) (Qad g0 86 [(True,Ex.exit 2,g2X n A B)]),(True->Bn [Bn [An [n=n,A=A],An [n=n,B=B],z4=z4]])])]) ?_
 (repeat'(first|(with_reducible apply And.intro)|(refine fun(_:True)=>?_)))<;>first|exact aq|skip
 all_goals first|exact c1|exact l1|exact l2|rfl|skip
theorem Qrz(g:Int)(R:List (List Int))(N:List Mc)(hl:Qbd R N)(h:chkB g R N=false):FnOk Pg g0 40 [mdV g R N] (.tup [.nils,.nils,i6 330]):=by
 have c1:=Qas g R N hl
 rw[h,if_neg (by simp)]at c1
 have hRR:=Qah R
 have hNN:=Qaj N
 unfold mdV at*
 refine FnOk.of_vc vE_ok mixed Qab (n:=1000) (r:=[]) (S:={sl:=[(2,.nils),(3,.nils),(4,i6 330)]}) (hs:=[fn 12 (i6 330)]) ?_
 generalize rtL R=RR at*
 generalize mcL N=NN at*
 refine m_ (p:=Bn [Sm (V.tup [V.nils,V.nils,i6 330]),Bn [TT 3],FnOk Try.prog g0 25 [V.agg [i6 g,V.im R.length RR,V.im N.length NN]] (i6 330),Tt,Bn [Tt,Tt,Sm (330:Int)]]) ?_
 (repeat'(first|(with_reducible apply And.intro)|(refine fun(_:True)=>?_)))<;>first|exact aq|skip
 all_goals first|exact c1|skip
set_option maxHeartbeats 1000000
set_option maxRecDepth 100000
def onV(p j:List Nat)(N:List Mc)(v:Nat):Bool:=decide (mi (grP N v) (p.getD v 0)=0)&&decide (mi (grJ N v) (j.getD v 0)=0)
def onB(p j:List Nat)(g:Int)(R:List (List Int))(N:List Mc):Bool:=chkB g R N&&decide (N.length=p.length)&&(List.range N.length).all (onV p j N)
section
variable {p j:List Nat} (hg:GrOk p j) {R:List (List Int)} {N:List Mc} (hN:NdOk R N) (hl:N.length=p.length)
abbrev onS(p j:List Nat)(q:Nat)(A B:List V)(k:Nat):SL:={sl:=[(0,ul p),(1,ul j),(8,.im q A),(9,.im q B),(32,i6 (q:Nat)),(33,i6 (k:Nat))]}
include hg hN hl
theorem on_loop:Sat Pg none 0 (at' 17 [1,1,1,1,0,1,0]) (mkSt g0 59 (onS p j N.length (uF (grP N) N.length) (uF (grJ N) N.length) 0)) (Qad g0 59 [((List.range N.length).all (onV p j N)=true,.exit 0,{sl:=[]}),((List.range N.length).all (onV p j N)=false,.ret,{sl:=[(6,.bool false),(7,i6 0)]})]):=by
 have hq:=hN.q
 have hjl:=hg.jl
 have hpp:=Qaf p
 have hjj:=Qaf j
 have y1:=Qaz (grP N) N.length
 have z1:=Qat (grP N) N.length
 have y2:=Qaz (grJ N) N.length
 have z2:=Qat (grJ N) N.length
 refine Qav vE_ok mixed Qab (b:=at' 17 [1,1,1,1,0,1,0,0]) k_ (fun k=>k<=N.length/\∀i,i<k->onV p j N i=true) (onS p j N.length (uF (grP N) N.length) (uF (grJ N) N.length)) (fun k=>N.length-k) (fun k hk=>?_) 0 ⟨Nat.zero_le _,fun i h=>absurd h (Nat.not_lt_zero _)⟩
 obtain⟨hk,hin⟩:=hk
 by_cases hlt:k<N.length
 ·have h1 := Qfg (f := grP N) hlt
  have h3:=Qfg (f:=grJ N) hlt
  rw[Nat.zero_add,Qbh]at h1 h3
  have h2:=Qc1 (l:=p) (k:=k) o_
  have h4:=Qc1 (l:=j) (k:=k) o_
  have q1:=grP_lt hN hlt
  have q2:grJ N k<18446744073709551616:=jnR_lt N.length o_
  have q3:p.getD k 0<18446744073709551616:=hg.p64 _ (Ql4 o_)
  have q4:j.getD k 0<18446744073709551616:=hg.j64 _ (Ql4 o_)
  have m1:=mi_u (G:=Qac Pg) (t:=29) q1 q3
  have m2:=mi_u (G:=Qac Pg) (t:=29) q2 q4
  have bad:onV p j N k=false->(List.range N.length).all (onV p j N)=false:=fun h=>by
   cases hb:(List.range N.length).all (onV p j N)with
   |false=>rfl
   |true=>rw[List.all_eq_true.1 hb k (List.mem_range.2 hlt)]at h;cases h
  have hon:onV p j N k=(decide (mi (grP N k) (p.getD k 0)=0)&&decide (mi (grJ N k) (j.getD k 0)=0)):=rfl
  by_cases e1:mi (grP N k) (p.getD k 0)=0
  ·by_cases e2 : mi (grJ N k) (j.getD k 0) = 0
   ·have hgd : ∀ i, i < k + 1 -> onV p j N i = true := fun i hi => by
     by_cases hik:i=k
     ·subst hik;rw[hon,e1,e2];rfl
     ·exact hin i o_
    refine .inl ⟨k+1,[],[yes 34,pl 38,ld 39 (u6 (grP N k:Nat)),pl 42,ld 43 (u6 (p.getD k 0:Nat)),va 44 (u6 (mi (grP N k) (p.getD k 0):Nat)),no 45,pl 49,ld 50 (u6 (grJ N k:Nat)),pl 53,ld 54 (u6 (j.getD k 0:Nat)),va 55 (u6 (mi (grJ N k) (j.getD k 0):Nat)),no 56,nu 58 ((k+1:Nat):Int)],1000,⟨hlt,hgd⟩,by omega,?_⟩
    clear hgd hon bad hin
    generalize mi (grP N k) (p.getD k 0)=w1 at*
    generalize mi (grJ N k) (j.getD k 0)=w2 at*
    generalize grP N k=u1 at*
    generalize grJ N k=u2 at*
    generalize p.getD k 0=v1 at*
    generalize j.getD k 0=v2 at*
    generalize uF (grP N) N.length=A at*
    generalize uF (grJ N) N.length=B at*
    clear hN
    generalize N.length=n at*
    refine m_ (p:=let z0:=(k:Int);let z1:=(n:Int);let z2:=(0:Int);let z3:=(↑(k+1):Int);Bn [decide (z0<z1)=true,An [z2<=z0,z0<z1],headF (List.drop (k*1) A)=some (u6 u1),An [z2<=z0,z0<(p.length:Int)],headF (List.drop (k*1) (ut p))=some (u6 v1),binV (Qac Try.prog) BinOp.andNot 29 (u6 u1) (u6 v1)=some (u6 w1),((w1:Int) != z2)=false,An [z2<=z0,z0<z1],headF (List.drop (k*1) B)=some (u6 u2),An [z2<=z0,z0<(j.length:Int)],headF (List.drop (k*1) (ut j))=some (u6 v2),binV (Qac Try.prog) BinOp.andNot 29 (u6 u2) (u6 v2)=some (u6 w2),((w2:Int) != z2)=false,wr .i64 (z0+1)=z3,Bn [An [Sm p.length,Sm (ut p)],An [Sm j.length,Sm (ut j)],An [n=n,A=A],An [n=n,B=B],z1=z1,z3=z3]]) ?_
    (repeat'(first|(with_reducible apply And.intro)|(refine fun(_:True)=>?_)))<;>first|exact aq|skip
    all_goals first|exact h1|exact h2|exact h3|exact h4|exact m1|exact m2|(rw[e1];rfl)|(rw[e2];rfl)|omega|skip
   ·have hf := bad (by rw [hon, e1, decide_eq_false e2]; rfl)
    refine .inr ⟨.ret,[],{sl:=[(6,.bool false),(7,i6 0)]},[yes 34,pl 38,ld 39 (u6 (grP N k:Nat)),pl 42,ld 43 (u6 (p.getD k 0:Nat)),va 44 (u6 (mi (grP N k) (p.getD k 0):Nat)),no 45,pl 49,ld 50 (u6 (grJ N k:Nat)),pl 53,ld 54 (u6 (j.getD k 0:Nat)),va 55 (u6 (mi (grJ N k) (j.getD k 0):Nat)),yes 56],1000,.inr (.inl ⟨hf,rfl,rfl⟩),?_⟩
    clear hf hon bad hin
    generalize mi (grP N k) (p.getD k 0)=w1 at*
    generalize mi (grJ N k) (j.getD k 0)=w2 at*
    generalize grP N k=u1 at*
    generalize grJ N k=u2 at*
    generalize p.getD k 0=v1 at*
    generalize j.getD k 0=v2 at*
    generalize uF (grP N) N.length=A at*
    generalize uF (grJ N) N.length=B at*
    clear hN
    generalize N.length=n at*
    refine m_ (p:=let z0:=(k:Int);let z1:=(0:Int);let z2:=(n:Int);Bn [decide (z0<z2)=true,An [z1<=z0,z0<z2],headF (List.drop (k*1) A)=some (u6 u1),An [z1<=z0,z0<(p.length:Int)],headF (List.drop (k*1) (ut p))=some (u6 v1),binV (Qac Try.prog) BinOp.andNot 29 (u6 u1) (u6 v1)=some (u6 w1),((w1:Int) != z1)=false,An [z1<=z0,z0<z2],headF (List.drop (k*1) B)=some (u6 u2),An [z1<=z0,z0<(j.length:Int)],headF (List.drop (k*1) (ut j))=some (u6 v2),binV (Qac Try.prog) BinOp.andNot 29 (u6 u2) (u6 v2)=some (u6 w2),((w2:Int) != z1)=true,Bn [Sm false,z1=z1]]) ?_
    (repeat'(first|(with_reducible apply And.intro)|(refine fun(_:True)=>?_)))<;>first|exact aq|skip
    all_goals first|exact h1|exact h2|exact h3|exact h4|exact m1|exact m2|(rw[e1];rfl)|omega|(simp;omega)|skip
  ·have hf := bad (by rw [hon, decide_eq_false e1]; rfl)
   refine .inr ⟨.ret,[],{sl:=[(6,.bool false),(7,i6 0)]},[yes 34,pl 38,ld 39 (u6 (grP N k:Nat)),pl 42,ld 43 (u6 (p.getD k 0:Nat)),va 44 (u6 (mi (grP N k) (p.getD k 0):Nat)),yes 45],1000,.inr (.inl ⟨hf,rfl,rfl⟩),?_⟩
   clear hf hon bad hin
   generalize mi (grP N k) (p.getD k 0)=w1 at*
   generalize grP N k=u1 at*
   generalize p.getD k 0=v1 at*
   generalize uF (grP N) N.length=A at*
   generalize uF (grJ N) N.length=B at*
   clear hN
   generalize N.length=n at*
   refine m_ (p:=let z0:=(k:Int);let z1:=(0:Int);Bn [decide (z0<(n:Int))=true,An [z1<=z0,z0<(n:Int)],headF (List.drop (k*1) A)=some (u6 u1),An [z1<=z0,z0<(p.length:Int)],headF (List.drop (k*1) (ut p))=some (u6 v1),binV (Qac Try.prog) BinOp.andNot 29 (u6 u1) (u6 v1)=some (u6 w1),((w1:Int) != z1)=true,Bn [Sm false,z1=z1]]) ?_
   (repeat'(first|(with_reducible apply And.intro)|(refine fun(_:True)=>?_)))<;>first|exact aq|skip
   all_goals first|exact h1|exact h2|exact m1|omega|(simp;omega)|skip
 ·have hk2 : k = N.length := by omega
  have hf:(List.range N.length).all (onV p j N)=true:=List.all_eq_true.2 fun i hi=>hin i (by have:=List.mem_range.1 hi;omega)
  refine .inr ⟨.exit 0,[],{sl:=[]},[no 34],1000,.inl ⟨hf,rfl,rfl⟩,?_⟩
  clear hf hin
  generalize uF (grP N) N.length=A at*
  generalize uF (grJ N) N.length=B at*
  clear hN
  generalize N.length=n at*
  refine m_ (p:=Bn [decide ((k:Int)<(n:Int))=false,Tt]) ?_
  (repeat'(first|(with_reducible apply And.intro)|(refine fun(_:True)=>?_)))<;>first|exact aq|skip
  all_goals skip
end
theorem on_fn{p j:List Nat}(hg:GrOk p j)(g:Int)(R:List (List Int))(N:List Mc)(hlo:Qbd R N):FnOk Pg g0 17 [ul p,ul j,mdV g R N] (.tup [.bool (onB p j g R N),i6 0]):=by
 have hpp:=Qaf p
 have hjj:=Qaf j
 have hRR:=Qah R
 have hNN:=Qaj N
 have c1:=Qnm p j hg
 have h5:=hg.l5
 cases hc:chkB g R N with
 |false=>
  have c2:=Qrz g R N hlo hc
  have e:onB p j g R N=false:=by unfold onB;rw[hc];rfl
  rw[e]
  unfold mdV at*
  refine FnOk.of_vc vE_ok mixed Qab (n:=1000) (r:=[]) (S:={sl:=[(6,.bool false),(7,i6 0)]}) (hs:=[fn 14 (i6 0),fn 18 (.tup [.nils,.nils,i6 330])]) ?_
  generalize rtL R=RR at*
  generalize mcL N=NN at*
  refine m_ (p:=Bn [Sm (V.tup [V.bool false,i6 0]),TT 2,FnOk Try.prog g0 15 [V.im p.length (ut p),V.im j.length (ut j)] (i6 0),Tt,Bn [TT 3],FnOk Try.prog g0 40 [V.agg [i6 g,V.im R.length RR,V.im N.length NN]] (V.tup [V.nils,V.nils,i6 330]),Tt,Bn [Sm false,Sm (0:Int)]]) ?_
  (repeat'(first|(with_reducible apply And.intro)|(refine fun(_:True)=>?_)))<;>first|exact aq|skip
  all_goals first|exact c1|exact c2|skip
 | true =>
  have c2:=graph_fn g R N hlo hc
  have hM:=Qb4 hc
  have hq:=hM.q1
  by_cases hl:N.length=p.length
  ·have lo := on_loop hg hM.nd2 hl
   have e:onB p j g R N=(List.range N.length).all (onV p j N):=by unfold onB;rw[hc,decide_eq_true hl];rfl
   rw[e]
   generalize (List.range N.length).all (onV p j N)=b at*
   have y1:=Qaz (grP N) N.length
   have z1:=Qat (grP N) N.length
   have y2:=Qaz (grJ N) N.length
   have z2:=Qat (grJ N) N.length
   generalize uF (grP N) N.length=A at*
   generalize uF (grJ N) N.length=B at*
   unfold mdV at*
   refine FnOk.of_vc vE_ok mixed Qab (n:=1000) (r:=[]) (S:={sl:=[(6,.bool b),(7,i6 0)]}) (hs:=[fn 14 (i6 0),fn 18 (.tup [.im N.length A,.im N.length B,i6 0]),no 29,(0,.loop [] (onS p j N.length A B 0) [(b=true,.exit 0,{sl:=[]}),(b=false,.ret,{sl:=[(6,.bool false),(7,i6 0)]})])]) ?_
   clear hM hc hlo e
   generalize rtL R=RR at*
   generalize mcL N=NN at*
   generalize N.length=n at*
   refine m_ (p:=Bn [Sm (V.tup [V.bool b,i6 0]),TT 2,FnOk Try.prog g0 15 [V.im p.length (ut p),V.im j.length (ut j)] (i6 0),Tt,Bn [TT 3],FnOk Try.prog g0 40 [V.agg [i6 g,V.im R.length RR,V.im n NN]] (V.tup [V.im n A,V.im n B,i6 0]),Tt,((n:Int) != (p.length:Int))=false,Bn [Bn [An [Sm p.length,Sm (ut p)],An [Sm j.length,Sm (ut j)],An [n=n,A=A],An [n=n,B=B],Sm (n:Int),((0:Nat):Int)=(0:Int)]],Sat Try.prog none 0 (at' 17 [1,1,1,1,0,1,0]) (mkSt g0 59 (onS p j n A B 0)) (Qad g0 59 [(b=true,Ex.exit 0,SL.mk [] [] [] []),(b=false,Ex.ret,SL.mk [(6,V.bool false),(7,i6 0)] [] [] [])]),(b=true->Bn [Bn [b=true,Sm (0:Int)]]),(b=false->Bn [Bn [b=false,Sm (0:Int)]])]) ?_
   (repeat'(first|(with_reducible apply And.intro)|(refine fun(_:True)=>?_)))<;>first|exact aq|skip
   all_goals first|exact c1|exact c2|exact lo|(intro h;subst h;rfl)|omega|skip
  ·have e : onB p j g R N = false := by unfold onB; rw [hc, decide_eq_false hl]; rfl
   rw[e]
   have y1:=Qaz (grP N) N.length
   have z1:=Qat (grP N) N.length
   have y2:=Qaz (grJ N) N.length
   have z2:=Qat (grJ N) N.length
   generalize uF (grP N) N.length=A at*
   generalize uF (grJ N) N.length=B at*
   unfold mdV at*
   refine FnOk.of_vc vE_ok mixed Qab (n:=1000) (r:=[]) (S:={sl:=[(6,.bool false),(7,i6 0)]}) (hs:=[fn 14 (i6 0),fn 18 (.tup [.im N.length A,.im N.length B,i6 0]),yes 29]) ?_
   clear hM hc hlo e
   generalize rtL R=RR at*
   generalize mcL N=NN at*
   generalize N.length=n at*
   refine m_ (p:=Bn [Sm (V.tup [V.bool false,i6 0]),TT 2,FnOk Try.prog g0 15 [V.im p.length (ut p),V.im j.length (ut j)] (i6 0),Tt,Bn [TT 3],FnOk Try.prog g0 40 [V.agg [i6 g,V.im R.length RR,V.im n NN]] (V.tup [V.im n A,V.im n B,i6 0]),Tt,((n:Int) != (p.length:Int))=true,Bn [Sm false,Sm (0:Int)]]) ?_
   (repeat'(first|(with_reducible apply And.intro)|(refine fun(_:True)=>?_)))<;>first|exact aq|skip
   all_goals first|exact c1|exact c2|(simp;omega)|omega|skip
set_option maxHeartbeats 1000000
set_option maxRecDepth 100000
abbrev hg0:V:=.agg [u6 0,u6 0,u6 0]
theorem mi_0(y:Nat):mi 0 y=0:=by unfold mi;simp
theorem Qr5(p j:List Nat)(xs ys:Nat)(hl:p.length<64):FnOk Pg g0 60 [grV p j,u6 (xs:Nat),u6 (ys:Nat),hg0] (.bool false):=by
 have hp:=Qaf p
 have hj:=Qaf j
 have h1:=Qqm p j hl
 have hal:alN p.length<18446744073709551616:=by
  unfold alN
  have:=Nat.pow_lt_pow_right (a:=2) d_ hl
  have e:2^64=18446744073709551616:=by decide
  omega
 have m1:=mi_u (G:=Qac Pg) (t:=29) (x:=0) (y:=alN p.length) d_ hal
 have m2:=mi_u (G:=Qac Pg) (t:=29) (x:=0) (y:=0) d_ d_
 rw[mi_0]at m1 m2
 generalize alN p.length=al at*
 refine FnOk.of_vc vE_ok mixed Qab (n:=1000) (r:=[]) (S:={sl:=[(8,.bool false)]}) (hs:=[fn 14 (u6 (al:Nat)),va 15 (u6 (0:Nat)),va 22 (u6 (0:Nat)),va 30 (u6 (0:Nat))]) ?_
 refine m_ (p:=let z0:=binV (Qac Try.prog) BinOp.andNot 29 (u6 0) (u6 0);let z1:=some (u6 ↑(0:Nat));Bn [Sm (V.bool false),Bn [TT 2],FnOk Try.prog g0 62 [V.agg [V.im p.length (ut p),V.im j.length (ut j)]] (u6 al),Tt,binV (Qac Try.prog) BinOp.andNot 29 (u6 0) (u6 al)=z1,z0=z1,z0=z1,Bn [Sm false]]) ?_
 (repeat'(first|(with_reducible apply And.intro)|(refine fun(_:True)=>?_)))<;>first|exact aq|skip
 all_goals first|exact h1|exact m1|exact m2|skip
theorem Qse(p j:List Nat)(g:GrOk p j)(xs ys:Nat)(hq:Qkh p.length xs ys):FnOk Pg g0 32 [ul p,ul j,u6 (xs:Nat),u6 (ys:Nat),hg0] (i6 351):=by
 have hp:=Qaf p
 have hj:=Qaf j
 have h1:=Qi7 p j g xs ys hq
 have h2:=Qr5 p j xs ys (by have:=g.l5;omega)
 refine FnOk.of_vc vE_ok mixed Qab (n:=1000) (r:=[]) (S:={sl:=[(10,i6 351)]}) (hs:=[fn 16 (i6 (0:Nat)),fn 26 (.bool false)]) ?_
 refine m_ (p:=Bn [Sm (i6 351),TT 4,FnOk Try.prog g0 35 [V.im p.length (ut p),V.im j.length (ut j),u6 xs,u6 ys] (i6 ↑(0:Nat)),Tt,Bn [TT 2,Tt,Tt,TT 3],FnOk Try.prog g0 60 [V.agg [V.im p.length (ut p),V.im j.length (ut j)],u6 xs,u6 ys,V.agg [u6 0,u6 0,u6 0]] (V.bool false),Tt,Bn [Sm (351:Int)]]) ?_
 (repeat'(first|(with_reducible apply And.intro)|(refine fun(_:True)=>?_)))<;>first|exact aq|skip
 all_goals first|exact h1|exact h2|skip
def nzB(W:List Int):Bool:=(List.range W.length).all fun i=>decide (W.getD i 0≠0)
theorem Qsz{W:List Int}:nzB W=true↔∀i,i<W.length->W.getD i 0≠0:=by
 unfold nzB
 rw[List.all_eq_true]
 simp only[List.mem_range,decide_eq_true_eq]
section
variable (p j:List Nat) (xs ys:Nat) (ga:Int) (na:Nat) (RA:List V) (qa:Nat) (NA:List V) (gb:Int) (nb:Nat) (RB:List V) (qb:Nat) (NB:List V)
abbrev rgA:List V:=[i6 ga,.im na RA,.im qa NA,i6 gb,.im nb RB,.im qb NB]
abbrev rgS(k:Nat):SL:={sl:=[(0,ul p),(1,ul j),(2,u6 (xs:Nat)),(3,u6 (ys:Nat)),(10,.ptr 0 0),(11,.ptr 1 0),(40,.im 2 (rgA ga na RA qa NA gb nb RB qb NB)),(41,i6 2),(42,i6 (k:Nat))],os:=[mdO ga na RA qa NA,mdO gb nb RB qb NB]}
abbrev rgZ(k:Nat)(W:List Int)(m:Nat):SL:={sl:=[(0,ul p),(1,ul j),(2,u6 (xs:Nat)),(3,u6 (ys:Nat)),(10,.ptr 0 0),(11,.ptr 1 0),(40,.im 2 (rgA ga na RA qa NA gb nb RB qb NB)),(41,i6 2),(42,i6 (k:Nat)),(66,sl W),(67,i6 (W.length:Nat)),(68,i6 (m:Nat))],os:=[mdO ga na RA qa NA,mdO gb nb RB qb NB]}
abbrev rgX:SL:={sl:=[(2,u6 (xs:Nat)),(3,u6 (ys:Nat)),(10,.ptr 0 0),(11,.ptr 1 0)],os:=[mdO ga na RA qa NA,mdO gb nb RB qb NB]}
variable (hRA:HfL RA) (hNA:HfL NA) (hRB:HfL RB) (hNB:HfL NB)
include hRA hNA hRB hNB
theorem Qom(k:Nat)(W:List Int)(h6:W.length<=1000000):Sat Pg none 0 (at' 11 [1,1,1,0,1,0,0,1,1,0,0,1,1,1,1,1,1,0]) (mkSt g0 98 (rgZ p j xs ys ga na RA qa NA gb nb RB qb NB k W 0)) (Qad g0 98 [(nzB W=true,.exit 2,rgS p j xs ys ga na RA qa NA gb nb RB qb NB k),(nzB W=false,.ret,{sl:=[(12,i6 360)]})]):=by
 have hpp:=Qaf p
 have hjj:=Qaf j
 have hww:=Qaa W
 refine Qav vE_ok mixed Qab (b:=at' 11 [1,1,1,0,1,0,0,1,1,0,0,1,1,1,1,1,1,0,0]) k_ (fun m=>m<=W.length/\∀i,i<m->W.getD i 0≠0) (rgZ p j xs ys ga na RA qa NA gb nb RB qb NB k W) (fun m=>W.length-m) (fun m hm=>?_) 0 ⟨Nat.zero_le _,fun i h=>absurd h (Nat.not_lt_zero _)⟩
 obtain⟨hk,hin⟩:=hm
 by_cases hlt:m<W.length
 ·have s1 := Qag hlt
  by_cases he:W.getD m 0=0
  ·have hf : nzB W = false := by
    cases hb:nzB W with
    |false=>rfl
    |true=>exact absurd he (Qsz.1 hb m hlt)
   refine .inr ⟨.ret,[],{sl:=[(12,i6 360)]},[yes 69,pl 70,ld 71 (i6 (W.getD m 0)),yes 73],1000,.inr (.inl ⟨hf,rfl,rfl⟩),?_⟩
   clear hf hin
   generalize W.getD m 0=x at*
   refine m_ (p:=let z0:=(m:Int);Bn [decide (z0<(W.length:Int))=true,An [(0:Int)<=z0,z0<(W.length:Int)],headF (List.drop (m*1) (ints W))=some (i6 x),(x==0)=true,Bn [Sm (360:Int)]]) ?_
   (repeat'(first|(with_reducible apply And.intro)|(refine fun(_:True)=>?_)))<;>first|exact aq|skip
   all_goals first|exact s1|skip
  ·have hg : ∀ i, i < m + 1 -> W.getD i 0 ≠ 0 := fun i hi => by
    by_cases hik:i=m
    ·subst hik;exact he
    ·exact hin i o_
   refine .inl ⟨m+1,[0,1],[yes 69,pl 70,ld 71 (i6 (W.getD m 0)),no 73,nu 74 ((m+1:Nat):Int)],1000,⟨hlt,hg⟩,by omega,?_⟩
   clear hg hin
   generalize W.getD m 0=x at*
   refine m_ (p:=let z0:=(W.length:Int);let z1:=(m:Int);Bn [decide (z1<z0)=true,An [(0:Int)<=z1,z1<z0],headF (List.drop (m*1) (ints W))=some (i6 x),(x==0)=false,wr .i64 (z1+1)=(↑(m+1):Int),Bn [An [Sm p.length,Sm (ut p)],An [Sm j.length,Sm (ut j)],Sm (xs:Int),Sm (ys:Int),Zz,Zz,An [2=2,Sm (rgA ga na RA qa NA gb nb RB qb NB)],Sm (2:Int),Sm (k:Int),An [Sm W.length,Sm (ints W)],Sm z0,Sm (↑(m+1):Int)],An [Sm [i6 ga,V.im na RA,V.im qa NA],TT 3],An [Sm [i6 gb,V.im nb RB,V.im qb NB],TT 3]]) ?_
   (repeat'(first|(with_reducible apply And.intro)|(refine fun(_:True)=>?_)))<;>first|exact aq|skip
   all_goals first|exact s1|skip
 ·have hf : nzB W = true := Qsz.2 fun i hi => hin i o_
  refine .inr ⟨.exit 2,[0,1],_,[no 69],1000,.inl ⟨hf,rfl,rfl⟩,?_⟩
  clear hf hin
  refine m_ (p:=Bn [decide ((m:Int)<(W.length:Int))=false,Bn [An [Sm p.length,Sm (ut p)],An [Sm j.length,Sm (ut j)],Sm (xs:Int),Sm (ys:Int),Zz,Zz,An [2=2,Sm (rgA ga na RA qa NA gb nb RB qb NB)],Sm (2:Int),Sm (k:Int)],An [Sm [i6 ga,V.im na RA,V.im qa NA],TT 3],An [Sm [i6 gb,V.im nb RB,V.im qb NB],TT 3]]) ?_
  (repeat'(first|(with_reducible apply And.intro)|(refine fun(_:True)=>?_)))<;>first|exact aq|skip
  all_goals skip
end
set_option maxHeartbeats 1000000
set_option maxRecDepth 100000
def okM(p j:List Nat)(g:Int)(R:List (List Int))(N:List Mc):Bool:=onB p j g R N&&nzB (tabT R N (none_ N.length))
section
variable {p j:List Nat} (hg:GrOk p j) (xs ys:Nat) (ga:Int) (RA:List (List Int)) (NA:List Mc) (gb:Int) (RB:List (List Int)) (NB:List Mc) (hlA:Qbd RA NA) (hlB:Qbd RB NB)
include hg hlA hlB
theorem rg_loop:Sat Pg none 0 (at' 11 [1,1,1,0,1,0]) (mkSt g0 98 (rgS p j xs ys ga RA.length (rtL RA) NA.length (mcL NA) gb RB.length (rtL RB) NB.length (mcL NB) 0)) (Qad g0 98 [((okM p j ga RA NA&&okM p j gb RB NB)=true,.exit 0,rgX xs ys ga RA.length (rtL RA) NA.length (mcL NA) gb RB.length (rtL RB) NB.length (mcL NB)),((okM p j ga RA NA&&okM p j gb RB NB)=false,.ret,{sl:=[(12,i6 360)]})]):=by
 have hpp:=Qaf p
 have hjj:=Qaf j
 have hRA:=Qah RA
 have hNA:=Qaj NA
 have hRB:=Qah RB
 have hNB:=Qaj NB
 refine Qav vE_ok mixed Qab (b:=at' 11 [1,1,1,0,1,0,0]) k_ (fun k=>k<=2/\(1<=k->okM p j ga RA NA=true)/\(2<=k->okM p j gb RB NB=true)) (rgS p j xs ys ga RA.length (rtL RA) NA.length (mcL NA) gb RB.length (rtL RB) NB.length (mcL NB)) (fun k=>2-k) (fun k hk=>?_) 0 ⟨by decide,fun h=>absurd h d_,fun h=>absurd h d_⟩
 obtain⟨hk,hin⟩:=hk
 rcases(show k=0\/k=1\/k=2 by omega)with rfl|rfl|rfl
 ·have c1 := on_fn hg ga RA NA hlA
  cases h1:onB p j ga RA NA with
  |false=>
   rw[h1]at c1
   have hf:(okM p j ga RA NA&&okM p j gb RB NB)=false:=by unfold okM;rw[h1];rfl
   refine .inr ⟨.ret,[],{sl:=[(12,i6 360)]},[fn 50 (.tup [.bool false,i6 0])],1000,.inr (.inl ⟨hf,rfl,rfl⟩),?_⟩
   clear hf hlA h1 hin
   unfold mdV at*
   generalize rtL RA=RRA at*
   generalize mcL NA=NNA at*
   generalize rtL RB=RRB at*
   generalize mcL NB=NNB at*
   refine m_ (p:=Bn [Bn [Tt,Tt,TT 3],FnOk Try.prog g0 17 [V.im p.length (ut p),V.im j.length (ut j),V.agg [i6 ga,V.im RA.length RRA,V.im NA.length NNA]] (V.tup [V.bool false,i6 0]),Tt,Bn [Sm (360:Int)]]) ?_
   (repeat'(first|(with_reducible apply And.intro)|(refine fun(_:True)=>?_)))<;>first|exact aq|skip
   all_goals first|exact c1|skip
  | true =>
   rw[h1]at c1
   have hc:chkB ga RA NA=true:=by
    unfold onB at h1
    simp only[Bool.and_eq_true]at h1
    exact h1.1.1
   have c2:=Qj2 ga RA NA hlA hc
   have hM:=Qb4 hc
   have hWl:(tabT RA NA (none_ NA.length)).length<=1024:=by rw[Qbv];have:=hM.z24;omega
   have lo:=Qom p j xs ys ga RA.length (rtL RA) NA.length (mcL NA) gb RB.length (rtL RB) NB.length (mcL NB) (Qah RA) (Qaj NA) (Qah RB) (Qaj NB) 0 (tabT RA NA (none_ NA.length)) o_
   cases h2:nzB (tabT RA NA (none_ NA.length))with
   |false=>
    have hf:(okM p j ga RA NA&&okM p j gb RB NB)=false:=by unfold okM;rw[h1,h2];rfl
    rw[h2]at lo
    replace lo:=lo.snd (fun h=>by cases h)
    refine .inr ⟨.ret,[],{sl:=[(12,i6 360)]},[fn 50 (.tup [.bool true,i6 0]),fn 61 (.tup [sl (tabT RA NA (none_ NA.length)),i6 0]),(0,.loop [0,1] (rgZ p j xs ys ga RA.length (rtL RA) NA.length (mcL NA) gb RB.length (rtL RB) NB.length (mcL NB) 0 (tabT RA NA (none_ NA.length)) 0) [(True,.ret,{sl:=[(12,i6 360)]})])],1000,.inr (.inl ⟨hf,rfl,rfl⟩),?_⟩
    clear hf hlA h1 h2 hin hM hc
    generalize tabT RA NA (none_ NA.length)=W at*
    have hww:=Qaa W
    unfold mdV at*
    generalize rtL RA=RRA at*
    generalize mcL NA=NNA at*
    generalize rtL RB=RRB at*
    generalize mcL NB=NNB at*
    refine m_ (p:=let z0:=[i6 ga,V.im RA.length RRA,V.im NA.length NNA];let z1:=rgA ga RA.length RRA NA.length NNA gb RB.length RRB NB.length NNB;let z2:=[i6 gb,V.im RB.length RRB,V.im NB.length NNB];let z3:=((0:Nat):Int);Bn [Bn [Tt,Tt,TT 3],FnOk Try.prog g0 17 [V.im p.length (ut p),V.im j.length (ut j),V.agg z0] (V.tup [V.bool true,i6 0]),Tt,Bn [TT 3],FnOk Try.prog g0 27 [V.agg z0] (V.tup [sl W,i6 0]),Tt,Bn [Bn [An [Sm p.length,Sm (ut p)],An [Sm j.length,Sm (ut j)],Sm (xs:Int),Sm (ys:Int),Zz,Zz,An [2=2,z1=z1],Sm (2:Int),z3=z3,An [Sm W.length,Sm (ints W)],Sm (W.length:Int),z3=(0:Int)],An [z0=z0,TT 3],An [z2=z2,TT 3]],Sat Try.prog none 0 (at' 11 [1,1,1,0,1,0,0,1,1,0,0,1,1,1,1,1,1,0]) (mkSt g0 98 (rgZ p j xs ys ga RA.length RRA NA.length NNA gb RB.length RRB NB.length NNB 0 W 0)) (Qad g0 98 [(True,Ex.ret,SL.mk [(12,i6 360)] [] [] [])]),(True->Bn [Bn [Sm (360:Int)]])]) ?_
    (repeat'(first|(with_reducible apply And.intro)|(refine fun(_:True)=>?_)))<;>first|exact aq|skip
    all_goals first|exact c1|exact c2|exact lo|skip
   |true=>
    have hok:okM p j ga RA NA=true:=by unfold okM;rw[h1,h2];rfl
    rw[h2]at lo
    replace lo:=lo.fst (fun h=>by cases h)
    refine .inl ⟨1,[0,1],[fn 50 (.tup [.bool true,i6 0]),fn 61 (.tup [sl (tabT RA NA (none_ NA.length)),i6 0]),(0,.loop [0,1] (rgZ p j xs ys ga RA.length (rtL RA) NA.length (mcL NA) gb RB.length (rtL RB) NB.length (mcL NB) 0 (tabT RA NA (none_ NA.length)) 0) [(True,.exit 2,rgS p j xs ys ga RA.length (rtL RA) NA.length (mcL NA) gb RB.length (rtL RB) NB.length (mcL NB) 0)]),nu 75 ((1:Nat):Int)],1000,⟨by decide,fun _=>hok,fun h=>absurd h d_⟩,by decide,?_⟩
    clear hlA h1 h2 hin hM hc hok
    generalize tabT RA NA (none_ NA.length)=W at*
    have hww:=Qaa W
    unfold mdV at*
    generalize rtL RA=RRA at*
    generalize mcL NA=NNA at*
    generalize rtL RB=RRB at*
    generalize mcL NB=NNB at*
    refine m_ (p:=let z8:=An [Sm p.length,Sm (ut p)];let z9:=An [Sm j.length,Sm (ut j)];let z0:=[i6 ga,V.im RA.length RRA,V.im NA.length NNA];let z1:=rgA ga RA.length RRA NA.length NNA gb RB.length RRB NB.length NNB;let z2:=[i6 gb,V.im RB.length RRB,V.im NB.length NNB];let z3:=((0:Nat):Int);let z4:=((1:Nat):Int);let z5:=(xs:Int);let z6:=(ys:Int);let z7:=(2:Int);Bn [Bn [Tt,Tt,TT 3],FnOk Try.prog g0 17 [V.im p.length (ut p),V.im j.length (ut j),V.agg z0] (V.tup [V.bool true,i6 0]),Tt,Bn [TT 3],FnOk Try.prog g0 27 [V.agg z0] (V.tup [sl W,i6 0]),Tt,Bn [Bn [z8,z9,z5=z5,z6=z6,Zz,Zz,An [2=2,z1=z1],z7=z7,z3=z3,An [Sm W.length,Sm (ints W)],Sm (W.length:Int),z3=(0:Int)],An [z0=z0,TT 3],An [z2=z2,TT 3]],Sat Try.prog none 0 (at' 11 [1,1,1,0,1,0,0,1,1,0,0,1,1,1,1,1,1,0]) (mkSt g0 98 (rgZ p j xs ys ga RA.length RRA NA.length NNA gb RB.length RRB NB.length NNB 0 W 0)) (Qad g0 98 [(True,Ex.exit 2,rgS p j xs ys ga RA.length RRA NA.length NNA gb RB.length RRB NB.length NNB 0)]),(True->Bn [wr .i64 (z3+1)=z4,Bn [z8,z9,z5=z5,z6=z6,Zz,Zz,An [2=2,z1=z1],z7=z7,z4=z4],An [z0=z0,TT 3],An [z2=z2,TT 3]])]) ?_
    (repeat'(first|(with_reducible apply And.intro)|(refine fun(_:True)=>?_)))<;>first|exact aq|skip
    all_goals first|exact c1|exact c2|exact lo|skip
 ·have c1 := on_fn hg gb RB NB hlB
  cases h1:onB p j gb RB NB with
  |false=>
   rw[h1]at c1
   have hf:(okM p j ga RA NA&&okM p j gb RB NB)=false:=by unfold okM;rw[h1];simp
   refine .inr ⟨.ret,[],{sl:=[(12,i6 360)]},[fn 50 (.tup [.bool false,i6 0])],1000,.inr (.inl ⟨hf,rfl,rfl⟩),?_⟩
   clear hf hlB h1 hin
   unfold mdV at*
   generalize rtL RA=RRA at*
   generalize mcL NA=NNA at*
   generalize rtL RB=RRB at*
   generalize mcL NB=NNB at*
   refine m_ (p:=Bn [Bn [Tt,Tt,TT 3],FnOk Try.prog g0 17 [V.im p.length (ut p),V.im j.length (ut j),V.agg [i6 gb,V.im RB.length RRB,V.im NB.length NNB]] (V.tup [V.bool false,i6 0]),Tt,Bn [Sm (360:Int)]]) ?_
   (repeat'(first|(with_reducible apply And.intro)|(refine fun(_:True)=>?_)))<;>first|exact aq|skip
   all_goals first|exact c1|skip
  | true =>
   rw[h1]at c1
   have hc:chkB gb RB NB=true:=by
    unfold onB at h1
    simp only[Bool.and_eq_true]at h1
    exact h1.1.1
   have c2:=Qj2 gb RB NB hlB hc
   have hM:=Qb4 hc
   have hWl:(tabT RB NB (none_ NB.length)).length<=1024:=by rw[Qbv];have:=hM.z24;omega
   have lo:=Qom p j xs ys ga RA.length (rtL RA) NA.length (mcL NA) gb RB.length (rtL RB) NB.length (mcL NB) (Qah RA) (Qaj NA) (Qah RB) (Qaj NB) 1 (tabT RB NB (none_ NB.length)) o_
   cases h2:nzB (tabT RB NB (none_ NB.length))with
   |false=>
    have hf:(okM p j ga RA NA&&okM p j gb RB NB)=false:=by unfold okM;rw[h1,h2];simp
    rw[h2]at lo
    replace lo:=lo.snd (fun h=>by cases h)
    refine .inr ⟨.ret,[],{sl:=[(12,i6 360)]},[fn 50 (.tup [.bool true,i6 0]),fn 61 (.tup [sl (tabT RB NB (none_ NB.length)),i6 0]),(0,.loop [0,1] (rgZ p j xs ys ga RA.length (rtL RA) NA.length (mcL NA) gb RB.length (rtL RB) NB.length (mcL NB) 1 (tabT RB NB (none_ NB.length)) 0) [(True,.ret,{sl:=[(12,i6 360)]})])],1000,.inr (.inl ⟨hf,rfl,rfl⟩),?_⟩
    clear hf hlB h1 h2 hin hM hc
    generalize tabT RB NB (none_ NB.length)=W at*
    have hww:=Qaa W
    unfold mdV at*
    generalize rtL RA=RRA at*
    generalize mcL NA=NNA at*
    generalize rtL RB=RRB at*
    generalize mcL NB=NNB at*
    refine m_ (p:=let z0:=[i6 gb,V.im RB.length RRB,V.im NB.length NNB];let z1:=rgA ga RA.length RRA NA.length NNA gb RB.length RRB NB.length NNB;let z2:=[i6 ga,V.im RA.length RRA,V.im NA.length NNA];Bn [Bn [Tt,Tt,TT 3],FnOk Try.prog g0 17 [V.im p.length (ut p),V.im j.length (ut j),V.agg z0] (V.tup [V.bool true,i6 0]),Tt,Bn [TT 3],FnOk Try.prog g0 27 [V.agg z0] (V.tup [sl W,i6 0]),Tt,Bn [Bn [An [Sm p.length,Sm (ut p)],An [Sm j.length,Sm (ut j)],Sm (xs:Int),Sm (ys:Int),Zz,Zz,An [2=2,z1=z1],Sm (2:Int),Sm ((1:Nat):Int),An [Sm W.length,Sm (ints W)],Sm (W.length:Int),((0:Nat):Int)=(0:Int)],An [z2=z2,TT 3],An [z0=z0,TT 3]],Sat Try.prog none 0 (at' 11 [1,1,1,0,1,0,0,1,1,0,0,1,1,1,1,1,1,0]) (mkSt g0 98 (rgZ p j xs ys ga RA.length RRA NA.length NNA gb RB.length RRB NB.length NNB 1 W 0)) (Qad g0 98 [(True,Ex.ret,SL.mk [(12,i6 360)] [] [] [])]),(True->Bn [Bn [Sm (360:Int)]])]) ?_
    (repeat'(first|(with_reducible apply And.intro)|(refine fun(_:True)=>?_)))<;>first|exact aq|skip
    all_goals first|exact c1|exact c2|exact lo|skip
   |true=>
    have hok:okM p j gb RB NB=true:=by unfold okM;rw[h1,h2];rfl
    rw[h2]at lo
    replace lo:=lo.fst (fun h=>by cases h)
    refine .inl ⟨2,[0,1],[fn 50 (.tup [.bool true,i6 0]),fn 61 (.tup [sl (tabT RB NB (none_ NB.length)),i6 0]),(0,.loop [0,1] (rgZ p j xs ys ga RA.length (rtL RA) NA.length (mcL NA) gb RB.length (rtL RB) NB.length (mcL NB) 1 (tabT RB NB (none_ NB.length)) 0) [(True,.exit 2,rgS p j xs ys ga RA.length (rtL RA) NA.length (mcL NA) gb RB.length (rtL RB) NB.length (mcL NB) 1)]),nu 75 ((2:Nat):Int)],1000,⟨by decide,fun _=>hin.1 d_,fun _=>hok⟩,by decide,?_⟩
    clear hlB h1 h2 hin hM hc hok
    generalize tabT RB NB (none_ NB.length)=W at*
    have hww:=Qaa W
    unfold mdV at*
    generalize rtL RA=RRA at*
    generalize mcL NA=NNA at*
    generalize rtL RB=RRB at*
    generalize mcL NB=NNB at*
    refine m_ (p:=let z8:=An [Sm p.length,Sm (ut p)];let z9:=An [Sm j.length,Sm (ut j)];let z0:=[i6 gb,V.im RB.length RRB,V.im NB.length NNB];let z1:=rgA ga RA.length RRA NA.length NNA gb RB.length RRB NB.length NNB;let z2:=[i6 ga,V.im RA.length RRA,V.im NA.length NNA];let z3:=((1:Nat):Int);let z4:=((2:Nat):Int);let z5:=(xs:Int);let z6:=(ys:Int);let z7:=(2:Int);Bn [Bn [Tt,Tt,TT 3],FnOk Try.prog g0 17 [V.im p.length (ut p),V.im j.length (ut j),V.agg z0] (V.tup [V.bool true,i6 0]),Tt,Bn [TT 3],FnOk Try.prog g0 27 [V.agg z0] (V.tup [sl W,i6 0]),Tt,Bn [Bn [z8,z9,z5=z5,z6=z6,Zz,Zz,An [2=2,z1=z1],z7=z7,z3=z3,An [Sm W.length,Sm (ints W)],Sm (W.length:Int),((0:Nat):Int)=(0:Int)],An [z2=z2,TT 3],An [z0=z0,TT 3]],Sat Try.prog none 0 (at' 11 [1,1,1,0,1,0,0,1,1,0,0,1,1,1,1,1,1,0]) (mkSt g0 98 (rgZ p j xs ys ga RA.length RRA NA.length NNA gb RB.length RRB NB.length NNB 1 W 0)) (Qad g0 98 [(True,Ex.exit 2,rgS p j xs ys ga RA.length RRA NA.length NNA gb RB.length RRB NB.length NNB 1)]),(True->Bn [wr .i64 (z3+1)=z4,Bn [z8,z9,z5=z5,z6=z6,Zz,Zz,An [2=2,z1=z1],z7=z7,z4=z4],An [z2=z2,TT 3],An [z0=z0,TT 3]])]) ?_
    (repeat'(first|(with_reducible apply And.intro)|(refine fun(_:True)=>?_)))<;>first|exact aq|skip
    all_goals first|exact c1|exact c2|exact lo|skip
 ·have hf : (okM p j ga RA NA && okM p j gb RB NB) = true := by rw [hin.1 d_, hin.2 d_]; rfl
  refine .inr ⟨.exit 0,[0,1],_,[],1000,.inl ⟨hf,rfl,rfl⟩,?_⟩
  clear hf hin hlA hlB
  generalize rtL RA=RRA at*
  generalize mcL NA=NNA at*
  generalize rtL RB=RRB at*
  generalize mcL NB=NNB at*
  refine m_ (p:=Bn [Bn [Sm (xs:Int),Sm (ys:Int),Zz,Zz],An [Sm [i6 ga,V.im RA.length RRA,V.im NA.length NNA],TT 3],An [Sm [i6 gb,V.im RB.length RRB,V.im NB.length NNB],TT 3]]) ?_
  (repeat'(first|(with_reducible apply And.intro)|(refine fun(_:True)=>?_)))<;>first|exact aq|skip
  all_goals skip
end
set_option maxHeartbeats 1000000
set_option maxRecDepth 100000
def rgB(p j:List Nat)(xs ys:Nat)(ga:Int)(RA:List (List Int))(NA:List Mc)(gb:Int)(RB:List (List Int))(NB:List Mc):Bool:=
 (okM p j ga RA NA&&okM p j gb RB NB)&&aliB (tabT RA NA (none_ NA.length)) (tabT RB NB (none_ NA.length)) (ga^RA.length) (gb^RB.length)&&sameB NA NB&&(difL ga RA NA gb RB NB xs ys).isSome
theorem ask_sets{n xs ys:Nat}(h5:n<=5)(h:Qkh n xs ys):Qmt n xs ys=true:=by
 unfold Qmt
 rw[Bool.and_eq_true,decide_eq_true_eq,decide_eq_true_eq]
 refine⟨?_,h.d⟩
 have hal:alN n<18446744073709551616:=by
  unfold alN
  have:=Nat.pow_le_pow_right (show 2>0 by decide) h5
  omega
 have key: ∀{x:Nat},x<18446744073709551616->mi x (alN n)=0->∀i,x.testBit i=true->i<n:=fun{x} hx h0 i hi=>by
  have h1:=(Qmf hx hal).1 h0 i hi
  unfold alN at h1
  rw[Nat.testBit_two_pow_sub_one]at h1
  exact of_decide_eq_true h1
 refine Nat.div_eq_of_lt (Qqv fun i hi=>?_)
 rw[Nat.testBit_or,Bool.or_eq_true]at hi
 exact hi.elim (key h.x64 h.x i) (key h.y64 h.y i)
section
variable {p j:List Nat} (hg:GrOk p j) (xs ys:Nat) (hq:Qkh p.length xs ys) (ga:Int) (RA:List (List Int)) (NA:List Mc) (gb:Int) (RB:List (List Int)) (NB:List Mc) (hlA:Qbd RA NA) (hlB:Qbd RB NB)
include hg hq hlA hlB
theorem Qc6:FnOk Pg g0 11 [ul p,ul j,u6 (xs:Nat),u6 (ys:Nat),mdV ga RA NA,mdV gb RB NB] (i6 (if rgB p j xs ys ga RA NA gb RB NB=true then 0 else 360)):=by
 have hpp:=Qaf p
 have hjj:=Qaf j
 have hRA:=Qah RA
 have hNA:=Qaj NA
 have hRB:=Qah RB
 have hNB:=Qaj NB
 have c0:=Qse p j hg xs ys hq
 have lo:=rg_loop hg xs ys ga RA NA gb RB NB hlA hlB
 cases h1:(okM p j ga RA NA&&okM p j gb RB NB)with
 |false=>
  have e:rgB p j xs ys ga RA NA gb RB NB=false:=by unfold rgB;rw[h1];rfl
  rw[e,if_neg (by simp)]
  rw[h1]at lo
  replace lo:=lo.snd (fun h=>by cases h)
  unfold mdV at*
  refine FnOk.of_vc vE_ok mixed Qab (n:=1000) (r:=[]) (S:={sl:=[(12,i6 360)]}) (hs:=[fn 30 (i6 351),(0,.loop [0,1] (rgS p j xs ys ga RA.length (rtL RA) NA.length (mcL NA) gb RB.length (rtL RB) NB.length (mcL NB) 0) [(True,.ret,{sl:=[(12,i6 360)]})])]) ?_
  clear hg hq hlA hlB h1 e
  generalize rtL RA=RRA at*
  generalize mcL NA=NNA at*
  generalize rtL RB=RRB at*
  generalize mcL NB=NNB at*
  refine m_ (p:=Bn [Sm (i6 360),Bn [Tt,Tt,Tt,Tt,TT 3],FnOk Try.prog g0 32 [V.im p.length (ut p),V.im j.length (ut j),u6 xs,u6 ys,V.agg [u6 0,u6 0,u6 0]] (i6 351),Tt,Bn [Bn [An [Sm p.length,Sm (ut p)],An [Sm j.length,Sm (ut j)],Sm (xs:Int),Sm (ys:Int),Zz,Zz,An [2=2,rgA ga RA.length RRA NA.length NNA gb RB.length RRB NB.length NNB=[i6 ga,V.im RA.length RRA,V.im NA.length NNA,i6 gb,V.im RB.length RRB,V.im NB.length NNB],TT 6],(2:Int)=((2:Nat):Int),((0:Nat):Int)=(0:Int)],An [Sm [i6 ga,V.im RA.length RRA,V.im NA.length NNA],TT 3],An [Sm [i6 gb,V.im RB.length RRB,V.im NB.length NNB],TT 3]],Sat Try.prog none 0 (at' 11 [1,1,1,0,1,0]) (mkSt g0 98 (rgS p j xs ys ga RA.length RRA NA.length NNA gb RB.length RRB NB.length NNB 0)) (Qad g0 98 [(True,Ex.ret,SL.mk [(12,i6 360)] [] [] [])]),(True->Bn [Bn [Sm (360:Int)]])]) ?_
  (repeat'(first|(with_reducible apply And.intro)|(refine fun(_:True)=>?_)))<;>first|exact aq|skip
  all_goals first|exact c0|exact lo|rfl|skip
 | true =>
  rw[h1]at lo
  replace lo:=lo.fst (fun h=>by cases h)
  have hk:=Bool.and_eq_true_iff.1 h1
  have hon: ∀{g:Int}{R:List (List Int)}{N:List Mc},okM p j g R N=true->chkB g R N=true/\N.length=p.length:=fun{g R N} h=>by
   unfold okM onB at h
   simp only[Bool.and_eq_true,decide_eq_true_eq]at h
   exact⟨h.1.1.1,h.1.1.2⟩
  obtain⟨hA,hAl⟩:=hon hk.1
  obtain⟨hB,hBl⟩:=hon hk.2
  have hsets:Qmt NA.length xs ys=true:=by rw[hAl];exact ask_sets hg.l5 hq
  have hqa:=(Qb4 hA).q1
  obtain⟨q,hqe⟩: ∃q,NA.length=q+1:=⟨NA.length-1,by omega⟩
  cases hs:sameB NA NB with
  |false=>
   have c1:=Qic ga RA NA gb RB NB hlA hlB hA hB hs
   have e:rgB p j xs ys ga RA NA gb RB NB=false:=by unfold rgB;rw[h1,hs];simp
   rw[e,if_neg (by simp)]
   unfold mdV at*
   refine FnOk.of_vc vE_ok mixed Qab (n:=1000) (r:=[]) (S:={sl:=[(12,i6 360)]}) (hs:=[fn 30 (i6 351),(0,.loop [0,1] (rgS p j xs ys ga RA.length (rtL RA) NA.length (mcL NA) gb RB.length (rtL RB) NB.length (mcL NB) 0) [(True,.exit 0,rgX xs ys ga RA.length (rtL RA) NA.length (mcL NA) gb RB.length (rtL RB) NB.length (mcL NB))]),fn 79 (.tup [.bool false,i6 0])]) ?_
   clear hg hq hlA hlB h1 e hk hon hA hB hsets hs
   generalize rtL RA=RRA at*
   generalize mcL NA=NNA at*
   generalize rtL RB=RRB at*
   generalize mcL NB=NNB at*
   refine m_ (p:=let z0:=[i6 ga,V.im RA.length RRA,V.im NA.length NNA];let z1:=[i6 gb,V.im RB.length RRB,V.im NB.length NNB];Bn [Sm (i6 360),Bn [Tt,Tt,Tt,Tt,TT 3],FnOk Try.prog g0 32 [V.im p.length (ut p),V.im j.length (ut j),u6 xs,u6 ys,V.agg [u6 0,u6 0,u6 0]] (i6 351),Tt,Bn [Bn [An [Sm p.length,Sm (ut p)],An [Sm j.length,Sm (ut j)],Sm (xs:Int),Sm (ys:Int),Zz,Zz,An [2=2,rgA ga RA.length RRA NA.length NNA gb RB.length RRB NB.length NNB=[i6 ga,V.im RA.length RRA,V.im NA.length NNA,i6 gb,V.im RB.length RRB,V.im NB.length NNB],TT 6],(2:Int)=((2:Nat):Int),((0:Nat):Int)=(0:Int)],An [z0=z0,TT 3],An [z1=z1,TT 3]],Sat Try.prog none 0 (at' 11 [1,1,1,0,1,0]) (mkSt g0 98 (rgS p j xs ys ga RA.length RRA NA.length NNA gb RB.length RRB NB.length NNB 0)) (Qad g0 98 [(True,Ex.exit 0,rgX xs ys ga RA.length RRA NA.length NNA gb RB.length RRB NB.length NNB)]),(True->Bn [Bn [TT 3,TT 3],FnOk Try.prog g0 9 [V.agg z0,V.agg z1] (V.tup [V.bool false,i6 0]),Tt,Bn [Sm (360:Int)]])]) ?_
   (repeat'(first|(with_reducible apply And.intro)|(refine fun(_:True)=>?_)))<;>first|exact aq|skip
   all_goals first|exact c0|exact lo|exact c1|rfl|skip
  | true =>
   have c1:=Qf0 ga RA NA gb RB NB hlA hlB hA hB hs
   cases ha:aliB (tabT RA NA (none_ NA.length)) (tabT RB NB (none_ NA.length)) (ga^RA.length) (gb^RB.length)with
   |false=>
    rw[ha]at c1
    have e:rgB p j xs ys ga RA NA gb RB NB=false:=by unfold rgB;rw[h1,ha];simp
    rw[e,if_neg (by simp)]
    unfold mdV at*
    refine FnOk.of_vc vE_ok mixed Qab (n:=1000) (r:=[]) (S:={sl:=[(12,i6 360)]}) (hs:=[fn 30 (i6 351),(0,.loop [0,1] (rgS p j xs ys ga RA.length (rtL RA) NA.length (mcL NA) gb RB.length (rtL RB) NB.length (mcL NB) 0) [(True,.exit 0,rgX xs ys ga RA.length (rtL RA) NA.length (mcL NA) gb RB.length (rtL RB) NB.length (mcL NB))]),fn 79 (.tup [.bool false,i6 0])]) ?_
    clear hg hq hlA hlB h1 e hk hon hA hB hsets hs ha
    generalize rtL RA=RRA at*
    generalize mcL NA=NNA at*
    generalize rtL RB=RRB at*
    generalize mcL NB=NNB at*
    refine m_ (p:=let z0:=[i6 ga,V.im RA.length RRA,V.im NA.length NNA];let z1:=[i6 gb,V.im RB.length RRB,V.im NB.length NNB];Bn [Sm (i6 360),Bn [Tt,Tt,Tt,Tt,TT 3],FnOk Try.prog g0 32 [V.im p.length (ut p),V.im j.length (ut j),u6 xs,u6 ys,V.agg [u6 0,u6 0,u6 0]] (i6 351),Tt,Bn [Bn [An [Sm p.length,Sm (ut p)],An [Sm j.length,Sm (ut j)],Sm (xs:Int),Sm (ys:Int),Zz,Zz,An [2=2,rgA ga RA.length RRA NA.length NNA gb RB.length RRB NB.length NNB=[i6 ga,V.im RA.length RRA,V.im NA.length NNA,i6 gb,V.im RB.length RRB,V.im NB.length NNB],TT 6],(2:Int)=((2:Nat):Int),((0:Nat):Int)=(0:Int)],An [z0=z0,TT 3],An [z1=z1,TT 3]],Sat Try.prog none 0 (at' 11 [1,1,1,0,1,0]) (mkSt g0 98 (rgS p j xs ys ga RA.length RRA NA.length NNA gb RB.length RRB NB.length NNB 0)) (Qad g0 98 [(True,Ex.exit 0,rgX xs ys ga RA.length RRA NA.length NNA gb RB.length RRB NB.length NNB)]),(True->Bn [Bn [TT 3,TT 3],FnOk Try.prog g0 9 [V.agg z0,V.agg z1] (V.tup [V.bool false,i6 0]),Tt,Bn [Sm (360:Int)]])]) ?_
    (repeat'(first|(with_reducible apply And.intro)|(refine fun(_:True)=>?_)))<;>first|exact aq|skip
    all_goals first|exact c0|exact lo|exact c1|rfl|skip
   | true =>
    rw[ha]at c1
    have c2:=Qdf ga RA NA gb RB NB hlA hlB xs ys hq.x64 hq.y64 hA hB hs hsets q hqe
    have er:rgB p j xs ys ga RA NA gb RB NB=(difL ga RA NA gb RB NB xs ys).isSome:=by unfold rgB;rw[h1,ha,hs];rfl
    rw[er]
    have jr:=Qjb (F:=firD ga RA NA gb RB NB xs ys) (q:=q+1) (fun k l h=>by rw[<-hqe];exact Qnx k l h) (prodT (mkC (cdT NA) xs) NA.length).toNat
    rw[show dfR (firD ga RA NA gb RB NB xs ys) (prodT (mkC (cdT NA) xs) NA.length).toNat=difL ga RA NA gb RB NB xs ys from rfl]at jr
    generalize difL ga RA NA gb RB NB xs ys=dl at*
    clear hg hq hlA hlB h1 hk hon hA hB hsets hs ha er
    cases dl with
    |none=>
     rw[if_pos rfl,show ldV q none= .nils from rfl]at c2
     show FnOk Pg g0 _ _ (i6 360)
     unfold mdV at*
     refine FnOk.of_vc vE_ok mixed Qab (n:=1000) (r:=[]) (S:={sl:=[(12,i6 360)]}) (hs:=[fn 30 (i6 351),(0,.loop [0,1] (rgS p j xs ys ga RA.length (rtL RA) NA.length (mcL NA) gb RB.length (rtL RB) NB.length (mcL NB) 0) [(True,.exit 0,rgX xs ys ga RA.length (rtL RA) NA.length (mcL NA) gb RB.length (rtL RB) NB.length (mcL NB))]),fn 79 (.tup [.bool true,i6 0]),fn 93 (.tup [.nils,i6 4])]) ?_
     generalize rtL RA=RRA at*
     generalize mcL NA=NNA at*
     generalize rtL RB=RRB at*
     generalize mcL NB=NNB at*
     refine m_ (p:=let z0:=[i6 ga,V.im RA.length RRA,V.im NA.length NNA];let z1:=[i6 gb,V.im RB.length RRB,V.im NB.length NNB];Bn [Sm (i6 360),Bn [Tt,Tt,Tt,Tt,TT 3],FnOk Try.prog g0 32 [V.im p.length (ut p),V.im j.length (ut j),u6 xs,u6 ys,V.agg [u6 0,u6 0,u6 0]] (i6 351),Tt,Bn [Bn [An [Sm p.length,Sm (ut p)],An [Sm j.length,Sm (ut j)],Sm (xs:Int),Sm (ys:Int),Zz,Zz,An [2=2,rgA ga RA.length RRA NA.length NNA gb RB.length RRB NB.length NNB=[i6 ga,V.im RA.length RRA,V.im NA.length NNA,i6 gb,V.im RB.length RRB,V.im NB.length NNB],TT 6],(2:Int)=((2:Nat):Int),((0:Nat):Int)=(0:Int)],An [z0=z0,TT 3],An [z1=z1,TT 3]],Sat Try.prog none 0 (at' 11 [1,1,1,0,1,0]) (mkSt g0 98 (rgS p j xs ys ga RA.length RRA NA.length NNA gb RB.length RRB NB.length NNB 0)) (Qad g0 98 [(True,Ex.exit 0,rgX xs ys ga RA.length RRA NA.length NNA gb RB.length RRB NB.length NNB)]),(True->Bn [Bn [TT 3,TT 3],FnOk Try.prog g0 9 [V.agg z0,V.agg z1] (V.tup [V.bool true,i6 0]),Tt,An [TT 3,TT 3,TT 2],FnOk Try.prog g0 10 [V.agg z0,V.agg z1,u6 xs,u6 ys] (V.tup [V.nils,i6 4]),Tt,Bn [Sm (360:Int)]])]) ?_
     (repeat'(first|(with_reducible apply And.intro)|(refine fun(_:True)=>?_)))<;>first|exact aq|skip
     all_goals first|exact c0|exact lo|exact c1|exact c2|rfl|skip
    |some l=>
     have hll:=jr l rfl
     have hl1:=Qaa l
     rw[if_neg (by simp),show ldV q (some l)= .im (q+1) (ints l)from rfl]at c2
     show FnOk Pg g0 _ _ (i6 0)
     unfold mdV at*
     refine FnOk.of_vc vE_ok mixed Qab (n:=1000) (r:=[]) (S:={sl:=[(12,i6 0)]}) (hs:=[fn 30 (i6 351),(0,.loop [0,1] (rgS p j xs ys ga RA.length (rtL RA) NA.length (mcL NA) gb RB.length (rtL RB) NB.length (mcL NB) 0) [(True,.exit 0,rgX xs ys ga RA.length (rtL RA) NA.length (mcL NA) gb RB.length (rtL RB) NB.length (mcL NB))]),fn 79 (.tup [.bool true,i6 0]),fn 93 (.tup [.im (q+1) (ints l),i6 0])]) ?_
     generalize rtL RA=RRA at*
     generalize mcL NA=NNA at*
     generalize rtL RB=RRB at*
     generalize mcL NB=NNB at*
     refine m_ (p:=let z0:=[i6 ga,V.im RA.length RRA,V.im NA.length NNA];let z1:=[i6 gb,V.im RB.length RRB,V.im NB.length NNB];Bn [Sm (i6 0),Bn [Tt,Tt,Tt,Tt,TT 3],FnOk Try.prog g0 32 [V.im p.length (ut p),V.im j.length (ut j),u6 xs,u6 ys,V.agg [u6 0,u6 0,u6 0]] (i6 351),Tt,Bn [Bn [An [Sm p.length,Sm (ut p)],An [Sm j.length,Sm (ut j)],Sm (xs:Int),Sm (ys:Int),Zz,Zz,An [2=2,rgA ga RA.length RRA NA.length NNA gb RB.length RRB NB.length NNB=[i6 ga,V.im RA.length RRA,V.im NA.length NNA,i6 gb,V.im RB.length RRB,V.im NB.length NNB],TT 6],(2:Int)=((2:Nat):Int),((0:Nat):Int)=(0:Int)],An [z0=z0,TT 3],An [z1=z1,TT 3]],Sat Try.prog none 0 (at' 11 [1,1,1,0,1,0]) (mkSt g0 98 (rgS p j xs ys ga RA.length RRA NA.length NNA gb RB.length RRB NB.length NNB 0)) (Qad g0 98 [(True,Ex.exit 0,rgX xs ys ga RA.length RRA NA.length NNA gb RB.length RRB NB.length NNB)]),(True->Bn [Bn [TT 3,TT 3],FnOk Try.prog g0 9 [V.agg z0,V.agg z1] (V.tup [V.bool true,i6 0]),Tt,An [TT 3,TT 3,TT 2],FnOk Try.prog g0 10 [V.agg z0,V.agg z1,u6 xs,u6 ys] (V.tup [V.im (q+1) (ints l),i6 0]),Tt,Bn [Sm (0:Int)]])]) ?_
     (repeat'(first|(with_reducible apply And.intro)|(refine fun(_:True)=>?_)))<;>first|exact aq|skip
     all_goals first|exact c0|exact lo|exact c1|exact c2|rfl|skip
end
set_option maxHeartbeats 4000000
set_option maxRecDepth 100000
theorem Qfu(R:List (List Int))(N:List Mc)(h:((R.all fun L=>decide (L.length<=1000000))&&N.all fun x=>decide (x.fr.length<=1000000)&&decide (x.no.length<=1000000)&&decide (x.ou.length<=1000000))=true):Qbd R N:=by
 simp only[Bool.and_eq_true,List.all_eq_true,decide_eq_true_eq]at h
 exact⟨h.1,fun x hx=>⟨(h.2 x hx).1.1,(h.2 x hx).1.2,(h.2 x hx).2⟩⟩
theorem ln_d:Qbd wdR wdN:=Qfu _ _ k_
theorem ck_d:chkB 4 wdR wdN=true:=by kernel_rfl
theorem ln_f:Qbd wdR wfN:=Qfu _ _ k_
theorem ck_f:chkB 4 wdR wfN=true:=by kernel_rfl
theorem ln_a:Qbd waR waN:=Qfu _ _ k_
theorem ck_a:chkB 4 waR waN=true:=by kernel_rfl
theorem ln_b:Qbd waR wbN:=Qfu _ _ k_
theorem ck_b:chkB 4 waR wbN=true:=by kernel_rfl
theorem ln_s:Qbd [] wsN:=Qfu _ _ k_
theorem ck_s:chkB 1 [] wsN=true:=by kernel_rfl
theorem ln_t:Qbd [] wtN:=Qfu _ _ k_
theorem ck_t:chkB 1 [] wtN=true:=by kernel_rfl
theorem ln_z:Qbd [] []:=Qfu _ _ k_
theorem ck_z:chkB 0 [] []=false:=by kernel_rfl
theorem ln_y:Qbd [] []:=Qfu _ _ k_
theorem ck_y:chkB 2 [] []=false:=by kernel_rfl
theorem wal_1:FnOk Pg g0 9 [mdV 4 wdR wdN,mdV 4 wdR wfN] (.tup [.bool true,i6 0]):=by
 have h:=Qf0 4 wdR wdN 4 wdR wfN ln_d ln_f ck_d ck_f k_
 rw[show aliB (tabT wdR wdN (none_ wdN.length)) (tabT wdR wfN (none_ wdN.length)) (4^wdR.length) (4^wdR.length)=true by kernel_rfl]at h
 exact h
theorem wal_2:FnOk Pg g0 9 [mdV 4 wdR wdN,mdV 2 [] []] (.tup [.bool false,i6 330]):=Qo8 4 wdR wdN 2 [] [] ln_d ln_y ck_d ck_y
theorem wal_3:FnOk Pg g0 9 [mdV 4 waR waN,mdV 4 waR wbN] (.tup [.bool true,i6 0]):=by
 have h:=Qf0 4 waR waN 4 waR wbN ln_a ln_b ck_a ck_b k_
 rw[show aliB (tabT waR waN (none_ waN.length)) (tabT waR wbN (none_ waN.length)) (4^waR.length) (4^waR.length)=true by kernel_rfl]at h
 exact h
theorem wal_4:FnOk Pg g0 9 [mdV 4 wdR wdN,mdV 4 waR waN] (.tup [.bool false,i6 0]):=Qic 4 wdR wdN 4 waR waN ln_d ln_a ck_d ck_a k_
theorem wal_5:FnOk Pg g0 9 [mdV 1 [] wsN,mdV 1 [] wtN] (.tup [.bool true,i6 0]):=by
 have h:=Qf0 1 [] wsN 1 [] wtN ln_s ln_t ck_s ck_t k_
 rw[show aliB (tabT [] wsN (none_ wsN.length)) (tabT [] wtN (none_ wsN.length)) (1^[].length) (1^[].length)=true by kernel_rfl]at h
 exact h
theorem wdi_1:FnOk Pg g0 10 [mdV 4 wdR wdN,mdV 4 wdR wfN,u6 (1:Nat),u6 (2:Nat)] (.tup [.im 2 (ints [0,0]),i6 0]):=by
 have h:=Qdf 4 wdR wdN 4 wdR wfN ln_d ln_f 1 2 d_ d_ ck_d ck_f k_ k_ 1 rfl
 rw[show difL 4 wdR wdN 4 wdR wfN 1 2=some [0,0]by kernel_rfl]at h
 exact h
theorem wdi_2:FnOk Pg g0 10 [mdV 4 wdR wdN,mdV 4 wdR wdN,u6 (1:Nat),u6 (2:Nat)] (.tup [.nils,i6 4]):=by
 have h:=Qdf 4 wdR wdN 4 wdR wdN ln_d ln_d 1 2 d_ d_ ck_d ck_d k_ k_ 1 rfl
 rw[show difL 4 wdR wdN 4 wdR wdN 1 2=none by kernel_rfl]at h
 exact h
theorem wdi_5:FnOk Pg g0 10 [mdV 4 wdR wdN,mdV 4 waR waN,u6 (1:Nat),u6 (2:Nat)] (.tup [.nils,i6 2]):=Qly 4 wdR wdN 4 waR waN ln_d ln_a 1 2 ck_d ck_a k_
theorem wdi_6:FnOk Pg g0 10 [mdV 4 wdR wdN,mdV 4 wdR wfN,u6 (1:Nat),u6 (1:Nat)] (.tup [.nils,i6 2]):=Qgr 4 wdR wdN 4 wdR wfN ln_d ln_f 1 1 d_ d_ ck_d ck_f k_ k_
theorem wdi_7:FnOk Pg g0 10 [mdV 4 wdR wdN,mdV 4 wdR wfN,u6 (4:Nat),u6 (1:Nat)] (.tup [.nils,i6 2]):=Qgr 4 wdR wdN 4 wdR wfN ln_d ln_f 4 1 d_ d_ ck_d ck_f k_ k_
theorem wdi_8:FnOk Pg g0 10 [mdV 0 [] [],mdV 4 wdR wfN,u6 (4:Nat),u6 (4:Nat)] (.tup [.nils,i6 330]):=Qlx 0 [] [] 4 wdR wfN ln_z ln_f 4 4 ck_z
theorem wdi_3:FnOk Pg g0 10 [mdV 4 waR waN,mdV 4 waR wbN,u6 (1:Nat),u6 (8:Nat)] (.tup [.im 4 (ints [0,0,0,0]),i6 0]):=by
 have h:=Qdf 4 waR waN 4 waR wbN ln_a ln_b 1 8 d_ d_ ck_a ck_b k_ k_ 3 rfl
 rw[show difL 4 waR waN 4 waR wbN 1 8=some [0,0,0,0]by kernel_rfl]at h
 exact h
theorem wdi_4:FnOk Pg g0 10 [mdV 4 waR waN,mdV 4 waR wbN,u6 (1:Nat),u6 (4:Nat)] (.tup [.im 4 (ints [0,0,0,0]),i6 0]):=by
 have h:=Qdf 4 waR waN 4 waR wbN ln_a ln_b 1 4 d_ d_ ck_a ck_b k_ k_ 3 rfl
 rw[show difL 4 waR waN 4 waR wbN 1 4=some [0,0,0,0]by kernel_rfl]at h
 exact h
theorem wrt_4:FnOk Pg g0 11 [ul [0,1,2,4],ul [2,1,0,0],u6 (1:Nat),u6 (8:Nat),mdV 4 waR waN,mdV 4 waR wbN] (i6 0):=by
 have h:=Qc6 gw_p 1 8 (Qb3 k_) 4 waR waN 4 waR wbN ln_a ln_b
 rw[show rgB [0,1,2,4] [2,1,0,0] 1 8 4 waR waN 4 waR wbN=true by kernel_rfl]at h
 exact h
theorem wrt_5:FnOk Pg g0 11 [ul [0,1,2,4],ul [2,1,0,0],u6 (1:Nat),u6 (8:Nat),mdV 4 waR waN,mdV 4 waR waN] (i6 360):=by
 have h:=Qc6 gw_p 1 8 (Qb3 k_) 4 waR waN 4 waR waN ln_a ln_a
 rw[show rgB [0,1,2,4] [2,1,0,0] 1 8 4 waR waN 4 waR waN=false by kernel_rfl]at h
 exact h
theorem wrt_1:FnOk Pg g0 11 [ul [0,1],ul [2,1],u6 (1:Nat),u6 (2:Nat),mdV 4 wdR wdN,mdV 4 wdR wfN] (i6 0):=by
 have h:=Qc6 gw_a 1 2 (Qb3 k_) 4 wdR wdN 4 wdR wfN ln_d ln_f
 rw[show rgB [0,1] [2,1] 1 2 4 wdR wdN 4 wdR wfN=true by kernel_rfl]at h
 exact h
theorem wrt_2:FnOk Pg g0 11 [ul [0,1],ul [2,1],u6 (2:Nat),u6 (1:Nat),mdV 4 wdR wdN,mdV 4 wdR wfN] (i6 360):=by
 have h:=Qc6 gw_a 2 1 (Qb3 k_) 4 wdR wdN 4 wdR wfN ln_d ln_f
 rw[show rgB [0,1] [2,1] 2 1 4 wdR wdN 4 wdR wfN=false by kernel_rfl]at h
 exact h
theorem wrt_3:FnOk Pg g0 11 [ul [0,1],ul [2,1],u6 (1:Nat),u6 (2:Nat),mdV 1 [] wsN,mdV 1 [] wtN] (i6 360):=by
 have h:=Qc6 gw_a 1 2 (Qb3 k_) 1 [] wsN 1 [] wtN ln_s ln_t
 rw[show rgB [0,1] [2,1] 1 2 1 [] wsN 1 [] wtN=false by kernel_rfl]at h
 exact h
theorem wrt_6:FnOk Pg g0 11 [ul [0,1,2,4],ul [0,0,0,0],u6 (1:Nat),u6 (8:Nat),mdV 4 waR waN,mdV 4 waR wbN] (i6 360):=by
 have h:=Qc6 gw_0 1 8 (Qb3 k_) 4 waR waN 4 waR wbN ln_a ln_b
 rw[show rgB [0,1,2,4] [0,0,0,0] 1 8 4 waR waN 4 waR wbN=false by kernel_rfl]at h
 exact h
theorem wrt_7:FnOk Pg g0 11 [ul [0,1,2,4],ul [2,1,0,0],u6 (1:Nat),u6 (8:Nat),mdV 0 [] [],mdV 4 waR wbN] (i6 360):=by
 have h:=Qc6 gw_p 1 8 (Qb3 k_) 0 [] [] 4 waR wbN ln_z ln_b
 rw[show rgB [0,1,2,4] [2,1,0,0] 1 8 0 [] [] 4 waR wbN=false by kernel_rfl]at h
 exact h
theorem wrt_8:FnOk Pg g0 11 [ul [1],.im 0 [],u6 (0:Nat),u6 (0:Nat),mdV 4 waR waN,mdV 4 waR wbN] (i6 350):=FnOk.of_run vE_ok mixed (n:=100000) rfl k_
theorem wrt_9:FnOk Pg g0 11 [ul [0,1,2,4],ul [2,1,0,0],u6 (3:Nat),u6 (1:Nat),mdV 4 waR waN,mdV 4 waR wbN] (i6 2):=FnOk.of_run vE_ok mixed (n:=100000) rfl k_
noncomputable def xk1:Hook:=Qlc 7 [] (.tup [mdV 4 wdR wdN,mdV 4 wdR wfN]) Qoa
theorem xk1_ok:Qaq Pg xk1:=Qdx Qhf k_ k_ wpair_fn
noncomputable def xk2:Hook:=Qbg 9 [mdV 4 wdR wdN,mdV 4 wdR wfN] (.tup [.bool true,i6 0]) xk1
theorem xk2_ok:Qaq Pg xk2:=Qal xk1_ok k_ k_ wal_1
noncomputable def xk3:Hook:=Qbg 9 [mdV 4 wdR wdN,mdV 2 [] []] (.tup [.bool false,i6 330]) xk2
theorem xk3_ok:Qaq Pg xk3:=Qal xk2_ok k_ k_ wal_2
noncomputable def xk4:Hook:=Qlc 10 [mdV 4 wdR wdN,mdV 4 wdR wfN,u6 (1:Nat),u6 (2:Nat)] (.tup [.im 2 (ints [0,0]),i6 0]) xk3
theorem xk4_ok:Qaq Pg xk4:=Qdx xk3_ok k_ k_ wdi_1
noncomputable def xk5:Hook:=Qbg 10 [mdV 4 wdR wdN,mdV 4 wdR wdN,u6 (1:Nat),u6 (2:Nat)] (.tup [.nils,i6 4]) xk4
theorem xk5_ok:Qaq Pg xk5:=Qal xk4_ok k_ k_ wdi_2
noncomputable def xk6:Hook:=Qbg 11 [ul [0,1],ul [2,1],u6 (1:Nat),u6 (2:Nat),mdV 4 wdR wdN,mdV 4 wdR wfN] (i6 0) xk5
theorem xk6_ok:Qaq Pg xk6:=Qal xk5_ok k_ k_ wrt_1
noncomputable def xk7:Hook:=Qbg 11 [ul [0,1],ul [2,1],u6 (2:Nat),u6 (1:Nat),mdV 4 wdR wdN,mdV 4 wdR wfN] (i6 360) xk6
theorem xk7_ok:Qaq Pg xk7:=Qal xk6_ok k_ k_ wrt_2
noncomputable def xk8:Hook:=Qbg 8 (w4 [0,1] [2,1] 2 1) (wz 4) xk7
theorem xk8_ok:Qaq Pg xk8:=Qal xk7_ok k_ k_ mk_1
noncomputable def xk9:Hook:=Qbg 8 (w4 [0,1] [2,1] 1 1) (wz 2) xk8
theorem xk9_ok:Qaq Pg xk9:=Qal xk8_ok k_ k_ mk_2
noncomputable def xk10:Hook:=Qbg 8 (w4 [0] [1] 0 1) (wz 350) xk9
theorem Qu9:Qaq Pg xk10:=Qal xk9_ok k_ k_ mk_3
noncomputable def vX:Env:=Qq9 Pg xk10 extF
theorem vX_ok:vX.Ok Pg:=Qno plain Qu9 Qns
theorem works36:FnOk Pg g0 6 [] (.bool true):=FnOk.of_run vX_ok mixed (n:=100000) rfl k_
noncomputable def xk0:Hook:=Qbg 6 [] (.bool true) xk10
theorem xk0_ok:Qaq Pg xk0:=Qal Qu9 rfl k_ works36
noncomputable def xk11:Hook:=Qbg 8 (w4 [1] [0] 4 4) (wz 350) xk0
theorem xk11_ok:Qaq Pg xk11:=Qal xk0_ok k_ k_ mk_4
noncomputable def xk12:Hook:=Qbg 8 (w4 [0,1,2,4] [2,1,0,0] 1 0) (wz 2) xk11
theorem xk12_ok:Qaq Pg xk12:=Qal xk11_ok k_ k_ mk_5
noncomputable def xk13:Hook:=Qlc 8 (w4 [0,1,2,4] [2,1,0,0] 1 8) (.tup [mdV 4 waR waN,mdV 4 waR wbN,i6 0]) xk12
theorem xk13_ok:Qaq Pg xk13:=Qdx xk12_ok k_ k_ mk_p
noncomputable def xk14:Hook:=Qbg 9 [mdV 4 waR waN,mdV 4 waR wbN] (.tup [.bool true,i6 0]) xk13
theorem xk14_ok:Qaq Pg xk14:=Qal xk13_ok k_ k_ wal_3
noncomputable def xk15:Hook:=Qbg 9 [mdV 4 wdR wdN,mdV 4 waR waN] (.tup [.bool false,i6 0]) xk14
theorem xk15_ok:Qaq Pg xk15:=Qal xk14_ok k_ k_ wal_4
noncomputable def xk16:Hook:=Qbg 9 [mdV 1 [] wsN,mdV 1 [] wtN] (.tup [.bool true,i6 0]) xk15
theorem xk16_ok:Qaq Pg xk16:=Qal xk15_ok k_ k_ wal_5
noncomputable def xk17:Hook:=Qlc 10 [mdV 4 waR waN,mdV 4 waR wbN,u6 (1:Nat),u6 (8:Nat)] (.tup [.im 4 (ints [0,0,0,0]),i6 0]) xk16
theorem xk17_ok:Qaq Pg xk17:=Qdx xk16_ok k_ k_ wdi_3
noncomputable def xk18:Hook:=Qlc 10 [mdV 4 waR waN,mdV 4 waR wbN,u6 (1:Nat),u6 (4:Nat)] (.tup [.im 4 (ints [0,0,0,0]),i6 0]) xk17
theorem xk18_ok:Qaq Pg xk18:=Qdx xk17_ok k_ k_ wdi_4
noncomputable def xk19:Hook:=Qbg 10 [mdV 4 wdR wdN,mdV 4 waR waN,u6 (1:Nat),u6 (2:Nat)] (.tup [.nils,i6 2]) xk18
theorem xk19_ok:Qaq Pg xk19:=Qal xk18_ok k_ k_ wdi_5
noncomputable def xk20:Hook:=Qbg 10 [mdV 4 wdR wdN,mdV 4 wdR wfN,u6 (1:Nat),u6 (1:Nat)] (.tup [.nils,i6 2]) xk19
theorem xk20_ok:Qaq Pg xk20:=Qal xk19_ok k_ k_ wdi_6
noncomputable def xk21:Hook:=Qbg 10 [mdV 4 wdR wdN,mdV 4 wdR wfN,u6 (4:Nat),u6 (1:Nat)] (.tup [.nils,i6 2]) xk20
theorem xk21_ok:Qaq Pg xk21:=Qal xk20_ok k_ k_ wdi_7
noncomputable def xk22:Hook:=Qbg 10 [mdV 0 [] [],mdV 4 wdR wfN,u6 (4:Nat),u6 (4:Nat)] (.tup [.nils,i6 330]) xk21
theorem xk22_ok:Qaq Pg xk22:=Qal xk21_ok k_ k_ wdi_8
noncomputable def xk23:Hook:=Qbg 11 [ul [0,1],ul [2,1],u6 (1:Nat),u6 (2:Nat),mdV 1 [] wsN,mdV 1 [] wtN] (i6 360) xk22
theorem xk23_ok:Qaq Pg xk23:=Qal xk22_ok k_ k_ wrt_3
noncomputable def xk24:Hook:=Qbg 11 [ul [0,1,2,4],ul [2,1,0,0],u6 (1:Nat),u6 (8:Nat),mdV 4 waR waN,mdV 4 waR wbN] (i6 0) xk23
theorem xk24_ok:Qaq Pg xk24:=Qal xk23_ok k_ k_ wrt_4
noncomputable def xk25:Hook:=Qbg 11 [ul [0,1,2,4],ul [2,1,0,0],u6 (1:Nat),u6 (8:Nat),mdV 4 waR waN,mdV 4 waR waN] (i6 360) xk24
theorem xk25_ok:Qaq Pg xk25:=Qal xk24_ok k_ k_ wrt_5
noncomputable def xk26:Hook:=Qbg 11 [ul [0,1,2,4],ul [0,0,0,0],u6 (1:Nat),u6 (8:Nat),mdV 4 waR waN,mdV 4 waR wbN] (i6 360) xk25
theorem xk26_ok:Qaq Pg xk26:=Qal xk25_ok k_ k_ wrt_6
noncomputable def xk27:Hook:=Qbg 11 [ul [0,1,2,4],ul [2,1,0,0],u6 (1:Nat),u6 (8:Nat),mdV 0 [] [],mdV 4 waR wbN] (i6 360) xk26
theorem xk27_ok:Qaq Pg xk27:=Qal xk26_ok k_ k_ wrt_7
noncomputable def xk28:Hook:=Qbg 11 [ul [1],.im 0 [],u6 (0:Nat),u6 (0:Nat),mdV 4 waR waN,mdV 4 waR wbN] (i6 350) xk27
theorem xk28_ok:Qaq Pg xk28:=Qal xk27_ok k_ k_ wrt_8
noncomputable def xk29:Hook:=Qbg 11 [ul [0,1,2,4],ul [2,1,0,0],u6 (3:Nat),u6 (1:Nat),mdV 4 waR waN,mdV 4 waR wbN] (i6 2) xk28
theorem xk29_ok:Qaq Pg xk29:=Qal xk28_ok k_ k_ wrt_9
noncomputable def vY:Env:=Qq9 Pg xk29 extF
theorem vY_ok:vY.Ok Pg:=Qno plain xk29_ok Qns
abbrev kwS:SL:={sl:=[(0,.bool false),(1,.ptr 0 0),(2,.ptr 1 0),(3,ul [0,1,2,4]),(4,ul [2,1,0,0])],os:=[.row 26 none [i6 4,.im 2 (rtL wdR),.im 2 (mcL wdN)],.row 26 none [i6 4,.im 2 (rtL wdR),.im 2 (mcL wfN)]],md:=[1,1]}
theorem kw_end:endV vE.G [.tmp 0] (exec vY 100000 none (at' 3 [1,1,1,1]) (mkSt g0 259 kwS))=some (.bool true):=by kernel_rfl
theorem known36:FnOk Pg g0 3 [] (.bool true):=by
 obtain⟨fi,hfi,hb,hn,hr⟩: ∃fi,vE.code 3=some fi/\fi.body=at' 3 []/\fi.ntmps=259/\fi.res=[.tmp 0]:=by
  have e1:(vE.code 3).map (·.body)=some (at' 3 []):=by kernel_rfl
  have e2:(vE.code 3).map (·.ntmps)=some 259:=by kernel_rfl
  have e3:(vE.code 3).map (·.res)=some [.tmp 0]:=by kernel_rfl
  cases hfi:vE.code 3 with
  |none=>rw[hfi]at e1;cases e1
  |some fi=>
   rw[hfi]at e1 e2 e3
   exact⟨fi,rfl,Option.some.inj e1,Option.some.inj e2,Option.some.inj e3⟩
 refine FnOk.of_sat hfi (by rw[hn];rfl) rfl ?_
 rw[hb,hn,hr]
 refine preR_gc (E:=vY) vY_ok (n:=100000) (k:=4) (N:=259) (Y:=at' 3 [1,1,1,1]) (r:=[0,1]) (S:=kwS) k_ ?_ ?_
 ·refine Eq.mp (by kernel_rfl : (An [An [g0 = g0, Nat.beq 259 259 = true], An [Sm false, Zz, Zz, An [4 = 4, ut [0, 1, 2, 4] = [u6 0, u6 1, u6 2, u6 4], TT 4], An [4 = 4, ut [2, 1, 0, 0] = [u6 2, u6 1, u6 0, u6 0], TT 4], Tt], An [Sm (4 : Int), An [2 = 2, Sm (rtL wdR)], An [2 = 2, Sm (mcL wdN)], Tt], An [Sm (4 : Int), An [2 = 2, Sm (rtL wdR)], An [2 = 2, Sm (mcL wfN)], Tt], Tt]) = _) ?_
  (repeat'(first|(with_reducible apply And.intro)|(refine fun(_:True)=>?_)))<;>first|exact aq|skip
  all_goals first|rfl|skip
 ·exact Sat.of_end vY_ok kw_end
end Go.Proofs.Ythjjgipcoeiapaa.Am
