/- Texts behind the claim, part 7: the abstract machine, and what the functions answer. No condition. -/
import Derived.Test.YtifdkhfldbkkpaaGreatCG6
set_option linter.unusedVariables false
set_option maxHeartbeats 4000000
set_option maxRecDepth 100000
set_option linter.unusedSimpArgs false
set_option linter.unusedSectionVars false
namespace Go.Proofs.YtifdkhfldbkkpaaGreat.Am
open Go.RowKit
def pU(f:Nat→Nat)(k i:Nat):Nat:=if i<k then f i else 0
theorem pU_step{f:Nat→Nat}{k:Nat}:(fun i=>if i=k then f k else pU f k i)=pU f (k+1):=funext fun i=>by
 unfold pU
 by_cases h:i=k
 ·subst h;rw[if_pos rfl,if_pos (by omega)]
 ·rw [if_neg h]
  by_cases h2:i<k
  ·rw[if_pos h2,if_pos (by omega)]
  ·rw[if_neg h2,if_neg (by omega)]
theorem Qrf{f:Nat→Nat}(n:Nat):uF (pU f 0) n=rep n [u6 0]:=by
 rw[←Qbn n (p:=[])]
 exact Qc2 fun i hi=>by simp[pU,chR]
theorem pU_all{f:Nat→Nat}(n:Nat):uF (pU f n) n=uF f n:=Qc2 fun i hi=>by simp[pU,hi]
def grP(N:List Mc)(i:Nat):Nat:=setI (N.getD i mc0).fr (N.getD i mc0).fr.length
def grZ(N:List Mc)(i:Nat):Nat:=setI (N.getD i mc0).no (N.getD i mc0).no.length
def jnR(N:List Mc)(i:Nat):Nat→Nat
 |0=>0
 |k+1=>if i≠k∧grZ N i&&& grZ N k≠0 then jnR N i k|||2^k else jnR N i k
def grJ(N:List Mc)(i:Nat):Nat:=jnR N i N.length
theorem Qk0{N:List Mc}{i b:Nat}: ∀k,(jnR N i k).testBit b=(decide (b<k)&&decide (i≠b)&&decide (grZ N i&&& grZ N b≠0))
 |0=>by simp[jnR]
 | k + 1 => by
  unfold jnR
  by_cases h:i≠k∧grZ N i&&& grZ N k≠0
  ·rw [if_pos h, Nat.testBit_or, Qk0 k, Nat.testBit_two_pow]
   by_cases hb:k=b
   ·subst hb;simp[h.1,h.2]
   ·simp only [hb, decide_false, Bool.or_false]
    congr 2
    simp only[decide_eq_decide];omega
  ·rw [if_neg h, Qk0 k]
   by_cases hb:b=k
   ·subst hb
    simp only[Nat.lt_irrefl,decide_false,Bool.false_and]
    by_cases h1:i=b
    ·simp[h1]
    ·have : grZ N i &&& grZ N b = 0 := by
      by_cases h2:grZ N i&&& grZ N b=0
      ·exact h2
      ·exact absurd ⟨h1,h2⟩ h
     simp[this]
   ·congr 2
    simp only[decide_eq_decide];omega
theorem Qpa{x b:Nat}(h: ∀k,x.testBit k=true→k<b):x<2^b:=by
 apply Nat.lt_pow_two_of_testBit
 intro i hi
 cases hx:x.testBit i with
 |false=>rfl
 |true=>have:=h i hx;omega
theorem Qjv{N:List Mc}{i:Nat}(k:Nat)(hk:k≤64):jnR N i k<18446744073709551616:=by
 have h1:jnR N i k<2^k:=Qpa fun b hb=>by
  rw[Qk0]at hb
  simp only[Bool.and_eq_true,decide_eq_true_eq]at hb
  exact hb.1.1
 exact Nat.lt_of_lt_of_le h1 (Nat.pow_le_pow_right (n:=2) (by decide) hk)
section
variable (g:Int) (R:List (List Int)) (N:List Mc) (hN:NdOk R N)
theorem NdOk.pl64{R:List (List Int)}{N:List Mc}(hN:NdOk R N){k:Nat}(hk:k<N.length):(∀i,i<(N.getD k mc0).fr.length→0≤(N.getD k mc0).fr.getD i 0∧(N.getD k mc0).fr.getD i 0<64)∧∀i,i<(N.getD k mc0).no.length→0≤(N.getD k mc0).no.getD i 0∧(N.getD k mc0).no.getD i 0<64:=by
 have h1:=(hN.fr k hk).1
 have h2:=(hN.no k hk).1
 have h3:=hN.q
 have h4:=hN.n
 exact⟨fun i hi=>by have:=h1 i hi;omega,fun i hi=>by have:=h2 i hi;omega⟩
theorem grP_lt{R:List (List Int)}{N:List Mc}(hN:NdOk R N){k:Nat}(hk:k<N.length):grP N k<18446744073709551616:=Qb8 (hN.pl64 hk).1 _ (Nat.le_refl _)
theorem grZ_lt{R:List (List Int)}{N:List Mc}(hN:NdOk R N){k:Nat}(hk:k<N.length):grZ N k<18446744073709551616:=Qb8 (hN.pl64 hk).2 _ (Nat.le_refl _)
abbrev g1S(g:Int)(n:Nat)(R:List V)(q:Nat)(NN:List V)(k:Nat)(A B C:List V):SL:={sl:=[(1,.ptr 0 0),(2,.sl 1 0 q (some (q-q))),(3,.sl 2 0 q (some (q-q))),(6,.sl 3 0 q (some (q-q))),(29,.im q NN),(30,i6 (q:Nat)),(31,i6 (k:Nat))],os:=[mdO g n R q NN,.row 29 none A,.row 29 none B,.row 29 none C]}
abbrev g1X(q:Nat)(A B C:List V):SL:={sl:=[(2,.im q A),(3,.sl 0 0 q (some (q-q))),(6,.im q C)],os:=[.row 29 none B]}
include hN
theorem g1_loop:Sat Pg none 0 (at' 65 [1,1,1,1,0,1,0]) (mkSt g0 86 (g1S g R.length (rtL R) N.length (mcL N) 0 (uF (pU (grP N) 0) N.length) (rep N.length [u6 0]) (uF (pU (grZ N) 0) N.length))) (Qae g0 86 [(True,.exit 0,g1X N.length (uF (grP N) N.length) (rep N.length [u6 0]) (uF (grZ N) N.length))]):=by
 have hRR:=Qar R
 have hNN:=Qav N
 have hq:=hN.q
 refine Qaw vE_ok Qaf Qab (b:=at' 65 [1,1,1,1,0,1,0,0]) (by kernel_rfl) (fun k=>k≤N.length) (fun k=>g1S g R.length (rtL R) N.length (mcL N) k (uF (pU (grP N) k) N.length) (rep N.length [u6 0]) (uF (pU (grZ N) k) N.length)) (fun k=>N.length-k) (fun k hk=>?_) 0 (Nat.zero_le _)
 by_cases hlt:k<N.length
 ·have hld := Qdp hlt
  obtain⟨p1,p2⟩:=hN.pl64 hlt
  have f1:=Qiz (N.getD k mc0).fr (by have:=(hN.fr k hlt).2;omega) p1
  have f2:=Qiz (N.getD k mc0).no (by have:=(hN.no k hlt).2;omega) p2
  have l1:=Qfh (f:=pU (grP N) k) hlt (grP N k)
  have l2:=Qfh (f:=pU (grZ N) k) hlt (grZ N k)
  rw[pU_step]at l1 l2
  rw[show setI (N.getD k mc0).fr (N.getD k mc0).fr.length=grP N k from rfl]at f1
  rw[show setI (N.getD k mc0).no (N.getD k mc0).no.length=grZ N k from rfl]at f2
  have y1:=Qax (pU (grP N) k) N.length
  have y2:=Qax (pU (grP N) (k+1)) N.length
  have y3:=Qax (pU (grZ N) k) N.length
  have y4:=Qax (pU (grZ N) (k+1)) N.length
  have z1:=Qak (pU (grP N) k) N.length
  have z2:=Qak (pU (grP N) (k+1)) N.length
  have z3:=Qak (pU (grZ N) k) N.length
  have z4:=Qak (pU (grZ N) (k+1)) N.length
  refine .inl ⟨k+1,[0,1,2,3],[yes 32,pl 34,ld 35 (.agg (mcC (N.getD k mc0))),fn 40 (u6 (grP N k:Nat)),pl 41,st (uF (pU (grP N) (k+1)) N.length),fn 46 (u6 (grZ N k:Nat)),pl 47,st (uF (pU (grZ N) (k+1)) N.length),nu 48 ((k+1:Nat):Int)],1000,hlt,by omega,?_⟩
  clear hN
  generalize uF (pU (grP N) (k+1)) N.length=A2 at*
  generalize uF (pU (grP N) k) N.length=A at*
  generalize uF (pU (grZ N) (k+1)) N.length=C2 at*
  generalize uF (pU (grZ N) k) N.length=C at*
  have z5:HfL (rep N.length [u6 0]):=by rw[←Qbn N.length (p:=[])];exact Qak _ _
  have y5:(rep N.length [u6 0]).length=N.length:=by rw[←Qbn N.length (p:=[]),Qax]
  generalize rep N.length [u6 0]=B at*
  generalize grP N k=a at*
  generalize grZ N k=c at*
  generalize hxe:N.getD k mc0=x at*
  obtain⟨cd,fr,nz,ou⟩:=x
  dsimp only at*
  have i1:=Qad fr
  have i2:=Qad nz
  have i3:=Qad ou
  generalize rtL R=RR at*
  generalize mcL N=NN at*
  generalize N.length=n at*
  exact m_ (p:=let z0:=(↑k:Int);let z1:=(↑n:Int);let z2:=[i6 g,V.im R.length RR,V.im n NN];let z3:=(↑(k+1):Int);An [decide (z0<z1)=true,An [(0:Int)≤z0,z0<z1],_,An [Tt,Tt],_,Tt,An [(0:Int)≤z0,z0<z1],_,An [Tt,Tt],_,Tt,An [(0:Int)≤z0,z0<z1],_,wr .i64 (z0+(1:Int))=z3,An [Zz,An [Zz,n=n,Sm (n-n)],An [Zz,n=n,Sm (n-n)],An [Zz,n=n,Sm (n-n)],An [n=n,NN=NN],z1=z1,z3=z3,Tt],An [z2=z2,TT 3],An [A2=A2,_],An [B=B,_],An [C2=C2,_],Tt]) ⟨aq,a_,hld,a_,f1,aq,a_,l1,a_,f2,aq,a_,l2,aq,a_,a_,⟨aq,z2⟩,⟨aq,z5⟩,⟨aq,z4⟩,aq⟩
 ·have hk2 : k = N.length := by omega
  subst hk2
  have y1:=Qax (grP N) N.length
  have y3:=Qax (grZ N) N.length
  have z1:=Qak (grP N) N.length
  have z3:=Qak (grZ N) N.length
  have z5:HfL (rep N.length [u6 0]):=by rw[←Qbn N.length (p:=[])];exact Qak _ _
  have y5:(rep N.length [u6 0]).length=N.length:=by rw[←Qbn N.length (p:=[]),Qax]
  refine .inr ⟨.exit 0,[2],_,[no 32],1000,.inl ⟨trivial,rfl,rfl⟩,?_⟩
  rw[pU_all,pU_all]
  generalize uF (grP N) N.length=A at*
  generalize uF (grZ N) N.length=C at*
  generalize rep N.length [u6 0]=B at*
  clear hN
  generalize rtL R=RR at*
  generalize mcL N=NN at*
  generalize N.length=n at*
  exact m_ (p:=An [decide ((↑n:Int)<(↑n:Int))=false,An [An [n=n,A=A,_],An [Zz,n=n,Sm (n-n)],An [n=n,C=C,_],Tt],An [B=B,_],Tt]) ⟨aq,⟨⟨aq,aq,z1⟩,a_,⟨aq,aq,z3⟩,aq⟩,⟨aq,z5⟩,aq⟩
end
def Sm64(L:List Int):Prop:=∀k,k<L.length→0≤L.getD k 0∧L.getD k 0<64
theorem Qkg{L:List Int}{k x:Nat}(h:L.getD k 0=(x:Int)):setI L (k+1)=setI L k|||2^x:=by
 show setI L k|||2^(L.getD k 0).toNat=_
 rw[h];rfl
section
variable (g:Int) (nR:Nat) (RR:List V) (hRR:HfL RR) (nN:Nat) (NN:List V) (hNN:HfL NN)
include hRR hNN
abbrev nsS(g:Int)(nR:Nat)(RR:List V)(nN:Nat)(NN:List V)(v s m:Nat):SL:={sl:=[(1,i6 (v:Nat)),(2,.ptr 0 0),(5,u6 (s:Nat)),(6,i6 (m:Nat))],os:=[cuO g nR RR nN NN]}
theorem Qn5(v:Nat)(L:List Int)(hv:v<nN)(hL:L.length≤1000000)(h64:Sm64 L)(hd:headF (List.drop 2 (NN.drop (v*4)))=some (sl L)):
  Sat Pg none 0 (at' 60 [1,1,0,1,0]) (mkSt g0 32 (nsS g nR RR nN NN v 0 0)) (Qae g0 32 [(True,.exit 0,{sl:=[(5,u6 (setI L L.length:Nat))]})]):=by
 have hLf:=Qad L
 refine Qaw vE_ok Qaf Qab (b:=at' 60 [1,1,0,1,0,0]) (by kernel_rfl) (fun q=>q.1≤L.length∧q.2=setI L q.1) (fun q=>nsS g nR RR nN NN v q.2 q.1) (fun q=>L.length-q.1) (fun q hq=>?_) (0,0) ⟨Nat.zero_le _,rfl⟩
 obtain⟨m,s⟩:=q
 obtain⟨hm,hs⟩:=hq
 dsimp only at hm hs
 by_cases hlt:m<L.length
 ·have hld := Qao (l := L) hlt
  have hx0:=h64 m hlt
  have hs64:=Qb8 h64 m (by omega)
  obtain⟨x,hx⟩: ∃x:Nat,L.getD m 0=(x:Int):=⟨(L.getD m 0).toNat,by omega⟩
  have e:=Qkg hx
  rw[hx]at hld hx0
  rw[←hs]at hs64 e
  have w1:=wrk (k:=x) (by omega)
  obtain⟨s1,s2⟩:=Qd2 (G:=Qac Pg) (t:=29) (k:=x) (by omega)
  have s3:=(or_u (G:=Qac Pg) (t:=29) hs64 s2).1
  rw[←e]at s3
  refine .inl ⟨(m+1,setI L (m+1)),[0],[pl 11,ld 13 (sl L),yes 15,pl 22,ld 24 (sl L),pl 26,ld 27 (i6 (x:Nat)),nu 28 (x:Nat),va 29 (u6 (2^x:Nat)),va 30 (u6 (setI L (m+1):Nat)),nu 17 ((m+1:Nat):Int)],1000,⟨hlt,rfl⟩,by dsimp only;omega,?_⟩
  dsimp only
  clear hs hs64 e hx
  generalize setI L (m+1)=s' at*
  generalize 2^x=z at*
  exact m_ (p:=let z0:=(↑v:Int);let z2:=(↑(m+1):Int);let z3:=(↑m:Int);let z4:=[i6 g,V.im nR RR,V.im nN NN];An [An [(0:Int)≤z0,z0<(↑nN:Int)],_,decide (z3<(↑L.length:Int))=true,An [(0:Int)≤z0,z0<(↑nN:Int)],_,An [(0:Int)≤z3,z3<(↑L.length:Int)],_,_,_,_,wr .i64 (z3+(1:Int))=z2,An [z0=z0,Zz,Sm (↑s':Int),z2=z2,Tt],An [z4=z4,TT 3],Tt]) ⟨a_,hd,aq,a_,hd,a_,hld,w1,s1,s3,a_⟩
 ·obtain rfl : m = L.length := by omega
  rw[←hs]
  refine .inr ⟨.exit 0,[],{sl:=[(5,u6 (s:Nat))]},[pl 11,ld 13 (sl L),no 15],1000,.inl ⟨trivial,rfl,rfl⟩,?_⟩
  dsimp only
  clear hs
  exact m_ (p:=An [An [(0:Int)≤(↑v:Int),(↑v:Int)<(↑nN:Int)],_,decide ((↑L.length:Int)<(↑L.length:Int))=false,An [Sm (↑s:Int),Tt],Tt]) ⟨a_,hd,a_⟩
theorem noise_fn(v:Nat)(L:List Int)(hv:v<nN)(hL:L.length≤1000000)(h64:Sm64 L)(hd:headF (List.drop 2 (NN.drop (v*4)))=some (sl L)):FnOk Pg g0 60 [.agg [i6 g,.im nR RR,.im nN NN],i6 (v:Nat)] (u6 (setI L L.length:Nat)):=by
 have h:=Qn5 g nR RR hRR nN NN hNN v L hv hL h64 hd
 generalize setI L L.length=s at*
 clear hd
 refine FnOk.of_vc vE_ok Qaf Qab (n:=1000) (r:=[]) (S:={sl:=[(4,u6 (s:Nat))]}) (hs:=[(0,.loop [0] (nsS g nR RR nN NN v 0 0) [(True,.exit 0,{sl:=[(5,u6 (s:Nat))]})])]) ?_
 exact m_ (p:=An [Sm (u6 ↑s),An [An [Sm (↑v:Int),Zz,(↑(0:Nat):Int)=(0:Int),(↑(0:Nat):Int)=(0:Int),Tt],An [Sm [i6 g,V.im nR RR,V.im nN NN],TT 3],Tt],_,(True->An [An [Sm (↑s:Int),Tt],Tt]),Tt]) ⟨aq,a_,h,a_⟩
abbrev paO(g:Int)(nR:Nat)(RR:List V)(nN:Nat)(NN:List V)(k:Nat)(A:List V):SL:={sl:=[(1,.ptr 0 0),(3,owV 1 k),(4,i6 (k:Nat))],os:=cuO g nR RR nN NN::owL 29 1 A k}
abbrev paI(g:Int)(nR:Nat)(RR:List V)(nN:Nat)(NN:List V)(k:Nat)(A:List V)(s m:Nat):SL:={sl:=[(1,.ptr 0 0),(3,owV 1 k),(4,i6 (k:Nat)),(5,u6 (s:Nat)),(6,i6 (m:Nat))],os:=cuO g nR RR nN NN::owL 29 1 A k}
abbrev paE(g:Int)(nR:Nat)(RR:List V)(nN:Nat)(NN:List V)(k:Nat)(A:List V)(s:Nat):SL:={sl:=[(1,.ptr 0 0),(3,owV 1 k),(4,i6 (k:Nat)),(5,u6 (s:Nat))],os:=cuO g nR RR nN NN::owL 29 1 A k}
theorem pars_in(k:Nat)(A:List V)(hA:HfL A)(hAl:A.length=k)(L:List Int)(hv:k<nN)(hL:L.length≤1000000)(h64:Sm64 L)(hd:headF (List.drop 1 (NN.drop (k*4)))=some (sl L)):
  Sat Pg none 0 (at' 17 [1,1,0,1,0,0,1,0,0,1,0,1,0]) (mkSt g0 43 (paI g nR RR nN NN k A 0 0)) (Qae g0 43 [(True,.exit 2,paE g nR RR nN NN k A (setI L L.length))]):=by
 have hLf:=Qad L
 refine Qaw vE_ok Qaf Qab (b:=at' 17 [1,1,0,1,0,0,1,0,0,1,0,1,0,0]) (by kernel_rfl) (fun q=>q.1≤L.length∧q.2=setI L q.1) (fun q=>paI g nR RR nN NN k A q.2 q.1) (fun q=>L.length-q.1) (fun q hq=>?_) (0,0) ⟨Nat.zero_le _,rfl⟩
 obtain⟨m,s⟩:=q
 obtain⟨hm,hs⟩:=hq
 dsimp only at hm hs
 by_cases hlt:m<L.length
 ·have hld := Qao (l := L) hlt
  have hx0:=h64 m hlt
  have hs64:=Qb8 h64 m (by omega)
  obtain⟨x,hx⟩: ∃x:Nat,L.getD m 0=(x:Int):=⟨(L.getD m 0).toNat,by omega⟩
  have e:=Qkg hx
  rw[hx]at hld hx0
  rw[←hs]at hs64 e
  have w1:=wrk (k:=x) (by omega)
  obtain⟨s1,s2⟩:=Qd2 (G:=Qac Pg) (t:=29) (k:=x) (by omega)
  have s3:=(or_u (G:=Qac Pg) (t:=29) hs64 s2).1
  rw[←e]at s3
  have hm':L.length-(m+1)<L.length-m:=by omega
  cases k with
  |zero=>
   refine .inl ⟨(m+1,setI L (m+1)),[0],[pl 18,ld 20 (sl L),yes 22,pl 29,ld 31 (sl L),pl 33,ld 34 (i6 (x:Nat)),nu 35 (x:Nat),va 36 (u6 (2^x:Nat)),va 37 (u6 (setI L (m+1):Nat)),nu 24 ((m+1:Nat):Int)],1000,⟨hlt,rfl⟩,hm',?_⟩
   dsimp only
   clear hs hs64 e hx
   generalize setI L (m+1)=s' at*
   generalize 2^x=z at*
   exact m_ (p:=let z0:=(↑(0:Nat):Int);let z2:=(↑(m+1):Int);let z3:=(↑m:Int);let z4:=[i6 g,V.im nR RR,V.im nN NN];An [An [(0:Int)≤z0,z0<(↑nN:Int)],_,decide (z3<(↑L.length:Int))=true,An [(0:Int)≤z0,z0<(↑nN:Int)],_,An [(0:Int)≤z3,z3<(↑L.length:Int)],_,_,_,_,wr .i64 (z3+(1:Int))=z2,An [Zz,Tt,z0=z0,Sm (↑s':Int),z2=z2,Tt],An [z4=z4,TT 3],Tt]) ⟨a_,hd,aq,a_,hd,a_,hld,w1,s1,s3,a_⟩
  |succ k=>
   refine .inl ⟨(m+1,setI L (m+1)),[0,1],[pl 18,ld 20 (sl L),yes 22,pl 29,ld 31 (sl L),pl 33,ld 34 (i6 (x:Nat)),nu 35 (x:Nat),va 36 (u6 (2^x:Nat)),va 37 (u6 (setI L (m+1):Nat)),nu 24 ((m+1:Nat):Int)],1000,⟨hlt,rfl⟩,hm',?_⟩
   dsimp only
   clear hs hs64 e hx
   generalize setI L (m+1)=s' at*
   generalize 2^x=z at*
   exact m_ (p:=let z0:=(↑(k+1):Int);let z2:=(↑(m+1):Int);let z3:=(↑m:Int);let z4:=[i6 g,V.im nR RR,V.im nN NN];An [An [(0:Int)≤z0,z0<(↑nN:Int)],_,decide (z3<(↑L.length:Int))=true,An [(0:Int)≤z0,z0<(↑nN:Int)],_,An [(0:Int)≤z3,z3<(↑L.length:Int)],_,_,_,_,wr .i64 (z3+(1:Int))=z2,An [Zz,An [Zz,Sm (k+1),Tt],z0=z0,Sm (↑s':Int),z2=z2,Tt],An [z4=z4,TT 3],An [A=A,_],Tt]) ⟨a_,hd,aq,a_,hd,a_,hld,w1,s1,s3,aq,a_,a_,⟨aq,hA⟩,aq⟩
 ·obtain rfl : m = L.length := by omega
  rw[←hs]
  cases k with
  |zero=>
   refine .inr ⟨.exit 2,[0],paE g nR RR nN NN 0 A s,[pl 18,ld 20 (sl L),no 22],1000,.inl ⟨trivial,rfl,rfl⟩,?_⟩
   dsimp only
   clear hs
   exact m_ (p:=let z0:=(↑(0:Nat):Int);let z1:=[i6 g,V.im nR RR,V.im nN NN];An [An [(0:Int)≤z0,z0<(↑nN:Int)],_,decide ((↑L.length:Int)<(↑L.length:Int))=false,An [Zz,Tt,z0=z0,Sm (↑s:Int),Tt],An [z1=z1,TT 3],Tt]) ⟨a_,hd,a_⟩
  |succ k=>
   refine .inr ⟨.exit 2,[0,1],paE g nR RR nN NN (k+1) A s,[pl 18,ld 20 (sl L),no 22],1000,.inl ⟨trivial,rfl,rfl⟩,?_⟩
   dsimp only
   clear hs
   exact m_ (p:=let z0:=(↑(k+1):Int);An [An [(0:Int)≤z0,z0<(↑nN:Int)],_,decide ((↑L.length:Int)<(↑L.length:Int))=false,An [Zz,An [Zz,Sm (k+1),Tt],Sm z0,Sm (↑s:Int),Tt],An [Sm [i6 g,V.im nR RR,V.im nN NN],TT 3],An [A=A,_],Tt]) ⟨a_,hd,aq,a_,a_,⟨aq,hA⟩,aq⟩
omit hRR hNN in
theorem uF_succ(f:Nat→Nat)(k:Nat):uF f (k+1)=uF f k++[u6 (f k:Nat)]:=by
 unfold uF;rw[List.range_succ,List.map_append];rfl
theorem Qrj(fr:Nat→List Int)(hn:nN≤1000000)(hL: ∀k,k<nN→(fr k).length≤1000000∧Sm64 (fr k)∧headF (List.drop 1 (NN.drop (k*4)))=some (sl (fr k))):
  Sat Pg none 0 (at' 17 [1,1,0,1,0]) (mkSt g0 43 (paO g nR RR nN NN 0 [])) (Qae g0 43 [(True,.exit 0,{sl:=[(3,.im nN (uF (fun k=>setI (fr k) (fr k).length) nN))]})]):=by
 refine Qaw vE_ok Qaf Qab (b:=at' 17 [1,1,0,1,0,0]) (by kernel_rfl) (fun q=>q.1≤nN∧q.2=uF (fun k=>setI (fr k) (fr k).length) q.1) (fun q=>paO g nR RR nN NN q.1 q.2) (fun q=>nN-q.1) (fun q hq=>?_) (0,[]) ⟨Nat.zero_le _,rfl⟩
 obtain⟨k,A⟩:=q
 obtain⟨hk,hA⟩:=hq
 dsimp only at hk hA
 have hAl:A.length=k:=by rw[hA];exact Qax _ _
 have hAf:HfL A:=by rw[hA];exact Qak _ _
 by_cases hlt:k<nN
 ·obtain ⟨h1, h2, h3⟩ := hL k hlt
  have hin:=pars_in g nR RR hRR nN NN hNN k A hAf hAl (fr k) hlt h1 h2 h3
  have e:=uF_succ (fun k=>setI (fr k) (fr k).length) k
  rw[←hA]at e
  have hm':nN-(k+1)<nN-k:=by omega
  generalize setI (fr k) (fr k).length=s at*
  clear hL hA
  generalize hB:uF (fun k=>setI (fr k) (fr k).length) (k+1)=B at*
  subst e
  cases k with
  |zero=>
   obtain rfl:A=[]:=List.eq_nil_of_length_eq_zero hAl
   refine .inl ⟨(1,[u6 (s:Nat)]),[0,2],[yes 11,(0,.loop [0] (paI g nR RR nN NN 0 [] 0 0) [(True,.exit 2,paE g nR RR nN NN 0 [] s)]),nu 13 (1:Nat)],1000,⟨hlt,hB.symm⟩,hm',?_⟩
   clear hB
   dsimp only
   exact m_ (p:=let z0:=(↑(0:Nat):Int);let z1:=[i6 g,V.im nR RR,V.im nN NN];let z2:=(↑(1:Nat):Int);An [decide (z0<(↑nN:Int))=true,An [An [Zz,Tt,z0=z0,z0=(0:Int),z0=(0:Int),Tt],An [z1=z1,TT 3],Tt],_,(True->An [wr .i64 (z0+(1:Int))=z2,An [Zz,An [Zz,1=1,Tt],z2=z2,Tt],An [z1=z1,TT 3],An [Sm [u6 ↑s],Tt,Tt],Tt]),Tt]) ⟨aq,a_,hin,a_⟩
  |succ k=>
   refine .inl ⟨(k+2,A++[u6 (s:Nat)]),[0,3],[yes 11,(0,.loop [0,1] (paI g nR RR nN NN (k+1) A 0 0) [(True,.exit 2,paE g nR RR nN NN (k+1) A s)]),ap 41,nu 13 (k+2:Nat)],1000,⟨hlt,hB.symm⟩,hm',?_⟩
   clear hB
   dsimp only
   exact m_ (p:=let z0:=[i6 g,V.im nR RR,V.im nN NN];let z1:=(↑(k+1):Int);let z2:=(↑(k+2):Int);An [decide (z1<(↑nN:Int))=true,An [An [Zz,An [Zz,Sm (k+1),Tt],z1=z1,(↑(0:Nat):Int)=(0:Int),(↑(0:Nat):Int)=(0:Int),Tt],An [z0=z0,TT 3],An [A=A,_],Tt],_,(True->An [A.length=(k+1)*1,k+1+1≤9223372036854775807,(k+1+1)*8≤140737488355328,wr .i64 (z1+(1:Int))=z2,An [Zz,An [Zz,Nat.succ k+1=k+1+1,Tt],z2=z2,Tt],An [z0=z0,TT 3],An [Sm (A++[u6 ↑s]),HfL (A++[u6 ↑s])],Tt]),Tt]) ⟨aq,⟨a_,a_,⟨aq,hAf⟩,aq⟩,hin,(fun _=>⟨aq,aq,aq,aq,a_,a_,⟨aq,Qe0 hAf ⟨trivial,trivial⟩⟩,aq⟩),aq⟩
 ·obtain rfl : k = nN := by omega
  clear hL
  rw[←hA]
  clear hA
  cases k with
  |zero=>
   obtain rfl:A=[]:=List.eq_nil_of_length_eq_zero hAl
   refine .inr ⟨.exit 0,[],{sl:=[(3,.im 0 noL)]},[no 11],1000,.inl ⟨trivial,rfl,rfl⟩,?_⟩
   dsimp only
   refine Eq.mp (by kernel_rfl:(An [decide ((↑(0:Nat):Int)<(↑(0:Nat):Int))=false,An [Zz,Tt],Tt])=_) ?_
   (repeat'(first|(with_reducible apply And.intro)|(refine fun(_:True)=>?_)))<;>first|exact aq|skip
   all_goals first|rfl|skip
  |succ k=>
   refine .inr ⟨.exit 0,[],{sl:=[(3,.im (k+1) A)]},[no 11],1000,.inl ⟨trivial,rfl,rfl⟩,?_⟩
   dsimp only
   exact m_ (p:=An [decide ((↑(k+1):Int)<(↑(k+1):Int))=false,An [An [Sm (k+1),A=A,_],Tt],Tt]) ⟨aq,⟨⟨aq,aq,hAf⟩,aq⟩,aq⟩
theorem pars_fn(fr:Nat→List Int)(hn:nN≤1000000)(hL: ∀k,k<nN→(fr k).length≤1000000∧Sm64 (fr k)∧headF (List.drop 1 (NN.drop (k*4)))=some (sl (fr k))):FnOk Pg g0 17 [.agg [i6 g,.im nR RR,.im nN NN]] (.im nN (uF (fun k=>setI (fr k) (fr k).length) nN)):=by
 have h:=Qrj g nR RR hRR nN NN hNN fr hn hL
 have hAf:=Qak (fun k=>setI (fr k) (fr k).length) nN
 clear hL
 generalize uF (fun k=>setI (fr k) (fr k).length) nN=A at*
 refine FnOk.of_vc vE_ok Qaf Qab (n:=1000) (r:=[]) (S:={sl:=[(2,.im nN A)]}) (hs:=[(0,.loop [0] (paO g nR RR nN NN 0 []) [(True,.exit 0,{sl:=[(3,.im nN A)]})])]) ?_
 exact m_ (p:=An [Sm (V.im nN A),An [An [Zz,Tt,(↑(0:Nat):Int)=(0:Int),Tt],An [Sm [i6 g,V.im nR RR,V.im nN NN],TT 3],Tt],_,(True->An [An [An [nN=nN,A=A],Tt],Tt]),Tt]) ⟨aq,a_,h,a_⟩
end
def bF(N:List Mc)(i k x:Nat):Nat:=if x<i then grJ N x else if x=i then jnR N i k else 0
theorem Qo5{N:List Mc}{i:Nat}:bF N i N.length=bF N (i+1) 0:=funext fun x=>by
 unfold bF
 by_cases h:x<i
 ·grind
 ·rw [if_neg h]
  by_cases h2:x=i
  ·subst h2;rw[if_pos rfl,if_pos (by omega)];rfl
  ·rw [if_neg h2, if_neg (by omega)]
   split<;>rfl
theorem Qo6{N:List Mc}{i k:Nat}(h:i≠k∧grZ N i&&& grZ N k≠0):(fun x=>if x=i then jnR N i k|||2^k else bF N i k x)=bF N i (k+1):=funext fun x=>by
 grind[jnR,bF]
theorem Qie{N:List Mc}{i k:Nat}(h: ¬(i≠k∧grZ N i&&& grZ N k≠0)):bF N i k=bF N i (k+1):=by
 grind[jnR,bF]
theorem bF_at{N:List Mc}{i k:Nat}:bF N i k i=jnR N i k:=by
 grind[bF]
section
variable (q:Nat) (A Z:List V)
abbrev g2S(i:Nat)(B:List V):SL:={sl:=[(2,.im q A),(3,.sl 0 0 q (some (q-q))),(6,.im q Z),(50,i6 (q:Nat)),(51,i6 (i:Nat))],os:=[.row 29 none B]}
abbrev g3S(i k:Nat)(B:List V):SL:={sl:=[(2,.im q A),(3,.sl 0 0 q (some (q-q))),(6,.im q Z),(50,i6 (q:Nat)),(51,i6 (i:Nat)),(9,i6 (i:Nat)),(55,i6 (q:Nat)),(56,i6 (k:Nat))],os:=[.row 29 none B]}
abbrev g2X(B:List V):SL:={sl:=[(2,.im q A),(3,.im q B)],os:=[]}
end
section
variable {R:List (List Int)} {N:List Mc} (hN:NdOk R N) (A:List V) (hA:HfL A) (hAl:A.length=N.length)
include hN hA hAl
theorem g3_loop(i:Nat)(hi:i<N.length):Sat Pg none 0 (at' 65 [1,1,1,1,1,0,1,0,0,1,1,0,0,1,1,0]) (mkSt g0 86 (g3S N.length A (uF (grZ N) N.length) i 0 (uF (bF N i 0) N.length))) (Qae g0 86 [(True,.exit 4,g2S N.length A (uF (grZ N) N.length) i (uF (bF N i N.length) N.length))]):=by
 have hq:=hN.q
 refine Qaw vE_ok Qaf Qab (b:=at' 65 [1,1,1,1,1,0,1,0,0,1,1,0,0,1,1,0,0]) (by kernel_rfl) (fun k=>k≤N.length) (fun k=>g3S N.length A (uF (grZ N) N.length) i k (uF (bF N i k) N.length)) (fun k=>N.length-k) (fun k hk=>?_) 0 (Nat.zero_le _)
 have y3:=Qax (grZ N) N.length
 have z3:=Qak (grZ N) N.length
 have y1:=Qax (bF N i k) N.length
 have z1:=Qak (bF N i k) N.length
 by_cases hlt:k<N.length
 ·have y2 := Qax (bF N i (k + 1)) N.length
  have z2:=Qak (bF N i (k+1)) N.length
  have h1:=Qbv (f:=grZ N) hi
  have h2:=Qbv (f:=grZ N) hlt
  rw[Nat.zero_add,Qa2]at h1 h2
  have h3:=Qbv (f:=bF N i k) hi
  rw[bF_at]at h3
  have a1:=Qje (G:=Qac Pg) (t:=29) (grZ_lt hN hi) (grZ_lt hN hlt)
  obtain⟨a2,a3⟩:=Qew (G:=Qac Pg) (t:=29) (k:=k) (by omega)
  have a4:=(or_u (G:=Qac Pg) (t:=29) (Qjv (N:=N) (i:=i) k (by omega)) a3).1
  have l1:=Qfh (f:=bF N i k) hi (jnR N i k|||2^k)
  by_cases hik:i=k
  ·have es := Qie (N := N) (i := i) (k := k) (fun h => h.1 hik)
   refine .inl ⟨k+1,[0],[yes 57,no 61,nu 82 ((k+1:Nat):Int)],1000,hlt,by omega,?_⟩
   rw[←es]
   clear l1 a1 a2 a3 a4 h1 h2 h3 es y2 z2
   generalize uF (grZ N) N.length=Z at*
   generalize uF (bF N i k) N.length=B at*
   clear hN
   generalize N.length=n at*
   exact m_ (p:=let z0:=(↑n:Int);let z1:=(↑i:Int);let z2:=(↑(k+1):Int);let z3:=(↑k:Int);An [decide (z3<z0)=true,(z1 != z3)=false,wr .i64 (z3+(1:Int))=z2,An [An [n=n,A=A],An [Zz,n=n,Sm (n-n)],An [n=n,Z=Z],z0=z0,z1=z1,z1=z1,z0=z0,z2=z2,Tt],An [B=B,_],Tt]) ⟨aq,aq,aq,a_,⟨aq,z1⟩,aq⟩
  ·by_cases hz : grZ N i &&& grZ N k = 0
   ·have es := Qie (N := N) (i := i) (k := k) (fun h => h.2 hz)
    refine .inl ⟨k+1,[0],[yes 57,yes 61,pl 65,ld 66 (u6 (grZ N i:Nat)),pl 69,ld 70 (u6 (grZ N k:Nat)),va 71 (u6 (grZ N i&&& grZ N k:Nat)),no 72,nu 82 ((k+1:Nat):Int)],1000,hlt,by omega,?_⟩
    rw[←es]
    clear l1 a2 a3 a4 h3 es y2 z2
    generalize grZ N i&&& grZ N k=w at*
    generalize grZ N i=u at*
    generalize grZ N k=v at*
    generalize uF (grZ N) N.length=Z at*
    generalize uF (bF N i k) N.length=B at*
    clear hN
    generalize N.length=n at*
    exact m_ (p:=let z0:=(↑n:Int);let z1:=(↑i:Int);let z2:=(↑k:Int);let z3:=(↑(k+1):Int);An [decide (z2<z0)=true,(z1 != z2)=true,An [(0:Int)≤z1,z1<z0],_,An [(0:Int)≤z2,z2<z0],_,_,((↑w:Int) != (0:Int))=false,wr .i64 (z2+(1:Int))=z3,An [An [n=n,A=A],An [Zz,n=n,Sm (n-n)],An [n=n,Z=Z],z0=z0,z1=z1,z1=z1,z0=z0,z3=z3,Tt],An [B=B,_],Tt]) ⟨aq,aq,a_,h1,a_,h2,a1,aq,aq,a_,⟨aq,z1⟩,aq⟩
   ·have es := Qo6 (N := N) (i := i) (k := k) ⟨hik, hz⟩
    rw[es]at l1
    refine .inl ⟨k+1,[0],[yes 57,yes 61,pl 65,ld 66 (u6 (grZ N i:Nat)),pl 69,ld 70 (u6 (grZ N k:Nat)),va 71 (u6 (grZ N i&&& grZ N k:Nat)),yes 72,pl 76,ld 77 (u6 (jnR N i k:Nat)),va 79 (u6 (2^k:Nat)),va 80 (u6 (jnR N i k|||2^k:Nat)),pl 81,st (uF (bF N i (k+1)) N.length),nu 82 ((k+1:Nat):Int)],1000,hlt,by omega,?_⟩
    clear es
    generalize jnR N i k|||2^k=w2 at*
    generalize jnR N i k=w1 at*
    generalize 2^k=w3 at*
    generalize grZ N i&&& grZ N k=w at*
    generalize grZ N i=u at*
    generalize grZ N k=v at*
    generalize uF (grZ N) N.length=Z at*
    generalize uF (bF N i k) N.length=B at*
    generalize uF (bF N i (k+1)) N.length=B2 at*
    clear hN
    generalize N.length=n at*
    exact m_ (p:=let z0:=(↑i:Int);let z1:=(↑n:Int);let z2:=(↑k:Int);let z4:=(↑(k+1):Int);let z5:=(0:Int);An [decide (z2<z1)=true,(z0 != z2)=true,An [z5≤z0,z0<z1],_,An [z5≤z2,z2<z1],_,_,((↑w:Int) != z5)=true,An [z5≤z0,z0<z1],_,_,_,An [z5≤z0,z0<z1],_,wr .i64 (z2+(1:Int))=z4,An [An [n=n,A=A],An [Zz,n=n,Sm (n-n)],An [n=n,Z=Z],z1=z1,z0=z0,z0=z0,z1=z1,z4=z4,Tt],An [B2=B2,_],Tt]) ⟨aq,aq,a_,h1,a_,h2,a1,aq,a_,h3,a2,a4,a_,l1,aq,a_,⟨aq,z2⟩,aq⟩
 ·have hk2 : k = N.length := by omega
  subst hk2
  refine .inr ⟨.exit 4,[0],_,[no 57],1000,.inl ⟨trivial,rfl,rfl⟩,?_⟩
  generalize uF (grZ N) N.length=Z at*
  generalize uF (bF N i N.length) N.length=B at*
  clear hN
  generalize N.length=n at*
  exact m_ (p:=let z0:=(↑n:Int);An [decide (z0<z0)=false,An [An [n=n,A=A],An [Zz,n=n,Sm (n-n)],An [n=n,Z=Z],z0=z0,Sm (↑i:Int),Tt],An [B=B,_],Tt]) ⟨aq,a_,⟨aq,z1⟩,aq⟩
theorem g2_loop:Sat Pg none 0 (at' 65 [1,1,1,1,1,0,1,0]) (mkSt g0 86 (g2S N.length A (uF (grZ N) N.length) 0 (uF (bF N 0 0) N.length))) (Qae g0 86 [(True,.exit 2,g2X N.length A (uF (grJ N) N.length))]):=by
 have hq:=hN.q
 refine Qaw vE_ok Qaf Qab (b:=at' 65 [1,1,1,1,1,0,1,0,0]) (by kernel_rfl) (fun k=>k≤N.length) (fun k=>g2S N.length A (uF (grZ N) N.length) k (uF (bF N k 0) N.length)) (fun k=>N.length-k) (fun k hk=>?_) 0 (Nat.zero_le _)
 have y3:=Qax (grZ N) N.length
 have z3:=Qak (grZ N) N.length
 have y1:=Qax (bF N k 0) N.length
 have z1:=Qak (bF N k 0) N.length
 by_cases hlt:k<N.length
 ·have y2 := Qax (bF N k N.length) N.length
  have z2:=Qak (bF N k N.length) N.length
  have hin:=g3_loop hN A hA hAl k hlt
  refine .inl ⟨k+1,[0],[yes 52,(0,.loop [0] (g3S N.length A (uF (grZ N) N.length) k 0 (uF (bF N k 0) N.length)) [(True,.exit 4,g2S N.length A (uF (grZ N) N.length) k (uF (bF N k N.length) N.length))]),nu 83 ((k+1:Nat):Int)],1000,hlt,by omega,?_⟩
  rw[←Qo5]
  generalize uF (grZ N) N.length=Z at*
  generalize uF (bF N k N.length) N.length=B2 at*
  generalize uF (bF N k 0) N.length=B at*
  clear hN
  generalize N.length=n at*
  exact m_ (p:=let z0:=(↑n:Int);let z1:=(↑k:Int);let z2:=(↑(k+1):Int);An [decide (z1<z0)=true,An [An [An [n=n,A=A],An [Zz,n=n,Sm (n-n)],An [n=n,Z=Z],z0=z0,z1=z1,z1=z1,z0=z0,(↑(0:Nat):Int)=(0:Int),Tt],An [B=B,_],Tt],_,(True->An [wr .i64 (z1+(1:Int))=z2,An [An [n=n,A=A],An [Zz,n=n,Sm (n-n)],An [n=n,Z=Z],z0=z0,z2=z2,Tt],An [B2=B2,_],Tt]),Tt]) ⟨aq,⟨a_,⟨aq,z1⟩,aq⟩,hin,(fun _=>⟨aq,a_,⟨aq,z2⟩,aq⟩),aq⟩
 ·have hk2 : k = N.length := by omega
  subst hk2
  have e:uF (bF N N.length 0) N.length=uF (grJ N) N.length:=Qc2 fun x hx=>by grind[bF]
  refine .inr ⟨.exit 2,[],_,[no 52],1000,.inl ⟨trivial,rfl,rfl⟩,?_⟩
  rw[←e]
  generalize uF (grZ N) N.length=Z at*
  generalize uF (bF N N.length 0) N.length=B at*
  clear hN
  generalize N.length=n at*
  exact m_ (p:=An [decide ((↑n:Int)<(↑n:Int))=false,An [An [n=n,A=A],An [n=n,B=B,_],Tt],Tt]) ⟨aq,⟨a_,⟨aq,aq,z1⟩,aq⟩,aq⟩
end
theorem graph_fn(g:Int)(R:List (List Int))(N:List Mc)(hl:Qbo R N)(h:chkB g R N=true):FnOk Pg g0 65 [mdV g R N] (.tup [.im N.length (uF (grP N) N.length),.im N.length (uF (grJ N) N.length),i6 0]):=by
 have c1:=Qkk g R N hl
 rw[h,if_pos rfl]at c1
 have hM:=md_ok h
 have hN:=hM.nd2
 have hq:=hN.q
 have l1:=g1_loop g R N hN
 have l2:=g2_loop hN (uF (grP N) N.length) (Qak _ _) (Qax _ _)
 have y1:=Qax (grP N) N.length
 have z1:=Qak (grP N) N.length
 have y2:=Qax (grJ N) N.length
 have z2:=Qak (grJ N) N.length
 have y3:=Qax (grZ N) N.length
 have z3:=Qak (grZ N) N.length
 have e0:uF (bF N 0 0) N.length=rep N.length [u6 0]:=by
  rw[←Qbn N.length (p:=[])]
  exact Qc2 fun x hx=>by
   unfold bF
   rw[if_neg (by omega)]
   split
   ·rfl
   ·rfl
 rw[Qrf,Qrf]at l1
 rw[e0]at l2
 have hRR:=Qar R
 have hNN:=Qav N
 have z5:HfL (rep N.length [u6 0]):=by rw[←Qbn N.length (p:=[])];exact Qak _ _
 have y5:(rep N.length [u6 0]).length=N.length:=by rw[←Qbn N.length (p:=[]),Qax]
 unfold mdV at*
 refine FnOk.of_vc vE_ok Qaf Qab (n:=1000) (r:=[]) (S:={sl:=[(2,.im N.length (uF (grP N) N.length)),(3,.im N.length (uF (grJ N) N.length)),(4,i6 0)]}) (hs:=[fn 12 (i6 0),mk 19,mk 23,mk 27,(0,.loop [0,1,2,3] (g1S g R.length (rtL R) N.length (mcL N) 0 (rep N.length [u6 0]) (rep N.length [u6 0]) (rep N.length [u6 0])) [(True,.exit 0,g1X N.length (uF (grP N) N.length) (rep N.length [u6 0]) (uF (grZ N) N.length))]),(0,.loop [0] (g2S N.length (uF (grP N) N.length) (uF (grZ N) N.length) 0 (rep N.length [u6 0])) [(True,.exit 2,g2X N.length (uF (grP N) N.length) (uF (grJ N) N.length))])]) ?_
 clear hM hN e0 h hl
 generalize uF (grP N) N.length=A at*
 generalize uF (grZ N) N.length=Z at*
 generalize uF (grJ N) N.length=B at*
 generalize rtL R=RR at*
 generalize mcL N=NN at*
 generalize N.length=n at*
 exact m_ (p:=let z8:=Sm (n-n);let z0:=(↑n:Int);let z1:=rep n [u6 0];let z2:=[i6 g,V.im R.length RR,V.im n NN];let z3:=(9223372036854775807:Int);let z4:=(0:Int);let z5:=(281474976710656:Int);let z6:=(↑(8:Nat):Int);let z7:=V.tup [V.im n A,V.im n B,i6 0];An [z7=z7,An [TT 3,Tt],_,Tt,An [z4≤z0,z0≤z0,z6*z0≤z5,z0≤z3],An [z4≤z0,z0≤z0,z6*z0≤z5,z0≤z3],An [z4≤z0,z0≤z0,z6*z0≤z5,z0≤z3],An [An [Zz,An [Zz,n=n,z8],An [Zz,n=n,z8],An [Zz,n=n,z8],An [n=n,NN=NN],z0=z0,(↑(0:Nat):Int)=z4,Tt],An [z2=z2,TT 3],An [z1=z1,_],An [z1=z1,_],An [z1=z1,_],Tt],_,(True->An [An [An [An [n=n,A=A],An [Zz,n=n,z8],An [n=n,Z=Z],z0=z0,(↑(0:Nat):Int)=z4,Tt],An [z1=z1,_],Tt],_,(True->An [An [An [n=n,A=A],An [n=n,B=B],z4=z4,Tt],Tt]),Tt]),Tt]) ⟨aq,a_,c1,aq,a_,a_,a_,⟨a_,a_,⟨aq,z5⟩,⟨aq,z5⟩,⟨aq,z5⟩,aq⟩,l1,(fun _=>⟨⟨a_,⟨aq,z5⟩,aq⟩,l2,a_⟩),aq⟩
theorem Qqi(g:Int)(R:List (List Int))(N:List Mc)(hl:Qbo R N)(h:chkB g R N=false):FnOk Pg g0 65 [mdV g R N] (.tup [.nils,.nils,i6 330]):=by
 have c1:=Qkk g R N hl
 rw[h,if_neg (by simp)]at c1
 have hRR:=Qar R
 have hNN:=Qav N
 unfold mdV at*
 refine FnOk.of_vc vE_ok Qaf Qab (n:=1000) (r:=[]) (S:={sl:=[(2,.nils),(3,.nils),(4,i6 330)]}) (hs:=[fn 12 (i6 330)]) ?_
 generalize rtL R=RR at*
 generalize mcL N=NN at*
 exact m_ (p:=An [Sm (V.tup [V.nils,V.nils,i6 330]),An [TT 3,Tt],_,Tt,An [Tt,Tt,Sm (330:Int),Tt],Tt]) ⟨aq,a_,c1,a_⟩
structure SmN(N:List Mc):Prop where
 q:N.length≤60
 fl: ∀k,k<N.length→(N.getD k mc0).fr.length≤1000000∧(N.getD k mc0).no.length≤1000000
 fr: ∀k,k<N.length→Sm64 (N.getD k mc0).fr
 no: ∀k,k<N.length→Sm64 (N.getD k mc0).no
theorem mcL_fr{N:List Mc}{k:Nat}(h:k<N.length):headF (List.drop 1 ((mcL N).drop (k*4)))=some (sl (N.getD k mc0).fr):=by
 have hx:N[k]? =some (N.getD k mc0):=by rw[List.getD_eq_getElem?_getD,List.getElem?_eq_getElem h];rfl
 rw[Qb5 hx];rfl
theorem mcL_no{N:List Mc}{k:Nat}(h:k<N.length):headF (List.drop 2 ((mcL N).drop (k*4)))=some (sl (N.getD k mc0).no):=by
 have hx:N[k]? =some (N.getD k mc0):=by rw[List.getD_eq_getElem?_getD,List.getElem?_eq_getElem h];rfl
 rw[Qb5 hx];rfl
section
variable (g:Int) (R:List (List Int)) (N:List Mc) (hN:SmN N)
include hN
theorem Qiw:FnOk Pg g0 17 [mdV g R N] (.im N.length (uF (grP N) N.length)):=
 pars_fn g R.length (rtL R) (Qar R) N.length (mcL N) (Qav N) (fun k=>(N.getD k mc0).fr) (by have:=hN.q;omega) (fun k hk=>⟨(hN.fl k hk).1,hN.fr k hk,mcL_fr hk⟩)
theorem Qkd(v:Nat)(hv:v<N.length):FnOk Pg g0 60 [.agg [i6 g,.im R.length (rtL R),.im N.length (mcL N)],i6 (v:Nat)] (u6 (grZ N v:Nat)):=
 noise_fn g R.length (rtL R) (Qar R) N.length (mcL N) (Qav N) v (N.getD v mc0).no hv (hN.fl v hv).2 (hN.no v hv) (mcL_no hv)
theorem grZ_sm{k:Nat}(hk:k<N.length):grZ N k<18446744073709551616:=Qb8 (hN.no k hk) _ (Nat.le_refl _)
theorem grP_sm{k:Nat}(hk:k<N.length):grP N k<18446744073709551616:=Qb8 (hN.fr k hk) _ (Nat.le_refl _)
abbrev jd1(g:Int)(nR:Nat)(RR:List V)(q:Nat)(NN:List V)(i:Nat)(B:List V):SL:={sl:=[(1,.ptr 0 0),(3,.sl 1 0 q (some (q-q))),(4,i6 (i:Nat))],os:=[cuO g nR RR q NN,.row 29 none B]}
abbrev jd2(g:Int)(nR:Nat)(RR:List V)(q:Nat)(NN:List V)(i k:Nat)(B:List V):SL:={sl:=[(1,.ptr 0 0),(3,.sl 1 0 q (some (q-q))),(4,i6 (i:Nat)),(5,i6 (k:Nat))],os:=[cuO g nR RR q NN,.row 29 none B]}
theorem jd_in(i:Nat)(hi:i<N.length):Sat Pg none 0 (at' 18 [1,1,0,1,0,0,1,0,0,1,0]) (mkSt g0 49 (jd2 g R.length (rtL R) N.length (mcL N) i 0 (uF (bF N i 0) N.length))) (Qae g0 49 [(True,.exit 2,jd1 g R.length (rtL R) N.length (mcL N) i (uF (bF N i N.length) N.length))]):=by
 have hRR:=Qar R
 have hNN:=Qav N
 refine Qaw vE_ok Qaf Qab (b:=at' 18 [1,1,0,1,0,0,1,0,0,1,0,0]) (by kernel_rfl) (fun k=>k≤N.length) (fun k=>jd2 g R.length (rtL R) N.length (mcL N) i k (uF (bF N i k) N.length)) (fun k=>N.length-k) (fun k hk=>?_) 0 (Nat.zero_le _)
 have hq:=hN.q
 have y1:=Qax (bF N i k) N.length
 have z1:=Qak (bF N i k) N.length
 by_cases hlt:k<N.length
 ·have y2 := Qax (bF N i (k + 1)) N.length
  have z2:=Qak (bF N i (k+1)) N.length
  have c1:=Qkd g R N hN i hi
  have c2:=Qkd g R N hN k hlt
  have h3:=Qbv (f:=bF N i k) hi
  rw[bF_at]at h3
  have l1:=Qfh (f:=bF N i k) hi (jnR N i k|||2^k)
  have a1:=Qje (G:=Qac Pg) (t:=29) (grZ_sm N hN hi) (grZ_sm N hN hlt)
  have w1:=wrk (k:=k) (by omega)
  obtain⟨s1,s2⟩:=Qd2 (G:=Qac Pg) (t:=29) (k:=k) (by omega)
  have s3:=(or_u (G:=Qac Pg) (t:=29) (Qjv (N:=N) (i:=i) k (by omega)) s2).1
  by_cases hik:i=k
  ·have es := Qie (N := N) (i := i) (k := k) (fun h => h.1 hik)
   subst hik
   refine .inl ⟨i+1,[0,1],[yes 21,no 26,nu 23 ((i+1:Nat):Int)],1000,hlt,by omega,?_⟩
   rw[←es]
   clear es c1 c2 h3 l1 s1 s2 s3 a1 w1 hN
   generalize uF (bF N i i) N.length=B at*
   generalize rtL R=RR at*
   generalize mcL N=NN at*
   generalize R.length=nR at*
   generalize N.length=n at*
   exact m_ (p:=let z0:=(↑i:Int);let z1:=(↑(i+1):Int);let z2:=[i6 g,V.im nR RR,V.im n NN];An [decide (z0<(↑n:Int))=true,(z0 != z0)=false,wr .i64 (z0+(1:Int))=z1,An [Zz,An [Zz,n=n,Sm (n-n)],z0=z0,z1=z1,Tt],An [z2=z2,TT 3],An [B=B,_],Tt]) ⟨aq,aq,aq,a_,a_,⟨aq,z1⟩,aq⟩
  ·have hne : decide ((i : Int) = (k : Int)) = false := decide_eq_false (by omega)
   by_cases hz:grZ N i&&& grZ N k=0
   ·have es := Qie (N := N) (i := i) (k := k) (fun h => h.2 hz)
    rw[hz]at a1
    refine .inl ⟨k+1,[0,1],[yes 21,yes 26,fn 30 (u6 (grZ N i:Nat)),fn 33 (u6 (grZ N k:Nat)),va 34 (u6 (0:Nat)),no 35,nu 23 ((k+1:Nat):Int)],1000,hlt,by omega,?_⟩
    rw[←es]
    clear es h3 l1 s1 s2 s3 w1 hN hz
    generalize grZ N i=u1 at*
    generalize grZ N k=u2 at*
    generalize uF (bF N i k) N.length=B at*
    generalize rtL R=RR at*
    generalize mcL N=NN at*
    generalize R.length=nR at*
    generalize N.length=n at*
    exact m_ (p:=let z0:=ofOs T.e 0 [cuO g nR RR n NN,O.row 29 none B];let z1:=[i6 g,V.im nR RR,V.im n NN];let z2:=(↑(k+1):Int);let z3:=(↑k:Int);let z4:=(↑i:Int);An [decide (z3<(↑n:Int))=true,(z4 != z3)=true,An [TT 3,Tt,Tt],_,Tt,An [TT 3,Tt,Tt],_,An [V.fn 60 []=V.fn 60 []→[V.agg z1,i6 ↑i]=[V.agg z1,i6 ↑k]→z0=z0→2=2→CR.mk (u6 ↑u1) z0 2 []=CR.mk (u6 ↑u2) z0 2 [],Tt],_,((↑(0:Nat):Int) != (0:Int))=false,wr .i64 (z3+(1:Int))=z2,An [Zz,An [Zz,n=n,Sm (n-n)],z4=z4,z2=z2,Tt],An [z1=z1,TT 3],An [B=B,_],Tt]) ⟨aq,aq,a_,c1,aq,a_,c2,a_,a1,aq,aq,a_,a_,⟨aq,z1⟩,aq⟩
   ·have es := Qo6 (N := N) (i := i) (k := k) ⟨hik, hz⟩
    rw[es]at l1
    refine .inl ⟨k+1,[0,1],[yes 21,yes 26,fn 30 (u6 (grZ N i:Nat)),fn 33 (u6 (grZ N k:Nat)),va 34 (u6 (grZ N i&&& grZ N k:Nat)),yes 35,pl 41,ld 42 (u6 (jnR N i k:Nat)),nu 44 (k:Nat),va 45 (u6 (2^k:Nat)),va 46 (u6 (jnR N i k|||2^k:Nat)),pl 47,st (uF (bF N i (k+1)) N.length),nu 23 ((k+1:Nat):Int)],1000,hlt,by omega,?_⟩
    clear es hN
    generalize hw:grZ N i&&& grZ N k=wz at*
    clear hw
    generalize grZ N i=u1 at*
    generalize grZ N k=u2 at*
    generalize uF (bF N i k) N.length=B at*
    generalize uF (bF N i (k+1)) N.length=B2 at*
    generalize jnR N i k|||2^k=v3 at*
    generalize jnR N i k=v1 at*
    generalize 2^k=v2 at*
    generalize rtL R=RR at*
    generalize mcL N=NN at*
    generalize R.length=nR at*
    generalize N.length=n at*
    exact m_ (p:=let z0:=ofOs T.e 0 [cuO g nR RR n NN,O.row 29 none B];let z1:=[i6 g,V.im nR RR,V.im n NN];let z2:=(↑i:Int);let z3:=(↑k:Int);let z5:=(↑(k+1):Int);let z6:=(↑n:Int);An [decide (z3<z6)=true,(z2 != z3)=true,An [TT 3,Tt,Tt],_,Tt,An [TT 3,Tt,Tt],_,An [V.fn 60 []=V.fn 60 []→[V.agg z1,i6 ↑i]=[V.agg z1,i6 ↑k]→z0=z0→2=2→CR.mk (u6 ↑u1) z0 2 []=CR.mk (u6 ↑u2) z0 2 [],Tt],_,((↑wz:Int) != (0:Int))=true,An [(0:Int)≤z2,z2<z6],_,_,_,_,An [(0:Int)≤z2,z2<z6],_,wr .i64 (z3+(1:Int))=z5,An [Zz,An [Zz,n=n,Sm (n-n)],z2=z2,z5=z5,Tt],An [z1=z1,TT 3],An [B2=B2,_],Tt]) ⟨aq,aq,a_,c1,aq,a_,c2,a_,a1,aq,a_,h3,w1,s1,s3,a_,l1,aq,a_,a_,⟨aq,z2⟩,aq⟩
 ·have hk2 : k = N.length := by omega
  subst hk2
  refine .inr ⟨.exit 2,[0,1],jd1 g R.length (rtL R) N.length (mcL N) i (uF (bF N i N.length) N.length),[no 21],1000,.inl ⟨trivial,rfl,rfl⟩,?_⟩
  clear hN
  generalize uF (bF N i N.length) N.length=B at*
  generalize rtL R=RR at*
  generalize mcL N=NN at*
  generalize R.length=nR at*
  generalize N.length=n at*
  exact m_ (p:=An [decide ((↑n:Int)<(↑n:Int))=false,An [Zz,An [Zz,n=n,Sm (n-n)],Sm (↑i:Int),Tt],An [Sm [i6 g,V.im nR RR,V.im n NN],TT 3],An [B=B,_],Tt]) ⟨aq,a_,a_,⟨aq,z1⟩,aq⟩
theorem jd_out:Sat Pg none 0 (at' 18 [1,1,0,1,0]) (mkSt g0 49 (jd1 g R.length (rtL R) N.length (mcL N) 0 (uF (bF N 0 0) N.length))) (Qae g0 49 [(True,.exit 0,{sl:=[(3,.im N.length (uF (grJ N) N.length))]})]):=by
 have hRR:=Qar R
 have hNN:=Qav N
 refine Qaw vE_ok Qaf Qab (b:=at' 18 [1,1,0,1,0,0]) (by kernel_rfl) (fun k=>k≤N.length) (fun k=>jd1 g R.length (rtL R) N.length (mcL N) k (uF (bF N k 0) N.length)) (fun k=>N.length-k) (fun k hk=>?_) 0 (Nat.zero_le _)
 have hq:=hN.q
 have y1:=Qax (bF N k 0) N.length
 have z1:=Qak (bF N k 0) N.length
 by_cases hlt:k<N.length
 ·have y2 := Qax (bF N k N.length) N.length
  have z2:=Qak (bF N k N.length) N.length
  have h3:=jd_in g R N hN k hlt
  refine .inl ⟨k+1,[0,1],[yes 14,(0,.loop [0,1] (jd2 g R.length (rtL R) N.length (mcL N) k 0 (uF (bF N k 0) N.length)) [(True,.exit 2,jd1 g R.length (rtL R) N.length (mcL N) k (uF (bF N k N.length) N.length))]),nu 16 ((k+1:Nat):Int)],1000,hlt,by omega,?_⟩
  rw[←Qo5]
  clear hN
  generalize uF (bF N k N.length) N.length=B2 at*
  generalize uF (bF N k 0) N.length=B at*
  generalize rtL R=RR at*
  generalize mcL N=NN at*
  generalize R.length=nR at*
  generalize N.length=n at*
  exact m_ (p:=let z0:=[i6 g,V.im nR RR,V.im n NN];let z1:=(↑(k+1):Int);let z2:=(↑k:Int);An [decide (z2<(↑n:Int))=true,An [An [Zz,An [Zz,n=n,Sm (n-n)],z2=z2,(↑(0:Nat):Int)=(0:Int),Tt],An [z0=z0,TT 3],An [B=B,_],Tt],_,(True->An [wr .i64 (z2+(1:Int))=z1,An [Zz,An [Zz,n=n,Sm (n-n)],z1=z1,Tt],An [z0=z0,TT 3],An [B2=B2,_],Tt]),Tt]) ⟨aq,⟨a_,a_,⟨aq,z1⟩,aq⟩,h3,(fun _=>⟨aq,a_,a_,⟨aq,z2⟩,aq⟩),aq⟩
 ·have hk2 : k = N.length := by omega
  subst hk2
  have e:uF (bF N N.length 0) N.length=uF (grJ N) N.length:=Qc2 fun x hx=>by grind[bF]
  rw[e]at y1 z1⊢
  refine .inr ⟨.exit 0,[],{sl:=[(3,.im N.length (uF (grJ N) N.length))]},[no 14],1000,.inl ⟨trivial,rfl,rfl⟩,?_⟩
  clear hN e
  generalize uF (grJ N) N.length=B at*
  generalize rtL R=RR at*
  generalize mcL N=NN at*
  generalize R.length=nR at*
  generalize N.length=n at*
  exact m_ (p:=An [decide ((↑n:Int)<(↑n:Int))=false,An [An [n=n,B=B,_],Tt],Tt]) ⟨aq,⟨⟨aq,aq,z1⟩,aq⟩,aq⟩
theorem Qhz(h1:1≤N.length):FnOk Pg g0 18 [mdV g R N] (.im N.length (uF (grJ N) N.length)):=by
 have hRR:=Qar R
 have hNN:=Qav N
 have hq:=hN.q
 have h:=jd_out g R N hN
 have e0:uF (bF N 0 0) N.length=rep N.length [u6 0]:=by
  rw[←Qbn N.length (p:=[])]
  refine Qc2 fun i hi=>?_
  unfold bF
  rw[if_neg (by omega)]
  split<;>simp[jnR,chR]
 rw[e0]at h
 have z0:HfL (rep N.length [u6 0]):=by rw[←e0];exact Qak _ _
 have y0:(rep N.length [u6 0]).length=N.length:=by rw[←e0];exact Qax _ _
 have y2:=Qax (grJ N) N.length
 have z2:=Qak (grJ N) N.length
 show FnOk Pg g0 18 [.agg [i6 g,.im R.length (rtL R),.im N.length (mcL N)]] _
 clear hN e0
 generalize uF (grJ N) N.length=B2 at*
 generalize rtL R=RR at*
 generalize mcL N=NN at*
 generalize R.length=nR at*
 generalize N.length=n at*
 refine FnOk.of_vc vE_ok Qaf Qab (n:=1000) (r:=[]) (S:={sl:=[(2,.im n B2)]}) (hs:=[mk 9,(0,.loop [0,1] (jd1 g nR RR n NN 0 (rep n [u6 0])) [(True,.exit 0,{sl:=[(3,.im n B2)]})])]) ?_
 exact m_ (p:=let z0:=(↑n:Int);let z1:=rep n [u6 0];let z2:=[i6 g,V.im nR RR,V.im n NN];An [Sm (V.im n B2),An [(0:Int)≤z0,z0≤z0,(↑(8:Nat):Int)*z0≤(281474976710656:Int),z0≤(9223372036854775807:Int)],An [An [Zz,An [Zz,n=n,Sm (n-n)],(↑(0:Nat):Int)=(0:Int),Tt],An [z2=z2,TT 3],An [z1=z1,_],Tt],_,(True->An [An [An [n=n,B2=B2],Tt],Tt]),Tt]) ⟨aq,a_,⟨a_,a_,⟨aq,z0⟩,aq⟩,h,a_⟩
end
def r7V(p:List Nat):Bool:=(List.range p.length).all fun v=>decide (p.getD v 0/2^p.length=0)
def r7B(p:List Nat):Bool:=decide (1≤p.length)&&decide (p.length≤8)&&r7V p&&acR p
section
variable (p:List Nat) (h64:S64 p)
include h64
abbrev r7S(p:List Nat)(n v:Nat):SL:={sl:=[(0,.im n (ut p)),(3,i6 (v:Nat))]}
theorem r7_loop(n:Nat)(hn:p.length=n)(h8:n≤8):
  Sat Pg none 0 (at' 62 [1,1,0,1,0]) (mkSt g0 29 (r7S p n 0)) (Qae g0 29 [(r7V p=true,.exit 0,{sl:=[(0,.im n (ut p))]}),(r7V p=false,.ret,{sl:=[(2,.bool false)]})]):=by
 have hp:=Qag p
 refine Qaw vE_ok Qaf Qab (b:=at' 62 [1,1,0,1,0,0]) (by kernel_rfl) (fun k=>k≤n∧∀i,i<k→p.getD i 0/2^p.length=0) (r7S p n) (fun k=>n-k) (fun v hv=>?_) 0 ⟨Nat.zero_le _,fun i h=>absurd h (Nat.not_lt_zero _)⟩
 obtain⟨hv,hin⟩:=hv
 have w1:=wrk (k:=n) (by omega)
 by_cases hlt:v<n
 ·have s0 := Qa0 (l := p) (k := v) (by omega)
  have s1:=Qr9 (G:=Qac Pg) (t:=29) (x:=p.getD v 0) (k:=n) (by omega)
  by_cases hb:p.getD v 0/2^n=0
  ·have hnx : ∀ i, i < v + 1 → p.getD i 0 / 2 ^ p.length = 0 := fun i hi => by
    by_cases hiv:i=v
    ·subst hiv;rw[hn];exact hb
    ·exact hin i (by omega)
   rw[hb]at s1
   refine .inl ⟨v+1,[],[yes 15,pl 20,ld 21 (u6 (p.getD v 0:Nat)),nu 24 (n:Nat),va 25 (u6 (0:Nat)),no 26,nu 17 ((v+1:Nat):Int)],1000,⟨hlt,hnx⟩,by omega,?_⟩
   clear hin hb hnx
   generalize p.getD v 0=y at*
   exact m_ (p:=let z0:=(↑(v+1):Int);let z1:=(↑v:Int);An [decide (z1<(↑n:Int))=true,An [(0:Int)≤z1,z1<(↑n:Int)],_,_,_,((↑(0:Nat):Int) != (0:Int))=false,wr .i64 (z1+(1:Int))=z0,An [An [n=n,Sm (ut p)],z0=z0,Tt],Tt]) ⟨aq,a_,s0,w1,s1,a_⟩
  ·have hf : r7V p = false := by
    cases ha:r7V p with
    |false=>rfl
    |true=>
     have:=List.all_eq_true.1 ha v (List.mem_range.2 (by omega))
     rw[hn]at this
     exact absurd (of_decide_eq_true this) hb
   refine .inr ⟨.ret,[],{sl:=[(2,.bool false)]},[yes 15,pl 20,ld 21 (u6 (p.getD v 0:Nat)),nu 24 (n:Nat),va 25 (u6 (p.getD v 0/2^n:Nat)),yes 26],1000,.inr (.inl ⟨hf,rfl,rfl⟩),?_⟩
   clear hf hin
   generalize p.getD v 0/2^n=z at*
   generalize p.getD v 0=y at*
   exact m_ (p:=let z1:=(↑v:Int);An [decide (z1<(↑n:Int))=true,An [(0:Int)≤z1,z1<(↑n:Int)],_,_,_,((↑z:Int) != (0:Int))=true,An [Sm false,Tt],Tt]) ⟨aq,a_,s0,w1,s1,a_⟩
 ·obtain rfl : v = n := by omega
  have hf:r7V p=true:=by
   unfold r7V
   rw[List.all_eq_true]
   intro i hi
   have:=List.mem_range.1 hi
   exact decide_eq_true (hin i (by omega))
  refine .inr ⟨.exit 0,[],{sl:=[(0,.im v (ut p))]},[no 15],1000,.inl ⟨hf,rfl,rfl⟩,?_⟩
  clear hf hin
  refine Eq.mp (by kernel_rfl:(An [decide ((↑v:Int)<(↑v:Int))=false,An [An [v=v,Sm (ut p)],Tt],Tt])=_) ?_
  (repeat'(first|(with_reducible apply And.intro)|(refine fun(_:True)=>?_)))<;>first|exact aq|skip
  all_goals skip
theorem Qry:FnOk Pg g0 62 [ul p] (.bool (r7B p)):=by
 have hp:=Qag p
 by_cases h1:1≤p.length
 ·by_cases h8 : p.length ≤ 8
  ·have h := r7_loop p h64 p.length rfl h8
   have ha:=Qoy p (by omega) h64
   have e:r7B p=(r7V p&&acR p):=by unfold r7B;rw[decide_eq_true h1,decide_eq_true h8];rfl
   rw[e]
   cases hv:r7V p with
   |false=>
    rw[hv]at h
    generalize hn:p.length=n at*
    refine FnOk.of_vc vE_ok Qaf Qab (n:=1000) (r:=[]) (S:={sl:=[(2,.bool false)]}) (hs:=[no 6,no 10,(0,.loop [] (r7S p n 0) [(False,.exit 0,{sl:=[(0,.im n (ut p))]}),(True,.ret,{sl:=[(2,.bool false)]})])]) ?_
    have h':Sat Pg none 0 (at' 62 [1,1,0,1,0]) (mkSt g0 29 (r7S p n 0)) (Qae g0 29 [(False,.exit 0,{sl:=[(0,.im n (ut p))]}),(True,.ret,{sl:=[(2,.bool false)]})]):=by simpa using h
    clear h
    exact m_ (p:=An [V.bool false=V.bool (false&&acR p),decide ((↑p.length:Int)<(1:Int))=false,decide ((↑p.length:Int)>(8:Int))=false,An [An [An [_,Sm (ut p)],(↑(0:Nat):Int)=(0:Int),Tt],Tt],_,False→False,(True->An [An [Sm false,Tt],Tt]),Tt]) ⟨aq,aq,aq,⟨⟨⟨hn.symm,aq⟩,a_⟩,aq⟩,h',a_⟩
   |true=>
    rw[hv]at h
    generalize hn:p.length=n at*
    generalize acR p=b at*
    have ha':FnOk Pg g0 38 [.im n (ut p)] (.bool b):=by rw[←hn];exact ha
    have h':Sat Pg none 0 (at' 62 [1,1,0,1,0]) (mkSt g0 29 (r7S p n 0)) (Qae g0 29 [(True,.exit 0,{sl:=[(0,.im n (ut p))]}),(False,.ret,{sl:=[(2,.bool false)]})]):=by simpa using h
    rw[Bool.true_and]
    refine FnOk.of_vc vE_ok Qaf Qab (n:=1000) (r:=[]) (S:={sl:=[(2,.bool b)]}) (hs:=[no 6,no 10,(0,.loop [] (r7S p n 0) [(True,.exit 0,{sl:=[(0,.im n (ut p))]}),(False,.ret,{sl:=[(2,.bool false)]})]),fn 28 (.bool b)]) ?_
    clear h ha
    exact m_ (p:=An [Sm (V.bool b),decide ((↑p.length:Int)<(1:Int))=false,decide ((↑p.length:Int)>(8:Int))=false,An [An [An [_,Sm (ut p)],(↑(0:Nat):Int)=(0:Int),Tt],Tt],_,(True->An [An [Tt,Tt],_,Tt,An [b=b,Tt],Tt]),False→An [An [b=false,Tt],Tt],Tt]) ⟨aq,aq,aq,⟨⟨⟨hn.symm,aq⟩,a_⟩,aq⟩,h',(fun _=>⟨a_,ha',a_⟩),a_⟩
  ·have e : r7B p = false := by unfold r7B; rw [decide_eq_false h8, Bool.and_false]; rfl
   rw[e]
   generalize hn:p.length=n at*
   refine FnOk.of_vc vE_ok Qaf Qab (n:=1000) (r:=[]) (S:={sl:=[(2,.bool false)]}) (hs:=[no 6,yes 10]) ?_
   refine Eq.mp (by kernel_rfl:(An [Sm (V.bool false),decide ((↑p.length:Int)<(1:Int))=false,decide ((↑p.length:Int)>(8:Int))=true,An [Sm false,Tt],Tt])=_) ?_
   (repeat'(first|(with_reducible apply And.intro)|(refine fun(_:True)=>?_)))<;>first|exact aq|skip
   all_goals first|exact hn.symm|omega|(simp;omega)|skip
 ·have e : r7B p = false := by unfold r7B; rw [decide_eq_false h1]; rfl
  rw[e]
  generalize hn:p.length=n at*
  refine FnOk.of_vc vE_ok Qaf Qab (n:=1000) (r:=[]) (S:={sl:=[(2,.bool false)]}) (hs:=[yes 6]) ?_
  refine Eq.mp (by kernel_rfl:(An [Sm (V.bool false),decide ((↑p.length:Int)<(1:Int))=true,An [Sm false,Tt],Tt])=_) ?_
  (repeat'(first|(with_reducible apply And.intro)|(refine fun(_:True)=>?_)))<;>first|exact aq|skip
  all_goals first|exact hn.symm|omega|(simp;omega)|skip
end
def jIn(j:List Nat)(k m:Nat):Bool:=(j.getD k 0).testBit m==(j.getD m 0).testBit k
def jAt(j:List Nat)(k:Nat):Bool:=decide (j.getD k 0/2^j.length=0)&& !(j.getD k 0).testBit k&&(List.range j.length).all (jIn j k)
def jAl(j:List Nat):Bool:=(List.range j.length).all (jAt j)
def rightB(p j:List Nat):Bool:=r7B p&&decide (p.length≤5)&&decide (j.length=p.length)&&jAl j
theorem Qf1{f:Nat→Bool}{n k:Nat}(hk:k<n)(h:f k=false):(List.range n).all f=false:=by
 grind
theorem Qbs{f:Nat→Bool}{n:Nat}(h: ∀i,i<n→f i=true):(List.range n).all f=true:=by
 simp_all
section
variable (j:List Nat) (h64:S64 j)
include h64
abbrev r35I(j:List Nat)(n k m:Nat):SL:={sl:=[(1,.im n (ut j)),(5,i6 (k:Nat)),(6,i6 (m:Nat))]}
theorem r35_in(n k:Nat)(hn:j.length=n)(h8:n≤8)(hk:k<n):
  Sat Pg none 0 (at' 20 [1,1,0,1,0,0,1,0,0,1,1,0]) (mkSt g0 64 (r35I j n k 0)) (Qae g0 64 [((List.range n).all (jIn j k)=true,.exit 2,{sl:=[(1,.im n (ut j)),(5,i6 (k:Nat))]}),((List.range n).all (jIn j k)=false,.ret,{sl:=[(4,.bool false)]})]):=by
 have hp:=Qag j
 refine Qaw vE_ok Qaf Qab (b:=at' 20 [1,1,0,1,0,0,1,0,0,1,1,0,0]) (by kernel_rfl) (fun m=>m≤n∧∀i,i<m→jIn j k i=true) (r35I j n k) (fun m=>n-m) (fun m hm=>?_) 0 ⟨Nat.zero_le _,fun i h=>absurd h (Nat.not_lt_zero _)⟩
 obtain⟨hm,hin⟩:=hm
 by_cases hlt:m<n
 ·have s0 := Qa0 (l := j) (k := k) (by omega)
  have s1:=Qa0 (l:=j) (k:=m) (by omega)
  have h1:=Qd0 (j.getD k 0) m (by omega)
  have h2:=Qd0 (j.getD m 0) k (by omega)
  have e:jIn j k m=((j.getD k 0).testBit m==(j.getD m 0).testBit k):=rfl
  have hnx:jIn j k m=true→∀i,i<m+1→jIn j k i=true:=fun hx i hi=>by
   grind
  have hno:jIn j k m=false→(List.range n).all (jIn j k)=false:=fun hx=>Qf1 hlt hx
  by_cases he:(j.getD k 0).testBit m=(j.getD m 0).testBit k
  ·rw [he] at h1 e
   have hnx:=hnx (by simp_all)
   generalize (j.getD m 0).testBit k=a at*
   refine .inl ⟨m+1,[],[yes 48,pl 53,ld 54 (u6 (j.getD k 0:Nat)),fn 56 (.bool a),pl 59,ld 60 (u6 (j.getD m 0:Nat)),fn 62 (.bool a),no 63,nu 50 ((m+1:Nat):Int)],1000,⟨hlt,hnx⟩,by omega,?_⟩
   clear hin he hnx hno e
   generalize j.getD k 0=y at*
   generalize j.getD m 0=z at*
   exact m_ (p:=let z0:=(↑(m+1):Int);let z1:=(↑m:Int);let z2:=(↑k:Int);let z4:=(↑n:Int);An [decide (z1<z4)=true,An [(0:Int)≤z2,z2<z4],_,TT 2,_,Tt,An [(0:Int)≤z1,z1<z4],_,TT 2,_,An [V.fn 63 []=V.fn 63 []→[u6 ↑y,i6 ↑m]=[u6 ↑z,i6 ↑k]→ofOs T.e 0 []=ofOs T.e 0 []→0=0→Sm (CR.mk (V.bool a) (ofOs T.e 0 []) 0 []),Tt],(!a==a)=false,wr .i64 (z1+(1:Int))=z0,An [An [n=n,Sm (ut j)],z2=z2,z0=z0,Tt],Tt]) ⟨aq,a_,s0,aq,h1,aq,a_,s1,aq,h2,a_⟩
  ·have hf := hno (by
    simp_all)
   have hab:(j.getD k 0).testBit m= !(j.getD m 0).testBit k:=by
    cases hx:(j.getD k 0).testBit m<;>cases hy:(j.getD m 0).testBit k<;>first|rfl|exact absurd (hx.trans hy.symm) he
   rw[hab]at h1
   have hkm:k≠m:=fun h=>by simp_all
   generalize (j.getD m 0).testBit k=a at*
   refine .inr ⟨.ret,[],{sl:=[(4,.bool false)]},[yes 48,pl 53,ld 54 (u6 (j.getD k 0:Nat)),fn 56 (.bool (!a)),pl 59,ld 60 (u6 (j.getD m 0:Nat)),fn 62 (.bool a),yes 63],1000,.inr (.inl ⟨hf,rfl,rfl⟩),?_⟩
   clear hin he hnx hno e hab hf
   generalize j.getD k 0=y at*
   generalize j.getD m 0=z at*
   exact m_ (p:=let z0:=(↑m:Int);let z1:=(↑n:Int);An [decide (z0<z1)=true,An [(0:Int)≤(↑k:Int),(↑k:Int)<z1],_,TT 2,_,Tt,An [(0:Int)≤z0,z0<z1],_,TT 2,_,An [V.fn 63 []=V.fn 63 []→[u6 ↑y,i6 ↑m]=[u6 ↑z,i6 ↑k]→ofOs T.e 0 []=ofOs T.e 0 []→0=0→CR.mk (V.bool !a) (ofOs T.e 0 []) 0 []=CR.mk (V.bool a) (ofOs T.e 0 []) 0 [],Tt],(!(!a)==a)=true,An [Sm false,Tt],Tt]) ⟨aq,a_,s0,aq,h1,aq,a_,s1,aq,h2,⟨(by (intro _ h9;injection h9 with h9 h10;injection h10 with h10;exact absurd (by injection h10 with _ h10;omega) hkm)),aq⟩,a_⟩
 ·obtain rfl : m = n := by omega
  have hf:(List.range m).all (jIn j k)=true:=Qbs hin
  refine .inr ⟨.exit 2,[],{sl:=[(1,.im m (ut j)),(5,i6 (k:Nat))]},[no 48],1000,.inl ⟨hf,rfl,rfl⟩,?_⟩
  clear hf hin
  refine Eq.mp (by kernel_rfl:(An [decide ((↑m:Int)<(↑m:Int))=false,An [An [m=m,Sm (ut j)],Sm (↑k:Int),Tt],Tt])=_) ?_
  (repeat'(first|(with_reducible apply And.intro)|(refine fun(_:True)=>?_)))<;>first|exact aq|skip
  all_goals skip
abbrev r35O(j:List Nat)(n k:Nat):SL:={sl:=[(1,.im n (ut j)),(5,i6 (k:Nat))]}
theorem r35_out(n:Nat)(hn:j.length=n)(h8:n≤8):
  Sat Pg none 0 (at' 20 [1,1,0,1,0]) (mkSt g0 64 (r35O j n 0)) (Qae g0 64 [(jAl j=true,.exit 0,{sl:=[]}),(jAl j=false,.ret,{sl:=[(4,.bool false)]})]):=by
 have hp:=Qag j
 refine Qaw vE_ok Qaf Qab (b:=at' 20 [1,1,0,1,0,0]) (by kernel_rfl) (fun m=>m≤n∧∀i,i<m→jAt j i=true) (r35O j n) (fun m=>n-m) (fun k hk=>?_) 0 ⟨Nat.zero_le _,fun i h=>absurd h (Nat.not_lt_zero _)⟩
 obtain⟨hk,hin⟩:=hk
 have w1:=wrk (k:=n) (by omega)
 by_cases hlt:k<n
 ·have s0 := Qa0 (l := j) (k := k) (by omega)
  have h1:=Qd0 (j.getD k 0) k (by omega)
  have s1:=Qr9 (G:=Qac Pg) (t:=29) (x:=j.getD k 0) (k:=n) (by omega)
  have hl:=r35_in j h64 n k hn h8 hlt
  have e:jAt j k=(decide (j.getD k 0/2^n=0)&& !(j.getD k 0).testBit k&&(List.range n).all (jIn j k)):=by rw[←hn];rfl
  have hnx:jAt j k=true→∀i,i<k+1→jAt j i=true:=fun hx i hi=>by
   grind
  have hno:jAt j k=false→jAl j=false:=fun hx=>Qf1 (by omega) hx
  by_cases h0:j.getD k 0/2^n=0
  ·rw [h0] at s1
   cases hb:(j.getD k 0).testBit k with
   |true=>
    rw[hb]at h1
    have hf:=hno (by simp_all)
    refine .inr ⟨.ret,[],{sl:=[(4,.bool false)]},[yes 25,pl 30,ld 31 (u6 (j.getD k 0:Nat)),nu 34 (n:Nat),va 35 (u6 (0:Nat)),no 36,pl 40,ld 41 (u6 (j.getD k 0:Nat)),fn 43 (.bool true)],1000,.inr (.inl ⟨hf,rfl,rfl⟩),?_⟩
    clear hf hno hnx e hb h0 hin hl
    generalize j.getD k 0=y at*
    exact m_ (p:=let z0:=(↑k:Int);let z1:=(↑n:Int);An [decide (z0<z1)=true,An [(0:Int)≤z0,z0<z1],_,_,_,((↑(0:Nat):Int) != (0:Int))=false,An [(0:Int)≤z0,z0<z1],_,TT 2,_,Tt,An [Sm false,Tt],Tt]) ⟨aq,a_,s0,w1,s1,aq,a_,s0,aq,h1,a_⟩
   | false =>
    rw[hb]at h1
    cases hc:(List.range n).all (jIn j k)with
    |true=>
     have hnx:=hnx (by simp_all)
     rw[hc]at hl
     have hl':Sat Pg none 0 (at' 20 [1,1,0,1,0,0,1,0,0,1,1,0]) (mkSt g0 64 (r35I j n k 0)) (Qae g0 64 [(True,.exit 2,{sl:=[(1,.im n (ut j)),(5,i6 (k:Nat))]}),(False,.ret,{sl:=[(4,.bool false)]})]):=by simpa using hl
     refine .inl ⟨k+1,[],[yes 25,pl 30,ld 31 (u6 (j.getD k 0:Nat)),nu 34 (n:Nat),va 35 (u6 (0:Nat)),no 36,pl 40,ld 41 (u6 (j.getD k 0:Nat)),fn 43 (.bool false),(0,.loop [] (r35I j n k 0) [(True,.exit 2,{sl:=[(1,.im n (ut j)),(5,i6 (k:Nat))]}),(False,.ret,{sl:=[(4,.bool false)]})]),nu 27 ((k+1:Nat):Int)],1000,⟨hlt,hnx⟩,by omega,?_⟩
     clear hno hnx e hb h0 hin hl hc
     generalize j.getD k 0=y at*
     exact m_ (p:=let z0:=(↑k:Int);let z1:=(↑n:Int);let z2:=(↑(k+1):Int);let z4:=(0:Int);An [decide (z0<z1)=true,An [z4≤z0,z0<z1],_,_,_,((↑(0:Nat):Int) != z4)=false,An [z4≤z0,z0<z1],_,TT 2,_,Tt,An [An [An [n=n,Sm (ut j)],z0=z0,(↑(0:Nat):Int)=z4,Tt],Tt],_,(True->An [wr .i64 (z0+(1:Int))=z2,An [An [n=n,Sm (ut j)],z2=z2,Tt],Tt]),False→False,Tt]) ⟨aq,a_,s0,w1,s1,aq,a_,s0,aq,h1,aq,a_,hl',a_⟩
    |false=>
     have hf:=hno (by simp_all)
     rw[hc]at hl
     have hl':Sat Pg none 0 (at' 20 [1,1,0,1,0,0,1,0,0,1,1,0]) (mkSt g0 64 (r35I j n k 0)) (Qae g0 64 [(False,.exit 2,{sl:=[(1,.im n (ut j)),(5,i6 (k:Nat))]}),(True,.ret,{sl:=[(4,.bool false)]})]):=by simpa using hl
     refine .inr ⟨.ret,[],{sl:=[(4,.bool false)]},[yes 25,pl 30,ld 31 (u6 (j.getD k 0:Nat)),nu 34 (n:Nat),va 35 (u6 (0:Nat)),no 36,pl 40,ld 41 (u6 (j.getD k 0:Nat)),fn 43 (.bool false),(0,.loop [] (r35I j n k 0) [(False,.exit 2,{sl:=[(1,.im n (ut j)),(5,i6 (k:Nat))]}),(True,.ret,{sl:=[(4,.bool false)]})]),nu 27 ((k+1:Nat):Int)],1000,.inr (.inl ⟨hf,rfl,rfl⟩),?_⟩
     clear hno hnx e hb h0 hin hl hc hf
     generalize j.getD k 0=y at*
     exact m_ (p:=let z0:=(↑k:Int);let z1:=(↑n:Int);let z3:=(0:Int);An [decide (z0<z1)=true,An [z3≤z0,z0<z1],_,_,_,((↑(0:Nat):Int) != z3)=false,An [z3≤z0,z0<z1],_,TT 2,_,Tt,An [An [An [n=n,Sm (ut j)],z0=z0,(↑(0:Nat):Int)=z3,Tt],Tt],_,False→An [wr .i64 (z0+(1:Int))=(↑(k+1):Int),False],(True->An [An [Sm false,Tt],Tt]),Tt]) ⟨aq,a_,s0,w1,s1,aq,a_,s0,aq,h1,aq,a_,hl',a_⟩
  ·have hf := hno (by grind)
   refine .inr ⟨.ret,[],{sl:=[(4,.bool false)]},[yes 25,pl 30,ld 31 (u6 (j.getD k 0:Nat)),nu 34 (n:Nat),va 35 (u6 (j.getD k 0/2^n:Nat)),yes 36],1000,.inr (.inl ⟨hf,rfl,rfl⟩),?_⟩
   clear hf hno hnx e hin hl
   generalize j.getD k 0/2^n=z at*
   generalize j.getD k 0=y at*
   exact m_ (p:=let z1:=(↑k:Int);An [decide (z1<(↑n:Int))=true,An [(0:Int)≤z1,z1<(↑n:Int)],_,_,_,((↑z:Int) != (0:Int))=true,An [Sm false,Tt],Tt]) ⟨aq,a_,s0,w1,s1,a_⟩
 ·obtain rfl : k = n := by omega
  have hf:jAl j=true:=Qbs (by simp_all)
  refine .inr ⟨.exit 0,[],{sl:=[]},[no 25],1000,.inl ⟨hf,rfl,rfl⟩,?_⟩
  clear hf hin
  refine Eq.mp (by kernel_rfl:(An [decide ((↑k:Int)<(↑k:Int))=false,Tt,Tt])=_) ?_
  (repeat'(first|(with_reducible apply And.intro)|(refine fun(_:True)=>?_)))<;>first|exact aq|skip
  all_goals skip
end
theorem Qhy(p j:List Nat)(hp64:S64 p)(hj64:S64 j):FnOk Pg g0 20 [ul p,ul j] (.bool (rightB p j)):=by
 have hpp:=Qag p
 have hjj:=Qag j
 have h7:=Qry p hp64
 have e:rightB p j=(r7B p&&decide (p.length≤5)&&decide (j.length=p.length)&&jAl j):=rfl
 cases hb:r7B p with
 |false=>
  have e:rightB p j=false:=by rw[e,hb];rfl
  rw[e]
  rw[hb]at h7
  refine FnOk.of_vc vE_ok Qaf Qab (n:=1000) (r:=[]) (S:={sl:=[(4,.bool false)]}) (hs:=[fn 8 (.bool false)]) ?_
  clear hb e
  exact m_ (p:=An [Sm (V.bool false),An [Tt,Tt],_,Tt,An [Sm false,Tt],Tt]) ⟨aq,a_,h7,a_⟩
 | true =>
  rw[hb]at h7
  by_cases h5:p.length≤5
  ·by_cases hl : j.length = p.length
   ·have e : rightB p j = jAl j := by rw [e, hb, decide_eq_true h5, decide_eq_true hl]; rfl
    rw[e]
    have h:=r35_out j hj64 j.length rfl (by omega)
    generalize jAl j=b at*
    clear e
    have h7n:FnOk Pg g0 62 [.im j.length (ut p)] (.bool true):=by rw[hl];exact h7
    have h5n:j.length≤5:=by omega
    show FnOk Pg g0 _ [.im p.length (ut p),.im j.length (ut j)] _
    rw[←hl]
    clear hb hl h7
    generalize hn:j.length=n at*
    refine FnOk.of_vc vE_ok Qaf Qab (n:=1000) (r:=[]) (S:={sl:=[(4,.bool b)]}) (hs:=[fn 8 (.bool true),no 13,no 20,(0,.loop [] (r35O j n 0) [(b=true,.exit 0,{sl:=[]}),(b=false,.ret,{sl:=[(4,.bool false)]})])]) ?_
    exact m_ (p:=let z0:=(↑n:Int);An [Sm (V.bool b),An [Tt,Tt],_,Tt,decide (z0>(5:Int))=false,(z0 != z0)=false,An [An [An [n=n,Sm (ut j)],(↑(0:Nat):Int)=(0:Int),Tt],Tt],_,b=true→An [An [b=true,Tt],Tt],b=false→An [An [b=false,Tt],Tt],Tt]) ⟨aq,a_,h7n,aq,aq,aq,a_,h,a_⟩
   ·have e : rightB p j = false := by rw [e, decide_eq_false hl, Bool.and_false]; rfl
    rw[e]
    clear e hb
    unfold ul at*
    generalize j.length=m at*
    generalize p.length=n at*
    refine FnOk.of_vc vE_ok Qaf Qab (n:=1000) (r:=[]) (S:={sl:=[(4,.bool false)]}) (hs:=[fn 8 (.bool true),no 13,yes 20]) ?_
    exact m_ (p:=An [Sm (V.bool false),An [Tt,Tt],_,Tt,decide ((↑n:Int)>(5:Int))=false,((↑m:Int) != (↑n:Int))=true,An [Sm false,Tt],Tt]) ⟨aq,a_,h7,a_⟩
  ·have e : rightB p j = false := by rw [e, decide_eq_false h5, Bool.and_false]; rfl
   rw[e]
   clear e hb
   unfold ul at*
   generalize j.length=m at*
   generalize p.length=n at*
   refine FnOk.of_vc vE_ok Qaf Qab (n:=1000) (r:=[]) (S:={sl:=[(4,.bool false)]}) (hs:=[fn 8 (.bool true),yes 13]) ?_
   exact m_ (p:=An [Sm (V.bool false),An [Tt,Tt],_,Tt,decide ((↑n:Int)>(5:Int))=true,An [Sm false,Tt],Tt]) ⟨aq,a_,h7,a_⟩
theorem right_ok{p j:List Nat}(hp64:S64 p)(hj64:S64 j):rightB p j=true↔GrOk p j:=by
 unfold rightB r7B
 simp only[Bool.and_eq_true,decide_eq_true_eq]
 constructor
 ·rintro ⟨⟨⟨⟨⟨⟨a1, a2⟩, a3⟩, a4⟩, a5⟩, a6⟩, a7⟩
  have b3: ∀k,k<p.length→p.getD k 0/2^p.length=0:=fun k hk=>of_decide_eq_true (List.all_eq_true.1 a3 k (List.mem_range.2 hk))
  have b7:=fun k hk=>List.all_eq_true.1 a7 k (List.mem_range.2 hk)
  have c: ∀k,k<p.length→j.getD k 0/2^j.length=0∧(j.getD k 0).testBit k=false∧∀m,m<p.length→(j.getD k 0).testBit m=(j.getD m 0).testBit k:=fun k hk=>by
   have:=b7 k (by omega)
   unfold jAt at this
   simp only[Bool.and_eq_true,decide_eq_true_eq,Bool.not_eq_true']at this
   refine⟨this.1.1,this.1.2,fun m hm=>?_⟩
   have:=List.all_eq_true.1 this.2 m (List.mem_range.2 (by omega))
   exact eq_of_beq this
  refine⟨a1,a5,hp64,(Qe2 fun k hk=>?_).1 a4,b3,a6,hj64,fun k hk=>a6▸(c k hk).1,fun k hk=>(c k hk).2.1,fun k m hk hm=>(c k hk).2.2 m hm⟩
  simp_all
 ·intro h
  refine⟨⟨⟨⟨⟨⟨h.l1,by have:=h.l5;omega⟩,?_⟩,?_⟩,h.l5⟩,h.jl⟩,?_⟩
  ·exact Qbs fun k hk=>decide_eq_true (h.pw k hk)
  ·exact(Qe2 fun k hk=>(Nat.div_eq_zero_iff_lt (Nat.two_pow_pos _)).1 (h.pw k hk)).2 h.acy
  ·refine Qbs fun k hk => ?_
   rw[h.jl]at hk
   unfold jAt
   rw[h.jl,decide_eq_true (h.jw k hk),h.jk k hk]
   refine Qbs fun m hm=>?_
   unfold jIn
   rw[h.js k m hk hm]
   simp
abbrev bad7:SL:={sl:=[(2,.ptr 0 0),(3,i6 70)],os:=[.row 190 none [.nils,.nils]],md:=[1]}
abbrev Qnq:V:=.tup [.agg [.nils,.nils],i6 70]
theorem read_len(p:List Nat)(h: ¬(1≤p.length∧p.length≤8)):FnOk Pg g0 106 [ul p] Qnq:=by
 have hp:=Qag p
 by_cases h1:p.length<1
 ·show FnOk Pg g0 _ [.im p.length (ut p)] _
  generalize p.length=n at*
  refine FnOk.of_vc vE_ok Qaf Qab (n:=1000) (r:=[0]) (S:=bad7) (hs:=[yes 13]) ?_
  refine Eq.mp (by kernel_rfl:(An [V.tup [V.agg [V.nils,V.nils],i6 70]=Qnq,decide ((↑n:Int)<(1:Int))=true,An [Zz,Sm (70:Int),Tt],TT 2,Tt])=_) ?_
  (repeat'(first|(with_reducible apply And.intro)|(refine fun(_:True)=>?_)))<;>first|exact aq|skip
  all_goals first|omega|(simp;omega)|skip
 ·have h8 : 8 < p.length := by omega
  show FnOk Pg g0 _ [.im p.length (ut p)] _
  generalize p.length=n at*
  refine FnOk.of_vc vE_ok Qaf Qab (n:=1000) (r:=[0]) (S:=bad7) (hs:=[no 13,yes 17]) ?_
  refine Eq.mp (by kernel_rfl:(An [V.tup [V.agg [V.nils,V.nils],i6 70]=Qnq,decide ((↑n:Int)<(1:Int))=false,decide ((↑n:Int)>(8:Int))=true,An [Zz,Sm (70:Int),Tt],TT 2,Tt])=_) ?_
  (repeat'(first|(with_reducible apply And.intro)|(refine fun(_:True)=>?_)))<;>first|exact aq|skip
  all_goals first|omega|(simp;omega)|skip
section
variable (p:List Nat) (hl:p.length≤64) (h64:S64 p) (n:Nat) (hn:p.length=n)
include hl h64 hn
theorem Qoe(K:Nat)(hK:K<n)(hX:p.getD K 0/2^n≠0)(hW: ∀k,k<K→p.getD k 0/2^n=0)(A:List V)(hA:uF (chR p 0) n=A):
  Sat Pg none 0 (at' 106 [1,0,1,1,0,1,0]) (mkSt g0 95 (rd1 p n (0,A))) (Qae g0 95 [(True,.ret,bad7)]):=by
 have hp:=Qag p
 refine Qaw vE_ok Qaf Qab (b:=at' 106 [1,0,1,1,0,1,0,0]) (by kernel_rfl) (fun q=>q.1≤K∧uF (chR p q.1) n=q.2) (rd1 p n) (fun q=>K-q.1) (fun q hq=>?_) (0,A) ⟨Nat.zero_le _,hA⟩
 obtain⟨k,C⟩:=q
 obtain⟨hk,hC⟩:=hq
 dsimp only at hk hC
 have hCf:HfL C:=by rw[←hC];exact Qak _ _
 have hlt:k<n:=by omega
 have s0:=Qa0 (l:=p) (k:=k) (by omega)
 have s1:=Qc5 (G:=Qac Pg) (t:=29) (x:=p.getD k 0) (k:=n) (by omega)
 by_cases hlK:k<K
 ·rw [hW k hlK] at s1
  have hin:=Qrw p hl h64 n k (p.getD k 0) hn hlt rfl C (uF (chR p (k+1)) n) (by assumption) (Qpi p k n)
  have hDf:=Qak (chR p (k+1)) n
  generalize hD:uF (chR p (k+1)) n=D at*
  generalize p.getD k 0=x at*
  refine .inl ⟨(k+1,D),[0,1,2],[yes 31,pl 33,ld 34 (u6 (x:Nat)),va 38 (u6 (0:Nat)),no 39,(0,.loop [0,1,2] (rd2 p x k n (0,C)) [(True,.exit 2,rd2 p x k n (n,D))]),nu 60 ((k+1:Nat):Int)],1000,⟨hlK,hD⟩,by omega,?_⟩
  clear hC hD hA hX
  exact m_ (p:=let z4:=An [Sm p.length,Sm (ut p)];let z5:=An [z4,An [Zz,Sm p.length,Sm (n-n)],Tt];let z0:=(↑k:Int);let z1:=(↑n:Int);let z2:=[V.nils,V.nils];let z3:=(↑(k+1):Int);An [decide (z0<z1)=true,An [(0:Int)≤z0,z0<(↑p.length:Int)],_,binV (Qac Tryz.prog) BinOp.shr 29 (u6 ↑x) (i6 ↑p.length)=some (u6 ↑(0:Nat)),((↑(0:Nat):Int) != (0:Int))=false,An [An [z4,Zz,Zz,z4,z1=z1,z0=z0,z0=z0,Sm (↑x:Int),z1=(↑p.length:Int),(↑(0:Nat):Int)=(0:Int),Tt],An [z2=z2,TT 2],An [C=C,_],z5,Tt],_,(True->An [wr .i64 (z0+(1:Int))=z3,An [z4,Zz,Zz,z4,z1=z1,z3=z3,Tt],An [z2=z2,TT 2],An [D=D,_],z5,Tt]),Tt]) ⟨aq,a_,s0,aq,aq,⟨a_,a_,⟨aq,hCf⟩,a_⟩,hin,(fun _=>⟨aq,a_,a_,⟨aq,hDf⟩,a_⟩),aq⟩
 ·obtain rfl : k = K := by omega
  refine .inr ⟨.ret,[0],bad7,[yes 31,pl 33,ld 34 (u6 (p.getD k 0:Nat)),va 38 (u6 (p.getD k 0/2^n:Nat)),yes 39],1000,.inl ⟨trivial,rfl,rfl⟩,?_⟩
  clear hC hA
  generalize p.getD k 0/2^n=z at*
  generalize p.getD k 0=x at*
  exact m_ (p:=let z0:=(↑k:Int);An [decide (z0<(↑n:Int))=true,An [(0:Int)≤z0,z0<(↑p.length:Int)],_,binV (Qac Tryz.prog) BinOp.shr 29 (u6 ↑x) (i6 ↑p.length)=some (u6 ↑z),((↑z:Int) != (0:Int))=true,An [Zz,Sm (70:Int),Tt],TT 2,Tt]) ⟨aq,a_,s0,a_⟩
theorem Qrx(i s:Nat)(hs:s<18446744073709551616)(C:List V)(hC:HfL C)(hno: ∀k,k<n→¬okN p s k):
  Sat Pg none 0 (at' 106 [1,0,1,1,1,1,1,0,1,0,0,1,1,0,0,0,1,0]) (mkSt g0 95 (rd4 p n i s C 0)) (Qae g0 95 [(True,.exit 6,rd3 p n C (i,s))]):=by
 have hp:=Qag p
 refine Qaw vE_ok Qaf Qab (b:=at' 106 [1,0,1,1,1,1,1,0,1,0,0,1,1,0,0,0,1,0,0]) (by kernel_rfl) (fun q=>q≤n) (rd4 p n i s C) (fun q=>n-q) (fun k hk=>?_) 0 (Nat.zero_le _)
 by_cases hlt:k<n
 ·have s0 := Qa0 (l := p) (k := k) (by omega)
  have s1:=Qc5 (G:=Qac Pg) (t:=29) (x:=s) (k:=k) (by omega)
  have s2:=Qc6 (G:=Qac Pg) (t:=29) (x:=s/2^k)
  have s3:=mi_u (G:=Qac Pg) (t:=29) (h64.get k) hs
  have hno:=hno k hlt
  cases hb:s.testBit k with
  |true=>
   have hbe:s/2^k%2=1:=by rw[Qbx,hb];rfl
   rw[hbe]at s2
   generalize s/2^k=x1 at*
   generalize p.getD k 0=x at*
   refine .inl ⟨k+1,[0,1,2],[yes 72,pl 74,ld 75 (u6 (x:Nat)),va 78 (u6 (x1:Nat)),va 79 (u6 (1:Nat)),no 80,nu 91 ((k+1:Nat):Int)],1000,by omega,by omega,?_⟩
   clear hno
   exact m_ (p:=let z3:=An [Sm p.length,Sm (ut p)];let z0:=(↑n:Int);let z1:=(↑(k+1):Int);let z2:=(↑k:Int);An [decide (z2<z0)=true,An [(0:Int)≤z2,z2<(↑p.length:Int)],_,_,_,((↑(1:Nat):Int)==(0:Int))=false,wr .i64 (z2+(1:Int))=z1,An [z3,Zz,Zz,Sm (↑s:Int),z0=z0,Sm (↑i:Int),z3,z0=z0,z1=z1,Tt],An [Sm [V.nils,V.nils],TT 2],An [C=C,_],An [z3,An [Zz,Sm p.length,Sm (n-n)],Tt],Tt]) ⟨aq,a_,s0,s1,s2,aq,aq,a_,a_,⟨aq,hC⟩,a_⟩
  |false=>
   have hbe:s/2^k%2=0:=by rw[Qbx,hb];rfl
   have hm:mi (p.getD k 0) s≠0:=fun e=>hno ⟨hb,e⟩
   rw[hbe]at s2
   generalize s/2^k=x1 at*
   generalize mi (p.getD k 0) s=y at*
   generalize p.getD k 0=x at*
   refine .inl ⟨k+1,[0,1,2],[yes 72,pl 74,ld 75 (u6 (x:Nat)),va 78 (u6 (x1:Nat)),va 79 (u6 (0:Nat)),yes 80,va 84 (u6 (y:Nat)),no 85,nu 91 ((k+1:Nat):Int)],1000,by omega,by omega,?_⟩
   clear hno
   exact m_ (p:=let z4:=An [Sm p.length,Sm (ut p)];let z0:=(↑n:Int);let z2:=(↑(k+1):Int);let z3:=(↑k:Int);An [decide (z3<z0)=true,An [(0:Int)≤z3,z3<(↑p.length:Int)],_,_,_,((↑(0:Nat):Int)==(0:Int))=true,_,((↑y:Int)==(0:Int))=false,wr .i64 (z3+(1:Int))=z2,An [z4,Zz,Zz,Sm (↑s:Int),z0=z0,Sm (↑i:Int),z4,z0=z0,z2=z2,Tt],An [Sm [V.nils,V.nils],TT 2],An [C=C,_],An [z4,An [Zz,Sm p.length,Sm (n-n)],Tt],Tt]) ⟨aq,a_,s0,s1,s2,aq,s3,aq,aq,a_,a_,⟨aq,hC⟩,a_⟩
 ·obtain rfl : k = n := by omega
  refine .inr ⟨.exit 6,[0,1,2],rd3 p k C (i,s),[no 72],1000,.inl ⟨trivial,rfl,rfl⟩,?_⟩
  clear hno
  exact m_ (p:=let z1:=An [Sm p.length,Sm (ut p)];let z0:=(↑k:Int);An [decide (z0<z0)=false,An [z1,Zz,Zz,Sm (↑s:Int),z0=z0,Sm (↑i:Int),Tt],An [Sm [V.nils,V.nils],TT 2],An [C=C,_],An [z1,An [Zz,Sm p.length,Sm (k-k)],Tt],Tt]) ⟨aq,a_,a_,⟨aq,hC⟩,a_⟩
def Rkd(p l:List Nat):Prop:=∃rk:Nat→Nat,∀u,u∈l→rk u<l.length∧∀v,(p.getD u 0).testBit v=true→v∈l∧rk v<rk u
omit hl h64 hn in
theorem Rkd.put{l:List Nat}{u:Nat}(h:Rkd p l)(hu:u∉l)(hp: ∀v,(p.getD u 0).testBit v=true→v∈l):Rkd p (l++[u]):=by
 obtain⟨rk,hr⟩:=h
 refine⟨fun x=>if x=u then l.length else rk x,fun x hx=>?_⟩
 grind
theorem Qlj(hac: ¬Acy p)(C:List V)(hC:HfL C):
  Sat Pg none 0 (at' 106 [1,0,1,1,1,1,1,0,1,0]) (mkSt g0 95 (rd3 p n C (0,0))) (Qae g0 95 [(True,.ret,bad7)]):=by
 have hp:=Qag p
 refine Qaw vE_ok Qaf Qab (b:=at' 106 [1,0,1,1,1,1,1,0,1,0,0]) (by kernel_rfl) (fun q=>q.1≤n∧∃l:List Nat,l.Nodup∧l.length=q.1∧(∀x∈l,x<n)∧SetOf l q.2∧Rkd p l) (rd3 p n C) (fun q=>n-q.1) (fun q hq=>?_) (0,0) ⟨Nat.zero_le _,[],List.nodup_nil,rfl,fun x hx=>(by cases hx),fun b=>by simp,fun _=>0,fun u hu=>(by cases hu)⟩
 obtain⟨i,s⟩:=q
 obtain⟨hi,l,h1,h2,h3,h4,h5⟩:=hq
 dsimp only at hi h2 h4
 have hs2:s<2^n:=h4.lt h3
 have hs:s<18446744073709551616:=Nat.lt_of_lt_of_le hs2 (Nat.pow_le_pow_right (n:=2) (by decide) (show n≤64 by omega))
 have hlt : i < n := by
  rcases Nat.lt_or_ge i n with h|h
  ·exact h
  ·obtain ⟨rk, hr⟩ := h5
   refine absurd ⟨rk,fun u hu v hv=>?_⟩ hac
   have hin: ∀x,x<n→x∈l:=fun x hx=>by
    by_cases hm:x∈l
    ·exact hm
    ·have h8 : ∀ y ∈ x :: l, y < n := fun y hy => by
      grind
     have:=(List.nodup_cons.2 ⟨hm,h1⟩)
     have h9:=List.Nodup.length_le_of_subset this (l₂:=List.range n) (fun y hy=>List.mem_range.2 (h8 y hy))
     grind
   grind
 by_cases hex: ∃k,k<n∧okN p s k
 ·obtain ⟨u, hu, hok, hmin⟩ := Qms hex
  have hf:=Qj9 p hl h64 n i s hn hs C hC u hu hok hmin
  have hul:u∉l:=fun hm=>by
   have:=hok.1
   rw[h4 u,decide_eq_true hm]at this
   cases this
  have hpl: ∀v,(p.getD u 0).testBit v=true→v∈l:=fun v hv=>by
   have e:(mi (p.getD u 0) s).testBit v=false:=by rw[hok.2];exact Nat.zero_testBit v
   rw[Qep (h64.get u) hs,hv,Bool.true_and]at e
   rw[h4 v]at e
   simpa using e
  have hnext:(fun q:Nat×Nat=>q.1≤n∧∃l:List Nat,l.Nodup∧l.length=q.1∧(∀x∈l,x<n)∧SetOf l q.2∧Rkd p l) (i+1,s|||2^u):=by
   refine⟨hlt,l++[u],?_,by simp;omega,fun x hx=>?_,h4.put,h5.put p hul hpl⟩
   ·grind
   ·grind
  generalize s|||2^u=s' at*
  refine .inl ⟨(i+1,s'),[0,1,2],[yes 66,(0,.loop [0,1,2] (rd4 p n i s C 0) [(True,.exit 5,rd3 p n C (i,s'))]),nu 93 ((i+1:Nat):Int)],1000,hnext,by omega,?_⟩
  clear hnext hmin hok hul
  exact m_ (p:=let z4:=An [Sm p.length,Sm (ut p)];let z5:=An [z4,An [Zz,Sm p.length,Sm (n-n)],Tt];let z0:=(↑n:Int);let z1:=[V.nils,V.nils];let z2:=(↑(i+1):Int);let z3:=(↑i:Int);An [decide (z3<z0)=true,An [An [z4,Zz,Zz,Sm (↑s:Int),z0=z0,z3=z3,z4,z0=(↑p.length:Int),(↑(0:Nat):Int)=(0:Int),Tt],An [z1=z1,TT 2],An [C=C,_],z5,Tt],_,(True->An [wr .i64 (z3+(1:Int))=z2,An [z4,Zz,Zz,Sm (↑s':Int),z0=z0,z2=z2,Tt],An [z1=z1,TT 2],An [C=C,_],z5,Tt]),Tt]) ⟨aq,⟨a_,a_,⟨aq,hC⟩,a_⟩,hf,(fun _=>⟨aq,a_,a_,⟨aq,hC⟩,a_⟩),aq⟩
 ·have hf := Qrx p hl h64 n hn i s hs C hC (fun k hk ho => hex ⟨k, hk, ho⟩)
  refine .inr ⟨.ret,[0],bad7,[yes 66,(0,.loop [0,1,2] (rd4 p n i s C 0) [(True,.exit 6,rd3 p n C (i,s))])],1000,.inl ⟨trivial,rfl,rfl⟩,?_⟩
  clear h1 h2 h3 h4 h5 hex hac
  exact m_ (p:=let z0:=An [Sm p.length,Sm (ut p)];let z1:=(↑n:Int);An [decide ((↑i:Int)<z1)=true,An [An [z0,Zz,Zz,Sm (↑s:Int),Sm z1,Sm (↑i:Int),z0,z1=(↑p.length:Int),(↑(0:Nat):Int)=(0:Int),Tt],An [Sm [V.nils,V.nils],TT 2],An [C=C,_],An [z0,An [Zz,Sm p.length,Sm (n-n)],Tt],Tt],_,(True->An [An [Zz,Sm (70:Int),Tt],TT 2,Tt]),Tt]) ⟨aq,⟨a_,a_,⟨aq,hC⟩,a_⟩,hf,a_⟩
end
theorem r7_iff{p:List Nat}:r7B p=true↔(1≤p.length∧p.length≤8)∧(∀k,k<p.length→p.getD k 0/2^p.length=0)∧Acy p:=by
 unfold r7B
 simp only[Bool.and_eq_true,decide_eq_true_eq]
 constructor
 ·rintro ⟨⟨⟨a1, a2⟩, a3⟩, a4⟩
  have b3: ∀k,k<p.length→p.getD k 0/2^p.length=0:=fun k hk=>of_decide_eq_true (List.all_eq_true.1 a3 k (List.mem_range.2 hk))
  grind[Qe2,Nat.div_eq_zero_iff_lt]
 ·rintro ⟨⟨a1, a2⟩, b3, b4⟩
  exact⟨⟨⟨a1,a2⟩,Qbs fun k hk=>decide_eq_true (b3 k hk)⟩,(Qe2 fun k hk=>(Nat.div_eq_zero_iff_lt (Nat.two_pow_pos _)).1 (b3 k hk)).2 b4⟩
theorem Qrv(p:List Nat)(h64:S64 p)(h:r7B p=false):FnOk Pg g0 106 [ul p] Qnq:=by
 by_cases hlen:1≤p.length∧p.length≤8
 ·have hp := Qag p
  have hA:uF (chR p 0) p.length=rep p.length [u6 0]:=Qbn p.length
  have hn8:(p.length:Int)≤8:=by omega
  by_cases hW: ∀k,k<p.length→p.getD k 0/2^p.length=0
  ·have hac : ¬ Acy p := fun ha => by grind[r7_iff]
   have h1:=Qka p (by omega) h64 p.length rfl hW _ _ rfl rfl
   rw[hA]at h1
   have hCf:=Qak (chR p p.length) p.length
   have hRf:HfL (rep p.length [u6 0]):=by rw[←Qbn (p:=p)];exact Qak _ _
   generalize uF (chR p p.length) p.length=C at*
   have h2:=Qlj p (by omega) h64 p.length rfl hac C hCf
   generalize hn:p.length=n at*
   refine FnOk.of_vc vE_ok Qaf Qab (n:=1000) (r:=[0]) (S:=bad7) (hs:=[no 13,no 17,mk 24,(0,.loop [0,1,2] (rd1 p n (0,rep n [u6 0])) [(True,.exit 0,rd1 p n (n,C))]),(0,.loop [0,1,2] (rd3 p n C (0,0)) [(True,.ret,bad7)])]) ?_
   exact m_ (p:=let z5:=An [Sm p.length,Sm (ut p)];let z0:=(↑p.length:Int);let z1:=[V.nils,V.nils];let z2:=(↑(0:Nat):Int);let z4:=(0:Int);An [V.tup [V.agg z1,i6 70]=Qnq,decide (z0<(1:Int))=false,decide (z0>(8:Int))=false,An [z4≤z0,z0≤z0,(↑(8:Nat):Int)*z0≤(281474976710656:Int),z0≤(9223372036854775807:Int)],An [An [z5,Zz,Zz,z5,(↑n:Int)=z0,z2=z4,Tt],An [z1=z1,TT 2],An [(rep n [u6 0])=rep p.length [u6 0],_],An [z5,An [Zz,Sm p.length,n-n=p.length-p.length],Tt],Tt],_,(True->An [An [An [z5,Zz,Zz,z2=z4,(↑n:Int)=z0,z2=z4,Tt],An [z1=z1,TT 2],An [C=C,_],An [z5,An [Zz,Sm p.length,Sm (n-n)],Tt],Tt],_,(True->An [An [Zz,Sm (70:Int),Tt],TT 2,Tt]),Tt]),Tt]) ⟨aq,aq,aq,a_,⟨a_,a_,⟨aq,hRf⟩,a_⟩,h1,(fun _=>⟨⟨a_,a_,⟨aq,hCf⟩,a_⟩,h2,a_⟩),aq⟩
  ·obtain ⟨K, hK, hX, hlow⟩ : ∃ k, k < p.length ∧ p.getD k 0 / 2 ^ p.length ≠ 0 ∧ ∀ i, i < k → ¬ (p.getD i 0 / 2 ^ p.length ≠ 0) := by
    grind
   have h1:=Qoe p (by omega) h64 p.length rfl K hK hX (fun k hk=>by
    simp_all) _ rfl
   rw[hA]at h1
   have hRf:HfL (rep p.length [u6 0]):=by rw[←Qbn (p:=p)];exact Qak _ _
   clear hX hlow hW
   generalize hn:p.length=n at*
   refine FnOk.of_vc vE_ok Qaf Qab (n:=1000) (r:=[0]) (S:=bad7) (hs:=[no 13,no 17,mk 24,(0,.loop [0,1,2] (rd1 p n (0,rep n [u6 0])) [(True,.ret,bad7)])]) ?_
   exact m_ (p:=let z3:=An [Sm p.length,Sm (ut p)];let z0:=(↑p.length:Int);let z1:=[V.nils,V.nils];An [V.tup [V.agg z1,i6 70]=Qnq,decide (z0<(1:Int))=false,decide (z0>(8:Int))=false,An [(0:Int)≤z0,z0≤z0,(↑(8:Nat):Int)*z0≤(281474976710656:Int),z0≤(9223372036854775807:Int)],An [An [z3,Zz,Zz,z3,(↑n:Int)=z0,(↑(0:Nat):Int)=(0:Int),Tt],An [z1=z1,TT 2],An [(rep n [u6 0])=rep p.length [u6 0],_],An [z3,An [Zz,Sm p.length,n-n=p.length-p.length],Tt],Tt],_,(True->An [An [Zz,Sm (70:Int),Tt],TT 2,Tt]),Tt]) ⟨aq,aq,aq,a_,⟨a_,a_,⟨aq,hRf⟩,a_⟩,h1,a_⟩
 ·exact read_len p hlen
theorem scheckX(p:List Nat)(h64:S64 p)(h:r7B p=false):FnOk Pg g0 64 [ul p] (i6 70):=by
 have hp:=Qag p
 have h1:=Qrv p h64 h
 refine FnOk.of_vc vE_ok Qaf Qab (n:=1000) (r:=[]) (S:={sl:=[(2,i6 70)]}) (hs:=[fn 7 (.tup [.agg [.nils,.nils],i6 70])]) ?_
 exact m_ (p:=An [Sm (i6 70),An [Tt,Tt],_,Tt,An [Sm (70:Int),Tt],Tt]) ⟨aq,a_,h1,a_⟩
theorem scheckY(p:List Nat)(h64:S64 p)(h:r7B p=true):FnOk Pg g0 64 [ul p] (i6 0):=by
 obtain⟨⟨a1,a2⟩,a3,a4⟩:=r7_iff.1 h
 exact Qkf p a2 a1 h64 a4 a3
abbrev okE9:SL:={sl:=[(4,i6 350)]}
section
variable (j:List Nat) (h64:S64 j) (n:Nat) (hn:j.length=n) (h5:n≤8)
include h64 hn h5
theorem ckX_in(k x:Nat)(hk:k<n)(hx:j.getD k 0=x):
  Sat Pg none 0 (at' 21 [1,1,1,0,1,0,0,1,1,0,0,1,1,1,0]) (mkSt g0 61 (ck2 j n k x 0)) (Qae g0 61 [((List.range n).all (jIn j k)=true,.exit 2,ck2 j n k x n),((List.range n).all (jIn j k)=false,.ret,okE9)]):=by
 have hj:=Qag j
 refine Qaw vE_ok Qaf Qab (b:=at' 21 [1,1,1,0,1,0,0,1,1,0,0,1,1,1,0,0]) (by kernel_rfl) (fun m=>m≤n∧∀i,i<m→jIn j k i=true) (ck2 j n k x) (fun m=>n-m) (fun m hm=>?_) 0 ⟨Nat.zero_le _,fun i h=>absurd h (Nat.not_lt_zero _)⟩
 obtain⟨hm,hin⟩:=hm
 by_cases hlt:m<n
 ·have s0 := Qa0 (l := j) (k := m) (by omega)
  have s1:=Qc5 (G:=Qac Pg) (t:=29) (x:=x) (k:=m) (by omega)
  have s2:=Qc6 (G:=Qac Pg) (t:=29) (x:=x/2^m)
  have s3:=Qc5 (G:=Qac Pg) (t:=29) (x:=j.getD m 0) (k:=k) (by omega)
  have s4:=Qc6 (G:=Qac Pg) (t:=29) (x:=j.getD m 0/2^k)
  have e:jIn j k m=(x.testBit m==(j.getD m 0).testBit k):=by rw[←hx];rfl
  have b1:=Qbx x m
  have b2:=Qbx (j.getD m 0) k
  have hnx:jIn j k m=true→∀i,i<m+1→jIn j k i=true:=fun hx i hi=>by
   grind
  have hno:jIn j k m=false→(List.range n).all (jIn j k)=false:=fun hx=>Qf1 hlt hx
  by_cases he:x.testBit m=(j.getD m 0).testBit k
  ·have hnx := hnx (by simp_all)
   have e2:x/2^m%2=j.getD m 0/2^k%2:=by rw[b1,b2,he]
   rw[←e2]at s4
   clear e e2 b1 b2 hno he hin
   generalize j.getD m 0=y at*
   generalize y/2^k=y1 at*
   generalize x/2^m=x1 at*
   generalize x1%2=x2 at*
   refine .inl ⟨m+1,[],[yes 46,pl 48,ld 49 (u6 (y:Nat)),va 52 (u6 (x1:Nat)),va 53 (u6 (x2:Nat)),va 56 (u6 (y1:Nat)),va 57 (u6 (x2:Nat)),no 58,nu 59 ((m+1:Nat):Int)],1000,⟨by omega,hnx⟩,by omega,?_⟩
   clear hnx
   exact m_ (p:=let z5:=An [Sm j.length,Sm (ut j)];let z0:=(↑n:Int);let z2:=(↑(m+1):Int);let z3:=(↑m:Int);let z4:=(↑k:Int);An [decide (z3<z0)=true,An [(0:Int)≤z3,z3<(↑j.length:Int)],_,_,_,_,_,((↑x2:Int) != (↑x2:Int))=false,wr .i64 (z3+(1:Int))=z2,An [z5,z0=z0,z5,z0=z0,z4=z4,z4=z4,Sm (↑x:Int),z5,z0=z0,z2=z2,Tt],Tt]) ⟨aq,a_,s0,s1,s2,s3,s4,a_⟩
  ·have hf := hno (by
    simp_all)
   have e2:x/2^m%2≠j.getD m 0/2^k%2:=by
    rw[b1,b2]
    cases hx:x.testBit m<;>cases hy:(j.getD m 0).testBit k<;>first|decide|exact absurd (hx.trans hy.symm) he
   clear e b1 b2 hno he hin hnx
   generalize j.getD m 0=y at*
   generalize y/2^k=y1 at*
   generalize x/2^m=x1 at*
   generalize x1%2=x2 at*
   generalize y1%2=y2 at*
   refine .inr ⟨.ret,[],okE9,[yes 46,pl 48,ld 49 (u6 (y:Nat)),va 52 (u6 (x1:Nat)),va 53 (u6 (x2:Nat)),va 56 (u6 (y1:Nat)),va 57 (u6 (y2:Nat)),yes 58],1000,.inr (.inl ⟨hf,rfl,rfl⟩),?_⟩
   clear hf
   exact m_ (p:=let z1:=(↑m:Int);An [decide (z1<(↑n:Int))=true,An [(0:Int)≤z1,z1<(↑j.length:Int)],_,_,_,_,_,((↑x2:Int) != (↑y2:Int))=true,An [Sm (350:Int),Tt],Tt]) ⟨aq,a_,s0,s1,s2,s3,s4,a_⟩
 ·obtain rfl : m = n := by omega
  have hf:(List.range m).all (jIn j k)=true:=Qbs hin
  refine .inr ⟨.exit 2,[],ck2 j m k x m,[no 46],1000,.inl ⟨hf,rfl,rfl⟩,?_⟩
  clear hf hin
  refine Eq.mp (by kernel_rfl:(let z2:=An [Sm j.length,Sm (ut j)];let z0:=(↑m:Int);let z1:=(↑k:Int);An [decide (z0<z0)=false,An [z2,z0=z0,z2,z0=z0,z1=z1,z1=z1,Sm (↑x:Int),z2,z0=z0,z0=z0,Tt],Tt])=_) ?_
  (repeat'(first|(with_reducible apply And.intro)|(refine fun(_:True)=>?_)))<;>first|exact aq|skip
  all_goals skip
theorem ckX_out(hX:jAl j=false):
  Sat Pg none 0 (at' 21 [1,1,1,0,1,0]) (mkSt g0 61 (ck1 j n 0)) (Qae g0 61 [(True,.ret,okE9)]):=by
 have hj:=Qag j
 refine Qaw vE_ok Qaf Qab (b:=at' 21 [1,1,1,0,1,0,0]) (by kernel_rfl) (fun k=>k≤n∧∀i,i<k→jAt j i=true) (ck1 j n) (fun k=>n-k) (fun k hk=>?_) 0 ⟨Nat.zero_le _,fun i h=>absurd h (Nat.not_lt_zero _)⟩
 obtain⟨hk,hin⟩:=hk
 have hlt:k<n:=by
  rcases Nat.lt_or_ge k n with h|h
  ·exact h
  ·grind[jAl]
 have s0:=Qa0 (l:=j) (k:=k) (by omega)
 have s1:=Qc5 (G:=Qac Pg) (t:=29) (x:=j.getD k 0) (k:=n) (by omega)
 have s2:=Qc5 (G:=Qac Pg) (t:=29) (x:=j.getD k 0) (k:=k) (by omega)
 have s3:=Qc6 (G:=Qac Pg) (t:=29) (x:=j.getD k 0/2^k)
 have hl:=ckX_in j h64 n hn h5 k (j.getD k 0) hlt rfl
 have e:jAt j k=(decide (j.getD k 0/2^n=0)&& !(j.getD k 0).testBit k&&(List.range n).all (jIn j k)):=by rw[←hn];rfl
 have hnx:jAt j k=true→∀i,i<k+1→jAt j i=true:=fun hx i hi=>by
  grind
 by_cases h0:j.getD k 0/2^n=0
 ·rw [h0] at s1
  cases hb:(j.getD k 0).testBit k with
  |true=>
   have hbe:j.getD k 0/2^k%2=1:=by rw[Qbx,hb];rfl
   rw[hbe]at s3
   clear e hnx hin hl hb hbe h0
   generalize j.getD k 0=x at*
   generalize x/2^k=x1 at*
   refine .inr ⟨.ret,[],okE9,[yes 28,pl 30,ld 31 (u6 (x:Nat)),va 34 (u6 (0:Nat)),no 35,va 39 (u6 (x1:Nat)),va 40 (u6 (1:Nat)),yes 41],1000,.inl ⟨trivial,rfl,rfl⟩,?_⟩
   exact m_ (p:=let z1:=(↑k:Int);An [decide (z1<(↑n:Int))=true,An [(0:Int)≤z1,z1<(↑j.length:Int)],_,_,((↑(0:Nat):Int) != (0:Int))=false,_,_,((↑(1:Nat):Int)==(1:Int))=true,An [Sm (350:Int),Tt],Tt]) ⟨aq,a_,s0,s1,aq,s2,s3,a_⟩
  | false =>
   have hbe:j.getD k 0/2^k%2=0:=by rw[Qbx,hb];rfl
   rw[hbe]at s3
   cases hc:(List.range n).all (jIn j k)with
   |true=>
    have hnx:=hnx (by simp_all)
    rw[hc]at hl
    have hl':Sat Pg none 0 (at' 21 [1,1,1,0,1,0,0,1,1,0,0,1,1,1,0]) (mkSt g0 61 (ck2 j n k (j.getD k 0) 0)) (Qae g0 61 [(True,.exit 2,ck2 j n k (j.getD k 0) n),(False,.ret,okE9)]):=by simpa using hl
    clear e hl hb hbe h0 hc
    generalize j.getD k 0=x at*
    generalize x/2^k=x1 at*
    refine .inl ⟨k+1,[],[yes 28,pl 30,ld 31 (u6 (x:Nat)),va 34 (u6 (0:Nat)),no 35,va 39 (u6 (x1:Nat)),va 40 (u6 (0:Nat)),no 41,(0,.loop [] (ck2 j n k x 0) [(True,.exit 2,ck2 j n k x n),(False,.ret,okE9)]),nu 60 ((k+1:Nat):Int)],1000,⟨hlt,hnx⟩,by omega,?_⟩
    clear hnx hin
    exact m_ (p:=let z6:=An [Sm j.length,Sm (ut j)];let z0:=(↑n:Int);let z1:=(↑k:Int);let z2:=(↑(0:Nat):Int);let z4:=(↑(k+1):Int);An [decide (z1<z0)=true,An [(0:Int)≤z1,z1<(↑j.length:Int)],_,_,(z2 != (0:Int))=false,_,_,(z2==(1:Int))=false,An [An [z6,z0=z0,z6,z0=z0,z1=z1,z1=z1,Sm (↑x:Int),z6,z0=(↑j.length:Int),z2=(0:Int),Tt],Tt],_,(True->An [wr .i64 (z1+(1:Int))=z4,An [z6,z0=z0,z6,z0=z0,z4=z4,Tt],Tt]),False→False,Tt]) ⟨aq,a_,s0,s1,aq,s2,s3,aq,a_,hl',a_⟩
   |false=>
    rw[hc]at hl
    have hl':Sat Pg none 0 (at' 21 [1,1,1,0,1,0,0,1,1,0,0,1,1,1,0]) (mkSt g0 61 (ck2 j n k (j.getD k 0) 0)) (Qae g0 61 [(True,.ret,okE9)]):=by simpa [Qae]using hl
    clear e hl hb hbe h0 hc hnx hin
    generalize j.getD k 0=x at*
    generalize x/2^k=x1 at*
    refine .inr ⟨.ret,[],okE9,[yes 28,pl 30,ld 31 (u6 (x:Nat)),va 34 (u6 (0:Nat)),no 35,va 39 (u6 (x1:Nat)),va 40 (u6 (0:Nat)),no 41,(0,.loop [] (ck2 j n k x 0) [(True,.ret,okE9)])],1000,.inl ⟨trivial,rfl,rfl⟩,?_⟩
    exact m_ (p:=let z5:=An [Sm j.length,Sm (ut j)];let z0:=(↑k:Int);let z1:=(↑n:Int);let z2:=(↑(0:Nat):Int);An [decide (z0<z1)=true,An [(0:Int)≤z0,z0<(↑j.length:Int)],_,_,(z2 != (0:Int))=false,_,_,(z2==(1:Int))=false,An [An [z5,z1=z1,z5,z1=z1,z0=z0,z0=z0,Sm (↑x:Int),z5,z1=(↑j.length:Int),z2=(0:Int),Tt],Tt],_,(True->An [An [Sm (350:Int),Tt],Tt]),Tt]) ⟨aq,a_,s0,s1,aq,s2,s3,aq,a_,hl',a_⟩
 ·clear e hnx hin hl
  generalize j.getD k 0/2^n=z at*
  generalize j.getD k 0=x at*
  refine .inr ⟨.ret,[],okE9,[yes 28,pl 30,ld 31 (u6 (x:Nat)),va 34 (u6 (z:Nat)),yes 35],1000,.inl ⟨trivial,rfl,rfl⟩,?_⟩
  exact m_ (p:=let z0:=(↑k:Int);An [decide (z0<(↑n:Int))=true,An [(0:Int)≤z0,z0<(↑j.length:Int)],_,_,((↑z:Int) != (0:Int))=true,An [Sm (350:Int),Tt],Tt]) ⟨aq,a_,s0,s1,a_⟩
end
theorem Qpj(p j:List Nat)(hp64:S64 p)(hj64:S64 j)(h:rightB p j=false):FnOk Pg g0 21 [ul p,ul j] (i6 350):=by
 have hp:=Qag p
 have hj:=Qag j
 by_cases h5:p.length≤5
 ·cases h7 : r7B p with
  |false=>
   have h1:=scheckX p hp64 h7
   have h1':FnOk Pg g0 64 [.im p.length (ut p)] (i6 70):=h1
   show FnOk Pg g0 21 [.im p.length (ut p),.im j.length (ut j)] _
   clear h h7 h1
   generalize j.length=m at*
   generalize p.length=n at*
   refine FnOk.of_vc vE_ok Qaf Qab (n:=1000) (r:=[]) (S:=okE9) (hs:=[no 13,fn 16 (i6 70),yes 17]) ?_
   exact m_ (p:=An [Sm (i6 350),decide ((↑n:Int)>(5:Int))=false,An [Tt,Tt],_,Tt,((70:Int) != (0:Int))=true,An [Sm (350:Int),Tt],Tt]) ⟨aq,aq,a_,h1',a_⟩
  | true =>
   have h1:=scheckY p hp64 h7
   have h1':FnOk Pg g0 64 [.im p.length (ut p)] (i6 0):=h1
   by_cases hl:j.length=p.length
   ·have hX : jAl j = false := by
     unfold rightB at h
     rw[h7,decide_eq_true h5,decide_eq_true hl]at h
     exact h
    have h2:=ckX_out j hj64 j.length rfl (by omega) hX
    have h5n:j.length≤5:=by omega
    show FnOk Pg g0 21 [.im p.length (ut p),.im j.length (ut j)] _
    unfold ck1 ul at h2
    rw[←hl]at h1'⊢
    clear h h7 h1 hX h5 hl
    generalize j.length=n at*
    refine FnOk.of_vc vE_ok Qaf Qab (n:=1000) (r:=[]) (S:=okE9) (hs:=[no 13,fn 16 (i6 0),no 17,no 23,(0,.loop [] {sl:=[(1,.im n (ut j)),(5,i6 (n:Nat)),(25,.im n (ut j)),(26,i6 (n:Nat)),(27,i6 (0:Nat))]} [(True,.ret,okE9)])]) ?_
    exact m_ (p:=let z0:=(↑n:Int);An [Sm (i6 350),decide (z0>(5:Int))=false,An [Tt,Tt],_,Tt,((0:Int) != (0:Int))=false,(z0 != z0)=false,An [An [An [n=n,Sm (ut j)],z0=z0,An [n=n,Sm (ut j)],z0=z0,(↑(0:Nat):Int)=(0:Int),Tt],Tt],_,(True->An [An [Sm (350:Int),Tt],Tt]),Tt]) ⟨aq,aq,a_,h1',aq,aq,aq,a_,h2,a_⟩
   ·show FnOk Pg g0 21 [.im p.length (ut p), .im j.length (ut j)] _
    clear h h7 h1
    generalize j.length=m at*
    generalize p.length=n at*
    refine FnOk.of_vc vE_ok Qaf Qab (n:=1000) (r:=[]) (S:=okE9) (hs:=[no 13,fn 16 (i6 0),no 17,yes 23]) ?_
    exact m_ (p:=An [Sm (i6 350),decide ((↑n:Int)>(5:Int))=false,An [Tt,Tt],_,Tt,((0:Int) != (0:Int))=false,((↑m:Int) != (↑n:Int))=true,An [Sm (350:Int),Tt],Tt]) ⟨aq,aq,a_,h1',a_⟩
 ·show FnOk Pg g0 21 [.im p.length (ut p), .im j.length (ut j)] _
  clear h
  generalize j.length=m at*
  generalize p.length=n at*
  refine FnOk.of_vc vE_ok Qaf Qab (n:=1000) (r:=[]) (S:=okE9) (hs:=[yes 13]) ?_
  refine Eq.mp (by kernel_rfl:(An [Sm (i6 350),decide ((↑n:Int)>(5:Int))=true,An [Sm (350:Int),Tt],Tt])=_) ?_
  (repeat'(first|(with_reducible apply And.intro)|(refine fun(_:True)=>?_)))<;>first|exact aq|skip
  all_goals first|omega|(simp;omega)|skip
def pL(N:List Mc):List Nat:=(List.range N.length).map (grP N)
def jL(N:List Mc):List Nat:=(List.range N.length).map (grJ N)
theorem Qet(N:List Mc):(pL N).length=N.length:=by simp[pL]
theorem jL_len(N:List Mc):(jL N).length=N.length:=by simp[jL]
theorem pL_ut(N:List Mc):uF (grP N) N.length=ut (pL N):=by unfold uF ut pL;rw[List.map_map];rfl
theorem jL_ut(N:List Mc):uF (grJ N) N.length=ut (jL N):=by unfold uF ut jL;rw[List.map_map];rfl
theorem Qm4{N:List Mc}{k:Nat}(h:k<N.length):(pL N).getD k 0=grP N k:=by
 unfold pL
 rw[List.getD_eq_getElem?_getD,List.getElem?_map,List.getElem?_range h];rfl
theorem pL_64{N:List Mc}(h:SmN N):S64 (pL N):=fun x hx=>by
 obtain⟨k,hk,rfl⟩:=List.mem_map.1 hx
 exact grP_sm N h (List.mem_range.1 hk)
theorem jL_64{N:List Mc}(h:SmN N):S64 (jL N):=fun x hx=>by
 obtain⟨k,hk,rfl⟩:=List.mem_map.1 hx
 exact Qjv N.length (by have:=h.q;omega)
section
variable {N:List Mc} (hq:1≤N.length∧N.length≤5) (hf: ∀k,k<N.length→Qbk (N.getD k mc0).fr N.length∧(N.getD k mc0).fr.length≤5)
include hq hf
theorem Qkx{u v:Nat}:(grP N u).testBit v=true↔∃i,i<(N.getD u mc0).fr.length∧((N.getD u mc0).fr.getD i 0).toNat=v:=Qiy _ (Nat.le_refl _)
theorem grP_n{u v:Nat}(hu:u<N.length)(h:(grP N u).testBit v=true):v<N.length:=by
 obtain⟨i,h1,h2⟩:=(Qkx hq hf).1 h
 have:=(hf u hu).1 i h1
 omega
theorem Qox(h:acyB N=true):Acy (pL N):=by
 obtain⟨rk,hr⟩:=rk_ex hq hf h
 refine⟨rk,fun u hu v hv=>?_⟩
 rw[Qet]at hu⊢
 rw[Qm4 hu]at hv
 refine⟨grP_n hq hf hu hv,?_⟩
 obtain⟨i,h1,h2⟩:=(Qkx hq hf).1 hv
 have:=(hr u hu).2 i h1
 rwa [h2]at this
theorem acyP_in(h:Acy (pL N)){k:Nat}(hk:k<N.length):inL k (N.getD k mc0).fr=false:=by
 obtain⟨rk,hr⟩:=h
 rw[Qkz]
 intro i hi e
 have hb:(grP N k).testBit k=true:=(Qkx hq hf).2 ⟨i,hi,by rw[e];rfl⟩
 have:=(hr k (by rw[Qet];exact hk) k (by rw[Qm4 hk];exact hb)).2
 omega
theorem grP_64{k:Nat}(hk:k<N.length):grP N k<18446744073709551616:=Qb8 (fun i hi=>by have:=(hf k hk).1 i hi;omega) _ (Nat.le_refl _)
theorem Qko{d:Nat}: ∀k,Sub d (acI N d k)
 |0=>.refl d
 |k+1=>by
  refine(Qko k).trans ?_
  show Sub _ (acT N (acI N d k) k)
  unfold acT
  split
  ·exact .orl
  ·exact .refl _
theorem Ql7{d k:Nat}: ∀m,Sub (acI N d k) (acI N d (k+m))
 |0=>.refl _
 |m+1=>by
  refine(Ql7 m).trans ?_
  show Sub _ (acT N (acI N d (k+m)) (k+m))
  unfold acT
  split
  ·exact .orl
  ·exact .refl _
theorem acI_n{d:Nat}(hd:d<2^N.length): ∀k,k≤N.length→acI N d k<2^N.length
 |0,_=>hd
 |k+1,hk=>by
  show acT N (acI N d k) k< _
  unfold acT
  split
  ·exact Nat.or_lt_two_pow (acI_n hd k (by omega)) (Nat.pow_lt_pow_right (by omega) (by omega))
  ·exact acI_n hd k (by omega)
theorem acO_n: ∀r,acO N r<2^N.length
 |0=>Nat.two_pow_pos _
 |r+1=>acI_n hq hf (acO_n r) _ (Nat.le_refl _)
theorem acyB_of(h:Acy (pL N)):acyB N=true:=by
 have h64:S64 (pL N):=fun x hx=>by
  obtain⟨k,hk,rfl⟩:=List.mem_map.1 hx
  exact grP_64 hq hf (List.mem_range.1 hk)
 have hpw: ∀r,acO N r<18446744073709551616:=Ql8 hq.2
 have key : ∀ r, r ≤ N.length → r ≤ ctB N.length (acO N r) := by
  intro r
  induction r with
  |zero=>intro _;exact Nat.zero_le _
  | succ r ih =>
   intro hr
   have ih:=ih (by omega)
   have hsub:Sub (acO N r) (acO N (r+1)):=Qko hq hf N.length
   by_cases hall: ∀i,i<N.length→(acO N r).testBit i=true
   ·have : N.length ≤ ctB N.length (acO N (r + 1)) := by
     unfold ctB
     have:(List.range N.length).countP (fun i=>(acO N (r+1)).testBit i)=(List.range N.length).length:=List.countP_eq_length.2 fun i hi=>hsub i (hall i (List.mem_range.1 hi))
     rw[List.length_range]at this
     omega
    omega
   ·obtain ⟨v, hv, hvb⟩ : ∃ v, v < (pL N).length ∧ (acO N r).testBit v = false := by
     by_cases hx: ∃v,v<(pL N).length∧(acO N r).testBit v=false
     ·exact hx
     ·refine absurd (fun i hi => ?_) hall
      cases hb:(acO N r).testBit i with
      |true=>rfl
      |false=>exact absurd ⟨i,by rw[Qet];exact hi,hb⟩ hx
    obtain⟨u,hu,hok,_⟩:=Ql9 h h64 (hpw r) ⟨v,hv,hvb⟩
    rw[Qet]at hu
    obtain⟨ho1,ho2⟩:=hok
    rw[Qm4 hu]at ho2
    have hu2:(acO N (r+1)).testBit u=true:=by
     have h1:(acI N (acO N r) (u+1)).testBit u=true:=by
      show(acT N (acI N (acO N r) u) u).testBit u=true
      have hm:mi (setI (N.getD u mc0).fr (N.getD u mc0).fr.length) (acI N (acO N r) u)=0:=by
       have a1:=grP_64 hq hf hu
       have a2:=Qjb (N:=N) (hpw r) u (by omega)
       exact(Qk6 a1 a2).2 (((Qk6 a1 (hpw r)).1 ho2).trans (Qko hq hf u))
      unfold acT
      rw[if_pos hm,Nat.testBit_or,Nat.testBit_two_pow_self,Bool.or_true]
     have h2:=Ql7 hq hf (d:=acO N r) (k:=u+1) (N.length-(u+1)) u h1
     rw[show u+1+(N.length-(u+1))=N.length by omega]at h2
     exact h2
    have:=Qmh hsub hu ho1 hu2
    omega
 have hfull:=Qmg (key N.length (Nat.le_refl _))
 unfold acyB
 rw[decide_eq_true_eq]
 refine Nat.eq_of_testBit_eq fun i=>?_
 rw[Nat.testBit_two_pow_sub_one]
 by_cases hi:i<N.length
 ·rw[hfull i hi,decide_eq_true hi]
 ·rw[decide_eq_false hi,Nat.testBit_lt_two_pow (Nat.lt_of_lt_of_le (acO_n hq hf N.length) (Nat.pow_le_pow_right (by decide) (by omega)))]
theorem acP_iff:acR (pL N)=acyB N:=by
 have hp: ∀k,k<(pL N).length→(pL N).getD k 0<2^(pL N).length:=fun k hk=>by
  rw[Qet]at hk⊢
  rw[Qm4 hk]
  exact Qpa fun b hb=>grP_n hq hf hk hb
 cases h:acyB N with
 |true=>exact(Qe2 hp).2 (Qox hq hf h)
 |false=>
  cases h2:acR (pL N)with
  |false=>rfl
  |true=>rw[acyB_of hq hf ((Qe2 hp).1 h2)]at h;cases h
end
abbrev plS(L:List Int)(n:Int)(k:Nat):SL:={sl:=[(0,sl L),(1,i6 n),(5,i6 (k:Nat))]}
theorem Qld(L:List Int)(n:Int)(hl:L.length≤1000000):
  Sat Pg none 0 (at' 37 [1,0,1,0]) (mkSt g0 41 (plS L n 0)) (Qae g0 41 [(incB n L=true,.exit 0,{sl:=[]}),(incB n L=false,.ret,{sl:=[(4,.bool false)]})]):=by
 have hL:=Qad L
 refine Qaw vE_ok Qaf Qab (b:=at' 37 [1,0,1,0,0]) (by kernel_rfl) (fun k=>k≤L.length∧∀i,i<k→0≤L.getD i 0∧L.getD i 0<n∧(i=0∨L.getD (i-1) 0<L.getD i 0)) (plS L n) (fun k=>L.length-k) (fun k hk=>?_) 0 ⟨Nat.zero_le _,fun i h=>absurd h (Nat.not_lt_zero _)⟩
 obtain⟨hk,hin⟩:=hk
 by_cases hlt:k<L.length
 ·have hld := Qao hlt
  have bad:(¬(0≤L.getD k 0∧L.getD k 0<n∧(k=0∨L.getD (k-1) 0<L.getD k 0)))→incB n L=false:=fun hno=>by
   cases hb:incB n L with
   |false=>rfl
   |true=>exact absurd (Qcv.1 hb k hlt) hno
  have good:(0≤L.getD k 0∧L.getD k 0<n∧(k=0∨L.getD (k-1) 0<L.getD k 0))→∀i,i<k+1→0≤L.getD i 0∧L.getD i 0<n∧(i=0∨L.getD (i-1) 0<L.getD i 0):=fun h i hi=>by
   by_cases hik:i=k
   ·subst hik;exact h
   ·exact hin i (by omega)
  by_cases h1:0≤L.getD k 0
  ·by_cases h2 : L.getD k 0 < n
   ·by_cases h0 : k = 0
    ·subst h0
     have hg:=good ⟨h1,h2,.inl rfl⟩
     refine .inl ⟨1,[],[yes 9,pl 14,ld 15 (i6 (L.getD 0 0)),no 16,pl 20,ld 21 (i6 (L.getD 0 0)),no 23,no 27,nu 11 ((1:Nat):Int)],1000,⟨hlt,hg⟩,by omega,?_⟩
     clear hin bad good hg
     generalize L.getD 0 0=x at*
     exact m_ (p:=let z0:=(↑(0:Nat):Int);let z1:=(↑(1:Nat):Int);let z2:=(↑L.length:Int);let z4:=(0:Int);An [decide (z0<z2)=true,An [z4≤z0,z0<z2],_,decide (x<z4)=false,An [z4≤z0,z0<z2],_,decide (x≥n)=false,decide (z0>z4)=false,wr .i64 (z0+(1:Int))=z1,An [An [Sm L.length,Sm (ints L)],n=n,z1=z1,Tt],Tt]) ⟨aq,a_,hld,aq,a_,hld,a_⟩
    ·have hld2 := Qao (l := L) (k := k - 1) (by omega)
     obtain⟨q,hq⟩: ∃q,q=k-1:=⟨_,rfl⟩
     have ek:k=q+1:=by omega
     by_cases h3:L.getD (k-1) 0<L.getD k 0
     ·have hg := good ⟨h1, h2, .inr h3⟩
      refine .inl ⟨k+1,[],[yes 9,pl 14,ld 15 (i6 (L.getD k 0)),no 16,pl 20,ld 21 (i6 (L.getD k 0)),no 23,yes 27,pl 31,ld 32 (i6 (L.getD k 0)),nu 35 (q:Nat),pl 36,ld 37 (i6 (L.getD (k-1) 0)),no 38,nu 11 ((k+1:Nat):Int)],1000,⟨hlt,hg⟩,by omega,?_⟩
      clear hin bad good hg
      rw[←hq]at hld2 h3⊢
      generalize L.getD k 0=x at*
      generalize L.getD q 0=y at*
      exact m_ (p:=let z0:=(↑k:Int);let z1:=(↑L.length:Int);let z3:=(0:Int);let z4:=(↑(k+1):Int);let z5:=(↑q:Int);An [decide (z0<z1)=true,An [z3≤z0,z0<z1],_,decide (x<z3)=false,An [z3≤z0,z0<z1],_,decide (x≥n)=false,decide (z0>z3)=true,An [z3≤z0,z0<z1],_,wr .i64 (z0-(1:Int))=z5,An [z3≤z5,z5<z1],_,decide (x≤y)=false,wr .i64 (z0+(1:Int))=z4,An [An [Sm L.length,Sm (ints L)],n=n,z4=z4,Tt],Tt]) ⟨aq,a_,hld,aq,a_,hld,aq,aq,a_,hld,aq,a_,hld2,a_⟩
     ·have hf := bad (fun ⟨_, _, h⟩ => h.elim h0 h3)
      refine .inr ⟨.ret,[],{sl:=[(4,.bool false)]},[yes 9,pl 14,ld 15 (i6 (L.getD k 0)),no 16,pl 20,ld 21 (i6 (L.getD k 0)),no 23,yes 27,pl 31,ld 32 (i6 (L.getD k 0)),nu 35 (q:Nat),pl 36,ld 37 (i6 (L.getD (k-1) 0)),yes 38],1000,.inr (.inl ⟨hf,rfl,rfl⟩),?_⟩
      clear hin bad good
      rw[←hq]at hld2 h3⊢
      generalize L.getD k 0=x at*
      generalize L.getD q 0=y at*
      exact m_ (p:=let z0:=(↑k:Int);let z1:=(↑L.length:Int);let z3:=(0:Int);let z4:=(↑q:Int);An [decide (z0<z1)=true,An [z3≤z0,z0<z1],_,decide (x<z3)=false,An [z3≤z0,z0<z1],_,decide (x≥n)=false,decide (z0>z3)=true,An [z3≤z0,z0<z1],_,wr .i64 (z0-(1:Int))=z4,An [z3≤z4,z4<z1],_,decide (x≤y)=true,An [Sm false,Tt],Tt]) ⟨aq,a_,hld,aq,a_,hld,aq,aq,a_,hld,aq,a_,hld2,a_⟩
   ·have hf := bad (fun ⟨_, h, _⟩ => h2 h)
    refine .inr ⟨.ret,[],{sl:=[(4,.bool false)]},[yes 9,pl 14,ld 15 (i6 (L.getD k 0)),no 16,pl 20,ld 21 (i6 (L.getD k 0)),yes 23],1000,.inr (.inl ⟨hf,rfl,rfl⟩),?_⟩
    clear hin bad good
    generalize L.getD k 0=x at*
    exact m_ (p:=let z0:=(↑k:Int);let z1:=(↑L.length:Int);An [decide (z0<z1)=true,An [(0:Int)≤z0,z0<z1],_,decide (x<(0:Int))=false,An [(0:Int)≤z0,z0<z1],_,decide (x≥n)=true,An [Sm false,Tt],Tt]) ⟨aq,a_,hld,aq,a_,hld,a_⟩
  ·have hf := bad (fun ⟨h, _⟩ => h1 h)
   refine .inr ⟨.ret,[],{sl:=[(4,.bool false)]},[yes 9,pl 14,ld 15 (i6 (L.getD k 0)),yes 16],1000,.inr (.inl ⟨hf,rfl,rfl⟩),?_⟩
   clear hin bad good
   generalize L.getD k 0=x at*
   exact m_ (p:=let z0:=(↑k:Int);An [decide (z0<(↑L.length:Int))=true,An [(0:Int)≤z0,z0<(↑L.length:Int)],_,decide (x<(0:Int))=true,An [Sm false,Tt],Tt]) ⟨aq,a_,hld,a_⟩
 ·have hk2 : k = L.length := by omega
  subst hk2
  refine .inr ⟨.exit 0,[],{sl:=[]},[no 9],1000,.inl ⟨Qcv.2 hin,rfl,rfl⟩,?_⟩
  clear hin
  refine Eq.mp (by kernel_rfl:(An [decide ((↑L.length:Int)<(↑L.length:Int))=false,Tt,Tt])=_) ?_
  (repeat'(first|(with_reducible apply And.intro)|(refine fun(_:True)=>?_)))<;>first|exact aq|skip
  all_goals first|omega|(simp;omega)|skip
theorem Qj6(L:List Int)(n:Int)(hl:L.length≤1000000):FnOk Pg g0 37 [sl L,i6 n] (.bool (incB n L)):=by
 have hL:=Qad L
 have h:=Qld L n hl
 generalize incB n L=b at*
 refine FnOk.of_vc vE_ok Qaf Qab (n:=1000) (r:=[]) (S:={sl:=[(4,.bool b)]}) (hs:=[(0,.loop [] (plS L n 0) [(b=true,.exit 0,{sl:=[]}),(b=false,.ret,{sl:=[(4,.bool false)]})])]) ?_
 exact m_ (p:=An [Sm (V.bool b),An [An [An [Sm L.length,Sm (ints L)],n=n,(↑(0:Nat):Int)=(0:Int),Tt],Tt],_,b=true→An [An [b=true,Tt],Tt],b=false→An [An [b=false,Tt],Tt],Tt]) ⟨aq,a_,h,a_⟩
def rtW(g:Int)(L:List Int)(k:Nat):Bool:=decide (0≤L.getD k 0)&&decide (L.getD k 0≤g-sumI (L.take k))
theorem rtB_eq{g:Int}{L:List Int}:rtB g L=(decide (1≤L.length)&&decide (L.length≤4)&&(List.range L.length).all (rtW g L)&&decide (g-sumI L=0)):=by
 have e: ∀a b:Bool,(a=true↔b=true)→a=b:=fun a b h=>by simp_all
 refine e _ _ ?_
 unfold rtB
 simp only[Bool.and_eq_true,decide_eq_true_eq]
 constructor
 ·rintro ⟨⟨h1, h2⟩, h3⟩
  have h2:=Qa7.1 h2
  refine⟨⟨h1,Qbs fun k hk=>?_⟩,by omega⟩
  unfold rtW
  have hs:sumI (L.take (k+1))≤sumI L:=by
   have e1:L=L.take (k+1)++L.drop (k+1):=(List.take_append_drop _ _).symm
   have e2:sumI L=sumI (L.take (k+1))+sumI (L.drop (k+1)):=by conv=>lhs;rw[e1,Qi1]
   have:=(Qlr (G:=g) (L:=L.drop (k+1)) fun x hx=>by
    obtain⟨i,hi,rfl⟩:=memDG (d:=0) (List.mem_of_mem_drop hx)
    exact h2 i hi).1
   omega
  grind[Qdc]
 ·rintro ⟨⟨h1, h2⟩, h3⟩
  have hk: ∀k,k<L.length→0≤L.getD k 0∧L.getD k 0≤g-sumI (L.take k):=fun k hk=>by
   simp_all[rtW]
  have h0: ∀k,k≤L.length→0≤sumI (L.take k):=by
   intro k
   induction k with
   |zero=>intro _;rw[List.take_zero];trivial
   |succ k ih=>
    grind[Qdc]
  grind[Qa7]
section
variable (g:Int) (hg:1≤g∧g≤12) (nR:Nat) (RR:List V) (hRR:HfL RR) (nN:Nat) (NN:List V) (hNN:HfL NN)
include hg hRR hNN
abbrev rr2(g:Int)(nR:Nat)(RR:List V)(nN:Nat)(NN:List V)(p r k:Nat)(lf:Int):SL:={sl:=[(1,.ptr 0 0),(3,i6 (p:Nat)),(4,i6 1),(5,i6 (r:Nat)),(6,i6 lf),(7,i6 (k:Nat))],os:=[cuO g nR RR nN NN]}
abbrev rr2E(g:Int)(nR:Nat)(RR:List V)(nN:Nat)(NN:List V)(p r:Nat)(lf:Int):SL:={sl:=[(1,.ptr 0 0),(3,i6 (p:Nat)),(4,i6 1),(5,i6 (r:Nat)),(6,i6 lf)],os:=[cuO g nR RR nN NN]}
abbrev rrF:SL:={sl:=[(2,.bool false)]}
theorem rr_in(L:List Int)(h4:L.length≤4)(p r:Nat)(hr:r<nR)(hd:headF (RR.drop (r*1))=some (sl L)):
  Sat Pg none 0 (at' 8 [1,1,1,0,1,0,0,1,0,0,1,1,0,1,0]) (mkSt g0 227 (rr2 g nR RR nN NN p r 0 g)) (Qae g0 227 [((List.range L.length).all (rtW g L)=true,.exit 2,rr2E g nR RR nN NN p r (g-sumI L)),((List.range L.length).all (rtW g L)=false,.ret,rrF)]):=by
 have hLf:=Qad L
 refine Qaw vE_ok Qaf Qab (b:=at' 8 [1,1,1,0,1,0,0,1,0,0,1,1,0,1,0,0]) (by kernel_rfl) (fun q=>q.1≤L.length∧q.2=g-sumI (L.take q.1)∧(0≤q.2∧q.2≤12)∧∀i,i<q.1→rtW g L i=true) (fun q=>rr2 g nR RR nN NN p r q.1 q.2) (fun q=>L.length-q.1) (fun q hq=>?_) (0,g) ⟨Nat.zero_le _,by rw[List.take_zero];show g=g-0;omega,by omega,fun i h=>absurd h (Nat.not_lt_zero _)⟩
 obtain⟨k,lf⟩:=q
 obtain⟨hk,he,hb,hin⟩:=hq
 dsimp only at hk he hb hin
 by_cases hlt:k<L.length
 ·have hld := Qao (l := L) hlt
  have hs:=Qdc hlt
  have hno:rtW g L k=false→(List.range L.length).all (rtW g L)=false:=fun hx=>Qf1 hlt hx
  have hw:rtW g L k=(decide (0≤L.getD k 0)&&decide (L.getD k 0≤lf)):=by rw[he];rfl
  have hnx:rtW g L k=true→∀i,i<k+1→rtW g L i=true:=fun hx i hi=>by
   grind
  by_cases h1:0≤L.getD k 0
  ·by_cases h2 : L.getD k 0 ≤ lf
   ·have hnx := hnx (by simp_all)
    generalize L.getD k 0=x at*
    refine .inl ⟨(k+1,lf-x),[0],[pl 71,ld 72 (sl L),yes 74,pl 80,ld 81 (sl L),pl 83,ld 84 (i6 x),no 85,pl 90,ld 91 (sl L),pl 93,ld 94 (i6 x),no 96,pl 102,ld 103 (sl L),pl 105,ld 106 (i6 x),nu 107 (lf-x),nu 76 ((k+1:Nat):Int)],1000,⟨hlt,by grind,by omega,hnx⟩,by omega,?_⟩
    dsimp only
    clear hnx hno hin hw he hs
    exact m_ (p:=let z0:=(↑r:Int);let z2:=(↑k:Int);let z4:=(↑L.length:Int);let z5:=(0:Int);let z6:=(↑nR:Int);let z7:=(↑(k+1):Int);let z8:=[i6 g,V.im nR RR,V.im nN NN];An [An [z5≤z0,z0<z6],_,decide (z2<z4)=true,An [z5≤z0,z0<z6],_,An [z5≤z2,z2<z4],_,decide (x<z5)=false,An [z5≤z0,z0<z6],_,An [z5≤z2,z2<z4],_,decide (x>lf)=false,An [z5≤z0,z0<z6],_,An [z5≤z2,z2<z4],_,wr .i64 (lf-x)=lf-x,wr .i64 (z2+(1:Int))=z7,An [Zz,Sm (↑p:Int),Sm (1:Int),z0=z0,Sm (lf-x),z7=z7,Tt],An [z8=z8,TT 3],Tt]) ⟨a_,hd,aq,a_,hd,a_,hld,aq,a_,hd,a_,hld,aq,a_,hd,a_,hld,a_⟩
   ·have hf := hno (by simp_all)
    generalize L.getD k 0=x at*
    refine .inr ⟨.ret,[],rrF,[pl 71,ld 72 (sl L),yes 74,pl 80,ld 81 (sl L),pl 83,ld 84 (i6 x),no 85,pl 90,ld 91 (sl L),pl 93,ld 94 (i6 x),yes 96],1000,.inr (.inl ⟨hf,rfl,rfl⟩),?_⟩
    dsimp only
    clear hnx hno hin hw he hs hf
    exact m_ (p:=let z1:=(↑r:Int);let z2:=(↑k:Int);let z3:=(0:Int);let z4:=(↑L.length:Int);let z6:=(↑nR:Int);An [An [z3≤z1,z1<z6],_,decide (z2<z4)=true,An [z3≤z1,z1<z6],_,An [z3≤z2,z2<z4],_,decide (x<z3)=false,An [z3≤z1,z1<z6],_,An [z3≤z2,z2<z4],_,decide (x>lf)=true,An [Sm false,Tt],Tt]) ⟨a_,hd,aq,a_,hd,a_,hld,aq,a_,hd,a_,hld,a_⟩
  ·have hf := hno (by grind)
   generalize L.getD k 0=x at*
   refine .inr ⟨.ret,[],rrF,[pl 71,ld 72 (sl L),yes 74,pl 80,ld 81 (sl L),pl 83,ld 84 (i6 x),yes 85],1000,.inr (.inl ⟨hf,rfl,rfl⟩),?_⟩
   dsimp only
   clear hnx hno hin hw he hs hf
   exact m_ (p:=let z0:=(↑r:Int);let z2:=(0:Int);let z3:=(↑k:Int);An [An [z2≤z0,z0<(↑nR:Int)],_,decide (z3<(↑L.length:Int))=true,An [z2≤z0,z0<(↑nR:Int)],_,An [z2≤z3,z3<(↑L.length:Int)],_,decide (x<z2)=true,An [Sm false,Tt],Tt]) ⟨a_,hd,aq,a_,hd,a_,hld,a_⟩
 ·have hkl : k = L.length := by omega
  have hf:(List.range L.length).all (rtW g L)=true:=Qbs fun i hi=>hin i (by omega)
  rw[List.take_of_length_le (by omega)]at he
  refine .inr ⟨.exit 2,[0],rr2E g nR RR nN NN p r (g-sumI L),[pl 71,ld 72 (sl L),no 74],1000,.inl ⟨hf,rfl,rfl⟩,?_⟩
  rw[←he]
  dsimp only
  clear hf hin he
  exact m_ (p:=let z0:=(↑r:Int);An [An [(0:Int)≤z0,z0<(↑nR:Int)],_,decide ((↑k:Int)<(↑L.length:Int))=false,An [Zz,Sm (↑p:Int),Sm (1:Int),Sm z0,lf=lf,Tt],An [Sm [i6 g,V.im nR RR,V.im nN NN],TT 3],Tt]) ⟨a_,hd,a_⟩
abbrev rr0(g:Int)(nR:Nat)(RR:List V)(nN:Nat)(NN:List V)(r p:Nat):SL:={sl:=[(1,.ptr 0 0),(3,i6 (p:Nat)),(4,i6 1),(5,i6 (r:Nat))],os:=[cuO g nR RR nN NN]}
abbrev rr0E(g:Int)(nR:Nat)(RR:List V)(nN:Nat)(NN:List V)(p:Nat):SL:={sl:=[(1,.ptr 0 0),(3,i6 (p:Nat)),(4,i6 1)],os:=[cuO g nR RR nN NN]}
end
theorem prK_b4{g:Int}{R:List (List Int)}{k:Nat}(h: ∀i,i<k→rtB g (R.getD i [])=true):prK R k≤4^k:=by
 induction k with
 |zero=>exact Nat.le_refl _
 |succ k ih=>
  have h1:=ih (fun i hi=>h i (by omega))
  have h2:=Qix (h k (by omega))
  simp_all[prK,Nat.pow_succ,Nat.mul_le_mul]
theorem rr_out(g:Int)(hg:1≤g∧g≤12)(R:List (List Int))(h8:R.length≤8)(nN:Nat)(NN:List V)(hNN:HfL NN):
  Sat Pg none 0 (at' 8 [1,1,1,0,1,0]) (mkSt g0 227 (rr0 g R.length (rtL R) nN NN 0 1)) (Qae g0 227 [(R.all (rtB g)=true,.exit 0,rr0E g R.length (rtL R) nN NN (prK R R.length)),(R.all (rtB g)=false,.ret,rrF)]):=by
 have hRR:=Qar R
 refine Qaw vE_ok Qaf Qab (b:=at' 8 [1,1,1,0,1,0,0]) (by kernel_rfl) (fun q=>q.1≤R.length∧q.2=prK R q.1∧∀i,i<q.1→rtB g (R.getD i [])=true) (fun q=>rr0 g R.length (rtL R) nN NN q.1 q.2) (fun q=>R.length-q.1) (fun q hq=>?_) (0,1) ⟨Nat.zero_le _,rfl,fun i h=>absurd h (Nat.not_lt_zero _)⟩
 obtain⟨r,p⟩:=q
 obtain⟨hr,hp,hin⟩:=hq
 dsimp only at hr hp hin
 by_cases hlt:r<R.length
 ·have hd := Qe9 hlt
  have hno:rtB g (R.getD r [])=false→R.all (rtB g)=false:=fun h=>by
   grind
  have hnx:rtB g (R.getD r [])=true→∀i,i<r+1→rtB g (R.getD i [])=true:=fun hx i hi=>by
   grind
  have hpb:=prK_b4 hin
  rw[←hp]at hpb
  have h48:4^r≤65536:=Nat.pow_le_pow_right (n:=4) (by decide) (show r≤8 by omega)
  have hp2:prK R (r+1)=p*(R.getD r []).length:=by rw[hp];rfl
  rw[rtB_eq]at hno hnx
  generalize R.getD r []=L at*
  have hLf:=Qad L
  by_cases h1:1≤L.length
  ·by_cases h4 : L.length ≤ 4
   ·have hl := rr_in g hg R.length (rtL R) hRR nN NN hNN L h4 p r hlt hd
    rw[decide_eq_true h1,decide_eq_true h4]at hno hnx
    have hmul:p*L.length≤65536*4:=Nat.mul_le_mul (by omega) h4
    cases hc:(List.range L.length).all (rtW g L)with
    |false=>
     have hf:=hno (by rw[hc];rfl)
     rw[hc]at hl
     have hl':=hl.snd (fun h=>by cases h)
     clear hl hno hnx hc hin
     refine .inr ⟨.ret,[],rrF,[yes 46,pl 52,ld 53 (sl L),no 55,pl 60,ld 61 (sl L),no 63,(0,.loop [0] (rr2 g R.length (rtL R) nN NN p r 0 g) [(True,.ret,rrF)])],1000,.inr (.inl ⟨hf,rfl,rfl⟩),?_⟩
     dsimp only
     generalize rtL R=RR at*
     generalize R.length=nR at*
     exact m_ (p:=let z0:=(↑r:Int);let z1:=[i6 g,V.im nR RR,V.im nN NN];let z3:=(↑nR:Int);An [decide (z0<z3)=true,An [(0:Int)≤z0,z0<z3],_,decide ((↑L.length:Int)<(1:Int))=false,An [(0:Int)≤z0,z0<z3],_,decide ((↑L.length:Int)>(4:Int))=false,An [An [Zz,Sm (↑p:Int),Sm (1:Int),z0=z0,g=g,(↑(0:Nat):Int)=(0:Int),Tt],An [z1=z1,TT 3],Tt],_,(True->An [An [Sm false,Tt],Tt]),Tt]) ⟨aq,a_,hd,aq,a_,hd,aq,a_,hl',a_⟩
    | true =>
     rw[hc]at hl hno hnx
     have hl':=hl.fst (fun h=>by cases h)
     clear hl hc hin
     generalize hlf:g-sumI L=lf at*
     by_cases h0:lf=0
     ·have hnx := hnx (by simp_all)
      refine .inl ⟨(r+1,prK R (r+1)),[0],[yes 46,pl 52,ld 53 (sl L),no 55,pl 60,ld 61 (sl L),no 63,(0,.loop [0] (rr2 g R.length (rtL R) nN NN p r 0 g) [(True,.exit 2,rr2E g R.length (rtL R) nN NN p r lf)]),no 109,pl 114,ld 115 (sl L),nu 117 (prK R (r+1):Nat),nu 48 ((r+1:Nat):Int)],1000,⟨hlt,rfl,hnx⟩,by omega,?_⟩
      dsimp only
      rw[hp2]
      have hwm:wr .i64 ((p:Int)*(L.length:Int))=((p*L.length:Nat):Int):=by
       rw[←Int.natCast_mul]
       exact Qg9 (by grind[lo]) (by grind[hi])
      generalize p*L.length=p' at*
      clear hno hnx hp2 hp hlf
      generalize rtL R=RR at*
      generalize R.length=nR at*
      exact m_ (p:=let z0:=(↑r:Int);let z1:=[i6 g,V.im nR RR,V.im nN NN];let z3:=(1:Int);let z4:=(↑L.length:Int);let z5:=(↑nR:Int);let z6:=(↑(r+1):Int);let z7:=(0:Int);An [decide (z0<z5)=true,An [z7≤z0,z0<z5],_,decide (z4<z3)=false,An [z7≤z0,z0<z5],_,decide (z4>(4:Int))=false,An [An [Zz,(↑p:Int)=(↑p:Int),z3=z3,z0=z0,g=g,(↑(0:Nat):Int)=z7,Tt],An [z1=z1,TT 3],Tt],_,(True->An [(lf != z7)=false,An [z7≤z0,z0<z5],_,_,wr .i64 (z0+z3)=z6,An [Zz,(↑p':Int)=(↑p':Int),z3=z3,z6=z6,Tt],An [z1=z1,TT 3],Tt]),Tt]) ⟨aq,a_,hd,aq,a_,hd,aq,a_,hl',(fun _=>⟨aq,a_,hd,hwm,a_⟩),aq⟩
     ·have hf := hno (by simp_all)
      refine .inr ⟨.ret,[],rrF,[yes 46,pl 52,ld 53 (sl L),no 55,pl 60,ld 61 (sl L),no 63,(0,.loop [0] (rr2 g R.length (rtL R) nN NN p r 0 g) [(True,.exit 2,rr2E g R.length (rtL R) nN NN p r lf)]),yes 109],1000,.inr (.inl ⟨hf,rfl,rfl⟩),?_⟩
      dsimp only
      clear hno hnx hp2 hp hlf hf
      generalize rtL R=RR at*
      generalize R.length=nR at*
      exact m_ (p:=let z0:=(↑r:Int);let z1:=[i6 g,V.im nR RR,V.im nN NN];let z3:=(↑nR:Int);let z4:=(0:Int);An [decide (z0<z3)=true,An [z4≤z0,z0<z3],_,decide ((↑L.length:Int)<(1:Int))=false,An [z4≤z0,z0<z3],_,decide ((↑L.length:Int)>(4:Int))=false,An [An [Zz,Sm (↑p:Int),Sm (1:Int),z0=z0,g=g,(↑(0:Nat):Int)=z4,Tt],An [z1=z1,TT 3],Tt],_,(True->An [(lf != z4)=true,An [Sm false,Tt],Tt]),Tt]) ⟨aq,a_,hd,aq,a_,hd,aq,a_,hl',a_⟩
   ·have hf := hno (by grind)
    clear hno hnx hin hp2 hp
    refine .inr ⟨.ret,[],rrF,[yes 46,pl 52,ld 53 (sl L),no 55,pl 60,ld 61 (sl L),yes 63],1000,.inr (.inl ⟨hf,rfl,rfl⟩),?_⟩
    dsimp only
    generalize rtL R=RR at*
    generalize R.length=nR at*
    exact m_ (p:=let z0:=(↑r:Int);let z2:=(↑nR:Int);An [decide (z0<z2)=true,An [(0:Int)≤z0,z0<z2],_,decide ((↑L.length:Int)<(1:Int))=false,An [(0:Int)≤z0,z0<z2],_,decide ((↑L.length:Int)>(4:Int))=true,An [Sm false,Tt],Tt]) ⟨aq,a_,hd,aq,a_,hd,a_⟩
  ·have hf := hno (by simp_all)
   clear hno hnx hin hp2 hp
   refine .inr ⟨.ret,[],rrF,[yes 46,pl 52,ld 53 (sl L),yes 55],1000,.inr (.inl ⟨hf,rfl,rfl⟩),?_⟩
   dsimp only
   generalize rtL R=RR at*
   generalize R.length=nR at*
   exact m_ (p:=let z0:=(↑r:Int);An [decide (z0<(↑nR:Int))=true,An [(0:Int)≤z0,z0<(↑nR:Int)],_,decide ((↑L.length:Int)<(1:Int))=true,An [Sm false,Tt],Tt]) ⟨aq,a_,hd,a_⟩
 ·have hk2 : r = R.length := by omega
  subst hk2
  have hall:R.all (rtB g)=true:=List.all_eq_true.2 fun L hL=>by
   obtain⟨i,hi,rfl⟩:=memDG (d:=[]) hL
   exact hin i hi
  refine .inr ⟨.exit 0,[0],rr0E g R.length (rtL R) nN NN (prK R R.length),[no 46],1000,.inl ⟨hall,rfl,rfl⟩,?_⟩
  rw[←hp]
  dsimp only
  clear hin hall hp
  generalize rtL R=RR at*
  generalize R.length=nR at*
  refine Eq.mp (by kernel_rfl:(An [decide ((↑nR:Int)<(↑nR:Int))=false,An [Zz,Sm (↑p:Int),Sm (1:Int),Tt],An [Sm [i6 g,V.im nR RR,V.im nN NN],TT 3],Tt])=_) ?_
  (repeat'(first|(with_reducible apply And.intro)|(refine fun(_:True)=>?_)))<;>first|exact aq|skip
  all_goals skip
end Go.Proofs.YtifdkhfldbkkpaaGreat.Am
