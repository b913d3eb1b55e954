/- Texts behind the claim, part 5: the abstract machine, and what the functions answer. No condition. -/
import Derived.Test.YtifdkhfldbkkpaaGreatCG4
set_option linter.unusedVariables false
set_option maxHeartbeats 4000000
set_option maxRecDepth 100000
set_option linter.unusedSimpArgs false
set_option linter.unusedSectionVars false
namespace Go.Proofs.YtifdkhfldbkkpaaGreat.Am
open Go.RowKit
def drO(P:List Nat)(o:Nat→Nat):Nat→Nat→Nat
 |0=>fun _=>0
 |k+1=>(drI (P.getD k 0) o k (0,drO P o k) k).2
theorem Qpy{P:List Nat}{o:Nat→Nat}{n:Nat}(hn:n≤64)(ho: ∀j,o j<n): ∀k i,drO P o k i<2^n
 |0,i=>Nat.pow_pos (by decide)
 |k+1,i=>by
  unfold drO
  exact Qpw hn (fun j _=>ho j) (fun i=>Qpy hn ho k i) k (Nat.le_refl _) i
theorem Qc9{Q:List Nat}: ∀i,∀x∈orL Q i,x<i
 |0,x,h=>by cases h
 | i + 1, x, h => by
  rw[orL]at h
  have ih:=Qc9 (Q:=Q) i
  rcases List.mem_append.1 h with h|h
  ·rcases List.mem_append.1 h with h | h
   ·have:=ih x (List.mem_of_mem_take h);omega
   ·obtain rfl:=List.mem_singleton.1 h;omega
  ·have:=ih x (List.mem_of_mem_drop h);omega
abbrev egO(P Q:List Nat)(n:Nat)(L:List Nat)(q:Nat×List V):SL:={sl:=[(1,.ptr 0 0),(3,i6 (n:Nat)),(4,.sl 1 0 n none),(8,.sl 2 0 n (some (n-n))),(9,i6 (q.1:Nat))],os:=[dfO P Q,.row 3 (some 1) (it L),.row 29 none q.2]}
abbrev egX(n:Nat)(C:List V):SL:={sl:=[(8,.sl 0 0 n (some (n-n)))],os:=[.row 29 none C]}
theorem eg_out(P Q:List Nat)(hP: ∀x∈P,x<256)(n:Nat)(hn6:n≤6)(L:List Nat)(hL:L.length=n)(hLn: ∀x∈L,x<n)(A B:List V)(hA:uF (drO P (fun i=>L.getD i 0) 0) n=A)(hB:uF (drO P (fun i=>L.getD i 0) (min n P.length)) n=B)(hn1:1≤n):
  Sat Pg none 0 (at' 105 [1,1,1,1,1,0,1,0]) (mkSt g0 105 (egO P Q n L (0,A))) (Qae g0 105 [(True,.exit 2,egX n B)]):=by
 have hPf:=Qau P
 have hQf:=Qau Q
 have hLf:=Qaq L
 have ho: ∀i,L.getD i 0<n:=fun i=>by
  rw[List.getD_eq_getElem?_getD]
  cases hx:L[i]? with
  |none=>simp;omega
  |some x=>exact hLn x (List.mem_of_getElem? hx)
 refine Qaw vE_ok Qaf Qab (b:=at' 105 [1,1,1,1,1,0,1,0,0]) (by kernel_rfl) (fun q=>q.1≤min n P.length∧uF (drO P (fun i=>L.getD i 0) q.1) n=q.2) (egO P Q n L) (fun q=>n-q.1) (fun q hq=>?_) (0,A) ⟨Nat.zero_le _,hA⟩
 obtain⟨k,C⟩:=q
 obtain⟨hk,hC⟩:=hq
 dsimp only at hk hC
 have hCf:HfL C:=by rw[←hC];exact Qak _ _
 by_cases hlt:k<n
 ·by_cases hlP : k < P.length
  ·have hin := eg_in P Q hP n hn6 L hL hLn k hlt hlP (drO P (fun i => L.getD i 0) k) (fun i => Qpy (by omega) ho k i) C _ _ hC rfl rfl
   have hDf:=Qak (drI (P.getD k 0) (fun i=>L.getD i 0) k (0,drO P (fun i=>L.getD i 0) k) k).2 n
   have hD:uF (drO P (fun i=>L.getD i 0) (k+1)) n=uF (drI (P.getD k 0) (fun i=>L.getD i 0) k (0,drO P (fun i=>L.getD i 0) k) k).2 n:=rfl
   generalize uF (drI (P.getD k 0) (fun i=>L.getD i 0) k (0,drO P (fun i=>L.getD i 0) k) k).2 n=D at*
   generalize (drI (P.getD k 0) (fun i=>L.getD i 0) k (0,drO P (fun i=>L.getD i 0) k) k).1=c at*
   refine .inl ⟨(k+1,D),[0,1,2],[yes 53,yes 59,(0,.loop [0,1,2] (egS P Q n L k (0,0,C)) [(True,.exit 4,egS P Q n L k (k,c,D))]),nu 62 ((k+1:Nat):Int)],1000,⟨by dsimp only;omega,hD⟩,by dsimp only;omega,?_⟩
   clear hD hC hA hB
   exact m_ (p:=let z4:=An [Sm (it L),HfL (it L)];let z0:=(↑k:Int);let z1:=(↑n:Int);let z2:=(↑(k+1):Int);let z3:=[bl P,bl Q];An [decide (z0<z1)=true,decide (z0<(↑P.length:Int))=true,An [An [Zz,z1=z1,An [Zz,n=n,Tt],An [Zz,n=n,Sm (n-n)],z0=z0,(↑(0:Nat):Int)=(0:Int),(↑(0:Nat):Int)=(0:Int),Tt],An [z3=z3,TT 2],z4,An [C=C,_],Tt],_,(True->An [wr .i64 (z0+(1:Int))=z2,An [Zz,z1=z1,An [Zz,n=n,Tt],An [Zz,n=n,Sm (n-n)],z2=z2,Tt],An [z3=z3,TT 2],z4,An [D=D,_],Tt]),Tt]) ⟨aq,aq,⟨a_,a_,aq,⟨aq,hCf⟩,aq⟩,hin,(fun _=>⟨aq,a_,a_,aq,⟨aq,hDf⟩,aq⟩),aq⟩
  ·have hk2 : min n P.length = k := by omega
   rw[hk2,hC]at hB
   subst hB
   refine .inr ⟨.exit 2,[2],egX n C,[yes 53,no 59],1000,.inl ⟨trivial,rfl,rfl⟩,?_⟩
   clear hC hA hk2
   exact m_ (p:=An [decide ((↑k:Int)<(↑n:Int))=true,decide ((↑k:Int)<(↑P.length:Int))=false,An [An [Zz,n=n,Sm (n-n)],Tt],An [C=C,_],Tt]) ⟨aq,aq,a_,⟨aq,hCf⟩,aq⟩
 ·have hk2 : min n P.length = k := by omega
  rw[hk2,hC]at hB
  subst hB
  refine .inr ⟨.exit 2,[2],egX n C,[no 53],1000,.inl ⟨trivial,rfl,rfl⟩,?_⟩
  clear hC hA hk2
  exact m_ (p:=An [decide ((↑k:Int)<(↑n:Int))=false,An [An [Zz,n=n,Sm (n-n)],Tt],An [C=C,_],Tt]) ⟨aq,a_,⟨aq,hCf⟩,aq⟩
def drN(P:List Nat):Nat:=min (max P.length 1) 6
def drG(P Q:List Nat):Nat→Nat:=drO P (fun i=>(orL Q (drN P)).getD i 0) (min (drN P) P.length)
theorem Qpu(P Q:List Nat)(hP: ∀x∈P,x<256)(hQ: ∀x∈Q,x<256):FnOk Pg g0 105 [.agg [bl P,bl Q]] (.im (drN P) (uF (drG P Q) (drN P))):=by
 have hPf:=Qau P
 have hQf:=Qau Q
 obtain⟨m,hm⟩: ∃m,drN P=m+1:=⟨drN P-1,by unfold drN;omega⟩
 have hm6:m+1≤6:=by unfold drN at hm;omega
 have h1:=og_loop P Q hQ m hm6
 have hR:=Qbn (m+1) (p:=[])
 have hA:uF (drO P (fun i=>(orL Q (m+1)).getD i 0) 0) (m+1)=rep (m+1) [u6 0]:=Qbn (m+1) (p:=[])
 have h2:=eg_out P Q hP (m+1) hm6 (orL Q (m+1)) (Qcz Q _) (Qc9 _) _ _ hA rfl (by omega)
 have hB:uF (drG P Q) (m+1)=uF (drO P (fun i=>(orL Q (m+1)).getD i 0) (min (m+1) P.length)) (m+1):=by unfold drG;rw[hm]
 rw[hm,hB]
 have hBf:=Qak (drO P (fun i=>(orL Q (m+1)).getD i 0) (min (m+1) P.length)) (m+1)
 have hAf:HfL (rep (m+1) [u6 0]):=by rw[←Qbn (m+1) (p:=[])];exact Qak _ _
 have hL:=Qaq (orL Q (m+1))
 have hx1:drN P=min (max P.length 1) 6:=rfl
 generalize uF (drO P (fun i=>(orL Q (m+1)).getD i 0) (min (m+1) P.length)) (m+1)=B at*
 generalize orL Q (m+1)=L at*
 have hmx:max (P.length:Int) 1=((max P.length 1:Nat):Int):=by omega
 have hmn:min ((max P.length 1:Nat):Int) 6=((m+1:Nat):Int):=by omega
 generalize hmm:max P.length 1=mm at*
 clear hx1 hB hA hR hm hmm
 generalize m+1=n at*
 refine FnOk.of_vc vE_ok Qaf Qab (n:=1000) (r:=[]) (S:={sl:=[(2,.im n B)]}) (hs:=[nu 15 (mm:Nat),nu 16 ((n:Nat):Int),(0,.loop [0] (ogS P Q n (0,[])) [(True,.exit 0,ogX P Q n L)]),mk 50,(0,.loop [0,1,2] (egO P Q n L (0,rep n [u6 0])) [(True,.exit 2,egX n B)])]) ?_
 exact m_ (p:=let z0:=(↑n:Int);let z1:=rep n [u6 0];let z2:=[bl P,bl Q];let z3:=(↑mm:Int);An [Sm (V.im n B),(if(1:Int)>(↑P.length:Int)then(1:Int)else(↑P.length:Int))=z3,(if(6:Int)<z3 then(6:Int)else z3)=z0,An [An [Zz,z0=z0,Tt,(↑(0:Nat):Int)=(0:Int),Tt],An [z2=z2,TT 2],Tt],_,(True->An [An [(0:Int)≤z0,z0≤z0,(↑(8:Nat):Int)*z0≤(281474976710656:Int),z0≤(9223372036854775807:Int)],An [An [Zz,z0=z0,An [Zz,n=n,Tt],An [Zz,n=n,Sm (n-n)],(↑(0:Nat):Int)=(0:Int),Tt],An [z2=z2,TT 2],An [Sm (it L),_],An [z1=z1,_],Tt],_,(True->An [An [An [n=n,B=B,_],Tt],Tt]),Tt]),Tt]) ⟨aq,aq,aq,a_,h1,(fun _=>⟨a_,⟨a_,a_,⟨aq,hL⟩,⟨aq,hAf⟩,aq⟩,h2,(fun _=>⟨⟨⟨aq,aq,hBf⟩,aq⟩,aq⟩),aq⟩),aq⟩
theorem slice_bt(P:List Nat)(k:Nat)(h:k≤P.length):sliceV (Qac Pg) 24 (bl P) none (some (k:Int)) none=some (bl (P.take k)):=by
 have e:sliceV (Qac Pg) 24 (bl P) none (some (k:Int)) none=(if 0≤(0:Int)∧0≤(k:Int)∧(k:Int)≤(P.length:Nat)∧(none:Option Int).isNone=true then some (if(0:Int)=(k:Int)then .im 0 []else .im ((k:Int).toNat-(0:Int).toNat) (((bt P).drop ((0:Int).toNat*1)).take (((k:Int).toNat-(0:Int).toNat)*1)))else none):=by kernel_rfl
 grind[bt,List.map_take]
def prT:List (Nat×Nat)→List V
 |[]=>[]
 |x::l=>[w8 (x.1:Nat),w8 (x.2:Nat)]++prT l
theorem Qdu: ∀l,HfL (prT l)
 |[]=>trivial
 |x::l=>⟨trivial,trivial,Qdu l⟩
theorem Qrp: ∀{l:List (Nat×Nat)}{k:Nat}{x:Nat×Nat},l[k]? =some x→∃r,(prT l).drop (k*2)=w8 (x.1:Nat)::w8 (x.2:Nat)::r
 |[],k,x,h=>by simp at h
 |y::l,0,x,h=>by cases h;exact⟨_,rfl⟩
 |y::l,k+1,x,h=>by
  obtain⟨r,hr⟩:=Qrp (l:=l) (k:=k) h
  refine⟨r,?_⟩
  rw[Nat.succ_mul]
  exact hr
def mx1(f:Nat→Nat)(x y:Nat):Nat→Nat:=fun i=>if i=x then f x|||2^y else f i
def mxF(n:Nat)(pr:List (Nat×Nat)):Nat→Nat→Nat
 |0=>fun _=>0
 |i+1=>if(pr.getD i (0,0)).1%n≠(pr.getD i (0,0)).2%n then mx1 (mx1 (mxF n pr i) ((pr.getD i (0,0)).1%n) ((pr.getD i (0,0)).2%n)) ((pr.getD i (0,0)).2%n) ((pr.getD i (0,0)).1%n)else mxF n pr i
theorem Qq8{f:Nat→Nat}{x y n:Nat}(h: ∀i,f i<2^n)(hy:y<n): ∀i,mx1 f x y i<2^n:=by
 intro i
 unfold mx1
 split
 all_goals simp_all[Nat.or_lt_two_pow,Nat.pow_lt_pow_right]
theorem Qmz{n:Nat}{pr:List (Nat×Nat)}(hn:0<n): ∀i u,mxF n pr i u<2^n
 |0,u=>Nat.pow_pos (by decide)
 |i+1,u=>by
  unfold mxF
  split
  ·exact Qq8 (Qq8 (Qmz hn i) (Nat.mod_lt _ hn)) (Nat.mod_lt _ hn) u
  ·exact Qmz hn i u
abbrev mgS(P Q:List Nat)(m:Nat)(PP:List V)(n:Nat)(G:List V)(q:Nat×List V):SL:={sl:=[(1,.ptr 0 0),(4,.im n G),(5,.sl 1 0 n (some (n-n))),(6,i6 (q.1:Nat))],os:=[.row 60 none [bl P,bl Q,.im m PP],.row 29 none q.2]}
abbrev mgX(n:Nat)(G C:List V):SL:={sl:=[(4,.im n G),(5,.sl 0 0 n (some (n-n)))],os:=[.row 29 none C]}
theorem mg_loop(P Q:List Nat)(pr:List (Nat×Nat))(h256: ∀x∈pr,x.1<256∧x.2<256)(n:Nat)(hn:1≤n)(hn6:n≤6)(G:List V)(hG:HfL G)(A B:List V)(hA:uF (mxF n pr 0) n=A)(hB:uF (mxF n pr (min pr.length 10)) n=B):
  Sat Pg none 0 (at' 61 [1,1,1,1,0,1,0]) (mkSt g0 84 (mgS P Q pr.length (prT pr) n G (0,A))) (Qae g0 84 [(True,.exit 0,mgX n G B)]):=by
 have hPf:=Qau P
 have hQf:=Qau Q
 have hTf:=Qdu pr
 refine Qaw vE_ok Qaf Qab (b:=at' 61 [1,1,1,1,0,1,0,0]) (by kernel_rfl) (fun q=>q.1≤min pr.length 10∧uF (mxF n pr q.1) n=q.2) (mgS P Q pr.length (prT pr) n G) (fun q=>10-q.1) (fun q hq=>?_) (0,A) ⟨Nat.zero_le _,hA⟩
 obtain⟨i,C⟩:=q
 obtain⟨hi,hC⟩:=hq
 dsimp only at hi hC
 have hCf:HfL C:=by rw[←hC];exact Qak _ _
 by_cases hlt:i<pr.length
 ·by_cases hl10 : i < 10
  ·have hstep : mxF n pr (i + 1) = if (pr.getD i (0, 0)).1 % n ≠ (pr.getD i (0, 0)).2 % n then mx1 (mx1 (mxF n pr i) ((pr.getD i (0, 0)).1 % n) ((pr.getD i (0, 0)).2 % n)) ((pr.getD i (0, 0)).2 % n) ((pr.getD i (0, 0)).1 % n) else mxF n pr i := rfl
   have hpr:pr[i]? =some (pr.getD i (0,0)):=by rw[List.getD_eq_getElem?_getD,List.getElem?_eq_getElem hlt];rfl
   have hmem:=h256 _ (List.mem_of_getElem? hpr)
   obtain⟨rr,hrr⟩:=Qrp hpr
   generalize pr.getD i (0,0)=ab at*
   obtain⟨a,b⟩:=ab
   dsimp only at hstep hmem hrr
   have s1:=Qcp (G:=Qac Pg) (t:=3) (a:=a) (b:=n) (by omega)
   have s2:=Qcp (G:=Qac Pg) (t:=3) (a:=b) (b:=n) (by omega)
   have hx:=Nat.mod_lt a (show n>0 by omega)
   have hy:=Nat.mod_lt b (show n>0 by omega)
   generalize a%n=x at*
   generalize b%n=y at*
   by_cases hxy:x=y
   ·rw [if_neg (fun h => h hxy)] at hstep
    have hinv:uF (mxF n pr (i+1)) n=C:=by rw[hstep];exact hC
    clear hstep hA hB hC
    generalize prT pr=PP at*
    subst hxy
    refine .inl ⟨(i+1,C),[0,1],[yes 30,yes 33,pl 40,ld 42 (w8 (a:Nat)),nu 43 (a:Nat),va 46 (i6 (x:Nat)),pl 50,ld 52 (w8 (b:Nat)),nu 53 (b:Nat),va 56 (i6 (x:Nat)),no 59,nu 36 ((i+1:Nat):Int)],1000,⟨by omega,hinv⟩,by omega,?_⟩
    clear hinv
    exact m_ (p:=let z0:=(↑i:Int);let z1:=(↑pr.length:Int);let z2:=(↑(i+1):Int);let z3:=[bl P,bl Q,V.im pr.length PP];let z4:=List.drop (i*2) PP;An [decide (z0<z1)=true,decide (z0<(10:Int))=true,An [(0:Int)≤z0,z0<z1],headF (List.drop (Int.toNat (0:Int)*1) z4)=some (w8 ↑a),wr .i64 (↑a:Int)=(↑a:Int),_,An [(0:Int)≤z0,z0<z1],headF (List.drop (Int.toNat (1:Int)*1) z4)=some (w8 ↑b),wr .i64 (↑b:Int)=(↑b:Int),_,((↑x:Int) != (↑x:Int))=false,wr .i64 (z0+(1:Int))=z2,An [Zz,An [n=n,G=G],An [Zz,n=n,Sm (n-n)],z2=z2,Tt],An [z3=z3,TT 3],An [C=C,_],Tt]) ⟨aq,aq,a_,(by (rw[hrr];rfl)),aq,s1,a_,(by (rw[hrr];rfl)),aq,s2,aq,aq,a_,a_,⟨aq,hCf⟩,aq⟩
   ·rw [if_pos hxy] at hstep
    have h64:2^n≤64:=by
     have:=Nat.pow_le_pow_right (n:=2) (by decide) hn6
     omega
    have hf:=Qmz (pr:=pr) hn i
    have hf1:=Qq8 (x:=x) hf hy
    have s3:headF (dropF (0+x*1) C)=some (u6 (mxF n pr i x:Nat)):=by rw[←hC];exact Qbv hx
    obtain⟨s4,s4b⟩:=Qd2 (G:=Qac Pg) (t:=29) (k:=y) (by omega)
    have s5:=(or_u (G:=Qac Pg) (t:=29) (x:=mxF n pr i x) (by grind) s4b).1
    have s6:layE (0+x*1) C [u6 (mxF n pr i x|||2^y:Nat)]=some (uF (mx1 (mxF n pr i) x y) n):=by rw[←hC];exact Qfh hx _
    have s7:=Qbv (f:=mx1 (mxF n pr i) x y) hy
    obtain⟨s8,s8b⟩:=Qd2 (G:=Qac Pg) (t:=29) (k:=x) (by omega)
    have s9:=(or_u (G:=Qac Pg) (t:=29) (x:=mx1 (mxF n pr i) x y y) (by grind) s8b).1
    have s10:layE (0+y*1) (uF (mx1 (mxF n pr i) x y) n) [u6 (mx1 (mxF n pr i) x y y|||2^x:Nat)]=some (uF (mxF n pr (i+1)) n):=by rw[hstep];exact Qfh hy _
    have w1:wr .u64 (x:Int)=(x:Int):=by rw[wr_eq];exact Qez (by omega)
    have w2:wr .u64 (y:Int)=(y:Int):=by rw[wr_eq];exact Qez (by omega)
    have hDf:=Qak (mxF n pr (i+1)) n
    have hEf:=Qak (mx1 (mxF n pr i) x y) n
    clear hstep hA hB hC hf hf1
    generalize hD:uF (mxF n pr (i+1)) n=D at*
    generalize uF (mx1 (mxF n pr i) x y) n=E1 at*
    generalize mx1 (mxF n pr i) x y y=g1 at*
    generalize mxF n pr i x=g0' at*
    generalize 2^x=zx at*
    generalize 2^y=zy at*
    generalize g1|||zx=o1 at*
    generalize g0'|||zy=o0 at*
    generalize prT pr=PP at*
    refine .inl ⟨(i+1,D),[0,1],[yes 30,yes 33,pl 40,ld 42 (w8 (a:Nat)),nu 43 (a:Nat),va 46 (i6 (x:Nat)),pl 50,ld 52 (w8 (b:Nat)),nu 53 (b:Nat),va 56 (i6 (y:Nat)),yes 59,pl 64,ld 65 (u6 (g0':Nat)),nu 67 (y:Nat),va 68 (u6 (zy:Nat)),va 69 (u6 (o0:Nat)),pl 70,st E1,pl 75,ld 76 (u6 (g1:Nat)),nu 78 (x:Nat),va 79 (u6 (zx:Nat)),va 80 (u6 (o1:Nat)),pl 81,st D,nu 36 ((i+1:Nat):Int)],1000,⟨by omega,hD⟩,by omega,?_⟩
    clear hD
    exact m_ (p:=let z1:=(↑i:Int);let z2:=(↑x:Int);let z3:=(↑y:Int);let z4:=(0:Int);let z5:=(↑pr.length:Int);let z6:=(↑(i+1):Int);let z7:=(↑n:Int);let z8:=[bl P,bl Q,V.im pr.length PP];let z9:=List.drop (i*2) PP;An [decide (z1<z5)=true,decide (z1<(10:Int))=true,An [z4≤z1,z1<z5],headF (List.drop (Int.toNat z4*1) z9)=some (w8 ↑a),wr .i64 (↑a:Int)=(↑a:Int),_,An [z4≤z1,z1<z5],headF (List.drop (Int.toNat (1:Int)*1) z9)=some (w8 ↑b),wr .i64 (↑b:Int)=(↑b:Int),_,(z2 != z3)=true,An [z4≤z2,z2<z7],_,_,_,_,An [z4≤z2,z2<z7],_,An [z4≤z3,z3<z7],_,_,_,_,An [z4≤z3,z3<z7],_,wr .i64 (z1+(1:Int))=z6,An [Zz,An [n=n,G=G],An [Zz,n=n,Sm (n-n)],z6=z6,Tt],An [z8=z8,TT 3],An [D=D,_],Tt]) ⟨aq,aq,a_,(by (rw[hrr];rfl)),aq,s1,a_,(by (rw[hrr];rfl)),aq,s2,aq,a_,s3,w2,s4,s5,a_,s6,a_,s7,w1,s8,s9,a_,s10,aq,a_,a_,⟨aq,hDf⟩,aq⟩
  ·have hk2 : min pr.length 10 = i := by omega
   rw[hk2,hC]at hB
   subst hB
   generalize prT pr=PP at*
   refine .inr ⟨.exit 0,[1],mgX n G C,[yes 30,no 33],1000,.inl ⟨trivial,rfl,rfl⟩,?_⟩
   clear hC hA hk2
   exact m_ (p:=An [decide ((↑i:Int)<(↑pr.length:Int))=true,decide ((↑i:Int)<(10:Int))=false,An [An [n=n,G=G],An [Zz,n=n,Sm (n-n)],Tt],An [C=C,_],Tt]) ⟨aq,aq,a_,⟨aq,hCf⟩,aq⟩
 ·have hk2 : min pr.length 10 = i := by omega
  rw[hk2,hC]at hB
  subst hB
  generalize prT pr=PP at*
  refine .inr ⟨.exit 0,[1],mgX n G C,[no 30],1000,.inl ⟨trivial,rfl,rfl⟩,?_⟩
  clear hC hA hk2
  exact m_ (p:=An [decide ((↑i:Int)<(↑pr.length:Int))=false,An [An [n=n,G=G],An [Zz,n=n,Sm (n-n)],Tt],An [C=C,_],Tt]) ⟨aq,a_,⟨aq,hCf⟩,aq⟩
def mgP(P Q:List Nat):List Nat:=(List.range (drN (P.take 5))).map (drG (P.take 5) Q)
def mgJ(P:List Nat)(pr:List (Nat×Nat)):List Nat:=(List.range (drN (P.take 5))).map (mxF (drN (P.take 5)) pr (min pr.length 10))
theorem ul_map(f:Nat→Nat)(n:Nat):ul ((List.range n).map f)= .im n (uF f n):=by
 simp_all[ut,uF]
theorem Qq6(P Q:List Nat)(pr:List (Nat×Nat))(hP: ∀x∈P,x<256)(hQ: ∀x∈Q,x<256)(h256: ∀x∈pr,x.1<256∧x.2<256):FnOk Pg g0 61 [.agg [bl P,bl Q,.im pr.length (prT pr)]] (.tup [ul (mgP P Q),ul (mgJ P pr)]):=by
 have hPf:=Qau P
 have hQf:=Qau Q
 have hTf:=Qdu pr
 have hg:=Qpu (P.take 5) Q (fun x hx=>hP x (List.mem_of_mem_take hx)) hQ
 have hn1:1≤drN (P.take 5):=by unfold drN;omega
 have hn6:drN (P.take 5)≤6:=by unfold drN;omega
 have hGf:=Qak (drG (P.take 5) Q) (drN (P.take 5))
 have h1:=mg_loop (P.take 5) Q pr h256 (drN (P.take 5)) hn1 hn6 _ hGf _ _ rfl rfl
 have hA:uF (mxF (drN (P.take 5)) pr 0) (drN (P.take 5))=rep (drN (P.take 5)) [u6 0]:=Qbn (p:=[]) _
 rw[hA]at h1
 have hAf:HfL (rep (drN (P.take 5)) [u6 0]):=by rw[←Qbn (p:=[])];exact Qak _ _
 have hBf:=Qak (mxF (drN (P.take 5)) pr (min pr.length 10)) (drN (P.take 5))
 have e1:ul (mgP P Q)= .im (drN (P.take 5)) (uF (drG (P.take 5) Q) (drN (P.take 5))):=ul_map _ _
 have e2:ul (mgJ P pr)= .im (drN (P.take 5)) (uF (mxF (drN (P.take 5)) pr (min pr.length 10)) (drN (P.take 5))):=ul_map _ _
 rw[e1,e2]
 have h5:sliceV (Qac Pg) 24 (bl P) none (some ((P.take 5).length:Int)) none=some (bl (P.take 5)):=by
  have:=slice_bt P (min P.length 5) (by omega)
  have e:P.take (min P.length 5)=P.take 5:=by
   by_cases h:P.length≤5
   ·grind
   ·grind
  rw[e]at this
  rw[List.length_take,Nat.min_comm]
  exact this
 have hmn:min (P.length:Int) 5=(((P.take 5).length:Nat):Int):=by rw[List.length_take];omega
 have hP5:=Qau (P.take 5)
 clear e1 e2 hA
 generalize uF (drG (P.take 5) Q) (drN (P.take 5))=G at*
 generalize uF (mxF (drN (P.take 5)) pr (min pr.length 10)) (drN (P.take 5))=B at*
 generalize drN (P.take 5)=n at*
 generalize P.take 5=P5 at*
 generalize prT pr=PP at*
 refine FnOk.of_vc vE_ok Qaf Qab (n:=1000) (r:=[]) (S:={sl:=[(2,.im n G),(3,.im n B)]}) (hs:=[nu 16 (P5.length:Nat),va 17 (bl P5),fn 22 (.im n G),mk 25,(0,.loop [0,1] (mgS P5 Q pr.length PP n G (0,rep n [u6 0])) [(True,.exit 0,mgX n G B)])]) ?_
 exact m_ (p:=let z0:=(↑n:Int);let z1:=rep n [u6 0];let z2:=[bl P5,bl Q,V.im pr.length PP];let z3:=V.tup [V.im n G,V.im n B];An [z3=z3,(if(5:Int)<(↑P.length:Int)then(5:Int)else(↑P.length:Int))=(↑P5.length:Int),_,An [TT 2,Tt],_,Tt,An [(0:Int)≤z0,z0≤z0,(↑(8:Nat):Int)*z0≤(281474976710656:Int),z0≤(9223372036854775807:Int)],An [An [Zz,An [n=n,G=G],An [Zz,n=n,Sm (n-n)],(↑(0:Nat):Int)=(0:Int),Tt],An [z2=z2,TT 3],An [z1=z1,_],Tt],_,(True->An [An [An [n=n,G=G],An [n=n,B=B,_],Tt],Tt]),Tt]) ⟨aq,aq,h5,a_,hg,aq,a_,⟨a_,a_,⟨aq,hAf⟩,aq⟩,h1,(fun _=>⟨⟨a_,⟨aq,aq,hBf⟩,aq⟩,aq⟩),aq⟩
theorem Qj2(Q:List Nat): ∀i,(orL Q i).Nodup
 |0=>List.nodup_nil
 | i + 1 => by
  have ih:=Qj2 Q i
  have hm:=Qc9 (Q:=Q) i
  rw[orL]
  have hp:((orL Q i).take (atF Q i)++[i]++(orL Q i).drop (atF Q i)).Perm (i::orL Q i):=by
   have:=List.perm_middle (a:=i) (l₁:=(orL Q i).take (atF Q i)) (l₂:=(orL Q i).drop (atF Q i))
   rw[List.take_append_drop]at this
   simpa using this
  rw[hp.nodup_iff]
  exact List.nodup_cons.2 ⟨fun h=>absurd (hm i h) (Nat.lt_irrefl _),ih⟩
theorem idx_at{L:List Nat}(hn:L.Nodup){x:Nat}(hx:x<L.length):L.idxOf (L.getD x 0)=x:=by
 rw[List.getD_eq_getElem?_getD,List.getElem?_eq_getElem hx]
 exact List.Nodup.idxOf_getElem hn x hx
theorem drI_bit{y:Nat}{o:Nat→Nat}{k:Nat}{x:Nat×(Nat→Nat)}{i b:Nat}: ∀j,((drI y o k x j).2 i).testBit b=true→(x.2 i).testBit b=true∨i=o k∧∃m,m<j∧b=o m
 |0,h=>.inl h
 | j + 1, h => by
  have ih:=drI_bit (y:=y) (o:=o) (k:=k) (x:=x) (i:=i) (b:=b) j
  have up:((drI y o k x j).2 i).testBit b=true→(x.2 i).testBit b=true∨i=o k∧∃m,m<j+1∧b=o m:=fun h=>by
   rcases ih h with h|⟨h1,m,h2,h3⟩
   ·exact .inl h
   ·exact .inr ⟨h1,m,by omega,h3⟩
  unfold drI at h
  split at h
  ·dsimp only at h
   split at h
   ·rename_i hik
    rw[Nat.testBit_or,Bool.or_eq_true]at h
    rcases h with h|h
    ·rw[←hik]at h;exact up h
    ·rw [Nat.testBit_two_pow] at h
     exact .inr ⟨hik,j,by omega,(of_decide_eq_true h).symm⟩
   ·exact up h
  ·exact up h
theorem Qpx{P:List Nat}{o:Nat→Nat}{i b:Nat}: ∀K,(drO P o K i).testBit b=true→∃k m,m<k∧k<K∧i=o k∧b=o m
 |0,h=>by unfold drO at h;simp at h
 | K + 1, h => by
  unfold drO at h
  rcases drI_bit K h with h|⟨h1,m,h2,h3⟩
  ·obtain ⟨k, m, h1, h2, h3, h4⟩ := Qpx K h
   exact⟨k,m,h1,by omega,h3,h4⟩
  ·exact⟨K,m,h2,by omega,h1,h3⟩
def SymF(f:Nat→Nat):Prop:=(∀a b,(f a).testBit b=(f b).testBit a)∧∀a,(f a).testBit a=false
theorem Qk7{f:Nat→Nat}{x y:Nat}(h:x≠y)(a b:Nat):(mx1 (mx1 f x y) y x a).testBit b=((f a).testBit b||(decide (a=x)&&decide (b=y))||(decide (a=y)&&decide (b=x))):=by
 unfold mx1
 by_cases h1:a=y
 ·subst h1
  rw[if_pos rfl,if_neg (Ne.symm h),Nat.testBit_or,Nat.testBit_two_pow]
  have e:decide (x=b)=decide (b=x):=by simp[eq_comm]
  simp[Ne.symm h,e]
 ·rw [if_neg h1]
  by_cases h2:a=x
  ·subst h2
   rw[if_pos rfl,Nat.testBit_or,Nat.testBit_two_pow]
   have e:decide (y=b)=decide (b=y):=by simp[eq_comm]
   simp[h1,e]
  ·rw[if_neg h2];simp[h1,h2]
theorem mx2_sym{f:Nat→Nat}{x y:Nat}(h:x≠y)(hf:SymF f):SymF (mx1 (mx1 f x y) y x):=by
 refine⟨fun a b=>?_,fun a=>?_⟩
 ·rw [Qk7 h, Qk7 h, hf.1 a b]
  cases(f b).testBit a<;>by_cases h1:a=x<;>by_cases h2:a=y<;>by_cases h3:b=x<;>by_cases h4:b=y<;>simp[h1,h2,h3,h4]
 ·rw [Qk7 h, hf.2 a]
  by_cases h1:a=x
  ·subst h1;simp[h]
  ·simp[h1]
theorem Qk8{n:Nat}{pr:List (Nat×Nat)}: ∀i,SymF (mxF n pr i)
 |0=>⟨fun a b=>by unfold mxF;simp,fun a=>by unfold mxF;simp⟩
 |i+1=>by
  unfold mxF
  split
  ·rename_i h;exact mx2_sym h (Qk8 i)
  ·exact Qk8 i
theorem Qdl(f:Nat→Nat){n k:Nat}(h:k<n):((List.range n).map f).getD k 0=f k:=by
 rw[List.getD_eq_getElem?_getD,List.getElem?_map,List.getElem?_range h];rfl
theorem mg_ok(P Q:List Nat)(pr:List (Nat×Nat)):GrOk (mgP P Q) (mgJ P pr):=by
 have hl5:(P.take 5).length≤5:=by rw[List.length_take];omega
 have hn:drN (P.take 5)≤5:=by unfold drN;omega
 have hn1:1≤drN (P.take 5):=by unfold drN;omega
 have hK:min (drN (P.take 5)) (P.take 5).length≤drN (P.take 5):=Nat.min_le_left _ _
 have hpl:(mgP P Q).length=drN (P.take 5):=by unfold mgP;rw[List.length_map,List.length_range]
 have hjl:(mgJ P pr).length=drN (P.take 5):=by unfold mgJ;rw[List.length_map,List.length_range]
 have ho: ∀j,(orL Q (drN (P.take 5))).getD j 0<drN (P.take 5):=fun i=>by
  rw[List.getD_eq_getElem?_getD]
  cases hx:(orL Q (drN (P.take 5)))[i]? with
  |none=>simp;omega
  |some x=>exact Qc9 _ x (List.mem_of_getElem? hx)
 have hg: ∀i,drG (P.take 5) Q i<2^drN (P.take 5):=fun i=>Qpy (by omega) ho _ i
 have hj: ∀i,mxF (drN (P.take 5)) pr (min pr.length 10) i<2^drN (P.take 5):=fun i=>Qmz hn1 _ i
 have h32:2^drN (P.take 5)≤32:=Nat.pow_le_pow_right (n:=2) (by decide) hn
 have hsy:=Qk8 (n:=drN (P.take 5)) (pr:=pr) (min pr.length 10)
 refine⟨by omega,by omega,fun x hx=>?_,⟨fun v=>(orL Q (drN (P.take 5))).idxOf v,fun u hu v hv=>?_⟩,fun k hk=>?_,by omega,fun x hx=>?_,fun k hk=>?_,fun k hk=>?_,fun k m hk hm=>?_⟩
 ·obtain ⟨i, _, rfl⟩ := List.mem_map.1 hx
  have:=hg i;omega
 ·rw [hpl] at hu ⊢
  unfold mgP at hv
  rw[Qdl _ hu]at hv
  unfold drG at hv
  obtain⟨k,m,h1,h2,h3,h4⟩:=Qpx _ hv
  have hll:=Qcz Q (drN (P.take 5))
  have hnd:=Qj2 Q (drN (P.take 5))
  refine⟨by rw[h4];exact ho m,?_⟩
  rw[h3,h4]
  show(orL Q (drN (P.take 5))).idxOf _<(orL Q (drN (P.take 5))).idxOf _
  rw[idx_at hnd (x:=m) (by omega),idx_at hnd (x:=k) (by omega)]
  exact h1
 ·rw [hpl] at hk ⊢
  unfold mgP
  rw[Qdl _ hk]
  exact Nat.div_eq_of_lt (hg k)
 ·obtain ⟨i, _, rfl⟩ := List.mem_map.1 hx
  have:=hj i;omega
 ·rw [hpl] at hk ⊢
  unfold mgJ
  rw[Qdl _ hk]
  exact Nat.div_eq_of_lt (hj k)
 ·rw [hpl] at hk
  unfold mgJ
  rw[Qdl _ hk]
  exact hsy.2 k
 ·rw [hpl] at hk hm
  unfold mgJ
  rw[Qdl _ hk,Qdl _ hm]
  exact hsy.1 k m
inductive Rch(l:List Nat)(w:Nat):Nat→Nat→Prop
 |refl (a:Nat):Rch l w a a
 |step {a b c:Nat}:Rch l w a b→(l.getD b 0).testBit c=true→w.testBit c=true→Rch l w a c
theorem Rch.trans{l:List Nat}{w a b c:Nat}(h1:Rch l w a b)(h2:Rch l w b c):Rch l w a c:=by
 induction h2 with
 |refl=>exact h1
 |step _ h3 h4 ih=>exact ih.step h3 h4
theorem nxF_iff{s w:Nat}{l:List Nat}{b:Nat}: ∀k,(nxF s w l k).testBit b=true↔s.testBit b=true∨∃a,a<k∧s.testBit a=true∧(l.getD a 0).testBit b=true∧w.testBit b=true
 |0=>⟨fun h=>.inl h,fun h=>h.elim id (fun⟨a,ha,_⟩=>absurd ha (Nat.not_lt_zero _))⟩
 |k+1=>by
  have ih:=nxF_iff (s:=s) (w:=w) (l:=l) (b:=b) k
  grind[nxF]
theorem Qpm{w:Nat}{l:List Nat}(hw:w<18446744073709551616): ∀f s,18446744073709551616-s≤f→s<18446744073709551616→nxF (clF w l f s) w l l.length=clF w l f s
 |0,s,h,hs=>by omega
 | f + 1, s, h, hs => by
  unfold clF
  split
  ·assumption
  ·rename_i he
   have h1:=Qhu s w l l.length
   exact Qpm hw f _ (by omega) (Qfj hs hw _)
theorem Qpn{w:Nat}{l:List Nat}: ∀f s b,(clF w l f s).testBit b=true→∃a,s.testBit a=true∧Rch l w a b
 |0,s,b,h=>⟨b,h,.refl _⟩
 | f + 1, s, b, h => by
  unfold clF at h
  split at h
  ·exact⟨b,h,.refl _⟩
  ·obtain ⟨a, h1, h2⟩ := Qpn f _ b h
   rcases(nxF_iff _).1 h1 with h1|⟨a',_,h3,h4,h5⟩
   ·grind
   ·exact⟨a',h3,(Rch.step (.refl _) h4 h5).trans h2⟩
theorem clo_iff{s w:Nat}{l:List Nat}(hs:s<18446744073709551616)(hw:w<18446744073709551616)(b:Nat):(clo s w l).testBit b=true↔∃a,s.testBit a=true∧Rch l w a b:=by
 constructor
 ·exact Qpn _ _ _
 ·rintro ⟨a, h1, h2⟩
  have hfix:nxF (clo s w l) w l l.length=clo s w l:=Qpm hw _ s (Nat.le_refl _) hs
  induction h2 with
  |refl=>exact Qii h1
  | @step b c h3 h4 h5 ih=>
   grind[nxF_iff]
def Sub(a b:Nat):Prop:=∀i,a.testBit i=true→b.testBit i=true
theorem Sub.eq{a b:Nat}(h1:Sub a b)(h2:Sub b a):a=b:=Nat.eq_of_testBit_eq fun i=>by
 rw[Bool.eq_iff_iff];exact⟨h1 i,h2 i⟩
theorem Qk6{x y:Nat}(hx:x<18446744073709551616)(hy:y<18446744073709551616):mi x y=0↔Sub x y:=by
 constructor
 ·intro h i hi
  have:=Qep hx hy i
  simp_all
 ·intro h
  refine Qpb fun i=>?_
  rw[Qep hx hy i]
  cases hi:x.testBit i with
  |false=>rfl
  |true=>rw[h i hi];rfl
theorem Qib(n i:Nat):(alN n).testBit i=decide (i<n):=Nat.testBit_two_pow_sub_one n i
theorem pow_lt64{v:Nat}(h:v<64):2^v<18446744073709551616:=Nat.pow_lt_pow_right (n:=64) (by decide) h
theorem bit_lt64{s v:Nat}(hs:s<18446744073709551616)(h:s.testBit v=true):v<64:=by
 refine Nat.lt_of_not_le fun hle=>?_
 rw[Nat.testBit_lt_two_pow (Nat.lt_of_lt_of_le (show s<2^64 from hs) (Nat.pow_le_pow_right (by decide) hle))]at h
 cases h
theorem Qli{j:List Nat}{s:Nat}(hs:s<18446744073709551616): ∀k,Sub (reF j s k) s
 |0,i,h=>h
 |k+1,i,h=>by
  have hr:=Qgy (j:=j) hs k
  have e2:reF j s (k+1)=mi (reF j s k) (dkF j s k):=rfl
  rw[e2,Qep hr (Qmk hs k)]at h
  simp only[Bool.and_eq_true]at h
  exact Qli hs k i h.1
section
variable {p j:List Nat} (g:GrOk p j)
include g
variable {B c k0:Nat} (hB:Sub B (alN p.length)) (hk0:k0<rn j B) (hc:c=dkF j B k0)
include hB hk0 hc
end
theorem nodup_le{ks:List Nat}{n:Nat}(hn:ks.Nodup)(hk: ∀k∈ks,k<n):ks.length≤n:=by
 have hp:((List.range n).filter (fun j=>decide (j∈ks))).Perm ks:=by
  refine(List.perm_ext_iff_of_nodup (List.Nodup.sublist List.filter_sublist List.nodup_range) hn).2 fun a=>?_
  simp only[List.mem_filter,List.mem_range,decide_eq_true_eq]
  exact⟨fun h=>h.2,fun h=>⟨hk a h,h⟩⟩
 rw[←hp.length_eq]
 calc _≤(List.range n).length:=List.length_filter_le _ _
  _=n:=List.length_range
theorem rn_le{j:List Nat}{s m:Nat}(hs:s<18446744073709551616)(hm: ∀i,s.testBit i=true→i<m):rn j s≤m:=by
 have key: ∀k,k≤rn j s→∃l:List Nat,l.Nodup∧l.length=k∧∀x∈l,s.testBit x=true∧(reF j s k).testBit x=false:=by
  intro k
  induction k with
  |zero=>intro _;exact⟨[],List.nodup_nil,rfl,fun x hx=>by cases hx⟩
  |succ k ih=>
   intro hk
   obtain⟨l,h1,h2,h3⟩:=ih (by omega)
   have h0:=(rn_ok (j:=j) hs).2 k (by omega)
   have hr:=Qgy (j:=j) hs k
   obtain⟨v,h64,hv,hvl,_⟩:=Qk5 h0 hr
   have hd:(dkF j s k).testBit v=true:=Qii (by rw[hvl];exact Nat.testBit_two_pow_self)
   have e2:reF j s (k+1)=mi (reF j s k) (dkF j s k):=rfl
   refine⟨v::l,List.nodup_cons.2 ⟨fun hm=>(by rw[(h3 v hm).2]at hv;cases hv),h1⟩,by simp[h2],fun x hx=>?_⟩
   rw[e2,Qep hr (Qmk hs k)]
   rcases List.mem_cons.1 hx with rfl|hx
   ·exact⟨Qli hs k x hv,by rw[hd];simp⟩
   ·exact⟨(h3 x hx).1,by rw[(h3 x hx).2];rfl⟩
 obtain⟨l,h1,h2,h3⟩:=key _ (Nat.le_refl _)
 rw[←h2]
 exact nodup_le h1 fun x hx=>hm x (h3 x hx).1
section
variable {p j:List Nat} (g:GrOk p j)
include g
end
def askB(p:List Nat)(xs ys:Nat):Nat:=clo (ys&&& mi (alN p.length) xs) (mi (alN p.length) xs) p
section
variable {p j:List Nat} (g:GrOk p j) {xs ys:Nat} (hq:AskOk p.length xs ys)
include g hq
def AbOk(p j:List Nat)(xs ys:Nat):Prop:=∀k0 k1,k0<rn j (askB p xs ys)→k1<rn j (alN p.length)→Sub (dkF j (askB p xs ys) k0) (dkF j (alN p.length) k1)→Sub (abF p (dkF j (askB p xs ys) k0) (dkF j (alN p.length) k1)) (askB p xs ys)
variable (hab:AbOk p j xs ys)
include hab
end
section
variable {p j:List Nat} (g:GrOk p j) {xs ys:Nat} (hq:AskOk p.length xs ys)
include g
include hq
end
section
variable {p j:List Nat} (g:GrOk p j)
include g
end
section
variable {p j:List Nat} (g:GrOk p j) (x y:Nat) (hx:x<18446744073709551616) (hy:y<18446744073709551616)
include g hx hy
end
open Go.RowKit Go.ChangeShapes Go.WideShapes
def allB(w:World)(b:Nat):Prop:=b<w.heap.size
def blF(f:Nat→List V)(n:Nat):List V:=(List.range n).flatMap f
theorem blF_zero(f:Nat→List V):blF f 0=[]:=rfl
theorem Qcr(f:Nat→List V)(n:Nat):blF f (n+1)=blF f n++f n:=by
 grind[blF,List.range_succ]
theorem Qf3{f g:Nat→List V}: ∀{n:Nat},(∀i,i<n→f i=g i)→blF f n=blF g n
 |0,_=>rfl
 |n+1,h=>by rw[Qcr,Qcr,Qf3 (fun i hi=>h i (by omega)),h n (by omega)]
theorem no_spot{w:World}{a:Addr}{v:Value}(h:w.cell? a=some v):a=⟨a.block,a.off,none⟩∧a.block<w.heap.size:=by
 unfold World.cell? at h
 split at h
 ·rename_i c e f hb
  refine⟨?_,(Array.getElem?_eq_some_iff.1 hb).1⟩
  cases a with
  |mk b o s=>
   simp_all
 ·cases h
theorem wf8{n:Int}(h:(Lit.int .u8 n).wf=true):0≤n∧n≤255:=by
 simp only[Lit.wf,Bool.and_eq_true,decide_eq_true_eq]at h
 exact h
section
variable {H:Type} {enc:TypeId×Value→H} {w:World}
theorem Qdd{t:TypeId}{k:IntKind}{fuel:Nat}{cs:List Value}{x:DataW H×List MemPlace}(ht:Pg.underlying t=some (.int k))(h:DataW.trod enc Pg w 0 (fun _=>true) true fuel t cs=some x): ∃n,cs=[.int k n]∧(Lit.int k n).wf=true:=by
 grind[DataW.trod_int]
theorem RL_get: ∀{l:List V}{cs:List Value}{s:Sig},RL s w l cs→l.length=cs.length∧∀(j:Nat)(v:Value),cs[j]? =some v→∃x:V,l[j]? =some x∧RV s w x v
 |[],_,_,h=>by subst h;simp
 |x::l,_,s,⟨v,vs,rfl,h1,h2⟩=>by
  obtain⟨e,k⟩:=RL_get h2
  grind
theorem RC_of{b:Nat}(hb:b<w.heap.size): ∀{l:List V}{off:Nat},(∀j x,l[j]? =some x→∃v,w.cell? ⟨b,off+j,none⟩=some v∧RV (sg (allB w)) w x v)→RC (sg (allB w)) w l b off
 |[],_,_=>trivial
 | x :: l, off, h => by
  obtain⟨v,h1,h2⟩:=h 0 x rfl
  exact⟨⟨hb,v,h1,h2⟩,RC_of hb fun j y hy=>by
   obtain⟨u,k1,k2⟩:=h (j+1) y (by simpa using hy)
   grind⟩
theorem Qpc{f:Nat→List V}{s:Nat}(hs:0<s): ∀{n j:Nat}{x:V},(∀i,i<n→(f i).length=s)→(blF f n)[j]? =some x→j/s<n∧(f (j/s))[j%s]? =some x
 |0,j,x,_,h=>by trivial
 | n + 1, j, x, hl, h => by
  have hlen: ∀m,m≤n→(blF f m).length=m*s:=by
   intro m
   induction m with
   |zero=>grind[blF_zero]
   |succ m ih=>grind[Qcr]
  rw[Qcr]at h
  by_cases hj:j<n*s
  ·rw [List.getElem?_append_left (by simp_all)] at h
   obtain⟨a,b⟩:=Qpc hs (fun i hi=>hl i (by omega)) h
   grind
  grind[Nat.div_eq_iff,Nat.mod_eq_sub_div_mul]
theorem Qd3{t e:TypeId}{s:Nat}(hs:0<s)(ht:Pg.underlying t=some (.slice e))(hce:Pg.cellsOf e=s)(Q:List V→Prop)(hQ: ∀(fuel:Nat)(cs:List Value)(x:DataW H×List MemPlace),DataW.trod enc Pg w 0 (fun _=>true) true fuel e cs=some x→∃l:List V,l.length=s∧RL (sg (allB w)) w l cs∧Q l)
  {fuel:Nat}{cs:List Value}{x:DataW H×List MemPlace}(h:DataW.trod enc Pg w 0 (fun _=>true) true fuel t cs=some x):
  ∃(v:Value)(f:Nat→List V)(n:Nat),cs=[v]∧RV (sg (allB w)) w (.im n (blF f n)) v∧(∀i,i<n→(f i).length=s∧Q (f i))∧n≤9223372036854775807:=by
 rcases DataW.trod_slice ht h with⟨rfl,_⟩|⟨a,len,cap,elems,rest,m,_,rfl,_,_,hl,hmx,hlen,hel,_,_⟩
 ·exact⟨_,fun _=>[],0,rfl,⟨none,0,rfl,Nat.le_refl _,fun h=>absurd rfl h⟩,fun i hi=>absurd hi (Nat.not_lt_zero _),Nat.zero_le _⟩
 ·rw [hce] at hel
  have each: ∀i:Nat,∃l:List V,i<len→(l.length=s∧Q l∧∀j x,l[j]? =some x→∃v,w.cell? ((a.add (i*s)).add j)=some v∧RV (sg (allB w)) w x v):=by
   intro i
   by_cases hi:i<len
   ·have h1 := hel i hi
    rw[List.getElem?_eq_getElem (by omega)]at h1
    obtain⟨cs',hcs,hy⟩:=Option.bind_eq_some_iff.1 h1
    obtain⟨l,k1,k2,k3⟩:=hQ _ _ _ hy
    obtain⟨e1,e2⟩:=RL_get k2
    refine⟨l,fun _=>⟨k1,k3,fun j x hx=>?_⟩⟩
    have hj:j<s:=by rw[←k1];exact(List.getElem?_eq_some_iff.1 hx).1
    have hc:=(World.cells?_some hcs).2.2 j hj
    have hjl:j<cs'.length:=by omega
    rw[List.getElem?_eq_getElem hjl]at hc
    obtain⟨y,y1,y2⟩:=e2 j _ (List.getElem?_eq_getElem hjl)
    rw[hx]at y1
    cases y1
    exact⟨_,hc,y2⟩
   ·exact⟨[],fun h=>absurd h hi⟩
  obtain⟨f,hf⟩:=Classical.axiomOfChoice each
  have hmx':cap≤9223372036854775807:=hmx
  refine⟨_,f,len,rfl,?_,fun i hi=>⟨(hf i hi).1,(hf i hi).2.1⟩,by omega⟩
  refine⟨some a,cap,by simp,hl,fun hn=>?_⟩
  have h0:0<len:=by omega
  obtain⟨k1,_,k3⟩:=hf 0 h0
  obtain⟨x0,hx0⟩: ∃x0,(f 0)[0]? =some x0:=⟨_,List.getElem?_eq_getElem (by omega)⟩
  obtain⟨v0,c0,_⟩:=k3 0 x0 hx0
  obtain⟨h1,h2⟩:=no_spot (by simpa [Addr.add]using c0)
  refine⟨a.block,a.off,by rw[←h1],RC_of h2 fun j x hx=>?_⟩
  obtain⟨q1,q2⟩:=Qpc hs (fun i hi=>(hf i hi).1) hx
  obtain⟨v,c1,c2⟩:=(hf _ q1).2.2 _ _ q2
  refine⟨v,?_,c2⟩
  rw[h1,Qa5,Qa5,Nat.add_assoc]at c1
  have e:j/s*s+j%s=j:=by rw[Nat.mul_comm];exact Nat.div_add_mod j s
  rw[e]at c1
  exact c1
theorem Qsl{t e:TypeId}{k:IntKind}{fuel:Nat}{cs:List Value}{x:DataW H×List MemPlace}(ht:Pg.underlying t=some (.slice e))(he:Pg.underlying e=some (.int k))(hc:Pg.cellsOf e=1)
  (h:DataW.trod enc Pg w 0 (fun _=>true) true fuel t cs=some x): ∃(v:Value)(L:List Int),cs=[v]∧RV (sg (allB w)) w (.im L.length (L.map (V.int k))) v∧(∀n∈L,(Lit.int k n).wf=true)∧L.length≤9223372036854775807:=by
 obtain⟨v,f,n,rfl,h1,h2,h3⟩:=Qd3 (s:=1) (by omega) ht hc (fun l=>∃m,l=[.int k m]∧(Lit.int k m).wf=true) (fun fuel cs x hx=>by
  obtain⟨m,rfl,hw⟩:=Qdd he hx
  exact⟨[.int k m],rfl,⟨_,_,rfl,rfl,rfl⟩,m,rfl,hw⟩) h
 have: ∀i:Nat,∃m:Int,i<n→f i=[.int k m]∧(Lit.int k m).wf=true:=fun i=>by
  by_cases hi:i<n
  ·simp_all
  ·exact⟨0,fun h=>absurd h hi⟩
 obtain⟨g,hg⟩:=Classical.axiomOfChoice this
 have e:blF f n=((List.range n).map g).map (V.int k):=by
  have: ∀m,m≤n→blF f m=((List.range m).map g).map (V.int k):=by
   intro m
   induction m with
   |zero=>intro _;rfl
   |succ m ih=>grind[Qcr,List.range_succ]
  exact this n (Nat.le_refl _)
 grind
theorem wfu{n:Int}(h:(Lit.int .u64 n).wf=true): ∃k:Nat,n=(k:Int)∧k<18446744073709551616:=by
 simp only[Lit.wf,Bool.and_eq_true,decide_eq_true_eq]at h
 have h2:n≤18446744073709551615:=h.2
 exact⟨n.toNat,(Int.toNat_of_nonneg h.1).symm,by omega⟩
theorem wf8n{n:Int}(h:(Lit.int .u8 n).wf=true): ∃k:Nat,n=(k:Int)∧k<256:=by
 have h:=wf8 h
 exact⟨n.toNat,(Int.toNat_of_nonneg h.1).symm,by omega⟩
theorem prT_bl: ∀(g:Nat→Nat×Nat)(n:Nat),blF (fun i=>[w8 ((g i).1:Nat),w8 ((g i).2:Nat)]) n=prT ((List.range n).map g)
 |g,0=>rfl
 | g, n + 1 => by
  have e: ∀l m:List (Nat×Nat),prT (l++m)=prT l++prT m:=by
   intro l m
   induction l with
   |nil=>rfl
   |cons x l ih=>grind[prT]
  rw[Qcr,prT_bl g n,List.range_succ,List.map_append,e];rfl
theorem Qg4{fuel:Nat}{cs:List Value}{x:DataW H×List MemPlace}(h:DataW.trod enc Pg w 0 (fun _=>true) true fuel 24 cs=some x): ∃(v:Value)(L:List Nat),cs=[v]∧RV (sg (allB w)) w (bl L) v∧(∀x∈L,x<256)∧L.length≤9223372036854775807:=by
 obtain⟨v,L,e1,r1,w1,l1⟩:=Qsl Tryz.underlying24 Tryz.underlying5 (by kernel_rfl) h
 have eL:L.map (V.int .u8)=bt (L.map Int.toNat):=by
  unfold bt
  rw[List.map_map]
  refine List.map_congr_left fun z hz=>?_
  have:=wf8 (w1 z hz)
  show V.int .u8 z=V.int .u8 ((z.toNat:Nat):Int)
  rw[Int.toNat_of_nonneg this.1]
 refine⟨v,L.map Int.toNat,e1,?_,fun x hx=>?_,by simpa using l1⟩
 ·grind
 ·obtain ⟨z, hz, rfl⟩ := List.mem_map.1 hx
  have:=wf8 (w1 z hz)
  omega
theorem trod_two{fuel:Nat}{cs:List Value}{x:DataW H×List MemPlace}(h:DataW.trod enc Pg w 0 (fun _=>true) true fuel 92 cs=some x): ∃a b:Nat,cs=[.int .u8 (a:Nat),.int .u8 (b:Nat)]∧a<256∧b<256:=by
 obtain⟨xs,n,_,_,hl,hlen,hfd⟩:=DataW.trod_array Tryz.underlying92 h
 have hc:Pg.cellsOf 92=2:=by kernel_rfl
 have h5:Pg.cellsOf 5=1:=by kernel_rfl
 rw[hc]at hl
 obtain⟨c0,c1,rfl⟩: ∃c0 c1,cs=[c0,c1]:=by
  match cs,hl with
  |[c0,c1],_=>simp
 obtain⟨y0,y1,rfl⟩: ∃y0 y1,xs=[y0,y1]:=by
  match xs,hlen with
  |[y0,y1],_=>simp
 have f0:=hfd 0 (by omega)
 have f1:=hfd 1 (by omega)
 rw[h5]at f0 f1
 obtain⟨k0,e0,w0⟩:=Qdd Tryz.underlying5 (x:=y0) f0
 obtain⟨k1,e1,w1⟩:=Qdd Tryz.underlying5 (x:=y1) f1
 simp at e0 e1
 obtain⟨a,rfl,ha⟩:=wf8n w0
 obtain⟨b,rfl,hb⟩:=wf8n w1
 subst e0 e1
 exact⟨a,b,rfl,ha,hb⟩
theorem Qng{fuel:Nat}{cs:List Value}{x:DataW H×List MemPlace}(h:DataW.trod enc Pg w 0 (fun _=>true) true fuel 23 cs=some x): ∃(v:Value)(pr:List (Nat×Nat)),cs=[v]∧RV (sg (allB w)) w (.im pr.length (prT pr)) v∧(∀x∈pr,x.1<256∧x.2<256)∧pr.length≤9223372036854775807:=by
 obtain⟨v,f,n,rfl,h1,h2,h3⟩:=Qd3 (s:=2) (by omega) Tryz.underlying23 (by kernel_rfl) (fun l=>∃q:Nat×Nat,l=[w8 (q.1:Nat),w8 (q.2:Nat)]∧q.1<256∧q.2<256) (fun fuel cs x hx=>by
  obtain⟨a,b,rfl,ha,hb⟩:=trod_two hx
  exact⟨[w8 (a:Nat),w8 (b:Nat)],rfl,⟨_,_,rfl,rfl,_,_,rfl,rfl,rfl⟩,(a,b),rfl,ha,hb⟩) h
 have: ∀i:Nat,∃q:Nat×Nat,i<n→f i=[w8 (q.1:Nat),w8 (q.2:Nat)]∧q.1<256∧q.2<256:=fun i=>by
  by_cases hi:i<n
  ·simp_all
  ·exact⟨(0,0),fun h=>absurd h hi⟩
 obtain⟨g,hg⟩:=Classical.axiomOfChoice this
 refine⟨v,(List.range n).map g,rfl,?_,fun x hx=>?_,by simpa using h3⟩
 all_goals grind[prT_bl,Qf3]
theorem trod_dr7{fuel:Nat}{cs:List Value}{x:DataW H×List MemPlace}(h:DataW.trod enc Pg w 0 (fun _=>true) true fuel 58 cs=some x): ∃P Q:List Nat,RL (sg (allB w)) w [bl P,bl Q] cs∧(∀x∈P,x<256)∧(∀x∈Q,x<256):=by
 obtain⟨xs,n,_,_,hl,hlen,hfd⟩:=DataW.trod_struct Tryz.underlying58 h
 have hc:Pg.cellsOf 58=2:=by kernel_rfl
 rw[hc]at hl
 obtain⟨c0,c1,rfl⟩: ∃c0 c1,cs=[c0,c1]:=by
  match cs,hl with
  |[c0,c1],_=>simp
 have hlen':xs.length=2:=hlen
 obtain⟨y0,y1,rfl⟩: ∃y0 y1,xs=[y0,y1]:=by
  match xs,hlen' with
  |[y0,y1],_=>simp
 have h1:Pg.cellsOf 24=1:=by kernel_rfl
 have f0:DataW.trod enc Pg w 0 (fun _=>true) true n 24 (List.take (Pg.cellsOf 24) (List.drop 0 [c0,c1]))=some y0:=hfd 0 _ rfl
 have f1:DataW.trod enc Pg w 0 (fun _=>true) true n 24 (List.take (Pg.cellsOf 24) (List.drop 1 [c0,c1]))=some y1:=hfd 1 _ rfl
 rw[h1]at f0 f1
 obtain⟨v0,P,e0,r0,w0,_⟩:=Qg4 f0
 obtain⟨v1,Q,e1,r1,w1,_⟩:=Qg4 f1
 simp at e0 e1
 subst e0 e1
 exact⟨P,Q,⟨_,_,rfl,r0,_,_,rfl,r1,rfl⟩,w0,w1⟩
theorem Qo3{v:Value}{d:DataW H}{p:List MemPlace}(hv: ∃cs,v= .agg cs∧cs.size=Pg.cellsOf 60)(h:DataW.Trod enc Pg w 0 (fun _=>true) true 60 v d p):
  ∃(P Q:List Nat)(pr:List (Nat×Nat)),RV (sg (allB w)) w (.agg [bl P,bl Q,.im pr.length (prT pr)]) v∧(∀x∈P,x<256)∧(∀x∈Q,x<256)∧∀x∈pr,x.1<256∧x.2<256:=by
 obtain⟨arr,rfl,hsz⟩:=hv
 obtain⟨fuel,hf⟩:=h
 obtain⟨xs,n,_,_,hl,hlen,hfd⟩:=DataW.trod_struct Tryz.underlying60 hf
 have hc:Pg.cellsOf 60=3:=by kernel_rfl
 rw[hc]at hl
 have hcells:(Value.agg arr).cells.toList=arr.toList:=rfl
 rw[hcells]at hl hfd
 obtain⟨c0,c1,c2,harr⟩: ∃c0 c1 c2,arr.toList=[c0,c1,c2]:=by
  match arr.toList,hl with
  |[c0,c1,c2],_=>simp
 have hlen':xs.length=2:=hlen
 obtain⟨y0,y1,rfl⟩: ∃y0 y1,xs=[y0,y1]:=by
  match xs,hlen' with
  |[y0,y1],_=>simp
 have h1:Pg.cellsOf 23=1:=by kernel_rfl
 have h2:Pg.cellsOf 58=2:=by kernel_rfl
 have f0:DataW.trod enc Pg w 0 (fun _=>true) true n 58 (List.take (Pg.cellsOf 58) (List.drop 0 arr.toList))=some y0:=hfd 0 _ rfl
 have f1:DataW.trod enc Pg w 0 (fun _=>true) true n 23 (List.take (Pg.cellsOf 23) (List.drop 2 arr.toList))=some y1:=hfd 1 _ rfl
 rw[harr]at f0 f1
 rw[h2]at f0
 rw[h1]at f1
 obtain⟨P,Q,⟨u0,us0,q0,r0,u1,us1,q1,r1,q2⟩,w0,w1⟩:=trod_dr7 (x:=y0) f0
 obtain⟨v2,pr,e2,r2,w2,_⟩:=Qng (x:=y1) f1
 simp at q0 e2
 obtain⟨rfl,rfl⟩:=q0
 simp at q1
 obtain⟨rfl,rfl⟩:=q1
 subst e2
 refine⟨P,Q,pr,⟨arr,rfl,?_⟩,w0,w1,w2⟩
 rw[harr]
 exact⟨_,_,rfl,r0,_,_,rfl,r1,_,_,rfl,r2,rfl⟩
end
theorem Qqz{f:Nat}{ars:List V}{b:Bool}(h:FnOk Pg g0 f ars (.bool b))(hf:(codeOf Pg f).isSome=true){w:World}{vals:Array Value}(ha:RL (sg (allB w)) w ars vals.toList):Calls Pg f vals w fun e w'=>e= .returned (.bool b)∧Below w.heap.size w w':=by
 obtain⟨fi,hfi⟩:=Option.isSome_iff_exists.1 hf
 obtain⟨next,e1,e2,e3⟩:=h.1 (sg (allB w)) w (.func (.func f) #[] #[]) vals ⟨#[],rfl,rfl⟩ ha (Qj0 (fun b hb=>hb.elim id False.elim)) no_gl (fun _ _ h=>h)
 have hn:next= .enter f vals:=by
  have:=(vE_ok.code f fi hfi)
  obtain⟨fn,f1,f2,f3,f4,f5⟩:=this
  have:=f5 vals w
  simp[Deferred.ofValue,invoke,this]at e1
  exact e1.symm
 subst hn
 refine(callsIn_wide.1 e2).mono ?_
 rintro e w' ⟨u,s',rfl,g1,g2,g3,_⟩
 obtain rfl:u= .bool b:=g1
 exact⟨rfl,g3.mod.os,g3.mod.tape,g3.mod.output,g3.mod.size,fun k hk=>g3.mod.block k hk (fun⟨_,hm,_⟩=>by cases hm)⟩
def To(k:Nat)(c:Code)(sl:List (Nat×V))(H:T O)(nx:Nat)(e:Ex)(sl':List (Nat×V))(H':T O)(nx':Nat):Prop:=∀nx0 lg,Sat Pg none nx0 c (mkSo g0 k sl H nx lg) (fun e' st=>e'=e∧∃lg',st=mkSo g0 k sl' H' nx' lg')
theorem To.of_vc{k n:Nat}{c:Code}{hs:Hs}{sl sl':List (Nat×V)}{H H':T O}{nx nx':Nat}{e:Ex}(h: ∀nx0 lg(G:Ex→List (Nat×V)→T O→Nat→List Nat→Prop),(∀lg',G e sl' H' nx' lg')→vc Pg vE sp0 none nx0 n c hs (mkSo g0 k sl H nx lg) (Qqv k G)):To k c sl H nx e sl' H' nx':=fun nx0 lg=>by
 refine Sat.fewer_post ?_
 refine Sat.of_vc vE_ok Qaf Qab rfl (h nx0 lg (fun e1 sl1 H1 nx1 lg1=>e1=e∧sl1=sl'∧H1=H'∧nx1=nx') (fun _=>⟨rfl,rfl,rfl,rfl⟩)) fun e1 hs' st' hg hk=>?_
 unfold Qqv at hk
 split at hk
 ·rename_i sl1 _
  obtain⟨hb,⟨h1,h2,k1,k2⟩,hq⟩:=Qaj hk
  subst h1 h2
  have hn:=Nat.eq_of_beq_eq_true hb
  refine⟨_,hq,rfl,st'.lg,?_⟩
  rw[hg,hn,k1,k2]
  rfl
 ·exact hk.elim
theorem To.loop{c b:Code}(hc:c= .loop b){k:Nat}{α:Type}(I:α→T O→Nat→Prop)(S:α→List (Nat×V))(m:α→Nat)(J:Ex→List (Nat×V)→T O→Nat→Prop)
  (h: ∀x H nx,I x H nx→(∃y H' nx',I y H' nx'∧m y<m x∧To k b (S x) H nx .normal (S y) H' nx')∨(∃e sl H' nx',e≠ .normal∧J e sl H' nx'∧To k b (S x) H nx e sl H' nx'))
  (x:α)(H:T O)(nx:Nat)(hx:I x H nx): ∃e sl H' nx',J e sl H' nx'∧To k c (S x) H nx e sl H' nx':=by
 subst hc
 have chain: ∀(n:Nat)(x:α)(H:T O)(nx:Nat),m x=n→I x H nx→∃(len:Nat)(s:Nat→α×T O×Nat)(e:Ex)(sl:List (Nat×V))(H':T O)(nx':Nat),s 0=(x,H,nx)∧(∀i,i<len→To k b (S (s i).1) (s i).2.1 (s i).2.2 .normal (S (s (i+1)).1) (s (i+1)).2.1 (s (i+1)).2.2)∧e≠ .normal∧J e sl H' nx'∧To k b (S (s len).1) (s len).2.1 (s len).2.2 e sl H' nx':=by
  intro n
  induction n using Nat.strongRecOn with
  | ind n ih =>
   intro x H nx hn hI
   rcases h x H nx hI with⟨y,H1,nx1,h1,h2,h3⟩|⟨e,sl,H1,nx1,h1,h2,h3⟩
   ·obtain ⟨len, s, e, sl, H2, nx2, k0, k1, k2, k3, k4⟩ := ih (m y) (by omega) y H1 nx1 rfl h1
    refine⟨len+1,fun i=>match i with|0=>(x,H,nx)|i+1=>s i,e,sl,H2,nx2,rfl,fun i hi=>?_,k2,k3,k4⟩
    cases i with
    |zero=>dsimp only;rw[k0];exact h3
    |succ i=>exact k1 i (by omega)
   ·exact⟨0,fun _=>(x,H,nx),e,sl,H1,nx1,rfl,fun i hi=>absurd hi (Nat.not_lt_zero _),h1,h2,h3⟩
 obtain⟨len,s,e,sl,H',nx',k0,k1,k2,k3,k4⟩:=chain _ x H nx rfl hx
 refine⟨e,sl,H',nx',k3,fun nx0 lg=>?_⟩
 have hl:=Sat.loop (P:=Pg) (rd:=none) (nx0:=nx0) (b:=b) (α:={i:Nat//i≤len}×List Nat) (R:=fun e' st=>e'=e∧∃lg',st=mkSo g0 k sl H' nx' lg') (fun i=>mkSo g0 k (S (s i.1.1).1) (s i.1.1).2.1 (s i.1.1).2.2 i.2) (fun i=>len-i.1.1) (fun⟨⟨i,hi⟩,lg⟩=>by
  by_cases hlt:i<len
  ·refine(k1 i hlt nx0 lg).mono fun e1 st⟨h1,lg',h2⟩=>.inl ⟨h1,(⟨i+1,hlt⟩,lg'),by dsimp only;omega,h2⟩
  ·obtain rfl : i = len := by omega
   exact(k4 nx0 lg).mono fun e1 st h1=>.inr ⟨by rw[h1.1];exact k2,h1⟩) (⟨0,Nat.zero_le _⟩,lg)
 dsimp only at hl
 rw[k0]at hl
 exact hl
section
variable {k:Nat} {a b c:Code} {sl sl1 sl2:List (Nat×V)} {H H1 H2:T O} {nx nx1 nx2:Nat} {e:Ex}
theorem To.seq(hc:c= .seq a b)(h1:To k a sl H nx .normal sl1 H1 nx1)(h2:To k b sl1 H1 nx1 e sl2 H2 nx2):To k c sl H nx e sl2 H2 nx2:=fun nx0 lg=>by
 subst hc
 refine Sat.seq (h1 nx0 lg) (fun st hst=>?_) (fun e1 st hne hst=>absurd hst.1 hne)
 obtain⟨_,lg',h⟩:=hst
 rw[h];exact h2 nx0 lg'
theorem To.seqX(hc:c= .seq a b)(hne:e≠ .normal)(h1:To k a sl H nx e sl1 H1 nx1):To k c sl H nx e sl1 H1 nx1:=fun nx0 lg=>by
 subst hc
 exact Sat.seq (h1 nx0 lg) (fun st hst=>absurd hst.1.symm hne) (fun e1 st _ hst=>hst)
theorem To.block{id:Nat}(hc:c= .block id b)(h:To k b sl H nx (.exit id) sl1 H1 nx1):To k c sl H nx .normal sl1 H1 nx1:=fun nx0 lg=>by
 subst hc
 exact Sat.block (h nx0 lg) (fun st hst=>⟨rfl,hst.2⟩) (fun e1 st hne hst=>absurd hst.1 hne)
theorem To.blockN{id:Nat}(hc:c= .block id b)(hne:e≠ .exit id)(h:To k b sl H nx e sl1 H1 nx1):To k c sl H nx e sl1 H1 nx1:=fun nx0 lg=>by
 subst hc
 exact Sat.block (h nx0 lg) (fun st hst=>absurd hst.1.symm hne) (fun e1 st _ hst=>hst)
theorem To.fewer(h:To k c sl1 H nx e sl2 H2 nx2)(hs:slotsQ ⟨putL (blank k) sl,g0,k⟩ sl1):To k c sl H nx e sl2 H2 nx2:=fun nx0 lg=>by
 refine Sat.fewer (sl:=sl1) ?_ (h nx0 lg)
 exact hs
end
theorem tq{P:Prop}(h:P:=by
 first|exact trivial|with_reducible rfl|with_reducible assumption|omega|(with_reducible refine decide_eq_true ?_<;>omega)|(with_reducible refine decide_eq_false ?_<;>omega)|(with_reducible refine wr6' ?_ ?_ ?_<;>omega)|(with_reducible refine Qfn ?_<;>omega)|(with_reducible refine Qf5 ?_<;>omega)):P:=h
mutual
noncomputable def vxB(H:T O):V→V→Bool
 | .int k n,y=>match y with
  | .int k' n'=>decide (k=k')&&decide (n=n')
  | _=>false
 | .bool a,y=>match y with
  | .bool b=>a==b
  | _=>false
 | .nils,y=>match y with
  | .nils=>true
  | _=>false
 | .agg l,y=>match y with
  | .agg l'=>vxL H l l'
  | _=>false
 | .im n l, y => match y with
  | .nils=>Nat.beq n 0
  | .im k m=>Nat.beq n k&&beqL l m
  | .sl h off m _=>Nat.beq n m&&(match gt H h with
   |some (.row _ _ c)=>vxP H l (c.drop off)
   | _=>false)
  | _=>false
 | .imp l, y => match y with
  | .ptr h off=>(match gt H h with
   |some (.row _ _ c)=>vxP H l (c.drop off)
   | _=>false)
  | _=>false
 | _,_=>false
noncomputable def vxL(H:T O):List V→List V→Bool
 |[],ys=>match ys with
  |[]=>true
  | _=>false
 |x::xs,ys=>match ys with
  |y::ys'=>vxB H x y&&vxL H xs ys'
  |[]=>false
noncomputable def vxP(H:T O):List V→List V→Bool
 |[],_=>true
 |x::xs,ys=>match ys with
  |y::ys'=>vxB H x y&&vxP H xs ys'
  |[]=>false
end
mutual
theorem Qsu{H:T O}{ρ:Nat→Option Nat}: ∀(x y:V),vxB H x y=true→View H.get (fun _=>True) ρ x y
 | .int k n,y,h=>by
  cases y<;>simp[vxB]at h
  obtain⟨rfl,rfl⟩:=h
  rfl
 | .bool a,y,h=>by
  cases y<;>simp[vxB]at h
  subst h;rfl
 | .nils,y,h=>by
  cases y<;>first|rfl|simp[vxB]at h
 | .agg l,y,h=>by
  cases y with
  |agg l'=>exact⟨l',rfl,Qkm l l' (by simpa [vxB]using h)⟩
  | _=>simp[vxB]at h
 | .im n l, y, h => by
  cases y with
  |nils=>exact .inr (.inl ⟨rfl,Nat.eq_of_beq_eq_true (by simpa [vxB]using h)⟩)
  |im k m=>
   unfold vxB at h
   simp only[Bool.and_eq_true]at h
   have h1:=Nat.eq_of_beq_eq_true h.1
   subst h1
   exact .inl (by rw[beqL_eq _ _ h.2])
  | sl g off m room =>
   unfold vxB at h
   simp only[Bool.and_eq_true]at h
   obtain⟨h1,h2⟩:=h
   have h1:=Nat.eq_of_beq_eq_true h1
   subst h1
   split at h2
   ·rename_i t sp c hg
    rw[Qay]at hg
    exact .inr (.inr ⟨g,off,room,t,sp,c,rfl,trivial,hg,Qsv l _ h2⟩)
   ·cases h2
  | _=>simp[vxB]at h
 | .imp l, y, h => by
  cases y with
  | ptr g off =>
   unfold vxB at h
   dsimp only at h
   split at h
   ·rename_i t sp c hg
    rw[Qay]at hg
    exact .inr ⟨g,off,t,sp,c,rfl,trivial,hg,Qsv l _ h⟩
   ·cases h
  | _=>simp[vxB]at h
 | .str _,_,h| .nilp,_,h| .nilf,_,h| .nili,_,h| .nilm,_,h| .tup _,_,h| .fn _ _,_,h| .mfn _ _,_,h| .ifc _ _,_,h| .ptr _ _,_,h| .sl _ _ _ _,_,h| .mp _,_,h| .yld _,_,h=>by simp[vxB]at h
theorem Qkm{H:T O}{ρ:Nat→Option Nat}: ∀(xs ys:List V),vxL H xs ys=true→ViewL H.get (fun _=>True) ρ xs ys
 |[],ys,h=>by
  cases ys with
  |nil=>rfl
  |cons=>simp[vxL]at h
 | x :: xs, ys, h => by
  cases ys with
  |nil=>simp[vxL]at h
  |cons y ys=>
   unfold vxL at h
   simp only[Bool.and_eq_true]at h
   exact⟨y,ys,rfl,Qsu x y h.1,Qkm xs ys h.2⟩
theorem Qsv{H:T O}: ∀(xs ys:List V),vxP H xs ys=true→ViewP H.get (fun _=>True) xs ys
 |[],ys,h=>trivial
 | x :: xs, ys, h => by
  cases ys with
  |nil=>simp[vxP]at h
  |cons y ys=>
   unfold vxP at h
   simp only[Bool.and_eq_true]at h
   exact⟨y,ys,rfl,Qsu x y h.1,Qsv xs ys h.2⟩
end
noncomputable def Qeo(f:Nat)(l:List V)(v:V)(h:Hook):Hook:=fun f' ars H gl=>match gl with
 | .e=>bif Nat.beq f' f&&vxL H l ars then some v else h f' ars H gl
 | _=>h f' ars H gl
theorem Qbe{f:Nat}{l:List V}{v:V}{h:Hook}(hh:Qhi Pg h)(hv:gnd v=true)(hc:(codeOf Pg f).isSome=true)(hok:FnOk Pg .e f l v):Qhi Pg (Qeo f l v h):=by
 intro f' ars H gl u hu s w vals ha hH hgl nx hnx
 unfold Qeo at hu
 split at hu
 ·cases hb : (Nat.beq f' f && vxL H l ars) with
  |false=>rw[hb]at hu;exact hh f' ars H _ u hu s w vals ha hH hgl nx hnx
  | true =>
   rw[hb,cond_true]at hu
   cases hu
   simp only[Bool.and_eq_true]at hb
   have e1:=Nat.eq_of_beq_eq_true hb.1
   subst e1
   have hview:=Qkm (ρ:=fun _=>none) _ _ hb.2
   obtain⟨fi,hfi⟩:=Option.isSome_iff_exists.1 hc
   obtain⟨fn,f1,f2,f3,f4,f5⟩:=Qkr plain hfi
   have hF: ∀b,(s.fz b∨∃g t sp c,H.get g=some (.row t sp c)∧b=s.μ g)→b<w.heap.size:=by
    rintro b (hb|⟨g,t,sp,c,hg,rfl⟩)
    ·exact hH.old b (.inl hb)
    ·exact(hH.obj _ _ hg rfl).2.1
   have hrl:=ViewL.rl hH (s':=sg (fun b=>s.fz b∨∃g t sp c,H.get g=some (.row t sp c)∧b=s.μ g)) ⟨fun _ _ e=>(by cases e),fun g t sp c _ hg=>.inr ⟨g,t,sp,c,hg,rfl⟩,fun b hb=>.inl hb⟩ _ _ _ hview ha
   obtain⟨next,q1,q2,q3⟩:=hok.1 (sg _) w (.func (.func f') #[] #[]) vals ⟨#[],rfl,rfl⟩ hrl (Qj0 (fun b hb=>hb.elim (hF b) (fun hb=>hb.elim))) (fun g l hg=>by simp at hg) (fun _ _ h=>h)
   have hn:next= .enter f' vals:=by
    have h5:=f5 vals w
    simp[Deferred.ofValue,invoke,h5]at q1
    exact q1.symm
   subst hn
   refine⟨f5 vals w,(callsIn_wide.1 q2).mono ?_⟩
   rintro e w' ⟨x,s',rfl,g1,g2,g3,g4,g5⟩
   exact hook_gnd hH ⟨x,rfl,⟨g3.mod.os,g3.mod.tape,g3.mod.output,g3.mod.size,fun k hk=>g3.mod.block k hk (by rintro⟨h,hm,_⟩;cases hm)⟩,fun s'' w''=>gnd_rv _ _ hv g1⟩
 ·exact hh f' ars H gl u hu s w vals ha hH hgl nx hnx
noncomputable def Qn1(f:Nat)(l:List V)(v:V)(h:Hook):Hook:=fun f' ars H gl=>match gl with
 | .e=>bif Nat.beq f' f&&vxL .e l ars then some v else h f' ars H gl
 | _=>h f' ars H gl
theorem Qfs{f:Nat}{l:List V}{v:V}{h:Hook}(hh:Qhi Pg h)(hv:hfB v=true)(hc:(codeOf Pg f).isSome=true)(hok:FnOk Pg .e f l v):Qhi Pg (Qn1 f l v h):=by
 intro f' ars H gl u hu s w vals ha hH hgl nx hnx
 unfold Qn1 at hu
 split at hu
 ·cases hb : (Nat.beq f' f && vxL .e l ars) with
  |false=>rw[hb]at hu;exact hh f' ars H _ u hu s w vals ha hH hgl nx hnx
  | true =>
   rw[hb,cond_true]at hu
   cases hu
   simp only[Bool.and_eq_true]at hb
   have e1:=Nat.eq_of_beq_eq_true hb.1
   subst e1
   have hcall:=Qqf (H:=H) (nx:=nx) hok (Qkm (H:=.e) (ρ:=fun _=>none) _ _ hb.2) (Qek.1 _ hv)
   obtain⟨fi,hfi⟩:=Option.isSome_iff_exists.1 hc
   obtain⟨fn,f1,f2,f3,f4,f5⟩:=Qkr plain hfi
   obtain⟨next,q1,q2,q3⟩:=hcall.1 s w (.func (.func f') #[] #[]) vals ⟨#[],rfl,rfl⟩ ha hH (fun g l hg=>by simp at hg) hnx
   have hn:next= .enter f' vals:=by
    have h5:=f5 vals w
    simp[Deferred.ofValue,invoke,h5]at q1
    exact q1.symm
   subst hn
   exact⟨f5 vals w,callsIn_wide.1 q2⟩
 ·exact hh f' ars H gl u hu s w vals ha hH hgl nx hnx
def inB(lo hi:Int)(L:List Int):Bool:=L.all fun x=>decide (lo≤x)&&decide (x≤hi)
theorem Qa7{lo hi:Int}{L:List Int}:inB lo hi L=true↔∀k,k<L.length→lo≤L.getD k 0∧L.getD k 0≤hi:=by
 grind[inB,List.getElem_of_mem]
abbrev wiS(lo hi:Int)(L:List Int)(k:Nat):SL:={sl:=[(0,i6 lo),(1,i6 hi),(9,sl L),(10,i6 (L.length:Nat)),(11,i6 (k:Nat))]}
theorem Qlz(lo hi:Int)(L:List Int)(hl:L.length≤1000000):
  Sat Pg none 0 (at' 76 [1,0,1,0]) (mkSt g0 24 (wiS lo hi L 0)) (Qae g0 24 [(inB lo hi L=true,.exit 0,{sl:=[]}),(inB lo hi L=false,.ret,{sl:=[(6,.bool false)]})]):=by
 have hL:=Qad L
 refine Qaw vE_ok Qaf Qab (b:=at' 76 [1,0,1,0,0]) (by kernel_rfl) (fun k=>k≤L.length∧∀i,i<k→lo≤L.getD i 0∧L.getD i 0≤hi) (wiS lo hi L) (fun k=>L.length-k) (fun k hk=>?_) 0 ⟨Nat.zero_le _,fun i h=>absurd h (Nat.not_lt_zero _)⟩
 obtain⟨hk,hin⟩:=hk
 by_cases hlt:k<L.length
 ·have hld := Qao hlt
  by_cases h1:lo≤L.getD k 0
  ·by_cases h2 : L.getD k 0 ≤ hi
   ·refine .inl ⟨k + 1, [], [yes 12, pl 13, ld 14 (i6 (L.getD k 0)), no 17, no 21, nu 23 ((k + 1 : Nat) : Int)], 1000, ⟨hlt, fun i hi => ?_⟩, by omega, ?_⟩
    ·grind
    generalize L.getD k 0=x at*
    clear hin
    exact m_ (p:=let z0:=(↑L.length:Int);let z1:=(↑(k+1):Int);let z2:=(↑k:Int);An [decide (z2<z0)=true,An [(0:Int)≤z2,z2<z0],_,decide (x<lo)=false,decide (x>hi)=false,wr .i64 (z2+(1:Int))=z1,An [lo=lo,hi=hi,An [Sm L.length,Sm (ints L)],z0=z0,z1=z1,Tt],Tt]) ⟨aq,a_,hld,a_⟩
   ·have hf : inB lo hi L = false := by
     cases hb:inB lo hi L with
     |false=>rfl
     |true=>grind[Qa7]
    refine .inr ⟨.ret,[],{sl:=[(6,.bool false)]},[yes 12,pl 13,ld 14 (i6 (L.getD k 0)),no 17,yes 21],1000,.inr (.inl ⟨hf,rfl,rfl⟩),?_⟩
    generalize L.getD k 0=x at*
    clear hin
    exact m_ (p:=let z0:=(↑k:Int);An [decide (z0<(↑L.length:Int))=true,An [(0:Int)≤z0,z0<(↑L.length:Int)],_,decide (x<lo)=false,decide (x>hi)=true,An [Sm false,Tt],Tt]) ⟨aq,a_,hld,a_⟩
  ·have hf : inB lo hi L = false := by
    cases hb:inB lo hi L with
    |false=>rfl
    |true=>grind[Qa7]
   refine .inr ⟨.ret,[],{sl:=[(6,.bool false)]},[yes 12,pl 13,ld 14 (i6 (L.getD k 0)),yes 17],1000,.inr (.inl ⟨hf,rfl,rfl⟩),?_⟩
   generalize L.getD k 0=x at*
   clear hin
   exact m_ (p:=let z0:=(↑k:Int);An [decide (z0<(↑L.length:Int))=true,An [(0:Int)≤z0,z0<(↑L.length:Int)],_,decide (x<lo)=true,An [Sm false,Tt],Tt]) ⟨aq,a_,hld,a_⟩
 ·have hk2 : k = L.length := by omega
  subst hk2
  refine .inr ⟨.exit 0,[],{sl:=[]},[no 12],1000,.inl ⟨Qa7.2 hin,rfl,rfl⟩,?_⟩
  clear hin
  refine Eq.mp (by kernel_rfl:(An [decide ((↑L.length:Int)<(↑L.length:Int))=false,Tt,Tt])=_) ?_
  (repeat'(first|(with_reducible apply And.intro)|(refine fun(_:True)=>?_)))<;>first|exact aq|skip
  all_goals skip
theorem Qb9(lo hi:Int)(L:List Int)(hl:L.length≤1000000):FnOk Pg g0 76 [i6 lo,i6 hi,sl L] (.bool (inB lo hi L)):=by
 have hL:=Qad L
 have h:=Qlz lo hi L hl
 generalize hb:inB lo hi L=b at*
 cases b with
 |true=>
  refine FnOk.of_vc vE_ok Qaf Qab (n:=1000) (r:=[]) (S:={sl:=[(6,.bool true)]}) (hs:=[(0,.loop [] (wiS lo hi L 0) [(true=true,.exit 0,{sl:=[]}),(true=false,.ret,{sl:=[(6,.bool false)]})])]) ?_
  exact m_ (p:=An [Sm (V.bool true),An [An [lo=lo,hi=hi,An [Sm L.length,Sm (ints L)],Sm (↑L.length:Int),(↑(0:Nat):Int)=(0:Int),Tt],Tt],_,true=true→An [An [Sm true,Tt],Tt],true=false→An [An [true=false,Tt],Tt],Tt]) ⟨aq,a_,h,a_⟩
 |false=>
  refine FnOk.of_vc vE_ok Qaf Qab (n:=1000) (r:=[]) (S:={sl:=[(6,.bool false)]}) (hs:=[(0,.loop [] (wiS lo hi L 0) [(false=true,.exit 0,{sl:=[]}),(false=false,.ret,{sl:=[(6,.bool false)]})])]) ?_
  exact m_ (p:=An [Sm (V.bool false),An [An [lo=lo,hi=hi,An [Sm L.length,Sm (ints L)],Sm (↑L.length:Int),(↑(0:Nat):Int)=(0:Int),Tt],Tt],_,false=true→An [An [false=true,Tt],Tt],false=false→An [An [Sm false,Tt],Tt],Tt]) ⟨aq,a_,h,a_⟩
def incB(n:Int)(L:List Int):Bool:=(List.range L.length).all fun k=>decide (0≤L.getD k 0)&&decide (L.getD k 0<n)&&(decide (k=0)||decide (L.getD (k-1) 0<L.getD k 0))
theorem Qcv{n:Int}{L:List Int}:incB n L=true↔∀k,k<L.length→0≤L.getD k 0∧L.getD k 0<n∧(k=0∨L.getD (k-1) 0<L.getD k 0):=by
 grind[incB]
abbrev icS(L:List Int)(n:Int)(k:Nat):SL:={sl:=[(0,sl L),(1,i6 n),(7,sl L),(8,i6 (L.length:Nat)),(9,i6 (k:Nat))]}
theorem Qgk(L:List Int)(n:Int)(hl:L.length≤1000000):
  Sat Pg none 0 (at' 117 [1,0,1,0]) (mkSt g0 35 (icS L n 0)) (Qae g0 35 [(incB n L=true,.exit 0,{sl:=[]}),(incB n L=false,.ret,{sl:=[(4,.bool false)]})]):=by
 have hL:=Qad L
 refine Qaw vE_ok Qaf Qab (b:=at' 117 [1,0,1,0,0]) (by kernel_rfl) (fun k=>k≤L.length∧∀i,i<k→0≤L.getD i 0∧L.getD i 0<n∧(i=0∨L.getD (i-1) 0<L.getD i 0)) (icS L n) (fun k=>L.length-k) (fun k hk=>?_) 0 ⟨Nat.zero_le _,fun i h=>absurd h (Nat.not_lt_zero _)⟩
 obtain⟨hk,hin⟩:=hk
 by_cases hlt:k<L.length
 ·have hld := Qao hlt
  have bad:(¬(0≤L.getD k 0∧L.getD k 0<n∧(k=0∨L.getD (k-1) 0<L.getD k 0)))→incB n L=false:=fun hno=>by
   grind[Qcv]
  have good:(0≤L.getD k 0∧L.getD k 0<n∧(k=0∨L.getD (k-1) 0<L.getD k 0))→∀i,i<k+1→0≤L.getD i 0∧L.getD i 0<n∧(i=0∨L.getD (i-1) 0<L.getD i 0):=fun h i hi=>by
   grind
  by_cases h1:0≤L.getD k 0
  ·by_cases h2 : L.getD k 0 < n
   ·by_cases h0 : k = 0
    ·subst h0
     have hg:=good ⟨h1,h2,.inl rfl⟩
     refine .inl ⟨1,[],[yes 10,pl 12,ld 13 (i6 (L.getD 0 0)),no 15,no 19,no 23,nu 34 ((1:Nat):Int)],1000,⟨hlt,hg⟩,by omega,?_⟩
     clear hin bad good hg
     generalize L.getD 0 0=x at*
     refine Eq.mp (by kernel_rfl:(let z3:=An [Sm L.length,Sm (ints L)];let z0:=(↑(0:Nat):Int);let z1:=(↑L.length:Int);let z2:=(↑(1:Nat):Int);An [decide (z0<z1)=true,An [(0:Int)≤z0,z0<z1],headF (List.drop (0*1) (ints L))=some (i6 x),decide (x<(0:Int))=false,decide (x≥n)=false,decide (z0>(0:Int))=false,wr .i64 (z0+(1:Int))=z2,An [z3,n=n,z3,z1=z1,z2=z2,Tt],Tt])=_) ?_
     (repeat'(first|(with_reducible apply And.intro)|(refine fun(_:True)=>?_)))<;>first|exact aq|skip
     all_goals skip
    ·have hld2 := Qao (l := L) (k := k - 1) (by omega)
     obtain⟨q,hq⟩: ∃q,q=k-1:=⟨_,rfl⟩
     have ek:k=q+1:=by omega
     by_cases h3:L.getD (k-1) 0<L.getD k 0
     ·have hg := good ⟨h1, h2, .inr h3⟩
      refine .inl ⟨k+1,[],[yes 10,pl 12,ld 13 (i6 (L.getD k 0)),no 15,no 19,yes 23,nu 28 (q:Nat),pl 29,ld 30 (i6 (L.getD (k-1) 0)),no 31,nu 34 ((k+1:Nat):Int)],1000,⟨hlt,hg⟩,by omega,?_⟩
      clear hin bad good hg
      rw[←hq]at hld2 h3⊢
      generalize L.getD k 0=x at*
      generalize L.getD q 0=y at*
      refine Eq.mp (by kernel_rfl:(let z5:=An [Sm L.length,Sm (ints L)];let z0:=(↑L.length:Int);let z1:=(↑k:Int);let z2:=(↑(k+1):Int);let z3:=(0:Int);let z4:=(↑q:Int);An [decide (z1<z0)=true,An [z3≤z1,z1<z0],headF (List.drop (k*1) (ints L))=some (i6 x),decide (x<z3)=false,decide (x≥n)=false,decide (z1>z3)=true,wr .i64 (z1-(1:Int))=z4,An [z3≤z4,z4<z0],headF (List.drop (q*1) (ints L))=some (i6 y),decide (x≤y)=false,wr .i64 (z1+(1:Int))=z2,An [z5,n=n,z5,z0=z0,z2=z2,Tt],Tt])=_) ?_
      (repeat'(first|(with_reducible apply And.intro)|(refine fun(_:True)=>?_)))<;>first|exact aq|skip
      all_goals skip
     ·have hf := bad (fun ⟨_, _, h⟩ => h.elim h0 h3)
      refine .inr ⟨.ret,[],{sl:=[(4,.bool false)]},[yes 10,pl 12,ld 13 (i6 (L.getD k 0)),no 15,no 19,yes 23,nu 28 (q:Nat),pl 29,ld 30 (i6 (L.getD (k-1) 0)),yes 31],1000,.inr (.inl ⟨hf,rfl,rfl⟩),?_⟩
      clear hin bad good
      rw[←hq]at hld2 h3⊢
      generalize L.getD k 0=x at*
      generalize L.getD q 0=y at*
      refine Eq.mp (by kernel_rfl:(let z0:=(↑k:Int);let z1:=(↑L.length:Int);let z2:=(0:Int);let z3:=(↑q:Int);An [decide (z0<z1)=true,An [z2≤z0,z0<z1],headF (List.drop (k*1) (ints L))=some (i6 x),decide (x<z2)=false,decide (x≥n)=false,decide (z0>z2)=true,wr .i64 (z0-(1:Int))=z3,An [z2≤z3,z3<z1],headF (List.drop (q*1) (ints L))=some (i6 y),decide (x≤y)=true,An [Sm false,Tt],Tt])=_) ?_
      (repeat'(first|(with_reducible apply And.intro)|(refine fun(_:True)=>?_)))<;>first|exact aq|skip
      all_goals skip
   ·have hf := bad (fun ⟨_, h, _⟩ => h2 h)
    refine .inr ⟨.ret,[],{sl:=[(4,.bool false)]},[yes 10,pl 12,ld 13 (i6 (L.getD k 0)),no 15,yes 19],1000,.inr (.inl ⟨hf,rfl,rfl⟩),?_⟩
    clear hin bad good
    generalize L.getD k 0=x at*
    refine Eq.mp (by kernel_rfl:(let z0:=(↑k:Int);An [decide (z0<(↑L.length:Int))=true,An [(0:Int)≤z0,z0<(↑L.length:Int)],headF (List.drop (k*1) (ints L))=some (i6 x),decide (x<(0:Int))=false,decide (x≥n)=true,An [Sm false,Tt],Tt])=_) ?_
    (repeat'(first|(with_reducible apply And.intro)|(refine fun(_:True)=>?_)))<;>first|exact aq|skip
    all_goals skip
  ·have hf := bad (fun ⟨h, _⟩ => h1 h)
   refine .inr ⟨.ret,[],{sl:=[(4,.bool false)]},[yes 10,pl 12,ld 13 (i6 (L.getD k 0)),yes 15],1000,.inr (.inl ⟨hf,rfl,rfl⟩),?_⟩
   clear hin bad good
   generalize L.getD k 0=x at*
   refine Eq.mp (by kernel_rfl:(let z0:=(↑k:Int);An [decide (z0<(↑L.length:Int))=true,An [(0:Int)≤z0,z0<(↑L.length:Int)],headF (List.drop (k*1) (ints L))=some (i6 x),decide (x<(0:Int))=true,An [Sm false,Tt],Tt])=_) ?_
   (repeat'(first|(with_reducible apply And.intro)|(refine fun(_:True)=>?_)))<;>first|exact aq|skip
   all_goals skip
 ·have hk2 : k = L.length := by omega
  subst hk2
  refine .inr ⟨.exit 0,[],{sl:=[]},[no 10],1000,.inl ⟨Qcv.2 hin,rfl,rfl⟩,?_⟩
  clear hin
  refine Eq.mp (by kernel_rfl:(An [decide ((↑L.length:Int)<(↑L.length:Int))=false,Tt,Tt])=_) ?_
  (repeat'(first|(with_reducible apply And.intro)|(refine fun(_:True)=>?_)))<;>first|exact aq|skip
  all_goals skip
theorem Qel(L:List Int)(n:Int)(hl:L.length≤1000000):FnOk Pg g0 117 [sl L,i6 n] (.bool (incB n L)):=by
 have hL:=Qad L
 have h:=Qgk L n hl
 generalize hb:incB n L=b at*
 cases b with
 |true=>
  refine FnOk.of_vc vE_ok Qaf Qab (n:=1000) (r:=[]) (S:={sl:=[(4,.bool true)]}) (hs:=[(0,.loop [] (icS L n 0) [(true=true,.exit 0,{sl:=[]}),(true=false,.ret,{sl:=[(4,.bool false)]})])]) ?_
  exact m_ (p:=let z0:=An [Sm L.length,Sm (ints L)];An [Sm (V.bool true),An [An [z0,n=n,z0,Sm (↑L.length:Int),(↑(0:Nat):Int)=(0:Int),Tt],Tt],_,true=true→An [An [Sm true,Tt],Tt],true=false→An [An [true=false,Tt],Tt],Tt]) ⟨aq,a_,h,a_⟩
 |false=>
  refine FnOk.of_vc vE_ok Qaf Qab (n:=1000) (r:=[]) (S:={sl:=[(4,.bool false)]}) (hs:=[(0,.loop [] (icS L n 0) [(false=true,.exit 0,{sl:=[]}),(false=false,.ret,{sl:=[(4,.bool false)]})])]) ?_
  exact m_ (p:=let z0:=An [Sm L.length,Sm (ints L)];An [Sm (V.bool false),An [An [z0,n=n,z0,Sm (↑L.length:Int),(↑(0:Nat):Int)=(0:Int),Tt],Tt],_,false=true→An [An [false=true,Tt],Tt],false=false→An [An [Sm false,Tt],Tt],Tt]) ⟨aq,a_,h,a_⟩
structure Mc where
 c:Int
 fr:List Int
 no:List Int
 ou:List Int
def mcC(x:Mc):List V:=[i6 x.c,sl x.fr,sl x.no,sl x.ou]
def mcL:List Mc→List V
 |[]=>[]
 |x::l=>mcC x++mcL l
def rtL(R:List (List Int)):List V:=R.map sl
abbrev mdV(g:Int)(R:List (List Int))(N:List Mc):V:=.agg [i6 g,.im R.length (rtL R),.im N.length (mcL N)]
theorem Qar(R:List (List Int)):HfL (rtL R):=Qe1 _ R (fun _=>trivial)
theorem Qav: ∀N,HfL (mcL N)
 |[]=>trivial
 |x::l=>⟨trivial,trivial,trivial,trivial,Qav l⟩
theorem Qe9{R:List (List Int)}{k:Nat}(h:k<R.length):headF ((rtL R).drop (k*1))=some (sl (R.getD k [])):=by
 grind[rtL,Qej]
theorem Qb5: ∀{N:List Mc}{k:Nat}{x:Mc},N[k]? =some x→(mcL N).drop (k*4)=mcC x++mcL (N.drop (k+1))
 |[],k,x,h=>by simp at h
 |y::l,0,x,h=>by cases h;rfl
 |y::l,k+1,x,h=>by
  show(mcC y++mcL l).drop ((k+1)*4)=_
  rw[Nat.succ_mul,Nat.add_comm,List.drop_append,show(mcC y).drop (4+k*4)=[]from List.drop_eq_nil_of_le (by show 4≤_;omega)]
  show([]:List V)++(mcL l).drop (4+k*4-4)=_
  rw[Nat.add_sub_cancel_left,List.nil_append]
  exact Qb5 (N:=l) (by simpa using h)
def sumI:List Int→Int
 |[]=>0
 |x::l=>x+sumI l
theorem Qi1: ∀(a b:List Int),sumI (a++b)=sumI a+sumI b
 |[],b=>by grind[sumI]
 |x::a,b=>by show x+sumI (a++b)=x+sumI a+sumI b;rw[Qi1 a b];omega
theorem Qdc{L:List Int}{k:Nat}(h:k<L.length):sumI (L.take (k+1))=sumI (L.take k)+L.getD k 0:=by
 rw[List.take_add_one,Qi1,List.getElem?_eq_getElem h,List.getD_eq_getElem?_getD,List.getElem?_eq_getElem h]
 show _+(L[k]+0)=_+L[k]
 omega
theorem Qlr{G:Int}: ∀{L:List Int},(∀x∈L,0≤x∧x≤G)→0≤sumI L∧sumI L≤L.length*G
 |[],_=>by simp[sumI]
 | x :: l, h => by
  have h1:=h x (List.mem_cons_self)
  have h2:=Qlr (L:=l) fun y hy=>h y (List.mem_cons_of_mem _ hy)
  have e:((x::l).length:Int)*G=G+l.length*G:=by
   rw[List.length_cons,Int.natCast_add,Int.add_mul];omega
  grind[sumI]
def rtB(g:Int)(L:List Int):Bool:=(decide (1≤L.length)&&decide (L.length≤4))&&inB 0 g L&&decide (sumI L=g)
def prK(R:List (List Int)):Nat→Nat
 |0=>1
 |k+1=>prK R k*(R.getD k []).length
def rootsB(g:Int)(R:List (List Int)):Bool:=R.all (rtB g)&&decide (prK R R.length≤1024)
abbrev rsS(L:List Int)(g:Int)(R:List V)(n:Nat)(N:List V)(k:Nat)(p:Int)(q:Nat)(sm:Int)(i:Nat):SL:={sl:=[(1,.ptr 0 0),(3,i6 p),(4,.bool true),(6,sl L),(7,i6 sm),(11,.im n R),(12,i6 (n:Nat)),(13,i6 (k:Nat)),(33,sl L),(34,i6 (L.length:Nat)),(35,i6 (i:Nat))],os:=[.row 34 none [i6 g,.im n R,.im q N]]}
theorem roots_in(L:List Int)(g:Int)(R:List V)(hR:HfL R)(n:Nat)(N:List V)(hN:HfL N)(k:Nat)(p:Int)(q:Nat)(h4:L.length≤4)(hg:1≤g∧g≤12)(hin: ∀i,i<L.length→0≤L.getD i 0∧L.getD i 0≤g):
  Sat Pg none 0 (at' 77 [1,0,1,1,0,1,0,0,1,1,0,0,1,1,1,1,0,1,0]) (mkSt g0 53 (rsS L g R n N k p q 0 0)) (Qae g0 53 [(True,.exit 2,rsS L g R n N k p q (sumI L) L.length)]):=by
 have hL:=Qad L
 have hall: ∀i,i≤L.length→0≤sumI (L.take i)∧sumI (L.take i)≤12*i:=by
  intro i
  induction i with
  |zero=>grind[sumI]
  |succ i ih=>
   grind[Qdc]
 have e0:sumI (L.take 0)=0:=rfl
 have key:=Qaw vE_ok Qaf Qab (c:=at' 77 [1,0,1,1,0,1,0,0,1,1,0,0,1,1,1,1,0,1,0]) (b:=at' 77 [1,0,1,1,0,1,0,0,1,1,0,0,1,1,1,1,0,1,0,0]) (by kernel_rfl) (gl:=g0) (rd:=none) (nx0:=0) (k:=53) (fun i=>i≤L.length) (fun i=>rsS L g R n N k p q (sumI (L.take i)) i) (fun i=>L.length-i) (R:=Qae g0 53 [(True,.exit 2,rsS L g R n N k p q (sumI L) L.length)]) (fun i hi=>?_) 0 (Nat.zero_le _)
 ·assumption
 ·by_cases hlt : i < L.length
  ·have hld := Qao hlt
   have h1:=hall i hi
   have h2:=hin i hlt
   have e:=Qdc hlt
   refine .inl ⟨i+1,[0],[yes 36,pl 37,ld 38 (i6 (L.getD i 0)),nu 41 (sumI (L.take (i+1))),nu 42 ((i+1:Nat):Int)],1000,hlt,by omega,?_⟩
   generalize L.getD i 0=x at*
   generalize sumI (L.take (i+1))=s1 at*
   generalize sumI (L.take i)=s0 at*
   clear hall hin
   exact m_ (p:=let z4:=An [Sm L.length,Sm (ints L)];let z0:=(↑L.length:Int);let z1:=(↑(i+1):Int);let z2:=(↑i:Int);let z3:=[i6 g,V.im n R,V.im q N];An [decide (z2<z0)=true,An [(0:Int)≤z2,z2<z0],_,wr .i64 (s0+x)=s1,wr .i64 (z2+(1:Int))=z1,An [Zz,p=p,Sm true,z4,s1=s1,An [n=n,R=R],Sm (↑n:Int),Sm (↑k:Int),z4,z0=z0,z1=z1,Tt],An [z3=z3,TT 3],Tt]) ⟨aq,a_,hld,a_⟩
  ·have hi2 : i = L.length := by omega
   subst hi2
   rw[List.take_length]
   refine .inr ⟨.exit 2,[0],rsS L g R n N k p q (sumI L) L.length,[no 36],1000,.inl ⟨trivial,rfl,rfl⟩,?_⟩
   generalize sumI L=s0 at*
   clear hall hin
   refine Eq.mp (by kernel_rfl:(let z2:=An [Sm L.length,Sm (ints L)];let z0:=(↑L.length:Int);let z1:=[i6 g,V.im n R,V.im q N];An [decide (z0<z0)=false,An [Zz,p=p,Sm true,z2,s0=s0,An [n=n,R=R],Sm (↑n:Int),Sm (↑k:Int),z2,z0=z0,z0=z0,Tt],An [z1=z1,TT 3],Tt])=_) ?_
   (repeat'(first|(with_reducible apply And.intro)|(refine fun(_:True)=>?_)))<;>first|exact aq|skip
   all_goals skip
abbrev roS(g:Int)(R:List V)(n:Nat)(q:Nat)(N:List V)(k:Nat)(p:Int):SL:={sl:=[(1,.ptr 0 0),(3,i6 p),(4,.bool true),(11,.im n R),(12,i6 (n:Nat)),(13,i6 (k:Nat))],os:=[.row 34 none [i6 g,.im n R,.im q N]]}
theorem Qix{g:Int}{L:List Int}(h:rtB g L=true):1≤L.length∧L.length≤4:=by
 grind[rtB]
theorem Qoh(g:Int)(hg:1≤g∧g≤12)(R:List (List Int))(hl:R.length≤8)(h6: ∀L∈R,L.length≤1000000)(q:Nat)(N:List V)(hN:HfL N):
  Sat Pg none 0 (at' 77 [1,0,1,1,0,1,0]) (mkSt g0 53 (roS g (rtL R) R.length q N 0 1)) (Qae g0 53 [(R.all (rtB g)=true,.exit 0,{sl:=[(3,i6 (prK R R.length:Nat)),(4,.bool true)]}),(R.all (rtB g)=false,.exit 0,{sl:=[(4,.bool false)]})]):=by
 have hR:=Qar R
 refine Qaw vE_ok Qaf Qab (b:=at' 77 [1,0,1,1,0,1,0,0]) (by kernel_rfl) (fun k=>k≤R.length∧∀i,i<k→rtB g (R.getD i [])=true) (fun k=>roS g (rtL R) R.length q N k (prK R k:Nat)) (fun k=>R.length-k) (fun k hk=>?_) 0 ⟨Nat.zero_le _,fun i h=>absurd h (Nat.not_lt_zero _)⟩
 obtain⟨hk,hin⟩:=hk
 have hpk:prK R k≤65536:=by
  have: ∀k',k'≤k→prK R k'≤4^k':=by
   intro k'
   induction k' with
   |zero=>grind[prK]
   |succ k' ih=>
    intro hk'
    unfold prK
    rw[Nat.pow_succ]
    exact Nat.mul_le_mul (ih (by omega)) (Qix (hin k' (by omega))).2
  have h1:=this k (Nat.le_refl _)
  have h2:4^k≤4^8:=Nat.pow_le_pow_right (by decide) (by omega)
  omega
 by_cases hlt:k<R.length
 ·have hld := Qe9 hlt
  have hmem:R.getD k []∈R:=by rw[List.getD_eq_getElem?_getD,List.getElem?_eq_getElem hlt];exact List.getElem_mem hlt
  have h6k:=h6 _ hmem
  have bad:rtB g (R.getD k [])=false→R.all (rtB g)=false:=fun h=>by
   grind
  have e1:prK R (k+1)=prK R k*(R.getD k []).length:=rfl
  have hgood:rtB g (R.getD k [])=true→∀i,i<k+1→rtB g (R.getD i [])=true:=fun h i hi=>by
   grind
  generalize R.getD k []=L at*
  have hL:=Qad L
  have w1:=Qb9 1 4 [(L.length:Int)] (by simp)
  have w2:=Qb9 0 g L h6k
  have e2:inB 1 4 [(L.length:Int)]=(decide (1≤L.length)&&decide (L.length≤4)):=by
   show(decide ((1:Int)≤L.length)&&decide ((L.length:Int)≤4)&&true)=_
   rw[Bool.and_true]
   congr 1<;>exact decide_eq_decide.2 (by omega)
  rw[e2]at w1
  have eR:rtB g L=((decide (1≤L.length)&&decide (L.length≤4))&&inB 0 g L&&decide (sumI L=g)):=rfl
  generalize hp1e:prK R (k+1)=p1 at*
  generalize prK R k=p0 at*
  generalize rtL R=RR at*
  generalize R.length=n at*
  cases hc1:(decide (1≤L.length)&&decide (L.length≤4))with
  |false=>
   rw[hc1]at w1 eR
   have hf:=bad (by rw[eR];rfl)
   refine .inr ⟨.exit 0,[],{sl:=[(4,.bool false)]},[yes 14,pl 15,ld 16 (sl L),fn 20 (.bool false)],1000,.inr (.inl ⟨hf,rfl,rfl⟩),?_⟩
   clear hin bad hgood hf
   exact m_ (p:=let z0:=(↑k:Int);An [decide (z0<(↑n:Int))=true,An [(0:Int)≤z0,z0<(↑n:Int)],_,An [Tt,Tt,An [Tt,Tt],Tt],FnOk Tryz.prog g0 76 [i6 1,i6 4,V.im 1 [i6 ↑L.length]] (V.bool false),Tt,An [Sm false,Tt],Tt]) ⟨aq,a_,hld,a_,w1,a_⟩
  | true =>
   rw[hc1]at w1 eR
   simp only[Bool.and_eq_true,decide_eq_true_eq]at hc1
   cases hc2:inB 0 g L with
   |false=>
    rw[hc2]at w2 eR
    have hf:=bad (by rw[eR];rfl)
    refine .inr ⟨.exit 0,[],{sl:=[(4,.bool false)]},[yes 14,pl 15,ld 16 (sl L),fn 20 (.bool true),fn 26 (.bool false)],1000,.inr (.inl ⟨hf,rfl,rfl⟩),?_⟩
    clear hin bad hgood hf
    exact m_ (p:=let z0:=pt (ofOs T.e 0 [O.row 34 none [i6 g,V.im n RR,V.im q N]]) 1 (O.row 3 none [i6 ↑L.length]);let z1:=(↑k:Int);An [decide (z1<(↑n:Int))=true,An [(0:Int)≤z1,z1<(↑n:Int)],_,An [Tt,Tt,An [Tt,Tt],Tt],FnOk Tryz.prog g0 76 [i6 1,i6 4,V.im 1 [i6 ↑L.length]] (V.bool true),Tt,TT 3,_,An [V.fn 76 []=V.fn 76 []→[i6 1,i6 4,V.sl 1 0 1 (some 0)]=[i6 0,i6 g,sl L]→z0=z0→1+1=2→CR.mk (V.bool true) z0 2 []=CR.mk (V.bool false) z0 2 [],Tt],An [Sm false,Tt],Tt]) ⟨aq,a_,hld,a_,w1,aq,aq,w2,a_⟩
   | true =>
    rw[hc2]at w2 eR
    have hloop:=roots_in L g RR hR n N hN k (p1:Nat) q hc1.2 hg (Qa7.1 hc2)
    have hp1:(p0:Int)*L.length=p1:=by rw[e1];exact(Int.natCast_mul _ _).symm
    have hp2:(p1:Int)≤9223372036854775807:=by
     have:p1≤65536*4:=by rw[e1];exact Nat.mul_le_mul hpk hc1.2
     omega
    have hs:0≤sumI L∧sumI L≤48:=by
     have h1:=Qlr (G:=g) (L:=L) fun x hx=>by
      grind[List.getElem_of_mem,Qa7]
     have h2:(L.length:Int)*g≤4*12:=Int.mul_le_mul (by omega) hg.2 (by omega) (by decide)
     omega
    generalize hsm:sumI L=sm at*
    by_cases h5:sm=g
    ·have hg2 := hgood (by simp_all)
     refine .inl ⟨k+1,[0],[yes 14,pl 15,ld 16 (sl L),fn 20 (.bool true),fn 26 (.bool true),nu 32 (p1:Nat),(0,.loop [0] (rsS L g RR n N k (p1:Nat) q 0 0) [(True,.exit 2,rsS L g RR n N k (p1:Nat) q sm L.length)]),no 46,nu 47 ((k+1:Nat):Int)],1000,⟨hlt,hg2⟩,by omega,?_⟩
     clear hin bad hgood hg2 eR e1
     exact m_ (p:=let z9:=An [Sm L.length,Sm (ints L)];let z1:=[i6 g,V.im n RR,V.im q N];let z2:=(↑p1:Int);let z3:=(↑k:Int);let z4:=(↑n:Int);let z5:=V.bool true;let z6:=(↑L.length:Int);let z7:=(↑(k+1):Int);let z8:=(0:Int);let z0:=pt (ofOs T.e 0 [O.row 34 none z1]) 1 (O.row 3 none [i6 ↑L.length]);An [decide (z3<z4)=true,An [z8≤z3,z3<z4],_,An [Tt,Tt,An [Tt,Tt],Tt],FnOk Tryz.prog g0 76 [i6 1,i6 4,V.im 1 [i6 ↑L.length]] z5,Tt,TT 3,_,An [V.fn 76 []=V.fn 76 []→[i6 1,i6 4,V.sl 1 0 1 (some 0)]=[i6 0,i6 g,sl L]→z0=z0→1+1=2→Sm (CR.mk z5 z0 2 []),Tt],wr .i64 ((↑p0:Int)*z6)=z2,An [An [Zz,z2=z2,Sm true,z9,z8=z8,An [n=n,RR=RR],z4=z4,z3=z3,z9,z6=z6,(↑(0:Nat):Int)=z8,Tt],An [z1=z1,TT 3],Tt],_,(True->An [(sm != g)=false,wr .i64 (z3+(1:Int))=z7,An [Zz,(↑(prK R (k+1)):Int)=z2,Sm true,An [n=n,RR=RR],z4=z4,z7=z7,Tt],An [z1=z1,TT 3],Tt]),Tt]) ⟨aq,a_,hld,a_,w1,aq,aq,w2,a_,aq,a_,hloop,a_⟩
    ·have hf := bad (by simp_all)
     refine .inr ⟨.exit 0,[],{sl:=[(4,.bool false)]},[yes 14,pl 15,ld 16 (sl L),fn 20 (.bool true),fn 26 (.bool true),nu 32 (p1:Nat),(0,.loop [0] (rsS L g RR n N k (p1:Nat) q 0 0) [(True,.exit 2,rsS L g RR n N k (p1:Nat) q sm L.length)]),yes 46],1000,.inr (.inl ⟨hf,rfl,rfl⟩),?_⟩
     clear hin bad hgood hf eR e1
     exact m_ (p:=let z8:=An [Sm L.length,Sm (ints L)];let z1:=[i6 g,V.im n RR,V.im q N];let z2:=(↑p1:Int);let z3:=(↑k:Int);let z4:=V.bool true;let z5:=(↑L.length:Int);let z6:=(↑n:Int);let z7:=(0:Int);let z0:=pt (ofOs T.e 0 [O.row 34 none z1]) 1 (O.row 3 none [i6 ↑L.length]);An [decide (z3<z6)=true,An [z7≤z3,z3<z6],_,An [Tt,Tt,An [Tt,Tt],Tt],FnOk Tryz.prog g0 76 [i6 1,i6 4,V.im 1 [i6 ↑L.length]] z4,Tt,TT 3,_,An [V.fn 76 []=V.fn 76 []→[i6 1,i6 4,V.sl 1 0 1 (some 0)]=[i6 0,i6 g,sl L]→z0=z0→1+1=2→Sm (CR.mk z4 z0 2 []),Tt],wr .i64 ((↑p0:Int)*z5)=z2,An [An [Zz,z2=z2,Sm true,z8,z7=z7,An [n=n,RR=RR],z6=z6,z3=z3,z8,z5=z5,(↑(0:Nat):Int)=z7,Tt],An [z1=z1,TT 3],Tt],_,(True->An [(sm != g)=true,An [Sm false,Tt],Tt]),Tt]) ⟨aq,a_,hld,a_,w1,aq,aq,w2,a_,aq,a_,hloop,a_⟩
 ·have hk2 : k = R.length := by omega
  have hall:R.all (rtB g)=true:=List.all_eq_true.2 fun L hL=>by
   grind[List.getElem_of_mem]
  subst hk2
  generalize hp0:prK R R.length=p0 at*
  refine .inr ⟨.exit 0,[],{sl:=[(3,i6 (p0:Nat)),(4,.bool true)]},[no 14],1000,.inl ⟨hall,rfl,rfl⟩,?_⟩
  generalize rtL R=RR at*
  generalize R.length=n at*
  clear hin hall hp0
  refine Eq.mp (by kernel_rfl:(An [decide ((↑n:Int)<(↑n:Int))=false,An [Sm (↑p0:Int),Sm true,Tt],Tt])=_) ?_
  (repeat'(first|(with_reducible apply And.intro)|(refine fun(_:True)=>?_)))<;>first|exact aq|skip
  all_goals skip
theorem roots_fn(g:Int)(hg:1≤g∧g≤12)(R:List (List Int))(hl:R.length≤8)(h6: ∀L∈R,L.length≤1000000)(N:List Mc):FnOk Pg g0 77 [mdV g R N] (.bool (rootsB g R)):=by
 have hR:=Qar R
 have hN:=Qav N
 have h:=Qoh g hg R hl h6 N.length (mcL N) hN
 show FnOk Pg g0 77 [.agg [i6 g,.im R.length (rtL R),.im N.length (mcL N)]] (.bool (R.all (rtB g)&&decide (prK R R.length≤1024)))
 generalize hp:prK R R.length=p at*
 generalize rtL R=RR at*
 generalize mcL N=NN at*
 generalize hb:R.all (rtB g)=b at*
 generalize R.length=n at*
 cases b with
 |false=>
  refine FnOk.of_vc vE_ok Qaf Qab (n:=1000) (r:=[]) (S:={sl:=[(2,.bool false)]}) (hs:=[(0,.loop [0] (roS g RR n N.length NN 0 1) [(false=true,.exit 0,{sl:=[(3,i6 (p:Nat)),(4,.bool true)]}),(false=false,.exit 0,{sl:=[(4,.bool false)]})])]) ?_
  exact m_ (p:=An [V.bool false=V.bool (false&&decide (p≤1024)),An [An [Zz,Sm (1:Int),Sm true,An [n=n,RR=RR],Sm (↑n:Int),(↑(0:Nat):Int)=(0:Int),Tt],An [Sm [i6 g,V.im n RR,V.im N.length NN],TT 3],Tt],_,false=true→An [An [false=decide ((↑p:Int)≤(1024:Int)),Tt],Tt],false=false→An [An [Sm false,Tt],Tt],Tt]) ⟨aq,a_,h,a_⟩
 | true =>
  by_cases hp2:p≤1024
  ·rw [decide_eq_true hp2]
   refine FnOk.of_vc vE_ok Qaf Qab (n:=1000) (r:=[]) (S:={sl:=[(2,.bool true)]}) (hs:=[(0,.loop [0] (roS g RR n N.length NN 0 1) [(true=true,.exit 0,{sl:=[(3,i6 (p:Nat)),(4,.bool true)]}),(true=false,.exit 0,{sl:=[(4,.bool false)]})]),yes 51]) ?_
   exact m_ (p:=An [V.bool true=V.bool (true&&true),An [An [Zz,Sm (1:Int),Sm true,An [n=n,RR=RR],Sm (↑n:Int),(↑(0:Nat):Int)=(0:Int),Tt],An [Sm [i6 g,V.im n RR,V.im N.length NN],TT 3],Tt],_,true=true→An [decide ((↑p:Int)≤(1024:Int))=true,An [Sm true,Tt],Tt],true=false→An [An [true=false,Tt],Tt],Tt]) ⟨aq,a_,h,(by (intro h;first|(cases h;done)|exact⟨decide_eq_true (by omega),⟨rfl,trivial⟩,trivial⟩|exact⟨decide_eq_false (by omega),⟨rfl,trivial⟩,trivial⟩)),a_⟩
  ·rw [decide_eq_false hp2]
   refine FnOk.of_vc vE_ok Qaf Qab (n:=1000) (r:=[]) (S:={sl:=[(2,.bool false)]}) (hs:=[(0,.loop [0] (roS g RR n N.length NN 0 1) [(true=true,.exit 0,{sl:=[(3,i6 (p:Nat)),(4,.bool true)]}),(true=false,.exit 0,{sl:=[(4,.bool false)]})]),no 51]) ?_
   exact m_ (p:=An [V.bool false=V.bool (true&&false),An [An [Zz,Sm (1:Int),Sm true,An [n=n,RR=RR],Sm (↑n:Int),(↑(0:Nat):Int)=(0:Int),Tt],An [Sm [i6 g,V.im n RR,V.im N.length NN],TT 3],Tt],_,true=true→An [decide ((↑p:Int)≤(1024:Int))=false,An [Sm false,Tt],Tt],true=false→An [An [Sm false,Tt],Tt],Tt]) ⟨aq,a_,h,(by (intro h;first|(cases h;done)|exact⟨decide_eq_true (by omega),⟨rfl,trivial⟩,trivial⟩|exact⟨decide_eq_false (by omega),⟨rfl,trivial⟩,trivial⟩)),a_⟩
def setI(L:List Int):Nat→Nat
 |0=>0
 |k+1=>setI L k|||2^(L.getD k 0).toNat
theorem Qb8{L:List Int}(h: ∀k,k<L.length→0≤L.getD k 0∧L.getD k 0<64): ∀k,k≤L.length→setI L k<18446744073709551616
 |0,_=>by unfold setI;decide
 |k+1,hk=>by
  have:=h k (by omega)
  exact Nat.or_lt_two_pow (n:=64) (Qb8 h k (by omega)) (Nat.pow_lt_pow_right (by omega) (by omega))
abbrev stS(L:List Int)(k:Nat):SL:={sl:=[(2,u6 (0:Nat)),(3,u6 (setI L k:Nat)),(6,sl L),(7,i6 (L.length:Nat)),(8,i6 (k:Nat))]}
theorem Qiz(L:List Int)(hl:L.length≤1000000)(hL: ∀k,k<L.length→0≤L.getD k 0∧L.getD k 0<64):FnOk Pg g0 107 [sl L] (u6 (setI L L.length:Nat)):=by
 have hf:=Qad L
 have hloop:Sat Pg none 0 (at' 107 [1,1,0,1,0]) (mkSt g0 18 (stS L 0)) (Qae g0 18 [(True,.exit 0,stS L L.length)]):=by
  refine Qaw vE_ok Qaf Qab (b:=at' 107 [1,1,0,1,0,0]) (by kernel_rfl) (fun k=>k≤L.length) (stS L) (fun k=>L.length-k) (fun k hk=>?_) 0 (Nat.zero_le _)
  by_cases hlt:k<L.length
  ·have hld := Qao hlt
   have h1:=hL k hlt
   obtain⟨x,hx⟩: ∃x:Nat,L.getD k 0=(x:Int):=⟨(L.getD k 0).toNat,by omega⟩
   rw[hx]at hld h1
   have e1:setI L (k+1)=setI L k|||2^x:=by
    show setI L k|||2^(L.getD k 0).toNat=_
    rw[hx];rfl
   obtain⟨s1,s1b⟩:=Qew (G:=Qac Pg) (t:=29) (k:=x) (by omega)
   have s2:=or_u (G:=Qac Pg) (t:=29) (Qb8 hL k hk) s1b
   refine .inl ⟨k+1,[],[yes 9,pl 10,ld 11 (i6 (x:Nat)),va 14 (u6 (2^x:Nat)),va 15 (u6 (setI L (k+1):Nat)),nu 16 ((k+1:Nat):Int)],1000,hlt,by omega,?_⟩
   clear hL
   exact m_ (p:=let z0:=(↑L.length:Int);let z1:=(↑(setI L (k+1)):Int);let z2:=(↑(k+1):Int);let z3:=(↑k:Int);An [decide (z3<z0)=true,An [(0:Int)≤z3,z3<z0],_,binV (Qac Tryz.prog) BinOp.shl 29 (u6 1) (i6 ↑x)=some (u6 ↑(2^x)),binV (Qac Tryz.prog) BinOp.or 29 (u6 ↑(setI L k)) (u6 ↑(2^x))=some (u6 z1),wr .i64 (z3+(1:Int))=z2,An [Sm (↑(0:Nat):Int),z1=z1,An [Sm L.length,Sm (ints L)],z0=z0,z2=z2,Tt],Tt]) ⟨aq,a_,hld,a_⟩
  ·have hk2 : k = L.length := by omega
   subst hk2
   refine .inr ⟨.exit 0,[],stS L L.length,[no 9],1000,.inl ⟨trivial,rfl,rfl⟩,?_⟩
   clear hL
   refine Eq.mp (by kernel_rfl:(let z0:=(↑L.length:Int);let z1:=(↑(setI L L.length):Int);An [decide (z0<z0)=false,An [Sm (↑(0:Nat):Int),z1=z1,An [Sm L.length,Sm (ints L)],z0=z0,z0=z0,Tt],Tt])=_) ?_
   (repeat'(first|(with_reducible apply And.intro)|(refine fun(_:True)=>?_)))<;>first|exact aq|skip
   all_goals skip
 refine FnOk.of_vc vE_ok Qaf Qab (n:=1000) (r:=[]) (S:={sl:=[(2,u6 (setI L L.length:Nat))]}) (hs:=[(0,.loop [] (stS L 0) [(True,.exit 0,stS L L.length)])]) ?_
 clear hL
 exact m_ (p:=let z0:=(↑(setI L L.length):Int);An [Sm (u6 z0),An [An [(↑(0:Nat):Int)=(0:Int),(↑(setI L 0):Int)=(0:Int),An [Sm L.length,Sm (ints L)],Sm (↑L.length:Int),(↑(0:Nat):Int)=(0:Int),Tt],Tt],_,(True->An [An [z0=z0,Tt],Tt]),Tt]) ⟨aq,⟨⟨aq,(by rfl),a_⟩,aq⟩,hloop,a_⟩
def proC(N:List Mc)(L:List Int):Nat→Int
 |0=>1
 |k+1=>proC N L k*(N.getD (L.getD k 0).toNat ⟨0,[],[],[]⟩).c
def proR(R:List (List Int))(L:List Int):Nat→Nat
 |0=>1
 |k+1=>proR R L k*(R.getD (L.getD k 0).toNat []).length
abbrev mc0:Mc:=⟨0,[],[],[]⟩
abbrev moO(g:Int)(n:Nat)(R:List V)(q:Nat)(N:List V):O:=.row 34 none [i6 g,.im n R,.im q N]
abbrev mcO(x:Mc):O:=.row 86 none [i6 x.c,sl x.fr,sl x.no,sl x.ou]
theorem Qmx{N:List Mc}{k:Nat}(h:k<N.length):headF ((mcL N).drop (k*4))=some (i6 (N.getD k mc0).c):=by
 rw[Qb5 (List.getElem?_eq_getElem h),List.getD_eq_getElem?_getD,List.getElem?_eq_getElem h];rfl
theorem Qdp{N:List Mc}{k:Nat}(h:k<N.length):takeE 4 ((mcL N).drop (k*4))=some (mcC (N.getD k mc0)):=by
 rw[Qb5 (List.getElem?_eq_getElem h),List.getD_eq_getElem?_getD,List.getElem?_eq_getElem h];rfl
def Qbk(L:List Int)(n:Nat):Prop:=∀k,k<L.length→0≤L.getD k 0∧L.getD k 0<n
theorem Qle{N:List Mc}{L:List Int}(hc: ∀k,k<N.length→1≤(N.getD k mc0).c∧(N.getD k mc0).c≤4)(hL:Qbk L N.length): ∀k,k≤L.length→1≤proC N L k∧proC N L k≤4^k
 |0,_=>by simp[proC]
 |k+1,hk=>by
  obtain⟨h1,h2⟩:=Qle hc hL k (by omega)
  obtain⟨h3,h4⟩:=hL k (by omega)
  obtain⟨h5,h6⟩:=hc (L.getD k 0).toNat (by omega)
  show 1≤proC N L k*(N.getD (L.getD k 0).toNat mc0).c∧proC N L k*(N.getD (L.getD k 0).toNat mc0).c≤4^(k+1)
  generalize (N.getD (L.getD k 0).toNat mc0).c=c at*
  generalize proC N L k=a at*
  have e:(4:Int)^(k+1)=4^k*4:=Int.pow_succ ..
  rw[e]
  refine⟨?_,Int.mul_le_mul h2 h6 (by omega) (by omega)⟩
  have:1*1≤a*c:=Int.mul_le_mul h1 h5 (by decide) (by omega)
  omega
theorem Qlf{R:List (List Int)}{L:List Int}(hc: ∀k,k<R.length→1≤(R.getD k []).length∧(R.getD k []).length≤4)(hL:Qbk L R.length): ∀k,k≤L.length→1≤proR R L k∧proR R L k≤4^k
 |0,_=>by simp[proR]
 |k+1,hk=>by
  obtain⟨h1,h2⟩:=Qlf hc hL k (by omega)
  obtain⟨h3,h4⟩:=hL k (by omega)
  obtain⟨h5,h6⟩:=hc (L.getD k 0).toNat (by omega)
  show 1≤proR R L k*(R.getD (L.getD k 0).toNat []).length∧proR R L k*(R.getD (L.getD k 0).toNat []).length≤4^(k+1)
  rw[Nat.pow_succ]
  exact⟨Nat.mul_pos h1 h5,Nat.mul_le_mul h2 h6⟩
abbrev siS(g:Int)(n:Nat)(R:List V)(q:Nat)(N:List V)(x:Mc)(k:Nat)(a:Int):SL:={sl:=[(2,.ptr 0 0),(3,.ptr 1 0),(4,i6 a),(5,i6 1),(11,sl x.fr),(12,i6 (x.fr.length:Nat)),(13,i6 (k:Nat))],os:=[moO g n R q N,mcO x]}
abbrev sjS(g:Int)(n:Nat)(R:List V)(q:Nat)(N:List V)(x:Mc)(a:Int)(k:Nat)(b:Int):SL:={sl:=[(2,.ptr 0 0),(3,.ptr 1 0),(4,i6 a),(5,i6 b),(27,sl x.no),(28,i6 (x.no.length:Nat)),(29,i6 (k:Nat))],os:=[moO g n R q N,mcO x]}
section
variable (g:Int) (R:List (List Int)) (N:List Mc) (x:Mc) (hc: ∀k,k<N.length→1≤(N.getD k mc0).c∧(N.getD k mc0).c≤4) (hR: ∀k,k<R.length→1≤(R.getD k []).length∧(R.getD k []).length≤4) (hf:Qbk x.fr N.length) (hn:Qbk x.no R.length) (hf5:x.fr.length≤5) (hn8:x.no.length≤8)
include hc hR hf hn hf5 hn8
theorem sizes_a:Sat Pg none 0 (at' 118 [1,1,0,1,0]) (mkSt g0 44 (siS g R.length (rtL R) N.length (mcL N) x 0 1)) (Qae g0 44 [(True,.exit 0,siS g R.length (rtL R) N.length (mcL N) x x.fr.length (proC N x.fr x.fr.length))]):=by
 have hRR:=Qar R
 have hNN:=Qav N
 have h1:=Qad x.fr
 have h2:=Qad x.no
 have h3:=Qad x.ou
 refine Qaw vE_ok Qaf Qab (b:=at' 118 [1,1,0,1,0,0]) (by kernel_rfl) (fun k=>k≤x.fr.length) (fun k=>siS g R.length (rtL R) N.length (mcL N) x k (proC N x.fr k)) (fun k=>x.fr.length-k) (fun k hk=>?_) 0 (Nat.zero_le _)
 by_cases hlt:k<x.fr.length
 ·have hld := Qao hlt
  obtain⟨g1,g2⟩:=hf k hlt
  obtain⟨y,hy⟩: ∃y:Nat,x.fr.getD k 0=(y:Int):=⟨(x.fr.getD k 0).toNat,by omega⟩
  have hb:=Qle hc hf (k+1) hlt
  have h45:(4:Int)^(k+1)≤4^5:=by
   have:=Nat.pow_le_pow_right (show 4>0 by decide) (show k+1≤5 by omega)
   exact_mod_cast this
  have e1:proC N x.fr (k+1)=proC N x.fr k*(N.getD y mc0).c:=by
   show proC N x.fr k*(N.getD (x.fr.getD k 0).toNat mc0).c=_
   rw[hy];rfl
  rw[hy]at hld g1 g2
  have hl2:=Qmx (N:=N) (k:=y) (by omega)
  have h46:(4:Int)^5=1024:=rfl
  refine .inl ⟨k+1,[0,1],[yes 14,pl 15,ld 16 (i6 (y:Nat)),pl 21,ld 23 (i6 (N.getD y mc0).c),nu 24 (proC N x.fr (k+1)),nu 25 ((k+1:Nat):Int)],1000,hlt,by omega,?_⟩
  clear hf hn hc hR
  exact m_ (p:=let z0:=(↑k:Int);An [decide (z0<(↑(List.length ((fun self=>self.2) x)):Int))=true,An [(0:Int)≤z0,z0<(↑(List.length ((fun self=>self.2) x)):Int)],_,An [_,_],headF (List.drop 0 (List.drop (y*4) (mcL N)))=some (i6 ((fun self=>self.1) (List.getD N y mc0))),wr .i64 (proC N ((fun self=>self.2) x) k*(fun self=>self.1) (List.getD N y mc0))=proC N ((fun self=>self.2) x) (k+1),wr .i64 (z0+(1:Int))=(↑(k+1):Int),An [Zz,Zz,Sm (proC N ((fun self=>self.2) x) (k+1)),Sm (1:Int),An [Sm (List.length ((fun self=>self.2) x)),Sm (ints ((fun self=>self.2) x))],Sm (↑(List.length ((fun self=>self.2) x)):Int),Sm (↑(k+1):Int),Tt],An [Sm [i6 g,V.im R.length (rtL R),V.im N.length (mcL N)],TT 3],An [Sm [i6 ((fun self=>self.1) x),sl ((fun self=>self.2) x),sl ((fun self=>self.3) x),sl ((fun self=>self.4) x)],TT 4],Tt]) ⟨aq,a_,hld,⟨g1,g2⟩,aq,(by (rw[←e1,wr6 (by omega) (by omega)];done)),a_⟩
 ·have hk2 : k = x.fr.length := by omega
  subst hk2
  refine .inr ⟨.exit 0,[0,1],siS g R.length (rtL R) N.length (mcL N) x x.fr.length (proC N x.fr x.fr.length),[no 14],1000,.inl ⟨trivial,rfl,rfl⟩,?_⟩
  clear hf hn hc hR
  refine Eq.mp (by kernel_rfl:(An [decide ((↑(List.length ((fun self=>self.2) x)):Int)<(↑(List.length ((fun self=>self.2) x)):Int))=false,An [Zz,Zz,Sm (proC N ((fun self=>self.2) x) (List.length ((fun self=>self.2) x))),Sm (1:Int),An [Sm (List.length ((fun self=>self.2) x)),Sm (ints ((fun self=>self.2) x))],Sm (↑(List.length ((fun self=>self.2) x)):Int),Sm (↑(List.length ((fun self=>self.2) x)):Int),Tt],An [Sm [i6 g,V.im R.length (rtL R),V.im N.length (mcL N)],TT 3],An [Sm [i6 ((fun self=>self.1) x),sl ((fun self=>self.2) x),sl ((fun self=>self.3) x),sl ((fun self=>self.4) x)],TT 4],Tt])=_) ?_
  (repeat'(first|(with_reducible apply And.intro)|(refine fun(_:True)=>?_)))<;>first|exact aq|skip
  all_goals skip
theorem sizes_b(a:Int):Sat Pg none 0 (at' 118 [1,1,1,0,1,0]) (mkSt g0 44 (sjS g R.length (rtL R) N.length (mcL N) x a 0 1)) (Qae g0 44 [(True,.exit 2,sjS g R.length (rtL R) N.length (mcL N) x a x.no.length (proR R x.no x.no.length:Nat))]):=by
 have hRR:=Qar R
 have hNN:=Qav N
 have h1:=Qad x.fr
 have h2:=Qad x.no
 have h3:=Qad x.ou
 refine Qaw vE_ok Qaf Qab (b:=at' 118 [1,1,1,0,1,0,0]) (by kernel_rfl) (fun k=>k≤x.no.length) (fun k=>sjS g R.length (rtL R) N.length (mcL N) x a k (proR R x.no k:Nat)) (fun k=>x.no.length-k) (fun k hk=>?_) 0 (Nat.zero_le _)
 by_cases hlt:k<x.no.length
 ·have hld := Qao hlt
  obtain⟨g1,g2⟩:=hn k hlt
  obtain⟨y,hy⟩: ∃y:Nat,x.no.getD k 0=(y:Int):=⟨(x.no.getD k 0).toNat,by omega⟩
  have hb:=Qlf hR hn (k+1) hlt
  have h45:4^(k+1)≤4^8:=Nat.pow_le_pow_right (by decide) (by omega)
  have e1:((proR R x.no (k+1):Nat):Int)=(proR R x.no k:Nat)*((R.getD y []).length:Nat):=by
   show((proR R x.no k*(R.getD (x.no.getD k 0).toNat []).length:Nat):Int)=_
   rw[hy];exact Int.natCast_mul _ _
  rw[hy]at hld g1 g2
  have hl2:=Qe9 (R:=R) (k:=y) (by omega)
  have h46:4^8=65536:=rfl
  refine .inl ⟨k+1,[0,1],[yes 30,pl 31,ld 32 (i6 (y:Nat)),pl 37,ld 38 (sl (R.getD y [])),nu 40 (proR R x.no (k+1):Nat),nu 41 ((k+1:Nat):Int)],1000,hlt,by omega,?_⟩
  clear hf hn hc hR
  exact m_ (p:=let z0:=(↑k:Int);An [decide (z0<(↑(List.length ((fun self=>self.3) x)):Int))=true,An [(0:Int)≤z0,z0<(↑(List.length ((fun self=>self.3) x)):Int)],_,An [_,_],_,wr .i64 ((↑(proR R ((fun self=>self.3) x) k):Int)*(↑(List.length (List.getD R y [])):Int))=(↑(proR R ((fun self=>self.3) x) (k+1)):Int),wr .i64 (z0+(1:Int))=(↑(k+1):Int),An [Zz,Zz,a=a,Sm (↑(proR R ((fun self=>self.3) x) (k+1)):Int),An [Sm (List.length ((fun self=>self.3) x)),Sm (ints ((fun self=>self.3) x))],Sm (↑(List.length ((fun self=>self.3) x)):Int),Sm (↑(k+1):Int),Tt],An [Sm [i6 g,V.im R.length (rtL R),V.im N.length (mcL N)],TT 3],An [Sm [i6 ((fun self=>self.1) x),sl ((fun self=>self.2) x),sl ((fun self=>self.3) x),sl ((fun self=>self.4) x)],TT 4],Tt]) ⟨aq,a_,hld,⟨g1,g2⟩,hl2,(by (rw[←e1,wr6 (by omega) (by omega)];done)),a_⟩
 ·have hk2 : k = x.no.length := by omega
  subst hk2
  refine .inr ⟨.exit 2,[0,1],sjS g R.length (rtL R) N.length (mcL N) x a x.no.length (proR R x.no x.no.length:Nat),[no 30],1000,.inl ⟨trivial,rfl,rfl⟩,?_⟩
  clear hf hn hc hR
  refine Eq.mp (by kernel_rfl:(An [decide ((↑(List.length ((fun self=>self.3) x)):Int)<(↑(List.length ((fun self=>self.3) x)):Int))=false,An [Zz,Zz,a=a,Sm (↑(proR R ((fun self=>self.3) x) (List.length ((fun self=>self.3) x))):Int),An [Sm (List.length ((fun self=>self.3) x)),Sm (ints ((fun self=>self.3) x))],Sm (↑(List.length ((fun self=>self.3) x)):Int),Sm (↑(List.length ((fun self=>self.3) x)):Int),Tt],An [Sm [i6 g,V.im R.length (rtL R),V.im N.length (mcL N)],TT 3],An [Sm [i6 ((fun self=>self.1) x),sl ((fun self=>self.2) x),sl ((fun self=>self.3) x),sl ((fun self=>self.4) x)],TT 4],Tt])=_) ?_
  (repeat'(first|(with_reducible apply And.intro)|(refine fun(_:True)=>?_)))<;>first|exact aq|skip
  all_goals skip
theorem sizes_fn:FnOk Pg g0 118 [mdV g R N,.agg [i6 x.c,sl x.fr,sl x.no,sl x.ou]] (.tup [i6 (proC N x.fr x.fr.length),i6 (proR R x.no x.no.length:Nat)]):=by
 have hRR:=Qar R
 have hNN:=Qav N
 have h1:=Qad x.fr
 have h2:=Qad x.no
 have h3:=Qad x.ou
 have ha:=sizes_a g R N x hc hR hf hn hf5 hn8
 have hb:=sizes_b g R N x hc hR hf hn hf5 hn8 (proC N x.fr x.fr.length)
 refine FnOk.of_vc vE_ok Qaf Qab (n:=1000) (r:=[]) (S:={sl:=[(4,i6 (proC N x.fr x.fr.length)),(5,i6 (proR R x.no x.no.length:Nat))]}) (hs:=[(0,.loop [0,1] (siS g R.length (rtL R) N.length (mcL N) x 0 1) [(True,.exit 0,siS g R.length (rtL R) N.length (mcL N) x x.fr.length (proC N x.fr x.fr.length))]),(0,.loop [0,1] (sjS g R.length (rtL R) N.length (mcL N) x (proC N x.fr x.fr.length) 0 1) [(True,.exit 2,sjS g R.length (rtL R) N.length (mcL N) x (proC N x.fr x.fr.length) x.no.length (proR R x.no x.no.length:Nat))])]) ?_
 clear hf hn hc hR
 exact m_ (p:=let z0:=[i6 g,V.im R.length (rtL R),V.im N.length (mcL N)];let z1:=(1:Int);An [Sm (V.tup [i6 (proC N ((fun self=>self.2) x) (List.length ((fun self=>self.2) x))),i6 (↑(proR R ((fun self=>self.3) x) (List.length ((fun self=>self.3) x))):Int)]),An [An [Zz,Zz,z1=z1,z1=z1,An [Sm (List.length ((fun self=>self.2) x)),Sm (ints ((fun self=>self.2) x))],Sm (↑(List.length ((fun self=>self.2) x)):Int),(↑(0:Nat):Int)=(0:Int),Tt],An [z0=z0,TT 3],An [Sm [i6 ((fun self=>self.1) x),sl ((fun self=>self.2) x),sl ((fun self=>self.3) x),sl ((fun self=>self.4) x)],TT 4],Tt],_,(True->An [An [An [Zz,Zz,Sm (proC N ((fun self=>self.2) x) (List.length ((fun self=>self.2) x))),z1=z1,An [Sm (List.length ((fun self=>self.3) x)),Sm (ints ((fun self=>self.3) x))],Sm (↑(List.length ((fun self=>self.3) x)):Int),(↑(0:Nat):Int)=(0:Int),Tt],An [z0=z0,TT 3],An [Sm [i6 ((fun self=>self.1) x),sl ((fun self=>self.2) x),sl ((fun self=>self.3) x),sl ((fun self=>self.4) x)],TT 4],Tt],_,(True->An [An [Sm (proC N ((fun self=>self.2) x) (List.length ((fun self=>self.2) x))),Sm (↑(proR R ((fun self=>self.3) x) (List.length ((fun self=>self.3) x))):Int),Tt],Tt]),Tt]),Tt]) ⟨aq,a_,ha,(fun _=>⟨a_,hb,a_⟩),aq⟩
end
def upF{α:Type}(f:Nat→α)(i:Nat)(x:α):Nat→α:=fun j=>if j=i then x else f j
theorem Qai{α:Type}(f:Nat→α)(i:Nat)(x:α):upF f i x i=x:=by unfold upF;rw[if_pos rfl]
theorem Qah{α:Type}{f:Nat→α}{i j:Nat}{x:α}(h:j≠i):upF f i x j=f j:=by unfold upF;rw[if_neg h]
abbrev rmV(k:Bool):Option Nat:=if k=true then none else some 0
abbrev spV(k:Bool):Option Nat:=if k=true then some 1 else none
abbrev liR(k:Bool)(l:List Int):O:=.row 3 (spV k) (ints l)
abbrev cellsF(n:Nat)(F:Nat→V):List V:=(List.range n).map F
theorem Qa6(n:Nat)(F:Nat→V):(cellsF n F).length=n:=by simp
theorem Qgc{n i:Nat}{F:Nat→V}(h:i<n):(cellsF n F)[i]? =some (F i):=by
 rw[List.getElem?_map,List.getElem?_range h];rfl
theorem Qnu{n i:Nat}{F:Nat→V}{x:V}:(cellsF n F).set i x=cellsF n (upF F i x):=by
 apply List.ext_getElem?
 intro j
 rw[List.getElem?_set]
 by_cases hj:j<n
 ·rw [Qgc (F := F) hj, Qgc (F := upF F i x) hj]
  by_cases hij:i=j
  ·subst hij;rw[if_pos rfl,if_pos (by rw[Qa6];exact hj),Qai]
  ·rw[if_neg hij,Qah (Ne.symm hij)]
 ·rw [List.getElem?_eq_none (by rw [Qa6]; omega), List.getElem?_eq_none (by rw [Qa6]; omega)]
  split
  ·split
   ·rename_i h;rw[Qa6]at h;omega
   ·rfl
  ·rfl
structure NR(H:T O)(lo nx hR t:Nat)(sp:Option Nat)(n:Nat)(F:Nat→V)(S:Nat→Bool)(ls:Nat→List Int)(hd:Nat→Nat)(kd:Nat→Bool):Prop where
 row:gt H hR=some (.row t sp (cellsF n F))
 nil: ∀i,i<n→S i=true→ls i=[]→F i= .nils
 own: ∀i,i<n→S i=true→ls i≠[]→F i= .sl (hd i) 0 (ls i).length (rmV (kd i))∧lo≤hd i∧hd i<nx∧hd i≠hR∧gt H (hd i)=some (liR (kd i) (ls i))
 inj: ∀i j,i<n→j<n→S i=true→S j=true→ls i≠[]→ls j≠[]→hd i=hd j→i=j
section
variable {H H':T O} {lo nx nx' hR t:Nat} {sp:Option Nat} {n:Nat} {F:Nat→V} {S:Nat→Bool} {ls:Nat→List Int} {hd:Nat→Nat} {kd:Nat→Bool}
theorem NR.ne(h:NR H lo nx hR t sp n F S ls hd kd){i j:Nat}(hi:i<n)(hS:S i=true)(hl:ls i≠[])(hj:j<n)(hS':S j=true)(hl':ls j≠[])(hne:j≠i):hd j≠hd i:=fun e=>hne (h.inj j i hj hi hS' hS hl' hl e)
theorem NR.frame(h:NR H lo nx hR t sp n F S ls hd kd)(hn:nx≤nx')(h1:gt H' hR=gt H hR)(hg: ∀i,i<n→S i=true→ls i≠[]→gt H' (hd i)=gt H (hd i)):NR H' lo nx' hR t sp n F S ls hd kd where
 row:=h1.trans h.row
 nil:=h.nil
 own i q1 q2 q3:=by
  obtain⟨a1,a2,a3,a4,a5⟩:=h.own i q1 q2 q3
  exact⟨a1,a2,by omega,a4,(hg i q1 q2 q3).trans a5⟩
 inj:=h.inj
theorem NR.put(h:NR H lo nx hR t sp n F S ls hd kd){i:Nat}(hS:S i=false)(x:V)(h1:gt H' hR=some (.row t sp (cellsF n (upF F i x))))(hg: ∀i,i<n→S i=true→ls i≠[]→gt H' (hd i)=gt H (hd i))(hn:nx≤nx'):NR H' lo nx' hR t sp n (upF F i x) S ls hd kd where
 row:=h1
 nil j h1 h2 h3:=by rw[Qah (by rintro rfl;rw[hS]at h2;cases h2)];exact h.nil j h1 h2 h3
 own j h1 h2 h3:=by
  obtain⟨a1,a2,a3,a4,a5⟩:=h.own j h1 h2 h3
  exact⟨by rw[Qah (by rintro rfl;rw[hS]at h2;cases h2)];exact a1,a2,by omega,a4,(hg j h1 h2 h3).trans a5⟩
 inj:=h.inj
theorem NR.new(h:NR H lo nx hR t sp n F S ls hd kd){i q:Nat}{l:List Int}{k:Bool}(hl:l≠[])(hq:nx≤q)(hq2:q<nx')(hlo:lo≤q)(hqR:q≠hR)
  (h1:gt H' hR=some (.row t sp (cellsF n (upF F i (.sl q 0 l.length (rmV k))))))(h2:gt H' q=some (liR k l))(hg: ∀j,j<n→S j=true→ls j≠[]→j≠i→gt H' (hd j)=gt H (hd j)):NR H' lo nx' hR t sp n (upF F i (.sl q 0 l.length (rmV k))) S (upF ls i l) (upF hd i q) (upF kd i k) where
 row:=h1
 nil j g1 g2 g3:=by
  by_cases hj:j=i
  ·subst hj;rw[Qai]at g3;exact absurd g3 hl
  ·rw[Qah hj]at g3⊢;exact h.nil j g1 g2 g3
 own j g1 g2 g3:=by
  by_cases hj:j=i
  ·subst hj
   rw[Qai,Qai,Qai,Qai]
   exact⟨rfl,hlo,hq2,hqR,h2⟩
  ·rw [Qah hj] at g3
   obtain⟨a1,a2,a3,a4,a5⟩:=h.own j g1 g2 g3
   rw[Qah hj,Qah hj,Qah hj,Qah hj]
   exact⟨a1,a2,by omega,a4,(hg j g1 g2 g3 hj).trans a5⟩
 inj j m g1 g2 g3 g4 g5 g6 e:=by
  by_cases hj:j=i<;>by_cases hm:m=i
  ·rw[hj,hm]
  ·subst hj
   rw[Qai,Qah hm]at e
   rw[Qah hm]at g6
   have:=(h.own m g2 g4 g6).2.2.1
   omega
  ·subst hm
   rw[Qai,Qah hj]at e
   rw[Qah hj]at g5
   have:=(h.own j g1 g3 g5).2.2.1
   omega
  ·rw [Qah hj] at g5 e
   rw[Qah hm]at g6 e
   exact h.inj j m g1 g2 g3 g4 g5 g6 e
theorem NR.set(h:NR H lo nx hR t sp n F S ls hd kd){i:Nat}{l:List Int}(hi:i<n)(hS:S i=true)(hne:ls i≠[])(hl:l.length=(ls i).length)(h1:gt H' (hd i)=some (liR (kd i) l))(h2:gt H' hR=gt H hR)(hg: ∀j,j<n→S j=true→ls j≠[]→j≠i→gt H' (hd j)=gt H (hd j)):NR H' lo nx hR t sp n F S (upF ls i l) hd kd where
 row:=h2.trans h.row
 nil j g1 g2 g3:=by
  by_cases hj:j=i
  ·subst hj
   rw[Qai]at g3
   rw[g3]at hl
   exact absurd (List.eq_nil_of_length_eq_zero hl.symm) hne
  ·rw[Qah hj]at g3;exact h.nil j g1 g2 g3
 own j g1 g2 g3:=by
  by_cases hj:j=i
  ·subst hj
   obtain⟨a1,a2,a3,a4,a5⟩:=h.own j g1 g2 hne
   rw[Qai,hl]
   exact⟨a1,a2,a3,a4,h1⟩
  ·rw [Qah hj] at g3 ⊢
   obtain⟨a1,a2,a3,a4,a5⟩:=h.own j g1 g2 g3
   exact⟨a1,a2,a3,a4,(hg j g1 g2 g3 hj).trans a5⟩
 inj j m g1 g2 g3 g4 g5 g6 e:=by
  have key: ∀j,j<n→S j=true→upF ls i l j≠[]→ls j≠[]:=fun j g1 g3 g5=>by
   by_cases hj:j=i
   ·subst hj;exact hne
   ·rw[Qah hj]at g5;exact g5
  exact h.inj j m g1 g2 g3 g4 (key j g1 g3 g5) (key m g2 g4 g6) e
theorem NR.clear(h:NR H lo nx hR t sp n F S ls hd kd){i:Nat}(h1:gt H' hR=some (.row t sp (cellsF n (upF F i .nils))))(hg: ∀j,j<n→S j=true→ls j≠[]→j≠i→gt H' (hd j)=gt H (hd j))(hn:nx≤nx'):NR H' lo nx' hR t sp n (upF F i .nils) S (upF ls i []) hd kd where
 row:=h1
 nil j g1 g2 g3:=by
  by_cases hj:j=i
  ·subst hj;rw[Qai]
  ·rw[Qah hj]at g3⊢;exact h.nil j g1 g2 g3
 own j g1 g2 g3:=by
  by_cases hj:j=i
  ·subst hj;rw[Qai]at g3;exact absurd rfl g3
  ·rw [Qah hj] at g3
   obtain⟨a1,a2,a3,a4,a5⟩:=h.own j g1 g2 g3
   rw[Qah hj,Qah hj]
   exact⟨a1,a2,by omega,a4,(hg j g1 g2 g3 hj).trans a5⟩
 inj j m g1 g2 g3 g4 g5 g6 e:=by
  by_cases hj:j=i
  ·subst hj;rw[Qai]at g5;exact absurd rfl g5
  ·by_cases hm : m = i
   ·subst hm;rw[Qai]at g6;exact absurd rfl g6
   ·rw [Qah hj] at g5
    rw[Qah hm]at g6
    exact h.inj j m g1 g2 g3 g4 g5 g6 e
theorem NR.viewP{G:Nat→V}(h:NR H lo nx hR t sp n F S ls hd kd){Fz:Nat→Prop}(hF: ∀g,lo≤g→g<nx→Fz g)(h0: ∀i,i<n→S i=false→G i=F i∧Hf (F i))(h1: ∀i,i<n→S i=true→G i=sl (ls i)):ViewP H.get Fz (cellsF n G) (cellsF n F):=by
 have key: ∀l:List Nat,(∀i∈l,i<n)→ViewP H.get Fz (l.map G) (l.map F):=by
  intro l
  induction l with
  |nil=>intro _;exact trivial
  | cons i l ih =>
   intro hl
   have hi:=hl i List.mem_cons_self
   refine⟨_,_,rfl,?_,ih fun j hj=>hl j (List.mem_cons_of_mem _ hj)⟩
   cases hS:S i with
   |false=>
    obtain⟨e,hf⟩:=h0 i hi hS
    rw[e];exact View.of_hf _ hf
   | true =>
    rw[h1 i hi hS]
    by_cases hne:ls i=[]
    ·rw[h.nil i hi hS hne,hne];exact .inr (.inl ⟨rfl,rfl⟩)
    ·obtain ⟨a1, a2, a3, a4, a5⟩ := h.own i hi hS hne
     rw[a1]
     exact .inr (.inr ⟨hd i,0,rmV (kd i),_,_,_,rfl,hF _ a2 a3,by rw[←Qay];exact a5,ViewP.of_hf _ (Qad _)⟩)
 exact key (List.range n) fun i hi=>List.mem_range.1 hi
end
def ndG(N:List Mc)(i:Nat):V:=(mcC (N.getD (i/4) mc0)).getD (i%4) .nils
theorem Qgr: ∀N:List Mc,mcL N=cellsF (4*N.length) (ndG N)
 |[]=>rfl
 |x::N=>by
  have ih:=Qgr N
  show mcC x++mcL N=_
  rw[ih,List.length_cons,show 4*(N.length+1)=4+4*N.length by omega]
  unfold cellsF
  rw[List.range_add,List.map_append,List.map_map]
  congr 1
  apply List.map_congr_left
  intro i _
  show ndG N i=ndG (x::N) (4+i)
  unfold ndG
  rw[show(4+i)/4=i/4+1 by omega,show(4+i)%4=i%4 by omega]
  rfl
noncomputable def vxT(H:T O):V→V→Bool
 | .tup l,y=>match y with
  | .tup l'=>vxL H l l'
  | _=>false
 |x,y=>vxB H x y
theorem vxT_ok{H:T O}{ρ:Nat→Option Nat}: ∀(x y:V),vxT H x y=true→View H.get (fun _=>True) ρ x y
 | .tup l,y,h=>by
  cases y with
  |tup l'=>exact⟨l',rfl,Qkm l l' (by simpa [vxT]using h)⟩
  | _=>simp[vxT]at h
 | .bool _,y,h| .int _ _,y,h| .str _,y,h| .nilp,y,h| .nilf,y,h| .nili,y,h| .nils,y,h| .nilm,y,h| .agg _,y,h| .im _ _,y,h| .imp _,y,h| .fn _ _,y,h| .mfn _ _,y,h| .ifc _ _,y,h| .ptr _ _,y,h| .sl _ _ _ _,y,h| .mp _,y,h| .yld _,y,h=>Qsu _ y h
theorem Qe6{s:Sig}{w w':World}{v v0:V}{H:T O}{nx:Nat}{lg:List Nat}{ee:Ending}(hH:RH s w (T.e:T O).get)(hn: ∀i,0≤i→¬s.dom i)(hv:vxT H v v0=true)(hf:Hf v)(h:Qbb s w 0 ⟨v0,H,nx,lg⟩ ee w'):Qbb s w 0 ⟨v,.e,0,[]⟩ ee w':=by
 obtain⟨u,s',rfl,g1,g2,g3,g4,g5⟩:=h
 have hr: ∀g t sp c,H.get g=some (.row t sp c)→s'.dom g∧s'.μ g<w'.heap.size:=fun g t sp c hg=>by
  obtain⟨a,b,_⟩:=g2.obj g _ hg rfl
  exact⟨a,b⟩
 have hrv:RV {s' with fz:=fun b=>s'.fz b∨∃g t sp c,H.get g=some (.row t sp c)∧b=s'.μ g} w' v u:=View.rv (s':={s' with fz:=fun b=>s'.fz b∨∃g t sp c,H.get g=some (.row t sp c)∧b=s'.μ g}) g2 ⟨fun _ _ e=>(by cases e),fun g t sp c _ hg=>.inr ⟨g,t,sp,c,hg,rfl⟩,fun b hb=>.inl hb⟩ v v0 u (vxT_ok (ρ:=fun _=>none) v v0 hv) g1
 have hst:Step s w {s' with fz:=fun b=>s'.fz b∨∃g t sp c,H.get g=some (.row t sp c)∧b=s'.μ g} w' lg:=⟨⟨⟨g3.le.μ,g3.le.cp,g3.le.dom,fun b hb=>.inl (g3.le.fz b hb)⟩,g3.le.mark⟩,fun b hb=>by
  rcases hb with hb|⟨g,t,sp,c,hg,rfl⟩
  ·exact g3.fz b hb
  ·obtain ⟨a, _⟩ := hr g t sp c hg
   rcases g3.new g a (hn g (Nat.zero_le _))with h|⟨k,_,h,_⟩
   ·exact .inr (.inl h)
   ·exact absurd h (hn k (Nat.zero_le _)),g3.kept,g3.mod,g3.new⟩
 obtain⟨s'',q1,q2,q3,q4⟩:=Qed hH hrv hf hst (fun h _=>hn h (Nat.zero_le _)) (fun b hb=>by
  rcases hb with hb|⟨g,t,sp,c,hg,rfl⟩
  ·exact g2.old b (.inl hb)
  ·exact(hr g t sp c hg).2)
 exact⟨u,s'',rfl,q1,q2,q3,fun i=>by rw[q4];exact dom_same s _ i,Nat.le_refl _⟩
noncomputable def runV(E:Env)(n f:Nat)(ars:List V)(v:V):Bool:=match E.code f with
 |some fi=>Nat.ble ars.length fi.ntmps&&(match exec E n none fi.body ⟨⟨putAll (blank fi.ntmps) 0 ars,g0,fi.ntmps⟩,.e,0,[]⟩with
  |some [(.normal,st)]=>(match retV E.G st.tm st.H fi.res with|some v0=>vxT st.H v v0|none=>false)
  |some [(.ret,st)]=>(match retV E.G st.tm st.H fi.res with|some v0=>vxT st.H v v0|none=>false)
  | _=>false)
 |none=>false
theorem FnOk.of_runV{E:Env}(hE:E.Ok Pg){n f:Nat}{ars:List V}{v:V}(hf:hfB v=true)(h:runV E n f ars v=true):FnOk Pg g0 f ars v:=by
 unfold runV at h
 split at h
 ·rename_i fi hfi
  rw[Bool.and_eq_true]at h
  obtain⟨hle,h⟩:=h
  have key: ∀(e:Ex)(st':St),e= .normal∨e= .ret→exec E n none fi.body ⟨⟨putAll (blank fi.ntmps) 0 ars,g0,fi.ntmps⟩,.e,0,[]⟩=some [(e,st')]→(match retV E.G st'.tm st'.H fi.res with|some v0=>vxT st'.H v v0|none=>false)=true→FnOk Pg g0 f ars v:=fun e st' he hx hr=>by
   split at hr
   ·rename_i v0 hret
    refine CallSpec.fnC hE hfi (by rw[List.append_nil];exact hle) (Log.refl _ _ _) (R:=fun e' s=>e'=e∧s=st') ?_ ?_
    ·rw [List.append_nil]
     intro B s0 w0 s w a hn hB hrd A Q hQ
     refine(Qdj hE Qaf n).one none _ _ st' e s w a B hx A.rel (Nat.le_trans hB A.step.mod.size) (fun h e=>by cases e) Q (fun a' w'⟨lg,s',W⟩=>?_)
     have:=hQ e st' ⟨rfl,rfl⟩ s' w' a' (A.went W)
     rcases he with rfl|rfl<;>exact this
    ·rintro e' st ⟨rfl, rfl⟩
     exact⟨he,v0,hret,fun s w ee w' hH hn hp=>Qe6 hH hn hr (Qek.1 v hf) hp⟩
   ·cases hr
  split at h
  ·rename_i st' hx;exact key .normal st' (.inl rfl) hx h
  ·rename_i st' hx;exact key .ret st' (.inr rfl) hx h
  ·cases h
 ·cases h
theorem FnOk.of_sat{f:Nat}{ars:List V}{v:V}{fi:FI}(hfi:vE.code f=some fi)(hle:Nat.ble ars.length fi.ntmps=true)(hv:hfB v=true)(h:Sat Pg none 0 fi.body ⟨⟨putAll (blank fi.ntmps) 0 ars,g0,fi.ntmps⟩,.e,0,[]⟩ (fun e st=>(e= .normal∨e= .ret)∧retV vE.G st.tm st.H fi.res=some v)):FnOk Pg g0 f ars v:=by
 refine CallSpec.fnC vE_ok hfi (by rw[List.append_nil];exact hle) (Log.refl _ _ _) (by rw[List.append_nil];exact h) ?_
 rintro e st ⟨he,hret⟩
 refine⟨he,v,hret,fun s w ee w' hH hn⟨u,s',h1,g1,g2,g3,_,_⟩=>?_⟩
 subst h1
 obtain⟨s'',q1,q2,q3,q4⟩:=Qed hH g1 (Qek.1 v hv) g3 (fun h _=>hn h (Nat.zero_le _)) (fun b hb=>g2.old b (.inl hb))
 exact⟨u,s'',rfl,q1,q2,q3,fun i=>by rw[q4];exact dom_same s _ i,Nat.le_refl _⟩
noncomputable def Qnx(k:Nat)(c:Code)(S:SL)(v:V):Option FI→Prop
 |some fi=>fi.ntmps=k∧fi.body=c∧Nat.ble 1 fi.ntmps=true∧retP v (retV vE.G (mkSt g0 k S).tm (mkSt g0 k S).H fi.res)
 |none=>False
theorem fn_of_to{f:Nat}{x v:V}{k:Nat}{c:Code}{e:Ex}{sl:List (Nat×V)}{H:T O}{nx:Nat}(he:e= .normal∨e= .ret)(h:To k c [(0,x)] .e 0 e sl H nx){r:List Nat}{S:SL}(hv:hfB v=true)(hg: ∀lg,Gc 0 r (mkSo g0 k sl H nx lg) (mkSt g0 k S))(hr:Qnx k c S v (vE.code f)):FnOk Pg g0 f [x] v:=by
 unfold Qnx at hr
 split at hr
 ·rename_i fi hfi
  obtain⟨h1,h2,h3,h4⟩:=hr
  subst h1 h2
  have hret:retV vE.G (mkSt g0 fi.ntmps S).tm (mkSt g0 fi.ntmps S).H fi.res=some v:=by
   unfold retP at h4
   split at h4
   ·rename_i u e;rw[e,h4]
   ·exact h4.elim
  refine FnOk.of_sat hfi h3 hv (Sat.gc_post ?_)
  have h0:=h 0 []
  have e0:putAll (blank fi.ntmps) 0 [x]=putL (blank fi.ntmps) [(0,x)]:=by rw[←Qbh];rfl
  rw[e0]
  refine Sat.mono h0 ?_
  rintro e1 st ⟨rfl,lg,rfl⟩
  exact⟨r,_,hg lg,he,hret⟩
 ·exact hr.elim
abbrev v16(n:Int):V:=.int .u16 n
theorem Qcf: ∀(n:Nat)(z:List V),HfL z→HfL (rep n z)
 |0,_,_=>trivial
 |n+1,z,h=>by rw[rep];exact Qe0 h (Qcf n z h)
theorem Qqt(l:List Nat):(it l).length=l.length:=by simp[it]
abbrev z8(n:Nat):V:=.im n (rep n [w8 0])
abbrev dzL(n:Nat)(Q:List Nat):List V:=[z8 n,.int .u16 0,bl Q]
abbrev dzO(n:Nat)(Q:List Nat):O:=.row 81 none (dzL n Q)
abbrev pgS(Q:List Nat)(n:Nat)(q:Nat×List Nat):SL:={sl:=[(1,.ptr 0 0),(3,owV 1 q.1),(4,i6 (q.1:Nat))],os:=dzO n Q::owL 3 1 (it q.2) q.1}
theorem Qdy(Q:List Nat)(n:Nat)(hn:1≤n∧n≤4):FnOk Pg g0 71 [.agg (dzL n Q)] (sl (List.replicate n 1)):=by
 have hQ:=Qau Q
 rcases(show n=1∨n=2∨n=3∨n=4 by omega)with rfl|rfl|rfl|rfl
 ·refine FnOk.of_vc vE_ok Qaf Qab (n := 1000) (r := []) (S := { sl := [(2, sl (List.replicate 1 1))] }) (hs := [(0, .unroll 2)]) ?_
  exact m_ (p:=let z0:=List.replicate 1 (1:Int);An [Sm (sl z0),An [An [1=1,ints z0=[i6 (wr .i64 ((1:Int)+wr .i64 (Int.tmod (0:Int) (4:Int))))],Tt,Tt],Tt],Tt]) ⟨aq,⟨⟨aq,(by rfl),a_⟩,aq⟩,aq⟩
 ·refine FnOk.of_vc vE_ok Qaf Qab (n := 1000) (r := []) (S := { sl := [(2, sl (List.replicate 2 1))] }) (hs := [(0, .unroll 3)]) ?_
  exact m_ (p:=let z0:=[i6 (wr .i64 ((1:Int)+wr .i64 (Int.tmod (0:Int) (4:Int))))];let z1:=List.replicate 2 (1:Int);An [Sm (sl z1),An [An [2=2,ints z1=z0++z0,TT 2],Tt],Tt]) ⟨aq,⟨⟨aq,(by rfl),aq⟩,aq⟩,aq⟩
 ·refine FnOk.of_vc vE_ok Qaf Qab (n := 1000) (r := []) (S := { sl := [(2, sl (List.replicate 3 1))] }) (hs := [(0, .unroll 4)]) ?_
  exact m_ (p:=let z0:=[i6 (wr .i64 ((1:Int)+wr .i64 (Int.tmod (0:Int) (4:Int))))];let z1:=List.replicate 3 (1:Int);An [Sm (sl z1),An [An [3=3,ints z1=z0++z0++z0,TT 3],Tt],Tt]) ⟨aq,⟨⟨aq,(by rfl),aq⟩,aq⟩,aq⟩
 ·refine FnOk.of_vc vE_ok Qaf Qab (n := 1000) (r := []) (S := { sl := [(2, sl (List.replicate 4 1))] }) (hs := [(0, .unroll 5)]) ?_
  exact m_ (p:=let z0:=[i6 (wr .i64 ((1:Int)+wr .i64 (Int.tmod (0:Int) (4:Int))))];let z1:=List.replicate 4 (1:Int);An [Sm (sl z1),An [An [4=4,ints z1=z0++z0++z0++z0,TT 4],Tt],Tt]) ⟨aq,⟨⟨aq,(by rfl),aq⟩,aq⟩,aq⟩
theorem pg_0(Q:List Nat)(n:Nat)(hn:0<n)(hn6:1≤n∧n≤4)(y:Nat)(hb:0<Q.length)(hy:Q.getD (0) 0=y)(hu:y%(0+1)=0)(hx:y<256):
  vc Pg vE sp0 none 0 1000 (at' 31 [1,1,0,1,0,0]) [fn 9 (sl (List.replicate n 1)),yes 11,yes 18,pl 22,ld 23 (w8 (y:Nat)),nu 24 (y:Nat),va 27 (i6 (0:Nat))] (mkSt g0 42 (pgS Q n (0,[]))) (Qci 0 42 [0,2] (pgS Q n (1,[0]))):=by
 have hQ:=Qau Q
 have hc:=Qdy Q n hn6
 have hl':(List.replicate n (1:Int)).length=n:=List.length_replicate ..
 have hz:HfL (rep n [w8 0]):=Qcf n _ ⟨trivial,trivial⟩
 generalize rep n [w8 0]=Z at*
 generalize List.replicate n (1:Int)=W at*
 have h1:=Qbu (l:=Q) (k:=0) hb
 rw[hy]at h1
 have h2:=Qcp (G:=Qac Pg) (t:=3) (a:=y) (b:=1) (by decide)
 rw[hu]at h2
 refine Eq.mp (by kernel_rfl:(let z0:=(↑(0:Nat):Int);let z1:=wr .i64 (z0+(1:Int));An [An [TT 3,Tt],FnOk Pg g0 71 [V.agg [V.im n (rep n [w8 0]),v16 0,V.im Q.length (bt Q)]] (sl W),Tt,decide (z0<(↑W.length:Int))=true,decide (z0<(↑Q.length:Int))=true,An [(0:Int)≤z0,z0<(↑Q.length:Int)],headF (List.drop (0*1) (bt Q))=some (w8 ↑y),wr .i64 (↑y:Int)=(↑y:Int),binV (Qac Tryz.prog) BinOp.rem 3 (i6 ↑y) (i6 z1)=some (i6 ↑(0:Nat)),An [Zz,An [Zz,1=1,Tt],(↑(1:Nat):Int)=z1,Tt],An [Sm (dzL n Q),TT 3],An [it [0]=[i6 ↑(0:Nat)],Tt,Tt],Tt])=_) ?_
 (repeat'(first|(with_reducible apply And.intro)|(refine fun(_:True)=>?_)))<;>first|exact aq|skip
 all_goals trivial
theorem pg_0n(Q:List Nat)(n:Nat)(hn:0<n)(hn6:1≤n∧n≤4)(hb: ¬0<Q.length):
  vc Pg vE sp0 none 0 1000 (at' 31 [1,1,0,1,0,0]) [fn 9 (sl (List.replicate n 1)),yes 11,no 18] (mkSt g0 42 (pgS Q n (0,[]))) (Qci 0 42 [0,2] (pgS Q n (1,[0]))):=by
 have hQ:=Qau Q
 have hc:=Qdy Q n hn6
 have hl':(List.replicate n (1:Int)).length=n:=List.length_replicate ..
 have hz:HfL (rep n [w8 0]):=Qcf n _ ⟨trivial,trivial⟩
 generalize rep n [w8 0]=Z at*
 generalize List.replicate n (1:Int)=W at*
 refine Eq.mp (by kernel_rfl:(let z0:=(↑(0:Nat):Int);An [An [TT 3,Tt],FnOk Pg g0 71 [V.agg [V.im n (rep n [w8 0]),v16 0,V.im Q.length (bt Q)]] (sl W),Tt,decide (z0<(↑W.length:Int))=true,decide (z0<(↑Q.length:Int))=false,An [Zz,An [Zz,1=1,Tt],(↑(1:Nat):Int)=wr .i64 (z0+(1:Int)),Tt],An [Sm (dzL n Q),TT 3],An [it [0]=[i6 ↑(0:Nat)],Tt,Tt],Tt])=_) ?_
 (repeat'(first|(with_reducible apply And.intro)|(refine fun(_:True)=>?_)))<;>first|exact aq|skip
 all_goals trivial
theorem pg_B(Q:List Nat)(n:Nat)(i:Nat)(hn:i+1<n)(hn6:1≤n∧n≤4)(l:List Nat)(hl:l.length=i+1)(M:List Nat)(hM:it M=[i6 ((i+1:Nat):Int)]++it l)(y:Nat)(hb:i+1<Q.length)(hy:Q.getD (i+1) 0=y)(hu:y%(i+1+1)=0)(hx:y<256):
  vc Pg vE sp0 none 0 1000 (at' 31 [1,1,0,1,0,0]) [fn 9 (sl (List.replicate n 1)),yes 11,yes 18,pl 22,ld 23 (w8 (y:Nat)),nu 24 (y:Nat),nu 26 ((i+1+1:Nat):Int),va 27 (i6 (0:Nat)),va 31 (.im 0 []),va 39 (.sl 1 0 (i+1) none),(40,.aop (.row 3 (some 1) ([i6 ((i+1:Nat):Int)])) (i+1) (it l)),nu 13 ((i+1+1:Nat):Int)] (mkSt g0 42 (pgS Q n (i+1,l))) (Qci 0 42 [0,4] (pgS Q n (i+1+1,M))):=by
 have hQ:=Qau Q
 have hc:=Qdy Q n hn6
 have hl':(List.replicate n (1:Int)).length=n:=List.length_replicate ..
 have hz:HfL (rep n [w8 0]):=Qcf n _ ⟨trivial,trivial⟩
 generalize rep n [w8 0]=Z at*
 generalize List.replicate n (1:Int)=W at*
 have h1:=Qbu (l:=Q) (k:=i+1) hb
 rw[hy]at h1
 have h2:=Qcp (G:=Qac Pg) (t:=3) (a:=y) (b:=i+1+1) (by omega)
 rw[hu]at h2
 have s3:=@Qcq 1 (i+1) none (some ((0:Nat):Int)) 0 rfl rfl (by omega)
 have s4:=@Qbd 1 (i+1) (some ((0:Nat):Int)) none 0 (i+1) rfl rfl (by omega) (Nat.le_refl _)
 exact m_ (p:=let z1:=(↑(i+1):Int);let z2:=(↑(i+1+1):Int);let z4:=Qac Tryz.prog;let z5:=some (↑(0:Nat):Int);let z6:=V.sl 1 0 (i+1) none;let z7:=wr .i64 (z1+(1:Int));let z8:=O.row 3 (some 1) [i6 ↑(i+1)];let z0:=T.put (pt (ofOs T.e 0 (dzO n Q::owL 3 1 (it l) (i+1))) 2 (O.row 3 none [i6 ↑(i+1)])) 3 z8;An [An [TT 3,Tt],_,Tt,decide (z1<(↑W.length:Int))=true,decide (z1<(↑Q.length:Int))=true,An [(0:Int)≤z1,z1<(↑Q.length:Int)],_,wr .i64 (↑y:Int)=(↑y:Int),z7=z2,_,sliceV z4 47 (owV 1 (i+1)) none z5 none=some (V.im 0 []),sliceV z4 47 (owV 1 (i+1)) z5 none none=some z6,srcV z0 1 z6=some (i+1,it l),An [gt z0 3=some z8,1=1*1,1≤i+1,1+(i+1)≤9223372036854775807,(1+(i+1))*8≤140737488355328,atoms (it l)=true],z7=z2,An [Zz,An [Zz,Nat.succ i+1=1+(i+1),Tt],z2=z2,Tt],An [Sm (dzL n Q),TT 3],An [_,HfL (it M)],Tt]) ⟨a_,hc,aq,aq,aq,a_,h1,aq,aq,h2,s3,s4,(by exact Qdt (L:=l) (t:=3) (sp:=some 1) (by kernel_rfl) (by omega) (List.take_of_length_le (by simp;omega))),⟨(by rfl),aq,aq,aq,aq,Qby _⟩,aq,a_,a_,⟨hM,Qaq _⟩,aq⟩
theorem pg_Bn(Q:List Nat)(n:Nat)(i:Nat)(hn:i+1<n)(hn6:1≤n∧n≤4)(l:List Nat)(hl:l.length=i+1)(M:List Nat)(hM:it M=[i6 ((i+1:Nat):Int)]++it l)(hb: ¬i+1<Q.length):
  vc Pg vE sp0 none 0 1000 (at' 31 [1,1,0,1,0,0]) [fn 9 (sl (List.replicate n 1)),yes 11,no 18,va 31 (.im 0 []),va 39 (.sl 1 0 (i+1) none),(40,.aop (.row 3 (some 1) ([i6 ((i+1:Nat):Int)])) (i+1) (it l)),nu 13 ((i+1+1:Nat):Int)] (mkSt g0 42 (pgS Q n (i+1,l))) (Qci 0 42 [0,4] (pgS Q n (i+1+1,M))):=by
 have hQ:=Qau Q
 have hc:=Qdy Q n hn6
 have hl':(List.replicate n (1:Int)).length=n:=List.length_replicate ..
 have hz:HfL (rep n [w8 0]):=Qcf n _ ⟨trivial,trivial⟩
 generalize rep n [w8 0]=Z at*
 generalize List.replicate n (1:Int)=W at*
 have s3:=@Qcq 1 (i+1) none (some ((0:Nat):Int)) 0 rfl rfl (by omega)
 have s4:=@Qbd 1 (i+1) (some ((0:Nat):Int)) none 0 (i+1) rfl rfl (by omega) (Nat.le_refl _)
 exact m_ (p:=let z1:=(↑(i+1+1):Int);let z3:=(↑(i+1):Int);let z4:=V.sl 1 0 (i+1) none;let z5:=O.row 3 (some 1) [i6 ↑(i+1)];let z0:=T.put (pt (ofOs T.e 0 (dzO n Q::owL 3 1 (it l) (i+1))) 2 (O.row 3 none [i6 ↑(i+1)])) 3 z5;An [An [TT 3,Tt],_,Tt,decide (z3<(↑W.length:Int))=true,decide (z3<(↑Q.length:Int))=false,sliceV (Qac Tryz.prog) 47 (owV 1 (i+1)) none (some (0:Int)) none=some (V.im 0 []),sliceV (Qac Tryz.prog) 47 (owV 1 (i+1)) (some (0:Int)) none none=some z4,srcV z0 1 z4=some (i+1,it l),An [gt z0 3=some z5,1=1*1,1≤i+1,1+(i+1)≤9223372036854775807,(1+(i+1))*8≤140737488355328,atoms (it l)=true],wr .i64 (z3+(1:Int))=z1,An [Zz,An [Zz,Nat.succ i+1=1+(i+1),Tt],z1=z1,Tt],An [Sm (dzL n Q),TT 3],An [_,HfL (it M)],Tt]) ⟨a_,hc,aq,aq,aq,s3,s4,(by exact Qdt (L:=l) (t:=3) (sp:=some 1) (by kernel_rfl) (by omega) (List.take_of_length_le (by simp;omega))),⟨(by rfl),aq,aq,aq,aq,Qby _⟩,aq,a_,a_,⟨hM,Qaq _⟩,aq⟩
theorem pg_A(Q:List Nat)(n:Nat)(i a m:Nat)(hi:i+1=a+1+(m+1))(hn:i+1<n)(hn6:1≤n∧n≤4)(l:List Nat)(hl:l.length=i+1)(y:Nat)(hb:i+1<Q.length)(hy:Q.getD (i+1) 0=y)(hu:y%(i+1+1)=a+1)(hx:y<256):
  vc Pg vE sp0 none 0 1000 (at' 31 [1,1,0,1,0,0]) [fn 9 (sl (List.replicate n 1)),yes 11,yes 18,pl 22,ld 23 (w8 (y:Nat)),nu 24 (y:Nat),nu 26 ((i+1+1:Nat):Int),va 27 (i6 ((a+1:Nat):Nat)),va 31 (.sl 1 0 (a+1) none),(32,.an (a+1) (it (l.take (a+1)))),(35,.ao (.row 3 (some 1) (it (l.take (a+1)))) 1 [i6 ((i+1:Nat):Int)]),va 39 (.sl 1 (a+1) (m+1) none),(40,.aop (.row 3 (some 1) (it (l.take (a+1))++[i6 ((i+1:Nat):Int)])) (m+1) (it (l.drop (a+1)))),nu 13 ((i+1+1:Nat):Int)] (mkSt g0 42 (pgS Q n (i+1,l))) (Qci 0 42 [0,5] (pgS Q n (i+1+1,l.take (a+1)++[i+1]++l.drop (a+1)))):=by
 have hQ:=Qau Q
 have hc:=Qdy Q n hn6
 have hl':(List.replicate n (1:Int)).length=n:=List.length_replicate ..
 have hz:HfL (rep n [w8 0]):=Qcf n _ ⟨trivial,trivial⟩
 generalize rep n [w8 0]=Z at*
 generalize List.replicate n (1:Int)=W at*
 have h1:=Qbu (l:=Q) (k:=i+1) hb
 rw[hy]at h1
 have h2:=Qcp (G:=Qac Pg) (t:=3) (a:=y) (b:=i+1+1) (by omega)
 rw[hu]at h2
 have s3:=@Qbd 1 (i+1) none (some ((a+1:Nat):Int)) 0 (a+1) rfl rfl (by omega) (by omega)
 have s4:=@Qbd 1 (i+1) (some ((a+1:Nat):Int)) none (a+1) (i+1) rfl rfl (by omega) (Nat.le_refl _)
 rw[show i+1-(a+1)=m+1 by omega]at s4
 exact m_ (p:=let z1:=List.take (a+1) l;let z3:=(↑(i+1):Int);let z4:=List.drop (a+1) l;let z5:=(↑(i+1+1):Int);let z6:=[i6 ↑(i+1)];let z7:=ofOs T.e 0 (dzO n Q::owL 3 1 (it l) (i+1));let z8:=Qac Tryz.prog;let z9:=V.sl 1 (a+1) (m+1) none;let y2:=some (↑(a+1):Int);let y4:=V.sl 1 0 (a+1) none;let z2:=O.row 3 (some 1) (it z1++z6);let y0:=O.row 3 (some 1) (it z1);let y3:=it (z1++[i+1]++z4);let y5:=wr .i64 (z3+(1:Int));let z0:=pt (pt z7 2 y0) 3 (O.row 3 none z6);let y1:=pt (pt z0 2 O.dead) 4 z2;An [An [TT 3,Tt],_,Tt,decide (z3<(↑W.length:Int))=true,decide (z3<(↑Q.length:Int))=true,An [(0:Int)≤z3,z3<(↑Q.length:Int)],_,wr .i64 (↑y:Int)=(↑y:Int),y5=z5,_,sliceV z8 47 (owV 1 (i+1)) none y2 none=some y4,An [srcV z7 1 y4=some (a+1,it z1),a+1≤9223372036854775807,(a+1)*8≤140737488355328],srcV z0 1 (V.sl 3 0 1 (some 0))=some (1,z6),gt z0 2=some y0,List.length (it z1)=(a+1)*1,a+1+1≤9223372036854775807,(a+1+1)*8≤140737488355328,sliceV z8 47 (owV 1 (i+1)) y2 none none=some z9,srcV y1 1 z9=some (m+1,it z4),An [gt y1 4=some z2,List.length (it z1++z6)=(a+1+1)*1,1≤m+1,a+1+1+(m+1)≤9223372036854775807,(a+1+1+(m+1))*8≤140737488355328,atoms (it z4)=true],y5=z5,An [Zz,An [Zz,Nat.succ i+1=a+1+1+(m+1),Tt],z5=z5,Tt],An [Sm (dzL n Q),TT 3],An [y3=it z1++z6++it z4,HfL y3],Tt]) ⟨a_,hc,aq,aq,aq,a_,h1,aq,aq,h2,s3,⟨Qdt (L:=l) (t:=3) (sp:=some 1) (by kernel_rfl) (by omega) (by rw[List.drop_zero]),a_⟩,(by rfl),(by rfl),(by (simp[it,hl];omega)),aq,aq,s4,(by exact Qdt (L:=l) (t:=3) (sp:=some 1) (by kernel_rfl) (by omega) (List.take_of_length_le (by simp;omega))),⟨(by rfl),(by (simp[it,hl];omega)),aq,aq,aq,Qby _⟩,aq,a_,a_,⟨(by (simp[it];done)),Qaq _⟩,aq⟩
theorem pg_C(Q:List Nat)(n:Nat)(i:Nat)(hn:i+1<n)(hn6:1≤n∧n≤4)(l:List Nat)(hl:l.length=i+1)(y:Nat)(hb:i+1<Q.length)(hy:Q.getD (i+1) 0=y)(hu:y%(i+1+1)=i+1)(hx:y<256):
  vc Pg vE sp0 none 0 1000 (at' 31 [1,1,0,1,0,0]) [fn 9 (sl (List.replicate n 1)),yes 11,yes 18,pl 22,ld 23 (w8 (y:Nat)),nu 24 (y:Nat),nu 26 ((i+1+1:Nat):Int),va 27 (i6 ((i+1:Nat):Nat)),va 31 (.sl 1 0 (i+1) none),(32,.an (i+1) (it l)),(35,.ao (.row 3 (some 1) (it l)) 1 [i6 ((i+1:Nat):Int)]),va 39 (.im 0 []),nu 13 ((i+1+1:Nat):Int)] (mkSt g0 42 (pgS Q n (i+1,l))) (Qci 0 42 [0,4] (pgS Q n (i+1+1,l++[i+1]))):=by
 have hQ:=Qau Q
 have hc:=Qdy Q n hn6
 have hl':(List.replicate n (1:Int)).length=n:=List.length_replicate ..
 have hz:HfL (rep n [w8 0]):=Qcf n _ ⟨trivial,trivial⟩
 generalize rep n [w8 0]=Z at*
 generalize List.replicate n (1:Int)=W at*
 have h1:=Qbu (l:=Q) (k:=i+1) hb
 rw[hy]at h1
 have h2:=Qcp (G:=Qac Pg) (t:=3) (a:=y) (b:=i+1+1) (by omega)
 rw[hu]at h2
 have s3:=@Qbd 1 (i+1) none (some ((i+1:Nat):Int)) 0 (i+1) rfl rfl (by omega) (Nat.le_refl _)
 have s4:=@Qcq 1 (i+1) (some ((i+1:Nat):Int)) none (i+1) rfl rfl (Nat.le_refl _)
 exact m_ (p:=let z1:=(↑(i+1):Int);let z2:=(↑(i+1+1):Int);let z3:=ofOs T.e 0 (dzO n Q::owL 3 1 (it l) (i+1));let z4:=i6 ↑(i+1);let z5:=Qac Tryz.prog;let z6:=O.row 3 (some 1) (it l);let z7:=V.sl 1 0 (i+1) none;let z0:=pt (pt z3 2 z6) 3 (O.row 3 none [z4]);let z8:=wr .i64 (z1+(1:Int));An [An [TT 3,Tt],_,Tt,decide (z1<(↑W.length:Int))=true,decide (z1<(↑Q.length:Int))=true,An [(0:Int)≤z1,z1<(↑Q.length:Int)],_,wr .i64 (↑y:Int)=(↑y:Int),z8=z2,_,sliceV z5 47 (owV 1 (i+1)) none (some z1) none=some z7,An [srcV z3 1 z7=some (i+1,it l),i+1≤9223372036854775807,(i+1)*8≤140737488355328],srcV z0 1 (V.sl 3 0 1 (some 0))=some (1,[z4]),gt z0 2=some z6,List.length (it l)=(i+1)*1,i+1+1≤9223372036854775807,(i+1+1)*8≤140737488355328,sliceV z5 47 (owV 1 (i+1)) (some z1) none none=some (V.im 0 []),z8=z2,An [Zz,An [Zz,Nat.succ i+1=i+1+1,Tt],z2=z2,Tt],An [Sm (dzL n Q),TT 3],An [it (l++[i+1])=it l++[z4],HfL (it (l++[i+1]))],Tt]) ⟨a_,hc,aq,aq,aq,a_,h1,aq,aq,h2,s3,⟨(by exact Qdt (L:=l) (t:=3) (sp:=some 1) (by kernel_rfl) (by omega) (List.take_of_length_le (by simp;omega))),a_⟩,(by rfl),(by rfl),(by (simp[it,hl];done)),aq,aq,s4,aq,a_,a_,⟨(by (simp[it,hl];done)),Qaq _⟩,aq⟩
theorem pg_round(Q:List Nat)(hQ: ∀x∈Q,x<256)(n i:Nat)(hn:i<n)(hn6:1≤n∧n≤4)(L:List Nat)(hL:L=orL Q i):
  ∃r hs,vc Pg vE sp0 none 0 1000 (at' 31 [1,1,0,1,0,0]) hs (mkSt g0 42 (pgS Q n (i,L))) (Qci 0 42 r (pgS Q n (i+1,orL Q (i+1)))):=by
 have hl:L.length=i:=by rw[hL];exact Qcz Q i
 have hnx:orL Q (i+1)=L.take (atF Q i)++[i]++L.drop (atF Q i):=by rw[hL];rfl
 have hlt:=atF_lt Q i
 have hy:=Qgi hQ i
 rw[hnx]
 clear hnx hL
 cases i with
 |zero=>
  obtain rfl:=List.eq_nil_of_length_eq_zero hl
  rw[List.take_nil,List.drop_nil]
  by_cases hb:0<Q.length
  ·exact⟨_,_,pg_0 Q n hn hn6 _ hb rfl (Nat.mod_one _) hy⟩
  ·exact⟨_,_,pg_0n Q n hn hn6 hb⟩
 | succ i =>
  by_cases hb:i+1<Q.length
  ·have e : atF Q (i + 1) = Q.getD (i + 1) 0 % (i + 1 + 1) := by unfold atF; rw [if_pos hb]
   generalize atF Q (i+1)=u at*
   rcases(show u=0∨u=i+1∨∃a m,u=a+1∧i+1=a+1+(m+1)by
    rcases Nat.eq_zero_or_pos u with h|h
    ·exact .inl h
    ·rcases Nat.lt_or_ge u (i + 1) with h' | h'
     ·exact .inr (.inr ⟨u-1,i-u,by omega,by omega⟩)
     omega)with rfl|rfl|⟨a,m,rfl,hi⟩
   ·exact⟨_,_,pg_B Q n i hn hn6 L hl _ (by simp[it]) _ hb rfl e.symm hy⟩
   ·rw [List.take_of_length_le (by omega), List.drop_eq_nil_of_le (by omega), List.append_nil]
    exact⟨_,_,pg_C Q n i hn hn6 L hl _ hb rfl e.symm hy⟩
   ·exact⟨_,_,pg_A Q n i a m hi hn hn6 L hl _ hb rfl e.symm hy⟩
  ·have e : atF Q (i + 1) = 0 := by unfold atF; rw [if_neg hb]
   rw[e]
   exact⟨_,_,pg_Bn Q n i hn hn6 L hl _ (by simp[it]) hb⟩
theorem pg_exit(Q:List Nat)(n m:Nat)(he:n=m+1)(hm:1≤n∧n≤4)(L:List Nat):
  vc Pg vE sp0 none 0 1000 (at' 31 [1,1,0,1,0,0]) [fn 9 (sl (List.replicate n 1)),no 11] (mkSt g0 42 (pgS Q n (m+1,L))) (kOut 0 42 (.exit 0) [1] {sl:=[(3,owV 0 (m+1))],os:=owL 3 1 (it L) (m+1)}):=by
 have hQ:=Qau Q
 have hL:=Qaq L
 have hc:=Qdy Q n hm
 have hl:(List.replicate n (1:Int)).length=n:=List.length_replicate ..
 have hz:HfL (rep n [w8 0]):=Qcf n _ ⟨trivial,trivial⟩
 generalize rep n [w8 0]=Z at*
 generalize List.replicate n (1:Int)=W at*
 exact m_ (p:=An [An [TT 3,Tt],_,Tt,decide ((↑(m+1):Int)<(↑W.length:Int))=false,An [An [Zz,Sm (m+1),Tt],Tt],An [Sm (it L),_],Tt]) ⟨a_,hc,aq,aq,a_,⟨aq,hL⟩,aq⟩
theorem perm_z(Q:List Nat)(hQ: ∀x∈Q,x<256)(n:Nat)(hn:1≤n∧n≤4):FnOk Pg g0 31 [.agg (dzL n Q)] (.im n (it (orL Q n))):=by
 obtain⟨m,he⟩: ∃m,n=m+1:=⟨n-1,by omega⟩
 have hloop:Sat Pg none 0 (at' 31 [1,1,0,1,0]) (mkSt g0 42 (pgS Q n (0,[]))) (Qae g0 42 [(True,.exit 0,{sl:=[(3,owV 0 (m+1))],os:=owL 3 1 (it (orL Q n)) (m+1)})]):=by
  refine Qaw vE_ok Qaf Qab (b:=at' 31 [1,1,0,1,0,0]) (by kernel_rfl) (fun q=>q.1≤n∧q.2=orL Q q.1) (pgS Q n) (fun q=>n-q.1) (fun q hq=>?_) (0,[]) ⟨Nat.zero_le _,rfl⟩
  obtain⟨i,L⟩:=q
  obtain⟨hi,hL⟩:=hq
  dsimp only at hi hL
  by_cases hlt:i<n
  ·obtain ⟨r, hs, h⟩ := pg_round Q hQ n i hlt hn L hL
   exact .inl ⟨(i+1,orL Q (i+1)),r,hs,1000,⟨hlt,rfl⟩,by omega,h⟩
  ·obtain rfl : i = m + 1 := by omega
   rw[show orL Q n=L by rw[hL,he]]
   exact .inr ⟨.exit 0,[1],_,_,1000,.inl ⟨trivial,rfl,rfl⟩,pg_exit Q n m he hn _⟩
 have hQ':=Qau Q
 have hL:=Qaq (orL Q n)
 have hz:HfL (rep n [w8 0]):=Qcf n _ ⟨trivial,trivial⟩
 have hl:(it (orL Q n)).length=m+1:=by rw[Qqt,Qcz,he]
 generalize it (orL Q n)=L at*
 generalize hZ:rep n [w8 0]=Z at*
 rw[show V.im n L=V.im (m+1) L by rw[he]]
 have hloop:Sat Pg none 0 (at' 31 [1,1,0,1,0]) (mkSt g0 42 {sl:=[(1,.ptr 0 0),(3,.nils),(4,i6 0)],os:=[.row 81 none [.im n Z,.int .u16 0,bl Q]]}) (Qae g0 42 [(True,.exit 0,{sl:=[(3,owV 0 (m+1))],os:=owL 3 1 L (m+1)})]):=by rw[←hZ];exact hloop
 refine FnOk.of_vc vE_ok Qaf Qab (n:=1000) (r:=[]) (S:={sl:=[(2,.im (m+1) L)]}) (hs:=[(0,.loop [0] {sl:=[(1,.ptr 0 0),(3,.nils),(4,i6 0)],os:=[.row 81 none [.im n Z,.int .u16 0,bl Q]]} [(True,.exit 0,{sl:=[(3,owV 0 (m+1))],os:=owL 3 1 L (m+1)})])]) ?_
 exact m_ (p:=An [Sm (V.im (m+1) L),An [An [Zz,Tt,Sm (0:Int),Tt],An [[V.im n Z,v16 0,bl Q]=[z8 n,v16 0,bl Q],TT 3],Tt],_,(True->An [An [An [Sm (m+1),L=L,_],Tt],Tt]),Tt]) ⟨aq,a_,hloop,(fun _=>⟨⟨⟨aq,aq,hL⟩,aq⟩,aq⟩),aq⟩
theorem orL_nd{Q:List Nat}: ∀i,(orL Q i).Nodup
 |0=>List.nodup_nil
 |i+1=>by
  have h1:=orL_nd (Q:=Q) i
  have h2:=Qc9 (Q:=Q) i
  grind[orL,List.take_append_drop]
theorem orL_all{Q:List Nat}{n v:Nat}(h:v<n):v∈orL Q n:=by
 induction n with
 |zero=>omega
 |succ i ih=>
  grind[orL,List.take_append_drop]
end Go.Proofs.YtifdkhfldbkkpaaGreat.Am
