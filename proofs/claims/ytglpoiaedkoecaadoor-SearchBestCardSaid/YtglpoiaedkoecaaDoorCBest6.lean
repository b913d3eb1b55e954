/- Texts behind the claim, part 6: the abstract machine, and what the functions answer. No condition. -/
import Derived.Test.YtglpoiaedkoecaaDoorCBest5
set_option linter.unusedVariables false
set_option linter.unusedSimpArgs false
set_option linter.unusedSectionVars false
namespace Go.Proofs.YtglpoiaedkoecaaDoor.Am
open Go.RowKit
set_option maxHeartbeats 1000000
set_option maxRecDepth 100000
def Qt2(p w:Nat)(md:Bool)(ws:List Nat):Nat×Bool×List Nat:=if 144115188075855872<w then(p,md||decide ((mulS w ws ws.length).2≠0),mulW w ws)else(w*p,md,ws)
def itQ(p:Nat):Nat→Nat×Bool×List Nat→Nat×Bool×List Nat
 |0,s=>s
 |t+1,s=>Qt2 p (itQ p t s).1 (itQ p t s).2.1 (itQ p t s).2.2
def outQ(e:Nat→Nat):Nat→Nat×Bool×List Nat
 |0=>(1,false,[1])
 |i+1=>itQ (primeN i) (e i) (outQ e i)
structure QOk(e:Nat→Nat)(i t:Nat)(s:Nat×Bool×List Nat):Prop where
 norm:Norm s.2.2
 val:valW s.2.2*s.1=Qaw e i*primeN i^t
 w1:1≤s.1
 wb:s.1≤8791026472627208192
 len:s.2.2.length≤1+4000*i+t
 one:s.2.1=false→s.2.2.length=1
theorem Qs4{w:Nat}{l:List Nat}(h:(mulS w l l.length).2=0):(mulW w l).length=l.length:=by
 unfold mulW;rw[if_pos h,Qbq]
theorem QOk.step{e:Nat→Nat}{i t:Nat}{s:Nat×Bool×List Nat}(h:QOk e i t s):QOk e i (t+1) (Qt2 (primeN i) s.1 s.2.1 s.2.2):=by
 obtain⟨w,md,ws⟩:=s
 have hp:=Qeh i
 have hv:=h.val
 have hw:=h.w1
 have hb:=h.wb
 have hl:=h.len
 dsimp only at hv hw hb hl
 unfold Qt2
 dsimp only
 by_cases hc:144115188075855872<w
 ·rw [if_pos hc]
  obtain⟨m1,m2,m3⟩:=Qs5 h.norm (w:=w) (by omega) hw
  dsimp only at m1 m2 m3
  refine⟨m1,?_,by dsimp only;omega,by dsimp only;omega,by dsimp only;omega,fun ho=>?_⟩
  ·dsimp only
   rw[m2,Nat.mul_comm w,hv,Nat.pow_succ,Nat.mul_assoc]
  ·dsimp only at ho ⊢
   rw[Bool.or_eq_false_iff]at ho
   have h0:(mulS w ws ws.length).2=0:=by
    have:=of_decide_eq_false ho.2
    omega
   rw[Qs4 h0]
   exact h.one ho.1
 ·rw [if_neg hc]
  have hle:w*primeN i≤144115188075855872*61:=Nat.mul_le_mul (by omega) hp.2
  refine⟨h.norm,?_,Nat.mul_pos (by omega) (by omega),by dsimp only;omega,by dsimp only;omega,h.one⟩
  dsimp only
  rw[←Nat.mul_assoc,hv,Nat.pow_succ,Nat.mul_assoc]
theorem QOk.it{e:Nat→Nat}{i:Nat}{s:Nat×Bool×List Nat}(h:QOk e i 0 s): ∀t,QOk e i t (itQ (primeN i) t s)
 |0=>h
 |t+1=>(QOk.it h t).step
theorem QOk.next{e:Nat→Nat}{i:Nat}{s:Nat×Bool×List Nat}(he:e i≤4000)(h:QOk e i (e i) s):QOk e (i+1) 0 s:=by
 refine⟨h.norm,?_,h.w1,h.wb,?_,h.one⟩
 ·rw[h.val,Qaw,Nat.pow_zero,Nat.mul_one]
 ·have:=h.len;omega
theorem Qmt{e:Nat→Nat}(he: ∀i,i<18→e i≤4000): ∀i,i≤18→QOk e i 0 (outQ e i)
 |0,_=>⟨norm_one,by simp[outQ,valW,Qaw],by simp[outQ],by simp[outQ],by simp[outQ],fun _=>rfl⟩
 |i+1,h=>((Qmt he i (by omega)).it (e i)).next (he i (by omega))
def bxV:Bool→Nat→V
 |false,_=>.sl 2 0 1 (some 0)
 |true,n=>.sl 2 0 n none
def bxO:Bool→List Nat→O
 |false,l=>.row 170 none (wt l)
 |true,l=>.row 170 (some 1) (wt l)
theorem Qi2(w x:Nat):mulS w [x] 1=([x*w%18446744073709551616],x*w/18446744073709551616):=by simp[mulS]
theorem Qla{w x:Nat}(h:x*w/18446744073709551616=0):mulW w [x]=[x*w%18446744073709551616]:=by
 unfold mulW
 simp only[List.length_singleton,Qi2]
 rw[if_pos h]
theorem Qlb{w x:Nat}(h:x*w/18446744073709551616≠0):mulW w [x]=[x*w%18446744073709551616,x*w/18446744073709551616]:=by
 unfold mulW
 simp only[List.length_singleton,Qi2]
 rw[if_neg h];rfl
abbrev aoL(f:Nat→Int)(md:Bool)(ws:List Nat):List O:=[.row 41 none (arF f),.row 162 none [bxV md ws.length],bxO md ws]
abbrev aiS(f:Nat→Int)(s:Int)(i e p:Nat)(q:Nat×Nat×Bool×List Nat):SL:={sl:=[(1,i6 s),(2,.ptr 0 0),(5,.ptr 1 0),(6,.fn 112 [.ptr 1 0]),(7,u6 q.2.1),(12,prV),(13,i6 i),(9,i6 p),(22,i6 e),(23,i6 q.1)],os:=aoL f q.2.2.1 q.2.2.2,md:=[0,1,0]}
abbrev aoS(f:Nat→Int)(s:Int)(i:Nat)(w:Nat)(md:Bool)(ws:List Nat):SL:={sl:=[(1,i6 s),(2,.ptr 0 0),(5,.ptr 1 0),(6,.fn 112 [.ptr 1 0]),(7,u6 w),(12,prV),(13,i6 i)],os:=aoL f md ws,md:=[0,1,0]}
theorem wtw{x p:Nat}(h:x*p<18446744073709551616):wr .u64 ((x:Int)*(p:Int))=((x*p:Nat):Int):=wru' (by rw[Int.natCast_mul]) h
theorem av_in(f:Nat→Int)(s:Int)(E:Nat→Nat)(i e:Nat)(hi:i<18)(he:e=E i)(he4:e≤4000)(s0:Nat×Bool×List Nat)(h0:QOk E i 0 s0)(w':Nat)(md':Bool)(ws':List Nat)(hx:itQ (primeN i) e s0=(w',md',ws'))(w0:Nat)(md0:Bool)(ws0:List Nat)(hs0:s0=(w0,md0,ws0)):
  Sat Pg none 0 (at' 93 [1,1,1,1,0,1,0,0,1,1,0,0,1,1,0]) (mkSt g0 40 (aiS f s i e (primeN i) (0,w0,md0,ws0))) (Qaf g0 40 [(True,.exit 2,aoS f s i w' md' ws')]):=by
 refine Qaz Qg2 mixed Qab (b:=at' 93 [1,1,1,1,0,1,0,0,1,1,0,0,1,1,0,0]) (by kernel_rfl) (fun q=>q.1≤e∧q.2=itQ (primeN i) q.1 s0) (aiS f s i e (primeN i)) (fun q=>e-q.1) (fun q hq=>?_) (0,w0,md0,ws0) ⟨Nat.zero_le _,hs0.symm⟩
 obtain⟨t,w,md,ws⟩:=q
 obtain⟨ht,hq⟩:=hq
 dsimp only at ht hq
 have hok:=h0.it t
 rw[←hq]at hok
 have hw1:=hok.w1
 have hwb:=hok.wb
 have hlen:=hok.len
 have hone:=hok.one
 have hnorm:=hok.norm
 dsimp only at hw1 hwb hlen hone hnorm
 have hp:=Qeh i
 by_cases hlt:t<e
 ·have hnx : itQ (primeN i) (t + 1) s0 = Qt2 (primeN i) w md ws := by rw [itQ, ← hq]
  unfold Qt2 at hnx
  generalize primeN i=p at*
  by_cases hc:144115188075855872<w
  ·rw [if_pos hc] at hnx
   have h1p:=wtw (x:=1) (p:=p) (by omega)
   cases md with
   | false =>
    obtain⟨x,rfl⟩: ∃x,ws=[x]:=List.length_eq_one_iff.1 (hone rfl)
    have hxb:x<18446744073709551616:=by simpa using hnorm.ok 0
    simp only[List.length_singleton,Qi2,Bool.false_or]at hnx
    by_cases hc0:x*w/18446744073709551616=0
    ·rw [Qla hc0, decide_eq_false (by omega)] at hnx
     have hcs:=Qov f x w hxb (by omega) _ rfl hc0
     generalize x*w%18446744073709551616=y at*
     refine .inl ⟨(t+1,p,false,[y]),[0,1,2],[yes 24,yes 26,(29,.call ⟨.tup [],ofOs .e 0 (n1 f y),3,[2]⟩),nu 32 (p:Nat),nu 33 ((1*p:Nat):Int),nu 34 (t+1:Nat)],1000,⟨hlt,hnx.symm⟩,by dsimp only;omega,?_⟩
     clear hq hnx hok
     refine Eq.mp (by kernel_rfl:(let z0:=(↑p:Int);let z1:=(↑(t+1):Int);let z2:=(↑e:Int);An [decide ((↑t:Int)<z2)=true,decide ((↑w:Int)>(144115188075855872:Int))=true,CallSpec Pg g0 (V.fn 112 [V.ptr 1 0]) [u6 ↑w] (ofOs T.e 0 (aoL f false [x])) 3 (CR.mk (V.tup []) (ofOs T.e 0 (n1 f y)) 3 [2]),Tt,wr .u64 z0=z0,wr .u64 ((1:Int)*z0)=(↑(1*p):Int),wr .i64 ((↑t:Int)+(1:Int))=z1,An [s=s,Zz,Zz,An [Zz,Tt],z0=(↑(1*p):Int),An [Sm (2:Int),Sm (3:Int),Sm (5:Int),Sm (7:Int),Sm (11:Int),Sm (13:Int),Sm (17:Int),Sm (19:Int),Sm (23:Int),Sm (29:Int),Sm (31:Int),Sm (37:Int),Sm (41:Int),Sm (43:Int),Sm (47:Int),Sm (53:Int),Sm (59:Int),Sm (61:Int),Tt],Sm (↑i:Int),z0=z0,z2=z2,z1=z1,Tt],An [Sm (arF f),TT 18],An [An [Zz,1=1,Zz],Tt],An [wt [y]=[u6 ↑y],Tt,Tt],Tt])=_) ?_
     (repeat'(first|(with_reducible apply And.intro)|(refine fun(_:True)=>?_)))<;>first|exact aq|skip
     all_goals first|exact hcs|exact rfl|exact wru (by omega)|exact h1p|skip
    ·rw [Qlb hc0, decide_eq_true hc0] at hnx
     have hcs:=Qow f x w hxb (by omega) _ _ rfl rfl hc0
     generalize x*w%18446744073709551616=y at*
     generalize x*w/18446744073709551616=c at*
     refine .inl ⟨(t+1,p,true,[y,c]),[0,1,3],[yes 24,yes 26,(29,.call ⟨.tup [],ofOs .e 0 [.row 41 none (arF f),.row 162 none [.sl 3 0 2 none],.dead,.row 170 (some 1) [u6 (y:Int),u6 (c:Int)]],4,[2,1]⟩),nu 32 (p:Nat),nu 33 ((1*p:Nat):Int),nu 34 (t+1:Nat)],1000,⟨hlt,hnx.symm⟩,by dsimp only;omega,?_⟩
     clear hq hnx hok
     refine Eq.mp (by kernel_rfl:(let z0:=(↑p:Int);let z1:=(↑(t+1):Int);let z2:=(↑e:Int);An [decide ((↑t:Int)<z2)=true,decide ((↑w:Int)>(144115188075855872:Int))=true,CallSpec Pg g0 (V.fn 112 [V.ptr 1 0]) [u6 ↑w] (ofOs T.e 0 (aoL f false [x])) 3 (CR.mk (V.tup []) (ofOs T.e 0 [O.row 41 none (arF f),O.row 162 none [V.sl 3 0 2 none],O.dead,O.row 170 (some 1) [u6 ↑y,u6 ↑c]]) 4 [2,1]),Tt,wr .u64 z0=z0,wr .u64 ((1:Int)*z0)=(↑(1*p):Int),wr .i64 ((↑t:Int)+(1:Int))=z1,An [s=s,Zz,Zz,An [Zz,Tt],z0=(↑(1*p):Int),An [Sm (2:Int),Sm (3:Int),Sm (5:Int),Sm (7:Int),Sm (11:Int),Sm (13:Int),Sm (17:Int),Sm (19:Int),Sm (23:Int),Sm (29:Int),Sm (31:Int),Sm (37:Int),Sm (41:Int),Sm (43:Int),Sm (47:Int),Sm (53:Int),Sm (59:Int),Sm (61:Int),Tt],Sm (↑i:Int),z0=z0,z2=z2,z1=z1,Tt],An [Sm (arF f),TT 18],An [An [Zz,2=2,Tt],Tt],An [wt [y,c]=[u6 ↑y,u6 ↑c],TT 2],Tt])=_) ?_
     (repeat'(first|(with_reducible apply And.intro)|(refine fun(_:True)=>?_)))<;>first|exact aq|skip
     all_goals first|exact hcs|exact rfl|exact wru (by omega)|exact h1p|skip
   | true =>
    simp only[Bool.true_or]at hnx
    obtain⟨n,hn⟩: ∃n,n=ws.length:=⟨_,rfl⟩
    have hwl:=Qus
    by_cases hc0:(mulS w ws n).2=0
    ·have hcs := mul_M0 f ws w n hn (by omega) hnorm.ok (by omega) _ rfl hc0
     have hml:=Qbq w ws n
     rw[show mulW w ws=(mulS w ws n).1 by unfold mulW;rw[←hn,if_pos hc0]]at hnx
     generalize (mulS w ws n).1=m at*
     refine .inl ⟨(t+1,p,true,m),[0,1,2],[yes 24,yes 26,(29,.call ⟨.tup [],ofOs .e 0 [.row 41 none (arF f),.row 162 none [.sl 2 0 n none],.row 170 (some 1) (wt m)],3,[2]⟩),nu 32 (p:Nat),nu 33 ((1*p:Nat):Int),nu 34 (t+1:Nat)],1000,⟨hlt,hnx.symm⟩,by dsimp only;omega,?_⟩
     clear hq hnx hok
     subst hn
     refine Eq.mp (by kernel_rfl:(let z0:=(↑p:Int);let z1:=(↑(t+1):Int);let z2:=(↑e:Int);An [decide ((↑t:Int)<z2)=true,decide ((↑w:Int)>(144115188075855872:Int))=true,CallSpec Pg g0 (V.fn 112 [V.ptr 1 0]) [u6 ↑w] (ofOs T.e 0 (aoL f true ws)) 3 (CR.mk (V.tup []) (ofOs T.e 0 [O.row 41 none (arF f),O.row 162 none [V.sl 2 0 ws.length none],O.row 170 (some 1) (wt m)]) 3 [2]),Tt,wr .u64 z0=z0,wr .u64 ((1:Int)*z0)=(↑(1*p):Int),wr .i64 ((↑t:Int)+(1:Int))=z1,An [s=s,Zz,Zz,An [Zz,Tt],z0=(↑(1*p):Int),An [Sm (2:Int),Sm (3:Int),Sm (5:Int),Sm (7:Int),Sm (11:Int),Sm (13:Int),Sm (17:Int),Sm (19:Int),Sm (23:Int),Sm (29:Int),Sm (31:Int),Sm (37:Int),Sm (41:Int),Sm (43:Int),Sm (47:Int),Sm (53:Int),Sm (59:Int),Sm (61:Int),Tt],Sm (↑i:Int),z0=z0,z2=z2,z1=z1,Tt],An [Sm (arF f),TT 18],An [An [Zz,m.length=ws.length,Tt],Tt],An [Sm (wt m),HfL (wt m)],Tt])=_) ?_
     (repeat'(first|(with_reducible apply And.intro)|(refine fun(_:True)=>?_)))<;>first|exact aq|skip
     all_goals first|exact hcs|exact Qbb _|exact wru (by omega)|exact h1p|skip
    ·have hcs := mul_M1 f ws w n hn (by omega) hnorm.ok (by omega) _ _ rfl rfl hc0
     have hml:=Qbq w ws n
     rw[show mulW w ws=(mulS w ws n).1++[(mulS w ws n).2]by unfold mulW;rw[←hn,if_neg hc0]]at hnx
     generalize (mulS w ws n).1=m at*
     generalize (mulS w ws n).2=c at*
     rw[←Qur]at hcs
     have hl2:(m++[c]).length=n+1:=by simp;omega
     generalize m++[c]=m' at*
     refine .inl ⟨(t+1,p,true,m'),[0,1,3],[yes 24,yes 26,(29,.call ⟨.tup [],ofOs .e 0 [.row 41 none (arF f),.row 162 none [.sl 3 0 (n+1) none],.dead,.row 170 (some 1) (wt m')],4,[2,1]⟩),nu 32 (p:Nat),nu 33 ((1*p:Nat):Int),nu 34 (t+1:Nat)],1000,⟨hlt,hnx.symm⟩,by dsimp only;omega,?_⟩
     clear hq hnx hok
     subst hn
     refine Eq.mp (by kernel_rfl:(let z0:=(↑p:Int);let z1:=(↑(t+1):Int);let z2:=(↑e:Int);An [decide ((↑t:Int)<z2)=true,decide ((↑w:Int)>(144115188075855872:Int))=true,CallSpec Pg g0 (V.fn 112 [V.ptr 1 0]) [u6 ↑w] (ofOs T.e 0 (aoL f true ws)) 3 (CR.mk (V.tup []) (ofOs T.e 0 [O.row 41 none (arF f),O.row 162 none [V.sl 3 0 (ws.length+1) none],O.dead,O.row 170 (some 1) (wt m')]) 4 [2,1]),Tt,wr .u64 z0=z0,wr .u64 ((1:Int)*z0)=(↑(1*p):Int),wr .i64 ((↑t:Int)+(1:Int))=z1,An [s=s,Zz,Zz,An [Zz,Tt],z0=(↑(1*p):Int),An [Sm (2:Int),Sm (3:Int),Sm (5:Int),Sm (7:Int),Sm (11:Int),Sm (13:Int),Sm (17:Int),Sm (19:Int),Sm (23:Int),Sm (29:Int),Sm (31:Int),Sm (37:Int),Sm (41:Int),Sm (43:Int),Sm (47:Int),Sm (53:Int),Sm (59:Int),Sm (61:Int),Tt],Sm (↑i:Int),z0=z0,z2=z2,z1=z1,Tt],An [Sm (arF f),TT 18],An [An [Zz,m'.length=ws.length+1,Tt],Tt],An [Sm (wt m'),HfL (wt m')],Tt])=_) ?_
     (repeat'(first|(with_reducible apply And.intro)|(refine fun(_:True)=>?_)))<;>first|exact aq|skip
     all_goals first|exact hcs|exact Qbb _|exact wru (by omega)|exact h1p|skip
  ·rw [if_neg hc] at hnx
   have hle:w*p≤144115188075855872*61:=Nat.mul_le_mul (by omega) hp.2
   have h1p:=wtw (x:=w) (p:=p) (by omega)
   generalize w*p=wp at*
   cases md with
   |false=>
    obtain⟨x,rfl⟩: ∃x,ws=[x]:=List.length_eq_one_iff.1 (hone rfl)
    refine .inl ⟨(t+1,wp,false,[x]),[0,1,2],[yes 24,no 26,nu 32 (p:Nat),nu 33 (wp:Nat),nu 34 (t+1:Nat)],1000,⟨hlt,hnx.symm⟩,by dsimp only;omega,?_⟩
    clear hq hnx hok
    refine Eq.mp (by kernel_rfl:(let z0:=(↑p:Int);let z1:=(↑(t+1):Int);let z2:=(↑wp:Int);let z3:=(↑e:Int);An [decide ((↑t:Int)<z3)=true,decide ((↑w:Int)>(144115188075855872:Int))=false,wr .u64 z0=z0,wr .u64 ((↑w:Int)*z0)=z2,wr .i64 ((↑t:Int)+(1:Int))=z1,An [s=s,Zz,Zz,An [Zz,Tt],z2=z2,An [Sm (2:Int),Sm (3:Int),Sm (5:Int),Sm (7:Int),Sm (11:Int),Sm (13:Int),Sm (17:Int),Sm (19:Int),Sm (23:Int),Sm (29:Int),Sm (31:Int),Sm (37:Int),Sm (41:Int),Sm (43:Int),Sm (47:Int),Sm (53:Int),Sm (59:Int),Sm (61:Int),Tt],Sm (↑i:Int),z0=z0,z3=z3,z1=z1,Tt],An [Sm (arF f),TT 18],An [An [Zz,1=1,Zz],Tt],An [Sm (wt [x]),Tt,Tt],Tt])=_) ?_
    (repeat'(first|(with_reducible apply And.intro)|(refine fun(_:True)=>?_)))<;>first|exact aq|skip
    all_goals first|exact rfl|exact wru (by omega)|skip
   |true=>
    refine .inl ⟨(t+1,wp,true,ws),[0,1,2],[yes 24,no 26,nu 32 (p:Nat),nu 33 (wp:Nat),nu 34 (t+1:Nat)],1000,⟨hlt,hnx.symm⟩,by dsimp only;omega,?_⟩
    clear hq hnx hok
    refine Eq.mp (by kernel_rfl:(let z0:=(↑p:Int);let z1:=(↑(t+1):Int);let z2:=(↑wp:Int);let z3:=(↑e:Int);An [decide ((↑t:Int)<z3)=true,decide ((↑w:Int)>(144115188075855872:Int))=false,wr .u64 z0=z0,wr .u64 ((↑w:Int)*z0)=z2,wr .i64 ((↑t:Int)+(1:Int))=z1,An [s=s,Zz,Zz,An [Zz,Tt],z2=z2,An [Sm (2:Int),Sm (3:Int),Sm (5:Int),Sm (7:Int),Sm (11:Int),Sm (13:Int),Sm (17:Int),Sm (19:Int),Sm (23:Int),Sm (29:Int),Sm (31:Int),Sm (37:Int),Sm (41:Int),Sm (43:Int),Sm (47:Int),Sm (53:Int),Sm (59:Int),Sm (61:Int),Tt],Sm (↑i:Int),z0=z0,z3=z3,z1=z1,Tt],An [Sm (arF f),TT 18],An [An [Zz,Sm ws.length,Tt],Tt],An [Sm (wt ws),HfL (wt ws)],Tt])=_) ?_
    (repeat'(first|(with_reducible apply And.intro)|(refine fun(_:True)=>?_)))<;>first|exact aq|skip
    all_goals first|exact Qbb _|exact wru (by omega)|skip
 ·have : t = e := by omega
  subst this
  rw[hx]at hq
  obtain⟨x1,x2,x3⟩:w'=w∧md'=md∧ws'=ws:=by
   simp only[Prod.mk.injEq]at hq
   exact⟨hq.1.symm,hq.2.1.symm,hq.2.2.symm⟩
  rw[x1,x2,x3]
  clear hx hq
  cases md with
  |false=>
   refine .inr ⟨.exit 2,[0,1,2],aoS f s i w false ws,[no 24],1000,.inl ⟨trivial,rfl,rfl⟩,?_⟩
   refine Eq.mp (by kernel_rfl:(An [decide ((↑t:Int)<(↑t:Int))=false,An [s=s,Zz,Zz,An [Zz,Tt],Sm (↑w:Int),An [Sm (2:Int),Sm (3:Int),Sm (5:Int),Sm (7:Int),Sm (11:Int),Sm (13:Int),Sm (17:Int),Sm (19:Int),Sm (23:Int),Sm (29:Int),Sm (31:Int),Sm (37:Int),Sm (41:Int),Sm (43:Int),Sm (47:Int),Sm (53:Int),Sm (59:Int),Sm (61:Int),Tt],Sm (↑i:Int),Tt],An [Sm (arF f),TT 18],An [An [Zz,1=1,Zz],Tt],An [Sm (wt ws),HfL (wt ws)],Tt])=_) ?_
   (repeat'(first|(with_reducible apply And.intro)|(refine fun(_:True)=>?_)))<;>first|exact aq|skip
   all_goals first|exact Qbb _|skip
  |true=>
   refine .inr ⟨.exit 2,[0,1,2],aoS f s i w true ws,[no 24],1000,.inl ⟨trivial,rfl,rfl⟩,?_⟩
   refine Eq.mp (by kernel_rfl:(An [decide ((↑t:Int)<(↑t:Int))=false,An [s=s,Zz,Zz,An [Zz,Tt],Sm (↑w:Int),An [Sm (2:Int),Sm (3:Int),Sm (5:Int),Sm (7:Int),Sm (11:Int),Sm (13:Int),Sm (17:Int),Sm (19:Int),Sm (23:Int),Sm (29:Int),Sm (31:Int),Sm (37:Int),Sm (41:Int),Sm (43:Int),Sm (47:Int),Sm (53:Int),Sm (59:Int),Sm (61:Int),Tt],Sm (↑i:Int),Tt],An [Sm (arF f),TT 18],An [An [Zz,Sm ws.length,Tt],Tt],An [Sm (wt ws),HfL (wt ws)],Tt])=_) ?_
   (repeat'(first|(with_reducible apply And.intro)|(refine fun(_:True)=>?_)))<;>first|exact aq|skip
   all_goals first|exact Qbb _|skip
def okA(f:Nat→Int)(l:List Nat):Bool:=l.all fun i=>decide (-2000≤f i)&&decide (f i≤2000)
def inA(f:Nat→Int):Bool:=okA f (List.range 18)
theorem okA_drop(f:Nat→Int){k:Nat}(h:k<18):okA f ((List.range 18).drop k)=((decide (-2000≤f k)&&decide (f k≤2000))&&okA f ((List.range 18).drop (k+1))):=by
 rw[List.drop_eq_getElem_cons (by simpa using h)];simp[okA]
theorem Qe0{f:Nat→Int}(h:inA f=true){k:Nat}(hk:k<18): -2000≤f k∧f k≤2000:=by
 unfold inA okA at h
 have:=List.all_eq_true.1 h k (List.mem_range.2 hk)
 simpa using this
abbrev irS(f:Nat→Int)(k:Nat):SL:={sl:=[(5,ar f),(6,i6 k)]}
theorem Qk1(f:Nat→Int)(b:Bool)(k:Nat)(hk:k≤18∧okA f ((List.range 18).drop k)=b):
  Sat Pg none 0 (at' 82 [1,0,1,0]) (mkSt g0 16 (irS f k)) (Qaf g0 16 [(b=true,.exit 0,arE),(b=false,.ret,bE 2 false)]):=by
 refine Qaz vE_ok mixed Qab (b:=at' 82 [1,0,1,0,0]) (by kernel_rfl) (fun k=>k≤18∧okA f ((List.range 18).drop k)=b) (irS f) (fun k=>18-k) (fun k hk=>?_) k hk
 obtain⟨hk,hb⟩:=hk
 by_cases hlt:k<18
 ·rw [okA_drop f hlt] at hb
  have hx:=@idx41 f k hlt
  by_cases h1:f k< -2000
  ·rw [decide_eq_false (show ¬ -2000 ≤ f k by omega)] at hb
   refine .inr ⟨.ret,[],bE 2 false,[yes 7,va 8 (i6 (f k)),yes 10],1000,.inr (.inl ⟨hb.symm,rfl,rfl⟩),?_⟩
   refine Eq.mp (by kernel_rfl:(An [decide ((↑k:Int)<(18:Int))=true,idxV (Qad Pg) 41 (ar f) (↑k:Int)=some (i6 (f k)),decide (f k<(-2000:Int))=true,An [Sm false,Tt],Tt])=_) ?_
   exact au
  ·by_cases h2 : 2000 < f k
   ·rw [decide_eq_false (show ¬ f k ≤ 2000 by omega), Bool.and_false] at hb
    refine .inr ⟨.ret,[],bE 2 false,[yes 7,va 8 (i6 (f k)),no 10,yes 13],1000,.inr (.inl ⟨hb.symm,rfl,rfl⟩),?_⟩
    refine Eq.mp (by kernel_rfl:(An [decide ((↑k:Int)<(18:Int))=true,idxV (Qad Pg) 41 (ar f) (↑k:Int)=some (i6 (f k)),decide (f k<(-2000:Int))=false,decide (f k>(2000:Int))=true,An [Sm false,Tt],Tt])=_) ?_
    exact au
   ·rw [decide_eq_true (show -2000 ≤ f k by omega), decide_eq_true (show f k ≤ 2000 by omega)] at hb
    refine .inl ⟨k+1,[],[yes 7,va 8 (i6 (f k)),no 10,no 13,nu 15 (k+1:Nat)],1000,⟨hlt,hb⟩,by omega,?_⟩
    refine Eq.mp (by kernel_rfl:(let z0:=(↑(k+1):Int);let z1:=(↑k:Int);An [decide (z1<(18:Int))=true,idxV (Qad Pg) 41 (ar f) z1=some (i6 (f k)),decide (f k<(-2000:Int))=false,decide (f k>(2000:Int))=false,wr .i64 (z1+(1:Int))=z0,An [An [f 0=f 0,f 1=f 1,f 2=f 2,f 3=f 3,f 4=f 4,f 5=f 5,f 6=f 6,f 7=f 7,f 8=f 8,f 9=f 9,Sm (f 10),Sm (f 11),Sm (f 12),Sm (f 13),Sm (f 14),Sm (f 15),Sm (f 16),Sm (f 17),Tt],z0=z0,Tt],Tt])=_) ?_
    exact au
 ·have : k = 18 := by omega
  subst this
  refine .inr ⟨.exit 0,[],arE,[],1000,.inl ⟨hb.symm,rfl,rfl⟩,?_⟩
  refine Eq.mp (by kernel_rfl:(An [Tt,Tt])=_) ?_
  exact au
theorem Qa5(f:Nat→Int):FnOk Pg g0 82 [ar f] (.bool (inA f)):=by
 have l:=Qk1 f (inA f) 0 ⟨Nat.zero_le _,rfl⟩
 refine FnOk.of_vc vE_ok mixed Qab (n:=1000) (r:=[]) (S:=bE 2 (inA f)) (hs:=[(0,.loop [] (irS f 0) [(inA f=true,.exit 0,arE),(inA f=false,.ret,bE 2 false)])]) ?_
 refine Eq.mp (by kernel_rfl:(An [Sm (V.bool (inA f)),An [An [An [f 0=f 0,f 1=f 1,f 2=f 2,f 3=f 3,f 4=f 4,f 5=f 5,f 6=f 6,f 7=f 7,f 8=f 8,f 9=f 9,Sm (f 10),Sm (f 11),Sm (f 12),Sm (f 13),Sm (f 14),Sm (f 15),Sm (f 16),Sm (f 17),Tt],(↑(0:Nat):Int)=(0:Int),Tt],Tt],Sat Pg none 0 (at' 82 [1,0,1,0]) (mkSt g0 16 (irS f 0)) (Qaf g0 16 [(inA f=true,Ex.exit 0,arE),(inA f=false,Ex.ret,bE 2 false)]),(inA f=true→An [An [inA f=true,Tt],Tt]),(inA f=false→An [An [inA f=false,Tt],Tt]),Tt])=_) ?_
 exact au
abbrev azX(f:Nat→Int)(w:Nat)(md:Bool)(ws:List Nat):SL:={sl:=[(5,.ptr 1 0),(6,.fn 112 [.ptr 1 0]),(7,u6 w)],os:=aoL f md ws,md:=[0,1,0]}
theorem av_out(f:Nat→Int)(s:Int)(hs:s=1∨s= -1)(hf: ∀i,i<18→ -4000≤f i∧f i≤4000)(w':Nat)(md':Bool)(ws':List Nat)(hx:outQ (posF f s) 18=(w',md',ws')):
  Sat Pg none 0 (at' 93 [1,1,1,1,0,1,0]) (mkSt g0 40 (aoS f s 0 1 false [1])) (Qaf g0 40 [(True,.exit 0,azX f w' md' ws')]):=by
 have he: ∀i,i<18→posF f s i≤4000:=fun i hi=>by
  have:=hf i hi
  unfold posF
  rcases hs with rfl|rfl<;>omega
 refine Qaz Qg2 mixed Qab (b:=at' 93 [1,1,1,1,0,1,0,0]) (by kernel_rfl) (fun q:Nat×Nat×Bool×List Nat=>q.1≤18∧q.2=outQ (posF f s) q.1) (fun q=>aoS f s q.1 q.2.1 q.2.2.1 q.2.2.2) (fun q=>18-q.1) (fun q hq=>?_) (0,1,false,[1]) ⟨Nat.zero_le _,rfl⟩
 obtain⟨i,w,md,ws⟩:=q
 obtain⟨hi,hq⟩:=hq
 dsimp only at hi hq
 by_cases hlt:i<18
 ·have hok := Qmt he i hi
  obtain⟨w2,md2,ws2,h2⟩: ∃w2 md2 ws2,outQ (posF f s) (i+1)=(w2,md2,ws2):=⟨_,_,_,rfl⟩
  have h2':=h2
  rw[outQ,←hq]at h2'
  rw[←hq]at hok
  have hin:=av_in f s (posF f s) i (posF f s i) hlt rfl (he i hlt) (w,md,ws) hok w2 md2 ws2 h2' w md ws rfl
  have hpr:=idx40 hlt
  have hpl:=@Qmv 0 i hlt
  have hhd:=@Qmi f i hlt
  have hfi:=hf i hlt
  have hpos:((posF f s i:Nat):Int)=if(0:Int)<s*f i then s*f i else 0:=by
   unfold posF
   rcases hs with rfl|rfl<;>(split<;>omega)
  have hmul: -4000≤s*f i∧s*f i≤4000:=by rcases hs with rfl|rfl<;>omega
  generalize primeN i=p at*
  generalize posF f s i=e at*
  generalize hxe:s*f i=x at*
  cases md with
  | false =>
   cases md2 with
   |false=>
    refine .inl ⟨(i+1,w2,false,ws2),[0,1,2],[yes 14,va 16 (i6 p),va 19 (.ptr 0 i),ld 20 (i6 (f i)),nu 21 x,nu 22 (e:Nat),(0,.loop [0,1,2] (aiS f s i e p (0,w,false,ws)) [(True,.exit 2,aoS f s i w2 false ws2)]),nu 35 (i+1:Nat)],1000,⟨hlt,h2.symm⟩,by dsimp only;omega,?_⟩
    clear hq hok h2 h2' hf he
    refine Eq.mp (by kernel_rfl:(let z0:=An [Sm (2:Int),Sm (3:Int),Sm (5:Int),Sm (7:Int),Sm (11:Int),Sm (13:Int),Sm (17:Int),Sm (19:Int),Sm (23:Int),Sm (29:Int),Sm (31:Int),Sm (37:Int),Sm (41:Int),Sm (43:Int),Sm (47:Int),Sm (53:Int),Sm (59:Int),Sm (61:Int),Tt];let z1:=(↑i:Int);let z2:=An [Sm (arF f),TT 18];An [decide (z1<(18:Int))=true,idxV (Qad Pg) 40 prV z1=some (i6 ↑p),placeV (Qad Pg) 41 (V.ptr 0 0) z1=some (V.ptr 0 i),headF (dropF i (arF f))=some (i6 (f i)),wr .i64 (s*f i)=x,(if x>(0:Int)then x else(0:Int))=(↑e:Int),An [An [s=s,Zz,Zz,An [Zz,Tt],Sm (↑w:Int),z0,Sm z1,Sm (↑p:Int),Sm (↑e:Int),(↑(0:Nat):Int)=(0:Int),Tt],z2,An [An [Zz,1=1,Zz],Tt],An [Sm (wt ws),HfL (wt ws)],Tt],Sat Pg none 0 (at' 93 [1,1,1,1,0,1,0,0,1,1,0,0,1,1,0]) (mkSt g0 40 (aiS f s i e p (0,w,false,ws))) (Qaf g0 40 [(True,Ex.exit 2,aoS f s i w2 false ws2)]),(True→An [wr .i64 (z1+(1:Int))=(↑(i+1):Int),An [s=s,Zz,Zz,An [Zz,Tt],Sm (↑w2:Int),z0,Sm (↑(i+1):Int),Tt],z2,An [An [Zz,1=1,Zz],Tt],An [Sm (wt ws2),HfL (wt ws2)],Tt]),Tt])=_) ?_
    (repeat'(first|(with_reducible apply And.intro)|(refine fun(_:True)=>?_)))<;>first|exact aq|skip
    all_goals first|exact Qbb _|(rw[hxe];exact wr6 (by omega) (by omega))|exact hpos.symm|skip
   |true=>
    refine .inl ⟨(i+1,w2,true,ws2),[0,1,2],[yes 14,va 16 (i6 p),va 19 (.ptr 0 i),ld 20 (i6 (f i)),nu 21 x,nu 22 (e:Nat),(0,.loop [0,1,2] (aiS f s i e p (0,w,false,ws)) [(True,.exit 2,aoS f s i w2 true ws2)]),nu 35 (i+1:Nat)],1000,⟨hlt,h2.symm⟩,by dsimp only;omega,?_⟩
    clear hq hok h2 h2' hf he
    refine Eq.mp (by kernel_rfl:(let z0:=An [Sm (2:Int),Sm (3:Int),Sm (5:Int),Sm (7:Int),Sm (11:Int),Sm (13:Int),Sm (17:Int),Sm (19:Int),Sm (23:Int),Sm (29:Int),Sm (31:Int),Sm (37:Int),Sm (41:Int),Sm (43:Int),Sm (47:Int),Sm (53:Int),Sm (59:Int),Sm (61:Int),Tt];let z1:=(↑i:Int);let z2:=An [Sm (arF f),TT 18];An [decide (z1<(18:Int))=true,idxV (Qad Pg) 40 prV z1=some (i6 ↑p),placeV (Qad Pg) 41 (V.ptr 0 0) z1=some (V.ptr 0 i),headF (dropF i (arF f))=some (i6 (f i)),wr .i64 (s*f i)=x,(if x>(0:Int)then x else(0:Int))=(↑e:Int),An [An [s=s,Zz,Zz,An [Zz,Tt],Sm (↑w:Int),z0,Sm z1,Sm (↑p:Int),Sm (↑e:Int),(↑(0:Nat):Int)=(0:Int),Tt],z2,An [An [Zz,1=1,Zz],Tt],An [Sm (wt ws),HfL (wt ws)],Tt],Sat Pg none 0 (at' 93 [1,1,1,1,0,1,0,0,1,1,0,0,1,1,0]) (mkSt g0 40 (aiS f s i e p (0,w,false,ws))) (Qaf g0 40 [(True,Ex.exit 2,aoS f s i w2 true ws2)]),(True→An [wr .i64 (z1+(1:Int))=(↑(i+1):Int),An [s=s,Zz,Zz,An [Zz,Tt],Sm (↑w2:Int),z0,Sm (↑(i+1):Int),Tt],z2,An [An [Zz,Sm ws2.length,Tt],Tt],An [Sm (wt ws2),HfL (wt ws2)],Tt]),Tt])=_) ?_
    (repeat'(first|(with_reducible apply And.intro)|(refine fun(_:True)=>?_)))<;>first|exact aq|skip
    all_goals first|exact Qbb _|(rw[hxe];exact wr6 (by omega) (by omega))|exact hpos.symm|skip
  | true =>
   cases md2 with
   |false=>
    refine .inl ⟨(i+1,w2,false,ws2),[0,1,2],[yes 14,va 16 (i6 p),va 19 (.ptr 0 i),ld 20 (i6 (f i)),nu 21 x,nu 22 (e:Nat),(0,.loop [0,1,2] (aiS f s i e p (0,w,true,ws)) [(True,.exit 2,aoS f s i w2 false ws2)]),nu 35 (i+1:Nat)],1000,⟨hlt,h2.symm⟩,by dsimp only;omega,?_⟩
    clear hq hok h2 h2' hf he
    refine Eq.mp (by kernel_rfl:(let z0:=An [Sm (2:Int),Sm (3:Int),Sm (5:Int),Sm (7:Int),Sm (11:Int),Sm (13:Int),Sm (17:Int),Sm (19:Int),Sm (23:Int),Sm (29:Int),Sm (31:Int),Sm (37:Int),Sm (41:Int),Sm (43:Int),Sm (47:Int),Sm (53:Int),Sm (59:Int),Sm (61:Int),Tt];let z1:=(↑i:Int);let z2:=An [Sm (arF f),TT 18];An [decide (z1<(18:Int))=true,idxV (Qad Pg) 40 prV z1=some (i6 ↑p),placeV (Qad Pg) 41 (V.ptr 0 0) z1=some (V.ptr 0 i),headF (dropF i (arF f))=some (i6 (f i)),wr .i64 (s*f i)=x,(if x>(0:Int)then x else(0:Int))=(↑e:Int),An [An [s=s,Zz,Zz,An [Zz,Tt],Sm (↑w:Int),z0,Sm z1,Sm (↑p:Int),Sm (↑e:Int),(↑(0:Nat):Int)=(0:Int),Tt],z2,An [An [Zz,Sm ws.length,Tt],Tt],An [Sm (wt ws),HfL (wt ws)],Tt],Sat Pg none 0 (at' 93 [1,1,1,1,0,1,0,0,1,1,0,0,1,1,0]) (mkSt g0 40 (aiS f s i e p (0,w,true,ws))) (Qaf g0 40 [(True,Ex.exit 2,aoS f s i w2 false ws2)]),(True→An [wr .i64 (z1+(1:Int))=(↑(i+1):Int),An [s=s,Zz,Zz,An [Zz,Tt],Sm (↑w2:Int),z0,Sm (↑(i+1):Int),Tt],z2,An [An [Zz,1=1,Zz],Tt],An [Sm (wt ws2),HfL (wt ws2)],Tt]),Tt])=_) ?_
    (repeat'(first|(with_reducible apply And.intro)|(refine fun(_:True)=>?_)))<;>first|exact aq|skip
    all_goals first|exact Qbb _|(rw[hxe];exact wr6 (by omega) (by omega))|exact hpos.symm|skip
   |true=>
    refine .inl ⟨(i+1,w2,true,ws2),[0,1,2],[yes 14,va 16 (i6 p),va 19 (.ptr 0 i),ld 20 (i6 (f i)),nu 21 x,nu 22 (e:Nat),(0,.loop [0,1,2] (aiS f s i e p (0,w,true,ws)) [(True,.exit 2,aoS f s i w2 true ws2)]),nu 35 (i+1:Nat)],1000,⟨hlt,h2.symm⟩,by dsimp only;omega,?_⟩
    clear hq hok h2 h2' hf he
    refine Eq.mp (by kernel_rfl:(let z0:=An [Sm (2:Int),Sm (3:Int),Sm (5:Int),Sm (7:Int),Sm (11:Int),Sm (13:Int),Sm (17:Int),Sm (19:Int),Sm (23:Int),Sm (29:Int),Sm (31:Int),Sm (37:Int),Sm (41:Int),Sm (43:Int),Sm (47:Int),Sm (53:Int),Sm (59:Int),Sm (61:Int),Tt];let z1:=(↑i:Int);let z2:=An [Sm (arF f),TT 18];An [decide (z1<(18:Int))=true,idxV (Qad Pg) 40 prV z1=some (i6 ↑p),placeV (Qad Pg) 41 (V.ptr 0 0) z1=some (V.ptr 0 i),headF (dropF i (arF f))=some (i6 (f i)),wr .i64 (s*f i)=x,(if x>(0:Int)then x else(0:Int))=(↑e:Int),An [An [s=s,Zz,Zz,An [Zz,Tt],Sm (↑w:Int),z0,Sm z1,Sm (↑p:Int),Sm (↑e:Int),(↑(0:Nat):Int)=(0:Int),Tt],z2,An [An [Zz,Sm ws.length,Tt],Tt],An [Sm (wt ws),HfL (wt ws)],Tt],Sat Pg none 0 (at' 93 [1,1,1,1,0,1,0,0,1,1,0,0,1,1,0]) (mkSt g0 40 (aiS f s i e p (0,w,true,ws))) (Qaf g0 40 [(True,Ex.exit 2,aoS f s i w2 true ws2)]),(True→An [wr .i64 (z1+(1:Int))=(↑(i+1):Int),An [s=s,Zz,Zz,An [Zz,Tt],Sm (↑w2:Int),z0,Sm (↑(i+1):Int),Tt],z2,An [An [Zz,Sm ws2.length,Tt],Tt],An [Sm (wt ws2),HfL (wt ws2)],Tt]),Tt])=_) ?_
    (repeat'(first|(with_reducible apply And.intro)|(refine fun(_:True)=>?_)))<;>first|exact aq|skip
    all_goals first|exact Qbb _|(rw[hxe];exact wr6 (by omega) (by omega))|exact hpos.symm|skip
 ·have : i = 18 := by omega
  subst this
  rw[hx]at hq
  obtain⟨x1,x2,x3⟩:w'=w∧md'=md∧ws'=ws:=by
   simp only[Prod.mk.injEq]at hq
   exact⟨hq.1.symm,hq.2.1.symm,hq.2.2.symm⟩
  rw[x1,x2,x3]
  clear hx hq
  cases md with
  |false=>
   refine .inr ⟨.exit 0,[0,1,2],azX f w false ws,[],1000,.inl ⟨trivial,rfl,rfl⟩,?_⟩
   refine Eq.mp (by kernel_rfl:(An [An [Zz,An [Zz,Tt],Sm (↑w:Int),Tt],An [Sm (arF f),TT 18],An [An [Zz,1=1,Zz],Tt],An [Sm (wt ws),HfL (wt ws)],Tt])=_) ?_
   (repeat'(first|(with_reducible apply And.intro)|(refine fun(_:True)=>?_)))<;>first|exact aq|skip
   all_goals first|exact Qbb _|skip
  |true=>
   refine .inr ⟨.exit 0,[0,1,2],azX f w true ws,[],1000,.inl ⟨trivial,rfl,rfl⟩,?_⟩
   refine Eq.mp (by kernel_rfl:(An [An [Zz,An [Zz,Tt],Sm (↑w:Int),Tt],An [Sm (arF f),TT 18],An [An [Zz,Sm ws.length,Tt],Tt],An [Sm (wt ws),HfL (wt ws)],Tt])=_) ?_
   (repeat'(first|(with_reducible apply And.intro)|(refine fun(_:True)=>?_)))<;>first|exact aq|skip
   all_goals first|exact Qbb _|skip
abbrev lnV(l:List Nat):V:=.im l.length (wt l)
theorem Qnn(f:Nat→Int)(s:Int)(hs:s=1∨s= -1)(hf: ∀i,i<18→ -4000≤f i∧f i≤4000): ∃ws,Norm ws∧valW ws=Qaw (posF f s) 18∧ws.length≤100000∧FnOk Pg g0 93 [ar f,i6 s] (lnV ws):=by
 have he: ∀i,i<18→posF f s i≤4000:=fun i hi=>by
  have:=hf i hi
  unfold posF
  rcases hs with rfl|rfl<;>omega
 have hok:=Qmt he 18 (Nat.le_refl _)
 obtain⟨w,md,ws,hx⟩: ∃w md ws,outQ (posF f s) 18=(w,md,ws):=⟨_,_,_,rfl⟩
 have l:=av_out f s hs hf w md ws hx
 rw[hx]at hok
 have hw1:=hok.w1
 have hwb:=hok.wb
 have hlen:=hok.len
 have hone:=hok.one
 have hnorm:=hok.norm
 have hval:=hok.val
 dsimp only at hw1 hwb hlen hone hnorm hval
 rw[Nat.pow_zero,Nat.mul_one]at hval
 obtain⟨m1,m2,m3⟩:=Qs5 hnorm (w:=w) (by omega) hw1
 refine⟨mulW w ws,m1,by rw[m2,Nat.mul_comm,hval],by omega,?_⟩
 clear hok hx hval m1 m2 m3 he hf
 cases md with
 | false =>
  obtain⟨x,rfl⟩: ∃x,ws=[x]:=List.length_eq_one_iff.1 (hone rfl)
  have hxb:x<18446744073709551616:=by simpa using hnorm.ok 0
  by_cases hc0:x*w/18446744073709551616=0
  ·have hcs := Qov f x w hxb (by omega) _ rfl hc0
   rw[Qla hc0]
   generalize x*w%18446744073709551616=y at*
   refine FnOk.of_vc Qg2 mixed Qab (n:=1000) (r:=[]) (S:={sl:=[(4,.im 1 [u6 (y:Int)])]}) (hs:=[(0,.loop [0,2,1] (aoS f s 0 1 false [1]) [(True,.exit 0,azX f w false [x])]),(38,.call ⟨.tup [],ofOs .e 0 (n1 f y),3,[2]⟩)]) ?_
   refine Eq.mp (by kernel_rfl:(An [V.im 1 [u6 ↑y]=lnV [y],An [An [s=s,Zz,Zz,An [Zz,Tt],(↑(1:Nat):Int)=(1:Int),An [Sm (2:Int),Sm (3:Int),Sm (5:Int),Sm (7:Int),Sm (11:Int),Sm (13:Int),Sm (17:Int),Sm (19:Int),Sm (23:Int),Sm (29:Int),Sm (31:Int),Sm (37:Int),Sm (41:Int),Sm (43:Int),Sm (47:Int),Sm (53:Int),Sm (59:Int),Sm (61:Int),Tt],(↑(0:Nat):Int)=(0:Int),Tt],An [Sm (arF f),TT 18],An [An [Zz,1=1,Zz],Tt],An [wt [1]=[u6 1],Tt,Tt],Tt],Sat Pg none 0 (at' 93 [1,1,1,1,0,1,0]) (mkSt g0 40 (aoS f s 0 1 false [1])) (Qaf g0 40 [(True,Ex.exit 0,azX f w false [x])]),(True→An [CallSpec Pg g0 (V.fn 112 [V.ptr 1 0]) [u6 ↑w] (ofOs T.e 0 (aoL f false [x])) 3 (CR.mk (V.tup []) (ofOs T.e 0 (n1 f y)) 3 [2]),Tt,An [An [1=1,Sm [u6 ↑y],Tt,Tt],Tt],Tt]),Tt])=_) ?_
   (repeat'(first|(with_reducible apply And.intro)|(refine fun(_:True)=>?_)))<;>first|exact aq|skip
   all_goals first|exact hcs|exact rfl|skip
  ·have hcs := Qow f x w hxb (by omega) _ _ rfl rfl hc0
   rw[Qlb hc0]
   generalize x*w%18446744073709551616=y at*
   generalize x*w/18446744073709551616=c at*
   refine FnOk.of_vc Qg2 mixed Qab (n:=1000) (r:=[]) (S:={sl:=[(4,.im 2 [u6 (y:Int),u6 (c:Int)])]}) (hs:=[(0,.loop [0,2,1] (aoS f s 0 1 false [1]) [(True,.exit 0,azX f w false [x])]),(38,.call ⟨.tup [],ofOs .e 0 [.row 41 none (arF f),.row 162 none [.sl 3 0 2 none],.dead,.row 170 (some 1) [u6 (y:Int),u6 (c:Int)]],4,[2,1]⟩)]) ?_
   refine Eq.mp (by kernel_rfl:(let z0:=[u6 ↑y,u6 ↑c];An [V.im 2 z0=lnV [y,c],An [An [s=s,Zz,Zz,An [Zz,Tt],(↑(1:Nat):Int)=(1:Int),An [Sm (2:Int),Sm (3:Int),Sm (5:Int),Sm (7:Int),Sm (11:Int),Sm (13:Int),Sm (17:Int),Sm (19:Int),Sm (23:Int),Sm (29:Int),Sm (31:Int),Sm (37:Int),Sm (41:Int),Sm (43:Int),Sm (47:Int),Sm (53:Int),Sm (59:Int),Sm (61:Int),Tt],(↑(0:Nat):Int)=(0:Int),Tt],An [Sm (arF f),TT 18],An [An [Zz,1=1,Zz],Tt],An [wt [1]=[u6 1],Tt,Tt],Tt],Sat Pg none 0 (at' 93 [1,1,1,1,0,1,0]) (mkSt g0 40 (aoS f s 0 1 false [1])) (Qaf g0 40 [(True,Ex.exit 0,azX f w false [x])]),(True→An [CallSpec Pg g0 (V.fn 112 [V.ptr 1 0]) [u6 ↑w] (ofOs T.e 0 (aoL f false [x])) 3 (CR.mk (V.tup []) (ofOs T.e 0 [O.row 41 none (arF f),O.row 162 none [V.sl 3 0 2 none],O.dead,O.row 170 (some 1) z0]) 4 [2,1]),Tt,An [An [2=2,z0=z0,TT 2],Tt],Tt]),Tt])=_) ?_
   (repeat'(first|(with_reducible apply And.intro)|(refine fun(_:True)=>?_)))<;>first|exact aq|skip
   all_goals first|exact hcs|exact rfl|skip
 | true =>
  obtain⟨n,hn⟩: ∃n,n=ws.length:=⟨_,rfl⟩
  by_cases hc0:(mulS w ws n).2=0
  ·have hcs := mul_M0 f ws w n hn (by omega) hnorm.ok (by omega) _ rfl hc0
   have hml:=Qbq w ws n
   rw[show mulW w ws=(mulS w ws n).1 by unfold mulW;rw[←hn,if_pos hc0]]
   generalize (mulS w ws n).1=m at*
   clear hc0
   subst hn
   refine FnOk.of_vc Qg2 mixed Qab (n:=1000) (r:=[]) (S:={sl:=[(4,lnV m)]}) (hs:=[(0,.loop [0,2,1] (aoS f s 0 1 false [1]) [(True,.exit 0,azX f w true ws)]),(38,.call ⟨.tup [],ofOs .e 0 [.row 41 none (arF f),.row 162 none [.sl 2 0 ws.length none],.row 170 (some 1) (wt m)],3,[2]⟩)]) ?_
   refine Eq.mp (by kernel_rfl:(An [Sm (lnV m),An [An [s=s,Zz,Zz,An [Zz,Tt],(↑(1:Nat):Int)=(1:Int),An [Sm (2:Int),Sm (3:Int),Sm (5:Int),Sm (7:Int),Sm (11:Int),Sm (13:Int),Sm (17:Int),Sm (19:Int),Sm (23:Int),Sm (29:Int),Sm (31:Int),Sm (37:Int),Sm (41:Int),Sm (43:Int),Sm (47:Int),Sm (53:Int),Sm (59:Int),Sm (61:Int),Tt],(↑(0:Nat):Int)=(0:Int),Tt],An [Sm (arF f),TT 18],An [An [Zz,1=1,Zz],Tt],An [wt [1]=[u6 1],Tt,Tt],Tt],Sat Pg none 0 (at' 93 [1,1,1,1,0,1,0]) (mkSt g0 40 (aoS f s 0 1 false [1])) (Qaf g0 40 [(True,Ex.exit 0,azX f w true ws)]),(True→An [CallSpec Pg g0 (V.fn 112 [V.ptr 1 0]) [u6 ↑w] (ofOs T.e 0 (aoL f true ws)) 3 (CR.mk (V.tup []) (ofOs T.e 0 [O.row 41 none (arF f),O.row 162 none [V.sl 2 0 ws.length none],O.row 170 (some 1) (wt m)]) 3 [2]),Tt,An [An [m.length=ws.length,Sm (wt m),HfL (wt m)],Tt],Tt]),Tt])=_) ?_
   (repeat'(first|(with_reducible apply And.intro)|(refine fun(_:True)=>?_)))<;>first|exact aq|skip
   all_goals first|exact hcs|exact Qbb _|exact rfl|skip
  ·have hcs := mul_M1 f ws w n hn (by omega) hnorm.ok (by omega) _ _ rfl rfl hc0
   have hml:=Qbq w ws n
   rw[show mulW w ws=(mulS w ws n).1++[(mulS w ws n).2]by unfold mulW;rw[←hn,if_neg hc0]]
   generalize (mulS w ws n).1=m at*
   generalize (mulS w ws n).2=c at*
   rw[←Qur]at hcs
   have hl2:(m++[c]).length=n+1:=by simp;omega
   generalize m++[c]=m' at*
   clear hc0
   subst hn
   refine FnOk.of_vc Qg2 mixed Qab (n:=1000) (r:=[]) (S:={sl:=[(4,lnV m')]}) (hs:=[(0,.loop [0,2,1] (aoS f s 0 1 false [1]) [(True,.exit 0,azX f w true ws)]),(38,.call ⟨.tup [],ofOs .e 0 [.row 41 none (arF f),.row 162 none [.sl 3 0 (ws.length+1) none],.dead,.row 170 (some 1) (wt m')],4,[2,1]⟩)]) ?_
   refine Eq.mp (by kernel_rfl:(An [Sm (lnV m'),An [An [s=s,Zz,Zz,An [Zz,Tt],(↑(1:Nat):Int)=(1:Int),An [Sm (2:Int),Sm (3:Int),Sm (5:Int),Sm (7:Int),Sm (11:Int),Sm (13:Int),Sm (17:Int),Sm (19:Int),Sm (23:Int),Sm (29:Int),Sm (31:Int),Sm (37:Int),Sm (41:Int),Sm (43:Int),Sm (47:Int),Sm (53:Int),Sm (59:Int),Sm (61:Int),Tt],(↑(0:Nat):Int)=(0:Int),Tt],An [Sm (arF f),TT 18],An [An [Zz,1=1,Zz],Tt],An [wt [1]=[u6 1],Tt,Tt],Tt],Sat Pg none 0 (at' 93 [1,1,1,1,0,1,0]) (mkSt g0 40 (aoS f s 0 1 false [1])) (Qaf g0 40 [(True,Ex.exit 0,azX f w true ws)]),(True→An [CallSpec Pg g0 (V.fn 112 [V.ptr 1 0]) [u6 ↑w] (ofOs T.e 0 (aoL f true ws)) 3 (CR.mk (V.tup []) (ofOs T.e 0 [O.row 41 none (arF f),O.row 162 none [V.sl 3 0 (ws.length+1) none],O.dead,O.row 170 (some 1) (wt m')]) 4 [2,1]),Tt,An [An [m'.length=ws.length+1,Sm (wt m'),HfL (wt m')],Tt],Tt]),Tt])=_) ?_
   (repeat'(first|(with_reducible apply And.intro)|(refine fun(_:True)=>?_)))<;>first|exact aq|skip
   all_goals first|exact hcs|exact Qbb _|exact rfl|skip
abbrev sumF(a b:Nat→Int):Nat→Int:=mixF a b 1 18
abbrev adS(f:Nat→Int)(e:Int):SL:={sl:=[(4,.ptr 0 0),(5,i6 e)],os:=[.row 41 none (arF f)]}
theorem add_big(a b:Nat→Int)(ha:inA a=true)(hb:inA b=true)(hs:inA (sumF a b)=false):FnOk Pg g0 34 [ar a,ar b] (.tup [ar Qaj,i6 6]):=by
 have h:=Qa5 a
 have h2:=Qa5 b
 have h3:=Qa5 (sumF a b)
 have h4:=Qc4 a b 1 (fun k hk=>by have:=Qe0 ha hk;omega) (fun k hk=>by have:=Qe0 hb hk;omega)
 rw[ha]at h
 rw[hb]at h2
 rw[hs]at h3
 change FnOk Pg g0 _ _ (ar (sumF a b))at h4
 generalize hf:sumF a b=f at*
 refine FnOk.of_vc vE_ok mixed Qab (n:=1000) (r:=[2]) (S:=adS Qaj 6) (hs:=[fn 8 (.bool true),fn 12 (.bool true),fn 18 (ar f),fn 20 (.bool false)]) ?_
 refine Eq.mp (by kernel_rfl:(let z5:=An [TT 18,Tt];let z1:=[i6 0,i6 0,i6 0,i6 0,i6 0,i6 0,i6 0,i6 0,i6 0,i6 0,i6 0,i6 0,i6 0,i6 0,i6 0,i6 0,i6 0,i6 0];let z2:=V.bool true;let z3:=V.agg (arF a);let z4:=V.agg (arF b);let z0:=pt (pt (pt T.e 0 (O.row 41 none (arF a))) 1 (O.row 41 none (arF b))) 2 (O.row 41 none z1);An [V.tup [V.agg (arF Qaj),i6 6]=V.tup [ar Qaj,i6 6],z5,FnOk Pg g0 82 [z3] z2,Tt,z5,FnOk Pg g0 82 [z4] z2,An [(V.fn 82 []=V.fn 82 []→[z3]=[z4]→z0=z0→0+1+1+1=3→Sm (CR.mk z2 z0 3 [])),Tt],An [TT 18,TT 18,Tt,Tt],FnOk Pg g0 79 [z3,z4,i6 1] (ar f),Tt,z5,FnOk Pg g0 82 [V.agg (arF f)] (V.bool false),Tt,An [Zz,Sm (6:Int),Tt],An [arF Qaj=z1,TT 18],Tt])=_) ?_
 (repeat'(first|(with_reducible apply And.intro)|(refine fun(_:True)=>?_)))<;>first|exact aq|skip
 all_goals first|rfl|(intro _ hh _ _;have:=inA_ar (List.cons.inj hh).1;simp only[ha,hb,hs]at this;cases this)
theorem add_ok(a b:Nat→Int)(ha:inA a=true)(hb:inA b=true)(hs:inA (sumF a b)=true):FnOk Pg g0 34 [ar a,ar b] (.tup [ar (sumF a b),i6 0]):=by
 have h:=Qa5 a
 have h2:=Qa5 b
 have h3:=Qa5 (sumF a b)
 have h4:=Qc4 a b 1 (fun k hk=>by have:=Qe0 ha hk;omega) (fun k hk=>by have:=Qe0 hb hk;omega)
 rw[ha]at h
 rw[hb]at h2
 rw[hs]at h3
 change FnOk Pg g0 _ _ (ar (sumF a b))at h4
 generalize hf:sumF a b=f at*
 refine FnOk.of_vc vE_ok mixed Qab (n:=1000) (r:=[2]) (S:=adS f 0) (hs:=[fn 8 (.bool true),fn 12 (.bool true),fn 18 (ar f),fn 20 (.bool true)]) ?_
 refine Eq.mp (by kernel_rfl:(let z4:=An [TT 18,Tt];let z0:=pt (pt (pt T.e 0 (O.row 41 none (arF a))) 1 (O.row 41 none (arF b))) 2 (O.row 41 none [i6 0,i6 0,i6 0,i6 0,i6 0,i6 0,i6 0,i6 0,i6 0,i6 0,i6 0,i6 0,i6 0,i6 0,i6 0,i6 0,i6 0,i6 0]);let z1:=V.bool true;let z2:=V.agg (arF a);let z3:=V.agg (arF b);An [V.tup [V.agg (arF f),i6 0]=V.tup [ar f,i6 0],z4,FnOk Pg g0 82 [z2] z1,Tt,z4,FnOk Pg g0 82 [z3] z1,An [(V.fn 82 []=V.fn 82 []→[z2]=[z3]→z0=z0→0+1+1+1=3→Sm (CR.mk z1 z0 3 [])),Tt],An [TT 18,TT 18,Tt,Tt],FnOk Pg g0 79 [z2,z3,i6 1] (ar f),Tt,z4,FnOk Pg g0 82 [V.agg (arF f)] z1,Tt,An [Zz,Sm (0:Int),Tt],An [Sm (arF f),TT 18],Tt])=_) ?_
 (repeat'(first|(with_reducible apply And.intro)|(refine fun(_:True)=>?_)))<;>first|exact aq|skip
 all_goals rfl
theorem Qso{f:Nat→Int}(h: ∀k,k<18→ -2000≤f k∧f k≤2000):inA f=true:=by
 unfold inA okA
 rw[List.all_eq_true]
 intro k hk
 have:=h k (List.mem_range.1 hk)
 simpa using this
def eqA(a b:Nat→Int):Bool:=a 0==b 0&&(a 1==b 1&&(a 2==b 2&&(a 3==b 3&&(a 4==b 4&&(a 5==b 5&&(a 6==b 6&&(a 7==b 7&&(a 8==b 8&&(a 9==b 9&&(a 10==b 10&&(a 11==b 11&&(a 12==b 12&&(a 13==b 13&&(a 14==b 14&&(a 15==b 15&&(a 16==b 16&&(a 17==b 17&&true)))))))))))))))))
theorem Qer{a b:Nat→Int}:eqA a b=true↔∀i,i<18→a i=b i:=by
 unfold eqA
 simp only[Bool.and_eq_true,beq_iff_eq,and_true]
 constructor
 ·rintro ⟨h0, h1, h2, h3, h4, h5, h6, h7, h8, h9, h10, h11, h12, h13, h14, h15, h16, h17⟩ i hi
  rcases lt18 hi with rfl|rfl|rfl|rfl|rfl|rfl|rfl|rfl|rfl|rfl|rfl|rfl|rfl|rfl|rfl|rfl|rfl|rfl<;>assumption
 ·intro h
  exact⟨h 0 (by omega),h 1 (by omega),h 2 (by omega),h 3 (by omega),h 4 (by omega),h 5 (by omega),h 6 (by omega),h 7 (by omega),h 8 (by omega),h 9 (by omega),h 10 (by omega),h 11 (by omega),h 12 (by omega),h 13 (by omega),h 14 (by omega),h 15 (by omega),h 16 (by omega),h 17 (by omega)⟩
theorem Qru{a b:Nat→Int}(h: ¬ ∀i,i<18→a i=b i):eqA a b=false:=by
 cases hb:eqA a b with
 |false=>rfl
 |true=>exact absurd (Qer.1 hb) h
theorem Qoa(a:Nat→Int):eqA a a=true:=Qer.2 fun _ _=>rfl
def kIdx:Nat→Int
 |0=> -1
 |k+1=>k
theorem Qom{l:List Nat}{k:Nat}(h:k<l.length):headF ((wt l).drop (k*1))=some (u6 ((l.getD k 0:Nat):Int)):=by
 have:=Qsn h
 rwa [Qaq,Nat.zero_add]at this
abbrev c5(n:Int):SL:={sl:=[(5,i6 n)]}
abbrev c4(n:Int):SL:={sl:=[(4,i6 n)]}
abbrev cmS(a b:List Nat)(k:Nat):SL:={sl:=[(0,lnV a),(1,lnV b),(5,i6 0),(6,i6 (kIdx k))]}
theorem cmp_loop(a b:List Nat)(ha:WOk a)(hb:WOk b)(hl:a.length=b.length)(h6:a.length≤100000)(r:Int)(hr:r=sgn (valW a) (valW b)):
  Sat Pg none 0 (at' 92 [1,0,1,1,1,0,1,0]) (mkSt g0 45 (cmS a b a.length)) (Qaf g0 45 [(True,.exit 0,c5 r)]):=by
 refine Qaz vE_ok mixed Qab (b:=at' 92 [1,0,1,1,1,0,1,0,0]) (by kernel_rfl) (fun k=>k≤a.length∧a.drop k=b.drop k) (cmS a b) (fun k=>k) (fun k hk=>?_) a.length ⟨Nat.le_refl _,by rw[List.drop_length,hl,List.drop_length]⟩
 obtain⟨hk,hd⟩:=hk
 cases k with
 |zero=>
  have hab:a=b:=by simpa using hd
  have hr0:r=0:=by rw[hr,hab];simp[sgn]
  subst hr0
  refine .inr ⟨.exit 0,[],c5 0,[],1000,.inl ⟨trivial,rfl,rfl⟩,?_⟩
  refine Eq.mp (by kernel_rfl:(An [An [Sm (0:Int),Tt],Tt])=_) ?_
  exact au
 | succ j =>
  have p1:=Qom (l:=a) (k:=j) (by omega)
  have p2:=Qom (l:=b) (k:=j) (by omega)
  have lt1:=Qpk ha hl (i:=j) (by omega) hd
  have lt2:=Qpk hb hl.symm (i:=j) (by omega) hd.symm
  have st:=Qki hl (i:=j) (by omega) hd
  generalize a.getD j 0=x at*
  generalize b.getD j 0=y at*
  by_cases h1:x<y
  ·have := lt1 h1
   have hr0:r= -1:=by rw[hr];unfold sgn;rw[if_pos this]
   subst hr0
   refine .inr ⟨.exit 0,[],c5 (-1),[yes 21,pl 27,ld 28 (u6 x),pl 31,ld 32 (u6 y),yes 33],1000,.inl ⟨trivial,rfl,rfl⟩,?_⟩
   clear hr hd lt1 lt2 st
   refine Eq.mp (by kernel_rfl:(let z0:=(↑j:Int);An [decide (z0≥(0:Int))=true,An [(0:Int)≤z0,z0<(↑a.length:Int)],headF (List.drop (j*1) (wt a))=some (u6 ↑x),An [(0:Int)≤z0,z0<(↑b.length:Int)],headF (List.drop (j*1) (wt b))=some (u6 ↑y),decide ((↑x:Int)<(↑y:Int))=true,An [Sm (-1:Int),Tt],Tt])=_) ?_
   (repeat'(first|(with_reducible apply And.intro)|(refine fun(_:True)=>?_)))<;>first|exact aq|skip
  ·by_cases h2 : y < x
   ·have := lt2 h2
    have hr0:r=1:=by rw[hr];unfold sgn;rw[if_neg (by omega),if_pos this]
    subst hr0
    refine .inr ⟨.exit 0,[],c5 1,[yes 21,pl 27,ld 28 (u6 x),pl 31,ld 32 (u6 y),no 33,pl 37,ld 38 (u6 x),pl 41,ld 42 (u6 y),yes 43],1000,.inl ⟨trivial,rfl,rfl⟩,?_⟩
    clear hr hd lt1 lt2 st
    refine Eq.mp (by kernel_rfl:(let z0:=(↑j:Int);let z1:=headF (List.drop (j*1) (wt a));let z2:=headF (List.drop (j*1) (wt b));let z3:=(0:Int);An [decide (z0≥z3)=true,An [z3≤z0,z0<(↑a.length:Int)],z1=some (u6 ↑x),An [z3≤z0,z0<(↑b.length:Int)],z2=some (u6 ↑y),decide ((↑x:Int)<(↑y:Int))=false,An [z3≤z0,z0<(↑a.length:Int)],z1=some (u6 ↑x),An [z3≤z0,z0<(↑b.length:Int)],z2=some (u6 ↑y),decide ((↑x:Int)>(↑y:Int))=true,An [Sm (1:Int),Tt],Tt])=_) ?_
    (repeat'(first|(with_reducible apply And.intro)|(refine fun(_:True)=>?_)))<;>first|exact aq|skip
   ·refine .inl ⟨j, [], [yes 21, pl 27, ld 28 (u6 x), pl 31, ld 32 (u6 y), no 33, pl 37, ld 38 (u6 x), pl 41, ld 42 (u6 y), no 43, nu 23 (kIdx j)], 1000, ⟨by omega, st (by omega)⟩, by omega, ?_⟩
    have hdn:wr .i64 ((j:Int)-1)=kIdx j:=by
     rw[wr6 (by omega) (by omega)]
     cases j with
     |zero=>rfl
     |succ j=>simp only[kIdx];omega
    clear hr hd lt1 lt2 st
    refine Eq.mp (by kernel_rfl:(let z0:=(↑j:Int);let z1:=(0:Int);let z2:=headF (List.drop (j*1) (wt a));let z3:=headF (List.drop (j*1) (wt b));An [decide (z0≥z1)=true,An [z1≤z0,z0<(↑a.length:Int)],z2=some (u6 ↑x),An [z1≤z0,z0<(↑b.length:Int)],z3=some (u6 ↑y),decide ((↑x:Int)<(↑y:Int))=false,An [z1≤z0,z0<(↑a.length:Int)],z2=some (u6 ↑x),An [z1≤z0,z0<(↑b.length:Int)],z3=some (u6 ↑y),decide ((↑x:Int)>(↑y:Int))=false,wr .i64 (z0-(1:Int))=kIdx j,An [An [Sm a.length,Sm (wt a)],An [Sm b.length,Sm (wt b)],z1=z1,Sm (kIdx j),Tt],Tt])=_) ?_
    (repeat'(first|(with_reducible apply And.intro)|(refine fun(_:True)=>?_)))<;>first|exact aq|skip
theorem Qpv(a b:List Nat)(ha:Norm a)(hb:Norm b)(h6:a.length≤100000)(h7:b.length≤100000):FnOk Pg g0 92 [lnV a,lnV b] (i6 (sgn (valW a) (valW b))):=by
 by_cases hl:a.length=b.length
 ·have l := cmp_loop a b ha.ok hb.ok hl h6 _ rfl
  have hpos:=ha.pos
  have hdn:wr .i64 ((a.length:Int)-1)=kIdx a.length:=by
   rw[wr6 (by omega) (by omega)]
   cases a with
   |nil=>simp at hpos
   |cons x l=>simp only[kIdx,List.length_cons];omega
  generalize sgn (valW a) (valW b)=r at*
  generalize hn:a.length=n at*
  refine FnOk.of_vc vE_ok mixed Qab (n:=1000) (r:=[]) (S:=c4 r) (hs:=[no 11,nu 19 (kIdx n),(0,.loop [] (cmS a b n) [(True,.exit 0,c5 r)])]) ?_
  refine Eq.mp (by kernel_rfl:(An [Sm (i6 r),((↑a.length:Int) != (↑b.length:Int))=false,wr .i64 ((↑a.length:Int)-(1:Int))=kIdx n,An [An [An [Sm a.length,Sm (wt a)],An [Sm b.length,Sm (wt b)],Sm (0:Int),Sm (kIdx n),Tt],Tt],Sat Pg none 0 (at' 92 [1,0,1,1,1,0,1,0]) (mkSt g0 45 (cmS a b n)) (Qaf g0 45 [(True,Ex.exit 0,c5 r)]),(True→An [An [r=r,Tt],Tt]),Tt])=_) ?_
  (repeat'(first|(with_reducible apply And.intro)|(refine fun(_:True)=>?_)))<;>first|exact aq|skip
 ·by_cases h1 : a.length < b.length
  ·have : sgn (valW a) (valW b) = -1 := by unfold sgn; rw [if_pos (Qo0 ha hb h1)]
   rw[this]
   refine FnOk.of_vc vE_ok mixed Qab (n:=1000) (r:=[]) (S:=c4 (-1)) (hs:=[yes 11,yes 16]) ?_
   refine Eq.mp (by kernel_rfl:(An [Sm (i6 (-1)),((↑a.length:Int) != (↑b.length:Int))=true,decide ((↑a.length:Int)<(↑b.length:Int))=true,An [Sm (-1:Int),Tt],Tt])=_) ?_
   (repeat'(first|(with_reducible apply And.intro)|(refine fun(_:True)=>?_)))<;>first|exact aq|skip
  ·have hlt := Qo0 hb ha (by omega)
   have:sgn (valW a) (valW b)=1:=by unfold sgn;rw[if_neg (by omega),if_pos hlt]
   rw[this]
   refine FnOk.of_vc vE_ok mixed Qab (n:=1000) (r:=[]) (S:=c4 1) (hs:=[yes 11,no 16]) ?_
   refine Eq.mp (by kernel_rfl:(An [Sm (i6 1),((↑a.length:Int) != (↑b.length:Int))=true,decide ((↑a.length:Int)<(↑b.length:Int))=false,An [Sm (1:Int),Tt],Tt])=_) ?_
   (repeat'(first|(with_reducible apply And.intro)|(refine fun(_:True)=>?_)))<;>first|exact aq|skip
def cmpF(a b:Nat→Int):Int:=sgn (Qaw (posF (mixF a b (-1) 18) 1) 18) (Qaw (posF (mixF a b (-1) 18) (-1)) 18)
abbrev cpS2(n e:Int):SL:={sl:=[(4,i6 n),(5,i6 e)]}
theorem cmp_ok(a b:Nat→Int)(ha:inA a=true)(hb:inA b=true):FnOk Pg g0 45 [ar a,ar b] (.tup [i6 (cmpF a b),i6 0]):=by
 have h:=Qa5 a
 have h2:=Qa5 b
 rw[ha]at h
 rw[hb]at h2
 by_cases he: ∀i,i<18→a i=b i
 ·have hba : ar b = ar a := congrArg V.agg (Qbo fun k hk => (he k hk).symm)
  have hz:cmpF a b=0:=by
   unfold cmpF
   have e1: ∀s,Qaw (posF (mixF a b (-1) 18) s) 18=Qaw (fun _=>0) 18:=fun s=>Qa0 18 fun j hj=>by
    unfold posF
    rw[Qbm,if_pos hj,he j hj]
    have:b j+ -1*b j=0:=by omega
    rw[this,Int.mul_zero];rfl
   rw[e1,e1];simp[sgn]
  rw[hba,hz]
  refine FnOk.of_vc vE_ok mixed Qab (n:=1000) (r:=[]) (S:=cpS2 0 0) (hs:=[fn 8 (.bool true),fn 12 (.bool true),yes 17]) ?_
  refine Eq.mp (by kernel_rfl:(let z1:=[V.agg (arF a)];let z2:=V.bool true;let z3:=O.row 41 none (arF a);let z4:=(0:Int);let z0:=pt (pt T.e 0 z3) 1 z3;An [Sm (V.tup [i6 0,i6 0]),An [TT 18,Tt],FnOk Pg g0 82 z1 z2,Tt,An [TT 18,Tt],FnOk Pg g0 82 z1 z2,An [(V.fn 82 []=V.fn 82 []→z1=z1→z0=z0→0+1+1=2→Sm (CR.mk z2 z0 2 [])),Tt],(a 0==a 0&&(a 1==a 1&&(a 2==a 2&&(a 3==a 3&&(a 4==a 4&&(a 5==a 5&&(a 6==a 6&&(a 7==a 7&&(a 8==a 8&&(a 9==a 9&&(a 10==a 10&&(a 11==a 11&&(a 12==a 12&&(a 13==a 13&&(a 14==a 14&&(a 15==a 15&&(a 16==a 16&&(a 17==a 17&&true))))))))))))))))))=true,An [z4=z4,z4=z4,Tt],Tt])=_) ?_
  (repeat'(first|(with_reducible apply And.intro)|(refine fun(_:True)=>?_)))<;>first|exact aq|skip
  all_goals exact Qer.2 (fun _ _=>rfl)
 ·have hc := Qc4 a b (-1) (fun k hk => by have := Qe0 ha hk; omega) (fun k hk => by have := Qe0 hb hk; omega)
  have hbd: ∀i,i<18→ -4000≤mixF a b (-1) 18 i∧mixF a b (-1) 18 i≤4000:=fun i hi=>by
   rw[Qbm,if_pos hi]
   have:=Qe0 ha hi
   have:=Qe0 hb hi
   omega
  unfold cmpF
  generalize mixF a b (-1) 18=d at*
  obtain⟨u,u1,u2,u3,u4⟩:=Qnn d 1 (.inl rfl) hbd
  obtain⟨v,v1,v2,v3,v4⟩:=Qnn d (-1) (.inr rfl) hbd
  have l:=Qpv u v u1 v1 u3 v3
  rw[u2,v2]at l
  generalize sgn (Qaw (posF d 1) 18) (Qaw (posF d (-1)) 18)=r at*
  refine FnOk.of_vc vE_ok mixed Qab (n:=1000) (r:=[]) (S:=cpS2 r 0) (hs:=[fn 8 (.bool true),fn 12 (.bool true),no 17,fn 20 (ar d),fn 22 (lnV u),fn 24 (lnV v),fn 25 (i6 r)]) ?_
  refine Eq.mp (by kernel_rfl:(let z1:=pt (pt T.e 0 (O.row 41 none (arF a))) 1 (O.row 41 none (arF b));let z2:=V.agg (arF d);let z3:=V.bool true;let z4:=V.agg (arF a);let z5:=V.agg (arF b);let z0:=pt (pt z1 2 (O.row 41 none [i6 0,i6 0,i6 0,i6 0,i6 0,i6 0,i6 0,i6 0,i6 0,i6 0,i6 0,i6 0,i6 0,i6 0,i6 0,i6 0,i6 0,i6 0])) 2 (O.row 41 none (arF d));let z6:=[z2,i6 (-1)];An [Sm (V.tup [i6 r,i6 0]),An [TT 18,Tt],FnOk Pg g0 82 [z4] z3,Tt,An [TT 18,Tt],FnOk Pg g0 82 [z5] z3,An [(V.fn 82 []=V.fn 82 []→[z4]=[z5]→z1=z1→0+1+1=2→Sm (CR.mk z3 z1 2 [])),Tt],(a 0==b 0&&(a 1==b 1&&(a 2==b 2&&(a 3==b 3&&(a 4==b 4&&(a 5==b 5&&(a 6==b 6&&(a 7==b 7&&(a 8==b 8&&(a 9==b 9&&(a 10==b 10&&(a 11==b 11&&(a 12==b 12&&(a 13==b 13&&(a 14==b 14&&(a 15==b 15&&(a 16==b 16&&(a 17==b 17&&true))))))))))))))))))=false,An [TT 18,TT 18,Tt,Tt],FnOk Pg g0 79 [z4,z5,i6 (-1)] (ar d),Tt,An [TT 18,Tt,Tt],FnOk Pg g0 93 [z2,i6 1] (lnV u),Tt,An [TT 18,Tt,Tt],FnOk Pg g0 93 z6 (lnV v),An [(V.fn 93 []=V.fn 93 []→[z2,i6 1]=z6→z0=z0→0+1+1+1=3→CR.mk (lnV u) z0 3 []=CR.mk (lnV v) z0 3 []),Tt],TT 2,FnOk Pg g0 92 [V.im u.length (wt u),V.im v.length (wt v)] (i6 r),An [(V.fn 93 []=V.fn 92 []→z6=[lnV u,lnV v]→z0=z0→0+1+1+1=3→CR.mk (lnV v) z0 3 []=CR.mk (i6 r) z0 3 []),(V.fn 93 []=V.fn 92 []→[z2,i6 1]=[lnV u,lnV v]→z0=z0→0+1+1+1=3→CR.mk (lnV u) z0 3 []=CR.mk (i6 r) z0 3 []),Tt],An [r=r,Sm (0:Int),Tt],Tt])=_) ?_
  (repeat'(first|(with_reducible apply And.intro)|(refine fun(_:True)=>?_)))<;>first|exact aq|skip
  all_goals exact Qru he
def blF(f:Nat→List V)(n:Nat):List V:=(List.range n).flatMap f
theorem Qnv(f:Nat→List V):blF f 0=[]:=rfl
theorem Qa9(f:Nat→List V)(n:Nat):blF f (n+1)=blF f n++f n:=by
 unfold blF;rw[List.range_succ,List.flatMap_append];simp
theorem Ql8(f:Nat→List V)(n:Nat): ∀m,blF f (n+m)=blF f n++blF (fun i=>f (n+i)) m
 |0=>by rw[Qnv];simp
 |m+1=>by rw[show n+(m+1)=(n+m)+1 from rfl,Qa9,Ql8 f n m,Qa9,List.append_assoc]
theorem blF_cons(f:Nat→List V)(n:Nat):blF f (n+1)=f 0++blF (fun i=>f (i+1)) n:=by
 rw[Nat.add_comm,Ql8,show blF f 1=f 0 by unfold blF;simp]
 congr 1
 congr 1
 funext i
 rw[Nat.add_comm]
theorem Qbh{f g:Nat→List V}: ∀{n:Nat},(∀i,i<n→f i=g i)→blF f n=blF g n
 |0,_=>rfl
 |n+1,h=>by rw[Qa9,Qa9,Qbh (fun i hi=>h i (by omega)),h n (by omega)]
theorem Qdn{f:Nat→List V}{s:Nat}(hs: ∀k,(f k).length=s): ∀n,(blF f n).length=n*s
 |0=>by rw[Qnv];simp
 |n+1=>by rw[Qa9,List.length_append,Qdn hs n,hs,Nat.succ_mul]
theorem Qqz: ∀{a b:List V},HfL a→HfL b→HfL (a++b)
 |[],_,_,h=>h
 | _:: _,_,⟨h1,h2⟩,h=>⟨h1,Qqz h2 h⟩
theorem Qic{f:Nat→List V}(h: ∀k,HfL (f k)): ∀n,HfL (blF f n)
 |0=>trivial
 |n+1=>by rw[Qa9];exact Qqz (Qic h n) (h n)
theorem Qfm(f:Nat→List V){k n:Nat}(h:k<n):blF f n=blF f k++(f k++blF (fun i=>f (k+1+i)) (n-(k+1))):=by
 have e:n=(k+1)+(n-(k+1)):=by omega
 rw[e,Ql8,Qa9,List.append_assoc]
 rw[show k+1+(n-(k+1))-(k+1)=n-(k+1)by omega]
theorem Qn4{f:Nat→List V}{s:Nat}(hs: ∀k,(f k).length=s){k n:Nat}(h:k<n):(blF f n).drop (k*s)=f k++blF (fun i=>f (k+1+i)) (n-(k+1)):=by
 rw[Qfm f h,List.drop_append,Qdn hs,Nat.sub_self,List.drop_eq_nil_of_le (by rw[Qdn hs];omega)]
 simp
theorem take_blF{f:Nat→List V}{s:Nat}(hs: ∀k,(f k).length=s){k n:Nat}(h:k<n):takeE s ((blF f n).drop (k*s))=some (f k):=by
 rw[Qn4 hs h,Qjq]
 have:Nat.ble s (f k++blF (fun i=>f (k+1+i)) (n-(k+1))).length=true:=Nat.ble_eq_true_of_le (by rw[List.length_append,hs];omega)
 rw[this,cond_true,List.take_append_of_le_length (by rw[hs];omega),List.take_of_length_le (by rw[hs];omega)]
theorem Qt9{f:Nat→List V}{s:Nat}(hs: ∀k,(f k).length=s){k n:Nat}(h:k<n):takeE s (dropF (k*s) (blF f n))=some (f k):=by rw[Qaq];exact take_blF hs h
def upB(f:Nat→List V)(k:Nat)(x:List V):Nat→List V:=fun i=>if i=k then x else f i
theorem Qmn{f:Nat→List V}{s:Nat}(hs: ∀k,(f k).length=s){k n:Nat}(h:k<n){x:List V}(hx:x.length=s):layE (k*s) (blF f n) x=some (blF (upB f k x) n):=by
 have hle:k*s+s≤n*s:=by rw[←Nat.succ_mul];exact Nat.mul_le_mul_right _ h
 rw[Qc9,Qdn hs]
 have:Nat.ble (k*s+x.length) (n*s)=true:=Nat.ble_eq_true_of_le (by rw[hx];exact hle)
 rw[this,cond_true,hx,←Nat.succ_mul]
 congr 1
 rw[Qfm (upB f k x) h]
 have e1:blF (upB f k x) k=blF f k:=Qbh fun i hi=>by unfold upB;rw[if_neg (by omega)]
 have e2:(fun i=>upB f k x (k+1+i))=fun i=>f (k+1+i):=by funext i;unfold upB;rw[if_neg (by omega)]
 have e3:upB f k x k=x:=by unfold upB;rw[if_pos rfl]
 rw[e1,e2,e3,List.append_assoc]
 have t1:(blF f n).take (k*s)=blF f k:=by
  rw[Qfm f h,List.take_append_of_le_length (by rw[Qdn hs];omega),List.take_of_length_le (by rw[Qdn hs];omega)]
 have t2:(blF f n).drop (k.succ*s)=blF (fun i=>f (k+1+i)) (n-(k+1)):=by
  rw[Nat.succ_mul,←List.drop_drop,Qn4 hs h,List.drop_append,hs,Nat.sub_self,List.drop_eq_nil_of_le (by rw[hs];omega)]
  simp
 rw[t1,t2]
theorem Qgr{z:List V}: ∀n,rep n z=blF (fun _=>z) n
 |0=>rfl
 |n+1=>by rw[rep,Qgr n,blF_cons]
def entM(q:Nat→Nat×Nat):Nat→List (V×V×Nat)
 |0=>[]
 |k+1=>entM q k++[(.agg [i6 ((q k).1:Nat),u6 ((q k).2:Nat)],i6 (k:Nat),k)]
def upQ(q:Nat→Nat×Nat)(k:Nat)(x:Nat×Nat):Nat→Nat×Nat:=fun j=>if j=k then x else q j
theorem Qn8(q:Nat→Nat×Nat): ∀k,(entM q k).length=k
 |0=>rfl
 |k+1=>by rw[entM,List.length_append,Qn8 q k];rfl
theorem Qho{q r:Nat→Nat×Nat}: ∀{k:Nat},(∀j,j<k→q j=r j)→entM q k=entM r k
 |0,_=>rfl
 |k+1,h=>by rw[entM,entM,Qho (fun j hj=>h j (by omega)),h k (by omega)]
theorem Qrs(q:Nat→Nat×Nat)(k v p:Nat):entM (upQ q k (v,p)) (k+1)=entM q k++[(.agg [i6 (v:Nat),u6 (p:Nat)],i6 (k:Nat),k)]:=by
 have e:upQ q k (v,p) k=(v,p):=if_pos rfl
 rw[entM,e,Qho (q:=upQ q k (v,p)) (r:=q) (fun j hj=>if_neg (by omega))]
theorem Qqy: ∀{a b:List (V×V×Nat)},HfE a→HfE b→HfE (a++b)
 |[],_,_,h=>h
 | _:: _,_,h,k=>⟨h.1,h.2.1,Qqy h.2.2 k⟩
theorem Qac(q:Nat→Nat×Nat): ∀k,HfE (entM q k)
 |0=>trivial
 |k+1=>Qqy (Qac q k) ⟨⟨trivial,trivial,trivial⟩,trivial,trivial⟩
theorem Qhs{ks:List Bool}{xs ys:List V}{v:V}{n:Nat}{es:List (V×V×Nat)}{i:Nat}:findS ks xs ((.agg ys,v,n)::es) i=(match eqL ks xs ys with|some true=>some (some (i,v))|some false=>findS ks xs es (i+1)|none=>none):=rfl
theorem Qfx{ks:List Bool}{xs:List V}{b:List (V×V×Nat)}: ∀{a:List (V×V×Nat)}{i:Nat},(findS ks xs a i=some none→findS ks xs (a++b) i=findS ks xs b (i+a.length))∧(∀r,findS ks xs a i=some (some r)→findS ks xs (a++b) i=some (some r))
 |[],i=>⟨fun _=>rfl,fun r h=>by cases h⟩
 | (k, v, n) :: a, i => by
  have ih:=@Qfx ks xs b a (i+1)
  cases k with
  | agg ys =>
   rw[List.cons_append,Qhs,Qhs]
   cases eqL ks xs ys with
   |none=>exact⟨fun h=>(by cases h),fun r h=>(by cases h)⟩
   | some t =>
    cases t with
    |true=>exact⟨fun h=>(by cases h),fun r h=>h⟩
    |false=>
     dsimp only
     refine⟨fun h=>?_,fun r h=>ih.2 r h⟩
     rw[ih.1 h,List.length_cons,show i+1+a.length=i+(a.length+1)by omega]
  | _=>exact⟨fun h=>(by simp[findS]at h),fun r h=>(by simp[findS]at h)⟩
theorem find_entM(q:Nat→Nat×Nat)(v p:Nat): ∀k,(∃j,j<k∧q j=(v,p)∧findS [true,true] [i6 (v:Nat),u6 (p:Nat)] (entM q k) 0=some (some (j,i6 (j:Nat))))∨((∀j,j<k→q j≠(v,p))∧findS [true,true] [i6 (v:Nat),u6 (p:Nat)] (entM q k) 0=some none)
 |0=>.inr ⟨fun j h=>absurd h (Nat.not_lt_zero _),rfl⟩
 | k + 1 => by
  rcases find_entM q v p k with⟨j,h1,h2,h3⟩|⟨h1,h2⟩
  ·exact .inl ⟨j,by omega,h2,by rw[entM];exact Qfx.2 _ h3⟩
  ·have e : findS [true, true] [i6 (v : Nat), u6 (p : Nat)] (entM q (k + 1)) 0 = findS [true, true] [i6 (v : Nat), u6 (p : Nat)] [(.agg [i6 ((q k).1 : Nat), u6 ((q k).2 : Nat)], i6 (k : Nat), k)] k := by
    rw[entM,Qfx.1 h2,Nat.zero_add,Qn8]
   have e2:findS [true,true] [i6 (v:Nat),u6 (p:Nat)] [(.agg [i6 ((q k).1:Nat),u6 ((q k).2:Nat)],i6 (k:Nat),k)] k=(match some (((v:Int)==((q k).1:Int))&&(((p:Int)==((q k).2:Int))&&true))with|some true=>some (some (k,i6 (k:Nat)))|some false=>some none|none=>none):=by
    rfl
   by_cases hq:q k=(v,p)
   ·refine .inl ⟨k, by omega, hq, ?_⟩
    rw[e,e2,hq];simp
   ·refine .inr ⟨fun j hj => ?_, ?_⟩
    ·by_cases ej : j = k
     ·rw[ej];exact hq
     ·exact h1 j (by omega)
    ·rw [e, e2]
     have:(((v:Int)==((q k).1:Int))&&(((p:Int)==((q k).2:Int))&&true))=false:=by
      cases hb:(((v:Int)==((q k).1:Int))&&(((p:Int)==((q k).2:Int))&&true))with
      |false=>rfl
      |true=>
       simp only[Bool.and_true,Bool.and_eq_true,beq_iff_eq]at hb
       exact absurd (Prod.ext (by dsimp only;omega) (by dsimp only;omega)) hq
     rw[this]
abbrev bF(B:Nat→Nat→Int)(n:Nat):List V:=blF (fun i=>arF (B i)) n
theorem bF_len(B:Nat→Nat→Int)(n:Nat):(bF B n).length=n*18:=Qdn (s:=18) (fun _=>rfl) n
theorem Qaa(B:Nat→Nat→Int)(n:Nat):HfL (bF B n):=Qic (fun k=>HfL_ar (B k)) n
theorem Qa3{B:Nat→Nat→Int}{n j:Nat}(h:j<n):takeE 18 (dropF (j*18) (bF B n))=some (arF (B j)):=Qt9 (f:=fun i=>arF (B i)) (s:=18) (fun _=>rfl) h
theorem Qea{B:Nat→Nat→Int}{n j:Nat}(h:j<n)(x:Nat→Int):layE (0+j*18) (bF B n) (arF x)=some (bF (fun i=>if i=j then x else B i) n):=by
 rw[Nat.zero_add,Qmn (f:=fun i=>arF (B i)) (s:=18) (x:=arF x) (fun _=>rfl) h rfl]
 congr 1
 refine Qbh fun i hi=>?_
 unfold upB
 dsimp only
 split<;>rfl
abbrev scF(F:Nat→Nat→Nat→Int)(q:Nat→Nat×Nat):Nat→Nat→Int:=fun j=>F (q j).1 (q j).2
theorem scF_up(F:Nat→Nat→Nat→Int)(q:Nat→Nat×Nat)(k v p:Nat):bF (scF F (upQ q k (v,p))) (k+1)=bF (scF F q) k++arF (F v p):=by
 have e:upQ q k (v,p) k=(v,p):=if_pos rfl
 show blF _ (k+1)=_
 rw[Qa9]
 congr 1
 ·exact Qbh fun i hi=>by show arF (F (upQ q k (v,p) i).1 _)=arF (F (q i).1 _);rw[show upQ q k (v,p) i=q i from if_neg (by omega)]
 ·show arF (F (upQ q k (v,p) k).1 _)=_;rw[e]
mutual
theorem Hf.sc{D:Nat→Prop}: ∀(x:V),Hf x→Sc D x
 | .bool _,_| .int _ _,_| .str _,_| .nilp,_| .nilf,_| .nili,_| .nils,_| .nilm,_| .im _ _,_| .imp _,_=>trivial
 | .fn _ l,h=>HfL.sc l h
 | .agg l,h=>HfL.sc l h
 | .tup l,h=>HfL.sc l h
 | .ifc _ x,h=>Hf.sc x h
 | .ptr _ _,h| .sl _ _ _ _,h| .mp _,h| .yld _,h=>h.elim
theorem HfL.sc{D:Nat→Prop}: ∀(l:List V),HfL l→ScL D l
 |[],_=>trivial
 |x::xs,h=>⟨Hf.sc x h.1,HfL.sc xs h.2⟩
end
theorem HfE.sc{D:Nat→Prop}: ∀(l:List (V×V×Nat)),HfE l→ScE D l
 |[],_=>trivial
 |(k,v,_)::es,h=>⟨Hf.sc k h.1,Hf.sc v h.2.1,HfE.sc es h.2.2⟩
theorem CallSpec.dropTo{P:Program}{gl:T (List V)}{f0:Nat}{caps ars:List V}{H H' H'':T O}{nx nx1 nx':Nat}{v:V}{lg:List Nat}(hnx:nx≤nx1)(hle:nx1≤nx')(h:CallSpec P gl (.fn f0 caps) ars H nx ⟨v,H',nx',lg⟩)(hv:Sc (fun i=>i<nx1) v)(h1: ∀i,i<nx1→H''.get i=H'.get i)(h2: ∀i,nx1≤i→H''.get i=none)(h3: ∀i o,H''.get i=some o→ScO (fun i=>i<nx1) o)(hlog:Log H.get nx H''.get nx1 lg):CallSpec P gl (.fn f0 caps) ars H nx ⟨v,H'',nx1,lg⟩:=by
 refine⟨fun s w fv vals a1 a2 a3 a4 a5=>?_,hlog⟩
 obtain⟨next,e1,e2,e3⟩:=h.1 s w fv vals a1 a2 a3 a4 a5
 refine⟨next,e1,?_,e3⟩
 obtain⟨f',ars2,rfl⟩:=e3 ⟨f0,caps,rfl⟩
 refine CallsIn.mono e2 ?_
 rintro e w' ⟨u,s',rfl,g1,g2,g3,g4,g5⟩
 dsimp only at g4 g5
 have hdom: ∀i,s'.dom i∧i<nx1↔s.dom i∨nx≤i∧i<nx1:=fun i=>⟨fun⟨hd,hi⟩=>((g4 i).1 hd).imp id (fun⟨h,_⟩=>⟨h,hi⟩),fun hd=>hd.elim (fun hd=>⟨(g4 i).2 (.inl hd),Nat.lt_of_not_le fun h=>a5 i (by omega) hd⟩) (fun⟨h1,h2⟩=>⟨(g4 i).2 (.inr ⟨h1,by omega⟩),h2⟩)⟩
 refine⟨u,s'.cut (fun i=>i<nx1) s'.mark,rfl,RV.cut _ _ g1 hv,⟨fun i o ho hl=>?_,fun i j o o' ho ho' hl hl' e=>?_,g2.old⟩,⟨⟨⟨g3.le.μ,g3.le.cp,fun i hd=>(hdom i).2 (.inl hd),g3.le.fz⟩,g3.le.mark⟩,g3.fz,g3.kept,g3.mod,fun i hd hn=>g3.new i hd.1 hn⟩,hdom,hnx⟩
 ·have hi : i < nx1 := Nat.lt_of_not_le fun hle => by rw [h2 i hle] at ho; cases ho
  have ho':=ho
  dsimp only at ho'
  rw[h1 i hi]at ho'
  obtain⟨b1,b2,b3,b4⟩:=g2.obj i o ho' hl
  exact⟨⟨b1,hi⟩,b2,b3,RO.cut b4 (h3 i o ho)⟩
 ·have hi : i < nx1 := Nat.lt_of_not_le fun hle => by rw [h2 i hle] at ho; cases ho
  have hj:j<nx1:=Nat.lt_of_not_le fun hle=>by rw[h2 j hle]at ho';cases ho'
  dsimp only at ho ho'
  rw[h1 i hi]at ho
  rw[h1 j hj]at ho'
  exact g2.inj i j o o' ho ho' hl hl' e
theorem CallSpec.dropL{P:Program}{gl:T (List V)}{f0:Nat}{caps ars:List V}{os os1:List O}(os2:List O){v:V}{lg:List Nat}(h:CallSpec P gl (.fn f0 caps) ars (ofOs .e 0 os) os.length ⟨v,ofOs .e 0 (os1++os2),(os1++os2).length,lg⟩)(hl:os.length≤os1.length)(hv:Sc (fun i=>i<os1.length) v)(h3: ∀o∈os1,ScO (fun i=>i<os1.length) o)(hlog: ∀i,i<os.length→i∉lg→os1[i]? =os[i]?):CallSpec P gl (.fn f0 caps) ars (ofOs .e 0 os) os.length ⟨v,ofOs .e 0 os1,os1.length,lg⟩:=by
 refine CallSpec.dropTo hl (by rw[List.length_append];omega) h hv (fun i hi=>?_) (fun i hi=>Qbj (by omega)) (fun i o ho=>?_) ⟨hl,fun i hn hi=>?_⟩
 ·rw[Qb2 _ _ _ _ (Nat.zero_le _) (by omega),Qb2 _ _ _ _ (Nat.zero_le _) (by rw[List.length_append];omega),Nat.sub_zero,List.getElem?_append_left (by omega)]
 ·rcases ofOs_get os1 .e 0 i o ho with ⟨_, k⟩ | k
  ·exact h3 o (List.mem_of_getElem? k)
  ·simp at k
 ·by_cases h1 : i < os.length
  ·rw [Qb2 _ _ _ _ (Nat.zero_le _) (by omega), Qb2 _ _ _ _ (Nat.zero_le _) (by omega), Nat.sub_zero]
   exact hlog i h1 hn
  ·rw[Qbj (by omega),Qbj (by omega)]
set_option maxHeartbeats 1000000
set_option maxRecDepth 100000
section
variable (cards:List Int) (cs:List (List Int)) (F:Nat→Nat→Nat→Int) (B:Nat→Nat→Int) (size:Nat) (q:Nat→Nat×Nat)
abbrev toC(hb hm hs k:Nat):List V:=[sl cards,gC cs,.sl hb 0 size (some (size-size)),.mp hm,owV hs k]
abbrev toO0:List O:=[.row 41 none (bF B size),.map (entM q 0) 0,.row 158 none (toC cards cs size 0 1 3 0)]
abbrev toO1(k:Nat):List O:=[.row 41 none (bF B size),.map (entM q (k+1)) (k+1),.row 158 none (toC cards cs size 0 1 3 (k+1)),.row 41 (some 18) (bF (scF F q) (k+1))]
end
theorem Qar(cs:List (List Int)):HfL (cs.map sl):=Qb3 _ _ fun _=>trivial
theorem to_sc(cards:List Int)(cs:List (List Int))(F:Nat→Nat→Nat→Int)(B:Nat→Nat→Int)(size:Nat)(q:Nat→Nat×Nat)(k n:Nat)(hn:4≤n): ∀o∈toO1 cards cs F B size q k,ScO (fun i=>i<n) o:=by
 intro o ho
 simp only[List.mem_cons,List.not_mem_nil,or_false]at ho
 rcases ho with rfl|rfl|rfl|rfl
 ·exact HfL.sc _ (Qaa _ _)
 ·exact HfE.sc _ (Qac _ _)
 ·exact⟨trivial,trivial,(show 0<n by omega),(show 1<n by omega),(show 3<n by omega),trivial⟩
 ·exact HfL.sc _ (Qaa _ _)
theorem fam_hit(cards:List Int)(cs:List (List Int))(F:Nat→Nat→Nat→Int)(B:Nat→Nat→Int)(size:Nat)(q:Nat→Nat×Nat)(k v p j:Nat)(hj:j<k+1)(hq:q j=(v,p))(hf:findS [true,true] [i6 (v:Nat),u6 (p:Nat)] (entM q (k+1)) 0=some (some (j,i6 (j:Nat)))):
  CallSpec Pg g0 (.fn 111 []) [.ptr 2 0,i6 (v:Nat),u6 (p:Nat)] (ofOs .e 0 (toO1 cards cs F B size q k)) 4 ⟨.tup [ar (F v p),i6 0],ofOs .e 0 (toO1 cards cs F B size q k),4,[]⟩:=by
 have h:=CallSpec.of_vcH (P:=Pg) (E:=vE) vE_ok mixed Qab (n:=1000) (f:=111) (os0:=toO1 cards cs F B size q k) (ars:=[.ptr 2 0,i6 (v:Nat),u6 (p:Nat)]) (r:=[4])
  (S := { sl := [(6, .ptr 4 0), (7, i6 0)], os := toO1 cards cs F B size q k ++ [.row 41 none (arF (F v p))], md := [0, 0, 1] }) (v := .tup [ar (F v p), i6 0]) (hs := [lk 22 (entM q (k + 1)) (k + 1) (some (j, i6 (j : Nat))), pl 31, ld 32 (ar (F v p))]) (gl := g0) (by simp) (fun i hi _ => by
   rcases(show i=0∨i=1∨i=2∨i=3 by simp at hi;omega)with rfl|rfl|rfl|rfl<;>rfl) (by
  have hB:=Qaa B size
  have hS:=Qaa (scF F q) (k+1)
  have hE:=Qac q (k+1)
  have hc:=Qae cards
  have hg:=Qar cs
  have ht:=@Qa3 (scF F q) (k+1) j hj
  have e1:scF F q j=F v p:=by show F (q j).1 (q j).2=_;rw[hq]
  rw[e1]at ht
  clear e1 hq
  refine Eq.mp (by kernel_rfl:(let z0:=bF (scF F q) (k+1);let z1:=entM q (k+1);let z2:=arF (F v p);An [V.tup [V.agg z2,i6 0]=V.tup [ar (F v p),i6 0],An [gt (pt (pt (pt (ofOs T.e 0 (toO1 cards cs F B size q k)) 4 (O.row 41 none [i6 0,i6 0,i6 0,i6 0,i6 0,i6 0,i6 0,i6 0,i6 0,i6 0,i6 0,i6 0,i6 0,i6 0,i6 0,i6 0,i6 0,i6 0])) 5 (O.row 209 none [i6 0,u6 0])) 5 (O.row 209 none [i6 ↑v,u6 ↑p])) 1=some (O.map z1 (k+1)),findS [true,true] [i6 ↑v,u6 ↑p] z1 0=some (some (j,i6 ↑j))],An [(0:Int)≤(↑j:Int),(↑j:Int)<(↑(k+1):Int)],takeE 18 (dropF (0+j*18) z0)=some z2,An [Zz,Sm (0:Int),Tt],An [Sm (bF B size),HfL (bF B size)],An [z1=z1,HfE z1,Sm (k+1)],An [An [Sm cards.length,Sm (ints cards)],An [Sm cs.length,Sm (List.map sl cs)],An [Zz,Sm size,Sm (size-size)],Tt,An [Zz,Sm (k+1),Tt],Tt],An [z0=z0,HfL z0],An [z2=z2,TT 18],Tt])=_) ?_
  (repeat'(first|(with_reducible apply And.intro)|(refine fun(_:True)=>?_)))
  all_goals first|exact aq|exact hf|exact hB|exact hS|(rw[Nat.zero_add];exact ht)|exact hE|(show gt _ 1=some (O.map _ _);kernel_rfl)|rfl|skip)
 exact CallSpec.dropL (os1:=toO1 cards cs F B size q k) [.row 41 none (arF (F v p))] h (Nat.le_refl _) ⟨HfL.sc _ (HfL_ar _),trivial,trivial⟩ (to_sc cards cs F B size q k 4 (Nat.le_refl _)) (fun i hi _=>rfl)
theorem Qr5(cards:List Int)(cs:List (List Int))(F:Nat→Nat→Nat→Int)(B:Nat→Nat→Int)(size:Nat)(q:Nat→Nat×Nat)(v p:Nat)(hsc:FnOk Pg g0 22 [gV cards cs,i6 (v:Nat),u6 (p:Nat)] (.tup [ar (F v p),i6 0])):
  CallSpec Pg g0 (.fn 111 []) [.ptr 2 0,i6 (v:Nat),u6 (p:Nat)] (ofOs .e 0 (toO0 cards cs B size q)) 3 ⟨.tup [ar (F v p),i6 0],ofOs .e 0 (toO1 cards cs F B size (upQ q 0 (v,p)) 0),4,[1,2]⟩:=by
 have h:=CallSpec.of_vcH (P:=Pg) (E:=vE) vE_ok mixed Qab (n:=1000) (f:=111) (os0:=toO0 cards cs B size q) (ars:=[.ptr 2 0,i6 (v:Nat),u6 (p:Nat)]) (r:=[7,3])
  (S := { sl := [(6, .ptr 4 0), (7, i6 0)], os := toO1 cards cs F B size (upQ q 0 (v, p)) 0 ++ [.row 41 none (arF (F v p))], md := [0, 0, 1], lg := [1, 2] }) (v := .tup [ar (F v p), i6 0]) (hs := [lk 22 [] 0 none, fn 40 (.tup [ar (F v p), i6 0]), st (arF (F v p)), up [] 0 (.map [(.agg [i6 (v : Nat), u6 (p : Nat)], i6 0, 0)] 1)]) (gl := g0) (by simp) (fun i hi hno => by
   rcases(show i=0∨i=1∨i=2 by simp at hi;omega)with rfl|rfl|rfl
   ·rfl
   ·simp at hno
   ·simp at hno) (by
  have hB:=Qaa B size
  have hc:=Qae cards
  have hg:=Qar cs
  have e1:=scF_up F q 0 v p
  have e2:=Qrs q 0 v p
  have hE:HfE (entM (upQ q 0 (v,p)) (0+1)):=Qac _ _
  have hS:HfL (bF (scF F (upQ q 0 (v,p))) (0+1)):=Qaa _ _
  refine Eq.mp (by kernel_rfl:(let z0:=[i6 0,i6 0,i6 0,i6 0,i6 0,i6 0,i6 0,i6 0,i6 0,i6 0,i6 0,i6 0,i6 0,i6 0,i6 0,i6 0,i6 0,i6 0];let z2:=[i6 ↑v,u6 ↑p];let z3:=arF (F v p);let z4:=upQ q 0 (v,p);let z5:=List.map sl cs;let z6:=V.tup [ar (F v p),i6 0];let z1:=pt (pt (pt (ofOs T.e 0 (toO0 cards cs B size q)) 3 (O.row 41 none z0)) 4 (O.row 209 none [i6 0,u6 0])) 4 (O.row 209 none z2);An [V.tup [V.agg z3,i6 0]=z6,An [gt z1 1=some (O.map [] 0),findS [true,true] z2 [] 0=some none],An [TT 2,TT 2],FnOk Pg g0 22 [V.agg [V.im cards.length (ints cards),V.im cs.length z5],i6 ↑v,u6 ↑p] z6,Tt,layE 0 z0 z3=some z3,An [gt (pt (pt z1 5 (O.row 41 none z0)) 5 (O.row 41 none z3)) 1=some (O.map [] 0),putS [true,true] z2 (i6 ↑(0:Nat)) [] 0=some (O.map [(V.agg z2,i6 0,0)] 1)],An [Zz,Sm (0:Int),Tt],An [Sm (bF B size),HfL (bF B size)],An [entM z4 1=[(V.agg z2,i6 0,0)],HfE (entM z4 1),1=1],An [An [Sm cards.length,Sm (ints cards)],An [Sm cs.length,z5=z5],An [Zz,Sm size,Sm (size-size)],Tt,An [Zz,1=1,Tt],Tt],An [bF (scF F z4) 1=z3,TT 18],An [z3=z3,TT 18],Tt])=_) ?_
  (repeat'(first|(with_reducible apply And.intro)|(refine fun(_:True)=>?_)))
  all_goals first|exact aq|exact hB|exact hS|exact hE|exact e1|exact e2|(show gt _ 1=some (O.map _ _);kernel_rfl)|rfl|skip)
 exact CallSpec.dropL (os1:=toO1 cards cs F B size (upQ q 0 (v,p)) 0) [.row 41 none (arF (F v p))] h (by simp) ⟨HfL.sc _ (HfL_ar _),trivial,trivial⟩ (to_sc cards cs F B size _ 0 4 (Nat.le_refl _)) (fun i hi hno=>by
  rcases(show i=0∨i=1∨i=2 by simp at hi;omega)with rfl|rfl|rfl
  ·rfl
  ·simp at hno
  ·simp at hno)
abbrev toO2(cards:List Int)(cs:List (List Int))(F:Nat→Nat→Nat→Int)(B:Nat→Nat→Int)(size:Nat)(q:Nat→Nat×Nat)(k:Nat):List O:=[.row 41 none (bF B size),.map (entM q (k+1)) (k+1),.row 158 none (toC cards cs size 0 1 4 (k+1)),.dead,.row 41 (some 18) (bF (scF F q) (k+1))]
theorem to_sc2(cards:List Int)(cs:List (List Int))(F:Nat→Nat→Nat→Int)(B:Nat→Nat→Int)(size:Nat)(q:Nat→Nat×Nat)(k n:Nat)(hn:5≤n): ∀o∈toO2 cards cs F B size q k,ScO (fun i=>i<n) o:=by
 intro o ho
 simp only[List.mem_cons,List.not_mem_nil,or_false]at ho
 rcases ho with rfl|rfl|rfl|rfl|rfl
 ·exact HfL.sc _ (Qaa _ _)
 ·exact HfE.sc _ (Qac _ _)
 ·exact⟨trivial,trivial,(show 0<n by omega),(show 1<n by omega),(show 4<n by omega),trivial⟩
 ·trivial
 ·exact HfL.sc _ (Qaa _ _)
theorem Qr6(cards:List Int)(cs:List (List Int))(F:Nat→Nat→Nat→Int)(B:Nat→Nat→Int)(size:Nat)(q:Nat→Nat×Nat)(k v p:Nat)(hk:k≤1000000)(hf:findS [true,true] [i6 (v:Nat),u6 (p:Nat)] (entM q (k+1)) 0=some none)(hsc:FnOk Pg g0 22 [gV cards cs,i6 (v:Nat),u6 (p:Nat)] (.tup [ar (F v p),i6 0])):
  CallSpec Pg g0 (.fn 111 []) [.ptr 2 0,i6 (v:Nat),u6 (p:Nat)] (ofOs .e 0 (toO1 cards cs F B size q k)) 4 ⟨.tup [ar (F v p),i6 0],ofOs .e 0 (toO2 cards cs F B size (upQ q (k+1) (v,p)) (k+1)),5,[1,2,3]⟩:=by
 have h:=CallSpec.of_vcH (P:=Pg) (E:=vE) vE_ok mixed Qab (n:=1000) (f:=111) (os0:=toO1 cards cs F B size q k) (ars:=[.ptr 2 0,i6 (v:Nat),u6 (p:Nat)]) (r:=[8,4])
  (S := { sl := [(6, .ptr 5 0), (7, i6 0)], os := toO2 cards cs F B size (upQ q (k + 1) (v, p)) (k + 1) ++ [.row 41 none (arF (F v p))], md := [0, 0, 1], lg := [1, 2, 3] }) (v := .tup [ar (F v p), i6 0]) (hs := [lk 22 (entM q (k + 1)) (k + 1) none, fn 40 (.tup [ar (F v p), i6 0]), st (arF (F v p)), up (entM q (k + 1)) (k + 1) (.map (entM (upQ q (k + 1) (v, p)) (k + 1 + 1)) (k + 1 + 1)), ap 64]) (gl := g0) (by simp) (fun i hi hno => by
   rcases(show i=0∨i=1∨i=2∨i=3 by simp at hi;omega)with rfl|rfl|rfl|rfl
   ·rfl
   ·simp at hno
   ·simp at hno
   ·simp at hno) (by
  have hB:=Qaa B size
  have hc:=Qae cards
  have hg:=Qar cs
  have e1:=scF_up F q (k+1) v p
  have e2:=Qrs q (k+1) v p
  have e3:putS [true,true] [i6 (v:Nat),u6 (p:Nat)] (i6 ((k+1:Nat):Int)) (entM q (k+1)) (k+1)=some (.map (entM (upQ q (k+1) (v,p)) (k+1+1)) (k+1+1)):=by
   unfold putS;rw[hf,e2]
  have hl:=bF_len (scF F q) (k+1)
  have hE:=Qac (upQ q (k+1) (v,p)) (k+1+1)
  have hS:HfL (bF (scF F (upQ q (k+1) (v,p))) (k+1+1)):=Qaa _ _
  have hS0:HfL (bF (scF F q) (k+1)):=Qaa _ _
  refine Eq.mp (by kernel_rfl:(let z0:=[i6 0,i6 0,i6 0,i6 0,i6 0,i6 0,i6 0,i6 0,i6 0,i6 0,i6 0,i6 0,i6 0,i6 0,i6 0,i6 0,i6 0,i6 0];let z3:=arF (F v p);let z5:=entM q (k+1);let z6:=[i6 ↑v,u6 ↑p];let z7:=List.map sl cs;let z8:=V.tup [ar (F v p),i6 0];let z9:=upQ q (k+1) (v,p);let y1:=bF (scF F q) (k+1);let z1:=pt (pt (pt (ofOs T.e 0 (toO1 cards cs F B size q k)) 4 (O.row 41 none z0)) 5 (O.row 209 none [i6 0,u6 0])) 5 (O.row 209 none z6);let z2:=entM z9 (k+1+1);let z4:=bF (scF F z9) (k+1+1);let y0:=some (O.map z5 (k+1));An [V.tup [V.agg z3,i6 0]=z8,An [gt z1 1=y0,findS [true,true] z6 z5 0=some none],An [TT 2,TT 2],FnOk Pg g0 22 [V.agg [V.im cards.length (ints cards),V.im cs.length z7],i6 ↑v,u6 ↑p] z8,Tt,layE 0 z0 z3=some z3,An [gt (pt (pt z1 6 (O.row 41 none z0)) 6 (O.row 41 none z3)) 1=y0,putS [true,true] z6 (i6 ↑(k+1)) z5 (k+1)=some (O.map z2 (k+1+1))],y1.length=(k+1)*18,k+1+1≤9223372036854775807,(k+1+1)*144≤140737488355328,An [Zz,Sm (0:Int),Tt],An [Sm (bF B size),HfL (bF B size)],An [z2=z2,HfE z2,Sm (k+1+1)],An [An [Sm cards.length,Sm (ints cards)],An [Sm cs.length,z7=z7],An [Zz,Sm size,Sm (size-size)],Tt,An [Zz,Nat.succ k+1=k+1+1,Tt],Tt],Tt,An [z4=y1++z3,HfL z4],An [z3=z3,TT 18],Tt])=_) ?_
  (repeat'(first|(with_reducible apply And.intro)|(refine fun(_:True)=>?_)))
  all_goals first|exact aq|exact hB|exact hS|exact hS0|exact hE|exact hf|exact e3|exact e1|exact e1.symm|exact hl|(show gt _ 1=some (O.map _ _);kernel_rfl)|rfl|skip)
 exact CallSpec.dropL (os1:=toO2 cards cs F B size (upQ q (k+1) (v,p)) (k+1)) [.row 41 none (arF (F v p))] h (by simp) ⟨HfL.sc _ (HfL_ar _),trivial,trivial⟩ (to_sc2 cards cs F B size _ (k+1) 5 (Nat.le_refl _)) (fun i hi hno=>by
  rcases(show i=0∨i=1∨i=2∨i=3 by simp at hi;omega)with rfl|rfl|rfl|rfl
  ·rfl
  ·simp at hno
  ·simp at hno
  ·simp at hno)
set_option maxHeartbeats 1000000
set_option maxRecDepth 100000
abbrev z18:List V:=arF (fun _=>0)
theorem Qo5(cards:List Int)(cs:List (List Int))(F:Nat→Nat→Nat→Int)(B:Nat→Nat→Int)(size:Nat)(q:Nat→Nat×Nat)(k s t v p b j:Nat)(x:Nat→Int)(hj:j<k+1)(hq:q j=(v,p))(hf:findS [true,true] [i6 (v:Nat),u6 (p:Nat)] (entM q (k+1)) 0=some (some (j,i6 (j:Nat))))(ht:t<size)
  (h1: ∀G T,binV G .shl T (i6 1) (i6 (v:Nat))=some (i6 (b:Nat)))(h2: ∀G T,binV G .andNot T (i6 (s:Nat)) (i6 (b:Nat))=some (i6 (t:Nat)))(hadd:FnOk Pg g0 34 [ar (B t),ar (F v p)] (.tup [ar x,i6 0])):
  CallSpec Pg g0 (.fn 90 []) [.ptr 2 0,i6 (s:Nat),i6 (v:Nat),u6 (p:Nat)] (ofOs .e 0 (toO1 cards cs F B size q k)) 4 ⟨.tup [ar x,i6 0],ofOs .e 0 (toO1 cards cs F B size q k),4,[]⟩:=by
 have hB:=Qaa B size
 have hS:=Qaa (scF F q) (k+1)
 have hE:=Qac q (k+1)
 have hE0:=hE
 have hS0:=hS
 have hc:=Qae cards
 have hg:=Qar cs
 have htk:=@Qa3 B size t ht
 have hcall:CallSpec Pg g0 (.fn 111 []) [.ptr 2 0,i6 (v:Nat),u6 (p:Nat)] (ofOs .e 0 (toO1 cards cs F B size q k++[.row 41 none z18])) 5 ⟨.tup [ar (F v p),i6 0],ofOs .e 0 (toO1 cards cs F B size q k++[.row 41 none z18]),5,[]⟩:=
  CallSpec.frameL (OS:=toO1 cards cs F B size q k++[.row 41 none z18]) (OS':=toO1 cards cs F B size q k++[.row 41 none z18]) [0,1,2,3] [(0,0),(1,1),(2,2),(3,3)] [0,0,1] [0,0,1] (fam_hit cards cs F B size q k v p j hj hq hf) (by kernel_rfl) (by
   refine Eq.mp (by kernel_rfl:(An [Zz,Sm (↑v:Int),Sm (↑p:Int),Tt])=_) ?_
   (repeat'(first|(with_reducible apply And.intro)|(refine fun(_:True)=>?_)))<;>first|exact aq|skip) (by
   refine Eq.mp (by kernel_rfl:(let z0:=bF (scF F q) (k+1);let z1:=entM q (k+1);An [An [Sm (bF B size),HfL (bF B size)],An [z1=z1,HfE z1,Sm (k+1)],An [An [Sm cards.length,Sm (ints cards)],An [Sm cs.length,Sm (List.map sl cs)],An [Zz,Sm size,Sm (size-size)],Tt,An [Zz,Sm (k+1),Tt],Tt],An [z0=z0,HfL z0],Tt])=_) ?_
   (repeat'(first|(with_reducible apply And.intro)|(refine fun(_:True)=>?_)))
   all_goals first|exact aq|exact hB|exact hS|exact hS0|exact hE|exact hE0|rfl|skip) (by
   refine Eq.mp (by kernel_rfl:(An [An [Sm (F v p 0),Sm (F v p 1),Sm (F v p 2),Sm (F v p 3),Sm (F v p 4),Sm (F v p 5),Sm (F v p 6),Sm (F v p 7),Sm (F v p 8),Sm (F v p 9),Sm (F v p 10),Sm (F v p 11),Sm (F v p 12),Sm (F v p 13),Sm (F v p 14),Sm (F v p 15),Sm (F v p 16),Sm (F v p 17),Tt],Sm (0:Int),Tt])=_) ?_
   (repeat'(first|(with_reducible apply And.intro)|(refine fun(_:True)=>?_)))<;>first|exact aq|skip) (by
   refine Eq.mp (by kernel_rfl:(let z0:=toO1 cards cs F B size q k;let z1:=O.row 41 none z18;let z2:=bF (scF F q) (k+1);let z3:=entM q (k+1);let z4:=bF B size;An [(z0++[z1])[0]? =some (O.row 41 none z4),An [z4=z4,HfL z4],(z0++[z1])[1]? =some (O.map z3 (k+1)),An [z3=z3,HfE z3,Sm (k+1)],(z0++[z1])[2]? =some (O.row 158 none (toC cards cs size 0 1 3 (k+1))),An [An [Sm cards.length,Sm (ints cards)],An [Sm cs.length,Sm (List.map sl cs)],An [Zz,Sm size,Sm (size-size)],Tt,An [Zz,Sm (k+1),Tt],Tt],(z0++[z1])[3]? =some (O.row 41 (some 18) z2),An [z2=z2,HfL z2],(z0++[z1])[4]? =some z1,(z0++[z1])[4]? =some z1,Tt])=_) ?_
   (repeat'(first|(with_reducible apply And.intro)|(refine fun(_:True)=>?_)))
   all_goals first|exact aq|exact hB|exact hS|exact hS0|exact hE|exact hE0|rfl|skip)
 have h:=CallSpec.of_vcH (P:=Pg) (E:=vE) vE_ok mixed Qab (n:=1000) (f:=90) (os0:=toO1 cards cs F B size q k) (ars:=[.ptr 2 0,i6 (s:Nat),i6 (v:Nat),u6 (p:Nat)]) (r:=[4])
  (S := { sl := [(8, .ptr 4 0), (9, i6 0)], os := toO1 cards cs F B size q k ++ [.row 41 none (arF x)], md := [0, 0, 1], lg := [] }) (v := .tup [ar x, i6 0]) (hs := [(16, .call ⟨.tup [ar (F v p), i6 0], ofOs .e 0 (toO1 cards cs F B size q k ++ [.row 41 none z18]), 5, []⟩), va 29 (i6 (b : Nat)), va 30 (i6 (t : Nat)), pl 31, ld 32 (ar (B t)), fn 34 (.tup [ar x, i6 0])]) (gl := g0) (by simp) (fun i hi _ => by
   rcases(show i=0∨i=1∨i=2∨i=3 by simp at hi;omega)with rfl|rfl|rfl|rfl<;>rfl) (by
  refine Eq.mp (by kernel_rfl:(let z0:=bF (scF F q) (k+1);let z1:=toO1 cards cs F B size q k;let z2:=entM q (k+1);let z3:=bF B size;An [V.tup [V.agg (arF x),i6 0]=V.tup [ar x,i6 0],CallSpec Pg g0 (V.fn 111 []) [V.ptr 2 0,i6 ↑v,u6 ↑p] (pt (ofOs T.e 0 z1) 4 (O.row 41 none [i6 0,i6 0,i6 0,i6 0,i6 0,i6 0,i6 0,i6 0,i6 0,i6 0,i6 0,i6 0,i6 0,i6 0,i6 0,i6 0,i6 0,i6 0])) 5 (CR.mk (V.tup [ar (F v p),i6 0]) (ofOs T.e 0 (z1++[O.row 41 none z18])) 5 []),Tt,binV (Qad Pg) .shl 3 (i6 1) (i6 ↑v)=some (i6 ↑b),binV (Qad Pg) .andNot 3 (i6 ↑s) (i6 ↑b)=some (i6 ↑t),An [(0:Int)≤(↑t:Int),(↑t:Int)<(↑size:Int)],takeE 18 (dropF (0+t*18) z3)=some (arF (B t)),An [TT 18,TT 18,Tt],FnOk Pg g0 34 [V.agg (arF (B t)),V.agg (arF (F v p))] (V.tup [ar x,i6 0]),Tt,An [Zz,Sm (0:Int),Tt],An [z3=z3,HfL z3],An [z2=z2,HfE z2,Sm (k+1)],An [An [Sm cards.length,Sm (ints cards)],An [Sm cs.length,Sm (List.map sl cs)],An [Zz,Sm size,Sm (size-size)],Tt,An [Zz,Sm (k+1),Tt],Tt],An [z0=z0,HfL z0],An [Sm (arF x),TT 18],Tt])=_) ?_
  (repeat'(first|(with_reducible apply And.intro)|(refine fun(_:True)=>?_)))
  all_goals first|(with_reducible exact h1 _ _)|(with_reducible exact h2 _ _)|exact aq|exact hcall|exact hB|exact hS|exact hS0|exact hE|exact hE0|exact hadd|(rw[Nat.zero_add];exact htk)|exact h1 _ _|exact h2 _ _|rfl|skip)
 exact CallSpec.dropL (os1:=toO1 cards cs F B size q k) [.row 41 none (arF x)] h (by simp) ⟨HfL.sc _ (HfL_ar _),trivial,trivial⟩ (to_sc cards cs F B size q k 4 (Nat.le_refl _)) (fun i hi _=>by
   rcases(show i=0∨i=1∨i=2∨i=3 by simp at hi;omega)with rfl|rfl|rfl|rfl<;>rfl)
theorem Qqg(cards:List Int)(cs:List (List Int))(F:Nat→Nat→Nat→Int)(B:Nat→Nat→Int)(size:Nat)(q:Nat→Nat×Nat)(s t v p b:Nat)(x:Nat→Int)(hsc:FnOk Pg g0 22 [gV cards cs,i6 (v:Nat),u6 (p:Nat)] (.tup [ar (F v p),i6 0]))(ht:t<size)
  (h1: ∀G T,binV G .shl T (i6 1) (i6 (v:Nat))=some (i6 (b:Nat)))(h2: ∀G T,binV G .andNot T (i6 (s:Nat)) (i6 (b:Nat))=some (i6 (t:Nat)))(hadd:FnOk Pg g0 34 [ar (B t),ar (F v p)] (.tup [ar x,i6 0])):
  CallSpec Pg g0 (.fn 90 []) [.ptr 2 0,i6 (s:Nat),i6 (v:Nat),u6 (p:Nat)] (ofOs .e 0 (toO0 cards cs B size q)) 3 ⟨.tup [ar x,i6 0],ofOs .e 0 (toO1 cards cs F B size (upQ q 0 (v,p)) 0),4,[1,2]⟩:=by
 have hB:=Qaa B size
 have hS:=Qaa (scF F (upQ q 0 (v,p))) (0+1)
 have hE:=Qac (upQ q 0 (v,p)) (0+1)
 have hE0:=Qac q 0
 have hS0:=hS
 have hc:=Qae cards
 have hg:=Qar cs
 have htk:=@Qa3 B size t ht
 have hcall:CallSpec Pg g0 (.fn 111 []) [.ptr 2 0,i6 (v:Nat),u6 (p:Nat)] (ofOs .e 0 (toO0 cards cs B size q++[.row 41 none z18])) 4 ⟨.tup [ar (F v p),i6 0],ofOs .e 0 [.row 41 none (bF B size),.map (entM (upQ q 0 (v,p)) (0+1)) (0+1),.row 158 none (toC cards cs size 0 1 4 (0+1)),.row 41 none z18,.row 41 (some 18) (bF (scF F (upQ q 0 (v,p))) (0+1))],5,[1,2]⟩:=
  CallSpec.frameL (OS:=toO0 cards cs B size q++[.row 41 none z18]) (OS':=[.row 41 none (bF B size),.map (entM (upQ q 0 (v,p)) (0+1)) (0+1),.row 158 none (toC cards cs size 0 1 4 (0+1)),.row 41 none z18,.row 41 (some 18) (bF (scF F (upQ q 0 (v,p))) (0+1))]) [0,1,2] [(0,0),(1,1),(2,2),(4,3)] [0,0,1] [0,0,1] (Qr5 cards cs F B size q v p hsc) (by kernel_rfl) (by
   refine Eq.mp (by kernel_rfl:(An [Zz,Sm (↑v:Int),Sm (↑p:Int),Tt])=_) ?_
   (repeat'(first|(with_reducible apply And.intro)|(refine fun(_:True)=>?_)))<;>first|exact aq|skip) (by
   refine Eq.mp (by kernel_rfl:(An [An [Sm (bF B size),HfL (bF B size)],An [Sm (entM q 0),HfE (entM q 0),Zz],An [An [Sm cards.length,Sm (ints cards)],An [Sm cs.length,Sm (List.map sl cs)],An [Zz,Sm size,Sm (size-size)],TT 2],Tt])=_) ?_
   (repeat'(first|(with_reducible apply And.intro)|(refine fun(_:True)=>?_)))
   all_goals first|exact aq|exact hB|exact hS|exact hS0|exact hE|exact hE0|rfl|skip) (by
   refine Eq.mp (by kernel_rfl:(An [An [Sm (F v p 0),Sm (F v p 1),Sm (F v p 2),Sm (F v p 3),Sm (F v p 4),Sm (F v p 5),Sm (F v p 6),Sm (F v p 7),Sm (F v p 8),Sm (F v p 9),Sm (F v p 10),Sm (F v p 11),Sm (F v p 12),Sm (F v p 13),Sm (F v p 14),Sm (F v p 15),Sm (F v p 16),Sm (F v p 17),Tt],Sm (0:Int),Tt])=_) ?_
   (repeat'(first|(with_reducible apply And.intro)|(refine fun(_:True)=>?_)))<;>first|exact aq|skip) (by
   refine Eq.mp (by kernel_rfl:(let z0:=O.row 41 none z18;let z1:=upQ q 0 (v,p);let z2:=toO0 cards cs B size q;let z3:=bF B size;An [(z2++[z0])[0]? =some (O.row 41 none z3),An [z3=z3,HfL z3],Tt,An [Sm (entM z1 1),HfE (entM z1 1),1=1],Tt,An [An [Sm cards.length,Sm (ints cards)],An [Sm cs.length,Sm (List.map sl cs)],An [Zz,Sm size,Sm (size-size)],Tt,An [Zz,1=1,Tt],Tt],(z2++[z0])[3]? =some z0,(z2++[z0])[3]? =some z0,Tt,An [Sm (bF (scF F z1) 1),TT 18],Tt])=_) ?_
   (repeat'(first|(with_reducible apply And.intro)|(refine fun(_:True)=>?_)))
   all_goals first|exact aq|exact hB|exact hS|exact hS0|exact hE|exact hE0|rfl|skip)
 have h:=CallSpec.of_vcH (P:=Pg) (E:=vE) vE_ok mixed Qab (n:=1000) (f:=90) (os0:=toO0 cards cs B size q) (ars:=[.ptr 2 0,i6 (s:Nat),i6 (v:Nat),u6 (p:Nat)]) (r:=[4,3])
  (S := { sl := [(8, .ptr 4 0), (9, i6 0)], os := toO1 cards cs F B size (upQ q 0 (v, p)) 0 ++ [.row 41 none (arF x)], md := [0, 0, 1], lg := [1, 2] }) (v := .tup [ar x, i6 0]) (hs := [(16, .call ⟨.tup [ar (F v p), i6 0], ofOs .e 0 [.row 41 none (bF B size), .map (entM (upQ q 0 (v, p)) (0 + 1)) (0 + 1), .row 158 none (toC cards cs size 0 1 4 (0 + 1)), .row 41 none z18, .row 41 (some 18) (bF (scF F (upQ q 0 (v, p))) (0 + 1))], 5, [1, 2]⟩), va 29 (i6 (b : Nat)), va 30 (i6 (t : Nat)), pl 31, ld 32 (ar (B t)), fn 34 (.tup [ar x, i6 0])]) (gl := g0) (by simp) (fun i hi hno => by
   rcases(show i=0∨i=1∨i=2 by simp at hi;omega)with rfl|rfl|rfl<;>first|rfl|(simp at hno)) (by
  refine Eq.mp (by kernel_rfl:(let z0:=upQ q 0 (v,p);let z1:=bF B size;let z2:=bF (scF F z0) 1;let z3:=entM z0 1;An [V.tup [V.agg (arF x),i6 0]=V.tup [ar x,i6 0],CallSpec Pg g0 (V.fn 111 []) [V.ptr 2 0,i6 ↑v,u6 ↑p] (pt (ofOs T.e 0 (toO0 cards cs B size q)) 3 (O.row 41 none [i6 0,i6 0,i6 0,i6 0,i6 0,i6 0,i6 0,i6 0,i6 0,i6 0,i6 0,i6 0,i6 0,i6 0,i6 0,i6 0,i6 0,i6 0])) 4 (CR.mk (V.tup [ar (F v p),i6 0]) (ofOs T.e 0 [O.row 41 none z1,O.map z3 1,O.row 158 none (toC cards cs size 0 1 4 1),O.row 41 none z18,O.row 41 (some 18) z2]) 5 [1,2]),Tt,binV (Qad Pg) .shl 3 (i6 1) (i6 ↑v)=some (i6 ↑b),binV (Qad Pg) .andNot 3 (i6 ↑s) (i6 ↑b)=some (i6 ↑t),An [(0:Int)≤(↑t:Int),(↑t:Int)<(↑size:Int)],takeE 18 (dropF (0+t*18) z1)=some (arF (B t)),An [TT 18,TT 18,Tt],FnOk Pg g0 34 [V.agg (arF (B t)),V.agg (arF (F v p))] (V.tup [ar x,i6 0]),Tt,An [Zz,Sm (0:Int),Tt],An [z1=z1,HfL z1],An [z3=z3,HfE z3,1=1],An [An [Sm cards.length,Sm (ints cards)],An [Sm cs.length,Sm (List.map sl cs)],An [Zz,Sm size,Sm (size-size)],Tt,An [Zz,1=1,Tt],Tt],An [z2=z2,TT 18],An [Sm (arF x),TT 18],Tt])=_) ?_
  (repeat'(first|(with_reducible apply And.intro)|(refine fun(_:True)=>?_)))
  all_goals first|(with_reducible exact h1 _ _)|(with_reducible exact h2 _ _)|exact aq|exact hcall|exact hB|exact hS|exact hS0|exact hE|exact hE0|exact hadd|(rw[Nat.zero_add];exact htk)|exact h1 _ _|exact h2 _ _|rfl|skip)
 exact CallSpec.dropL (os1:=toO1 cards cs F B size (upQ q 0 (v,p)) 0) [.row 41 none (arF x)] h (by simp) ⟨HfL.sc _ (HfL_ar _),trivial,trivial⟩ (to_sc cards cs F B size _ 0 4 (Nat.le_refl _)) (fun i hi hno=>by
   rcases(show i=0∨i=1∨i=2 by simp at hi;omega)with rfl|rfl|rfl<;>first|rfl|(simp at hno))
theorem Qh3(cards:List Int)(cs:List (List Int))(F:Nat→Nat→Nat→Int)(B:Nat→Nat→Int)(size:Nat)(q:Nat→Nat×Nat)(k s t v p b:Nat)(x:Nat→Int)(hk:k≤1000000)(hf:findS [true,true] [i6 (v:Nat),u6 (p:Nat)] (entM q (k+1)) 0=some none)(hsc:FnOk Pg g0 22 [gV cards cs,i6 (v:Nat),u6 (p:Nat)] (.tup [ar (F v p),i6 0]))(ht:t<size)
  (h1: ∀G T,binV G .shl T (i6 1) (i6 (v:Nat))=some (i6 (b:Nat)))(h2: ∀G T,binV G .andNot T (i6 (s:Nat)) (i6 (b:Nat))=some (i6 (t:Nat)))(hadd:FnOk Pg g0 34 [ar (B t),ar (F v p)] (.tup [ar x,i6 0])):
  CallSpec Pg g0 (.fn 90 []) [.ptr 2 0,i6 (s:Nat),i6 (v:Nat),u6 (p:Nat)] (ofOs .e 0 (toO1 cards cs F B size q k)) 4 ⟨.tup [ar x,i6 0],ofOs .e 0 (toO2 cards cs F B size (upQ q (k+1) (v,p)) (k+1)),5,[1,2,3]⟩:=by
 have hB:=Qaa B size
 have hS:=Qaa (scF F (upQ q (k+1) (v,p))) (k+1+1)
 have hE:=Qac (upQ q (k+1) (v,p)) (k+1+1)
 have hS0:=Qaa (scF F q) (k+1)
 have hE0:=Qac q (k+1)
 have hc:=Qae cards
 have hg:=Qar cs
 have htk:=@Qa3 B size t ht
 have hcall:CallSpec Pg g0 (.fn 111 []) [.ptr 2 0,i6 (v:Nat),u6 (p:Nat)] (ofOs .e 0 (toO1 cards cs F B size q k++[.row 41 none z18])) 5 ⟨.tup [ar (F v p),i6 0],ofOs .e 0 [.row 41 none (bF B size),.map (entM (upQ q (k+1) (v,p)) (k+1+1)) (k+1+1),.row 158 none (toC cards cs size 0 1 5 (k+1+1)),.dead,.row 41 none z18,.row 41 (some 18) (bF (scF F (upQ q (k+1) (v,p))) (k+1+1))],6,[1,2,3]⟩:=
  CallSpec.frameL (OS:=toO1 cards cs F B size q k++[.row 41 none z18]) (OS':=[.row 41 none (bF B size),.map (entM (upQ q (k+1) (v,p)) (k+1+1)) (k+1+1),.row 158 none (toC cards cs size 0 1 5 (k+1+1)),.dead,.row 41 none z18,.row 41 (some 18) (bF (scF F (upQ q (k+1) (v,p))) (k+1+1))]) [0,1,2,3] [(0,0),(1,1),(2,2),(3,3),(5,4)] [0,0,1] [0,0,1] (Qr6 cards cs F B size q k v p hk hf hsc) (by kernel_rfl) (by
   refine Eq.mp (by kernel_rfl:(An [Zz,Sm (↑v:Int),Sm (↑p:Int),Tt])=_) ?_
   (repeat'(first|(with_reducible apply And.intro)|(refine fun(_:True)=>?_)))<;>first|exact aq|skip) (by
   refine Eq.mp (by kernel_rfl:(let z0:=bF (scF F q) (k+1);let z1:=entM q (k+1);An [An [Sm (bF B size),HfL (bF B size)],An [z1=z1,HfE z1,Sm (k+1)],An [An [Sm cards.length,Sm (ints cards)],An [Sm cs.length,Sm (List.map sl cs)],An [Zz,Sm size,Sm (size-size)],Tt,An [Zz,Sm (k+1),Tt],Tt],An [z0=z0,HfL z0],Tt])=_) ?_
   (repeat'(first|(with_reducible apply And.intro)|(refine fun(_:True)=>?_)))
   all_goals first|exact aq|exact hB|exact hS|exact hS0|exact hE|exact hE0|rfl|skip) (by
   refine Eq.mp (by kernel_rfl:(An [An [Sm (F v p 0),Sm (F v p 1),Sm (F v p 2),Sm (F v p 3),Sm (F v p 4),Sm (F v p 5),Sm (F v p 6),Sm (F v p 7),Sm (F v p 8),Sm (F v p 9),Sm (F v p 10),Sm (F v p 11),Sm (F v p 12),Sm (F v p 13),Sm (F v p 14),Sm (F v p 15),Sm (F v p 16),Sm (F v p 17),Tt],Sm (0:Int),Tt])=_) ?_
   (repeat'(first|(with_reducible apply And.intro)|(refine fun(_:True)=>?_)))<;>first|exact aq|skip) (by
   refine Eq.mp (by kernel_rfl:(let z0:=upQ q (k+1) (v,p);let z1:=O.row 41 none z18;let z2:=toO1 cards cs F B size q k;let z5:=bF B size;let z3:=bF (scF F z0) (k+1+1);let z4:=entM z0 (k+1+1);An [(z2++[z1])[0]? =some (O.row 41 none z5),An [z5=z5,HfL z5],Tt,An [z4=z4,HfE z4,Sm (k+1+1)],Tt,An [An [Sm cards.length,Sm (ints cards)],An [Sm cs.length,Sm (List.map sl cs)],An [Zz,Sm size,Sm (size-size)],Tt,An [Zz,Sm (Nat.succ k+1),Tt],Tt],Tt,Tt,(z2++[z1])[4]? =some z1,(z2++[z1])[4]? =some z1,Tt,An [z3=z3,HfL z3],Tt])=_) ?_
   (repeat'(first|(with_reducible apply And.intro)|(refine fun(_:True)=>?_)))
   all_goals first|exact aq|exact hB|exact hS|exact hS0|exact hE|exact hE0|rfl|skip)
 have h:=CallSpec.of_vcH (P:=Pg) (E:=vE) vE_ok mixed Qab (n:=1000) (f:=90) (os0:=toO1 cards cs F B size q k) (ars:=[.ptr 2 0,i6 (s:Nat),i6 (v:Nat),u6 (p:Nat)]) (r:=[5,4])
  (S := { sl := [(8, .ptr 5 0), (9, i6 0)], os := toO2 cards cs F B size (upQ q (k + 1) (v, p)) (k + 1) ++ [.row 41 none (arF x)], md := [0, 0, 1], lg := [1, 2, 3] }) (v := .tup [ar x, i6 0]) (hs := [(16, .call ⟨.tup [ar (F v p), i6 0], ofOs .e 0 [.row 41 none (bF B size), .map (entM (upQ q (k + 1) (v, p)) (k + 1 + 1)) (k + 1 + 1), .row 158 none (toC cards cs size 0 1 5 (k + 1 + 1)), .dead, .row 41 none z18, .row 41 (some 18) (bF (scF F (upQ q (k + 1) (v, p))) (k + 1 + 1))], 6, [1, 2, 3]⟩), va 29 (i6 (b : Nat)), va 30 (i6 (t : Nat)), pl 31, ld 32 (ar (B t)), fn 34 (.tup [ar x, i6 0])]) (gl := g0) (by simp) (fun i hi hno => by
   rcases(show i=0∨i=1∨i=2∨i=3 by simp at hi;omega)with rfl|rfl|rfl|rfl<;>first|rfl|(simp at hno)) (by
  refine Eq.mp (by kernel_rfl:(let z0:=upQ q (k+1) (v,p);let z3:=bF B size;let z1:=bF (scF F z0) (k+1+1);let z2:=entM z0 (k+1+1);An [V.tup [V.agg (arF x),i6 0]=V.tup [ar x,i6 0],CallSpec Pg g0 (V.fn 111 []) [V.ptr 2 0,i6 ↑v,u6 ↑p] (pt (ofOs T.e 0 (toO1 cards cs F B size q k)) 4 (O.row 41 none [i6 0,i6 0,i6 0,i6 0,i6 0,i6 0,i6 0,i6 0,i6 0,i6 0,i6 0,i6 0,i6 0,i6 0,i6 0,i6 0,i6 0,i6 0])) 5 (CR.mk (V.tup [ar (F v p),i6 0]) (ofOs T.e 0 [O.row 41 none z3,O.map z2 (k+1+1),O.row 158 none (toC cards cs size 0 1 5 (k+1+1)),O.dead,O.row 41 none z18,O.row 41 (some 18) z1]) 6 [1,2,3]),Tt,binV (Qad Pg) .shl 3 (i6 1) (i6 ↑v)=some (i6 ↑b),binV (Qad Pg) .andNot 3 (i6 ↑s) (i6 ↑b)=some (i6 ↑t),An [(0:Int)≤(↑t:Int),(↑t:Int)<(↑size:Int)],takeE 18 (dropF (0+t*18) z3)=some (arF (B t)),An [TT 18,TT 18,Tt],FnOk Pg g0 34 [V.agg (arF (B t)),V.agg (arF (F v p))] (V.tup [ar x,i6 0]),Tt,An [Zz,Sm (0:Int),Tt],An [z3=z3,HfL z3],An [z2=z2,HfE z2,Sm (k+1+1)],An [An [Sm cards.length,Sm (ints cards)],An [Sm cs.length,Sm (List.map sl cs)],An [Zz,Sm size,Sm (size-size)],Tt,An [Zz,Sm (Nat.succ k+1),Tt],Tt],Tt,An [z1=z1,HfL z1],An [Sm (arF x),TT 18],Tt])=_) ?_
  (repeat'(first|(with_reducible apply And.intro)|(refine fun(_:True)=>?_)))
  all_goals first|(with_reducible exact h1 _ _)|(with_reducible exact h2 _ _)|exact aq|exact hcall|exact hB|exact hS|exact hS0|exact hE|exact hE0|exact hadd|(rw[Nat.zero_add];exact htk)|exact h1 _ _|exact h2 _ _|rfl|skip)
 exact CallSpec.dropL (os1:=toO2 cards cs F B size (upQ q (k+1) (v,p)) (k+1)) [.row 41 none (arF x)] h (by simp) ⟨HfL.sc _ (HfL_ar _),trivial,trivial⟩ (to_sc2 cards cs F B size _ (k+1) 5 (Nat.le_refl _)) (fun i hi hno=>by
   rcases(show i=0∨i=1∨i=2∨i=3 by simp at hi;omega)with rfl|rfl|rfl|rfl<;>first|rfl|(simp at hno))
end Go.Proofs.YtglpoiaedkoecaaDoor.Am
