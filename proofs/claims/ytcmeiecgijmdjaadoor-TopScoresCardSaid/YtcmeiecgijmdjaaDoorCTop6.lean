/- Texts behind the claim, part 6: the abstract machine, and what the functions answer. No condition. -/
import Derived.Test.YtcmeiecgijmdjaaDoorCTop5
set_option linter.unusedVariables false
set_option maxHeartbeats 4000000
set_option maxRecDepth 100000
set_option linter.unusedSimpArgs false
set_option linter.unusedSectionVars false
namespace Go.Proofs.YtcmeiecgijmdjaaDoor.Am
open Go.RowKit
def Qvl(p w:Nat)(md:Bool)(ws:List Nat):Nat×Bool×List Nat:=if 144115188075855872<w then(p,md||decide ((mulS w ws ws.length).2≠0),mulW w ws)else(w*p,md,ws)
def itQ(p:Nat):Nat→Nat×Bool×List Nat→Nat×Bool×List Nat
 |0,s=>s
 |t+1,s=>Qvl p (itQ p t s).1 (itQ p t s).2.1 (itQ p t s).2.2
def outQ(e:Nat→Nat):Nat→Nat×Bool×List Nat
 |0=>(1,false,[1])
 |i+1=>itQ (primeN i) (e i) (outQ e i)
structure QOk(e:Nat→Nat)(i t:Nat)(s:Nat×Bool×List Nat):Prop where
 norm:Norm s.2.2
 val:valW s.2.2*s.1=Qa0 e i*primeN i^t
 w1:1≤s.1
 wb:s.1≤8791026472627208192
 len:s.2.2.length≤1+4000*i+t
 one:s.2.1=false→s.2.2.length=1
theorem Qul{w:Nat}{l:List Nat}(h:(mulS w l l.length).2=0):(mulW w l).length=l.length:=by
 unfold mulW;rw[if_pos h,Qbx]
theorem QOk.step{e:Nat→Nat}{i t:Nat}{s:Nat×Bool×List Nat}(h:QOk e i t s):QOk e i (t+1) (Qvl (primeN i) s.1 s.2.1 s.2.2):=by
 obtain⟨w,md,ws⟩:=s
 have hp:=Qbu i
 have hv:=h.val
 have hw:=h.w1
 have hb:=h.wb
 have hl:=h.len
 dsimp only at hv hw hb hl
 unfold Qvl
 dsimp only
 by_cases hc:144115188075855872<w
 ·rw [if_pos hc]
  obtain⟨m1,m2,m3⟩:=Qum h.norm (w:=w) (by omega) hw
  dsimp only at m1 m2 m3
  refine⟨m1,?_,by dsimp only;omega,by dsimp only;omega,by dsimp only;omega,fun ho=>?_⟩
  ·dsimp only
   rw[m2,Nat.mul_comm w,hv,Nat.pow_succ,Nat.mul_assoc]
  ·dsimp only at ho ⊢
   rw[Bool.or_eq_false_iff]at ho
   have h0:(mulS w ws ws.length).2=0:=by
    have:=of_decide_eq_false ho.2
    omega
   rw[Qul h0]
   exact h.one ho.1
 ·rw [if_neg hc]
  have hle:w*primeN i≤144115188075855872*61:=Nat.mul_le_mul (by omega) hp.2
  refine⟨h.norm,?_,Nat.mul_pos (by omega) (by omega),by dsimp only;omega,by dsimp only;omega,h.one⟩
  dsimp only
  rw[←Nat.mul_assoc,hv,Nat.pow_succ,Nat.mul_assoc]
theorem QOk.it{e:Nat→Nat}{i:Nat}{s:Nat×Bool×List Nat}(h:QOk e i 0 s): ∀t,QOk e i t (itQ (primeN i) t s)
 |0=>h
 |t+1=>(QOk.it h t).step
theorem QOk.next{e:Nat→Nat}{i:Nat}{s:Nat×Bool×List Nat}(he:e i≤4000)(h:QOk e i (e i) s):QOk e (i+1) 0 s:=by
 refine⟨h.norm,?_,h.w1,h.wb,?_,h.one⟩
 ·rw[h.val,Qa0,Nat.pow_zero,Nat.mul_one]
 ·have:=h.len;omega
theorem Qn7{e:Nat→Nat}(he: ∀i,i<18→e i≤4000): ∀i,i≤18→QOk e i 0 (outQ e i)
 |0,_=>⟨norm_one,by simp[outQ,valW,Qa0],by simp[outQ],by simp[outQ],by simp[outQ],fun _=>rfl⟩
 |i+1,h=>((Qn7 he i (by omega)).it (e i)).next (he i (by omega))
def bxV:Bool→Nat→V
 |false,_=>.sl 2 0 1 (some 0)
 |true,n=>.sl 2 0 n none
def bxO:Bool→List Nat→O
 |false,l=>.row 111 none (wt l)
 |true,l=>.row 111 (some 1) (wt l)
theorem Qkd(w x:Nat):mulS w [x] 1=([x*w%18446744073709551616],x*w/18446744073709551616):=by simp[mulS]
theorem Qmp{w x:Nat}(h:x*w/18446744073709551616=0):mulW w [x]=[x*w%18446744073709551616]:=by
 unfold mulW
 simp only[List.length_singleton,Qkd]
 rw[if_pos h]
theorem Qmq{w x:Nat}(h:x*w/18446744073709551616≠0):mulW w [x]=[x*w%18446744073709551616,x*w/18446744073709551616]:=by
 unfold mulW
 simp only[List.length_singleton,Qkd]
 rw[if_neg h];rfl
abbrev aoL(f:Nat→Int)(md:Bool)(ws:List Nat):List O:=[.row 44 none (arF f),.row 89 none [bxV md ws.length],bxO md ws]
abbrev aiS(f:Nat→Int)(s:Int)(i e p:Nat)(q:Nat×Nat×Bool×List Nat):SL:={sl:=[(1,i6 s),(2,.ptr 0 0),(5,.ptr 1 0),(6,.fn 44 [.ptr 1 0]),(7,u6 q.2.1),(12,prV),(13,i6 i),(9,i6 p),(22,i6 e),(23,i6 q.1)],os:=aoL f q.2.2.1 q.2.2.2,md:=[0,1,0]}
abbrev aoS(f:Nat→Int)(s:Int)(i:Nat)(w:Nat)(md:Bool)(ws:List Nat):SL:={sl:=[(1,i6 s),(2,.ptr 0 0),(5,.ptr 1 0),(6,.fn 44 [.ptr 1 0]),(7,u6 w),(12,prV),(13,i6 i)],os:=aoL f md ws,md:=[0,1,0]}
theorem wtw{x p:Nat}(h:x*p<18446744073709551616):wr .u64 ((x:Int)*(p:Int))=((x*p:Nat):Int):=wru' (by rw[Int.natCast_mul]) h
theorem av_in(f:Nat→Int)(s:Int)(E:Nat→Nat)(i e:Nat)(hi:i<18)(he:e=E i)(he4:e≤4000)(s0:Nat×Bool×List Nat)(h0:QOk E i 0 s0)(w':Nat)(md':Bool)(ws':List Nat)(hx:itQ (primeN i) e s0=(w',md',ws'))(w0:Nat)(md0:Bool)(ws0:List Nat)(hs0:s0=(w0,md0,ws0)):
  Sat Pg none 0 (at' 32 [1,1,1,1,0,1,0,0,1,1,0,0,1,1,0]) (mkSt g0 40 (aiS f s i e (primeN i) (0,w0,md0,ws0))) (Qaf g0 40 [(True,.exit 2,aoS f s i w' md' ws')]):=by
 refine Qa6 Qhz mixed Qad (b:=at' 32 [1,1,1,1,0,1,0,0,1,1,0,0,1,1,0,0]) (by kernel_rfl) (fun q=>q.1≤e∧q.2=itQ (primeN i) q.1 s0) (aiS f s i e (primeN i)) (fun q=>e-q.1) (fun q hq=>?_) (0,w0,md0,ws0) ⟨Nat.zero_le _,hs0.symm⟩
 obtain⟨t,w,md,ws⟩:=q
 obtain⟨ht,hq⟩:=hq
 dsimp only at ht hq
 have hok:=h0.it t
 rw[←hq]at hok
 have hw1:=hok.w1
 have hwb:=hok.wb
 have hlen:=hok.len
 have hone:=hok.one
 have hnorm:=hok.norm
 dsimp only at hw1 hwb hlen hone hnorm
 have hp:=Qbu i
 by_cases hlt:t<e
 ·have hnx : itQ (primeN i) (t + 1) s0 = Qvl (primeN i) w md ws := by rw [itQ, ← hq]
  unfold Qvl at hnx
  generalize primeN i=p at*
  by_cases hc:144115188075855872<w
  ·rw [if_pos hc] at hnx
   have h1p:=wtw (x:=1) (p:=p) (by omega)
   cases md with
   | false =>
    obtain⟨x,rfl⟩: ∃x,ws=[x]:=List.length_eq_one_iff.1 (hone rfl)
    have hxb:x<18446744073709551616:=by simpa using hnorm.ok 0
    simp only[List.length_singleton,Qkd,Bool.false_or]at hnx
    by_cases hc0:x*w/18446744073709551616=0
    ·rw [Qmp hc0, decide_eq_false (by omega)] at hnx
     have hcs:=Qqe f x w hxb (by omega) _ rfl hc0
     generalize x*w%18446744073709551616=y at*
     refine .inl ⟨(t+1,p,false,[y]),[0,1,2],[yes 24,yes 26,(29,.call ⟨.tup [],ofOs .e 0 (n1 f y),3,[2]⟩),nu 32 (p:Nat),nu 33 ((1*p:Nat):Int),nu 34 (t+1:Nat)],1000,⟨hlt,hnx.symm⟩,by dsimp only;omega,?_⟩
     clear hq hnx hok
     exact m_ (p:=let z0:=(↑p:Int);let z1:=(↑(t+1):Int);let z2:=(↑e:Int);An [decide ((↑t:Int)<z2)=true,decide ((↑w:Int)>(144115188075855872:Int))=true,CallSpec Pg g0 (V.fn 44 [V.ptr 1 0]) [u6 ↑w] (ofOs T.e 0 (aoL f false [x])) 3 (CR.mk (V.tup []) (ofOs T.e 0 (n1 f y)) 3 [2]),Tt,wr .u64 z0=z0,wr .u64 ((1:Int)*z0)=(↑(1*p):Int),wr .i64 ((↑t:Int)+(1:Int))=z1,An [s=s,Zz,Zz,An [Zz,Tt],z0=(↑(1*p):Int),An [Sm (2:Int),Sm (3:Int),Sm (5:Int),Sm (7:Int),Sm (11:Int),Sm (13:Int),Sm (17:Int),Sm (19:Int),Sm (23:Int),Sm (29:Int),Sm (31:Int),Sm (37:Int),Sm (41:Int),Sm (43:Int),Sm (47:Int),Sm (53:Int),Sm (59:Int),Sm (61:Int),Tt],Sm (↑i:Int),z0=z0,z2=z2,z1=z1,Tt],An [Sm (arF f),TT 18],An [An [Zz,1=1,Zz],Tt],An [wt [y]=[u6 ↑y],Tt,Tt],Tt]) ⟨aq,aq,hcs,aq,aq,aq,aq,a_,a_,a_,⟨rfl,a_⟩,aq⟩
    ·rw [Qmq hc0, decide_eq_true hc0] at hnx
     have hcs:=Qqf f x w hxb (by omega) _ _ rfl rfl hc0
     generalize x*w%18446744073709551616=y at*
     generalize x*w/18446744073709551616=c at*
     refine .inl ⟨(t+1,p,true,[y,c]),[0,1,3],[yes 24,yes 26,(29,.call ⟨.tup [],ofOs .e 0 [.row 44 none (arF f),.row 89 none [.sl 3 0 2 none],.dead,.row 111 (some 1) [u6 (y:Int),u6 (c:Int)]],4,[2,1]⟩),nu 32 (p:Nat),nu 33 ((1*p:Nat):Int),nu 34 (t+1:Nat)],1000,⟨hlt,hnx.symm⟩,by dsimp only;omega,?_⟩
     clear hq hnx hok
     exact m_ (p:=let z0:=(↑p:Int);let z1:=(↑(t+1):Int);let z2:=(↑e:Int);An [decide ((↑t:Int)<z2)=true,decide ((↑w:Int)>(144115188075855872:Int))=true,CallSpec Pg g0 (V.fn 44 [V.ptr 1 0]) [u6 ↑w] (ofOs T.e 0 (aoL f false [x])) 3 (CR.mk (V.tup []) (ofOs T.e 0 [O.row 44 none (arF f),O.row 89 none [V.sl 3 0 2 none],O.dead,O.row 111 (some 1) [u6 ↑y,u6 ↑c]]) 4 [2,1]),Tt,wr .u64 z0=z0,wr .u64 ((1:Int)*z0)=(↑(1*p):Int),wr .i64 ((↑t:Int)+(1:Int))=z1,An [s=s,Zz,Zz,An [Zz,Tt],z0=(↑(1*p):Int),An [Sm (2:Int),Sm (3:Int),Sm (5:Int),Sm (7:Int),Sm (11:Int),Sm (13:Int),Sm (17:Int),Sm (19:Int),Sm (23:Int),Sm (29:Int),Sm (31:Int),Sm (37:Int),Sm (41:Int),Sm (43:Int),Sm (47:Int),Sm (53:Int),Sm (59:Int),Sm (61:Int),Tt],Sm (↑i:Int),z0=z0,z2=z2,z1=z1,Tt],An [Sm (arF f),TT 18],An [An [Zz,2=2,Tt],Tt],An [wt [y,c]=[u6 ↑y,u6 ↑c],TT 2],Tt]) ⟨aq,aq,hcs,aq,aq,aq,aq,a_,a_,a_,⟨rfl,aq⟩,aq⟩
   | true =>
    simp only[Bool.true_or]at hnx
    obtain⟨n,hn⟩: ∃n,n=ws.length:=⟨_,rfl⟩
    have hwl:=Qwe
    by_cases hc0:(mulS w ws n).2=0
    ·have hcs := mul_M0 f ws w n hn (by omega) hnorm.ok (by omega) _ rfl hc0
     have hml:=Qbx w ws n
     rw[show mulW w ws=(mulS w ws n).1 by unfold mulW;rw[←hn,if_pos hc0]]at hnx
     generalize (mulS w ws n).1=m at*
     refine .inl ⟨(t+1,p,true,m),[0,1,2],[yes 24,yes 26,(29,.call ⟨.tup [],ofOs .e 0 [.row 44 none (arF f),.row 89 none [.sl 2 0 n none],.row 111 (some 1) (wt m)],3,[2]⟩),nu 32 (p:Nat),nu 33 ((1*p:Nat):Int),nu 34 (t+1:Nat)],1000,⟨hlt,hnx.symm⟩,by dsimp only;omega,?_⟩
     clear hq hnx hok
     subst hn
     exact m_ (p:=let z0:=(↑p:Int);let z1:=(↑(t+1):Int);let z2:=(↑e:Int);An [decide ((↑t:Int)<z2)=true,decide ((↑w:Int)>(144115188075855872:Int))=true,CallSpec Pg g0 (V.fn 44 [V.ptr 1 0]) [u6 ↑w] (ofOs T.e 0 (aoL f true ws)) 3 (CR.mk (V.tup []) (ofOs T.e 0 [O.row 44 none (arF f),O.row 89 none [V.sl 2 0 ws.length none],O.row 111 (some 1) (wt m)]) 3 [2]),Tt,wr .u64 z0=z0,wr .u64 ((1:Int)*z0)=(↑(1*p):Int),wr .i64 ((↑t:Int)+(1:Int))=z1,An [s=s,Zz,Zz,An [Zz,Tt],z0=(↑(1*p):Int),An [Sm (2:Int),Sm (3:Int),Sm (5:Int),Sm (7:Int),Sm (11:Int),Sm (13:Int),Sm (17:Int),Sm (19:Int),Sm (23:Int),Sm (29:Int),Sm (31:Int),Sm (37:Int),Sm (41:Int),Sm (43:Int),Sm (47:Int),Sm (53:Int),Sm (59:Int),Sm (61:Int),Tt],Sm (↑i:Int),z0=z0,z2=z2,z1=z1,Tt],An [Sm (arF f),TT 18],An [An [Zz,_,Tt],Tt],An [Sm (wt m),HfL (wt m)],Tt]) ⟨aq,aq,hcs,aq,aq,aq,aq,a_,a_,⟨⟨aq,hml,aq⟩,aq⟩,⟨aq,Qbk _⟩,aq⟩
    ·have hcs := mul_M1 f ws w n hn (by omega) hnorm.ok (by omega) _ _ rfl rfl hc0
     have hml:=Qbx w ws n
     rw[show mulW w ws=(mulS w ws n).1++[(mulS w ws n).2]by unfold mulW;rw[←hn,if_neg hc0]]at hnx
     generalize (mulS w ws n).1=m at*
     generalize (mulS w ws n).2=c at*
     rw[←Qwd]at hcs
     have hl2:(m++[c]).length=n+1:=by simp;omega
     generalize m++[c]=m' at*
     refine .inl ⟨(t+1,p,true,m'),[0,1,3],[yes 24,yes 26,(29,.call ⟨.tup [],ofOs .e 0 [.row 44 none (arF f),.row 89 none [.sl 3 0 (n+1) none],.dead,.row 111 (some 1) (wt m')],4,[2,1]⟩),nu 32 (p:Nat),nu 33 ((1*p:Nat):Int),nu 34 (t+1:Nat)],1000,⟨hlt,hnx.symm⟩,by dsimp only;omega,?_⟩
     clear hq hnx hok
     subst hn
     exact m_ (p:=let z0:=(↑p:Int);let z1:=(↑(t+1):Int);let z2:=(↑e:Int);An [decide ((↑t:Int)<z2)=true,decide ((↑w:Int)>(144115188075855872:Int))=true,CallSpec Pg g0 (V.fn 44 [V.ptr 1 0]) [u6 ↑w] (ofOs T.e 0 (aoL f true ws)) 3 (CR.mk (V.tup []) (ofOs T.e 0 [O.row 44 none (arF f),O.row 89 none [V.sl 3 0 (ws.length+1) none],O.dead,O.row 111 (some 1) (wt m')]) 4 [2,1]),Tt,wr .u64 z0=z0,wr .u64 ((1:Int)*z0)=(↑(1*p):Int),wr .i64 ((↑t:Int)+(1:Int))=z1,An [s=s,Zz,Zz,An [Zz,Tt],z0=(↑(1*p):Int),An [Sm (2:Int),Sm (3:Int),Sm (5:Int),Sm (7:Int),Sm (11:Int),Sm (13:Int),Sm (17:Int),Sm (19:Int),Sm (23:Int),Sm (29:Int),Sm (31:Int),Sm (37:Int),Sm (41:Int),Sm (43:Int),Sm (47:Int),Sm (53:Int),Sm (59:Int),Sm (61:Int),Tt],Sm (↑i:Int),z0=z0,z2=z2,z1=z1,Tt],An [Sm (arF f),TT 18],An [An [Zz,_,Tt],Tt],An [Sm (wt m'),HfL (wt m')],Tt]) ⟨aq,aq,hcs,aq,aq,aq,aq,a_,a_,⟨⟨aq,hl2,aq⟩,aq⟩,⟨aq,Qbk _⟩,aq⟩
  ·rw [if_neg hc] at hnx
   have hle:w*p≤144115188075855872*61:=Nat.mul_le_mul (by omega) hp.2
   have h1p:=wtw (x:=w) (p:=p) (by omega)
   generalize w*p=wp at*
   cases md with
   |false=>
    obtain⟨x,rfl⟩: ∃x,ws=[x]:=List.length_eq_one_iff.1 (hone rfl)
    refine .inl ⟨(t+1,wp,false,[x]),[0,1,2],[yes 24,no 26,nu 32 (p:Nat),nu 33 (wp:Nat),nu 34 (t+1:Nat)],1000,⟨hlt,hnx.symm⟩,by dsimp only;omega,?_⟩
    clear hq hnx hok
    exact m_ (p:=let z0:=(↑p:Int);let z1:=(↑(t+1):Int);let z3:=(↑e:Int);An [decide ((↑t:Int)<z3)=true,decide ((↑w:Int)>(144115188075855872:Int))=false,wr .u64 z0=z0,_,wr .i64 ((↑t:Int)+(1:Int))=z1,An [s=s,Zz,Zz,An [Zz,Tt],(↑wp:Int)=(↑wp:Int),An [Sm (2:Int),Sm (3:Int),Sm (5:Int),Sm (7:Int),Sm (11:Int),Sm (13:Int),Sm (17:Int),Sm (19:Int),Sm (23:Int),Sm (29:Int),Sm (31:Int),Sm (37:Int),Sm (41:Int),Sm (43:Int),Sm (47:Int),Sm (53:Int),Sm (59:Int),Sm (61:Int),Tt],Sm (↑i:Int),z0=z0,z3=z3,z1=z1,Tt],An [Sm (arF f),TT 18],An [An [Zz,1=1,Zz],Tt],An [Sm (wt [x]),Tt,Tt],Tt]) ⟨aq,aq,wru (by omega),h1p,a_⟩
   |true=>
    refine .inl ⟨(t+1,wp,true,ws),[0,1,2],[yes 24,no 26,nu 32 (p:Nat),nu 33 (wp:Nat),nu 34 (t+1:Nat)],1000,⟨hlt,hnx.symm⟩,by dsimp only;omega,?_⟩
    clear hq hnx hok
    exact m_ (p:=let z0:=(↑p:Int);let z1:=(↑(t+1):Int);let z3:=(↑e:Int);An [decide ((↑t:Int)<z3)=true,decide ((↑w:Int)>(144115188075855872:Int))=false,wr .u64 z0=z0,_,wr .i64 ((↑t:Int)+(1:Int))=z1,An [s=s,Zz,Zz,An [Zz,Tt],(↑wp:Int)=(↑wp:Int),An [Sm (2:Int),Sm (3:Int),Sm (5:Int),Sm (7:Int),Sm (11:Int),Sm (13:Int),Sm (17:Int),Sm (19:Int),Sm (23:Int),Sm (29:Int),Sm (31:Int),Sm (37:Int),Sm (41:Int),Sm (43:Int),Sm (47:Int),Sm (53:Int),Sm (59:Int),Sm (61:Int),Tt],Sm (↑i:Int),z0=z0,z3=z3,z1=z1,Tt],An [Sm (arF f),TT 18],An [An [Zz,Sm ws.length,Tt],Tt],An [Sm (wt ws),HfL (wt ws)],Tt]) ⟨aq,aq,wru (by omega),h1p,aq,a_,a_,a_,⟨aq,Qbk _⟩,aq⟩
 ·have : t = e := by omega
  subst this
  rw[hx]at hq
  obtain⟨x1,x2,x3⟩:w'=w∧md'=md∧ws'=ws:=by
   simp only[Prod.mk.injEq]at hq
   exact⟨hq.1.symm,hq.2.1.symm,hq.2.2.symm⟩
  rw[x1,x2,x3]
  clear hx hq
  cases md with
  |false=>
   refine .inr ⟨.exit 2,[0,1,2],aoS f s i w false ws,[no 24],1000,.inl ⟨trivial,rfl,rfl⟩,?_⟩
   exact m_ (p:=An [decide ((↑t:Int)<(↑t:Int))=false,An [s=s,Zz,Zz,An [Zz,Tt],Sm (↑w:Int),An [Sm (2:Int),Sm (3:Int),Sm (5:Int),Sm (7:Int),Sm (11:Int),Sm (13:Int),Sm (17:Int),Sm (19:Int),Sm (23:Int),Sm (29:Int),Sm (31:Int),Sm (37:Int),Sm (41:Int),Sm (43:Int),Sm (47:Int),Sm (53:Int),Sm (59:Int),Sm (61:Int),Tt],Sm (↑i:Int),Tt],An [Sm (arF f),TT 18],An [An [Zz,1=1,Zz],Tt],An [Sm (wt ws),HfL (wt ws)],Tt]) ⟨aq,a_,a_,a_,⟨aq,Qbk _⟩,aq⟩
  |true=>
   refine .inr ⟨.exit 2,[0,1,2],aoS f s i w true ws,[no 24],1000,.inl ⟨trivial,rfl,rfl⟩,?_⟩
   exact m_ (p:=An [decide ((↑t:Int)<(↑t:Int))=false,An [s=s,Zz,Zz,An [Zz,Tt],Sm (↑w:Int),An [Sm (2:Int),Sm (3:Int),Sm (5:Int),Sm (7:Int),Sm (11:Int),Sm (13:Int),Sm (17:Int),Sm (19:Int),Sm (23:Int),Sm (29:Int),Sm (31:Int),Sm (37:Int),Sm (41:Int),Sm (43:Int),Sm (47:Int),Sm (53:Int),Sm (59:Int),Sm (61:Int),Tt],Sm (↑i:Int),Tt],An [Sm (arF f),TT 18],An [An [Zz,Sm ws.length,Tt],Tt],An [Sm (wt ws),HfL (wt ws)],Tt]) ⟨aq,a_,a_,a_,⟨aq,Qbk _⟩,aq⟩
abbrev azX(f:Nat→Int)(w:Nat)(md:Bool)(ws:List Nat):SL:={sl:=[(5,.ptr 1 0),(6,.fn 44 [.ptr 1 0]),(7,u6 w)],os:=aoL f md ws,md:=[0,1,0]}
theorem av_out(f:Nat→Int)(s:Int)(hs:s=1∨s= -1)(hf: ∀i,i<18→ -4000≤f i∧f i≤4000)(w':Nat)(md':Bool)(ws':List Nat)(hx:outQ (posF f s) 18=(w',md',ws')):
  Sat Pg none 0 (at' 32 [1,1,1,1,0,1,0]) (mkSt g0 40 (aoS f s 0 1 false [1])) (Qaf g0 40 [(True,.exit 0,azX f w' md' ws')]):=by
 have he: ∀i,i<18→posF f s i≤4000:=fun i hi=>by
  have:=hf i hi
  unfold posF
  rcases hs with rfl|rfl<;>omega
 refine Qa6 Qhz mixed Qad (b:=at' 32 [1,1,1,1,0,1,0,0]) (by kernel_rfl) (fun q:Nat×Nat×Bool×List Nat=>q.1≤18∧q.2=outQ (posF f s) q.1) (fun q=>aoS f s q.1 q.2.1 q.2.2.1 q.2.2.2) (fun q=>18-q.1) (fun q hq=>?_) (0,1,false,[1]) ⟨Nat.zero_le _,rfl⟩
 obtain⟨i,w,md,ws⟩:=q
 obtain⟨hi,hq⟩:=hq
 dsimp only at hi hq
 by_cases hlt:i<18
 ·have hok := Qn7 he i hi
  obtain⟨w2,md2,ws2,h2⟩: ∃w2 md2 ws2,outQ (posF f s) (i+1)=(w2,md2,ws2):=⟨_,_,_,rfl⟩
  have h2':=h2
  rw[outQ,←hq]at h2'
  rw[←hq]at hok
  have hin:=av_in f s (posF f s) i (posF f s i) hlt rfl (he i hlt) (w,md,ws) hok w2 md2 ws2 h2' w md ws rfl
  have hpr:=idx40 hlt
  have hpl:=@Qkj 0 i hlt
  have hhd:=@Qj7 f i hlt
  have hfi:=hf i hlt
  have hpos:((posF f s i:Nat):Int)=if(0:Int)<s*f i then s*f i else 0:=by
   unfold posF
   rcases hs with rfl|rfl<;>(split<;>omega)
  have hmul: -4000≤s*f i∧s*f i≤4000:=by rcases hs with rfl|rfl<;>omega
  generalize primeN i=p at*
  generalize posF f s i=e at*
  generalize hxe:s*f i=x at*
  cases md with
  | false =>
   cases md2 with
   |false=>
    refine .inl ⟨(i+1,w2,false,ws2),[0,1,2],[yes 14,va 16 (i6 p),va 19 (.ptr 0 i),ld 20 (i6 (f i)),nu 21 x,nu 22 (e:Nat),(0,.loop [0,1,2] (aiS f s i e p (0,w,false,ws)) [(True,.exit 2,aoS f s i w2 false ws2)]),nu 35 (i+1:Nat)],1000,⟨hlt,h2.symm⟩,by dsimp only;omega,?_⟩
    clear hq hok h2 h2' hf he
    exact m_ (p:=let z0:=An [Sm (2:Int),Sm (3:Int),Sm (5:Int),Sm (7:Int),Sm (11:Int),Sm (13:Int),Sm (17:Int),Sm (19:Int),Sm (23:Int),Sm (29:Int),Sm (31:Int),Sm (37:Int),Sm (41:Int),Sm (43:Int),Sm (47:Int),Sm (53:Int),Sm (59:Int),Sm (61:Int),Tt];let z1:=(↑i:Int);let z2:=An [Sm (arF f),TT 18];An [decide (z1<(18:Int))=true,_,_,_,wr .i64 (s*f i)=x,_,An [An [s=s,Zz,Zz,An [Zz,Tt],Sm (↑w:Int),z0,Sm z1,Sm (↑p:Int),Sm (↑e:Int),(↑(0:Nat):Int)=(0:Int),Tt],z2,An [An [Zz,1=1,Zz],Tt],An [Sm (wt ws),HfL (wt ws)],Tt],_,(True->An [wr .i64 (z1+(1:Int))=(↑(i+1):Int),An [s=s,Zz,Zz,An [Zz,Tt],Sm (↑w2:Int),z0,Sm (↑(i+1):Int),Tt],z2,An [An [Zz,1=1,Zz],Tt],An [Sm (wt ws2),HfL (wt ws2)],Tt]),Tt]) ⟨aq,hpr,hpl,hhd,aq,hpos.symm,⟨a_,aq,a_,⟨aq,Qbk _⟩,aq⟩,hin,(fun _=>⟨aq,a_,aq,a_,⟨aq,Qbk _⟩,aq⟩),aq⟩
   |true=>
    refine .inl ⟨(i+1,w2,true,ws2),[0,1,2],[yes 14,va 16 (i6 p),va 19 (.ptr 0 i),ld 20 (i6 (f i)),nu 21 x,nu 22 (e:Nat),(0,.loop [0,1,2] (aiS f s i e p (0,w,false,ws)) [(True,.exit 2,aoS f s i w2 true ws2)]),nu 35 (i+1:Nat)],1000,⟨hlt,h2.symm⟩,by dsimp only;omega,?_⟩
    clear hq hok h2 h2' hf he
    exact m_ (p:=let z0:=An [Sm (2:Int),Sm (3:Int),Sm (5:Int),Sm (7:Int),Sm (11:Int),Sm (13:Int),Sm (17:Int),Sm (19:Int),Sm (23:Int),Sm (29:Int),Sm (31:Int),Sm (37:Int),Sm (41:Int),Sm (43:Int),Sm (47:Int),Sm (53:Int),Sm (59:Int),Sm (61:Int),Tt];let z1:=(↑i:Int);let z2:=An [Sm (arF f),TT 18];An [decide (z1<(18:Int))=true,_,_,_,wr .i64 (s*f i)=x,_,An [An [s=s,Zz,Zz,An [Zz,Tt],Sm (↑w:Int),z0,Sm z1,Sm (↑p:Int),Sm (↑e:Int),(↑(0:Nat):Int)=(0:Int),Tt],z2,An [An [Zz,1=1,Zz],Tt],An [Sm (wt ws),HfL (wt ws)],Tt],_,(True->An [wr .i64 (z1+(1:Int))=(↑(i+1):Int),An [s=s,Zz,Zz,An [Zz,Tt],Sm (↑w2:Int),z0,Sm (↑(i+1):Int),Tt],z2,An [An [Zz,Sm ws2.length,Tt],Tt],An [Sm (wt ws2),HfL (wt ws2)],Tt]),Tt]) ⟨aq,hpr,hpl,hhd,aq,hpos.symm,⟨a_,aq,a_,⟨aq,Qbk _⟩,aq⟩,hin,(fun _=>⟨aq,a_,aq,a_,⟨aq,Qbk _⟩,aq⟩),aq⟩
  | true =>
   cases md2 with
   |false=>
    refine .inl ⟨(i+1,w2,false,ws2),[0,1,2],[yes 14,va 16 (i6 p),va 19 (.ptr 0 i),ld 20 (i6 (f i)),nu 21 x,nu 22 (e:Nat),(0,.loop [0,1,2] (aiS f s i e p (0,w,true,ws)) [(True,.exit 2,aoS f s i w2 false ws2)]),nu 35 (i+1:Nat)],1000,⟨hlt,h2.symm⟩,by dsimp only;omega,?_⟩
    clear hq hok h2 h2' hf he
    exact m_ (p:=let z0:=An [Sm (2:Int),Sm (3:Int),Sm (5:Int),Sm (7:Int),Sm (11:Int),Sm (13:Int),Sm (17:Int),Sm (19:Int),Sm (23:Int),Sm (29:Int),Sm (31:Int),Sm (37:Int),Sm (41:Int),Sm (43:Int),Sm (47:Int),Sm (53:Int),Sm (59:Int),Sm (61:Int),Tt];let z1:=(↑i:Int);let z2:=An [Sm (arF f),TT 18];An [decide (z1<(18:Int))=true,_,_,_,wr .i64 (s*f i)=x,_,An [An [s=s,Zz,Zz,An [Zz,Tt],Sm (↑w:Int),z0,Sm z1,Sm (↑p:Int),Sm (↑e:Int),(↑(0:Nat):Int)=(0:Int),Tt],z2,An [An [Zz,Sm ws.length,Tt],Tt],An [Sm (wt ws),HfL (wt ws)],Tt],_,(True->An [wr .i64 (z1+(1:Int))=(↑(i+1):Int),An [s=s,Zz,Zz,An [Zz,Tt],Sm (↑w2:Int),z0,Sm (↑(i+1):Int),Tt],z2,An [An [Zz,1=1,Zz],Tt],An [Sm (wt ws2),HfL (wt ws2)],Tt]),Tt]) ⟨aq,hpr,hpl,hhd,aq,hpos.symm,⟨a_,aq,a_,⟨aq,Qbk _⟩,aq⟩,hin,(fun _=>⟨aq,a_,aq,a_,⟨aq,Qbk _⟩,aq⟩),aq⟩
   |true=>
    refine .inl ⟨(i+1,w2,true,ws2),[0,1,2],[yes 14,va 16 (i6 p),va 19 (.ptr 0 i),ld 20 (i6 (f i)),nu 21 x,nu 22 (e:Nat),(0,.loop [0,1,2] (aiS f s i e p (0,w,true,ws)) [(True,.exit 2,aoS f s i w2 true ws2)]),nu 35 (i+1:Nat)],1000,⟨hlt,h2.symm⟩,by dsimp only;omega,?_⟩
    clear hq hok h2 h2' hf he
    exact m_ (p:=let z0:=An [Sm (2:Int),Sm (3:Int),Sm (5:Int),Sm (7:Int),Sm (11:Int),Sm (13:Int),Sm (17:Int),Sm (19:Int),Sm (23:Int),Sm (29:Int),Sm (31:Int),Sm (37:Int),Sm (41:Int),Sm (43:Int),Sm (47:Int),Sm (53:Int),Sm (59:Int),Sm (61:Int),Tt];let z1:=(↑i:Int);let z2:=An [Sm (arF f),TT 18];An [decide (z1<(18:Int))=true,_,_,_,wr .i64 (s*f i)=x,_,An [An [s=s,Zz,Zz,An [Zz,Tt],Sm (↑w:Int),z0,Sm z1,Sm (↑p:Int),Sm (↑e:Int),(↑(0:Nat):Int)=(0:Int),Tt],z2,An [An [Zz,Sm ws.length,Tt],Tt],An [Sm (wt ws),HfL (wt ws)],Tt],_,(True->An [wr .i64 (z1+(1:Int))=(↑(i+1):Int),An [s=s,Zz,Zz,An [Zz,Tt],Sm (↑w2:Int),z0,Sm (↑(i+1):Int),Tt],z2,An [An [Zz,Sm ws2.length,Tt],Tt],An [Sm (wt ws2),HfL (wt ws2)],Tt]),Tt]) ⟨aq,hpr,hpl,hhd,aq,hpos.symm,⟨a_,aq,a_,⟨aq,Qbk _⟩,aq⟩,hin,(fun _=>⟨aq,a_,aq,a_,⟨aq,Qbk _⟩,aq⟩),aq⟩
 ·have : i = 18 := by omega
  subst this
  rw[hx]at hq
  obtain⟨x1,x2,x3⟩:w'=w∧md'=md∧ws'=ws:=by
   simp only[Prod.mk.injEq]at hq
   exact⟨hq.1.symm,hq.2.1.symm,hq.2.2.symm⟩
  rw[x1,x2,x3]
  clear hx hq
  cases md with
  |false=>
   refine .inr ⟨.exit 0,[0,1,2],azX f w false ws,[],1000,.inl ⟨trivial,rfl,rfl⟩,?_⟩
   exact m_ (p:=An [An [Zz,An [Zz,Tt],Sm (↑w:Int),Tt],An [Sm (arF f),TT 18],An [An [Zz,1=1,Zz],Tt],An [Sm (wt ws),HfL (wt ws)],Tt]) ⟨a_,a_,a_,⟨aq,Qbk _⟩,aq⟩
  |true=>
   refine .inr ⟨.exit 0,[0,1,2],azX f w true ws,[],1000,.inl ⟨trivial,rfl,rfl⟩,?_⟩
   exact m_ (p:=An [An [Zz,An [Zz,Tt],Sm (↑w:Int),Tt],An [Sm (arF f),TT 18],An [An [Zz,Sm ws.length,Tt],Tt],An [Sm (wt ws),HfL (wt ws)],Tt]) ⟨a_,a_,a_,⟨aq,Qbk _⟩,aq⟩
abbrev lnV(l:List Nat):V:=.im l.length (wt l)
theorem Qpa(f:Nat→Int)(s:Int)(hs:s=1∨s= -1)(hf: ∀i,i<18→ -4000≤f i∧f i≤4000): ∃ws,Norm ws∧valW ws=Qa0 (posF f s) 18∧ws.length≤100000∧FnOk Pg g0 32 [ar f,i6 s] (lnV ws):=by
 have he: ∀i,i<18→posF f s i≤4000:=fun i hi=>by
  have:=hf i hi
  unfold posF
  rcases hs with rfl|rfl<;>omega
 have hok:=Qn7 he 18 (Nat.le_refl _)
 obtain⟨w,md,ws,hx⟩: ∃w md ws,outQ (posF f s) 18=(w,md,ws):=⟨_,_,_,rfl⟩
 have l:=av_out f s hs hf w md ws hx
 rw[hx]at hok
 have hw1:=hok.w1
 have hwb:=hok.wb
 have hlen:=hok.len
 have hone:=hok.one
 have hnorm:=hok.norm
 have hval:=hok.val
 dsimp only at hw1 hwb hlen hone hnorm hval
 rw[Nat.pow_zero,Nat.mul_one]at hval
 obtain⟨m1,m2,m3⟩:=Qum hnorm (w:=w) (by omega) hw1
 refine⟨mulW w ws,m1,by rw[m2,Nat.mul_comm,hval],by omega,?_⟩
 clear hok hx hval m1 m2 m3 he hf
 cases md with
 | false =>
  obtain⟨x,rfl⟩: ∃x,ws=[x]:=List.length_eq_one_iff.1 (hone rfl)
  have hxb:x<18446744073709551616:=by simpa using hnorm.ok 0
  by_cases hc0:x*w/18446744073709551616=0
  ·have hcs := Qqe f x w hxb (by omega) _ rfl hc0
   rw[Qmp hc0]
   generalize x*w%18446744073709551616=y at*
   refine FnOk.of_vc Qhz mixed Qad (n:=1000) (r:=[]) (S:={sl:=[(4,.im 1 [u6 (y:Int)])]}) (hs:=[(0,.loop [0,2,1] (aoS f s 0 1 false [1]) [(True,.exit 0,azX f w false [x])]),(38,.call ⟨.tup [],ofOs .e 0 (n1 f y),3,[2]⟩)]) ?_
   exact m_ (p:=An [V.im 1 [u6 ↑y]=lnV [y],An [An [s=s,Zz,Zz,An [Zz,Tt],(↑(1:Nat):Int)=(1:Int),An [Sm (2:Int),Sm (3:Int),Sm (5:Int),Sm (7:Int),Sm (11:Int),Sm (13:Int),Sm (17:Int),Sm (19:Int),Sm (23:Int),Sm (29:Int),Sm (31:Int),Sm (37:Int),Sm (41:Int),Sm (43:Int),Sm (47:Int),Sm (53:Int),Sm (59:Int),Sm (61:Int),Tt],(↑(0:Nat):Int)=(0:Int),Tt],An [Sm (arF f),TT 18],An [An [Zz,1=1,Zz],Tt],An [wt [1]=[u6 1],Tt,Tt],Tt],_,(True->An [CallSpec Pg g0 (V.fn 44 [V.ptr 1 0]) [u6 ↑w] (ofOs T.e 0 (aoL f false [x])) 3 (CR.mk (V.tup []) (ofOs T.e 0 (n1 f y)) 3 [2]),Tt,An [An [1=1,Sm [u6 ↑y],Tt,Tt],Tt],Tt]),Tt]) ⟨aq,⟨a_,a_,a_,⟨rfl,a_⟩,aq⟩,l,(fun _=>⟨hcs,a_⟩),aq⟩
  ·have hcs := Qqf f x w hxb (by omega) _ _ rfl rfl hc0
   rw[Qmq hc0]
   generalize x*w%18446744073709551616=y at*
   generalize x*w/18446744073709551616=c at*
   refine FnOk.of_vc Qhz mixed Qad (n:=1000) (r:=[]) (S:={sl:=[(4,.im 2 [u6 (y:Int),u6 (c:Int)])]}) (hs:=[(0,.loop [0,2,1] (aoS f s 0 1 false [1]) [(True,.exit 0,azX f w false [x])]),(38,.call ⟨.tup [],ofOs .e 0 [.row 44 none (arF f),.row 89 none [.sl 3 0 2 none],.dead,.row 111 (some 1) [u6 (y:Int),u6 (c:Int)]],4,[2,1]⟩)]) ?_
   exact m_ (p:=let z0:=[u6 ↑y,u6 ↑c];An [V.im 2 z0=lnV [y,c],An [An [s=s,Zz,Zz,An [Zz,Tt],(↑(1:Nat):Int)=(1:Int),An [Sm (2:Int),Sm (3:Int),Sm (5:Int),Sm (7:Int),Sm (11:Int),Sm (13:Int),Sm (17:Int),Sm (19:Int),Sm (23:Int),Sm (29:Int),Sm (31:Int),Sm (37:Int),Sm (41:Int),Sm (43:Int),Sm (47:Int),Sm (53:Int),Sm (59:Int),Sm (61:Int),Tt],(↑(0:Nat):Int)=(0:Int),Tt],An [Sm (arF f),TT 18],An [An [Zz,1=1,Zz],Tt],An [wt [1]=[u6 1],Tt,Tt],Tt],_,(True->An [CallSpec Pg g0 (V.fn 44 [V.ptr 1 0]) [u6 ↑w] (ofOs T.e 0 (aoL f false [x])) 3 (CR.mk (V.tup []) (ofOs T.e 0 [O.row 44 none (arF f),O.row 89 none [V.sl 3 0 2 none],O.dead,O.row 111 (some 1) z0]) 4 [2,1]),Tt,An [An [2=2,z0=z0,TT 2],Tt],Tt]),Tt]) ⟨aq,⟨a_,a_,a_,⟨rfl,a_⟩,aq⟩,l,(fun _=>⟨hcs,a_⟩),aq⟩
 | true =>
  obtain⟨n,hn⟩: ∃n,n=ws.length:=⟨_,rfl⟩
  by_cases hc0:(mulS w ws n).2=0
  ·have hcs := mul_M0 f ws w n hn (by omega) hnorm.ok (by omega) _ rfl hc0
   have hml:=Qbx w ws n
   rw[show mulW w ws=(mulS w ws n).1 by unfold mulW;rw[←hn,if_pos hc0]]
   generalize (mulS w ws n).1=m at*
   clear hc0
   subst hn
   refine FnOk.of_vc Qhz mixed Qad (n:=1000) (r:=[]) (S:={sl:=[(4,lnV m)]}) (hs:=[(0,.loop [0,2,1] (aoS f s 0 1 false [1]) [(True,.exit 0,azX f w true ws)]),(38,.call ⟨.tup [],ofOs .e 0 [.row 44 none (arF f),.row 89 none [.sl 2 0 ws.length none],.row 111 (some 1) (wt m)],3,[2]⟩)]) ?_
   exact m_ (p:=An [Sm (lnV m),An [An [s=s,Zz,Zz,An [Zz,Tt],(↑(1:Nat):Int)=(1:Int),An [Sm (2:Int),Sm (3:Int),Sm (5:Int),Sm (7:Int),Sm (11:Int),Sm (13:Int),Sm (17:Int),Sm (19:Int),Sm (23:Int),Sm (29:Int),Sm (31:Int),Sm (37:Int),Sm (41:Int),Sm (43:Int),Sm (47:Int),Sm (53:Int),Sm (59:Int),Sm (61:Int),Tt],(↑(0:Nat):Int)=(0:Int),Tt],An [Sm (arF f),TT 18],An [An [Zz,1=1,Zz],Tt],An [wt [1]=[u6 1],Tt,Tt],Tt],_,(True->An [CallSpec Pg g0 (V.fn 44 [V.ptr 1 0]) [u6 ↑w] (ofOs T.e 0 (aoL f true ws)) 3 (CR.mk (V.tup []) (ofOs T.e 0 [O.row 44 none (arF f),O.row 89 none [V.sl 2 0 ws.length none],O.row 111 (some 1) (wt m)]) 3 [2]),Tt,An [An [_,Sm (wt m),HfL (wt m)],Tt],Tt]),Tt]) ⟨aq,⟨a_,a_,a_,⟨rfl,a_⟩,aq⟩,l,(fun _=>⟨hcs,aq,⟨⟨hml,aq,Qbk _⟩,aq⟩,aq⟩),aq⟩
  ·have hcs := mul_M1 f ws w n hn (by omega) hnorm.ok (by omega) _ _ rfl rfl hc0
   have hml:=Qbx w ws n
   rw[show mulW w ws=(mulS w ws n).1++[(mulS w ws n).2]by unfold mulW;rw[←hn,if_neg hc0]]
   generalize (mulS w ws n).1=m at*
   generalize (mulS w ws n).2=c at*
   rw[←Qwd]at hcs
   have hl2:(m++[c]).length=n+1:=by simp;omega
   generalize m++[c]=m' at*
   clear hc0
   subst hn
   refine FnOk.of_vc Qhz mixed Qad (n:=1000) (r:=[]) (S:={sl:=[(4,lnV m')]}) (hs:=[(0,.loop [0,2,1] (aoS f s 0 1 false [1]) [(True,.exit 0,azX f w true ws)]),(38,.call ⟨.tup [],ofOs .e 0 [.row 44 none (arF f),.row 89 none [.sl 3 0 (ws.length+1) none],.dead,.row 111 (some 1) (wt m')],4,[2,1]⟩)]) ?_
   exact m_ (p:=An [Sm (lnV m'),An [An [s=s,Zz,Zz,An [Zz,Tt],(↑(1:Nat):Int)=(1:Int),An [Sm (2:Int),Sm (3:Int),Sm (5:Int),Sm (7:Int),Sm (11:Int),Sm (13:Int),Sm (17:Int),Sm (19:Int),Sm (23:Int),Sm (29:Int),Sm (31:Int),Sm (37:Int),Sm (41:Int),Sm (43:Int),Sm (47:Int),Sm (53:Int),Sm (59:Int),Sm (61:Int),Tt],(↑(0:Nat):Int)=(0:Int),Tt],An [Sm (arF f),TT 18],An [An [Zz,1=1,Zz],Tt],An [wt [1]=[u6 1],Tt,Tt],Tt],_,(True->An [CallSpec Pg g0 (V.fn 44 [V.ptr 1 0]) [u6 ↑w] (ofOs T.e 0 (aoL f true ws)) 3 (CR.mk (V.tup []) (ofOs T.e 0 [O.row 44 none (arF f),O.row 89 none [V.sl 3 0 (ws.length+1) none],O.dead,O.row 111 (some 1) (wt m')]) 4 [2,1]),Tt,An [An [_,Sm (wt m'),HfL (wt m')],Tt],Tt]),Tt]) ⟨aq,⟨a_,a_,a_,⟨rfl,a_⟩,aq⟩,l,(fun _=>⟨hcs,aq,⟨⟨hl2,aq,Qbk _⟩,aq⟩,aq⟩),aq⟩
def kIdx:Nat→Int
 |0=> -1
 |k+1=>k
theorem Qp3{l:List Nat}{k:Nat}(h:k<l.length):headF ((wt l).drop (k*1))=some (u6 ((l.getD k 0:Nat):Int)):=by
 have:=Qt4 h
 rwa [Qam,Nat.zero_add]at this
abbrev c5(n:Int):SL:={sl:=[(5,i6 n)]}
abbrev c4(n:Int):SL:={sl:=[(4,i6 n)]}
abbrev cmS(a b:List Nat)(k:Nat):SL:={sl:=[(0,lnV a),(1,lnV b),(5,i6 0),(6,i6 (kIdx k))]}
theorem cmp_loop(a b:List Nat)(ha:WOk a)(hb:WOk b)(hl:a.length=b.length)(h6:a.length≤100000)(r:Int)(hr:r=sgn (valW a) (valW b)):
  Sat Pg none 0 (at' 31 [1,0,1,1,1,0,1,0]) (mkSt g0 45 (cmS a b a.length)) (Qaf g0 45 [(True,.exit 0,c5 r)]):=by
 refine Qa6 vE_ok mixed Qad (b:=at' 31 [1,0,1,1,1,0,1,0,0]) (by kernel_rfl) (fun k=>k≤a.length∧a.drop k=b.drop k) (cmS a b) (fun k=>k) (fun k hk=>?_) a.length ⟨Nat.le_refl _,by rw[List.drop_length,hl,List.drop_length]⟩
 obtain⟨hk,hd⟩:=hk
 cases k with
 |zero=>
  have hab:a=b:=by simpa using hd
  have hr0:r=0:=by rw[hr,hab];simp[sgn]
  subst hr0
  refine .inr ⟨.exit 0,[],c5 0,[],1000,.inl ⟨trivial,rfl,rfl⟩,?_⟩
  refine Eq.mp (by kernel_rfl:(An [An [Sm (0:Int),Tt],Tt])=_) ?_
  exact au
 | succ j =>
  have p1:=Qp3 (l:=a) (k:=j) (by omega)
  have p2:=Qp3 (l:=b) (k:=j) (by omega)
  have lt1:=Qq2 ha hl (i:=j) (by omega) hd
  have lt2:=Qq2 hb hl.symm (i:=j) (by omega) hd.symm
  have st:=Qlv hl (i:=j) (by omega) hd
  generalize a.getD j 0=x at*
  generalize b.getD j 0=y at*
  by_cases h1:x<y
  ·have := lt1 h1
   have hr0:r= -1:=by rw[hr];unfold sgn;rw[if_pos this]
   subst hr0
   refine .inr ⟨.exit 0,[],c5 (-1),[yes 21,pl 27,ld 28 (u6 x),pl 31,ld 32 (u6 y),yes 33],1000,.inl ⟨trivial,rfl,rfl⟩,?_⟩
   clear hr hd lt1 lt2 st
   exact m_ (p:=let z0:=(↑j:Int);An [decide (z0≥(0:Int))=true,An [(0:Int)≤z0,z0<(↑a.length:Int)],_,An [(0:Int)≤z0,z0<(↑b.length:Int)],_,decide ((↑x:Int)<(↑y:Int))=true,An [Sm (-1:Int),Tt],Tt]) ⟨aq,a_,p1,a_,p2,a_⟩
  ·by_cases h2 : y < x
   ·have := lt2 h2
    have hr0:r=1:=by rw[hr];unfold sgn;rw[if_neg (by omega),if_pos this]
    subst hr0
    refine .inr ⟨.exit 0,[],c5 1,[yes 21,pl 27,ld 28 (u6 x),pl 31,ld 32 (u6 y),no 33,pl 37,ld 38 (u6 x),pl 41,ld 42 (u6 y),yes 43],1000,.inl ⟨trivial,rfl,rfl⟩,?_⟩
    clear hr hd lt1 lt2 st
    exact m_ (p:=let z0:=(↑j:Int);let z3:=(0:Int);An [decide (z0≥z3)=true,An [z3≤z0,z0<(↑a.length:Int)],_,An [z3≤z0,z0<(↑b.length:Int)],_,decide ((↑x:Int)<(↑y:Int))=false,An [z3≤z0,z0<(↑a.length:Int)],_,An [z3≤z0,z0<(↑b.length:Int)],_,decide ((↑x:Int)>(↑y:Int))=true,An [Sm (1:Int),Tt],Tt]) ⟨aq,a_,p1,a_,p2,aq,a_,p1,a_,p2,a_⟩
   ·refine .inl ⟨j, [], [yes 21, pl 27, ld 28 (u6 x), pl 31, ld 32 (u6 y), no 33, pl 37, ld 38 (u6 x), pl 41, ld 42 (u6 y), no 43, nu 23 (kIdx j)], 1000, ⟨by omega, st (by omega)⟩, by omega, ?_⟩
    have hdn:wr .i64 ((j:Int)-1)=kIdx j:=by
     rw[wr6 (by omega) (by omega)]
     cases j with
     |zero=>rfl
     |succ j=>simp only[kIdx];omega
    clear hr hd lt1 lt2 st
    exact m_ (p:=let z0:=(↑j:Int);let z1:=(0:Int);An [decide (z0≥z1)=true,An [z1≤z0,z0<(↑a.length:Int)],_,An [z1≤z0,z0<(↑b.length:Int)],_,decide ((↑x:Int)<(↑y:Int))=false,An [z1≤z0,z0<(↑a.length:Int)],_,An [z1≤z0,z0<(↑b.length:Int)],_,decide ((↑x:Int)>(↑y:Int))=false,_,An [An [Sm a.length,Sm (wt a)],An [Sm b.length,Sm (wt b)],z1=z1,Sm (kIdx j),Tt],Tt]) ⟨aq,a_,p1,a_,p2,aq,a_,p1,a_,p2,aq,hdn,a_⟩
theorem Qrd(a b:List Nat)(ha:Norm a)(hb:Norm b)(h6:a.length≤100000)(h7:b.length≤100000):FnOk Pg g0 31 [lnV a,lnV b] (i6 (sgn (valW a) (valW b))):=by
 by_cases hl:a.length=b.length
 ·have l := cmp_loop a b ha.ok hb.ok hl h6 _ rfl
  have hpos:=ha.pos
  have hdn:wr .i64 ((a.length:Int)-1)=kIdx a.length:=by
   rw[wr6 (by omega) (by omega)]
   cases a with
   |nil=>simp at hpos
   |cons x l=>simp only[kIdx,List.length_cons];omega
  generalize sgn (valW a) (valW b)=r at*
  generalize hn:a.length=n at*
  refine FnOk.of_vc vE_ok mixed Qad (n:=1000) (r:=[]) (S:=c4 r) (hs:=[no 11,nu 19 (kIdx n),(0,.loop [] (cmS a b n) [(True,.exit 0,c5 r)])]) ?_
  exact m_ (p:=An [Sm (i6 r),((↑a.length:Int) != (↑b.length:Int))=false,wr .i64 ((↑a.length:Int)-(1:Int))=kIdx n,An [An [An [Sm a.length,Sm (wt a)],An [Sm b.length,Sm (wt b)],Sm (0:Int),Sm (kIdx n),Tt],Tt],_,(True->An [An [r=r,Tt],Tt]),Tt]) ⟨aq,aq,aq,a_,l,a_⟩
 ·by_cases h1 : a.length < b.length
  ·have : sgn (valW a) (valW b) = -1 := by unfold sgn; rw [if_pos (Qqk ha hb h1)]
   rw[this]
   refine FnOk.of_vc vE_ok mixed Qad (n:=1000) (r:=[]) (S:=c4 (-1)) (hs:=[yes 11,yes 16]) ?_
   refine Eq.mp (by kernel_rfl:(An [Sm (i6 (-1)),((↑a.length:Int) != (↑b.length:Int))=true,decide ((↑a.length:Int)<(↑b.length:Int))=true,An [Sm (-1:Int),Tt],Tt])=_) ?_
   (repeat'(first|(with_reducible apply And.intro)|(refine fun(_:True)=>?_)))<;>first|exact aq|skip
  ·have hlt := Qqk hb ha (by omega)
   have:sgn (valW a) (valW b)=1:=by unfold sgn;rw[if_neg (by omega),if_pos hlt]
   rw[this]
   refine FnOk.of_vc vE_ok mixed Qad (n:=1000) (r:=[]) (S:=c4 1) (hs:=[yes 11,no 16]) ?_
   refine Eq.mp (by kernel_rfl:(An [Sm (i6 1),((↑a.length:Int) != (↑b.length:Int))=true,decide ((↑a.length:Int)<(↑b.length:Int))=false,An [Sm (1:Int),Tt],Tt])=_) ?_
   (repeat'(first|(with_reducible apply And.intro)|(refine fun(_:True)=>?_)))<;>first|exact aq|skip
def cmpF(a b:Nat→Int):Int:=sgn (Qa0 (posF (mixF a b (-1) 18) 1) 18) (Qa0 (posF (mixF a b (-1) 18) (-1)) 18)
abbrev cpS2(n e:Int):SL:={sl:=[(4,i6 n),(5,i6 e)]}
theorem Qsw(a b:Nat→Int)(ha:inA a=true)(hb:inA b=true):FnOk Pg g0 14 [ar a,ar b] (.tup [i6 (cmpF a b),i6 0]):=by
 have h:=Qco a
 have h2:=Qco b
 rw[ha]at h
 rw[hb]at h2
 by_cases he: ∀i,i<18→a i=b i
 ·have hba : ar b = ar a := congrArg V.agg (Qcq fun k hk => (he k hk).symm)
  have hz:cmpF a b=0:=by
   unfold cmpF
   have e1: ∀s,Qa0 (posF (mixF a b (-1) 18) s) 18=Qa0 (fun _=>0) 18:=fun s=>Qbe 18 fun j hj=>by
    unfold posF
    rw[Qcg,if_pos hj,he j hj]
    have:b j+ -1*b j=0:=by omega
    rw[this,Int.mul_zero];rfl
   rw[e1,e1];simp[sgn]
  rw[hba,hz]
  refine FnOk.of_vc vE_ok mixed Qad (n:=1000) (r:=[]) (S:=cpS2 0 0) (hs:=[fn 8 (.bool true),fn 12 (.bool true),yes 17]) ?_
  refine Eq.mp (by kernel_rfl:(let z1:=[V.agg (arF a)];let z2:=V.bool true;let z3:=O.row 44 none (arF a);let z4:=(0:Int);let z0:=pt (pt T.e 0 z3) 1 z3;An [Sm (V.tup [i6 0,i6 0]),An [TT 18,Tt],FnOk Pg g0 30 z1 z2,Tt,An [TT 18,Tt],FnOk Pg g0 30 z1 z2,An [(V.fn 30 []=V.fn 30 []→z1=z1→z0=z0→0+1+1=2→Sm (CR.mk z2 z0 2 [])),Tt],(a 0==a 0&&(a 1==a 1&&(a 2==a 2&&(a 3==a 3&&(a 4==a 4&&(a 5==a 5&&(a 6==a 6&&(a 7==a 7&&(a 8==a 8&&(a 9==a 9&&(a 10==a 10&&(a 11==a 11&&(a 12==a 12&&(a 13==a 13&&(a 14==a 14&&(a 15==a 15&&(a 16==a 16&&(a 17==a 17&&true))))))))))))))))))=true,An [z4=z4,z4=z4,Tt],Tt])=_) ?_
  (repeat'(first|(with_reducible apply And.intro)|(refine fun(_:True)=>?_)))<;>first|exact aq|skip
  all_goals exact Qj1.2 (fun _ _=>rfl)
 ·have hc := Qfe a b (-1) (fun k hk => by have := Qiy ha hk; omega) (fun k hk => by have := Qiy hb hk; omega)
  have hbd: ∀i,i<18→ -4000≤mixF a b (-1) 18 i∧mixF a b (-1) 18 i≤4000:=fun i hi=>by
   rw[Qcg,if_pos hi]
   have:=Qiy ha hi
   have:=Qiy hb hi
   omega
  unfold cmpF
  generalize mixF a b (-1) 18=d at*
  obtain⟨u,u1,u2,u3,u4⟩:=Qpa d 1 (.inl rfl) hbd
  obtain⟨v,v1,v2,v3,v4⟩:=Qpa d (-1) (.inr rfl) hbd
  have l:=Qrd u v u1 v1 u3 v3
  rw[u2,v2]at l
  generalize sgn (Qa0 (posF d 1) 18) (Qa0 (posF d (-1)) 18)=r at*
  refine FnOk.of_vc vE_ok mixed Qad (n:=1000) (r:=[]) (S:=cpS2 r 0) (hs:=[fn 8 (.bool true),fn 12 (.bool true),no 17,fn 20 (ar d),fn 22 (lnV u),fn 24 (lnV v),fn 25 (i6 r)]) ?_
  refine Eq.mp (by kernel_rfl:(let z1:=pt (pt T.e 0 (O.row 44 none (arF a))) 1 (O.row 44 none (arF b));let z2:=V.agg (arF d);let z3:=V.bool true;let z4:=V.agg (arF a);let z5:=V.agg (arF b);let z0:=pt (pt z1 2 (O.row 44 none [i6 0,i6 0,i6 0,i6 0,i6 0,i6 0,i6 0,i6 0,i6 0,i6 0,i6 0,i6 0,i6 0,i6 0,i6 0,i6 0,i6 0,i6 0])) 2 (O.row 44 none (arF d));let z6:=[z2,i6 (-1)];An [Sm (V.tup [i6 r,i6 0]),An [TT 18,Tt],FnOk Pg g0 30 [z4] z3,Tt,An [TT 18,Tt],FnOk Pg g0 30 [z5] z3,An [(V.fn 30 []=V.fn 30 []→[z4]=[z5]→z1=z1→0+1+1=2→Sm (CR.mk z3 z1 2 [])),Tt],(a 0==b 0&&(a 1==b 1&&(a 2==b 2&&(a 3==b 3&&(a 4==b 4&&(a 5==b 5&&(a 6==b 6&&(a 7==b 7&&(a 8==b 8&&(a 9==b 9&&(a 10==b 10&&(a 11==b 11&&(a 12==b 12&&(a 13==b 13&&(a 14==b 14&&(a 15==b 15&&(a 16==b 16&&(a 17==b 17&&true))))))))))))))))))=false,An [TT 18,TT 18,Tt,Tt],FnOk Pg g0 25 [z4,z5,i6 (-1)] (ar d),Tt,An [TT 18,Tt,Tt],FnOk Pg g0 32 [z2,i6 1] (lnV u),Tt,An [TT 18,Tt,Tt],FnOk Pg g0 32 z6 (lnV v),An [(V.fn 32 []=V.fn 32 []→[z2,i6 1]=z6→z0=z0→0+1+1+1=3→CR.mk (lnV u) z0 3 []=CR.mk (lnV v) z0 3 []),Tt],TT 2,FnOk Pg g0 31 [V.im u.length (wt u),V.im v.length (wt v)] (i6 r),An [(V.fn 32 []=V.fn 31 []→z6=[lnV u,lnV v]→z0=z0→0+1+1+1=3→CR.mk (lnV v) z0 3 []=CR.mk (i6 r) z0 3 []),(V.fn 32 []=V.fn 31 []→[z2,i6 1]=[lnV u,lnV v]→z0=z0→0+1+1+1=3→CR.mk (lnV u) z0 3 []=CR.mk (i6 r) z0 3 []),Tt],An [r=r,Sm (0:Int),Tt],Tt])=_) ?_
  (repeat'(first|(with_reducible apply And.intro)|(refine fun(_:True)=>?_)))<;>first|exact aq|skip
  all_goals exact Qtb he
def blF(f:Nat→List V)(n:Nat):List V:=(List.range n).flatMap f
theorem Qpj(f:Nat→List V):blF f 0=[]:=rfl
theorem Qbi(f:Nat→List V)(n:Nat):blF f (n+1)=blF f n++f n:=by
 unfold blF;rw[List.range_succ,List.flatMap_append];simp
theorem Qnp(f:Nat→List V)(n:Nat): ∀m,blF f (n+m)=blF f n++blF (fun i=>f (n+i)) m
 |0=>by rw[Qpj];simp
 |m+1=>by rw[show n+(m+1)=(n+m)+1 from rfl,Qbi,Qnp f n m,Qbi,List.append_assoc]
theorem blF_cons(f:Nat→List V)(n:Nat):blF f (n+1)=f 0++blF (fun i=>f (i+1)) n:=by
 rw[Nat.add_comm,Qnp,show blF f 1=f 0 by unfold blF;simp]
 congr 1
 congr 1
 funext i
 rw[Nat.add_comm]
theorem Qbs{f g:Nat→List V}: ∀{n:Nat},(∀i,i<n→f i=g i)→blF f n=blF g n
 |0,_=>rfl
 |n+1,h=>by rw[Qbi,Qbi,Qbs (fun i hi=>h i (by omega)),h n (by omega)]
theorem Qd6{f:Nat→List V}{s:Nat}(hs: ∀k,(f k).length=s): ∀n,(blF f n).length=n*s
 |0=>by rw[Qpj];simp
 |n+1=>by rw[Qbi,List.length_append,Qd6 hs n,hs,Nat.succ_mul]
theorem Qsb: ∀{a b:List V},HfL a→HfL b→HfL (a++b)
 |[],_,_,h=>h
 | _:: _,_,⟨h1,h2⟩,h=>⟨h1,Qsb h2 h⟩
theorem Qjm{f:Nat→List V}(h: ∀k,HfL (f k)): ∀n,HfL (blF f n)
 |0=>trivial
 |n+1=>by rw[Qbi];exact Qsb (Qjm h n) (h n)
theorem Qgg(f:Nat→List V){k n:Nat}(h:k<n):blF f n=blF f k++(f k++blF (fun i=>f (k+1+i)) (n-(k+1))):=by
 have e:n=(k+1)+(n-(k+1)):=by omega
 rw[e,Qnp,Qbi,List.append_assoc]
 rw[show k+1+(n-(k+1))-(k+1)=n-(k+1)by omega]
theorem Qpr{f:Nat→List V}{s:Nat}(hs: ∀k,(f k).length=s){k n:Nat}(h:k<n):(blF f n).drop (k*s)=f k++blF (fun i=>f (k+1+i)) (n-(k+1)):=by
 rw[Qgg f h,List.drop_append,Qd6 hs,Nat.sub_self,List.drop_eq_nil_of_le (by rw[Qd6 hs];omega)]
 simp
theorem take_blF{f:Nat→List V}{s:Nat}(hs: ∀k,(f k).length=s){k n:Nat}(h:k<n):takeE s ((blF f n).drop (k*s))=some (f k):=by
 rw[Qpr hs h,Qku]
 have:Nat.ble s (f k++blF (fun i=>f (k+1+i)) (n-(k+1))).length=true:=Nat.ble_eq_true_of_le (by rw[List.length_append,hs];omega)
 rw[this,cond_true,List.take_append_of_le_length (by rw[hs];omega),List.take_of_length_le (by rw[hs];omega)]
theorem Qvs{f:Nat→List V}{s:Nat}(hs: ∀k,(f k).length=s){k n:Nat}(h:k<n):takeE s (dropF (k*s) (blF f n))=some (f k):=by rw[Qam];exact take_blF hs h
def upB(f:Nat→List V)(k:Nat)(x:List V):Nat→List V:=fun i=>if i=k then x else f i
theorem Qn1{f:Nat→List V}{s:Nat}(hs: ∀k,(f k).length=s){k n:Nat}(h:k<n){x:List V}(hx:x.length=s):layE (k*s) (blF f n) x=some (blF (upB f k x) n):=by
 have hle:k*s+s≤n*s:=by rw[←Nat.succ_mul];exact Nat.mul_le_mul_right _ h
 rw[Qdu,Qd6 hs]
 have:Nat.ble (k*s+x.length) (n*s)=true:=Nat.ble_eq_true_of_le (by rw[hx];exact hle)
 rw[this,cond_true,hx,←Nat.succ_mul]
 congr 1
 rw[Qgg (upB f k x) h]
 have e1:blF (upB f k x) k=blF f k:=Qbs fun i hi=>by unfold upB;rw[if_neg (by omega)]
 have e2:(fun i=>upB f k x (k+1+i))=fun i=>f (k+1+i):=by funext i;unfold upB;rw[if_neg (by omega)]
 have e3:upB f k x k=x:=by unfold upB;rw[if_pos rfl]
 rw[e1,e2,e3,List.append_assoc]
 have t1:(blF f n).take (k*s)=blF f k:=by
  rw[Qgg f h,List.take_append_of_le_length (by rw[Qd6 hs];omega),List.take_of_length_le (by rw[Qd6 hs];omega)]
 have t2:(blF f n).drop (k.succ*s)=blF (fun i=>f (k+1+i)) (n-(k+1)):=by
  rw[Nat.succ_mul,←List.drop_drop,Qpr hs h,List.drop_append,hs,Nat.sub_self,List.drop_eq_nil_of_le (by rw[hs];omega)]
  simp
 rw[t1,t2]
theorem Qhm{z:List V}: ∀n,rep n z=blF (fun _=>z) n
 |0=>rfl
 |n+1=>by rw[rep,Qhm n,blF_cons]
def entM(q:Nat→Nat×Nat):Nat→List (V×V×Nat)
 |0=>[]
 |k+1=>entM q k++[(.agg [i6 ((q k).1:Nat),u6 ((q k).2:Nat)],i6 (k:Nat),k)]
def upQ(q:Nat→Nat×Nat)(k:Nat)(x:Nat×Nat):Nat→Nat×Nat:=fun j=>if j=k then x else q j
theorem Qpv(q:Nat→Nat×Nat): ∀k,(entM q k).length=k
 |0=>rfl
 |k+1=>by rw[entM,List.length_append,Qpv q k];rfl
theorem Qit{q r:Nat→Nat×Nat}: ∀{k:Nat},(∀j,j<k→q j=r j)→entM q k=entM r k
 |0,_=>rfl
 |k+1,h=>by rw[entM,entM,Qit (fun j hj=>h j (by omega)),h k (by omega)]
theorem Qs8(q:Nat→Nat×Nat)(k v p:Nat):entM (upQ q k (v,p)) (k+1)=entM q k++[(.agg [i6 (v:Nat),u6 (p:Nat)],i6 (k:Nat),k)]:=by
 have e:upQ q k (v,p) k=(v,p):=if_pos rfl
 rw[entM,e,Qit (q:=upQ q k (v,p)) (r:=q) (fun j hj=>if_neg (by omega))]
theorem Qsa: ∀{a b:List (V×V×Nat)},HfE a→HfE b→HfE (a++b)
 |[],_,_,h=>h
 | _:: _,_,h,k=>⟨h.1,h.2.1,Qsa h.2.2 k⟩
theorem Qac(q:Nat→Nat×Nat): ∀k,HfE (entM q k)
 |0=>trivial
 |k+1=>Qsa (Qac q k) ⟨⟨trivial,trivial,trivial⟩,trivial,trivial⟩
theorem Qiv{ks:List Bool}{xs ys:List V}{v:V}{n:Nat}{es:List (V×V×Nat)}{i:Nat}:findS ks xs ((.agg ys,v,n)::es) i=(match eqL ks xs ys with|some true=>some (some (i,v))|some false=>findS ks xs es (i+1)|none=>none):=rfl
theorem Qgu{ks:List Bool}{xs:List V}{b:List (V×V×Nat)}: ∀{a:List (V×V×Nat)}{i:Nat},(findS ks xs a i=some none→findS ks xs (a++b) i=findS ks xs b (i+a.length))∧(∀r,findS ks xs a i=some (some r)→findS ks xs (a++b) i=some (some r))
 |[],i=>⟨fun _=>rfl,fun r h=>by cases h⟩
 | (k, v, n) :: a, i => by
  have ih:=@Qgu ks xs b a (i+1)
  cases k with
  | agg ys =>
   rw[List.cons_append,Qiv,Qiv]
   cases eqL ks xs ys with
   |none=>exact⟨fun h=>(by cases h),fun r h=>(by cases h)⟩
   | some t =>
    cases t with
    |true=>exact⟨fun h=>(by cases h),fun r h=>h⟩
    |false=>
     dsimp only
     refine⟨fun h=>?_,fun r h=>ih.2 r h⟩
     rw[ih.1 h,List.length_cons,show i+1+a.length=i+(a.length+1)by omega]
  | _=>exact⟨fun h=>(by simp[findS]at h),fun r h=>(by simp[findS]at h)⟩
theorem find_entM(q:Nat→Nat×Nat)(v p:Nat): ∀k,(∃j,j<k∧q j=(v,p)∧findS [true,true] [i6 (v:Nat),u6 (p:Nat)] (entM q k) 0=some (some (j,i6 (j:Nat))))∨((∀j,j<k→q j≠(v,p))∧findS [true,true] [i6 (v:Nat),u6 (p:Nat)] (entM q k) 0=some none)
 |0=>.inr ⟨fun j h=>absurd h (Nat.not_lt_zero _),rfl⟩
 | k + 1 => by
  rcases find_entM q v p k with⟨j,h1,h2,h3⟩|⟨h1,h2⟩
  ·exact .inl ⟨j,by omega,h2,by rw[entM];exact Qgu.2 _ h3⟩
  ·have e : findS [true, true] [i6 (v : Nat), u6 (p : Nat)] (entM q (k + 1)) 0 = findS [true, true] [i6 (v : Nat), u6 (p : Nat)] [(.agg [i6 ((q k).1 : Nat), u6 ((q k).2 : Nat)], i6 (k : Nat), k)] k := by
    rw[entM,Qgu.1 h2,Nat.zero_add,Qpv]
   have e2:findS [true,true] [i6 (v:Nat),u6 (p:Nat)] [(.agg [i6 ((q k).1:Nat),u6 ((q k).2:Nat)],i6 (k:Nat),k)] k=(match some (((v:Int)==((q k).1:Int))&&(((p:Int)==((q k).2:Int))&&true))with|some true=>some (some (k,i6 (k:Nat)))|some false=>some none|none=>none):=by
    rfl
   by_cases hq:q k=(v,p)
   ·refine .inl ⟨k, by omega, hq, ?_⟩
    rw[e,e2,hq];simp
   ·refine .inr ⟨fun j hj => ?_, ?_⟩
    ·by_cases ej : j = k
     ·rw[ej];exact hq
     ·exact h1 j (by omega)
    ·rw [e, e2]
     have:(((v:Int)==((q k).1:Int))&&(((p:Int)==((q k).2:Int))&&true))=false:=by
      cases hb:(((v:Int)==((q k).1:Int))&&(((p:Int)==((q k).2:Int))&&true))with
      |false=>rfl
      |true=>
       simp only[Bool.and_true,Bool.and_eq_true,beq_iff_eq]at hb
       exact absurd (Prod.ext (by dsimp only;omega) (by dsimp only;omega)) hq
     rw[this]
abbrev bF(B:Nat→Nat→Int)(n:Nat):List V:=blF (fun i=>arF (B i)) n
theorem bF_len(B:Nat→Nat→Int)(n:Nat):(bF B n).length=n*18:=Qd6 (s:=18) (fun _=>rfl) n
theorem Qaa(B:Nat→Nat→Int)(n:Nat):HfL (bF B n):=Qjm (fun k=>HfL_ar (B k)) n
theorem Qbf{B:Nat→Nat→Int}{n j:Nat}(h:j<n):takeE 18 (dropF (j*18) (bF B n))=some (arF (B j)):=Qvs (f:=fun i=>arF (B i)) (s:=18) (fun _=>rfl) h
theorem Qew{B:Nat→Nat→Int}{n j:Nat}(h:j<n)(x:Nat→Int):layE (0+j*18) (bF B n) (arF x)=some (bF (fun i=>if i=j then x else B i) n):=by
 rw[Nat.zero_add,Qn1 (f:=fun i=>arF (B i)) (s:=18) (x:=arF x) (fun _=>rfl) h rfl]
 congr 1
 refine Qbs fun i hi=>?_
 unfold upB
 dsimp only
 split<;>rfl
abbrev scF(F:Nat→Nat→Nat→Int)(q:Nat→Nat×Nat):Nat→Nat→Int:=fun j=>F (q j).1 (q j).2
theorem scF_up(F:Nat→Nat→Nat→Int)(q:Nat→Nat×Nat)(k v p:Nat):bF (scF F (upQ q k (v,p))) (k+1)=bF (scF F q) k++arF (F v p):=by
 have e:upQ q k (v,p) k=(v,p):=if_pos rfl
 show blF _ (k+1)=_
 rw[Qbi]
 congr 1
 ·exact Qbs fun i hi=>by show arF (F (upQ q k (v,p) i).1 _)=arF (F (q i).1 _);rw[show upQ q k (v,p) i=q i from if_neg (by omega)]
 ·show arF (F (upQ q k (v,p) k).1 _)=_;rw[e]
mutual
theorem Hf.sc{D:Nat→Prop}: ∀(x:V),Hf x→Sc D x
 | .bool _,_| .int _ _,_| .str _,_| .nilp,_| .nilf,_| .nili,_| .nils,_| .nilm,_| .im _ _,_| .imp _,_=>trivial
 | .fn _ l,h=>HfL.sc l h
 | .mfn _ l,h=>HfL.sc l h
 | .agg l,h=>HfL.sc l h
 | .tup l,h=>HfL.sc l h
 | .ifc _ x,h=>Hf.sc x h
 | .ptr _ _,h| .sl _ _ _ _,h| .mp _,h| .yld _,h=>h.elim
theorem HfL.sc{D:Nat→Prop}: ∀(l:List V),HfL l→ScL D l
 |[],_=>trivial
 |x::xs,h=>⟨Hf.sc x h.1,HfL.sc xs h.2⟩
end
theorem HfE.sc{D:Nat→Prop}: ∀(l:List (V×V×Nat)),HfE l→ScE D l
 |[],_=>trivial
 |(k,v,_)::es,h=>⟨Hf.sc k h.1,Hf.sc v h.2.1,HfE.sc es h.2.2⟩
theorem CallSpec.dropTo{P:Program}{gl:T (List V)}{f0:Nat}{caps ars:List V}{H H' H'':T O}{nx nx1 nx':Nat}{v:V}{lg:List Nat}(hnx:nx≤nx1)(hle:nx1≤nx')(h:CallSpec P gl (.fn f0 caps) ars H nx ⟨v,H',nx',lg⟩)(hv:Sc (fun i=>i<nx1) v)(h1: ∀i,i<nx1→H''.get i=H'.get i)(h2: ∀i,nx1≤i→H''.get i=none)(h3: ∀i o,H''.get i=some o→ScO (fun i=>i<nx1) o)(hlog:Log H.get nx H''.get nx1 lg):CallSpec P gl (.fn f0 caps) ars H nx ⟨v,H'',nx1,lg⟩:=by
 refine⟨fun s w fv vals a1 a2 a3 a4 a5=>?_,hlog⟩
 obtain⟨next,e1,e2,e3⟩:=h.1 s w fv vals a1 a2 a3 a4 a5
 refine⟨next,e1,?_,e3⟩
 obtain⟨f',ars2,rfl⟩:=e3 ⟨f0,caps,rfl⟩
 refine CallsIn.mono e2 ?_
 rintro e w' ⟨u,s',rfl,g1,g2,g3,g4,g5⟩
 dsimp only at g4 g5
 have hdom: ∀i,s'.dom i∧i<nx1↔s.dom i∨nx≤i∧i<nx1:=fun i=>⟨fun⟨hd,hi⟩=>((g4 i).1 hd).imp id (fun⟨h,_⟩=>⟨h,hi⟩),fun hd=>hd.elim (fun hd=>⟨(g4 i).2 (.inl hd),Nat.lt_of_not_le fun h=>a5 i (by omega) hd⟩) (fun⟨h1,h2⟩=>⟨(g4 i).2 (.inr ⟨h1,by omega⟩),h2⟩)⟩
 refine⟨u,s'.cut (fun i=>i<nx1) s'.mark,rfl,RV.cut _ _ g1 hv,⟨fun i o ho hl=>?_,fun i j o o' ho ho' hl hl' e=>?_,g2.old⟩,⟨⟨⟨g3.le.μ,g3.le.cp,fun i hd=>(hdom i).2 (.inl hd),g3.le.fz⟩,g3.le.mark⟩,g3.fz,g3.kept,g3.mod,fun i hd hn=>g3.new i hd.1 hn⟩,hdom,hnx⟩
 ·have hi : i < nx1 := Nat.lt_of_not_le fun hle => by rw [h2 i hle] at ho; cases ho
  have ho':=ho
  dsimp only at ho'
  rw[h1 i hi]at ho'
  obtain⟨b1,b2,b3,b4⟩:=g2.obj i o ho' hl
  exact⟨⟨b1,hi⟩,b2,b3,RO.cut b4 (h3 i o ho)⟩
 ·have hi : i < nx1 := Nat.lt_of_not_le fun hle => by rw [h2 i hle] at ho; cases ho
  have hj:j<nx1:=Nat.lt_of_not_le fun hle=>by rw[h2 j hle]at ho';cases ho'
  dsimp only at ho ho'
  rw[h1 i hi]at ho
  rw[h1 j hj]at ho'
  exact g2.inj i j o o' ho ho' hl hl' e
theorem CallSpec.dropL{P:Program}{gl:T (List V)}{f0:Nat}{caps ars:List V}{os os1:List O}(os2:List O){v:V}{lg:List Nat}(h:CallSpec P gl (.fn f0 caps) ars (ofOs .e 0 os) os.length ⟨v,ofOs .e 0 (os1++os2),(os1++os2).length,lg⟩)(hl:os.length≤os1.length)(hv:Sc (fun i=>i<os1.length) v)(h3: ∀o∈os1,ScO (fun i=>i<os1.length) o)(hlog: ∀i,i<os.length→i∉lg→os1[i]? =os[i]?):CallSpec P gl (.fn f0 caps) ars (ofOs .e 0 os) os.length ⟨v,ofOs .e 0 os1,os1.length,lg⟩:=by
 refine CallSpec.dropTo hl (by rw[List.length_append];omega) h hv (fun i hi=>?_) (fun i hi=>Qbt (by omega)) (fun i o ho=>?_) ⟨hl,fun i hn hi=>?_⟩
 ·rw[Qcb _ _ _ _ (Nat.zero_le _) (by omega),Qcb _ _ _ _ (Nat.zero_le _) (by rw[List.length_append];omega),Nat.sub_zero,List.getElem?_append_left (by omega)]
 ·rcases ofOs_get os1 .e 0 i o ho with ⟨_, k⟩ | k
  ·exact h3 o (List.mem_of_getElem? k)
  ·simp at k
 ·by_cases h1 : i < os.length
  ·rw [Qcb _ _ _ _ (Nat.zero_le _) (by omega), Qcb _ _ _ _ (Nat.zero_le _) (by omega), Nat.sub_zero]
   exact hlog i h1 hn
  ·rw[Qbt (by omega),Qbt (by omega)]
section
variable (cards:List Int) (cs:List (List Int)) (F:Nat→Nat→Nat→Int) (B:Nat→Nat→Int) (size:Nat) (q:Nat→Nat×Nat)
abbrev toC(hb hm hs k:Nat):List V:=[sl cards,gC cs,.sl hb 0 size (some (size-size)),.mp hm,owV hs k]
abbrev toO0:List O:=[.row 44 none (bF B size),.map (entM q 0) 0,.row 81 none (toC cards cs size 0 1 3 0)]
abbrev toO1(k:Nat):List O:=[.row 44 none (bF B size),.map (entM q (k+1)) (k+1),.row 81 none (toC cards cs size 0 1 3 (k+1)),.row 44 (some 18) (bF (scF F q) (k+1))]
end
theorem Qav(cs:List (List Int)):HfL (cs.map sl):=Qbd _ _ fun _=>trivial
theorem to_sc(cards:List Int)(cs:List (List Int))(F:Nat→Nat→Nat→Int)(B:Nat→Nat→Int)(size:Nat)(q:Nat→Nat×Nat)(k n:Nat)(hn:4≤n): ∀o∈toO1 cards cs F B size q k,ScO (fun i=>i<n) o:=by
 intro o ho
 simp only[List.mem_cons,List.not_mem_nil,or_false]at ho
 rcases ho with rfl|rfl|rfl|rfl
 ·exact HfL.sc _ (Qaa _ _)
 ·exact HfE.sc _ (Qac _ _)
 ·exact⟨trivial,trivial,(show 0<n by omega),(show 1<n by omega),(show 3<n by omega),trivial⟩
 ·exact HfL.sc _ (Qaa _ _)
theorem fam_hit(cards:List Int)(cs:List (List Int))(F:Nat→Nat→Nat→Int)(B:Nat→Nat→Int)(size:Nat)(q:Nat→Nat×Nat)(k v p j:Nat)(hj:j<k+1)(hq:q j=(v,p))(hf:findS [true,true] [i6 (v:Nat),u6 (p:Nat)] (entM q (k+1)) 0=some (some (j,i6 (j:Nat)))):
  CallSpec Pg g0 (.fn 42 []) [.ptr 2 0,i6 (v:Nat),u6 (p:Nat)] (ofOs .e 0 (toO1 cards cs F B size q k)) 4 ⟨.tup [ar (F v p),i6 0],ofOs .e 0 (toO1 cards cs F B size q k),4,[]⟩:=by
 have h:=CallSpec.of_vcH (P:=Pg) (E:=vE) vE_ok mixed Qad (n:=1000) (f:=42) (os0:=toO1 cards cs F B size q k) (ars:=[.ptr 2 0,i6 (v:Nat),u6 (p:Nat)]) (r:=[4])
  (S := { sl := [(6, .ptr 4 0), (7, i6 0)], os := toO1 cards cs F B size q k ++ [.row 44 none (arF (F v p))], md := [0, 0, 1] }) (v := .tup [ar (F v p), i6 0]) (hs := [lk 22 (entM q (k + 1)) (k + 1) (some (j, i6 (j : Nat))), pl 31, ld 32 (ar (F v p))]) (gl := g0) (by simp) (fun i hi _ => by
   rcases(show i=0∨i=1∨i=2∨i=3 by simp at hi;omega)with rfl|rfl|rfl|rfl<;>rfl) (by
  have hB:=Qaa B size
  have hS:=Qaa (scF F q) (k+1)
  have hE:=Qac q (k+1)
  have hc:=Qab cards
  have hg:=Qav cs
  have ht:=@Qbf (scF F q) (k+1) j hj
  have e1:scF F q j=F v p:=by show F (q j).1 (q j).2=_;rw[hq]
  rw[e1]at ht
  clear e1 hq
  refine Eq.mp (by kernel_rfl:(let z0:=bF (scF F q) (k+1);let z1:=entM q (k+1);let z2:=arF (F v p);An [V.tup [V.agg z2,i6 0]=V.tup [ar (F v p),i6 0],An [gt (pt (pt (pt (ofOs T.e 0 (toO1 cards cs F B size q k)) 4 (O.row 44 none [i6 0,i6 0,i6 0,i6 0,i6 0,i6 0,i6 0,i6 0,i6 0,i6 0,i6 0,i6 0,i6 0,i6 0,i6 0,i6 0,i6 0,i6 0])) 5 (O.row 137 none [i6 0,u6 0])) 5 (O.row 137 none [i6 ↑v,u6 ↑p])) 1=some (O.map z1 (k+1)),findS [true,true] [i6 ↑v,u6 ↑p] z1 0=some (some (j,i6 ↑j))],An [(0:Int)≤(↑j:Int),(↑j:Int)<(↑(k+1):Int)],takeE 18 (dropF (0+j*18) z0)=some z2,An [Zz,Sm (0:Int),Tt],An [Sm (bF B size),HfL (bF B size)],An [z1=z1,HfE z1,Sm (k+1)],An [An [Sm cards.length,Sm (ints cards)],An [Sm cs.length,Sm (List.map sl cs)],An [Zz,Sm size,Sm (size-size)],Tt,An [Zz,Sm (k+1),Tt],Tt],An [z0=z0,HfL z0],An [z2=z2,TT 18],Tt])=_) ?_
  (repeat'(first|(with_reducible apply And.intro)|(refine fun(_:True)=>?_)))
  all_goals first|exact aq|exact hf|exact hB|exact hS|(rw[Nat.zero_add];exact ht)|exact hE|(show gt _ 1=some (O.map _ _);kernel_rfl)|rfl|skip)
 exact CallSpec.dropL (os1:=toO1 cards cs F B size q k) [.row 44 none (arF (F v p))] h (Nat.le_refl _) ⟨HfL.sc _ (HfL_ar _),trivial,trivial⟩ (to_sc cards cs F B size q k 4 (Nat.le_refl _)) (fun i hi _=>rfl)
theorem Qtn(cards:List Int)(cs:List (List Int))(F:Nat→Nat→Nat→Int)(B:Nat→Nat→Int)(size:Nat)(q:Nat→Nat×Nat)(v p:Nat)(hsc:FnOk Pg g0 54 [gV cards cs,i6 (v:Nat),u6 (p:Nat)] (.tup [ar (F v p),i6 0])):
  CallSpec Pg g0 (.fn 42 []) [.ptr 2 0,i6 (v:Nat),u6 (p:Nat)] (ofOs .e 0 (toO0 cards cs B size q)) 3 ⟨.tup [ar (F v p),i6 0],ofOs .e 0 (toO1 cards cs F B size (upQ q 0 (v,p)) 0),4,[1,2]⟩:=by
 have h:=CallSpec.of_vcH (P:=Pg) (E:=vE) vE_ok mixed Qad (n:=1000) (f:=42) (os0:=toO0 cards cs B size q) (ars:=[.ptr 2 0,i6 (v:Nat),u6 (p:Nat)]) (r:=[7,3])
  (S := { sl := [(6, .ptr 4 0), (7, i6 0)], os := toO1 cards cs F B size (upQ q 0 (v, p)) 0 ++ [.row 44 none (arF (F v p))], md := [0, 0, 1], lg := [1, 2] }) (v := .tup [ar (F v p), i6 0]) (hs := [lk 22 [] 0 none, fn 40 (.tup [ar (F v p), i6 0]), st (arF (F v p)), up [] 0 (.map [(.agg [i6 (v : Nat), u6 (p : Nat)], i6 0, 0)] 1)]) (gl := g0) (by simp) (fun i hi hno => by
   rcases(show i=0∨i=1∨i=2 by simp at hi;omega)with rfl|rfl|rfl
   ·rfl
   ·simp at hno
   ·simp at hno) (by
  have hB:=Qaa B size
  have hc:=Qab cards
  have hg:=Qav cs
  have e1:=scF_up F q 0 v p
  have e2:=Qs8 q 0 v p
  have hE:HfE (entM (upQ q 0 (v,p)) (0+1)):=Qac _ _
  have hS:HfL (bF (scF F (upQ q 0 (v,p))) (0+1)):=Qaa _ _
  refine Eq.mp (by kernel_rfl:(let z0:=[i6 0,i6 0,i6 0,i6 0,i6 0,i6 0,i6 0,i6 0,i6 0,i6 0,i6 0,i6 0,i6 0,i6 0,i6 0,i6 0,i6 0,i6 0];let z2:=[i6 ↑v,u6 ↑p];let z3:=arF (F v p);let z4:=upQ q 0 (v,p);let z5:=List.map sl cs;let z6:=V.tup [ar (F v p),i6 0];let z1:=pt (pt (pt (ofOs T.e 0 (toO0 cards cs B size q)) 3 (O.row 44 none z0)) 4 (O.row 137 none [i6 0,u6 0])) 4 (O.row 137 none z2);An [V.tup [V.agg z3,i6 0]=z6,An [gt z1 1=some (O.map [] 0),findS [true,true] z2 [] 0=some none],An [TT 2,TT 2],FnOk Pg g0 54 [V.agg [V.im cards.length (ints cards),V.im cs.length z5],i6 ↑v,u6 ↑p] z6,Tt,layE 0 z0 z3=some z3,An [gt (pt (pt z1 5 (O.row 44 none z0)) 5 (O.row 44 none z3)) 1=some (O.map [] 0),putS [true,true] z2 (i6 ↑(0:Nat)) [] 0=some (O.map [(V.agg z2,i6 0,0)] 1)],An [Zz,Sm (0:Int),Tt],An [Sm (bF B size),HfL (bF B size)],An [entM z4 1=[(V.agg z2,i6 0,0)],HfE (entM z4 1),1=1],An [An [Sm cards.length,Sm (ints cards)],An [Sm cs.length,z5=z5],An [Zz,Sm size,Sm (size-size)],Tt,An [Zz,1=1,Tt],Tt],An [bF (scF F z4) 1=z3,TT 18],An [z3=z3,TT 18],Tt])=_) ?_
  (repeat'(first|(with_reducible apply And.intro)|(refine fun(_:True)=>?_)))
  all_goals first|exact aq|exact hB|exact hS|exact hE|exact e1|exact e2|(show gt _ 1=some (O.map _ _);kernel_rfl)|rfl|skip)
 exact CallSpec.dropL (os1:=toO1 cards cs F B size (upQ q 0 (v,p)) 0) [.row 44 none (arF (F v p))] h (by simp) ⟨HfL.sc _ (HfL_ar _),trivial,trivial⟩ (to_sc cards cs F B size _ 0 4 (Nat.le_refl _)) (fun i hi hno=>by
  rcases(show i=0∨i=1∨i=2 by simp at hi;omega)with rfl|rfl|rfl
  ·rfl
  ·simp at hno
  ·simp at hno)
abbrev toO2(cards:List Int)(cs:List (List Int))(F:Nat→Nat→Nat→Int)(B:Nat→Nat→Int)(size:Nat)(q:Nat→Nat×Nat)(k:Nat):List O:=[.row 44 none (bF B size),.map (entM q (k+1)) (k+1),.row 81 none (toC cards cs size 0 1 4 (k+1)),.dead,.row 44 (some 18) (bF (scF F q) (k+1))]
theorem to_sc2(cards:List Int)(cs:List (List Int))(F:Nat→Nat→Nat→Int)(B:Nat→Nat→Int)(size:Nat)(q:Nat→Nat×Nat)(k n:Nat)(hn:5≤n): ∀o∈toO2 cards cs F B size q k,ScO (fun i=>i<n) o:=by
 intro o ho
 simp only[List.mem_cons,List.not_mem_nil,or_false]at ho
 rcases ho with rfl|rfl|rfl|rfl|rfl
 ·exact HfL.sc _ (Qaa _ _)
 ·exact HfE.sc _ (Qac _ _)
 ·exact⟨trivial,trivial,(show 0<n by omega),(show 1<n by omega),(show 4<n by omega),trivial⟩
 ·trivial
 ·exact HfL.sc _ (Qaa _ _)
theorem Qto(cards:List Int)(cs:List (List Int))(F:Nat→Nat→Nat→Int)(B:Nat→Nat→Int)(size:Nat)(q:Nat→Nat×Nat)(k v p:Nat)(hk:k≤1000000)(hf:findS [true,true] [i6 (v:Nat),u6 (p:Nat)] (entM q (k+1)) 0=some none)(hsc:FnOk Pg g0 54 [gV cards cs,i6 (v:Nat),u6 (p:Nat)] (.tup [ar (F v p),i6 0])):
  CallSpec Pg g0 (.fn 42 []) [.ptr 2 0,i6 (v:Nat),u6 (p:Nat)] (ofOs .e 0 (toO1 cards cs F B size q k)) 4 ⟨.tup [ar (F v p),i6 0],ofOs .e 0 (toO2 cards cs F B size (upQ q (k+1) (v,p)) (k+1)),5,[1,2,3]⟩:=by
 have h:=CallSpec.of_vcH (P:=Pg) (E:=vE) vE_ok mixed Qad (n:=1000) (f:=42) (os0:=toO1 cards cs F B size q k) (ars:=[.ptr 2 0,i6 (v:Nat),u6 (p:Nat)]) (r:=[8,4])
  (S := { sl := [(6, .ptr 5 0), (7, i6 0)], os := toO2 cards cs F B size (upQ q (k + 1) (v, p)) (k + 1) ++ [.row 44 none (arF (F v p))], md := [0, 0, 1], lg := [1, 2, 3] }) (v := .tup [ar (F v p), i6 0]) (hs := [lk 22 (entM q (k + 1)) (k + 1) none, fn 40 (.tup [ar (F v p), i6 0]), st (arF (F v p)), up (entM q (k + 1)) (k + 1) (.map (entM (upQ q (k + 1) (v, p)) (k + 1 + 1)) (k + 1 + 1)), ap 64]) (gl := g0) (by simp) (fun i hi hno => by
   rcases(show i=0∨i=1∨i=2∨i=3 by simp at hi;omega)with rfl|rfl|rfl|rfl
   ·rfl
   ·simp at hno
   ·simp at hno
   ·simp at hno) (by
  have hB:=Qaa B size
  have hc:=Qab cards
  have hg:=Qav cs
  have e1:=scF_up F q (k+1) v p
  have e2:=Qs8 q (k+1) v p
  have e3:putS [true,true] [i6 (v:Nat),u6 (p:Nat)] (i6 ((k+1:Nat):Int)) (entM q (k+1)) (k+1)=some (.map (entM (upQ q (k+1) (v,p)) (k+1+1)) (k+1+1)):=by
   unfold putS;rw[hf,e2]
  have hl:=bF_len (scF F q) (k+1)
  have hE:=Qac (upQ q (k+1) (v,p)) (k+1+1)
  have hS:HfL (bF (scF F (upQ q (k+1) (v,p))) (k+1+1)):=Qaa _ _
  have hS0:HfL (bF (scF F q) (k+1)):=Qaa _ _
  refine Eq.mp (by kernel_rfl:(let z0:=[i6 0,i6 0,i6 0,i6 0,i6 0,i6 0,i6 0,i6 0,i6 0,i6 0,i6 0,i6 0,i6 0,i6 0,i6 0,i6 0,i6 0,i6 0];let z3:=arF (F v p);let z5:=entM q (k+1);let z6:=[i6 ↑v,u6 ↑p];let z7:=List.map sl cs;let z8:=V.tup [ar (F v p),i6 0];let z9:=upQ q (k+1) (v,p);let y1:=bF (scF F q) (k+1);let z1:=pt (pt (pt (ofOs T.e 0 (toO1 cards cs F B size q k)) 4 (O.row 44 none z0)) 5 (O.row 137 none [i6 0,u6 0])) 5 (O.row 137 none z6);let z2:=entM z9 (k+1+1);let z4:=bF (scF F z9) (k+1+1);let y0:=some (O.map z5 (k+1));An [V.tup [V.agg z3,i6 0]=z8,An [gt z1 1=y0,findS [true,true] z6 z5 0=some none],An [TT 2,TT 2],FnOk Pg g0 54 [V.agg [V.im cards.length (ints cards),V.im cs.length z7],i6 ↑v,u6 ↑p] z8,Tt,layE 0 z0 z3=some z3,An [gt (pt (pt z1 6 (O.row 44 none z0)) 6 (O.row 44 none z3)) 1=y0,putS [true,true] z6 (i6 ↑(k+1)) z5 (k+1)=some (O.map z2 (k+1+1))],y1.length=(k+1)*18,k+1+1≤9223372036854775807,(k+1+1)*144≤140737488355328,An [Zz,Sm (0:Int),Tt],An [Sm (bF B size),HfL (bF B size)],An [z2=z2,HfE z2,Sm (k+1+1)],An [An [Sm cards.length,Sm (ints cards)],An [Sm cs.length,z7=z7],An [Zz,Sm size,Sm (size-size)],Tt,An [Zz,Nat.succ k+1=k+1+1,Tt],Tt],Tt,An [z4=y1++z3,HfL z4],An [z3=z3,TT 18],Tt])=_) ?_
  (repeat'(first|(with_reducible apply And.intro)|(refine fun(_:True)=>?_)))
  all_goals first|exact aq|exact hB|exact hS|exact hS0|exact hE|exact hf|exact e3|exact e1|exact e1.symm|exact hl|(show gt _ 1=some (O.map _ _);kernel_rfl)|rfl|skip)
 exact CallSpec.dropL (os1:=toO2 cards cs F B size (upQ q (k+1) (v,p)) (k+1)) [.row 44 none (arF (F v p))] h (by simp) ⟨HfL.sc _ (HfL_ar _),trivial,trivial⟩ (to_sc2 cards cs F B size _ (k+1) 5 (Nat.le_refl _)) (fun i hi hno=>by
  rcases(show i=0∨i=1∨i=2∨i=3 by simp at hi;omega)with rfl|rfl|rfl|rfl
  ·rfl
  ·simp at hno
  ·simp at hno
  ·simp at hno)
abbrev z18:List V:=arF (fun _=>0)
theorem Qqq(cards:List Int)(cs:List (List Int))(F:Nat→Nat→Nat→Int)(B:Nat→Nat→Int)(size:Nat)(q:Nat→Nat×Nat)(k s t v p b j:Nat)(x:Nat→Int)(hj:j<k+1)(hq:q j=(v,p))(hf:findS [true,true] [i6 (v:Nat),u6 (p:Nat)] (entM q (k+1)) 0=some (some (j,i6 (j:Nat))))(ht:t<size)
  (h1: ∀G T,binV G .shl T (i6 1) (i6 (v:Nat))=some (i6 (b:Nat)))(h2: ∀G T,binV G .andNot T (i6 (s:Nat)) (i6 (b:Nat))=some (i6 (t:Nat)))(hadd:FnOk Pg g0 43 [ar (B t),ar (F v p)] (.tup [ar x,i6 0])):
  CallSpec Pg g0 (.fn 28 []) [.ptr 2 0,i6 (s:Nat),i6 (v:Nat),u6 (p:Nat)] (ofOs .e 0 (toO1 cards cs F B size q k)) 4 ⟨.tup [ar x,i6 0],ofOs .e 0 (toO1 cards cs F B size q k),4,[]⟩:=by
 have hB:=Qaa B size
 have hS:=Qaa (scF F q) (k+1)
 have hE:=Qac q (k+1)
 have hE0:=hE
 have hS0:=hS
 have hc:=Qab cards
 have hg:=Qav cs
 have htk:=@Qbf B size t ht
 have hcall:CallSpec Pg g0 (.fn 42 []) [.ptr 2 0,i6 (v:Nat),u6 (p:Nat)] (ofOs .e 0 (toO1 cards cs F B size q k++[.row 44 none z18])) 5 ⟨.tup [ar (F v p),i6 0],ofOs .e 0 (toO1 cards cs F B size q k++[.row 44 none z18]),5,[]⟩:=
  CallSpec.frameL (OS:=toO1 cards cs F B size q k++[.row 44 none z18]) (OS':=toO1 cards cs F B size q k++[.row 44 none z18]) [0,1,2,3] [(0,0),(1,1),(2,2),(3,3)] [0,0,1] [0,0,1] (fam_hit cards cs F B size q k v p j hj hq hf) (by kernel_rfl) (by
   refine Eq.mp (by kernel_rfl:(An [Zz,Sm (↑v:Int),Sm (↑p:Int),Tt])=_) ?_
   (repeat'(first|(with_reducible apply And.intro)|(refine fun(_:True)=>?_)))<;>first|exact aq|skip) (by
   refine Eq.mp (by kernel_rfl:(let z0:=bF (scF F q) (k+1);let z1:=entM q (k+1);An [An [Sm (bF B size),HfL (bF B size)],An [z1=z1,HfE z1,Sm (k+1)],An [An [Sm cards.length,Sm (ints cards)],An [Sm cs.length,Sm (List.map sl cs)],An [Zz,Sm size,Sm (size-size)],Tt,An [Zz,Sm (k+1),Tt],Tt],An [z0=z0,HfL z0],Tt])=_) ?_
   (repeat'(first|(with_reducible apply And.intro)|(refine fun(_:True)=>?_)))
   all_goals first|exact aq|exact hB|exact hS|exact hS0|exact hE|exact hE0|rfl|skip) (by
   refine Eq.mp (by kernel_rfl:(An [An [Sm (F v p 0),Sm (F v p 1),Sm (F v p 2),Sm (F v p 3),Sm (F v p 4),Sm (F v p 5),Sm (F v p 6),Sm (F v p 7),Sm (F v p 8),Sm (F v p 9),Sm (F v p 10),Sm (F v p 11),Sm (F v p 12),Sm (F v p 13),Sm (F v p 14),Sm (F v p 15),Sm (F v p 16),Sm (F v p 17),Tt],Sm (0:Int),Tt])=_) ?_
   (repeat'(first|(with_reducible apply And.intro)|(refine fun(_:True)=>?_)))<;>first|exact aq|skip) (by
   refine Eq.mp (by kernel_rfl:(let z0:=toO1 cards cs F B size q k;let z1:=O.row 44 none z18;let z2:=bF (scF F q) (k+1);let z3:=entM q (k+1);let z4:=bF B size;An [(z0++[z1])[0]? =some (O.row 44 none z4),An [z4=z4,HfL z4],(z0++[z1])[1]? =some (O.map z3 (k+1)),An [z3=z3,HfE z3,Sm (k+1)],(z0++[z1])[2]? =some (O.row 81 none (toC cards cs size 0 1 3 (k+1))),An [An [Sm cards.length,Sm (ints cards)],An [Sm cs.length,Sm (List.map sl cs)],An [Zz,Sm size,Sm (size-size)],Tt,An [Zz,Sm (k+1),Tt],Tt],(z0++[z1])[3]? =some (O.row 44 (some 18) z2),An [z2=z2,HfL z2],(z0++[z1])[4]? =some z1,(z0++[z1])[4]? =some z1,Tt])=_) ?_
   (repeat'(first|(with_reducible apply And.intro)|(refine fun(_:True)=>?_)))
   all_goals first|exact aq|exact hB|exact hS|exact hS0|exact hE|exact hE0|rfl|skip)
 have h:=CallSpec.of_vcH (P:=Pg) (E:=vE) vE_ok mixed Qad (n:=1000) (f:=28) (os0:=toO1 cards cs F B size q k) (ars:=[.ptr 2 0,i6 (s:Nat),i6 (v:Nat),u6 (p:Nat)]) (r:=[4])
  (S := { sl := [(8, .ptr 4 0), (9, i6 0)], os := toO1 cards cs F B size q k ++ [.row 44 none (arF x)], md := [0, 0, 1], lg := [] }) (v := .tup [ar x, i6 0]) (hs := [(16, .call ⟨.tup [ar (F v p), i6 0], ofOs .e 0 (toO1 cards cs F B size q k ++ [.row 44 none z18]), 5, []⟩), va 29 (i6 (b : Nat)), va 30 (i6 (t : Nat)), pl 31, ld 32 (ar (B t)), fn 34 (.tup [ar x, i6 0])]) (gl := g0) (by simp) (fun i hi _ => by
   rcases(show i=0∨i=1∨i=2∨i=3 by simp at hi;omega)with rfl|rfl|rfl|rfl<;>rfl) (by
  refine Eq.mp (by kernel_rfl:(let z0:=bF (scF F q) (k+1);let z1:=toO1 cards cs F B size q k;let z2:=entM q (k+1);let z3:=bF B size;An [V.tup [V.agg (arF x),i6 0]=V.tup [ar x,i6 0],CallSpec Pg g0 (V.fn 42 []) [V.ptr 2 0,i6 ↑v,u6 ↑p] (pt (ofOs T.e 0 z1) 4 (O.row 44 none [i6 0,i6 0,i6 0,i6 0,i6 0,i6 0,i6 0,i6 0,i6 0,i6 0,i6 0,i6 0,i6 0,i6 0,i6 0,i6 0,i6 0,i6 0])) 5 (CR.mk (V.tup [ar (F v p),i6 0]) (ofOs T.e 0 (z1++[O.row 44 none z18])) 5 []),Tt,binV (Qae Pg) .shl 3 (i6 1) (i6 ↑v)=some (i6 ↑b),binV (Qae Pg) .andNot 3 (i6 ↑s) (i6 ↑b)=some (i6 ↑t),An [(0:Int)≤(↑t:Int),(↑t:Int)<(↑size:Int)],takeE 18 (dropF (0+t*18) z3)=some (arF (B t)),An [TT 18,TT 18,Tt],FnOk Pg g0 43 [V.agg (arF (B t)),V.agg (arF (F v p))] (V.tup [ar x,i6 0]),Tt,An [Zz,Sm (0:Int),Tt],An [z3=z3,HfL z3],An [z2=z2,HfE z2,Sm (k+1)],An [An [Sm cards.length,Sm (ints cards)],An [Sm cs.length,Sm (List.map sl cs)],An [Zz,Sm size,Sm (size-size)],Tt,An [Zz,Sm (k+1),Tt],Tt],An [z0=z0,HfL z0],An [Sm (arF x),TT 18],Tt])=_) ?_
  (repeat'(first|(with_reducible apply And.intro)|(refine fun(_:True)=>?_)))
  all_goals first|(with_reducible exact h1 _ _)|(with_reducible exact h2 _ _)|exact aq|exact hcall|exact hB|exact hS|exact hS0|exact hE|exact hE0|exact hadd|(rw[Nat.zero_add];exact htk)|exact h1 _ _|exact h2 _ _|rfl|skip)
 exact CallSpec.dropL (os1:=toO1 cards cs F B size q k) [.row 44 none (arF x)] h (by simp) ⟨HfL.sc _ (HfL_ar _),trivial,trivial⟩ (to_sc cards cs F B size q k 4 (Nat.le_refl _)) (fun i hi _=>by
   rcases(show i=0∨i=1∨i=2∨i=3 by simp at hi;omega)with rfl|rfl|rfl|rfl<;>rfl)
theorem Qrv(cards:List Int)(cs:List (List Int))(F:Nat→Nat→Nat→Int)(B:Nat→Nat→Int)(size:Nat)(q:Nat→Nat×Nat)(s t v p b:Nat)(x:Nat→Int)(hsc:FnOk Pg g0 54 [gV cards cs,i6 (v:Nat),u6 (p:Nat)] (.tup [ar (F v p),i6 0]))(ht:t<size)
  (h1: ∀G T,binV G .shl T (i6 1) (i6 (v:Nat))=some (i6 (b:Nat)))(h2: ∀G T,binV G .andNot T (i6 (s:Nat)) (i6 (b:Nat))=some (i6 (t:Nat)))(hadd:FnOk Pg g0 43 [ar (B t),ar (F v p)] (.tup [ar x,i6 0])):
  CallSpec Pg g0 (.fn 28 []) [.ptr 2 0,i6 (s:Nat),i6 (v:Nat),u6 (p:Nat)] (ofOs .e 0 (toO0 cards cs B size q)) 3 ⟨.tup [ar x,i6 0],ofOs .e 0 (toO1 cards cs F B size (upQ q 0 (v,p)) 0),4,[1,2]⟩:=by
 have hB:=Qaa B size
 have hS:=Qaa (scF F (upQ q 0 (v,p))) (0+1)
 have hE:=Qac (upQ q 0 (v,p)) (0+1)
 have hE0:=Qac q 0
 have hS0:=hS
 have hc:=Qab cards
 have hg:=Qav cs
 have htk:=@Qbf B size t ht
 have hcall:CallSpec Pg g0 (.fn 42 []) [.ptr 2 0,i6 (v:Nat),u6 (p:Nat)] (ofOs .e 0 (toO0 cards cs B size q++[.row 44 none z18])) 4 ⟨.tup [ar (F v p),i6 0],ofOs .e 0 [.row 44 none (bF B size),.map (entM (upQ q 0 (v,p)) (0+1)) (0+1),.row 81 none (toC cards cs size 0 1 4 (0+1)),.row 44 none z18,.row 44 (some 18) (bF (scF F (upQ q 0 (v,p))) (0+1))],5,[1,2]⟩:=
  CallSpec.frameL (OS:=toO0 cards cs B size q++[.row 44 none z18]) (OS':=[.row 44 none (bF B size),.map (entM (upQ q 0 (v,p)) (0+1)) (0+1),.row 81 none (toC cards cs size 0 1 4 (0+1)),.row 44 none z18,.row 44 (some 18) (bF (scF F (upQ q 0 (v,p))) (0+1))]) [0,1,2] [(0,0),(1,1),(2,2),(4,3)] [0,0,1] [0,0,1] (Qtn cards cs F B size q v p hsc) (by kernel_rfl) (by
   refine Eq.mp (by kernel_rfl:(An [Zz,Sm (↑v:Int),Sm (↑p:Int),Tt])=_) ?_
   (repeat'(first|(with_reducible apply And.intro)|(refine fun(_:True)=>?_)))<;>first|exact aq|skip) (by
   refine Eq.mp (by kernel_rfl:(An [An [Sm (bF B size),HfL (bF B size)],An [Sm (entM q 0),HfE (entM q 0),Zz],An [An [Sm cards.length,Sm (ints cards)],An [Sm cs.length,Sm (List.map sl cs)],An [Zz,Sm size,Sm (size-size)],TT 2],Tt])=_) ?_
   (repeat'(first|(with_reducible apply And.intro)|(refine fun(_:True)=>?_)))
   all_goals first|exact aq|exact hB|exact hS|exact hS0|exact hE|exact hE0|rfl|skip) (by
   refine Eq.mp (by kernel_rfl:(An [An [Sm (F v p 0),Sm (F v p 1),Sm (F v p 2),Sm (F v p 3),Sm (F v p 4),Sm (F v p 5),Sm (F v p 6),Sm (F v p 7),Sm (F v p 8),Sm (F v p 9),Sm (F v p 10),Sm (F v p 11),Sm (F v p 12),Sm (F v p 13),Sm (F v p 14),Sm (F v p 15),Sm (F v p 16),Sm (F v p 17),Tt],Sm (0:Int),Tt])=_) ?_
   (repeat'(first|(with_reducible apply And.intro)|(refine fun(_:True)=>?_)))<;>first|exact aq|skip) (by
   refine Eq.mp (by kernel_rfl:(let z0:=O.row 44 none z18;let z1:=upQ q 0 (v,p);let z2:=toO0 cards cs B size q;let z3:=bF B size;An [(z2++[z0])[0]? =some (O.row 44 none z3),An [z3=z3,HfL z3],Tt,An [Sm (entM z1 1),HfE (entM z1 1),1=1],Tt,An [An [Sm cards.length,Sm (ints cards)],An [Sm cs.length,Sm (List.map sl cs)],An [Zz,Sm size,Sm (size-size)],Tt,An [Zz,1=1,Tt],Tt],(z2++[z0])[3]? =some z0,(z2++[z0])[3]? =some z0,Tt,An [Sm (bF (scF F z1) 1),TT 18],Tt])=_) ?_
   (repeat'(first|(with_reducible apply And.intro)|(refine fun(_:True)=>?_)))
   all_goals first|exact aq|exact hB|exact hS|exact hS0|exact hE|exact hE0|rfl|skip)
 have h:=CallSpec.of_vcH (P:=Pg) (E:=vE) vE_ok mixed Qad (n:=1000) (f:=28) (os0:=toO0 cards cs B size q) (ars:=[.ptr 2 0,i6 (s:Nat),i6 (v:Nat),u6 (p:Nat)]) (r:=[4,3])
  (S := { sl := [(8, .ptr 4 0), (9, i6 0)], os := toO1 cards cs F B size (upQ q 0 (v, p)) 0 ++ [.row 44 none (arF x)], md := [0, 0, 1], lg := [1, 2] }) (v := .tup [ar x, i6 0]) (hs := [(16, .call ⟨.tup [ar (F v p), i6 0], ofOs .e 0 [.row 44 none (bF B size), .map (entM (upQ q 0 (v, p)) (0 + 1)) (0 + 1), .row 81 none (toC cards cs size 0 1 4 (0 + 1)), .row 44 none z18, .row 44 (some 18) (bF (scF F (upQ q 0 (v, p))) (0 + 1))], 5, [1, 2]⟩), va 29 (i6 (b : Nat)), va 30 (i6 (t : Nat)), pl 31, ld 32 (ar (B t)), fn 34 (.tup [ar x, i6 0])]) (gl := g0) (by simp) (fun i hi hno => by
   rcases(show i=0∨i=1∨i=2 by simp at hi;omega)with rfl|rfl|rfl<;>first|rfl|(simp at hno)) (by
  refine Eq.mp (by kernel_rfl:(let z0:=upQ q 0 (v,p);let z1:=bF B size;let z2:=bF (scF F z0) 1;let z3:=entM z0 1;An [V.tup [V.agg (arF x),i6 0]=V.tup [ar x,i6 0],CallSpec Pg g0 (V.fn 42 []) [V.ptr 2 0,i6 ↑v,u6 ↑p] (pt (ofOs T.e 0 (toO0 cards cs B size q)) 3 (O.row 44 none [i6 0,i6 0,i6 0,i6 0,i6 0,i6 0,i6 0,i6 0,i6 0,i6 0,i6 0,i6 0,i6 0,i6 0,i6 0,i6 0,i6 0,i6 0])) 4 (CR.mk (V.tup [ar (F v p),i6 0]) (ofOs T.e 0 [O.row 44 none z1,O.map z3 1,O.row 81 none (toC cards cs size 0 1 4 1),O.row 44 none z18,O.row 44 (some 18) z2]) 5 [1,2]),Tt,binV (Qae Pg) .shl 3 (i6 1) (i6 ↑v)=some (i6 ↑b),binV (Qae Pg) .andNot 3 (i6 ↑s) (i6 ↑b)=some (i6 ↑t),An [(0:Int)≤(↑t:Int),(↑t:Int)<(↑size:Int)],takeE 18 (dropF (0+t*18) z1)=some (arF (B t)),An [TT 18,TT 18,Tt],FnOk Pg g0 43 [V.agg (arF (B t)),V.agg (arF (F v p))] (V.tup [ar x,i6 0]),Tt,An [Zz,Sm (0:Int),Tt],An [z1=z1,HfL z1],An [z3=z3,HfE z3,1=1],An [An [Sm cards.length,Sm (ints cards)],An [Sm cs.length,Sm (List.map sl cs)],An [Zz,Sm size,Sm (size-size)],Tt,An [Zz,1=1,Tt],Tt],An [z2=z2,TT 18],An [Sm (arF x),TT 18],Tt])=_) ?_
  (repeat'(first|(with_reducible apply And.intro)|(refine fun(_:True)=>?_)))
  all_goals first|(with_reducible exact h1 _ _)|(with_reducible exact h2 _ _)|exact aq|exact hcall|exact hB|exact hS|exact hS0|exact hE|exact hE0|exact hadd|(rw[Nat.zero_add];exact htk)|exact h1 _ _|exact h2 _ _|rfl|skip)
 exact CallSpec.dropL (os1:=toO1 cards cs F B size (upQ q 0 (v,p)) 0) [.row 44 none (arF x)] h (by simp) ⟨HfL.sc _ (HfL_ar _),trivial,trivial⟩ (to_sc cards cs F B size _ 0 4 (Nat.le_refl _)) (fun i hi hno=>by
   rcases(show i=0∨i=1∨i=2 by simp at hi;omega)with rfl|rfl|rfl<;>first|rfl|(simp at hno))
theorem Qi6(cards:List Int)(cs:List (List Int))(F:Nat→Nat→Nat→Int)(B:Nat→Nat→Int)(size:Nat)(q:Nat→Nat×Nat)(k s t v p b:Nat)(x:Nat→Int)(hk:k≤1000000)(hf:findS [true,true] [i6 (v:Nat),u6 (p:Nat)] (entM q (k+1)) 0=some none)(hsc:FnOk Pg g0 54 [gV cards cs,i6 (v:Nat),u6 (p:Nat)] (.tup [ar (F v p),i6 0]))(ht:t<size)
  (h1: ∀G T,binV G .shl T (i6 1) (i6 (v:Nat))=some (i6 (b:Nat)))(h2: ∀G T,binV G .andNot T (i6 (s:Nat)) (i6 (b:Nat))=some (i6 (t:Nat)))(hadd:FnOk Pg g0 43 [ar (B t),ar (F v p)] (.tup [ar x,i6 0])):
  CallSpec Pg g0 (.fn 28 []) [.ptr 2 0,i6 (s:Nat),i6 (v:Nat),u6 (p:Nat)] (ofOs .e 0 (toO1 cards cs F B size q k)) 4 ⟨.tup [ar x,i6 0],ofOs .e 0 (toO2 cards cs F B size (upQ q (k+1) (v,p)) (k+1)),5,[1,2,3]⟩:=by
 have hB:=Qaa B size
 have hS:=Qaa (scF F (upQ q (k+1) (v,p))) (k+1+1)
 have hE:=Qac (upQ q (k+1) (v,p)) (k+1+1)
 have hS0:=Qaa (scF F q) (k+1)
 have hE0:=Qac q (k+1)
 have hc:=Qab cards
 have hg:=Qav cs
 have htk:=@Qbf B size t ht
 have hcall:CallSpec Pg g0 (.fn 42 []) [.ptr 2 0,i6 (v:Nat),u6 (p:Nat)] (ofOs .e 0 (toO1 cards cs F B size q k++[.row 44 none z18])) 5 ⟨.tup [ar (F v p),i6 0],ofOs .e 0 [.row 44 none (bF B size),.map (entM (upQ q (k+1) (v,p)) (k+1+1)) (k+1+1),.row 81 none (toC cards cs size 0 1 5 (k+1+1)),.dead,.row 44 none z18,.row 44 (some 18) (bF (scF F (upQ q (k+1) (v,p))) (k+1+1))],6,[1,2,3]⟩:=
  CallSpec.frameL (OS:=toO1 cards cs F B size q k++[.row 44 none z18]) (OS':=[.row 44 none (bF B size),.map (entM (upQ q (k+1) (v,p)) (k+1+1)) (k+1+1),.row 81 none (toC cards cs size 0 1 5 (k+1+1)),.dead,.row 44 none z18,.row 44 (some 18) (bF (scF F (upQ q (k+1) (v,p))) (k+1+1))]) [0,1,2,3] [(0,0),(1,1),(2,2),(3,3),(5,4)] [0,0,1] [0,0,1] (Qto cards cs F B size q k v p hk hf hsc) (by kernel_rfl) (by
   refine Eq.mp (by kernel_rfl:(An [Zz,Sm (↑v:Int),Sm (↑p:Int),Tt])=_) ?_
   (repeat'(first|(with_reducible apply And.intro)|(refine fun(_:True)=>?_)))<;>first|exact aq|skip) (by
   refine Eq.mp (by kernel_rfl:(let z0:=bF (scF F q) (k+1);let z1:=entM q (k+1);An [An [Sm (bF B size),HfL (bF B size)],An [z1=z1,HfE z1,Sm (k+1)],An [An [Sm cards.length,Sm (ints cards)],An [Sm cs.length,Sm (List.map sl cs)],An [Zz,Sm size,Sm (size-size)],Tt,An [Zz,Sm (k+1),Tt],Tt],An [z0=z0,HfL z0],Tt])=_) ?_
   (repeat'(first|(with_reducible apply And.intro)|(refine fun(_:True)=>?_)))
   all_goals first|exact aq|exact hB|exact hS|exact hS0|exact hE|exact hE0|rfl|skip) (by
   refine Eq.mp (by kernel_rfl:(An [An [Sm (F v p 0),Sm (F v p 1),Sm (F v p 2),Sm (F v p 3),Sm (F v p 4),Sm (F v p 5),Sm (F v p 6),Sm (F v p 7),Sm (F v p 8),Sm (F v p 9),Sm (F v p 10),Sm (F v p 11),Sm (F v p 12),Sm (F v p 13),Sm (F v p 14),Sm (F v p 15),Sm (F v p 16),Sm (F v p 17),Tt],Sm (0:Int),Tt])=_) ?_
   (repeat'(first|(with_reducible apply And.intro)|(refine fun(_:True)=>?_)))<;>first|exact aq|skip) (by
   refine Eq.mp (by kernel_rfl:(let z0:=upQ q (k+1) (v,p);let z1:=O.row 44 none z18;let z2:=toO1 cards cs F B size q k;let z5:=bF B size;let z3:=bF (scF F z0) (k+1+1);let z4:=entM z0 (k+1+1);An [(z2++[z1])[0]? =some (O.row 44 none z5),An [z5=z5,HfL z5],Tt,An [z4=z4,HfE z4,Sm (k+1+1)],Tt,An [An [Sm cards.length,Sm (ints cards)],An [Sm cs.length,Sm (List.map sl cs)],An [Zz,Sm size,Sm (size-size)],Tt,An [Zz,Sm (Nat.succ k+1),Tt],Tt],Tt,Tt,(z2++[z1])[4]? =some z1,(z2++[z1])[4]? =some z1,Tt,An [z3=z3,HfL z3],Tt])=_) ?_
   (repeat'(first|(with_reducible apply And.intro)|(refine fun(_:True)=>?_)))
   all_goals first|exact aq|exact hB|exact hS|exact hS0|exact hE|exact hE0|rfl|skip)
 have h:=CallSpec.of_vcH (P:=Pg) (E:=vE) vE_ok mixed Qad (n:=1000) (f:=28) (os0:=toO1 cards cs F B size q k) (ars:=[.ptr 2 0,i6 (s:Nat),i6 (v:Nat),u6 (p:Nat)]) (r:=[5,4])
  (S := { sl := [(8, .ptr 5 0), (9, i6 0)], os := toO2 cards cs F B size (upQ q (k + 1) (v, p)) (k + 1) ++ [.row 44 none (arF x)], md := [0, 0, 1], lg := [1, 2, 3] }) (v := .tup [ar x, i6 0]) (hs := [(16, .call ⟨.tup [ar (F v p), i6 0], ofOs .e 0 [.row 44 none (bF B size), .map (entM (upQ q (k + 1) (v, p)) (k + 1 + 1)) (k + 1 + 1), .row 81 none (toC cards cs size 0 1 5 (k + 1 + 1)), .dead, .row 44 none z18, .row 44 (some 18) (bF (scF F (upQ q (k + 1) (v, p))) (k + 1 + 1))], 6, [1, 2, 3]⟩), va 29 (i6 (b : Nat)), va 30 (i6 (t : Nat)), pl 31, ld 32 (ar (B t)), fn 34 (.tup [ar x, i6 0])]) (gl := g0) (by simp) (fun i hi hno => by
   rcases(show i=0∨i=1∨i=2∨i=3 by simp at hi;omega)with rfl|rfl|rfl|rfl<;>first|rfl|(simp at hno)) (by
  refine Eq.mp (by kernel_rfl:(let z0:=upQ q (k+1) (v,p);let z3:=bF B size;let z1:=bF (scF F z0) (k+1+1);let z2:=entM z0 (k+1+1);An [V.tup [V.agg (arF x),i6 0]=V.tup [ar x,i6 0],CallSpec Pg g0 (V.fn 42 []) [V.ptr 2 0,i6 ↑v,u6 ↑p] (pt (ofOs T.e 0 (toO1 cards cs F B size q k)) 4 (O.row 44 none [i6 0,i6 0,i6 0,i6 0,i6 0,i6 0,i6 0,i6 0,i6 0,i6 0,i6 0,i6 0,i6 0,i6 0,i6 0,i6 0,i6 0,i6 0])) 5 (CR.mk (V.tup [ar (F v p),i6 0]) (ofOs T.e 0 [O.row 44 none z3,O.map z2 (k+1+1),O.row 81 none (toC cards cs size 0 1 5 (k+1+1)),O.dead,O.row 44 none z18,O.row 44 (some 18) z1]) 6 [1,2,3]),Tt,binV (Qae Pg) .shl 3 (i6 1) (i6 ↑v)=some (i6 ↑b),binV (Qae Pg) .andNot 3 (i6 ↑s) (i6 ↑b)=some (i6 ↑t),An [(0:Int)≤(↑t:Int),(↑t:Int)<(↑size:Int)],takeE 18 (dropF (0+t*18) z3)=some (arF (B t)),An [TT 18,TT 18,Tt],FnOk Pg g0 43 [V.agg (arF (B t)),V.agg (arF (F v p))] (V.tup [ar x,i6 0]),Tt,An [Zz,Sm (0:Int),Tt],An [z3=z3,HfL z3],An [z2=z2,HfE z2,Sm (k+1+1)],An [An [Sm cards.length,Sm (ints cards)],An [Sm cs.length,Sm (List.map sl cs)],An [Zz,Sm size,Sm (size-size)],Tt,An [Zz,Sm (Nat.succ k+1),Tt],Tt],Tt,An [z1=z1,HfL z1],An [Sm (arF x),TT 18],Tt])=_) ?_
  (repeat'(first|(with_reducible apply And.intro)|(refine fun(_:True)=>?_)))
  all_goals first|(with_reducible exact h1 _ _)|(with_reducible exact h2 _ _)|exact aq|exact hcall|exact hB|exact hS|exact hS0|exact hE|exact hE0|exact hadd|(rw[Nat.zero_add];exact htk)|exact h1 _ _|exact h2 _ _|rfl|skip)
 exact CallSpec.dropL (os1:=toO2 cards cs F B size (upQ q (k+1) (v,p)) (k+1)) [.row 44 none (arF x)] h (by simp) ⟨HfL.sc _ (HfL_ar _),trivial,trivial⟩ (to_sc2 cards cs F B size _ (k+1) 5 (Nat.le_refl _)) (fun i hi hno=>by
   rcases(show i=0∨i=1∨i=2∨i=3 by simp at hi;omega)with rfl|rfl|rfl|rfl<;>first|rfl|(simp at hno))
abbrev nF(f:Nat→Nat)(n:Nat):List V:=blF (fun i=>[i6 (f i:Nat)]) n
abbrev uF(f:Nat→Nat)(n:Nat):List V:=blF (fun i=>[u6 (f i:Nat)]) n
theorem Qah(f:Nat→Nat)(n:Nat):HfL (nF f n):=Qjm (f:=fun i=>[i6 (f i:Nat)]) (fun k=>⟨trivial,trivial⟩) n
theorem Qag(f:Nat→Nat)(n:Nat):HfL (uF f n):=Qjm (f:=fun i=>[u6 (f i:Nat)]) (fun k=>⟨trivial,trivial⟩) n
theorem Qd2{f:Nat→Nat}{n j:Nat}(h:j<n)(x:Nat):layE (0+j*1) (nF f n) [i6 (x:Nat)]=some (nF (fun i=>if i=j then x else f i) n):=by
 rw[Nat.zero_add,Qn1 (f:=fun i=>[i6 (f i:Nat)]) (s:=1) (x:=[i6 (x:Nat)]) (fun _=>rfl) h rfl]
 congr 1
 refine Qbs fun i hi=>?_
 unfold upB
 dsimp only
 split<;>rfl
theorem Qc6{f:Nat→Nat}{n j:Nat}(h:j<n)(x:Nat):layE (0+j*1) (uF f n) [u6 (x:Nat)]=some (uF (fun i=>if i=j then x else f i) n):=by
 rw[Nat.zero_add,Qn1 (f:=fun i=>[u6 (f i:Nat)]) (s:=1) (x:=[u6 (x:Nat)]) (fun _=>rfl) h rfl]
 congr 1
 refine Qbs fun i hi=>?_
 unfold upB
 dsimp only
 split<;>rfl
section
variable (cards:List Int) (cs:List (List Int)) (F:Nat→Nat→Nat→Int) (size:Nat) (q:Nat→Nat×Nat) (s:Nat) (B:Nat→Nat→Int) (la pa:Nat→Nat) (fb:Bool)
abbrev tyO(hs k:Nat):List O:=[.row 44 none (bF B size),.map (entM q k) k,.row 81 none (toC cards cs size 0 1 hs k),.row 3 none (nF la size),.row 50 none (uF pa size),.row 73 none [.ptr 2 0],.row 3 none [i6 (s:Nat)],.row 4 none [.bool fb],.row 38 none [.sl 3 0 size (some (size-size)),.sl 4 0 size (some (size-size))]]
abbrev tyO0:List O:=tyO cards cs size q s B la pa fb 9 0
abbrev tyO1(k:Nat):List O:=tyO cards cs size q s B la pa fb 9 (k+1)++[.row 44 (some 18) (bF (scF F q) (k+1))]
abbrev tyO2(k:Nat):List O:=tyO cards cs size q s B la pa fb 10 (k+1)++[.dead,.row 44 (some 18) (bF (scF F q) (k+1))]
end
abbrev caT:List V:=[.ptr 5 0,.ptr 6 0,.ptr 7 0,.ptr 8 0]
theorem Qr6(cards:List Int)(cs:List (List Int))(F:Nat→Nat→Nat→Int)(size:Nat)(q:Nat→Nat×Nat)(k s v p:Nat)(B:Nat→Nat→Int)(la pa:Nat→Nat)(x:Nat→Int)(hs:s<size)
  (hp:CallSpec Pg g0 (.fn 28 []) [.ptr 2 0,i6 (s:Nat),i6 (v:Nat),u6 (p:Nat)] (ofOs .e 0 (toO1 cards cs F B size q k)) 4 ⟨.tup [ar x,i6 0],ofOs .e 0 (toO1 cards cs F B size q k),4,[]⟩):
  CallSpec Pg g0 (.fn 37 []) (i6 (v:Nat)::u6 (p:Nat)::caT) (ofOs .e 0 (tyO1 cards cs F size q s B la pa false k)) 10 ⟨i6 0,ofOs .e 0 (tyO1 cards cs F size q s (fun i=>if i=s then x else B i) (fun i=>if i=s then v else la i) (fun i=>if i=s then p else pa i) true k),10,[0,1,2,3,4,7]⟩:=by
 have hB:=Qaa B size
 have hB1:=Qaa (fun i=>if i=s then x else B i) size
 have hS:=Qaa (scF F q) (k+1)
 have hE:=Qac q (k+1)
 have hS0:=Qaa (scF F q) (k+1)
 have hE0:=Qac q (k+1)
 have hc:=Qab cards
 have hg:=Qav cs
 have hla:=Qah la size
 have hpa:=Qag pa size
 have hla1:=Qah (fun i=>if i=s then v else la i) size
 have hpa1:=Qag (fun i=>if i=s then p else pa i) size
 have htk:=@Qbf B size s hs
 have y1:=@Qew B size s hs x
 have y2:=@Qd2 la size s hs v
 have y3:=@Qc6 pa size s hs p
 have hcall:CallSpec Pg g0 (.fn 28 []) [.ptr 2 0,i6 (s:Nat),i6 (v:Nat),u6 (p:Nat)] (ofOs .e 0 (tyO1 cards cs F size q s B la pa false k)) 10 ⟨.tup [ar x,i6 0],ofOs .e 0 (tyO1 cards cs F size q s B la pa false k),10,[]⟩:=
  CallSpec.frameL (OS:=tyO1 cards cs F size q s B la pa false k) (OS':=tyO1 cards cs F size q s B la pa false k) [0,1,2,9] [(0,0),(1,1),(2,2),(9,3)] [0,0,1] [0,0,1] hp (by kernel_rfl) (by
   refine Eq.mp (by kernel_rfl:(An [Zz,Sm (↑s:Int),Sm (↑v:Int),Sm (↑p:Int),Tt])=_) ?_
   (repeat'(first|(with_reducible apply And.intro)|(refine fun(_:True)=>?_)))<;>first|exact aq|skip) (by
   refine Eq.mp (by kernel_rfl:(let z0:=bF (scF F q) (k+1);let z1:=entM q (k+1);An [An [Sm (bF B size),HfL (bF B size)],An [z1=z1,HfE z1,Sm (k+1)],An [An [Sm cards.length,Sm (ints cards)],An [Sm cs.length,Sm (List.map sl cs)],An [Zz,Sm size,Sm (size-size)],Tt,An [Zz,Sm (k+1),Tt],Tt],An [z0=z0,HfL z0],Tt])=_) ?_
   (repeat'(first|(with_reducible apply And.intro)|(refine fun(_:True)=>?_)))
   all_goals first|exact aq|exact hB|exact hS|exact hS0|exact hE|exact hE0|rfl|skip) (by
   refine Eq.mp (by kernel_rfl:(An [An [x 0=x 0,x 1=x 1,x 2=x 2,x 3=x 3,x 4=x 4,x 5=x 5,x 6=x 6,x 7=x 7,x 8=x 8,x 9=x 9,Sm (x 10),Sm (x 11),Sm (x 12),Sm (x 13),Sm (x 14),Sm (x 15),Sm (x 16),Sm (x 17),Tt],Sm (0:Int),Tt])=_) ?_
   (repeat'(first|(with_reducible apply And.intro)|(refine fun(_:True)=>?_)))<;>first|exact aq|skip) (by
   refine Eq.mp (by kernel_rfl:(let z0:=tyO1 cards cs F size q s B la pa false k;let z2:=bF (scF F q) (k+1);let z3:=entM q (k+1);let z4:=some (O.row 4 none [V.bool false]);let z5:=some (O.row 50 none (uF pa size));let z6:=some (O.row 3 none (nF la size));let z7:=some (O.row 73 none [V.ptr 2 0]);let z8:=some (O.row 3 none [i6 ↑s]);let z9:=bF B size;let y0:=some (size-size);let z1:=some (O.row 38 none [V.sl 3 0 size y0,V.sl 4 0 size y0]);An [z0[0]? =some (O.row 44 none z9),An [z9=z9,HfL z9],z0[1]? =some (O.map z3 (k+1)),An [z3=z3,HfE z3,Sm (k+1)],z0[2]? =some (O.row 81 none (toC cards cs size 0 1 9 (k+1))),An [An [Sm cards.length,Sm (ints cards)],An [Sm cs.length,Sm (List.map sl cs)],An [Zz,Sm size,Sm (size-size)],Tt,An [Zz,Sm (k+1),Tt],Tt],z0[3]? =z6,z0[3]? =z6,z0[4]? =z5,z0[4]? =z5,z0[5]? =z7,z0[5]? =z7,z0[6]? =z8,z0[6]? =z8,z0[7]? =z4,z0[7]? =z4,z0[8]? =z1,z0[8]? =z1,z0[9]? =some (O.row 44 (some 18) z2),An [z2=z2,HfL z2],Tt])=_) ?_
   (repeat'(first|(with_reducible apply And.intro)|(refine fun(_:True)=>?_)))
   all_goals first|exact aq|exact hB|exact hS|exact hS0|exact hE|exact hE0|rfl|skip)
 refine CallSpec.of_vcH (P:=Pg) (E:=vE) vE_ok mixed Qad (n:=1000) (f:=37) (os0:=tyO1 cards cs F size q s B la pa false k) (ars:=i6 (v:Nat)::u6 (p:Nat)::caT) (r:=[])
  (S := { sl := [(8, i6 0)], os := tyO1 cards cs F size q s (fun i => if i = s then x else B i) (fun i => if i = s then v else la i) (fun i => if i = s then p else pa i) true k, md := [0, 0, 1, 0, 0, 1, 0, 0, 1], lg := [0, 1, 2, 3, 4, 7] }) (v := i6 0) (hs := [(17, .call ⟨.tup [ar x, i6 0], ofOs .e 0 (tyO1 cards cs F size q s B la pa false k), 10, []⟩), pl 55, st (bF (fun i => if i = s then x else B i) size), pl 56, st (nF (fun i => if i = s then v else la i) size), pl 57, st (uF (fun i => if i = s then p else pa i) size)]) (gl := g0) (by simp) (fun i hi hno => by
   rcases(show i=0∨i=1∨i=2∨i=3∨i=4∨i=5∨i=6∨i=7∨i=8∨i=9 by simp at hi;omega)with rfl|rfl|rfl|rfl|rfl|rfl|rfl|rfl|rfl|rfl<;>first|rfl|(simp at hno)) ?_
 refine Eq.mp (by kernel_rfl:(let z6:=An [Zz,Sm size,Sm (size-size)];let z0:=ofOs T.e 0 (tyO1 cards cs F size q s B la pa false k);let z1:=(↑s:Int);let z2:=bF (scF F q) (k+1);let z3:=(0:Int);let z4:=(↑size:Int);let z5:=entM q (k+1);An [Sm (i6 0),CallSpec Pg g0 (V.fn 28 []) [V.ptr 2 0,i6 ↑s,i6 ↑v,u6 ↑p] z0 10 (CR.mk (V.tup [ar x,i6 0]) z0 10 []),Tt,An [z3≤z1,z1<z4],layE (0+s*18) (bF B size) (arF x)=some (bF (fun i=>if i=s then x else B i) size),An [z3≤z1,z1<z4],layE (0+s*1) (nF la size) [i6 ↑v]=some (nF (fun i=>if i=s then v else la i) size),An [z3≤z1,z1<z4],layE (0+s*1) (uF pa size) [u6 ↑p]=some (uF (fun i=>if i=s then p else pa i) size),An [z3=z3,Tt],An [Sm (bF (fun i=>if i=s then x else B i) size),HfL (bF (fun i=>if i=s then x else B i) size)],An [z5=z5,HfE z5,Sm (k+1)],An [An [Sm cards.length,Sm (ints cards)],An [Sm cs.length,Sm (List.map sl cs)],z6,Tt,An [Zz,Sm (k+1),Tt],Tt],An [Sm (nF (fun i=>if i=s then v else la i) size),HfL (nF (fun i=>if i=s then v else la i) size)],An [Sm (uF (fun i=>if i=s then p else pa i) size),HfL (uF (fun i=>if i=s then p else pa i) size)],An [Zz,Tt],An [Sm [i6 ↑s],Tt,Tt],An [Sm [V.bool true],Tt,Tt],An [z6,z6,Tt],An [z2=z2,HfL z2],Tt])=_) ?_
 (repeat'(first|(with_reducible apply And.intro)|(refine fun(_:True)=>?_)))
 all_goals first|exact aq|exact hcall|exact hB|exact hB1|exact hS|exact hS0|exact hE|exact hE0|exact hla|exact hpa|exact hla1|exact hpa1|exact y1|exact y2|exact y3|(rw[Nat.zero_add];exact htk)|rfl|skip
theorem Qr4(cards:List Int)(cs:List (List Int))(F:Nat→Nat→Nat→Int)(size:Nat)(q:Nat→Nat×Nat)(k s v p:Nat)(B:Nat→Nat→Int)(la pa:Nat→Nat)(x:Nat→Int)(hs:s<size)(c:Int)(hc0:0<c)(hcmp:FnOk Pg g0 14 [ar x,ar (B s)] (.tup [i6 c,i6 0]))
  (hp:CallSpec Pg g0 (.fn 28 []) [.ptr 2 0,i6 (s:Nat),i6 (v:Nat),u6 (p:Nat)] (ofOs .e 0 (toO1 cards cs F B size q k)) 4 ⟨.tup [ar x,i6 0],ofOs .e 0 (toO1 cards cs F B size q k),4,[]⟩):
  CallSpec Pg g0 (.fn 37 []) (i6 (v:Nat)::u6 (p:Nat)::caT) (ofOs .e 0 (tyO1 cards cs F size q s B la pa true k)) 10 ⟨i6 0,ofOs .e 0 (tyO1 cards cs F size q s (fun i=>if i=s then x else B i) (fun i=>if i=s then v else la i) (fun i=>if i=s then p else pa i) true k),10,[0,1,2,3,4,7]⟩:=by
 have hB:=Qaa B size
 have hB1:=Qaa (fun i=>if i=s then x else B i) size
 have hS:=Qaa (scF F q) (k+1)
 have hE:=Qac q (k+1)
 have hS0:=Qaa (scF F q) (k+1)
 have hE0:=Qac q (k+1)
 have hc:=Qab cards
 have hg:=Qav cs
 have hla:=Qah la size
 have hpa:=Qag pa size
 have hla1:=Qah (fun i=>if i=s then v else la i) size
 have hpa1:=Qag (fun i=>if i=s then p else pa i) size
 have htk:=@Qbf B size s hs
 have y1:=@Qew B size s hs x
 have y2:=@Qd2 la size s hs v
 have y3:=@Qc6 pa size s hs p
 have hcall:CallSpec Pg g0 (.fn 28 []) [.ptr 2 0,i6 (s:Nat),i6 (v:Nat),u6 (p:Nat)] (ofOs .e 0 (tyO1 cards cs F size q s B la pa true k)) 10 ⟨.tup [ar x,i6 0],ofOs .e 0 (tyO1 cards cs F size q s B la pa true k),10,[]⟩:=
  CallSpec.frameL (OS:=tyO1 cards cs F size q s B la pa true k) (OS':=tyO1 cards cs F size q s B la pa true k) [0,1,2,9] [(0,0),(1,1),(2,2),(9,3)] [0,0,1] [0,0,1] hp (by kernel_rfl) (by
   refine Eq.mp (by kernel_rfl:(An [Zz,Sm (↑s:Int),Sm (↑v:Int),Sm (↑p:Int),Tt])=_) ?_
   (repeat'(first|(with_reducible apply And.intro)|(refine fun(_:True)=>?_)))<;>first|exact aq|skip) (by
   refine Eq.mp (by kernel_rfl:(let z0:=bF (scF F q) (k+1);let z1:=entM q (k+1);An [An [Sm (bF B size),HfL (bF B size)],An [z1=z1,HfE z1,Sm (k+1)],An [An [Sm cards.length,Sm (ints cards)],An [Sm cs.length,Sm (List.map sl cs)],An [Zz,Sm size,Sm (size-size)],Tt,An [Zz,Sm (k+1),Tt],Tt],An [z0=z0,HfL z0],Tt])=_) ?_
   (repeat'(first|(with_reducible apply And.intro)|(refine fun(_:True)=>?_)))
   all_goals first|exact aq|exact hB|exact hS|exact hS0|exact hE|exact hE0|rfl|skip) (by
   refine Eq.mp (by kernel_rfl:(An [An [x 0=x 0,x 1=x 1,x 2=x 2,x 3=x 3,x 4=x 4,x 5=x 5,x 6=x 6,x 7=x 7,x 8=x 8,x 9=x 9,Sm (x 10),Sm (x 11),Sm (x 12),Sm (x 13),Sm (x 14),Sm (x 15),Sm (x 16),Sm (x 17),Tt],Sm (0:Int),Tt])=_) ?_
   (repeat'(first|(with_reducible apply And.intro)|(refine fun(_:True)=>?_)))<;>first|exact aq|skip) (by
   refine Eq.mp (by kernel_rfl:(let z0:=tyO1 cards cs F size q s B la pa true k;let z2:=bF (scF F q) (k+1);let z3:=entM q (k+1);let z4:=some (O.row 50 none (uF pa size));let z5:=some (O.row 4 none [V.bool true]);let z6:=some (O.row 3 none (nF la size));let z7:=some (O.row 73 none [V.ptr 2 0]);let z8:=some (O.row 3 none [i6 ↑s]);let z9:=bF B size;let y0:=some (size-size);let z1:=some (O.row 38 none [V.sl 3 0 size y0,V.sl 4 0 size y0]);An [z0[0]? =some (O.row 44 none z9),An [z9=z9,HfL z9],z0[1]? =some (O.map z3 (k+1)),An [z3=z3,HfE z3,Sm (k+1)],z0[2]? =some (O.row 81 none (toC cards cs size 0 1 9 (k+1))),An [An [Sm cards.length,Sm (ints cards)],An [Sm cs.length,Sm (List.map sl cs)],An [Zz,Sm size,Sm (size-size)],Tt,An [Zz,Sm (k+1),Tt],Tt],z0[3]? =z6,z0[3]? =z6,z0[4]? =z4,z0[4]? =z4,z0[5]? =z7,z0[5]? =z7,z0[6]? =z8,z0[6]? =z8,z0[7]? =z5,z0[7]? =z5,z0[8]? =z1,z0[8]? =z1,z0[9]? =some (O.row 44 (some 18) z2),An [z2=z2,HfL z2],Tt])=_) ?_
   (repeat'(first|(with_reducible apply And.intro)|(refine fun(_:True)=>?_)))
   all_goals first|exact aq|exact hB|exact hS|exact hS0|exact hE|exact hE0|rfl|skip)
 refine CallSpec.of_vcH (P:=Pg) (E:=vE) vE_ok mixed Qad (n:=1000) (f:=37) (os0:=tyO1 cards cs F size q s B la pa true k) (ars:=i6 (v:Nat)::u6 (p:Nat)::caT) (r:=[])
  (S := { sl := [(8, i6 0)], os := tyO1 cards cs F size q s (fun i => if i = s then x else B i) (fun i => if i = s then v else la i) (fun i => if i = s then p else pa i) true k, md := [0, 0, 1, 0, 0, 1, 0, 0, 1], lg := [0, 1, 2, 3, 4, 7] }) (v := i6 0) (hs := [(17, .call ⟨.tup [ar x, i6 0], ofOs .e 0 (tyO1 cards cs F size q s B la pa true k), 10, []⟩), pl 31, ld 32 (ar (B s)), fn 33 (.tup [i6 c, i6 0]), yes 40, pl 55, st (bF (fun i => if i = s then x else B i) size), pl 56, st (nF (fun i => if i = s then v else la i) size), pl 57, st (uF (fun i => if i = s then p else pa i) size)]) (gl := g0) (by simp) (fun i hi hno => by
   rcases(show i=0∨i=1∨i=2∨i=3∨i=4∨i=5∨i=6∨i=7∨i=8∨i=9 by simp at hi;omega)with rfl|rfl|rfl|rfl|rfl|rfl|rfl|rfl|rfl|rfl<;>first|rfl|(simp at hno)) ?_
 refine Eq.mp (by kernel_rfl:(let z6:=An [Zz,Sm size,Sm (size-size)];let z0:=(↑s:Int);let z1:=ofOs T.e 0 (tyO1 cards cs F size q s B la pa true k);let z2:=(0:Int);let z3:=(↑size:Int);let z4:=bF (scF F q) (k+1);let z5:=entM q (k+1);An [Sm (i6 0),CallSpec Pg g0 (V.fn 28 []) [V.ptr 2 0,i6 ↑s,i6 ↑v,u6 ↑p] z1 10 (CR.mk (V.tup [ar x,i6 0]) z1 10 []),Tt,An [z2≤z0,z0<z3],takeE 18 (dropF (0+s*18) (bF B size))=some (arF (B s)),An [TT 18,TT 18,Tt],FnOk Pg g0 14 [V.agg (arF x),V.agg (arF (B s))] (V.tup [i6 c,i6 0]),Tt,decide (c>z2)=true,An [z2≤z0,z0<z3],layE (0+s*18) (bF B size) (arF x)=some (bF (fun i=>if i=s then x else B i) size),An [z2≤z0,z0<z3],layE (0+s*1) (nF la size) [i6 ↑v]=some (nF (fun i=>if i=s then v else la i) size),An [z2≤z0,z0<z3],layE (0+s*1) (uF pa size) [u6 ↑p]=some (uF (fun i=>if i=s then p else pa i) size),An [z2=z2,Tt],An [Sm (bF (fun i=>if i=s then x else B i) size),HfL (bF (fun i=>if i=s then x else B i) size)],An [z5=z5,HfE z5,Sm (k+1)],An [An [Sm cards.length,Sm (ints cards)],An [Sm cs.length,Sm (List.map sl cs)],z6,Tt,An [Zz,Sm (k+1),Tt],Tt],An [Sm (nF (fun i=>if i=s then v else la i) size),HfL (nF (fun i=>if i=s then v else la i) size)],An [Sm (uF (fun i=>if i=s then p else pa i) size),HfL (uF (fun i=>if i=s then p else pa i) size)],An [Zz,Tt],An [Sm [i6 ↑s],Tt,Tt],An [Sm [V.bool true],Tt,Tt],An [z6,z6,Tt],An [z4=z4,HfL z4],Tt])=_) ?_
 (repeat'(first|(with_reducible apply And.intro)|(refine fun(_:True)=>?_)))
 all_goals first|exact aq|exact hcall|exact hB|exact hB1|exact hS|exact hS0|exact hE|exact hE0|exact hla|exact hpa|exact hla1|exact hpa1|exact y1|exact y2|exact y3|(rw[Nat.zero_add];exact htk)|exact hcmp|exact hc0|rfl|skip
theorem Qr5(cards:List Int)(cs:List (List Int))(F:Nat→Nat→Nat→Int)(size:Nat)(q:Nat→Nat×Nat)(k s v p:Nat)(B:Nat→Nat→Int)(la pa:Nat→Nat)(x:Nat→Int)(hs:s<size)(c:Int)(hc0: ¬0<c)(hcmp:FnOk Pg g0 14 [ar x,ar (B s)] (.tup [i6 c,i6 0]))
  (hp:CallSpec Pg g0 (.fn 28 []) [.ptr 2 0,i6 (s:Nat),i6 (v:Nat),u6 (p:Nat)] (ofOs .e 0 (toO1 cards cs F B size q k)) 4 ⟨.tup [ar x,i6 0],ofOs .e 0 (toO1 cards cs F B size q k),4,[]⟩):
  CallSpec Pg g0 (.fn 37 []) (i6 (v:Nat)::u6 (p:Nat)::caT) (ofOs .e 0 (tyO1 cards cs F size q s B la pa true k)) 10 ⟨i6 0,ofOs .e 0 (tyO1 cards cs F size q s B la pa true k),10,[0,1,2,3,4,7]⟩:=by
 have hB:=Qaa B size
 have hB1:=Qaa (fun i=>if i=s then x else B i) size
 have hS:=Qaa (scF F q) (k+1)
 have hE:=Qac q (k+1)
 have hS0:=Qaa (scF F q) (k+1)
 have hE0:=Qac q (k+1)
 have hc:=Qab cards
 have hg:=Qav cs
 have hla:=Qah la size
 have hpa:=Qag pa size
 have hla1:=Qah (fun i=>if i=s then v else la i) size
 have hpa1:=Qag (fun i=>if i=s then p else pa i) size
 have htk:=@Qbf B size s hs
 have y1:=@Qew B size s hs x
 have y2:=@Qd2 la size s hs v
 have y3:=@Qc6 pa size s hs p
 have hcall:CallSpec Pg g0 (.fn 28 []) [.ptr 2 0,i6 (s:Nat),i6 (v:Nat),u6 (p:Nat)] (ofOs .e 0 (tyO1 cards cs F size q s B la pa true k)) 10 ⟨.tup [ar x,i6 0],ofOs .e 0 (tyO1 cards cs F size q s B la pa true k),10,[]⟩:=
  CallSpec.frameL (OS:=tyO1 cards cs F size q s B la pa true k) (OS':=tyO1 cards cs F size q s B la pa true k) [0,1,2,9] [(0,0),(1,1),(2,2),(9,3)] [0,0,1] [0,0,1] hp (by kernel_rfl) (by
   refine Eq.mp (by kernel_rfl:(An [Zz,Sm (↑s:Int),Sm (↑v:Int),Sm (↑p:Int),Tt])=_) ?_
   (repeat'(first|(with_reducible apply And.intro)|(refine fun(_:True)=>?_)))<;>first|exact aq|skip) (by
   refine Eq.mp (by kernel_rfl:(let z0:=bF (scF F q) (k+1);let z1:=entM q (k+1);An [An [Sm (bF B size),HfL (bF B size)],An [z1=z1,HfE z1,Sm (k+1)],An [An [Sm cards.length,Sm (ints cards)],An [Sm cs.length,Sm (List.map sl cs)],An [Zz,Sm size,Sm (size-size)],Tt,An [Zz,Sm (k+1),Tt],Tt],An [z0=z0,HfL z0],Tt])=_) ?_
   (repeat'(first|(with_reducible apply And.intro)|(refine fun(_:True)=>?_)))
   all_goals first|exact aq|exact hB|exact hS|exact hS0|exact hE|exact hE0|rfl|skip) (by
   refine Eq.mp (by kernel_rfl:(An [An [x 0=x 0,x 1=x 1,x 2=x 2,x 3=x 3,x 4=x 4,x 5=x 5,x 6=x 6,x 7=x 7,x 8=x 8,x 9=x 9,Sm (x 10),Sm (x 11),Sm (x 12),Sm (x 13),Sm (x 14),Sm (x 15),Sm (x 16),Sm (x 17),Tt],Sm (0:Int),Tt])=_) ?_
   (repeat'(first|(with_reducible apply And.intro)|(refine fun(_:True)=>?_)))<;>first|exact aq|skip) (by
   refine Eq.mp (by kernel_rfl:(let z0:=tyO1 cards cs F size q s B la pa true k;let z2:=bF (scF F q) (k+1);let z3:=entM q (k+1);let z4:=some (O.row 50 none (uF pa size));let z5:=some (O.row 4 none [V.bool true]);let z6:=some (O.row 3 none (nF la size));let z7:=some (O.row 73 none [V.ptr 2 0]);let z8:=some (O.row 3 none [i6 ↑s]);let z9:=bF B size;let y0:=some (size-size);let z1:=some (O.row 38 none [V.sl 3 0 size y0,V.sl 4 0 size y0]);An [z0[0]? =some (O.row 44 none z9),An [z9=z9,HfL z9],z0[1]? =some (O.map z3 (k+1)),An [z3=z3,HfE z3,Sm (k+1)],z0[2]? =some (O.row 81 none (toC cards cs size 0 1 9 (k+1))),An [An [Sm cards.length,Sm (ints cards)],An [Sm cs.length,Sm (List.map sl cs)],An [Zz,Sm size,Sm (size-size)],Tt,An [Zz,Sm (k+1),Tt],Tt],z0[3]? =z6,z0[3]? =z6,z0[4]? =z4,z0[4]? =z4,z0[5]? =z7,z0[5]? =z7,z0[6]? =z8,z0[6]? =z8,z0[7]? =z5,z0[7]? =z5,z0[8]? =z1,z0[8]? =z1,z0[9]? =some (O.row 44 (some 18) z2),An [z2=z2,HfL z2],Tt])=_) ?_
   (repeat'(first|(with_reducible apply And.intro)|(refine fun(_:True)=>?_)))
   all_goals first|exact aq|exact hB|exact hS|exact hS0|exact hE|exact hE0|rfl|skip)
 refine CallSpec.of_vcH (P:=Pg) (E:=vE) vE_ok mixed Qad (n:=1000) (f:=37) (os0:=tyO1 cards cs F size q s B la pa true k) (ars:=i6 (v:Nat)::u6 (p:Nat)::caT) (r:=[])
  (S := { sl := [(8, i6 0)], os := tyO1 cards cs F size q s B la pa true k, md := [0, 0, 1, 0, 0, 1, 0, 0, 1], lg := [0, 1, 2, 3, 4, 7] }) (v := i6 0) (hs := [(17, .call ⟨.tup [ar x, i6 0], ofOs .e 0 (tyO1 cards cs F size q s B la pa true k), 10, []⟩), pl 31, ld 32 (ar (B s)), fn 33 (.tup [i6 c, i6 0]), no 40]) (gl := g0) (by simp) (fun i hi hno => by
   rcases(show i=0∨i=1∨i=2∨i=3∨i=4∨i=5∨i=6∨i=7∨i=8∨i=9 by simp at hi;omega)with rfl|rfl|rfl|rfl|rfl|rfl|rfl|rfl|rfl|rfl<;>first|rfl|(simp at hno)) ?_
 refine Eq.mp (by kernel_rfl:(let z5:=An [Zz,Sm size,Sm (size-size)];let z0:=ofOs T.e 0 (tyO1 cards cs F size q s B la pa true k);let z1:=bF (scF F q) (k+1);let z2:=entM q (k+1);let z3:=bF B size;let z4:=(0:Int);An [Sm (i6 0),CallSpec Pg g0 (V.fn 28 []) [V.ptr 2 0,i6 ↑s,i6 ↑v,u6 ↑p] z0 10 (CR.mk (V.tup [ar x,i6 0]) z0 10 []),Tt,An [z4≤(↑s:Int),(↑s:Int)<(↑size:Int)],takeE 18 (dropF (0+s*18) z3)=some (arF (B s)),An [TT 18,TT 18,Tt],FnOk Pg g0 14 [V.agg (arF x),V.agg (arF (B s))] (V.tup [i6 c,i6 0]),Tt,decide (c>z4)=false,An [z4=z4,Tt],An [z3=z3,HfL z3],An [z2=z2,HfE z2,Sm (k+1)],An [An [Sm cards.length,Sm (ints cards)],An [Sm cs.length,Sm (List.map sl cs)],z5,Tt,An [Zz,Sm (k+1),Tt],Tt],An [Sm (nF la size),HfL (nF la size)],An [Sm (uF pa size),HfL (uF pa size)],An [Zz,Tt],An [Sm [i6 ↑s],Tt,Tt],An [Sm [V.bool true],Tt,Tt],An [z5,z5,Tt],An [z1=z1,HfL z1],Tt])=_) ?_
 (repeat'(first|(with_reducible apply And.intro)|(refine fun(_:True)=>?_)))
 all_goals first|exact aq|exact hcall|exact hB|exact hB1|exact hS|exact hS0|exact hE|exact hE0|exact hla|exact hpa|exact hla1|exact hpa1|exact y1|exact y2|exact y3|(rw[Nat.zero_add];exact htk)|exact hcmp|exact hc0|rfl|skip
theorem Qnc(cards:List Int)(cs:List (List Int))(F:Nat→Nat→Nat→Int)(size:Nat)(q:Nat→Nat×Nat)(s v p:Nat)(B:Nat→Nat→Int)(la pa:Nat→Nat)(x:Nat→Int)(hs:s<size)
  (hp:CallSpec Pg g0 (.fn 28 []) [.ptr 2 0,i6 (s:Nat),i6 (v:Nat),u6 (p:Nat)] (ofOs .e 0 (toO0 cards cs B size q)) 3 ⟨.tup [ar x,i6 0],ofOs .e 0 (toO1 cards cs F B size (upQ q 0 (v,p)) 0),4,[1,2]⟩):
  CallSpec Pg g0 (.fn 37 []) (i6 (v:Nat)::u6 (p:Nat)::caT) (ofOs .e 0 (tyO0 cards cs size q s B la pa false)) 9 ⟨i6 0,ofOs .e 0 (tyO1 cards cs F size (upQ q 0 (v,p)) s (fun i=>if i=s then x else B i) (fun i=>if i=s then v else la i) (fun i=>if i=s then p else pa i) true 0),10,[0,1,2,3,4,7]⟩:=by
 have hB:=Qaa B size
 have hB1:=Qaa (fun i=>if i=s then x else B i) size
 have hS:=Qaa (scF F (upQ q 0 (v,p))) (0+1)
 have hE:=Qac (upQ q 0 (v,p)) (0+1)
 have hS0:=Qaa (scF F q) 0
 have hE0:=Qac q 0
 have hc:=Qab cards
 have hg:=Qav cs
 have hla:=Qah la size
 have hpa:=Qag pa size
 have hla1:=Qah (fun i=>if i=s then v else la i) size
 have hpa1:=Qag (fun i=>if i=s then p else pa i) size
 have htk:=@Qbf B size s hs
 have y1:=@Qew B size s hs x
 have y2:=@Qd2 la size s hs v
 have y3:=@Qc6 pa size s hs p
 have hcall:CallSpec Pg g0 (.fn 28 []) [.ptr 2 0,i6 (s:Nat),i6 (v:Nat),u6 (p:Nat)] (ofOs .e 0 (tyO0 cards cs size q s B la pa false)) 9 ⟨.tup [ar x,i6 0],ofOs .e 0 (tyO1 cards cs F size (upQ q 0 (v,p)) s B la pa false 0),10,[1,2]⟩:=
  CallSpec.frameL (OS:=tyO0 cards cs size q s B la pa false) (OS':=tyO1 cards cs F size (upQ q 0 (v,p)) s B la pa false 0) [0,1,2] [(0,0),(1,1),(2,2),(9,3)] [0,0,1] [0,0,1] hp (by kernel_rfl) (by
   refine Eq.mp (by kernel_rfl:(An [Zz,Sm (↑s:Int),Sm (↑v:Int),Sm (↑p:Int),Tt])=_) ?_
   (repeat'(first|(with_reducible apply And.intro)|(refine fun(_:True)=>?_)))<;>first|exact aq|skip) (by
   refine Eq.mp (by kernel_rfl:(An [An [Sm (bF B size),HfL (bF B size)],An [Sm (entM q 0),HfE (entM q 0),Zz],An [An [Sm cards.length,Sm (ints cards)],An [Sm cs.length,Sm (List.map sl cs)],An [Zz,Sm size,Sm (size-size)],TT 2],Tt])=_) ?_
   (repeat'(first|(with_reducible apply And.intro)|(refine fun(_:True)=>?_)))
   all_goals first|exact aq|exact hB|exact hS|exact hS0|exact hE|exact hE0|rfl|skip) (by
   refine Eq.mp (by kernel_rfl:(An [An [x 0=x 0,x 1=x 1,x 2=x 2,x 3=x 3,x 4=x 4,x 5=x 5,x 6=x 6,x 7=x 7,x 8=x 8,x 9=x 9,Sm (x 10),Sm (x 11),Sm (x 12),Sm (x 13),Sm (x 14),Sm (x 15),Sm (x 16),Sm (x 17),Tt],Sm (0:Int),Tt])=_) ?_
   (repeat'(first|(with_reducible apply And.intro)|(refine fun(_:True)=>?_)))<;>first|exact aq|skip) (by
   refine Eq.mp (by kernel_rfl:(let z0:=tyO0 cards cs size q s B la pa false;let z2:=upQ q 0 (v,p);let z3:=some (O.row 4 none [V.bool false]);let z4:=some (O.row 50 none (uF pa size));let z5:=some (O.row 3 none (nF la size));let z6:=some (O.row 73 none [V.ptr 2 0]);let z7:=some (O.row 3 none [i6 ↑s]);let z8:=bF B size;let z9:=some (size-size);let z1:=some (O.row 38 none [V.sl 3 0 size z9,V.sl 4 0 size z9]);An [z0[0]? =some (O.row 44 none z8),An [z8=z8,HfL z8],Tt,An [Sm (entM z2 1),HfE (entM z2 1),1=1],Tt,An [An [Sm cards.length,Sm (ints cards)],An [Sm cs.length,Sm (List.map sl cs)],An [Zz,Sm size,Sm (size-size)],Tt,An [Zz,1=1,Tt],Tt],z0[3]? =z5,z0[3]? =z5,z0[4]? =z4,z0[4]? =z4,z0[5]? =z6,z0[5]? =z6,z0[6]? =z7,z0[6]? =z7,z0[7]? =z3,z0[7]? =z3,z0[8]? =z1,z0[8]? =z1,Tt,An [Sm (bF (scF F z2) 1),TT 18],Tt])=_) ?_
   (repeat'(first|(with_reducible apply And.intro)|(refine fun(_:True)=>?_)))
   all_goals first|exact aq|exact hB|exact hS|exact hS0|exact hE|exact hE0|rfl|skip)
 refine CallSpec.of_vcH (P:=Pg) (E:=vE) vE_ok mixed Qad (n:=1000) (f:=37) (os0:=tyO0 cards cs size q s B la pa false) (ars:=i6 (v:Nat)::u6 (p:Nat)::caT) (r:=[9])
  (S := { sl := [(8, i6 0)], os := tyO1 cards cs F size (upQ q 0 (v, p)) s (fun i => if i = s then x else B i) (fun i => if i = s then v else la i) (fun i => if i = s then p else pa i) true 0, md := [0, 0, 1, 0, 0, 1, 0, 0, 1], lg := [0, 1, 2, 3, 4, 7] }) (v := i6 0) (hs := [(17, .call ⟨.tup [ar x, i6 0], ofOs .e 0 (tyO1 cards cs F size (upQ q 0 (v, p)) s B la pa false 0), 10, [1, 2]⟩), pl 55, st (bF (fun i => if i = s then x else B i) size), pl 56, st (nF (fun i => if i = s then v else la i) size), pl 57, st (uF (fun i => if i = s then p else pa i) size)]) (gl := g0) (by simp) (fun i hi hno => by
   rcases(show i=0∨i=1∨i=2∨i=3∨i=4∨i=5∨i=6∨i=7∨i=8 by simp at hi;omega)with rfl|rfl|rfl|rfl|rfl|rfl|rfl|rfl|rfl<;>first|rfl|(simp at hno)) ?_
 refine Eq.mp (by kernel_rfl:(let z4:=An [Zz,Sm size,Sm (size-size)];let z0:=upQ q 0 (v,p);let z1:=(↑s:Int);let z2:=(0:Int);let z3:=(↑size:Int);An [Sm (i6 0),CallSpec Pg g0 (V.fn 28 []) [V.ptr 2 0,i6 ↑s,i6 ↑v,u6 ↑p] (ofOs T.e 0 (tyO0 cards cs size q s B la pa false)) 9 (CR.mk (V.tup [ar x,i6 0]) (ofOs T.e 0 (tyO1 cards cs F size z0 s B la pa false 0)) 10 [1,2]),Tt,An [z2≤z1,z1<z3],layE (0+s*18) (bF B size) (arF x)=some (bF (fun i=>if i=s then x else B i) size),An [z2≤z1,z1<z3],layE (0+s*1) (nF la size) [i6 ↑v]=some (nF (fun i=>if i=s then v else la i) size),An [z2≤z1,z1<z3],layE (0+s*1) (uF pa size) [u6 ↑p]=some (uF (fun i=>if i=s then p else pa i) size),An [z2=z2,Tt],An [Sm (bF (fun i=>if i=s then x else B i) size),HfL (bF (fun i=>if i=s then x else B i) size)],An [Sm (entM z0 1),HfE (entM z0 1),1=1],An [An [Sm cards.length,Sm (ints cards)],An [Sm cs.length,Sm (List.map sl cs)],z4,Tt,An [Zz,1=1,Tt],Tt],An [Sm (nF (fun i=>if i=s then v else la i) size),HfL (nF (fun i=>if i=s then v else la i) size)],An [Sm (uF (fun i=>if i=s then p else pa i) size),HfL (uF (fun i=>if i=s then p else pa i) size)],An [Zz,Tt],An [Sm [i6 ↑s],Tt,Tt],An [Sm [V.bool true],Tt,Tt],An [z4,z4,Tt],An [Sm (bF (scF F z0) 1),TT 18],Tt])=_) ?_
 (repeat'(first|(with_reducible apply And.intro)|(refine fun(_:True)=>?_)))
 all_goals first|exact aq|exact hcall|exact hB|exact hB1|exact hS|exact hS0|exact hE|exact hE0|exact hla|exact hpa|exact hla1|exact hpa1|exact y1|exact y2|exact y3|(rw[Nat.zero_add];exact htk)|rfl|skip
theorem Qna(cards:List Int)(cs:List (List Int))(F:Nat→Nat→Nat→Int)(size:Nat)(q:Nat→Nat×Nat)(s v p:Nat)(B:Nat→Nat→Int)(la pa:Nat→Nat)(x:Nat→Int)(hs:s<size)(c:Int)(hc0:0<c)(hcmp:FnOk Pg g0 14 [ar x,ar (B s)] (.tup [i6 c,i6 0]))
  (hp:CallSpec Pg g0 (.fn 28 []) [.ptr 2 0,i6 (s:Nat),i6 (v:Nat),u6 (p:Nat)] (ofOs .e 0 (toO0 cards cs B size q)) 3 ⟨.tup [ar x,i6 0],ofOs .e 0 (toO1 cards cs F B size (upQ q 0 (v,p)) 0),4,[1,2]⟩):
  CallSpec Pg g0 (.fn 37 []) (i6 (v:Nat)::u6 (p:Nat)::caT) (ofOs .e 0 (tyO0 cards cs size q s B la pa true)) 9 ⟨i6 0,ofOs .e 0 (tyO1 cards cs F size (upQ q 0 (v,p)) s (fun i=>if i=s then x else B i) (fun i=>if i=s then v else la i) (fun i=>if i=s then p else pa i) true 0),10,[0,1,2,3,4,7]⟩:=by
 have hB:=Qaa B size
 have hB1:=Qaa (fun i=>if i=s then x else B i) size
 have hS:=Qaa (scF F (upQ q 0 (v,p))) (0+1)
 have hE:=Qac (upQ q 0 (v,p)) (0+1)
 have hS0:=Qaa (scF F q) 0
 have hE0:=Qac q 0
 have hc:=Qab cards
 have hg:=Qav cs
 have hla:=Qah la size
 have hpa:=Qag pa size
 have hla1:=Qah (fun i=>if i=s then v else la i) size
 have hpa1:=Qag (fun i=>if i=s then p else pa i) size
 have htk:=@Qbf B size s hs
 have y1:=@Qew B size s hs x
 have y2:=@Qd2 la size s hs v
 have y3:=@Qc6 pa size s hs p
 have hcall:CallSpec Pg g0 (.fn 28 []) [.ptr 2 0,i6 (s:Nat),i6 (v:Nat),u6 (p:Nat)] (ofOs .e 0 (tyO0 cards cs size q s B la pa true)) 9 ⟨.tup [ar x,i6 0],ofOs .e 0 (tyO1 cards cs F size (upQ q 0 (v,p)) s B la pa true 0),10,[1,2]⟩:=
  CallSpec.frameL (OS:=tyO0 cards cs size q s B la pa true) (OS':=tyO1 cards cs F size (upQ q 0 (v,p)) s B la pa true 0) [0,1,2] [(0,0),(1,1),(2,2),(9,3)] [0,0,1] [0,0,1] hp (by kernel_rfl) (by
   refine Eq.mp (by kernel_rfl:(An [Zz,Sm (↑s:Int),Sm (↑v:Int),Sm (↑p:Int),Tt])=_) ?_
   (repeat'(first|(with_reducible apply And.intro)|(refine fun(_:True)=>?_)))<;>first|exact aq|skip) (by
   refine Eq.mp (by kernel_rfl:(An [An [Sm (bF B size),HfL (bF B size)],An [Sm (entM q 0),HfE (entM q 0),Zz],An [An [Sm cards.length,Sm (ints cards)],An [Sm cs.length,Sm (List.map sl cs)],An [Zz,Sm size,Sm (size-size)],TT 2],Tt])=_) ?_
   (repeat'(first|(with_reducible apply And.intro)|(refine fun(_:True)=>?_)))
   all_goals first|exact aq|exact hB|exact hS|exact hS0|exact hE|exact hE0|rfl|skip) (by
   refine Eq.mp (by kernel_rfl:(An [An [x 0=x 0,x 1=x 1,x 2=x 2,x 3=x 3,x 4=x 4,x 5=x 5,x 6=x 6,x 7=x 7,x 8=x 8,x 9=x 9,Sm (x 10),Sm (x 11),Sm (x 12),Sm (x 13),Sm (x 14),Sm (x 15),Sm (x 16),Sm (x 17),Tt],Sm (0:Int),Tt])=_) ?_
   (repeat'(first|(with_reducible apply And.intro)|(refine fun(_:True)=>?_)))<;>first|exact aq|skip) (by
   refine Eq.mp (by kernel_rfl:(let z0:=tyO0 cards cs size q s B la pa true;let z2:=upQ q 0 (v,p);let z3:=some (O.row 50 none (uF pa size));let z4:=some (O.row 4 none [V.bool true]);let z5:=some (O.row 3 none (nF la size));let z6:=some (O.row 73 none [V.ptr 2 0]);let z7:=some (O.row 3 none [i6 ↑s]);let z8:=bF B size;let z9:=some (size-size);let z1:=some (O.row 38 none [V.sl 3 0 size z9,V.sl 4 0 size z9]);An [z0[0]? =some (O.row 44 none z8),An [z8=z8,HfL z8],Tt,An [Sm (entM z2 1),HfE (entM z2 1),1=1],Tt,An [An [Sm cards.length,Sm (ints cards)],An [Sm cs.length,Sm (List.map sl cs)],An [Zz,Sm size,Sm (size-size)],Tt,An [Zz,1=1,Tt],Tt],z0[3]? =z5,z0[3]? =z5,z0[4]? =z3,z0[4]? =z3,z0[5]? =z6,z0[5]? =z6,z0[6]? =z7,z0[6]? =z7,z0[7]? =z4,z0[7]? =z4,z0[8]? =z1,z0[8]? =z1,Tt,An [Sm (bF (scF F z2) 1),TT 18],Tt])=_) ?_
   (repeat'(first|(with_reducible apply And.intro)|(refine fun(_:True)=>?_)))
   all_goals first|exact aq|exact hB|exact hS|exact hS0|exact hE|exact hE0|rfl|skip)
 refine CallSpec.of_vcH (P:=Pg) (E:=vE) vE_ok mixed Qad (n:=1000) (f:=37) (os0:=tyO0 cards cs size q s B la pa true) (ars:=i6 (v:Nat)::u6 (p:Nat)::caT) (r:=[9])
  (S := { sl := [(8, i6 0)], os := tyO1 cards cs F size (upQ q 0 (v, p)) s (fun i => if i = s then x else B i) (fun i => if i = s then v else la i) (fun i => if i = s then p else pa i) true 0, md := [0, 0, 1, 0, 0, 1, 0, 0, 1], lg := [0, 1, 2, 3, 4, 7] }) (v := i6 0) (hs := [(17, .call ⟨.tup [ar x, i6 0], ofOs .e 0 (tyO1 cards cs F size (upQ q 0 (v, p)) s B la pa true 0), 10, [1, 2]⟩), pl 31, ld 32 (ar (B s)), fn 33 (.tup [i6 c, i6 0]), yes 40, pl 55, st (bF (fun i => if i = s then x else B i) size), pl 56, st (nF (fun i => if i = s then v else la i) size), pl 57, st (uF (fun i => if i = s then p else pa i) size)]) (gl := g0) (by simp) (fun i hi hno => by
   rcases(show i=0∨i=1∨i=2∨i=3∨i=4∨i=5∨i=6∨i=7∨i=8 by simp at hi;omega)with rfl|rfl|rfl|rfl|rfl|rfl|rfl|rfl|rfl<;>first|rfl|(simp at hno)) ?_
 refine Eq.mp (by kernel_rfl:(let z4:=An [Zz,Sm size,Sm (size-size)];let z0:=upQ q 0 (v,p);let z1:=(↑s:Int);let z2:=(0:Int);let z3:=(↑size:Int);An [Sm (i6 0),CallSpec Pg g0 (V.fn 28 []) [V.ptr 2 0,i6 ↑s,i6 ↑v,u6 ↑p] (ofOs T.e 0 (tyO0 cards cs size q s B la pa true)) 9 (CR.mk (V.tup [ar x,i6 0]) (ofOs T.e 0 (tyO1 cards cs F size z0 s B la pa true 0)) 10 [1,2]),Tt,An [z2≤z1,z1<z3],takeE 18 (dropF (0+s*18) (bF B size))=some (arF (B s)),An [TT 18,TT 18,Tt],FnOk Pg g0 14 [V.agg (arF x),V.agg (arF (B s))] (V.tup [i6 c,i6 0]),Tt,decide (c>z2)=true,An [z2≤z1,z1<z3],layE (0+s*18) (bF B size) (arF x)=some (bF (fun i=>if i=s then x else B i) size),An [z2≤z1,z1<z3],layE (0+s*1) (nF la size) [i6 ↑v]=some (nF (fun i=>if i=s then v else la i) size),An [z2≤z1,z1<z3],layE (0+s*1) (uF pa size) [u6 ↑p]=some (uF (fun i=>if i=s then p else pa i) size),An [z2=z2,Tt],An [Sm (bF (fun i=>if i=s then x else B i) size),HfL (bF (fun i=>if i=s then x else B i) size)],An [Sm (entM z0 1),HfE (entM z0 1),1=1],An [An [Sm cards.length,Sm (ints cards)],An [Sm cs.length,Sm (List.map sl cs)],z4,Tt,An [Zz,1=1,Tt],Tt],An [Sm (nF (fun i=>if i=s then v else la i) size),HfL (nF (fun i=>if i=s then v else la i) size)],An [Sm (uF (fun i=>if i=s then p else pa i) size),HfL (uF (fun i=>if i=s then p else pa i) size)],An [Zz,Tt],An [Sm [i6 ↑s],Tt,Tt],An [Sm [V.bool true],Tt,Tt],An [z4,z4,Tt],An [Sm (bF (scF F z0) 1),TT 18],Tt])=_) ?_
 (repeat'(first|(with_reducible apply And.intro)|(refine fun(_:True)=>?_)))
 all_goals first|exact aq|exact hcall|exact hB|exact hB1|exact hS|exact hS0|exact hE|exact hE0|exact hla|exact hpa|exact hla1|exact hpa1|exact y1|exact y2|exact y3|(rw[Nat.zero_add];exact htk)|exact hcmp|exact hc0|rfl|skip
theorem Qnb(cards:List Int)(cs:List (List Int))(F:Nat→Nat→Nat→Int)(size:Nat)(q:Nat→Nat×Nat)(s v p:Nat)(B:Nat→Nat→Int)(la pa:Nat→Nat)(x:Nat→Int)(hs:s<size)(c:Int)(hc0: ¬0<c)(hcmp:FnOk Pg g0 14 [ar x,ar (B s)] (.tup [i6 c,i6 0]))
  (hp:CallSpec Pg g0 (.fn 28 []) [.ptr 2 0,i6 (s:Nat),i6 (v:Nat),u6 (p:Nat)] (ofOs .e 0 (toO0 cards cs B size q)) 3 ⟨.tup [ar x,i6 0],ofOs .e 0 (toO1 cards cs F B size (upQ q 0 (v,p)) 0),4,[1,2]⟩):
  CallSpec Pg g0 (.fn 37 []) (i6 (v:Nat)::u6 (p:Nat)::caT) (ofOs .e 0 (tyO0 cards cs size q s B la pa true)) 9 ⟨i6 0,ofOs .e 0 (tyO1 cards cs F size (upQ q 0 (v,p)) s B la pa true 0),10,[0,1,2,3,4,7]⟩:=by
 have hB:=Qaa B size
 have hB1:=Qaa (fun i=>if i=s then x else B i) size
 have hS:=Qaa (scF F (upQ q 0 (v,p))) (0+1)
 have hE:=Qac (upQ q 0 (v,p)) (0+1)
 have hS0:=Qaa (scF F q) 0
 have hE0:=Qac q 0
 have hc:=Qab cards
 have hg:=Qav cs
 have hla:=Qah la size
 have hpa:=Qag pa size
 have hla1:=Qah (fun i=>if i=s then v else la i) size
 have hpa1:=Qag (fun i=>if i=s then p else pa i) size
 have htk:=@Qbf B size s hs
 have y1:=@Qew B size s hs x
 have y2:=@Qd2 la size s hs v
 have y3:=@Qc6 pa size s hs p
 have hcall:CallSpec Pg g0 (.fn 28 []) [.ptr 2 0,i6 (s:Nat),i6 (v:Nat),u6 (p:Nat)] (ofOs .e 0 (tyO0 cards cs size q s B la pa true)) 9 ⟨.tup [ar x,i6 0],ofOs .e 0 (tyO1 cards cs F size (upQ q 0 (v,p)) s B la pa true 0),10,[1,2]⟩:=
  CallSpec.frameL (OS:=tyO0 cards cs size q s B la pa true) (OS':=tyO1 cards cs F size (upQ q 0 (v,p)) s B la pa true 0) [0,1,2] [(0,0),(1,1),(2,2),(9,3)] [0,0,1] [0,0,1] hp (by kernel_rfl) (by
   refine Eq.mp (by kernel_rfl:(An [Zz,Sm (↑s:Int),Sm (↑v:Int),Sm (↑p:Int),Tt])=_) ?_
   (repeat'(first|(with_reducible apply And.intro)|(refine fun(_:True)=>?_)))<;>first|exact aq|skip) (by
   refine Eq.mp (by kernel_rfl:(An [An [Sm (bF B size),HfL (bF B size)],An [Sm (entM q 0),HfE (entM q 0),Zz],An [An [Sm cards.length,Sm (ints cards)],An [Sm cs.length,Sm (List.map sl cs)],An [Zz,Sm size,Sm (size-size)],TT 2],Tt])=_) ?_
   (repeat'(first|(with_reducible apply And.intro)|(refine fun(_:True)=>?_)))
   all_goals first|exact aq|exact hB|exact hS|exact hS0|exact hE|exact hE0|rfl|skip) (by
   refine Eq.mp (by kernel_rfl:(An [An [x 0=x 0,x 1=x 1,x 2=x 2,x 3=x 3,x 4=x 4,x 5=x 5,x 6=x 6,x 7=x 7,x 8=x 8,x 9=x 9,Sm (x 10),Sm (x 11),Sm (x 12),Sm (x 13),Sm (x 14),Sm (x 15),Sm (x 16),Sm (x 17),Tt],Sm (0:Int),Tt])=_) ?_
   (repeat'(first|(with_reducible apply And.intro)|(refine fun(_:True)=>?_)))<;>first|exact aq|skip) (by
   refine Eq.mp (by kernel_rfl:(let z0:=tyO0 cards cs size q s B la pa true;let z2:=upQ q 0 (v,p);let z3:=some (O.row 50 none (uF pa size));let z4:=some (O.row 4 none [V.bool true]);let z5:=some (O.row 3 none (nF la size));let z6:=some (O.row 73 none [V.ptr 2 0]);let z7:=some (O.row 3 none [i6 ↑s]);let z8:=bF B size;let z9:=some (size-size);let z1:=some (O.row 38 none [V.sl 3 0 size z9,V.sl 4 0 size z9]);An [z0[0]? =some (O.row 44 none z8),An [z8=z8,HfL z8],Tt,An [Sm (entM z2 1),HfE (entM z2 1),1=1],Tt,An [An [Sm cards.length,Sm (ints cards)],An [Sm cs.length,Sm (List.map sl cs)],An [Zz,Sm size,Sm (size-size)],Tt,An [Zz,1=1,Tt],Tt],z0[3]? =z5,z0[3]? =z5,z0[4]? =z3,z0[4]? =z3,z0[5]? =z6,z0[5]? =z6,z0[6]? =z7,z0[6]? =z7,z0[7]? =z4,z0[7]? =z4,z0[8]? =z1,z0[8]? =z1,Tt,An [Sm (bF (scF F z2) 1),TT 18],Tt])=_) ?_
   (repeat'(first|(with_reducible apply And.intro)|(refine fun(_:True)=>?_)))
   all_goals first|exact aq|exact hB|exact hS|exact hS0|exact hE|exact hE0|rfl|skip)
 refine CallSpec.of_vcH (P:=Pg) (E:=vE) vE_ok mixed Qad (n:=1000) (f:=37) (os0:=tyO0 cards cs size q s B la pa true) (ars:=i6 (v:Nat)::u6 (p:Nat)::caT) (r:=[9])
  (S := { sl := [(8, i6 0)], os := tyO1 cards cs F size (upQ q 0 (v, p)) s B la pa true 0, md := [0, 0, 1, 0, 0, 1, 0, 0, 1], lg := [0, 1, 2, 3, 4, 7] }) (v := i6 0) (hs := [(17, .call ⟨.tup [ar x, i6 0], ofOs .e 0 (tyO1 cards cs F size (upQ q 0 (v, p)) s B la pa true 0), 10, [1, 2]⟩), pl 31, ld 32 (ar (B s)), fn 33 (.tup [i6 c, i6 0]), no 40]) (gl := g0) (by simp) (fun i hi hno => by
   rcases(show i=0∨i=1∨i=2∨i=3∨i=4∨i=5∨i=6∨i=7∨i=8 by simp at hi;omega)with rfl|rfl|rfl|rfl|rfl|rfl|rfl|rfl|rfl<;>first|rfl|(simp at hno)) ?_
 refine Eq.mp (by kernel_rfl:(let z3:=An [Zz,Sm size,Sm (size-size)];let z0:=upQ q 0 (v,p);let z1:=bF B size;let z2:=(0:Int);An [Sm (i6 0),CallSpec Pg g0 (V.fn 28 []) [V.ptr 2 0,i6 ↑s,i6 ↑v,u6 ↑p] (ofOs T.e 0 (tyO0 cards cs size q s B la pa true)) 9 (CR.mk (V.tup [ar x,i6 0]) (ofOs T.e 0 (tyO1 cards cs F size z0 s B la pa true 0)) 10 [1,2]),Tt,An [z2≤(↑s:Int),(↑s:Int)<(↑size:Int)],takeE 18 (dropF (0+s*18) z1)=some (arF (B s)),An [TT 18,TT 18,Tt],FnOk Pg g0 14 [V.agg (arF x),V.agg (arF (B s))] (V.tup [i6 c,i6 0]),Tt,decide (c>z2)=false,An [z2=z2,Tt],An [z1=z1,HfL z1],An [Sm (entM z0 1),HfE (entM z0 1),1=1],An [An [Sm cards.length,Sm (ints cards)],An [Sm cs.length,Sm (List.map sl cs)],z3,Tt,An [Zz,1=1,Tt],Tt],An [Sm (nF la size),HfL (nF la size)],An [Sm (uF pa size),HfL (uF pa size)],An [Zz,Tt],An [Sm [i6 ↑s],Tt,Tt],An [Sm [V.bool true],Tt,Tt],An [z3,z3,Tt],An [Sm (bF (scF F z0) 1),TT 18],Tt])=_) ?_
 (repeat'(first|(with_reducible apply And.intro)|(refine fun(_:True)=>?_)))
 all_goals first|exact aq|exact hcall|exact hB|exact hB1|exact hS|exact hS0|exact hE|exact hE0|exact hla|exact hpa|exact hla1|exact hpa1|exact y1|exact y2|exact y3|(rw[Nat.zero_add];exact htk)|exact hcmp|exact hc0|rfl|skip
theorem Qnf(cards:List Int)(cs:List (List Int))(F:Nat→Nat→Nat→Int)(size:Nat)(q:Nat→Nat×Nat)(k s v p:Nat)(B:Nat→Nat→Int)(la pa:Nat→Nat)(x:Nat→Int)(hs:s<size)
  (hp:CallSpec Pg g0 (.fn 28 []) [.ptr 2 0,i6 (s:Nat),i6 (v:Nat),u6 (p:Nat)] (ofOs .e 0 (toO1 cards cs F B size q k)) 4 ⟨.tup [ar x,i6 0],ofOs .e 0 (toO2 cards cs F B size (upQ q (k+1) (v,p)) (k+1)),5,[1,2,3]⟩):
  CallSpec Pg g0 (.fn 37 []) (i6 (v:Nat)::u6 (p:Nat)::caT) (ofOs .e 0 (tyO1 cards cs F size q s B la pa false k)) 10 ⟨i6 0,ofOs .e 0 (tyO2 cards cs F size (upQ q (k+1) (v,p)) s (fun i=>if i=s then x else B i) (fun i=>if i=s then v else la i) (fun i=>if i=s then p else pa i) true (k+1)),11,[0,1,2,3,4,7,9]⟩:=by
 have hB:=Qaa B size
 have hB1:=Qaa (fun i=>if i=s then x else B i) size
 have hS:=Qaa (scF F (upQ q (k+1) (v,p))) (k+1+1)
 have hE:=Qac (upQ q (k+1) (v,p)) (k+1+1)
 have hS0:=Qaa (scF F q) (k+1)
 have hE0:=Qac q (k+1)
 have hc:=Qab cards
 have hg:=Qav cs
 have hla:=Qah la size
 have hpa:=Qag pa size
 have hla1:=Qah (fun i=>if i=s then v else la i) size
 have hpa1:=Qag (fun i=>if i=s then p else pa i) size
 have htk:=@Qbf B size s hs
 have y1:=@Qew B size s hs x
 have y2:=@Qd2 la size s hs v
 have y3:=@Qc6 pa size s hs p
 have hcall:CallSpec Pg g0 (.fn 28 []) [.ptr 2 0,i6 (s:Nat),i6 (v:Nat),u6 (p:Nat)] (ofOs .e 0 (tyO1 cards cs F size q s B la pa false k)) 10 ⟨.tup [ar x,i6 0],ofOs .e 0 (tyO2 cards cs F size (upQ q (k+1) (v,p)) s B la pa false (k+1)),11,[1,2,9]⟩:=
  CallSpec.frameL (OS:=tyO1 cards cs F size q s B la pa false k) (OS':=tyO2 cards cs F size (upQ q (k+1) (v,p)) s B la pa false (k+1)) [0,1,2,9] [(0,0),(1,1),(2,2),(9,3),(10,4)] [0,0,1] [0,0,1] hp (by kernel_rfl) (by
   refine Eq.mp (by kernel_rfl:(An [Zz,Sm (↑s:Int),Sm (↑v:Int),Sm (↑p:Int),Tt])=_) ?_
   (repeat'(first|(with_reducible apply And.intro)|(refine fun(_:True)=>?_)))<;>first|exact aq|skip) (by
   refine Eq.mp (by kernel_rfl:(let z0:=bF (scF F q) (k+1);let z1:=entM q (k+1);An [An [Sm (bF B size),HfL (bF B size)],An [z1=z1,HfE z1,Sm (k+1)],An [An [Sm cards.length,Sm (ints cards)],An [Sm cs.length,Sm (List.map sl cs)],An [Zz,Sm size,Sm (size-size)],Tt,An [Zz,Sm (k+1),Tt],Tt],An [z0=z0,HfL z0],Tt])=_) ?_
   (repeat'(first|(with_reducible apply And.intro)|(refine fun(_:True)=>?_)))
   all_goals first|exact aq|exact hB|exact hS|exact hS0|exact hE|exact hE0|rfl|skip) (by
   refine Eq.mp (by kernel_rfl:(An [An [x 0=x 0,x 1=x 1,x 2=x 2,x 3=x 3,x 4=x 4,x 5=x 5,x 6=x 6,x 7=x 7,x 8=x 8,x 9=x 9,Sm (x 10),Sm (x 11),Sm (x 12),Sm (x 13),Sm (x 14),Sm (x 15),Sm (x 16),Sm (x 17),Tt],Sm (0:Int),Tt])=_) ?_
   (repeat'(first|(with_reducible apply And.intro)|(refine fun(_:True)=>?_)))<;>first|exact aq|skip) (by
   refine Eq.mp (by kernel_rfl:(let z0:=tyO1 cards cs F size q s B la pa false k;let z1:=upQ q (k+1) (v,p);let z5:=some (O.row 4 none [V.bool false]);let z6:=some (O.row 50 none (uF pa size));let z7:=some (O.row 3 none (nF la size));let z8:=some (O.row 73 none [V.ptr 2 0]);let z9:=some (O.row 3 none [i6 ↑s]);let y0:=bF B size;let y1:=some (size-size);let z2:=some (O.row 38 none [V.sl 3 0 size y1,V.sl 4 0 size y1]);let z3:=bF (scF F z1) (k+1+1);let z4:=entM z1 (k+1+1);An [z0[0]? =some (O.row 44 none y0),An [y0=y0,HfL y0],Tt,An [z4=z4,HfE z4,Sm (k+1+1)],Tt,An [An [Sm cards.length,Sm (ints cards)],An [Sm cs.length,Sm (List.map sl cs)],An [Zz,Sm size,Sm (size-size)],Tt,An [Zz,Sm (Nat.succ k+1),Tt],Tt],z0[3]? =z7,z0[3]? =z7,z0[4]? =z6,z0[4]? =z6,z0[5]? =z8,z0[5]? =z8,z0[6]? =z9,z0[6]? =z9,z0[7]? =z5,z0[7]? =z5,z0[8]? =z2,z0[8]? =z2,Tt,Tt,Tt,An [z3=z3,HfL z3],Tt])=_) ?_
   (repeat'(first|(with_reducible apply And.intro)|(refine fun(_:True)=>?_)))
   all_goals first|exact aq|exact hB|exact hS|exact hS0|exact hE|exact hE0|rfl|skip)
 refine CallSpec.of_vcH (P:=Pg) (E:=vE) vE_ok mixed Qad (n:=1000) (f:=37) (os0:=tyO1 cards cs F size q s B la pa false k) (ars:=i6 (v:Nat)::u6 (p:Nat)::caT) (r:=[10])
  (S := { sl := [(8, i6 0)], os := tyO2 cards cs F size (upQ q (k + 1) (v, p)) s (fun i => if i = s then x else B i) (fun i => if i = s then v else la i) (fun i => if i = s then p else pa i) true (k + 1), md := [0, 0, 1, 0, 0, 1, 0, 0, 1], lg := [0, 1, 2, 3, 4, 7, 9] }) (v := i6 0) (hs := [(17, .call ⟨.tup [ar x, i6 0], ofOs .e 0 (tyO2 cards cs F size (upQ q (k + 1) (v, p)) s B la pa false (k + 1)), 11, [1, 2, 9]⟩), pl 55, st (bF (fun i => if i = s then x else B i) size), pl 56, st (nF (fun i => if i = s then v else la i) size), pl 57, st (uF (fun i => if i = s then p else pa i) size)]) (gl := g0) (by simp) (fun i hi hno => by
   rcases(show i=0∨i=1∨i=2∨i=3∨i=4∨i=5∨i=6∨i=7∨i=8∨i=9 by simp at hi;omega)with rfl|rfl|rfl|rfl|rfl|rfl|rfl|rfl|rfl|rfl<;>first|rfl|(simp at hno)) ?_
 refine Eq.mp (by kernel_rfl:(let z6:=An [Zz,Sm size,Sm (size-size)];let z0:=upQ q (k+1) (v,p);let z1:=(↑s:Int);let z4:=(0:Int);let z5:=(↑size:Int);let z2:=bF (scF F z0) (k+1+1);let z3:=entM z0 (k+1+1);An [Sm (i6 0),CallSpec Pg g0 (V.fn 28 []) [V.ptr 2 0,i6 ↑s,i6 ↑v,u6 ↑p] (ofOs T.e 0 (tyO1 cards cs F size q s B la pa false k)) 10 (CR.mk (V.tup [ar x,i6 0]) (ofOs T.e 0 (tyO2 cards cs F size z0 s B la pa false (k+1))) 11 [1,2,9]),Tt,An [z4≤z1,z1<z5],layE (0+s*18) (bF B size) (arF x)=some (bF (fun i=>if i=s then x else B i) size),An [z4≤z1,z1<z5],layE (0+s*1) (nF la size) [i6 ↑v]=some (nF (fun i=>if i=s then v else la i) size),An [z4≤z1,z1<z5],layE (0+s*1) (uF pa size) [u6 ↑p]=some (uF (fun i=>if i=s then p else pa i) size),An [z4=z4,Tt],An [Sm (bF (fun i=>if i=s then x else B i) size),HfL (bF (fun i=>if i=s then x else B i) size)],An [z3=z3,HfE z3,Sm (k+1+1)],An [An [Sm cards.length,Sm (ints cards)],An [Sm cs.length,Sm (List.map sl cs)],z6,Tt,An [Zz,Sm (Nat.succ k+1),Tt],Tt],An [Sm (nF (fun i=>if i=s then v else la i) size),HfL (nF (fun i=>if i=s then v else la i) size)],An [Sm (uF (fun i=>if i=s then p else pa i) size),HfL (uF (fun i=>if i=s then p else pa i) size)],An [Zz,Tt],An [Sm [i6 ↑s],Tt,Tt],An [Sm [V.bool true],Tt,Tt],An [z6,z6,Tt],Tt,An [z2=z2,HfL z2],Tt])=_) ?_
 (repeat'(first|(with_reducible apply And.intro)|(refine fun(_:True)=>?_)))
 all_goals first|exact aq|exact hcall|exact hB|exact hB1|exact hS|exact hS0|exact hE|exact hE0|exact hla|exact hpa|exact hla1|exact hpa1|exact y1|exact y2|exact y3|(rw[Nat.zero_add];exact htk)|rfl|skip
theorem Qnd(cards:List Int)(cs:List (List Int))(F:Nat→Nat→Nat→Int)(size:Nat)(q:Nat→Nat×Nat)(k s v p:Nat)(B:Nat→Nat→Int)(la pa:Nat→Nat)(x:Nat→Int)(hs:s<size)(c:Int)(hc0:0<c)(hcmp:FnOk Pg g0 14 [ar x,ar (B s)] (.tup [i6 c,i6 0]))
  (hp:CallSpec Pg g0 (.fn 28 []) [.ptr 2 0,i6 (s:Nat),i6 (v:Nat),u6 (p:Nat)] (ofOs .e 0 (toO1 cards cs F B size q k)) 4 ⟨.tup [ar x,i6 0],ofOs .e 0 (toO2 cards cs F B size (upQ q (k+1) (v,p)) (k+1)),5,[1,2,3]⟩):
  CallSpec Pg g0 (.fn 37 []) (i6 (v:Nat)::u6 (p:Nat)::caT) (ofOs .e 0 (tyO1 cards cs F size q s B la pa true k)) 10 ⟨i6 0,ofOs .e 0 (tyO2 cards cs F size (upQ q (k+1) (v,p)) s (fun i=>if i=s then x else B i) (fun i=>if i=s then v else la i) (fun i=>if i=s then p else pa i) true (k+1)),11,[0,1,2,3,4,7,9]⟩:=by
 have hB:=Qaa B size
 have hB1:=Qaa (fun i=>if i=s then x else B i) size
 have hS:=Qaa (scF F (upQ q (k+1) (v,p))) (k+1+1)
 have hE:=Qac (upQ q (k+1) (v,p)) (k+1+1)
 have hS0:=Qaa (scF F q) (k+1)
 have hE0:=Qac q (k+1)
 have hc:=Qab cards
 have hg:=Qav cs
 have hla:=Qah la size
 have hpa:=Qag pa size
 have hla1:=Qah (fun i=>if i=s then v else la i) size
 have hpa1:=Qag (fun i=>if i=s then p else pa i) size
 have htk:=@Qbf B size s hs
 have y1:=@Qew B size s hs x
 have y2:=@Qd2 la size s hs v
 have y3:=@Qc6 pa size s hs p
 have hcall:CallSpec Pg g0 (.fn 28 []) [.ptr 2 0,i6 (s:Nat),i6 (v:Nat),u6 (p:Nat)] (ofOs .e 0 (tyO1 cards cs F size q s B la pa true k)) 10 ⟨.tup [ar x,i6 0],ofOs .e 0 (tyO2 cards cs F size (upQ q (k+1) (v,p)) s B la pa true (k+1)),11,[1,2,9]⟩:=
  CallSpec.frameL (OS:=tyO1 cards cs F size q s B la pa true k) (OS':=tyO2 cards cs F size (upQ q (k+1) (v,p)) s B la pa true (k+1)) [0,1,2,9] [(0,0),(1,1),(2,2),(9,3),(10,4)] [0,0,1] [0,0,1] hp (by kernel_rfl) (by
   refine Eq.mp (by kernel_rfl:(An [Zz,Sm (↑s:Int),Sm (↑v:Int),Sm (↑p:Int),Tt])=_) ?_
   (repeat'(first|(with_reducible apply And.intro)|(refine fun(_:True)=>?_)))<;>first|exact aq|skip) (by
   refine Eq.mp (by kernel_rfl:(let z0:=bF (scF F q) (k+1);let z1:=entM q (k+1);An [An [Sm (bF B size),HfL (bF B size)],An [z1=z1,HfE z1,Sm (k+1)],An [An [Sm cards.length,Sm (ints cards)],An [Sm cs.length,Sm (List.map sl cs)],An [Zz,Sm size,Sm (size-size)],Tt,An [Zz,Sm (k+1),Tt],Tt],An [z0=z0,HfL z0],Tt])=_) ?_
   (repeat'(first|(with_reducible apply And.intro)|(refine fun(_:True)=>?_)))
   all_goals first|exact aq|exact hB|exact hS|exact hS0|exact hE|exact hE0|rfl|skip) (by
   refine Eq.mp (by kernel_rfl:(An [An [x 0=x 0,x 1=x 1,x 2=x 2,x 3=x 3,x 4=x 4,x 5=x 5,x 6=x 6,x 7=x 7,x 8=x 8,x 9=x 9,Sm (x 10),Sm (x 11),Sm (x 12),Sm (x 13),Sm (x 14),Sm (x 15),Sm (x 16),Sm (x 17),Tt],Sm (0:Int),Tt])=_) ?_
   (repeat'(first|(with_reducible apply And.intro)|(refine fun(_:True)=>?_)))<;>first|exact aq|skip) (by
   refine Eq.mp (by kernel_rfl:(let z0:=tyO1 cards cs F size q s B la pa true k;let z1:=upQ q (k+1) (v,p);let z5:=some (O.row 50 none (uF pa size));let z6:=some (O.row 4 none [V.bool true]);let z7:=some (O.row 3 none (nF la size));let z8:=some (O.row 73 none [V.ptr 2 0]);let z9:=some (O.row 3 none [i6 ↑s]);let y0:=bF B size;let y1:=some (size-size);let z2:=some (O.row 38 none [V.sl 3 0 size y1,V.sl 4 0 size y1]);let z3:=bF (scF F z1) (k+1+1);let z4:=entM z1 (k+1+1);An [z0[0]? =some (O.row 44 none y0),An [y0=y0,HfL y0],Tt,An [z4=z4,HfE z4,Sm (k+1+1)],Tt,An [An [Sm cards.length,Sm (ints cards)],An [Sm cs.length,Sm (List.map sl cs)],An [Zz,Sm size,Sm (size-size)],Tt,An [Zz,Sm (Nat.succ k+1),Tt],Tt],z0[3]? =z7,z0[3]? =z7,z0[4]? =z5,z0[4]? =z5,z0[5]? =z8,z0[5]? =z8,z0[6]? =z9,z0[6]? =z9,z0[7]? =z6,z0[7]? =z6,z0[8]? =z2,z0[8]? =z2,Tt,Tt,Tt,An [z3=z3,HfL z3],Tt])=_) ?_
   (repeat'(first|(with_reducible apply And.intro)|(refine fun(_:True)=>?_)))
   all_goals first|exact aq|exact hB|exact hS|exact hS0|exact hE|exact hE0|rfl|skip)
 refine CallSpec.of_vcH (P:=Pg) (E:=vE) vE_ok mixed Qad (n:=1000) (f:=37) (os0:=tyO1 cards cs F size q s B la pa true k) (ars:=i6 (v:Nat)::u6 (p:Nat)::caT) (r:=[10])
  (S := { sl := [(8, i6 0)], os := tyO2 cards cs F size (upQ q (k + 1) (v, p)) s (fun i => if i = s then x else B i) (fun i => if i = s then v else la i) (fun i => if i = s then p else pa i) true (k + 1), md := [0, 0, 1, 0, 0, 1, 0, 0, 1], lg := [0, 1, 2, 3, 4, 7, 9] }) (v := i6 0) (hs := [(17, .call ⟨.tup [ar x, i6 0], ofOs .e 0 (tyO2 cards cs F size (upQ q (k + 1) (v, p)) s B la pa true (k + 1)), 11, [1, 2, 9]⟩), pl 31, ld 32 (ar (B s)), fn 33 (.tup [i6 c, i6 0]), yes 40, pl 55, st (bF (fun i => if i = s then x else B i) size), pl 56, st (nF (fun i => if i = s then v else la i) size), pl 57, st (uF (fun i => if i = s then p else pa i) size)]) (gl := g0) (by simp) (fun i hi hno => by
   rcases(show i=0∨i=1∨i=2∨i=3∨i=4∨i=5∨i=6∨i=7∨i=8∨i=9 by simp at hi;omega)with rfl|rfl|rfl|rfl|rfl|rfl|rfl|rfl|rfl|rfl<;>first|rfl|(simp at hno)) ?_
 refine Eq.mp (by kernel_rfl:(let z6:=An [Zz,Sm size,Sm (size-size)];let z0:=upQ q (k+1) (v,p);let z1:=(↑s:Int);let z3:=(0:Int);let z4:=(↑size:Int);let z2:=bF (scF F z0) (k+1+1);let z5:=entM z0 (k+1+1);An [Sm (i6 0),CallSpec Pg g0 (V.fn 28 []) [V.ptr 2 0,i6 ↑s,i6 ↑v,u6 ↑p] (ofOs T.e 0 (tyO1 cards cs F size q s B la pa true k)) 10 (CR.mk (V.tup [ar x,i6 0]) (ofOs T.e 0 (tyO2 cards cs F size z0 s B la pa true (k+1))) 11 [1,2,9]),Tt,An [z3≤z1,z1<z4],takeE 18 (dropF (0+s*18) (bF B size))=some (arF (B s)),An [TT 18,TT 18,Tt],FnOk Pg g0 14 [V.agg (arF x),V.agg (arF (B s))] (V.tup [i6 c,i6 0]),Tt,decide (c>z3)=true,An [z3≤z1,z1<z4],layE (0+s*18) (bF B size) (arF x)=some (bF (fun i=>if i=s then x else B i) size),An [z3≤z1,z1<z4],layE (0+s*1) (nF la size) [i6 ↑v]=some (nF (fun i=>if i=s then v else la i) size),An [z3≤z1,z1<z4],layE (0+s*1) (uF pa size) [u6 ↑p]=some (uF (fun i=>if i=s then p else pa i) size),An [z3=z3,Tt],An [Sm (bF (fun i=>if i=s then x else B i) size),HfL (bF (fun i=>if i=s then x else B i) size)],An [z5=z5,HfE z5,Sm (k+1+1)],An [An [Sm cards.length,Sm (ints cards)],An [Sm cs.length,Sm (List.map sl cs)],z6,Tt,An [Zz,Sm (Nat.succ k+1),Tt],Tt],An [Sm (nF (fun i=>if i=s then v else la i) size),HfL (nF (fun i=>if i=s then v else la i) size)],An [Sm (uF (fun i=>if i=s then p else pa i) size),HfL (uF (fun i=>if i=s then p else pa i) size)],An [Zz,Tt],An [Sm [i6 ↑s],Tt,Tt],An [Sm [V.bool true],Tt,Tt],An [z6,z6,Tt],Tt,An [z2=z2,HfL z2],Tt])=_) ?_
 (repeat'(first|(with_reducible apply And.intro)|(refine fun(_:True)=>?_)))
 all_goals first|exact aq|exact hcall|exact hB|exact hB1|exact hS|exact hS0|exact hE|exact hE0|exact hla|exact hpa|exact hla1|exact hpa1|exact y1|exact y2|exact y3|(rw[Nat.zero_add];exact htk)|exact hcmp|exact hc0|rfl|skip
theorem Qne(cards:List Int)(cs:List (List Int))(F:Nat→Nat→Nat→Int)(size:Nat)(q:Nat→Nat×Nat)(k s v p:Nat)(B:Nat→Nat→Int)(la pa:Nat→Nat)(x:Nat→Int)(hs:s<size)(c:Int)(hc0: ¬0<c)(hcmp:FnOk Pg g0 14 [ar x,ar (B s)] (.tup [i6 c,i6 0]))
  (hp:CallSpec Pg g0 (.fn 28 []) [.ptr 2 0,i6 (s:Nat),i6 (v:Nat),u6 (p:Nat)] (ofOs .e 0 (toO1 cards cs F B size q k)) 4 ⟨.tup [ar x,i6 0],ofOs .e 0 (toO2 cards cs F B size (upQ q (k+1) (v,p)) (k+1)),5,[1,2,3]⟩):
  CallSpec Pg g0 (.fn 37 []) (i6 (v:Nat)::u6 (p:Nat)::caT) (ofOs .e 0 (tyO1 cards cs F size q s B la pa true k)) 10 ⟨i6 0,ofOs .e 0 (tyO2 cards cs F size (upQ q (k+1) (v,p)) s B la pa true (k+1)),11,[0,1,2,3,4,7,9]⟩:=by
 have hB:=Qaa B size
 have hB1:=Qaa (fun i=>if i=s then x else B i) size
 have hS:=Qaa (scF F (upQ q (k+1) (v,p))) (k+1+1)
 have hE:=Qac (upQ q (k+1) (v,p)) (k+1+1)
 have hS0:=Qaa (scF F q) (k+1)
 have hE0:=Qac q (k+1)
 have hc:=Qab cards
 have hg:=Qav cs
 have hla:=Qah la size
 have hpa:=Qag pa size
 have hla1:=Qah (fun i=>if i=s then v else la i) size
 have hpa1:=Qag (fun i=>if i=s then p else pa i) size
 have htk:=@Qbf B size s hs
 have y1:=@Qew B size s hs x
 have y2:=@Qd2 la size s hs v
 have y3:=@Qc6 pa size s hs p
 have hcall:CallSpec Pg g0 (.fn 28 []) [.ptr 2 0,i6 (s:Nat),i6 (v:Nat),u6 (p:Nat)] (ofOs .e 0 (tyO1 cards cs F size q s B la pa true k)) 10 ⟨.tup [ar x,i6 0],ofOs .e 0 (tyO2 cards cs F size (upQ q (k+1) (v,p)) s B la pa true (k+1)),11,[1,2,9]⟩:=
  CallSpec.frameL (OS:=tyO1 cards cs F size q s B la pa true k) (OS':=tyO2 cards cs F size (upQ q (k+1) (v,p)) s B la pa true (k+1)) [0,1,2,9] [(0,0),(1,1),(2,2),(9,3),(10,4)] [0,0,1] [0,0,1] hp (by kernel_rfl) (by
   refine Eq.mp (by kernel_rfl:(An [Zz,Sm (↑s:Int),Sm (↑v:Int),Sm (↑p:Int),Tt])=_) ?_
   (repeat'(first|(with_reducible apply And.intro)|(refine fun(_:True)=>?_)))<;>first|exact aq|skip) (by
   refine Eq.mp (by kernel_rfl:(let z0:=bF (scF F q) (k+1);let z1:=entM q (k+1);An [An [Sm (bF B size),HfL (bF B size)],An [z1=z1,HfE z1,Sm (k+1)],An [An [Sm cards.length,Sm (ints cards)],An [Sm cs.length,Sm (List.map sl cs)],An [Zz,Sm size,Sm (size-size)],Tt,An [Zz,Sm (k+1),Tt],Tt],An [z0=z0,HfL z0],Tt])=_) ?_
   (repeat'(first|(with_reducible apply And.intro)|(refine fun(_:True)=>?_)))
   all_goals first|exact aq|exact hB|exact hS|exact hS0|exact hE|exact hE0|rfl|skip) (by
   refine Eq.mp (by kernel_rfl:(An [An [x 0=x 0,x 1=x 1,x 2=x 2,x 3=x 3,x 4=x 4,x 5=x 5,x 6=x 6,x 7=x 7,x 8=x 8,x 9=x 9,Sm (x 10),Sm (x 11),Sm (x 12),Sm (x 13),Sm (x 14),Sm (x 15),Sm (x 16),Sm (x 17),Tt],Sm (0:Int),Tt])=_) ?_
   (repeat'(first|(with_reducible apply And.intro)|(refine fun(_:True)=>?_)))<;>first|exact aq|skip) (by
   refine Eq.mp (by kernel_rfl:(let z0:=tyO1 cards cs F size q s B la pa true k;let z1:=upQ q (k+1) (v,p);let z5:=some (O.row 50 none (uF pa size));let z6:=some (O.row 4 none [V.bool true]);let z7:=some (O.row 3 none (nF la size));let z8:=some (O.row 73 none [V.ptr 2 0]);let z9:=some (O.row 3 none [i6 ↑s]);let y0:=bF B size;let y1:=some (size-size);let z2:=some (O.row 38 none [V.sl 3 0 size y1,V.sl 4 0 size y1]);let z3:=bF (scF F z1) (k+1+1);let z4:=entM z1 (k+1+1);An [z0[0]? =some (O.row 44 none y0),An [y0=y0,HfL y0],Tt,An [z4=z4,HfE z4,Sm (k+1+1)],Tt,An [An [Sm cards.length,Sm (ints cards)],An [Sm cs.length,Sm (List.map sl cs)],An [Zz,Sm size,Sm (size-size)],Tt,An [Zz,Sm (Nat.succ k+1),Tt],Tt],z0[3]? =z7,z0[3]? =z7,z0[4]? =z5,z0[4]? =z5,z0[5]? =z8,z0[5]? =z8,z0[6]? =z9,z0[6]? =z9,z0[7]? =z6,z0[7]? =z6,z0[8]? =z2,z0[8]? =z2,Tt,Tt,Tt,An [z3=z3,HfL z3],Tt])=_) ?_
   (repeat'(first|(with_reducible apply And.intro)|(refine fun(_:True)=>?_)))
   all_goals first|exact aq|exact hB|exact hS|exact hS0|exact hE|exact hE0|rfl|skip)
 refine CallSpec.of_vcH (P:=Pg) (E:=vE) vE_ok mixed Qad (n:=1000) (f:=37) (os0:=tyO1 cards cs F size q s B la pa true k) (ars:=i6 (v:Nat)::u6 (p:Nat)::caT) (r:=[10])
  (S := { sl := [(8, i6 0)], os := tyO2 cards cs F size (upQ q (k + 1) (v, p)) s B la pa true (k + 1), md := [0, 0, 1, 0, 0, 1, 0, 0, 1], lg := [0, 1, 2, 3, 4, 7, 9] }) (v := i6 0) (hs := [(17, .call ⟨.tup [ar x, i6 0], ofOs .e 0 (tyO2 cards cs F size (upQ q (k + 1) (v, p)) s B la pa true (k + 1)), 11, [1, 2, 9]⟩), pl 31, ld 32 (ar (B s)), fn 33 (.tup [i6 c, i6 0]), no 40]) (gl := g0) (by simp) (fun i hi hno => by
   rcases(show i=0∨i=1∨i=2∨i=3∨i=4∨i=5∨i=6∨i=7∨i=8∨i=9 by simp at hi;omega)with rfl|rfl|rfl|rfl|rfl|rfl|rfl|rfl|rfl|rfl<;>first|rfl|(simp at hno)) ?_
 refine Eq.mp (by kernel_rfl:(let z5:=An [Zz,Sm size,Sm (size-size)];let z0:=upQ q (k+1) (v,p);let z3:=bF B size;let z4:=(0:Int);let z1:=bF (scF F z0) (k+1+1);let z2:=entM z0 (k+1+1);An [Sm (i6 0),CallSpec Pg g0 (V.fn 28 []) [V.ptr 2 0,i6 ↑s,i6 ↑v,u6 ↑p] (ofOs T.e 0 (tyO1 cards cs F size q s B la pa true k)) 10 (CR.mk (V.tup [ar x,i6 0]) (ofOs T.e 0 (tyO2 cards cs F size z0 s B la pa true (k+1))) 11 [1,2,9]),Tt,An [z4≤(↑s:Int),(↑s:Int)<(↑size:Int)],takeE 18 (dropF (0+s*18) z3)=some (arF (B s)),An [TT 18,TT 18,Tt],FnOk Pg g0 14 [V.agg (arF x),V.agg (arF (B s))] (V.tup [i6 c,i6 0]),Tt,decide (c>z4)=false,An [z4=z4,Tt],An [z3=z3,HfL z3],An [z2=z2,HfE z2,Sm (k+1+1)],An [An [Sm cards.length,Sm (ints cards)],An [Sm cs.length,Sm (List.map sl cs)],z5,Tt,An [Zz,Sm (Nat.succ k+1),Tt],Tt],An [Sm (nF la size),HfL (nF la size)],An [Sm (uF pa size),HfL (uF pa size)],An [Zz,Tt],An [Sm [i6 ↑s],Tt,Tt],An [Sm [V.bool true],Tt,Tt],An [z5,z5,Tt],Tt,An [z1=z1,HfL z1],Tt])=_) ?_
 (repeat'(first|(with_reducible apply And.intro)|(refine fun(_:True)=>?_)))
 all_goals first|exact aq|exact hcall|exact hB|exact hB1|exact hS|exact hS0|exact hE|exact hE0|exact hla|exact hpa|exact hla1|exact hpa1|exact y1|exact y2|exact y3|(rw[Nat.zero_add];exact htk)|exact hcmp|exact hc0|rfl|skip
end Go.Proofs.YtcmeiecgijmdjaaDoor.Am
