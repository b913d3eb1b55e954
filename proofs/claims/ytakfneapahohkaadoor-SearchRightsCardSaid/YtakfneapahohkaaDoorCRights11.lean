/- Texts behind the claim, part 11: the abstract machine, and what the functions answer. No condition. -/
import Derived.Test.YtakfneapahohkaaDoorCRights10
set_option linter.unusedVariables false
set_option linter.unusedSimpArgs false
set_option linter.unusedSectionVars false
namespace Go.Proofs.YtakfneapahohkaaDoor.Am
open Go.RowKit
set_option maxHeartbeats 4000000
set_option maxRecDepth 100000
def eP(a b:Nat->Int)(i:Nat):Nat:=if i<18 then(a i-b i).toNat else 0
theorem Ga{a b:Nat->Int}{i:Nat}(h:i<18):eP a b i=(a i-b i).toNat:=if_pos h
theorem cmpF_eP(a b:Nat->Int):Di a b=sgn (Qa7 (eP a b) 18) (Qa7 (eP b a) 18):=by
 unfold Di
 rw[Qbd (e:=B4 (Bc a b (-1) 18) 1) (f:=eP a b) 18 (fun j hj=>by unfold B4;rw[Qbi,if_pos hj,Ga hj];congr 1;omega),Qbd (e:=B4 (Bc a b (-1) 18) (-1)) (f:=eP b a) 18 (fun j hj=>by unfold B4;rw[Qbi,if_pos hj,Ga hj];congr 1;omega)]
abbrev cdS(x y:List Nat)(k:Nat):SL:={sl:=[(5,nl x),(6,nl y),(10,i6 (Cu k))]}
theorem cd_loop(x y:List Nat)(hx:Dq x)(hy:Dq y)(hl:x.length=y.length)(h6:x.length<=1000000)(r:Int)(hr:r=sgn (Bq x) (Bq y)):
  Sat Pg none 0 (at' 25 [1,1,1,1,0,1,0]) (Ah g0 82 (cdS x y x.length)) (Qaf g0 82 [(r=0,.exit 6,{sl:=[]}),(r≠0,.ret,c4 r)]):=by
 refine Qax vE_ok Af Qaa (b:=at' 25 [1,1,1,1,0,1,0,0]) k_ (fun k=>k<=x.length/\x.drop k=y.drop k) (cdS x y) (fun k=>k) (fun k hk=>?_) x.length ⟨Nat.le_refl _,by rw[List.drop_length,hl,List.drop_length]⟩
 obtain⟨hk,hd⟩:=hk
 cases k with
 |zero=>
  have hab:x=y:=by simpa using hd
  have hr0:r=0:=by rw[hr,hab];simp[sgn]
  refine .inr ⟨.exit 6,[],{sl:=[]},[],1000,.inl ⟨hr0,rfl,rfl⟩,?_⟩
  clear hr hd hab hr0
  exact v_ (p:=Bn [Tt])
 | succ j =>
  have p1:=@Qa5 x j o_
  have p2:=@Qa5 y j o_
  have lt1:=Qq4 hx hl (i:=j) o_ hd
  have lt2:=Qq4 hy hl.symm (i:=j) o_ hd.symm
  have st:=Qff hl (i:=j) o_ hd
  have dx:=hx j
  have dy:=hy j
  generalize x.getD j 0=u at*
  generalize y.getD j 0=v at*
  by_cases h1:u=v
  ·have hdn : wr .i64 ((j : Int) - 1) = Cu j := by
    rw[wr6 o_ o_]
    cases j with
    |zero=>rfl
    |succ j=>simp only[Cu];omega
   have hne:((u:Int)==(v:Int))=true:=by rw[Qbh,decide_eq_true h1]
   refine .inl ⟨j,[],[yes 61,pl 66,ld 67 (i6 (u:Nat)),pl 70,ld 71 (i6 (v:Nat)),no 72,nu 63 (Cu j)],1000,⟨by omega,st h1⟩,by omega,?_⟩
   clear hr hd lt1 lt2 st
   exact v_ (p:=let z0:=(j:Int);Bn [decide (z0>=0)=true,An [(0:Int)<=z0,z0<(x.length:Int)],Ad (List.drop (j*1) (nt x))=some (i6 u),An [(0:Int)<=z0,z0<(y.length:Int)],Ad (List.drop (j*1) (nt y))=some (i6 v),((u:Int) != (v:Int))=false,wr .i64 (z0-1)=Cu j,Bn [An [Sm x.length,Sm (nt x)],An [Sm y.length,Sm (nt y)],Sm (Cu j)]])
  ·have hne : ((u : Int) == (v : Int)) = false := by rw [Qbh, decide_eq_false h1]
   by_cases h2:u<v
   ·have hr0 : r = -1 := by rw [hr]; unfold sgn; rw [if_pos (lt1 h2)]
    subst hr0
    refine .inr ⟨.ret,[],c4 (-1),[yes 61,pl 66,ld 67 (i6 (u:Nat)),pl 70,ld 71 (i6 (v:Nat)),yes 72,pl 75,ld 76 (i6 (u:Nat)),pl 79,ld 80 (i6 (v:Nat)),yes 81],1000,.inr (.inl ⟨by decide,rfl,rfl⟩),?_⟩
    clear hr hd lt1 lt2 st
    exact v_ (p:=let z0:=(j:Int);let z1:=Ad (List.drop (j*1) (nt x));let z2:=Ad (List.drop (j*1) (nt y));let z3:=(0:Int);Bn [decide (z0>=z3)=true,An [z3<=z0,z0<(x.length:Int)],z1=some (i6 u),An [z3<=z0,z0<(y.length:Int)],z2=some (i6 v),((u:Int) != (v:Int))=true,An [z3<=z0,z0<(x.length:Int)],z1=some (i6 u),An [z3<=z0,z0<(y.length:Int)],z2=some (i6 v),decide ((u:Int)<(v:Int))=true,Bn [Sm (-1:Int)]])
   ·have h3 : v < u := by omega
    have hr0:r=1:=by rw[hr];unfold sgn;rw[if_neg (by have:=lt2 h3;omega),if_pos (lt2 h3)]
    subst hr0
    refine .inr ⟨.ret,[],c4 1,[yes 61,pl 66,ld 67 (i6 (u:Nat)),pl 70,ld 71 (i6 (v:Nat)),yes 72,pl 75,ld 76 (i6 (u:Nat)),pl 79,ld 80 (i6 (v:Nat)),no 81],1000,.inr (.inl ⟨by decide,rfl,rfl⟩),?_⟩
    clear hr hd lt1 lt2 st
    exact v_ (p:=let z0:=(j:Int);let z1:=Ad (List.drop (j*1) (nt x));let z2:=Ad (List.drop (j*1) (nt y));let z3:=(0:Int);Bn [decide (z0>=z3)=true,An [z3<=z0,z0<(x.length:Int)],z1=some (i6 u),An [z3<=z0,z0<(y.length:Int)],z2=some (i6 v),((u:Int) != (v:Int))=true,An [z3<=z0,z0<(x.length:Int)],z1=some (i6 u),An [z3<=z0,z0<(y.length:Int)],z2=some (i6 v),decide ((u:Int)<(v:Int))=false,Bn [Sm (1:Int)]])
abbrev cuO(a b:Nat->Int):List O:=[.row 37 none (arF a),.row 37 none (arF b)]
abbrev cu1(a b:Nat->Int)(i:Nat)(x y:List Nat)(k:Nat):SL:={sl:=[(2,.ptr 0 0),(3,.ptr 1 0),(5,nl x),(6,nl y),(7,i6 (i:Nat)),(8,i6 (k:Nat))],os:=cuO a b}
abbrev cu2(a b:Nat->Int)(i:Nat)(x y:List Nat)(k:Nat):SL:={sl:=[(2,.ptr 0 0),(3,.ptr 1 0),(5,nl x),(6,nl y),(7,i6 (i:Nat)),(9,i6 (k:Nat))],os:=cuO a b}
abbrev cu0(a b:Nat->Int)(i:Nat)(x y:List Nat):SL:={sl:=[(2,.ptr 0 0),(3,.ptr 1 0),(5,nl x),(6,nl y),(7,i6 (i:Nat))],os:=cuO a b}
theorem cu_in1(a b:Nat->Int)(i:Nat)(hi:i<18)(ha: -4000<=a i/\a i<=4000)(hb: -4000<=b i/\b i<=4000)(x0 y:List Nat)(hx:Qfv x0)(hxl:x0.length<=200000)(x1:List Nat)(hx1:Da (Al i) x0 (a i-b i).toNat=x1):
  Sat Pg none 0 (at' 25 [1,1,0,1,0,0,1,0,0,0,1,0]) (Ah g0 82 (cu1 a b i x0 y 0)) (Qaf g0 82 [(True,.exit 2,cu0 a b i x1 y)]):=by
 have hp:=Qbc i
 have hr:=Qjn i hi
 have hpl1:=@Qbs 0 i hi
 have hpl2:=@Qbs 1 i hi
 have hh1:=@Qbq a i hi
 have hh2:=@Qbq b i hi
 have kb:wr .i64 (a i-b i)=a i-b i:=wr6 o_ o_
 have hre:=fun k=>Qjr (p:=Al i) o_ o_ hx k
 generalize Al i=p at*
 generalize hai:a i=u at*
 generalize hbi:b i=v at*
 generalize hd:u-v=d at*
 have hdb:d<=8000:=by omega
 refine Qax vE_ok Af Qaa (b:=at' 25 [1,1,0,1,0,0,1,0,0,0,1,0,0]) k_ (fun q:Nat×List Nat=>q.1<=d.toNat/\Da p x0 q.1=q.2) (fun q=>cu1 a b i q.2 y q.1) (fun q=>d.toNat-q.1) (fun q hq=>?_) (0,x0) ⟨Nat.zero_le _,rfl⟩
 obtain⟨k,x⟩:=q
 obtain⟨hk,hq⟩:=hq
 dsimp only at hk hq
 obtain⟨n1,_,n3⟩:=hre k
 rw[hq]at n1 n3
 have hHx:=Qaz x
 have hHy:=Qaz y
 by_cases hlt:(k:Int)<d
 ·have hby := by_fn x p n1 o_ o_
  refine .inl ⟨(k+1,D6 p x),[0,1],[va 19 (.ptr 0 i),ld 20 (i6 u),va 22 (.ptr 1 i),ld 23 (i6 v),nu 24 d,yes 25,fn 30 (i6 (p:Nat)),fn 31 (nl (D6 p x)),nu 27 ((k+1:Nat):Int)],1000,⟨by omega,by rw[Da,hq]⟩,by dsimp only;omega,?_⟩
  have hHx1:=Qaz (D6 p x)
  clear hre hq n1 n3 hx hx1
  generalize D6 p x=x' at*
  exact v_ (p:=let z0:=Ae T.e 0 (cuO a b);let z1:=(↑(k+1):Int);let z2:=(i:Int);Bn [Az (Qac Pg) 37 (V.ptr 0 0) z2=some (V.ptr 0 i),Ad (Aj i (arF a))=some (i6 u),Az (Qac Pg) 37 (V.ptr 1 0) z2=some (V.ptr 1 i),Ad (Aj i (arF b))=some (i6 v),wr .i64 (u-v)=d,decide ((k:Int)<d)=true,Bn [Tt],Ac Pg g0 45 [i6 i] (i6 p),Tt,TT 2,Ac Pg g0 44 [V.im x.length (nt x),i6 p] (nl x'),Bn [(V.fn 45 []=V.fn 44 []->[i6 i]=[nl x,i6 p]->z0=z0->2=2->CR.mk (i6 p) z0 2 []=CR.mk (nl x') z0 2 [])],wr .i64 ((k:Int)+1)=z1,Bn [Zz,Zz,An [Sm x'.length,Sm (nt x')],An [Sm y.length,Sm (nt y)],z2=z2,z1=z1],An [Sm (arF a),TT 18],An [Sm (arF b),TT 18]])
 ·have : k = d.toNat := by omega
  obtain rfl:x=x1:=by rw[<-hq,this];exact hx1
  refine .inr ⟨.exit 2,[0,1],cu0 a b i x y,[va 19 (.ptr 0 i),ld 20 (i6 u),va 22 (.ptr 1 i),ld 23 (i6 v),nu 24 d,no 25],1000,.inl ⟨trivial,rfl,rfl⟩,?_⟩
  clear hre hq n1 n3 hx hx1
  exact v_ (p:=let z0:=(i:Int);Bn [Az (Qac Pg) 37 (V.ptr 0 0) z0=some (V.ptr 0 i),Ad (Aj i (arF a))=some (i6 u),Az (Qac Pg) 37 (V.ptr 1 0) z0=some (V.ptr 1 i),Ad (Aj i (arF b))=some (i6 v),wr .i64 (u-v)=d,decide ((k:Int)<d)=false,Bn [Zz,Zz,An [Sm x.length,Sm (nt x)],An [Sm y.length,Sm (nt y)],z0=z0],An [Sm (arF a),TT 18],An [Sm (arF b),TT 18]])
theorem cu_in2(a b:Nat->Int)(i:Nat)(hi:i<18)(ha: -4000<=a i/\a i<=4000)(hb: -4000<=b i/\b i<=4000)(x y0:List Nat)(hy:Qfv y0)(hyl:y0.length<=200000)(y1:List Nat)(hy1:Da (Al i) y0 (b i-a i).toNat=y1):
  Sat Pg none 0 (at' 25 [1,1,0,1,0,0,1,0,0,1,1,0]) (Ah g0 82 (cu2 a b i x y0 0)) (Qaf g0 82 [(True,.exit 4,cu0 a b i x y1)]):=by
 have hp:=Qbc i
 have hr:=Qjn i hi
 have hpl1:=@Qbs 0 i hi
 have hpl2:=@Qbs 1 i hi
 have hh1:=@Qbq a i hi
 have hh2:=@Qbq b i hi
 have kb:wr .i64 (b i-a i)=b i-a i:=wr6 o_ o_
 have hre:=fun k=>Qjr (p:=Al i) o_ o_ hy k
 generalize Al i=p at*
 generalize hai:a i=u at*
 generalize hbi:b i=v at*
 generalize hd:v-u=d at*
 have hdb:d<=8000:=by omega
 refine Qax vE_ok Af Qaa (b:=at' 25 [1,1,0,1,0,0,1,0,0,1,1,0,0]) k_ (fun q:Nat×List Nat=>q.1<=d.toNat/\Da p y0 q.1=q.2) (fun q=>cu2 a b i x q.2 q.1) (fun q=>d.toNat-q.1) (fun q hq=>?_) (0,y0) ⟨Nat.zero_le _,rfl⟩
 obtain⟨k,y⟩:=q
 obtain⟨hk,hq⟩:=hq
 dsimp only at hk hq
 obtain⟨n1,_,n3⟩:=hre k
 rw[hq]at n1 n3
 have hHx:=Qaz x
 have hHy:=Qaz y
 by_cases hlt:(k:Int)<d
 ·have hby := by_fn y p n1 o_ o_
  refine .inl ⟨(k+1,D6 p y),[0,1],[va 34 (.ptr 1 i),ld 35 (i6 v),va 37 (.ptr 0 i),ld 38 (i6 u),nu 39 d,yes 40,fn 45 (i6 (p:Nat)),fn 46 (nl (D6 p y)),nu 42 ((k+1:Nat):Int)],1000,⟨by omega,by rw[Da,hq]⟩,by dsimp only;omega,?_⟩
  have hHy1:=Qaz (D6 p y)
  clear hre hq n1 n3 hy hy1
  generalize D6 p y=y' at*
  exact v_ (p:=let z0:=Ae T.e 0 (cuO a b);let z1:=(↑(k+1):Int);let z2:=(i:Int);Bn [Az (Qac Pg) 37 (V.ptr 1 0) z2=some (V.ptr 1 i),Ad (Aj i (arF b))=some (i6 v),Az (Qac Pg) 37 (V.ptr 0 0) z2=some (V.ptr 0 i),Ad (Aj i (arF a))=some (i6 u),wr .i64 (v-u)=d,decide ((k:Int)<d)=true,Bn [Tt],Ac Pg g0 45 [i6 i] (i6 p),Tt,TT 2,Ac Pg g0 44 [V.im y.length (nt y),i6 p] (nl y'),Bn [(V.fn 45 []=V.fn 44 []->[i6 i]=[nl y,i6 p]->z0=z0->2=2->CR.mk (i6 p) z0 2 []=CR.mk (nl y') z0 2 [])],wr .i64 ((k:Int)+1)=z1,Bn [Zz,Zz,An [Sm x.length,Sm (nt x)],An [Sm y'.length,Sm (nt y')],z2=z2,z1=z1],An [Sm (arF a),TT 18],An [Sm (arF b),TT 18]])
 ·have : k = d.toNat := by omega
  obtain rfl:y=y1:=by rw[<-hq,this];exact hy1
  refine .inr ⟨.exit 4,[0,1],cu0 a b i x y,[va 34 (.ptr 1 i),ld 35 (i6 v),va 37 (.ptr 0 i),ld 38 (i6 u),nu 39 d,no 40],1000,.inl ⟨trivial,rfl,rfl⟩,?_⟩
  clear hre hq n1 n3 hy hy1
  exact v_ (p:=let z0:=(i:Int);Bn [Az (Qac Pg) 37 (V.ptr 1 0) z0=some (V.ptr 1 i),Ad (Aj i (arF b))=some (i6 v),Az (Qac Pg) 37 (V.ptr 0 0) z0=some (V.ptr 0 i),Ad (Aj i (arF a))=some (i6 u),wr .i64 (v-u)=d,decide ((k:Int)<d)=false,Bn [Zz,Zz,An [Sm x.length,Sm (nt x)],An [Sm y.length,Sm (nt y)],z0=z0],An [Sm (arF a),TT 18],An [Sm (arF b),TT 18]])
theorem cu_out(a b:Nat->Int)(ha:inB a 4000)(hb:inB b 4000)(x1 y1:List Nat)(hx1:dgP (eP a b) 18=x1)(hy1:dgP (eP b a) 18=y1):
  Sat Pg none 0 (at' 25 [1,1,0,1,0]) (Ah g0 82 (cu0 a b 0 [1] [1])) (Qaf g0 82 [(True,.exit 0,{sl:=[(5,nl x1),(6,nl y1)]})]):=by
 have hbd: ∀(a b:Nat->Int),inB a 4000->inB b 4000->∀i,eP a b i<=8000:=fun a b ha hb i=>by
  unfold eP
  split
  ·rename_i h
   have h1:=ha i h
   have h2:=hb i h
   omega
  ·omega
 have k1:=Qko (eP a b) 8000 (hbd a b ha hb)
 have k2:=Qko (eP b a) 8000 (hbd b a hb ha)
 refine Qax vE_ok Af Qaa (b:=at' 25 [1,1,0,1,0,0]) k_ (fun q:Nat×List Nat×List Nat=>q.1<=18/\dgP (eP a b) q.1=q.2.1/\dgP (eP b a) q.1=q.2.2) (fun q=>cu0 a b q.1 q.2.1 q.2.2) (fun q=>18-q.1) (fun q hq=>?_) (0,[1],[1]) ⟨Nat.zero_le _,rfl,rfl⟩
 obtain⟨i,x,y⟩:=q
 obtain⟨hi,e1,e2⟩:=hq
 dsimp only at hi e1 e2
 have hHx:=Qaz x
 have hHy:=Qaz y
 by_cases hlt:i<18
 ·obtain ⟨m1, _, m3⟩ := k1 i hi
  obtain⟨m4,_,m6⟩:=k2 i hi
  rw[e1]at m1 m3
  rw[e2]at m4 m6
  have n1:dgP (eP a b) (i+1)=Da (Al i) x (a i-b i).toNat:=by rw[dgP,e1,Ga hlt]
  have n2:dgP (eP b a) (i+1)=Da (Al i) y (b i-a i).toNat:=by rw[dgP,e2,Ga hlt]
  have l1:=cu_in1 a b i hlt (ha i hlt) (hb i hlt) x y m1 o_ _ rfl
  have l2:=cu_in2 a b i hlt (ha i hlt) (hb i hlt) (Da (Al i) x (a i-b i).toNat) y m4 o_ _ rfl
  have hHx':=Qaz (Da (Al i) x (a i-b i).toNat)
  have hHy':=Qaz (Da (Al i) y (b i-a i).toNat)
  generalize Da (Al i) x (a i-b i).toNat=x' at*
  generalize Da (Al i) y (b i-a i).toNat=y' at*
  refine .inl ⟨(i+1,x',y'),[0,1],[yes 14,(0,.loop [0,1] (cu1 a b i x y 0) [(True,.exit 2,cu0 a b i x' y)]),(0,.loop [0,1] (cu2 a b i x' y 0) [(True,.exit 4,cu0 a b i x' y')]),nu 16 ((i+1:Nat):Int)],1000,⟨hlt,n1,n2⟩,by dsimp only;omega,?_⟩
  clear k1 k2 e1 e2 n1 n2 m1 m3 m4 m6 hx1 hy1
  exact v_ (p:=let z2:=An [Sm (arF a),TT 18];let z3:=An [Sm (arF b),TT 18];let z4:=An [Sm x'.length,Sm (nt x')];let z5:=An [Sm y.length,Sm (nt y)];let z0:=(i:Int);let z1:=(↑(i+1):Int);Bn [decide (z0<18)=true,Bn [Bn [Zz,Zz,An [Sm x.length,Sm (nt x)],z5,z0=z0,((0:Nat):Int)=(0:Int)],z2,z3],Sat Pg none 0 (at' 25 [1,1,0,1,0,0,1,0,0,0,1,0]) (Ah g0 82 (cu1 a b i x y 0)) (Qaf g0 82 [(True,Ex.exit 2,cu0 a b i x' y)]),(True->Bn [Bn [Bn [Zz,Zz,z4,z5,z0=z0,((0:Nat):Int)=(0:Int)],z2,z3],Sat Pg none 0 (at' 25 [1,1,0,1,0,0,1,0,0,1,1,0]) (Ah g0 82 (cu2 a b i x' y 0)) (Qaf g0 82 [(True,Ex.exit 4,cu0 a b i x' y')]),(True->Bn [wr .i64 (z0+1)=z1,Bn [Zz,Zz,z4,An [Sm y'.length,Sm (nt y')],z1=z1],z2,z3])])])
 ·have : i = 18 := by omega
  subst this
  obtain rfl:x=x1:=e1.symm.trans hx1
  obtain rfl:y=y1:=e2.symm.trans hy1
  refine .inr ⟨.exit 0,[],{sl:=[(5,nl x),(6,nl y)]},[],1000,.inl ⟨trivial,rfl,rfl⟩,?_⟩
  clear k1 k2 e1 e2 hx1 hy1
  exact v_ (p:=Bn [Bn [An [Sm x.length,Sm (nt x)],An [Sm y.length,Sm (nt y)]]])
theorem cmp26(a b:Nat->Int)(ha:inB a 4000)(hb:inB b 4000):Ac Pg g0 25 [ar a,ar b] (i6 (Di a b)):=by
 have hbd: ∀(a b:Nat->Int),inB a 4000->inB b 4000->∀i,eP a b i<=8000:=fun a b ha hb i=>by
  unfold eP
  split
  ·rename_i h
   have h1:=ha i h
   have h2:=hb i h
   omega
  ·omega
 obtain⟨m1,v1,m3⟩:=Qko (eP a b) 8000 (hbd a b ha hb) 18 (Nat.le_refl _)
 obtain⟨m4,v2,m6⟩:=Qko (eP b a) 8000 (hbd b a hb ha) 18 (Nat.le_refl _)
 have lo:=cu_out a b ha hb _ _ rfl rfl
 rw[cmpF_eP,<-v1,<-v2]
 generalize dgP (eP a b) 18=x at*
 generalize dgP (eP b a) 18=y at*
 have hHx:=Qaz x
 have hHy:=Qaz y
 have e0:cu0 a b 0 [1] [1]={sl:=[(2,.ptr 0 0),(3,.ptr 1 0),(5,.im 1 [i6 1]),(6,.im 1 [i6 1]),(7,i6 0)],os:=cuO a b}:=rfl
 rw[e0]at lo
 by_cases hl:x.length=y.length
 ·have l := cd_loop x y m1.ok m4.ok hl o_ _ rfl
  have jp:=m1.pos
  have hdn:wr .i64 ((x.length:Int)-1)=Cu x.length:=by
   rw[wr6 o_ o_]
   cases x with
   |nil=>simp at jp
   |cons z l=>simp only[Cu,List.length_cons];omega
  have hlb:((x.length:Int)==(y.length:Int))=true:=by rw[Qbh,decide_eq_true hl]
  clear v1 v2
  generalize sgn (Bq x) (Bq y)=r at*
  by_cases h0:r=0
  ·have l := l.mono (Qbj h0 o_)
   subst h0
   refine Ac.of_vc vE_ok Af Qaa (n:=1000) (r:=[]) (S:=c4 0) (hs:=[(0,.loop [0,1] {sl:=[(2,.ptr 0 0),(3,.ptr 1 0),(5,.im 1 [i6 1]),(6,.im 1 [i6 1]),(7,i6 0)],os:=cuO a b} [(True,.exit 0,{sl:=[(5,nl x),(6,nl y)]})]),no 51,nu 59 (Cu x.length),(0,.loop [] (cdS x y x.length) [(True,.exit 6,{sl:=[]})])]) ?_
   exact v_ (p:=Bn [Sm (i6 0),Bn [Bn [Zz,Zz,Bn [1=1,Sm [i6 1],Tt],Bn [1=1,Sm [i6 1],Tt],Sm (0:Int)],An [Sm (arF a),TT 18],An [Sm (arF b),TT 18]],Sat Pg none 0 (at' 25 [1,1,0,1,0]) (Ah g0 82 (SL.mk [(2,V.ptr 0 0),(3,V.ptr 1 0),(5,V.im 1 [i6 1]),(6,V.im 1 [i6 1]),(7,i6 0)] (cuO a b) [] [])) (Qaf g0 82 [(True,Ex.exit 0,SL.mk [(5,nl x),(6,nl y)] [] [] [])]),(True->Bn [((x.length:Int) != (y.length:Int))=false,wr .i64 ((x.length:Int)-1)=Cu x.length,Bn [Bn [An [Sm x.length,Sm (nt x)],An [Sm y.length,Sm (nt y)],Sm (Cu x.length)]],Sat Pg none 0 (at' 25 [1,1,1,1,0,1,0]) (Ah g0 82 (cdS x y x.length)) (Qaf g0 82 [(True,Ex.exit 6,SL.mk [] [] [] [])]),(True->Bn [Bn [Sm (0:Int)]])])])
  ·have l := l.mono (Qbk h0 h0)
   refine Ac.of_vc vE_ok Af Qaa (n:=1000) (r:=[]) (S:=c4 r) (hs:=[(0,.loop [0,1] {sl:=[(2,.ptr 0 0),(3,.ptr 1 0),(5,.im 1 [i6 1]),(6,.im 1 [i6 1]),(7,i6 0)],os:=cuO a b} [(True,.exit 0,{sl:=[(5,nl x),(6,nl y)]})]),no 51,nu 59 (Cu x.length),(0,.loop [] (cdS x y x.length) [(True,.ret,c4 r)])]) ?_
   exact v_ (p:=Bn [Sm (i6 r),Bn [Bn [Zz,Zz,Bn [1=1,Sm [i6 1],Tt],Bn [1=1,Sm [i6 1],Tt],Sm (0:Int)],An [Sm (arF a),TT 18],An [Sm (arF b),TT 18]],Sat Pg none 0 (at' 25 [1,1,0,1,0]) (Ah g0 82 (SL.mk [(2,V.ptr 0 0),(3,V.ptr 1 0),(5,V.im 1 [i6 1]),(6,V.im 1 [i6 1]),(7,i6 0)] (cuO a b) [] [])) (Qaf g0 82 [(True,Ex.exit 0,SL.mk [(5,nl x),(6,nl y)] [] [] [])]),(True->Bn [((x.length:Int) != (y.length:Int))=false,wr .i64 ((x.length:Int)-1)=Cu x.length,Bn [Bn [An [Sm x.length,Sm (nt x)],An [Sm y.length,Sm (nt y)],Sm (Cu x.length)]],Sat Pg none 0 (at' 25 [1,1,1,1,0,1,0]) (Ah g0 82 (cdS x y x.length)) (Qaf g0 82 [(True,Ex.ret,c4 r)]),(True->Bn [Bn [r=r]])])])
 ·have hlb : ((x.length : Int) == (y.length : Int)) = false := by rw [Qbh, decide_eq_false hl]
  by_cases h1:x.length<y.length
  ·have : sgn (Bq x) (Bq y) = -1 := by unfold sgn; rw [if_pos (Qlf m1 m4 h1)]
   rw[this]
   refine Ac.of_vc vE_ok Af Qaa (n:=1000) (r:=[]) (S:=c4 (-1)) (hs:=[(0,.loop [0,1] {sl:=[(2,.ptr 0 0),(3,.ptr 1 0),(5,.im 1 [i6 1]),(6,.im 1 [i6 1]),(7,i6 0)],os:=cuO a b} [(True,.exit 0,{sl:=[(5,nl x),(6,nl y)]})]),yes 51,yes 56]) ?_
   clear v1 v2 this
   exact v_ (p:=Bn [Sm (i6 (-1)),Bn [Bn [Zz,Zz,Bn [1=1,Sm [i6 1],Tt],Bn [1=1,Sm [i6 1],Tt],Sm (0:Int)],An [Sm (arF a),TT 18],An [Sm (arF b),TT 18]],Sat Pg none 0 (at' 25 [1,1,0,1,0]) (Ah g0 82 (SL.mk [(2,V.ptr 0 0),(3,V.ptr 1 0),(5,V.im 1 [i6 1]),(6,V.im 1 [i6 1]),(7,i6 0)] (cuO a b) [] [])) (Qaf g0 82 [(True,Ex.exit 0,SL.mk [(5,nl x),(6,nl y)] [] [] [])]),(True->Bn [((x.length:Int) != (y.length:Int))=true,decide ((x.length:Int)<(y.length:Int))=true,Bn [Sm (-1:Int)]])])
  ·have hlt := Qlf m4 m1 o_
   have:sgn (Bq x) (Bq y)=1:=by unfold sgn;rw[if_neg o_,if_pos hlt]
   rw[this]
   refine Ac.of_vc vE_ok Af Qaa (n:=1000) (r:=[]) (S:=c4 1) (hs:=[(0,.loop [0,1] {sl:=[(2,.ptr 0 0),(3,.ptr 1 0),(5,.im 1 [i6 1]),(6,.im 1 [i6 1]),(7,i6 0)],os:=cuO a b} [(True,.exit 0,{sl:=[(5,nl x),(6,nl y)]})]),yes 51,no 56]) ?_
   clear v1 v2 this hlt
   exact v_ (p:=Bn [Sm (i6 1),Bn [Bn [Zz,Zz,Bn [1=1,Sm [i6 1],Tt],Bn [1=1,Sm [i6 1],Tt],Sm (0:Int)],An [Sm (arF a),TT 18],An [Sm (arF b),TT 18]],Sat Pg none 0 (at' 25 [1,1,0,1,0]) (Ah g0 82 (SL.mk [(2,V.ptr 0 0),(3,V.ptr 1 0),(5,V.im 1 [i6 1]),(6,V.im 1 [i6 1]),(7,i6 0)] (cuO a b) [] [])) (Qaf g0 82 [(True,Ex.exit 0,SL.mk [(5,nl x),(6,nl y)] [] [] [])]),(True->Bn [((x.length:Int) != (y.length:Int))=true,decide ((x.length:Int)<(y.length:Int))=false,Bn [Sm (1:Int)]])])
abbrev eqlS(a:List Nat)(k:Nat):SL:={sl:=[(0,ul a),(1,ul a),(12,i6 (a.length:Nat)),(13,i6 (k:Nat))]}
theorem eql_loop(a:List Nat)(h:a.length<=1000):Sat Pg none 0 (at' 29 [1,1,0,1,0]) (Ah g0 26 (eqlS a 0)) (Qaf g0 26 [(True,.exit 0,{sl:=[]})]):=by
 have hu:=Qas a
 refine Qax vE_ok Af Qaa (b:=at' 29 [1,1,0,1,0,0]) k_ (fun k=>True) (eqlS a) (fun k=>a.length-k) (fun k hk=>?_) 0 trivial
 by_cases hlt:k<a.length
 ·have hld := @Qed a k hlt
  generalize a.getD k 0=x at*
  refine .inl ⟨k+1,[],[yes 14,pl 18,ld 19 (u6 (x:Nat)),pl 22,ld 23 (u6 (x:Nat)),no 24,nu 25 ((k+1:Nat):Int)],1000,trivial,by omega,?_⟩
  exact v_ (p:=let z4:=An [Sm a.length,Sm (ut a)];let z0:=(a.length:Int);let z1:=(k:Int);let z2:=(↑(k+1):Int);let z3:=Ad (List.drop (k*1) (ut a));Bn [decide (z1<z0)=true,An [(0:Int)<=z1,z1<z0],z3=some (u6 x),An [(0:Int)<=z1,z1<z0],z3=some (u6 x),((x:Int) != (x:Int))=false,wr .i64 (z1+1)=z2,Bn [z4,z4,z0=z0,z2=z2]])
 ·refine .inr ⟨.exit 0, [], { sl := [] }, [no 14], 1000, .inl ⟨trivial, rfl, rfl⟩, ?_⟩
  exact v_ (p:=Bn [decide ((k:Int)<(a.length:Int))=false,Tt])
theorem Qh2(a:List Nat)(h:a.length<=1000):Ac Pg g0 29 [ul a,ul a] (.bool true):=by
 have hl:=eql_loop a h
 have hu:=Qas a
 refine Ac.of_vc vE_ok Af Qaa (n:=1000) (r:=[]) (S:=b4 true) (hs:=[no 10,(0,.loop [] (eqlS a 0) [(True,.exit 0,{sl:=[]})])]) ?_
 exact v_ (p:=let z1:=An [Sm a.length,Sm (ut a)];let z0:=(a.length:Int);Bn [Sm (V.bool true),(z0 != z0)=false,Bn [Bn [z1,z1,z0=z0,((0:Nat):Int)=(0:Int)]],Sat Pg none 0 (at' 29 [1,1,0,1,0]) (Ah g0 26 (eqlS a 0)) (Qaf g0 26 [(True,Ex.exit 0,SL.mk [] [] [] [])]),(True->Bn [Bn [Sm true]])])
set_option maxHeartbeats 1000000
section
variable (N:Nat) (o:Nat->Nat) (E n:Nat)
end
set_option maxHeartbeats 1000000
set_option maxRecDepth 100000
theorem Qev(l:List Nat):(ut l).length=l.length:=by simp[ut]
theorem lay_ut{l:List Nat}{j x:Nat}(h:j<l.length):Ax (0+j*1) (ut l) [u6 (x:Int)]=some (ut (l.set j x)):=by
 have hl:=Qev l
 rw[Nat.zero_add,Nat.mul_one,Qc3,hl]
 have:Nat.ble (j+[u6 (x:Int)].length) l.length=true:=Nat.ble_eq_true_of_le (by simp;omega)
 rw[this,cond_true]
 congr 1
 rw[List.set_eq_take_append_cons_drop,if_pos h]
 simp[ut,List.map_take,List.map_drop]
theorem S64.set{l:List Nat}(h:S64 l){j x:Nat}(hx:x<18446744073709551616):S64 (l.set j x):=fun y hy=>by
 rcases List.mem_or_eq_of_mem_set hy with h1|h1
 ·exact h y h1
 ·subst h1;exact hx
section
variable (N:Nat) (o:Nat->Nat) (E n:Nat) (L:List Nat)
end
set_option maxHeartbeats 1000000
set_option maxRecDepth 100000
theorem sum_add(f g:Nat->Int):ar (Bc f g 1 18)=ar (Aq f g 1):=congrArg V.agg (Qbf fun k hk=>by rw[Qbi,if_pos hk];rfl)
theorem Qt1(n lim:Nat)(F:Nat->Nat->Nat->Int):Cl n lim F 0=Qah:=by
 unfold Cl
 rw[Qtq (fun v _=>Nat.zero_testBit v)];rfl
section
variable {n lim:Nat} {F:Nat->Nat->Nat->Int}
theorem sol_at(hF: ∀v p,inB (F v p) 160)(hn:n<=5){s:Nat}(h0:0<s)(hs:s<2^n):laT n lim F (2^n) s<n/\s.testBit (laT n lim F (2^n) s)=true/\okT lim s (laT n lim F (2^n) s) (paT n lim F (2^n) s)=true/\Cl n lim F s=Aq (Cl n lim F (s-2^laT n lim F (2^n) s)) (F (laT n lim F (2^n) s) (paT n lim F (2^n) s)) 1:=by
 obtain⟨v,p,h1,h2,h3,h4,h5⟩:=top_is (lim:=lim) hF hn hs h0
 have e1:laT n lim F (2^n) s=v:=by rw[la_at _ _ _ _ _ hs,h4];rfl
 have e2:paT n lim F (2^n) s=p:=by rw[pa_at _ _ _ _ _ hs,h4];rfl
 rw[e1,e2]
 exact⟨h1,h2,h3,h5⟩
def mkL(la:Nat->Nat)(n:Nat):List Int:=(List.range (2^n)).map fun s=>((la s:Nat):Int)
def mkP(pa:Nat->Nat)(n:Nat):List Nat:=(List.range (2^n)).map pa
theorem Qsn(f:Nat->Nat): ∀n,nF f n=Ab ((List.range n).map fun s=>((f s:Nat):Int))
 |0=>rfl
 |n+1=>by
  show blF _ (n+1)=_
  rw[Qbe,show blF (fun i=>[i6 (f i:Nat)]) n=Ab ((List.range n).map fun s=>((f s:Nat):Int))from Qsn f n]
  unfold Ab
  rw[List.range_succ,List.map_append,List.map_append];rfl
theorem mk_V(la pa:Nat->Nat)(n:Nat):ldV (2^n) la pa=lV (mkL la n) (mkP pa n):=by
 show V.agg [.im (2^n) (nF la (2^n)),.im (2^n) (uF pa (2^n))]=V.agg [.im (mkL la n).length (Ab (mkL la n)),.im (mkP pa n).length (ut (mkP pa n))]
 rw[Qsn,uF_ut]
 unfold mkL mkP
 rw[List.length_map,List.length_map,List.length_range]
theorem mk_S64{pa:Nat->Nat}(h: ∀s,s<2^n->pa s<18446744073709551616):S64 (mkP pa n):=fun x hx=>by
 obtain⟨s,hs,rfl⟩:=List.mem_map.1 hx
 exact h s (List.mem_range.1 hs)
variable (n lim F)in
abbrev solL:List Int:=mkL (laT n lim F (2^n)) n
variable (n lim F)in
abbrev solP:List Nat:=mkP (paT n lim F (2^n)) n
theorem sol_0:laT n lim F (2^n) 0=0/\paT n lim F (2^n) 0=0:=by
 have hp:0<2^n:=Nat.pow_pos d_
 rw[la_at _ _ _ _ _ hp,pa_at _ _ _ _ _ hp,Qtq (fun v _=>Nat.zero_testBit v)]
 exact⟨rfl,rfl⟩
theorem sol_pos(hF: ∀v p,inB (F v p) 160)(hn:n<=5): ∀s,0<s->s<2^n->laT n lim F (2^n) s<n/\s.testBit (laT n lim F (2^n) s)=true/\paT n lim F (2^n) s&&& (s-2^laT n lim F (2^n) s)=paT n lim F (2^n) s:=fun s h0 hs=>by
 have h32:=Qa1 hn
 obtain⟨a,b,c,_⟩:=sol_at (lim:=lim) hF hn h0 hs
 have hps:=(Qb5.1 c).1
 have hp32:paT n lim F (2^n) s<32:=by
  rw[<-hps];exact Nat.lt_of_le_of_lt Nat.and_le_right o_
 exact⟨a,b,((Qdp o_ o_ b hp32).1 c).1⟩
theorem sol_S64(hF: ∀v p,inB (F v p) 160)(hn:n<=5):S64 (solP n lim F):=mk_S64 fun s hs=>by
 have h32:=Qa1 hn
 rcases Nat.eq_zero_or_pos s with h0|h0
 ·subst h0;rw[sol_0.2];decide
 ·have := (sol_pos (lim := lim) hF hn s h0 hs).2.2
  rw[<-this];exact Nat.lt_of_le_of_lt Nat.and_le_right (by have:=Nat.sub_le s (2^laT n lim F (2^n) s);omega)
def Ea(n lim:Nat)(F:Nat->Nat->Nat->Int)(L:List Int)(P:List Nat):Bool:=(List.range (2^n)).all fun s=>decide (s=0)||(decide (Ao (P.getD s 0)<=lim)&&eqA (Aq (Cl n lim F (s-2^laL L s)) (F (laL L s) (paL P s)) 1) (Cl n lim F s))
end
def eqv:BSt->BSt->Prop
 |none,none=>True
 |some (v,p,x),some (v',p',y)=>v=v'/\p=p'/\∀i,i<18->x i=y i
 | _,_=>False
theorem Qpd{a b c d:Nat->Int}(h: ∀i,i<18->a i=b i)(k: ∀i,i<18->c i=d i):Di a c=Di b d:=by
 have e: ∀i,i<18->Bc a c (-1) 18 i=Bc b d (-1) 18 i:=fun i hi=>by
  rw[Qbi,Qbi,if_pos hi,if_pos hi,h i hi,k i hi]
 unfold Di
 rw[Qbd (e:=B4 (Bc a c (-1) 18) 1) (f:=B4 (Bc b d (-1) 18) 1) 18 (fun j hj=>by unfold B4;rw[e j hj]),Qbd (e:=B4 (Bc a c (-1) 18) (-1)) (f:=B4 (Bc b d (-1) 18) (-1)) 18 (fun j hj=>by unfold B4;rw[e j hj])]
theorem upT_eqv{b c:BSt}(h:eqv b c){v p:Nat}{x y:Nat->Int}(hx: ∀i,i<18->x i=y i):eqv (upT b v p x) (upT c v p y):=by
 rcases b with _|⟨v1,p1,x1⟩<;>rcases c with _|⟨v2,p2,x2⟩
 ·exact⟨rfl,rfl,hx⟩
 ·exact h.elim
 ·exact h.elim
 ·unfold upT
  dsimp only
  rw[Qpd hx h.2.2]
  split
  ·exact⟨rfl,rfl,hx⟩
  ·exact h
section
variable {n lim:Nat} {F G:Nat->Nat->Nat->Int}
theorem Qn7{B C:Nat->Nat->Int}{s v:Nat}(h0:0<s)(hB: ∀t,t<s->∀i,i<18->B t i=C t i){b c:BSt}(h:eqv b c): ∀k,(∀p,p<k->∀i,i<18->F v p i=G v p i)->eqv (Bu lim F B s v b k) (Bu lim G C s v c k)
 |0,_=>h
 |k+1,hF=>by
  have ih:=Qn7 h0 hB h k fun p hp=>hF p o_
  have hp:0<2^v:=Nat.pow_pos d_
  unfold Bu
  split
  ·exact upT_eqv ih fun i hi=>by unfold Av;rw[Qez,Qez,hB _ o_ i hi,hF k o_ i hi]
  ·exact ih
theorem Qoj{B C:Nat->Nat->Int}{s:Nat}(hB: ∀t,t<s->∀i,i<18->B t i=C t i): ∀k,(∀v,v<k->∀p,p<=s->∀i,i<18->F v p i=G v p i)->eqv (B3 lim F B s k) (B3 lim G C s k)
 |0,_=>trivial
 | k + 1, hF => by
  have ih:=Qoj (s:=s) hB k fun v hv=>hF v o_
  unfold B3
  split
  ·rename_i hb
   have h0:0<s:=by
    rcases Nat.eq_zero_or_pos s with h|h
    ·subst h;rw[Nat.zero_testBit]at hb;cases hb
    ·exact h
   exact Qn7 h0 hB ih _ fun p hp=>hF k o_ p o_
  ·exact ih
theorem Gh{b c:BSt}(h:eqv b c): ∀i,i<18->Cc b i=Cc c i:=by
 rcases b with _|⟨v1,p1,x1⟩<;>rcases c with _|⟨v2,p2,x2⟩
 ·intro i _;rfl
 ·exact h.elim
 ·exact h.elim
 ·exact h.2.2
theorem Qo0(T:Nat->Nat->Int)(N:Nat)(hF: ∀v,v<n->∀p,p<N->∀i,i<18->F v p i=G v p i)(h: ∀s,s<N->∀i,i<18->Cc (B3 lim G T s n) i=T s i): ∀s,s<N->eqv (stB n lim F s) (B3 lim G T s n)/\∀i,i<18->Cl n lim F s i=T s i:=by
 intro s
 induction s using Nat.strongRecOn with
 | _ s ih=>
  intro hs
  have e:eqv (stB n lim F s) (B3 lim G T s n):=Qoj (fun t ht i hi=>by rw[Qbp,if_pos ht];exact(ih t ht o_).2 i hi) n fun v hv p hp=>hF v hv p o_
  exact⟨e,fun i hi=>(Gh e i hi).trans (h s hs i hi)⟩
end
set_option maxHeartbeats 1000000
set_option maxRecDepth 100000
abbrev plwS(a b:Nat->Int)(k:Nat):SL:={sl:=[(2,.ptr 0 0),(3,.ptr 1 0),(4,.ptr 2 0),(5,i6 k)],os:=[.row 37 none (arF (Bc a b 1 k)),.row 37 none (arF b),.row 37 none (arF Qah)]}
abbrev plwX(f:Nat->Int):SL:={sl:=[(2,.ptr 0 0),(4,.ptr 1 0)],os:=[.row 37 none (arF f),.row 37 none (arF Qah)]}
theorem Qpv(a b:Nat->Int)(ha: ∀k,k<18-> -1000000<=a k/\a k<=1000000)(hb: ∀k,k<18-> -1000000<=b k/\b k<=1000000)(k:Nat)(hk:k<=18):
  Sat Pg none 0 (at' 23 [1,0,1,0]) (Ah g0 20 (plwS a b k)) (Qaf g0 20 [(True,.exit 0,plwX (Bc a b 1 18))]):=by
 refine Qax vE_ok Af Qaa (b:=at' 23 [1,0,1,0,0]) k_ (fun k=>k<=18) (plwS a b) (fun k=>18-k) (fun k hk=>?_) k hk
 by_cases hlt:k<18
 ·have p0 := @Qbs 0 k hlt
  have p1:=@Qbs 1 k hlt
  have h0:Ad (Aj k (arF (Bc a b 1 k)))=some (i6 (a k)):=by rw[Qbq hlt,Qbi,if_neg o_]
  have h1:=@Qbq b k hlt
  have hst:Ax k (arF (Bc a b 1 k)) [i6 (a k+1*b k)]=some (arF (Bc a b 1 (k+1))):=Qk5 hlt
  have ha:=ha k hlt
  have hb:=hb k hlt
  have hsum:a k+1*b k=a k+b k:=by omega
  refine .inl ⟨k+1,[0,1,2],[yes 7,va 12 (.ptr 0 k),ld 13 (i6 (a k)),va 15 (.ptr 1 k),ld 16 (i6 (b k)),nu 17 (a k+1*b k),va 18 (.ptr 0 k),st (arF (Bc a b 1 (k+1))),nu 9 (k+1:Nat)],1000,hlt,by omega,?_⟩
  refine m_ (p:=let z2:=(1:Int);let z3:=(↑(k+1):Int);let z4:=(k:Int);let z0:=arF (Bc a b z2 (k+1));let z1:=Az (Qac Pg) 37 (V.ptr 0 0) z4;let z5:=arF (Bc a b z2 k);Bn [decide (z4<18)=true,z1=some (V.ptr 0 k),Ad (Aj k z5)=some (i6 (a k)),Az (Qac Pg) 37 (V.ptr 1 0) z4=some (V.ptr 1 k),Ad (Aj k (arF b))=some (i6 (b k)),wr .i64 (a k+b k)=a k+z2*b k,z1=some (V.ptr 0 k),Ax k z5 [i6 (a k+z2*b k)]=some z0,wr .i64 (z4+z2)=z3,Bn [Zz,Zz,Zz,z3=z3],An [z0=z0,TT 18],An [Sm (arF b),TT 18],An [Sm (arF Qah),TT 18]]) ?_
  (repeat'(first|(with_reducible apply And.intro)|(refine fun(_:True)=>?_)))<;>first|exact aq|skip
 ·have : k = 18 := by omega
  subst this
  refine .inr ⟨.exit 0,[0,2],plwX (Bc a b 1 18),[],1000,.inl ⟨trivial,rfl,rfl⟩,?_⟩
  exact u_ (p:=Bn [Bn [Zz,Zz],An [Sm (arF (Bc a b (1:Int) 18)),TT 18],An [Sm (arF Qah),TT 18]])
theorem plusw(a b:Nat->Int)(ha: ∀k,k<18-> -1000000<=a k/\a k<=1000000)(hb: ∀k,k<18-> -1000000<=b k/\b k<=1000000):Ac Pg g0 23 [ar a,ar b] (ar (Aq a b 1)):=by
 have l:=Qpv a b ha hb 0 (Nat.zero_le _)
 rw[<-sum_add]
 generalize Bc a b 1 18=f at*
 refine Ac.of_vc vE_ok Af Qaa (n:=1000) (r:=[1]) (S:={sl:=[(4,.ptr 0 0)],os:=[.row 37 none (arF f)]}) (hs:=[(0,.loop [0,1,2] (plwS a b 0) [(True,.exit 0,plwX f)])]) ?_
 exact u_ (p:=Bn [V.agg (arF f)=ar f,Bn [Bn [Zz,Zz,Zz,((0:Nat):Int)=(0:Int)],An [arF (Bc a b (1:Int) 0)=arF a,TT 18],An [Sm (arF b),TT 18],An [arF Qah=[i6 0,i6 0,i6 0,i6 0,i6 0,i6 0,i6 0,i6 0,i6 0,i6 0,i6 0,i6 0,i6 0,i6 0,i6 0,i6 0,i6 0,i6 0],TT 18]],Sat Pg none 0 (at' 23 [1,0,1,0]) (Ah g0 20 (plwS a b 0)) (Qaf g0 20 [(True,Ex.exit 0,plwX f)]),(True->Bn [Bn [Zz],An [Sm (arF f),TT 18]])])
set_option maxHeartbeats 4000000
def fiB:BSt->Bool
 |none=>true
 |some _=>false
structure Qj8(jj:List Int)(cs:List (List Int))(F:Nat->Nat->Nat->Int)(lim s v:Nat)(B:Nat->Nat->Int):Prop where
 bd: ∀p,inB (Av F B s v p) 1000
 fam: ∀p,okT lim s v p=true->Ac Pg g0 24 [gV jj cs,i6 (v:Nat),u6 (p:Nat)] (ar (F v p))
 add: ∀p,Ac Pg g0 23 [ar (B (s-2^v)),ar (F v p)] (ar (Av F B s v p))
section
variable (jj:List Int) (cs:List (List Int)) (B:Nat->Nat->Int) (lim s:Nat)
abbrev tpO(b:BSt):List O:=[gO jj cs,.row 37 (some 18) (bF B s),.row 37 none (arF (Cc b))]
abbrev tp3(v p:Nat)(b:BSt):SL:={sl:=[(1,i6 (lim:Nat)),(2,.ptr 0 0),(5,.sl 1 0 s none),(6,u6 (s:Nat)),(7,.ptr 2 0),(8,.bool (fiB b)),(9,i6 (v:Nat)),(10,u6 (p:Nat))],os:=tpO jj cs B s b}
abbrev tp2(v:Nat)(b:BSt):SL:={sl:=[(1,i6 (lim:Nat)),(2,.ptr 0 0),(5,.sl 1 0 s none),(6,u6 (s:Nat)),(7,.ptr 2 0),(8,.bool (fiB b)),(9,i6 (v:Nat))],os:=tpO jj cs B s b}
end
theorem tp_in(jj:List Int)(cs:List (List Int))(F:Nat->Nat->Nat->Int)(B:Nat->Nat->Int)(lim s v:Nat)(hs:s<32)(hv:v<5)(hb:s.testBit v=true)(H:Qj8 jj cs F lim s v B)(b0:BSt)(hG:Ck b0)(b1:BSt)(hb1:Bu lim F B s v b0 (s+1)=b1):
  Sat Pg none 0 (at' 11 [1,1,0,1,0,0,1,0,0,1,1,0,1,0,0,1,0,0,1,0]) (Ah g0 79 (tp3 jj cs B lim s v 0 b0)) (Qaf g0 79 [(True,.exit 4,tp2 jj cs B lim s v b1)]):=by
 have hg:=Qap cs
 have hc:=Qag jj
 have hB:=Qab B s
 have hin:=F1 s v o_
 rw[hb]at hin
 obtain⟨r1,r2,r3⟩:=Qes s hs v hv hb
 have hp0:0<2^v:=Nat.pow_pos d_
 have s1:=fun G t=>@Qhe G t v o_
 have s2:=fun G t=>@Qqo G t s v hs hv hb
 have htk:=@Qa9 B s (s-2^v) o_
 have ht:s-2^v<s:=by omega
 have hGk: ∀k,Ck (Bu lim F B s v b0 k):=fun k=>Qcq H.bd hG k
 refine Qax vE_ok Af Qaa (b:=at' 11 [1,1,0,1,0,0,1,0,0,1,1,0,1,0,0,1,0,0,1,0,0]) k_ (fun q:Nat×BSt=>q.1<=s+1/\Bu lim F B s v b0 q.1=q.2) (fun q=>tp3 jj cs B lim s v q.1 q.2) (fun q=>s+1-q.1) (fun q hq=>?_) (0,b0) ⟨Nat.zero_le _,rfl⟩
 obtain⟨p,b⟩:=q
 obtain⟨hp,hq⟩:=hq
 dsimp only at hp hq
 have hGb:=hGk p
 rw[hq]at hGb
 have hHb:=By (Cc b)
 by_cases hle:p<=s
 ·have hpw : wr .u64 ((p : Int) + 1) = ((p + 1 : Nat) : Int) := by
   rw[show((p:Int)+1)=((p+1:Nat):Int)by omega];exact Qei (by simp only[lo];omega) (by simp only[hi];omega)
  obtain⟨z,e1,_,hz⟩:=@Qiu (Qac Pg) 72 p s o_ o_
  rw[Qmx]at hz
  have hsz:=Qtl p o_
  have hin2:=F1 p v o_
  have hnx:Bu lim F B s v b0 (p+1)=if okT lim s v p then upT b v p (Av F B s v p)else b:=by rw[Bu,hq]
  by_cases hz0:z=0
  ·have hps := hz.1 hz0
   subst hz0
   cases hpv:p.testBit v with
   |true=>
    have hno:okT lim s v p=false:=by unfold okT;rw[hpv];simp
    rw[hno]at hnx
    rw[hpv]at hin2
    have hne:[u6 (s:Int),i6 (v:Int)]=[u6 (p:Int),i6 (v:Int)]->V.bool true=V.bool true:=fun _=>rfl
    refine .inl ⟨(p+1,b),[0,1,2],[yes 31,fn 35 (.bool true),va 41 (u6 ((0:Nat):Int)),no 42,fn 46 (.bool true),nu 38 ((p+1:Nat):Int)],1000,⟨by omega,hnx⟩,by dsimp only;omega,?_⟩
    clear hnx hno hGk hGb hq hb1 hz H
    exact v_ (p:=Bn [decide ((p:Int)<=(s:Int))=true,TT 2,Ac Pg g0 21 [u6 s,i6 v] (V.bool true),Tt,Ai (Qac Pg) .andNot 72 (u6 p) (u6 s)=some (u6 ↑(0:Nat)),(((0:Nat):Int) != 0)=false,TT 2,Ac Pg g0 21 [u6 p,i6 v] (V.bool true),Tt,wr .u64 ((p:Int)+1)=(↑(p+1):Int),Bn [Sm (lim:Int),Zz,Bn [Zz,s=s],Sm (s:Int),Zz,Sm (fiB b),Sm (v:Int),Sm (↑(p+1):Int)],An [Sm [sl jj,gC cs],TT 2],An [Sm (bF B s),HfL (bF B s)],An [Sm (arF (Cc b)),TT 18]])
   | false =>
    rw[hpv]at hin2
    by_cases hpl:Ao p<=lim
    ·have hok : okT lim s v p = true := Qb5.2 ⟨hps, hpv, hpl⟩
     have hfam:=H.fam p hok
     have xz:=H.add p
     have hxb:=H.bd p
     rw[hok,if_pos rfl]at hnx
     have hHx:=By (Av F B s v p)
     generalize Av F B s v p=x at*
     generalize s-2^v=t at*
     generalize 2^v=bt at*
     rcases b with _|⟨v',p',y⟩
     ·refine .inl ⟨(p + 1, some (v, p, x)), [0, 1, 2], [yes 31, fn 35 (.bool true), va 41 (u6 ((0 : Nat) : Int)), no 42, fn 46 (.bool false), fn 50 (i6 (Ao p : Nat)), no 52, fn 64 (ar (F v p)), va 57 (u6 (bt : Nat)), va 58 (u6 (t : Nat)), pl 59, ld 60 (ar (B t)), fn 65 (ar x), nu 38 ((p + 1 : Nat) : Int)], 1000, ⟨by omega, hnx⟩, by dsimp only; omega, ?_⟩
      clear hnx hGk hGb hq hb1 hz H hok
      generalize F v p=fv at*
      refine m_ (p:=let z0:=Ae T.e 0 (tpO jj cs B s none);let z1:=(↑(p+1):Int);let z2:=(s:Int);let z3:=[sl jj,gC cs];let z4:=(lim:Int);let z5:=arF (B t);Bn [decide ((p:Int)≤z2)=true,TT 2,Ac Pg g0 21 [u6 s,i6 v] (V.bool true),Tt,Ai (Qac Pg) .andNot 72 (u6 p) (u6 s)=some (u6 ↑(0:Nat)),(((0:Nat):Int) != 0)=false,TT 2,Ac Pg g0 21 [u6 p,i6 v] (V.bool false),Tt,Bn [Tt],Ac Pg g0 22 [u6 p] (i6 ↑(Ao p)),Bn [(V.fn 21 []=V.fn 22 []→[u6 p,i6 v]=[u6 p]→z0=z0→3=3→CR.mk (V.bool false) z0 3 []=CR.mk (i6 ↑(Ao p)) z0 3 [])],decide ((↑(Ao p):Int)>z4)=false,An [TT 2,TT 2],Ac Pg g0 24 [V.agg [V.im jj.length (Ab jj),V.im cs.length (List.map sl cs)],i6 v,u6 p] (ar fv),Tt,Ai (Qac Pg) .shl 72 (u6 1) (i6 v)=some (u6 bt),Ai (Qac Pg) .andNot 72 (u6 s) (u6 bt)=some (u6 t),An [(0:Int)≤(t:Int),(t:Int)<z2],A6 18 (Aj (0+t*18) (bF B s))=some z5,Bn [TT 18,TT 18],Ac Pg g0 23 [V.agg z5,V.agg (arF fv)] (ar x),Bn [(V.fn 24 []=V.fn 23 []→[V.agg z3,i6 v,u6 p]=[V.agg z5,ar fv]→z0=z0→3=3→CR.mk (ar fv) z0 3 []=CR.mk (ar x) z0 3 [])],wr .u64 ((p:Int)+1)=z1,Bn [z4=z4,Zz,Bn [Zz,s=s],z2=z2,Zz,fiB (some (v,p,x))=false,Sm (v:Int),z1=z1],An [z3=z3,TT 2],An [Sm (bF B s),HfL (bF B s)],An [arF (Cc (some (v,p,x)))=arF x,TT 18]]) ?_
      (repeat'(first|(with_reducible apply And.intro)|(refine fun(_:True)=>?_)))
      all_goals first|exact hin|exact hin2|exact hsz|exact hfam|exact xz|(with_reducible exact e1)|(with_reducible exact s1 _ _)|(with_reducible exact s2 _ _)|(with_reducible exact htk)|(rw[Nat.zero_add];with_reducible exact htk)|(with_reducible exact hpw)|exact hg|exact hc|exact hB|exact hHb|exact hHx|exact aq|rfl|skip
     ·have hyb := hGb v' p' y rfl
      have hcmp:=cmp26 x y (hxb.mono d_) (hyb.mono d_)
      have hHy:=By y
      unfold upT at hnx
      dsimp only at hnx
      by_cases hgt:0<Di x y
      ·rw [if_pos hgt] at hnx
       generalize Di x y=c at*
       refine .inl ⟨(p+1,some (v,p,x)),[0,1,2],[yes 31,fn 35 (.bool true),va 41 (u6 ((0:Nat):Int)),no 42,fn 46 (.bool false),fn 50 (i6 (Ao p:Nat)),no 52,fn 64 (ar (F v p)),va 57 (u6 (bt:Nat)),va 58 (u6 (t:Nat)),pl 59,ld 60 (ar (B t)),fn 65 (ar x),fn 70 (i6 c),yes 71,nu 38 ((p+1:Nat):Int)],1000,⟨by omega,hnx⟩,by dsimp only;omega,?_⟩
       clear hnx hGk hGb hq hb1 hz H hok
       generalize F v p=fv at*
       refine m_ (p:=let z0:=Ae T.e 0 (tpO jj cs B s (some (v',p',y)));let z1:=(↑(p+1):Int);let z2:=(s:Int);let z3:=[sl jj,gC cs];let z4:=(lim:Int);let z5:=arF (B t);Bn [decide ((p:Int)≤z2)=true,TT 2,Ac Pg g0 21 [u6 s,i6 v] (V.bool true),Tt,Ai (Qac Pg) .andNot 72 (u6 p) (u6 s)=some (u6 ↑(0:Nat)),(((0:Nat):Int) != 0)=false,TT 2,Ac Pg g0 21 [u6 p,i6 v] (V.bool false),Tt,Bn [Tt],Ac Pg g0 22 [u6 p] (i6 ↑(Ao p)),Bn [(V.fn 21 []=V.fn 22 []→[u6 p,i6 v]=[u6 p]→z0=z0→3=3→CR.mk (V.bool false) z0 3 []=CR.mk (i6 ↑(Ao p)) z0 3 [])],decide ((↑(Ao p):Int)>z4)=false,An [TT 2,TT 2],Ac Pg g0 24 [V.agg [V.im jj.length (Ab jj),V.im cs.length (List.map sl cs)],i6 v,u6 p] (ar fv),Tt,Ai (Qac Pg) .shl 72 (u6 1) (i6 v)=some (u6 bt),Ai (Qac Pg) .andNot 72 (u6 s) (u6 bt)=some (u6 t),An [(0:Int)≤(t:Int),(t:Int)<z2],A6 18 (Aj (0+t*18) (bF B s))=some z5,Bn [TT 18,TT 18],Ac Pg g0 23 [V.agg z5,V.agg (arF fv)] (ar x),Bn [(V.fn 24 []=V.fn 23 []→[V.agg z3,i6 v,u6 p]=[V.agg z5,ar fv]→z0=z0→3=3→CR.mk (ar fv) z0 3 []=CR.mk (ar x) z0 3 [])],Bn [TT 18,TT 18],Ac Pg g0 25 [V.agg (arF x),V.agg (arF (Cc (some (v',p',y))))] (i6 c),Tt,decide (c>0)=true,wr .u64 ((p:Int)+1)=z1,Bn [z4=z4,Zz,Bn [Zz,s=s],z2=z2,Zz,fiB (some (v,p,x))=false,Sm (v:Int),z1=z1],An [z3=z3,TT 2],An [Sm (bF B s),HfL (bF B s)],An [arF (Cc (some (v,p,x)))=arF x,TT 18]]) ?_
       (repeat'(first|(with_reducible apply And.intro)|(refine fun(_:True)=>?_)))
       all_goals first|exact hin|exact hin2|exact hsz|exact hfam|exact xz|exact hcmp|(with_reducible exact e1)|(with_reducible exact s1 _ _)|(with_reducible exact s2 _ _)|(with_reducible exact htk)|(rw[Nat.zero_add];with_reducible exact htk)|(with_reducible exact hpw)|exact hg|exact hc|exact hB|exact hHb|exact hHx|exact hHy|exact aq|rfl|skip
      ·rw [if_neg hgt] at hnx
       generalize Di x y=c at*
       refine .inl ⟨(p+1,some (v',p',y)),[0,1,2],[yes 31,fn 35 (.bool true),va 41 (u6 ((0:Nat):Int)),no 42,fn 46 (.bool false),fn 50 (i6 (Ao p:Nat)),no 52,fn 64 (ar (F v p)),va 57 (u6 (bt:Nat)),va 58 (u6 (t:Nat)),pl 59,ld 60 (ar (B t)),fn 65 (ar x),fn 70 (i6 c),no 71,nu 38 ((p+1:Nat):Int)],1000,⟨by omega,hnx⟩,by dsimp only;omega,?_⟩
       clear hnx hGk hGb hq hb1 hz H hok
       generalize F v p=fv at*
       exact v_ (p:=let z1:=some (v',p',y);let z2:=(↑(p+1):Int);let z3:=(s:Int);let z4:=[sl jj,gC cs];let z5:=(lim:Int);let z7:=arF (B t);let z0:=Ae T.e 0 (tpO jj cs B s z1);let z6:=arF (Cc z1);Bn [decide ((p:Int)<=z3)=true,TT 2,Ac Pg g0 21 [u6 s,i6 v] (V.bool true),Tt,Ai (Qac Pg) .andNot 72 (u6 p) (u6 s)=some (u6 ↑(0:Nat)),(((0:Nat):Int) != 0)=false,TT 2,Ac Pg g0 21 [u6 p,i6 v] (V.bool false),Tt,Bn [Tt],Ac Pg g0 22 [u6 p] (i6 ↑(Ao p)),Bn [(V.fn 21 []=V.fn 22 []->[u6 p,i6 v]=[u6 p]->z0=z0->3=3->CR.mk (V.bool false) z0 3 []=CR.mk (i6 ↑(Ao p)) z0 3 [])],decide ((↑(Ao p):Int)>z5)=false,An [TT 2,TT 2],Ac Pg g0 24 [V.agg [V.im jj.length (Ab jj),V.im cs.length (List.map sl cs)],i6 v,u6 p] (ar fv),Tt,Ai (Qac Pg) .shl 72 (u6 1) (i6 v)=some (u6 bt),Ai (Qac Pg) .andNot 72 (u6 s) (u6 bt)=some (u6 t),An [(0:Int)<=(t:Int),(t:Int)<z3],A6 18 (Aj (0+t*18) (bF B s))=some z7,Bn [TT 18,TT 18],Ac Pg g0 23 [V.agg z7,V.agg (arF fv)] (ar x),Bn [(V.fn 24 []=V.fn 23 []->[V.agg z4,i6 v,u6 p]=[V.agg z7,ar fv]->z0=z0->3=3->CR.mk (ar fv) z0 3 []=CR.mk (ar x) z0 3 [])],Bn [TT 18,TT 18],Ac Pg g0 25 [V.agg (arF x),V.agg z6] (i6 c),Tt,decide (c>0)=false,wr .u64 ((p:Int)+1)=z2,Bn [z5=z5,Zz,Bn [Zz,s=s],z3=z3,Zz,Sm (fiB z1),Sm (v:Int),z2=z2],An [z4=z4,TT 2],An [Sm (bF B s),HfL (bF B s)],An [z6=z6,TT 18]])
    ·have hno : okT lim s v p = false := by unfold okT; rw [decide_eq_false hpl]; simp
     rw[hno]at hnx
     refine .inl ⟨(p+1,b),[0,1,2],[yes 31,fn 35 (.bool true),va 41 (u6 ((0:Nat):Int)),no 42,fn 46 (.bool false),fn 50 (i6 (Ao p:Nat)),yes 52,nu 38 ((p+1:Nat):Int)],1000,⟨by omega,hnx⟩,by dsimp only;omega,?_⟩
     clear hnx hno hGk hGb hq hb1 hz H
     exact v_ (p:=let z0:=Ae T.e 0 (tpO jj cs B s b);let z1:=(↑(p+1):Int);let z2:=(lim:Int);let z3:=(s:Int);Bn [decide ((p:Int)<=z3)=true,TT 2,Ac Pg g0 21 [u6 s,i6 v] (V.bool true),Tt,Ai (Qac Pg) .andNot 72 (u6 p) (u6 s)=some (u6 ↑(0:Nat)),(((0:Nat):Int) != 0)=false,TT 2,Ac Pg g0 21 [u6 p,i6 v] (V.bool false),Tt,Bn [Tt],Ac Pg g0 22 [u6 p] (i6 ↑(Ao p)),Bn [(V.fn 21 []=V.fn 22 []->[u6 p,i6 v]=[u6 p]->z0=z0->3=3->CR.mk (V.bool false) z0 3 []=CR.mk (i6 ↑(Ao p)) z0 3 [])],decide ((↑(Ao p):Int)>z2)=true,wr .u64 ((p:Int)+1)=z1,Bn [z2=z2,Zz,Bn [Zz,s=s],z3=z3,Zz,Sm (fiB b),Sm (v:Int),z1=z1],An [Sm [sl jj,gC cs],TT 2],An [Sm (bF B s),HfL (bF B s)],An [Sm (arF (Cc b)),TT 18]])
  ·have hno : okT lim s v p = false := by unfold okT; rw [decide_eq_false (fun h => hz0 (hz.2 h))]; rfl
   rw[hno]at hnx
   refine .inl ⟨(p+1,b),[0,1,2],[yes 31,fn 35 (.bool true),va 41 (u6 (z:Nat)),yes 42,nu 38 ((p+1:Nat):Int)],1000,⟨by omega,hnx⟩,by dsimp only;omega,?_⟩
   clear hnx hno hGk hGb hq hb1 hz H
   exact v_ (p:=Bn [decide ((p:Int)<=(s:Int))=true,TT 2,Ac Pg g0 21 [u6 s,i6 v] (V.bool true),Tt,Ai (Qac Pg) .andNot 72 (u6 p) (u6 s)=some (u6 z),((z:Int) != 0)=true,wr .u64 ((p:Int)+1)=(↑(p+1):Int),Bn [Sm (lim:Int),Zz,Bn [Zz,s=s],Sm (s:Int),Zz,Sm (fiB b),Sm (v:Int),Sm (↑(p+1):Int)],An [Sm [sl jj,gC cs],TT 2],An [Sm (bF B s),HfL (bF B s)],An [Sm (arF (Cc b)),TT 18]])
 ·have : p = s + 1 := by omega
  subst this
  obtain rfl:b=b1:=hq.symm.trans hb1
  refine .inr ⟨.exit 4,[0,1,2],tp2 jj cs B lim s v b,[no 31],1000,.inl ⟨trivial,rfl,rfl⟩,?_⟩
  clear hGk hGb hq hb1 H
  exact v_ (p:=Bn [decide ((↑(s+1):Int)<=(s:Int))=false,Bn [Sm (lim:Int),Zz,Bn [Zz,s=s],Sm (s:Int),Zz,Sm (fiB b),Sm (v:Int)],An [Sm [sl jj,gC cs],TT 2],An [Sm (bF B s),HfL (bF B s)],An [Sm (arF (Cc b)),TT 18]])
theorem tp_var(jj:List Int)(cs:List (List Int))(F:Nat->Nat->Nat->Int)(B:Nat->Nat->Int)(lim s:Nat)(hs:s<32)(h5:jj.length<=5)(H: ∀v,v<jj.length->s.testBit v=true->Qj8 jj cs F lim s v B)(b1:BSt)(hb1:B3 lim F B s jj.length=b1):
  Sat Pg none 0 (at' 11 [1,1,0,1,0,0,1,0,0,1,1,0,1,0]) (Ah g0 79 (tp2 jj cs B lim s 0 none)) (Qaf g0 79 [(True,.exit 2,{sl:=[(1,i6 (lim:Nat)),(2,.ptr 0 0),(5,.sl 1 0 s none),(6,u6 (s:Nat)),(7,.ptr 2 0)],os:=tpO jj cs B s b1})]):=by
 have hg:=Qap cs
 have hc:=Qag jj
 have hB:=Qab B s
 have hGo: ∀k,k<=jj.length->Ck (B3 lim F B s k):=by
  intro k
  induction k with
  |zero=>intro _;exact Qht
  | succ k ih =>
   intro hk
   rw[B3]
   split
   ·rename_i hb
    exact Qcq (H k o_ hb).bd (ih o_) _
   ·exact ih o_
 refine Qax vE_ok Af Qaa (b:=at' 11 [1,1,0,1,0,0,1,0,0,1,1,0,1,0,0]) k_ (fun q:Nat×BSt=>q.1<=jj.length/\B3 lim F B s q.1=q.2) (fun q=>tp2 jj cs B lim s q.1 q.2) (fun q=>jj.length-q.1) (fun q hq=>?_) (0,none) ⟨Nat.zero_le _,rfl⟩
 obtain⟨v,b⟩:=q
 obtain⟨hv,hq⟩:=hq
 dsimp only at hv hq
 have hHb:=By (Cc b)
 by_cases hlt:v<jj.length
 ·have hin := F1 s v o_
  cases hb:s.testBit v with
  |true=>
   have l:=tp_in jj cs F B lim s v hs o_ hb (H v hlt hb) b (by rw[<-hq];exact hGo v hv) _ rfl
   have hnx:B3 lim F B s (v+1)=Bu lim F B s v b (s+1):=by rw[B3,hb,if_pos rfl,hq]
   have hHb2:=By (Cc (Bu lim F B s v b (s+1)))
   generalize Bu lim F B s v b (s+1)=b2 at*
   refine .inl ⟨(v+1,b2),[0,1,2],[yes 26,(0,.loop [0,1,2] (tp3 jj cs B lim s v 0 b) [(True,.exit 4,tp2 jj cs B lim s v b2)]),nu 28 ((v+1:Nat):Int)],1000,⟨by omega,hnx⟩,by dsimp only;omega,?_⟩
   clear hnx hq hGo H hb1 hin
   exact v_ (p:=let z0:=An [Sm [sl jj,gC cs],TT 2];let z1:=An [Sm (bF B s),HfL (bF B s)];let z2:=(v:Int);Bn [decide (z2<(jj.length:Int))=true,Bn [Bn [Sm (lim:Int),Zz,Bn [Zz,s=s],Sm (s:Int),Zz,Sm (fiB b),Sm z2,((0:Nat):Int)=(0:Int)],z0,z1,An [Sm (arF (Cc b)),TT 18]],Sat Pg none 0 (at' 11 [1,1,0,1,0,0,1,0,0,1,1,0,1,0,0,1,0,0,1,0]) (Ah g0 79 (tp3 jj cs B lim s v 0 b)) (Qaf g0 79 [(True,Ex.exit 4,tp2 jj cs B lim s v b2)]),(True->Bn [wr .i64 (z2+1)=(↑(v+1):Int),Bn [Sm (lim:Int),Zz,Bn [Zz,s=s],Sm (s:Int),Zz,Sm (fiB b2),Sm (↑(v+1):Int)],z0,z1,An [Sm (arF (Cc b2)),TT 18]])])
  |false=>
   rw[hb]at hin
   have hnx:B3 lim F B s (v+1)=b:=by rw[B3,hb,if_neg d_,hq]
   refine .inl ⟨(v+1,b),[0,1,2],[yes 26,(0,.unroll 1),yes 31,fn 35 (.bool false),nu 28 ((v+1:Nat):Int)],1000,⟨by omega,hnx⟩,by dsimp only;omega,?_⟩
   clear hnx hq hGo H hb1
   exact v_ (p:=Bn [decide ((v:Int)<(jj.length:Int))=true,decide ((0:Int)<=(s:Int))=true,TT 2,Ac Pg g0 21 [u6 s,i6 v] (V.bool false),Tt,wr .i64 ((v:Int)+1)=(↑(v+1):Int),Bn [Sm (lim:Int),Zz,Bn [Zz,s=s],Sm (s:Int),Zz,Sm (fiB b),Sm (↑(v+1):Int)],An [Sm [sl jj,gC cs],TT 2],An [Sm (bF B s),HfL (bF B s)],An [Sm (arF (Cc b)),TT 18]])
 ·have : v = jj.length := by omega
  subst this
  obtain rfl:b=b1:=hq.symm.trans hb1
  refine .inr ⟨.exit 2,[0,1,2],{sl:=[(1,i6 (lim:Nat)),(2,.ptr 0 0),(5,.sl 1 0 s none),(6,u6 (s:Nat)),(7,.ptr 2 0)],os:=tpO jj cs B s b},[no 26],1000,.inl ⟨trivial,rfl,rfl⟩,?_⟩
  clear hq hGo H hb1
  exact v_ (p:=let z0:=(jj.length:Int);Bn [decide (z0<z0)=false,Bn [Sm (lim:Int),Zz,Bn [Zz,s=s],Sm (s:Int),Zz],An [Sm [sl jj,gC cs],TT 2],An [Sm (bF B s),HfL (bF B s)],An [Sm (arF (Cc b)),TT 18]])
abbrev t1O(jj:List Int)(cs:List (List Int))(b:BSt):List O:=[gO jj cs,.row 37 none (arF Qah),.row 37 none (arF (Cc b))]
abbrev t1S(jj:List Int)(cs:List (List Int))(lim v:Nat)(b:BSt):SL:={sl:=[(1,i6 (lim:Nat)),(2,.ptr 0 0),(5,.sl 1 0 1 (some 0)),(6,u6 1),(7,.ptr 2 0),(8,.bool (fiB b)),(9,i6 (v:Nat))],os:=t1O jj cs b}
abbrev t1X(jj:List Int)(cs:List (List Int))(lim:Nat)(b:BSt):SL:={sl:=[(1,i6 (lim:Nat)),(2,.ptr 0 0),(5,.sl 1 0 1 (some 0)),(6,u6 1),(7,.ptr 2 0)],os:=t1O jj cs b}
theorem Qqs(v:Nat)(h:1<=v):Nat.testBit 1 v=false:=Nat.testBit_lt_two_pow (Nat.one_lt_two_pow o_)
theorem Qsw(lim:Nat)(F:Nat->Nat->Nat->Int)(B:Nat->Nat->Int): ∀k,B3 lim F B 1 (k+1)=some (0,0,Av F B 1 0 0)
 |0=>by
  have h0:okT lim 1 0 0=true:=Qb5.2 ⟨rfl,rfl,Nat.zero_le _⟩
  have h1:okT lim 1 0 1=false:=by unfold okT;simp
  simp only[B3,Bu,h0,h1,if_true]
  simp[upT]
 |k+1=>by rw[B3,Qqs (k+1) o_,if_neg d_];exact Qsw lim F B k
theorem tp_one(jj:List Int)(cs:List (List Int))(F:Nat->Nat->Nat->Int)(lim:Nat)(h1:1<=jj.length)(h5:jj.length<=5)(H:Qj8 jj cs F lim 1 0 (fun _=>Qah))(x:Nat->Int)(hx:Av F (fun _=>Qah) 1 0 0=x):
  Sat Pg none 0 (at' 11 [1,1,0,1,0,0,1,0,0,1,1,0,1,0]) (Ah g0 79 (t1S jj cs lim 0 none)) (Qaf g0 79 [(True,.exit 2,t1X jj cs lim (some (0,0,x)))]):=by
 have hg:=Qap cs
 have hc:=Qag jj
 have hHx:=By x
 have hz:=By Qah
 have hfam:=H.fam 0 (Qb5.2 ⟨rfl,rfl,Nat.zero_le _⟩)
 have xz:=H.add 0
 rw[hx]at xz
 clear H hx
 generalize F 0 0=f at*
 have i1:=F1 1 0 d_
 have i2:=F1 0 0 d_
 have z0:=Qtl 0 d_
 refine Qax vE_ok Af Qaa (b:=at' 11 [1,1,0,1,0,0,1,0,0,1,1,0,1,0,0]) k_ (fun v=>v<=jj.length) (fun v=>match v with|0=>t1S jj cs lim 0 none|v+1=>t1S jj cs lim (v+1) (some (0,0,x))) (fun v=>jj.length-v) (fun v hv=>?_) 0 (Nat.zero_le _)
 cases v with
 |zero=>
  refine .inl ⟨0+1,[0,1,2],[yes 26,(0,.unroll 4),fn 35 (.bool true),fn 46 (.bool false),fn 50 (i6 ((0:Nat):Int)),no 52,fn 64 (ar f),pl 59,ld 60 (ar Qah),fn 65 (ar x),fn 35 (.bool true),fn 46 (.bool true),nu 28 ((0+1:Nat):Int)],1000,by omega,by omega,?_⟩
  exact v_ (p:=let z1:=Ae T.e 0 (t1O jj cs none);let z2:=i6 ↑(0:Nat);let z3:=IntKind.bits IntKind.u64;let z4:=arF Qah;let z5:=((0:Nat):Int);let z6:=(1:Int);let z7:=[sl jj,gC cs];let z8:=V.bool true;let z9:=(lim:Int);let y0:=(↑(1):Int);let z0:=IntKind.wrap IntKind.u64 (↑(BitVec.toNat (BitVec.ofInt z3 z6&&& ~~~BitVec.ofInt z3 (wr .u64 (z6*(↑(2^min 0 z3):Int))))):Int);Bn [decide (z5<(jj.length:Int))=true,TT 2,Ac Pg g0 21 [u6 1,z2] z8,Tt,TT 2,Ac Pg g0 21 [u6 0,z2] (V.bool false),Tt,Bn [Tt],Ac Pg g0 22 [u6 0] z2,Bn [(V.fn 21 []=V.fn 22 []->[u6 0,z2]=[u6 0]->z1=z1->3=3->CR.mk (V.bool false) z1 3 []=CR.mk z2 z1 3 [])],decide (z5>z9)=false,An [TT 2,TT 2],Ac Pg g0 24 [V.agg [V.im jj.length (Ab jj),V.im cs.length (List.map sl cs)],z2,u6 0] (ar f),Tt,An [(0:Int)<=z0,z0<((1:Nat):Int)],A6 18 (Aj (0+Int.toNat z0*18) z4)=some z4,Bn [TT 18,TT 18],Ac Pg g0 23 [V.agg z4,V.agg (arF f)] (ar x),Bn [(V.fn 24 []=V.fn 23 []->[V.agg z7,z2,u6 0]=[V.agg z4,ar f]->z1=z1->3=3->CR.mk (ar f) z1 3 []=CR.mk (ar x) z1 3 [])],TT 2,Ac Pg g0 21 [u6 1,z2] z8,Tt,TT 2,Ac Pg g0 21 [u6 (wr .u64 ((0:Int)+z6)),z2] z8,Tt,wr .i64 (z5+z6)=y0,Bn [z9=z9,Zz,An [Zz,1=1,Zz],z6=z6,Zz,fiB (some (0,0,x))=false,y0=y0],An [z7=z7,TT 2],An [z4=z4,TT 18],An [arF (Cc (some (0,0,x)))=arF x,TT 18]])
 | succ v =>
  by_cases hlt:v+1<jj.length
  ·have hin := F1 1 (v + 1) o_
   rw[Qqs (v+1) o_]at hin
   refine .inl ⟨v+1+1,[0,1,2],[yes 26,(0,.unroll 1),fn 35 (.bool false),nu 28 ((v+1+1:Nat):Int)],1000,by omega,by omega,?_⟩
   exact v_ (p:=let z0:=some (0,0,x);let z1:=(↑(v+1+1):Int);Bn [decide ((↑(v+1):Int)<(jj.length:Int))=true,TT 2,Ac Pg g0 21 [u6 1,i6 ↑(v+1)] (V.bool false),Tt,wr .i64 ((↑(v+1):Int)+1)=z1,Bn [Sm (lim:Int),Zz,An [Zz,1=1,Zz],Sm (1:Int),Zz,Sm (fiB z0),(↑(Nat.succ v+1):Int)=z1],An [Sm [sl jj,gC cs],TT 2],An [Sm (arF Qah),TT 18],An [Sm (arF (Cc z0)),TT 18]])
  ·refine .inr ⟨.exit 2, [0, 1, 2], t1X jj cs lim (some (0, 0, x)), [no 26], 1000, .inl ⟨trivial, rfl, rfl⟩, ?_⟩
   exact v_ (p:=Bn [decide ((↑(v+1):Int)<(jj.length:Int))=false,Bn [Sm (lim:Int),Zz,An [Zz,1=1,Zz],Sm (1:Int),Zz],An [Sm [sl jj,gC cs],TT 2],An [Sm (arF Qah),TT 18],An [Sm (arF (Cc (some (0,0,x)))),TT 18]])
set_option maxHeartbeats 4000000
set_option maxRecDepth 100000
theorem Qkj(L:List Int)(P:List Nat)(jj:List Int)(cs:List (List Int))(F:Nat->Nat->Nat->Int)(size:Nat)(q:Nat->Nat×Nat)(B:Nat->Nat->Int)(la pa:Nat->Nat)(k lim:Nat)
  (h:Aa Pg g0 (.fn 19 []) [gV jj cs,i6 (lim:Int)] (Ae .e 0 []) 0 ⟨cbV size,Ae .e 0 (cbO jj cs F size q B la pa k),6,[]⟩):
  Aa Pg g0 (.fn 19 []) [gV jj cs,i6 (lim:Int)] (Ae .e 0 [gO jj cs,lO L P]) 2 ⟨cbW size,Ae .e 0 ([gO jj cs,lO L P]++cbD jj cs F size q B la pa k),8,[]⟩:=by
 have hB:=Qab B size
 have hla:=Qai la size
 have hpa:=Qaj pa size
 have hE:=Qae q (k+1)
 have hS:=Qab (scF F q) (k+1)
 have hg:=Qap cs
 have hc:=Qag jj
 have hlo:=Qag L
 have hu:=Qas P
 refine Aa.frameL (OS:=[gO jj cs,_]) (OS':=[gO jj cs,_]++cbD jj cs F size q B la pa k) [] [(2,0),(3,1),(4,2),(5,3),(6,4),(7,5)] [] [0,0,0,0,1] h k_ ?_ ?_ ?_ ?_
 ·refine Eq.mp (by kernel_rfl : (An [An [An [Sm jj.length, Sm (Ab jj)], An [Sm cs.length, Sm (List.map sl cs)], Tt], Sm (↑lim : Int), Tt]) = _) ?_
  exact a_
 ·refine Eq.mp (by kernel_rfl : (Tt) = _) ?_
  exact a_
 ·refine Eq.mp (by kernel_rfl : (let z0 := An [Zz, Sm size, Sm (size - size)]; An [Zz, An [z0, z0, Tt], Sm (0 : Int), Tt]) = _) ?_
  exact a_
 ·refine Eq.mp (by kernel_rfl : (let z1 := bF (scF F q) (k + 1); let z2 := Ak q (k + 1); let z3 := gO jj cs; let z0 := [z3, lO L P]; An [z0[0]? = some z3, z0[0]? = some z3, z0[1]? = some (lO L P), z0[1]? = some (lO L P), Tt, An [Sm (bF B size), HfL (bF B size)], Tt, An [z2 = z2, HfE z2, Sm (k + 1)], Tt, An [An [Sm jj.length, Sm (Ab jj)], An [Sm cs.length, Sm (List.map sl cs)], An [Zz, Sm size, Sm (size - size)], Tt, An [Zz, Sm (k + 1), Tt], Tt], Tt, An [Sm (nF la size), HfL (nF la size)], Tt, An [Sm (uF pa size), HfL (uF pa size)], Tt, An [z1 = z1, HfL z1], Tt]) = _) ?_
  exact a_
section
variable (L:List Int) (P:List Nat) (jj:List Int) (cs:List (List Int)) (F:Nat->Nat->Nat->Int) (B:Nat->Nat->Int) (size:Nat) (q:Nat->Nat×Nat) (k:Nat)
abbrev rtO:List O:=[lO L P,.row 37 none (bF B size),.map (Ak q (k+1)) (k+1),.row 70 none (toC jj cs size 1 2 4 (k+1)),.row 37 (some 18) (bF (scF F q) (k+1))]
abbrev rtO2:List O:=[lO L P,.row 37 none (bF B size),.map (Ak q (k+1)) (k+1),.row 70 none (toC jj cs size 1 2 5 (k+1)),.dead,.row 37 (some 18) (bF (scF F q) (k+1))]
end
theorem rt_hit(L:List Int)(P:List Nat)(jj:List Int)(cs:List (List Int))(F:Nat->Nat->Nat->Int)(B:Nat->Nat->Int)(size:Nat)(q:Nat->Nat×Nat)(k s v p:Nat)(x:Nat->Int)
  (h:Aa Pg g0 (.fn 33 []) [.ptr 2 0,i6 (s:Nat),i6 (v:Nat),u6 (p:Nat)] (Ae .e 0 (Br jj cs F B size q k)) 4 ⟨.tup [ar x,i6 0],Ae .e 0 (Br jj cs F B size q k),4,[]⟩):
  Aa Pg g0 (.fn 33 []) [.ptr 3 0,i6 (s:Nat),i6 (v:Nat),u6 (p:Nat)] (Ae .e 0 (rtO L P jj cs F B size q k)) 5 ⟨.tup [ar x,i6 0],Ae .e 0 (rtO L P jj cs F B size q k),5,[]⟩:=by
 have hB:=Qab B size
 have hE:=Qae q (k+1)
 have hS:=Qab (scF F q) (k+1)
 have hg:=Qap cs
 have hc:=Qag jj
 have hlo:=Qag L
 have hu:=Qas P
 exact Aa.frameL (OS:=rtO L P jj cs F B size q k) (OS':=rtO L P jj cs F B size q k) [1,2,3,4] [(1,0),(2,1),(3,2),(4,3)] [0,0,1] [0,0,0,1] h k_ (by
  refine m_ (p:=Bn [Zz,Sm (s:Int),Sm (v:Int),Sm (p:Int)]) ?_
  (repeat'(first|(with_reducible apply And.intro)|(refine fun(_:True)=>?_)))<;>first|exact aq|skip) (by
  refine m_ (p:=let z0:=bF (scF F q) (k+1);let z1:=Ak q (k+1);Bn [An [Sm (bF B size),HfL (bF B size)],An [z1=z1,HfE z1,Sm (k+1)],Bn [An [Sm jj.length,Sm (Ab jj)],An [Sm cs.length,Sm (List.map sl cs)],An [Zz,Sm size,Sm (size-size)],Tt,Bn [Zz,Sm (k+1)]],An [z0=z0,HfL z0]]) ?_
  (repeat'(first|(with_reducible apply And.intro)|(refine fun(_:True)=>?_)))
  all_goals first|exact aq|exact hB|exact hS|exact hE|exact hg|exact hc|exact hlo|exact hu|rfl|skip) (by
  refine m_ (p:=Bn [Bn [x 0=x 0,x 1=x 1,x 2=x 2,x 3=x 3,x 4=x 4,x 5=x 5,x 6=x 6,x 7=x 7,x 8=x 8,x 9=x 9,Sm (x 10),Sm (x 11),Sm (x 12),Sm (x 13),Sm (x 14),Sm (x 15),Sm (x 16),Sm (x 17)],Sm (0:Int)]) ?_
  (repeat'(first|(with_reducible apply And.intro)|(refine fun(_:True)=>?_)))<;>first|exact aq|skip) (by
  refine m_ (p:=let z0:=rtO L P jj cs F B size q k;let z1:=bF (scF F q) (k+1);let z2:=Ak q (k+1);let z3:=bF B size;Bn [z0[0]? =some (lO L P),z0[0]? =some (lO L P),z0[1]? =some (O.row 37 none z3),An [z3=z3,HfL z3],z0[2]? =some (O.map z2 (k+1)),An [z2=z2,HfE z2,Sm (k+1)],z0[3]? =some (O.row 70 none (toC jj cs size 1 2 4 (k+1))),Bn [An [Sm jj.length,Sm (Ab jj)],An [Sm cs.length,Sm (List.map sl cs)],An [Zz,Sm size,Sm (size-size)],Tt,Bn [Zz,Sm (k+1)]],z0[4]? =some (O.row 37 (some 18) z1),An [z1=z1,HfL z1]]) ?_
  (repeat'(first|(with_reducible apply And.intro)|(refine fun(_:True)=>?_)))
  all_goals first|exact aq|exact hB|exact hS|exact hE|exact hg|exact hc|exact hlo|exact hu|rfl|skip)
theorem rt_miss(L:List Int)(P:List Nat)(jj:List Int)(cs:List (List Int))(F:Nat->Nat->Nat->Int)(B:Nat->Nat->Int)(size:Nat)(q q':Nat->Nat×Nat)(k s v p:Nat)(x:Nat->Int)
  (h:Aa Pg g0 (.fn 33 []) [.ptr 2 0,i6 (s:Nat),i6 (v:Nat),u6 (p:Nat)] (Ae .e 0 (Br jj cs F B size q k)) 4 ⟨.tup [ar x,i6 0],Ae .e 0 (Fe jj cs F B size q' (k+1)),5,[1,2,3]⟩):
  Aa Pg g0 (.fn 33 []) [.ptr 3 0,i6 (s:Nat),i6 (v:Nat),u6 (p:Nat)] (Ae .e 0 (rtO L P jj cs F B size q k)) 5 ⟨.tup [ar x,i6 0],Ae .e 0 (rtO2 L P jj cs F B size q' (k+1)),6,[2,3,4]⟩:=by
 have hB:=Qab B size
 have hE:=Qae q (k+1)
 have hS:=Qab (scF F q) (k+1)
 have hE2:=Qae q' (k+1+1)
 have hS2:=Qab (scF F q') (k+1+1)
 have hg:=Qap cs
 have hc:=Qag jj
 have hlo:=Qag L
 have hu:=Qas P
 exact Aa.frameL (OS:=rtO L P jj cs F B size q k) (OS':=rtO2 L P jj cs F B size q' (k+1)) [1,2,3,4] [(1,0),(2,1),(3,2),(4,3),(5,4)] [0,0,1] [0,0,0,1] h k_ (by
  refine m_ (p:=Bn [Zz,Sm (s:Int),Sm (v:Int),Sm (p:Int)]) ?_
  (repeat'(first|(with_reducible apply And.intro)|(refine fun(_:True)=>?_)))<;>first|exact aq|skip) (by
  refine m_ (p:=let z0:=bF (scF F q) (k+1);let z1:=Ak q (k+1);Bn [An [Sm (bF B size),HfL (bF B size)],An [z1=z1,HfE z1,Sm (k+1)],Bn [An [Sm jj.length,Sm (Ab jj)],An [Sm cs.length,Sm (List.map sl cs)],An [Zz,Sm size,Sm (size-size)],Tt,Bn [Zz,Sm (k+1)]],An [z0=z0,HfL z0]]) ?_
  (repeat'(first|(with_reducible apply And.intro)|(refine fun(_:True)=>?_)))
  all_goals first|exact aq|exact hB|exact hS|exact hE|exact hS2|exact hE2|exact hg|exact hc|exact hlo|exact hu|rfl|skip) (by
  refine m_ (p:=Bn [Bn [x 0=x 0,x 1=x 1,x 2=x 2,x 3=x 3,x 4=x 4,x 5=x 5,x 6=x 6,x 7=x 7,x 8=x 8,x 9=x 9,Sm (x 10),Sm (x 11),Sm (x 12),Sm (x 13),Sm (x 14),Sm (x 15),Sm (x 16),Sm (x 17)],Sm (0:Int)]) ?_
  (repeat'(first|(with_reducible apply And.intro)|(refine fun(_:True)=>?_)))<;>first|exact aq|skip) (by
  refine m_ (p:=let z0:=rtO L P jj cs F B size q k;let z1:=bF (scF F q') (k+1+1);let z2:=Ak q' (k+1+1);let z3:=bF B size;Bn [z0[0]? =some (lO L P),z0[0]? =some (lO L P),z0[1]? =some (O.row 37 none z3),An [z3=z3,HfL z3],Tt,An [z2=z2,HfE z2,Sm (k+1+1)],Tt,Bn [An [Sm jj.length,Sm (Ab jj)],An [Sm cs.length,Sm (List.map sl cs)],An [Zz,Sm size,Sm (size-size)],Tt,Bn [Zz,Sm (Nat.succ k+1)]],Tt,Tt,Tt,An [z1=z1,HfL z1]]) ?_
  (repeat'(first|(with_reducible apply And.intro)|(refine fun(_:True)=>?_)))
  all_goals first|exact aq|exact hB|exact hS|exact hE|exact hS2|exact hE2|exact hg|exact hc|exact hlo|exact hu|rfl|skip)
section
variable (L:List Int) (P:List Nat) (jj:List Int) (cs:List (List Int)) (F:Nat->Nat->Nat->Int) (B:Nat->Nat->Int) (size lim:Nat)
abbrev rrS(x:Nat×(Nat->Nat×Nat)×Nat):SL:={sl:=[(1,i6 (lim:Nat)),(5,.ptr 0 0),(8,.ptr 3 0),(37,i6 (size:Nat)),(38,i6 (x.1:Nat))],os:=rtO L P jj cs F B size x.2.1 x.2.2,md:=[0,0,0,1]}
end
abbrev rtR(b:Bool):SL:={sl:=[(6,.bool b),(7,i6 0)]}
def D9(lim:Nat)(F:Nat->Nat->Nat->Int)(B:Nat->Nat->Int)(L:List Int)(P:List Nat)(s:Nat):Bool:=decide (Ao (P.getD s 0)<=lim)&&eqA (Aq (B (s-2^laL L s)) (F (laL L s) (paL P s)) 1) (B s)
structure AskOk(jj:List Int)(cs:List (List Int))(F:Nat->Nat->Nat->Int)(B:Nat->Nat->Int)(s v p:Nat):Prop where
 add:Ac Pg g0 50 [ar (B (s-2^v)),ar (F v p)] (.tup [ar (Aq (B (s-2^v)) (F v p) 1),i6 0])
 fam:Ac Pg g0 60 [gV jj cs,i6 (v:Nat),u6 (p:Nat)] (.tup [ar (F v p),i6 0])
theorem rt_loop(L:List Int)(P:List Nat)(hP:S64 P)(jj:List Int)(cs:List (List Int))(F:Nat->Nat->Nat->Int)(B:Nat->Nat->Int)(n size lim:Nat)(hsz:size=2^n)(h:LdOk L P n)
  (xj: ∀s,0<s->s<size->Ao (paL P s)<=lim->AskOk jj cs F B s (laL L s) (paL P s))(q0:Nat->Nat×Nat)(k0:Nat)(hk0:k0<=100000)(b:Bool)(hb:b=(List.range size).all (fun s=>decide (s=0)||D9 lim F B L P s)):
  Sat Pg none 0 (at' 18 [1,1,1,1,0,1,0]) (Ah g0 80 (rrS L P jj cs F B size lim (0,q0,k0))) (Qaf g0 80 [(b=true,.exit 0,{sl:=[]}),(b=false,.ret,rtR false)]):=by
 have hB:=Qab B size
 have hEE:=fun q k=>Qae q k
 have hSS:=fun q k=>Qab (scF F q) k
 have hg:=Qap cs
 have hc:=Qag jj
 have hlo:=Qag L
 have hu:=Qas P
 have h5:=h.w5
 have h32:size<=32:=by rw[hsz];exact Qa1 h5
 have e1:=h.lenL
 have e2:=h.lenP
 rw[<-hsz]at e1 e2
 refine Qax vE_ok Af Qaa (b:=at' 18 [1,1,1,1,0,1,0,0]) k_ (fun x=>x.1<=size/\x.2.2<=100000+x.1/\∀j,j<x.1->(decide (j=0)||D9 lim F B L P j)=true) (rrS L P jj cs F B size lim) (fun x=>size-x.1) (fun x hx=>?_) (0,q0,k0) ⟨Nat.zero_le _,by dsimp only;omega,fun j hj=>absurd hj (Nat.not_lt_zero _)⟩
 obtain⟨s,q,k⟩:=x
 obtain⟨hs,hk,hj⟩:=hx
 dsimp only at hs hk hj
 have hE:=Qae q (k+1)
 have hS:=Qab (scF F q) (k+1)
 by_cases hlt:s<size
 ·by_cases h0 : s = 0
  ·refine .inl ⟨(s + 1, q, k), [0, 1, 2, 3, 4], [yes 39, yes 42, nu 79 ((s + 1 : Nat) : Int)], 1000, ⟨hlt, by dsimp only; omega, fun j hj2 => by rw [decide_eq_true (show j = 0 by dsimp only at hj2; omega)]; rfl⟩, by dsimp only; omega, ?_⟩
   clear hj hb xj
   have hs0:((s:Int)==0)=true:=by rw[beq_iff_eq];omega
   exact v_ (p:=let z0:=bF (scF F q) (k+1);let z1:=(↑(s+1):Int);let z2:=(size:Int);let z3:=Ak q (k+1);let z4:=(s:Int);Bn [decide (z4<z2)=true,(z4==0)=true,wr .i64 (z4+1)=z1,Bn [Sm (lim:Int),Zz,Zz,z2=z2,z1=z1],An [Sm [sl L,ul P],TT 2],An [Sm (bF B size),HfL (bF B size)],An [z3=z3,HfE z3,Sm (k+1)],Bn [An [Sm jj.length,Sm (Ab jj)],An [Sm cs.length,Sm (List.map sl cs)],An [Zz,Sm size,Sm (size-size)],Tt,Bn [Zz,Sm (k+1)]],An [z0=z0,HfL z0]])
  ·have hs0 : ((s : Int) == 0) = false := by rw [beq_eq_false_iff_ne]; omega
   obtain⟨a1,a2,a3⟩:=h.ok.at_ s o_ o_
   have hld:=@Qal L s o_
   rw[h.nn s o_ o_]at hld
   have hlp:=@Qed P s o_
   have hpp:P.getD s 0<32:=by
    rw[show P.getD s 0=paL P s from rfl,<-a3]
    exact Nat.lt_of_le_of_lt Nat.and_le_right (by have:=Nat.sub_le s (2^laL L s);omega)
   have hone:=Qmo (P.getD s 0) hpp
   have jw:D9 lim F B L P s=false->b=false:=fun hh=>by
    rw[hb];exact Qbb hlt (by rw[hh,decide_eq_false h0];rfl)
   have jv:D9 lim F B L P s=true->∀j,j<s+1->(decide (j=0)||D9 lim F B L P j)=true:=fun hh j hj1=>by
    rcases Nat.lt_succ_iff_lt_or_eq.1 hj1 with h2|h2
    ·exact hj j h2
    ·subst h2;rw[hh,Bool.or_true]
   have xj:=xj s o_ hlt
   have hpow:2^laL L s<=s:=(Qes s o_ _ o_ a2).1
   have s3:=fun G t=>@Qlq G t (laL L s) o_
   have s4:=fun G t=>@Qqn G t s (laL L s) o_ o_ a2
   have htk:=@Qa9 B size s hlt
   unfold D9 at jw jv
   unfold paL at xj jw jv
   by_cases hpc:Ao (P.getD s 0)<=lim
   ·obtain ⟨xz, hfam⟩ := xj hpc
    rw[decide_eq_true hpc,Bool.true_and]at jw jv
    clear hj hb
    generalize hv:laL L s=v at*
    generalize hpd:P.getD s 0=p at*
    clear hpd hv
    generalize hx:Aq (B (s-2^v)) (F v p) 1=x at*
    have ht:s-2^v<size:=Nat.lt_of_le_of_lt (Nat.sub_le _ _) hlt
    generalize s-2^v=t at*
    generalize 2^v=bt at*
    have hpc':(lim:Int)<(Ao p:Nat)↔False:=⟨fun hh=>by omega,False.elim⟩
    rcases Dh q v p (k+1)with⟨j,hj1,hj2,hf⟩|⟨_,hf⟩
    ·have hcall := rt_hit L P jj cs F B size q k s v p x (Qom jj cs F B size q k s t v p bt j x hj1 hj2 hf ht s3 s4 xz)
     clear hf hfam xz
     cases hEq:eqA x (B s)with
     |true=>
      have hg2:=jv hEq
      have hEqn:(!eqA x (B s))=false:=by rw[hEq];rfl
      unfold eqA at hEqn
      refine .inl ⟨(s+1,q,k),[0,1,2,3,4],[yes 39,no 42,pl 46,ld 47 (u6 (p:Nat)),fn 48 (i6 (Ao p:Nat)),no 50,pl 57,ld 58 (i6 (v:Nat)),pl 62,ld 63 (u6 (p:Nat)),(64,.call ⟨.tup [ar x,i6 0],Ae .e 0 (rtO L P jj cs F B size q k),5,[]⟩),pl 76,ld 77 (ar (B s)),no 78,nu 79 ((s+1:Nat):Int)],1000,⟨hlt,by dsimp only;omega,hg2⟩,by dsimp only;omega,?_⟩
      clear jv jw hg2 xj hx
      exact v_ (p:=let z0:=(s:Int);let z1:=Ae T.e 0 (rtO L P jj cs F B size q k);let z2:=(size:Int);let z3:=bF (scF F q) (k+1);let z4:=(↑(s+1):Int);let z5:=Ad (List.drop (s*1) (ut P));let z6:=(0:Int);let z7:=Ak q (k+1);let z8:=bF B size;let z9:=(lim:Int);Bn [decide (z0<z2)=true,(z0==z6)=false,An [z6<=z0,z0<(P.length:Int)],z5=some (u6 p),Bn [Tt],Ac Pg g0 32 [u6 p] (i6 ↑(Ao p)),Tt,decide ((↑(Ao p):Int)>z9)=false,An [z6<=z0,z0<(L.length:Int)],Ad (List.drop (s*1) (Ab L))=some (i6 v),An [z6<=z0,z0<(P.length:Int)],z5=some (u6 p),Aa Pg g0 (V.fn 33 []) [V.ptr 3 0,i6 s,i6 v,u6 p] z1 5 (CR.mk (V.tup [ar x,i6 0]) z1 5 []),Tt,An [z6<=z0,z0<z2],A6 18 (Aj (0+s*18) z8)=some (arF (B s)),(!(x 0==B s 0&&(x 1==B s 1&&(x 2==B s 2&&(x 3==B s 3&&(x 4==B s 4&&(x 5==B s 5&&(x 6==B s 6&&(x 7==B s 7&&(x 8==B s 8&&(x 9==B s 9&&(x 10==B s 10&&(x 11==B s 11&&(x 12==B s 12&&(x 13==B s 13&&(x 14==B s 14&&(x 15==B s 15&&(x 16==B s 16&&(x 17==B s 17&&true)))))))))))))))))))=false,wr .i64 (z0+1)=z4,Bn [z9=z9,Zz,Zz,z2=z2,z4=z4],An [Sm [sl L,ul P],TT 2],An [z8=z8,HfL z8],An [z7=z7,HfE z7,Sm (k+1)],Bn [An [Sm jj.length,Sm (Ab jj)],An [Sm cs.length,Sm (List.map sl cs)],An [Zz,Sm size,Sm (size-size)],Tt,Bn [Zz,Sm (k+1)]],An [z3=z3,HfL z3]])
     |false=>
      have hb2:=jw hEq
      have hEqn:(!eqA x (B s))=true:=by rw[hEq];rfl
      unfold eqA at hEqn
      refine .inr ⟨.ret,[],rtR false,[yes 39,no 42,pl 46,ld 47 (u6 (p:Nat)),fn 48 (i6 (Ao p:Nat)),no 50,pl 57,ld 58 (i6 (v:Nat)),pl 62,ld 63 (u6 (p:Nat)),(64,.call ⟨.tup [ar x,i6 0],Ae .e 0 (rtO L P jj cs F B size q k),5,[]⟩),pl 76,ld 77 (ar (B s)),yes 78],1000,.inr (.inl ⟨hb2,rfl,rfl⟩),?_⟩
      clear jv jw hb2 xj hx
      exact v_ (p:=let z0:=(s:Int);let z1:=Ae T.e 0 (rtO L P jj cs F B size q k);let z2:=(0:Int);let z3:=Ad (List.drop (s*1) (ut P));Bn [decide (z0<(size:Int))=true,(z0==z2)=false,An [z2<=z0,z0<(P.length:Int)],z3=some (u6 p),Bn [Tt],Ac Pg g0 32 [u6 p] (i6 ↑(Ao p)),Tt,decide ((↑(Ao p):Int)>(lim:Int))=false,An [z2<=z0,z0<(L.length:Int)],Ad (List.drop (s*1) (Ab L))=some (i6 v),An [z2<=z0,z0<(P.length:Int)],z3=some (u6 p),Aa Pg g0 (V.fn 33 []) [V.ptr 3 0,i6 s,i6 v,u6 p] z1 5 (CR.mk (V.tup [ar x,i6 0]) z1 5 []),Tt,An [z2<=z0,z0<(size:Int)],A6 18 (Aj (0+s*18) (bF B size))=some (arF (B s)),(!(x 0==B s 0&&(x 1==B s 1&&(x 2==B s 2&&(x 3==B s 3&&(x 4==B s 4&&(x 5==B s 5&&(x 6==B s 6&&(x 7==B s 7&&(x 8==B s 8&&(x 9==B s 9&&(x 10==B s 10&&(x 11==B s 11&&(x 12==B s 12&&(x 13==B s 13&&(x 14==B s 14&&(x 15==B s 15&&(x 16==B s 16&&(x 17==B s 17&&true)))))))))))))))))))=true,Bn [Sm false,z2=z2]])
    ·have hcall := rt_miss L P jj cs F B size q _ k s v p x (Qif jj cs F B size q k s t v p bt x o_ hf hfam ht s3 s4 xz)
     have hE2:=Qae (upQ q (k+1) (v,p)) (k+1+1)
     have hS2:=Qab (scF F (upQ q (k+1) (v,p))) (k+1+1)
     clear hf hfam xz
     cases hEq:eqA x (B s)with
     |true=>
      have hg2:=jv hEq
      have hEqn:(!eqA x (B s))=false:=by rw[hEq];rfl
      unfold eqA at hEqn
      refine .inl ⟨(s+1,upQ q (k+1) (v,p),k+1),[0,1,2,3,5],[yes 39,no 42,pl 46,ld 47 (u6 (p:Nat)),fn 48 (i6 (Ao p:Nat)),no 50,pl 57,ld 58 (i6 (v:Nat)),pl 62,ld 63 (u6 (p:Nat)),(64,.call ⟨.tup [ar x,i6 0],Ae .e 0 (rtO2 L P jj cs F B size (upQ q (k+1) (v,p)) (k+1)),6,[2,3,4]⟩),pl 76,ld 77 (ar (B s)),no 78,nu 79 ((s+1:Nat):Int)],1000,⟨hlt,by dsimp only;omega,hg2⟩,by dsimp only;omega,?_⟩
      clear jv jw hg2 xj hx
      generalize upQ q (k+1) (v,p)=q' at*
      exact v_ (p:=let z0:=(s:Int);let z1:=bF (scF F q') (k+1+1);let z2:=(size:Int);let z3:=Ak q' (k+1+1);let z4:=(↑(s+1):Int);let z5:=Ad (List.drop (s*1) (ut P));let z6:=(0:Int);let z7:=bF B size;let z8:=(lim:Int);Bn [decide (z0<z2)=true,(z0==z6)=false,An [z6<=z0,z0<(P.length:Int)],z5=some (u6 p),Bn [Tt],Ac Pg g0 32 [u6 p] (i6 ↑(Ao p)),Tt,decide ((↑(Ao p):Int)>z8)=false,An [z6<=z0,z0<(L.length:Int)],Ad (List.drop (s*1) (Ab L))=some (i6 v),An [z6<=z0,z0<(P.length:Int)],z5=some (u6 p),Aa Pg g0 (V.fn 33 []) [V.ptr 3 0,i6 s,i6 v,u6 p] (Ae T.e 0 (rtO L P jj cs F B size q k)) 5 (CR.mk (V.tup [ar x,i6 0]) (Ae T.e 0 (rtO2 L P jj cs F B size q' (k+1))) 6 [2,3,4]),Tt,An [z6<=z0,z0<z2],A6 18 (Aj (0+s*18) z7)=some (arF (B s)),(!(x 0==B s 0&&(x 1==B s 1&&(x 2==B s 2&&(x 3==B s 3&&(x 4==B s 4&&(x 5==B s 5&&(x 6==B s 6&&(x 7==B s 7&&(x 8==B s 8&&(x 9==B s 9&&(x 10==B s 10&&(x 11==B s 11&&(x 12==B s 12&&(x 13==B s 13&&(x 14==B s 14&&(x 15==B s 15&&(x 16==B s 16&&(x 17==B s 17&&true)))))))))))))))))))=false,wr .i64 (z0+1)=z4,Bn [z8=z8,Zz,Zz,z2=z2,z4=z4],An [Sm [sl L,ul P],TT 2],An [z7=z7,HfL z7],An [z3=z3,HfE z3,Sm (k+1+1)],Bn [An [Sm jj.length,Sm (Ab jj)],An [Sm cs.length,Sm (List.map sl cs)],An [Zz,Sm size,Sm (size-size)],Tt,Bn [Zz,Sm (Nat.succ k+1)]],An [z1=z1,HfL z1]])
     |false=>
      have hb2:=jw hEq
      have hEqn:(!eqA x (B s))=true:=by rw[hEq];rfl
      unfold eqA at hEqn
      refine .inr ⟨.ret,[],rtR false,[yes 39,no 42,pl 46,ld 47 (u6 (p:Nat)),fn 48 (i6 (Ao p:Nat)),no 50,pl 57,ld 58 (i6 (v:Nat)),pl 62,ld 63 (u6 (p:Nat)),(64,.call ⟨.tup [ar x,i6 0],Ae .e 0 (rtO2 L P jj cs F B size (upQ q (k+1) (v,p)) (k+1)),6,[2,3,4]⟩),pl 76,ld 77 (ar (B s)),yes 78],1000,.inr (.inl ⟨hb2,rfl,rfl⟩),?_⟩
      clear jv jw hb2 xj hx
      generalize upQ q (k+1) (v,p)=q' at*
      exact v_ (p:=let z0:=(s:Int);let z1:=(0:Int);let z2:=Ad (List.drop (s*1) (ut P));Bn [decide (z0<(size:Int))=true,(z0==z1)=false,An [z1<=z0,z0<(P.length:Int)],z2=some (u6 p),Bn [Tt],Ac Pg g0 32 [u6 p] (i6 ↑(Ao p)),Tt,decide ((↑(Ao p):Int)>(lim:Int))=false,An [z1<=z0,z0<(L.length:Int)],Ad (List.drop (s*1) (Ab L))=some (i6 v),An [z1<=z0,z0<(P.length:Int)],z2=some (u6 p),Aa Pg g0 (V.fn 33 []) [V.ptr 3 0,i6 s,i6 v,u6 p] (Ae T.e 0 (rtO L P jj cs F B size q k)) 5 (CR.mk (V.tup [ar x,i6 0]) (Ae T.e 0 (rtO2 L P jj cs F B size q' (k+1))) 6 [2,3,4]),Tt,An [z1<=z0,z0<(size:Int)],A6 18 (Aj (0+s*18) (bF B size))=some (arF (B s)),(!(x 0==B s 0&&(x 1==B s 1&&(x 2==B s 2&&(x 3==B s 3&&(x 4==B s 4&&(x 5==B s 5&&(x 6==B s 6&&(x 7==B s 7&&(x 8==B s 8&&(x 9==B s 9&&(x 10==B s 10&&(x 11==B s 11&&(x 12==B s 12&&(x 13==B s 13&&(x 14==B s 14&&(x 15==B s 15&&(x 16==B s 16&&(x 17==B s 17&&true)))))))))))))))))))=true,Bn [Sm false,z1=z1]])
   ·rw [decide_eq_false hpc, Bool.false_and] at jw
    have hb2:=jw rfl
    clear hj hb xj jv jw
    generalize P.getD s 0=p at*
    refine .inr ⟨.ret,[],rtR false,[yes 39,no 42,pl 46,ld 47 (u6 (p:Nat)),fn 48 (i6 (Ao p:Nat)),yes 50],1000,.inr (.inl ⟨hb2,rfl,rfl⟩),?_⟩
    clear hb2
    exact v_ (p:=let z0:=(s:Int);let z1:=(0:Int);Bn [decide (z0<(size:Int))=true,(z0==z1)=false,An [z1<=z0,z0<(P.length:Int)],Ad (List.drop (s*1) (ut P))=some (u6 p),Bn [Tt],Ac Pg g0 32 [u6 p] (i6 ↑(Ao p)),Tt,decide ((↑(Ao p):Int)>(lim:Int))=true,Bn [Sm false,z1=z1]])
 ·have jf : b = true := by rw [hb]; exact Qam.2 fun j hj1 => hj j o_
  refine .inr ⟨.exit 0,[],{sl:=[]},[no 39],1000,.inl ⟨jf,rfl,rfl⟩,?_⟩
  clear hj jf hb xj
  exact v_ (p:=Bn [decide ((s:Int)<(size:Int))=false,Tt])
set_option maxHeartbeats 4000000
set_option maxRecDepth 100000
abbrev rtE(b:Bool)(e:Int):SL:={sl:=[(6,.bool b),(7,i6 e)]}
theorem Qtb(jj:List Int)(cs:List (List Int))(lim:Int)(L:List Int)(P:List Nat)(hl1:jj.length<=1000)(hl2:cs.length<=1000)(e:Int)(he:B8 jj cs lim=e)(h0:e≠0):Ac Pg g0 18 [gV jj cs,i6 lim,lV L P] (.tup [.bool false,i6 e]):=by
 have hd:=Qga jj cs lim hl1 hl2 e he h0
 have hg:=Qap cs
 have hc:=Qag jj
 have hlo:=Qag L
 have hu:=Qas P
 refine Ac.of_vc vE_ok Af Qaa (n:=1000) (r:=[]) (S:=rtE false e) (hs:=[fn 17 (.tup [.nilp,.agg [.nils,.nils],i6 e]),yes 22]) ?_
 exact v_ (p:=Bn [Sm (V.tup [V.bool false,i6 e]),Bn [TT 2,Tt],Ac Pg g0 19 [V.agg [V.im jj.length (Ab jj),V.im cs.length (List.map sl cs)],i6 lim] (V.tup [V.nilp,V.agg [V.nils,V.nils],i6 e]),Tt,(e != 0)=true,Bn [Sm false,e=e]])
theorem Qtc(jj:List Int)(cs:List (List Int))(lim:Nat)(L:List Int)(P:List Nat)(hP:S64 P)(he:B8 jj cs (lim:Int)=0)(jw:E1 L P jj.length=false):Ac Pg g0 18 [gV jj cs,i6 (lim:Int),lV L P] (.tup [.bool false,i6 290]):=by
 obtain⟨hg0,hn1,hn5,_,_,hl2,hcl⟩:=Qb8 he
 obtain⟨q,k,_,h⟩:=Qfm jj cs lim he
 generalize A8 jj.length lim (fF jj cs) (2^jj.length)=B at*
 generalize laT jj.length lim (fF jj cs) (2^jj.length)=la at*
 generalize paT jj.length lim (fF jj cs) (2^jj.length)=pa at*
 generalize fF jj cs=F at*
 generalize 2^jj.length=size at*
 have hcall:=Qkj L P jj cs F size q B la pa k lim h
 have hB:=Qab B size
 have hla:=Qai la size
 have hpa:=Qaj pa size
 have hE:=Qae q (k+1)
 have hS:=Qab (scF F q) (k+1)
 have hg:=Qap cs
 have hc:=Qag jj
 have hlo:=Qag L
 have hu:=Qas P
 have hck:=Qbl L P hP
 have hvr:=Qb2 L P
 rw[Qgn]at jw
 clear h he
 cases hb:Fl L P with
 |false=>
  rw[hb,if_neg d_]at hck
  refine Ac.of_vc vE_ok Af Qaa (n:=1000) (r:=[]) (S:=rtE false 290) (hs:=[(17,.call ⟨cbW size,Ae .e 0 ([gO jj cs,lO L P]++cbD jj cs F size q B la pa k),8,[]⟩),fn 25 (i6 290)]) ?_
  clear jw hb hvr
  exact v_ (p:=Bn [Sm (V.tup [V.bool false,i6 290]),Aa Pg g0 (V.fn 19 []) [V.agg [sl jj,gC cs],i6 lim] (pt (pt T.e 0 (O.row 31 none [sl jj,gC cs])) 1 (O.row 43 none [sl L,ul P])) 2 (CR.mk (cbW size) (Ae T.e 0 ([gO jj cs,lO L P]++cbD jj cs F size q B la pa k)) 8 []),Tt,Bn [TT 2],Ac Pg g0 30 [V.agg [V.im L.length (Ab L),V.im P.length (ut P)]] (i6 290),Tt,Bn [Sm false,Sm (290:Int)]])
 |true=>
  rw[hb,if_pos rfl]at hck
  rw[hb,Bool.true_and]at jw
  have hw:=of_decide_eq_false jw
  generalize wdt L P=w at*
  have hne:((w:Int)==(jj.length:Int))=false:=by rw[Qbh,decide_eq_false hw]
  refine Ac.of_vc vE_ok Af Qaa (n:=1000) (r:=[]) (S:=rtE false 290) (hs:=[(17,.call ⟨cbW size,Ae .e 0 ([gO jj cs,lO L P]++cbD jj cs F size q B la pa k),8,[]⟩),fn 25 (i6 0),fn 29 (i6 (w:Nat)),yes 33]) ?_
  clear jw hb
  exact v_ (p:=let z1:=Ae T.e 0 ([gO jj cs,lO L P]++cbD jj cs F size q B la pa k);let z2:=[V.agg [V.im L.length (Ab L),V.im P.length (ut P)]];let z3:=V.tup [V.bool false,i6 290];let z4:=[sl L,ul P];let z5:=some (size-size);let z0:=pt (pt z1 8 (O.row 43 none [V.nils,V.nils])) 8 (O.row 43 none [V.sl 5 0 size z5,V.sl 6 0 size z5]);Bn [z3=z3,Aa Pg g0 (V.fn 19 []) [V.agg [sl jj,gC cs],i6 lim] (pt (pt T.e 0 (O.row 31 none [sl jj,gC cs])) 1 (O.row 43 none z4)) 2 (CR.mk (cbW size) z1 8 []),Tt,Bn [TT 2],Ac Pg g0 30 z2 (i6 0),Tt,Bn [TT 2],Ac Pg g0 31 z2 (i6 w),Bn [(V.fn 30 []=V.fn 31 []->[V.agg z4]=[V.agg z4]->z0=z0->8+1=9->CR.mk (i6 0) z0 9 []=CR.mk (i6 w) z0 9 [])],((w:Int) != (jj.length:Int))=true,Bn [Sm false,Sm (290:Int)]])
theorem Gu(f g:Nat->Int):ar (El f g)=ar (Aq f g 1):=congrArg V.agg (Qbf fun k hk=>Qoy f g hk)
theorem ask_ok{jj:List Int}{cs:List (List Int)}(hl2:cs.length<=40)(hcl: ∀c∈cs,c.length<=1000)(h:Bx jj cs=0)(hn:jj.length<=5){lim s v p:Nat}(hs:s<2^jj.length)(hv:v<jj.length)(hok:okT lim s v p=true)(B:Nat->Nat->Int)(hB:inB (B (s-2^v)) 800):AskOk jj cs (fF jj cs) B s v p:=by
 have hF:=Qme h hl2
 refine⟨?_,?_⟩
 ·have := add_ok (B (s - 2 ^ v)) (fF jj cs v p) (hB.inA d_) ((hF v p).inA d_) (by
   refine Qr5 fun k hk=>?_
   have h1:=hB k hk
   have h2:=hF v p k hk
   have:El (B (s-2^v)) (fF jj cs v p) k=B (s-2^v) k+1*fF jj cs v p k:=Qoy _ _ hk
   omega)
  rwa [Gu]at this
 ·have ho := Qb5.1 hok
  have hps:p<=s:=by rw[<-ho.1];exact Nat.and_le_right
  have hF2:fF jj cs v p=famG jj cs v p:=if_pos hv
  rw[hF2]
  refine Qti jj cs v p o_ o_ hcl h ?_
  unfold memB
  have e1:p/2^jj.length=0:=Nat.div_eq_of_lt o_
  have e2:p/2^v%2=0:=by
   have:=ho.2.1
   rw[Nat.testBit_eq_decide_div_mod_eq]at this
   have:=of_decide_eq_false this
   omega
  simp[e1,e2,hv]
theorem Qta(n lim:Nat)(F:Nat->Nat->Nat->Int)(L:List Int)(P:List Nat)(h:LdOk L P n):(List.range (2^n)).all (fun s=>decide (s=0)||D9 lim F (A8 n lim F (2^n)) L P s)=Ea n lim F L P:=by
 have key: ∀s,s<2^n->(decide (s=0)||D9 lim F (A8 n lim F (2^n)) L P s)=(decide (s=0)||(decide (Ao (P.getD s 0)<=lim)&&eqA (Aq (Cl n lim F (s-2^laL L s)) (F (laL L s) (paL P s)) 1) (Cl n lim F s))):=fun s hs=>by
  unfold D9
  rw[Qbp,Qbp,if_pos hs,if_pos (Nat.lt_of_le_of_lt (Nat.sub_le _ _) hs)]
 unfold Ea
 apply Bool.eq_iff_iff.2
 constructor
 ·intro h;exact Qam.2 fun s hs=>by rw[<-key s hs];exact Qam.1 h s hs
 ·intro h;exact Qam.2 fun s hs=>by rw[key s hs];exact Qam.1 h s hs
theorem Qfq(jj:List Int)(cs:List (List Int))(lim:Nat)(L:List Int)(P:List Nat)(hP:S64 P)(he:B8 jj cs (lim:Int)=0)(jv:E1 L P jj.length=true):Ac Pg g0 18 [gV jj cs,i6 (lim:Int),lV L P] (.tup [.bool (Ea jj.length lim (fF jj cs) L P),i6 0]):=by
 obtain⟨hg0,hn1,hn5,_,_,hl2,hcl⟩:=Qb8 he
 obtain⟨q,k,hk,h⟩:=Qfm jj cs lim he
 have hck:=Qbl L P hP
 have hvr:=Qb2 L P
 rw[Qgn,Bool.and_eq_true]at jv
 obtain⟨hb,hw⟩:=jv
 have hw:=of_decide_eq_true hw
 have hlad:=Qjd hb
 rw[hb,if_pos rfl]at hck
 rw[hw]at hvr hlad
 have hF:=Qme hg0 hl2
 have jp:1<=2^jj.length:=Nat.pow_pos d_
 have h32:=Qa1 hn5
 have l:=rt_loop L P hP jj cs (fF jj cs) (A8 jj.length lim (fF jj cs) (2^jj.length)) jj.length (2^jj.length) lim rfl hlad (fun s h0 hs hpc=>by
  obtain⟨a1,a2,a3⟩:=hlad.ok.at_ s h0 hs
  have hp32:paL P s<32:=by
   rw[<-a3];exact Nat.lt_of_le_of_lt Nat.and_le_right (by have:=Nat.sub_le s (2^laL L s);omega)
  refine ask_ok hl2 (fun c hc=>by rw[hcl c hc];omega) hg0 hn5 hs a1 ((Qdp o_ o_ a2 hp32).2 ⟨a3,hpc⟩) _ ?_
  rw[Qbp,if_pos (Nat.lt_of_le_of_lt (Nat.sub_le _ _) hs)]
  exact Qj1 hF hn5 (Nat.lt_of_le_of_lt (Nat.sub_le _ _) hs)) q k hk _ rfl
 rw[Qta _ _ _ _ _ hlad]at l
 have e1:=hlad.lenL
 have e2:=hlad.lenP
 generalize Ea jj.length lim (fF jj cs) L P=b at*
 generalize A8 jj.length lim (fF jj cs) (2^jj.length)=B at*
 generalize laT jj.length lim (fF jj cs) (2^jj.length)=la at*
 generalize paT jj.length lim (fF jj cs) (2^jj.length)=pa at*
 generalize fF jj cs=F at*
 generalize 2^jj.length=size at*
 have hcall:=Qkj L P jj cs F size q B la pa k lim h
 have hB:=Qab B size
 have hla:=Qai la size
 have hpa:=Qaj pa size
 have hE:=Qae q (k+1)
 have hS:=Qab (scF F q) (k+1)
 have hg:=Qap cs
 have hc:=Qag jj
 have hlo:=Qag L
 have hu:=Qas P
 have hrt:rrS L P jj cs F B size lim (0,q,k)={sl:=[(1,i6 (lim:Nat)),(5,.ptr 0 0),(8,.ptr 3 0),(37,i6 (L.length:Nat)),(38,i6 0)],os:=rtO L P jj cs F B size q k,md:=[0,0,0,1]}:=by rw[e1];rfl
 rw[hrt]at l
 clear h he hw hb hrt hF
 cases b with
 |true=>
  have l:=l.mono (Qbj rfl (by simp))
  refine Ac.of_vc vE_ok Af Qaa (n:=1000) (r:=[]) (S:=rtE true 0) (hs:=[(17,.call ⟨cbW size,Ae .e 0 ([gO jj cs,lO L P]++cbD jj cs F size q B la pa k),8,[]⟩),fn 25 (i6 0),fn 29 (i6 (jj.length:Nat)),no 33,(0,.loop [1,2,3,4,7] {sl:=[(1,i6 (lim:Nat)),(5,.ptr 0 0),(8,.ptr 3 0),(37,i6 (L.length:Nat)),(38,i6 0)],os:=rtO L P jj cs F B size q k,md:=[0,0,0,1]} [(True,.exit 0,{sl:=[]})])]) ?_
  exact v_ (p:=let z1:=Ae T.e 0 ([gO jj cs,lO L P]++cbD jj cs F size q B la pa k);let z2:=[V.agg [V.im L.length (Ab L),V.im P.length (ut P)]];let z3:=[sl L,ul P];let z4:=bF (scF F q) (k+1);let z5:=Ak q (k+1);let z6:=V.tup [V.bool true,i6 0];let z7:=(jj.length:Int);let z8:=(0:Int);let z9:=i6 ↑jj.length;let y0:=some (size-size);let z0:=pt (pt z1 8 (O.row 43 none [V.nils,V.nils])) 8 (O.row 43 none [V.sl 5 0 size y0,V.sl 6 0 size y0]);Bn [z6=z6,Aa Pg g0 (V.fn 19 []) [V.agg [sl jj,gC cs],i6 lim] (pt (pt T.e 0 (O.row 31 none [sl jj,gC cs])) 1 (O.row 43 none z3)) 2 (CR.mk (cbW size) z1 8 []),Tt,Bn [TT 2],Ac Pg g0 30 z2 (i6 0),Tt,Bn [TT 2],Ac Pg g0 31 z2 z9,Bn [(V.fn 30 []=V.fn 31 []->[V.agg z3]=[V.agg z3]->z0=z0->8+1=9->CR.mk (i6 0) z0 9 []=CR.mk z9 z0 9 [])],(z7 != z7)=false,Bn [Bn [Sm (lim:Int),Zz,Zz,Sm (L.length:Int),z8=z8],An [z3=z3,TT 2],An [Sm (bF B size),HfL (bF B size)],An [z5=z5,HfE z5,Sm (k+1)],Bn [An [Sm jj.length,Sm (Ab jj)],An [Sm cs.length,Sm (List.map sl cs)],An [Zz,Sm size,Sm (size-size)],Tt,Bn [Zz,Sm (k+1)]],An [z4=z4,HfL z4]],Sat Pg none 0 (at' 18 [1,1,1,1,0,1,0]) (Ah g0 80 (SL.mk [(1,i6 lim),(5,V.ptr 0 0),(8,V.ptr 3 0),(37,i6 L.length),(38,i6 0)] (rtO L P jj cs F B size q k) [] [0,0,0,1])) (Qaf g0 80 [(True,Ex.exit 0,SL.mk [] [] [] [])]),(True->Bn [Bn [Sm true,z8=z8]])])
 |false=>
  have l:=l.mono (Qbk (by simp) rfl)
  refine Ac.of_vc vE_ok Af Qaa (n:=1000) (r:=[]) (S:=rtE false 0) (hs:=[(17,.call ⟨cbW size,Ae .e 0 ([gO jj cs,lO L P]++cbD jj cs F size q B la pa k),8,[]⟩),fn 25 (i6 0),fn 29 (i6 (jj.length:Nat)),no 33,(0,.loop [1,2,3,4,7] {sl:=[(1,i6 (lim:Nat)),(5,.ptr 0 0),(8,.ptr 3 0),(37,i6 (L.length:Nat)),(38,i6 0)],os:=rtO L P jj cs F B size q k,md:=[0,0,0,1]} [(True,.ret,rtR false)])]) ?_
  exact v_ (p:=let z1:=Ae T.e 0 ([gO jj cs,lO L P]++cbD jj cs F size q B la pa k);let z2:=[V.agg [V.im L.length (Ab L),V.im P.length (ut P)]];let z3:=[sl L,ul P];let z4:=bF (scF F q) (k+1);let z5:=Ak q (k+1);let z6:=V.tup [V.bool false,i6 0];let z7:=(jj.length:Int);let z8:=(0:Int);let z9:=i6 ↑jj.length;let y0:=some (size-size);let z0:=pt (pt z1 8 (O.row 43 none [V.nils,V.nils])) 8 (O.row 43 none [V.sl 5 0 size y0,V.sl 6 0 size y0]);Bn [z6=z6,Aa Pg g0 (V.fn 19 []) [V.agg [sl jj,gC cs],i6 lim] (pt (pt T.e 0 (O.row 31 none [sl jj,gC cs])) 1 (O.row 43 none z3)) 2 (CR.mk (cbW size) z1 8 []),Tt,Bn [TT 2],Ac Pg g0 30 z2 (i6 0),Tt,Bn [TT 2],Ac Pg g0 31 z2 z9,Bn [(V.fn 30 []=V.fn 31 []->[V.agg z3]=[V.agg z3]->z0=z0->8+1=9->CR.mk (i6 0) z0 9 []=CR.mk z9 z0 9 [])],(z7 != z7)=false,Bn [Bn [Sm (lim:Int),Zz,Zz,Sm (L.length:Int),z8=z8],An [z3=z3,TT 2],An [Sm (bF B size),HfL (bF B size)],An [z5=z5,HfE z5,Sm (k+1)],Bn [An [Sm jj.length,Sm (Ab jj)],An [Sm cs.length,Sm (List.map sl cs)],An [Zz,Sm size,Sm (size-size)],Tt,Bn [Zz,Sm (k+1)]],An [z4=z4,HfL z4]],Sat Pg none 0 (at' 18 [1,1,1,1,0,1,0]) (Ah g0 80 (SL.mk [(1,i6 lim),(5,V.ptr 0 0),(8,V.ptr 3 0),(37,i6 L.length),(38,i6 0)] (rtO L P jj cs F B size q k) [] [0,0,0,1])) (Qaf g0 80 [(True,Ex.ret,rtR false)]),(True->Bn [Bn [Sm false,z8=z8]])])
theorem Qs6{jj:List Int}{cs:List (List Int)}(hl2:cs.length<=40)(h:Bx jj cs=0)(hn:jj.length<=5){lim s v:Nat}(hs:s<2^jj.length)(hv:v<jj.length)(B:Nat->Nat->Int)(hB:inB (B (s-2^v)) 800):Qj8 jj cs (fF jj cs) lim s v B:=by
 have hF:=Qme h hl2
 have hbd: ∀p,inB (Av (fF jj cs) B s v p) 1000:=fun p=>(hB.add (hF v p)).mono d_
 refine⟨hbd,fun p hok=>?_,fun p=>?_⟩
 ·have ho := Qb5.1 hok
  have hps:p<=s:=by rw[<-ho.1];exact Nat.and_le_right
  have hF2:fF jj cs v p=famG jj cs v p:=if_pos hv
  rw[hF2]
  refine ref_ok jj cs v p h ?_
  unfold memB
  have e1:p/2^jj.length=0:=Nat.div_eq_of_lt o_
  have e2:p/2^v%2=0:=by
   have:=ho.2.1
   rw[Nat.testBit_eq_decide_div_mod_eq]at this
   have:=of_decide_eq_false this
   omega
  simp[e1,e2,hv]
 ·exact plusw (B (s-2^v)) (fF jj cs v p) (fun k hk=>by have:=hB k hk;omega) (fun k hk=>by have:=hF v p k hk;omega)
theorem Qqr(B C:Nat->Nat->Int)(s:Nat)(x:Nat->Int)(h: ∀i,i<s->C i=B i)(hx:C s=x):bF C (s+1)=bF B s++arF x:=by
 show blF _ (s+1)=_
 rw[Qbe]
 congr 1
 ·exact Qby fun i hi=>by rw[h i hi]
 ·rw[hx]
theorem Qtz(n lim:Nat)(F:Nat->Nat->Nat->Int){s i:Nat}(h:i<s):A8 n lim F (s+1) i=A8 n lim F s i:=by
 rw[Qbp,Qbp,if_pos o_,if_pos h]
abbrev tlS(jj:List Int)(cs:List (List Int))(C:Nat->Nat->Nat->Int)(lim:Nat):Nat->SL:=fun s=>match s with
 |0=>{sl:=[(1,i6 (lim:Nat)),(2,.ptr 0 0),(5,.sl 1 0 1 (some 0)),(6,u6 1)],os:=[gO jj cs,.row 37 none (arF Qah)]}
 |j+1=>{sl:=[(1,i6 (lim:Nat)),(2,.ptr 0 0),(5,.sl 1 0 (j+2) none),(6,u6 ((j+2:Nat):Int))],os:=[gO jj cs,.row 37 (some 18) (bF (C (j+2)) (j+2))]}
theorem tl_loop(jj:List Int)(cs:List (List Int))(F:Nat->Nat->Nat->Int)(lim size:Nat)(h1:1<=jj.length)(h5:jj.length<=5)(hsz:size=2^jj.length)(H: ∀s v,s<size->v<jj.length->s.testBit v=true->Qj8 jj cs F lim s v (A8 jj.length lim F s)):
  Sat Pg none 0 (at' 11 [1,1,0,1,0]) (Ah g0 79 (tlS jj cs (A8 jj.length lim F) lim 0)) (Qaf g0 79 [(True,.exit 0,{sl:=[(5,.im size (bF (A8 jj.length lim F size) size))]})]):=by
 have hg:=Qap cs
 have hc:=Qag jj
 have hz:=By Qah
 have h2:2<=size:=by rw[hsz];exact Nat.le_trans d_ (Nat.pow_le_pow_right (show 0<2 by decide) h1)
 have h32:size<=32:=by rw[hsz];exact Qa1 h5
 have sn:=fun G t=>@Qhe G t jj.length o_
 rw[<-hsz]at sn
 refine Qax vE_ok Af Qaa (b:=at' 11 [1,1,0,1,0,0]) k_ (fun s=>s+1<=size) (tlS jj cs (A8 jj.length lim F) lim) (fun s=>size-s) (fun s hs=>?_) 0 o_
 cases s with
 | zero =>
  have Ht:=H 1 0 o_ h1 rfl
  have e0: ∀t,A8 jj.length lim F 1 t=Qah:=fun t=>by
   rw[Qbp]
   split
   ·rw[show t=0 by omega];exact Qt1 _ _ _
   ·rfl
  rw[show A8 jj.length lim F 1=fun _=>Qah from funext e0]at Ht
  have l:=tp_one jj cs F lim h1 h5 Ht _ rfl
  have hx:Cl jj.length lim F 1=Av F (fun _=>Qah) 1 0 0:=by
   unfold Cl stB
   rw[show A8 jj.length lim F 1=fun _=>Qah from funext e0]
   obtain⟨k,hk⟩: ∃k,jj.length=k+1:=⟨jj.length-1,by omega⟩
   rw[hk,Qsw];rfl
  have hb:bF (A8 jj.length lim F 2) 2=arF Qah++arF (Cl jj.length lim F 1):=by
   rw[Qqr (A8 jj.length lim F 1) (A8 jj.length lim F 2) 1 (Cl jj.length lim F 1) (fun i hi=>Qtz _ _ _ hi) (by rw[Qbp,if_pos d_])]
   congr 1
   show blF _ (0+1)=_
   rw[Qbe,Qiy,e0];rfl
  have hB:=Qab (A8 jj.length lim F 2) 2
  rw[hx]at hb
  have hHx:=By (Av F (fun _=>Qah) 1 0 0)
  generalize A8 jj.length lim F=C at*
  generalize Av F (fun _=>Qah) 1 0 0=x at*
  refine .inl ⟨0+1,[0,4],[va 18 (u6 (size:Nat)),yes 19,(0,.loop [0,1,2] (t1S jj cs lim 0 none) [(True,.exit 2,t1X jj cs lim (some (0,0,x)))])],1000,by omega,by omega,?_⟩
  clear H hx Ht e0
  exact v_ (p:=let z0:=An [Sm [sl jj,gC cs],TT 2];let z1:=(1:Int);Bn [Ai (Qac Pg) .shl 72 (u6 1) (i6 jj.length)=some (u6 size),decide (z1<(size:Int))=true,Bn [Bn [Sm (lim:Int),Zz,An [Zz,1=1,Zz],Sm z1,Zz,fiB none=true,((0:Nat):Int)=(0:Int)],z0,An [Sm (arF Qah),TT 18],An [arF (Cc none)=[i6 0,i6 0,i6 0,i6 0,i6 0,i6 0,i6 0,i6 0,i6 0,i6 0,i6 0,i6 0,i6 0,i6 0,i6 0,i6 0,i6 0,i6 0],TT 18]],Sat Pg none 0 (at' 11 [1,1,0,1,0,0,1,0,0,1,1,0,1,0]) (Ah g0 79 (t1S jj cs lim 0 none)) (Qaf g0 79 [(True,Ex.exit 2,t1X jj cs lim (some (0,0,x)))]),(True->Bn [Bn [Sm (lim:Int),Zz,Bn [Zz,0+2=2],(↑(0+2):Int)=wr .u64 (z1+z1)],z0,An [bF (C (0+2)) (0+2)=arF Qah++(arF (Cc (some (0,0,x)))),TT 36]])])
 | succ j =>
  by_cases hlt:j+2<size
  ·have l := tp_var jj cs F (A8 jj.length lim F (j + 2)) lim (j + 2) o_ h5 (fun v hv hb => H (j + 2) v hlt hv hb) _ rfl
   have hb:bF (A8 jj.length lim F (j+1+2)) (j+1+2)=bF (A8 jj.length lim F (j+2)) (j+2)++arF (Cc (B3 lim F (A8 jj.length lim F (j+2)) (j+2) jj.length)):=
    Qqr (A8 jj.length lim F (j+2)) (A8 jj.length lim F (j+2+1)) (j+2) _ (fun i hi=>Qtz _ _ _ hi) (by rw[Qbp,if_pos o_];rfl)
   have hB:=Qab (A8 jj.length lim F (j+2)) (j+2)
   have hB2:=Qab (A8 jj.length lim F (j+1+2)) (j+1+2)
   have hHb:=By (Cc (B3 lim F (A8 jj.length lim F (j+2)) (j+2) jj.length))
   generalize B3 lim F (A8 jj.length lim F (j+2)) (j+2) jj.length=b at*
   have jy:(bF (A8 jj.length lim F (j+2)) (j+2)).length=(j+2)*18:=bF_len _ _
   have hpw:wr .u64 (((j+2:Nat):Int)+1)=((j+1+2:Nat):Int):=by
    rw[show(((j+2:Nat):Int)+1)=((j+1+2:Nat):Int)by omega];exact Qei (by simp only[lo];omega) (by simp only[hi];omega)
   generalize A8 jj.length lim F=C at*
   refine .inl ⟨j+1+1,[0,4],[va 18 (u6 (size:Nat)),yes 19,(0,.loop [0,1,2] (tp2 jj cs (C (j+2)) lim (j+2) 0 none) [(True,.exit 2,{sl:=[(1,i6 (lim:Nat)),(2,.ptr 0 0),(5,.sl 1 0 (j+2) none),(6,u6 ((j+2:Nat):Int)),(7,.ptr 2 0)],os:=tpO jj cs (C (j+2)) (j+2) b})]),ap 77,nu 21 ((j+1+2:Nat):Int)],1000,by omega,by omega,?_⟩
   clear H
   refine m_ (p:=let z1:=(↑(j+2):Int);let z2:=[sl jj,gC cs];let z3:=Nat.succ j;let z4:=(lim:Int);let z6:=C (j+2);let z7:=(↑(j+1+2):Int);let z0:=bF z6 (j+2);let z5:=bF (C (z3+2)) (z3+2);Bn [Ai (Qac Pg) .shl 72 (u6 1) (i6 jj.length)=some (u6 size),decide (z1<(size:Int))=true,Bn [Bn [z4=z4,Zz,Bn [Zz,Sm (j+2)],z1=z1,Zz,fiB none=true,((0:Nat):Int)=(0:Int)],An [z2=z2,TT 2],An [z0=z0,HfL z0],An [arF (Cc none)=[i6 0,i6 0,i6 0,i6 0,i6 0,i6 0,i6 0,i6 0,i6 0,i6 0,i6 0,i6 0,i6 0,i6 0,i6 0,i6 0,i6 0,i6 0],TT 18]],Sat Pg none 0 (at' 11 [1,1,0,1,0,0,1,0,0,1,1,0,1,0]) (Ah g0 79 (tp2 jj cs z6 lim (j+2) 0 none)) (Qaf g0 79 [(True,Ex.exit 2,SL.mk [(1,i6 lim),(2,V.ptr 0 0),(5,V.sl 1 0 (j+2) none),(6,u6 ↑(j+2)),(7,V.ptr 2 0)] (tpO jj cs z6 (j+2) b) [] [])]),(True→Bn [z0.length=(j+2)*18,j+2+1≤9223372036854775807,(j+2+1)*144≤140737488355328,wr .u64 (z1+1)=z7,Bn [z4=z4,Zz,Bn [Zz,z3+2=j+2+1],(↑(z3+2):Int)=z7],An [z2=z2,TT 2],An [z5=z0++(arF (Cc b)),HfL z5]])]) ?_
   (repeat'(first|(with_reducible apply And.intro)|(refine fun(_:True)=>?_)))
   all_goals first|exact l|(with_reducible exact sn _ _)|(with_reducible exact hpw)|(with_reducible exact hb)|(with_reducible exact hb.symm)|(with_reducible exact jy)|exact hg|exact hc|exact hz|exact hB|exact hB2|exact hHb|exact Qck hB hHb|exact aq|rfl|skip
  ·have : j + 2 = size := by omega
   subst this
   have hB:=Qab (A8 jj.length lim F (j+2)) (j+2)
   generalize A8 jj.length lim F=C at*
   refine .inr ⟨.exit 0,[],{sl:=[(5,.im (j+2) (bF (C (j+2)) (j+2)))]},[va 18 (u6 ((j+2:Nat):Int)),no 19],1000,.inl ⟨trivial,rfl,rfl⟩,?_⟩
   clear H
   exact v_ (p:=let z0:=bF (C (j+2)) (j+2);Bn [Ai (Qac Pg) .shl 72 (u6 1) (i6 jj.length)=some (u6 ↑(j+2)),decide ((↑(j+2):Int)<(↑(j+2):Int))=false,Bn [An [Sm (j+2),z0=z0,HfL z0]]])
theorem tops_fn(jj:List Int)(cs:List (List Int))(lim:Nat)(he:B8 jj cs (lim:Int)=0):Ac Pg g0 11 [gV jj cs,i6 (lim:Int)] (.im (2^jj.length) (bF (A8 jj.length lim (fF jj cs) (2^jj.length)) (2^jj.length))):=by
 obtain⟨hg0,hn1,hn5,_,_,hl2,hcl⟩:=Qb8 he
 have hF:=Qme hg0 hl2
 have l:=tl_loop jj cs (fF jj cs) lim _ hn1 hn5 rfl (fun s v hs hv hb=>Qs6 hl2 hg0 hn5 hs hv _ (by
  rw[Qbp]
  split
  ·exact Qj1 hF hn5 (Nat.lt_of_le_of_lt (Nat.sub_le _ _) hs)
  ·exact inB_zero.mono d_))
 have hg:=Qap cs
 have hc:=Qag jj
 have hz:=By Qah
 have hB:=Qab (A8 jj.length lim (fF jj cs) (2^jj.length)) (2^jj.length)
 have e0:tlS jj cs (A8 jj.length lim (fF jj cs)) lim 0={sl:=[(1,i6 (lim:Nat)),(2,.ptr 0 0),(5,.sl 1 0 1 (some 0)),(6,u6 1)],os:=[gO jj cs,.row 37 none (arF Qah)]}:=rfl
 rw[e0]at l
 clear he hF
 generalize A8 jj.length lim (fF jj cs) (2^jj.length)=B at*
 generalize 2^jj.length=z at*
 refine Ac.of_vc vE_ok Af Qaa (n:=1000) (r:=[]) (S:={sl:=[(4,.im z (bF B z))]}) (hs:=[(0,.loop [0,1] {sl:=[(1,i6 (lim:Nat)),(2,.ptr 0 0),(5,.sl 1 0 1 (some 0)),(6,u6 1)],os:=[gO jj cs,.row 37 none (arF Qah)]} [(True,.exit 0,{sl:=[(5,.im z (bF B z))]})])]) ?_
 exact v_ (p:=Bn [Sm (V.im z (bF B z)),Bn [Bn [Sm (lim:Int),Zz,An [Zz,1=1,Zz],Sm (1:Int)],An [Sm [sl jj,gC cs],TT 2],An [arF Qah=[i6 0,i6 0,i6 0,i6 0,i6 0,i6 0,i6 0,i6 0,i6 0,i6 0,i6 0,i6 0,i6 0,i6 0,i6 0,i6 0,i6 0,i6 0],TT 18]],Sat Pg none 0 (at' 11 [1,1,0,1,0]) (Ah g0 79 (SL.mk [(1,i6 lim),(2,V.ptr 0 0),(5,V.sl 1 0 1 (some 0)),(6,u6 1)] [gO jj cs,O.row 37 none (arF Qah)] [] [])) (Qaf g0 79 [(True,Ex.exit 0,SL.mk [(5,V.im z (bF B z))] [] [] [])]),(True->Bn [Bn [An [z=z,Sm (bF B z)]]])])
theorem Qrc(jj:List Int)(cs:List (List Int))(lim:Int)(hl1:jj.length<=1000)(hl2:cs.length<=1000)(hcl: ∀c∈cs,c.length<=1000):Ac Pg g0 10 [gV jj cs,i6 lim] (i6 (B8 jj cs lim)):=by
 have h1:=good_fn jj cs hl1 hl2 hcl
 have hg:=Qap cs
 have hc:=Qag jj
 unfold B8
 by_cases h0:Bx jj cs=0
 ·rw [if_pos h0]
  rw[h0]at h1
  by_cases a:5<jj.length
  ·rw [if_pos (.inl a)]
   refine Ac.of_vc vE_ok Af Qaa (n:=1000) (r:=[]) (S:=c4 2) (hs:=[fn 7 (i6 0),yes 14]) ?_
   exact v_ (p:=Bn [Sm (i6 2),Bn [TT 2],Ac Pg g0 20 [V.agg [V.im jj.length (Ab jj),V.im cs.length (List.map sl cs)]] (i6 0),Tt,decide ((jj.length:Int)>5)=true,Bn [Sm (2:Int)]])
  ·by_cases b : lim < 0
   ·rw [if_pos (.inr (.inl b))]
    refine Ac.of_vc vE_ok Af Qaa (n:=1000) (r:=[]) (S:=c4 2) (hs:=[fn 7 (i6 0),no 14,yes 17]) ?_
    exact v_ (p:=Bn [Sm (i6 2),Bn [TT 2],Ac Pg g0 20 [V.agg [V.im jj.length (Ab jj),V.im cs.length (List.map sl cs)]] (i6 0),Tt,decide ((jj.length:Int)>5)=false,decide (lim<0)=true,Bn [Sm (2:Int)]])
   ·by_cases c : 4 < lim
    ·rw [if_pos (.inr (.inr c))]
     refine Ac.of_vc vE_ok Af Qaa (n:=1000) (r:=[]) (S:=c4 2) (hs:=[fn 7 (i6 0),no 14,no 17,yes 21]) ?_
     exact v_ (p:=Bn [Sm (i6 2),Bn [TT 2],Ac Pg g0 20 [V.agg [V.im jj.length (Ab jj),V.im cs.length (List.map sl cs)]] (i6 0),Tt,decide ((jj.length:Int)>5)=false,decide (lim<0)=false,decide (lim>4)=true,Bn [Sm (2:Int)]])
    ·rw [if_neg o_]
     refine Ac.of_vc vE_ok Af Qaa (n:=1000) (r:=[]) (S:=c4 0) (hs:=[fn 7 (i6 0),no 14,no 17,no 21]) ?_
     exact v_ (p:=Bn [Sm (i6 0),Bn [TT 2],Ac Pg g0 20 [V.agg [V.im jj.length (Ab jj),V.im cs.length (List.map sl cs)]] (i6 0),Tt,decide ((jj.length:Int)>5)=false,decide (lim<0)=false,decide (lim>4)=false,Bn [Sm (0:Int)]])
 ·rw [if_neg h0]
  generalize Bx jj cs=e at*
  refine Ac.of_vc vE_ok Af Qaa (n:=1000) (r:=[]) (S:=c4 e) (hs:=[fn 7 (i6 e),yes 9]) ?_
  exact v_ (p:=Bn [Sm (i6 e),Bn [TT 2],Ac Pg g0 20 [V.agg [V.im jj.length (Ab jj),V.im cs.length (List.map sl cs)]] (i6 e),Tt,(e != 0)=true,Bn [e=e]])
section
variable (L:List Int) (P:List Nat) (jj:List Int) (cs:List (List Int)) (B:Nat->Nat->Int) (size lim:Nat)
abbrev rqS(s:Nat):SL:={sl:=[(1,i6 (lim:Nat)),(3,.ptr 0 0),(5,.ptr 1 0),(7,.im size (bF B size)),(8,i6 (s:Nat))],os:=[gO jj cs,lO L P]}
end
abbrev rq6(b:Bool):SL:={sl:=[(6,.bool b)]}
theorem rq_loop(L:List Int)(P:List Nat)(jj:List Int)(cs:List (List Int))(F:Nat->Nat->Nat->Int)(B:Nat->Nat->Int)(n size lim:Nat)(hsz:size=2^n)(h:LdOk L P n)
  (xj: ∀s,0<s->s<size->Ao (paL P s)<=lim->Ac Pg g0 24 [gV jj cs,i6 (laL L s:Nat),u6 (paL P s:Nat)] (ar (F (laL L s) (paL P s)))/\Ac Pg g0 23 [ar (B (s-2^laL L s)),ar (F (laL L s) (paL P s))] (ar (Aq (B (s-2^laL L s)) (F (laL L s) (paL P s)) 1)))(b:Bool)(hb:b=(List.range size).all (fun s=>decide (s=0)||D9 lim F B L P s)):
  Sat Pg none 0 (at' 13 [1,1,0,1,0]) (Ah g0 55 (rqS L P jj cs B size lim 1)) (Qaf g0 55 [(b=true,.exit 0,{sl:=[]}),(b=false,.ret,rq6 false)]):=by
 have hB:=Qab B size
 have hg:=Qap cs
 have hc:=Qag jj
 have hlo:=Qag L
 have hu:=Qas P
 have h5:=h.w5
 have h1:=h.w1
 have h2:2<=size:=by rw[hsz];exact Nat.le_trans d_ (Nat.pow_le_pow_right (show 0<2 by decide) h1)
 have h32:size<=32:=by rw[hsz];exact Qa1 h5
 have e1:=h.lenL
 have e2:=h.lenP
 rw[<-hsz]at e1 e2
 refine Qax vE_ok Af Qaa (b:=at' 13 [1,1,0,1,0,0]) k_ (fun s=>1<=s/\s<=size/\∀j,j<s->(decide (j=0)||D9 lim F B L P j)=true) (rqS L P jj cs B size lim) (fun s=>size-s) (fun s hx=>?_) 1 ⟨Nat.le_refl _,by omega,fun j hj=>by rw[show j=0 by omega];rfl⟩
 obtain⟨hs1,hs,hj⟩:=hx
 by_cases hlt:s<size
 ·obtain ⟨a1, a2, a3⟩ := h.ok.at_ s o_ o_
  have hld:=@Qal L s o_
  rw[h.nn s o_ o_]at hld
  have hlp:=@Qed P s o_
  have hpp:P.getD s 0<32:=by
   rw[show P.getD s 0=paL P s from rfl,<-a3]
   exact Nat.lt_of_le_of_lt Nat.and_le_right (by have:=Nat.sub_le s (2^laL L s);omega)
  have hone:=Qtl (P.getD s 0) hpp
  have jw:D9 lim F B L P s=false->b=false:=fun hh=>by
   rw[hb];exact Qbb hlt (by rw[hh,decide_eq_false o_];rfl)
  have jv:D9 lim F B L P s=true->∀j,j<s+1->(decide (j=0)||D9 lim F B L P j)=true:=fun hh j hj1=>by
   rcases Nat.lt_succ_iff_lt_or_eq.1 hj1 with h2|h2
   ·exact hj j h2
   ·subst h2;rw[hh,Bool.or_true]
  have xj:=xj s o_ hlt
  have hpow:2^laL L s<=s:=(Qes s o_ _ o_ a2).1
  have s3:=fun G t=>@Qlq G t (laL L s) o_
  have s4:=fun G t=>@Qqn G t s (laL L s) o_ o_ a2
  have htk:=@Qa9 B size s hlt
  have htk2:=@Qa9 B size (s-2^laL L s) (Nat.lt_of_le_of_lt (Nat.sub_le _ _) hlt)
  have htk':=htk
  have htk2':=htk2
  rw[Qau]at htk' htk2'
  unfold D9 at jw jv
  unfold paL at xj jw jv
  by_cases hpc:Ao (P.getD s 0)<=lim
  ·obtain ⟨hfam, xz⟩ := xj hpc
   rw[decide_eq_true hpc,Bool.true_and]at jw jv
   clear hj hb
   generalize hv:laL L s=v at*
   generalize hpd:P.getD s 0=p at*
   clear hpd hv
   generalize hx:Aq (B (s-2^v)) (F v p) 1=x at*
   generalize F v p=fv at*
   have ht:s-2^v<size:=Nat.lt_of_le_of_lt (Nat.sub_le _ _) hlt
   generalize s-2^v=t at*
   generalize 2^v=bt at*
   cases hEq:eqA x (B s)with
   |true=>
    have hg2:=jv hEq
    have hEqn:(!eqA x (B s))=false:=by rw[hEq];rfl
    unfold eqA at hEqn
    refine .inl ⟨s+1,[0,1],[yes 16,pl 22,ld 23 (i6 (v:Nat)),pl 27,ld 28 (u6 (p:Nat)),fn 29 (i6 (Ao p:Nat)),no 31,pl 45,ld 46 (u6 (p:Nat)),fn 47 (ar fv),va 36 (i6 (bt:Nat)),va 37 (i6 (t:Nat)),pl 38,ld 39 (ar (B t)),fn 48 (ar x),pl 51,ld 52 (ar (B s)),no 53,nu 18 ((s+1:Nat):Int)],1000,⟨by omega,hlt,hg2⟩,by omega,?_⟩
    clear jv jw hg2 xj hx hEq
    exact v_ (p:=let z0:=Ae T.e 0 [gO jj cs,lO L P];let z1:=(s:Int);let z2:=[sl jj,gC cs];let z3:=(↑(s+1):Int);let z4:=Ad (List.drop (s*1) (ut P));let z5:=i6 ↑(Ao p);let z6:=V.agg (arF (B t));let z7:=(0:Int);let z8:=(size:Int);let y0:=bF B size;let y1:=(lim:Int);let z9:=[V.agg z2,i6 v,u6 p];Bn [decide (z1<z8)=true,An [z7<=z1,z1<(L.length:Int)],Ad (List.drop (s*1) (Ab L))=some (i6 v),An [z7<=z1,z1<(P.length:Int)],z4=some (u6 p),Bn [Tt],Ac Pg g0 22 [u6 p] z5,Tt,decide ((↑(Ao p):Int)>y1)=false,An [z7<=z1,z1<(P.length:Int)],z4=some (u6 p),An [TT 2,TT 2],Ac Pg g0 24 [V.agg [V.im jj.length (Ab jj),V.im cs.length (List.map sl cs)],i6 v,u6 p] (ar fv),Bn [(V.fn 22 []=V.fn 24 []->[u6 p]=z9->z0=z0->2=2->CR.mk z5 z0 2 []=CR.mk (ar fv) z0 2 [])],Ai (Qac Pg) .shl 3 (i6 1) (i6 v)=some (i6 bt),Ai (Qac Pg) .andNot 3 (i6 s) (i6 bt)=some (i6 t),An [z7<=(t:Int),(t:Int)<z8],A6 18 (List.drop (t*18) y0)=some (arF (B t)),Bn [TT 18,TT 18],Ac Pg g0 23 [z6,V.agg (arF fv)] (ar x),Bn [(V.fn 24 []=V.fn 23 []->z9=[z6,ar fv]->z0=z0->2=2->CR.mk (ar fv) z0 2 []=CR.mk (ar x) z0 2 []),(V.fn 22 []=V.fn 23 []->[u6 p]=[z6,ar fv]->z0=z0->2=2->CR.mk z5 z0 2 []=CR.mk (ar x) z0 2 [])],An [z7<=z1,z1<z8],A6 18 (List.drop (s*18) y0)=some (arF (B s)),(!(x 0==B s 0&&(x 1==B s 1&&(x 2==B s 2&&(x 3==B s 3&&(x 4==B s 4&&(x 5==B s 5&&(x 6==B s 6&&(x 7==B s 7&&(x 8==B s 8&&(x 9==B s 9&&(x 10==B s 10&&(x 11==B s 11&&(x 12==B s 12&&(x 13==B s 13&&(x 14==B s 14&&(x 15==B s 15&&(x 16==B s 16&&(x 17==B s 17&&true)))))))))))))))))))=false,wr .i64 (z1+1)=z3,Bn [y1=y1,Zz,Zz,An [Sm size,y0=y0],z3=z3],An [z2=z2,TT 2],An [Sm [sl L,ul P],TT 2]])
   |false=>
    have hb2:=jw hEq
    have hEqn:(!eqA x (B s))=true:=by rw[hEq];rfl
    unfold eqA at hEqn
    refine .inr ⟨.ret,[],rq6 false,[yes 16,pl 22,ld 23 (i6 (v:Nat)),pl 27,ld 28 (u6 (p:Nat)),fn 29 (i6 (Ao p:Nat)),no 31,pl 45,ld 46 (u6 (p:Nat)),fn 47 (ar fv),va 36 (i6 (bt:Nat)),va 37 (i6 (t:Nat)),pl 38,ld 39 (ar (B t)),fn 48 (ar x),pl 51,ld 52 (ar (B s)),yes 53],1000,.inr (.inl ⟨hb2,rfl,rfl⟩),?_⟩
    clear jv jw hb2 xj hx hEq
    exact v_ (p:=let z0:=Ae T.e 0 [gO jj cs,lO L P];let z1:=(s:Int);let z2:=[V.agg [sl jj,gC cs],i6 v,u6 p];let z3:=Ad (List.drop (s*1) (ut P));let z4:=i6 ↑(Ao p);let z5:=V.agg (arF (B t));let z6:=(0:Int);let z7:=(size:Int);Bn [decide (z1<z7)=true,An [z6<=z1,z1<(L.length:Int)],Ad (List.drop (s*1) (Ab L))=some (i6 v),An [z6<=z1,z1<(P.length:Int)],z3=some (u6 p),Bn [Tt],Ac Pg g0 22 [u6 p] z4,Tt,decide ((↑(Ao p):Int)>(lim:Int))=false,An [z6<=z1,z1<(P.length:Int)],z3=some (u6 p),An [TT 2,TT 2],Ac Pg g0 24 [V.agg [V.im jj.length (Ab jj),V.im cs.length (List.map sl cs)],i6 v,u6 p] (ar fv),Bn [(V.fn 22 []=V.fn 24 []->[u6 p]=z2->z0=z0->2=2->CR.mk z4 z0 2 []=CR.mk (ar fv) z0 2 [])],Ai (Qac Pg) .shl 3 (i6 1) (i6 v)=some (i6 bt),Ai (Qac Pg) .andNot 3 (i6 s) (i6 bt)=some (i6 t),An [z6<=(t:Int),(t:Int)<z7],A6 18 (List.drop (t*18) (bF B size))=some (arF (B t)),Bn [TT 18,TT 18],Ac Pg g0 23 [z5,V.agg (arF fv)] (ar x),Bn [(V.fn 24 []=V.fn 23 []->z2=[z5,ar fv]->z0=z0->2=2->CR.mk (ar fv) z0 2 []=CR.mk (ar x) z0 2 []),(V.fn 22 []=V.fn 23 []->[u6 p]=[z5,ar fv]->z0=z0->2=2->CR.mk z4 z0 2 []=CR.mk (ar x) z0 2 [])],An [z6<=z1,z1<z7],A6 18 (List.drop (s*18) (bF B size))=some (arF (B s)),(!(x 0==B s 0&&(x 1==B s 1&&(x 2==B s 2&&(x 3==B s 3&&(x 4==B s 4&&(x 5==B s 5&&(x 6==B s 6&&(x 7==B s 7&&(x 8==B s 8&&(x 9==B s 9&&(x 10==B s 10&&(x 11==B s 11&&(x 12==B s 12&&(x 13==B s 13&&(x 14==B s 14&&(x 15==B s 15&&(x 16==B s 16&&(x 17==B s 17&&true)))))))))))))))))))=true,Bn [Sm false]])
  ·rw [decide_eq_false hpc, Bool.false_and] at jw
   have hb2:=jw rfl
   clear hj hb xj jv jw
   generalize P.getD s 0=p at*
   generalize laL L s=v at*
   refine .inr ⟨.ret,[],rq6 false,[yes 16,pl 22,ld 23 (i6 (v:Nat)),pl 27,ld 28 (u6 (p:Nat)),fn 29 (i6 (Ao p:Nat)),yes 31],1000,.inr (.inl ⟨hb2,rfl,rfl⟩),?_⟩
   clear hb2
   exact v_ (p:=let z0:=(s:Int);Bn [decide (z0<(size:Int))=true,An [(0:Int)<=z0,z0<(L.length:Int)],Ad (List.drop (s*1) (Ab L))=some (i6 v),An [(0:Int)<=z0,z0<(P.length:Int)],Ad (List.drop (s*1) (ut P))=some (u6 p),Bn [Tt],Ac Pg g0 22 [u6 p] (i6 ↑(Ao p)),Tt,decide ((↑(Ao p):Int)>(lim:Int))=true,Bn [Sm false]])
 ·have jf : b = true := by rw [hb]; exact Qam.2 fun j hj1 => hj j o_
  refine .inr ⟨.exit 0,[],{sl:=[]},[no 16],1000,.inl ⟨jf,rfl,rfl⟩,?_⟩
  clear hj jf hb xj
  exact v_ (p:=Bn [decide ((s:Int)<(size:Int))=false,Tt])
theorem Qmu(jj:List Int)(cs:List (List Int))(lim:Nat)(L:List Int)(P:List Nat)(hP:S64 P)(he:B8 jj cs (lim:Int)=0)(jv:E1 L P jj.length=true):Ac Pg g0 13 [gV jj cs,i6 (lim:Int),lV L P] (.bool (Ea jj.length lim (fF jj cs) L P)):=by
 have ht:=tops_fn jj cs lim he
 obtain⟨hg0,hn1,hn5,_,_,hl2,hcl⟩:=Qb8 he
 rw[Qgn,Bool.and_eq_true]at jv
 obtain⟨hb,hw⟩:=jv
 have hw:=of_decide_eq_true hw
 have hlad:=Qjd hb
 rw[hw]at hlad
 have hF:=Qme hg0 hl2
 have jp:1<=2^jj.length:=Nat.pow_pos d_
 have h32:=Qa1 hn5
 have l:=rq_loop L P jj cs (fF jj cs) (A8 jj.length lim (fF jj cs) (2^jj.length)) jj.length (2^jj.length) lim rfl hlad (fun s h0 hs hpc=>by
  obtain⟨a1,a2,a3⟩:=hlad.ok.at_ s h0 hs
  have hp32:paL P s<32:=by
   rw[<-a3];exact Nat.lt_of_le_of_lt Nat.and_le_right (by have:=Nat.sub_le s (2^laL L s);omega)
  have H:=Qs6 (cs:=cs) hl2 hg0 hn5 (lim:=lim) hs a1 (A8 jj.length lim (fF jj cs) (2^jj.length)) (by
   rw[Qbp,if_pos (Nat.lt_of_le_of_lt (Nat.sub_le _ _) hs)]
   exact Qj1 hF hn5 (Nat.lt_of_le_of_lt (Nat.sub_le _ _) hs))
  exact⟨H.fam _ ((Qdp o_ o_ a2 hp32).2 ⟨a3,hpc⟩),H.add _⟩) _ rfl
 rw[Qta _ _ _ _ _ hlad]at l
 have hB:=Qab (A8 jj.length lim (fF jj cs) (2^jj.length)) (2^jj.length)
 have hg:=Qap cs
 have hc:=Qag jj
 have hlo:=Qag L
 have hu:=Qas P
 generalize Ea jj.length lim (fF jj cs) L P=b at*
 generalize A8 jj.length lim (fF jj cs) (2^jj.length)=B at*
 generalize 2^jj.length=size at*
 clear he hw hb hF
 have hrt:rqS L P jj cs B size lim 1={sl:=[(1,i6 (lim:Nat)),(3,.ptr 0 0),(5,.ptr 1 0),(7,.im size (bF B size)),(8,i6 1)],os:=[gO jj cs,lO L P]}:=rfl
 rw[hrt]at l
 cases b with
 |true=>
  have l:=l.mono (Qbj rfl (by simp))
  refine Ac.of_vc vE_ok Af Qaa (n:=1000) (r:=[]) (S:=rq6 true) (hs:=[fn 12 (.im size (bF B size)),(0,.loop [0,1] {sl:=[(1,i6 (lim:Nat)),(3,.ptr 0 0),(5,.ptr 1 0),(7,.im size (bF B size)),(8,i6 1)],os:=[gO jj cs,lO L P]} [(True,.exit 0,{sl:=[]})])]) ?_
  exact v_ (p:=let z0:=bF B size;Bn [Sm (V.bool true),Bn [TT 2,Tt],Ac Pg g0 11 [V.agg [V.im jj.length (Ab jj),V.im cs.length (List.map sl cs)],i6 lim] (V.im size z0),Tt,Bn [Bn [Sm (lim:Int),Zz,Zz,An [Sm size,z0=z0],Sm (1:Int)],An [Sm [sl jj,gC cs],TT 2],An [Sm [sl L,ul P],TT 2]],Sat Pg none 0 (at' 13 [1,1,0,1,0]) (Ah g0 55 (SL.mk [(1,i6 lim),(3,V.ptr 0 0),(5,V.ptr 1 0),(7,V.im size z0),(8,i6 1)] [gO jj cs,lO L P] [] [])) (Qaf g0 55 [(True,Ex.exit 0,SL.mk [] [] [] [])]),(True->Bn [Bn [Sm true]])])
 |false=>
  have l:=l.mono (Qbk (by simp) rfl)
  refine Ac.of_vc vE_ok Af Qaa (n:=1000) (r:=[]) (S:=rq6 false) (hs:=[fn 12 (.im size (bF B size)),(0,.loop [0,1] {sl:=[(1,i6 (lim:Nat)),(3,.ptr 0 0),(5,.ptr 1 0),(7,.im size (bF B size)),(8,i6 1)],os:=[gO jj cs,lO L P]} [(True,.ret,rq6 false)])]) ?_
  exact v_ (p:=let z0:=bF B size;Bn [Sm (V.bool false),Bn [TT 2,Tt],Ac Pg g0 11 [V.agg [V.im jj.length (Ab jj),V.im cs.length (List.map sl cs)],i6 lim] (V.im size z0),Tt,Bn [Bn [Sm (lim:Int),Zz,Zz,An [Sm size,z0=z0],Sm (1:Int)],An [Sm [sl jj,gC cs],TT 2],An [Sm [sl L,ul P],TT 2]],Sat Pg none 0 (at' 13 [1,1,0,1,0]) (Ah g0 55 (SL.mk [(1,i6 lim),(3,V.ptr 0 0),(5,V.ptr 1 0),(7,V.im size z0),(8,i6 1)] [gO jj cs,lO L P] [] [])) (Qaf g0 55 [(True,Ex.ret,rq6 false)]),(True->Bn [Bn [Sm false]])])
set_option maxHeartbeats 1000000
set_option maxRecDepth 100000
def drV(n s:Nat):Nat->Nat->Nat
 |0,v=>v
 |f+1,v=>if s.testBit v then v else drV n s f ((v+1)%n)
theorem drV_all: ∀n:Nat,n<6->∀s:Nat,s<32->∀v:Nat,v<5->(n=0\/2^n<=s\/s=0\/n<=v\/(s.testBit (drV n s 5 v)=true/\drV n s 5 v<n)):=by decide+kernel
theorem drV_ok{n s v:Nat}(h1:1<=n)(h5:n<=5)(h0:0<s)(hs:s<2^n)(hv:v<n):s.testBit (drV n s 5 v)=true/\drV n s 5 v<n:=by
 have h32:=Qa1 h5
 rcases drV_all n o_ s o_ v o_ with h|h|h|h|h
 ·omega
 ·omega
 ·omega
 ·omega
 ·exact h
section
variable (n:Nat) (a b:Nat->Nat)
def dlV(s:Nat):Nat:=drV n s 5 (a s%n)
def dlA(k s:Nat):Nat:=if 0<s/\s<k then dlV n a s else 0
def dlB(k s:Nat):Nat:=if 0<s/\s<k then b s&&& (s-2^dlV n a s)else 0
end
theorem dlA_next(n:Nat)(a:Nat->Nat){k:Nat}(hk:0<k):(fun i=>if i=k then dlV n a k else dlA n a k i)=dlA n a (k+1):=by
 funext i
 unfold dlA
 by_cases h:i=k
 ·subst h;rw[if_pos rfl,if_pos ⟨hk,by omega⟩]
 ·rw [if_neg h]
  by_cases h2:0<i/\i<k
  ·rw[if_pos h2,if_pos o_]
  ·rw[if_neg h2,if_neg o_]
theorem dlB_next(n:Nat)(a b:Nat->Nat){k:Nat}(hk:0<k):(fun i=>if i=k then b k&&& (k-2^dlV n a k)else dlB n a b k i)=dlB n a b (k+1):=by
 funext i
 unfold dlB
 by_cases h:i=k
 ·subst h;rw[if_pos rfl,if_pos ⟨hk,by omega⟩]
 ·rw [if_neg h]
  by_cases h2:0<i/\i<k
  ·rw[if_pos h2,if_pos o_]
  ·rw[if_neg h2,if_neg o_]
theorem dl_S64{n:Nat}(a b:Nat->Nat)(h5:n<=5):S64 (mkP (dlB n a b (2^n)) n):=mk_S64 fun s hs=>by
 have h32:=Qa1 h5
 unfold dlB
 split
 ·exact Nat.lt_of_le_of_lt Nat.and_le_right (by have:=Nat.sub_le s (2^dlV n a s);omega)
 ·decide
theorem Qql: ∀b:Nat,b<256->∀s:Nat,s<32->IntKind.u64.wrap ((BitVec.ofInt 64 (b:Int)&&& BitVec.ofInt 64 (s:Int)).toNat:Int)=((b&&& s:Nat):Int):=by decide+kernel
theorem and_u8{G:Ctx}{t b s:Nat}(hb:b<256)(hs:s<32):Ai G .and t (u6 (b:Int)) (u6 (s:Int))=some (u6 ((b&&& s:Nat):Int)):=by
 have e:Ai G .and t (u6 (b:Int)) (u6 (s:Int))=some (.int .u64 (IntKind.u64.wrap ((BitVec.ofInt 64 (b:Int)&&& BitVec.ofInt 64 (s:Int)).toNat:Int))):=rfl
 rw[e,Qql b hb s hs]
theorem Qqm: ∀x:Nat,x<32->∀v:Nat,v<5->IntKind.u64.wrap ((BitVec.ofInt 64 (x:Int)&&& ~~~ BitVec.ofInt 64 ((2^v:Nat):Int)).toNat:Int)=((x&&& (31-2^v):Nat):Int):=by decide+kernel
theorem Gd: ∀s:Nat,s<32->∀v:Nat,v<5->(s.testBit v=false\/s&&& (31-2^v)=s-2^v):=by decide+kernel
theorem andn_u8{G:Ctx}{t b s v:Nat}(hs:s<32)(hv:v<5)(h:s.testBit v=true):Ai G .andNot t (u6 ((b&&& s:Nat):Int)) (u6 ((2^v:Nat):Int))=some (u6 ((b&&& (s-2^v):Nat):Int)):=by
 have hx:b&&& s<32:=Nat.lt_of_le_of_lt Nat.and_le_right hs
 have e:Ai G .andNot t (u6 ((b&&& s:Nat):Int)) (u6 ((2^v:Nat):Int))=some (.int .u64 (IntKind.u64.wrap ((BitVec.ofInt 64 ((b&&& s:Nat):Int)&&& ~~~ BitVec.ofInt 64 ((2^v:Nat):Int)).toNat:Int))):=rfl
 rw[e,Qqm _ hx v hv]
 rcases Gd s hs v hv with e|e
 ·rw[h]at e;cases e
 ·rw[Nat.and_assoc,e]
set_option maxHeartbeats 4000000
set_option maxRecDepth 100000
def A5(l:List Int):Nat->Int:=fun i=>l.getD i 0
abbrev exC:List Int:=[2,2]
abbrev exD:List (List Int):=[[0,0],[0,0],[1,1],[0,1]]
def exG(v p:Nat):Nat->Int:=match v,p with
 |0,0=>A5 [-2,0,-1]
 |0,2=>A5 [-1,-2]
 |1,0=>A5 [-1,-1,-1]
 |1,1=>A5 [-3,-1]
 | _,_=>fF exC exD v p
theorem Qku: ∀v,v<2->∀p,p<4->∀i,i<18->fF exC exD v p i=exG v p i:=by decide+kernel
def exT(lim:Nat)(s:Nat):Nat->Int:=match s with
 |1=>A5 [-2,0,-1]
 |2=>A5 [-1,-1,-1]
 |3=>if lim=0 then A5 [-3,-1,-2]else A5 [-5,-1,-1]
 | _=>Qah
theorem exT0: ∀s,s<4->∀i,i<18->Cc (B3 0 exG (exT 0) s 2) i=exT 0 s i:=by decide+kernel
theorem exT1: ∀s,s<4->∀i,i<18->Cc (B3 1 exG (exT 1) s 2) i=exT 1 s i:=by decide+kernel
theorem Qrg: ∀s,s<4->∀i,i<18->Cl 2 0 (fF exC exD) s i=exT 0 s i:=fun s hs=>(Qo0 (lim:=0) (exT 0) 4 Qku exT0 s hs).2
theorem Qmd: ∀s,s<4->∀i,i<18->Cl 2 1 (fF exC exD) s i=exT 1 s i:=fun s hs=>(Qo0 (lim:=1) (exT 1) 4 Qku exT1 s hs).2
noncomputable def vcFi2(P:Program)(E:Env)(sp:Qdc)(gl:T (List V))(n:Nat)(ars:List V)(hs:Hs)(r1:List Nat)(S1:SL)(r:List Nat)(S:SL)(v:V):Option FI->Prop
 |some fi=>bif Nat.ble ars.length fi.ntmps&&hfB v then retP v (Ff E.G (Ah gl fi.ntmps S).tm (Ah gl fi.ntmps S).H fi.res)/\gcP 0 r (Ah gl fi.ntmps S1) S/\vc P E sp none 0 n fi.body hs ⟨⟨Qef (Qdg fi.ntmps) 0 ars,gl,fi.ntmps⟩,.e,0,[]⟩ (kFin fi.ntmps r1 S1)else False
 |none=>False
theorem Ac.of_vc2{P:Program}{E:Env}{sp:Qdc}(hE:E.Ok P)(hm:P.follows .mixedOrders=true){gl:T (List V)}(hsp:Qbx P gl sp){n f:Nat}{ars:List V}{hs:Hs}{r1:List Nat}{S1:SL}{r:List Nat}{S:SL}{v:V}(h:vcFi2 P E sp gl n ars hs r1 S1 r S v (E.code f)):Ac P gl f ars v:=by
 unfold vcFi2 at h
 split at h
 ·rename_i fi hfi
  obtain⟨hb,kp,hgc,hv⟩:=Qak h
  rw[Bool.and_eq_true]at hb
  have hret':Ff E.G (Ah gl fi.ntmps S).tm (Ah gl fi.ntmps S).H fi.res=some v:=by
   unfold retP at kp
   split at kp
   ·rename_i u e;rw[e,kp]
   ·exact kp.elim
  rw[Qcv]at hv
  refine Aa.fnC hE hfi (by rw[List.append_nil];exact hb.1) (Log.refl _ _ _) (R:=fun e st=>(e= .normal\/e= .ret)/\st=Ah gl fi.ntmps S) ?_ ?_
  ·rw [List.append_nil]
   refine Sat.gc_post (Sat.gc_post (Sat.of_vc hE hm hsp rfl hv fun e hs' st' hg hk=>?_))
   unfold kFin at hk
   have fin:(bif Nat.beq st'.tm.n fi.ntmps then gcP 0 r1 st' S1 else False)->∃r0 st2,Gc 0 r0 st' st2/\∃r1' st3,Gc 0 r1' st2 st3/\st3=Ah gl fi.ntmps S:=by
    intro hk
    obtain⟨hb,hk⟩:=Qak hk
    have hn:=Nat.eq_of_beq_eq_true hb
    have g1:=Qd7 hk
    rw[hg,hn]at g1
    exact⟨r1,_,g1,r,_,Qd7 hgc,rfl⟩
   cases e with
   |exit=>exact hk.elim
   |normal=>obtain⟨r0,st2,h1,r2,st3,h2,h3⟩:=fin hk;exact⟨r0,st2,h1,r2,st3,h2,.inl rfl,h3⟩
   |ret=>obtain⟨r0,st2,h1,r2,st3,h2,h3⟩:=fin hk;exact⟨r0,st2,h1,r2,st3,h2,.inr rfl,h3⟩
  ·rintro e st ⟨he, rfl⟩
   refine⟨he,v,hret',fun s w ee w' hH hn⟨u,s',h1,g1,g2,g3,_,_⟩=>?_⟩
   subst h1
   obtain⟨s'',q1,q2,q3,q4⟩:=Qge hH g1 (Qk0.1 v hb.2) g3 (fun h _=>hn h (Nat.zero_le _)) (fun b hb=>g2.old b (.inl hb))
   exact⟨u,s'',rfl,q1,q2,q3,fun i=>by rw[q4];exact Cg s _ i,Nat.le_refl _⟩
 ·exact h.elim
end Go.Proofs.YtakfneapahohkaaDoor.Am
