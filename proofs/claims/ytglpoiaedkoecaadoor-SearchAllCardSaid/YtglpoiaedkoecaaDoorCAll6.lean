/- Texts behind the claim, part 6: the abstract machine, and what the functions answer. No condition. -/
import Derived.Test.YtglpoiaedkoecaaDoorCAll5
set_option linter.unusedVariables false
set_option linter.unusedSimpArgs false
set_option linter.unusedSectionVars false
namespace Go.Proofs.YtglpoiaedkoecaaDoor.Am
open Go.RowKit
set_option maxHeartbeats 1000000
set_option maxRecDepth 100000
def kIdx:Nat→Int
 |0=> -1
 |k+1=>k
theorem Qoa{l:List Nat}{k:Nat}(h:k<l.length):headF ((wt l).drop (k*1))=some (u6 ((l.getD k 0:Nat):Int)):=by
 have:=Qsc h
 rwa [Qat,Nat.zero_add]at this
abbrev c5(n:Int):SL:={sl:=[(5,i6 n)]}
abbrev c4(n:Int):SL:={sl:=[(4,i6 n)]}
abbrev cmS(a b:List Nat)(k:Nat):SL:={sl:=[(0,lnV a),(1,lnV b),(5,i6 0),(6,i6 (kIdx k))]}
theorem cmp_loop(a b:List Nat)(ha:WOk a)(hb:WOk b)(hl:a.length=b.length)(h6:a.length≤100000)(r:Int)(hr:r=sgn (valW a) (valW b)):
  Sat Pg none 0 (at' 92 [1,0,1,1,1,0,1,0]) (mkSt g0 45 (cmS a b a.length)) (Qaf g0 45 [(True,.exit 0,c5 r)]):=by
 refine Qa2 vE_ok mixed Qab (b:=at' 92 [1,0,1,1,1,0,1,0,0]) (by kernel_rfl) (fun k=>k≤a.length∧a.drop k=b.drop k) (cmS a b) (fun k=>k) (fun k hk=>?_) a.length ⟨Nat.le_refl _,by rw[List.drop_length,hl,List.drop_length]⟩
 obtain⟨hk,hd⟩:=hk
 cases k with
 |zero=>
  have hab:a=b:=by simpa using hd
  have hr0:r=0:=by rw[hr,hab];simp[sgn]
  subst hr0
  refine .inr ⟨.exit 0,[],c5 0,[],1000,.inl ⟨trivial,rfl,rfl⟩,?_⟩
  refine Eq.mp (by kernel_rfl:(An [An [Sm (0:Int),Tt],Tt])=_) ?_
  exact au
 | succ j =>
  have p1:=Qoa (l:=a) (k:=j) (by omega)
  have p2:=Qoa (l:=b) (k:=j) (by omega)
  have lt1:=Qo8 ha hl (i:=j) (by omega) hd
  have lt2:=Qo8 hb hl.symm (i:=j) (by omega) hd.symm
  have st:=Qka hl (i:=j) (by omega) hd
  generalize a.getD j 0=x at*
  generalize b.getD j 0=y at*
  by_cases h1:x<y
  ·have := lt1 h1
   have hr0:r= -1:=by rw[hr];unfold sgn;rw[if_pos this]
   subst hr0
   refine .inr ⟨.exit 0,[],c5 (-1),[yes 21,pl 27,ld 28 (u6 x),pl 31,ld 32 (u6 y),yes 33],1000,.inl ⟨trivial,rfl,rfl⟩,?_⟩
   clear hr hd lt1 lt2 st
   refine Eq.mp (by kernel_rfl:(let z0:=(↑j:Int);An [decide (z0≥(0:Int))=true,An [(0:Int)≤z0,z0<(↑a.length:Int)],headF (List.drop (j*1) (wt a))=some (u6 ↑x),An [(0:Int)≤z0,z0<(↑b.length:Int)],headF (List.drop (j*1) (wt b))=some (u6 ↑y),decide ((↑x:Int)<(↑y:Int))=true,An [Sm (-1:Int),Tt],Tt])=_) ?_
   (repeat'(first|(with_reducible apply And.intro)|(refine fun(_:True)=>?_)))<;>first|exact aq|skip
  ·by_cases h2 : y < x
   ·have := lt2 h2
    have hr0:r=1:=by rw[hr];unfold sgn;rw[if_neg (by omega),if_pos this]
    subst hr0
    refine .inr ⟨.exit 0,[],c5 1,[yes 21,pl 27,ld 28 (u6 x),pl 31,ld 32 (u6 y),no 33,pl 37,ld 38 (u6 x),pl 41,ld 42 (u6 y),yes 43],1000,.inl ⟨trivial,rfl,rfl⟩,?_⟩
    clear hr hd lt1 lt2 st
    refine Eq.mp (by kernel_rfl:(let z0:=(↑j:Int);let z1:=headF (List.drop (j*1) (wt a));let z2:=headF (List.drop (j*1) (wt b));let z3:=(0:Int);An [decide (z0≥z3)=true,An [z3≤z0,z0<(↑a.length:Int)],z1=some (u6 ↑x),An [z3≤z0,z0<(↑b.length:Int)],z2=some (u6 ↑y),decide ((↑x:Int)<(↑y:Int))=false,An [z3≤z0,z0<(↑a.length:Int)],z1=some (u6 ↑x),An [z3≤z0,z0<(↑b.length:Int)],z2=some (u6 ↑y),decide ((↑x:Int)>(↑y:Int))=true,An [Sm (1:Int),Tt],Tt])=_) ?_
    (repeat'(first|(with_reducible apply And.intro)|(refine fun(_:True)=>?_)))<;>first|exact aq|skip
   ·refine .inl ⟨j, [], [yes 21, pl 27, ld 28 (u6 x), pl 31, ld 32 (u6 y), no 33, pl 37, ld 38 (u6 x), pl 41, ld 42 (u6 y), no 43, nu 23 (kIdx j)], 1000, ⟨by omega, st (by omega)⟩, by omega, ?_⟩
    have hdn:wr .i64 ((j:Int)-1)=kIdx j:=by
     rw[wr6 (by omega) (by omega)]
     cases j with
     |zero=>rfl
     |succ j=>simp only[kIdx];omega
    clear hr hd lt1 lt2 st
    refine Eq.mp (by kernel_rfl:(let z0:=(↑j:Int);let z1:=(0:Int);let z2:=headF (List.drop (j*1) (wt a));let z3:=headF (List.drop (j*1) (wt b));An [decide (z0≥z1)=true,An [z1≤z0,z0<(↑a.length:Int)],z2=some (u6 ↑x),An [z1≤z0,z0<(↑b.length:Int)],z3=some (u6 ↑y),decide ((↑x:Int)<(↑y:Int))=false,An [z1≤z0,z0<(↑a.length:Int)],z2=some (u6 ↑x),An [z1≤z0,z0<(↑b.length:Int)],z3=some (u6 ↑y),decide ((↑x:Int)>(↑y:Int))=false,wr .i64 (z0-(1:Int))=kIdx j,An [An [Sm a.length,Sm (wt a)],An [Sm b.length,Sm (wt b)],z1=z1,Sm (kIdx j),Tt],Tt])=_) ?_
    (repeat'(first|(with_reducible apply And.intro)|(refine fun(_:True)=>?_)))<;>first|exact aq|skip
theorem Qpj(a b:List Nat)(ha:Norm a)(hb:Norm b)(h6:a.length≤100000)(h7:b.length≤100000):FnOk Pg g0 92 [lnV a,lnV b] (i6 (sgn (valW a) (valW b))):=by
 by_cases hl:a.length=b.length
 ·have l := cmp_loop a b ha.ok hb.ok hl h6 _ rfl
  have hpos:=ha.pos
  have hdn:wr .i64 ((a.length:Int)-1)=kIdx a.length:=by
   rw[wr6 (by omega) (by omega)]
   cases a with
   |nil=>simp at hpos
   |cons x l=>simp only[kIdx,List.length_cons];omega
  generalize sgn (valW a) (valW b)=r at*
  generalize hn:a.length=n at*
  refine FnOk.of_vc vE_ok mixed Qab (n:=1000) (r:=[]) (S:=c4 r) (hs:=[no 11,nu 19 (kIdx n),(0,.loop [] (cmS a b n) [(True,.exit 0,c5 r)])]) ?_
  refine Eq.mp (by kernel_rfl:(An [Sm (i6 r),((↑a.length:Int) != (↑b.length:Int))=false,wr .i64 ((↑a.length:Int)-(1:Int))=kIdx n,An [An [An [Sm a.length,Sm (wt a)],An [Sm b.length,Sm (wt b)],Sm (0:Int),Sm (kIdx n),Tt],Tt],Sat Pg none 0 (at' 92 [1,0,1,1,1,0,1,0]) (mkSt g0 45 (cmS a b n)) (Qaf g0 45 [(True,Ex.exit 0,c5 r)]),(True→An [An [r=r,Tt],Tt]),Tt])=_) ?_
  (repeat'(first|(with_reducible apply And.intro)|(refine fun(_:True)=>?_)))<;>first|exact aq|skip
 ·by_cases h1 : a.length < b.length
  ·have : sgn (valW a) (valW b) = -1 := by unfold sgn; rw [if_pos (Qon ha hb h1)]
   rw[this]
   refine FnOk.of_vc vE_ok mixed Qab (n:=1000) (r:=[]) (S:=c4 (-1)) (hs:=[yes 11,yes 16]) ?_
   refine Eq.mp (by kernel_rfl:(An [Sm (i6 (-1)),((↑a.length:Int) != (↑b.length:Int))=true,decide ((↑a.length:Int)<(↑b.length:Int))=true,An [Sm (-1:Int),Tt],Tt])=_) ?_
   (repeat'(first|(with_reducible apply And.intro)|(refine fun(_:True)=>?_)))<;>first|exact aq|skip
  ·have hlt := Qon hb ha (by omega)
   have:sgn (valW a) (valW b)=1:=by unfold sgn;rw[if_neg (by omega),if_pos hlt]
   rw[this]
   refine FnOk.of_vc vE_ok mixed Qab (n:=1000) (r:=[]) (S:=c4 1) (hs:=[yes 11,no 16]) ?_
   refine Eq.mp (by kernel_rfl:(An [Sm (i6 1),((↑a.length:Int) != (↑b.length:Int))=true,decide ((↑a.length:Int)<(↑b.length:Int))=false,An [Sm (1:Int),Tt],Tt])=_) ?_
   (repeat'(first|(with_reducible apply And.intro)|(refine fun(_:True)=>?_)))<;>first|exact aq|skip
def cmpF(a b:Nat→Int):Int:=sgn (Qaw (posF (mixF a b (-1) 18) 1) 18) (Qaw (posF (mixF a b (-1) 18) (-1)) 18)
abbrev cpS2(n e:Int):SL:={sl:=[(4,i6 n),(5,i6 e)]}
theorem cmp_ok(a b:Nat→Int)(ha:inA a=true)(hb:inA b=true):FnOk Pg g0 45 [ar a,ar b] (.tup [i6 (cmpF a b),i6 0]):=by
 have h:=Qa5 a
 have h2:=Qa5 b
 rw[ha]at h
 rw[hb]at h2
 by_cases he: ∀i,i<18→a i=b i
 ·have hba : ar b = ar a := congrArg V.agg (Qbp fun k hk => (he k hk).symm)
  have hz:cmpF a b=0:=by
   unfold cmpF
   have e1: ∀s,Qaw (posF (mixF a b (-1) 18) s) 18=Qaw (fun _=>0) 18:=fun s=>Qaz 18 fun j hj=>by
    unfold posF
    rw[Qbn,if_pos hj,he j hj]
    have:b j+ -1*b j=0:=by omega
    rw[this,Int.mul_zero];rfl
   rw[e1,e1];simp[sgn]
  rw[hba,hz]
  refine FnOk.of_vc vE_ok mixed Qab (n:=1000) (r:=[]) (S:=cpS2 0 0) (hs:=[fn 8 (.bool true),fn 12 (.bool true),yes 17]) ?_
  refine Eq.mp (by kernel_rfl:(let z1:=[V.agg (arF a)];let z2:=V.bool true;let z3:=O.row 41 none (arF a);let z4:=(0:Int);let z0:=pt (pt T.e 0 z3) 1 z3;An [Sm (V.tup [i6 0,i6 0]),An [TT 18,Tt],FnOk Pg g0 82 z1 z2,Tt,An [TT 18,Tt],FnOk Pg g0 82 z1 z2,An [(V.fn 82 []=V.fn 82 []→z1=z1→z0=z0→0+1+1=2→Sm (CR.mk z2 z0 2 [])),Tt],(a 0==a 0&&(a 1==a 1&&(a 2==a 2&&(a 3==a 3&&(a 4==a 4&&(a 5==a 5&&(a 6==a 6&&(a 7==a 7&&(a 8==a 8&&(a 9==a 9&&(a 10==a 10&&(a 11==a 11&&(a 12==a 12&&(a 13==a 13&&(a 14==a 14&&(a 15==a 15&&(a 16==a 16&&(a 17==a 17&&true))))))))))))))))))=true,An [z4=z4,z4=z4,Tt],Tt])=_) ?_
  (repeat'(first|(with_reducible apply And.intro)|(refine fun(_:True)=>?_)))<;>first|exact aq|skip
  all_goals exact Qer.2 (fun _ _=>rfl)
 ·have hc := Qc5 a b (-1) (fun k hk => by have := Qez ha hk; omega) (fun k hk => by have := Qez hb hk; omega)
  have hbd: ∀i,i<18→ -4000≤mixF a b (-1) 18 i∧mixF a b (-1) 18 i≤4000:=fun i hi=>by
   rw[Qbn,if_pos hi]
   have:=Qez ha hi
   have:=Qez hb hi
   omega
  unfold cmpF
  generalize mixF a b (-1) 18=d at*
  obtain⟨u,u1,u2,u3,u4⟩:=Qne d 1 (.inl rfl) hbd
  obtain⟨v,v1,v2,v3,v4⟩:=Qne d (-1) (.inr rfl) hbd
  have l:=Qpj u v u1 v1 u3 v3
  rw[u2,v2]at l
  generalize sgn (Qaw (posF d 1) 18) (Qaw (posF d (-1)) 18)=r at*
  refine FnOk.of_vc vE_ok mixed Qab (n:=1000) (r:=[]) (S:=cpS2 r 0) (hs:=[fn 8 (.bool true),fn 12 (.bool true),no 17,fn 20 (ar d),fn 22 (lnV u),fn 24 (lnV v),fn 25 (i6 r)]) ?_
  refine Eq.mp (by kernel_rfl:(let z1:=pt (pt T.e 0 (O.row 41 none (arF a))) 1 (O.row 41 none (arF b));let z2:=V.agg (arF d);let z3:=V.bool true;let z4:=V.agg (arF a);let z5:=V.agg (arF b);let z0:=pt (pt z1 2 (O.row 41 none [i6 0,i6 0,i6 0,i6 0,i6 0,i6 0,i6 0,i6 0,i6 0,i6 0,i6 0,i6 0,i6 0,i6 0,i6 0,i6 0,i6 0,i6 0])) 2 (O.row 41 none (arF d));let z6:=[z2,i6 (-1)];An [Sm (V.tup [i6 r,i6 0]),An [TT 18,Tt],FnOk Pg g0 82 [z4] z3,Tt,An [TT 18,Tt],FnOk Pg g0 82 [z5] z3,An [(V.fn 82 []=V.fn 82 []→[z4]=[z5]→z1=z1→0+1+1=2→Sm (CR.mk z3 z1 2 [])),Tt],(a 0==b 0&&(a 1==b 1&&(a 2==b 2&&(a 3==b 3&&(a 4==b 4&&(a 5==b 5&&(a 6==b 6&&(a 7==b 7&&(a 8==b 8&&(a 9==b 9&&(a 10==b 10&&(a 11==b 11&&(a 12==b 12&&(a 13==b 13&&(a 14==b 14&&(a 15==b 15&&(a 16==b 16&&(a 17==b 17&&true))))))))))))))))))=false,An [TT 18,TT 18,Tt,Tt],FnOk Pg g0 79 [z4,z5,i6 (-1)] (ar d),Tt,An [TT 18,Tt,Tt],FnOk Pg g0 93 [z2,i6 1] (lnV u),Tt,An [TT 18,Tt,Tt],FnOk Pg g0 93 z6 (lnV v),An [(V.fn 93 []=V.fn 93 []→[z2,i6 1]=z6→z0=z0→0+1+1+1=3→CR.mk (lnV u) z0 3 []=CR.mk (lnV v) z0 3 []),Tt],TT 2,FnOk Pg g0 92 [V.im u.length (wt u),V.im v.length (wt v)] (i6 r),An [(V.fn 93 []=V.fn 92 []→z6=[lnV u,lnV v]→z0=z0→0+1+1+1=3→CR.mk (lnV v) z0 3 []=CR.mk (i6 r) z0 3 []),(V.fn 93 []=V.fn 92 []→[z2,i6 1]=[lnV u,lnV v]→z0=z0→0+1+1+1=3→CR.mk (lnV u) z0 3 []=CR.mk (i6 r) z0 3 []),Tt],An [r=r,Sm (0:Int),Tt],Tt])=_) ?_
  (repeat'(first|(with_reducible apply And.intro)|(refine fun(_:True)=>?_)))<;>first|exact aq|skip
  all_goals exact Qrj he
def blF(f:Nat→List V)(n:Nat):List V:=(List.range n).flatMap f
theorem Qnl(f:Nat→List V):blF f 0=[]:=rfl
theorem Qa9(f:Nat→List V)(n:Nat):blF f (n+1)=blF f n++f n:=by
 unfold blF;rw[List.range_succ,List.flatMap_append];simp
theorem Ql1(f:Nat→List V)(n:Nat): ∀m,blF f (n+m)=blF f n++blF (fun i=>f (n+i)) m
 |0=>by rw[Qnl];simp
 |m+1=>by rw[show n+(m+1)=(n+m)+1 from rfl,Qa9,Ql1 f n m,Qa9,List.append_assoc]
theorem blF_cons(f:Nat→List V)(n:Nat):blF f (n+1)=f 0++blF (fun i=>f (i+1)) n:=by
 rw[Nat.add_comm,Ql1,show blF f 1=f 0 by unfold blF;simp]
 congr 1
 congr 1
 funext i
 rw[Nat.add_comm]
theorem Qbh{f g:Nat→List V}: ∀{n:Nat},(∀i,i<n→f i=g i)→blF f n=blF g n
 |0,_=>rfl
 |n+1,h=>by rw[Qa9,Qa9,Qbh (fun i hi=>h i (by omega)),h n (by omega)]
theorem Qco{f:Nat→List V}{s:Nat}(hs: ∀k,(f k).length=s): ∀n,(blF f n).length=n*s
 |0=>by rw[Qnl];simp
 |n+1=>by rw[Qa9,List.length_append,Qco hs n,hs,Nat.succ_mul]
theorem Qlu: ∀{a b:List V},HfL a→HfL b→HfL (a++b)
 |[],_,_,h=>h
 | _:: _,_,⟨h1,h2⟩,h=>⟨h1,Qlu h2 h⟩
theorem Qfd{f:Nat→List V}(h: ∀k,HfL (f k)): ∀n,HfL (blF f n)
 |0=>trivial
 |n+1=>by rw[Qa9];exact Qlu (Qfd h n) (h n)
theorem Qfn(f:Nat→List V){k n:Nat}(h:k<n):blF f n=blF f k++(f k++blF (fun i=>f (k+1+i)) (n-(k+1))):=by
 have e:n=(k+1)+(n-(k+1)):=by omega
 rw[e,Ql1,Qa9,List.append_assoc]
 rw[show k+1+(n-(k+1))-(k+1)=n-(k+1)by omega]
theorem Qih{f:Nat→List V}{s:Nat}(hs: ∀k,(f k).length=s){k n:Nat}(h:k<n):(blF f n).drop (k*s)=f k++blF (fun i=>f (k+1+i)) (n-(k+1)):=by
 rw[Qfn f h,List.drop_append,Qco hs,Nat.sub_self,List.drop_eq_nil_of_le (by rw[Qco hs];omega)]
 simp
theorem take_blF{f:Nat→List V}{s:Nat}(hs: ∀k,(f k).length=s){k n:Nat}(h:k<n):takeE s ((blF f n).drop (k*s))=some (f k):=by
 rw[Qih hs h,Qjh]
 have:Nat.ble s (f k++blF (fun i=>f (k+1+i)) (n-(k+1))).length=true:=Nat.ble_eq_true_of_le (by rw[List.length_append,hs];omega)
 rw[this,cond_true,List.take_append_of_le_length (by rw[hs];omega),List.take_of_length_le (by rw[hs];omega)]
theorem Qt3{f:Nat→List V}{s:Nat}(hs: ∀k,(f k).length=s){k n:Nat}(h:k<n):takeE s (dropF (k*s) (blF f n))=some (f k):=by rw[Qat];exact take_blF hs h
def upB(f:Nat→List V)(k:Nat)(x:List V):Nat→List V:=fun i=>if i=k then x else f i
theorem Qmg{f:Nat→List V}{s:Nat}(hs: ∀k,(f k).length=s){k n:Nat}(h:k<n){x:List V}(hx:x.length=s):layE (k*s) (blF f n) x=some (blF (upB f k x) n):=by
 have hle:k*s+s≤n*s:=by rw[←Nat.succ_mul];exact Nat.mul_le_mul_right _ h
 rw[Qd9,Qco hs]
 have:Nat.ble (k*s+x.length) (n*s)=true:=Nat.ble_eq_true_of_le (by rw[hx];exact hle)
 rw[this,cond_true,hx,←Nat.succ_mul]
 congr 1
 rw[Qfn (upB f k x) h]
 have e1:blF (upB f k x) k=blF f k:=Qbh fun i hi=>by unfold upB;rw[if_neg (by omega)]
 have e2:(fun i=>upB f k x (k+1+i))=fun i=>f (k+1+i):=by funext i;unfold upB;rw[if_neg (by omega)]
 have e3:upB f k x k=x:=by unfold upB;rw[if_pos rfl]
 rw[e1,e2,e3,List.append_assoc]
 have t1:(blF f n).take (k*s)=blF f k:=by
  rw[Qfn f h,List.take_append_of_le_length (by rw[Qco hs];omega),List.take_of_length_le (by rw[Qco hs];omega)]
 have t2:(blF f n).drop (k.succ*s)=blF (fun i=>f (k+1+i)) (n-(k+1)):=by
  rw[Nat.succ_mul,←List.drop_drop,Qih hs h,List.drop_append,hs,Nat.sub_self,List.drop_eq_nil_of_le (by rw[hs];omega)]
  simp
 rw[t1,t2]
theorem Qgp{z:List V}: ∀n,rep n z=blF (fun _=>z) n
 |0=>rfl
 |n+1=>by rw[rep,Qgp n,blF_cons]
def entM(q:Nat→Nat×Nat):Nat→List (V×V×Nat)
 |0=>[]
 |k+1=>entM q k++[(.agg [i6 ((q k).1:Nat),u6 ((q k).2:Nat)],i6 (k:Nat),k)]
def upQ(q:Nat→Nat×Nat)(k:Nat)(x:Nat×Nat):Nat→Nat×Nat:=fun j=>if j=k then x else q j
theorem Qny(q:Nat→Nat×Nat): ∀k,(entM q k).length=k
 |0=>rfl
 |k+1=>by rw[entM,List.length_append,Qny q k];rfl
theorem Qhj{q r:Nat→Nat×Nat}: ∀{k:Nat},(∀j,j<k→q j=r j)→entM q k=entM r k
 |0,_=>rfl
 |k+1,h=>by rw[entM,entM,Qhj (fun j hj=>h j (by omega)),h k (by omega)]
theorem Qrh(q:Nat→Nat×Nat)(k v p:Nat):entM (upQ q k (v,p)) (k+1)=entM q k++[(.agg [i6 (v:Nat),u6 (p:Nat)],i6 (k:Nat),k)]:=by
 have e:upQ q k (v,p) k=(v,p):=if_pos rfl
 rw[entM,e,Qhj (q:=upQ q k (v,p)) (r:=q) (fun j hj=>if_neg (by omega))]
theorem Qql: ∀{a b:List (V×V×Nat)},HfE a→HfE b→HfE (a++b)
 |[],_,_,h=>h
 | _:: _,_,h,k=>⟨h.1,h.2.1,Qql h.2.2 k⟩
theorem Qac(q:Nat→Nat×Nat): ∀k,HfE (entM q k)
 |0=>trivial
 |k+1=>Qql (Qac q k) ⟨⟨trivial,trivial,trivial⟩,trivial,trivial⟩
theorem Qhn{ks:List Bool}{xs ys:List V}{v:V}{n:Nat}{es:List (V×V×Nat)}{i:Nat}:findS ks xs ((.agg ys,v,n)::es) i=(match eqL ks xs ys with|some true=>some (some (i,v))|some false=>findS ks xs es (i+1)|none=>none):=rfl
theorem Qfy{ks:List Bool}{xs:List V}{b:List (V×V×Nat)}: ∀{a:List (V×V×Nat)}{i:Nat},(findS ks xs a i=some none→findS ks xs (a++b) i=findS ks xs b (i+a.length))∧(∀r,findS ks xs a i=some (some r)→findS ks xs (a++b) i=some (some r))
 |[],i=>⟨fun _=>rfl,fun r h=>by cases h⟩
 | (k, v, n) :: a, i => by
  have ih:=@Qfy ks xs b a (i+1)
  cases k with
  | agg ys =>
   rw[List.cons_append,Qhn,Qhn]
   cases eqL ks xs ys with
   |none=>exact⟨fun h=>(by cases h),fun r h=>(by cases h)⟩
   | some t =>
    cases t with
    |true=>exact⟨fun h=>(by cases h),fun r h=>h⟩
    |false=>
     dsimp only
     refine⟨fun h=>?_,fun r h=>ih.2 r h⟩
     rw[ih.1 h,List.length_cons,show i+1+a.length=i+(a.length+1)by omega]
  | _=>exact⟨fun h=>(by simp[findS]at h),fun r h=>(by simp[findS]at h)⟩
theorem find_entM(q:Nat→Nat×Nat)(v p:Nat): ∀k,(∃j,j<k∧q j=(v,p)∧findS [true,true] [i6 (v:Nat),u6 (p:Nat)] (entM q k) 0=some (some (j,i6 (j:Nat))))∨((∀j,j<k→q j≠(v,p))∧findS [true,true] [i6 (v:Nat),u6 (p:Nat)] (entM q k) 0=some none)
 |0=>.inr ⟨fun j h=>absurd h (Nat.not_lt_zero _),rfl⟩
 | k + 1 => by
  rcases find_entM q v p k with⟨j,h1,h2,h3⟩|⟨h1,h2⟩
  ·exact .inl ⟨j,by omega,h2,by rw[entM];exact Qfy.2 _ h3⟩
  ·have e : findS [true, true] [i6 (v : Nat), u6 (p : Nat)] (entM q (k + 1)) 0 = findS [true, true] [i6 (v : Nat), u6 (p : Nat)] [(.agg [i6 ((q k).1 : Nat), u6 ((q k).2 : Nat)], i6 (k : Nat), k)] k := by
    rw[entM,Qfy.1 h2,Nat.zero_add,Qny]
   have e2:findS [true,true] [i6 (v:Nat),u6 (p:Nat)] [(.agg [i6 ((q k).1:Nat),u6 ((q k).2:Nat)],i6 (k:Nat),k)] k=(match some (((v:Int)==((q k).1:Int))&&(((p:Int)==((q k).2:Int))&&true))with|some true=>some (some (k,i6 (k:Nat)))|some false=>some none|none=>none):=by
    rfl
   by_cases hq:q k=(v,p)
   ·refine .inl ⟨k, by omega, hq, ?_⟩
    rw[e,e2,hq];simp
   ·refine .inr ⟨fun j hj => ?_, ?_⟩
    ·by_cases ej : j = k
     ·rw[ej];exact hq
     ·exact h1 j (by omega)
    ·rw [e, e2]
     have:(((v:Int)==((q k).1:Int))&&(((p:Int)==((q k).2:Int))&&true))=false:=by
      cases hb:(((v:Int)==((q k).1:Int))&&(((p:Int)==((q k).2:Int))&&true))with
      |false=>rfl
      |true=>
       simp only[Bool.and_true,Bool.and_eq_true,beq_iff_eq]at hb
       exact absurd (Prod.ext (by dsimp only;omega) (by dsimp only;omega)) hq
     rw[this]
abbrev bF(B:Nat→Nat→Int)(n:Nat):List V:=blF (fun i=>arF (B i)) n
theorem bF_len(B:Nat→Nat→Int)(n:Nat):(bF B n).length=n*18:=Qco (s:=18) (fun _=>rfl) n
theorem Qaa(B:Nat→Nat→Int)(n:Nat):HfL (bF B n):=Qfd (fun k=>HfL_ar (B k)) n
theorem Qa3{B:Nat→Nat→Int}{n j:Nat}(h:j<n):takeE 18 (dropF (j*18) (bF B n))=some (arF (B j)):=Qt3 (f:=fun i=>arF (B i)) (s:=18) (fun _=>rfl) h
theorem Qea{B:Nat→Nat→Int}{n j:Nat}(h:j<n)(x:Nat→Int):layE (0+j*18) (bF B n) (arF x)=some (bF (fun i=>if i=j then x else B i) n):=by
 rw[Nat.zero_add,Qmg (f:=fun i=>arF (B i)) (s:=18) (x:=arF x) (fun _=>rfl) h rfl]
 congr 1
 refine Qbh fun i hi=>?_
 unfold upB
 dsimp only
 split<;>rfl
abbrev scF(F:Nat→Nat→Nat→Int)(q:Nat→Nat×Nat):Nat→Nat→Int:=fun j=>F (q j).1 (q j).2
theorem scF_up(F:Nat→Nat→Nat→Int)(q:Nat→Nat×Nat)(k v p:Nat):bF (scF F (upQ q k (v,p))) (k+1)=bF (scF F q) k++arF (F v p):=by
 have e:upQ q k (v,p) k=(v,p):=if_pos rfl
 show blF _ (k+1)=_
 rw[Qa9]
 congr 1
 ·exact Qbh fun i hi=>by show arF (F (upQ q k (v,p) i).1 _)=arF (F (q i).1 _);rw[show upQ q k (v,p) i=q i from if_neg (by omega)]
 ·show arF (F (upQ q k (v,p) k).1 _)=_;rw[e]
mutual
theorem Hf.sc{D:Nat→Prop}: ∀(x:V),Hf x→Sc D x
 | .bool _,_| .int _ _,_| .str _,_| .nilp,_| .nilf,_| .nili,_| .nils,_| .nilm,_| .im _ _,_| .imp _,_=>trivial
 | .fn _ l,h=>HfL.sc l h
 | .agg l,h=>HfL.sc l h
 | .tup l,h=>HfL.sc l h
 | .ifc _ x,h=>Hf.sc x h
 | .ptr _ _,h| .sl _ _ _ _,h| .mp _,h| .yld _,h=>h.elim
theorem HfL.sc{D:Nat→Prop}: ∀(l:List V),HfL l→ScL D l
 |[],_=>trivial
 |x::xs,h=>⟨Hf.sc x h.1,HfL.sc xs h.2⟩
end
theorem HfE.sc{D:Nat→Prop}: ∀(l:List (V×V×Nat)),HfE l→ScE D l
 |[],_=>trivial
 |(k,v,_)::es,h=>⟨Hf.sc k h.1,Hf.sc v h.2.1,HfE.sc es h.2.2⟩
theorem CallSpec.dropTo{P:Program}{gl:T (List V)}{f0:Nat}{caps ars:List V}{H H' H'':T O}{nx nx1 nx':Nat}{v:V}{lg:List Nat}(hnx:nx≤nx1)(hle:nx1≤nx')(h:CallSpec P gl (.fn f0 caps) ars H nx ⟨v,H',nx',lg⟩)(hv:Sc (fun i=>i<nx1) v)(h1: ∀i,i<nx1→H''.get i=H'.get i)(h2: ∀i,nx1≤i→H''.get i=none)(h3: ∀i o,H''.get i=some o→ScO (fun i=>i<nx1) o)(hlog:Log H.get nx H''.get nx1 lg):CallSpec P gl (.fn f0 caps) ars H nx ⟨v,H'',nx1,lg⟩:=by
 refine⟨fun s w fv vals a1 a2 a3 a4 a5=>?_,hlog⟩
 obtain⟨next,e1,e2,e3⟩:=h.1 s w fv vals a1 a2 a3 a4 a5
 refine⟨next,e1,?_,e3⟩
 obtain⟨f',ars2,rfl⟩:=e3 ⟨f0,caps,rfl⟩
 refine CallsIn.mono e2 ?_
 rintro e w' ⟨u,s',rfl,g1,g2,g3,g4,g5⟩
 dsimp only at g4 g5
 have hdom: ∀i,s'.dom i∧i<nx1↔s.dom i∨nx≤i∧i<nx1:=fun i=>⟨fun⟨hd,hi⟩=>((g4 i).1 hd).imp id (fun⟨h,_⟩=>⟨h,hi⟩),fun hd=>hd.elim (fun hd=>⟨(g4 i).2 (.inl hd),Nat.lt_of_not_le fun h=>a5 i (by omega) hd⟩) (fun⟨h1,h2⟩=>⟨(g4 i).2 (.inr ⟨h1,by omega⟩),h2⟩)⟩
 refine⟨u,s'.cut (fun i=>i<nx1) s'.mark,rfl,RV.cut _ _ g1 hv,⟨fun i o ho hl=>?_,fun i j o o' ho ho' hl hl' e=>?_,g2.old⟩,⟨⟨⟨g3.le.μ,g3.le.cp,fun i hd=>(hdom i).2 (.inl hd),g3.le.fz⟩,g3.le.mark⟩,g3.fz,g3.kept,g3.mod,fun i hd hn=>g3.new i hd.1 hn⟩,hdom,hnx⟩
 ·have hi : i < nx1 := Nat.lt_of_not_le fun hle => by rw [h2 i hle] at ho; cases ho
  have ho':=ho
  dsimp only at ho'
  rw[h1 i hi]at ho'
  obtain⟨b1,b2,b3,b4⟩:=g2.obj i o ho' hl
  exact⟨⟨b1,hi⟩,b2,b3,RO.cut b4 (h3 i o ho)⟩
 ·have hi : i < nx1 := Nat.lt_of_not_le fun hle => by rw [h2 i hle] at ho; cases ho
  have hj:j<nx1:=Nat.lt_of_not_le fun hle=>by rw[h2 j hle]at ho';cases ho'
  dsimp only at ho ho'
  rw[h1 i hi]at ho
  rw[h1 j hj]at ho'
  exact g2.inj i j o o' ho ho' hl hl' e
theorem CallSpec.dropL{P:Program}{gl:T (List V)}{f0:Nat}{caps ars:List V}{os os1:List O}(os2:List O){v:V}{lg:List Nat}(h:CallSpec P gl (.fn f0 caps) ars (ofOs .e 0 os) os.length ⟨v,ofOs .e 0 (os1++os2),(os1++os2).length,lg⟩)(hl:os.length≤os1.length)(hv:Sc (fun i=>i<os1.length) v)(h3: ∀o∈os1,ScO (fun i=>i<os1.length) o)(hlog: ∀i,i<os.length→i∉lg→os1[i]? =os[i]?):CallSpec P gl (.fn f0 caps) ars (ofOs .e 0 os) os.length ⟨v,ofOs .e 0 os1,os1.length,lg⟩:=by
 refine CallSpec.dropTo hl (by rw[List.length_append];omega) h hv (fun i hi=>?_) (fun i hi=>Qbj (by omega)) (fun i o ho=>?_) ⟨hl,fun i hn hi=>?_⟩
 ·rw[Qb2 _ _ _ _ (Nat.zero_le _) (by omega),Qb2 _ _ _ _ (Nat.zero_le _) (by rw[List.length_append];omega),Nat.sub_zero,List.getElem?_append_left (by omega)]
 ·rcases ofOs_get os1 .e 0 i o ho with ⟨_, k⟩ | k
  ·exact h3 o (List.mem_of_getElem? k)
  ·simp at k
 ·by_cases h1 : i < os.length
  ·rw [Qb2 _ _ _ _ (Nat.zero_le _) (by omega), Qb2 _ _ _ _ (Nat.zero_le _) (by omega), Nat.sub_zero]
   exact hlog i h1 hn
  ·rw[Qbj (by omega),Qbj (by omega)]
set_option maxHeartbeats 1000000
set_option maxRecDepth 100000
section
variable (cards:List Int) (cs:List (List Int)) (F:Nat→Nat→Nat→Int) (B:Nat→Nat→Int) (size:Nat) (q:Nat→Nat×Nat)
abbrev toC(hb hm hs k:Nat):List V:=[sl cards,gC cs,.sl hb 0 size (some (size-size)),.mp hm,owV hs k]
abbrev toO0:List O:=[.row 41 none (bF B size),.map (entM q 0) 0,.row 158 none (toC cards cs size 0 1 3 0)]
abbrev toO1(k:Nat):List O:=[.row 41 none (bF B size),.map (entM q (k+1)) (k+1),.row 158 none (toC cards cs size 0 1 3 (k+1)),.row 41 (some 18) (bF (scF F q) (k+1))]
end
theorem Qas(cs:List (List Int)):HfL (cs.map sl):=Qb3 _ _ fun _=>trivial
theorem to_sc(cards:List Int)(cs:List (List Int))(F:Nat→Nat→Nat→Int)(B:Nat→Nat→Int)(size:Nat)(q:Nat→Nat×Nat)(k n:Nat)(hn:4≤n): ∀o∈toO1 cards cs F B size q k,ScO (fun i=>i<n) o:=by
 intro o ho
 simp only[List.mem_cons,List.not_mem_nil,or_false]at ho
 rcases ho with rfl|rfl|rfl|rfl
 ·exact HfL.sc _ (Qaa _ _)
 ·exact HfE.sc _ (Qac _ _)
 ·exact⟨trivial,trivial,(show 0<n by omega),(show 1<n by omega),(show 3<n by omega),trivial⟩
 ·exact HfL.sc _ (Qaa _ _)
theorem fam_hit(cards:List Int)(cs:List (List Int))(F:Nat→Nat→Nat→Int)(B:Nat→Nat→Int)(size:Nat)(q:Nat→Nat×Nat)(k v p j:Nat)(hj:j<k+1)(hq:q j=(v,p))(hf:findS [true,true] [i6 (v:Nat),u6 (p:Nat)] (entM q (k+1)) 0=some (some (j,i6 (j:Nat)))):
  CallSpec Pg g0 (.fn 111 []) [.ptr 2 0,i6 (v:Nat),u6 (p:Nat)] (ofOs .e 0 (toO1 cards cs F B size q k)) 4 ⟨.tup [ar (F v p),i6 0],ofOs .e 0 (toO1 cards cs F B size q k),4,[]⟩:=by
 have h:=CallSpec.of_vcH (P:=Pg) (E:=vE) vE_ok mixed Qab (n:=1000) (f:=111) (os0:=toO1 cards cs F B size q k) (ars:=[.ptr 2 0,i6 (v:Nat),u6 (p:Nat)]) (r:=[4])
  (S := { sl := [(6, .ptr 4 0), (7, i6 0)], os := toO1 cards cs F B size q k ++ [.row 41 none (arF (F v p))], md := [0, 0, 1] }) (v := .tup [ar (F v p), i6 0]) (hs := [lk 22 (entM q (k + 1)) (k + 1) (some (j, i6 (j : Nat))), pl 31, ld 32 (ar (F v p))]) (gl := g0) (by simp) (fun i hi _ => by
   rcases(show i=0∨i=1∨i=2∨i=3 by simp at hi;omega)with rfl|rfl|rfl|rfl<;>rfl) (by
  have hB:=Qaa B size
  have hS:=Qaa (scF F q) (k+1)
  have hE:=Qac q (k+1)
  have hc:=Qae cards
  have hg:=Qas cs
  have ht:=@Qa3 (scF F q) (k+1) j hj
  have e1:scF F q j=F v p:=by show F (q j).1 (q j).2=_;rw[hq]
  rw[e1]at ht
  clear e1 hq
  refine Eq.mp (by kernel_rfl:(let z0:=bF (scF F q) (k+1);let z1:=entM q (k+1);let z2:=arF (F v p);An [V.tup [V.agg z2,i6 0]=V.tup [ar (F v p),i6 0],An [gt (pt (pt (pt (ofOs T.e 0 (toO1 cards cs F B size q k)) 4 (O.row 41 none [i6 0,i6 0,i6 0,i6 0,i6 0,i6 0,i6 0,i6 0,i6 0,i6 0,i6 0,i6 0,i6 0,i6 0,i6 0,i6 0,i6 0,i6 0])) 5 (O.row 209 none [i6 0,u6 0])) 5 (O.row 209 none [i6 ↑v,u6 ↑p])) 1=some (O.map z1 (k+1)),findS [true,true] [i6 ↑v,u6 ↑p] z1 0=some (some (j,i6 ↑j))],An [(0:Int)≤(↑j:Int),(↑j:Int)<(↑(k+1):Int)],takeE 18 (dropF (0+j*18) z0)=some z2,An [Zz,Sm (0:Int),Tt],An [Sm (bF B size),HfL (bF B size)],An [z1=z1,HfE z1,Sm (k+1)],An [An [Sm cards.length,Sm (ints cards)],An [Sm cs.length,Sm (List.map sl cs)],An [Zz,Sm size,Sm (size-size)],Tt,An [Zz,Sm (k+1),Tt],Tt],An [z0=z0,HfL z0],An [z2=z2,TT 18],Tt])=_) ?_
  (repeat'(first|(with_reducible apply And.intro)|(refine fun(_:True)=>?_)))
  all_goals first|exact aq|exact hf|exact hB|exact hS|(rw[Nat.zero_add];exact ht)|exact hE|(show gt _ 1=some (O.map _ _);kernel_rfl)|rfl|skip)
 exact CallSpec.dropL (os1:=toO1 cards cs F B size q k) [.row 41 none (arF (F v p))] h (Nat.le_refl _) ⟨HfL.sc _ (HfL_ar _),trivial,trivial⟩ (to_sc cards cs F B size q k 4 (Nat.le_refl _)) (fun i hi _=>rfl)
theorem Qru(cards:List Int)(cs:List (List Int))(F:Nat→Nat→Nat→Int)(B:Nat→Nat→Int)(size:Nat)(q:Nat→Nat×Nat)(v p:Nat)(hsc:FnOk Pg g0 22 [gV cards cs,i6 (v:Nat),u6 (p:Nat)] (.tup [ar (F v p),i6 0])):
  CallSpec Pg g0 (.fn 111 []) [.ptr 2 0,i6 (v:Nat),u6 (p:Nat)] (ofOs .e 0 (toO0 cards cs B size q)) 3 ⟨.tup [ar (F v p),i6 0],ofOs .e 0 (toO1 cards cs F B size (upQ q 0 (v,p)) 0),4,[1,2]⟩:=by
 have h:=CallSpec.of_vcH (P:=Pg) (E:=vE) vE_ok mixed Qab (n:=1000) (f:=111) (os0:=toO0 cards cs B size q) (ars:=[.ptr 2 0,i6 (v:Nat),u6 (p:Nat)]) (r:=[7,3])
  (S := { sl := [(6, .ptr 4 0), (7, i6 0)], os := toO1 cards cs F B size (upQ q 0 (v, p)) 0 ++ [.row 41 none (arF (F v p))], md := [0, 0, 1], lg := [1, 2] }) (v := .tup [ar (F v p), i6 0]) (hs := [lk 22 [] 0 none, fn 40 (.tup [ar (F v p), i6 0]), st (arF (F v p)), up [] 0 (.map [(.agg [i6 (v : Nat), u6 (p : Nat)], i6 0, 0)] 1)]) (gl := g0) (by simp) (fun i hi hno => by
   rcases(show i=0∨i=1∨i=2 by simp at hi;omega)with rfl|rfl|rfl
   ·rfl
   ·simp at hno
   ·simp at hno) (by
  have hB:=Qaa B size
  have hc:=Qae cards
  have hg:=Qas cs
  have e1:=scF_up F q 0 v p
  have e2:=Qrh q 0 v p
  have hE:HfE (entM (upQ q 0 (v,p)) (0+1)):=Qac _ _
  have hS:HfL (bF (scF F (upQ q 0 (v,p))) (0+1)):=Qaa _ _
  refine Eq.mp (by kernel_rfl:(let z0:=[i6 0,i6 0,i6 0,i6 0,i6 0,i6 0,i6 0,i6 0,i6 0,i6 0,i6 0,i6 0,i6 0,i6 0,i6 0,i6 0,i6 0,i6 0];let z2:=[i6 ↑v,u6 ↑p];let z3:=arF (F v p);let z4:=upQ q 0 (v,p);let z5:=List.map sl cs;let z6:=V.tup [ar (F v p),i6 0];let z1:=pt (pt (pt (ofOs T.e 0 (toO0 cards cs B size q)) 3 (O.row 41 none z0)) 4 (O.row 209 none [i6 0,u6 0])) 4 (O.row 209 none z2);An [V.tup [V.agg z3,i6 0]=z6,An [gt z1 1=some (O.map [] 0),findS [true,true] z2 [] 0=some none],An [TT 2,TT 2],FnOk Pg g0 22 [V.agg [V.im cards.length (ints cards),V.im cs.length z5],i6 ↑v,u6 ↑p] z6,Tt,layE 0 z0 z3=some z3,An [gt (pt (pt z1 5 (O.row 41 none z0)) 5 (O.row 41 none z3)) 1=some (O.map [] 0),putS [true,true] z2 (i6 ↑(0:Nat)) [] 0=some (O.map [(V.agg z2,i6 0,0)] 1)],An [Zz,Sm (0:Int),Tt],An [Sm (bF B size),HfL (bF B size)],An [entM z4 1=[(V.agg z2,i6 0,0)],HfE (entM z4 1),1=1],An [An [Sm cards.length,Sm (ints cards)],An [Sm cs.length,z5=z5],An [Zz,Sm size,Sm (size-size)],Tt,An [Zz,1=1,Tt],Tt],An [bF (scF F z4) 1=z3,TT 18],An [z3=z3,TT 18],Tt])=_) ?_
  (repeat'(first|(with_reducible apply And.intro)|(refine fun(_:True)=>?_)))
  all_goals first|exact aq|exact hB|exact hS|exact hE|exact e1|exact e2|(show gt _ 1=some (O.map _ _);kernel_rfl)|rfl|skip)
 exact CallSpec.dropL (os1:=toO1 cards cs F B size (upQ q 0 (v,p)) 0) [.row 41 none (arF (F v p))] h (by simp) ⟨HfL.sc _ (HfL_ar _),trivial,trivial⟩ (to_sc cards cs F B size _ 0 4 (Nat.le_refl _)) (fun i hi hno=>by
  rcases(show i=0∨i=1∨i=2 by simp at hi;omega)with rfl|rfl|rfl
  ·rfl
  ·simp at hno
  ·simp at hno)
abbrev toO2(cards:List Int)(cs:List (List Int))(F:Nat→Nat→Nat→Int)(B:Nat→Nat→Int)(size:Nat)(q:Nat→Nat×Nat)(k:Nat):List O:=[.row 41 none (bF B size),.map (entM q (k+1)) (k+1),.row 158 none (toC cards cs size 0 1 4 (k+1)),.dead,.row 41 (some 18) (bF (scF F q) (k+1))]
theorem to_sc2(cards:List Int)(cs:List (List Int))(F:Nat→Nat→Nat→Int)(B:Nat→Nat→Int)(size:Nat)(q:Nat→Nat×Nat)(k n:Nat)(hn:5≤n): ∀o∈toO2 cards cs F B size q k,ScO (fun i=>i<n) o:=by
 intro o ho
 simp only[List.mem_cons,List.not_mem_nil,or_false]at ho
 rcases ho with rfl|rfl|rfl|rfl|rfl
 ·exact HfL.sc _ (Qaa _ _)
 ·exact HfE.sc _ (Qac _ _)
 ·exact⟨trivial,trivial,(show 0<n by omega),(show 1<n by omega),(show 4<n by omega),trivial⟩
 ·trivial
 ·exact HfL.sc _ (Qaa _ _)
theorem Qrv(cards:List Int)(cs:List (List Int))(F:Nat→Nat→Nat→Int)(B:Nat→Nat→Int)(size:Nat)(q:Nat→Nat×Nat)(k v p:Nat)(hk:k≤1000000)(hf:findS [true,true] [i6 (v:Nat),u6 (p:Nat)] (entM q (k+1)) 0=some none)(hsc:FnOk Pg g0 22 [gV cards cs,i6 (v:Nat),u6 (p:Nat)] (.tup [ar (F v p),i6 0])):
  CallSpec Pg g0 (.fn 111 []) [.ptr 2 0,i6 (v:Nat),u6 (p:Nat)] (ofOs .e 0 (toO1 cards cs F B size q k)) 4 ⟨.tup [ar (F v p),i6 0],ofOs .e 0 (toO2 cards cs F B size (upQ q (k+1) (v,p)) (k+1)),5,[1,2,3]⟩:=by
 have h:=CallSpec.of_vcH (P:=Pg) (E:=vE) vE_ok mixed Qab (n:=1000) (f:=111) (os0:=toO1 cards cs F B size q k) (ars:=[.ptr 2 0,i6 (v:Nat),u6 (p:Nat)]) (r:=[8,4])
  (S := { sl := [(6, .ptr 5 0), (7, i6 0)], os := toO2 cards cs F B size (upQ q (k + 1) (v, p)) (k + 1) ++ [.row 41 none (arF (F v p))], md := [0, 0, 1], lg := [1, 2, 3] }) (v := .tup [ar (F v p), i6 0]) (hs := [lk 22 (entM q (k + 1)) (k + 1) none, fn 40 (.tup [ar (F v p), i6 0]), st (arF (F v p)), up (entM q (k + 1)) (k + 1) (.map (entM (upQ q (k + 1) (v, p)) (k + 1 + 1)) (k + 1 + 1)), ap 64]) (gl := g0) (by simp) (fun i hi hno => by
   rcases(show i=0∨i=1∨i=2∨i=3 by simp at hi;omega)with rfl|rfl|rfl|rfl
   ·rfl
   ·simp at hno
   ·simp at hno
   ·simp at hno) (by
  have hB:=Qaa B size
  have hc:=Qae cards
  have hg:=Qas cs
  have e1:=scF_up F q (k+1) v p
  have e2:=Qrh q (k+1) v p
  have e3:putS [true,true] [i6 (v:Nat),u6 (p:Nat)] (i6 ((k+1:Nat):Int)) (entM q (k+1)) (k+1)=some (.map (entM (upQ q (k+1) (v,p)) (k+1+1)) (k+1+1)):=by
   unfold putS;rw[hf,e2]
  have hl:=bF_len (scF F q) (k+1)
  have hE:=Qac (upQ q (k+1) (v,p)) (k+1+1)
  have hS:HfL (bF (scF F (upQ q (k+1) (v,p))) (k+1+1)):=Qaa _ _
  have hS0:HfL (bF (scF F q) (k+1)):=Qaa _ _
  refine Eq.mp (by kernel_rfl:(let z0:=[i6 0,i6 0,i6 0,i6 0,i6 0,i6 0,i6 0,i6 0,i6 0,i6 0,i6 0,i6 0,i6 0,i6 0,i6 0,i6 0,i6 0,i6 0];let z3:=arF (F v p);let z5:=entM q (k+1);let z6:=[i6 ↑v,u6 ↑p];let z7:=List.map sl cs;let z8:=V.tup [ar (F v p),i6 0];let z9:=upQ q (k+1) (v,p);let y1:=bF (scF F q) (k+1);let z1:=pt (pt (pt (ofOs T.e 0 (toO1 cards cs F B size q k)) 4 (O.row 41 none z0)) 5 (O.row 209 none [i6 0,u6 0])) 5 (O.row 209 none z6);let z2:=entM z9 (k+1+1);let z4:=bF (scF F z9) (k+1+1);let y0:=some (O.map z5 (k+1));An [V.tup [V.agg z3,i6 0]=z8,An [gt z1 1=y0,findS [true,true] z6 z5 0=some none],An [TT 2,TT 2],FnOk Pg g0 22 [V.agg [V.im cards.length (ints cards),V.im cs.length z7],i6 ↑v,u6 ↑p] z8,Tt,layE 0 z0 z3=some z3,An [gt (pt (pt z1 6 (O.row 41 none z0)) 6 (O.row 41 none z3)) 1=y0,putS [true,true] z6 (i6 ↑(k+1)) z5 (k+1)=some (O.map z2 (k+1+1))],y1.length=(k+1)*18,k+1+1≤9223372036854775807,(k+1+1)*144≤140737488355328,An [Zz,Sm (0:Int),Tt],An [Sm (bF B size),HfL (bF B size)],An [z2=z2,HfE z2,Sm (k+1+1)],An [An [Sm cards.length,Sm (ints cards)],An [Sm cs.length,z7=z7],An [Zz,Sm size,Sm (size-size)],Tt,An [Zz,Nat.succ k+1=k+1+1,Tt],Tt],Tt,An [z4=y1++z3,HfL z4],An [z3=z3,TT 18],Tt])=_) ?_
  (repeat'(first|(with_reducible apply And.intro)|(refine fun(_:True)=>?_)))
  all_goals first|exact aq|exact hB|exact hS|exact hS0|exact hE|exact hf|exact e3|exact e1|exact e1.symm|exact hl|(show gt _ 1=some (O.map _ _);kernel_rfl)|rfl|skip)
 exact CallSpec.dropL (os1:=toO2 cards cs F B size (upQ q (k+1) (v,p)) (k+1)) [.row 41 none (arF (F v p))] h (by simp) ⟨HfL.sc _ (HfL_ar _),trivial,trivial⟩ (to_sc2 cards cs F B size _ (k+1) 5 (Nat.le_refl _)) (fun i hi hno=>by
  rcases(show i=0∨i=1∨i=2∨i=3 by simp at hi;omega)with rfl|rfl|rfl|rfl
  ·rfl
  ·simp at hno
  ·simp at hno
  ·simp at hno)
set_option maxHeartbeats 1000000
set_option maxRecDepth 100000
abbrev z18:List V:=arF (fun _=>0)
theorem Qos(cards:List Int)(cs:List (List Int))(F:Nat→Nat→Nat→Int)(B:Nat→Nat→Int)(size:Nat)(q:Nat→Nat×Nat)(k s t v p b j:Nat)(x:Nat→Int)(hj:j<k+1)(hq:q j=(v,p))(hf:findS [true,true] [i6 (v:Nat),u6 (p:Nat)] (entM q (k+1)) 0=some (some (j,i6 (j:Nat))))(ht:t<size)
  (h1: ∀G T,binV G .shl T (i6 1) (i6 (v:Nat))=some (i6 (b:Nat)))(h2: ∀G T,binV G .andNot T (i6 (s:Nat)) (i6 (b:Nat))=some (i6 (t:Nat)))(hadd:FnOk Pg g0 34 [ar (B t),ar (F v p)] (.tup [ar x,i6 0])):
  CallSpec Pg g0 (.fn 90 []) [.ptr 2 0,i6 (s:Nat),i6 (v:Nat),u6 (p:Nat)] (ofOs .e 0 (toO1 cards cs F B size q k)) 4 ⟨.tup [ar x,i6 0],ofOs .e 0 (toO1 cards cs F B size q k),4,[]⟩:=by
 have hB:=Qaa B size
 have hS:=Qaa (scF F q) (k+1)
 have hE:=Qac q (k+1)
 have hE0:=hE
 have hS0:=hS
 have hc:=Qae cards
 have hg:=Qas cs
 have htk:=@Qa3 B size t ht
 have hcall:CallSpec Pg g0 (.fn 111 []) [.ptr 2 0,i6 (v:Nat),u6 (p:Nat)] (ofOs .e 0 (toO1 cards cs F B size q k++[.row 41 none z18])) 5 ⟨.tup [ar (F v p),i6 0],ofOs .e 0 (toO1 cards cs F B size q k++[.row 41 none z18]),5,[]⟩:=
  CallSpec.frameL (OS:=toO1 cards cs F B size q k++[.row 41 none z18]) (OS':=toO1 cards cs F B size q k++[.row 41 none z18]) [0,1,2,3] [(0,0),(1,1),(2,2),(3,3)] [0,0,1] [0,0,1] (fam_hit cards cs F B size q k v p j hj hq hf) (by kernel_rfl) (by
   refine Eq.mp (by kernel_rfl:(An [Zz,Sm (↑v:Int),Sm (↑p:Int),Tt])=_) ?_
   (repeat'(first|(with_reducible apply And.intro)|(refine fun(_:True)=>?_)))<;>first|exact aq|skip) (by
   refine Eq.mp (by kernel_rfl:(let z0:=bF (scF F q) (k+1);let z1:=entM q (k+1);An [An [Sm (bF B size),HfL (bF B size)],An [z1=z1,HfE z1,Sm (k+1)],An [An [Sm cards.length,Sm (ints cards)],An [Sm cs.length,Sm (List.map sl cs)],An [Zz,Sm size,Sm (size-size)],Tt,An [Zz,Sm (k+1),Tt],Tt],An [z0=z0,HfL z0],Tt])=_) ?_
   (repeat'(first|(with_reducible apply And.intro)|(refine fun(_:True)=>?_)))
   all_goals first|exact aq|exact hB|exact hS|exact hS0|exact hE|exact hE0|rfl|skip) (by
   refine Eq.mp (by kernel_rfl:(An [An [Sm (F v p 0),Sm (F v p 1),Sm (F v p 2),Sm (F v p 3),Sm (F v p 4),Sm (F v p 5),Sm (F v p 6),Sm (F v p 7),Sm (F v p 8),Sm (F v p 9),Sm (F v p 10),Sm (F v p 11),Sm (F v p 12),Sm (F v p 13),Sm (F v p 14),Sm (F v p 15),Sm (F v p 16),Sm (F v p 17),Tt],Sm (0:Int),Tt])=_) ?_
   (repeat'(first|(with_reducible apply And.intro)|(refine fun(_:True)=>?_)))<;>first|exact aq|skip) (by
   refine Eq.mp (by kernel_rfl:(let z0:=toO1 cards cs F B size q k;let z1:=O.row 41 none z18;let z2:=bF (scF F q) (k+1);let z3:=entM q (k+1);let z4:=bF B size;An [(z0++[z1])[0]? =some (O.row 41 none z4),An [z4=z4,HfL z4],(z0++[z1])[1]? =some (O.map z3 (k+1)),An [z3=z3,HfE z3,Sm (k+1)],(z0++[z1])[2]? =some (O.row 158 none (toC cards cs size 0 1 3 (k+1))),An [An [Sm cards.length,Sm (ints cards)],An [Sm cs.length,Sm (List.map sl cs)],An [Zz,Sm size,Sm (size-size)],Tt,An [Zz,Sm (k+1),Tt],Tt],(z0++[z1])[3]? =some (O.row 41 (some 18) z2),An [z2=z2,HfL z2],(z0++[z1])[4]? =some z1,(z0++[z1])[4]? =some z1,Tt])=_) ?_
   (repeat'(first|(with_reducible apply And.intro)|(refine fun(_:True)=>?_)))
   all_goals first|exact aq|exact hB|exact hS|exact hS0|exact hE|exact hE0|rfl|skip)
 have h:=CallSpec.of_vcH (P:=Pg) (E:=vE) vE_ok mixed Qab (n:=1000) (f:=90) (os0:=toO1 cards cs F B size q k) (ars:=[.ptr 2 0,i6 (s:Nat),i6 (v:Nat),u6 (p:Nat)]) (r:=[4])
  (S := { sl := [(8, .ptr 4 0), (9, i6 0)], os := toO1 cards cs F B size q k ++ [.row 41 none (arF x)], md := [0, 0, 1], lg := [] }) (v := .tup [ar x, i6 0]) (hs := [(16, .call ⟨.tup [ar (F v p), i6 0], ofOs .e 0 (toO1 cards cs F B size q k ++ [.row 41 none z18]), 5, []⟩), va 29 (i6 (b : Nat)), va 30 (i6 (t : Nat)), pl 31, ld 32 (ar (B t)), fn 34 (.tup [ar x, i6 0])]) (gl := g0) (by simp) (fun i hi _ => by
   rcases(show i=0∨i=1∨i=2∨i=3 by simp at hi;omega)with rfl|rfl|rfl|rfl<;>rfl) (by
  refine Eq.mp (by kernel_rfl:(let z0:=bF (scF F q) (k+1);let z1:=toO1 cards cs F B size q k;let z2:=entM q (k+1);let z3:=bF B size;An [V.tup [V.agg (arF x),i6 0]=V.tup [ar x,i6 0],CallSpec Pg g0 (V.fn 111 []) [V.ptr 2 0,i6 ↑v,u6 ↑p] (pt (ofOs T.e 0 z1) 4 (O.row 41 none [i6 0,i6 0,i6 0,i6 0,i6 0,i6 0,i6 0,i6 0,i6 0,i6 0,i6 0,i6 0,i6 0,i6 0,i6 0,i6 0,i6 0,i6 0])) 5 (CR.mk (V.tup [ar (F v p),i6 0]) (ofOs T.e 0 (z1++[O.row 41 none z18])) 5 []),Tt,binV (Qad Pg) .shl 3 (i6 1) (i6 ↑v)=some (i6 ↑b),binV (Qad Pg) .andNot 3 (i6 ↑s) (i6 ↑b)=some (i6 ↑t),An [(0:Int)≤(↑t:Int),(↑t:Int)<(↑size:Int)],takeE 18 (dropF (0+t*18) z3)=some (arF (B t)),An [TT 18,TT 18,Tt],FnOk Pg g0 34 [V.agg (arF (B t)),V.agg (arF (F v p))] (V.tup [ar x,i6 0]),Tt,An [Zz,Sm (0:Int),Tt],An [z3=z3,HfL z3],An [z2=z2,HfE z2,Sm (k+1)],An [An [Sm cards.length,Sm (ints cards)],An [Sm cs.length,Sm (List.map sl cs)],An [Zz,Sm size,Sm (size-size)],Tt,An [Zz,Sm (k+1),Tt],Tt],An [z0=z0,HfL z0],An [Sm (arF x),TT 18],Tt])=_) ?_
  (repeat'(first|(with_reducible apply And.intro)|(refine fun(_:True)=>?_)))
  all_goals first|(with_reducible exact h1 _ _)|(with_reducible exact h2 _ _)|exact aq|exact hcall|exact hB|exact hS|exact hS0|exact hE|exact hE0|exact hadd|(rw[Nat.zero_add];exact htk)|exact h1 _ _|exact h2 _ _|rfl|skip)
 exact CallSpec.dropL (os1:=toO1 cards cs F B size q k) [.row 41 none (arF x)] h (by simp) ⟨HfL.sc _ (HfL_ar _),trivial,trivial⟩ (to_sc cards cs F B size q k 4 (Nat.le_refl _)) (fun i hi _=>by
   rcases(show i=0∨i=1∨i=2∨i=3 by simp at hi;omega)with rfl|rfl|rfl|rfl<;>rfl)
theorem Qp5(cards:List Int)(cs:List (List Int))(F:Nat→Nat→Nat→Int)(B:Nat→Nat→Int)(size:Nat)(q:Nat→Nat×Nat)(s t v p b:Nat)(x:Nat→Int)(hsc:FnOk Pg g0 22 [gV cards cs,i6 (v:Nat),u6 (p:Nat)] (.tup [ar (F v p),i6 0]))(ht:t<size)
  (h1: ∀G T,binV G .shl T (i6 1) (i6 (v:Nat))=some (i6 (b:Nat)))(h2: ∀G T,binV G .andNot T (i6 (s:Nat)) (i6 (b:Nat))=some (i6 (t:Nat)))(hadd:FnOk Pg g0 34 [ar (B t),ar (F v p)] (.tup [ar x,i6 0])):
  CallSpec Pg g0 (.fn 90 []) [.ptr 2 0,i6 (s:Nat),i6 (v:Nat),u6 (p:Nat)] (ofOs .e 0 (toO0 cards cs B size q)) 3 ⟨.tup [ar x,i6 0],ofOs .e 0 (toO1 cards cs F B size (upQ q 0 (v,p)) 0),4,[1,2]⟩:=by
 have hB:=Qaa B size
 have hS:=Qaa (scF F (upQ q 0 (v,p))) (0+1)
 have hE:=Qac (upQ q 0 (v,p)) (0+1)
 have hE0:=Qac q 0
 have hS0:=hS
 have hc:=Qae cards
 have hg:=Qas cs
 have htk:=@Qa3 B size t ht
 have hcall:CallSpec Pg g0 (.fn 111 []) [.ptr 2 0,i6 (v:Nat),u6 (p:Nat)] (ofOs .e 0 (toO0 cards cs B size q++[.row 41 none z18])) 4 ⟨.tup [ar (F v p),i6 0],ofOs .e 0 [.row 41 none (bF B size),.map (entM (upQ q 0 (v,p)) (0+1)) (0+1),.row 158 none (toC cards cs size 0 1 4 (0+1)),.row 41 none z18,.row 41 (some 18) (bF (scF F (upQ q 0 (v,p))) (0+1))],5,[1,2]⟩:=
  CallSpec.frameL (OS:=toO0 cards cs B size q++[.row 41 none z18]) (OS':=[.row 41 none (bF B size),.map (entM (upQ q 0 (v,p)) (0+1)) (0+1),.row 158 none (toC cards cs size 0 1 4 (0+1)),.row 41 none z18,.row 41 (some 18) (bF (scF F (upQ q 0 (v,p))) (0+1))]) [0,1,2] [(0,0),(1,1),(2,2),(4,3)] [0,0,1] [0,0,1] (Qru cards cs F B size q v p hsc) (by kernel_rfl) (by
   refine Eq.mp (by kernel_rfl:(An [Zz,Sm (↑v:Int),Sm (↑p:Int),Tt])=_) ?_
   (repeat'(first|(with_reducible apply And.intro)|(refine fun(_:True)=>?_)))<;>first|exact aq|skip) (by
   refine Eq.mp (by kernel_rfl:(An [An [Sm (bF B size),HfL (bF B size)],An [Sm (entM q 0),HfE (entM q 0),Zz],An [An [Sm cards.length,Sm (ints cards)],An [Sm cs.length,Sm (List.map sl cs)],An [Zz,Sm size,Sm (size-size)],TT 2],Tt])=_) ?_
   (repeat'(first|(with_reducible apply And.intro)|(refine fun(_:True)=>?_)))
   all_goals first|exact aq|exact hB|exact hS|exact hS0|exact hE|exact hE0|rfl|skip) (by
   refine Eq.mp (by kernel_rfl:(An [An [Sm (F v p 0),Sm (F v p 1),Sm (F v p 2),Sm (F v p 3),Sm (F v p 4),Sm (F v p 5),Sm (F v p 6),Sm (F v p 7),Sm (F v p 8),Sm (F v p 9),Sm (F v p 10),Sm (F v p 11),Sm (F v p 12),Sm (F v p 13),Sm (F v p 14),Sm (F v p 15),Sm (F v p 16),Sm (F v p 17),Tt],Sm (0:Int),Tt])=_) ?_
   (repeat'(first|(with_reducible apply And.intro)|(refine fun(_:True)=>?_)))<;>first|exact aq|skip) (by
   refine Eq.mp (by kernel_rfl:(let z0:=O.row 41 none z18;let z1:=upQ q 0 (v,p);let z2:=toO0 cards cs B size q;let z3:=bF B size;An [(z2++[z0])[0]? =some (O.row 41 none z3),An [z3=z3,HfL z3],Tt,An [Sm (entM z1 1),HfE (entM z1 1),1=1],Tt,An [An [Sm cards.length,Sm (ints cards)],An [Sm cs.length,Sm (List.map sl cs)],An [Zz,Sm size,Sm (size-size)],Tt,An [Zz,1=1,Tt],Tt],(z2++[z0])[3]? =some z0,(z2++[z0])[3]? =some z0,Tt,An [Sm (bF (scF F z1) 1),TT 18],Tt])=_) ?_
   (repeat'(first|(with_reducible apply And.intro)|(refine fun(_:True)=>?_)))
   all_goals first|exact aq|exact hB|exact hS|exact hS0|exact hE|exact hE0|rfl|skip)
 have h:=CallSpec.of_vcH (P:=Pg) (E:=vE) vE_ok mixed Qab (n:=1000) (f:=90) (os0:=toO0 cards cs B size q) (ars:=[.ptr 2 0,i6 (s:Nat),i6 (v:Nat),u6 (p:Nat)]) (r:=[4,3])
  (S := { sl := [(8, .ptr 4 0), (9, i6 0)], os := toO1 cards cs F B size (upQ q 0 (v, p)) 0 ++ [.row 41 none (arF x)], md := [0, 0, 1], lg := [1, 2] }) (v := .tup [ar x, i6 0]) (hs := [(16, .call ⟨.tup [ar (F v p), i6 0], ofOs .e 0 [.row 41 none (bF B size), .map (entM (upQ q 0 (v, p)) (0 + 1)) (0 + 1), .row 158 none (toC cards cs size 0 1 4 (0 + 1)), .row 41 none z18, .row 41 (some 18) (bF (scF F (upQ q 0 (v, p))) (0 + 1))], 5, [1, 2]⟩), va 29 (i6 (b : Nat)), va 30 (i6 (t : Nat)), pl 31, ld 32 (ar (B t)), fn 34 (.tup [ar x, i6 0])]) (gl := g0) (by simp) (fun i hi hno => by
   rcases(show i=0∨i=1∨i=2 by simp at hi;omega)with rfl|rfl|rfl<;>first|rfl|(simp at hno)) (by
  refine Eq.mp (by kernel_rfl:(let z0:=upQ q 0 (v,p);let z1:=bF B size;let z2:=bF (scF F z0) 1;let z3:=entM z0 1;An [V.tup [V.agg (arF x),i6 0]=V.tup [ar x,i6 0],CallSpec Pg g0 (V.fn 111 []) [V.ptr 2 0,i6 ↑v,u6 ↑p] (pt (ofOs T.e 0 (toO0 cards cs B size q)) 3 (O.row 41 none [i6 0,i6 0,i6 0,i6 0,i6 0,i6 0,i6 0,i6 0,i6 0,i6 0,i6 0,i6 0,i6 0,i6 0,i6 0,i6 0,i6 0,i6 0])) 4 (CR.mk (V.tup [ar (F v p),i6 0]) (ofOs T.e 0 [O.row 41 none z1,O.map z3 1,O.row 158 none (toC cards cs size 0 1 4 1),O.row 41 none z18,O.row 41 (some 18) z2]) 5 [1,2]),Tt,binV (Qad Pg) .shl 3 (i6 1) (i6 ↑v)=some (i6 ↑b),binV (Qad Pg) .andNot 3 (i6 ↑s) (i6 ↑b)=some (i6 ↑t),An [(0:Int)≤(↑t:Int),(↑t:Int)<(↑size:Int)],takeE 18 (dropF (0+t*18) z1)=some (arF (B t)),An [TT 18,TT 18,Tt],FnOk Pg g0 34 [V.agg (arF (B t)),V.agg (arF (F v p))] (V.tup [ar x,i6 0]),Tt,An [Zz,Sm (0:Int),Tt],An [z1=z1,HfL z1],An [z3=z3,HfE z3,1=1],An [An [Sm cards.length,Sm (ints cards)],An [Sm cs.length,Sm (List.map sl cs)],An [Zz,Sm size,Sm (size-size)],Tt,An [Zz,1=1,Tt],Tt],An [z2=z2,TT 18],An [Sm (arF x),TT 18],Tt])=_) ?_
  (repeat'(first|(with_reducible apply And.intro)|(refine fun(_:True)=>?_)))
  all_goals first|(with_reducible exact h1 _ _)|(with_reducible exact h2 _ _)|exact aq|exact hcall|exact hB|exact hS|exact hS0|exact hE|exact hE0|exact hadd|(rw[Nat.zero_add];exact htk)|exact h1 _ _|exact h2 _ _|rfl|skip)
 exact CallSpec.dropL (os1:=toO1 cards cs F B size (upQ q 0 (v,p)) 0) [.row 41 none (arF x)] h (by simp) ⟨HfL.sc _ (HfL_ar _),trivial,trivial⟩ (to_sc cards cs F B size _ 0 4 (Nat.le_refl _)) (fun i hi hno=>by
   rcases(show i=0∨i=1∨i=2 by simp at hi;omega)with rfl|rfl|rfl<;>first|rfl|(simp at hno))
theorem Qhx(cards:List Int)(cs:List (List Int))(F:Nat→Nat→Nat→Int)(B:Nat→Nat→Int)(size:Nat)(q:Nat→Nat×Nat)(k s t v p b:Nat)(x:Nat→Int)(hk:k≤1000000)(hf:findS [true,true] [i6 (v:Nat),u6 (p:Nat)] (entM q (k+1)) 0=some none)(hsc:FnOk Pg g0 22 [gV cards cs,i6 (v:Nat),u6 (p:Nat)] (.tup [ar (F v p),i6 0]))(ht:t<size)
  (h1: ∀G T,binV G .shl T (i6 1) (i6 (v:Nat))=some (i6 (b:Nat)))(h2: ∀G T,binV G .andNot T (i6 (s:Nat)) (i6 (b:Nat))=some (i6 (t:Nat)))(hadd:FnOk Pg g0 34 [ar (B t),ar (F v p)] (.tup [ar x,i6 0])):
  CallSpec Pg g0 (.fn 90 []) [.ptr 2 0,i6 (s:Nat),i6 (v:Nat),u6 (p:Nat)] (ofOs .e 0 (toO1 cards cs F B size q k)) 4 ⟨.tup [ar x,i6 0],ofOs .e 0 (toO2 cards cs F B size (upQ q (k+1) (v,p)) (k+1)),5,[1,2,3]⟩:=by
 have hB:=Qaa B size
 have hS:=Qaa (scF F (upQ q (k+1) (v,p))) (k+1+1)
 have hE:=Qac (upQ q (k+1) (v,p)) (k+1+1)
 have hS0:=Qaa (scF F q) (k+1)
 have hE0:=Qac q (k+1)
 have hc:=Qae cards
 have hg:=Qas cs
 have htk:=@Qa3 B size t ht
 have hcall:CallSpec Pg g0 (.fn 111 []) [.ptr 2 0,i6 (v:Nat),u6 (p:Nat)] (ofOs .e 0 (toO1 cards cs F B size q k++[.row 41 none z18])) 5 ⟨.tup [ar (F v p),i6 0],ofOs .e 0 [.row 41 none (bF B size),.map (entM (upQ q (k+1) (v,p)) (k+1+1)) (k+1+1),.row 158 none (toC cards cs size 0 1 5 (k+1+1)),.dead,.row 41 none z18,.row 41 (some 18) (bF (scF F (upQ q (k+1) (v,p))) (k+1+1))],6,[1,2,3]⟩:=
  CallSpec.frameL (OS:=toO1 cards cs F B size q k++[.row 41 none z18]) (OS':=[.row 41 none (bF B size),.map (entM (upQ q (k+1) (v,p)) (k+1+1)) (k+1+1),.row 158 none (toC cards cs size 0 1 5 (k+1+1)),.dead,.row 41 none z18,.row 41 (some 18) (bF (scF F (upQ q (k+1) (v,p))) (k+1+1))]) [0,1,2,3] [(0,0),(1,1),(2,2),(3,3),(5,4)] [0,0,1] [0,0,1] (Qrv cards cs F B size q k v p hk hf hsc) (by kernel_rfl) (by
   refine Eq.mp (by kernel_rfl:(An [Zz,Sm (↑v:Int),Sm (↑p:Int),Tt])=_) ?_
   (repeat'(first|(with_reducible apply And.intro)|(refine fun(_:True)=>?_)))<;>first|exact aq|skip) (by
   refine Eq.mp (by kernel_rfl:(let z0:=bF (scF F q) (k+1);let z1:=entM q (k+1);An [An [Sm (bF B size),HfL (bF B size)],An [z1=z1,HfE z1,Sm (k+1)],An [An [Sm cards.length,Sm (ints cards)],An [Sm cs.length,Sm (List.map sl cs)],An [Zz,Sm size,Sm (size-size)],Tt,An [Zz,Sm (k+1),Tt],Tt],An [z0=z0,HfL z0],Tt])=_) ?_
   (repeat'(first|(with_reducible apply And.intro)|(refine fun(_:True)=>?_)))
   all_goals first|exact aq|exact hB|exact hS|exact hS0|exact hE|exact hE0|rfl|skip) (by
   refine Eq.mp (by kernel_rfl:(An [An [Sm (F v p 0),Sm (F v p 1),Sm (F v p 2),Sm (F v p 3),Sm (F v p 4),Sm (F v p 5),Sm (F v p 6),Sm (F v p 7),Sm (F v p 8),Sm (F v p 9),Sm (F v p 10),Sm (F v p 11),Sm (F v p 12),Sm (F v p 13),Sm (F v p 14),Sm (F v p 15),Sm (F v p 16),Sm (F v p 17),Tt],Sm (0:Int),Tt])=_) ?_
   (repeat'(first|(with_reducible apply And.intro)|(refine fun(_:True)=>?_)))<;>first|exact aq|skip) (by
   refine Eq.mp (by kernel_rfl:(let z0:=upQ q (k+1) (v,p);let z1:=O.row 41 none z18;let z2:=toO1 cards cs F B size q k;let z5:=bF B size;let z3:=bF (scF F z0) (k+1+1);let z4:=entM z0 (k+1+1);An [(z2++[z1])[0]? =some (O.row 41 none z5),An [z5=z5,HfL z5],Tt,An [z4=z4,HfE z4,Sm (k+1+1)],Tt,An [An [Sm cards.length,Sm (ints cards)],An [Sm cs.length,Sm (List.map sl cs)],An [Zz,Sm size,Sm (size-size)],Tt,An [Zz,Sm (Nat.succ k+1),Tt],Tt],Tt,Tt,(z2++[z1])[4]? =some z1,(z2++[z1])[4]? =some z1,Tt,An [z3=z3,HfL z3],Tt])=_) ?_
   (repeat'(first|(with_reducible apply And.intro)|(refine fun(_:True)=>?_)))
   all_goals first|exact aq|exact hB|exact hS|exact hS0|exact hE|exact hE0|rfl|skip)
 have h:=CallSpec.of_vcH (P:=Pg) (E:=vE) vE_ok mixed Qab (n:=1000) (f:=90) (os0:=toO1 cards cs F B size q k) (ars:=[.ptr 2 0,i6 (s:Nat),i6 (v:Nat),u6 (p:Nat)]) (r:=[5,4])
  (S := { sl := [(8, .ptr 5 0), (9, i6 0)], os := toO2 cards cs F B size (upQ q (k + 1) (v, p)) (k + 1) ++ [.row 41 none (arF x)], md := [0, 0, 1], lg := [1, 2, 3] }) (v := .tup [ar x, i6 0]) (hs := [(16, .call ⟨.tup [ar (F v p), i6 0], ofOs .e 0 [.row 41 none (bF B size), .map (entM (upQ q (k + 1) (v, p)) (k + 1 + 1)) (k + 1 + 1), .row 158 none (toC cards cs size 0 1 5 (k + 1 + 1)), .dead, .row 41 none z18, .row 41 (some 18) (bF (scF F (upQ q (k + 1) (v, p))) (k + 1 + 1))], 6, [1, 2, 3]⟩), va 29 (i6 (b : Nat)), va 30 (i6 (t : Nat)), pl 31, ld 32 (ar (B t)), fn 34 (.tup [ar x, i6 0])]) (gl := g0) (by simp) (fun i hi hno => by
   rcases(show i=0∨i=1∨i=2∨i=3 by simp at hi;omega)with rfl|rfl|rfl|rfl<;>first|rfl|(simp at hno)) (by
  refine Eq.mp (by kernel_rfl:(let z0:=upQ q (k+1) (v,p);let z3:=bF B size;let z1:=bF (scF F z0) (k+1+1);let z2:=entM z0 (k+1+1);An [V.tup [V.agg (arF x),i6 0]=V.tup [ar x,i6 0],CallSpec Pg g0 (V.fn 111 []) [V.ptr 2 0,i6 ↑v,u6 ↑p] (pt (ofOs T.e 0 (toO1 cards cs F B size q k)) 4 (O.row 41 none [i6 0,i6 0,i6 0,i6 0,i6 0,i6 0,i6 0,i6 0,i6 0,i6 0,i6 0,i6 0,i6 0,i6 0,i6 0,i6 0,i6 0,i6 0])) 5 (CR.mk (V.tup [ar (F v p),i6 0]) (ofOs T.e 0 [O.row 41 none z3,O.map z2 (k+1+1),O.row 158 none (toC cards cs size 0 1 5 (k+1+1)),O.dead,O.row 41 none z18,O.row 41 (some 18) z1]) 6 [1,2,3]),Tt,binV (Qad Pg) .shl 3 (i6 1) (i6 ↑v)=some (i6 ↑b),binV (Qad Pg) .andNot 3 (i6 ↑s) (i6 ↑b)=some (i6 ↑t),An [(0:Int)≤(↑t:Int),(↑t:Int)<(↑size:Int)],takeE 18 (dropF (0+t*18) z3)=some (arF (B t)),An [TT 18,TT 18,Tt],FnOk Pg g0 34 [V.agg (arF (B t)),V.agg (arF (F v p))] (V.tup [ar x,i6 0]),Tt,An [Zz,Sm (0:Int),Tt],An [z3=z3,HfL z3],An [z2=z2,HfE z2,Sm (k+1+1)],An [An [Sm cards.length,Sm (ints cards)],An [Sm cs.length,Sm (List.map sl cs)],An [Zz,Sm size,Sm (size-size)],Tt,An [Zz,Sm (Nat.succ k+1),Tt],Tt],Tt,An [z1=z1,HfL z1],An [Sm (arF x),TT 18],Tt])=_) ?_
  (repeat'(first|(with_reducible apply And.intro)|(refine fun(_:True)=>?_)))
  all_goals first|(with_reducible exact h1 _ _)|(with_reducible exact h2 _ _)|exact aq|exact hcall|exact hB|exact hS|exact hS0|exact hE|exact hE0|exact hadd|(rw[Nat.zero_add];exact htk)|exact h1 _ _|exact h2 _ _|rfl|skip)
 exact CallSpec.dropL (os1:=toO2 cards cs F B size (upQ q (k+1) (v,p)) (k+1)) [.row 41 none (arF x)] h (by simp) ⟨HfL.sc _ (HfL_ar _),trivial,trivial⟩ (to_sc2 cards cs F B size _ (k+1) 5 (Nat.le_refl _)) (fun i hi hno=>by
   rcases(show i=0∨i=1∨i=2∨i=3 by simp at hi;omega)with rfl|rfl|rfl|rfl<;>first|rfl|(simp at hno))
abbrev nF(f:Nat→Nat)(n:Nat):List V:=blF (fun i=>[i6 (f i:Nat)]) n
abbrev uF(f:Nat→Nat)(n:Nat):List V:=blF (fun i=>[u6 (f i:Nat)]) n
theorem Qah(f:Nat→Nat)(n:Nat):HfL (nF f n):=Qfd (f:=fun i=>[i6 (f i:Nat)]) (fun k=>⟨trivial,trivial⟩) n
theorem Qag(f:Nat→Nat)(n:Nat):HfL (uF f n):=Qfd (f:=fun i=>[u6 (f i:Nat)]) (fun k=>⟨trivial,trivial⟩) n
theorem Qcs{f:Nat→Nat}{n j:Nat}(h:j<n)(x:Nat):layE (0+j*1) (nF f n) [i6 (x:Nat)]=some (nF (fun i=>if i=j then x else f i) n):=by
 rw[Nat.zero_add,Qmg (f:=fun i=>[i6 (f i:Nat)]) (s:=1) (x:=[i6 (x:Nat)]) (fun _=>rfl) h rfl]
 congr 1
 refine Qbh fun i hi=>?_
 unfold upB
 dsimp only
 split<;>rfl
theorem Qct{f:Nat→Nat}{n j:Nat}(h:j<n)(x:Nat):layE (0+j*1) (uF f n) [u6 (x:Nat)]=some (uF (fun i=>if i=j then x else f i) n):=by
 rw[Nat.zero_add,Qmg (f:=fun i=>[u6 (f i:Nat)]) (s:=1) (x:=[u6 (x:Nat)]) (fun _=>rfl) h rfl]
 congr 1
 refine Qbh fun i hi=>?_
 unfold upB
 dsimp only
 split<;>rfl
section
variable (cards:List Int) (cs:List (List Int)) (F:Nat→Nat→Nat→Int) (size:Nat) (q:Nat→Nat×Nat) (s:Nat) (B:Nat→Nat→Int) (la pa:Nat→Nat) (fb:Bool)
abbrev tyO(hs k:Nat):List O:=[.row 41 none (bF B size),.map (entM q k) k,.row 158 none (toC cards cs size 0 1 hs k),.row 3 none (nF la size),.row 28 none (uF pa size),.row 153 none [.ptr 2 0],.row 3 none [i6 (s:Nat)],.row 4 none [.bool fb],.row 77 none [.sl 3 0 size (some (size-size)),.sl 4 0 size (some (size-size))]]
abbrev tyO0:List O:=tyO cards cs size q s B la pa fb 9 0
abbrev tyO1(k:Nat):List O:=tyO cards cs size q s B la pa fb 9 (k+1)++[.row 41 (some 18) (bF (scF F q) (k+1))]
abbrev tyO2(k:Nat):List O:=tyO cards cs size q s B la pa fb 10 (k+1)++[.dead,.row 41 (some 18) (bF (scF F q) (k+1))]
end
abbrev caT:List V:=[.ptr 5 0,.ptr 6 0,.ptr 7 0,.ptr 8 0]
theorem Qqh(cards:List Int)(cs:List (List Int))(F:Nat→Nat→Nat→Int)(size:Nat)(q:Nat→Nat×Nat)(k s v p:Nat)(B:Nat→Nat→Int)(la pa:Nat→Nat)(x:Nat→Int)(hs:s<size)
  (hp:CallSpec Pg g0 (.fn 90 []) [.ptr 2 0,i6 (s:Nat),i6 (v:Nat),u6 (p:Nat)] (ofOs .e 0 (toO1 cards cs F B size q k)) 4 ⟨.tup [ar x,i6 0],ofOs .e 0 (toO1 cards cs F B size q k),4,[]⟩):
  CallSpec Pg g0 (.fn 109 []) (i6 (v:Nat)::u6 (p:Nat)::caT) (ofOs .e 0 (tyO1 cards cs F size q s B la pa false k)) 10 ⟨i6 0,ofOs .e 0 (tyO1 cards cs F size q s (fun i=>if i=s then x else B i) (fun i=>if i=s then v else la i) (fun i=>if i=s then p else pa i) true k),10,[0,1,2,3,4,7]⟩:=by
 have hB:=Qaa B size
 have hB1:=Qaa (fun i=>if i=s then x else B i) size
 have hS:=Qaa (scF F q) (k+1)
 have hE:=Qac q (k+1)
 have hS0:=Qaa (scF F q) (k+1)
 have hE0:=Qac q (k+1)
 have hc:=Qae cards
 have hg:=Qas cs
 have hla:=Qah la size
 have hpa:=Qag pa size
 have hla1:=Qah (fun i=>if i=s then v else la i) size
 have hpa1:=Qag (fun i=>if i=s then p else pa i) size
 have htk:=@Qa3 B size s hs
 have y1:=@Qea B size s hs x
 have y2:=@Qcs la size s hs v
 have y3:=@Qct pa size s hs p
 have hcall:CallSpec Pg g0 (.fn 90 []) [.ptr 2 0,i6 (s:Nat),i6 (v:Nat),u6 (p:Nat)] (ofOs .e 0 (tyO1 cards cs F size q s B la pa false k)) 10 ⟨.tup [ar x,i6 0],ofOs .e 0 (tyO1 cards cs F size q s B la pa false k),10,[]⟩:=
  CallSpec.frameL (OS:=tyO1 cards cs F size q s B la pa false k) (OS':=tyO1 cards cs F size q s B la pa false k) [0,1,2,9] [(0,0),(1,1),(2,2),(9,3)] [0,0,1] [0,0,1] hp (by kernel_rfl) (by
   refine Eq.mp (by kernel_rfl:(An [Zz,Sm (↑s:Int),Sm (↑v:Int),Sm (↑p:Int),Tt])=_) ?_
   (repeat'(first|(with_reducible apply And.intro)|(refine fun(_:True)=>?_)))<;>first|exact aq|skip) (by
   refine Eq.mp (by kernel_rfl:(let z0:=bF (scF F q) (k+1);let z1:=entM q (k+1);An [An [Sm (bF B size),HfL (bF B size)],An [z1=z1,HfE z1,Sm (k+1)],An [An [Sm cards.length,Sm (ints cards)],An [Sm cs.length,Sm (List.map sl cs)],An [Zz,Sm size,Sm (size-size)],Tt,An [Zz,Sm (k+1),Tt],Tt],An [z0=z0,HfL z0],Tt])=_) ?_
   (repeat'(first|(with_reducible apply And.intro)|(refine fun(_:True)=>?_)))
   all_goals first|exact aq|exact hB|exact hS|exact hS0|exact hE|exact hE0|rfl|skip) (by
   refine Eq.mp (by kernel_rfl:(An [An [x 0=x 0,x 1=x 1,x 2=x 2,x 3=x 3,x 4=x 4,x 5=x 5,x 6=x 6,x 7=x 7,x 8=x 8,x 9=x 9,Sm (x 10),Sm (x 11),Sm (x 12),Sm (x 13),Sm (x 14),Sm (x 15),Sm (x 16),Sm (x 17),Tt],Sm (0:Int),Tt])=_) ?_
   (repeat'(first|(with_reducible apply And.intro)|(refine fun(_:True)=>?_)))<;>first|exact aq|skip) (by
   refine Eq.mp (by kernel_rfl:(let z0:=tyO1 cards cs F size q s B la pa false k;let z2:=bF (scF F q) (k+1);let z3:=entM q (k+1);let z4:=some (O.row 4 none [V.bool false]);let z5:=some (O.row 28 none (uF pa size));let z6:=some (O.row 153 none [V.ptr 2 0]);let z7:=some (O.row 3 none (nF la size));let z8:=some (O.row 3 none [i6 ↑s]);let z9:=bF B size;let y0:=some (size-size);let z1:=some (O.row 77 none [V.sl 3 0 size y0,V.sl 4 0 size y0]);An [z0[0]? =some (O.row 41 none z9),An [z9=z9,HfL z9],z0[1]? =some (O.map z3 (k+1)),An [z3=z3,HfE z3,Sm (k+1)],z0[2]? =some (O.row 158 none (toC cards cs size 0 1 9 (k+1))),An [An [Sm cards.length,Sm (ints cards)],An [Sm cs.length,Sm (List.map sl cs)],An [Zz,Sm size,Sm (size-size)],Tt,An [Zz,Sm (k+1),Tt],Tt],z0[3]? =z7,z0[3]? =z7,z0[4]? =z5,z0[4]? =z5,z0[5]? =z6,z0[5]? =z6,z0[6]? =z8,z0[6]? =z8,z0[7]? =z4,z0[7]? =z4,z0[8]? =z1,z0[8]? =z1,z0[9]? =some (O.row 41 (some 18) z2),An [z2=z2,HfL z2],Tt])=_) ?_
   (repeat'(first|(with_reducible apply And.intro)|(refine fun(_:True)=>?_)))
   all_goals first|exact aq|exact hB|exact hS|exact hS0|exact hE|exact hE0|rfl|skip)
 refine CallSpec.of_vcH (P:=Pg) (E:=vE) vE_ok mixed Qab (n:=1000) (f:=109) (os0:=tyO1 cards cs F size q s B la pa false k) (ars:=i6 (v:Nat)::u6 (p:Nat)::caT) (r:=[])
  (S := { sl := [(8, i6 0)], os := tyO1 cards cs F size q s (fun i => if i = s then x else B i) (fun i => if i = s then v else la i) (fun i => if i = s then p else pa i) true k, md := [0, 0, 1, 0, 0, 1, 0, 0, 1], lg := [0, 1, 2, 3, 4, 7] }) (v := i6 0) (hs := [(17, .call ⟨.tup [ar x, i6 0], ofOs .e 0 (tyO1 cards cs F size q s B la pa false k), 10, []⟩), pl 55, st (bF (fun i => if i = s then x else B i) size), pl 56, st (nF (fun i => if i = s then v else la i) size), pl 57, st (uF (fun i => if i = s then p else pa i) size)]) (gl := g0) (by simp) (fun i hi hno => by
   rcases(show i=0∨i=1∨i=2∨i=3∨i=4∨i=5∨i=6∨i=7∨i=8∨i=9 by simp at hi;omega)with rfl|rfl|rfl|rfl|rfl|rfl|rfl|rfl|rfl|rfl<;>first|rfl|(simp at hno)) ?_
 refine Eq.mp (by kernel_rfl:(let z6:=An [Zz,Sm size,Sm (size-size)];let z0:=ofOs T.e 0 (tyO1 cards cs F size q s B la pa false k);let z1:=(↑s:Int);let z2:=bF (scF F q) (k+1);let z3:=(0:Int);let z4:=(↑size:Int);let z5:=entM q (k+1);An [Sm (i6 0),CallSpec Pg g0 (V.fn 90 []) [V.ptr 2 0,i6 ↑s,i6 ↑v,u6 ↑p] z0 10 (CR.mk (V.tup [ar x,i6 0]) z0 10 []),Tt,An [z3≤z1,z1<z4],layE (0+s*18) (bF B size) (arF x)=some (bF (fun i=>if i=s then x else B i) size),An [z3≤z1,z1<z4],layE (0+s*1) (nF la size) [i6 ↑v]=some (nF (fun i=>if i=s then v else la i) size),An [z3≤z1,z1<z4],layE (0+s*1) (uF pa size) [u6 ↑p]=some (uF (fun i=>if i=s then p else pa i) size),An [z3=z3,Tt],An [Sm (bF (fun i=>if i=s then x else B i) size),HfL (bF (fun i=>if i=s then x else B i) size)],An [z5=z5,HfE z5,Sm (k+1)],An [An [Sm cards.length,Sm (ints cards)],An [Sm cs.length,Sm (List.map sl cs)],z6,Tt,An [Zz,Sm (k+1),Tt],Tt],An [Sm (nF (fun i=>if i=s then v else la i) size),HfL (nF (fun i=>if i=s then v else la i) size)],An [Sm (uF (fun i=>if i=s then p else pa i) size),HfL (uF (fun i=>if i=s then p else pa i) size)],An [Zz,Tt],An [Sm [i6 ↑s],Tt,Tt],An [Sm [V.bool true],Tt,Tt],An [z6,z6,Tt],An [z2=z2,HfL z2],Tt])=_) ?_
 (repeat'(first|(with_reducible apply And.intro)|(refine fun(_:True)=>?_)))
 all_goals first|exact aq|exact hcall|exact hB|exact hB1|exact hS|exact hS0|exact hE|exact hE0|exact hla|exact hpa|exact hla1|exact hpa1|exact y1|exact y2|exact y3|(rw[Nat.zero_add];exact htk)|rfl|skip
theorem Qqf(cards:List Int)(cs:List (List Int))(F:Nat→Nat→Nat→Int)(size:Nat)(q:Nat→Nat×Nat)(k s v p:Nat)(B:Nat→Nat→Int)(la pa:Nat→Nat)(x:Nat→Int)(hs:s<size)(c:Int)(hc0:0<c)(hcmp:FnOk Pg g0 45 [ar x,ar (B s)] (.tup [i6 c,i6 0]))
  (hp:CallSpec Pg g0 (.fn 90 []) [.ptr 2 0,i6 (s:Nat),i6 (v:Nat),u6 (p:Nat)] (ofOs .e 0 (toO1 cards cs F B size q k)) 4 ⟨.tup [ar x,i6 0],ofOs .e 0 (toO1 cards cs F B size q k),4,[]⟩):
  CallSpec Pg g0 (.fn 109 []) (i6 (v:Nat)::u6 (p:Nat)::caT) (ofOs .e 0 (tyO1 cards cs F size q s B la pa true k)) 10 ⟨i6 0,ofOs .e 0 (tyO1 cards cs F size q s (fun i=>if i=s then x else B i) (fun i=>if i=s then v else la i) (fun i=>if i=s then p else pa i) true k),10,[0,1,2,3,4,7]⟩:=by
 have hB:=Qaa B size
 have hB1:=Qaa (fun i=>if i=s then x else B i) size
 have hS:=Qaa (scF F q) (k+1)
 have hE:=Qac q (k+1)
 have hS0:=Qaa (scF F q) (k+1)
 have hE0:=Qac q (k+1)
 have hc:=Qae cards
 have hg:=Qas cs
 have hla:=Qah la size
 have hpa:=Qag pa size
 have hla1:=Qah (fun i=>if i=s then v else la i) size
 have hpa1:=Qag (fun i=>if i=s then p else pa i) size
 have htk:=@Qa3 B size s hs
 have y1:=@Qea B size s hs x
 have y2:=@Qcs la size s hs v
 have y3:=@Qct pa size s hs p
 have hcall:CallSpec Pg g0 (.fn 90 []) [.ptr 2 0,i6 (s:Nat),i6 (v:Nat),u6 (p:Nat)] (ofOs .e 0 (tyO1 cards cs F size q s B la pa true k)) 10 ⟨.tup [ar x,i6 0],ofOs .e 0 (tyO1 cards cs F size q s B la pa true k),10,[]⟩:=
  CallSpec.frameL (OS:=tyO1 cards cs F size q s B la pa true k) (OS':=tyO1 cards cs F size q s B la pa true k) [0,1,2,9] [(0,0),(1,1),(2,2),(9,3)] [0,0,1] [0,0,1] hp (by kernel_rfl) (by
   refine Eq.mp (by kernel_rfl:(An [Zz,Sm (↑s:Int),Sm (↑v:Int),Sm (↑p:Int),Tt])=_) ?_
   (repeat'(first|(with_reducible apply And.intro)|(refine fun(_:True)=>?_)))<;>first|exact aq|skip) (by
   refine Eq.mp (by kernel_rfl:(let z0:=bF (scF F q) (k+1);let z1:=entM q (k+1);An [An [Sm (bF B size),HfL (bF B size)],An [z1=z1,HfE z1,Sm (k+1)],An [An [Sm cards.length,Sm (ints cards)],An [Sm cs.length,Sm (List.map sl cs)],An [Zz,Sm size,Sm (size-size)],Tt,An [Zz,Sm (k+1),Tt],Tt],An [z0=z0,HfL z0],Tt])=_) ?_
   (repeat'(first|(with_reducible apply And.intro)|(refine fun(_:True)=>?_)))
   all_goals first|exact aq|exact hB|exact hS|exact hS0|exact hE|exact hE0|rfl|skip) (by
   refine Eq.mp (by kernel_rfl:(An [An [x 0=x 0,x 1=x 1,x 2=x 2,x 3=x 3,x 4=x 4,x 5=x 5,x 6=x 6,x 7=x 7,x 8=x 8,x 9=x 9,Sm (x 10),Sm (x 11),Sm (x 12),Sm (x 13),Sm (x 14),Sm (x 15),Sm (x 16),Sm (x 17),Tt],Sm (0:Int),Tt])=_) ?_
   (repeat'(first|(with_reducible apply And.intro)|(refine fun(_:True)=>?_)))<;>first|exact aq|skip) (by
   refine Eq.mp (by kernel_rfl:(let z0:=tyO1 cards cs F size q s B la pa true k;let z2:=bF (scF F q) (k+1);let z3:=entM q (k+1);let z4:=some (O.row 28 none (uF pa size));let z5:=some (O.row 153 none [V.ptr 2 0]);let z6:=some (O.row 4 none [V.bool true]);let z7:=some (O.row 3 none (nF la size));let z8:=some (O.row 3 none [i6 ↑s]);let z9:=bF B size;let y0:=some (size-size);let z1:=some (O.row 77 none [V.sl 3 0 size y0,V.sl 4 0 size y0]);An [z0[0]? =some (O.row 41 none z9),An [z9=z9,HfL z9],z0[1]? =some (O.map z3 (k+1)),An [z3=z3,HfE z3,Sm (k+1)],z0[2]? =some (O.row 158 none (toC cards cs size 0 1 9 (k+1))),An [An [Sm cards.length,Sm (ints cards)],An [Sm cs.length,Sm (List.map sl cs)],An [Zz,Sm size,Sm (size-size)],Tt,An [Zz,Sm (k+1),Tt],Tt],z0[3]? =z7,z0[3]? =z7,z0[4]? =z4,z0[4]? =z4,z0[5]? =z5,z0[5]? =z5,z0[6]? =z8,z0[6]? =z8,z0[7]? =z6,z0[7]? =z6,z0[8]? =z1,z0[8]? =z1,z0[9]? =some (O.row 41 (some 18) z2),An [z2=z2,HfL z2],Tt])=_) ?_
   (repeat'(first|(with_reducible apply And.intro)|(refine fun(_:True)=>?_)))
   all_goals first|exact aq|exact hB|exact hS|exact hS0|exact hE|exact hE0|rfl|skip)
 refine CallSpec.of_vcH (P:=Pg) (E:=vE) vE_ok mixed Qab (n:=1000) (f:=109) (os0:=tyO1 cards cs F size q s B la pa true k) (ars:=i6 (v:Nat)::u6 (p:Nat)::caT) (r:=[])
  (S := { sl := [(8, i6 0)], os := tyO1 cards cs F size q s (fun i => if i = s then x else B i) (fun i => if i = s then v else la i) (fun i => if i = s then p else pa i) true k, md := [0, 0, 1, 0, 0, 1, 0, 0, 1], lg := [0, 1, 2, 3, 4, 7] }) (v := i6 0) (hs := [(17, .call ⟨.tup [ar x, i6 0], ofOs .e 0 (tyO1 cards cs F size q s B la pa true k), 10, []⟩), pl 31, ld 32 (ar (B s)), fn 33 (.tup [i6 c, i6 0]), yes 40, pl 55, st (bF (fun i => if i = s then x else B i) size), pl 56, st (nF (fun i => if i = s then v else la i) size), pl 57, st (uF (fun i => if i = s then p else pa i) size)]) (gl := g0) (by simp) (fun i hi hno => by
   rcases(show i=0∨i=1∨i=2∨i=3∨i=4∨i=5∨i=6∨i=7∨i=8∨i=9 by simp at hi;omega)with rfl|rfl|rfl|rfl|rfl|rfl|rfl|rfl|rfl|rfl<;>first|rfl|(simp at hno)) ?_
 refine Eq.mp (by kernel_rfl:(let z6:=An [Zz,Sm size,Sm (size-size)];let z0:=(↑s:Int);let z1:=ofOs T.e 0 (tyO1 cards cs F size q s B la pa true k);let z2:=(0:Int);let z3:=(↑size:Int);let z4:=bF (scF F q) (k+1);let z5:=entM q (k+1);An [Sm (i6 0),CallSpec Pg g0 (V.fn 90 []) [V.ptr 2 0,i6 ↑s,i6 ↑v,u6 ↑p] z1 10 (CR.mk (V.tup [ar x,i6 0]) z1 10 []),Tt,An [z2≤z0,z0<z3],takeE 18 (dropF (0+s*18) (bF B size))=some (arF (B s)),An [TT 18,TT 18,Tt],FnOk Pg g0 45 [V.agg (arF x),V.agg (arF (B s))] (V.tup [i6 c,i6 0]),Tt,decide (c>z2)=true,An [z2≤z0,z0<z3],layE (0+s*18) (bF B size) (arF x)=some (bF (fun i=>if i=s then x else B i) size),An [z2≤z0,z0<z3],layE (0+s*1) (nF la size) [i6 ↑v]=some (nF (fun i=>if i=s then v else la i) size),An [z2≤z0,z0<z3],layE (0+s*1) (uF pa size) [u6 ↑p]=some (uF (fun i=>if i=s then p else pa i) size),An [z2=z2,Tt],An [Sm (bF (fun i=>if i=s then x else B i) size),HfL (bF (fun i=>if i=s then x else B i) size)],An [z5=z5,HfE z5,Sm (k+1)],An [An [Sm cards.length,Sm (ints cards)],An [Sm cs.length,Sm (List.map sl cs)],z6,Tt,An [Zz,Sm (k+1),Tt],Tt],An [Sm (nF (fun i=>if i=s then v else la i) size),HfL (nF (fun i=>if i=s then v else la i) size)],An [Sm (uF (fun i=>if i=s then p else pa i) size),HfL (uF (fun i=>if i=s then p else pa i) size)],An [Zz,Tt],An [Sm [i6 ↑s],Tt,Tt],An [Sm [V.bool true],Tt,Tt],An [z6,z6,Tt],An [z4=z4,HfL z4],Tt])=_) ?_
 (repeat'(first|(with_reducible apply And.intro)|(refine fun(_:True)=>?_)))
 all_goals first|exact aq|exact hcall|exact hB|exact hB1|exact hS|exact hS0|exact hE|exact hE0|exact hla|exact hpa|exact hla1|exact hpa1|exact y1|exact y2|exact y3|(rw[Nat.zero_add];exact htk)|exact hcmp|exact hc0|rfl|skip
theorem Qqg(cards:List Int)(cs:List (List Int))(F:Nat→Nat→Nat→Int)(size:Nat)(q:Nat→Nat×Nat)(k s v p:Nat)(B:Nat→Nat→Int)(la pa:Nat→Nat)(x:Nat→Int)(hs:s<size)(c:Int)(hc0: ¬0<c)(hcmp:FnOk Pg g0 45 [ar x,ar (B s)] (.tup [i6 c,i6 0]))
  (hp:CallSpec Pg g0 (.fn 90 []) [.ptr 2 0,i6 (s:Nat),i6 (v:Nat),u6 (p:Nat)] (ofOs .e 0 (toO1 cards cs F B size q k)) 4 ⟨.tup [ar x,i6 0],ofOs .e 0 (toO1 cards cs F B size q k),4,[]⟩):
  CallSpec Pg g0 (.fn 109 []) (i6 (v:Nat)::u6 (p:Nat)::caT) (ofOs .e 0 (tyO1 cards cs F size q s B la pa true k)) 10 ⟨i6 0,ofOs .e 0 (tyO1 cards cs F size q s B la pa true k),10,[0,1,2,3,4,7]⟩:=by
 have hB:=Qaa B size
 have hB1:=Qaa (fun i=>if i=s then x else B i) size
 have hS:=Qaa (scF F q) (k+1)
 have hE:=Qac q (k+1)
 have hS0:=Qaa (scF F q) (k+1)
 have hE0:=Qac q (k+1)
 have hc:=Qae cards
 have hg:=Qas cs
 have hla:=Qah la size
 have hpa:=Qag pa size
 have hla1:=Qah (fun i=>if i=s then v else la i) size
 have hpa1:=Qag (fun i=>if i=s then p else pa i) size
 have htk:=@Qa3 B size s hs
 have y1:=@Qea B size s hs x
 have y2:=@Qcs la size s hs v
 have y3:=@Qct pa size s hs p
 have hcall:CallSpec Pg g0 (.fn 90 []) [.ptr 2 0,i6 (s:Nat),i6 (v:Nat),u6 (p:Nat)] (ofOs .e 0 (tyO1 cards cs F size q s B la pa true k)) 10 ⟨.tup [ar x,i6 0],ofOs .e 0 (tyO1 cards cs F size q s B la pa true k),10,[]⟩:=
  CallSpec.frameL (OS:=tyO1 cards cs F size q s B la pa true k) (OS':=tyO1 cards cs F size q s B la pa true k) [0,1,2,9] [(0,0),(1,1),(2,2),(9,3)] [0,0,1] [0,0,1] hp (by kernel_rfl) (by
   refine Eq.mp (by kernel_rfl:(An [Zz,Sm (↑s:Int),Sm (↑v:Int),Sm (↑p:Int),Tt])=_) ?_
   (repeat'(first|(with_reducible apply And.intro)|(refine fun(_:True)=>?_)))<;>first|exact aq|skip) (by
   refine Eq.mp (by kernel_rfl:(let z0:=bF (scF F q) (k+1);let z1:=entM q (k+1);An [An [Sm (bF B size),HfL (bF B size)],An [z1=z1,HfE z1,Sm (k+1)],An [An [Sm cards.length,Sm (ints cards)],An [Sm cs.length,Sm (List.map sl cs)],An [Zz,Sm size,Sm (size-size)],Tt,An [Zz,Sm (k+1),Tt],Tt],An [z0=z0,HfL z0],Tt])=_) ?_
   (repeat'(first|(with_reducible apply And.intro)|(refine fun(_:True)=>?_)))
   all_goals first|exact aq|exact hB|exact hS|exact hS0|exact hE|exact hE0|rfl|skip) (by
   refine Eq.mp (by kernel_rfl:(An [An [x 0=x 0,x 1=x 1,x 2=x 2,x 3=x 3,x 4=x 4,x 5=x 5,x 6=x 6,x 7=x 7,x 8=x 8,x 9=x 9,Sm (x 10),Sm (x 11),Sm (x 12),Sm (x 13),Sm (x 14),Sm (x 15),Sm (x 16),Sm (x 17),Tt],Sm (0:Int),Tt])=_) ?_
   (repeat'(first|(with_reducible apply And.intro)|(refine fun(_:True)=>?_)))<;>first|exact aq|skip) (by
   refine Eq.mp (by kernel_rfl:(let z0:=tyO1 cards cs F size q s B la pa true k;let z2:=bF (scF F q) (k+1);let z3:=entM q (k+1);let z4:=some (O.row 28 none (uF pa size));let z5:=some (O.row 153 none [V.ptr 2 0]);let z6:=some (O.row 4 none [V.bool true]);let z7:=some (O.row 3 none (nF la size));let z8:=some (O.row 3 none [i6 ↑s]);let z9:=bF B size;let y0:=some (size-size);let z1:=some (O.row 77 none [V.sl 3 0 size y0,V.sl 4 0 size y0]);An [z0[0]? =some (O.row 41 none z9),An [z9=z9,HfL z9],z0[1]? =some (O.map z3 (k+1)),An [z3=z3,HfE z3,Sm (k+1)],z0[2]? =some (O.row 158 none (toC cards cs size 0 1 9 (k+1))),An [An [Sm cards.length,Sm (ints cards)],An [Sm cs.length,Sm (List.map sl cs)],An [Zz,Sm size,Sm (size-size)],Tt,An [Zz,Sm (k+1),Tt],Tt],z0[3]? =z7,z0[3]? =z7,z0[4]? =z4,z0[4]? =z4,z0[5]? =z5,z0[5]? =z5,z0[6]? =z8,z0[6]? =z8,z0[7]? =z6,z0[7]? =z6,z0[8]? =z1,z0[8]? =z1,z0[9]? =some (O.row 41 (some 18) z2),An [z2=z2,HfL z2],Tt])=_) ?_
   (repeat'(first|(with_reducible apply And.intro)|(refine fun(_:True)=>?_)))
   all_goals first|exact aq|exact hB|exact hS|exact hS0|exact hE|exact hE0|rfl|skip)
 refine CallSpec.of_vcH (P:=Pg) (E:=vE) vE_ok mixed Qab (n:=1000) (f:=109) (os0:=tyO1 cards cs F size q s B la pa true k) (ars:=i6 (v:Nat)::u6 (p:Nat)::caT) (r:=[])
  (S := { sl := [(8, i6 0)], os := tyO1 cards cs F size q s B la pa true k, md := [0, 0, 1, 0, 0, 1, 0, 0, 1], lg := [0, 1, 2, 3, 4, 7] }) (v := i6 0) (hs := [(17, .call ⟨.tup [ar x, i6 0], ofOs .e 0 (tyO1 cards cs F size q s B la pa true k), 10, []⟩), pl 31, ld 32 (ar (B s)), fn 33 (.tup [i6 c, i6 0]), no 40]) (gl := g0) (by simp) (fun i hi hno => by
   rcases(show i=0∨i=1∨i=2∨i=3∨i=4∨i=5∨i=6∨i=7∨i=8∨i=9 by simp at hi;omega)with rfl|rfl|rfl|rfl|rfl|rfl|rfl|rfl|rfl|rfl<;>first|rfl|(simp at hno)) ?_
 refine Eq.mp (by kernel_rfl:(let z5:=An [Zz,Sm size,Sm (size-size)];let z0:=ofOs T.e 0 (tyO1 cards cs F size q s B la pa true k);let z1:=bF (scF F q) (k+1);let z2:=entM q (k+1);let z3:=bF B size;let z4:=(0:Int);An [Sm (i6 0),CallSpec Pg g0 (V.fn 90 []) [V.ptr 2 0,i6 ↑s,i6 ↑v,u6 ↑p] z0 10 (CR.mk (V.tup [ar x,i6 0]) z0 10 []),Tt,An [z4≤(↑s:Int),(↑s:Int)<(↑size:Int)],takeE 18 (dropF (0+s*18) z3)=some (arF (B s)),An [TT 18,TT 18,Tt],FnOk Pg g0 45 [V.agg (arF x),V.agg (arF (B s))] (V.tup [i6 c,i6 0]),Tt,decide (c>z4)=false,An [z4=z4,Tt],An [z3=z3,HfL z3],An [z2=z2,HfE z2,Sm (k+1)],An [An [Sm cards.length,Sm (ints cards)],An [Sm cs.length,Sm (List.map sl cs)],z5,Tt,An [Zz,Sm (k+1),Tt],Tt],An [Sm (nF la size),HfL (nF la size)],An [Sm (uF pa size),HfL (uF pa size)],An [Zz,Tt],An [Sm [i6 ↑s],Tt,Tt],An [Sm [V.bool true],Tt,Tt],An [z5,z5,Tt],An [z1=z1,HfL z1],Tt])=_) ?_
 (repeat'(first|(with_reducible apply And.intro)|(refine fun(_:True)=>?_)))
 all_goals first|exact aq|exact hcall|exact hB|exact hB1|exact hS|exact hS0|exact hE|exact hE0|exact hla|exact hpa|exact hla1|exact hpa1|exact y1|exact y2|exact y3|(rw[Nat.zero_add];exact htk)|exact hcmp|exact hc0|rfl|skip
theorem Qlq(cards:List Int)(cs:List (List Int))(F:Nat→Nat→Nat→Int)(size:Nat)(q:Nat→Nat×Nat)(s v p:Nat)(B:Nat→Nat→Int)(la pa:Nat→Nat)(x:Nat→Int)(hs:s<size)
  (hp:CallSpec Pg g0 (.fn 90 []) [.ptr 2 0,i6 (s:Nat),i6 (v:Nat),u6 (p:Nat)] (ofOs .e 0 (toO0 cards cs B size q)) 3 ⟨.tup [ar x,i6 0],ofOs .e 0 (toO1 cards cs F B size (upQ q 0 (v,p)) 0),4,[1,2]⟩):
  CallSpec Pg g0 (.fn 109 []) (i6 (v:Nat)::u6 (p:Nat)::caT) (ofOs .e 0 (tyO0 cards cs size q s B la pa false)) 9 ⟨i6 0,ofOs .e 0 (tyO1 cards cs F size (upQ q 0 (v,p)) s (fun i=>if i=s then x else B i) (fun i=>if i=s then v else la i) (fun i=>if i=s then p else pa i) true 0),10,[0,1,2,3,4,7]⟩:=by
 have hB:=Qaa B size
 have hB1:=Qaa (fun i=>if i=s then x else B i) size
 have hS:=Qaa (scF F (upQ q 0 (v,p))) (0+1)
 have hE:=Qac (upQ q 0 (v,p)) (0+1)
 have hS0:=Qaa (scF F q) 0
 have hE0:=Qac q 0
 have hc:=Qae cards
 have hg:=Qas cs
 have hla:=Qah la size
 have hpa:=Qag pa size
 have hla1:=Qah (fun i=>if i=s then v else la i) size
 have hpa1:=Qag (fun i=>if i=s then p else pa i) size
 have htk:=@Qa3 B size s hs
 have y1:=@Qea B size s hs x
 have y2:=@Qcs la size s hs v
 have y3:=@Qct pa size s hs p
 have hcall:CallSpec Pg g0 (.fn 90 []) [.ptr 2 0,i6 (s:Nat),i6 (v:Nat),u6 (p:Nat)] (ofOs .e 0 (tyO0 cards cs size q s B la pa false)) 9 ⟨.tup [ar x,i6 0],ofOs .e 0 (tyO1 cards cs F size (upQ q 0 (v,p)) s B la pa false 0),10,[1,2]⟩:=
  CallSpec.frameL (OS:=tyO0 cards cs size q s B la pa false) (OS':=tyO1 cards cs F size (upQ q 0 (v,p)) s B la pa false 0) [0,1,2] [(0,0),(1,1),(2,2),(9,3)] [0,0,1] [0,0,1] hp (by kernel_rfl) (by
   refine Eq.mp (by kernel_rfl:(An [Zz,Sm (↑s:Int),Sm (↑v:Int),Sm (↑p:Int),Tt])=_) ?_
   (repeat'(first|(with_reducible apply And.intro)|(refine fun(_:True)=>?_)))<;>first|exact aq|skip) (by
   refine Eq.mp (by kernel_rfl:(An [An [Sm (bF B size),HfL (bF B size)],An [Sm (entM q 0),HfE (entM q 0),Zz],An [An [Sm cards.length,Sm (ints cards)],An [Sm cs.length,Sm (List.map sl cs)],An [Zz,Sm size,Sm (size-size)],TT 2],Tt])=_) ?_
   (repeat'(first|(with_reducible apply And.intro)|(refine fun(_:True)=>?_)))
   all_goals first|exact aq|exact hB|exact hS|exact hS0|exact hE|exact hE0|rfl|skip) (by
   refine Eq.mp (by kernel_rfl:(An [An [x 0=x 0,x 1=x 1,x 2=x 2,x 3=x 3,x 4=x 4,x 5=x 5,x 6=x 6,x 7=x 7,x 8=x 8,x 9=x 9,Sm (x 10),Sm (x 11),Sm (x 12),Sm (x 13),Sm (x 14),Sm (x 15),Sm (x 16),Sm (x 17),Tt],Sm (0:Int),Tt])=_) ?_
   (repeat'(first|(with_reducible apply And.intro)|(refine fun(_:True)=>?_)))<;>first|exact aq|skip) (by
   refine Eq.mp (by kernel_rfl:(let z0:=tyO0 cards cs size q s B la pa false;let z2:=upQ q 0 (v,p);let z3:=some (O.row 4 none [V.bool false]);let z4:=some (O.row 28 none (uF pa size));let z5:=some (O.row 153 none [V.ptr 2 0]);let z6:=some (O.row 3 none (nF la size));let z7:=some (O.row 3 none [i6 ↑s]);let z8:=bF B size;let z9:=some (size-size);let z1:=some (O.row 77 none [V.sl 3 0 size z9,V.sl 4 0 size z9]);An [z0[0]? =some (O.row 41 none z8),An [z8=z8,HfL z8],Tt,An [Sm (entM z2 1),HfE (entM z2 1),1=1],Tt,An [An [Sm cards.length,Sm (ints cards)],An [Sm cs.length,Sm (List.map sl cs)],An [Zz,Sm size,Sm (size-size)],Tt,An [Zz,1=1,Tt],Tt],z0[3]? =z6,z0[3]? =z6,z0[4]? =z4,z0[4]? =z4,z0[5]? =z5,z0[5]? =z5,z0[6]? =z7,z0[6]? =z7,z0[7]? =z3,z0[7]? =z3,z0[8]? =z1,z0[8]? =z1,Tt,An [Sm (bF (scF F z2) 1),TT 18],Tt])=_) ?_
   (repeat'(first|(with_reducible apply And.intro)|(refine fun(_:True)=>?_)))
   all_goals first|exact aq|exact hB|exact hS|exact hS0|exact hE|exact hE0|rfl|skip)
 refine CallSpec.of_vcH (P:=Pg) (E:=vE) vE_ok mixed Qab (n:=1000) (f:=109) (os0:=tyO0 cards cs size q s B la pa false) (ars:=i6 (v:Nat)::u6 (p:Nat)::caT) (r:=[9])
  (S := { sl := [(8, i6 0)], os := tyO1 cards cs F size (upQ q 0 (v, p)) s (fun i => if i = s then x else B i) (fun i => if i = s then v else la i) (fun i => if i = s then p else pa i) true 0, md := [0, 0, 1, 0, 0, 1, 0, 0, 1], lg := [0, 1, 2, 3, 4, 7] }) (v := i6 0) (hs := [(17, .call ⟨.tup [ar x, i6 0], ofOs .e 0 (tyO1 cards cs F size (upQ q 0 (v, p)) s B la pa false 0), 10, [1, 2]⟩), pl 55, st (bF (fun i => if i = s then x else B i) size), pl 56, st (nF (fun i => if i = s then v else la i) size), pl 57, st (uF (fun i => if i = s then p else pa i) size)]) (gl := g0) (by simp) (fun i hi hno => by
   rcases(show i=0∨i=1∨i=2∨i=3∨i=4∨i=5∨i=6∨i=7∨i=8 by simp at hi;omega)with rfl|rfl|rfl|rfl|rfl|rfl|rfl|rfl|rfl<;>first|rfl|(simp at hno)) ?_
 refine Eq.mp (by kernel_rfl:(let z4:=An [Zz,Sm size,Sm (size-size)];let z0:=upQ q 0 (v,p);let z1:=(↑s:Int);let z2:=(0:Int);let z3:=(↑size:Int);An [Sm (i6 0),CallSpec Pg g0 (V.fn 90 []) [V.ptr 2 0,i6 ↑s,i6 ↑v,u6 ↑p] (ofOs T.e 0 (tyO0 cards cs size q s B la pa false)) 9 (CR.mk (V.tup [ar x,i6 0]) (ofOs T.e 0 (tyO1 cards cs F size z0 s B la pa false 0)) 10 [1,2]),Tt,An [z2≤z1,z1<z3],layE (0+s*18) (bF B size) (arF x)=some (bF (fun i=>if i=s then x else B i) size),An [z2≤z1,z1<z3],layE (0+s*1) (nF la size) [i6 ↑v]=some (nF (fun i=>if i=s then v else la i) size),An [z2≤z1,z1<z3],layE (0+s*1) (uF pa size) [u6 ↑p]=some (uF (fun i=>if i=s then p else pa i) size),An [z2=z2,Tt],An [Sm (bF (fun i=>if i=s then x else B i) size),HfL (bF (fun i=>if i=s then x else B i) size)],An [Sm (entM z0 1),HfE (entM z0 1),1=1],An [An [Sm cards.length,Sm (ints cards)],An [Sm cs.length,Sm (List.map sl cs)],z4,Tt,An [Zz,1=1,Tt],Tt],An [Sm (nF (fun i=>if i=s then v else la i) size),HfL (nF (fun i=>if i=s then v else la i) size)],An [Sm (uF (fun i=>if i=s then p else pa i) size),HfL (uF (fun i=>if i=s then p else pa i) size)],An [Zz,Tt],An [Sm [i6 ↑s],Tt,Tt],An [Sm [V.bool true],Tt,Tt],An [z4,z4,Tt],An [Sm (bF (scF F z0) 1),TT 18],Tt])=_) ?_
 (repeat'(first|(with_reducible apply And.intro)|(refine fun(_:True)=>?_)))
 all_goals first|exact aq|exact hcall|exact hB|exact hB1|exact hS|exact hS0|exact hE|exact hE0|exact hla|exact hpa|exact hla1|exact hpa1|exact y1|exact y2|exact y3|(rw[Nat.zero_add];exact htk)|rfl|skip
theorem Qlo(cards:List Int)(cs:List (List Int))(F:Nat→Nat→Nat→Int)(size:Nat)(q:Nat→Nat×Nat)(s v p:Nat)(B:Nat→Nat→Int)(la pa:Nat→Nat)(x:Nat→Int)(hs:s<size)(c:Int)(hc0:0<c)(hcmp:FnOk Pg g0 45 [ar x,ar (B s)] (.tup [i6 c,i6 0]))
  (hp:CallSpec Pg g0 (.fn 90 []) [.ptr 2 0,i6 (s:Nat),i6 (v:Nat),u6 (p:Nat)] (ofOs .e 0 (toO0 cards cs B size q)) 3 ⟨.tup [ar x,i6 0],ofOs .e 0 (toO1 cards cs F B size (upQ q 0 (v,p)) 0),4,[1,2]⟩):
  CallSpec Pg g0 (.fn 109 []) (i6 (v:Nat)::u6 (p:Nat)::caT) (ofOs .e 0 (tyO0 cards cs size q s B la pa true)) 9 ⟨i6 0,ofOs .e 0 (tyO1 cards cs F size (upQ q 0 (v,p)) s (fun i=>if i=s then x else B i) (fun i=>if i=s then v else la i) (fun i=>if i=s then p else pa i) true 0),10,[0,1,2,3,4,7]⟩:=by
 have hB:=Qaa B size
 have hB1:=Qaa (fun i=>if i=s then x else B i) size
 have hS:=Qaa (scF F (upQ q 0 (v,p))) (0+1)
 have hE:=Qac (upQ q 0 (v,p)) (0+1)
 have hS0:=Qaa (scF F q) 0
 have hE0:=Qac q 0
 have hc:=Qae cards
 have hg:=Qas cs
 have hla:=Qah la size
 have hpa:=Qag pa size
 have hla1:=Qah (fun i=>if i=s then v else la i) size
 have hpa1:=Qag (fun i=>if i=s then p else pa i) size
 have htk:=@Qa3 B size s hs
 have y1:=@Qea B size s hs x
 have y2:=@Qcs la size s hs v
 have y3:=@Qct pa size s hs p
 have hcall:CallSpec Pg g0 (.fn 90 []) [.ptr 2 0,i6 (s:Nat),i6 (v:Nat),u6 (p:Nat)] (ofOs .e 0 (tyO0 cards cs size q s B la pa true)) 9 ⟨.tup [ar x,i6 0],ofOs .e 0 (tyO1 cards cs F size (upQ q 0 (v,p)) s B la pa true 0),10,[1,2]⟩:=
  CallSpec.frameL (OS:=tyO0 cards cs size q s B la pa true) (OS':=tyO1 cards cs F size (upQ q 0 (v,p)) s B la pa true 0) [0,1,2] [(0,0),(1,1),(2,2),(9,3)] [0,0,1] [0,0,1] hp (by kernel_rfl) (by
   refine Eq.mp (by kernel_rfl:(An [Zz,Sm (↑s:Int),Sm (↑v:Int),Sm (↑p:Int),Tt])=_) ?_
   (repeat'(first|(with_reducible apply And.intro)|(refine fun(_:True)=>?_)))<;>first|exact aq|skip) (by
   refine Eq.mp (by kernel_rfl:(An [An [Sm (bF B size),HfL (bF B size)],An [Sm (entM q 0),HfE (entM q 0),Zz],An [An [Sm cards.length,Sm (ints cards)],An [Sm cs.length,Sm (List.map sl cs)],An [Zz,Sm size,Sm (size-size)],TT 2],Tt])=_) ?_
   (repeat'(first|(with_reducible apply And.intro)|(refine fun(_:True)=>?_)))
   all_goals first|exact aq|exact hB|exact hS|exact hS0|exact hE|exact hE0|rfl|skip) (by
   refine Eq.mp (by kernel_rfl:(An [An [x 0=x 0,x 1=x 1,x 2=x 2,x 3=x 3,x 4=x 4,x 5=x 5,x 6=x 6,x 7=x 7,x 8=x 8,x 9=x 9,Sm (x 10),Sm (x 11),Sm (x 12),Sm (x 13),Sm (x 14),Sm (x 15),Sm (x 16),Sm (x 17),Tt],Sm (0:Int),Tt])=_) ?_
   (repeat'(first|(with_reducible apply And.intro)|(refine fun(_:True)=>?_)))<;>first|exact aq|skip) (by
   refine Eq.mp (by kernel_rfl:(let z0:=tyO0 cards cs size q s B la pa true;let z2:=upQ q 0 (v,p);let z3:=some (O.row 28 none (uF pa size));let z4:=some (O.row 153 none [V.ptr 2 0]);let z5:=some (O.row 4 none [V.bool true]);let z6:=some (O.row 3 none (nF la size));let z7:=some (O.row 3 none [i6 ↑s]);let z8:=bF B size;let z9:=some (size-size);let z1:=some (O.row 77 none [V.sl 3 0 size z9,V.sl 4 0 size z9]);An [z0[0]? =some (O.row 41 none z8),An [z8=z8,HfL z8],Tt,An [Sm (entM z2 1),HfE (entM z2 1),1=1],Tt,An [An [Sm cards.length,Sm (ints cards)],An [Sm cs.length,Sm (List.map sl cs)],An [Zz,Sm size,Sm (size-size)],Tt,An [Zz,1=1,Tt],Tt],z0[3]? =z6,z0[3]? =z6,z0[4]? =z3,z0[4]? =z3,z0[5]? =z4,z0[5]? =z4,z0[6]? =z7,z0[6]? =z7,z0[7]? =z5,z0[7]? =z5,z0[8]? =z1,z0[8]? =z1,Tt,An [Sm (bF (scF F z2) 1),TT 18],Tt])=_) ?_
   (repeat'(first|(with_reducible apply And.intro)|(refine fun(_:True)=>?_)))
   all_goals first|exact aq|exact hB|exact hS|exact hS0|exact hE|exact hE0|rfl|skip)
 refine CallSpec.of_vcH (P:=Pg) (E:=vE) vE_ok mixed Qab (n:=1000) (f:=109) (os0:=tyO0 cards cs size q s B la pa true) (ars:=i6 (v:Nat)::u6 (p:Nat)::caT) (r:=[9])
  (S := { sl := [(8, i6 0)], os := tyO1 cards cs F size (upQ q 0 (v, p)) s (fun i => if i = s then x else B i) (fun i => if i = s then v else la i) (fun i => if i = s then p else pa i) true 0, md := [0, 0, 1, 0, 0, 1, 0, 0, 1], lg := [0, 1, 2, 3, 4, 7] }) (v := i6 0) (hs := [(17, .call ⟨.tup [ar x, i6 0], ofOs .e 0 (tyO1 cards cs F size (upQ q 0 (v, p)) s B la pa true 0), 10, [1, 2]⟩), pl 31, ld 32 (ar (B s)), fn 33 (.tup [i6 c, i6 0]), yes 40, pl 55, st (bF (fun i => if i = s then x else B i) size), pl 56, st (nF (fun i => if i = s then v else la i) size), pl 57, st (uF (fun i => if i = s then p else pa i) size)]) (gl := g0) (by simp) (fun i hi hno => by
   rcases(show i=0∨i=1∨i=2∨i=3∨i=4∨i=5∨i=6∨i=7∨i=8 by simp at hi;omega)with rfl|rfl|rfl|rfl|rfl|rfl|rfl|rfl|rfl<;>first|rfl|(simp at hno)) ?_
 refine Eq.mp (by kernel_rfl:(let z4:=An [Zz,Sm size,Sm (size-size)];let z0:=upQ q 0 (v,p);let z1:=(↑s:Int);let z2:=(0:Int);let z3:=(↑size:Int);An [Sm (i6 0),CallSpec Pg g0 (V.fn 90 []) [V.ptr 2 0,i6 ↑s,i6 ↑v,u6 ↑p] (ofOs T.e 0 (tyO0 cards cs size q s B la pa true)) 9 (CR.mk (V.tup [ar x,i6 0]) (ofOs T.e 0 (tyO1 cards cs F size z0 s B la pa true 0)) 10 [1,2]),Tt,An [z2≤z1,z1<z3],takeE 18 (dropF (0+s*18) (bF B size))=some (arF (B s)),An [TT 18,TT 18,Tt],FnOk Pg g0 45 [V.agg (arF x),V.agg (arF (B s))] (V.tup [i6 c,i6 0]),Tt,decide (c>z2)=true,An [z2≤z1,z1<z3],layE (0+s*18) (bF B size) (arF x)=some (bF (fun i=>if i=s then x else B i) size),An [z2≤z1,z1<z3],layE (0+s*1) (nF la size) [i6 ↑v]=some (nF (fun i=>if i=s then v else la i) size),An [z2≤z1,z1<z3],layE (0+s*1) (uF pa size) [u6 ↑p]=some (uF (fun i=>if i=s then p else pa i) size),An [z2=z2,Tt],An [Sm (bF (fun i=>if i=s then x else B i) size),HfL (bF (fun i=>if i=s then x else B i) size)],An [Sm (entM z0 1),HfE (entM z0 1),1=1],An [An [Sm cards.length,Sm (ints cards)],An [Sm cs.length,Sm (List.map sl cs)],z4,Tt,An [Zz,1=1,Tt],Tt],An [Sm (nF (fun i=>if i=s then v else la i) size),HfL (nF (fun i=>if i=s then v else la i) size)],An [Sm (uF (fun i=>if i=s then p else pa i) size),HfL (uF (fun i=>if i=s then p else pa i) size)],An [Zz,Tt],An [Sm [i6 ↑s],Tt,Tt],An [Sm [V.bool true],Tt,Tt],An [z4,z4,Tt],An [Sm (bF (scF F z0) 1),TT 18],Tt])=_) ?_
 (repeat'(first|(with_reducible apply And.intro)|(refine fun(_:True)=>?_)))
 all_goals first|exact aq|exact hcall|exact hB|exact hB1|exact hS|exact hS0|exact hE|exact hE0|exact hla|exact hpa|exact hla1|exact hpa1|exact y1|exact y2|exact y3|(rw[Nat.zero_add];exact htk)|exact hcmp|exact hc0|rfl|skip
theorem Qlp(cards:List Int)(cs:List (List Int))(F:Nat→Nat→Nat→Int)(size:Nat)(q:Nat→Nat×Nat)(s v p:Nat)(B:Nat→Nat→Int)(la pa:Nat→Nat)(x:Nat→Int)(hs:s<size)(c:Int)(hc0: ¬0<c)(hcmp:FnOk Pg g0 45 [ar x,ar (B s)] (.tup [i6 c,i6 0]))
  (hp:CallSpec Pg g0 (.fn 90 []) [.ptr 2 0,i6 (s:Nat),i6 (v:Nat),u6 (p:Nat)] (ofOs .e 0 (toO0 cards cs B size q)) 3 ⟨.tup [ar x,i6 0],ofOs .e 0 (toO1 cards cs F B size (upQ q 0 (v,p)) 0),4,[1,2]⟩):
  CallSpec Pg g0 (.fn 109 []) (i6 (v:Nat)::u6 (p:Nat)::caT) (ofOs .e 0 (tyO0 cards cs size q s B la pa true)) 9 ⟨i6 0,ofOs .e 0 (tyO1 cards cs F size (upQ q 0 (v,p)) s B la pa true 0),10,[0,1,2,3,4,7]⟩:=by
 have hB:=Qaa B size
 have hB1:=Qaa (fun i=>if i=s then x else B i) size
 have hS:=Qaa (scF F (upQ q 0 (v,p))) (0+1)
 have hE:=Qac (upQ q 0 (v,p)) (0+1)
 have hS0:=Qaa (scF F q) 0
 have hE0:=Qac q 0
 have hc:=Qae cards
 have hg:=Qas cs
 have hla:=Qah la size
 have hpa:=Qag pa size
 have hla1:=Qah (fun i=>if i=s then v else la i) size
 have hpa1:=Qag (fun i=>if i=s then p else pa i) size
 have htk:=@Qa3 B size s hs
 have y1:=@Qea B size s hs x
 have y2:=@Qcs la size s hs v
 have y3:=@Qct pa size s hs p
 have hcall:CallSpec Pg g0 (.fn 90 []) [.ptr 2 0,i6 (s:Nat),i6 (v:Nat),u6 (p:Nat)] (ofOs .e 0 (tyO0 cards cs size q s B la pa true)) 9 ⟨.tup [ar x,i6 0],ofOs .e 0 (tyO1 cards cs F size (upQ q 0 (v,p)) s B la pa true 0),10,[1,2]⟩:=
  CallSpec.frameL (OS:=tyO0 cards cs size q s B la pa true) (OS':=tyO1 cards cs F size (upQ q 0 (v,p)) s B la pa true 0) [0,1,2] [(0,0),(1,1),(2,2),(9,3)] [0,0,1] [0,0,1] hp (by kernel_rfl) (by
   refine Eq.mp (by kernel_rfl:(An [Zz,Sm (↑s:Int),Sm (↑v:Int),Sm (↑p:Int),Tt])=_) ?_
   (repeat'(first|(with_reducible apply And.intro)|(refine fun(_:True)=>?_)))<;>first|exact aq|skip) (by
   refine Eq.mp (by kernel_rfl:(An [An [Sm (bF B size),HfL (bF B size)],An [Sm (entM q 0),HfE (entM q 0),Zz],An [An [Sm cards.length,Sm (ints cards)],An [Sm cs.length,Sm (List.map sl cs)],An [Zz,Sm size,Sm (size-size)],TT 2],Tt])=_) ?_
   (repeat'(first|(with_reducible apply And.intro)|(refine fun(_:True)=>?_)))
   all_goals first|exact aq|exact hB|exact hS|exact hS0|exact hE|exact hE0|rfl|skip) (by
   refine Eq.mp (by kernel_rfl:(An [An [x 0=x 0,x 1=x 1,x 2=x 2,x 3=x 3,x 4=x 4,x 5=x 5,x 6=x 6,x 7=x 7,x 8=x 8,x 9=x 9,Sm (x 10),Sm (x 11),Sm (x 12),Sm (x 13),Sm (x 14),Sm (x 15),Sm (x 16),Sm (x 17),Tt],Sm (0:Int),Tt])=_) ?_
   (repeat'(first|(with_reducible apply And.intro)|(refine fun(_:True)=>?_)))<;>first|exact aq|skip) (by
   refine Eq.mp (by kernel_rfl:(let z0:=tyO0 cards cs size q s B la pa true;let z2:=upQ q 0 (v,p);let z3:=some (O.row 28 none (uF pa size));let z4:=some (O.row 153 none [V.ptr 2 0]);let z5:=some (O.row 4 none [V.bool true]);let z6:=some (O.row 3 none (nF la size));let z7:=some (O.row 3 none [i6 ↑s]);let z8:=bF B size;let z9:=some (size-size);let z1:=some (O.row 77 none [V.sl 3 0 size z9,V.sl 4 0 size z9]);An [z0[0]? =some (O.row 41 none z8),An [z8=z8,HfL z8],Tt,An [Sm (entM z2 1),HfE (entM z2 1),1=1],Tt,An [An [Sm cards.length,Sm (ints cards)],An [Sm cs.length,Sm (List.map sl cs)],An [Zz,Sm size,Sm (size-size)],Tt,An [Zz,1=1,Tt],Tt],z0[3]? =z6,z0[3]? =z6,z0[4]? =z3,z0[4]? =z3,z0[5]? =z4,z0[5]? =z4,z0[6]? =z7,z0[6]? =z7,z0[7]? =z5,z0[7]? =z5,z0[8]? =z1,z0[8]? =z1,Tt,An [Sm (bF (scF F z2) 1),TT 18],Tt])=_) ?_
   (repeat'(first|(with_reducible apply And.intro)|(refine fun(_:True)=>?_)))
   all_goals first|exact aq|exact hB|exact hS|exact hS0|exact hE|exact hE0|rfl|skip)
 refine CallSpec.of_vcH (P:=Pg) (E:=vE) vE_ok mixed Qab (n:=1000) (f:=109) (os0:=tyO0 cards cs size q s B la pa true) (ars:=i6 (v:Nat)::u6 (p:Nat)::caT) (r:=[9])
  (S := { sl := [(8, i6 0)], os := tyO1 cards cs F size (upQ q 0 (v, p)) s B la pa true 0, md := [0, 0, 1, 0, 0, 1, 0, 0, 1], lg := [0, 1, 2, 3, 4, 7] }) (v := i6 0) (hs := [(17, .call ⟨.tup [ar x, i6 0], ofOs .e 0 (tyO1 cards cs F size (upQ q 0 (v, p)) s B la pa true 0), 10, [1, 2]⟩), pl 31, ld 32 (ar (B s)), fn 33 (.tup [i6 c, i6 0]), no 40]) (gl := g0) (by simp) (fun i hi hno => by
   rcases(show i=0∨i=1∨i=2∨i=3∨i=4∨i=5∨i=6∨i=7∨i=8 by simp at hi;omega)with rfl|rfl|rfl|rfl|rfl|rfl|rfl|rfl|rfl<;>first|rfl|(simp at hno)) ?_
 refine Eq.mp (by kernel_rfl:(let z3:=An [Zz,Sm size,Sm (size-size)];let z0:=upQ q 0 (v,p);let z1:=bF B size;let z2:=(0:Int);An [Sm (i6 0),CallSpec Pg g0 (V.fn 90 []) [V.ptr 2 0,i6 ↑s,i6 ↑v,u6 ↑p] (ofOs T.e 0 (tyO0 cards cs size q s B la pa true)) 9 (CR.mk (V.tup [ar x,i6 0]) (ofOs T.e 0 (tyO1 cards cs F size z0 s B la pa true 0)) 10 [1,2]),Tt,An [z2≤(↑s:Int),(↑s:Int)<(↑size:Int)],takeE 18 (dropF (0+s*18) z1)=some (arF (B s)),An [TT 18,TT 18,Tt],FnOk Pg g0 45 [V.agg (arF x),V.agg (arF (B s))] (V.tup [i6 c,i6 0]),Tt,decide (c>z2)=false,An [z2=z2,Tt],An [z1=z1,HfL z1],An [Sm (entM z0 1),HfE (entM z0 1),1=1],An [An [Sm cards.length,Sm (ints cards)],An [Sm cs.length,Sm (List.map sl cs)],z3,Tt,An [Zz,1=1,Tt],Tt],An [Sm (nF la size),HfL (nF la size)],An [Sm (uF pa size),HfL (uF pa size)],An [Zz,Tt],An [Sm [i6 ↑s],Tt,Tt],An [Sm [V.bool true],Tt,Tt],An [z3,z3,Tt],An [Sm (bF (scF F z0) 1),TT 18],Tt])=_) ?_
 (repeat'(first|(with_reducible apply And.intro)|(refine fun(_:True)=>?_)))
 all_goals first|exact aq|exact hcall|exact hB|exact hB1|exact hS|exact hS0|exact hE|exact hE0|exact hla|exact hpa|exact hla1|exact hpa1|exact y1|exact y2|exact y3|(rw[Nat.zero_add];exact htk)|exact hcmp|exact hc0|rfl|skip
theorem Qlt(cards:List Int)(cs:List (List Int))(F:Nat→Nat→Nat→Int)(size:Nat)(q:Nat→Nat×Nat)(k s v p:Nat)(B:Nat→Nat→Int)(la pa:Nat→Nat)(x:Nat→Int)(hs:s<size)
  (hp:CallSpec Pg g0 (.fn 90 []) [.ptr 2 0,i6 (s:Nat),i6 (v:Nat),u6 (p:Nat)] (ofOs .e 0 (toO1 cards cs F B size q k)) 4 ⟨.tup [ar x,i6 0],ofOs .e 0 (toO2 cards cs F B size (upQ q (k+1) (v,p)) (k+1)),5,[1,2,3]⟩):
  CallSpec Pg g0 (.fn 109 []) (i6 (v:Nat)::u6 (p:Nat)::caT) (ofOs .e 0 (tyO1 cards cs F size q s B la pa false k)) 10 ⟨i6 0,ofOs .e 0 (tyO2 cards cs F size (upQ q (k+1) (v,p)) s (fun i=>if i=s then x else B i) (fun i=>if i=s then v else la i) (fun i=>if i=s then p else pa i) true (k+1)),11,[0,1,2,3,4,7,9]⟩:=by
 have hB:=Qaa B size
 have hB1:=Qaa (fun i=>if i=s then x else B i) size
 have hS:=Qaa (scF F (upQ q (k+1) (v,p))) (k+1+1)
 have hE:=Qac (upQ q (k+1) (v,p)) (k+1+1)
 have hS0:=Qaa (scF F q) (k+1)
 have hE0:=Qac q (k+1)
 have hc:=Qae cards
 have hg:=Qas cs
 have hla:=Qah la size
 have hpa:=Qag pa size
 have hla1:=Qah (fun i=>if i=s then v else la i) size
 have hpa1:=Qag (fun i=>if i=s then p else pa i) size
 have htk:=@Qa3 B size s hs
 have y1:=@Qea B size s hs x
 have y2:=@Qcs la size s hs v
 have y3:=@Qct pa size s hs p
 have hcall:CallSpec Pg g0 (.fn 90 []) [.ptr 2 0,i6 (s:Nat),i6 (v:Nat),u6 (p:Nat)] (ofOs .e 0 (tyO1 cards cs F size q s B la pa false k)) 10 ⟨.tup [ar x,i6 0],ofOs .e 0 (tyO2 cards cs F size (upQ q (k+1) (v,p)) s B la pa false (k+1)),11,[1,2,9]⟩:=
  CallSpec.frameL (OS:=tyO1 cards cs F size q s B la pa false k) (OS':=tyO2 cards cs F size (upQ q (k+1) (v,p)) s B la pa false (k+1)) [0,1,2,9] [(0,0),(1,1),(2,2),(9,3),(10,4)] [0,0,1] [0,0,1] hp (by kernel_rfl) (by
   refine Eq.mp (by kernel_rfl:(An [Zz,Sm (↑s:Int),Sm (↑v:Int),Sm (↑p:Int),Tt])=_) ?_
   (repeat'(first|(with_reducible apply And.intro)|(refine fun(_:True)=>?_)))<;>first|exact aq|skip) (by
   refine Eq.mp (by kernel_rfl:(let z0:=bF (scF F q) (k+1);let z1:=entM q (k+1);An [An [Sm (bF B size),HfL (bF B size)],An [z1=z1,HfE z1,Sm (k+1)],An [An [Sm cards.length,Sm (ints cards)],An [Sm cs.length,Sm (List.map sl cs)],An [Zz,Sm size,Sm (size-size)],Tt,An [Zz,Sm (k+1),Tt],Tt],An [z0=z0,HfL z0],Tt])=_) ?_
   (repeat'(first|(with_reducible apply And.intro)|(refine fun(_:True)=>?_)))
   all_goals first|exact aq|exact hB|exact hS|exact hS0|exact hE|exact hE0|rfl|skip) (by
   refine Eq.mp (by kernel_rfl:(An [An [x 0=x 0,x 1=x 1,x 2=x 2,x 3=x 3,x 4=x 4,x 5=x 5,x 6=x 6,x 7=x 7,x 8=x 8,x 9=x 9,Sm (x 10),Sm (x 11),Sm (x 12),Sm (x 13),Sm (x 14),Sm (x 15),Sm (x 16),Sm (x 17),Tt],Sm (0:Int),Tt])=_) ?_
   (repeat'(first|(with_reducible apply And.intro)|(refine fun(_:True)=>?_)))<;>first|exact aq|skip) (by
   refine Eq.mp (by kernel_rfl:(let z0:=tyO1 cards cs F size q s B la pa false k;let z1:=upQ q (k+1) (v,p);let z5:=some (O.row 4 none [V.bool false]);let z6:=some (O.row 28 none (uF pa size));let z7:=some (O.row 153 none [V.ptr 2 0]);let z8:=some (O.row 3 none (nF la size));let z9:=some (O.row 3 none [i6 ↑s]);let y0:=bF B size;let y1:=some (size-size);let z2:=some (O.row 77 none [V.sl 3 0 size y1,V.sl 4 0 size y1]);let z3:=bF (scF F z1) (k+1+1);let z4:=entM z1 (k+1+1);An [z0[0]? =some (O.row 41 none y0),An [y0=y0,HfL y0],Tt,An [z4=z4,HfE z4,Sm (k+1+1)],Tt,An [An [Sm cards.length,Sm (ints cards)],An [Sm cs.length,Sm (List.map sl cs)],An [Zz,Sm size,Sm (size-size)],Tt,An [Zz,Sm (Nat.succ k+1),Tt],Tt],z0[3]? =z8,z0[3]? =z8,z0[4]? =z6,z0[4]? =z6,z0[5]? =z7,z0[5]? =z7,z0[6]? =z9,z0[6]? =z9,z0[7]? =z5,z0[7]? =z5,z0[8]? =z2,z0[8]? =z2,Tt,Tt,Tt,An [z3=z3,HfL z3],Tt])=_) ?_
   (repeat'(first|(with_reducible apply And.intro)|(refine fun(_:True)=>?_)))
   all_goals first|exact aq|exact hB|exact hS|exact hS0|exact hE|exact hE0|rfl|skip)
 refine CallSpec.of_vcH (P:=Pg) (E:=vE) vE_ok mixed Qab (n:=1000) (f:=109) (os0:=tyO1 cards cs F size q s B la pa false k) (ars:=i6 (v:Nat)::u6 (p:Nat)::caT) (r:=[10])
  (S := { sl := [(8, i6 0)], os := tyO2 cards cs F size (upQ q (k + 1) (v, p)) s (fun i => if i = s then x else B i) (fun i => if i = s then v else la i) (fun i => if i = s then p else pa i) true (k + 1), md := [0, 0, 1, 0, 0, 1, 0, 0, 1], lg := [0, 1, 2, 3, 4, 7, 9] }) (v := i6 0) (hs := [(17, .call ⟨.tup [ar x, i6 0], ofOs .e 0 (tyO2 cards cs F size (upQ q (k + 1) (v, p)) s B la pa false (k + 1)), 11, [1, 2, 9]⟩), pl 55, st (bF (fun i => if i = s then x else B i) size), pl 56, st (nF (fun i => if i = s then v else la i) size), pl 57, st (uF (fun i => if i = s then p else pa i) size)]) (gl := g0) (by simp) (fun i hi hno => by
   rcases(show i=0∨i=1∨i=2∨i=3∨i=4∨i=5∨i=6∨i=7∨i=8∨i=9 by simp at hi;omega)with rfl|rfl|rfl|rfl|rfl|rfl|rfl|rfl|rfl|rfl<;>first|rfl|(simp at hno)) ?_
 refine Eq.mp (by kernel_rfl:(let z6:=An [Zz,Sm size,Sm (size-size)];let z0:=upQ q (k+1) (v,p);let z1:=(↑s:Int);let z4:=(0:Int);let z5:=(↑size:Int);let z2:=bF (scF F z0) (k+1+1);let z3:=entM z0 (k+1+1);An [Sm (i6 0),CallSpec Pg g0 (V.fn 90 []) [V.ptr 2 0,i6 ↑s,i6 ↑v,u6 ↑p] (ofOs T.e 0 (tyO1 cards cs F size q s B la pa false k)) 10 (CR.mk (V.tup [ar x,i6 0]) (ofOs T.e 0 (tyO2 cards cs F size z0 s B la pa false (k+1))) 11 [1,2,9]),Tt,An [z4≤z1,z1<z5],layE (0+s*18) (bF B size) (arF x)=some (bF (fun i=>if i=s then x else B i) size),An [z4≤z1,z1<z5],layE (0+s*1) (nF la size) [i6 ↑v]=some (nF (fun i=>if i=s then v else la i) size),An [z4≤z1,z1<z5],layE (0+s*1) (uF pa size) [u6 ↑p]=some (uF (fun i=>if i=s then p else pa i) size),An [z4=z4,Tt],An [Sm (bF (fun i=>if i=s then x else B i) size),HfL (bF (fun i=>if i=s then x else B i) size)],An [z3=z3,HfE z3,Sm (k+1+1)],An [An [Sm cards.length,Sm (ints cards)],An [Sm cs.length,Sm (List.map sl cs)],z6,Tt,An [Zz,Sm (Nat.succ k+1),Tt],Tt],An [Sm (nF (fun i=>if i=s then v else la i) size),HfL (nF (fun i=>if i=s then v else la i) size)],An [Sm (uF (fun i=>if i=s then p else pa i) size),HfL (uF (fun i=>if i=s then p else pa i) size)],An [Zz,Tt],An [Sm [i6 ↑s],Tt,Tt],An [Sm [V.bool true],Tt,Tt],An [z6,z6,Tt],Tt,An [z2=z2,HfL z2],Tt])=_) ?_
 (repeat'(first|(with_reducible apply And.intro)|(refine fun(_:True)=>?_)))
 all_goals first|exact aq|exact hcall|exact hB|exact hB1|exact hS|exact hS0|exact hE|exact hE0|exact hla|exact hpa|exact hla1|exact hpa1|exact y1|exact y2|exact y3|(rw[Nat.zero_add];exact htk)|rfl|skip
theorem Qlr(cards:List Int)(cs:List (List Int))(F:Nat→Nat→Nat→Int)(size:Nat)(q:Nat→Nat×Nat)(k s v p:Nat)(B:Nat→Nat→Int)(la pa:Nat→Nat)(x:Nat→Int)(hs:s<size)(c:Int)(hc0:0<c)(hcmp:FnOk Pg g0 45 [ar x,ar (B s)] (.tup [i6 c,i6 0]))
  (hp:CallSpec Pg g0 (.fn 90 []) [.ptr 2 0,i6 (s:Nat),i6 (v:Nat),u6 (p:Nat)] (ofOs .e 0 (toO1 cards cs F B size q k)) 4 ⟨.tup [ar x,i6 0],ofOs .e 0 (toO2 cards cs F B size (upQ q (k+1) (v,p)) (k+1)),5,[1,2,3]⟩):
  CallSpec Pg g0 (.fn 109 []) (i6 (v:Nat)::u6 (p:Nat)::caT) (ofOs .e 0 (tyO1 cards cs F size q s B la pa true k)) 10 ⟨i6 0,ofOs .e 0 (tyO2 cards cs F size (upQ q (k+1) (v,p)) s (fun i=>if i=s then x else B i) (fun i=>if i=s then v else la i) (fun i=>if i=s then p else pa i) true (k+1)),11,[0,1,2,3,4,7,9]⟩:=by
 have hB:=Qaa B size
 have hB1:=Qaa (fun i=>if i=s then x else B i) size
 have hS:=Qaa (scF F (upQ q (k+1) (v,p))) (k+1+1)
 have hE:=Qac (upQ q (k+1) (v,p)) (k+1+1)
 have hS0:=Qaa (scF F q) (k+1)
 have hE0:=Qac q (k+1)
 have hc:=Qae cards
 have hg:=Qas cs
 have hla:=Qah la size
 have hpa:=Qag pa size
 have hla1:=Qah (fun i=>if i=s then v else la i) size
 have hpa1:=Qag (fun i=>if i=s then p else pa i) size
 have htk:=@Qa3 B size s hs
 have y1:=@Qea B size s hs x
 have y2:=@Qcs la size s hs v
 have y3:=@Qct pa size s hs p
 have hcall:CallSpec Pg g0 (.fn 90 []) [.ptr 2 0,i6 (s:Nat),i6 (v:Nat),u6 (p:Nat)] (ofOs .e 0 (tyO1 cards cs F size q s B la pa true k)) 10 ⟨.tup [ar x,i6 0],ofOs .e 0 (tyO2 cards cs F size (upQ q (k+1) (v,p)) s B la pa true (k+1)),11,[1,2,9]⟩:=
  CallSpec.frameL (OS:=tyO1 cards cs F size q s B la pa true k) (OS':=tyO2 cards cs F size (upQ q (k+1) (v,p)) s B la pa true (k+1)) [0,1,2,9] [(0,0),(1,1),(2,2),(9,3),(10,4)] [0,0,1] [0,0,1] hp (by kernel_rfl) (by
   refine Eq.mp (by kernel_rfl:(An [Zz,Sm (↑s:Int),Sm (↑v:Int),Sm (↑p:Int),Tt])=_) ?_
   (repeat'(first|(with_reducible apply And.intro)|(refine fun(_:True)=>?_)))<;>first|exact aq|skip) (by
   refine Eq.mp (by kernel_rfl:(let z0:=bF (scF F q) (k+1);let z1:=entM q (k+1);An [An [Sm (bF B size),HfL (bF B size)],An [z1=z1,HfE z1,Sm (k+1)],An [An [Sm cards.length,Sm (ints cards)],An [Sm cs.length,Sm (List.map sl cs)],An [Zz,Sm size,Sm (size-size)],Tt,An [Zz,Sm (k+1),Tt],Tt],An [z0=z0,HfL z0],Tt])=_) ?_
   (repeat'(first|(with_reducible apply And.intro)|(refine fun(_:True)=>?_)))
   all_goals first|exact aq|exact hB|exact hS|exact hS0|exact hE|exact hE0|rfl|skip) (by
   refine Eq.mp (by kernel_rfl:(An [An [x 0=x 0,x 1=x 1,x 2=x 2,x 3=x 3,x 4=x 4,x 5=x 5,x 6=x 6,x 7=x 7,x 8=x 8,x 9=x 9,Sm (x 10),Sm (x 11),Sm (x 12),Sm (x 13),Sm (x 14),Sm (x 15),Sm (x 16),Sm (x 17),Tt],Sm (0:Int),Tt])=_) ?_
   (repeat'(first|(with_reducible apply And.intro)|(refine fun(_:True)=>?_)))<;>first|exact aq|skip) (by
   refine Eq.mp (by kernel_rfl:(let z0:=tyO1 cards cs F size q s B la pa true k;let z1:=upQ q (k+1) (v,p);let z5:=some (O.row 28 none (uF pa size));let z6:=some (O.row 153 none [V.ptr 2 0]);let z7:=some (O.row 4 none [V.bool true]);let z8:=some (O.row 3 none (nF la size));let z9:=some (O.row 3 none [i6 ↑s]);let y0:=bF B size;let y1:=some (size-size);let z2:=some (O.row 77 none [V.sl 3 0 size y1,V.sl 4 0 size y1]);let z3:=bF (scF F z1) (k+1+1);let z4:=entM z1 (k+1+1);An [z0[0]? =some (O.row 41 none y0),An [y0=y0,HfL y0],Tt,An [z4=z4,HfE z4,Sm (k+1+1)],Tt,An [An [Sm cards.length,Sm (ints cards)],An [Sm cs.length,Sm (List.map sl cs)],An [Zz,Sm size,Sm (size-size)],Tt,An [Zz,Sm (Nat.succ k+1),Tt],Tt],z0[3]? =z8,z0[3]? =z8,z0[4]? =z5,z0[4]? =z5,z0[5]? =z6,z0[5]? =z6,z0[6]? =z9,z0[6]? =z9,z0[7]? =z7,z0[7]? =z7,z0[8]? =z2,z0[8]? =z2,Tt,Tt,Tt,An [z3=z3,HfL z3],Tt])=_) ?_
   (repeat'(first|(with_reducible apply And.intro)|(refine fun(_:True)=>?_)))
   all_goals first|exact aq|exact hB|exact hS|exact hS0|exact hE|exact hE0|rfl|skip)
 refine CallSpec.of_vcH (P:=Pg) (E:=vE) vE_ok mixed Qab (n:=1000) (f:=109) (os0:=tyO1 cards cs F size q s B la pa true k) (ars:=i6 (v:Nat)::u6 (p:Nat)::caT) (r:=[10])
  (S := { sl := [(8, i6 0)], os := tyO2 cards cs F size (upQ q (k + 1) (v, p)) s (fun i => if i = s then x else B i) (fun i => if i = s then v else la i) (fun i => if i = s then p else pa i) true (k + 1), md := [0, 0, 1, 0, 0, 1, 0, 0, 1], lg := [0, 1, 2, 3, 4, 7, 9] }) (v := i6 0) (hs := [(17, .call ⟨.tup [ar x, i6 0], ofOs .e 0 (tyO2 cards cs F size (upQ q (k + 1) (v, p)) s B la pa true (k + 1)), 11, [1, 2, 9]⟩), pl 31, ld 32 (ar (B s)), fn 33 (.tup [i6 c, i6 0]), yes 40, pl 55, st (bF (fun i => if i = s then x else B i) size), pl 56, st (nF (fun i => if i = s then v else la i) size), pl 57, st (uF (fun i => if i = s then p else pa i) size)]) (gl := g0) (by simp) (fun i hi hno => by
   rcases(show i=0∨i=1∨i=2∨i=3∨i=4∨i=5∨i=6∨i=7∨i=8∨i=9 by simp at hi;omega)with rfl|rfl|rfl|rfl|rfl|rfl|rfl|rfl|rfl|rfl<;>first|rfl|(simp at hno)) ?_
 refine Eq.mp (by kernel_rfl:(let z6:=An [Zz,Sm size,Sm (size-size)];let z0:=upQ q (k+1) (v,p);let z1:=(↑s:Int);let z3:=(0:Int);let z4:=(↑size:Int);let z2:=bF (scF F z0) (k+1+1);let z5:=entM z0 (k+1+1);An [Sm (i6 0),CallSpec Pg g0 (V.fn 90 []) [V.ptr 2 0,i6 ↑s,i6 ↑v,u6 ↑p] (ofOs T.e 0 (tyO1 cards cs F size q s B la pa true k)) 10 (CR.mk (V.tup [ar x,i6 0]) (ofOs T.e 0 (tyO2 cards cs F size z0 s B la pa true (k+1))) 11 [1,2,9]),Tt,An [z3≤z1,z1<z4],takeE 18 (dropF (0+s*18) (bF B size))=some (arF (B s)),An [TT 18,TT 18,Tt],FnOk Pg g0 45 [V.agg (arF x),V.agg (arF (B s))] (V.tup [i6 c,i6 0]),Tt,decide (c>z3)=true,An [z3≤z1,z1<z4],layE (0+s*18) (bF B size) (arF x)=some (bF (fun i=>if i=s then x else B i) size),An [z3≤z1,z1<z4],layE (0+s*1) (nF la size) [i6 ↑v]=some (nF (fun i=>if i=s then v else la i) size),An [z3≤z1,z1<z4],layE (0+s*1) (uF pa size) [u6 ↑p]=some (uF (fun i=>if i=s then p else pa i) size),An [z3=z3,Tt],An [Sm (bF (fun i=>if i=s then x else B i) size),HfL (bF (fun i=>if i=s then x else B i) size)],An [z5=z5,HfE z5,Sm (k+1+1)],An [An [Sm cards.length,Sm (ints cards)],An [Sm cs.length,Sm (List.map sl cs)],z6,Tt,An [Zz,Sm (Nat.succ k+1),Tt],Tt],An [Sm (nF (fun i=>if i=s then v else la i) size),HfL (nF (fun i=>if i=s then v else la i) size)],An [Sm (uF (fun i=>if i=s then p else pa i) size),HfL (uF (fun i=>if i=s then p else pa i) size)],An [Zz,Tt],An [Sm [i6 ↑s],Tt,Tt],An [Sm [V.bool true],Tt,Tt],An [z6,z6,Tt],Tt,An [z2=z2,HfL z2],Tt])=_) ?_
 (repeat'(first|(with_reducible apply And.intro)|(refine fun(_:True)=>?_)))
 all_goals first|exact aq|exact hcall|exact hB|exact hB1|exact hS|exact hS0|exact hE|exact hE0|exact hla|exact hpa|exact hla1|exact hpa1|exact y1|exact y2|exact y3|(rw[Nat.zero_add];exact htk)|exact hcmp|exact hc0|rfl|skip
theorem Qls(cards:List Int)(cs:List (List Int))(F:Nat→Nat→Nat→Int)(size:Nat)(q:Nat→Nat×Nat)(k s v p:Nat)(B:Nat→Nat→Int)(la pa:Nat→Nat)(x:Nat→Int)(hs:s<size)(c:Int)(hc0: ¬0<c)(hcmp:FnOk Pg g0 45 [ar x,ar (B s)] (.tup [i6 c,i6 0]))
  (hp:CallSpec Pg g0 (.fn 90 []) [.ptr 2 0,i6 (s:Nat),i6 (v:Nat),u6 (p:Nat)] (ofOs .e 0 (toO1 cards cs F B size q k)) 4 ⟨.tup [ar x,i6 0],ofOs .e 0 (toO2 cards cs F B size (upQ q (k+1) (v,p)) (k+1)),5,[1,2,3]⟩):
  CallSpec Pg g0 (.fn 109 []) (i6 (v:Nat)::u6 (p:Nat)::caT) (ofOs .e 0 (tyO1 cards cs F size q s B la pa true k)) 10 ⟨i6 0,ofOs .e 0 (tyO2 cards cs F size (upQ q (k+1) (v,p)) s B la pa true (k+1)),11,[0,1,2,3,4,7,9]⟩:=by
 have hB:=Qaa B size
 have hB1:=Qaa (fun i=>if i=s then x else B i) size
 have hS:=Qaa (scF F (upQ q (k+1) (v,p))) (k+1+1)
 have hE:=Qac (upQ q (k+1) (v,p)) (k+1+1)
 have hS0:=Qaa (scF F q) (k+1)
 have hE0:=Qac q (k+1)
 have hc:=Qae cards
 have hg:=Qas cs
 have hla:=Qah la size
 have hpa:=Qag pa size
 have hla1:=Qah (fun i=>if i=s then v else la i) size
 have hpa1:=Qag (fun i=>if i=s then p else pa i) size
 have htk:=@Qa3 B size s hs
 have y1:=@Qea B size s hs x
 have y2:=@Qcs la size s hs v
 have y3:=@Qct pa size s hs p
 have hcall:CallSpec Pg g0 (.fn 90 []) [.ptr 2 0,i6 (s:Nat),i6 (v:Nat),u6 (p:Nat)] (ofOs .e 0 (tyO1 cards cs F size q s B la pa true k)) 10 ⟨.tup [ar x,i6 0],ofOs .e 0 (tyO2 cards cs F size (upQ q (k+1) (v,p)) s B la pa true (k+1)),11,[1,2,9]⟩:=
  CallSpec.frameL (OS:=tyO1 cards cs F size q s B la pa true k) (OS':=tyO2 cards cs F size (upQ q (k+1) (v,p)) s B la pa true (k+1)) [0,1,2,9] [(0,0),(1,1),(2,2),(9,3),(10,4)] [0,0,1] [0,0,1] hp (by kernel_rfl) (by
   refine Eq.mp (by kernel_rfl:(An [Zz,Sm (↑s:Int),Sm (↑v:Int),Sm (↑p:Int),Tt])=_) ?_
   (repeat'(first|(with_reducible apply And.intro)|(refine fun(_:True)=>?_)))<;>first|exact aq|skip) (by
   refine Eq.mp (by kernel_rfl:(let z0:=bF (scF F q) (k+1);let z1:=entM q (k+1);An [An [Sm (bF B size),HfL (bF B size)],An [z1=z1,HfE z1,Sm (k+1)],An [An [Sm cards.length,Sm (ints cards)],An [Sm cs.length,Sm (List.map sl cs)],An [Zz,Sm size,Sm (size-size)],Tt,An [Zz,Sm (k+1),Tt],Tt],An [z0=z0,HfL z0],Tt])=_) ?_
   (repeat'(first|(with_reducible apply And.intro)|(refine fun(_:True)=>?_)))
   all_goals first|exact aq|exact hB|exact hS|exact hS0|exact hE|exact hE0|rfl|skip) (by
   refine Eq.mp (by kernel_rfl:(An [An [x 0=x 0,x 1=x 1,x 2=x 2,x 3=x 3,x 4=x 4,x 5=x 5,x 6=x 6,x 7=x 7,x 8=x 8,x 9=x 9,Sm (x 10),Sm (x 11),Sm (x 12),Sm (x 13),Sm (x 14),Sm (x 15),Sm (x 16),Sm (x 17),Tt],Sm (0:Int),Tt])=_) ?_
   (repeat'(first|(with_reducible apply And.intro)|(refine fun(_:True)=>?_)))<;>first|exact aq|skip) (by
   refine Eq.mp (by kernel_rfl:(let z0:=tyO1 cards cs F size q s B la pa true k;let z1:=upQ q (k+1) (v,p);let z5:=some (O.row 28 none (uF pa size));let z6:=some (O.row 153 none [V.ptr 2 0]);let z7:=some (O.row 4 none [V.bool true]);let z8:=some (O.row 3 none (nF la size));let z9:=some (O.row 3 none [i6 ↑s]);let y0:=bF B size;let y1:=some (size-size);let z2:=some (O.row 77 none [V.sl 3 0 size y1,V.sl 4 0 size y1]);let z3:=bF (scF F z1) (k+1+1);let z4:=entM z1 (k+1+1);An [z0[0]? =some (O.row 41 none y0),An [y0=y0,HfL y0],Tt,An [z4=z4,HfE z4,Sm (k+1+1)],Tt,An [An [Sm cards.length,Sm (ints cards)],An [Sm cs.length,Sm (List.map sl cs)],An [Zz,Sm size,Sm (size-size)],Tt,An [Zz,Sm (Nat.succ k+1),Tt],Tt],z0[3]? =z8,z0[3]? =z8,z0[4]? =z5,z0[4]? =z5,z0[5]? =z6,z0[5]? =z6,z0[6]? =z9,z0[6]? =z9,z0[7]? =z7,z0[7]? =z7,z0[8]? =z2,z0[8]? =z2,Tt,Tt,Tt,An [z3=z3,HfL z3],Tt])=_) ?_
   (repeat'(first|(with_reducible apply And.intro)|(refine fun(_:True)=>?_)))
   all_goals first|exact aq|exact hB|exact hS|exact hS0|exact hE|exact hE0|rfl|skip)
 refine CallSpec.of_vcH (P:=Pg) (E:=vE) vE_ok mixed Qab (n:=1000) (f:=109) (os0:=tyO1 cards cs F size q s B la pa true k) (ars:=i6 (v:Nat)::u6 (p:Nat)::caT) (r:=[10])
  (S := { sl := [(8, i6 0)], os := tyO2 cards cs F size (upQ q (k + 1) (v, p)) s B la pa true (k + 1), md := [0, 0, 1, 0, 0, 1, 0, 0, 1], lg := [0, 1, 2, 3, 4, 7, 9] }) (v := i6 0) (hs := [(17, .call ⟨.tup [ar x, i6 0], ofOs .e 0 (tyO2 cards cs F size (upQ q (k + 1) (v, p)) s B la pa true (k + 1)), 11, [1, 2, 9]⟩), pl 31, ld 32 (ar (B s)), fn 33 (.tup [i6 c, i6 0]), no 40]) (gl := g0) (by simp) (fun i hi hno => by
   rcases(show i=0∨i=1∨i=2∨i=3∨i=4∨i=5∨i=6∨i=7∨i=8∨i=9 by simp at hi;omega)with rfl|rfl|rfl|rfl|rfl|rfl|rfl|rfl|rfl|rfl<;>first|rfl|(simp at hno)) ?_
 refine Eq.mp (by kernel_rfl:(let z5:=An [Zz,Sm size,Sm (size-size)];let z0:=upQ q (k+1) (v,p);let z3:=bF B size;let z4:=(0:Int);let z1:=bF (scF F z0) (k+1+1);let z2:=entM z0 (k+1+1);An [Sm (i6 0),CallSpec Pg g0 (V.fn 90 []) [V.ptr 2 0,i6 ↑s,i6 ↑v,u6 ↑p] (ofOs T.e 0 (tyO1 cards cs F size q s B la pa true k)) 10 (CR.mk (V.tup [ar x,i6 0]) (ofOs T.e 0 (tyO2 cards cs F size z0 s B la pa true (k+1))) 11 [1,2,9]),Tt,An [z4≤(↑s:Int),(↑s:Int)<(↑size:Int)],takeE 18 (dropF (0+s*18) z3)=some (arF (B s)),An [TT 18,TT 18,Tt],FnOk Pg g0 45 [V.agg (arF x),V.agg (arF (B s))] (V.tup [i6 c,i6 0]),Tt,decide (c>z4)=false,An [z4=z4,Tt],An [z3=z3,HfL z3],An [z2=z2,HfE z2,Sm (k+1+1)],An [An [Sm cards.length,Sm (ints cards)],An [Sm cs.length,Sm (List.map sl cs)],z5,Tt,An [Zz,Sm (Nat.succ k+1),Tt],Tt],An [Sm (nF la size),HfL (nF la size)],An [Sm (uF pa size),HfL (uF pa size)],An [Zz,Tt],An [Sm [i6 ↑s],Tt,Tt],An [Sm [V.bool true],Tt,Tt],An [z5,z5,Tt],Tt,An [z1=z1,HfL z1],Tt])=_) ?_
 (repeat'(first|(with_reducible apply And.intro)|(refine fun(_:True)=>?_)))
 all_goals first|exact aq|exact hcall|exact hB|exact hB1|exact hS|exact hS0|exact hE|exact hE0|exact hla|exact hpa|exact hla1|exact hpa1|exact y1|exact y2|exact y3|(rw[Nat.zero_add];exact htk)|exact hcmp|exact hc0|rfl|skip
set_option maxHeartbeats 1000000
set_option maxRecDepth 100000
theorem fac_les:((List.range 44).all fun c=>(List.range 18).all fun i=>decide (0≤facF c i∧facF c i≤c))=true:=by kernel_rfl
theorem Qn3{c i:Nat}(hc:c<44)(hi:i<18):0≤facF c i∧facF c i≤c:=of_decide_eq_true (all_range.1 (all_range.1 fac_les c hc) i hi)
theorem Qmx{α:Type}{f:α→Int}{g:α→Nat}: ∀l:List α,(∀x∈l,-(g x:Int)≤f x∧f x≤g x)→ -((sumN (l.map g):Nat):Int)≤sumI (l.map f)∧sumI (l.map f)≤(sumN (l.map g):Nat)
 |[],_=>by simp[sumI,sumN]
 |x::l,h=>by
  have h1:=Qmx l (fun y hy=>h y (List.mem_cons_of_mem _ hy))
  have h2:=h x List.mem_cons_self
  simp only[List.map_cons,sumI,sumN];omega
theorem Qt2{l:List Nat}{x:Nat}(h:x∈l):x≤sumN l:=Qde h
theorem con_bd2{l:List Nat}{r i:Nat}(hi:i<18)(h1:1≤r)(h:sumN l+(r-1)<44): -((sumN l+(r-1):Nat):Int)≤conF facF r l i∧conF facF r l i≤(sumN l+(r-1):Nat):=by
 have h2:=Qmx (f:=fun c=>facF c i) (g:=fun c=>c) l (fun c hc=>by
  have:=Qt2 hc
  have:=Qn3 (c:=c) (by omega) hi
  omega)
 have h2':0≤sumI (l.map fun c=>facF c i):=by
  have: ∀l:List Nat,(∀c∈l,c<44)→0≤sumI (l.map fun c=>facF c i):=by
   intro l
   induction l with
   |nil=>intro _;simp[sumI]
   |cons x l ih=>
    intro h
    have:=ih (fun y hy=>h y (List.mem_cons_of_mem _ hy))
    have:=Qn3 (h x List.mem_cons_self) hi
    simp only[List.map_cons,sumI];omega
  exact this l fun c hc=>by have:=Qt2 hc;omega
 have h3:=Qn3 (c:=r-1) (by omega) hi
 have h4:=Qn3 (c:=sumN l+(r-1)) h hi
 rw[show List.map (fun c=>c) l=l from List.map_id l]at h2
 unfold conF
 omega
theorem Qc0: ∀(l:List Nat)(k:Nat),k<l.length→sumN (l.set k (l.getD k 0+1))=sumN l+1
 |[],_,h=>by cases h
 |x::l,0,_=>by simp[sumN];omega
 |x::l,k+1,h=>by
  have:=Qc0 l k (by simpa using h)
  simp only[List.set_cons_succ,List.getD_cons_succ,sumN,this];omega
def totE(es:List (Nat×List Nat)):Nat:=sumN (es.map fun e=>sumN e.2)
theorem Qnp{r q k:Nat}(hk:k<r): ∀{es:List (Nat×List Nat)},(∀e∈es,e.2.length=r)→totE (bump r q k es)=totE es+1∧∀e∈bump r q k es,e.2.length=r
 |[],_=>by
  have h:=Qc0 (List.replicate r 0) k (by simpa using hk)
  rw[Qjg]at h
  have h0:(List.replicate r 0).getD k 0=0:=by rw[List.getD_eq_getElem?_getD,List.getElem?_replicate];split<;>rfl
  rw[h0]at h
  refine⟨by simp only[bump,totE,List.map_cons,List.map_nil,sumN];rw[h],fun e he=>?_⟩
  obtain rfl:=List.mem_singleton.1 he
  simp
 | (p, l) :: es, h => by
  have hl:l.length=r:=h (p,l) List.mem_cons_self
  unfold bump
  by_cases hp:p=q
  ·rw [if_pos hp]
   refine⟨?_,fun e he=>?_⟩
   ·simp only[totE,List.map_cons,sumN,Qc0 l k (by omega)];omega
   ·rcases List.mem_cons.1 he with rfl | he
    ·simpa using hl
    ·exact h e (List.mem_cons_of_mem _ he)
  ·rw [if_neg hp]
   have ih:=Qnp (q:=q) hk (es:=es) (fun e he=>h e (List.mem_cons_of_mem _ he))
   refine⟨?_,fun e he=>?_⟩
   ·have := ih.1
    simp only[totE,List.map_cons,sumN]at this⊢
    omega
   ·rcases List.mem_cons.1 he with rfl | he
    ·exact hl
    ·exact ih.2 e he
theorem Ql5{r:Nat}(P:List (Nat×Nat))(h: ∀p∈P,p.2<r):totE (Qan r P)=P.length:=by
 have key: ∀(P Q:List (Nat×Nat)),(∀p∈Q,p.2<r)→(totE (Qan r P)=P.length∧∀e∈Qan r P,e.2.length=r)→totE (Qan r (P++Q))=(P++Q).length∧∀e∈Qan r (P++Q),e.2.length=r:=by
  intro P Q
  induction Q generalizing P with
  |nil=>intro _ h;rw[List.append_nil];exact h
  |cons p Q ih=>
   intro hq h
   rw[show P++p::Q=(P++[p])++Q by simp]
   refine ih _ (fun x hx=>hq x (List.mem_cons_of_mem _ hx)) ?_
   rw[Qcp]
   have:=Qnp (q:=p.1) (hq p List.mem_cons_self) h.2
   exact⟨by rw[this.1,h.1];simp,this.2⟩
 have:=key [] P h ⟨rfl,by simp[Qan]⟩
 rw[List.nil_append]at this
 exact this.1
theorem Qdk{α:Type}(g:α→Nat)(c:Nat): ∀l:List α,sumN (l.map fun x=>g x+c)=sumN (l.map g)+l.length*c
 |[]=>by simp[sumN]
 |x::l=>by
  simp only[List.map_cons,sumN,Qdk g c l,List.length_cons,Nat.add_mul];omega
theorem fam_le{cards:List Nat}{cs:List (List Nat)}{v ps:Nat}(hc:CardsOk cards)(hcs: ∀c∈cs,CaseOk cards c)(hv:v<cards.length)(hm:cs.length≤40){i:Nat}(hi:i<18): -160≤famF cards cs v ps i∧famF cards cs v ps i≤160:=by
 have hpo:=Qiy (ps:=ps) hc hcs hv
 have hr:=hc.each v hv
 have hlt:=fun p hp=>(hpo p hp).2
 have hel:=Qdp hlt
 have hpl:(Qav cards v ps cs).length=cs.length:=by simp[Qav]
 have hE:=Qbt _ hlt
 have htot:=Ql5 _ hlt
 unfold famF
 rw[←Qdq (Qik i hi) hpo]
 have:=Qmx (f:=fun e=>conF facF (cards.getD v 0) e.2 i) (g:=fun e=>sumN e.2+(cards.getD v 0-1)) (Qan (cards.getD v 0) (Qav cards v ps cs)) (fun e he=>by
  refine con_bd2 hi (by omega) ?_
  rw[hE.row e he]
  have:=Qdf (Qav cards v ps cs) e.1 hlt
  omega)
 rw[Qdk]at this
 unfold totE at htot
 rw[htot]at this
 have h3:(Qan (cards.getD v 0) (Qav cards v ps cs)).length*(cards.getD v 0-1)≤40*3:=Nat.mul_le_mul (by omega) (by omega)
 omega
def nvF(f:Nat→Int):Nat:=Qaw (fun i=>(f i+4000).toNat) 18
def inB(f:Nat→Int)(b:Int):Prop:=∀i,i<18→ -b≤f i∧f i≤b
theorem inB.mono{f:Nat→Int}{b c:Int}(h:inB f b)(hc:b≤c):inB f c:=fun i hi=>by have:=h i hi;omega
theorem inB.inA{f:Nat→Int}{b:Int}(h:inB f b)(hb:b≤2000):inA f=true:=Qsf fun i hi=>by have:=h i hi;omega
theorem inB_zero:inB Qaj 0:=fun i _=>by show(-0:Int)≤0∧(0:Int)≤0;omega
theorem inB.add{f g:Nat→Int}{b c:Int}(h:inB f b)(k:inB g c):inB (addA f g 1) (b+c):=fun i hi=>by
 have:=h i hi;have:=k i hi;show -(b+c)≤f i+1*g i∧f i+1*g i≤b+c;omega
theorem Qdo{a b:Nat→Int}(ha:inB a 4000)(hb:inB b 4000):cmpF a b=sgn (nvF a) (nvF b):=
 quot_cmp rfl rfl (mixF a b (-1) 18) fun i hi=>by
  rw[Qbn,if_pos hi]
  have:=ha i hi;have:=hb i hi;omega
theorem Qmv{x y:Nat}:0<sgn x y↔y<x:=by
 unfold sgn;split
 ·constructor
  ·intro h;omega
  ·intro h;omega
 ·split
  ·constructor
   ·intro _;assumption
   ·intro _;omega
  ·constructor
   ·intro h;omega
   ·intro h;omega
theorem Qtp{x y:Nat}:sgn x y≤0↔x≤y:=by
 have:=@Qmv x y;omega
theorem Qfb{x y:Nat}:sgn x y=0↔x=y:=by
 unfold sgn;split
 ·constructor
  ·intro h;omega
  ·intro h;omega
 ·split
  ·constructor
   ·intro h;omega
   ·intro h;omega
  ·constructor
   ·intro _;omega
   ·intro _;rfl
theorem cmpF_add{a b c:Nat→Int}:cmpF (addA a c 1) (addA b c 1)=cmpF a b:=by
 have e: ∀i,i<18→mixF (addA a c 1) (addA b c 1) (-1) 18 i=mixF a b (-1) 18 i:=fun i hi=>by
  rw[Qbn,Qbn,if_pos hi,if_pos hi]
  show(a i+1*c i)+ -1*(b i+1*c i)=a i+ -1*b i
  omega
 unfold cmpF
 rw[Qaz (e:=posF (mixF (addA a c 1) (addA b c 1) (-1) 18) 1) (f:=posF (mixF a b (-1) 18) 1) 18 (fun j hj=>by unfold posF;rw[e j hj]),Qaz (e:=posF (mixF (addA a c 1) (addA b c 1) (-1) 18) (-1)) (f:=posF (mixF a b (-1) 18) (-1)) 18 (fun j hj=>by unfold posF;rw[e j hj])]
theorem nv_mono{a b c:Nat→Int}(ha:inB a 1000)(hb:inB b 1000)(hc:inB c 1000)(h:nvF a≤nvF b):nvF (addA a c 1)≤nvF (addA b c 1):=by
 have e:=@cmpF_add a b c
 rw[Qdo (ha.mono (by decide)) (hb.mono (by decide)),Qdo ((ha.add hc).mono (by decide)) ((hb.add hc).mono (by decide))]at e
 exact Qtp.1 (by rw[e];exact Qtp.2 h)
theorem nv_inj{a b:Nat→Int}(ha:inB a 4000)(hb:inB b 4000)(h:nvF a=nvF b): ∀i,i<18→a i=b i:=fun i hi=>by
 have e:=Qdo ha hb
 rw[h,show sgn (nvF b) (nvF b)=0 from Qfb.2 rfl]at e
 have:=Qld (Qfb.1 e) i hi
 rw[Qbn,if_pos hi]at this
 omega
theorem Qoo{a b:Nat→Int}(h: ∀i,i<18→a i=b i):nvF a=nvF b:=Qaz 18 fun j hj=>by rw[h j hj]
def popc(p:Nat):Nat:=p%2+p/2%2+p/4%2+p/8%2+p/16%2
theorem Qs9(p:Nat):popc p≤5:=by unfold popc;omega
theorem Qbx: ∀s,s<32→∀v,v<5→s.testBit v=true→2^v≤s∧popc s=popc (s-2^v)+1∧∀u,u<5→(s-2^v).testBit u=(s.testBit u&& !decide (u=v)):=by decide+kernel
theorem Qja: ∀s,s<32→0<s→∃v,v<5∧s.testBit v=true:=by decide+kernel
theorem Qd7: ∀n,n≤5→∀s,s<2^n→∀v,v<5→s.testBit v=true→v<n:=by decide+kernel
theorem Qe6: ∀n,n≤5→∀v,v<5→(2^n-1).testBit v=decide (v<n):=by decide+kernel
theorem Qaq{n:Nat}(h:n≤5):2^n≤32:=Nat.le_trans (Nat.pow_le_pow_right (by decide) h) (by decide)
abbrev BSt:=Option (Nat×Nat×(Nat→Int))
def upT(b:BSt)(v p:Nat)(x:Nat→Int):BSt:=match b with
 |none=>some (v,p,x)
 |some (v',p',y)=>if 0<cmpF x y then some (v,p,x)else some (v',p',y)
section
variable (n lim:Nat) (F:Nat→Nat→Nat→Int)
def okT(s v p:Nat):Bool:=decide (p&&& s=p)&&(!p.testBit v&&decide (popc p≤lim))
def tryF(B:Nat→Nat→Int)(s v p:Nat):Nat→Int:=addA (B (s-2^v)) (F v p) 1
def innB(B:Nat→Nat→Int)(s v:Nat)(b:BSt):Nat→BSt
 |0=>b
 |k+1=>if okT lim s v k then upT (innB B s v b k) v k (tryF F B s v k)else innB B s v b k
def outB(B:Nat→Nat→Int)(s:Nat):Nat→BSt
 |0=>none
 |k+1=>if s.testBit k then innB lim F B s k (outB B s k) (s+1)else outB B s k
def valO:BSt→Nat→Int
 |none=>Qaj
 |some (_,_,x)=>x
def vO:BSt→Nat
 |none=>0
 |some (v,_,_)=>v
def pO:BSt→Nat
 |none=>0
 |some (_,p,_)=>p
def tabB:Nat→Nat→Nat→Int
 |0=>fun _=>Qaj
 |k+1=>fun s=>if s=k then valO (outB lim F (tabB k) k n)else tabB k s
def stB(s:Nat):BSt:=outB lim F (tabB n lim F s) s n
def topB(s:Nat):Nat→Int:=valO (stB n lim F s)
end
section
variable {n lim:Nat} {F:Nat→Nat→Nat→Int}
theorem Qcl: ∀(k s:Nat),tabB n lim F k s=if s<k then topB n lim F s else Qaj
 |0,s=>by rw[if_neg (by omega)];rfl
 | k + 1, s => by
  unfold tabB
  by_cases h:s=k
  ·rw[if_pos h,if_pos (by omega),h];rfl
  ·rw [if_neg h, Qcl k s]
   by_cases h2:s<k
   ·rw[if_pos h2,if_pos (by omega)]
   ·rw[if_neg h2,if_neg (by omega)]
structure Best(B:Nat→Nat→Int)(s:Nat)(T:Nat→Nat→Prop)(b:BSt):Prop where
 is: ∀v p x,b=some (v,p,x)→T v p∧x=tryF F B s v p
 top: ∀v p,T v p→∃v' p' x,b=some (v',p',x)∧nvF (tryF F B s v p)≤nvF x
theorem Best.step{B:Nat→Nat→Int}{s:Nat}{T:Nat→Nat→Prop}{b:BSt}(hb: ∀v p,T v p→inB (tryF F B s v p) 4000){v p:Nat}(hx:inB (tryF F B s v p) 4000)(h:Best (F:=F) B s T b):Best (F:=F) B s (fun v' p'=>T v' p'∨v'=v∧p'=p) (upT b v p (tryF F B s v p)):=by
 rcases b with _|⟨v0,p0,y⟩
 ·refine ⟨fun v' p' x e => ?_, fun v' p' ht => ?_⟩
  ·cases e;exact⟨.inr ⟨rfl,rfl⟩,rfl⟩
  ·rcases ht with ht | ⟨rfl, rfl⟩
   ·obtain⟨_,_,_,e,_⟩:=h.top v' p' ht;cases e
   ·exact⟨_,_,_,rfl,Nat.le_refl _⟩
 ·obtain ⟨t0, e0⟩ := h.is v0 p0 y rfl
  have hy:inB y 4000:=by rw[e0];exact hb v0 p0 t0
  have hc:=Qdo hx hy
  unfold upT
  dsimp only
  by_cases hgt:0<cmpF (tryF F B s v p) y
  ·rw [if_pos hgt]
   rw[hc,Qmv]at hgt
   refine⟨fun v' p' x e=>?_,fun v' p' ht=>⟨v,p,_,rfl,?_⟩⟩
   ·cases e;exact⟨.inr ⟨rfl,rfl⟩,rfl⟩
   ·rcases ht with ht | ⟨rfl, rfl⟩
    ·obtain ⟨_, _, _, e, hle⟩ := h.top v' p' ht
     cases e;omega
    ·exact Nat.le_refl _
  ·rw [if_neg hgt]
   rw[hc,Qmv]at hgt
   refine⟨fun v' p' x e=>?_,fun v' p' ht=>⟨v0,p0,y,rfl,?_⟩⟩
   ·cases e;exact⟨.inl t0,e0⟩
   ·rcases ht with ht | ⟨rfl, rfl⟩
    ·obtain ⟨_, _, _, e, hle⟩ := h.top v' p' ht
     cases e;exact hle
    ·omega
theorem Best.inn{B:Nat→Nat→Int}{s v:Nat}{T:Nat→Nat→Prop}{b:BSt}(hb: ∀v p,inB (tryF F B s v p) 4000)(h:Best (F:=F) B s T b): ∀k,Best (F:=F) B s (fun v' p'=>T v' p'∨v'=v∧p'<k∧okT lim s v p'=true) (innB lim F B s v b k)
 | 0 => ⟨fun v' p' x e => ⟨.inl (h.is v' p' x e).1, (h.is v' p' x e).2⟩, fun v' p' ht => by
   rcases ht with ht|⟨_,h0,_⟩
   ·exact h.top v' p' ht
   ·exact absurd h0 (Nat.not_lt_zero _)⟩
 | k + 1 => by
  have ih:=Best.inn (v:=v) hb h k
  unfold innB
  by_cases ho:okT lim s v k=true
  ·rw [if_pos ho]
   have:=ih.step (fun v p _=>hb v p) (hb v k)
   refine⟨fun v' p' x e=>⟨?_,(this.is v' p' x e).2⟩,fun v' p' ht=>this.top v' p' ?_⟩
   ·rcases (this.is v' p' x e).1 with (h1 | ⟨h1, h2, h3⟩) | ⟨rfl, rfl⟩
    ·exact .inl h1
    ·exact .inr ⟨h1,by omega,h3⟩
    ·exact .inr ⟨rfl,by omega,ho⟩
   ·rcases ht with ht | ⟨h1, h2, h3⟩
    ·exact .inl (.inl ht)
    ·by_cases e : p' = k
     ·exact .inr ⟨h1,e⟩
     ·exact .inl (.inr ⟨h1,by omega,h3⟩)
  ·rw [if_neg ho]
   refine⟨fun v' p' x e=>⟨?_,(ih.is v' p' x e).2⟩,fun v' p' ht=>ih.top v' p' ?_⟩
   ·rcases (ih.is v' p' x e).1 with h1 | ⟨h1, h2, h3⟩
    ·exact .inl h1
    ·exact .inr ⟨h1,by omega,h3⟩
   ·rcases ht with ht | ⟨h1, h2, h3⟩
    ·exact .inl ht
    ·refine .inr ⟨h1, ?_, h3⟩
     rcases Nat.lt_or_ge p' k with h'|h'
     ·exact h'
     ·exact absurd (show okT lim s v k=true by rw[←(show p'=k by omega)];exact h3) ho
theorem Best.out{B:Nat→Nat→Int}{s:Nat}(hb: ∀v p,inB (tryF F B s v p) 4000): ∀k,Best (F:=F) B s (fun v p=>v<k∧s.testBit v=true∧p<s+1∧okT lim s v p=true) (outB lim F B s k)
 |0=>⟨fun v p x e=>(by cases e),fun v p ht=>absurd ht.1 (Nat.not_lt_zero _)⟩
 | k + 1 => by
  have ih:=Best.out hb k
  unfold outB
  by_cases hs:s.testBit k=true
  ·rw [if_pos hs]
   have:=ih.inn (v:=k) (lim:=lim) hb (s+1)
   refine⟨fun v' p' x e=>⟨?_,(this.is v' p' x e).2⟩,fun v' p' ht=>this.top v' p' ?_⟩
   ·rcases (this.is v' p' x e).1 with ⟨h1, h2⟩ | ⟨rfl, h2, h3⟩
    ·exact⟨by omega,h2⟩
    ·exact⟨by omega,hs,h2,h3⟩
   ·obtain ⟨h1, h2, h3, h4⟩ := ht
    by_cases e:v'=k
    ·subst e;exact .inr ⟨rfl,h3,h4⟩
    ·exact .inl ⟨by omega,h2,h3,h4⟩
  ·rw [if_neg hs]
   refine⟨fun v' p' x e=>⟨?_,(ih.is v' p' x e).2⟩,fun v' p' ht=>ih.top v' p' ?_⟩
   ·have:=(ih.is v' p' x e).1;exact⟨by omega,this.2⟩
   ·obtain ⟨h1, h2, h3⟩ := ht
    refine⟨?_,h2,h3⟩
    rcases Nat.lt_or_ge v' k with h'|h'
    ·exact h'
    ·exact absurd (show s.testBit k=true by rw[←(show v'=k by omega)];exact h2) hs
end
set_option maxHeartbeats 1000000
theorem Qbu(f g:Nat→Int)(i:Nat):addA f g 1 i=f i+g i:=by show f i+1*g i=_;omega
section
variable {n lim:Nat} {F:Nat→Nat→Nat→Int}
theorem Qt5(hF: ∀v p,inB (F v p) 160)(hn:n≤5): ∀s,s<2^n→inB (topB n lim F s) (160*popc s)∧Best (F:=F) (tabB n lim F s) s (fun v p=>v<n∧s.testBit v=true∧p<s+1∧okT lim s v p=true) (stB n lim F s):=by
 intro s
 induction s using Nat.strongRecOn with
 | _ s ih =>
  intro hs
  have h32:=Qaq hn
  have ht: ∀t,inB (tabB n lim F s t) 800:=fun t=>by
   rw[Qcl]
   split
   ·rename_i h
    have:=(ih t h (by omega)).1
    have h5:=Qs9 t
    exact this.mono (by omega)
   ·exact inB_zero.mono (by decide)
  have hb: ∀v p,inB (tryF F (tabB n lim F s) s v p) 4000:=fun v p=>((ht _).add (hF v p)).mono (by decide)
  have hbest:=Best.out (lim:=lim) hb n
  refine⟨?_,hbest⟩
  unfold topB
  cases e:stB n lim F s with
  |none=>exact inB_zero.mono (by show(0:Int)≤160*(popc s:Int);omega)
  |some b=>
   obtain⟨v,p,x⟩:=b
   obtain⟨⟨h1,h2,h3,h4⟩,h5⟩:=hbest.is v p x e
   obtain⟨r1,r2,_⟩:=Qbx s (by omega) v (by omega) h2
   show inB x _
   have hp:0<2^v:=Nat.pow_pos (by decide)
   rw[h5,r2]
   unfold tryF
   rw[Qcl,if_pos (by omega)]
   have:=(ih (s-2^v) (by omega) (by omega)).1.add (hF v p)
   exact this.mono (by omega)
theorem Qjk(hF: ∀v p,inB (F v p) 160)(hn:n≤5){s:Nat}(hs:s<2^n):inB (topB n lim F s) 800:=by
 have:=(Qt5 (lim:=lim) hF hn s hs).1
 have h5:=Qs9 s
 exact this.mono (by omega)
theorem Qbw{s v p:Nat}:okT lim s v p=true↔p&&& s=p∧p.testBit v=false∧popc p≤lim:=by
 unfold okT
 simp[Bool.and_eq_true]
theorem top_max(hF: ∀v p,inB (F v p) 160)(hn:n≤5){s v p:Nat}(hs:s<2^n)(hv:v<n)(h1:s.testBit v=true)(h2:okT lim s v p=true):nvF (addA (topB n lim F (s-2^v)) (F v p) 1)≤nvF (topB n lim F s):=by
 have h32:=Qaq hn
 have hps:p≤s:=by
  have:=(Qbw.1 h2).1
  rw[←this];exact Nat.and_le_right
 obtain⟨_,hb⟩:=Qt5 (lim:=lim) hF hn s hs
 obtain⟨v',p',x,e,hle⟩:=hb.top v p ⟨hv,h1,by omega,h2⟩
 obtain⟨r1,_⟩:=Qbx s (by omega) v (by omega) h1
 have hp:0<2^v:=Nat.pow_pos (by decide)
 unfold tryF at hle
 rw[Qcl,if_pos (by omega)]at hle
 unfold topB at hle⊢
 rw[e]
 exact hle
theorem Qmw(h0: ∀v,v<n→Nat.testBit 0 v=false):stB n lim F 0=none:=by
 have: ∀k,outB lim F (tabB n lim F 0) 0 k=none:=by
  intro k
  induction k with
  |zero=>rfl
  |succ k ih=>rw[outB,if_neg (by simp),ih]
 exact this n
theorem top_is(hF: ∀v p,inB (F v p) 160)(hn:n≤5){s:Nat}(hs:s<2^n)(h0:0<s): ∃v p,v<n∧s.testBit v=true∧okT lim s v p=true∧stB n lim F s=some (v,p,topB n lim F s)∧topB n lim F s=addA (topB n lim F (s-2^v)) (F v p) 1:=by
 have h32:=Qaq hn
 obtain⟨_,hb⟩:=Qt5 (lim:=lim) hF hn s hs
 obtain⟨u,u1,u2⟩:=Qja s (by omega) h0
 have un:=Qd7 n hn s hs u u1 u2
 obtain⟨v,p,x,e,_⟩:=hb.top u 0 ⟨un,u2,by omega,Qbw.2 ⟨Nat.zero_and _,Nat.zero_testBit _,Nat.zero_le _⟩⟩
 obtain⟨⟨a1,a2,a3,a4⟩,a5⟩:=hb.is v p x e
 obtain⟨r1,_⟩:=Qbx s (by omega) v (by omega) a2
 have hp:0<2^v:=Nat.pow_pos (by decide)
 have ex:topB n lim F s=x:=by unfold topB;rw[e];rfl
 refine⟨v,p,a1,a2,a4,by rw[e,ex],?_⟩
 rw[ex,a5]
 unfold tryF
 rw[Qcl,if_pos (by omega)]
variable (F)in
def scG(g:Nat→Nat)(s:Nat):Nat→Nat→Int
 |0=>Qaj
 |k+1=>if s.testBit k then addA (scG g s k) (F k (g k)) 1 else scG g s k
theorem Qeh{g h:Nat→Nat}{s t:Nat}: ∀k,(∀v,v<k→s.testBit v=t.testBit v)→(∀v,v<k→s.testBit v=true→g v=h v)→scG F g s k=scG F h t k
 |0,_,_=>rfl
 |k+1,h1,h2=>by
  rw[scG,scG,Qeh k (fun v hv=>h1 v (by omega)) (fun v hv=>h2 v (by omega)),h1 k (by omega)]
  split
  ·rename_i hb;rw[h2 k (by omega) (by rw[h1 k (by omega)];exact hb)]
  ·rfl
theorem Qtk{g:Nat→Nat}{s v:Nat}(hs:s<32)(hv:v<5)(hb:s.testBit v=true)(i:Nat): ∀k,k≤5→scG F g s k i=scG F g (s-2^v) k i+if v<k then F v (g v) i else 0
 |0,_=>by rw[if_neg (by omega)];show(0:Int)=0+0;rfl
 | k + 1, hk => by
  obtain⟨_,_,r3⟩:=Qbx s hs v hv hb
  have ih:=Qtk (g:=g) hs hv hb i k (by omega)
  rw[scG,scG,r3 k (by omega)]
  by_cases e:k=v
  ·subst e
   rw[hb]
   simp only[if_true,Bool.true_and,decide_true,Bool.not_true,Bool.false_eq_true,if_false]
   rw[Qbu,ih,if_neg (by omega),if_pos (by omega)]
   omega
  ·rw [show (s.testBit k && !decide (k = v)) = s.testBit k by rw [decide_eq_false e]; simp]
   by_cases hb':s.testBit k=true
   ·rw [if_pos hb', if_pos hb', Qbu, Qbu, ih]
    by_cases h:v<k
    ·rw[if_pos h,if_pos (by omega)];omega
    ·rw[if_neg h,if_neg (by omega)];omega
   ·rw [if_neg hb', if_neg hb', ih]
    by_cases h:v<k
    ·rw[if_pos h,if_pos (by omega)]
    ·rw[if_neg h,if_neg (by omega)]
theorem Qoz(hF: ∀v p,inB (F v p) 160)(g:Nat→Nat)(s:Nat): ∀k:Nat,inB (scG F g s k) (160*k)
 |0=>inB_zero.mono (by decide)
 |k+1=>by
  rw[scG]
  split
  ·exact((Qoz hF g s k).add (hF k (g k))).mono (by omega)
  ·exact(Qoz hF g s k).mono (by omega)
theorem Qog(r:Nat→Nat): ∀(k:Nat)(P:Nat→Prop),(∃v,v<k∧P v)→∃v,v<k∧P v∧∀u,u<k→P u→r u≤r v
 |0,_,⟨v,h,_⟩=>absurd h (Nat.not_lt_zero _)
 | k + 1, P, ⟨v, h, hp⟩ => by
  by_cases hex: ∃v,v<k∧P v
  ·obtain ⟨w, w1, w2, w3⟩ := Qog r k P hex
   by_cases hk:P k∧r w<r k
   ·refine ⟨k, by omega, hk.1, fun u hu hpu => ?_⟩
    by_cases e:u=k
    ·rw[e];exact Nat.le_refl _
    ·have:=w3 u (by omega) hpu;omega
   ·refine ⟨w, by omega, w2, fun u hu hpu => ?_⟩
    by_cases e:u=k
    ·subst e
     rcases Nat.lt_or_ge (r w) (r u)with h'|h'
     ·exact absurd ⟨hpu,h'⟩ hk
     ·exact h'
    ·exact w3 u (by omega) hpu
  ·have hv : v = k := by
    rcases Nat.lt_or_ge v k with h'|h'
    ·exact absurd ⟨v,h',hp⟩ hex
    ·omega
   refine⟨k,by omega,hv▸hp,fun u hu hpu=>?_⟩
   by_cases e:u=k
   ·rw[e];exact Nat.le_refl _
   ·exact absurd ⟨u,by omega,hpu⟩ hex
def Qjn(n:Nat)(g:Nat→Nat)(r:Nat→Nat):Prop:=∀v,v<n→g v<2^n∧∀p,p<n→(g v).testBit p=true→r p<r v
theorem Qlz: ∀s,s<32→∀p,p<32→(∀u,u<5→p.testBit u=true→s.testBit u=true)→p&&& s=p:=by decide+kernel
theorem Ql0: ∀s,s<32→∀p,p<32→p&&& s=p→∀u,u<5→p.testBit u=true→s.testBit u=true:=by decide+kernel
theorem sc_le(hF: ∀v p,inB (F v p) 160)(hn:n≤5){g r:Nat→Nat}(hg:Qjn n g r)(hl: ∀v,v<n→popc (g v)≤lim): ∀(k s:Nat),s<2^n→popc s=k→(∀v,v<n→s.testBit v=true→∀p,p<n→(g v).testBit p=true→s.testBit p=true)→nvF (scG F g s n)≤nvF (topB n lim F s)
 | 0, s, hs, hk, _ => by
  have h32:=Qaq hn
  have h0:s=0:=by
   rcases Nat.eq_zero_or_pos s with h|h
   ·exact h
   ·obtain ⟨v, v1, v2⟩ := Qja s (by omega) h
    have:=(Qbx s (by omega) v v1 v2).2.1
    omega
  subst h0
  have e1: ∀k,scG F g 0 k=Qaj:=by
   intro k
   induction k with
   |zero=>rfl
   |succ k ih=>rw[scG,if_neg (by simp),ih]
  rw[e1]
  unfold topB
  rw[Qmw (fun v _=>Nat.zero_testBit v)]
  exact Nat.le_refl _
 | k + 1, s, hs, hk, hanc => by
  have h32:=Qaq hn
  have hpos:0<s:=by
   rcases Nat.eq_zero_or_pos s with h|h
   ·subst h;cases hk
   ·exact h
  obtain⟨u,u1,u2⟩:=Qja s (by omega) hpos
  obtain⟨v,v1,v2,v3⟩:=Qog r n (fun v=>s.testBit v=true) ⟨u,Qd7 n hn s hs u u1 u2,u2⟩
  obtain⟨r1,r2,r3⟩:=Qbx s (by omega) v (by omega) v2
  have hp2:0<2^v:=Nat.pow_pos (by decide)
  obtain⟨g1,g2⟩:=hg v v1
  have ih:=sc_le hF hn hg hl k (s-2^v) (by omega) (by omega) (fun w hw hb p hp hgp=>by
   rw[r3 w (by omega)]at hb
   rw[r3 p (by omega)]
   simp only[Bool.and_eq_true,Bool.not_eq_true',decide_eq_false_iff_not]at hb⊢
   refine⟨hanc w hw hb.1 p hp hgp,fun e=>?_⟩
   have h1:=(hg w hw).2 p hp hgp
   have h2:=v3 w hw hb.1
   rw[e]at h1
   omega)
  have hok:okT lim s v (g v)=true:=by
   refine Qbw.2 ⟨Qlz s (by omega) (g v) (by omega) (fun p hp hb=>hanc v v1 v2 p (Qd7 n hn (g v) g1 p hp hb) hb),?_,hl v v1⟩
   cases e:(g v).testBit v with
   |false=>rfl
   |true=>have:=g2 v v1 e;omega
  have e1:nvF (scG F g s n)=nvF (addA (scG F g (s-2^v) n) (F v (g v)) 1):=Qoo fun i _=>by
   rw[Qtk (by omega) (by omega) v2 i n hn,if_pos v1,Qbu]
  rw[e1]
  refine Nat.le_trans (nv_mono ((Qoz hF g _ n).mono (by omega)) ((Qjk hF hn (by omega)).mono (by decide)) ((hF v (g v)).mono (by decide)) ih) (top_max hF hn hs v1 v2 hok)
structure LadOk(n:Nat)(la pa:Nat→Nat):Prop where
 at_: ∀s,0<s→s<2^n→la s<n∧s.testBit (la s)=true∧pa s&&& (s-2^la s)=pa s
def ladG(la pa:Nat→Nat):Nat→Nat→Nat→Nat
 |0,_,_=>0
 |f+1,s,v=>if s=0 then 0 else if v=la s then pa s else ladG la pa f (s-2^la s) v
def ladR(la:Nat→Nat):Nat→Nat→Nat→Nat
 |0,_,_=>0
 |f+1,s,v=>if s=0 then 0 else if v=la s then f+1 else ladR la f (s-2^la s) v
theorem Qsl(la:Nat→Nat): ∀f s v,ladR la f s v≤f
 |0,_,_=>Nat.le_refl _
 | f + 1, s, v => by
  rw[ladR]
  split
  ·omega
  ·split
   ·omega
   ·have:=Qsl la f (s-2^la s) v;omega
theorem Qsk{la pa:Nat→Nat}(hn:n≤5)(h:LadOk n la pa): ∀f s v,s<2^n→ladG la pa f s v<2^n
 |0,_,_,_=>Nat.pow_pos (by decide)
 | f + 1, s, v, hs => by
  rw[ladG]
  split
  ·exact Nat.pow_pos (by decide)
  ·rename_i h0
   obtain⟨h1,h2,h3⟩:=h.at_ s (by omega) hs
   have hp2:0<2^la s:=Nat.pow_pos (by decide)
   split
   ·have : pa s &&& (s - 2 ^ la s) ≤ s - 2 ^ la s := Nat.and_le_right
    omega
   ·exact Qsk hn h f _ v (by omega)
theorem Qku{la pa:Nat→Nat}(hn:n≤5)(h:LadOk n la pa): ∀f s,s<2^n→popc s≤f→∀v,v<n→s.testBit v=true→∀p,p<n→(ladG la pa f s v).testBit p=true→s.testBit p=true∧ladR la f s p<ladR la f s v
 |0,s,hs,hf,v,hv,hb,p,hp,hgp=>by rw[ladG]at hgp;simp at hgp
 | f + 1, s, hs, hf, v, hv, hb, p, hp, hgp => by
  have h32:=Qaq hn
  by_cases h0:s=0
  ·subst h0;simp at hb
  ·obtain ⟨h1, h2, h3⟩ := h.at_ s (by omega) hs
   obtain⟨r1,r2,r3⟩:=Qbx s (by omega) (la s) (by omega) h2
   have hp2:0<2^la s:=Nat.pow_pos (by decide)
   rw[ladG,if_neg h0]at hgp
   rw[ladR,if_neg h0,ladR,if_neg h0]
   by_cases e:v=la s
   ·rw [if_pos e] at hgp
    have hpl:pa s<32:=by
     have:pa s&&& (s-2^la s)≤s-2^la s:=Nat.and_le_right
     omega
    have:=Ql0 (s-2^la s) (by omega) (pa s) hpl h3 p (by omega) hgp
    rw[r3 p (by omega)]at this
    simp only[Bool.and_eq_true,Bool.not_eq_true',decide_eq_false_iff_not]at this
    refine⟨this.1,?_⟩
    rw[if_pos e,if_neg this.2]
    have:=Qsl la f (s-2^la s) p
    omega
   ·rw [if_neg e] at hgp
    have hb':(s-2^la s).testBit v=true:=by rw[r3 v (by omega),hb,decide_eq_false e];rfl
    have ih:=Qku hn h f (s-2^la s) (by omega) (by omega) v hv hb' p hp hgp
    have hps:=ih.1
    rw[r3 p (by omega)]at hps
    simp only[Bool.and_eq_true,Bool.not_eq_true',decide_eq_false_iff_not]at hps
    refine⟨hps.1,?_⟩
    rw[if_neg e,if_neg hps.2]
    exact ih.2
theorem Qhs{la pa:Nat→Nat}(hn:n≤5)(h:LadOk n la pa){B:Nat→Nat→Int}(h0: ∀i,i<18→B 0 i=0)(hB: ∀s,0<s→s<2^n→∀i,i<18→B s i=B (s-2^la s) i+F (la s) (pa s) i): ∀f s,s<2^n→popc s≤f→∀i,i<18→scG F (ladG la pa f s) s n i=B s i
 | 0, s, hs, hf, i, hi => by
  have h32:=Qaq hn
  have hs0:s=0:=by
   rcases Nat.eq_zero_or_pos s with h|h
   ·exact h
   ·obtain ⟨v, v1, v2⟩ := Qja s (by omega) h
    have:=(Qbx s (by omega) v v1 v2).2.1
    omega
  subst hs0
  have e1: ∀k,scG F (ladG la pa 0 0) 0 k=Qaj:=by
   intro k
   induction k with
   |zero=>rfl
   |succ k ih=>rw[scG,if_neg (by simp),ih]
  rw[e1,h0 i hi];rfl
 | f + 1, s, hs, hf, i, hi => by
  have h32:=Qaq hn
  by_cases hs0:s=0
  ·subst hs0
   have e1: ∀k,scG F (ladG la pa (f+1) 0) 0 k=Qaj:=by
    intro k
    induction k with
    |zero=>rfl
    |succ k ih=>rw[scG,if_neg (by simp),ih]
   rw[e1,h0 i hi];rfl
  ·obtain ⟨h1, h2, h3⟩ := h.at_ s (by omega) hs
   obtain⟨r1,r2,r3⟩:=Qbx s (by omega) (la s) (by omega) h2
   have hp2:0<2^la s:=Nat.pow_pos (by decide)
   have ih:=Qhs hn h h0 hB f (s-2^la s) (by omega) (by omega) i hi
   rw[Qtk (by omega) (by omega) h2 i n hn,if_pos h1,hB s (by omega) hs i hi]
   have e1:ladG la pa (f+1) s (la s)=pa s:=by rw[ladG,if_neg hs0,if_pos rfl]
   have e2:scG F (ladG la pa (f+1) s) (s-2^la s) n=scG F (ladG la pa f (s-2^la s)) (s-2^la s) n:=Qeh n (fun _ _=>rfl) (fun v hv hb=>by
    rw[r3 v (by omega)]at hb
    simp only[Bool.and_eq_true,Bool.not_eq_true',decide_eq_false_iff_not]at hb
    rw[ladG,if_neg hs0,if_neg hb.2])
   rw[e1,e2,ih]
end
set_option maxHeartbeats 1000000
set_option maxRecDepth 100000
def hasQ(q:Nat→Nat×Nat)(k:Nat)(x:Nat×Nat):Bool:=(List.range k).any fun j=>decide (q j=x)
theorem Qc7{q:Nat→Nat×Nat}{k:Nat}{x:Nat×Nat}:hasQ q k x=true↔∃j,j<k∧q j=x:=by
 unfold hasQ
 rw[List.any_eq_true]
 constructor
 ·rintro⟨j,hj,h⟩;exact⟨j,List.mem_range.1 hj,of_decide_eq_true h⟩
 ·rintro⟨j,hj,h⟩;exact⟨j,List.mem_range.2 hj,decide_eq_true h⟩
def askQ(q:Nat→Nat×Nat)(k:Nat)(x:Nat×Nat):Nat→Nat×Nat:=if hasQ q k x then q else upQ q k x
def askK(q:Nat→Nat×Nat)(k:Nat)(x:Nat×Nat):Nat:=if hasQ q k x then k else k+1
section
variable (lim s v:Nat) (q:Nat→Nat×Nat) (k:Nat)
def innA:Nat→(Nat→Nat×Nat)×Nat
 |0=>(q,k)
 |n+1=>if okT lim s v n then(askQ (innA n).1 (innA n).2 (v,n),askK (innA n).1 (innA n).2 (v,n))else innA n
def innK(n:Nat):Nat:=(innA lim s v q k n).2
end
theorem Qqw(q:Nat→Nat×Nat)(k:Nat)(x:Nat×Nat):k≤askK q k x∧askK q k x≤k+1:=by unfold askK;split<;>omega
theorem Qds(lim s v:Nat)(q:Nat→Nat×Nat)(k:Nat): ∀n,k≤innK lim s v q k n∧innK lim s v q k n≤k+n
 |0=>⟨Nat.le_refl _,Nat.le_refl _⟩
 | n + 1 => by
  have ih:=Qds lim s v q k n
  unfold innK innA at*
  split
  ·have := Qqw (innA lim s v q k n).1 (innA lim s v q k n).2 (v, n)
   dsimp only
   cases n<;>simp only[innA]at*<;>omega
  ·cases n<;>simp only[innA]at*<;>omega
def sB(s:Nat)(b:BSt)(B:Nat→Nat→Int):Nat→Nat→Int:=fun i=>if i=s then valO b else B i
def sL(s:Nat)(b:BSt)(la:Nat→Nat):Nat→Nat:=fun i=>if i=s then vO b else la i
def sP(s:Nat)(b:BSt)(pa:Nat→Nat):Nat→Nat:=fun i=>if i=s then pO b else pa i
theorem Qp9(s:Nat)(b:BSt)(B:Nat→Nat→Int)(v p:Nat)(x:Nat→Int):(fun i=>if i=s then x else sB s b B i)=sB s (some (v,p,x)) B:=by
 funext i;unfold sB;split<;>rfl
theorem Qqa(s:Nat)(b:BSt)(la:Nat→Nat)(v p:Nat)(x:Nat→Int):(fun i=>if i=s then v else sL s b la i)=sL s (some (v,p,x)) la:=by
 funext i;unfold sL;split<;>rfl
theorem Qqb(s:Nat)(b:BSt)(pa:Nat→Nat)(v p:Nat)(x:Nat→Int):(fun i=>if i=s then p else sP s b pa i)=sP s (some (v,p,x)) pa:=by
 funext i;unfold sP;split<;>rfl
theorem Qi9(s v p:Nat)(y:Nat→Int)(B:Nat→Nat→Int):sB s (some (v,p,y)) B s=y:=if_pos rfl
def Qao:BSt→Bool
 |none=>false
 |some _=>true
section
variable (cards:List Int) (cs:List (List Int)) (F:Nat→Nat→Nat→Int) (size:Nat) (q:Nat→Nat×Nat) (s:Nat) (b:BSt) (B:Nat→Nat→Int) (la pa:Nat→Nat)
abbrev tzO0:List O:=tyO0 cards cs size q s (sB s b B) (sL s b la) (sP s b pa) (Qao b)
abbrev tzO1(k:Nat):List O:=tyO1 cards cs F size q s (sB s b B) (sL s b la) (sP s b pa) (Qao b) k
abbrev tzO2(k:Nat):List O:=tyO2 cards cs F size q s (sB s b B) (sL s b la) (sP s b pa) (Qao b) k
end
structure TryOk(cards:List Int)(cs:List (List Int))(F:Nat→Nat→Nat→Int)(size:Nat)(s:Nat)(b:BSt)(B:Nat→Nat→Int)(v p t bt:Nat)(x:Nat→Int):Prop where
 hs:s<size
 ht:t<size
 ne:t≠s
 h1: ∀G T,binV G .shl T (i6 1) (i6 (v:Nat))=some (i6 (bt:Nat))
 h2: ∀G T,binV G .andNot T (i6 (s:Nat)) (i6 (bt:Nat))=some (i6 (t:Nat))
 add:FnOk Pg g0 34 [ar (B t),ar (F v p)] (.tup [ar x,i6 0])
 cmp: ∀v' p' y,b=some (v',p',y)→FnOk Pg g0 45 [ar x,ar y] (.tup [i6 (cmpF x y),i6 0])
 fam:FnOk Pg g0 22 [gV cards cs,i6 (v:Nat),u6 (p:Nat)] (.tup [ar (F v p),i6 0])
section
variable {cards:List Int} {cs:List (List Int)} {F:Nat→Nat→Nat→Int} {size:Nat} {q:Nat→Nat×Nat} {s:Nat} {b:BSt} {B:Nat→Nat→Int} {la pa:Nat→Nat} {v p t bt:Nat} {x:Nat→Int}
theorem TryOk.add'(h:TryOk cards cs F size s b B v p t bt x):FnOk Pg g0 34 [ar (sB s b B t),ar (F v p)] (.tup [ar x,i6 0]):=by
 have e:sB s b B t=B t:=if_neg h.ne
 rw[e];exact h.add
theorem Qm1(h:TryOk cards cs F size s b B v p t bt x){k j:Nat}(hj:j<k+1)(hq:q j=(v,p))(hf:findS [true,true] [i6 (v:Nat),u6 (p:Nat)] (entM q (k+1)) 0=some (some (j,i6 (j:Nat)))):
  CallSpec Pg g0 (.fn 109 []) (i6 (v:Nat)::u6 (p:Nat)::caT) (ofOs .e 0 (tzO1 cards cs F size q s b B la pa k)) 10 ⟨i6 0,ofOs .e 0 (tzO1 cards cs F size q s (upT b v p x) B la pa k),10,[0,1,2,3,4,7]⟩:=by
 have hp:=Qos cards cs F (sB s b B) size q k s t v p bt j x hj hq hf h.ht h.h1 h.h2 h.add'
 rcases b with _|⟨v',p',y⟩
 ·have := Qqh cards cs F size q k s v p (sB s none B) (sL s none la) (sP s none pa) x h.hs hp
  rw[Qp9 s none B v p x,Qqa s none la v p x,Qqb s none pa v p x]at this
  exact this
 ·have hc := h.cmp v' p' y rfl
  rw[←Qi9 s v' p' y B]at hc
  by_cases hgt:0<cmpF x (sB s (some (v',p',y)) B s)
  ·have := Qqf cards cs F size q k s v p (sB s (some (v', p', y)) B) (sL s (some (v', p', y)) la) (sP s (some (v', p', y)) pa) x h.hs _ hgt hc hp
   rw[Qp9 s _ B v p x,Qqa s _ la v p x,Qqb s _ pa v p x]at this
   rw[Qi9]at hgt
   rw[show upT (some (v',p',y)) v p x=some (v,p,x)from if_pos hgt]
   exact this
  ·have := Qqg cards cs F size q k s v p (sB s (some (v', p', y)) B) (sL s (some (v', p', y)) la) (sP s (some (v', p', y)) pa) x h.hs _ hgt hc hp
   rw[Qi9]at hgt
   rw[show upT (some (v',p',y)) v p x=some (v',p',y)from if_neg hgt]
   exact this
theorem Qt9(h:TryOk cards cs F size s b B v p t bt x):
  CallSpec Pg g0 (.fn 109 []) (i6 (v:Nat)::u6 (p:Nat)::caT) (ofOs .e 0 (tzO0 cards cs size q s b B la pa)) 9 ⟨i6 0,ofOs .e 0 (tzO1 cards cs F size (upQ q 0 (v,p)) s (upT b v p x) B la pa 0),10,[0,1,2,3,4,7]⟩:=by
 have hp:=Qp5 cards cs F (sB s b B) size q s t v p bt x h.fam h.ht h.h1 h.h2 h.add'
 rcases b with _|⟨v',p',y⟩
 ·have := Qlq cards cs F size q s v p (sB s none B) (sL s none la) (sP s none pa) x h.hs hp
  rw[Qp9 s none B v p x,Qqa s none la v p x,Qqb s none pa v p x]at this
  exact this
 ·have hc := h.cmp v' p' y rfl
  rw[←Qi9 s v' p' y B]at hc
  by_cases hgt:0<cmpF x (sB s (some (v',p',y)) B s)
  ·have := Qlo cards cs F size q s v p (sB s (some (v', p', y)) B) (sL s (some (v', p', y)) la) (sP s (some (v', p', y)) pa) x h.hs _ hgt hc hp
   rw[Qp9 s _ B v p x,Qqa s _ la v p x,Qqb s _ pa v p x]at this
   rw[Qi9]at hgt
   rw[show upT (some (v',p',y)) v p x=some (v,p,x)from if_pos hgt]
   exact this
  ·have := Qlp cards cs F size q s v p (sB s (some (v', p', y)) B) (sL s (some (v', p', y)) la) (sP s (some (v', p', y)) pa) x h.hs _ hgt hc hp
   rw[Qi9]at hgt
   rw[show upT (some (v',p',y)) v p x=some (v',p',y)from if_neg hgt]
   exact this
theorem Qgy(h:TryOk cards cs F size s b B v p t bt x){k:Nat}(hk:k≤1000000)(hf:findS [true,true] [i6 (v:Nat),u6 (p:Nat)] (entM q (k+1)) 0=some none):
  CallSpec Pg g0 (.fn 109 []) (i6 (v:Nat)::u6 (p:Nat)::caT) (ofOs .e 0 (tzO1 cards cs F size q s b B la pa k)) 10 ⟨i6 0,ofOs .e 0 (tzO2 cards cs F size (upQ q (k+1) (v,p)) s (upT b v p x) B la pa (k+1)),11,[0,1,2,3,4,7,9]⟩:=by
 have hp:=Qhx cards cs F (sB s b B) size q k s t v p bt x hk hf h.fam h.ht h.h1 h.h2 h.add'
 rcases b with _|⟨v',p',y⟩
 ·have := Qlt cards cs F size q k s v p (sB s none B) (sL s none la) (sP s none pa) x h.hs hp
  rw[Qp9 s none B v p x,Qqa s none la v p x,Qqb s none pa v p x]at this
  exact this
 ·have hc := h.cmp v' p' y rfl
  rw[←Qi9 s v' p' y B]at hc
  by_cases hgt:0<cmpF x (sB s (some (v',p',y)) B s)
  ·have := Qlr cards cs F size q k s v p (sB s (some (v', p', y)) B) (sL s (some (v', p', y)) la) (sP s (some (v', p', y)) pa) x h.hs _ hgt hc hp
   rw[Qp9 s _ B v p x,Qqa s _ la v p x,Qqb s _ pa v p x]at this
   rw[Qi9]at hgt
   rw[show upT (some (v',p',y)) v p x=some (v,p,x)from if_pos hgt]
   exact this
  ·have := Qls cards cs F size q k s v p (sB s (some (v', p', y)) B) (sL s (some (v', p', y)) la) (sP s (some (v', p', y)) pa) x h.hs _ hgt hc hp
   rw[Qi9]at hgt
   rw[show upT (some (v',p',y)) v p x=some (v',p',y)from if_neg hgt]
   exact this
end
set_option maxHeartbeats 1000000
set_option maxRecDepth 100000
theorem T.set_set{α:Type}: ∀(f:Nat)(t:T α)(i:Nat)(x y:Option α),i<f→T.set f (T.set f t i x) i y=T.set f t i y
 |0,_,_,_,_,h=>absurd h (Nat.not_lt_zero _)
 | f + 1, t, i, x, y, h => by
  have ih:i≠0→∀t:T α,T.set f (T.set f t (i/2) x) (i/2) y=T.set f t (i/2) y:=fun _ t=>T.set_set f t (i/2) x y (by omega)
  have ih2:i≠0→∀t:T α,T.set f (T.set f t (i/2-1) x) (i/2-1) y=T.set f t (i/2-1) y:=fun _ t=>T.set_set f t (i/2-1) x y (by omega)
  by_cases h0:i=0
  ·subst h0;cases t<;>simp[T.set]
  ·have hb : Nat.beq i 0 = false := by
    cases hb:Nat.beq i 0 with
    |false=>rfl
    |true=>exact absurd (Nat.eq_of_beq_eq_true hb) h0
   cases h1:Nat.beq (i%2) 1<;>cases t<;>simp only[T.set,hb,h1,cond_true,cond_false,ih h0,ih2 h0]
theorem T.set_same{α:Type}: ∀(f:Nat)(t:T α)(i:Nat)(x:α),i<f→t.get i=some x→T.set f t i (some x)=t
 |0,_,_,_,h,_=>absurd h (Nat.not_lt_zero _)
 |f+1,.e,_,_,_,h=>by simp at h
 | f + 1, .n l v r, i, x, hf, h => by
  unfold T.get at h
  unfold T.set
  cases h0:Nat.beq i 0 with
  |true=>rw[h0,cond_true]at h;rw[cond_true,h]
  |false=>
   have hi:i≠0:=by rintro rfl;cases h0
   rw[h0,cond_false]at h
   rw[cond_false]
   cases h1:Nat.beq (i%2) 1 with
   |true=>rw[h1,cond_true]at h;rw[cond_true,T.set_same f l (i/2) x (by omega) h]
   |false=>rw[h1,cond_false]at h;rw[cond_false,T.set_same f r (i/2-1) x (by omega) h]
theorem pt_pt{α:Type}(t:T α)(i:Nat)(x y:α):pt (pt t i x) i y=pt t i y:=by
 rw[pt_eq,pt_eq,pt_eq];exact T.set_set _ _ _ _ _ (Nat.lt_succ_self _)
theorem pt_same{α:Type}{t:T α}{i:Nat}{x:α}(h:gt t i=some x):pt t i x=t:=by
 rw[Qay]at h;rw[pt_eq];exact T.set_same _ _ _ _ (Nat.lt_succ_self _) h
def SubL(a b:List Nat):Prop:=∀g,g∈a→g∈b
end Go.Proofs.YtglpoiaedkoecaaDoor.Am
