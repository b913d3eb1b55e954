/- Texts behind the claim, part 4: the abstract machine, and what the functions answer. No condition. -/
import Derived.Test.YtakfneapahohkaaDoorCRights3
set_option linter.unusedVariables false
set_option linter.unusedSimpArgs false
set_option linter.unusedSectionVars false
namespace Go.Proofs.YtakfneapahohkaaDoor.Am
open Go.RowKit
theorem Dx:Qe8 Tryd.prog=true:=by kernel_rfl
theorem Af:Tryd.prog.follows .mixedOrders=true:=by kernel_rfl
def Qqj:List V→Option V
 |[.int .u64 x,.int .u64 y,.int .u64 c]=>if 0≤x∧0≤y∧0≤c∧c≤1 then some (.tup [.int .u64 ((x+y+c)%18446744073709551616),.int .u64 ((x+y+c)/18446744073709551616)])else none
 | _=>none
def extF(f:Nat)(l:List V):Option V:=bif Nat.beq f 67 then Qqj l else none
theorem ext_ok:Ql3 Tryd.prog extF:=by
 intro f l v h s w jk hl
 unfold extF at h
 obtain⟨hf,k⟩:=Qar h
 clear h
 have:=Nat.eq_of_beq_eq_true hf
 subst this
 unfold Qqj at k
 split at k
 ·rename_i x y c
  split at k
  ·rename_i hc
   cases k
   obtain⟨v1,r1,e1,h1,v2,r2,rfl,h2,v3,r3,rfl,h3,h4⟩:=hl
   cases h1;cases h2;cases h3;cases h4
   have hv:jk= #[.int .u64 x,.int .u64 y,.int .u64 c]:=by rw[←Array.toArray_toList (xs:=jk),e1]
   subst hv
   refine⟨.tuple #[.int .u64 ((x+y+c)%18446744073709551616),.int .u64 ((x+y+c)/18446744073709551616)],?_,⟨_,rfl,_,_,rfl,rfl,_,_,rfl,rfl,rfl⟩⟩
   rw[run_callFunc_extern (e:=add64Entry) Tryd.func67 (by kernel_rfl) (by kernel_rfl) (by kernel_rfl) (by kernel_rfl),run_add64 x y c hc.1 hc.2.1 hc.2.2.1 hc.2.2.2]
   rfl
  ·cases k
 ·cases k
noncomputable def vE:Env:=envOf Tryd.prog Qsp extF
theorem vE_ok:vE.Ok Tryd.prog:=env_ok Dx Qle ext_ok
noncomputable abbrev Pg:Program:=Tryd.prog
def primesL:List Int:=[2,3,5,7,11,13,17,19,23,29,31,37,41,43,47,53,59,61]
def gs0:Gs:=[(0,primesL.map (V.int .i64))]
abbrev g0:T (List V):=glOf gs0
def sub:List Nat→Code→Code
 |[],c=>c
 |0::p,.seq a _=>sub p a
 | _::p,.seq _ b=>sub p b
 |0::p,.cond _ a _=>sub p a
 | _::p,.cond _ _ b=>sub p b
 | _::p,.block _ b=>sub p b
 | _::p,.loop b=>sub p b
 | _::p,.scope b=>sub p b
 | _:: _,c=>c
noncomputable def bodyOf(f:Nat):Code:=match Ft Tryd.prog f with|some fi=>fi.body|none=>.skip
noncomputable def at'(f:Nat)(p:List Nat):Code:=sub p (bodyOf f)
abbrev i6(n:Int):V:=.int .i64 n
def Ab(l:List Int):List V:=l.map (V.int .i64)
abbrev sl(l:List Int):V:=.im l.length (Ab l)
theorem Qbr(l:List Int):(Ab l).length=l.length:=by simp[Ab]
theorem Qr6(l:List Int)(k:Nat):(Ab l).drop k=Ab (l.drop k):=by simp[Ab]
theorem Qr1{l:List Int}{k:Nat}(h:k<l.length):Ad ((Ab l).drop k)=some (i6 l[k]):=by
 rw[Qr6,List.drop_eq_getElem_cons h];rfl
theorem Qag(l:List Int):HfL (Ab l):=by
 induction l with
 |nil=>trivial
 |cons x l ih=>exact⟨trivial,ih⟩
abbrev yes(d:Nat):Nat×C6:=(d,.bool true)
abbrev no(d:Nat):Nat×C6:=(d,.bool false)
abbrev pl(d:Nat):Nat×C6:=(d,.at_)
abbrev ld(d:Nat)(v:V):Nat×C6:=(d,.ld v)
abbrev nu(d:Nat)(n:Int):Nat×C6:=(d,.num n)
abbrev va(d:Nat)(v:V):Nat×C6:=(d,.val v)
abbrev ap(d:Nat):Nat×C6:=(d,.app)
abbrev mk(d:Nat):Nat×C6:=(d,.mk)
abbrev st(c:List V):Nat×C6:=(999999,.st c)
abbrev fn(d:Nat)(v:V):Nat×C6:=(d,.fn v)
noncomputable def sp0:Qdc:=fun _ _=>none
theorem Qaa{gl:T (List V)}:Qbx Tryd.prog gl sp0:=fun _ _ _ _ h=>by cases h
theorem wr6{n:Int}(h1: -9223372036854775808≤n)(h2:n≤9223372036854775807):wr .i64 n=n:=Qei h1 h2
theorem Dt{n m:Int}(h1: -9223372036854775808≤n)(h2:n≤9223372036854775807)(h:n=m):wr .i64 n=m:=by rw[wr6 h1 h2,h]
theorem Qdy{l:List Int}{k:Nat}(h:k<l.length):Ad ((Ab l).drop (k*1))=some (i6 l[k]):=by rw[Nat.mul_one];exact Qr1 h
theorem Qal{l:List Int}{k:Nat}(h:k<l.length):Ad ((Ab l).drop (k*1))=some (i6 (l.getD k 0)):=by
 rw[Qdy h,List.getD_eq_getElem?_getD,List.getElem?_eq_getElem h];rfl
theorem Db{G:Ctx}{t:Nat}{x y:Int}(h:y≠0):Ai G .rem t (i6 x) (i6 y)=some (i6 (x.tmod y)):=by simp[Ai,intV,h]
theorem quo6{G:Ctx}{t:Nat}{x y:Int}(h:y≠0)(h1: -9223372036854775808≤x.tdiv y)(h2:x.tdiv y≤9223372036854775807):Ai G .quo t (i6 x) (i6 y)=some (i6 (x.tdiv y)):=by simp[Ai,intV,h,wr6 h1 h2]
theorem Qoo(n:Nat)(x:Int):rep n [i6 x]=Ab (List.replicate n x):=by
 induction n with
 |zero=>rfl
 |succ n ih=>rw[rep,ih,List.replicate_succ];rfl
theorem Qoa{l:List Int}{j:Nat}{x:Int}(h:j<l.length):Ax (0+j*1) (Ab l) [i6 x]=some (Ab (l.set j x)):=by
 rw[Nat.zero_add,Nat.mul_one,Qc3,Qbr]
 have:Nat.ble (j+[i6 x].length) l.length=true:=Nat.ble_eq_true_of_le (by simp;omega)
 rw[this,cond_true]
 congr 1
 rw[List.set_eq_take_append_cons_drop,if_pos h]
 simp[Ab,List.map_take,List.map_drop]
theorem Qke{x y:Int}(h:x=y):(x != y)=false:=by simp[h]
theorem Qnl{x y:Int}(h:x≠y):(x != y)=true:=by simp[h]
theorem Qan{x y:Int}(h:x≠y):(x==y)=false:=by simp[h]
theorem Qat{x y:Int}(h:x=y):(x==y)=true:=by simp[h]
theorem au{P:Prop}(h:P:=by
 (repeat'(first|(with_reducible apply And.intro)|(refine fun(_:True)=>?_)))<;>first|with_reducible(first|rfl|exact trivial|assumption|(refine decide_eq_true ?_<;>omega)|(refine decide_eq_false ?_<;>omega)|(refine Qdy ?_<;>omega)|(refine Qke ?_<;>omega)|(refine Qnl ?_<;>omega)|(refine Qan ?_<;>omega)|(refine Qat ?_<;>omega)|(refine Dt ?_ ?_ ?_<;>omega)|(refine Db ?_<;>omega)|(refine quo6 ?_ ?_ ?_<;>omega)|exact Qag _|omega)|((with_reducible show(_:V)=_);rfl)|(intro hk_;exfalso;revert hk_;simp;done)|(intros;simp_all;done)|(split<;>omega)|((with_reducible show decide _=true);exact decide_eq_true (by omega))|((with_reducible show decide _=false);exact decide_eq_false (by omega))|assumption|rfl|exact Ql2 _|exact Qaz _|exact HfL_nls _|exact Qas _|(simp;done)|omega):P:=h
theorem aq{P:Prop}(h:P:=by
 first|exact TT_ok _|exact EQn_ok _ _ _|with_reducible(first|rfl|exact trivial|assumption|(refine decide_eq_true ?_<;>omega)|(refine decide_eq_false ?_<;>omega)|(refine Qdy ?_<;>omega)|(refine Qke ?_<;>omega)|(refine Qnl ?_<;>omega)|(refine Qan ?_<;>omega)|(refine Qat ?_<;>omega)|(refine Dt ?_ ?_ ?_<;>omega)|(refine Db ?_<;>omega)|(refine quo6 ?_ ?_ ?_<;>omega)|exact Qag _|omega)|((with_reducible show(_:V)=_);rfl)|(intro hk_;exfalso;revert hk_;simp;done)|(intros;simp_all;done)|(split<;>omega)|((with_reducible show decide _=true);exact decide_eq_true (by omega))|((with_reducible show decide _=false);exact decide_eq_false (by omega))):P:=h
theorem a_ {P:Prop} (h:P:=by
 (repeat'(first|(with_reducible apply And.intro)|(refine fun(_:True)=>?_)))
 all_goals first|with_reducible rfl|with_reducible assumption|exact aq|solve_by_elim|rfl):P:=h
theorem m_ {p q:Prop} (h:p) (e:p=q:=by kernel_rfl):q:=e.mp h
theorem u_ {p q:Prop} (h:p:=by exact au) (e:p=q:=by kernel_rfl):q:=e.mp h
theorem v_ {p q:Prop} (h:p:=by exact a_) (e:p=q:=by kernel_rfl):q:=e.mp h
abbrev Bn:List Prop→Prop
 |[]=>True
 |p::l=>p∧Bn l
set_option maxHeartbeats 1000000
set_option maxRecDepth 100000
abbrev arF(f:Nat->Int):List V:=[i6 (f 0),i6 (f 1),i6 (f 2),i6 (f 3),i6 (f 4),i6 (f 5),i6 (f 6),i6 (f 7),i6 (f 8),i6 (f 9),i6 (f 10),i6 (f 11),i6 (f 12),i6 (f 13),i6 (f 14),i6 (f 15),i6 (f 16),i6 (f 17)]
abbrev ar(f:Nat->Int):V:=.agg (arF f)
def upA(f:Nat->Int)(k:Nat)(v:Int):Nat->Int:=fun i=>if i=k then v else f i
def Qah:Nat->Int:=fun _=>0
theorem lt18{k:Nat}(h:k<18):k=0\/k=1\/k=2\/k=3\/k=4\/k=5\/k=6\/k=7\/k=8\/k=9\/k=10\/k=11\/k=12\/k=13\/k=14\/k=15\/k=16\/k=17:=by omega
theorem idx41{f:Nat->Int}{k:Nat}(h:k<18):C3 (Qac Pg) 37 (ar f) (k:Int)=some (i6 (f k)):=by
 rcases lt18 h with rfl|rfl|rfl|rfl|rfl|rfl|rfl|rfl|rfl|rfl|rfl|rfl|rfl|rfl|rfl|rfl|rfl|rfl<;>kernel_rfl
theorem Qbs{g:Nat}{k:Nat}(h:k<18):Az (Qac Pg) 37 (.ptr g 0) (k:Int)=some (.ptr g k):=by
 rcases lt18 h with rfl|rfl|rfl|rfl|rfl|rfl|rfl|rfl|rfl|rfl|rfl|rfl|rfl|rfl|rfl|rfl|rfl|rfl<;>kernel_rfl
theorem Qbq{f:Nat->Int}{k:Nat}(h:k<18):Ad (Aj k (arF f))=some (i6 (f k)):=by
 rcases lt18 h with rfl|rfl|rfl|rfl|rfl|rfl|rfl|rfl|rfl|rfl|rfl|rfl|rfl|rfl|rfl|rfl|rfl|rfl<;>rfl
theorem Qk5{f:Nat->Int}{k:Nat}{v:Int}(h:k<18):Ax k (arF f) [i6 v]=some (arF (upA f k v)):=by
 rcases lt18 h with rfl|rfl|rfl|rfl|rfl|rfl|rfl|rfl|rfl|rfl|rfl|rfl|rfl|rfl|rfl|rfl|rfl|rfl<;>rfl
theorem Qbf{f g:Nat->Int}(h: ∀k,k<18->f k=g k):arF f=arF g:=by
 simp only[arF,h 0 o_,h 1 o_,h 2 o_,h 3 o_,h 4 o_,h 5 o_,h 6 o_,h 7 o_,h 8 o_,h 9 o_,h 10 o_,h 11 o_,h 12 o_,h 13 o_,h 14 o_,h 15 o_,h 16 o_,h 17 o_]
def primeL:List Nat:=[2,3,5,7,11,13,17,19,23,29,31,37,41,43,47,53,59,61]
def Al(k:Nat):Nat:=primeL.getD k 2
theorem Qbc(k:Nat):2<=Al k/\Al k<=61:=by
 by_cases h:k<18
 ·rcases lt18 h with rfl|rfl|rfl|rfl|rfl|rfl|rfl|rfl|rfl|rfl|rfl|rfl|rfl|rfl|rfl|rfl|rfl|rfl<;>decide
 ·have : primeL.getD k 2 = 2 := by
   rw[List.getD_eq_getElem?_getD,List.getElem?_eq_none (by simp[primeL];omega)];rfl
  unfold Al;omega
abbrev prV:V:=.agg (primesL.map (V.int .i64))
theorem idx40{k:Nat}(h:k<18):C3 (Qac Pg) 36 prV (k:Int)=some (i6 (Al k)):=by
 rcases lt18 h with rfl|rfl|rfl|rfl|rfl|rfl|rfl|rfl|rfl|rfl|rfl|rfl|rfl|rfl|rfl|rfl|rfl|rfl<;>kernel_rfl
theorem Qjn(k:Nat)(h:k<18):Ac Pg g0 45 [i6 k] (i6 (Al k)):=by
 have hx:=idx40 h
 refine Ac.of_vc vE_ok Af Qaa (n:=1000) (r:=[]) (S:={sl:=[(2,i6 (Al k))]}) (hs:=[va 5 (i6 (Al k))]) ?_
 refine m_ (p:=Bn [Sm (i6 ↑(Al k)),C3 (Qac Pg) 36 (V.agg [i6 2,i6 3,i6 5,i6 7,i6 11,i6 13,i6 17,i6 19,i6 23,i6 29,i6 31,i6 37,i6 41,i6 43,i6 47,i6 53,i6 59,i6 61]) (k:Int)=some (i6 ↑(Al k)),Bn [Sm (↑(Al k):Int)]]) ?_
 (repeat'(first|(with_reducible apply And.intro)|(refine fun(_:True)=>?_)))<;>first|exact aq|skip
 all_goals exact hx
def Qds(p:Nat):Nat->Nat->Nat×Nat
 |0,n=>(0,n)
 |t+1,n=>if n%p=0 then((Qds p t (n/p)).1+1,(Qds p t (n/p)).2)else(0,n)
theorem Qfr{p:Nat}(hp:2<=p): ∀(t n:Nat),1<=n->1<=(Qds p t n).2/\(Qds p t n).2<=n/\(Qds p t n).1<=t
 |0,n,h=>by simp[Qds];omega
 | t + 1, n, h => by
  unfold Qds
  split
  ·rename_i hm
   have h1:n/p<n:=Nat.div_lt_self o_ o_
   have h2:1<=n/p:=by
    have:=Nat.div_add_mod n p
    rcases Nat.eq_zero_or_pos (n/p)with h0|h0
    ·rw[h0,hm]at this;simp at this;omega
    ·exact h0
   have:=Qfr hp t (n/p) h2
   dsimp only
   omega
  ·dsimp only;omega
def ofN(n:Nat):Nat->Nat
 |0=>n
 |k+1=>(Qds (Al k) 63 (ofN n k)).2
def ofF(n:Nat):Nat->Nat->Int
 |0=>Qah
 |k+1=>upA (ofF n k) k ((Qds (Al k) 63 (ofN n k)).1:Nat)
theorem Qsu{n:Nat}(h:1<=n): ∀k,1<=ofN n k/\ofN n k<=n
 |0=>⟨h,Nat.le_refl _⟩
 |k+1=>by
  have h1:=Qsu h k
  have h2:=Qfr (Qbc k).1 63 (ofN n k) h1.1
  unfold ofN;omega
theorem Qst(n:Nat): ∀k i,k<=i->ofF n k i=0
 |0,_,_=>rfl
 |k+1,i,h=>by
  unfold ofF upA
  rw[if_neg o_]
  exact Qst n k i o_
structure SpI(p:Nat)(E M:Nat)(t n e:Nat):Prop where
 pos:1<=n
 fuel:n<2^t
 e1:(Qds p t n).1+e=E
 e2:(Qds p t n).2=M
theorem SpI.step{p E M t n e:Nat}(hp:2<=p)(h:SpI p E M t n e)(hm:n%p=0): ∃t',t=t'+1/\SpI p E M t' (n/p) (e+1):=by
 cases t with
 |zero=>have:=h.fuel;have:=h.pos;omega
 | succ t =>
  refine⟨t,rfl,?_⟩
  have h1:=h.e1
  have h2:=h.e2
  unfold Qds at h1 h2
  rw[if_pos hm]at h1 h2
  have jp:=h.pos
  have hd:=Nat.div_add_mod n p
  have h3:1<=n/p:=by
   rcases Nat.eq_zero_or_pos (n/p)with h0|h0
   ·rw[h0,hm]at hd;simp at hd;omega
   ·exact h0
  refine⟨h3,?_,by dsimp only at h1;omega,h2⟩
  have hf:=h.fuel
  rw[Nat.pow_succ]at hf
  have h4:2*(n/p)<=p*(n/p):=Nat.mul_le_mul_right _ hp
  omega
theorem SpI.stop{p E M t n e:Nat}(hp:2<=p)(h:SpI p E M t n e)(hm:n%p≠0):n=M/\e=E:=by
 have h1:=h.e1
 have h2:=h.e2
 cases t with
 |zero=>have:=h.fuel;have:=h.pos;omega
 |succ t=>
  unfold Qds at h1 h2
  rw[if_neg hm]at h1 h2
  dsimp only at h1 h2
  omega
theorem Qd2(n p:Nat):((n:Int)).tmod (p:Int)=((n%p:Nat):Int):=by
 rw[Int.tmod_eq_emod_of_nonneg o_];simp
theorem Qoz(n p:Nat):((n:Int)).tdiv (p:Int)=((n/p:Nat):Int):=by
 rw[Int.tdiv_eq_ediv_of_nonneg o_];simp
theorem Qt5(f:Nat->Int)(k:Nat)(a b:Int):upA (upA f k a) k b=upA f k b:=by
 funext i;unfold upA;split<;>rfl
theorem Gk(f:Nat->Int)(k:Nat)(a:Int):upA f k a k=a:=by simp[upA]
abbrev spS(f:Nat->Int)(k:Nat)(q:Nat×Nat×Nat):SL:={sl:=[(0,i6 q.2.1),(2,.ptr 0 0),(4,i6 k),(5,i6 (Al k)),(6,prV),(7,i6 k)],os:=[.row 37 none (arF (upA f k q.2.2))]}
abbrev spX(f:Nat->Int)(k:Nat)(n e:Nat):SL:={sl:=[(0,i6 n),(2,.ptr 0 0),(6,prV),(7,i6 k)],os:=[.row 37 none (arF (upA f k e))]}
theorem Gv(f:Nat->Int)(k:Nat)(hk:k<18)(E M:Nat)(q:Nat×Nat×Nat)(hE:E<=63)(hq:SpI (Al k) E M q.1 q.2.1 q.2.2/\q.2.1<=4611686018427387903):
  Sat Pg none 0 (at' 59 [1,0,1,0,0,1,1,0,0,1,0]) (Ah g0 26 (spS f k q)) (Qaf g0 26 [(True,.exit 2,spX f k M E)]):=by
 refine Qax vE_ok Af Qaa (b:=at' 59 [1,0,1,0,0,1,1,0,0,1,0,0]) k_ (fun q=>SpI (Al k) E M q.1 q.2.1 q.2.2/\q.2.1<=4611686018427387903) (spS f k) (fun q=>q.1) (fun q hq=>?_) q hq
 obtain⟨t,n,e⟩:=q
 obtain⟨hq,hn⟩:=hq
 dsimp only at hq hn
 have hp:=Qbc k
 have hrem:Ai (Qac Pg) .rem 3 (i6 n) (i6 (Al k))=some (i6 ((n%Al k:Nat):Int)):=by rw[Db o_,Qd2]
 by_cases hm:n%Al k=0
 ·obtain ⟨t', rfl, hq'⟩ := hq.step hp.1 hm
  have hdl:=Nat.div_le_self n (Al k)
  have htd:=Qoz n (Al k)
  generalize n/Al k=m at*
  have hquo:Ai (Qac Pg) .quo 3 (i6 n) (i6 (Al k))=some (i6 ((m:Nat):Int)):=by rw[quo6 o_ (by rw[htd];omega) (by rw[htd];omega),htd]
  have hpl:=@Qbs 0 k hk
  have hhd:Ad (Aj k (arF (upA f k e)))=some (i6 (e:Int)):=by rw[Qbq hk,Gk]
  have hst:Ax k (arF (upA f k e)) [i6 ((e+1:Nat):Int)]=some (arF (upA f k ((e+1:Nat):Int))):=by rw[Qk5 hk,Qt5]
  have he:=hq'.e1
  refine .inl ⟨(t',m,e+1),[0],[va 13 (i6 ((n%Al k:Nat):Int)),yes 14,va 17 (i6 ((m:Nat):Int)),va 19 (.ptr 0 k),ld 20 (i6 e),nu 21 (e+1:Nat),va 22 (.ptr 0 k),st (arF (upA f k ((e+1:Nat):Int)))],1000,⟨hq',by dsimp only;omega⟩,by dsimp only;omega,?_⟩
  exact u_ (p:=let z0:=arF (upA f k (↑(e+1):Int));let z1:=(k:Int);let z2:=Al k;let z4:=arF (upA f k (e:Int));let z3:=Az (Qac Pg) 37 (V.ptr 0 0) z1;Bn [Ai (Qac Pg) .rem 3 (i6 n) (i6 ↑(z2))=some (i6 ↑(n%z2)),((↑(n%z2):Int)==0)=true,Ai (Qac Pg) .quo 3 (i6 n) (i6 ↑(z2))=some (i6 m),z3=some (V.ptr 0 k),Ad (Aj k z4)=some (i6 e),wr .i64 ((e:Int)+1)=(↑(e+1):Int),z3=some (V.ptr 0 k),Ax k z4 [i6 ↑(e+1)]=some z0,Bn [Sm (m:Int),Zz,z1=z1,Sm (↑(z2):Int),Bn [Sm (2:Int),Sm (3:Int),Sm (5:Int),Sm (7:Int),Sm (11:Int),Sm (13:Int),Sm (17:Int),Sm (19:Int),Sm (23:Int),Sm (29:Int),Sm (31:Int),Sm (37:Int),Sm (41:Int),Sm (43:Int),Sm (47:Int),Sm (53:Int),Sm (59:Int),Sm (61:Int)],z1=z1],An [z0=z0,TT 18]])
 ·obtain ⟨rfl, rfl⟩ := hq.stop hp.1 hm
  refine .inr ⟨.exit 2,[0],spX f k n e,[va 13 (i6 ((n%Al k:Nat):Int)),no 14],1000,.inl ⟨trivial,rfl,rfl⟩,?_⟩
  exact u_ (p:=Bn [Ai (Qac Pg) .rem 3 (i6 n) (i6 ↑(Al k))=some (i6 ↑(n%Al k)),((↑(n%Al k):Int)==0)=false,Bn [Sm (n:Int),Zz,Bn [Sm (2:Int),Sm (3:Int),Sm (5:Int),Sm (7:Int),Sm (11:Int),Sm (13:Int),Sm (17:Int),Sm (19:Int),Sm (23:Int),Sm (29:Int),Sm (31:Int),Sm (37:Int),Sm (41:Int),Sm (43:Int),Sm (47:Int),Sm (53:Int),Sm (59:Int),Sm (61:Int)],Sm (k:Int)],An [Sm (arF (upA f k (e:Int))),TT 18]])
open Go.RowKit Go.ChangeShapes Go.WideShapes
def Ee(w:World)(b:Nat):Prop:=b<w.heap.size
section
variable {H:Type} {enc:TypeId×Value->H} {w:World}
theorem int_trod{P:Program}{base:Nat}{sp:Nat->Bool}{held:Bool}{fuel:Nat}{t:TypeId}{k:IntKind}{c:Value}{y:DataW H×List MemPlace}
  (ht:P.underlying t=some (.int k))(h:DataW.trod enc P w base sp held fuel t [c]=some y): ∃n,c= .int k n/\y=(.lit (.int k n),[])/\(Lit.int k n).wf=true:=by
 cases fuel with
 |zero=>simp[DataW.trod]at h
 |succ fuel=>
  cases c<;>simp[DataW.trod,ht]at h
  rename_i k' n
  obtain⟨⟨rfl,hw⟩,rfl⟩:=h
  exact⟨n,rfl,rfl,hw⟩
def litN:DataW H->Int
 | .lit (.int _ n)=>n
 | _=>0
theorem Qfl{P:Program}{base:Nat}{sp:Nat->Bool}{held:Bool}{fuel:Nat}{t e:TypeId}{m:Nat}{k:IntKind}{cs:List Value}{x:DataW H×List MemPlace}
  (ht:P.underlying t=some (.array m e))(he:P.underlying e=some (.int k))(hce:P.cellsOf e=1)(hct:P.cellsOf t=m)(h:DataW.trod enc P w base sp held fuel t cs=some x):
  ∃ns:List Int,ns.length=m/\cs=ns.map (Value.int k)/\x.1= .agg (ns.map fun n=>.lit (.int k n))/\∀n∈ns,(Lit.int k n).wf=true:=by
 obtain⟨xs,f,rfl,rfl,hl,hxl,hx⟩:=DataW.trod_array ht h
 rw[hct]at hl
 have key: ∀i(hi:i<m),∃n,cs[i]' o_ = .int k n/\xs[i]' o_ =(.lit (.int k n),[])/\(Lit.int k n).wf=true:=by
  intro i hi
  have h1:=hx i hi
  rw[hce,Nat.mul_one,List.drop_eq_getElem_cons o_,List.take_succ_cons,List.take_zero,List.getElem?_eq_getElem o_]at h1
  obtain⟨n,e1,e2,e3⟩:=int_trod he h1
  exact⟨n,e1,e2,e3⟩
 refine⟨xs.map fun y=>litN y.1,by simp[hxl],?_,?_,?_⟩
 ·refine List.ext_getElem (by simp; omega) fun i h1 h2 => ?_
  obtain⟨n,e1,e2,_⟩:=key i o_
  simp[e1,e2,litN]
 ·refine congrArg DataW.agg ?_
  refine List.ext_getElem (by rw[List.length_map,List.length_map,List.length_map]) fun i h1 h2=>?_
  obtain⟨n,e1,e2,_⟩:=key i (by rw[List.length_map]at h1;omega)
  simp[e2,litN]
 ·intro n hn
  obtain⟨y,hy,rfl⟩:=List.mem_map.1 hn
  obtain⟨i,hi,rfl⟩:=List.getElem_of_mem hy
  obtain⟨n,_,e2,e3⟩:=key i o_
  rw[e2];exact e3
theorem RL_map{s:Sig}{w:World}{k:IntKind}: ∀ns:List Int,RL s w (ns.map (V.int k)) (ns.map (Value.int k))
 |[]=>rfl
 |n::ns=>⟨_,_,rfl,rfl,RL_map ns⟩
end
theorem prime_glob:Pg.globalNamed "haruspex/score.primes" =some 0:=by kernel_rfl
theorem prime_type:(Pg.globals[0]?).map (·.type)=some 36:=by kernel_rfl
def Do:Array Value:=(primesL.map (Value.int .i64)).toArray
theorem Qmr{W:World}(h:laidMet Pg [("haruspex/score.primes",Rows.laid_haruspex_score_primes)] W):W.var? Pg "haruspex/score.primes" =some Do:=by
 obtain⟨ps,⟨g,t,cs,fuel,p,q,hg,ht,hvar,hd,_,_⟩,_⟩:=h
 obtain rfl:=Option.some.inj (prime_glob.symm.trans hg)
 obtain rfl:=Option.some.inj (prime_type.symm.trans ht)
 rw[hvar]
 congr 1
 obtain⟨ns,h1,h2,h3,_⟩:=Qfl Tryd.underlying36 Tryd.underlying3 k_ k_ hd
 have h4:(ns.map fun n=>(DataW.lit (.int .i64 n):DataW Unit)).map litN=primesL:=by
  have e:(DataW.agg (ns.map fun n=>(DataW.lit (.int .i64 n):DataW Unit)))=Rows.laid_haruspex_score_primes:=h3.symm
  injection e with e
  rw[e];rfl
 have h5:ns=primesL:=by
  rw[<-h4,List.map_map]
  exact(List.map_id' ns).symm
 rw[<-Array.toArray_toList (xs:=cs),h2,h5];rfl
theorem prime_gl{W:World}(h:W.var? Pg "haruspex/score.primes" =some Do):GL (sg (Ee W)) W g0:=by
 intro g l hg
 have hg':((T.e:T (List V)).put 0 (primesL.map (V.int .i64))).get g=some l:=hg
 rw[T.get_put]at hg'
 split at hg'
 ·rename_i e
  cases hg'
  subst e
  have hsz:0<W.heap.size:=by
   have hv:=h
   simp only[World.var?,prime_glob,Option.bind_some]at hv
   split at hv
   ·rename_i c t f hb;exact(Array.getElem?_eq_some_iff.1 hb).1
   ·cases hv
  have key: ∀(l:List Int)(off:Nat),(∀(j:Nat)(h:j<l.length),W.cell? ⟨0,off+j,none⟩=some (.int .i64 l[j]))->RC (sg (Ee W)) W (l.map (V.int .i64)) 0 off:=by
   intro l
   induction l with
   |nil=>intro _ _;trivial
   | cons y l ih =>
    intro off hh
    exact⟨⟨hsz,_,hh 0 (by simp),rfl⟩,ih (off+1) fun j hj=>by
     have:=hh (j+1) (by simpa using hj)
     rw[show off+1+j=off+(j+1)by omega]
     exact this⟩
  refine key primesL 0 fun j hj=>?_
  rw[World.var?_cell prime_glob h,Nat.zero_add]
  simp[Do,List.getElem?_eq_getElem hj]
 ·simp at hg'
theorem Qsa{f:Nat}{ars:List V}{b:Bool}(h:Ac Pg g0 f ars (.bool b))(hf:(Ft Pg f).isSome=true){w:World}{jk:Array Value}(ha:RL (sg (Ee w)) w ars jk.toList)(hg:GL (sg (Ee w)) w g0):Calls Pg f jk w fun e w'=>e= .returned (.bool b)/\Below w.heap.size w w':=by
 obtain⟨fi,hfi⟩:=Option.isSome_iff_exists.1 hf
 obtain⟨next,e1,e2,e3⟩:=h.1 (sg (Ee w)) w (.func (.func f) #[] #[]) jk ⟨#[],rfl,rfl⟩ ha (no_rh (fun b hb=>hb.elim id False.elim)) hg (fun _ _ h=>h)
 have hn:next= .enter f jk:=by
  have:=(vE_ok.code f fi hfi)
  obtain⟨fn,f1,f2,f3,f4,f5⟩:=this
  have:=f5 jk w
  simp[Deferred.ofValue,invoke,this]at e1
  exact e1.symm
 subst hn
 refine(callsIn_wide.1 e2).mono ?_
 rintro e w' ⟨u,s',rfl,g1,g2,g3,_⟩
 obtain rfl:u= .bool b:=g1
 exact⟨rfl,g3.mod.os,g3.mod.tape,g3.mod.output,g3.mod.size,fun k hk=>g3.mod.block k hk (fun⟨_,hm,_⟩=>by cases hm)⟩
noncomputable def Qk4(os:Os):World:=
 { World.holding Pg os ⟨#[], #[], []⟩ with heap := (World.holding Pg os ⟨#[], #[], []⟩).heap.modify 0 fun
   | .cells _ t frozen=>.cells Do t frozen
   |o=>o}
def Bh:List Int->Int
 |[]=>0
 |x::l=>x+Bh l
def As:List Nat->Nat
 |[]=>0
 |x::l=>x+As l
theorem Qc6(a b:List Int):Bh (a++b)=Bh a+Bh b:=by
 induction a with
 |nil=>simp[Bh]
 |cons x a ih=>simp only[List.cons_append,Bh,ih];omega
theorem Qc7(a b:List Nat):As (a++b)=As a+As b:=by
 induction a with
 |nil=>simp[As]
 |cons x a ih=>simp only[List.cons_append,As,ih];omega
theorem Qlv{α:Type}(f:α->Int): ∀l:List α,(∀x∈l,f x=0)->Bh (l.map f)=0
 |[],_=>rfl
 |x::l,h=>by
  simp only[List.map_cons,Bh,h x List.mem_cons_self,Qlv f l (fun y hy=>h y (List.mem_cons_of_mem _ hy))];omega
theorem Qio{α:Type}{f g:α->Int}: ∀l:List α,(∀x∈l,f x=g x)->Bh (l.map f)=Bh (l.map g)
 |[],_=>rfl
 |x::l,h=>by
  simp only[List.map_cons,Bh,h x List.mem_cons_self,Qio l (fun y hy=>h y (List.mem_cons_of_mem _ hy))]
theorem Qlu{a b:List Int}(h:a.Perm b):Bh a=Bh b:=by
 induction h with
 |nil=>rfl
 |cons x _ ih=>simp only[Bh,ih]
 |swap x y l=>simp only[Bh];omega
 |trans _ _ h1 h2=>exact h1.trans h2
theorem Qhr{ks:List Nat}(f:Nat->Int)(n:Nat)(hn:ks.Nodup)(hk: ∀k∈ks,k<n)(h0: ∀j,j<n->j∉ks->f j=0):Bh ((List.range n).map f)=Bh (ks.map f):=by
 have hp:((List.range n).filter (fun j=>decide (j∈ks))).Perm ks:=by
  refine(List.perm_ext_iff_of_nodup (List.Nodup.sublist List.filter_sublist List.nodup_range) hn).2 fun a=>?_
  simp only[List.mem_filter,List.mem_range,decide_eq_true_eq]
  exact⟨fun h=>h.2,fun h=>⟨hk a h,h⟩⟩
 rw[<-Qlu (hp.map f)]
 have: ∀l:List Nat,(∀j∈l,j∉ks->f j=0)->Bh (l.map f)=Bh ((l.filter (fun j=>decide (j∈ks))).map f):=by
  intro l
  induction l with
  |nil=>intro _;rfl
  | cons x l ih =>
   intro h
   have h1:=ih (fun j hj=>h j (List.mem_cons_of_mem _ hj))
   by_cases hx:x∈ks
   ·rw [List.filter_cons_of_pos (by simpa using hx)]
    simp only[List.map_cons,Bh,h1]
   ·rw [List.filter_cons_of_neg (by simpa using hx)]
    simp only[List.map_cons,Bh,h1,h x List.mem_cons_self hx];omega
 exact this _ (fun j hj=>h0 j (List.mem_range.1 hj))
def bump(r q k:Nat):List (Nat×List Nat)->List (Nat×List Nat)
 |[]=>[(q,(List.replicate r 0).set k 1)]
 |(p,l)::es=>if p=q then(p,l.set k (l.getD k 0+1))::es else(p,l)::bump r q k es
def Qaq(r:Nat)(P:List (Nat×Nat)):List (Nat×List Nat):=P.foldl (fun es p=>bump r p.1 p.2 es) []
def E5(P:List (Nat×Nat))(j k:Nat):Nat:=P.count (j,k)
def Bk(P:List (Nat×Nat))(r j:Nat):List Nat:=(List.range r).map (E5 P j)
def Cq(F:Nat->Nat->Int)(r:Nat)(l:List Nat)(i:Nat):Int:=Bh (l.map fun c=>F c i)+F (r-1) i-F (As l+(r-1)) i
def Eh(F:Nat->Nat->Int)(P:List (Nat×Nat))(r size:Nat)(i:Nat):Int:=Bh ((List.range size).map fun j=>Cq F r (Bk P r j) i)
theorem Qdh(r:Nat)(P:List (Nat×Nat))(p:Nat×Nat):Qaq r (P++[p])=bump r p.1 p.2 (Qaq r P):=by simp[Qaq,List.foldl_append]
structure F8(r:Nat)(P:List (Nat×Nat))(es:List (Nat×List Nat)):Prop where
 nodup:(es.map (·.1)).Nodup
 row: ∀e∈es,e.2=Bk P r e.1
 keys: ∀q,q∈es.map (·.1)↔∃k,(q,k)∈P
theorem Qgb(P:List (Nat×Nat))(q k j m:Nat):E5 (P++[(q,k)]) j m=E5 P j m+if q=j/\k=m then 1 else 0:=by
 unfold E5
 rw[List.count_append,List.count_singleton]
 by_cases h:q=j/\k=m
 ·rw[if_pos h];simp[h.1,h.2]
 ·rw [if_neg h]
  have:((q,k)==(j,m))=false:=by
   rw[beq_eq_false_iff_ne];intro e;cases e;exact h ⟨rfl,rfl⟩
  rw[this];rfl
theorem Qih{P:List (Nat×Nat)}{r q k j:Nat}(h:q≠j):Bk (P++[(q,k)]) r j=Bk P r j:=by
 unfold Bk
 refine List.map_congr_left fun m _=>?_
 rw[Qgb,if_neg (fun h'=>h h'.1)];omega
theorem Qot{P:List (Nat×Nat)}{r j k:Nat}(h:k<r):(Bk P r j).getD k 0=E5 P j k:=by
 unfold Bk
 rw[List.getD_eq_getElem?_getD,List.getElem?_map,List.getElem?_range h];rfl
theorem Qbt(P:List (Nat×Nat))(r j:Nat):(Bk P r j).length=r:=by simp[Bk]
theorem Qhc{P:List (Nat×Nat)}{r q k:Nat}(h:k<r):Bk (P++[(q,k)]) r q=(Bk P r q).set k ((Bk P r q).getD k 0+1):=by
 rw[Qot h]
 apply List.ext_getElem
 ·simp[Bk]
 ·intro m h1 h2
  rw[Qbt]at h1
  rw[List.getElem_set]
  simp only[Bk,List.getElem_map,List.getElem_range,Qgb]
  by_cases hm:k=m
  ·subst hm;simp
  ·simp[hm]
theorem Qhb{P:List (Nat×Nat)}{r j:Nat}(h: ¬ ∃k,(j,k)∈P):Bk P r j=List.replicate r 0:=by
 unfold Bk
 rw[List.eq_replicate_iff]
 refine⟨by simp,fun b hb=>?_⟩
 obtain⟨k,_,rfl⟩:=List.mem_map.1 hb
 exact List.count_eq_zero.2 fun hm=>h ⟨k,hm⟩
theorem Qkf(r q k:Nat): ∀es:List (Nat×List Nat),(bump r q k es).map (·.1)=if q∈es.map (·.1)then es.map (·.1)else es.map (·.1)++[q]
 |[]=>by simp[bump]
 | (p, l) :: es => by
  unfold bump
  by_cases hp:p=q
  ·subst hp;simp
  ·rw [if_neg hp]
   simp only[List.map_cons,Qkf r q k es,List.mem_cons]
   by_cases hm:q∈es.map (·.1)
   ·rw[if_pos hm,if_pos (.inr hm)]
   ·rw[if_neg hm,if_neg (by rintro(h|h);exact hp h.symm;exact hm h)];rfl
theorem C7{r q k:Nat}: ∀{es:List (Nat×List Nat)},(es.map (·.1)).Nodup->∀e∈bump r q k es,(e.1≠q/\e∈es)\/(e.1=q/\((∃l,(q,l)∈es/\e.2=l.set k (l.getD k 0+1))\/(q∉es.map (·.1)/\e.2=(List.replicate r 0).set k 1)))
 |[],_,e,he=>by
  unfold bump at he
  obtain rfl:=List.mem_singleton.1 he
  exact .inr ⟨rfl,.inr ⟨by simp,rfl⟩⟩
 | (p, l) :: es, hn, e, he => by
  unfold bump at he
  rw[List.map_cons,List.nodup_cons]at hn
  by_cases hp:p=q
  ·subst hp
   rw[if_pos rfl]at he
   rcases List.mem_cons.1 he with rfl|he
   ·exact .inr ⟨rfl,.inl ⟨l,List.mem_cons_self,rfl⟩⟩
   ·refine .inl ⟨fun h=>hn.1 (h▸List.mem_map.2 ⟨e,he,rfl⟩),List.mem_cons_of_mem _ he⟩
  ·rw [if_neg hp] at he
   rcases List.mem_cons.1 he with rfl|he
   ·exact .inl ⟨hp,List.mem_cons_self⟩
   ·rcases C7 hn.2 e he with ⟨h1, h2⟩ | ⟨h1, ⟨l', h2, h3⟩ | ⟨h2, h3⟩⟩
    ·exact .inl ⟨h1,List.mem_cons_of_mem _ h2⟩
    ·exact .inr ⟨h1,.inl ⟨l',List.mem_cons_of_mem _ h2,h3⟩⟩
    ·refine .inr ⟨h1, .inr ⟨?_, h3⟩⟩
     rw[List.map_cons,List.mem_cons]
     rintro(h|h)
     ·exact hp h.symm
     ·exact h2 h
theorem F8.bump{r:Nat}{P:List (Nat×Nat)}{es:List (Nat×List Nat)}(h:F8 r P es){q k:Nat}(hk:k<r):F8 r (P++[(q,k)]) (bump r q k es):=by
 have hk':=Qkf r q k es
 refine⟨?_,fun e he=>?_,fun a=>?_⟩
 ·rw [hk']
  split
  ·exact h.nodup
  ·rename_i hm
   rw[List.nodup_append]
   refine⟨h.nodup,by simp,fun a ha b hb=>?_⟩
   obtain rfl:=List.mem_singleton.1 hb
   rintro rfl;exact hm ha
 ·rcases C7 h.nodup e he with ⟨h1, h2⟩ | ⟨h1, ⟨l, h2, h3⟩ | ⟨h2, h3⟩⟩
  ·rw[Qih (Ne.symm h1)];exact h.row e h2
  ·rw [h1, Qhc hk, h3]
   have:=h.row _ h2
   dsimp only at this
   rw[this]
  ·rw [h1, Qhc hk, h3, Qhb (fun hx => h2 ((h.keys q).2 hx))]
   congr 1
   rw[List.getD_eq_getElem?_getD,List.getElem?_replicate];simp[hk]
 ·rw [hk']
  have:=h.keys a
  split
  ·rename_i hm
   rw[this]
   constructor
   ·rintro⟨m,hm⟩;exact⟨m,List.mem_append_left _ hm⟩
   ·rintro ⟨m, hm2⟩
    rcases List.mem_append.1 hm2 with h2|h2
    ·exact⟨m,h2⟩
    ·cases List.mem_singleton.1 h2;exact(h.keys _).1 hm
  ·rw [List.mem_append, this]
   constructor
   ·rintro (⟨m, hm⟩ | ha)
    ·exact⟨m,List.mem_append_left _ hm⟩
    ·obtain rfl:=List.mem_singleton.1 ha;exact⟨k,List.mem_append_right _ (List.mem_singleton.2 rfl)⟩
   ·rintro ⟨m, hm2⟩
    rcases List.mem_append.1 hm2 with h2|h2
    ·exact .inl ⟨m,h2⟩
    ·cases List.mem_singleton.1 h2;exact .inr (List.mem_singleton.2 rfl)
theorem Qct{r:Nat}(P:List (Nat×Nat))(h: ∀p∈P,p.2<r):F8 r P (Qaq r P):=by
 have key: ∀(P Q:List (Nat×Nat)),(∀p∈Q,p.2<r)->F8 r P (Qaq r P)->F8 r (P++Q) (Qaq r (P++Q)):=by
  intro P Q
  induction Q generalizing P with
  |nil=>intro _ h;rw[List.append_nil];exact h
  |cons p Q ih=>
   intro hq h
   rw[show P++p::Q=(P++[p])++Q by simp]
   refine ih _ (fun x hx=>hq x (List.mem_cons_of_mem _ hx)) ?_
   rw[Qdh]
   exact h.bump (hq p List.mem_cons_self)
 have:=key [] P h ⟨by simp[Qaq],by simp[Qaq],by simp[Qaq]⟩
 rwa [List.nil_append]at this
theorem Qjy(r:Nat):As (List.replicate r 0)=0:=by
 induction r with
 |zero=>rfl
 |succ r ih=>rw[List.replicate_succ,As,ih]
theorem con_zero{F:Nat->Nat->Int}{r i:Nat}(h0:F 0 i=0):Cq F r (List.replicate r 0) i=0:=by
 unfold Cq
 rw[Qjy,Qlv _ _ (fun x hx=>by rw[(List.mem_replicate.1 hx).2];exact h0)]
 simp only[Nat.zero_add];omega
theorem Qgh{F:Nat->Nat->Int}{r size i:Nat}{P:List (Nat×Nat)}(h0:F 0 i=0)(h: ∀p∈P,p.1<size/\p.2<r):Bh ((Qaq r P).map fun e=>Cq F r e.2 i)=Eh F P r size i:=by
 have hE:=Qct P (fun p hp=>(h p hp).2)
 unfold Eh
 rw[Qhr (ks:=(Qaq r P).map (·.1)) _ size hE.nodup ?_ ?_,List.map_map]
 ·refine Qio _ fun e he => ?_
  simp only[Function.comp]
  rw[hE.row e he]
 ·intro k hk
  obtain⟨m,hm⟩:=(hE.keys k).1 hk
  exact(h _ hm).1
 ·intro j _ hj
  rw[Qhb (fun hx=>hj ((hE.keys j).2 hx))]
  exact con_zero h0
theorem Qcy{r:Nat}(P:List (Nat×Nat))(j:Nat)(h: ∀p∈P,p.2<r):As (Bk P r j)<=P.length:=by
 have key : ∀ (P Q : List (Nat × Nat)), (∀ p ∈ Q, p.2 < r) -> As (Bk P r j) <= P.length -> As (Bk (P ++ Q) r j) <= (P ++ Q).length := by
  intro P Q
  induction Q generalizing P with
  |nil=>intro _ h;rw[List.append_nil];exact h
  | cons p Q ih =>
   intro hq h
   rw[show P++p::Q=(P++[p])++Q by simp]
   refine ih _ (fun x hx=>hq x (List.mem_cons_of_mem _ hx)) ?_
   obtain⟨q,k⟩:=p
   have hk:k<r:=hq _ List.mem_cons_self
   by_cases hqj:q=j
   ·subst hqj
    rw[Qhc hk]
    have hs: ∀(l:List Nat)(k:Nat),k<l.length->As (l.set k (l.getD k 0+1))=As l+1:=by
     intro l
     induction l with
     |nil=>intro k h;cases h
     | cons x l ih =>
      intro k h
      cases k with
      |zero=>simp[As];omega
      |succ k=>
       have:=ih k (by simpa using h)
       simp only[List.set_cons_succ,List.getD_cons_succ,As,this];omega
    rw[hs _ _ (by rw[Qbt];exact hk)]
    simp;omega
   ·rw[Qih hqj];simp;omega
 have:=key [] P h (by rw[Qhb (by simp),Qjy];exact Nat.zero_le _)
 rwa [List.nil_append]at this
theorem Qb9{l:List Nat}{x:Nat}(h:x∈l):x<=As l:=by
 induction l with
 |nil=>cases h
 |cons y l ih=>
  simp only[As]
  rcases List.mem_cons.1 h with rfl|h
  ·omega
  ·have:=ih h;omega
set_option maxHeartbeats 1000000
set_option maxRecDepth 100000
abbrev lk(d:Nat)(es:List (V×V×Nat))(ck:Nat)(r0:Option (Nat×V)):Nat×C6:=(d,.lk es ck r0)
abbrev up(es:List (V×V×Nat))(ck:Nat)(o':O):Nat×C6:=(999999,.up es ck o')
abbrev lo_(d:Nat)(o:O)(v:V):Nat×C6:=(d,.lo o v)
abbrev so(o:O)(c:List V):Nat×C6:=(999999,.so o c)
abbrev toO(sl:List (Nat×V)):Nat×C6:=(0,.toO sl)
abbrev lpF(sl:List (Nat×V))(e:Ex)(sl':List (Nat×V)):Nat×C6:=(0,.loopF sl [(True,e,sl')])
def outF:List (Prop×Ex×List (Nat×V))->Ex->List (Nat×V)->Prop
 |[],_,_=>False
 |(p,e',sl')::l,e,sl=>(p/\e=e'/\sl=sl')\/outF l e sl
theorem outF_F{gl:T (List V)}{n:Nat}{M:Mem}: ∀{l:List (Prop×Ex×List (Nat×V))}{e:Ex}{sl:List (Nat×V)},outF l e sl->Qlj gl n M.H M.nx M.lg l e (A4 gl n sl M.H M.nx M.lg)
 |(p,e',sl')::l,e,sl,h=>by
  rcases h with⟨h1,h2,rfl⟩|h
  ·exact .inl ⟨h1,h2,rfl⟩
  ·exact .inr (outF_F h)
theorem Qgw{gl:T (List V)}{c b:Code}(hc:c= .loop b){k:Nat}{α:Type}(I:α->Mem->Prop)(S:α->List (Nat×V))(m:α->Nat)(out:Ex->List (Nat×V)->Mem->Prop)
  (h: ∀x(H:T O)(nx:Nat)(lg:List Nat)(G:Ex->List (Nat×V)->T O->Nat->List Nat->Prop),I x ⟨H,nx,lg⟩->(∀y H nx lg,I y ⟨H,nx,lg⟩->m y<m x->G .normal (S y) H nx lg)->(∀i sl H nx lg,out (.exit i) sl ⟨H,nx,lg⟩->G (.exit i) sl H nx lg)->(∀sl H nx lg,out .ret sl ⟨H,nx,lg⟩->G .ret sl H nx lg)->∃hs n,vc Pg vE sp0 none 0 n b hs (A4 gl k (S x) H nx lg) (kEndO k G))
  (x:α)(M:Mem)(hx:I x M):Sat Pg none 0 c (A4 gl k (S x) M.H M.nx M.lg) (fun e st=>∃sl M',st=A4 gl k sl M'.H M'.nx M'.lg/\out e sl M'):=
 loopO vE_ok Af Qaa hc I S m out (fun x H nx lg hI=>h x H nx lg _ hI (fun y H nx lg h1 h2=>⟨y,h1,h2,rfl⟩) (fun i sl H nx lg h=>h) (fun sl H nx lg h=>h)) x M hx
theorem loopFr{gl:T (List V)}{c b:Code}(hc:c= .loop b){k:Nat}{α:Type}(I:α->Prop)(S:α->List (Nat×V))(m:α->Nat)(kz:List (Prop×Ex×List (Nat×V)))(H:T O)(nx:Nat)(lg:List Nat)
  (h: ∀x(G:Ex->List (Nat×V)->T O->Nat->List Nat->Prop),I x->(∀y,I y->m y<m x->G .normal (S y) H nx lg)->(∀i sl,outF kz (.exit i) sl->G (.exit i) sl H nx lg)->∃hs n,vc Pg vE sp0 none 0 n b hs (A4 gl k (S x) H nx lg) (kEndO k G))(x:α)(hx:I x):Sat Pg none 0 c (A4 gl k (S x) H nx lg) (Qlj gl k H nx lg kz):=by
 refine(Qgw hc (fun y M'=>I y/\M'=⟨H,nx,lg⟩) S m (fun e sl M'=>M'=⟨H,nx,lg⟩/\outF kz e sl) (fun x H' nx' lg' G hI hN hE _=>?_) x ⟨H,nx,lg⟩ ⟨hx,rfl⟩).mono ?_
 ·obtain ⟨hI, e⟩ := hI
  cases e
  exact h x G hI (fun y h1 h2=>hN y _ _ _ ⟨h1,rfl⟩ h2) (fun i sl h=>hE i sl _ _ _ ⟨rfl,h⟩)
 ·rintro e st ⟨sl, M', rfl, rfl, ho⟩
  exact outF_F (M:=⟨H,nx,lg⟩) ho
theorem Qse{gl:T (List V)}{c b:Code}(hc:c= .loop b){k nx0:Nat}{α:Type}(I:α->Prop)(S:α->SL)(m:α->Nat)(out:Ex->SL->Prop)
  (h: ∀x(G:Ex->SL->Prop),I x->(∀y,I y->m y<m x->G .normal (S y))->(∀i S',out (.exit i) S'->G (.exit i) S')->(∀S',out .ret S'->G .ret S')->∃hs n,vc Pg vE sp0 none nx0 n b hs (Ah gl k (S x)) (kEnd nx0 k G))(x:α)(hx:I x):Sat Pg none nx0 c (Ah gl k (S x)) (fun e st=>∃S',st=Ah gl k S'/\out e S'):=
 loopH vE_ok Af Qaa hc I S m out (fun x hI=>h x _ hI (fun y h1 h2=>⟨y,h1,h2,rfl⟩) (fun i S' h=>h) (fun S' h=>h)) x hx
theorem Qad{α:Type}(t:T α)(i j:Nat)(x:α):gt (pt t i x) j=if j=i then some x else gt t j:=by rw[Qa0,Bl,T.get_put,Qa0]
def nt(l:List Nat):List V:=l.map fun(x:Nat)=>i6 (x:Int)
abbrev nl(l:List Nat):V:=.im l.length (nt l)
theorem Qb0(l:List Nat):(nt l).length=l.length:=by simp[nt]
theorem Qe7(l:List Nat):nt l=Ab (l.map fun(x:Nat)=>(x:Int)):=by simp[nt,Ab,List.map_map,Function.comp]
theorem Qa5{l:List Nat}{k:Nat}(h:k<l.length):Ad ((nt l).drop (k*1))=some (i6 ((l.getD k 0:Nat):Int)):=by
 rw[Qe7,Qal (by simpa using h)]
 congr 2
 rw[List.getD_eq_getElem?_getD,List.getD_eq_getElem?_getD,List.getElem?_map,List.getElem?_eq_getElem h];rfl
theorem Qaz(l:List Nat):HfL (nt l):=by rw[Qe7];exact Qag _
theorem Qop(n x:Nat):rep n [i6 (x:Int)]=nt (List.replicate n x):=by rw[Qoo,Qe7,List.map_replicate]
theorem Qob{l:List Nat}{j x:Nat}(h:j<l.length):Ax (0+j*1) (nt l) [i6 (x:Int)]=some (nt (l.set j x)):=by
 rw[Qe7,Qoa (by simpa using h),Qe7]
 congr 2
 apply List.ext_getElem
 ·simp
 ·intro n h1 h2
  simp only[List.getElem_set,List.getElem_map]
  split<;>rfl
theorem Qca{α:Type}(f:α->V)(l:List α)(h: ∀x,Hf (f x)):HfL (l.map f):=by
 induction l with
 |nil=>trivial
 |cons x l ih=>exact⟨h x,ih⟩
theorem Qbg{α:Type}{f:α->V}{l:List α}{k:Nat}{x:α}(h:l[k]? =some x):Ad ((l.map f).drop (k*1))=some (f x):=by
 obtain⟨hk,rfl⟩:=List.getElem?_eq_some_iff.1 h
 rw[Nat.mul_one,<-List.map_drop,List.drop_eq_getElem_cons hk];rfl
abbrev u6(n:Int):V:=.int .u64 n
theorem F6{G:Ctx}{t:Nat}{x k:Nat}(hk:k<=64):Ai G .shr t (u6 (x:Int)) (i6 (k:Int))=some (u6 ((x/2^k:Nat):Int)):=by
 have h1:((k:Int)<0)=False:=by simp
 have h2:min k 64=k:=by omega
 simp only[Ai,intV,h1,if_false,Int.toNat_natCast,IntKind.bits,h2]
 rw[Int.fdiv_eq_ediv_of_nonneg _ (Int.natCast_nonneg _)]
 rfl
theorem Qqk{G:Ctx}{t:Nat}{x:Nat}:Ai G .and t (u6 (x:Int)) (u6 1)=some (u6 ((x%2:Nat):Int)):=by
 have h:(BitVec.ofInt 64 (x:Int)&&& BitVec.ofInt 64 1).toNat=x%2:=by
  rw[BitVec.toNat_and]
  have h1:(BitVec.ofInt 64 1).toNat=1:=by decide
  rw[h1,Nat.and_one_is_mod]
  have h2:(BitVec.ofInt 64 (x:Int)).toNat=x%2^64:=by
   rw[BitVec.toNat_ofInt];omega
  rw[h2];omega
 have hw:IntKind.u64.wrap ((x%2:Nat):Int)=((x%2:Nat):Int):=by
  rw[<-Dw];exact Qei (by simp[lo];omega) (by simp[hi];omega)
 have e:Ai G .and t (u6 (x:Int)) (u6 1)=some (.int .u64 (IntKind.u64.wrap ((BitVec.ofInt 64 (x:Int)&&& BitVec.ofInt 64 1).toNat:Int))):=rfl
 rw[e,h,hw]
def Ct(jj:List Nat)(ps:Nat)(jk:List Nat):Nat->Nat
 |0=>0
 |k+1=>if ps/2^k%2=1 then Ct jj ps jk k*jj.getD k 0+jk.getD k 0 else Ct jj ps jk k
def Qbn(jj:List Nat)(ps:Nat):Nat->Nat
 |0=>1
 |k+1=>if ps/2^k%2=1 then Qbn jj ps k*jj.getD k 0 else Qbn jj ps k
structure Bt(jj:List Nat):Prop where
 pos:1<=jj.length
 six:jj.length<=6
 each: ∀k,k<jj.length->2<=jj.getD k 0/\jj.getD k 0<=4
structure Cb(jj jk:List Nat):Prop where
 len:jk.length=jj.length
 lt: ∀k,k<jj.length->jk.getD k 0<jj.getD k 0
theorem Qet{jj:List Nat}(h:Bt jj)(ps:Nat): ∀k,k<=jj.length->1<=Qbn jj ps k/\Qbn jj ps k<=4^k
 |0,_=>by simp[Qbn]
 | k + 1, hk => by
  have h1:=Qet h ps k o_
  have h2:=h.each k o_
  unfold Qbn
  split
  ·constructor
   ·exact Nat.mul_pos h1.1 o_
   ·rw[Nat.pow_succ];exact Nat.mul_le_mul h1.2 h2.2
  ·rw[Nat.pow_succ];omega
theorem Qhd{jj jk:List Nat}(h:Bt jj)(hv:Cb jj jk)(ps:Nat): ∀k,k<=jj.length->Ct jj ps jk k<Qbn jj ps k
 |0,_=>by simp[Ct,Qbn]
 |k+1,hk=>by
  have h1:=Qhd h hv ps k o_
  have h2:=h.each k o_
  have h3:=hv.lt k o_
  unfold Ct Qbn
  split
  ·calc _<Ct jj ps jk k*jj.getD k 0+jj.getD k 0:=by omega
    _=(Ct jj ps jk k+1)*jj.getD k 0:=by rw[Nat.add_mul,Nat.one_mul]
    _<=_:=Nat.mul_le_mul_right _ h1
  ·exact h1
theorem pow4{k:Nat}(h:k<=6):4^k<=4096:=by
 calc 4^k<=4^6:=Nat.pow_le_pow_right o_ h
  _=4096:=by decide
theorem rowN_bd{jj jk:List Nat}(h:Bt jj)(hv:Cb jj jk)(ps:Nat){k:Nat}(hk:k<=jj.length):Ct jj ps jk k<4096:=by
 have:=Qhd h hv ps k hk
 have:=Qet h ps k hk
 have:=pow4 (show k<=6 by have:=h.six;omega)
 omega
abbrev cV(cs:List (List Nat)):V:=.im cs.length (cs.map nl)
abbrev dN(jj:List Nat)(cs:List (List Nat)):V:=.agg [nl jj,cV cs]
abbrev gC(cs:List (List Int)):V:=.im cs.length (cs.map sl)
abbrev gV(jj:List Int)(cs:List (List Int)):V:=.agg [sl jj,gC cs]
abbrev gO(jj:List Int)(cs:List (List Int)):O:=.row 31 none [sl jj,gC cs]
def okC(x:Int):Bool:=decide (2<=x/\x<=4)
def okX(c x:Int):Bool:=decide (-1<=x/\x<c)
def Er(jj:List Int):Bool:=(List.range jj.length).all fun j=>okC (jj.getD j 0)
def Bd(jj c:List Int):Bool:=decide (c.length=jj.length)&&(List.range jj.length).all fun j=>okX (jj.getD j 0) (c.getD j 0)
def Ar(jj:List Int):Nat->Int
 |0=>1
 |k+1=>Ar jj k*jj.getD k 0
def B5(jj:List Int)(cs:List (List Int)):Bool:=
 decide (1<=jj.length)&&(decide (jj.length<=6)&&(decide (cs.length<=40)&&(Er jj&&(decide (Ar jj jj.length<=1024)&&cs.all (Bd jj)))))
theorem Qam{n:Nat}{p:Nat->Bool}:(List.range n).all p=true↔∀j,j<n->p j=true:=by
 rw[List.all_eq_true]
 exact⟨fun h j hj=>h j (List.mem_range.2 hj),fun h j hj=>h j (List.mem_range.1 hj)⟩
theorem Qbb{n k:Nat}{p:Nat->Bool}(hk:k<n)(h:p k=false):(List.range n).all p=false:=by
 cases hb:(List.range n).all p with
 |false=>rfl
 |true=>rw[Qam.1 hb k hk]at h;cases h
theorem Qfp{jj:List Int}: ∀k:Nat,(∀j,j<k->okC (jj.getD j 0)=true)->1<=Ar jj k/\Ar jj k<=4^k
 |0,_=>by simp[Ar]
 |k+1,h=>by
  have h1:=Qfp k (fun j hj=>h j o_)
  have h2:=of_decide_eq_true (h k o_)
  unfold Ar
  have h3:Ar jj k*1<=Ar jj k*jj.getD k 0:=Int.mul_le_mul_of_nonneg_left o_ o_
  have h4:Ar jj k*jj.getD k 0<=4^k*4:=Int.mul_le_mul h1.2 h2.2 o_ o_
  rw[Int.pow_succ]
  omega
theorem pow4I{k:Nat}(h:k<=6):(4:Int)^k<=4096:=by
 have:k=0\/k=1\/k=2\/k=3\/k=4\/k=5\/k=6:=by omega
 rcases this with rfl|rfl|rfl|rfl|rfl|rfl|rfl<;>decide
theorem Ql2(cs:List (List Int)):HfL (cs.map sl):=Qca sl cs (fun _=>trivial)
theorem Qbj{gl:T (List V)}{n:Nat}{p q:Prop}{e e':Ex}{S S':SL}(hp:p)(hq: ¬q): ∀e1 st,Qaf gl n [(p,e,S),(q,e',S')] e1 st->Qaf gl n [(True,e,S)] e1 st:=by
 rintro e1 st (⟨_,h⟩|⟨h,_⟩|h)
 ·exact .inl ⟨trivial,h⟩
 ·exact absurd h hq
 ·exact h.elim
theorem Qbk{gl:T (List V)}{n:Nat}{p q:Prop}{e e':Ex}{S S':SL}(hp: ¬p)(hq:q): ∀e1 st,Qaf gl n [(p,e,S),(q,e',S')] e1 st->Qaf gl n [(True,e',S')] e1 st:=by
 rintro e1 st (⟨h,_⟩|⟨_,h⟩|h)
 ·exact absurd h hp
 ·exact .inl ⟨trivial,h⟩
 ·exact h.elim
abbrev ckS(jj:List Int)(cs:List (List Int))(k:Nat):SL:={sl:=[(1,.ptr 0 0),(3,i6 (Ar jj k)),(28,sl jj),(29,i6 jj.length),(30,i6 k)],os:=[gO jj cs]}
abbrev ckX(jj:List Int)(cs:List (List Int))(w:Int):SL:={sl:=[(1,.ptr 0 0),(3,i6 w)],os:=[gO jj cs]}
abbrev ckR(e:Int):SL:={sl:=[(2,i6 e)]}
theorem Qqy(jj:List Int)(cs:List (List Int))(h6:jj.length<=6):
  Sat Pg none 0 (at' 61 [1,0,1,1,0,1,0]) (Ah g0 80 (ckS jj cs 0)) (Qaf g0 80 [(Er jj=true,.exit 0,ckX jj cs (Ar jj jj.length)),(Er jj=false,.ret,ckR 250)]):=by
 refine Qax vE_ok Af Qaa (b:=at' 61 [1,0,1,1,0,1,0,0]) k_ (fun k=>k<=jj.length/\∀j,j<k->okC (jj.getD j 0)=true) (ckS jj cs) (fun k=>jj.length-k) (fun k hk=>?_) 0 ⟨Nat.zero_le _,fun j h=>absurd h (Nat.not_lt_zero _)⟩
 obtain⟨hk,hj⟩:=hk
 by_cases hlt:k<jj.length
 ·have hld := @Qal jj k hlt
  have hpb:=Qfp k hj
  have hp4:=pow4I (show k<=6 by omega)
  have hnext:Ar jj (k+1)=Ar jj k*jj.getD k 0:=rfl
  have jw:okC (jj.getD k 0)=false->Er jj=false:=fun h=>Qbb hlt h
  have jv:okC (jj.getD k 0)=true->∀j,j<k+1->okC (jj.getD j 0)=true:=fun h j hj1=>by
   rcases Nat.lt_succ_iff_lt_or_eq.1 hj1 with h2|h2
   ·exact hj j h2
   ·subst h2;exact h
  have hS:ckS jj cs (k+1)={sl:=[(1,.ptr 0 0),(3,i6 (Ar jj k*jj.getD k 0)),(28,sl jj),(29,i6 jj.length),(30,i6 (k+1:Nat))],os:=[gO jj cs]}:=rfl
  by_cases h1:jj.getD k 0<2
  ·have hb := jw (by unfold okC; exact decide_eq_false o_)
   refine .inr ⟨.ret,[],ckR 250,[yes 31,pl 32,ld 33 (i6 (jj.getD k 0)),yes 35],1000,.inr (.inl ⟨hb,rfl,rfl⟩),?_⟩
   generalize jj.getD k 0=x at*
   exact u_ (p:=let z0:=(jj.length:Int);let z1:=(k:Int);Bn [decide (z1<z0)=true,An [(0:Int)<=z1,z1<z0],Ad (List.drop (k*1) (Ab jj))=some (i6 x),decide (x<2)=true,Bn [Sm (250:Int)]])
  ·by_cases h2 : jj.getD k 0 > 4
   ·have hb := jw (by unfold okC; exact decide_eq_false o_)
    refine .inr ⟨.ret,[],ckR 250,[yes 31,pl 32,ld 33 (i6 (jj.getD k 0)),no 35,yes 38],1000,.inr (.inl ⟨hb,rfl,rfl⟩),?_⟩
    generalize jj.getD k 0=x at*
    exact u_ (p:=let z0:=(jj.length:Int);let z1:=(k:Int);Bn [decide (z1<z0)=true,An [(0:Int)<=z1,z1<z0],Ad (List.drop (k*1) (Ab jj))=some (i6 x),decide (x<2)=false,decide (x>4)=true,Bn [Sm (250:Int)]])
   ·have hg := jv (by unfold okC; exact decide_eq_true o_)
    have hm:Ar jj k*jj.getD k 0<=4096*4:=Int.mul_le_mul o_ o_ o_ o_
    have hm0:0<=Ar jj k*jj.getD k 0:=Int.mul_nonneg o_ o_
    refine .inl ⟨k+1,[0],[yes 31,pl 32,ld 33 (i6 (jj.getD k 0)),no 35,no 38,nu 42 (Ar jj k*jj.getD k 0),nu 43 (k+1:Nat)],1000,⟨hlt,hg⟩,by omega,?_⟩
    rw[hS]
    generalize hy:Ar jj k*jj.getD k 0=y at*
    refine m_ (p:=let z0:=List.getD jj k (0:Int);let z1:=(jj.length:Int);let z2:=(↑(k+1):Int);let z3:=(k:Int);Bn [decide (z3<z1)=true,An [(0:Int)<=z3,z3<z1],Ad (List.drop (k*1) (Ab jj))=some (i6 z0),decide (z0<2)=false,decide (z0>4)=false,wr .i64 (Ar jj k*z0)=y,wr .i64 (z3+1)=z2,Bn [Zz,y=y,An [Sm jj.length,Sm (Ab jj)],z1=z1,z2=z2],An [Sm [sl jj,gC cs],TT 2]]) ?_
    (repeat'(first|(with_reducible apply And.intro)|(refine fun(_:True)=>?_)))<;>first|exact aq|skip
    all_goals first|exact Ql2 _|(rw[hy];exact wr6 o_ o_)
 ·have : k = jj.length := by omega
  subst this
  refine .inr ⟨.exit 0,[0],ckX jj cs (Ar jj jj.length),[no 31],1000,.inl ⟨Qam.2 hj,rfl,rfl⟩,?_⟩
  show vc _ _ _ _ _ _ _ _ (Ah g0 80 {sl:=[(1,.ptr 0 0),(3,i6 (Ar jj jj.length)),(28,sl jj),(29,i6 jj.length),(30,i6 (jj.length:Nat))],os:=[gO jj cs]}) _
  generalize Ar jj jj.length=w at*
  exact u_ (p:=let z0:=(jj.length:Int);Bn [decide (z0<z0)=false,Bn [Zz,w=w],An [Sm [sl jj,gC cs],TT 2]])
abbrev cvS(jj:List Int)(cs:List (List Int))(i:Nat)(c:List Int)(j:Nat):SL:={sl:=[(1,.ptr 0 0),(6,i6 0),(47,gC cs),(48,i6 cs.length),(49,i6 i),(59,sl c),(60,i6 c.length),(61,i6 j)],os:=[gO jj cs]}
abbrev cwS(jj:List Int)(cs:List (List Int))(i:Nat):SL:={sl:=[(1,.ptr 0 0),(6,i6 0),(47,gC cs),(48,i6 cs.length),(49,i6 i)],os:=[gO jj cs]}
abbrev cwX(e:Int):SL:={sl:=[(6,i6 e)]}
theorem chk_row(jj:List Int)(cs:List (List Int))(i:Nat)(c:List Int)(jy:c.length=jj.length)(h6:jj.length<=6):
  Sat Pg none 0 (at' 61 [1,0,1,1,1,1,1,1,0,1,0,0,1,1,0,0,1,1,1,0]) (Ah g0 80 (cvS jj cs i c 0)) (Qaf g0 80 [(Bd jj c=true,.exit 4,cwS jj cs i),(Bd jj c=false,.exit 2,cwX 250)]):=by
 refine Qax vE_ok Af Qaa (b:=at' 61 [1,0,1,1,1,1,1,1,0,1,0,0,1,1,0,0,1,1,1,0,0]) k_ (fun k=>k<=jj.length/\∀j,j<k->okX (jj.getD j 0) (c.getD j 0)=true) (cvS jj cs i c) (fun k=>jj.length-k) (fun k hk=>?_) 0 ⟨Nat.zero_le _,fun j h=>absurd h (Nat.not_lt_zero _)⟩
 obtain⟨hk,hj⟩:=hk
 by_cases hlt:k<jj.length
 ·have hld := @Qal jj k hlt
  have hld2:=@Qal c k o_
  have jw:okX (jj.getD k 0) (c.getD k 0)=false->Bd jj c=false:=fun h=>by
   unfold Bd;rw[Qbb hlt h,Bool.and_false]
  have jv:okX (jj.getD k 0) (c.getD k 0)=true->∀j,j<k+1->okX (jj.getD j 0) (c.getD j 0)=true:=fun h j hj1=>by
   rcases Nat.lt_succ_iff_lt_or_eq.1 hj1 with h2|h2
   ·exact hj j h2
   ·subst h2;exact h
  by_cases h1:c.getD k 0< -1
  ·have hb := jw (by unfold okX; exact decide_eq_false o_)
   refine .inr ⟨.exit 2,[],cwX 250,[yes 62,pl 64,ld 65 (i6 (c.getD k 0)),yes 67],1000,.inr (.inl ⟨hb,rfl,rfl⟩),?_⟩
   exact u_ (p:=let z0:=List.getD c k (0:Int);let z1:=(k:Int);Bn [decide (z1<(c.length:Int))=true,An [(0:Int)<=z1,z1<(c.length:Int)],Ad (List.drop (k*1) (Ab c))=some (i6 z0),decide (z0<(-1:Int))=true,Bn [Sm (250:Int)]])
  ·by_cases h2 : c.getD k 0 >= jj.getD k 0
   ·have hb := jw (by unfold okX; exact decide_eq_false o_)
    refine .inr ⟨.exit 2,[],cwX 250,[yes 62,pl 64,ld 65 (i6 (c.getD k 0)),no 67,pl 73,ld 74 (i6 (jj.getD k 0)),yes 75],1000,.inr (.inl ⟨hb,rfl,rfl⟩),?_⟩
    exact u_ (p:=let z1:=(k:Int);let z2:=(0:Int);let z0:=List.getD c k z2;let z3:=List.getD jj k z2;Bn [decide (z1<(c.length:Int))=true,An [z2<=z1,z1<(c.length:Int)],Ad (List.drop (k*1) (Ab c))=some (i6 z0),decide (z0<(-1:Int))=false,An [z2<=z1,z1<(jj.length:Int)],Ad (List.drop (k*1) (Ab jj))=some (i6 z3),decide (z0>=z3)=true,Bn [Sm (250:Int)]])
   ·have hg := jv (by unfold okX; exact decide_eq_true o_)
    refine .inl ⟨k+1,[0],[yes 62,pl 64,ld 65 (i6 (c.getD k 0)),no 67,pl 73,ld 74 (i6 (jj.getD k 0)),no 75,nu 77 (k+1:Nat)],1000,⟨hlt,hg⟩,by omega,?_⟩
    exact u_ (p:=let z0:=(0:Int);let z1:=(c.length:Int);let z2:=(k:Int);let z3:=(↑(k+1):Int);let z4:=List.getD c k z0;let z5:=List.getD jj k z0;Bn [decide (z2<z1)=true,An [z0<=z2,z2<z1],Ad (List.drop (k*1) (Ab c))=some (i6 z4),decide (z4<(-1:Int))=false,An [z0<=z2,z2<(jj.length:Int)],Ad (List.drop (k*1) (Ab jj))=some (i6 z5),decide (z4>=z5)=false,wr .i64 (z2+1)=z3,Bn [Zz,z0=z0,An [Sm cs.length,Sm (List.map sl cs)],Sm (cs.length:Int),Sm (i:Int),An [Sm c.length,Sm (Ab c)],z1=z1,z3=z3],An [Sm [sl jj,gC cs],TT 2]])
 ·have : k = jj.length := by omega
  subst this
  have hg:Bd jj c=true:=by unfold Bd;rw[Qam.2 hj,decide_eq_true jy];rfl
  refine .inr ⟨.exit 4,[0],cwS jj cs i,[no 62],1000,.inl ⟨hg,rfl,rfl⟩,?_⟩
  exact u_ (p:=Bn [decide ((jj.length:Int)<(c.length:Int))=false,Bn [Zz,Sm (0:Int),An [Sm cs.length,Sm (List.map sl cs)],Sm (cs.length:Int),Sm (i:Int)],An [Sm [sl jj,gC cs],TT 2]])
theorem chk_rows(jj:List Int)(cs:List (List Int))(h6:jj.length<=6)(h40:cs.length<=40)(e:Int)(he:e=if cs.all (Bd jj)then 0 else 250):
  Sat Pg none 0 (at' 61 [1,0,1,1,1,1,1,1,0,1,0]) (Ah g0 80 (cwS jj cs 0)) (Qaf g0 80 [(True,.exit 2,cwX e)]):=by
 refine Qax vE_ok Af Qaa (b:=at' 61 [1,0,1,1,1,1,1,1,0,1,0,0]) k_ (fun k=>k<=cs.length/\(cs.take k).all (Bd jj)=true) (cwS jj cs) (fun k=>cs.length-k) (fun k hk=>?_) 0 ⟨Nat.zero_le _,rfl⟩
 obtain⟨hk,hj⟩:=hk
 by_cases hlt:k<cs.length
 ·have hck : cs[k]? = some cs[k] := List.getElem?_eq_getElem hlt
  have kj:=List.getElem_mem hlt
  generalize cs[k]=c at*
  have hld:Ad ((cs.map sl).drop (k*1))=some (sl c):=Qbg hck
  have jw:Bd jj c=false->e=250:=fun h=>by
   rw[he,if_neg (fun ha=>?_)]
   rw[List.all_eq_true]at ha
   rw[ha c kj]at h;cases h
  have jv:Bd jj c=true->(cs.take (k+1)).all (Bd jj)=true:=fun h=>by
   rw[List.take_add_one,hck,List.all_append,hj];simp[h]
  by_cases h1:c.length=jj.length
  ·have km := chk_row jj cs k c h1 h6
   cases hok:Bd jj c with
   |true=>
    have hr:=km.mono (Qbj hok (by rw[hok];simp))
    refine .inl ⟨k+1,[0],[yes 50,pl 51,ld 52 (sl c),no 58,(0,.loop [0] (cvS jj cs k c 0) [(True,.exit 4,cwS jj cs k)]),nu 78 (k+1:Nat)],1000,⟨hlt,jv hok⟩,by omega,?_⟩
    exact u_ (p:=let z0:=(cs.length:Int);let z1:=(k:Int);let z2:=List.map sl cs;let z3:=[sl jj,gC cs];let z4:=(0:Int);let z5:=(c.length:Int);let z6:=(↑(k+1):Int);Bn [decide (z1<z0)=true,An [z4<=z1,z1<z0],Ad (List.drop (k*1) z2)=some (sl c),(z5 != (jj.length:Int))=false,Bn [Bn [Zz,z4=z4,An [Sm cs.length,z2=z2],z0=z0,z1=z1,An [Sm c.length,Sm (Ab c)],z5=z5,((0:Nat):Int)=z4],An [z3=z3,TT 2]],Sat Pg none 0 (at' 61 [1,0,1,1,1,1,1,1,0,1,0,0,1,1,0,0,1,1,1,0]) (Ah g0 80 (cvS jj cs k c 0)) (Qaf g0 80 [(True,Ex.exit 4,cwS jj cs k)]),(True->Bn [wr .i64 (z1+1)=z6,Bn [Zz,z4=z4,An [Sm cs.length,z2=z2],z0=z0,z6=z6],An [z3=z3,TT 2]])])
   |false=>
    have hr:=km.mono (Qbk (by rw[hok];simp) hok)
    have:=jw hok
    subst this
    refine .inr ⟨.exit 2,[],cwX 250,[yes 50,pl 51,ld 52 (sl c),no 58,(0,.loop [0] (cvS jj cs k c 0) [(True,.exit 2,cwX 250)])],1000,.inl ⟨trivial,rfl,rfl⟩,?_⟩
    exact u_ (p:=let z0:=(cs.length:Int);let z1:=(k:Int);let z2:=(c.length:Int);let z3:=List.map sl cs;let z4:=(0:Int);Bn [decide (z1<z0)=true,An [z4<=z1,z1<z0],Ad (List.drop (k*1) z3)=some (sl c),(z2 != (jj.length:Int))=false,Bn [Bn [Zz,z4=z4,An [Sm cs.length,z3=z3],z0=z0,z1=z1,An [Sm c.length,Sm (Ab c)],z2=z2,((0:Nat):Int)=z4],An [Sm [sl jj,gC cs],TT 2]],Sat Pg none 0 (at' 61 [1,0,1,1,1,1,1,1,0,1,0,0,1,1,0,0,1,1,1,0]) (Ah g0 80 (cvS jj cs k c 0)) (Qaf g0 80 [(True,Ex.exit 2,cwX (250:Int))]),(True->Bn [Bn [Sm (250:Int)]])])
  ·have := jw (by unfold Bd; rw [decide_eq_false h1]; rfl)
   subst this
   refine .inr ⟨.exit 2,[],cwX 250,[yes 50,pl 51,ld 52 (sl c),yes 58],1000,.inl ⟨trivial,rfl,rfl⟩,?_⟩
   exact u_ (p:=let z0:=(k:Int);Bn [decide (z0<(cs.length:Int))=true,An [(0:Int)<=z0,z0<(cs.length:Int)],Ad (List.drop (k*1) (List.map sl cs))=some (sl c),((c.length:Int) != (jj.length:Int))=true,Bn [Sm (250:Int)]])
 ·have : k = cs.length := by omega
  subst this
  rw[List.take_length]at hj
  have:e=0:=by rw[he,if_pos hj]
  subst this
  refine .inr ⟨.exit 2,[],cwX 0,[no 50],1000,.inl ⟨trivial,rfl,rfl⟩,?_⟩
  exact u_ (p:=Bn [decide ((cs.length:Int)<(cs.length:Int))=false,Bn [Sm (0:Int)]])
def C5(jj:List Int)(cs:List (List Int)):Int:=if B5 jj cs then 0 else 250
theorem Qnq(jj:List Int)(cs:List (List Int))(hl1:jj.length<=1000)(hl2:cs.length<=1000):Ac Pg g0 61 [gV jj cs] (i6 (C5 jj cs)):=by
 have jf: ∀b1 b2 b3 b4 b5 b6:Bool,decide (1<=jj.length)=b1->decide (jj.length<=6)=b2->decide (cs.length<=40)=b3->Er jj=b4->decide (Ar jj jj.length<=1024)=b5->cs.all (Bd jj)=b6->C5 jj cs=if b1&&(b2&&(b3&&(b4&&(b5&&b6))))then 0 else 250:=by
  intro b1 b2 b3 b4 b5 b6 h1 h2 h3 h4 h5 h6
  unfold C5 B5
  rw[h1,h2,h3,h4,h5,h6]
 by_cases h1:1<=jj.length
 ·by_cases h2 : jj.length <= 6
  ·by_cases h3 : cs.length <= 40
   ·have hl := Qqy jj cs h2
    cases h4:Er jj with
    |false=>
     rw[jf _ _ _ _ _ _ rfl rfl rfl h4 rfl rfl]
     have he:(if(decide (1<=jj.length)&&(decide (jj.length<=6)&&(decide (cs.length<=40)&&(false&&(decide (Ar jj jj.length<=1024)&&cs.all (Bd jj))))):Bool)then(0:Int)else 250)=250:=by simp
     rw[he]
     have hl':=hl.mono (Qbk (by rw[h4];simp) h4)
     refine Ac.of_vc vE_ok Af Qaa (n:=1000) (r:=[]) (S:=ckR 250) (hs:=[no 14,no 19,no 25,(0,.loop [0] (ckS jj cs 0) [(True,.ret,ckR 250)])]) ?_
     exact u_ (p:=let z0:=(jj.length:Int);Bn [Sm (i6 250),decide (z0<1)=false,decide (z0>6)=false,decide ((cs.length:Int)>40)=false,Bn [Bn [Zz,Ar jj 0=(1:Int),An [Sm jj.length,Sm (Ab jj)],z0=z0,((0:Nat):Int)=(0:Int)],An [Sm [sl jj,gC cs],TT 2]],Sat Pg none 0 (at' 61 [1,0,1,1,0,1,0]) (Ah g0 80 (ckS jj cs 0)) (Qaf g0 80 [(True,Ex.ret,ckR (250:Int))]),(True->Bn [Bn [Sm (250:Int)]])])
    | true =>
     have hl':=hl.mono (Qbj h4 (by rw[h4];simp))
     have hpb:=Qfp jj.length (Qam.1 h4)
     have hp4:=pow4I h2
     by_cases h5:Ar jj jj.length<=1024
     ·have hr := chk_rows jj cs h2 h3 (C5 jj cs) (by rw [jf _ _ _ _ _ _ rfl rfl rfl h4 rfl rfl, decide_eq_true h1, decide_eq_true h2, decide_eq_true h3, decide_eq_true h5]; rfl)
      generalize C5 jj cs=e at*
      refine Ac.of_vc vE_ok Af Qaa (n:=1000) (r:=[]) (S:=ckR e) (hs:=[no 14,no 19,no 25,(0,.loop [0] (ckS jj cs 0) [(True,.exit 0,ckX jj cs (Ar jj jj.length))]),no 45,(0,.loop [0] (cwS jj cs 0) [(True,.exit 2,cwX e)])]) ?_
      exact u_ (p:=let z0:=(jj.length:Int);let z1:=[sl jj,gC cs];let z2:=(cs.length:Int);let z3:=Ar jj jj.length;let z4:=(0:Int);Bn [Sm (i6 e),decide (z0<1)=false,decide (z0>6)=false,decide (z2>40)=false,Bn [Bn [Zz,Ar jj 0=(1:Int),An [Sm jj.length,Sm (Ab jj)],z0=z0,((0:Nat):Int)=z4],An [z1=z1,TT 2]],Sat Pg none 0 (at' 61 [1,0,1,1,0,1,0]) (Ah g0 80 (ckS jj cs 0)) (Qaf g0 80 [(True,Ex.exit 0,ckX jj cs z3)]),(True->Bn [decide (z3>1024)=false,Bn [Bn [Zz,z4=z4,An [Sm cs.length,Sm (List.map sl cs)],z2=z2,((0:Nat):Int)=z4],An [z1=z1,TT 2]],Sat Pg none 0 (at' 61 [1,0,1,1,1,1,1,1,0,1,0]) (Ah g0 80 (cwS jj cs 0)) (Qaf g0 80 [(True,Ex.exit 2,cwX e)]),(True->Bn [Bn [e=e]])])])
     ·have he : C5 jj cs = 250 := by rw [jf _ _ _ _ _ _ rfl rfl rfl h4 (decide_eq_false h5) rfl]; simp
      rw[he]
      refine Ac.of_vc vE_ok Af Qaa (n:=1000) (r:=[]) (S:=ckR 250) (hs:=[no 14,no 19,no 25,(0,.loop [0] (ckS jj cs 0) [(True,.exit 0,ckX jj cs (Ar jj jj.length))]),yes 45]) ?_
      exact u_ (p:=let z0:=(jj.length:Int);let z1:=Ar jj jj.length;Bn [Sm (i6 250),decide (z0<1)=false,decide (z0>6)=false,decide ((cs.length:Int)>40)=false,Bn [Bn [Zz,Ar jj 0=(1:Int),An [Sm jj.length,Sm (Ab jj)],z0=z0,((0:Nat):Int)=(0:Int)],An [Sm [sl jj,gC cs],TT 2]],Sat Pg none 0 (at' 61 [1,0,1,1,0,1,0]) (Ah g0 80 (ckS jj cs 0)) (Qaf g0 80 [(True,Ex.exit 0,ckX jj cs z1)]),(True->Bn [decide (z1>1024)=true,Bn [Sm (250:Int)]])])
   ·have he : C5 jj cs = 250 := by rw [jf _ _ _ _ _ _ rfl rfl (decide_eq_false h3) rfl rfl rfl]; simp
    rw[he]
    refine Ac.of_vc vE_ok Af Qaa (n:=1000) (r:=[]) (S:=ckR 250) (hs:=[no 14,no 19,yes 25]) ?_
    exact u_ (p:=let z0:=(jj.length:Int);Bn [Sm (i6 250),decide (z0<1)=false,decide (z0>6)=false,decide ((cs.length:Int)>40)=true,Bn [Sm (250:Int)]])
  ·have he : C5 jj cs = 250 := by rw [jf _ _ _ _ _ _ rfl (decide_eq_false h2) rfl rfl rfl rfl]; simp
   rw[he]
   refine Ac.of_vc vE_ok Af Qaa (n:=1000) (r:=[]) (S:=ckR 250) (hs:=[no 14,yes 19]) ?_
   exact u_ (p:=let z0:=(jj.length:Int);Bn [Sm (i6 250),decide (z0<1)=false,decide (z0>6)=true,Bn [Sm (250:Int)]])
 ·have he : C5 jj cs = 250 := by rw [jf _ _ _ _ _ _ (decide_eq_false h1) rfl rfl rfl rfl rfl]; simp
  rw[he]
  refine Ac.of_vc vE_ok Af Qaa (n:=1000) (r:=[]) (S:=ckR 250) (hs:=[yes 14]) ?_
  exact u_ (p:=Bn [Sm (i6 250),decide ((jj.length:Int)<1)=true,Bn [Sm (250:Int)]])
def Cf(c:List Int):Bool:=c.any fun x=>decide (x<0)
def Bx(jj:List Int)(cs:List (List Int)):Int:=if B5 jj cs then(if cs.any Cf then 260 else 0)else 250
theorem Qcr{α:Type}{l:List α}{k:Nat}{x:α}{p:α->Bool}(hx:l[k]? =some x)(h:(l.take k).any p=false)(hp:p x=false):(l.take (k+1)).any p=false:=by
 rw[List.take_add_one,hx,List.any_append,h];simp[hp]
theorem Qdd{α:Type}{l:List α}{k:Nat}{x:α}{p:α->Bool}(hx:l[k]? =some x)(hp:p x=true):l.any p=true:=
 List.any_eq_true.2 ⟨x,List.mem_of_getElem? hx,hp⟩
abbrev wrS(cs:List (List Int))(i:Nat)(c:List Int)(j:Nat):SL:={sl:=[(14,gC cs),(15,i6 cs.length),(16,i6 i),(20,sl c),(21,i6 c.length),(22,i6 j)]}
abbrev wrB(cs:List (List Int))(i:Nat):SL:={sl:=[(14,gC cs),(15,i6 cs.length),(16,i6 i)]}
theorem cw_row(cs:List (List Int))(i:Nat)(c:List Int)(hl:c.length<=1000):
  Sat Pg none 0 (at' 70 [1,1,0,1,0,0,1,1,0,0,1,1,0]) (Ah g0 30 (wrS cs i c 0)) (Qaf g0 30 [(Cf c=false,.exit 2,wrB cs i),(Cf c=true,.ret,ckR 260)]):=by
 refine Qax vE_ok Af Qaa (b:=at' 70 [1,1,0,1,0,0,1,1,0,0,1,1,0,0]) k_ (fun k=>k<=c.length/\(c.take k).any (fun x=>decide (x<0))=false) (wrS cs i c) (fun k=>c.length-k) (fun k hk=>?_) 0 ⟨Nat.zero_le _,rfl⟩
 obtain⟨hk,hj⟩:=hk
 by_cases hlt:k<c.length
 ·have hld := @Qal c k hlt
  have hck:c[k]? =some (c.getD k 0):=by rw[List.getD_eq_getElem?_getD,List.getElem?_eq_getElem hlt];rfl
  by_cases h1:c.getD k 0<0
  ·have hb : Cf c = true := Qdd hck (decide_eq_true h1)
   refine .inr ⟨.ret,[],ckR 260,[yes 23,pl 24,ld 25 (i6 (c.getD k 0)),yes 27],1000,.inr (.inl ⟨hb,rfl,rfl⟩),?_⟩
   exact u_ (p:=let z0:=List.getD c k (0:Int);let z1:=(k:Int);Bn [decide (z1<(c.length:Int))=true,An [(0:Int)<=z1,z1<(c.length:Int)],Ad (List.drop (k*1) (Ab c))=some (i6 z0),decide (z0<0)=true,Bn [Sm (260:Int)]])
  ·have hg := Qcr hck hj (decide_eq_false h1)
   refine .inl ⟨k+1,[],[yes 23,pl 24,ld 25 (i6 (c.getD k 0)),no 27,nu 28 (k+1:Nat)],1000,⟨hlt,hg⟩,by omega,?_⟩
   exact u_ (p:=let z0:=(c.length:Int);let z1:=(↑(k+1):Int);let z2:=(k:Int);let z3:=List.getD c k (0:Int);Bn [decide (z2<z0)=true,An [(0:Int)<=z2,z2<z0],Ad (List.drop (k*1) (Ab c))=some (i6 z3),decide (z3<0)=false,wr .i64 (z2+1)=z1,Bn [An [Sm cs.length,Sm (List.map sl cs)],Sm (cs.length:Int),Sm (i:Int),An [Sm c.length,Sm (Ab c)],z0=z0,z1=z1]])
 ·have : k = c.length := by omega
  subst this
  rw[List.take_length]at hj
  refine .inr ⟨.exit 2,[],wrB cs i,[no 23],1000,.inl ⟨hj,rfl,rfl⟩,?_⟩
  exact u_ (p:=Bn [decide ((c.length:Int)<(c.length:Int))=false,Bn [An [Sm cs.length,Sm (List.map sl cs)],Sm (cs.length:Int),Sm (i:Int)]])
theorem cw_rows(cs:List (List Int))(h40:cs.length<=1000)(hcl: ∀c∈cs,c.length<=1000):
  Sat Pg none 0 (at' 70 [1,1,0,1,0]) (Ah g0 30 (wrB cs 0)) (Qaf g0 30 [(cs.any Cf=false,.exit 0,{sl:=[]}),(cs.any Cf=true,.ret,ckR 260)]):=by
 refine Qax vE_ok Af Qaa (b:=at' 70 [1,1,0,1,0,0]) k_ (fun k=>k<=cs.length/\(cs.take k).any Cf=false) (wrB cs) (fun k=>cs.length-k) (fun k hk=>?_) 0 ⟨Nat.zero_le _,rfl⟩
 obtain⟨hk,hj⟩:=hk
 by_cases hlt:k<cs.length
 ·have hck : cs[k]? = some cs[k] := List.getElem?_eq_getElem hlt
  have hlc:=hcl _ (List.getElem_mem hlt)
  generalize cs[k]=c at*
  have hld:Ad ((cs.map sl).drop (k*1))=some (sl c):=Qbg hck
  have km:=cw_row cs k c hlc
  cases hok:Cf c with
  |false=>
   have hr:=km.mono (Qbj hok (by rw[hok];simp))
   refine .inl ⟨k+1,[],[yes 17,pl 18,ld 19 (sl c),(0,.loop [] (wrS cs k c 0) [(True,.exit 2,wrB cs k)]),nu 29 (k+1:Nat)],1000,⟨hlt,Qcr hck hj hok⟩,by omega,?_⟩
   exact u_ (p:=let z0:=(cs.length:Int);let z1:=(k:Int);let z2:=List.map sl cs;let z3:=(↑(k+1):Int);Bn [decide (z1<z0)=true,An [(0:Int)<=z1,z1<z0],Ad (List.drop (k*1) z2)=some (sl c),Bn [Bn [An [Sm cs.length,z2=z2],z0=z0,z1=z1,An [Sm c.length,Sm (Ab c)],Sm (c.length:Int),((0:Nat):Int)=(0:Int)]],Sat Pg none 0 (at' 70 [1,1,0,1,0,0,1,1,0,0,1,1,0]) (Ah g0 30 (wrS cs k c 0)) (Qaf g0 30 [(True,Ex.exit 2,wrB cs k)]),(True->Bn [wr .i64 (z1+1)=z3,Bn [An [Sm cs.length,z2=z2],z0=z0,z3=z3]])])
  |true=>
   have hr:=km.mono (Qbk (by rw[hok];simp) hok)
   refine .inr ⟨.ret,[],ckR 260,[yes 17,pl 18,ld 19 (sl c),(0,.loop [] (wrS cs k c 0) [(True,.ret,ckR 260)])],1000,.inr (.inl ⟨Qdd hck hok,rfl,rfl⟩),?_⟩
   exact u_ (p:=let z0:=(cs.length:Int);let z1:=(k:Int);let z2:=List.map sl cs;Bn [decide (z1<z0)=true,An [(0:Int)<=z1,z1<z0],Ad (List.drop (k*1) z2)=some (sl c),Bn [Bn [An [Sm cs.length,z2=z2],z0=z0,z1=z1,An [Sm c.length,Sm (Ab c)],Sm (c.length:Int),((0:Nat):Int)=(0:Int)]],Sat Pg none 0 (at' 70 [1,1,0,1,0,0,1,1,0,0,1,1,0]) (Ah g0 30 (wrS cs k c 0)) (Qaf g0 30 [(True,Ex.ret,ckR (260:Int))]),(True->Bn [Bn [Sm (260:Int)]])])
 ·have : k = cs.length := by omega
  subst this
  rw[List.take_length]at hj
  refine .inr ⟨.exit 0,[],{sl:=[]},[no 17],1000,.inl ⟨hj,rfl,rfl⟩,?_⟩
  exact u_ (p:=Bn [decide ((cs.length:Int)<(cs.length:Int))=false,Tt])
theorem Qi2(jj:List Int)(cs:List (List Int))(hl1:jj.length<=1000)(hl2:cs.length<=1000)(hcl: ∀c∈cs,c.length<=1000):Ac Pg g0 70 [gV jj cs] (i6 (Bx jj cs)):=by
 have hc:=Qnq jj cs hl1 hl2
 have hr:=cw_rows cs hl2 hcl
 cases hok:B5 jj cs with
 |false=>
  have e1:C5 jj cs=250:=by unfold C5;rw[hok];rfl
  have e2:Bx jj cs=250:=by unfold Bx;rw[hok];rfl
  rw[e1]at hc
  rw[e2]
  refine Ac.of_vc vE_ok Af Qaa (n:=1000) (r:=[]) (S:=ckR 250) (hs:=[fn 9 (i6 250)]) ?_
  exact u_ (p:=Bn [Sm (i6 250),Bn [TT 2],Ac Pg g0 61 [V.agg [V.im jj.length (Ab jj),V.im cs.length (List.map sl cs)]] (i6 250),Tt,Bn [Sm (250:Int)]])
 | true =>
  have e1:C5 jj cs=0:=by unfold C5;rw[hok];rfl
  rw[e1]at hc
  cases hn:cs.any Cf with
  |false=>
   have e2:Bx jj cs=0:=by unfold Bx;rw[hok,hn];rfl
   rw[e2]
   have hr:=hr.mono (Qbj hn (by rw[hn];simp))
   refine Ac.of_vc vE_ok Af Qaa (n:=1000) (r:=[]) (S:=ckR 0) (hs:=[fn 9 (i6 0),(0,.loop [] (wrB cs 0) [(True,.exit 0,{sl:=[]})])]) ?_
   exact u_ (p:=Bn [Sm (i6 0),Bn [TT 2],Ac Pg g0 61 [V.agg [V.im jj.length (Ab jj),V.im cs.length (List.map sl cs)]] (i6 0),Tt,Bn [Bn [An [Sm cs.length,Sm (List.map sl cs)],Sm (cs.length:Int),((0:Nat):Int)=(0:Int)]],Sat Pg none 0 (at' 70 [1,1,0,1,0]) (Ah g0 30 (wrB cs 0)) (Qaf g0 30 [(True,Ex.exit 0,SL.mk [] [] [] [])]),(True->Bn [Bn [Sm (0:Int)]])])
  |true=>
   have e2:Bx jj cs=260:=by unfold Bx;rw[hok,hn];rfl
   rw[e2]
   have hr:=hr.mono (Qbk (by rw[hn];simp) hn)
   refine Ac.of_vc vE_ok Af Qaa (n:=1000) (r:=[]) (S:=ckR 260) (hs:=[fn 9 (i6 0),(0,.loop [] (wrB cs 0) [(True,.ret,ckR 260)])]) ?_
   exact u_ (p:=Bn [Sm (i6 260),Bn [TT 2],Ac Pg g0 61 [V.agg [V.im jj.length (Ab jj),V.im cs.length (List.map sl cs)]] (i6 0),Tt,Bn [Bn [An [Sm cs.length,Sm (List.map sl cs)],Sm (cs.length:Int),((0:Nat):Int)=(0:Int)]],Sat Pg none 0 (at' 70 [1,1,0,1,0]) (Ah g0 30 (wrB cs 0)) (Qaf g0 30 [(True,Ex.ret,ckR (260:Int))]),(True->Bn [Bn [Sm (260:Int)]])])
abbrev whS(c:List Int)(k:Nat):SL:={sl:=[(0,sl c),(3,i6 k)]}
abbrev bR(b:Bool):SL:={sl:=[(2,.bool b)]}
theorem wh_loop(c:List Int)(hl:c.length<=1000):
  Sat Pg none 0 (at' 68 [1,0,1,0]) (Ah g0 15 (whS c 0)) (Qaf g0 15 [(Cf c=false,.exit 0,{sl:=[]}),(Cf c=true,.ret,bR false)]):=by
 refine Qax vE_ok Af Qaa (b:=at' 68 [1,0,1,0,0]) k_ (fun k=>k<=c.length/\(c.take k).any (fun x=>decide (x<0))=false) (whS c) (fun k=>c.length-k) (fun k hk=>?_) 0 ⟨Nat.zero_le _,rfl⟩
 obtain⟨hk,hj⟩:=hk
 by_cases hlt:k<c.length
 ·have hld := @Qal c k hlt
  have hck:c[k]? =some (c.getD k 0):=by rw[List.getD_eq_getElem?_getD,List.getElem?_eq_getElem hlt];rfl
  by_cases h1:c.getD k 0<0
  ·have hb : Cf c = true := Qdd hck (decide_eq_true h1)
   refine .inr ⟨.ret,[],bR false,[yes 7,pl 12,ld 13 (i6 (c.getD k 0)),yes 14],1000,.inr (.inl ⟨hb,rfl,rfl⟩),?_⟩
   exact u_ (p:=let z0:=List.getD c k (0:Int);let z1:=(k:Int);Bn [decide (z1<(c.length:Int))=true,An [(0:Int)<=z1,z1<(c.length:Int)],Ad (List.drop (k*1) (Ab c))=some (i6 z0),decide (z0<0)=true,Bn [Sm false]])
  ·have hg := Qcr hck hj (decide_eq_false h1)
   refine .inl ⟨k+1,[],[yes 7,pl 12,ld 13 (i6 (c.getD k 0)),no 14,nu 9 (k+1:Nat)],1000,⟨hlt,hg⟩,by omega,?_⟩
   exact u_ (p:=let z0:=(↑(k+1):Int);let z1:=(k:Int);let z2:=List.getD c k (0:Int);Bn [decide (z1<(c.length:Int))=true,An [(0:Int)<=z1,z1<(c.length:Int)],Ad (List.drop (k*1) (Ab c))=some (i6 z2),decide (z2<0)=false,wr .i64 (z1+1)=z0,Bn [An [Sm c.length,Sm (Ab c)],z0=z0]])
 ·have : k = c.length := by omega
  subst this
  rw[List.take_length]at hj
  refine .inr ⟨.exit 0,[],{sl:=[]},[no 7],1000,.inl ⟨hj,rfl,rfl⟩,?_⟩
  exact u_ (p:=Bn [decide ((c.length:Int)<(c.length:Int))=false,Tt])
theorem Gf(c:List Int)(hl:c.length<=1000):Ac Pg g0 68 [sl c] (.bool (!Cf c)):=by
 have hr:=wh_loop c hl
 cases hn:Cf c with
 |false=>
  have hr:=hr.mono (Qbj hn (by rw[hn];simp))
  refine Ac.of_vc vE_ok Af Qaa (n:=1000) (r:=[]) (S:=bR true) (hs:=[(0,.loop [] (whS c 0) [(True,.exit 0,{sl:=[]})])]) ?_
  exact u_ (p:=Bn [V.bool true=V.bool !false,Bn [Bn [An [Sm c.length,Sm (Ab c)],((0:Nat):Int)=(0:Int)]],Sat Pg none 0 (at' 68 [1,0,1,0]) (Ah g0 15 (whS c 0)) (Qaf g0 15 [(True,Ex.exit 0,SL.mk [] [] [] [])]),(True->Bn [Bn [Sm true]])])
 |true=>
  have hr:=hr.mono (Qbk (by rw[hn];simp) hn)
  refine Ac.of_vc vE_ok Af Qaa (n:=1000) (r:=[]) (S:=bR false) (hs:=[(0,.loop [] (whS c 0) [(True,.ret,bR false)])]) ?_
  exact u_ (p:=Bn [V.bool false=V.bool !true,Bn [Bn [An [Sm c.length,Sm (Ab c)],((0:Nat):Int)=(0:Int)]],Sat Pg none 0 (at' 68 [1,0,1,0]) (Ah g0 15 (whS c 0)) (Qaf g0 15 [(True,Ex.ret,bR false)]),(True->Bn [Bn [Sm false]])])
def owV(h:Nat):Nat->V
 |0=>.nils
 |n+1=>.sl h 0 (n+1) none
def owL(t:Nat)(l:List V):Nat->List O
 |0=>[]
 | _+1=>[.row t (some 1) l]
abbrev cpS(jj:List Int)(cs:List (List Int))(q:Nat×Nat×List (List Int)):SL:={sl:=[(1,.ptr 0 0),(2,.ptr 1 0),(3,.ptr 2 0),(4,i6 q.1)],os:=gO jj cs:: .row 31 none [.nils,.nils]:: .row 31 none [sl jj,owV 3 q.2.1]::owL 28 (q.2.2.map sl) q.2.1,md:=[0,0,1]}
abbrev cpX(jj:List Int)(m:Nat)(l:List (List Int)):SL:={sl:=[(2,.ptr 0 0),(3,.ptr 1 0)],os:=.row 31 none [.nils,.nils]:: .row 31 none [sl jj,owV 2 m]::owL 28 (l.map sl) m,md:=[0,1]}
def comp(cs:List (List Int)):List (List Int):=cs.filter fun c=> !Cf c
theorem Qkm{cs:List (List Int)}{k:Nat}{c:List Int}(h:cs[k]? =some c):comp (cs.take (k+1))=comp (cs.take k)++if Cf c then[]else[c]:=by
 unfold comp
 rw[List.take_add_one,h,List.filter_append]
 cases hn:Cf c<;>simp[hn]
theorem cp_loop(jj:List Int)(cs:List (List Int))(h40:cs.length<=1000)(hcl: ∀c∈cs,c.length<=1000)(l:List (List Int))(hl:l=comp cs)(m:Nat)(hm:m=l.length):
  Sat Pg none 0 (at' 57 [1,1,0,1,0]) (Ah g0 32 (cpS jj cs (0,0,[]))) (Qaf g0 32 [(True,.exit 0,cpX jj m l)]):=by
 refine Qax vE_ok Af Qaa (b:=at' 57 [1,1,0,1,0,0]) k_ (fun q=>q.1<=cs.length/\q.2.2=comp (cs.take q.1)/\q.2.2.length=q.2.1) (cpS jj cs) (fun q=>cs.length-q.1) (fun q hq=>?_) (0,0,[]) ⟨Nat.zero_le _,rfl,rfl⟩
 obtain⟨k,u,a⟩:=q
 obtain⟨hk,ha,hu⟩:=hq
 dsimp only at hk ha hu
 have hle:a.length<=k:=by
  rw[ha];unfold comp
  exact Nat.le_trans (List.length_filter_le _ _) (by rw[List.length_take];omega)
 by_cases hlt:k<cs.length
 ·have hck : cs[k]? = some cs[k] := List.getElem?_eq_getElem hlt
  have hlc:=hcl _ (List.getElem_mem hlt)
  generalize cs[k]=c at*
  have hld:Ad ((cs.map sl).drop (k*1))=some (sl c):=Qbg hck
  have hnx:=Qkm hck
  have hwh:=Gf c hlc
  rw[<-ha]at hnx
  cases hn:Cf c with
  | true =>
   rw[hn]at hwh
   have xk:a=comp (cs.take (k+1)):=by rw[hnx,hn];simp
   cases u with
   |zero=>
    have:a=[]:=List.eq_nil_of_length_eq_zero hu
    subst this
    refine .inl ⟨(k+1,0,[]),[0,1,2],[yes 12,pl 18,ld 19 (sl c),fn 20 (.bool false),nu 14 (k+1:Nat)],1000,⟨hlt,xk,rfl⟩,by dsimp only;omega,?_⟩
    clear ha hnx xk
    exact u_ (p:=let z0:=(↑(k+1):Int);let z1:=(k:Int);Bn [decide (z1<(cs.length:Int))=true,An [(0:Int)<=z1,z1<(cs.length:Int)],Ad (List.drop (k*1) (List.map sl cs))=some (sl c),Bn [Tt],Ac Pg g0 68 [V.im c.length (Ab c)] (V.bool false),Tt,wr .i64 (z1+1)=z0,Bn [Zz,Zz,Zz,z0=z0],An [Sm [sl jj,gC cs],TT 2],An [Sm [V.nils,V.nils],TT 2],Bn [An [Sm jj.length,Sm (Ab jj)],Tt]])
   |succ u=>
    refine .inl ⟨(k+1,u+1,a),[0,1,2,3],[yes 12,pl 18,ld 19 (sl c),fn 20 (.bool false),nu 14 (k+1:Nat)],1000,⟨hlt,xk,hu⟩,by dsimp only;omega,?_⟩
    clear ha hnx xk
    exact u_ (p:=let z0:=(↑(k+1):Int);let z1:=(k:Int);let z2:=List.map sl a;Bn [decide (z1<(cs.length:Int))=true,An [(0:Int)<=z1,z1<(cs.length:Int)],Ad (List.drop (k*1) (List.map sl cs))=some (sl c),Bn [Tt],Ac Pg g0 68 [V.im c.length (Ab c)] (V.bool false),Tt,wr .i64 (z1+1)=z0,Bn [Zz,Zz,Zz,z0=z0],An [Sm [sl jj,gC cs],TT 2],An [Sm [V.nils,V.nils],TT 2],Bn [An [Sm jj.length,Sm (Ab jj)],Bn [Zz,Sm (u+1)]],An [z2=z2,HfL z2]])
  | false =>
   rw[hn]at hwh
   have xk:a++[c]=comp (cs.take (k+1)):=by rw[hnx,hn];simp
   cases u with
   |zero=>
    have:a=[]:=List.eq_nil_of_length_eq_zero hu
    subst this
    refine .inl ⟨(k+1,1,[c]),[0,1,2,4],[yes 12,pl 18,ld 19 (sl c),fn 20 (.bool true),pl 26,ld 27 (sl c),nu 14 (k+1:Nat)],1000,⟨hlt,xk,rfl⟩,by dsimp only;omega,?_⟩
    clear ha hnx xk
    exact u_ (p:=let z0:=(k:Int);let z1:=Ad (List.drop (k*1) (List.map sl cs));let z2:=(cs.length:Int);let z3:=(↑(k+1):Int);Bn [decide (z0<z2)=true,An [(0:Int)<=z0,z0<z2],z1=some (sl c),Bn [Tt],Ac Pg g0 68 [V.im c.length (Ab c)] (V.bool true),Tt,An [(0:Int)<=z0,z0<z2],z1=some (sl c),wr .i64 (z0+1)=z3,Bn [Zz,Zz,Zz,z3=z3],An [Sm [sl jj,gC cs],TT 2],An [Sm [V.nils,V.nils],TT 2],Bn [An [Sm jj.length,Sm (Ab jj)],Bn [Zz,1=1]],Bn [List.map sl [c]=[sl c],Tt]])
   |succ u=>
    refine .inl ⟨(k+1,u+1+1,a++[c]),[0,1,2,5],[yes 12,pl 18,ld 19 (sl c),fn 20 (.bool true),pl 26,ld 27 (sl c),ap 29,nu 14 (k+1:Nat)],1000,⟨hlt,xk,by simp[hu]⟩,by dsimp only;omega,?_⟩
    clear ha hnx xk
    exact u_ (p:=let z0:=(k:Int);let z1:=Ad (List.drop (k*1) (List.map sl cs));let z2:=(cs.length:Int);let z3:=(↑(k+1):Int);let z4:=List.map sl (a++[c]);Bn [decide (z0<z2)=true,An [(0:Int)<=z0,z0<z2],z1=some (sl c),Bn [Tt],Ac Pg g0 68 [V.im c.length (Ab c)] (V.bool true),Tt,An [(0:Int)<=z0,z0<z2],z1=some (sl c),List.length (List.map sl a)=(u+1)*1,u+1+1<=9223372036854775807,(u+1+1)*24<=140737488355328,wr .i64 (z0+1)=z3,Bn [Zz,Zz,Zz,z3=z3],An [Sm [sl jj,gC cs],TT 2],An [Sm [V.nils,V.nils],TT 2],Bn [An [Sm jj.length,Sm (Ab jj)],Bn [Zz,Nat.succ u+1=u+1+1]],An [z4=List.map sl a++[sl c],HfL z4]])
 ·have : k = cs.length := by omega
  subst this
  rw[List.take_length]at ha
  obtain rfl:a=l:=ha.trans hl.symm
  obtain rfl:u=m:=hu.symm.trans hm.symm
  cases u with
  |zero=>
   have:a=[]:=List.eq_nil_of_length_eq_zero hu
   subst this
   refine .inr ⟨.exit 0,[1,2],cpX jj 0 [],[no 12],1000,.inl ⟨trivial,rfl,rfl⟩,?_⟩
   exact u_ (p:=Bn [decide ((cs.length:Int)<(cs.length:Int))=false,Bn [Zz,Zz],An [Sm [V.nils,V.nils],TT 2],Bn [An [Sm jj.length,Sm (Ab jj)],Tt]])
  |succ u=>
   refine .inr ⟨.exit 0,[1,2,3],cpX jj (u+1) a,[no 12],1000,.inl ⟨trivial,rfl,rfl⟩,?_⟩
   exact u_ (p:=Bn [decide ((cs.length:Int)<(cs.length:Int))=false,Bn [Zz,Zz],An [Sm [V.nils,V.nils],TT 2],Bn [An [Sm jj.length,Sm (Ab jj)],Bn [Zz,Sm (u+1)]],An [Sm (List.map sl a),HfL (List.map sl a)]])
def Co(r b:Nat):Nat->List (Nat×List Nat)->List (V×V×Nat)
 | _,[]=>[]
 |t,e::es=>(i6 (e.1:Nat),.sl (b+t) 0 r (some (r-r)),t)::Co r b (t+1) es
def D0(q:Nat):List (Nat×List Nat)->Option Nat
 |[]=>none
 |e::es=>if e.1=q then some 0 else(D0 q es).map (· +1)
theorem Qgj(r b q:Nat): ∀(es:List (Nat×List Nat))(t j:Nat),B6 .i64 (q:Int) (Co r b t es) j=some ((D0 q es).map fun a=>(j+a,V.sl (b+t+a) 0 r (some (r-r))))
 |[],_,_=>rfl
 | e :: es, t, j => by
  unfold Co B6 D0
  rw[if_pos rfl]
  by_cases h:e.1=q
  ·rw[if_pos (by rw[h]),if_pos h];rfl
  ·rw [if_neg (by intro h'; exact h (Int.ofNat.inj h').symm), if_neg h, Qgj r b q es (t + 1) (j + 1)]
   cases D0 q es with
   |none=>rfl
   |some a=>
    simp only[Option.map_some]
    rw[show j+1+a=j+(a+1)by omega,show b+(t+1)+a=b+t+(a+1)by omega]
theorem Qnm{r q k:Nat}: ∀{es:List (Nat×List Nat)},D0 q es=none->bump r q k es=es++[(q,(List.replicate r 0).set k 1)]
 |[],_=>rfl
 | (p, l) :: es, h => by
  unfold D0 at h
  by_cases hp:p=q
  ·rw[if_pos hp]at h;cases h
  ·rw [if_neg hp] at h
   unfold bump
   rw[if_neg hp,Qnm (by simpa using h)];rfl
theorem Qnn{r q k a:Nat}: ∀{es:List (Nat×List Nat)}{a:Nat},D0 q es=some a->∃l,es[a]? =some (q,l)/\bump r q k es=es.set a (q,l.set k (l.getD k 0+1))
 |[],_,h=>by cases h
 | (p, l) :: es, a, h => by
  unfold D0 at h
  unfold bump
  by_cases hp:p=q
  ·rw [if_pos hp] at h; cases h
   subst hp
   exact⟨l,rfl,by rw[if_pos rfl];rfl⟩
  ·rw [if_neg hp] at h
   rw[if_neg hp]
   cases hi:D0 q es with
   |none=>rw[hi]at h;cases h
   |some a'=>
    rw[hi]at h;cases h
    obtain⟨l',h1,h2⟩:=Qnn (a:=a) (r:=r) (k:=k) hi
    exact⟨l',by simpa using h1,by rw[h2];rfl⟩
theorem Qks(r b:Nat)(e:Nat×List Nat): ∀(es:List (Nat×List Nat))(t:Nat),Co r b t (es++[e])=Co r b t es++[(i6 (e.1:Nat),.sl (b+(t+es.length)) 0 r (some (r-r)),t+es.length)]
 |[],t=>rfl
 |x::es,t=>by
  rw[List.cons_append,Co,Co,Qks r b e es (t+1),List.cons_append,List.length_cons,show t+1+es.length=t+(es.length+1)by omega]
theorem Qny(r b q:Nat)(l l':List Nat): ∀(es:List (Nat×List Nat))(t a:Nat),es[a]? =some (q,l)->Co r b t (es.set a (q,l'))=Co r b t es
 |[],_,_,h=>by simp at h
 |x::es,t,0,h=>by
  obtain rfl:x=(q,l):=by simpa using h
  rfl
 |x::es,t,a+1,h=>by
  rw[List.set_cons_succ,Co,Co,Qny r b q l l' es (t+1) a (by simpa using h)]
section
variable (jj:List Nat) (cs:List (List Nat)) (v ps r:Nat)
abbrev dO:O:=.row 31 none [nl jj,cV cs]
abbrev fbS(i:Nat):List (Nat×V):=[(1,i6 v),(2,u6 ps),(3,.ptr 0 0),(6,.ptr 1 0),(7,i6 r),(8,.mp 2),(28,cV cs),(29,i6 cs.length),(30,i6 i)]
abbrev frS(jk:List Nat)(i:Nat)(q:Nat×Nat):List (Nat×V):=[(1,i6 v),(2,u6 ps),(3,.ptr 0 0),(6,.ptr 1 0),(7,i6 r),(8,.mp 2),(28,cV cs),(29,i6 cs.length),(30,i6 i),(10,nl jk),(11,i6 q.2),(35,nl jj),(36,i6 jj.length),(37,i6 q.1)]
abbrev frX(jk:List Nat)(i:Nat)(w:Nat):List (Nat×V):=[(1,i6 v),(2,u6 ps),(3,.ptr 0 0),(6,.ptr 1 0),(7,i6 r),(8,.mp 2),(28,cV cs),(29,i6 cs.length),(30,i6 i),(10,nl jk),(11,i6 w)]
end
theorem fam_row(jj:List Nat)(cs:List (List Nat))(v ps r:Nat)(jk:List Nat)(i:Nat)(hc:Bt jj)(hv:Cb jj jk)(H:T O)(nx:Nat)(lg:List Nat)(w:Nat)(hw:w=Ct jj ps jk jj.length):
  Sat Pg none 0 (at' 71 [1,1,1,0,1,0,0,1,1,0,0,1,1,0,1,0]) (A4 g0 113 (frS jj cs v ps r jk i (0,0)) H nx lg) (Qlj g0 113 H nx lg [(True,.exit 2,frX cs v ps r jk i w)]):=by
 refine loopFr (b:=at' 71 [1,1,1,0,1,0,0,1,1,0,0,1,1,0,1,0,0]) k_ (fun q=>q.1<=jj.length/\q.2=Ct jj ps jk q.1) (frS jj cs v ps r jk i) (fun q=>jj.length-q.1) _ H nx lg (fun q G hq hN hE=>?_) (0,0) ⟨Nat.zero_le _,rfl⟩
 obtain⟨k,u⟩:=q
 obtain⟨hk,hu⟩:=hq
 dsimp only at hk hu
 have h6:=hc.six
 by_cases hlt:k<jj.length
 ·have hcd := hc.each k hlt
  have hvl:=hv.lt k hlt
  have jy:=hv.len
  have hb:=rowN_bd hc hv ps (k:=k) o_
  have hld:=@Qa5 jj k hlt
  have hld2:=@Qa5 jk k o_
  have hshr:=@F6 (Qac Pg) 72 ps k o_
  have hand:=@Qqk (Qac Pg) 72 (ps/2^k)
  rw[<-hu]at hb
  by_cases kw:ps/2^k%2=1
  ·have km : Ct jj ps jk (k + 1) = u * jj.getD k 0 + jk.getD k 0 := by
    show(if _ then _ else _)=_
    rw[if_pos kw,hu]
   have hmul:u*jj.getD k 0<=4096*4:=Nat.mul_le_mul o_ hcd.2
   generalize jj.getD k 0=c at*
   generalize jk.getD k 0=x at*
   have hcast:((u:Int)*(c:Int))=((u*c:Nat):Int):=by simp
   generalize u*c=uc at*
   refine⟨[yes 38,pl 40,ld 41 (i6 (c:Nat)),va 44 (u6 (ps/2^k:Nat)),va 45 (u6 (ps/2^k%2:Nat)),yes 46,nu 49 (uc:Nat),pl 52,ld 53 (i6 (x:Nat)),nu 54 (uc+x:Nat),nu 55 (k+1:Nat),toO (frS jj cs v ps r jk i (k+1,uc+x))],1000,?_⟩
   refine m_ (p:=let z0:=(k:Int);let z1:=(jj.length:Int);let z2:=u6 ↑(ps/2^k);Bn [decide (z0<z1)=true,An [(0:Int)<=z0,z0<z1],Ad (List.drop (k*1) (nt jj))=some (i6 c),Ai (Qac Pg) .shr 72 (u6 ps) (i6 k)=some z2,Ai (Qac Pg) .and 72 z2 (u6 1)=some (u6 ↑(ps/2^k%2)),((↑(ps/2^k%2):Int)==1)=true,wr .i64 ((u:Int)*(c:Int))=(uc:Int),An [(0:Int)<=z0,z0<(jk.length:Int)],Ad (List.drop (k*1) (nt jk))=some (i6 x),wr .i64 ((uc:Int)+(x:Int))=(↑(uc+x):Int),wr .i64 (z0+1)=(↑(k+1):Int),G Ex.normal (frS jj cs v ps r jk i (k+1,uc+x)) H nx lg,Sm (i6 v),Sm (u6 ps),Sm (V.ptr 0 0),Sm (V.ptr 1 0),Sm (i6 r),Sm (V.mp 2),Sm (cV cs),Sm (i6 cs.length),Sm (i6 i),Sm (nl jk),Sm (i6 ↑(uc+x)),Sm (nl jj),Sm (i6 jj.length),Sm (i6 ↑(k+1))]) ?_
   (repeat'(first|(with_reducible apply And.intro)|(refine fun(_:True)=>?_)))<;>first|exact aq|skip
   all_goals exact hN (k+1,uc+x) ⟨hlt,km.symm⟩ (by dsimp only;omega)
  ·have km : Ct jj ps jk (k + 1) = u := by
    show(if _ then _ else _)=_
    rw[if_neg kw,hu]
   generalize jj.getD k 0=c at*
   refine⟨[yes 38,pl 40,ld 41 (i6 (c:Nat)),va 44 (u6 (ps/2^k:Nat)),va 45 (u6 (ps/2^k%2:Nat)),no 46,nu 55 (k+1:Nat),toO (frS jj cs v ps r jk i (k+1,u))],1000,?_⟩
   refine m_ (p:=let z0:=(k:Int);let z1:=(jj.length:Int);let z2:=u6 ↑(ps/2^k);Bn [decide (z0<z1)=true,An [(0:Int)<=z0,z0<z1],Ad (List.drop (k*1) (nt jj))=some (i6 c),Ai (Qac Pg) .shr 72 (u6 ps) (i6 k)=some z2,Ai (Qac Pg) .and 72 z2 (u6 1)=some (u6 ↑(ps/2^k%2)),((↑(ps/2^k%2):Int)==1)=false,wr .i64 (z0+1)=(↑(k+1):Int),G Ex.normal (frS jj cs v ps r jk i (k+1,u)) H nx lg,Sm (i6 v),Sm (u6 ps),Sm (V.ptr 0 0),Sm (V.ptr 1 0),Sm (i6 r),Sm (V.mp 2),Sm (cV cs),Sm (i6 cs.length),Sm (i6 i),Sm (nl jk),Sm (i6 u),Sm (nl jj),Sm (i6 jj.length),Sm (i6 ↑(k+1))]) ?_
   (repeat'(first|(with_reducible apply And.intro)|(refine fun(_:True)=>?_)))<;>first|exact aq|skip
   all_goals exact hN (k+1,u) ⟨hlt,km.symm⟩ (by dsimp only;omega)
 ·have : k = jj.length := by omega
  subst this
  obtain rfl:u=w:=hu.trans hw.symm
  refine⟨[no 38,toO (frX cs v ps r jk i u)],1000,?_⟩
  refine m_ (p:=let z0:=(jj.length:Int);Bn [decide (z0<z0)=false,G (Ex.exit 2) (frX cs v ps r jk i u) H nx lg,Sm (i6 v),Sm (u6 ps),Sm (V.ptr 0 0),Sm (V.ptr 1 0),Sm (i6 r),Sm (V.mp 2),Sm (cV cs),Sm (i6 cs.length),Sm (i6 i),Sm (nl jk),Sm (i6 u)]) ?_
  (repeat'(first|(with_reducible apply And.intro)|(refine fun(_:True)=>?_)))<;>first|exact aq|skip
  all_goals exact hE _ _ (.inl ⟨trivial,rfl,rfl⟩)
def Qav(jj:List Nat)(v ps:Nat)(cs:List (List Nat)):List (Nat×Nat):=cs.map fun c=>(Ct jj ps c jj.length,c.getD v 0)
structure FamH(jj:List Nat)(cs:List (List Nat))(r:Nat)(es:List (Nat×List Nat))(M:Mem):Prop where
 h0:gt M.H 0=some (dO jj cs)
 h1:gt M.H 1=some (.row 37 none (arF Qah))
 h2:gt M.H 2=some (.map (Co r 3 0 es) es.length)
 nx:M.nx=3+es.length
 row: ∀a e,es[a]? =some e->gt M.H (3+a)=some (.row 3 none (nt e.2))/\e.2.length=r
abbrev FamI(jj:List Nat)(cs:List (List Nat))(v ps r:Nat)(i:Nat)(M:Mem):Prop:=i<=cs.length/\FamH jj cs r (Qaq r (Qav jj v ps (cs.take i))) M
theorem Qid{jj:List Nat}{v ps i:Nat}{cs:List (List Nat)}{c:List Nat}(h:cs[i]? =some c):Qav jj v ps (cs.take (i+1))=Qav jj v ps (cs.take i)++[(Ct jj ps c jj.length,c.getD v 0)]:=by
 rw[List.take_add_one,h];simp[Qav]
theorem famH_new{jj:List Nat}{cs:List (List Nat)}{r q k:Nat}{es:List (Nat×List Nat)}{H H':T O}{nx:Nat}{lg lg':List Nat}(h:FamH jj cs r es ⟨H,nx,lg⟩)(hi:D0 q es=none)
  (hg: ∀j,gt H' j=if j=nx then some (.row 3 none (nt ((List.replicate r 0).set k 1)))else if j=2 then some (.map (Co r 3 0 es++[(i6 (q:Nat),.sl nx 0 r (some (r-r)),es.length)]) (es.length+1))else gt H j):FamH jj cs r (bump r q k es) ⟨H',nx+1,lg'⟩:=by
 have hnx:nx=3+es.length:=h.nx
 rw[Qnm hi]
 refine⟨?_,?_,?_,by simp only[List.length_append,List.length_cons,List.length_nil];omega,fun a e ha=>?_⟩
 ·rw[hg,if_neg o_,if_neg o_];exact h.h0
 ·rw[hg,if_neg o_,if_neg o_];exact h.h1
 ·rw [hg, if_neg o_, if_pos rfl, Qks]
  simp only[Nat.zero_add,hnx,List.length_append,List.length_cons,List.length_nil]
 ·rw [hg]
  rw[List.getElem?_append]at ha
  split at ha
  ·rename_i hlt
   rw[if_neg o_,if_neg o_]
   exact h.row a e ha
  ·rename_i hge
   have ha0:a=es.length:=by
    have:=(List.getElem?_eq_some_iff.1 ha).1
    simp at this;omega
   subst ha0
   rw[Nat.sub_self]at ha
   cases ha
   rw[if_pos hnx.symm]
   exact⟨rfl,by simp⟩
theorem famH_old{jj:List Nat}{cs:List (List Nat)}{r q k a:Nat}{l:List Nat}{es:List (Nat×List Nat)}{H H':T O}{nx:Nat}{lg lg':List Nat}(h:FamH jj cs r es ⟨H,nx,lg⟩)(hl:es[a]? =some (q,l))(hb:bump r q k es=es.set a (q,l.set k (l.getD k 0+1)))
  (hg: ∀j,gt H' j=if j=3+a then some (.row 3 none (nt (l.set k (l.getD k 0+1))))else gt H j):FamH jj cs r (bump r q k es) ⟨H',nx,lg'⟩:=by
 have hnx:nx=3+es.length:=h.nx
 rw[hb]
 have hr:=(h.row a _ hl).2
 refine⟨?_,?_,?_,by simp only[List.length_set];omega,fun b e he=>?_⟩
 ·rw[hg,if_neg o_];exact h.h0
 ·rw[hg,if_neg o_];exact h.h1
 ·rw[hg,if_neg o_,Qny r 3 q l _ es 0 a hl,List.length_set];exact h.h2
 ·rw [hg]
  rw[List.getElem?_set]at he
  split at he
  ·rename_i hab
   subst hab
   split at he
   ·cases he
    rw[if_pos rfl]
    exact⟨rfl,by simpa using hr⟩
   ·cases he
  ·rename_i hab
   rw[if_neg o_]
   exact h.row b e he
theorem Qh5{k:IntKind}{n:Int}{v:V}{b:Nat}: ∀{es:List (V×V×Nat)}{j:Nat},B6 k n es j=some none->B6 k n (es++[(.int k n,v,b)]) j=some (some (j+es.length,v))
 |[],j,_=>by simp[B6]
 | (x, y, c) :: es, j, h => by
  cases x<;>try(unfold B6 at h;cases h;done)
  rename_i k' m
  unfold B6 at h
  rw[List.cons_append]
  unfold B6
  split at h
  ·split at h
   ·cases h
   ·rename_i h1 h2
    rw[if_pos h1,if_neg h2,Qh5 h,List.length_cons,show j+1+es.length=j+(es.length+1)by omega]
  ·cases h
theorem putE_new{k:IntKind}{n:Int}{v:V}{es:List (V×V×Nat)}{ck:Nat}(h:B6 k n es 0=some none):putE k n v es ck=some (.map (es++[(.int k n,v,ck)]) (ck+1)):=by unfold putE;rw[h]
theorem Qgf(r b:Nat): ∀(es:List (Nat×List Nat))(t:Nat),(Co r b t es).length=es.length
 |[],_=>rfl
 |e::es,t=>by rw[Co,List.length_cons,Qgf r b es (t+1),List.length_cons]
theorem Qpj{r:Nat}{P:List (Nat×Nat)}(h: ∀p∈P,p.2<r): ∀e∈Qaq r P,∀x,e.2.getD x 0<=P.length:=by
 intro e he x
 have hE:=Qct P h
 rw[hE.row e he]
 have h1:=Qcy (r:=r) P e.1 h
 rw[List.getD_eq_getElem?_getD]
 cases hx:(Bk P r e.1)[x]? with
 |none=>exact Nat.zero_le _
 |some y=>exact Nat.le_trans (Qb9 (List.mem_of_getElem? hx)) h1
theorem pairs_lt{jj:List Nat}{v ps:Nat}{cs:List (List Nat)}(hcs: ∀c∈cs,Cb jj c)(hv:v<jj.length): ∀p∈Qav jj v ps cs,p.2<jj.getD v 0:=by
 intro p hp
 obtain⟨c,hc,rfl⟩:=List.mem_map.1 hp
 exact(hcs c hc).lt v hv
theorem Qrn(jj:List Nat)(cs:List (List Nat))(v ps r:Nat)(hc:Bt jj)(hcs: ∀c∈cs,Cb jj c)(hv:v<jj.length)(hr:jj.getD v 0=r)(hm:cs.length<=40)(M:Mem)(hM:FamI jj cs v ps r 0 M):
  Sat Pg none 0 (at' 71 [1,1,1,0,1,0]) (A4 g0 113 (fbS cs v ps r 0) M.H M.nx M.lg) (fun e st=>∃sl M',st=A4 g0 113 sl M'.H M'.nx M'.lg/\e= .exit 0/\sl=fbS cs v ps r cs.length/\FamH jj cs r (Qaq r (Qav jj v ps cs)) M'):=by
 refine Qgw (b:=at' 71 [1,1,1,0,1,0,0]) k_ (FamI jj cs v ps r) (fbS cs v ps r) (fun i=>cs.length-i) (fun e sl M'=>e= .exit 0/\sl=fbS cs v ps r cs.length/\FamH jj cs r (Qaq r (Qav jj v ps cs)) M') (fun i H nx lg G hI hN hE _=>?_) 0 M hM
 obtain⟨hi,hH⟩:=hI
 by_cases hlt:i<cs.length
 ·have hci : cs[i]? = some cs[i] := List.getElem?_eq_getElem hlt
  have hco:=hcs _ (List.getElem_mem hlt)
  have hps:=@Qid jj v ps i cs _ hci
  generalize cs[i]=c at*
  have hN1:=fun H nx lg h=>hN (i+1) H nx lg ⟨by omega,h⟩ o_
  rw[hps,Qdh]at hN1
  dsimp only at hN1
  have hbd:=Qpj (P:=Qav jj v ps (cs.take i)) (r:=r) (by rw[<-hr];exact pairs_lt (fun c hc=>hcs c (List.mem_of_mem_take hc)) hv)
  have hpl:(Qav jj v ps (cs.take i)).length<=40:=by simp only[Qav,List.length_map,List.length_take];omega
  generalize Qaq r (Qav jj v ps (cs.take i))=es at*
  have hw:=fam_row jj cs v ps r c i hc hco
  have hxr:c.getD v 0<r:=by have:=hco.lt v hv;omega
  have hr4:r<=4:=by have:=hc.each v hv;omega
  have hnx:nx=3+es.length:=hH.nx
  have h0:gt H 0=some (dO jj cs):=hH.h0
  have h2:gt H 2=some (.map (Co r 3 0 es) es.length):=hH.h2
  have hld1:Ad ((cs.map nl).drop (i*1))=some (nl c):=Qbg hci
  have hld2:=@Qa5 c v (by have:=hco.len;omega)
  have hcl:=hco.len
  generalize hq:Ct jj ps c jj.length=q at*
  have hw':=fun H nx lg=>hw H nx lg q rfl
  generalize c.getD v 0=x at*
  cases hidx:D0 q es with
  | none =>
   have hf1:B6 .i64 (q:Int) (Co r 3 0 es) 0=some none:=by rw[Qgj,hidx];rfl
   refine⟨[yes 31,pl 32,ld 33 (nl c),lo_ 35 (dO jj cs) (nl jj),lpF (frS jj cs v ps r c i (0,0)) (.exit 2) (frX cs v ps r c i q),lk 58 (Co r 3 0 es) es.length none,mk 63,up (Co r 3 0 es) es.length (.map (Co r 3 0 es++[(i6 (q:Nat),.sl nx 0 r (some (r-r)),es.length)]) (es.length+1)),lk 66 (Co r 3 0 es++[(i6 (q:Nat),.sl nx 0 r (some (r-r)),es.length)]) (es.length+1) (some (es.length,.sl nx 0 r (some (r-r)))),pl 69,ld 70 (i6 x),pl 71,lo_ 72 (.row 3 none (nt (List.replicate r 0))) (i6 0),nu 73 1,pl 74,so (.row 3 none (nt (List.replicate r 0))) (nt ((List.replicate r 0).set x 1)),nu 75 (i+1:Nat),toO (fbS cs v ps r (i+1))],1000,?_⟩
   refine m_ (p:=let z1:=pt H nx (O.row 3 none (rep r [i6 0]));let z2:=List.replicate r 0;let z3:=V.sl nx 0 r (some (r-r));let z4:=Co r 3 0 es;let z5:=(r:Int);let z6:=i6 ↑cs.length;let z7:=(0:Int);let z9:=(i:Int);let y0:=(x:Int);let y5:=V.ptr 0 0;let y6:=V.ptr 1 0;let y7:=nl jj;let y8:=(q:Int);let y1:=some (O.row 3 none (nt z2));let y2:=[(i6 q,z3,es.length)];let y3:=some (O.map z4 es.length);let y4:=nt (List.set z2 x 1);let z0:=O.map (z4++y2) (es.length+1);let z8:=pt z1 2 z0;Bn [decide (z9<(cs.length:Int))=true,An [z7<=z9,z9<(cs.length:Int)],Ad (List.drop (i*1) (List.map nl cs))=some (nl c),gt H 0=some (dO jj cs),Ad (Aj (0+0) [y7,cV cs])=some y7,Bn [Sm (i6 v),Sm (u6 ps),y5=y5,y6=y6,Sm (i6 r),Sm (V.mp 2),Sm (cV cs),z6=z6,Sm (i6 i),Sm (nl c),i6 0=i6 ↑(0:Nat),y7=y7,Sm (i6 jj.length),i6 0=i6 ↑(0:Nat)],Sat Pg none 0 (at' 71 [1,1,1,0,1,0,0,1,1,0,0,1,1,0,1,0]) (A4 g0 113 (frS jj cs v ps r c i (0,0)) H nx lg) (Qlj g0 113 H nx lg [(True,Ex.exit 2,frX cs v ps r c i q)]),(True->Bn [An [gt H 2=y3,B6 IntKind.i64 y8 z4 0=some none],An [z7<=z5,z5<=z5,((8:Nat):Int)*z5<=281474976710656,z5<=9223372036854775807],An [gt z1 2=y3,putE IntKind.i64 y8 z3 z4 es.length=some z0],An [gt z8 2=some z0,B6 IntKind.i64 y8 (z4++y2) 0=some (some (es.length,z3))],An [z7<=(v:Int),(v:Int)<(c.length:Int)],Ad (List.drop (v*1) (nt c))=some (i6 x),An [z7<=y0,y0<z5],gt z8 nx=y1,Ad (Aj (0+x*1) (nt z2))=some (i6 0),wr .i64 (z7+1)=(1:Int),An [z7<=y0,y0<z5],An [gt z8 nx=y1,Ax (0+x*1) (nt z2) [i6 1]=some y4],wr .i64 (z9+1)=(↑(i+1):Int),G Ex.normal (fbS cs v ps r (i+1)) (pt z8 nx (O.row 3 none y4)) (nx+1) ([nx]++([2]++lg)),Sm (i6 v),Sm (u6 ps),y5=y5,y6=y6,Sm (i6 r),Sm (V.mp 2),Sm (cV cs),z6=z6,Sm (i6 ↑(i+1))])]) ?_
   (repeat'(first|(with_reducible apply And.intro)|(refine fun(_:True)=>?_)))<;>first|exact aq|skip
   ·rfl
   ·rw[Qad,if_neg o_];exact h2
   ·exact putE_new hf1
   ·rw[Qad,if_pos rfl]
   ·have := Qh5 (v := .sl nx 0 r (some (r - r))) (b := es.length) hf1
    rw[Nat.zero_add,Qgf]at this;exact this
   ·rw[Qad,if_neg o_,Qad,if_pos rfl];exact congrArg (fun z=>some (O.row 3 none z)) (Qop r 0)
   ·rw[Qau,Nat.zero_add,Qa5 (by simpa using hxr),List.getD_eq_getElem?_getD,List.getElem?_replicate];simp[hxr]
   ·rw[Qad,if_neg o_,Qad,if_pos rfl];exact congrArg (fun z=>some (O.row 3 none z)) (Qop r 0)
   ·exact Qob (x:=1) (by simpa using hxr)
   ·refine hN1 _ _ _ (famH_new hH hidx (fun j => ?_))
    simp only[Qad]
    split
    ·rfl
    ·split
     ·rfl
     ·rfl
  |some a=>
   obtain⟨l,hl,hb⟩:=@Qnn r q x 0 es a hidx
   have hf1:B6 .i64 (q:Int) (Co r 3 0 es) 0=some (some (a,.sl (3+a) 0 r (some (r-r)))):=by rw[Qgj,hidx];simp only[Option.map_some,Nat.zero_add,Nat.add_zero]
   refine⟨[yes 31,pl 32,ld 33 (nl c),lo_ 35 (dO jj cs) (nl jj),lpF (frS jj cs v ps r c i (0,0)) (.exit 2) (frX cs v ps r c i q),lk 58 (Co r 3 0 es) es.length (some (a,.sl (3+a) 0 r (some (r-r)))),lk 66 (Co r 3 0 es) es.length (some (a,.sl (3+a) 0 r (some (r-r)))),pl 69,ld 70 (i6 x),pl 71,lo_ 72 (.row 3 none (nt l)) (i6 (l.getD x 0:Nat)),nu 73 (l.getD x 0+1:Nat),pl 74,so (.row 3 none (nt l)) (nt (l.set x (l.getD x 0+1))),nu 75 (i+1:Nat),toO (fbS cs v ps r (i+1))],1000,?_⟩
   have km:=hH.row a _ hl
   have hlb:=hbd _ (List.mem_of_getElem? hl) x
   obtain⟨km,hrl⟩:=km
   dsimp only at km hrl hlb
   refine m_ (p:=let z0:=List.getD l x 0;let z1:=B6 IntKind.i64 (q:Int) (Co r 3 0 es) 0;let z2:=some (some (a,V.sl (3+a) 0 r (some (r-r))));let z3:=i6 ↑cs.length;let z4:=some (O.map (Co r 3 0 es) es.length);let z5:=(i:Int);let z6:=(x:Int);let z8:=some (O.row 3 none (nt l));let z9:=(0:Int);let y0:=V.ptr 0 0;let y1:=V.ptr 1 0;let y2:=nl jj;let z7:=nt (List.set l x (z0+1));Bn [decide (z5<(cs.length:Int))=true,An [z9<=z5,z5<(cs.length:Int)],Ad (List.drop (i*1) (List.map nl cs))=some (nl c),gt H 0=some (dO jj cs),Ad (Aj (0+0) [y2,cV cs])=some y2,Bn [Sm (i6 v),Sm (u6 ps),y0=y0,y1=y1,Sm (i6 r),Sm (V.mp 2),Sm (cV cs),z3=z3,Sm (i6 i),Sm (nl c),i6 0=i6 ↑(0:Nat),y2=y2,Sm (i6 jj.length),i6 0=i6 ↑(0:Nat)],Sat Pg none 0 (at' 71 [1,1,1,0,1,0,0,1,1,0,0,1,1,0,1,0]) (A4 g0 113 (frS jj cs v ps r c i (0,0)) H nx lg) (Qlj g0 113 H nx lg [(True,Ex.exit 2,frX cs v ps r c i q)]),(True->Bn [An [gt H 2=z4,z1=z2],An [gt H 2=z4,z1=z2],An [z9<=(v:Int),(v:Int)<(c.length:Int)],Ad (List.drop (v*1) (nt c))=some (i6 x),An [z9<=z6,z6<(r:Int)],gt H (3+a)=z8,Ad (Aj (0+x*1) (nt l))=some (i6 ↑(z0)),wr .i64 ((↑(z0):Int)+1)=(↑(z0+1):Int),An [z9<=z6,z6<(r:Int)],An [gt H (3+a)=z8,Ax (0+x*1) (nt l) [i6 ↑(z0+1)]=some z7],wr .i64 (z5+1)=(↑(i+1):Int),G Ex.normal (fbS cs v ps r (i+1)) (pt H (3+a) (O.row 3 none z7)) nx ([3+a]++lg),Sm (i6 v),Sm (u6 ps),y0=y0,y1=y1,Sm (i6 r),Sm (V.mp 2),Sm (cV cs),z3=z3,Sm (i6 ↑(i+1))])]) ?_
   (repeat'(first|(with_reducible apply And.intro)|(refine fun(_:True)=>?_)))<;>first|exact aq|skip
   ·rfl
   ·rw[Qau,Nat.zero_add];exact Qa5 o_
   ·exact Qob o_
   ·exact hN1 _ _ _ (famH_old hH hl hb (fun j=>Qad _ _ _ _))
 ·have : i = cs.length := by omega
  subst this
  rw[List.take_length]at hH
  refine⟨[no 31,toO (fbS cs v ps r cs.length)],1000,?_⟩
  refine m_ (p:=Bn [decide ((cs.length:Int)<(cs.length:Int))=false,G (Ex.exit 0) (fbS cs v ps r cs.length) H nx lg,Sm (i6 v),Sm (u6 ps),Sm (V.ptr 0 0),Sm (V.ptr 1 0),Sm (i6 r),Sm (V.mp 2),Sm (cV cs),Sm (i6 cs.length),Sm (i6 cs.length)]) ?_
  (repeat'(first|(with_reducible apply And.intro)|(refine fun(_:True)=>?_)))<;>first|exact aq|skip
  all_goals exact hE _ _ _ _ _ ⟨rfl,rfl,hH⟩
set_option maxHeartbeats 1000000
set_option maxRecDepth 100000
def arE:SL:={sl:=[]}
def bE(d:Nat)(b:Bool):SL:={sl:=[(d,.bool b)]}
theorem spI0{p n:Nat}(hp:2<=p)(h1:1<=n)(h2:n<=4611686018427387903):SpI p (Qds p 63 n).1 (Qds p 63 n).2 63 n 0:=
 ⟨h1,by(have:(2:Nat)^63=9223372036854775808:=by decide);omega,rfl,rfl⟩
abbrev TrI(n:Nat)(q:Nat×Nat×(Nat->Int)):Prop:=q.1<=18/\q.2.1=ofN n q.1/\q.2.2=ofF n q.1
theorem Qt2{n k:Nat}(h1:1<=n)(h2:n<=4611686018427387903)(hlt:k<18){m:Nat}{f:Nat->Int}(hm:m=ofN n k)(hf:f=ofF n k): ∃E M:Nat,E<=63/\SpI (Al k) E M 63 m 0/\m<=4611686018427387903/\TrI n (k+1,M,upA f k E)/\(∀i,f i=upA f k ((0:Nat):Int) i):=by
 subst hm hf
 have hb:=Qsu h1 k
 have hp:=Qbc k
 refine⟨(Qds (Al k) 63 (ofN n k)).1,(Qds (Al k) 63 (ofN n k)).2,(Qfr hp.1 63 (ofN n k) hb.1).2.2,spI0 hp.1 hb.1 o_,by omega,⟨hlt,rfl,rfl⟩,fun i=>?_⟩
 unfold upA;split
 ·rename_i h;rw[Qst n k i o_];rfl
 ·rfl
abbrev riS(f:Nat->Int)(k:Nat)(q:Nat×Nat×Nat):SL:={sl:=[(0,i6 q.2.1),(2,.ptr 0 0),(4,.ptr 1 0),(5,i6 k)],os:=[.row 37 none (arF Qah),.row 37 none (arF (upA f k q.2.2))]}
abbrev riX(f:Nat->Int)(k:Nat)(n e:Nat):SL:={sl:=[(0,i6 n),(2,.ptr 0 0),(4,.ptr 1 0),(5,i6 k)],os:=[.row 37 none (arF Qah),.row 37 none (arF (upA f k e))]}
theorem refof_in(f:Nat->Int)(k:Nat)(hk:k<18)(E M:Nat)(q:Nat×Nat×Nat)(hE:E<=63)(hq:SpI (Al k) E M q.1 q.2.1 q.2.2/\q.2.1<=4611686018427387903):
  Sat Pg none 0 (at' 69 [1,1,0,1,0,0,1,0,0,0]) (Ah g0 28 (riS f k q)) (Qaf g0 28 [(True,.exit 2,riX f k M E)]):=by
 refine Qax vE_ok Af Qaa (b:=at' 69 [1,1,0,1,0,0,1,0,0,0,0]) k_ (fun q=>SpI (Al k) E M q.1 q.2.1 q.2.2/\q.2.1<=4611686018427387903) (riS f k) (fun q=>q.1) (fun q hq=>?_) q hq
 obtain⟨t,n,e⟩:=q
 obtain⟨hq,hn⟩:=hq
 dsimp only at hq hn
 have hp:=Qbc k
 have hpf:=Qjn k hk
 have hrem:Ai (Qac Pg) .rem 3 (i6 n) (i6 (Al k))=some (i6 ((n%Al k:Nat):Int)):=by rw[Db o_,Qd2]
 by_cases hm:n%Al k=0
 ·obtain ⟨t', rfl, hq'⟩ := hq.step hp.1 hm
  have hdl:=Nat.div_le_self n (Al k)
  have htd:=Qoz n (Al k)
  generalize n/Al k=m at*
  have hquo:Ai (Qac Pg) .quo 3 (i6 n) (i6 (Al k))=some (i6 ((m:Nat):Int)):=by rw[quo6 o_ (by rw[htd];omega) (by rw[htd];omega),htd]
  have hpl:=@Qbs 1 k hk
  have hhd:Ad (Aj k (arF (upA f k e)))=some (i6 (e:Int)):=by rw[Qbq hk,Gk]
  have hst:Ax k (arF (upA f k e)) [i6 ((e+1:Nat):Int)]=some (arF (upA f k ((e+1:Nat):Int))):=by rw[Qk5 hk,Qt5]
  have he:=hq'.e1
  refine .inl ⟨(t',m,e+1),[0,1],[fn 12 (i6 (Al k)),va 13 (i6 ((n%Al k:Nat):Int)),yes 14,fn 17 (i6 (Al k)),va 18 (i6 ((m:Nat):Int)),va 21 (.ptr 1 k),ld 22 (i6 e),nu 23 (e+1:Nat),va 24 (.ptr 1 k),st (arF (upA f k ((e+1:Nat):Int)))],1000,⟨hq',by dsimp only;omega⟩,by dsimp only;omega,?_⟩
  exact u_ (p:=let z0:=arF (upA f k (↑(e+1):Int));let z1:=i6 ↑(Al k);let z3:=arF (upA f k (e:Int));let z4:=(k:Int);let z2:=Az (Qac Pg) 37 (V.ptr 1 0) z4;Bn [Bn [Tt],Ac Pg g0 45 [i6 k] z1,Tt,Ai (Qac Pg) .rem 3 (i6 n) z1=some (i6 ↑(n%Al k)),((↑(n%Al k):Int)==0)=true,Bn [Tt],Ac Pg g0 45 [i6 k] z1,Tt,Ai (Qac Pg) .quo 3 (i6 n) z1=some (i6 m),z2=some (V.ptr 1 k),Ad (Aj k z3)=some (i6 e),wr .i64 ((e:Int)+1)=(↑(e+1):Int),z2=some (V.ptr 1 k),Ax k z3 [i6 ↑(e+1)]=some z0,Bn [Sm (m:Int),Zz,Zz,z4=z4],An [Sm (arF Qah),TT 18],An [z0=z0,TT 18]])
 ·obtain ⟨rfl, rfl⟩ := hq.stop hp.1 hm
  refine .inr ⟨.exit 2,[0,1],riX f k n e,[fn 12 (i6 (Al k)),va 13 (i6 ((n%Al k:Nat):Int)),no 14],1000,.inl ⟨trivial,rfl,rfl⟩,?_⟩
  exact u_ (p:=let z0:=Al k;Bn [Bn [Tt],Ac Pg g0 45 [i6 k] (i6 ↑(z0)),Tt,Ai (Qac Pg) .rem 3 (i6 n) (i6 ↑(z0))=some (i6 ↑(n%z0)),((↑(n%z0):Int)==0)=false,Bn [Sm (n:Int),Zz,Zz,Sm (k:Int)],An [Sm (arF Qah),TT 18],An [Sm (arF (upA f k (e:Int))),TT 18]])
abbrev roS(q:Nat×Nat×(Nat->Int)):SL:={sl:=[(0,i6 q.2.1),(2,.ptr 0 0),(4,.ptr 1 0),(5,i6 q.1)],os:=[.row 37 none (arF Qah),.row 37 none (arF q.2.2)]}
abbrev roX(m:Nat)(f:Nat->Int):SL:={sl:=[(0,i6 m),(2,.ptr 0 0),(4,.ptr 1 0)],os:=[.row 37 none (arF Qah),.row 37 none (arF f)]}
theorem Qpy(n:Nat)(h1:1<=n)(h2:n<=4611686018427387903)(q:Nat×Nat×(Nat->Int))(hq:TrI n q):
  Sat Pg none 0 (at' 69 [1,1,0,1,0]) (Ah g0 28 (roS q)) (Qaf g0 28 [(True,.exit 0,roX (ofN n 18) (ofF n 18))]):=by
 refine Qax vE_ok Af Qaa (b:=at' 69 [1,1,0,1,0,0]) k_ (TrI n) roS (fun q=>18-q.1) (fun q hq=>?_) q hq
 obtain⟨k,m,f⟩:=q
 obtain⟨hk,hm,hf⟩:=hq
 dsimp only at hk hm hf
 by_cases hlt:k<18
 ·obtain ⟨E, M, hE, hsp, hm2, hnx, hz⟩ := Qt2 h1 h2 hlt hm hf
  have l:=refof_in f k hlt E M (63,m,0) hE ⟨hsp,hm2⟩
  refine .inl ⟨(k+1,M,upA f k E),[0,1],[yes 7,(0,.loop [0,1] (riS f k (63,m,0)) [(True,.exit 2,riX f k M E)]),nu 9 (k+1:Nat)],1000,hnx,by dsimp only;omega,?_⟩
  exact u_ (p:=let z0:=An [Sm (arF Qah),TT 18];let z1:=(k:Int);Bn [decide (z1<18)=true,Bn [Bn [Sm (m:Int),Zz,Zz,Sm z1],z0,An [arF (upA f k ((0:Nat):Int))=arF f,TT 18]],Sat Pg none 0 (at' 69 [1,1,0,1,0,0,1,0,0,0]) (Ah g0 28 (riS f k (63,m,0))) (Qaf g0 28 [(True,Ex.exit 2,riX f k M E)]),(True->Bn [wr .i64 (z1+1)=(↑(k+1):Int),Bn [Sm (M:Int),Zz,Zz,Sm (↑(k+1):Int)],z0,An [Sm (arF (upA f k (E:Int))),TT 18]])])
 ·have : k = 18 := by omega
  subst this
  rw[<-hm,<-hf]
  refine .inr ⟨.exit 0,[0,1],roX m f,[],1000,.inl ⟨trivial,rfl,rfl⟩,?_⟩
  exact u_ (p:=Bn [Bn [Sm (m:Int),Zz,Zz],An [Sm (arF Qah),TT 18],An [Sm (arF f),TT 18]])
theorem refof_fn(n:Nat)(h1:1<=n)(h2:n<=4611686018427387903)(b:Bool)(hb:decide (ofN n 18=1)=b):Ac Pg g0 69 [i6 n] (.tup [ar (ofF n 18),.bool b]):=by
 have l:=Qpy n h1 h2 (0,n,Qah) ⟨Nat.zero_le _,rfl,rfl⟩
 generalize ofN n 18=m at*
 generalize ofF n 18=f at*
 cases b with
 |true=>
  have hb:=of_decide_eq_true hb
  refine Ac.of_vc vE_ok Af Qaa (n:=1000) (r:=[0]) (S:={sl:=[(2,.ptr 0 0),(3,.bool true)],os:=[.row 37 none (arF f)]}) (hs:=[(0,.loop [0,1] (roS (0,n,Qah)) [(True,.exit 0,roX m f)]),yes 27]) ?_
  exact u_ (p:=let z0:=[i6 0,i6 0,i6 0,i6 0,i6 0,i6 0,i6 0,i6 0,i6 0,i6 0,i6 0,i6 0,i6 0,i6 0,i6 0,i6 0,i6 0,i6 0];Bn [V.tup [V.agg (arF f),V.bool true]=V.tup [ar f,V.bool true],Bn [Bn [Sm (n:Int),Zz,Zz,((0:Nat):Int)=(0:Int)],An [arF Qah=z0,TT 18],An [arF Qah=z0,TT 18]],Sat Pg none 0 (at' 69 [1,1,0,1,0]) (Ah g0 28 (roS (0,n,Qah))) (Qaf g0 28 [(True,Ex.exit 0,roX m f)]),(True->Bn [((m:Int)==1)=true,Bn [Zz,Sm true],An [Sm (arF f),TT 18]])])
 |false=>
  have hb:=of_decide_eq_false hb
  refine Ac.of_vc vE_ok Af Qaa (n:=1000) (r:=[0]) (S:={sl:=[(2,.ptr 0 0),(3,.bool false)],os:=[.row 37 none (arF f)]}) (hs:=[(0,.loop [0,1] (roS (0,n,Qah)) [(True,.exit 0,roX m f)]),no 27]) ?_
  exact u_ (p:=let z0:=[i6 0,i6 0,i6 0,i6 0,i6 0,i6 0,i6 0,i6 0,i6 0,i6 0,i6 0,i6 0,i6 0,i6 0,i6 0,i6 0,i6 0,i6 0];Bn [V.tup [V.agg (arF f),V.bool false]=V.tup [ar f,V.bool false],Bn [Bn [Sm (n:Int),Zz,Zz,((0:Nat):Int)=(0:Int)],An [arF Qah=z0,TT 18],An [arF Qah=z0,TT 18]],Sat Pg none 0 (at' 69 [1,1,0,1,0]) (Ah g0 28 (roS (0,n,Qah))) (Qaf g0 28 [(True,Ex.exit 0,roX m f)]),(True->Bn [((m:Int)==1)=false,Bn [Zz,Sm false],An [Sm (arF f),TT 18]])])
def Bc(a b:Nat->Int)(s:Int):Nat->Nat->Int
 |0=>a
 |k+1=>upA (Bc a b s k) k (a k+s*b k)
theorem Qbi(a b:Nat->Int)(s:Int): ∀k i,Bc a b s k i=if i<k then a i+s*b i else a i
 |0,i=>by simp[Bc]
 | k + 1, i => by
  unfold Bc upA
  by_cases h:i=k
  ·subst h;rw[if_pos rfl,if_pos o_]
  ·rw [if_neg h, Qbi a b s k i]
   by_cases h2:i<k
   ·rw[if_pos h2,if_pos o_]
   ·rw[if_neg h2,if_neg o_]
abbrev cbS(a b:Nat->Int)(s:Int)(k:Nat):SL:={sl:=[(2,i6 s),(3,.ptr 0 0),(4,.ptr 1 0),(6,.ptr 2 0),(8,i6 k)],os:=[.row 37 none (arF (Bc a b s k)),.row 37 none (arF b),.row 37 none (arF Qah)]}
abbrev cbX(a b:Nat->Int)(s:Int):SL:={sl:=[(3,.ptr 0 0),(6,.ptr 1 0)],os:=[.row 37 none (arF (Bc a b s 18)),.row 37 none (arF Qah)]}
theorem Qkl(a b:Nat->Int)(s:Int)(ha: ∀k,k<18-> -1000000<=a k/\a k<=1000000)(hb: ∀k,k<18-> -1000000<=s*b k/\s*b k<=1000000)(k:Nat)(hk:k<=18):
  Sat Pg none 0 (at' 53 [1,0,1,0]) (Ah g0 23 (cbS a b s k)) (Qaf g0 23 [(True,.exit 0,cbX a b s)]):=by
 refine Qax vE_ok Af Qaa (b:=at' 53 [1,0,1,0,0]) k_ (fun k=>k<=18) (cbS a b s) (fun k=>18-k) (fun k hk=>?_) k hk
 by_cases hlt:k<18
 ·have p0 := @Qbs 0 k hlt
  have p1:=@Qbs 1 k hlt
  have h0:Ad (Aj k (arF (Bc a b s k)))=some (i6 (a k)):=by rw[Qbq hlt,Qbi,if_neg o_]
  have h1:=@Qbq b k hlt
  have hst:Ax k (arF (Bc a b s k)) [i6 (a k+s*b k)]=some (arF (Bc a b s (k+1))):=Qk5 hlt
  have ha:=ha k hlt
  have hb:=hb k hlt
  refine .inl ⟨k+1,[0,1,2],[yes 9,va 12 (.ptr 0 k),ld 13 (i6 (a k)),va 16 (.ptr 1 k),ld 17 (i6 (b k)),nu 18 (s*b k),nu 19 (a k+s*b k),va 20 (.ptr 0 k),st (arF (Bc a b s (k+1))),nu 21 (k+1:Nat)],1000,hlt,by omega,?_⟩
  exact u_ (p:=let z0:=arF (Bc a b s (k+1));let z2:=(↑(k+1):Int);let z3:=(k:Int);let z4:=arF (Bc a b s k);let z1:=Az (Qac Pg) 37 (V.ptr 0 0) z3;Bn [decide (z3<18)=true,z1=some (V.ptr 0 k),Ad (Aj k z4)=some (i6 (a k)),Az (Qac Pg) 37 (V.ptr 1 0) z3=some (V.ptr 1 k),Ad (Aj k (arF b))=some (i6 (b k)),wr .i64 (s*b k)=s*b k,wr .i64 (a k+s*b k)=a k+s*b k,z1=some (V.ptr 0 k),Ax k z4 [i6 (a k+s*b k)]=some z0,wr .i64 (z3+1)=z2,Bn [s=s,Zz,Zz,Zz,z2=z2],An [z0=z0,TT 18],An [Sm (arF b),TT 18],An [Sm (arF Qah),TT 18]])
 ·have : k = 18 := by omega
  subst this
  refine .inr ⟨.exit 0,[0,2],cbX a b s,[],1000,.inl ⟨trivial,rfl,rfl⟩,?_⟩
  exact u_ (p:=Bn [Bn [Zz,Zz],An [Sm (arF (Bc a b s 18)),TT 18],An [Sm (arF Qah),TT 18]])
theorem Qe2(a b:Nat->Int)(s:Int)(ha: ∀k,k<18-> -1000000<=a k/\a k<=1000000)(hb: ∀k,k<18-> -1000000<=s*b k/\s*b k<=1000000):Ac Pg g0 53 [ar a,ar b,i6 s] (ar (Bc a b s 18)):=by
 have l:=Qkl a b s ha hb 0 (Nat.zero_le _)
 refine Ac.of_vc vE_ok Af Qaa (n:=1000) (r:=[1]) (S:={sl:=[(6,.ptr 0 0)],os:=[.row 37 none (arF (Bc a b s 18))]}) (hs:=[(0,.loop [0,1,2] (cbS a b s 0) [(True,.exit 0,cbX a b s)])]) ?_
 exact u_ (p:=let z0:=Bc a b s 18;Bn [V.agg (arF z0)=ar z0,Bn [Bn [s=s,Zz,Zz,Zz,((0:Nat):Int)=(0:Int)],An [arF (Bc a b s 0)=arF a,TT 18],An [Sm (arF b),TT 18],An [arF Qah=[i6 0,i6 0,i6 0,i6 0,i6 0,i6 0,i6 0,i6 0,i6 0,i6 0,i6 0,i6 0,i6 0,i6 0,i6 0,i6 0,i6 0,i6 0],TT 18]],Sat Pg none 0 (at' 53 [1,0,1,0]) (Ah g0 23 (cbS a b s 0)) (Qaf g0 23 [(True,Ex.exit 0,cbX a b s)]),(True->Bn [Bn [Zz],An [Sm (arF z0),TT 18]])])
def factL:List Int:=
  [0, 0, 0, 0, 0, 0, 0, 0, 0, 0, 0, 0, 0, 0, 0, 0, 0, 0,
   0,0,0,0,0,0,0,0,0,0,0,0,0,0,0,0,0,0,
   1,0,0,0,0,0,0,0,0,0,0,0,0,0,0,0,0,0,
   1,1,0,0,0,0,0,0,0,0,0,0,0,0,0,0,0,0,
   3,1,0,0,0,0,0,0,0,0,0,0,0,0,0,0,0,0,
   3,1,1,0,0,0,0,0,0,0,0,0,0,0,0,0,0,0,
   4,2,1,0,0,0,0,0,0,0,0,0,0,0,0,0,0,0,
   4,2,1,1,0,0,0,0,0,0,0,0,0,0,0,0,0,0,
   7,2,1,1,0,0,0,0,0,0,0,0,0,0,0,0,0,0,
   7,4,1,1,0,0,0,0,0,0,0,0,0,0,0,0,0,0,
   8,4,2,1,0,0,0,0,0,0,0,0,0,0,0,0,0,0,
   8,4,2,1,1,0,0,0,0,0,0,0,0,0,0,0,0,0,
   10,5,2,1,1,0,0,0,0,0,0,0,0,0,0,0,0,0,
   10,5,2,1,1,1,0,0,0,0,0,0,0,0,0,0,0,0,
   11,5,2,2,1,1,0,0,0,0,0,0,0,0,0,0,0,0,
   11,6,3,2,1,1,0,0,0,0,0,0,0,0,0,0,0,0,
   15,6,3,2,1,1,0,0,0,0,0,0,0,0,0,0,0,0,
   15,6,3,2,1,1,1,0,0,0,0,0,0,0,0,0,0,0,
   16,8,3,2,1,1,1,0,0,0,0,0,0,0,0,0,0,0,
   16,8,3,2,1,1,1,1,0,0,0,0,0,0,0,0,0,0,
   18,8,4,2,1,1,1,1,0,0,0,0,0,0,0,0,0,0,
   18,9,4,3,1,1,1,1,0,0,0,0,0,0,0,0,0,0,
   19,9,4,3,2,1,1,1,0,0,0,0,0,0,0,0,0,0,
   19,9,4,3,2,1,1,1,1,0,0,0,0,0,0,0,0,0,
   22,10,4,3,2,1,1,1,1,0,0,0,0,0,0,0,0,0,
   22,10,6,3,2,1,1,1,1,0,0,0,0,0,0,0,0,0,
   23,10,6,3,2,2,1,1,1,0,0,0,0,0,0,0,0,0,
   23,13,6,3,2,2,1,1,1,0,0,0,0,0,0,0,0,0,
   25,13,6,4,2,2,1,1,1,0,0,0,0,0,0,0,0,0,
   25,13,6,4,2,2,1,1,1,1,0,0,0,0,0,0,0,0,
   26,14,7,4,2,2,1,1,1,1,0,0,0,0,0,0,0,0,
   26,14,7,4,2,2,1,1,1,1,1,0,0,0,0,0,0,0,
   31,14,7,4,2,2,1,1,1,1,1,0,0,0,0,0,0,0,
   31,15,7,4,3,2,1,1,1,1,1,0,0,0,0,0,0,0,
   32,15,7,4,3,2,2,1,1,1,1,0,0,0,0,0,0,0,
   32,15,8,5,3,2,2,1,1,1,1,0,0,0,0,0,0,0,
   34,17,8,5,3,2,2,1,1,1,1,0,0,0,0,0,0,0,
   34,17,8,5,3,2,2,1,1,1,1,1,0,0,0,0,0,0,
   35,17,8,5,3,2,2,2,1,1,1,1,0,0,0,0,0,0,
   35,18,8,5,3,3,2,2,1,1,1,1,0,0,0,0,0,0,
   38,18,9,5,3,3,2,2,1,1,1,1,0,0,0,0,0,0,
   38,18,9,5,3,3,2,2,1,1,1,1,1,0,0,0,0,0,
   39,19,9,6,3,3,2,2,1,1,1,1,1,0,0,0,0,0,
   39,19,9,6,3,3,2,2,1,1,1,1,1,1,0,0,0,0]
def Fq(r:Nat):Nat->List (Nat×List Nat)->List (V×V×Nat)
 | _,[]=>[]
 |t,e::es=>(i6 (e.1:Nat),.im r (nt e.2),t)::Fq r (t+1) es
theorem Qkr{H:Nat->Option O}{F:Nat->Prop}{ρ:Nat->Option Nat}{r b:Nat}: ∀(es:List (Nat×List Nat))(t:Nat),(∀a e,es[a]? =some e->F (b+(t+a))/\H (b+(t+a))=some (.row 3 none (nt e.2)))->Dr H F ρ (Fq r t es) (Co r b t es)
 |[],_,_=>rfl
 |e::es,t,h=>by
  obtain⟨h1,h2⟩:=h 0 e rfl
  refine⟨_,_,_,rfl,rfl,.inr (.inr ⟨b+t,0,some (r-r),3,none,nt e.2,rfl,h1,h2,Ci.of_hf _ (Qaz _)⟩),Qkr es (t+1) (fun a e' ha=>?_)⟩
  have:=h (a+1) e' (by simpa using ha)
  rwa [show t+(a+1)=t+1+a by omega]at this
abbrev fcS(r:Nat)(os:List O):SL:={sl:=[(6,.ptr 1 0),(7,i6 r),(8,.mp 2)],os:=os}
abbrev fcO(jj:List Nat)(cs:List (List Nat))(r:Nat)(es:List (Nat×List Nat)):List O:=[dO jj cs,.row 37 none (arF Qah),.map (Fq r 0 es) es.length]
abbrev fbO(jj:List Nat)(cs:List (List Nat)):List O:=[dO jj cs,.row 37 none (arF Qah),.map [] 0]
theorem By(f:Nat->Int):HfL (arF f):=by repeat'(first|exact trivial|refine And.intro trivial ?_)
theorem Qro(jj:List Nat)(cs:List (List Nat))(v ps r:Nat)(hc:Bt jj)(hcs: ∀c∈cs,Cb jj c)(hv:v<jj.length)(hr:jj.getD v 0=r)(hm:cs.length<=40):
  Sat Pg none 0 (at' 71 [1,1,1,0,1,0]) (Ah g0 113 {sl:=fbS cs v ps r 0,os:=fbO jj cs}) (Qaf g0 113 [(True,.exit 0,fcS r (fcO jj cs r (Qaq r (Qav jj v ps cs))))]):=by
 have h0:FamI jj cs v ps r 0 ⟨Ae .e 0 (fbO jj cs),3,[]⟩:=by
  refine⟨Nat.zero_le _,?_⟩
  have:Qaq r (Qav jj v ps (cs.take 0))=[]:=rfl
  rw[this]
  exact⟨rfl,rfl,rfl,rfl,fun a e h=>by simp at h⟩
 refine Sat.gc_post ((Qrn jj cs v ps r hc hcs hv hr hm _ h0).mono ?_)
 rintro e st ⟨sl,M',rfl,rfl,rfl,hH⟩
 generalize Qaq r (Qav jj v ps cs)=es at*
 obtain⟨H,nx,lg⟩:=M'
 have hnx:nx=3+es.length:=hH.nx
 have h0:=hH.h0
 have h1:=hH.h1
 have h2:=hH.h2
 rw[Qa0]at h0 h1 h2
 refine⟨[0,1,2],Ah g0 113 (fcS r (fcO jj cs r es)),⟨rfl,fun g hg=>?_,by decide,rfl,rfl,fun i x hx=>?_,fun h o ho hl=>?_,fun h _ hlt=>absurd hlt (Nat.not_lt_zero _)⟩,.inl ⟨trivial,rfl,rfl⟩⟩
 ·refine ⟨Nat.zero_le _, ?_⟩
  show g<nx
  simp at hg;omega
 ·have b6 : gt (En (Qdg 113) (fbS cs v ps r cs.length)) 6 = some (.ptr 1 0) := by kernel_rfl
  have b7:gt (En (Qdg 113) (fbS cs v ps r cs.length)) 7=some (i6 r):=by kernel_rfl
  have b8:gt (En (Qdg 113) (fbS cs v ps r cs.length)) 8=some (.mp 2):=by kernel_rfl
  rw[Qa0]at b6 b7 b8
  rcases Cr _ _ _ _ hx with kj|kj
  ·simp only [List.mem_cons, List.not_mem_nil, or_false] at kj
   rcases kj with h|h|h<;>cases h
   ·exact⟨_,b6,1,rfl,rfl⟩
   ·exact⟨_,b7,rfl⟩
   ·exact⟨_,b8,2,rfl,rfl⟩
  ·rw[Qbz]at kj;cases kj
 ·rcases Cs _ _ _ _ _ ho with ⟨_, hm⟩ | hm
  ·rw [Nat.sub_zero] at hm
   rcases h with _| _| _|h
   ·cases hm;exact⟨0,_,rfl,h0,_,rfl,Be.of_hf _ ⟨trivial,trivial,trivial⟩⟩
   ·cases hm;exact⟨1,_,rfl,h1,_,rfl,Be.of_hf _ (By _)⟩
   ·cases hm
    refine⟨2,_,rfl,h2,_,rfl,Qkr es 0 (fun a e ha=>⟨⟨Nat.zero_le _,?_,fun _ _=>Nat.zero_le _⟩,?_⟩)⟩
    ·simp;omega
    ·have := (hH.row a e ha).1
     rw[Qa0]at this
     rw[Nat.zero_add];exact this
   ·simp at hm
  ·simp at hm
theorem Qer{g c:Nat}(h:c<44):Az (Qac Pg) 134 (.ptr g 0) (c:Int)=some (.ptr g (c*18)):=by
 have h1:(Qac Pg).ty 134=some ⟨.array 44 37,792,6336,true,((Qac Pg).ty 134).bind (·.zero)⟩:=by kernel_rfl
 have h2:(Qac Pg).ty 37=some ⟨.array 18 3,18,144,true,((Qac Pg).ty 37).bind (·.zero)⟩:=by kernel_rfl
 unfold Az
 rw[h1]
 dsimp only
 rw[h2]
 dsimp only
 rw[if_pos ⟨by omega,by omega⟩]
 simp[Qfy]
structure Qo5(F:Nat->Nat->Int)(tb:List V):Prop where
 take: ∀c,c<44->A6 18 (Aj (c*18) tb)=some (arF (F c))
 bd: ∀c i,c<44->i<18->0<=F c i/\F c i<=50
 hf:HfL tb
def Aq(f g:Nat->Int)(s:Int):Nat->Int:=fun i=>f i+s*g i
theorem comb(f g:Nat->Int)(s:Int)(ha: ∀k,k<18-> -1000000<=f k/\f k<=1000000)(hb: ∀k,k<18-> -1000000<=s*g k/\s*g k<=1000000):Ac Pg g0 53 [ar f,ar g,i6 s] (ar (Aq f g s)):=by
 have h:=Qe2 f g s ha hb
 have e:arF (Bc f g s 18)=arF (Aq f g s):=Qbf fun k hk=>by rw[Qbi,if_pos hk];rfl
 rw[show ar (Bc f g s 18)=ar (Aq f g s)from congrArg V.agg e]at h
 exact h
section
variable (r:Nat) (E:List (V×V×Nat)) (n:Nat) (tb:List V) (jz:List Nat)
abbrev fmO(f:Nat->Int):List O:=[.dead,.row 37 none (arF Qah),.map E n,.row 134 none tb,.row 37 none (arF f),.iter (some 2) n jz n]
abbrev fmS(f:Nat->Int):SL:={sl:=[(6,.ptr 1 0),(7,i6 r),(14,.ptr 3 0),(15,.ptr 4 0),(78,.ptr 5 0)],os:=fmO E n tb jz f}
abbrev flS(l:List Nat)(q:Nat×Nat×(Nat->Int)):SL:={sl:=[(6,.ptr 1 0),(7,i6 r),(14,.ptr 3 0),(15,.ptr 4 0),(78,.ptr 5 0),(18,i6 q.2.1),(83,nl l),(84,i6 l.length),(85,i6 q.1)],os:=fmO E n tb jz q.2.2}
abbrev flX(s:Nat)(f:Nat->Int):SL:={sl:=[(6,.ptr 1 0),(7,i6 r),(14,.ptr 3 0),(15,.ptr 4 0),(78,.ptr 5 0),(18,i6 s)],os:=fmO E n tb jz f}
end
def Bo(F:Nat->Nat->Int)(f:Nat->Int)(l:List Nat):Nat->(Nat->Int)
 |0=>f
 |k+1=>Aq (Bo F f l k) (F (l.getD k 0)) 1
theorem Qeg(F:Nat->Nat->Int)(f:Nat->Int)(l:List Nat)(i:Nat): ∀k,k<=l.length->Bo F f l k i=f i+Bh ((l.take k).map fun c=>F c i)
 |0,_=>by simp[Bo,Bh]
 |k+1,h=>by
  have:=Qeg F f l i k o_
  unfold Bo Aq
  rw[this,List.take_add_one,List.map_append,Qc6,List.getElem?_eq_getElem o_,List.getD_eq_getElem?_getD,List.getElem?_eq_getElem o_]
  simp[Bh];omega
theorem Qhg{F:Nat->Nat->Int}{tb:List V}(h:Qo5 F tb){i:Nat}(hi:i<18): ∀l:List Nat,(∀c∈l,c<44)->0<=Bh (l.map fun c=>F c i)/\Bh (l.map fun c=>F c i)<=50*l.length
 |[],_=>by simp[Bh]
 |c::l,hl=>by
  have h1:=Qhg h hi l (fun x hx=>hl x (List.mem_cons_of_mem _ hx))
  have h2:=h.bd c i (hl c List.mem_cons_self) hi
  simp only[List.map_cons,Bh,List.length_cons]
  omega
theorem fam_list(r n:Nat)(E:List (V×V×Nat))(tb:List V)(jz:List Nat)(F:Nat->Nat->Int)(ht:Qo5 F tb)(hE:HfE E)(l:List Nat)(hl: ∀c∈l,c<44)(hl4:l.length<=4)(hs:As l<=43)(f:Nat->Int)(hf: ∀k,k<18-> -900000<=f k/\f k<=900000)(g:Nat->Int)(hg:g=Bo F f l l.length)(s:Nat)(hsum:s=As l):
  Sat Pg none 0 (at' 71 [1,1,1,1,1,1,0,1,0,0,1,1,0,1,1,0,1,0]) (Ah g0 113 (flS r E n tb jz l (0,0,f))) (Qaf g0 113 [(True,.exit 6,flX r E n tb jz s g)]):=by
 refine Qax vE_ok Af Qaa (b:=at' 71 [1,1,1,1,1,1,0,1,0,0,1,1,0,1,1,0,1,0,0]) k_ (fun q=>q.1<=l.length/\q.2.1=As (l.take q.1)/\q.2.2=Bo F f l q.1) (flS r E n tb jz l) (fun q=>l.length-q.1) (fun q hq=>?_) (0,0,f) ⟨Nat.zero_le _,rfl,rfl⟩
 obtain⟨k,u,a⟩:=q
 obtain⟨hk,hu,ha⟩:=hq
 dsimp only at hk hu ha
 by_cases hlt:k<l.length
 ·have hld := @Qa5 l k hlt
  have hc:l.getD k 0<44:=hl _ (by rw[List.getD_eq_getElem?_getD,List.getElem?_eq_getElem hlt];exact List.getElem_mem hlt)
  have htk:=ht.take _ hc
  have hpl:=@Qer 3 _ hc
  have hsn:As (l.take (k+1))=u+l.getD k 0:=by
   rw[List.take_add_one,Qc7,<-hu,List.getElem?_eq_getElem hlt,List.getD_eq_getElem?_getD,List.getElem?_eq_getElem hlt];simp[As]
  have hle:As (l.take (k+1))<=As l:=by
   have:=Qc7 (l.take (k+1)) (l.drop (k+1))
   rw[List.take_append_drop]at this;omega
  have hbd:=fun i(hi:i<18)=>Qhg ht hi (l.take k) (fun c hc=>hl c (List.mem_of_mem_take hc))
  have hcb:=fun i(hi:i<18)=>ht.bd _ i hc hi
  have hcomb:=comb a (F (l.getD k 0)) 1 (fun i hi=>by
   have:=hbd i hi;have:=hf i hi
   rw[ha,Qeg _ _ _ _ _ hk]
   have:(l.take k).length<=4:=by rw[List.length_take];omega
   omega) (fun i hi=>by have:=hcb i hi;omega)
  have hnext:Aq a (F (l.getD k 0)) 1=Bo F f l (k+1):=by rw[ha];rfl
  have htf:=ht.hf
  generalize l.getD k 0=c at*
  generalize F c=fc at*
  refine .inl ⟨(k+1,u+c,Aq a fc 1),[0,1,2,3,4,5],[yes 86,pl 87,ld 88 (i6 c),nu 91 (u+c:Nat),va 94 (.ptr 3 (c*18)),ld 95 (ar fc),fn 96 (ar (Aq a fc 1)),nu 97 (k+1:Nat)],1000,⟨hlt,hsn.symm,hnext⟩,by dsimp only;omega,?_⟩
  generalize Aq a fc 1=a' at*
  exact u_ (p:=let z0:=(l.length:Int);let z1:=(↑(u+c):Int);let z2:=(↑(k+1):Int);let z3:=(k:Int);Bn [decide (z3<z0)=true,An [(0:Int)<=z3,z3<z0],Ad (List.drop (k*1) (nt l))=some (i6 c),wr .i64 ((u:Int)+(c:Int))=z1,Az (Qac Pg) 134 (V.ptr 3 0) (c:Int)=some (V.ptr 3 (c*18)),A6 18 (Aj (c*18) tb)=some (arF fc),Bn [TT 18,TT 18,Tt],Ac Pg g0 53 [V.agg (arF a),V.agg (arF fc),i6 1] (ar a'),Tt,wr .i64 (z3+1)=z2,Bn [Zz,Sm (r:Int),Zz,Zz,Zz,z1=z1,An [Sm l.length,Sm (nt l)],z0=z0,z2=z2],Tt,An [Sm (arF Qah),TT 18],An [E=E,HfE E,n=n],An [tb=tb,HfL tb],An [Sm (arF a'),TT 18],An [n=n,Sm jz,n=n]])
 ·have : k = l.length := by omega
  subst this
  rw[List.take_length]at hu
  obtain rfl:u=s:=hu.trans hsum.symm
  obtain rfl:a=g:=ha.trans hg.symm
  have htf:=ht.hf
  refine .inr ⟨.exit 6,[0,1,2,3,4,5],flX r E n tb jz u a,[no 86],1000,.inl ⟨trivial,rfl,rfl⟩,?_⟩
  exact u_ (p:=Bn [decide ((l.length:Int)<(l.length:Int))=false,Bn [Zz,Sm (r:Int),Zz,Zz,Zz,Sm (u:Int)],Tt,An [Sm (arF Qah),TT 18],An [E=E,HfE E,n=n],An [tb=tb,HfL tb],An [Sm (arF a),TT 18],An [n=n,Sm jz,n=n]])
set_option maxHeartbeats 1000000
set_option maxRecDepth 100000
section
variable (r:Nat) (key:Nat->Nat) (cl:Nat->List Nat)
abbrev Qhn:Nat->V×V×Nat:=fun a=>(i6 (key a:Nat),.im r (nt (cl a)),a)
theorem Qia(jz:List Nat): ∀l:List Nat,Df jz (l.map (Qhn r key cl))=(l.filter fun a=> !jz.contains a).map (Qhn r key cl)
 |[]=>rfl
 |a::l=>by
  rw[List.map_cons,Df,Qia jz l,List.filter_cons]
  cases jz.contains a<;>rfl
theorem Qfz(n:Nat): ∀l:List Nat,(∀a∈l,a<n)->Cz n (l.map (Qhn r key cl))=true
 |[],_=>rfl
 |a::l,h=>by
  rw[List.map_cons,Cz,Qfz n l (fun x hx=>h x (List.mem_cons_of_mem _ hx)),Bool.and_true]
  exact Nat.ble_eq_true_of_le (h a List.mem_cons_self)
theorem Qh3{a:Nat}: ∀{l:List Nat},a∈l->Eg a (l.map (Qhn r key cl))=some (i6 (key a:Nat),.im r (nt (cl a)))
 | b :: l, h => by
  rw[List.map_cons,Eg]
  cases hb:Nat.beq b a with
  |true=>
   have:=Nat.eq_of_beq_eq_true hb
   subst this;rfl
  |false=>
   rw[cond_false]
   refine Qh3 ((List.mem_cons.1 h).resolve_left ?_)
   rintro rfl
   simp at hb
theorem Qir: ∀l:List Nat,HfE (l.map (Qhn r key cl))
 |[]=>trivial
 |a::l=>⟨trivial,trivial,Qir l⟩
end
theorem Qnw(r:Nat): ∀(es:List (Nat×List Nat))(t a:Nat),(Fq r t es)[a]? =es[a]?.map fun e=>(i6 (e.1:Nat),V.im r (nt e.2),t+a)
 |[],_,_=>by simp[Fq]
 |e::es,t,0=>by simp[Fq]
 |e::es,t,a+1=>by
  rw[Fq,List.getElem?_cons_succ,Qnw r es (t+1) a,List.getElem?_cons_succ,show t+1+a=t+(a+1)by omega]
theorem Qq7(r:Nat)(es:List (Nat×List Nat)):Fq r 0 es=(List.range es.length).map (Qhn r (fun a=>(es.getD a (0,[])).1) (fun a=>(es.getD a (0,[])).2)):=by
 apply List.ext_getElem?
 intro a
 rw[Qnw,List.getElem?_map,Nat.zero_add]
 by_cases h:a<es.length
 ·rw [List.getElem?_range h, List.getElem?_eq_getElem h]
  simp only[Option.map_some,Qhn,List.getD_eq_getElem?_getD,List.getElem?_eq_getElem h,Option.getD_some]
 ·rw[List.getElem?_eq_none o_,List.getElem?_eq_none (by simp;omega)];rfl
theorem Qog{ks:List Nat}{n:Nat}(hn:ks.Nodup)(hk: ∀k∈ks,k<n):ks.length<=n:=by
 have hp:((List.range n).filter (fun j=>decide (j∈ks))).Perm ks:=by
  refine(List.perm_ext_iff_of_nodup (List.Nodup.sublist List.filter_sublist List.nodup_range) hn).2 fun a=>?_
  simp only[List.mem_filter,List.mem_range,decide_eq_true_eq]
  exact⟨fun h=>h.2,fun h=>⟨hk a h,h⟩⟩
 rw[<-hp.length_eq]
 calc _<=(List.range n).length:=List.length_filter_le _ _
  _=n:=List.length_range
structure Qm9(r n:Nat)(cl:Nat->List Nat):Prop where
 r1:1<=r
 r4:r<=4
 n40:n<=40
 len: ∀a,a<n->(cl a).length=r
 sum: ∀a,a<n->As (cl a)<=40
theorem con_bd{F:Nat->Nat->Int}{tb:List V}(ht:Qo5 F tb){r n:Nat}{cl:Nat->List Nat}(h:Qm9 r n cl){a i:Nat}(ha:a<n)(hi:i<18): -250<=Cq F r (cl a) i/\Cq F r (cl a) i<=250:=by
 have h1:=Qhg ht hi (cl a) (fun c hc=>by have:=Qb9 hc;have:=h.sum a ha;omega)
 have h2:=h.len a ha
 have h3:=h.sum a ha
 have h4:=h.r4
 have h5:=ht.bd (r-1) i o_ hi
 have h6:=ht.bd (As (cl a)+(r-1)) i o_ hi
 unfold Cq;omega
theorem Qtf{F:Nat->Nat->Int}{tb:List V}(ht:Qo5 F tb){r n:Nat}{cl:Nat->List Nat}(h:Qm9 r n cl){i:Nat}(hi:i<18): ∀l:List Nat,(∀a∈l,a<n)-> -250*(l.length:Int)<=Bh (l.map fun a=>Cq F r (cl a) i)/\Bh (l.map fun a=>Cq F r (cl a) i)<=250*(l.length:Int)
 |[],_=>by simp[Bh]
 |a::l,hl=>by
  have h1:=Qtf ht h hi l (fun x hx=>hl x (List.mem_cons_of_mem _ hx))
  have h2:=con_bd ht h (hl a List.mem_cons_self) hi
  simp only[List.map_cons,Bh,List.length_cons]
  omega
abbrev fzS(f:Nat->Int):SL:={sl:=[(6,.ptr 1 0),(15,.ptr 4 0)],os:=[.dead,.row 37 none (arF Qah),.dead,.dead,.row 37 none (arF f),.dead]}
theorem fam_map(r n:Nat)(key:Nat->Nat)(cl:Nat->List Nat)(tb:List V)(F:Nat->Nat->Int)(ht:Qo5 F tb)(h:Qm9 r n cl)(E:List (V×V×Nat))(hE:E=(List.range n).map (Qhn r key cl)):
  Sat Pg none 0 (at' 71 [1,1,1,1,1,1,0,1,0]) (Ah g0 113 (fmS r E n tb [] Qah)) (Qaf g0 113 [(True,.exit 4,fzS (fun i=>Bh ((List.range n).map fun a=>Cq F r (cl a) i)))]):=by
 refine(Qse (b:=at' 71 [1,1,1,1,1,1,0,1,0,0]) k_ (fun q:List Nat×(Nat->Int)=>q.1.Nodup/\(∀a∈q.1,a<n)/\∀i,i<18->q.2 i=Bh (q.1.map fun a=>Cq F r (cl a) i)) (fun q=>fmS r E n tb q.1 q.2) (fun q=>n-q.1.length) (fun e S'=>e= .exit 4/\∃f,S'=fzS f/\∀i,i<18->f i=Bh ((List.range n).map fun a=>Cq F r (cl a) i)) (fun q G hq hN hX _=>?_) ([],Qah) ⟨List.nodup_nil,fun _ h=>(by cases h),fun _ _=>rfl⟩).mono ?_
 ·obtain ⟨jz, f⟩ := q
  obtain⟨hn,hs,hf⟩:=hq
  dsimp only at hn hs hf hN
  have hle:=Qog hn hs
  have hHf:HfE E:=by rw[hE];exact Qir r key cl _
  have xw:Df jz E=((List.range n).filter fun a=> !jz.contains a).map (Qhn r key cl):=by rw[hE];exact Qia r key cl jz _
  have hold:Cz n E=true:=by rw[hE];exact Qfz r key cl n _ (fun a ha=>List.mem_range.1 ha)
  have hids: ∀a∈(List.range n).filter (fun a=> !jz.contains a),a<n/\a∉jz:=by
   intro a ha
   obtain⟨h1,h2⟩:=List.mem_filter.1 ha
   refine⟨List.mem_range.1 h1,fun hm=>?_⟩
   simp[hm]at h2
  have hnil:(List.range n).filter (fun a=> !jz.contains a)=[]->∀i,i<18->f i=Bh ((List.range n).map fun a=>Cq F r (cl a) i):=by
   intro he i hi
   have hp:jz.Perm (List.range n):=by
    refine(List.perm_ext_iff_of_nodup hn List.nodup_range).2 fun a=>⟨fun ha=>List.mem_range.2 (hs a ha),fun ha=>?_⟩
    by_cases hm:a∈jz
    ·exact hm
    ·have : a ∈ (List.range n).filter (fun a => !jz.contains a) := List.mem_filter.2 ⟨ha, by simpa using hm⟩
     rw[he]at this;cases this
   rw[hf i hi]
   exact Qlu (hp.map _)
  have hfind: ∀a,a<n->Eg a E=some (i6 (key a:Nat),.im r (nt (cl a))):=fun a ha=>by rw[hE];exact Qh3 r key cl (List.mem_range.2 ha)
  have htf:=ht.hf
  have hr4:=h.r4
  have hr1:=h.r1
  have hn40:=h.n40
  have hfb: ∀i,i<18-> -10000<=f i/\f i<=10000:=fun i hi=>by
   have:=Qtf ht h hi jz hs
   rw[hf i hi];omega
  have hp1:=@Qer 3 (r-1) o_
  have ht1:=ht.take (r-1) o_
  have hstep: ∀a,a<n->a∉jz->G .normal (fmS r E n tb (jz++[a]) (Aq (Aq (Bo F f (cl a) (cl a).length) (F (r-1)) 1) (F (As (cl a)+(r-1))) (-1))):=fun a ha hm=>by
   refine hN (jz++[a],_) ⟨?_,?_,fun i hi=>?_⟩ ?_
   ·rw [List.nodup_append]
    refine⟨hn,by simp,fun x hx y hy=>?_⟩
    obtain rfl:=List.mem_singleton.1 hy
    rintro rfl;exact hm hx
   ·intro x hx
    rcases List.mem_append.1 hx with hx|hx
    ·exact hs x hx
    ·obtain rfl:=List.mem_singleton.1 hx;exact ha
   ·dsimp only
    rw[List.map_append,Qc6,<-hf i hi]
    simp only[Aq,Qeg _ _ _ _ _ (Nat.le_refl _),List.take_length,List.map_cons,List.map_nil,Bh,Cq]
    omega
   ·have : (jz ++ [a]).length <= n := Qog (by
     rw[List.nodup_append]
     refine⟨hn,by simp,fun x hx y hy=>?_⟩
     obtain rfl:=List.mem_singleton.1 hy
     rintro rfl;exact hm hx) (fun x hx=>by
     rcases List.mem_append.1 hx with hx|hx
     ·exact hs x hx
     ·obtain rfl:=List.mem_singleton.1 hx;exact ha)
    simp only[List.length_append,List.length_cons,List.length_nil]at this⊢
    omega
  have hX':(List.range n).filter (fun a=> !jz.contains a)=[]->G (.exit 4) (fzS f):=fun he=>hX 4 _ ⟨rfl,f,rfl,hnil he⟩
  generalize (List.range n).filter (fun a=> !jz.contains a)=ids at*
  refine⟨[(0,.nx ids (Qhn r key cl) (fun a=>[(81,.en a (i6 (key a:Nat)) (.im r (nt (cl a)))),(0,.loop [0,1,2,3,4,5] (flS r E n tb (jz++[a]) (cl a) (0,0,f)) [(True,.exit 6,flX r E n tb (jz++[a]) (As (cl a)) (Bo F f (cl a) (cl a).length))]),nu 100 (r-1:Nat),va 101 (.ptr 3 ((r-1)*18)),ld 102 (ar (F (r-1))),fn 103 (ar (Aq (Bo F f (cl a) (cl a).length) (F (r-1)) 1)),nu 107 (As (cl a)+r:Nat),nu 108 (As (cl a)+(r-1):Nat),va 109 (.ptr 3 ((As (cl a)+(r-1))*18)),ld 110 (ar (F (As (cl a)+(r-1)))),fn 111 (ar (Aq (Aq (Bo F f (cl a) (cl a).length) (F (r-1)) 1) (F (As (cl a)+(r-1))) (-1))),(0,.to [0,1,2,3,4,5] (fmS r E n tb (jz++[a]) (Aq (Aq (Bo F f (cl a) (cl a).length) (F (r-1)) 1) (F (As (cl a)+(r-1))) (-1))))]) [(0,.to [0,1,2,3,4,5] (fzS f))])],1000,?_⟩
  refine m_ (p:=let z5:=Bn [TT 18,TT 18,Tt];let z6:=An [Sm (arF f),TT 18];let z0:=F (r-1);let z1:=(1:Int);let z2:=(-1:Int);let z3:=(r:Int);let z4:=arF Qah;An [An [Cz n E=true,n<=n,Df jz E=List.map (Qhn r key cl) ids],(ids=[]->Bn [G (Ex.exit 4) (fzS f),Bn [Zz,Zz],Tt,An [z4=z4,TT 18],Tt,Tt,z6,Tt]),∀(a:Nat),List.Mem a ids->Bn [An [List.getLast? (jz++[a])=some a,n=n,Eg a E=some (i6 ↑(key a),V.im r (nt (cl a)))],Bn [Bn [Zz,z3=z3,Zz,Zz,Zz,((0:Nat):Int)=(0:Int),An [List.length (cl a)=r,Sm (nt (cl a))],(↑(List.length (cl a)):Int)=z3,((0:Nat):Int)=(0:Int)],Tt,An [z4=z4,TT 18],An [E=E,HfE E,n=n],An [tb=tb,HfL tb],z6,An [n=n,Sm (jz++[a]),n=n]],Sat Pg none 0 (at' 71 [1,1,1,1,1,1,0,1,0,0,1,1,0,1,1,0,1,0]) (Ah g0 113 (flS r E n tb (jz++[a]) (cl a) (0,0,f))) (Qaf g0 113 [(True,Ex.exit 6,flX r E n tb (jz++[a]) (As (cl a)) (Bo F f (cl a) (List.length (cl a))))]),(True->Bn [wr .i64 (z3-z1)=(↑(r-1):Int),Az (Qac Pg) 134 (V.ptr 3 0) (↑(r-1):Int)=some (V.ptr 3 ((r-1)*18)),A6 18 (Aj ((r-1)*18) tb)=some (arF z0),z5,Ac Pg g0 53 [V.agg (arF (Bo F f (cl a) (List.length (cl a)))),V.agg (arF z0),i6 1] (ar (Aq (Bo F f (cl a) (List.length (cl a))) z0 z1)),Tt,wr .i64 ((↑(As (cl a)):Int)+z3)=(↑(As (cl a)+r):Int),wr .i64 ((↑(As (cl a)+r):Int)-z1)=(↑(As (cl a)+(r-1)):Int),Az (Qac Pg) 134 (V.ptr 3 0) (↑(As (cl a)+(r-1)):Int)=some (V.ptr 3 ((As (cl a)+(r-1))*18)),A6 18 (Aj ((As (cl a)+(r-1))*18) tb)=some (arF (F (As (cl a)+(r-1)))),z5,Ac Pg g0 53 [V.agg (arF (Aq (Bo F f (cl a) (List.length (cl a))) z0 z1)),V.agg (arF (F (As (cl a)+(r-1)))),i6 (-1)] (ar (Aq (Aq (Bo F f (cl a) (List.length (cl a))) z0 z1) (F (As (cl a)+(r-1))) z2)),Tt,G Ex.normal (fmS r E n tb (jz++[a]) (Aq (Aq (Bo F f (cl a) (List.length (cl a))) z0 z1) (F (As (cl a)+(r-1))) z2)),Bn [Zz,z3=z3,Zz,Zz,Zz],Tt,An [z4=z4,TT 18],An [E=E,HfE E,n=n],An [tb=tb,HfL tb],An [arF (Aq (Aq (Bo F f (cl a) (List.length (cl a))) z0 z1) (F (As (cl a)+(r-1))) z2)=[i6 (Aq (Aq (Bo F f (cl a) (List.length (cl a))) z0 z1) (F (As (cl a)+(r-1))) z2 0),i6 (Aq (Aq (Bo F f (cl a) (List.length (cl a))) z0 z1) (F (As (cl a)+(r-1))) z2 1),i6 (Aq (Aq (Bo F f (cl a) (List.length (cl a))) z0 z1) (F (As (cl a)+(r-1))) z2 2),i6 (Aq (Aq (Bo F f (cl a) (List.length (cl a))) z0 z1) (F (As (cl a)+(r-1))) z2 3),i6 (Aq (Aq (Bo F f (cl a) (List.length (cl a))) z0 z1) (F (As (cl a)+(r-1))) z2 4),i6 (Aq (Aq (Bo F f (cl a) (List.length (cl a))) z0 z1) (F (As (cl a)+(r-1))) z2 5),i6 (Aq (Aq (Bo F f (cl a) (List.length (cl a))) z0 z1) (F (As (cl a)+(r-1))) z2 6),i6 (Aq (Aq (Bo F f (cl a) (List.length (cl a))) z0 z1) (F (As (cl a)+(r-1))) z2 7),i6 (Aq (Aq (Bo F f (cl a) (List.length (cl a))) z0 z1) (F (As (cl a)+(r-1))) z2 8),i6 (Aq (Aq (Bo F f (cl a) (List.length (cl a))) z0 z1) (F (As (cl a)+(r-1))) z2 9),i6 (Aq (Aq (Bo F f (cl a) (List.length (cl a))) z0 z1) (F (As (cl a)+(r-1))) z2 10),i6 (Aq (Aq (Bo F f (cl a) (List.length (cl a))) z0 z1) (F (As (cl a)+(r-1))) z2 11),i6 (Aq (Aq (Bo F f (cl a) (List.length (cl a))) z0 z1) (F (As (cl a)+(r-1))) z2 12),i6 (Aq (Aq (Bo F f (cl a) (List.length (cl a))) z0 z1) (F (As (cl a)+(r-1))) z2 13),i6 (Aq (Aq (Bo F f (cl a) (List.length (cl a))) z0 z1) (F (As (cl a)+(r-1))) z2 14),i6 (Aq (Aq (Bo F f (cl a) (List.length (cl a))) z0 z1) (F (As (cl a)+(r-1))) z2 15),i6 (Aq (Aq (Bo F f (cl a) (List.length (cl a))) z0 z1) (F (As (cl a)+(r-1))) z2 16),i6 (Aq (Aq (Bo F f (cl a) (List.length (cl a))) z0 z1) (F (As (cl a)+(r-1))) z2 17)],TT 18],An [n=n,Sm (jz++[a]),n=n]])]]) ?_
  refine⟨⟨hold,Nat.le_refl _,xw⟩,fun hid0=>?_,fun a hma=>?_⟩
  ·have hX2 := hX' hid0
   exact au
  ·obtain ⟨ha1, ha2⟩ := hids a hma
   have jy:=h.len a ha1
   have hsum:=h.sum a ha1
   have hlist:=fam_list r n E tb (jz++[a]) F ht hHf (cl a) (fun c hc=>by have:=Qb9 hc;omega) o_ o_ f (fun i hi=>by have:=hfb i hi;omega) _ rfl _ rfl
   have hsb:=fun i(hi:i<18)=>Qhg ht hi (cl a) (fun c hc=>by have:=Qb9 hc;omega)
   have hb1:=fun i(hi:i<18)=>ht.bd (r-1) i o_ hi
   have hb2:=fun i(hi:i<18)=>ht.bd (As (cl a)+(r-1)) i o_ hi
   have hs1: ∀i,i<18-> -20000<=Bo F f (cl a) (cl a).length i/\Bo F f (cl a) (cl a).length i<=20000:=fun i hi=>by
    rw[Qeg _ _ _ _ _ (Nat.le_refl _),List.take_length]
    have:=hsb i hi;have:=hfb i hi
    omega
   have c1:=comb (Bo F f (cl a) (cl a).length) (F (r-1)) 1 (fun i hi=>by have:=hs1 i hi;omega) (fun i hi=>by have:=hb1 i hi;omega)
   have c2:=comb (Aq (Bo F f (cl a) (cl a).length) (F (r-1)) 1) (F (As (cl a)+(r-1))) (-1) (fun i hi=>by have:=hs1 i hi;have:=hb1 i hi;unfold Aq;omega) (fun i hi=>by have:=hb2 i hi;omega)
   have hp2:=@Qer 3 (As (cl a)+(r-1)) o_
   have ht2:=ht.take (As (cl a)+(r-1)) o_
   have hst:=hstep a ha1 ha2
   have hfa:=hfind a ha1
   have hgl:(jz++[a]).getLast?=some a:=by simp
   exact au
 ·rintro e st ⟨S', rfl, rfl, f, rfl, hf⟩
  refine .inl ⟨trivial,rfl,?_⟩
  have:arF f=arF (fun i=>Bh ((List.range n).map fun a=>Cq F r (cl a) i)):=Qbf hf
  show Ah g0 113 {sl:=[(6,.ptr 1 0),(15,.ptr 4 0)],os:=[.dead,.row 37 none (arF Qah),.dead,.dead,.row 37 none (arF f),.dead]}=_
  rw[this]
set_option maxHeartbeats 1000000
set_option maxRecDepth 100000
abbrev soS(q:Nat×Nat×(Nat->Int)):SL:={sl:=[(0,i6 q.2.1),(2,.ptr 0 0),(6,prV),(7,i6 q.1)],os:=[.row 37 none (arF q.2.2)]}
abbrev soX(m:Nat)(f:Nat->Int):SL:={sl:=[(0,i6 m),(2,.ptr 0 0)],os:=[.row 37 none (arF f)]}
theorem Qto(n:Nat)(h1:1<=n)(h2:n<=4611686018427387903)(q:Nat×Nat×(Nat->Int))(hq:TrI n q):
  Sat Pg none 0 (at' 59 [1,0,1,0]) (Ah g0 26 (soS q)) (Qaf g0 26 [(True,.exit 0,soX (ofN n 18) (ofF n 18))]):=by
 refine Qax vE_ok Af Qaa (b:=at' 59 [1,0,1,0,0]) k_ (TrI n) soS (fun q=>18-q.1) (fun q hq=>?_) q hq
 obtain⟨k,m,f⟩:=q
 obtain⟨hk,hm,hf⟩:=hq
 dsimp only at hk hm hf
 by_cases hlt:k<18
 ·have hx := @idx40 k hlt
  obtain⟨E,M,hE,hsp,hm2,hnx,hz⟩:=Qt2 h1 h2 hlt hm hf
  have l:=Gv f k hlt E M (63,m,0) hE ⟨hsp,hm2⟩
  refine .inl ⟨(k+1,M,upA f k E),[0],[yes 8,va 10 (i6 (Al k)),(0,.loop [0] (spS f k (63,m,0)) [(True,.exit 2,spX f k M E)]),nu 23 (k+1:Nat)],1000,hnx,by dsimp only;omega,?_⟩
  exact u_ (p:=let z0:=Bn [Sm (2:Int),Sm (3:Int),Sm (5:Int),Sm (7:Int),Sm (11:Int),Sm (13:Int),Sm (17:Int),Sm (19:Int),Sm (23:Int),Sm (29:Int),Sm (31:Int),Sm (37:Int),Sm (41:Int),Sm (43:Int),Sm (47:Int),Sm (53:Int),Sm (59:Int),Sm (61:Int)];let z1:=(k:Int);Bn [decide (z1<18)=true,C3 (Qac Pg) 36 prV z1=some (i6 ↑(Al k)),Bn [Bn [Sm (m:Int),Zz,Sm z1,Sm (↑(Al k):Int),z0,Sm z1],An [arF (upA f k ((0:Nat):Int))=arF f,TT 18]],Sat Pg none 0 (at' 59 [1,0,1,0,0,1,1,0,0,1,0]) (Ah g0 26 (spS f k (63,m,0))) (Qaf g0 26 [(True,Ex.exit 2,spX f k M E)]),(True->Bn [wr .i64 (z1+1)=(↑(k+1):Int),Bn [Sm (M:Int),Zz,z0,Sm (↑(k+1):Int)],An [Sm (arF (upA f k (E:Int))),TT 18]])])
 ·have : k = 18 := by omega
  subst this
  rw[<-hm,<-hf]
  refine .inr ⟨.exit 0,[0],soX m f,[],1000,.inl ⟨trivial,rfl,rfl⟩,?_⟩
  exact u_ (p:=Bn [Bn [Sm (m:Int),Zz],An [Sm (arF f),TT 18]])
theorem Qox(n:Nat)(h1:1<=n)(h2:n<=4611686018427387903):Ac Pg g0 59 [i6 n] (.tup [ar (ofF n 18),i6 (ofN n 18)]):=by
 have l:=Qto n h1 h2 (0,n,Qah) ⟨Nat.zero_le _,rfl,rfl⟩
 generalize ofN n 18=m at*
 generalize ofF n 18=f at*
 refine Ac.of_vc vE_ok Af Qaa (n:=1000) (r:=[0]) (S:={sl:=[(2,.ptr 0 0),(3,i6 m)],os:=[.row 37 none (arF f)]}) (hs:=[(0,.loop [0] (soS (0,n,Qah)) [(True,.exit 0,soX m f)])]) ?_
 exact u_ (p:=Bn [V.tup [V.agg (arF f),i6 m]=V.tup [ar f,i6 m],Bn [Bn [Sm (n:Int),Zz,Bn [Sm (2:Int),Sm (3:Int),Sm (5:Int),Sm (7:Int),Sm (11:Int),Sm (13:Int),Sm (17:Int),Sm (19:Int),Sm (23:Int),Sm (29:Int),Sm (31:Int),Sm (37:Int),Sm (41:Int),Sm (43:Int),Sm (47:Int),Sm (53:Int),Sm (59:Int),Sm (61:Int)],((0:Nat):Int)=(0:Int)],An [arF Qah=[i6 0,i6 0,i6 0,i6 0,i6 0,i6 0,i6 0,i6 0,i6 0,i6 0,i6 0,i6 0,i6 0,i6 0,i6 0,i6 0,i6 0,i6 0],TT 18]],Sat Pg none 0 (at' 59 [1,0,1,0]) (Ah g0 26 (soS (0,n,Qah))) (Qaf g0 26 [(True,Ex.exit 0,soX m f)]),(True->Bn [Bn [Zz,Sm (m:Int)],An [Sm (arF f),TT 18]])])
abbrev twoS(f:Nat->Int)(e:Int):SL:={sl:=[(2,.ptr 0 0),(3,i6 e)],os:=[.row 37 none (arF f)]}
theorem of_one(n:Nat)(h1:1<=n)(h2:n<=4611686018427387903)(h:ofN n 18=1):Ac Pg g0 46 [i6 n] (.tup [ar (ofF n 18),i6 0]):=by
 have l:=Qox n h1 h2
 generalize ofN n 18=m at*
 generalize ofF n 18=f at*
 refine Ac.of_vc vE_ok Af Qaa (n:=1000) (r:=[0]) (S:=twoS f 0) (hs:=[no 7,no 10,fn 15 (.tup [ar f,i6 m]),no 19]) ?_
 exact u_ (p:=Bn [V.tup [V.agg (arF f),i6 0]=V.tup [ar f,i6 0],decide ((n:Int)<1)=false,decide ((n:Int)>4611686018427387903)=false,Bn [Tt],Ac Pg g0 59 [i6 n] (V.tup [ar f,i6 m]),Tt,((m:Int) != 1)=false,Bn [Zz,Sm (0:Int)],An [Sm (arF f),TT 18]])
def okA(f:Nat->Int)(l:List Nat):Bool:=l.all fun i=>decide (-2000<=f i)&&decide (f i<=2000)
def inA(f:Nat->Int):Bool:=okA f (List.range 18)
theorem okA_drop(f:Nat->Int){k:Nat}(h:k<18):okA f ((List.range 18).drop k)=((decide (-2000<=f k)&&decide (f k<=2000))&&okA f ((List.range 18).drop (k+1))):=by
 rw[List.drop_eq_getElem_cons (by simpa using h)];simp[okA]
theorem Qh9{f:Nat->Int}(h:inA f=true){k:Nat}(hk:k<18): -2000<=f k/\f k<=2000:=by
 unfold inA okA at h
 have:=List.all_eq_true.1 h k (List.mem_range.2 hk)
 simpa using this
abbrev irS(f:Nat->Int)(k:Nat):SL:={sl:=[(5,ar f),(6,i6 k)]}
theorem Qk1(f:Nat->Int)(b:Bool)(k:Nat)(hk:k<=18/\okA f ((List.range 18).drop k)=b):
  Sat Pg none 0 (at' 52 [1,0,1,0]) (Ah g0 16 (irS f k)) (Qaf g0 16 [(b=true,.exit 0,arE),(b=false,.ret,bE 2 false)]):=by
 refine Qax vE_ok Af Qaa (b:=at' 52 [1,0,1,0,0]) k_ (fun k=>k<=18/\okA f ((List.range 18).drop k)=b) (irS f) (fun k=>18-k) (fun k hk=>?_) k hk
 obtain⟨hk,hb⟩:=hk
 by_cases hlt:k<18
 ·rw [okA_drop f hlt] at hb
  have hx:=@idx41 f k hlt
  by_cases h1:f k< -2000
  ·rw [decide_eq_false (show ¬ -2000 <= f k by omega)] at hb
   refine .inr ⟨.ret,[],bE 2 false,[yes 7,va 8 (i6 (f k)),yes 10],1000,.inr (.inl ⟨hb.symm,rfl,rfl⟩),?_⟩
   exact u_ (p:=Bn [decide ((k:Int)<18)=true,C3 (Qac Pg) 37 (ar f) (k:Int)=some (i6 (f k)),decide (f k<(-2000:Int))=true,Bn [Sm false]])
  ·by_cases h2 : 2000 < f k
   ·rw [decide_eq_false (show ¬ f k <= 2000 by omega), Bool.and_false] at hb
    refine .inr ⟨.ret,[],bE 2 false,[yes 7,va 8 (i6 (f k)),no 10,yes 13],1000,.inr (.inl ⟨hb.symm,rfl,rfl⟩),?_⟩
    exact u_ (p:=Bn [decide ((k:Int)<18)=true,C3 (Qac Pg) 37 (ar f) (k:Int)=some (i6 (f k)),decide (f k<(-2000:Int))=false,decide (f k>2000)=true,Bn [Sm false]])
   ·rw [decide_eq_true (show -2000 <= f k by omega), decide_eq_true (show f k <= 2000 by omega)] at hb
    refine .inl ⟨k+1,[],[yes 7,va 8 (i6 (f k)),no 10,no 13,nu 15 (k+1:Nat)],1000,⟨hlt,hb⟩,by omega,?_⟩
    exact u_ (p:=let z0:=(↑(k+1):Int);let z1:=(k:Int);Bn [decide (z1<18)=true,C3 (Qac Pg) 37 (ar f) z1=some (i6 (f k)),decide (f k<(-2000:Int))=false,decide (f k>2000)=false,wr .i64 (z1+1)=z0,Bn [Bn [f 0=f 0,f 1=f 1,f 2=f 2,f 3=f 3,f 4=f 4,f 5=f 5,f 6=f 6,f 7=f 7,f 8=f 8,f 9=f 9,Sm (f 10),Sm (f 11),Sm (f 12),Sm (f 13),Sm (f 14),Sm (f 15),Sm (f 16),Sm (f 17)],z0=z0]])
 ·have : k = 18 := by omega
  subst this
  refine .inr ⟨.exit 0,[],arE,[],1000,.inl ⟨hb.symm,rfl,rfl⟩,?_⟩
  exact u_ (p:=Bn [Tt])
theorem Qcu(f:Nat->Int):Ac Pg g0 52 [ar f] (.bool (inA f)):=by
 have l:=Qk1 f (inA f) 0 ⟨Nat.zero_le _,rfl⟩
 refine Ac.of_vc vE_ok Af Qaa (n:=1000) (r:=[]) (S:=bE 2 (inA f)) (hs:=[(0,.loop [] (irS f 0) [(inA f=true,.exit 0,arE),(inA f=false,.ret,bE 2 false)])]) ?_
 exact u_ (p:=Bn [Sm (V.bool (inA f)),Bn [Bn [Bn [f 0=f 0,f 1=f 1,f 2=f 2,f 3=f 3,f 4=f 4,f 5=f 5,f 6=f 6,f 7=f 7,f 8=f 8,f 9=f 9,Sm (f 10),Sm (f 11),Sm (f 12),Sm (f 13),Sm (f 14),Sm (f 15),Sm (f 16),Sm (f 17)],((0:Nat):Int)=(0:Int)]],Sat Pg none 0 (at' 52 [1,0,1,0]) (Ah g0 16 (irS f 0)) (Qaf g0 16 [(inA f=true,Ex.exit 0,arE),(inA f=false,Ex.ret,bE 2 false)]),(inA f=true->Bn [Bn [inA f=true]]),(inA f=false->Bn [Bn [inA f=false]])])
end Go.Proofs.YtakfneapahohkaaDoor.Am
