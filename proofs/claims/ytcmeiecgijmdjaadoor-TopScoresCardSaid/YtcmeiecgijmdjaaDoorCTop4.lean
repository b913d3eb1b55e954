/- Texts behind the claim, part 4: the abstract machine, and what the functions answer. No condition. -/
import Derived.Test.YtcmeiecgijmdjaaDoorCTop3
set_option linter.unusedVariables false
set_option maxHeartbeats 4000000
set_option maxRecDepth 100000
set_option linter.unusedSimpArgs false
set_option linter.unusedSectionVars false
namespace Go.Proofs.YtcmeiecgijmdjaaDoor.Am
open Go.RowKit
theorem plain:Qfl Tryd.prog=true:=by kernel_rfl
theorem mixed:Tryd.prog.follows .mixedOrders=true:=by kernel_rfl
def Qsi:List V→Option V
 |[.int .u64 x,.int .u64 y,.int .u64 c]=>if 0≤x∧0≤y∧0≤c∧c≤1 then some (.tup [.int .u64 ((x+y+c)%18446744073709551616),.int .u64 ((x+y+c)/18446744073709551616)])else none
 | _=>none
def extF(f:Nat)(l:List V):Option V:=bif Nat.beq f 46 then Qsi l else none
theorem Qth:Qnj Tryd.prog extF:=by
 intro f l v h s w vals hl
 unfold extF at h
 obtain⟨hf,k⟩:=Qaj h
 clear h
 have:=Nat.eq_of_beq_eq_true hf
 subst this
 unfold Qsi at k
 split at k
 ·rename_i x y c
  split at k
  ·rename_i hc
   cases k
   obtain⟨v1,r1,e1,h1,v2,r2,rfl,h2,v3,r3,rfl,h3,h4⟩:=hl
   cases h1;cases h2;cases h3;cases h4
   have hv:vals= #[.int .u64 x,.int .u64 y,.int .u64 c]:=by rw[←Array.toArray_toList (xs:=vals),e1]
   subst hv
   refine⟨.tuple #[.int .u64 ((x+y+c)%18446744073709551616),.int .u64 ((x+y+c)/18446744073709551616)],?_,⟨_,rfl,_,_,rfl,rfl,_,_,rfl,rfl,rfl⟩⟩
   rw[run_callFunc_extern (e:=add64Entry) Tryd.func46 (by kernel_rfl) (by kernel_rfl) (by kernel_rfl) (by kernel_rfl),run_add64 x y c hc.1 hc.2.1 hc.2.2.1 hc.2.2.2]
   rfl
  ·cases k
 ·cases k
noncomputable def vE:Env:=envOf Tryd.prog Qqi extF
theorem vE_ok:vE.Ok Tryd.prog:=Qta plain Qg9 Qth
noncomputable abbrev Pg:Program:=Tryd.prog
def primesL:List Int:=[2,3,5,7,11,13,17,19,23,29,31,37,41,43,47,53,59,61]
def gs0:Gs:=[(0,primesL.map (V.int .i64))]
abbrev g0:T (List V):=glOf gs0
def sub:List Nat→Code→Code
 |[],c=>c
 |0::p,.seq a _=>sub p a
 | _::p,.seq _ b=>sub p b
 |0::p,.cond _ a _=>sub p a
 | _::p,.cond _ _ b=>sub p b
 | _::p,.block _ b=>sub p b
 | _::p,.loop b=>sub p b
 | _::p,.scope b=>sub p b
 | _:: _,c=>c
noncomputable def bodyOf(f:Nat):Code:=match codeOf Tryd.prog f with|some fi=>fi.body|none=>.skip
noncomputable def at'(f:Nat)(p:List Nat):Code:=sub p (bodyOf f)
abbrev i6(n:Int):V:=.int .i64 n
def ints(l:List Int):List V:=l.map (V.int .i64)
abbrev sl(l:List Int):V:=.im l.length (ints l)
theorem Qas(l:List Int):(ints l).length=l.length:=by simp[ints]
theorem Qmd(l:List Int)(k:Nat):(ints l).drop k=ints (l.drop k):=by simp[ints]
theorem Qt3{l:List Int}{k:Nat}(h:k<l.length):headF ((ints l).drop k)=some (i6 l[k]):=by
 rw[Qmd,List.drop_eq_getElem_cons h];rfl
theorem Qab(l:List Int):HfL (ints l):=by
 induction l with
 |nil=>trivial
 |cons x l ih=>exact⟨trivial,ih⟩
abbrev yes(d:Nat):Nat×Hint:=(d,.bool true)
abbrev no(d:Nat):Nat×Hint:=(d,.bool false)
abbrev pl(d:Nat):Nat×Hint:=(d,.at_)
abbrev ld(d:Nat)(v:V):Nat×Hint:=(d,.ld v)
abbrev nu(d:Nat)(n:Int):Nat×Hint:=(d,.num n)
abbrev va(d:Nat)(v:V):Nat×Hint:=(d,.val v)
abbrev ap(d:Nat):Nat×Hint:=(d,.app)
abbrev mk(d:Nat):Nat×Hint:=(d,.mk)
abbrev st(c:List V):Nat×Hint:=(999999,.st c)
abbrev fn(d:Nat)(v:V):Nat×Hint:=(d,.fn v)
noncomputable def sp0:Qc0:=fun _ _=>none
theorem Qad{gl:T (List V)}:Qbg Tryd.prog gl sp0:=fun _ _ _ _ h=>by cases h
theorem wr6{n:Int}(h1: -9223372036854775808≤n)(h2:n≤9223372036854775807):wr .i64 n=n:=Qif h1 h2
theorem wr6'{n m:Int}(h1: -9223372036854775808≤n)(h2:n≤9223372036854775807)(h:n=m):wr .i64 n=m:=by rw[wr6 h1 h2,h]
theorem Qdt{l:List Int}{k:Nat}(h:k<l.length):headF ((ints l).drop (k*1))=some (i6 l[k]):=by rw[Nat.mul_one];exact Qt3 h
theorem Qak{l:List Int}{k:Nat}(h:k<l.length):headF ((ints l).drop (k*1))=some (i6 (l.getD k 0)):=by
 rw[Qdt h,List.getD_eq_getElem?_getD,List.getElem?_eq_getElem h];rfl
theorem rem6{G:Ctx}{t:Nat}{x y:Int}(h:y≠0):binV G .rem t (i6 x) (i6 y)=some (i6 (x.tmod y)):=by simp[binV,intV,h]
theorem quo6{G:Ctx}{t:Nat}{x y:Int}(h:y≠0)(h1: -9223372036854775808≤x.tdiv y)(h2:x.tdiv y≤9223372036854775807):binV G .quo t (i6 x) (i6 y)=some (i6 (x.tdiv y)):=by simp[binV,intV,h,wr6 h1 h2]
theorem rep_ints(n:Nat)(x:Int):rep n [i6 x]=ints (List.replicate n x):=by
 induction n with
 |zero=>rfl
 |succ n ih=>rw[rep,ih,List.replicate_succ];rfl
theorem Qp9{l:List Int}{j:Nat}{x:Int}(h:j<l.length):layE (0+j*1) (ints l) [i6 x]=some (ints (l.set j x)):=by
 rw[Nat.zero_add,Nat.mul_one,Qdu,Qas]
 have:Nat.ble (j+[i6 x].length) l.length=true:=Nat.ble_eq_true_of_le (by simp;omega)
 rw[this,cond_true]
 congr 1
 rw[List.set_eq_take_append_cons_drop,if_pos h]
 simp[ints,List.map_take,List.map_drop]
theorem Qk9{x y:Int}(h:x=y):(x != y)=false:=by simp[h]
theorem Qpk{x y:Int}(h:x≠y):(x != y)=true:=by simp[h]
theorem Qfa{x y:Int}(h:x≠y):(x==y)=false:=by simp[h]
theorem Qk7{x y:Int}(h:x=y):(x==y)=true:=by simp[h]
theorem au{P:Prop}(h:P:=by
 (repeat'(first|(with_reducible apply And.intro)|(refine fun(_:True)=>?_)))<;>first|with_reducible(first|rfl|exact trivial|assumption|(refine decide_eq_true ?_<;>omega)|(refine decide_eq_false ?_<;>omega)|(refine Qdt ?_<;>omega)|(refine Qk9 ?_<;>omega)|(refine Qpk ?_<;>omega)|(refine Qfa ?_<;>omega)|(refine Qk7 ?_<;>omega)|(refine wr6' ?_ ?_ ?_<;>omega)|(refine rem6 ?_<;>omega)|(refine quo6 ?_ ?_ ?_<;>omega)|exact Qab _|omega)|((with_reducible show(_:V)=_);rfl)|(intro hk_;exfalso;revert hk_;simp;done)|(intros;simp_all;done)|(split<;>omega)|((with_reducible show decide _=true);exact decide_eq_true (by omega))|((with_reducible show decide _=false);exact decide_eq_false (by omega))|assumption|rfl|exact HfL_sls _|exact HfL_nt _|exact HfL_nls _|exact Qcl _|(simp;done)|omega):P:=h
theorem aq{P:Prop}(h:P:=by
 first|exact TT_ok _|exact EQn_ok _ _ _|with_reducible(first|rfl|exact trivial|assumption|(refine decide_eq_true ?_<;>omega)|(refine decide_eq_false ?_<;>omega)|(refine Qdt ?_<;>omega)|(refine Qk9 ?_<;>omega)|(refine Qpk ?_<;>omega)|(refine Qfa ?_<;>omega)|(refine Qk7 ?_<;>omega)|(refine wr6' ?_ ?_ ?_<;>omega)|(refine rem6 ?_<;>omega)|(refine quo6 ?_ ?_ ?_<;>omega)|exact Qab _|omega)|((with_reducible show(_:V)=_);rfl)|(intro hk_;exfalso;revert hk_;simp;done)|(intros;simp_all;done)|(split<;>omega)|((with_reducible show decide _=true);exact decide_eq_true (by omega))|((with_reducible show decide _=false);exact decide_eq_false (by omega))):P:=h
theorem a_ {P:Prop} (h:P:=by
 (repeat'(first|(with_reducible apply And.intro)|(refine fun(_:True)=>?_)))
 all_goals first|with_reducible rfl|with_reducible assumption|exact aq|solve_by_elim|rfl):P:=h
theorem m_ {p q:Prop} (h:p) (e:p=q:=by kernel_rfl):q:=e.mp h
abbrev arF(f:Nat→Int):List V:=[i6 (f 0),i6 (f 1),i6 (f 2),i6 (f 3),i6 (f 4),i6 (f 5),i6 (f 6),i6 (f 7),i6 (f 8),i6 (f 9),i6 (f 10),i6 (f 11),i6 (f 12),i6 (f 13),i6 (f 14),i6 (f 15),i6 (f 16),i6 (f 17)]
abbrev ar(f:Nat→Int):V:=.agg (arF f)
def upA(f:Nat→Int)(k:Nat)(v:Int):Nat→Int:=fun i=>if i=k then v else f i
def Qap:Nat→Int:=fun _=>0
theorem lt18{k:Nat}(h:k<18):k=0∨k=1∨k=2∨k=3∨k=4∨k=5∨k=6∨k=7∨k=8∨k=9∨k=10∨k=11∨k=12∨k=13∨k=14∨k=15∨k=16∨k=17:=by omega
theorem idx41{f:Nat→Int}{k:Nat}(h:k<18):idxV (Qae Pg) 44 (ar f) (k:Int)=some (i6 (f k)):=by
 rcases lt18 h with rfl|rfl|rfl|rfl|rfl|rfl|rfl|rfl|rfl|rfl|rfl|rfl|rfl|rfl|rfl|rfl|rfl|rfl<;>kernel_rfl
theorem Qkj{g:Nat}{k:Nat}(h:k<18):placeV (Qae Pg) 44 (.ptr g 0) (k:Int)=some (.ptr g k):=by
 rcases lt18 h with rfl|rfl|rfl|rfl|rfl|rfl|rfl|rfl|rfl|rfl|rfl|rfl|rfl|rfl|rfl|rfl|rfl|rfl<;>kernel_rfl
theorem Qj7{f:Nat→Int}{k:Nat}(h:k<18):headF (dropF k (arF f))=some (i6 (f k)):=by
 rcases lt18 h with rfl|rfl|rfl|rfl|rfl|rfl|rfl|rfl|rfl|rfl|rfl|rfl|rfl|rfl|rfl|rfl|rfl|rfl<;>rfl
theorem lay_ar{f:Nat→Int}{k:Nat}{v:Int}(h:k<18):layE k (arF f) [i6 v]=some (arF (upA f k v)):=by
 rcases lt18 h with rfl|rfl|rfl|rfl|rfl|rfl|rfl|rfl|rfl|rfl|rfl|rfl|rfl|rfl|rfl|rfl|rfl|rfl<;>rfl
theorem Qcq{f g:Nat→Int}(h: ∀k,k<18→f k=g k):arF f=arF g:=by
 simp only[arF,h 0 (by omega),h 1 (by omega),h 2 (by omega),h 3 (by omega),h 4 (by omega),h 5 (by omega),h 6 (by omega),h 7 (by omega),h 8 (by omega),h 9 (by omega),h 10 (by omega),h 11 (by omega),h 12 (by omega),h 13 (by omega),h 14 (by omega),h 15 (by omega),h 16 (by omega),h 17 (by omega)]
def primeL:List Nat:=[2,3,5,7,11,13,17,19,23,29,31,37,41,43,47,53,59,61]
def primeN(k:Nat):Nat:=primeL.getD k 2
theorem Qbu(k:Nat):2≤primeN k∧primeN k≤61:=by
 by_cases h:k<18
 ·rcases lt18 h with rfl|rfl|rfl|rfl|rfl|rfl|rfl|rfl|rfl|rfl|rfl|rfl|rfl|rfl|rfl|rfl|rfl|rfl<;>decide
 ·have : primeL.getD k 2 = 2 := by
   rw[List.getD_eq_getElem?_getD,List.getElem?_eq_none (by simp[primeL];omega)];rfl
  unfold primeN;omega
abbrev prV:V:=.agg (primesL.map (V.int .i64))
theorem idx40{k:Nat}(h:k<18):idxV (Qae Pg) 43 prV (k:Int)=some (i6 (primeN k)):=by
 rcases lt18 h with rfl|rfl|rfl|rfl|rfl|rfl|rfl|rfl|rfl|rfl|rfl|rfl|rfl|rfl|rfl|rfl|rfl|rfl<;>kernel_rfl
def Qdf(p:Nat):Nat→Nat→Nat×Nat
 |0,n=>(0,n)
 |t+1,n=>if n%p=0 then((Qdf p t (n/p)).1+1,(Qdf p t (n/p)).2)else(0,n)
theorem Qf6{p:Nat}(hp:2≤p): ∀(t n:Nat),1≤n→1≤(Qdf p t n).2∧(Qdf p t n).2≤n∧(Qdf p t n).1≤t
 |0,n,h=>by simp[Qdf];omega
 | t + 1, n, h => by
  unfold Qdf
  split
  ·rename_i hm
   have h1:n/p<n:=Nat.div_lt_self (by omega) (by omega)
   have h2:1≤n/p:=by
    have:=Nat.div_add_mod n p
    rcases Nat.eq_zero_or_pos (n/p)with h0|h0
    ·rw[h0,hm]at this;simp at this;omega
    ·exact h0
   have:=Qf6 hp t (n/p) h2
   dsimp only
   omega
  ·dsimp only;omega
def ofN(n:Nat):Nat→Nat
 |0=>n
 |k+1=>(Qdf (primeN k) 63 (ofN n k)).2
def ofF(n:Nat):Nat→Nat→Int
 |0=>Qap
 |k+1=>upA (ofF n k) k ((Qdf (primeN k) 63 (ofN n k)).1:Nat)
theorem Qut{n:Nat}(h:1≤n): ∀k,1≤ofN n k∧ofN n k≤n
 |0=>⟨h,Nat.le_refl _⟩
 |k+1=>by
  have h1:=Qut h k
  have h2:=Qf6 (Qbu k).1 63 (ofN n k) h1.1
  unfold ofN;omega
theorem Qus(n:Nat): ∀k i,k≤i→ofF n k i=0
 |0,_,_=>rfl
 |k+1,i,h=>by
  unfold ofF upA
  rw[if_neg (by omega)]
  exact Qus n k i (by omega)
structure SpI(p:Nat)(E M:Nat)(t n e:Nat):Prop where
 pos:1≤n
 fuel:n<2^t
 e1:(Qdf p t n).1+e=E
 e2:(Qdf p t n).2=M
theorem SpI.step{p E M t n e:Nat}(hp:2≤p)(h:SpI p E M t n e)(hm:n%p=0): ∃t',t=t'+1∧SpI p E M t' (n/p) (e+1):=by
 cases t with
 |zero=>have:=h.fuel;have:=h.pos;omega
 | succ t =>
  refine⟨t,rfl,?_⟩
  have h1:=h.e1
  have h2:=h.e2
  unfold Qdf at h1 h2
  rw[if_pos hm]at h1 h2
  have hpos:=h.pos
  have hd:=Nat.div_add_mod n p
  have h3:1≤n/p:=by
   rcases Nat.eq_zero_or_pos (n/p)with h0|h0
   ·rw[h0,hm]at hd;simp at hd;omega
   ·exact h0
  refine⟨h3,?_,by dsimp only at h1;omega,h2⟩
  have hf:=h.fuel
  rw[Nat.pow_succ]at hf
  have h4:2*(n/p)≤p*(n/p):=Nat.mul_le_mul_right _ hp
  omega
theorem SpI.stop{p E M t n e:Nat}(hp:2≤p)(h:SpI p E M t n e)(hm:n%p≠0):n=M∧e=E:=by
 have h1:=h.e1
 have h2:=h.e2
 cases t with
 |zero=>have:=h.fuel;have:=h.pos;omega
 |succ t=>
  unfold Qdf at h1 h2
  rw[if_neg hm]at h1 h2
  dsimp only at h1 h2
  omega
theorem Qqy(n p:Nat):((n:Int)).tmod (p:Int)=((n%p:Nat):Int):=by
 rw[Int.tmod_eq_emod_of_nonneg (by omega)];simp
theorem tdiv_nat(n p:Nat):((n:Int)).tdiv (p:Int)=((n/p:Nat):Int):=by
 rw[Int.tdiv_eq_ediv_of_nonneg (by omega)];simp
theorem upd_upd(f:Nat→Int)(k:Nat)(a b:Int):upA (upA f k a) k b=upA f k b:=by
 funext i;unfold upA;split<;>rfl
theorem upd_at(f:Nat→Int)(k:Nat)(a:Int):upA f k a k=a:=by simp[upA]
abbrev spS(f:Nat→Int)(k:Nat)(q:Nat×Nat×Nat):SL:={sl:=[(0,i6 q.2.1),(2,.ptr 0 0),(4,i6 k),(5,i6 (primeN k)),(6,prV),(7,i6 k)],os:=[.row 44 none (arF (upA f k q.2.2))]}
abbrev spX(f:Nat→Int)(k:Nat)(n e:Nat):SL:={sl:=[(0,i6 n),(2,.ptr 0 0),(6,prV),(7,i6 k)],os:=[.row 44 none (arF (upA f k e))]}
theorem split_in(f:Nat→Int)(k:Nat)(hk:k<18)(E M:Nat)(q:Nat×Nat×Nat)(hE:E≤63)(hq:SpI (primeN k) E M q.1 q.2.1 q.2.2∧q.2.1≤4611686018427387903):
  Sat Pg none 0 (at' 53 [1,0,1,0,0,1,1,0,0,1,0]) (mkSt g0 26 (spS f k q)) (Qaf g0 26 [(True,.exit 2,spX f k M E)]):=by
 refine Qa6 vE_ok mixed Qad (b:=at' 53 [1,0,1,0,0,1,1,0,0,1,0,0]) (by kernel_rfl) (fun q=>SpI (primeN k) E M q.1 q.2.1 q.2.2∧q.2.1≤4611686018427387903) (spS f k) (fun q=>q.1) (fun q hq=>?_) q hq
 obtain⟨t,n,e⟩:=q
 obtain⟨hq,hn⟩:=hq
 dsimp only at hq hn
 have hp:=Qbu k
 have hrem:binV (Qae Pg) .rem 3 (i6 n) (i6 (primeN k))=some (i6 ((n%primeN k:Nat):Int)):=by rw[rem6 (by omega),Qqy]
 by_cases hm:n%primeN k=0
 ·obtain ⟨t', rfl, hq'⟩ := hq.step hp.1 hm
  have hdl:=Nat.div_le_self n (primeN k)
  have htd:=tdiv_nat n (primeN k)
  generalize n/primeN k=m at*
  have hquo:binV (Qae Pg) .quo 3 (i6 n) (i6 (primeN k))=some (i6 ((m:Nat):Int)):=by rw[quo6 (by omega) (by rw[htd];omega) (by rw[htd];omega),htd]
  have hpl:=@Qkj 0 k hk
  have hhd:headF (dropF k (arF (upA f k e)))=some (i6 (e:Int)):=by rw[Qj7 hk,upd_at]
  have hst:layE k (arF (upA f k e)) [i6 ((e+1:Nat):Int)]=some (arF (upA f k ((e+1:Nat):Int))):=by rw[lay_ar hk,upd_upd]
  have he:=hq'.e1
  refine .inl ⟨(t',m,e+1),[0],[va 13 (i6 ((n%primeN k:Nat):Int)),yes 14,va 17 (i6 ((m:Nat):Int)),va 19 (.ptr 0 k),ld 20 (i6 e),nu 21 (e+1:Nat),va 22 (.ptr 0 k),st (arF (upA f k ((e+1:Nat):Int)))],1000,⟨hq',by dsimp only;omega⟩,by dsimp only;omega,?_⟩
  refine Eq.mp (by kernel_rfl:(let z0:=arF (upA f k (↑(e+1):Int));let z1:=(↑k:Int);let z2:=primeN k;let z4:=arF (upA f k (↑e:Int));let z3:=placeV (Qae Pg) 44 (V.ptr 0 0) z1;An [binV (Qae Pg) .rem 3 (i6 ↑n) (i6 ↑(z2))=some (i6 ↑(n%z2)),((↑(n%z2):Int)==(0:Int))=true,binV (Qae Pg) .quo 3 (i6 ↑n) (i6 ↑(z2))=some (i6 ↑m),z3=some (V.ptr 0 k),headF (dropF k z4)=some (i6 ↑e),wr .i64 ((↑e:Int)+(1:Int))=(↑(e+1):Int),z3=some (V.ptr 0 k),layE k z4 [i6 ↑(e+1)]=some z0,An [Sm (↑m:Int),Zz,z1=z1,Sm (↑(z2):Int),An [Sm (2:Int),Sm (3:Int),Sm (5:Int),Sm (7:Int),Sm (11:Int),Sm (13:Int),Sm (17:Int),Sm (19:Int),Sm (23:Int),Sm (29:Int),Sm (31:Int),Sm (37:Int),Sm (41:Int),Sm (43:Int),Sm (47:Int),Sm (53:Int),Sm (59:Int),Sm (61:Int),Tt],z1=z1,Tt],An [z0=z0,TT 18],Tt])=_) ?_
  exact au
 ·obtain ⟨rfl, rfl⟩ := hq.stop hp.1 hm
  refine .inr ⟨.exit 2,[0],spX f k n e,[va 13 (i6 ((n%primeN k:Nat):Int)),no 14],1000,.inl ⟨trivial,rfl,rfl⟩,?_⟩
  refine Eq.mp (by kernel_rfl:(An [binV (Qae Pg) .rem 3 (i6 ↑n) (i6 ↑(primeN k))=some (i6 ↑(n%primeN k)),((↑(n%primeN k):Int)==(0:Int))=false,An [Sm (↑n:Int),Zz,An [Sm (2:Int),Sm (3:Int),Sm (5:Int),Sm (7:Int),Sm (11:Int),Sm (13:Int),Sm (17:Int),Sm (19:Int),Sm (23:Int),Sm (29:Int),Sm (31:Int),Sm (37:Int),Sm (41:Int),Sm (43:Int),Sm (47:Int),Sm (53:Int),Sm (59:Int),Sm (61:Int),Tt],Sm (↑k:Int),Tt],An [Sm (arF (upA f k (↑e:Int))),TT 18],Tt])=_) ?_
  exact au
open Go.RowKit Go.ChangeShapes Go.WideShapes
def allB(w:World)(b:Nat):Prop:=b<w.heap.size
section
variable {H:Type} {enc:TypeId×Value→H} {w:World}
theorem int_trod{P:Program}{base:Nat}{sp:Nat→Bool}{held:Bool}{fuel:Nat}{t:TypeId}{k:IntKind}{c:Value}{y:DataW H×List MemPlace}
  (ht:P.underlying t=some (.int k))(h:DataW.trod enc P w base sp held fuel t [c]=some y): ∃n,c= .int k n∧y=(.lit (.int k n),[])∧(Lit.int k n).wf=true:=by
 cases fuel with
 |zero=>simp[DataW.trod]at h
 |succ fuel=>
  cases c<;>simp[DataW.trod,ht]at h
  rename_i k' n
  obtain⟨⟨rfl,hw⟩,rfl⟩:=h
  exact⟨n,rfl,rfl,hw⟩
def litN:DataW H→Int
 | .lit (.int _ n)=>n
 | _=>0
theorem Qjr{P:Program}{base:Nat}{sp:Nat→Bool}{held:Bool}{fuel:Nat}{t e:TypeId}{m:Nat}{k:IntKind}{cs:List Value}{x:DataW H×List MemPlace}
  (ht:P.underlying t=some (.array m e))(he:P.underlying e=some (.int k))(hce:P.cellsOf e=1)(hct:P.cellsOf t=m)(h:DataW.trod enc P w base sp held fuel t cs=some x):
  ∃ns:List Int,ns.length=m∧cs=ns.map (Value.int k)∧x.1= .agg (ns.map fun n=>.lit (.int k n))∧∀n∈ns,(Lit.int k n).wf=true:=by
 obtain⟨xs,f,rfl,rfl,hl,hxl,hx⟩:=DataW.trod_array ht h
 rw[hct]at hl
 have key: ∀i(hi:i<m),∃n,cs[i]'(by omega)= .int k n∧xs[i]'(by omega)=(.lit (.int k n),[])∧(Lit.int k n).wf=true:=by
  intro i hi
  have h1:=hx i hi
  rw[hce,Nat.mul_one,List.drop_eq_getElem_cons (by omega),List.take_succ_cons,List.take_zero,List.getElem?_eq_getElem (by omega)]at h1
  obtain⟨n,e1,e2,e3⟩:=int_trod he h1
  exact⟨n,e1,e2,e3⟩
 refine⟨xs.map fun y=>litN y.1,by simp[hxl],?_,?_,?_⟩
 ·refine List.ext_getElem (by simp; omega) fun i h1 h2 => ?_
  obtain⟨n,e1,e2,_⟩:=key i (by omega)
  simp[e1,e2,litN]
 ·refine congrArg DataW.agg ?_
  refine List.ext_getElem (by rw[List.length_map,List.length_map,List.length_map]) fun i h1 h2=>?_
  obtain⟨n,e1,e2,_⟩:=key i (by rw[List.length_map]at h1;omega)
  simp[e2,litN]
 ·intro n hn
  obtain⟨y,hy,rfl⟩:=List.mem_map.1 hn
  obtain⟨i,hi,rfl⟩:=List.getElem_of_mem hy
  obtain⟨n,_,e2,e3⟩:=key i (by omega)
  rw[e2];exact e3
theorem Qi2{P:Program}{r:Reach}{base:Nat}{t:TypeId}{v:Value}{n:Nat}{e:TypeId}(ht:P.underlying t=some (.array n e))(h:Value.okWide P w r base t v): ∃cs,v= .agg cs:=by
 simp only[Value.okWide,ht]at h
 obtain⟨cs,h1,_⟩:=h
 exact⟨cs,h1⟩
theorem RL_map{s:Sig}{w:World}{k:IntKind}: ∀ns:List Int,RL s w (ns.map (V.int k)) (ns.map (Value.int k))
 |[]=>rfl
 |n::ns=>⟨_,_,rfl,rfl,RL_map ns⟩
end
theorem prime_glob:Pg.globalNamed "haruspex/score.primes" =some 0:=by kernel_rfl
theorem prime_type:(Pg.globals[0]?).map (·.type)=some 43:=by kernel_rfl
def primesA:Array Value:=(primesL.map (Value.int .i64)).toArray
theorem Qn9{W:World}(h:laidMet Pg [("haruspex/score.primes",Rows.laid_haruspex_score_primes)] W):W.var? Pg "haruspex/score.primes" =some primesA:=by
 obtain⟨ps,⟨g,t,cs,fuel,p,q,hg,ht,hvar,hd,_,_⟩,_⟩:=h
 obtain rfl:=Option.some.inj (prime_glob.symm.trans hg)
 obtain rfl:=Option.some.inj (prime_type.symm.trans ht)
 rw[hvar]
 congr 1
 obtain⟨ns,h1,h2,h3,_⟩:=Qjr Tryd.underlying43 Tryd.underlying3 (by kernel_rfl) (by kernel_rfl) hd
 have h4:(ns.map fun n=>(DataW.lit (.int .i64 n):DataW Unit)).map litN=primesL:=by
  have e:(DataW.agg (ns.map fun n=>(DataW.lit (.int .i64 n):DataW Unit)))=Rows.laid_haruspex_score_primes:=h3.symm
  injection e with e
  rw[e];rfl
 have h5:ns=primesL:=by
  rw[←h4,List.map_map]
  exact(List.map_id' ns).symm
 rw[←Array.toArray_toList (xs:=cs),h2,h5];rfl
theorem prime_gl{W:World}(h:W.var? Pg "haruspex/score.primes" =some primesA):GL (sg (allB W)) W g0:=by
 intro g l hg
 have hg':((T.e:T (List V)).put 0 (primesL.map (V.int .i64))).get g=some l:=hg
 rw[T.get_put]at hg'
 split at hg'
 ·rename_i e
  cases hg'
  subst e
  have hsz:0<W.heap.size:=by
   have hv:=h
   simp only[World.var?,prime_glob,Option.bind_some]at hv
   split at hv
   ·rename_i c t f hb;exact(Array.getElem?_eq_some_iff.1 hb).1
   ·cases hv
  have key: ∀(l:List Int)(off:Nat),(∀(j:Nat)(h:j<l.length),W.cell? ⟨0,off+j,none⟩=some (.int .i64 l[j]))→RC (sg (allB W)) W (l.map (V.int .i64)) 0 off:=by
   intro l
   induction l with
   |nil=>intro _ _;trivial
   | cons y l ih =>
    intro off hh
    exact⟨⟨hsz,_,hh 0 (by simp),rfl⟩,ih (off+1) fun j hj=>by
     have:=hh (j+1) (by simpa using hj)
     rw[show off+1+j=off+(j+1)by omega]
     exact this⟩
  refine key primesL 0 fun j hj=>?_
  rw[World.var?_cell prime_glob h,Nat.zero_add]
  simp[primesA,List.getElem?_eq_getElem hj]
 ·simp at hg'
theorem Que{f:Nat}{ars:List V}{b:Bool}(h:FnOk Pg g0 f ars (.bool b))(hf:(codeOf Pg f).isSome=true){w:World}{vals:Array Value}(ha:RL (sg (allB w)) w ars vals.toList)(hg:GL (sg (allB w)) w g0):Calls Pg f vals w fun e w'=>e= .returned (.bool b)∧Below w.heap.size w w':=by
 obtain⟨fi,hfi⟩:=Option.isSome_iff_exists.1 hf
 obtain⟨next,e1,e2,e3⟩:=h.1 (sg (allB w)) w (.func (.func f) #[] #[]) vals ⟨#[],rfl,rfl⟩ ha (Qup (fun b hb=>hb.elim id False.elim)) hg (fun _ _ h=>h)
 have hn:next= .enter f vals:=by
  have:=(vE_ok.code f fi hfi)
  obtain⟨fn,f1,f2,f3,f4,f5⟩:=this
  have:=f5 vals w
  simp[Deferred.ofValue,invoke,this]at e1
  exact e1.symm
 subst hn
 refine(callsIn_wide.1 e2).mono ?_
 rintro e w' ⟨u,s',rfl,g1,g2,g3,_⟩
 obtain rfl:u= .bool b:=g1
 exact⟨rfl,g3.mod.os,g3.mod.tape,g3.mod.output,g3.mod.size,fun k hk=>g3.mod.block k hk (fun⟨_,hm,_⟩=>by cases hm)⟩
noncomputable def Qmg(os:Os):World:=
 { World.holding Pg os ⟨#[], #[], []⟩ with heap := (World.holding Pg os ⟨#[], #[], []⟩).heap.modify 0 fun
   | .cells _ t frozen=>.cells primesA t frozen
   |o=>o}
def sumI:List Int→Int
 |[]=>0
 |x::l=>x+sumI l
def sumN:List Nat→Nat
 |[]=>0
 |x::l=>x+sumN l
theorem Qhv(a b:List Int):sumI (a++b)=sumI a+sumI b:=by
 induction a with
 |nil=>simp[sumI]
 |cons x a ih=>simp only[List.cons_append,sumI,ih];omega
theorem Qhw(a b:List Nat):sumN (a++b)=sumN a+sumN b:=by
 induction a with
 |nil=>simp[sumN]
 |cons x a ih=>simp only[List.cons_append,sumN,ih];omega
theorem Qm8{α:Type}(f:α→Int): ∀l:List α,(∀x∈l,f x=0)→sumI (l.map f)=0
 |[],_=>rfl
 |x::l,h=>by
  simp only[List.map_cons,sumI,h x List.mem_cons_self,Qm8 f l (fun y hy=>h y (List.mem_cons_of_mem _ hy))];omega
theorem Qji{α:Type}{f g:α→Int}: ∀l:List α,(∀x∈l,f x=g x)→sumI (l.map f)=sumI (l.map g)
 |[],_=>rfl
 |x::l,h=>by
  simp only[List.map_cons,sumI,h x List.mem_cons_self,Qji l (fun y hy=>h y (List.mem_cons_of_mem _ hy))]
theorem Qm7{a b:List Int}(h:a.Perm b):sumI a=sumI b:=by
 induction h with
 |nil=>rfl
 |cons x _ ih=>simp only[sumI,ih]
 |swap x y l=>simp only[sumI];omega
 |trans _ _ h1 h2=>exact h1.trans h2
theorem Qic{ks:List Nat}(f:Nat→Int)(n:Nat)(hn:ks.Nodup)(hk: ∀k∈ks,k<n)(h0: ∀j,j<n→j∉ks→f j=0):sumI ((List.range n).map f)=sumI (ks.map f):=by
 have hp:((List.range n).filter (fun j=>decide (j∈ks))).Perm ks:=by
  refine(List.perm_ext_iff_of_nodup (List.Nodup.sublist List.filter_sublist List.nodup_range) hn).2 fun a=>?_
  simp only[List.mem_filter,List.mem_range,decide_eq_true_eq]
  exact⟨fun h=>h.2,fun h=>⟨hk a h,h⟩⟩
 rw[←Qm7 (hp.map f)]
 have: ∀l:List Nat,(∀j∈l,j∉ks→f j=0)→sumI (l.map f)=sumI ((l.filter (fun j=>decide (j∈ks))).map f):=by
  intro l
  induction l with
  |nil=>intro _;rfl
  | cons x l ih =>
   intro h
   have h1:=ih (fun j hj=>h j (List.mem_cons_of_mem _ hj))
   by_cases hx:x∈ks
   ·rw [List.filter_cons_of_pos (by simpa using hx)]
    simp only[List.map_cons,sumI,h1]
   ·rw [List.filter_cons_of_neg (by simpa using hx)]
    simp only[List.map_cons,sumI,h1,h x List.mem_cons_self hx];omega
 exact this _ (fun j hj=>h0 j (List.mem_range.1 hj))
def bump(r q k:Nat):List (Nat×List Nat)→List (Nat×List Nat)
 |[]=>[(q,(List.replicate r 0).set k 1)]
 |(p,l)::es=>if p=q then(p,l.set k (l.getD k 0+1))::es else(p,l)::bump r q k es
def Qao(r:Nat)(P:List (Nat×Nat)):List (Nat×List Nat):=P.foldl (fun es p=>bump r p.1 p.2 es) []
def cntJ(P:List (Nat×Nat))(j k:Nat):Nat:=P.count (j,k)
def rowL(P:List (Nat×Nat))(r j:Nat):List Nat:=(List.range r).map (cntJ P j)
def conF(F:Nat→Nat→Int)(r:Nat)(l:List Nat)(i:Nat):Int:=sumI (l.map fun c=>F c i)+F (r-1) i-F (sumN l+(r-1)) i
def famZ(F:Nat→Nat→Int)(P:List (Nat×Nat))(r size:Nat)(i:Nat):Int:=sumI ((List.range size).map fun j=>conF F r (rowL P r j) i)
theorem Qc3(r:Nat)(P:List (Nat×Nat))(p:Nat×Nat):Qao r (P++[p])=bump r p.1 p.2 (Qao r P):=by simp[Qao,List.foldl_append]
structure EntOk(r:Nat)(P:List (Nat×Nat))(es:List (Nat×List Nat)):Prop where
 nodup:(es.map (·.1)).Nodup
 row: ∀e∈es,e.2=rowL P r e.1
 keys: ∀q,q∈es.map (·.1)↔∃k,(q,k)∈P
theorem Qlk(P:List (Nat×Nat))(q k j m:Nat):cntJ (P++[(q,k)]) j m=cntJ P j m+if q=j∧k=m then 1 else 0:=by
 unfold cntJ
 rw[List.count_append,List.count_singleton]
 by_cases h:q=j∧k=m
 ·rw[if_pos h];simp[h.1,h.2]
 ·rw [if_neg h]
  have:((q,k)==(j,m))=false:=by
   rw[beq_eq_false_iff_ne];intro e;cases e;exact h ⟨rfl,rfl⟩
  rw[this];rfl
theorem Qjb{P:List (Nat×Nat)}{r q k j:Nat}(h:q≠j):rowL (P++[(q,k)]) r j=rowL P r j:=by
 unfold rowL
 refine List.map_congr_left fun m _=>?_
 rw[Qlk,if_neg (fun h'=>h h'.1)];omega
theorem rowL_get{P:List (Nat×Nat)}{r j k:Nat}(h:k<r):(rowL P r j).getD k 0=cntJ P j k:=by
 unfold rowL
 rw[List.getD_eq_getElem?_getD,List.getElem?_map,List.getElem?_range h];rfl
theorem Qcx(P:List (Nat×Nat))(r j:Nat):(rowL P r j).length=r:=by simp[rowL]
theorem Qhq{P:List (Nat×Nat)}{r q k:Nat}(h:k<r):rowL (P++[(q,k)]) r q=(rowL P r q).set k ((rowL P r q).getD k 0+1):=by
 rw[rowL_get h]
 apply List.ext_getElem
 ·simp[rowL]
 ·intro m h1 h2
  rw[Qcx]at h1
  rw[List.getElem_set]
  simp only[rowL,List.getElem_map,List.getElem_range,Qlk]
  by_cases hm:k=m
  ·subst hm;simp
  ·simp[hm]
theorem Qhp{P:List (Nat×Nat)}{r j:Nat}(h: ¬ ∃k,(j,k)∈P):rowL P r j=List.replicate r 0:=by
 unfold rowL
 rw[List.eq_replicate_iff]
 refine⟨by simp,fun b hb=>?_⟩
 obtain⟨k,_,rfl⟩:=List.mem_map.1 hb
 exact List.count_eq_zero.2 fun hm=>h ⟨k,hm⟩
theorem Qla(r q k:Nat): ∀es:List (Nat×List Nat),(bump r q k es).map (·.1)=if q∈es.map (·.1)then es.map (·.1)else es.map (·.1)++[q]
 |[]=>by simp[bump]
 | (p, l) :: es => by
  unfold bump
  by_cases hp:p=q
  ·subst hp;simp
  ·rw [if_neg hp]
   simp only[List.map_cons,Qla r q k es,List.mem_cons]
   by_cases hm:q∈es.map (·.1)
   ·rw[if_pos hm,if_pos (.inr hm)]
   ·rw[if_neg hm,if_neg (by rintro(h|h);exact hp h.symm;exact hm h)];rfl
theorem bump_mem{r q k:Nat}: ∀{es:List (Nat×List Nat)},(es.map (·.1)).Nodup→∀e∈bump r q k es,(e.1≠q∧e∈es)∨(e.1=q∧((∃l,(q,l)∈es∧e.2=l.set k (l.getD k 0+1))∨(q∉es.map (·.1)∧e.2=(List.replicate r 0).set k 1)))
 |[],_,e,he=>by
  unfold bump at he
  obtain rfl:=List.mem_singleton.1 he
  exact .inr ⟨rfl,.inr ⟨by simp,rfl⟩⟩
 | (p, l) :: es, hn, e, he => by
  unfold bump at he
  rw[List.map_cons,List.nodup_cons]at hn
  by_cases hp:p=q
  ·subst hp
   rw[if_pos rfl]at he
   rcases List.mem_cons.1 he with rfl|he
   ·exact .inr ⟨rfl,.inl ⟨l,List.mem_cons_self,rfl⟩⟩
   ·refine .inl ⟨fun h=>hn.1 (h▸List.mem_map.2 ⟨e,he,rfl⟩),List.mem_cons_of_mem _ he⟩
  ·rw [if_neg hp] at he
   rcases List.mem_cons.1 he with rfl|he
   ·exact .inl ⟨hp,List.mem_cons_self⟩
   ·rcases bump_mem hn.2 e he with ⟨h1, h2⟩ | ⟨h1, ⟨l', h2, h3⟩ | ⟨h2, h3⟩⟩
    ·exact .inl ⟨h1,List.mem_cons_of_mem _ h2⟩
    ·exact .inr ⟨h1,.inl ⟨l',List.mem_cons_of_mem _ h2,h3⟩⟩
    ·refine .inr ⟨h1, .inr ⟨?_, h3⟩⟩
     rw[List.map_cons,List.mem_cons]
     rintro(h|h)
     ·exact hp h.symm
     ·exact h2 h
theorem EntOk.bump{r:Nat}{P:List (Nat×Nat)}{es:List (Nat×List Nat)}(h:EntOk r P es){q k:Nat}(hk:k<r):EntOk r (P++[(q,k)]) (bump r q k es):=by
 have hk':=Qla r q k es
 refine⟨?_,fun e he=>?_,fun a=>?_⟩
 ·rw [hk']
  split
  ·exact h.nodup
  ·rename_i hm
   rw[List.nodup_append]
   refine⟨h.nodup,by simp,fun a ha b hb=>?_⟩
   obtain rfl:=List.mem_singleton.1 hb
   rintro rfl;exact hm ha
 ·rcases bump_mem h.nodup e he with ⟨h1, h2⟩ | ⟨h1, ⟨l, h2, h3⟩ | ⟨h2, h3⟩⟩
  ·rw[Qjb (Ne.symm h1)];exact h.row e h2
  ·rw [h1, Qhq hk, h3]
   have:=h.row _ h2
   dsimp only at this
   rw[this]
  ·rw [h1, Qhq hk, h3, Qhp (fun hx => h2 ((h.keys q).2 hx))]
   congr 1
   rw[List.getD_eq_getElem?_getD,List.getElem?_replicate];simp[hk]
 ·rw [hk']
  have:=h.keys a
  split
  ·rename_i hm
   rw[this]
   constructor
   ·rintro⟨m,hm⟩;exact⟨m,List.mem_append_left _ hm⟩
   ·rintro ⟨m, hm2⟩
    rcases List.mem_append.1 hm2 with h2|h2
    ·exact⟨m,h2⟩
    ·cases List.mem_singleton.1 h2;exact(h.keys _).1 hm
  ·rw [List.mem_append, this]
   constructor
   ·rintro (⟨m, hm⟩ | ha)
    ·exact⟨m,List.mem_append_left _ hm⟩
    ·obtain rfl:=List.mem_singleton.1 ha;exact⟨k,List.mem_append_right _ (List.mem_singleton.2 rfl)⟩
   ·rintro ⟨m, hm2⟩
    rcases List.mem_append.1 hm2 with h2|h2
    ·exact .inl ⟨m,h2⟩
    ·cases List.mem_singleton.1 h2;exact .inr (List.mem_singleton.2 rfl)
theorem Qbz{r:Nat}(P:List (Nat×Nat))(h: ∀p∈P,p.2<r):EntOk r P (Qao r P):=by
 have key: ∀(P Q:List (Nat×Nat)),(∀p∈Q,p.2<r)→EntOk r P (Qao r P)→EntOk r (P++Q) (Qao r (P++Q)):=by
  intro P Q
  induction Q generalizing P with
  |nil=>intro _ h;rw[List.append_nil];exact h
  |cons p Q ih=>
   intro hq h
   rw[show P++p::Q=(P++[p])++Q by simp]
   refine ih _ (fun x hx=>hq x (List.mem_cons_of_mem _ hx)) ?_
   rw[Qc3]
   exact h.bump (hq p List.mem_cons_self)
 have:=key [] P h ⟨by simp[Qao],by simp[Qao],by simp[Qao]⟩
 rwa [List.nil_append]at this
theorem Qkt(r:Nat):sumN (List.replicate r 0)=0:=by
 induction r with
 |zero=>rfl
 |succ r ih=>rw[List.replicate_succ,sumN,ih]
theorem con_zero{F:Nat→Nat→Int}{r i:Nat}(h0:F 0 i=0):conF F r (List.replicate r 0) i=0:=by
 unfold conF
 rw[Qkt,Qm8 _ _ (fun x hx=>by rw[(List.mem_replicate.1 hx).2];exact h0)]
 simp only[Nat.zero_add];omega
theorem Qd9{F:Nat→Nat→Int}{r size i:Nat}{P:List (Nat×Nat)}(h0:F 0 i=0)(h: ∀p∈P,p.1<size∧p.2<r):sumI ((Qao r P).map fun e=>conF F r e.2 i)=famZ F P r size i:=by
 have hE:=Qbz P (fun p hp=>(h p hp).2)
 unfold famZ
 rw[Qic (ks:=(Qao r P).map (·.1)) _ size hE.nodup ?_ ?_,List.map_map]
 ·refine Qji _ fun e he => ?_
  simp only[Function.comp]
  rw[hE.row e he]
 ·intro k hk
  obtain⟨m,hm⟩:=(hE.keys k).1 hk
  exact(h _ hm).1
 ·intro j _ hj
  rw[Qhp (fun hx=>hj ((hE.keys j).2 hx))]
  exact con_zero h0
theorem Qdy{r:Nat}(P:List (Nat×Nat))(j:Nat)(h: ∀p∈P,p.2<r):sumN (rowL P r j)≤P.length:=by
 have key : ∀ (P Q : List (Nat × Nat)), (∀ p ∈ Q, p.2 < r) → sumN (rowL P r j) ≤ P.length → sumN (rowL (P ++ Q) r j) ≤ (P ++ Q).length := by
  intro P Q
  induction Q generalizing P with
  |nil=>intro _ h;rw[List.append_nil];exact h
  | cons p Q ih =>
   intro hq h
   rw[show P++p::Q=(P++[p])++Q by simp]
   refine ih _ (fun x hx=>hq x (List.mem_cons_of_mem _ hx)) ?_
   obtain⟨q,k⟩:=p
   have hk:k<r:=hq _ List.mem_cons_self
   by_cases hqj:q=j
   ·subst hqj
    rw[Qhq hk]
    have hs: ∀(l:List Nat)(k:Nat),k<l.length→sumN (l.set k (l.getD k 0+1))=sumN l+1:=by
     intro l
     induction l with
     |nil=>intro k h;cases h
     | cons x l ih =>
      intro k h
      cases k with
      |zero=>simp[sumN];omega
      |succ k=>
       have:=ih k (by simpa using h)
       simp only[List.set_cons_succ,List.getD_cons_succ,sumN,this];omega
    rw[hs _ _ (by rw[Qcx];exact hk)]
    simp;omega
   ·rw[Qjb hqj];simp;omega
 have:=key [] P h (by rw[Qhp (by simp),Qkt];exact Nat.zero_le _)
 rwa [List.nil_append]at this
theorem Qdx{l:List Nat}{x:Nat}(h:x∈l):x≤sumN l:=by
 induction l with
 |nil=>cases h
 |cons y l ih=>
  simp only[sumN]
  rcases List.mem_cons.1 h with rfl|h
  ·omega
  ·have:=ih h;omega
abbrev lk(d:Nat)(es:List (V×V×Nat))(ck:Nat)(r0:Option (Nat×V)):Nat×Hint:=(d,.lk es ck r0)
abbrev up(es:List (V×V×Nat))(ck:Nat)(o':O):Nat×Hint:=(999999,.up es ck o')
abbrev lo_(d:Nat)(o:O)(v:V):Nat×Hint:=(d,.lo o v)
abbrev so(o:O)(c:List V):Nat×Hint:=(999999,.so o c)
abbrev toO(sl:List (Nat×V)):Nat×Hint:=(0,.toO sl)
abbrev lpF(sl:List (Nat×V))(e:Ex)(sl':List (Nat×V)):Nat×Hint:=(0,.loopF sl [(True,e,sl')])
def outF:List (Prop×Ex×List (Nat×V))→Ex→List (Nat×V)→Prop
 |[],_,_=>False
 |(p,e',sl')::l,e,sl=>(p∧e=e'∧sl=sl')∨outF l e sl
theorem outF_F{gl:T (List V)}{n:Nat}{M:Mem}: ∀{l:List (Prop×Ex×List (Nat×V))}{e:Ex}{sl:List (Nat×V)},outF l e sl→Qmt gl n M.H M.nx M.lg l e (mkSo gl n sl M.H M.nx M.lg)
 |(p,e',sl')::l,e,sl,h=>by
  rcases h with⟨h1,h2,rfl⟩|h
  ·exact .inl ⟨h1,h2,rfl⟩
  ·exact .inr (outF_F h)
theorem Qmi{gl:T (List V)}{c b:Code}(hc:c= .loop b){k:Nat}{α:Type}(I:α→Mem→Prop)(S:α→List (Nat×V))(m:α→Nat)(out:Ex→List (Nat×V)→Mem→Prop)
  (h: ∀x(H:T O)(nx:Nat)(lg:List Nat)(G:Ex→List (Nat×V)→T O→Nat→List Nat→Prop),I x ⟨H,nx,lg⟩→(∀y H nx lg,I y ⟨H,nx,lg⟩→m y<m x→G .normal (S y) H nx lg)→(∀i sl H nx lg,out (.exit i) sl ⟨H,nx,lg⟩→G (.exit i) sl H nx lg)→(∀sl H nx lg,out .ret sl ⟨H,nx,lg⟩→G .ret sl H nx lg)→∃hs n,vc Pg vE sp0 none 0 n b hs (mkSo gl k (S x) H nx lg) (kEndO k G))
  (x:α)(M:Mem)(hx:I x M):Sat Pg none 0 c (mkSo gl k (S x) M.H M.nx M.lg) (fun e st=>∃sl M',st=mkSo gl k sl M'.H M'.nx M'.lg∧out e sl M'):=
 loopO vE_ok mixed Qad hc I S m out (fun x H nx lg hI=>h x H nx lg _ hI (fun y H nx lg h1 h2=>⟨y,h1,h2,rfl⟩) (fun i sl H nx lg h=>h) (fun sl H nx lg h=>h)) x M hx
theorem loopFr{gl:T (List V)}{c b:Code}(hc:c= .loop b){k:Nat}{α:Type}(I:α→Prop)(S:α→List (Nat×V))(m:α→Nat)(outs:List (Prop×Ex×List (Nat×V)))(H:T O)(nx:Nat)(lg:List Nat)
  (h: ∀x(G:Ex→List (Nat×V)→T O→Nat→List Nat→Prop),I x→(∀y,I y→m y<m x→G .normal (S y) H nx lg)→(∀i sl,outF outs (.exit i) sl→G (.exit i) sl H nx lg)→∃hs n,vc Pg vE sp0 none 0 n b hs (mkSo gl k (S x) H nx lg) (kEndO k G))(x:α)(hx:I x):Sat Pg none 0 c (mkSo gl k (S x) H nx lg) (Qmt gl k H nx lg outs):=by
 refine(Qmi hc (fun y M'=>I y∧M'=⟨H,nx,lg⟩) S m (fun e sl M'=>M'=⟨H,nx,lg⟩∧outF outs e sl) (fun x H' nx' lg' G hI hN hE _=>?_) x ⟨H,nx,lg⟩ ⟨hx,rfl⟩).mono ?_
 ·obtain ⟨hI, e⟩ := hI
  cases e
  exact h x G hI (fun y h1 h2=>hN y _ _ _ ⟨h1,rfl⟩ h2) (fun i sl h=>hE i sl _ _ _ ⟨rfl,h⟩)
 ·rintro e st ⟨sl, M', rfl, rfl, ho⟩
  exact outF_F (M:=⟨H,nx,lg⟩) ho
theorem loopHG{gl:T (List V)}{c b:Code}(hc:c= .loop b){k nx0:Nat}{α:Type}(I:α→Prop)(S:α→SL)(m:α→Nat)(out:Ex→SL→Prop)
  (h: ∀x(G:Ex→SL→Prop),I x→(∀y,I y→m y<m x→G .normal (S y))→(∀i S',out (.exit i) S'→G (.exit i) S')→(∀S',out .ret S'→G .ret S')→∃hs n,vc Pg vE sp0 none nx0 n b hs (mkSt gl k (S x)) (kEnd nx0 k G))(x:α)(hx:I x):Sat Pg none nx0 c (mkSt gl k (S x)) (fun e st=>∃S',st=mkSt gl k S'∧out e S'):=
 loopH vE_ok mixed Qad hc I S m out (fun x hI=>h x _ hI (fun y h1 h2=>⟨y,h1,h2,rfl⟩) (fun i S' h=>h) (fun S' h=>h)) x hx
theorem Qa2{α:Type}(t:T α)(i j:Nat)(x:α):gt (pt t i x) j=if j=i then some x else gt t j:=by rw[Qaw,pt_eq,T.get_put,Qaw]
theorem gq{P:Prop}(h:P:=by
 ((repeat(first|(rw[Qa2,if_pos (by first|rfl|omega)])|(rw[Qa2,if_neg (by omega)])))<;>first|assumption|rfl)):P:=h
def nt(l:List Nat):List V:=l.map fun(x:Nat)=>i6 (x:Int)
abbrev nl(l:List Nat):V:=.im l.length (nt l)
theorem Qfi(l:List Nat):nt l=ints (l.map fun(x:Nat)=>(x:Int)):=by simp[nt,ints,List.map_map,Function.comp]
theorem Qea{l:List Nat}{k:Nat}(h:k<l.length):headF ((nt l).drop (k*1))=some (i6 ((l.getD k 0:Nat):Int)):=by
 rw[Qfi,Qak (by simpa using h)]
 congr 2
 rw[List.getD_eq_getElem?_getD,List.getD_eq_getElem?_getD,List.getElem?_map,List.getElem?_eq_getElem h];rfl
theorem HfL_nt(l:List Nat):HfL (nt l):=by rw[Qfi];exact Qab _
theorem rep_nt(n x:Nat):rep n [i6 (x:Int)]=nt (List.replicate n x):=by rw[rep_ints,Qfi,List.map_replicate]
theorem lay_nt{l:List Nat}{j x:Nat}(h:j<l.length):layE (0+j*1) (nt l) [i6 (x:Int)]=some (nt (l.set j x)):=by
 rw[Qfi,Qp9 (by simpa using h),Qfi]
 congr 2
 apply List.ext_getElem
 ·simp
 ·intro n h1 h2
  simp only[List.getElem_set,List.getElem_map]
  split<;>rfl
theorem Qbd{α:Type}(f:α→V)(l:List α)(h: ∀x,Hf (f x)):HfL (l.map f):=by
 induction l with
 |nil=>trivial
 |cons x l ih=>exact⟨h x,ih⟩
theorem Qcu{α:Type}{f:α→V}{l:List α}{k:Nat}{x:α}(h:l[k]? =some x):headF ((l.map f).drop (k*1))=some (f x):=by
 obtain⟨hk,rfl⟩:=List.getElem?_eq_some_iff.1 h
 rw[Nat.mul_one,←List.map_drop,List.drop_eq_getElem_cons hk];rfl
abbrev u6(n:Int):V:=.int .u64 n
theorem shr_u{G:Ctx}{t:Nat}{x k:Nat}(hk:k≤64):binV G .shr t (u6 (x:Int)) (i6 (k:Int))=some (u6 ((x/2^k:Nat):Int)):=by
 have h1:((k:Int)<0)=False:=by simp
 have h2:min k 64=k:=by omega
 simp only[binV,intV,h1,if_false,Int.toNat_natCast,IntKind.bits,h2]
 rw[Int.fdiv_eq_ediv_of_nonneg _ (Int.natCast_nonneg _)]
 rfl
theorem and1_u{G:Ctx}{t:Nat}{x:Nat}:binV G .and t (u6 (x:Int)) (u6 1)=some (u6 ((x%2:Nat):Int)):=by
 have h:(BitVec.ofInt 64 (x:Int)&&& BitVec.ofInt 64 1).toNat=x%2:=by
  rw[BitVec.toNat_and]
  have h1:(BitVec.ofInt 64 1).toNat=1:=by decide
  rw[h1,Nat.and_one_is_mod]
  have h2:(BitVec.ofInt 64 (x:Int)).toNat=x%2^64:=by
   rw[BitVec.toNat_ofInt];omega
  rw[h2];omega
 have hw:IntKind.u64.wrap ((x%2:Nat):Int)=((x%2:Nat):Int):=by
  rw[←wr_eq];exact Qif (by simp[lo];omega) (by simp[hi];omega)
 have e:binV G .and t (u6 (x:Int)) (u6 1)=some (.int .u64 (IntKind.u64.wrap ((BitVec.ofInt 64 (x:Int)&&& BitVec.ofInt 64 1).toNat:Int))):=rfl
 rw[e,h,hw]
def rowN(cards:List Nat)(ps:Nat)(vals:List Nat):Nat→Nat
 |0=>0
 |k+1=>if ps/2^k%2=1 then rowN cards ps vals k*cards.getD k 0+vals.getD k 0 else rowN cards ps vals k
def Qht(cards:List Nat)(ps:Nat):Nat→Nat
 |0=>1
 |k+1=>if ps/2^k%2=1 then Qht cards ps k*cards.getD k 0 else Qht cards ps k
structure CardsOk(cards:List Nat):Prop where
 pos:1≤cards.length
 six:cards.length≤6
 each: ∀k,k<cards.length→2≤cards.getD k 0∧cards.getD k 0≤4
structure CaseOk(cards vals:List Nat):Prop where
 len:vals.length=cards.length
 lt: ∀k,k<cards.length→vals.getD k 0<cards.getD k 0
theorem Qqw{cards:List Nat}(h:CardsOk cards)(ps:Nat): ∀k,k≤cards.length→1≤Qht cards ps k∧Qht cards ps k≤4^k
 |0,_=>by simp[Qht]
 | k + 1, hk => by
  have h1:=Qqw h ps k (by omega)
  have h2:=h.each k (by omega)
  unfold Qht
  split
  ·constructor
   ·exact Nat.mul_pos h1.1 (by omega)
   ·rw[Nat.pow_succ];exact Nat.mul_le_mul h1.2 h2.2
  ·rw[Nat.pow_succ];omega
theorem Qoi{cards vals:List Nat}(h:CardsOk cards)(hv:CaseOk cards vals)(ps:Nat): ∀k,k≤cards.length→rowN cards ps vals k<Qht cards ps k
 |0,_=>by simp[rowN,Qht]
 |k+1,hk=>by
  have h1:=Qoi h hv ps k (by omega)
  have h2:=h.each k (by omega)
  have h3:=hv.lt k (by omega)
  unfold rowN Qht
  split
  ·calc _<rowN cards ps vals k*cards.getD k 0+cards.getD k 0:=by omega
    _=(rowN cards ps vals k+1)*cards.getD k 0:=by rw[Nat.add_mul,Nat.one_mul]
    _≤_:=Nat.mul_le_mul_right _ h1
  ·exact h1
theorem pow4{k:Nat}(h:k≤6):4^k≤4096:=by
 calc 4^k≤4^6:=Nat.pow_le_pow_right (by omega) h
  _=4096:=by decide
theorem rowN_bd{cards vals:List Nat}(h:CardsOk cards)(hv:CaseOk cards vals)(ps:Nat){k:Nat}(hk:k≤cards.length):rowN cards ps vals k<4096:=by
 have:=Qoi h hv ps k hk
 have:=Qqw h ps k hk
 have:=pow4 (show k≤6 by have:=h.six;omega)
 omega
abbrev cV(cs:List (List Nat)):V:=.im cs.length (cs.map nl)
abbrev dN(cards:List Nat)(cs:List (List Nat)):V:=.agg [nl cards,cV cs]
abbrev gC(cs:List (List Int)):V:=.im cs.length (cs.map sl)
abbrev gV(cards:List Int)(cs:List (List Int)):V:=.agg [sl cards,gC cs]
abbrev gO(cards:List Int)(cs:List (List Int)):O:=.row 31 none [sl cards,gC cs]
def okC(x:Int):Bool:=decide (2≤x∧x≤4)
def okX(c x:Int):Bool:=decide (-1≤x∧x<c)
def okCs(cards:List Int):Bool:=(List.range cards.length).all fun j=>okC (cards.getD j 0)
def okRow(cards c:List Int):Bool:=decide (c.length=cards.length)&&(List.range cards.length).all fun j=>okX (cards.getD j 0) (c.getD j 0)
def prodT(cards:List Int):Nat→Int
 |0=>1
 |k+1=>prodT cards k*cards.getD k 0
def okAll(cards:List Int)(cs:List (List Int)):Bool:=
 decide (1≤cards.length)&&(decide (cards.length≤6)&&(decide (cs.length≤40)&&(okCs cards&&(decide (prodT cards cards.length≤1024)&&cs.all (okRow cards)))))
theorem all_range{n:Nat}{p:Nat→Bool}:(List.range n).all p=true↔∀j,j<n→p j=true:=by
 rw[List.all_eq_true]
 exact⟨fun h j hj=>h j (List.mem_range.2 hj),fun h j hj=>h j (List.mem_range.1 hj)⟩
theorem Qcp{n k:Nat}{p:Nat→Bool}(hk:k<n)(h:p k=false):(List.range n).all p=false:=by
 cases hb:(List.range n).all p with
 |false=>rfl
 |true=>rw[all_range.1 hb k hk]at h;cases h
theorem Qkl{cards:List Int}: ∀k:Nat,(∀j,j<k→okC (cards.getD j 0)=true)→1≤prodT cards k∧prodT cards k≤4^k
 |0,_=>by simp[prodT]
 |k+1,h=>by
  have h1:=Qkl k (fun j hj=>h j (by omega))
  have h2:=of_decide_eq_true (h k (by omega))
  unfold prodT
  have h3:prodT cards k*1≤prodT cards k*cards.getD k 0:=Int.mul_le_mul_of_nonneg_left (by omega) (by omega)
  have h4:prodT cards k*cards.getD k 0≤4^k*4:=Int.mul_le_mul h1.2 h2.2 (by omega) (by omega)
  rw[Int.pow_succ]
  omega
theorem pow4I{k:Nat}(h:k≤6):(4:Int)^k≤4096:=by
 have:k=0∨k=1∨k=2∨k=3∨k=4∨k=5∨k=6:=by omega
 rcases this with rfl|rfl|rfl|rfl|rfl|rfl|rfl<;>decide
theorem Qda{gl:T (List V)}{n:Nat}{p q:Prop}{e e':Ex}{S S':SL}(hp:p)(hq: ¬q): ∀e1 st,Qaf gl n [(p,e,S),(q,e',S')] e1 st→Qaf gl n [(True,e,S)] e1 st:=by
 rintro e1 st (⟨_,h⟩|⟨h,_⟩|h)
 ·exact .inl ⟨trivial,h⟩
 ·exact absurd h hq
 ·exact h.elim
theorem Qdb{gl:T (List V)}{n:Nat}{p q:Prop}{e e':Ex}{S S':SL}(hp: ¬p)(hq:q): ∀e1 st,Qaf gl n [(p,e,S),(q,e',S')] e1 st→Qaf gl n [(True,e',S')] e1 st:=by
 rintro e1 st (⟨h,_⟩|⟨_,h⟩|h)
 ·exact absurd h hp
 ·exact .inl ⟨trivial,h⟩
 ·exact h.elim
abbrev ckS(cards:List Int)(cs:List (List Int))(k:Nat):SL:={sl:=[(1,.ptr 0 0),(3,i6 (prodT cards k)),(28,sl cards),(29,i6 cards.length),(30,i6 k)],os:=[gO cards cs]}
abbrev ckX(cards:List Int)(cs:List (List Int))(w:Int):SL:={sl:=[(1,.ptr 0 0),(3,i6 w)],os:=[gO cards cs]}
abbrev ckR(e:Int):SL:={sl:=[(2,i6 e)]}
theorem Qst(cards:List Int)(cs:List (List Int))(h6:cards.length≤6):
  Sat Pg none 0 (at' 16 [1,0,1,1,0,1,0]) (mkSt g0 80 (ckS cards cs 0)) (Qaf g0 80 [(okCs cards=true,.exit 0,ckX cards cs (prodT cards cards.length)),(okCs cards=false,.ret,ckR 250)]):=by
 refine Qa6 vE_ok mixed Qad (b:=at' 16 [1,0,1,1,0,1,0,0]) (by kernel_rfl) (fun k=>k≤cards.length∧∀j,j<k→okC (cards.getD j 0)=true) (ckS cards cs) (fun k=>cards.length-k) (fun k hk=>?_) 0 ⟨Nat.zero_le _,fun j h=>absurd h (Nat.not_lt_zero _)⟩
 obtain⟨hk,hj⟩:=hk
 by_cases hlt:k<cards.length
 ·have hld := @Qak cards k hlt
  have hpb:=Qkl k hj
  have hp4:=pow4I (show k≤6 by omega)
  have hnext:prodT cards (k+1)=prodT cards k*cards.getD k 0:=rfl
  have hbad:okC (cards.getD k 0)=false→okCs cards=false:=fun h=>Qcp hlt h
  have hgood:okC (cards.getD k 0)=true→∀j,j<k+1→okC (cards.getD j 0)=true:=fun h j hj1=>by
   rcases Nat.lt_succ_iff_lt_or_eq.1 hj1 with h2|h2
   ·exact hj j h2
   ·subst h2;exact h
  have hS:ckS cards cs (k+1)={sl:=[(1,.ptr 0 0),(3,i6 (prodT cards k*cards.getD k 0)),(28,sl cards),(29,i6 cards.length),(30,i6 (k+1:Nat))],os:=[gO cards cs]}:=rfl
  by_cases h1:cards.getD k 0<2
  ·have hb := hbad (by unfold okC; exact decide_eq_false (by omega))
   refine .inr ⟨.ret,[],ckR 250,[yes 31,pl 32,ld 33 (i6 (cards.getD k 0)),yes 35],1000,.inr (.inl ⟨hb,rfl,rfl⟩),?_⟩
   generalize cards.getD k 0=x at*
   refine Eq.mp (by kernel_rfl:(let z0:=(↑cards.length:Int);let z1:=(↑k:Int);An [decide (z1<z0)=true,An [(0:Int)≤z1,z1<z0],headF (List.drop (k*1) (ints cards))=some (i6 x),decide (x<(2:Int))=true,An [Sm (250:Int),Tt],Tt])=_) ?_
   exact au
  ·by_cases h2 : cards.getD k 0 > 4
   ·have hb := hbad (by unfold okC; exact decide_eq_false (by omega))
    refine .inr ⟨.ret,[],ckR 250,[yes 31,pl 32,ld 33 (i6 (cards.getD k 0)),no 35,yes 38],1000,.inr (.inl ⟨hb,rfl,rfl⟩),?_⟩
    generalize cards.getD k 0=x at*
    refine Eq.mp (by kernel_rfl:(let z0:=(↑cards.length:Int);let z1:=(↑k:Int);An [decide (z1<z0)=true,An [(0:Int)≤z1,z1<z0],headF (List.drop (k*1) (ints cards))=some (i6 x),decide (x<(2:Int))=false,decide (x>(4:Int))=true,An [Sm (250:Int),Tt],Tt])=_) ?_
    exact au
   ·have hg := hgood (by unfold okC; exact decide_eq_true (by omega))
    have hm:prodT cards k*cards.getD k 0≤4096*4:=Int.mul_le_mul (by omega) (by omega) (by omega) (by omega)
    have hm0:0≤prodT cards k*cards.getD k 0:=Int.mul_nonneg (by omega) (by omega)
    refine .inl ⟨k+1,[0],[yes 31,pl 32,ld 33 (i6 (cards.getD k 0)),no 35,no 38,nu 42 (prodT cards k*cards.getD k 0),nu 43 (k+1:Nat)],1000,⟨hlt,hg⟩,by omega,?_⟩
    rw[hS]
    generalize hy:prodT cards k*cards.getD k 0=y at*
    exact m_ (p:=let z0:=List.getD cards k (0:Int);let z1:=(↑cards.length:Int);let z2:=(↑(k+1):Int);let z3:=(↑k:Int);An [decide (z3<z1)=true,An [(0:Int)≤z3,z3<z1],_,decide (z0<(2:Int))=false,decide (z0>(4:Int))=false,wr .i64 (prodT cards k*z0)=y,wr .i64 (z3+(1:Int))=z2,An [Zz,y=y,An [Sm cards.length,Sm (ints cards)],z1=z1,z2=z2,Tt],An [Sm [sl cards,gC cs],TT 2],Tt]) ⟨aq,a_,hld,a_⟩
 ·have : k = cards.length := by omega
  subst this
  refine .inr ⟨.exit 0,[0],ckX cards cs (prodT cards cards.length),[no 31],1000,.inl ⟨all_range.2 hj,rfl,rfl⟩,?_⟩
  show vc _ _ _ _ _ _ _ _ (mkSt g0 80 {sl:=[(1,.ptr 0 0),(3,i6 (prodT cards cards.length)),(28,sl cards),(29,i6 cards.length),(30,i6 (cards.length:Nat))],os:=[gO cards cs]}) _
  generalize prodT cards cards.length=w at*
  refine Eq.mp (by kernel_rfl:(let z0:=(↑cards.length:Int);An [decide (z0<z0)=false,An [Zz,w=w,Tt],An [Sm [sl cards,gC cs],TT 2],Tt])=_) ?_
  exact au
abbrev cvS(cards:List Int)(cs:List (List Int))(i:Nat)(c:List Int)(j:Nat):SL:={sl:=[(1,.ptr 0 0),(6,i6 0),(47,gC cs),(48,i6 cs.length),(49,i6 i),(59,sl c),(60,i6 c.length),(61,i6 j)],os:=[gO cards cs]}
abbrev cwS(cards:List Int)(cs:List (List Int))(i:Nat):SL:={sl:=[(1,.ptr 0 0),(6,i6 0),(47,gC cs),(48,i6 cs.length),(49,i6 i)],os:=[gO cards cs]}
abbrev cwX(e:Int):SL:={sl:=[(6,i6 e)]}
theorem chk_row(cards:List Int)(cs:List (List Int))(i:Nat)(c:List Int)(hlen:c.length=cards.length)(h6:cards.length≤6):
  Sat Pg none 0 (at' 16 [1,0,1,1,1,1,1,1,0,1,0,0,1,1,0,0,1,1,1,0]) (mkSt g0 80 (cvS cards cs i c 0)) (Qaf g0 80 [(okRow cards c=true,.exit 4,cwS cards cs i),(okRow cards c=false,.exit 2,cwX 250)]):=by
 refine Qa6 vE_ok mixed Qad (b:=at' 16 [1,0,1,1,1,1,1,1,0,1,0,0,1,1,0,0,1,1,1,0,0]) (by kernel_rfl) (fun k=>k≤cards.length∧∀j,j<k→okX (cards.getD j 0) (c.getD j 0)=true) (cvS cards cs i c) (fun k=>cards.length-k) (fun k hk=>?_) 0 ⟨Nat.zero_le _,fun j h=>absurd h (Nat.not_lt_zero _)⟩
 obtain⟨hk,hj⟩:=hk
 by_cases hlt:k<cards.length
 ·have hld := @Qak cards k hlt
  have hld2:=@Qak c k (by omega)
  have hbad:okX (cards.getD k 0) (c.getD k 0)=false→okRow cards c=false:=fun h=>by
   unfold okRow;rw[Qcp hlt h,Bool.and_false]
  have hgood:okX (cards.getD k 0) (c.getD k 0)=true→∀j,j<k+1→okX (cards.getD j 0) (c.getD j 0)=true:=fun h j hj1=>by
   rcases Nat.lt_succ_iff_lt_or_eq.1 hj1 with h2|h2
   ·exact hj j h2
   ·subst h2;exact h
  by_cases h1:c.getD k 0< -1
  ·have hb := hbad (by unfold okX; exact decide_eq_false (by omega))
   refine .inr ⟨.exit 2,[],cwX 250,[yes 62,pl 64,ld 65 (i6 (c.getD k 0)),yes 67],1000,.inr (.inl ⟨hb,rfl,rfl⟩),?_⟩
   refine Eq.mp (by kernel_rfl:(let z0:=List.getD c k (0:Int);let z1:=(↑k:Int);An [decide (z1<(↑c.length:Int))=true,An [(0:Int)≤z1,z1<(↑c.length:Int)],headF (List.drop (k*1) (ints c))=some (i6 z0),decide (z0<(-1:Int))=true,An [Sm (250:Int),Tt],Tt])=_) ?_
   exact au
  ·by_cases h2 : c.getD k 0 ≥ cards.getD k 0
   ·have hb := hbad (by unfold okX; exact decide_eq_false (by omega))
    refine .inr ⟨.exit 2,[],cwX 250,[yes 62,pl 64,ld 65 (i6 (c.getD k 0)),no 67,pl 73,ld 74 (i6 (cards.getD k 0)),yes 75],1000,.inr (.inl ⟨hb,rfl,rfl⟩),?_⟩
    refine Eq.mp (by kernel_rfl:(let z1:=(↑k:Int);let z2:=(0:Int);let z0:=List.getD c k z2;let z3:=List.getD cards k z2;An [decide (z1<(↑c.length:Int))=true,An [z2≤z1,z1<(↑c.length:Int)],headF (List.drop (k*1) (ints c))=some (i6 z0),decide (z0<(-1:Int))=false,An [z2≤z1,z1<(↑cards.length:Int)],headF (List.drop (k*1) (ints cards))=some (i6 z3),decide (z0≥z3)=true,An [Sm (250:Int),Tt],Tt])=_) ?_
    exact au
   ·have hg := hgood (by unfold okX; exact decide_eq_true (by omega))
    refine .inl ⟨k+1,[0],[yes 62,pl 64,ld 65 (i6 (c.getD k 0)),no 67,pl 73,ld 74 (i6 (cards.getD k 0)),no 75,nu 77 (k+1:Nat)],1000,⟨hlt,hg⟩,by omega,?_⟩
    refine Eq.mp (by kernel_rfl:(let z0:=(0:Int);let z1:=(↑c.length:Int);let z2:=(↑k:Int);let z3:=(↑(k+1):Int);let z4:=List.getD c k z0;let z5:=List.getD cards k z0;An [decide (z2<z1)=true,An [z0≤z2,z2<z1],headF (List.drop (k*1) (ints c))=some (i6 z4),decide (z4<(-1:Int))=false,An [z0≤z2,z2<(↑cards.length:Int)],headF (List.drop (k*1) (ints cards))=some (i6 z5),decide (z4≥z5)=false,wr .i64 (z2+(1:Int))=z3,An [Zz,z0=z0,An [Sm cs.length,Sm (List.map sl cs)],Sm (↑cs.length:Int),Sm (↑i:Int),An [Sm c.length,Sm (ints c)],z1=z1,z3=z3,Tt],An [Sm [sl cards,gC cs],TT 2],Tt])=_) ?_
    exact au
 ·have : k = cards.length := by omega
  subst this
  have hg:okRow cards c=true:=by unfold okRow;rw[all_range.2 hj,decide_eq_true hlen];rfl
  refine .inr ⟨.exit 4,[0],cwS cards cs i,[no 62],1000,.inl ⟨hg,rfl,rfl⟩,?_⟩
  refine Eq.mp (by kernel_rfl:(An [decide ((↑cards.length:Int)<(↑c.length:Int))=false,An [Zz,Sm (0:Int),An [Sm cs.length,Sm (List.map sl cs)],Sm (↑cs.length:Int),Sm (↑i:Int),Tt],An [Sm [sl cards,gC cs],TT 2],Tt])=_) ?_
  exact au
theorem chk_rows(cards:List Int)(cs:List (List Int))(h6:cards.length≤6)(h40:cs.length≤40)(e:Int)(he:e=if cs.all (okRow cards)then 0 else 250):
  Sat Pg none 0 (at' 16 [1,0,1,1,1,1,1,1,0,1,0]) (mkSt g0 80 (cwS cards cs 0)) (Qaf g0 80 [(True,.exit 2,cwX e)]):=by
 refine Qa6 vE_ok mixed Qad (b:=at' 16 [1,0,1,1,1,1,1,1,0,1,0,0]) (by kernel_rfl) (fun k=>k≤cs.length∧(cs.take k).all (okRow cards)=true) (cwS cards cs) (fun k=>cs.length-k) (fun k hk=>?_) 0 ⟨Nat.zero_le _,rfl⟩
 obtain⟨hk,hj⟩:=hk
 by_cases hlt:k<cs.length
 ·have hck : cs[k]? = some cs[k] := List.getElem?_eq_getElem hlt
  have hmem:=List.getElem_mem hlt
  generalize cs[k]=c at*
  have hld:headF ((cs.map sl).drop (k*1))=some (sl c):=Qcu hck
  have hbad:okRow cards c=false→e=250:=fun h=>by
   rw[he,if_neg (fun ha=>?_)]
   rw[List.all_eq_true]at ha
   rw[ha c hmem]at h;cases h
  have hgood:okRow cards c=true→(cs.take (k+1)).all (okRow cards)=true:=fun h=>by
   rw[List.take_add_one,hck,List.all_append,hj];simp[h]
  by_cases h1:c.length=cards.length
  ·have hrow := chk_row cards cs k c h1 h6
   cases hok:okRow cards c with
   |true=>
    have hr:=hrow.mono (Qda hok (by rw[hok];simp))
    refine .inl ⟨k+1,[0],[yes 50,pl 51,ld 52 (sl c),no 58,(0,.loop [0] (cvS cards cs k c 0) [(True,.exit 4,cwS cards cs k)]),nu 78 (k+1:Nat)],1000,⟨hlt,hgood hok⟩,by omega,?_⟩
    refine Eq.mp (by kernel_rfl:(let z0:=(↑cs.length:Int);let z1:=(↑k:Int);let z2:=List.map sl cs;let z3:=[sl cards,gC cs];let z4:=(0:Int);let z5:=(↑c.length:Int);let z6:=(↑(k+1):Int);An [decide (z1<z0)=true,An [z4≤z1,z1<z0],headF (List.drop (k*1) z2)=some (sl c),(z5 != (↑cards.length:Int))=false,An [An [Zz,z4=z4,An [Sm cs.length,z2=z2],z0=z0,z1=z1,An [Sm c.length,Sm (ints c)],z5=z5,(↑(0:Nat):Int)=z4,Tt],An [z3=z3,TT 2],Tt],Sat Pg none 0 (at' 16 [1,0,1,1,1,1,1,1,0,1,0,0,1,1,0,0,1,1,1,0]) (mkSt g0 80 (cvS cards cs k c 0)) (Qaf g0 80 [(True,Ex.exit 4,cwS cards cs k)]),(True→An [wr .i64 (z1+(1:Int))=z6,An [Zz,z4=z4,An [Sm cs.length,z2=z2],z0=z0,z6=z6,Tt],An [z3=z3,TT 2],Tt]),Tt])=_) ?_
    exact au
   |false=>
    have hr:=hrow.mono (Qdb (by rw[hok];simp) hok)
    have:=hbad hok
    subst this
    refine .inr ⟨.exit 2,[],cwX 250,[yes 50,pl 51,ld 52 (sl c),no 58,(0,.loop [0] (cvS cards cs k c 0) [(True,.exit 2,cwX 250)])],1000,.inl ⟨trivial,rfl,rfl⟩,?_⟩
    refine Eq.mp (by kernel_rfl:(let z0:=(↑cs.length:Int);let z1:=(↑k:Int);let z2:=(↑c.length:Int);let z3:=List.map sl cs;let z4:=(0:Int);An [decide (z1<z0)=true,An [z4≤z1,z1<z0],headF (List.drop (k*1) z3)=some (sl c),(z2 != (↑cards.length:Int))=false,An [An [Zz,z4=z4,An [Sm cs.length,z3=z3],z0=z0,z1=z1,An [Sm c.length,Sm (ints c)],z2=z2,(↑(0:Nat):Int)=z4,Tt],An [Sm [sl cards,gC cs],TT 2],Tt],Sat Pg none 0 (at' 16 [1,0,1,1,1,1,1,1,0,1,0,0,1,1,0,0,1,1,1,0]) (mkSt g0 80 (cvS cards cs k c 0)) (Qaf g0 80 [(True,Ex.exit 2,cwX (250:Int))]),(True→An [An [Sm (250:Int),Tt],Tt]),Tt])=_) ?_
    exact au
  ·have := hbad (by unfold okRow; rw [decide_eq_false h1]; rfl)
   subst this
   refine .inr ⟨.exit 2,[],cwX 250,[yes 50,pl 51,ld 52 (sl c),yes 58],1000,.inl ⟨trivial,rfl,rfl⟩,?_⟩
   refine Eq.mp (by kernel_rfl:(let z0:=(↑k:Int);An [decide (z0<(↑cs.length:Int))=true,An [(0:Int)≤z0,z0<(↑cs.length:Int)],headF (List.drop (k*1) (List.map sl cs))=some (sl c),((↑c.length:Int) != (↑cards.length:Int))=true,An [Sm (250:Int),Tt],Tt])=_) ?_
   exact au
 ·have : k = cs.length := by omega
  subst this
  rw[List.take_length]at hj
  have:e=0:=by rw[he,if_pos hj]
  subst this
  refine .inr ⟨.exit 2,[],cwX 0,[no 50],1000,.inl ⟨trivial,rfl,rfl⟩,?_⟩
  refine Eq.mp (by kernel_rfl:(An [decide ((↑cs.length:Int)<(↑cs.length:Int))=false,An [Sm (0:Int),Tt],Tt])=_) ?_
  exact au
def chkE(cards:List Int)(cs:List (List Int)):Int:=if okAll cards cs then 0 else 250
theorem Qjv(cards:List Int)(cs:List (List Int))(hl1:cards.length≤1000)(hl2:cs.length≤1000):FnOk Pg g0 16 [gV cards cs] (i6 (chkE cards cs)):=by
 have hall: ∀b1 b2 b3 b4 b5 b6:Bool,decide (1≤cards.length)=b1→decide (cards.length≤6)=b2→decide (cs.length≤40)=b3→okCs cards=b4→decide (prodT cards cards.length≤1024)=b5→cs.all (okRow cards)=b6→chkE cards cs=if b1&&(b2&&(b3&&(b4&&(b5&&b6))))then 0 else 250:=by
  intro b1 b2 b3 b4 b5 b6 h1 h2 h3 h4 h5 h6
  unfold chkE okAll
  rw[h1,h2,h3,h4,h5,h6]
 by_cases h1:1≤cards.length
 ·by_cases h2 : cards.length ≤ 6
  ·by_cases h3 : cs.length ≤ 40
   ·have hl := Qst cards cs h2
    cases h4:okCs cards with
    |false=>
     rw[hall _ _ _ _ _ _ rfl rfl rfl h4 rfl rfl]
     have he:(if(decide (1≤cards.length)&&(decide (cards.length≤6)&&(decide (cs.length≤40)&&(false&&(decide (prodT cards cards.length≤1024)&&cs.all (okRow cards))))):Bool)then(0:Int)else 250)=250:=by simp
     rw[he]
     have hl':=hl.mono (Qdb (by rw[h4];simp) h4)
     refine FnOk.of_vc vE_ok mixed Qad (n:=1000) (r:=[]) (S:=ckR 250) (hs:=[no 14,no 19,no 25,(0,.loop [0] (ckS cards cs 0) [(True,.ret,ckR 250)])]) ?_
     refine Eq.mp (by kernel_rfl:(let z0:=(↑cards.length:Int);An [Sm (i6 250),decide (z0<(1:Int))=false,decide (z0>(6:Int))=false,decide ((↑cs.length:Int)>(40:Int))=false,An [An [Zz,prodT cards 0=(1:Int),An [Sm cards.length,Sm (ints cards)],z0=z0,(↑(0:Nat):Int)=(0:Int),Tt],An [Sm [sl cards,gC cs],TT 2],Tt],Sat Pg none 0 (at' 16 [1,0,1,1,0,1,0]) (mkSt g0 80 (ckS cards cs 0)) (Qaf g0 80 [(True,Ex.ret,ckR (250:Int))]),(True→An [An [Sm (250:Int),Tt],Tt]),Tt])=_) ?_
     exact au
    | true =>
     have hl':=hl.mono (Qda h4 (by rw[h4];simp))
     have hpb:=Qkl cards.length (all_range.1 h4)
     have hp4:=pow4I h2
     by_cases h5:prodT cards cards.length≤1024
     ·have hr := chk_rows cards cs h2 h3 (chkE cards cs) (by rw [hall _ _ _ _ _ _ rfl rfl rfl h4 rfl rfl, decide_eq_true h1, decide_eq_true h2, decide_eq_true h3, decide_eq_true h5]; rfl)
      generalize chkE cards cs=e at*
      refine FnOk.of_vc vE_ok mixed Qad (n:=1000) (r:=[]) (S:=ckR e) (hs:=[no 14,no 19,no 25,(0,.loop [0] (ckS cards cs 0) [(True,.exit 0,ckX cards cs (prodT cards cards.length))]),no 45,(0,.loop [0] (cwS cards cs 0) [(True,.exit 2,cwX e)])]) ?_
      refine Eq.mp (by kernel_rfl:(let z0:=(↑cards.length:Int);let z1:=[sl cards,gC cs];let z2:=(↑cs.length:Int);let z3:=prodT cards cards.length;let z4:=(0:Int);An [Sm (i6 e),decide (z0<(1:Int))=false,decide (z0>(6:Int))=false,decide (z2>(40:Int))=false,An [An [Zz,prodT cards 0=(1:Int),An [Sm cards.length,Sm (ints cards)],z0=z0,(↑(0:Nat):Int)=z4,Tt],An [z1=z1,TT 2],Tt],Sat Pg none 0 (at' 16 [1,0,1,1,0,1,0]) (mkSt g0 80 (ckS cards cs 0)) (Qaf g0 80 [(True,Ex.exit 0,ckX cards cs z3)]),(True→An [decide (z3>(1024:Int))=false,An [An [Zz,z4=z4,An [Sm cs.length,Sm (List.map sl cs)],z2=z2,(↑(0:Nat):Int)=z4,Tt],An [z1=z1,TT 2],Tt],Sat Pg none 0 (at' 16 [1,0,1,1,1,1,1,1,0,1,0]) (mkSt g0 80 (cwS cards cs 0)) (Qaf g0 80 [(True,Ex.exit 2,cwX e)]),(True→An [An [e=e,Tt],Tt]),Tt]),Tt])=_) ?_
      exact au
     ·have he : chkE cards cs = 250 := by rw [hall _ _ _ _ _ _ rfl rfl rfl h4 (decide_eq_false h5) rfl]; simp
      rw[he]
      refine FnOk.of_vc vE_ok mixed Qad (n:=1000) (r:=[]) (S:=ckR 250) (hs:=[no 14,no 19,no 25,(0,.loop [0] (ckS cards cs 0) [(True,.exit 0,ckX cards cs (prodT cards cards.length))]),yes 45]) ?_
      refine Eq.mp (by kernel_rfl:(let z0:=(↑cards.length:Int);let z1:=prodT cards cards.length;An [Sm (i6 250),decide (z0<(1:Int))=false,decide (z0>(6:Int))=false,decide ((↑cs.length:Int)>(40:Int))=false,An [An [Zz,prodT cards 0=(1:Int),An [Sm cards.length,Sm (ints cards)],z0=z0,(↑(0:Nat):Int)=(0:Int),Tt],An [Sm [sl cards,gC cs],TT 2],Tt],Sat Pg none 0 (at' 16 [1,0,1,1,0,1,0]) (mkSt g0 80 (ckS cards cs 0)) (Qaf g0 80 [(True,Ex.exit 0,ckX cards cs z1)]),(True→An [decide (z1>(1024:Int))=true,An [Sm (250:Int),Tt],Tt]),Tt])=_) ?_
      exact au
   ·have he : chkE cards cs = 250 := by rw [hall _ _ _ _ _ _ rfl rfl (decide_eq_false h3) rfl rfl rfl]; simp
    rw[he]
    refine FnOk.of_vc vE_ok mixed Qad (n:=1000) (r:=[]) (S:=ckR 250) (hs:=[no 14,no 19,yes 25]) ?_
    refine Eq.mp (by kernel_rfl:(let z0:=(↑cards.length:Int);An [Sm (i6 250),decide (z0<(1:Int))=false,decide (z0>(6:Int))=false,decide ((↑cs.length:Int)>(40:Int))=true,An [Sm (250:Int),Tt],Tt])=_) ?_
    exact au
  ·have he : chkE cards cs = 250 := by rw [hall _ _ _ _ _ _ rfl (decide_eq_false h2) rfl rfl rfl rfl]; simp
   rw[he]
   refine FnOk.of_vc vE_ok mixed Qad (n:=1000) (r:=[]) (S:=ckR 250) (hs:=[no 14,yes 19]) ?_
   refine Eq.mp (by kernel_rfl:(let z0:=(↑cards.length:Int);An [Sm (i6 250),decide (z0<(1:Int))=false,decide (z0>(6:Int))=true,An [Sm (250:Int),Tt],Tt])=_) ?_
   exact au
 ·have he : chkE cards cs = 250 := by rw [hall _ _ _ _ _ _ (decide_eq_false h1) rfl rfl rfl rfl rfl]; simp
  rw[he]
  refine FnOk.of_vc vE_ok mixed Qad (n:=1000) (r:=[]) (S:=ckR 250) (hs:=[yes 14]) ?_
  refine Eq.mp (by kernel_rfl:(An [Sm (i6 250),decide ((↑cards.length:Int)<(1:Int))=true,An [Sm (250:Int),Tt],Tt])=_) ?_
  exact au
def negB(c:List Int):Bool:=c.any fun x=>decide (x<0)
def goodE(cards:List Int)(cs:List (List Int)):Int:=if okAll cards cs then(if cs.any negB then 260 else 0)else 250
theorem Qdo{α:Type}{l:List α}{k:Nat}{x:α}{p:α→Bool}(hx:l[k]? =some x)(h:(l.take k).any p=false)(hp:p x=false):(l.take (k+1)).any p=false:=by
 rw[List.take_add_one,hx,List.any_append,h];simp[hp]
theorem Qek{α:Type}{l:List α}{k:Nat}{x:α}{p:α→Bool}(hx:l[k]? =some x)(hp:p x=true):l.any p=true:=
 List.any_eq_true.2 ⟨x,List.mem_of_getElem? hx,hp⟩
abbrev wrS(cs:List (List Int))(i:Nat)(c:List Int)(j:Nat):SL:={sl:=[(14,gC cs),(15,i6 cs.length),(16,i6 i),(20,sl c),(21,i6 c.length),(22,i6 j)]}
abbrev wrB(cs:List (List Int))(i:Nat):SL:={sl:=[(14,gC cs),(15,i6 cs.length),(16,i6 i)]}
theorem cw_row(cs:List (List Int))(i:Nat)(c:List Int)(hl:c.length≤1000):
  Sat Pg none 0 (at' 23 [1,1,0,1,0,0,1,1,0,0,1,1,0]) (mkSt g0 30 (wrS cs i c 0)) (Qaf g0 30 [(negB c=false,.exit 2,wrB cs i),(negB c=true,.ret,ckR 260)]):=by
 refine Qa6 vE_ok mixed Qad (b:=at' 23 [1,1,0,1,0,0,1,1,0,0,1,1,0,0]) (by kernel_rfl) (fun k=>k≤c.length∧(c.take k).any (fun x=>decide (x<0))=false) (wrS cs i c) (fun k=>c.length-k) (fun k hk=>?_) 0 ⟨Nat.zero_le _,rfl⟩
 obtain⟨hk,hj⟩:=hk
 by_cases hlt:k<c.length
 ·have hld := @Qak c k hlt
  have hck:c[k]? =some (c.getD k 0):=by rw[List.getD_eq_getElem?_getD,List.getElem?_eq_getElem hlt];rfl
  by_cases h1:c.getD k 0<0
  ·have hb : negB c = true := Qek hck (decide_eq_true h1)
   refine .inr ⟨.ret,[],ckR 260,[yes 23,pl 24,ld 25 (i6 (c.getD k 0)),yes 27],1000,.inr (.inl ⟨hb,rfl,rfl⟩),?_⟩
   refine Eq.mp (by kernel_rfl:(let z0:=List.getD c k (0:Int);let z1:=(↑k:Int);An [decide (z1<(↑c.length:Int))=true,An [(0:Int)≤z1,z1<(↑c.length:Int)],headF (List.drop (k*1) (ints c))=some (i6 z0),decide (z0<(0:Int))=true,An [Sm (260:Int),Tt],Tt])=_) ?_
   exact au
  ·have hg := Qdo hck hj (decide_eq_false h1)
   refine .inl ⟨k+1,[],[yes 23,pl 24,ld 25 (i6 (c.getD k 0)),no 27,nu 28 (k+1:Nat)],1000,⟨hlt,hg⟩,by omega,?_⟩
   refine Eq.mp (by kernel_rfl:(let z0:=(↑c.length:Int);let z1:=(↑(k+1):Int);let z2:=(↑k:Int);let z3:=List.getD c k (0:Int);An [decide (z2<z0)=true,An [(0:Int)≤z2,z2<z0],headF (List.drop (k*1) (ints c))=some (i6 z3),decide (z3<(0:Int))=false,wr .i64 (z2+(1:Int))=z1,An [An [Sm cs.length,Sm (List.map sl cs)],Sm (↑cs.length:Int),Sm (↑i:Int),An [Sm c.length,Sm (ints c)],z0=z0,z1=z1,Tt],Tt])=_) ?_
   exact au
 ·have : k = c.length := by omega
  subst this
  rw[List.take_length]at hj
  refine .inr ⟨.exit 2,[],wrB cs i,[no 23],1000,.inl ⟨hj,rfl,rfl⟩,?_⟩
  refine Eq.mp (by kernel_rfl:(An [decide ((↑c.length:Int)<(↑c.length:Int))=false,An [An [Sm cs.length,Sm (List.map sl cs)],Sm (↑cs.length:Int),Sm (↑i:Int),Tt],Tt])=_) ?_
  exact au
theorem cw_rows(cs:List (List Int))(h40:cs.length≤1000)(hcl: ∀c∈cs,c.length≤1000):
  Sat Pg none 0 (at' 23 [1,1,0,1,0]) (mkSt g0 30 (wrB cs 0)) (Qaf g0 30 [(cs.any negB=false,.exit 0,{sl:=[]}),(cs.any negB=true,.ret,ckR 260)]):=by
 refine Qa6 vE_ok mixed Qad (b:=at' 23 [1,1,0,1,0,0]) (by kernel_rfl) (fun k=>k≤cs.length∧(cs.take k).any negB=false) (wrB cs) (fun k=>cs.length-k) (fun k hk=>?_) 0 ⟨Nat.zero_le _,rfl⟩
 obtain⟨hk,hj⟩:=hk
 by_cases hlt:k<cs.length
 ·have hck : cs[k]? = some cs[k] := List.getElem?_eq_getElem hlt
  have hlc:=hcl _ (List.getElem_mem hlt)
  generalize cs[k]=c at*
  have hld:headF ((cs.map sl).drop (k*1))=some (sl c):=Qcu hck
  have hrow:=cw_row cs k c hlc
  cases hok:negB c with
  |false=>
   have hr:=hrow.mono (Qda hok (by rw[hok];simp))
   refine .inl ⟨k+1,[],[yes 17,pl 18,ld 19 (sl c),(0,.loop [] (wrS cs k c 0) [(True,.exit 2,wrB cs k)]),nu 29 (k+1:Nat)],1000,⟨hlt,Qdo hck hj hok⟩,by omega,?_⟩
   refine Eq.mp (by kernel_rfl:(let z0:=(↑cs.length:Int);let z1:=(↑k:Int);let z2:=List.map sl cs;let z3:=(↑(k+1):Int);An [decide (z1<z0)=true,An [(0:Int)≤z1,z1<z0],headF (List.drop (k*1) z2)=some (sl c),An [An [An [Sm cs.length,z2=z2],z0=z0,z1=z1,An [Sm c.length,Sm (ints c)],Sm (↑c.length:Int),(↑(0:Nat):Int)=(0:Int),Tt],Tt],Sat Pg none 0 (at' 23 [1,1,0,1,0,0,1,1,0,0,1,1,0]) (mkSt g0 30 (wrS cs k c 0)) (Qaf g0 30 [(True,Ex.exit 2,wrB cs k)]),(True→An [wr .i64 (z1+(1:Int))=z3,An [An [Sm cs.length,z2=z2],z0=z0,z3=z3,Tt],Tt]),Tt])=_) ?_
   exact au
  |true=>
   have hr:=hrow.mono (Qdb (by rw[hok];simp) hok)
   refine .inr ⟨.ret,[],ckR 260,[yes 17,pl 18,ld 19 (sl c),(0,.loop [] (wrS cs k c 0) [(True,.ret,ckR 260)])],1000,.inr (.inl ⟨Qek hck hok,rfl,rfl⟩),?_⟩
   refine Eq.mp (by kernel_rfl:(let z0:=(↑cs.length:Int);let z1:=(↑k:Int);let z2:=List.map sl cs;An [decide (z1<z0)=true,An [(0:Int)≤z1,z1<z0],headF (List.drop (k*1) z2)=some (sl c),An [An [An [Sm cs.length,z2=z2],z0=z0,z1=z1,An [Sm c.length,Sm (ints c)],Sm (↑c.length:Int),(↑(0:Nat):Int)=(0:Int),Tt],Tt],Sat Pg none 0 (at' 23 [1,1,0,1,0,0,1,1,0,0,1,1,0]) (mkSt g0 30 (wrS cs k c 0)) (Qaf g0 30 [(True,Ex.ret,ckR (260:Int))]),(True→An [An [Sm (260:Int),Tt],Tt]),Tt])=_) ?_
   exact au
 ·have : k = cs.length := by omega
  subst this
  rw[List.take_length]at hj
  refine .inr ⟨.exit 0,[],{sl:=[]},[no 17],1000,.inl ⟨hj,rfl,rfl⟩,?_⟩
  refine Eq.mp (by kernel_rfl:(An [decide ((↑cs.length:Int)<(↑cs.length:Int))=false,Tt,Tt])=_) ?_
  exact au
theorem Qep(cards:List Int)(cs:List (List Int))(hl1:cards.length≤1000)(hl2:cs.length≤1000)(hcl: ∀c∈cs,c.length≤1000):FnOk Pg g0 23 [gV cards cs] (i6 (goodE cards cs)):=by
 have hc:=Qjv cards cs hl1 hl2
 have hr:=cw_rows cs hl2 hcl
 cases hok:okAll cards cs with
 |false=>
  have e1:chkE cards cs=250:=by unfold chkE;rw[hok];rfl
  have e2:goodE cards cs=250:=by unfold goodE;rw[hok];rfl
  rw[e1]at hc
  rw[e2]
  refine FnOk.of_vc vE_ok mixed Qad (n:=1000) (r:=[]) (S:=ckR 250) (hs:=[fn 9 (i6 250)]) ?_
  refine Eq.mp (by kernel_rfl:(An [Sm (i6 250),An [TT 2,Tt],FnOk Pg g0 16 [V.agg [V.im cards.length (ints cards),V.im cs.length (List.map sl cs)]] (i6 250),Tt,An [Sm (250:Int),Tt],Tt])=_) ?_
  exact au
 | true =>
  have e1:chkE cards cs=0:=by unfold chkE;rw[hok];rfl
  rw[e1]at hc
  cases hn:cs.any negB with
  |false=>
   have e2:goodE cards cs=0:=by unfold goodE;rw[hok,hn];rfl
   rw[e2]
   have hr:=hr.mono (Qda hn (by rw[hn];simp))
   refine FnOk.of_vc vE_ok mixed Qad (n:=1000) (r:=[]) (S:=ckR 0) (hs:=[fn 9 (i6 0),(0,.loop [] (wrB cs 0) [(True,.exit 0,{sl:=[]})])]) ?_
   refine Eq.mp (by kernel_rfl:(An [Sm (i6 0),An [TT 2,Tt],FnOk Pg g0 16 [V.agg [V.im cards.length (ints cards),V.im cs.length (List.map sl cs)]] (i6 0),Tt,An [An [An [Sm cs.length,Sm (List.map sl cs)],Sm (↑cs.length:Int),(↑(0:Nat):Int)=(0:Int),Tt],Tt],Sat Pg none 0 (at' 23 [1,1,0,1,0]) (mkSt g0 30 (wrB cs 0)) (Qaf g0 30 [(True,Ex.exit 0,SL.mk [] [] [] [])]),(True→An [An [Sm (0:Int),Tt],Tt]),Tt])=_) ?_
   exact au
  |true=>
   have e2:goodE cards cs=260:=by unfold goodE;rw[hok,hn];rfl
   rw[e2]
   have hr:=hr.mono (Qdb (by rw[hn];simp) hn)
   refine FnOk.of_vc vE_ok mixed Qad (n:=1000) (r:=[]) (S:=ckR 260) (hs:=[fn 9 (i6 0),(0,.loop [] (wrB cs 0) [(True,.ret,ckR 260)])]) ?_
   refine Eq.mp (by kernel_rfl:(An [Sm (i6 260),An [TT 2,Tt],FnOk Pg g0 16 [V.agg [V.im cards.length (ints cards),V.im cs.length (List.map sl cs)]] (i6 0),Tt,An [An [An [Sm cs.length,Sm (List.map sl cs)],Sm (↑cs.length:Int),(↑(0:Nat):Int)=(0:Int),Tt],Tt],Sat Pg none 0 (at' 23 [1,1,0,1,0]) (mkSt g0 30 (wrB cs 0)) (Qaf g0 30 [(True,Ex.ret,ckR (260:Int))]),(True→An [An [Sm (260:Int),Tt],Tt]),Tt])=_) ?_
   exact au
def owV(h:Nat):Nat→V
 |0=>.nils
 |n+1=>.sl h 0 (n+1) none
def owL(t:Nat)(l:List V):Nat→List O
 |0=>[]
 | _+1=>[.row t (some 1) l]
def comp(cs:List (List Int)):List (List Int):=cs.filter fun c=> !negB c
theorem Qsz{cs:List (List Int)}{k:Nat}{c:List Int}(h:cs[k]? =some c):comp (cs.take (k+1))=comp (cs.take k)++if negB c then[]else[c]:=by
 unfold comp
 rw[List.take_add_one,h,List.filter_append]
 cases hn:negB c<;>simp[hn]
def entR(r b:Nat):Nat→List (Nat×List Nat)→List (V×V×Nat)
 | _,[]=>[]
 |t,e::es=>(i6 (e.1:Nat),.sl (b+t) 0 r (some (r-r)),t)::entR r b (t+1) es
def idxOf(q:Nat):List (Nat×List Nat)→Option Nat
 |[]=>none
 |e::es=>if e.1=q then some 0 else(idxOf q es).map (· +1)
theorem Qgv(r b q:Nat): ∀(es:List (Nat×List Nat))(t j:Nat),findV .i64 (q:Int) (entR r b t es) j=some ((idxOf q es).map fun a=>(j+a,V.sl (b+t+a) 0 r (some (r-r))))
 |[],_,_=>rfl
 | e :: es, t, j => by
  unfold entR findV idxOf
  rw[if_pos rfl]
  by_cases h:e.1=q
  ·rw[if_pos (by rw[h]),if_pos h];rfl
  ·rw [if_neg (by intro h'; exact h (Int.ofNat.inj h').symm), if_neg h, Qgv r b q es (t + 1) (j + 1)]
   cases idxOf q es with
   |none=>rfl
   |some a=>
    simp only[Option.map_some]
    rw[show j+1+a=j+(a+1)by omega,show b+(t+1)+a=b+t+(a+1)by omega]
theorem Qpl{r q k:Nat}: ∀{es:List (Nat×List Nat)},idxOf q es=none→bump r q k es=es++[(q,(List.replicate r 0).set k 1)]
 |[],_=>rfl
 | (p, l) :: es, h => by
  unfold idxOf at h
  by_cases hp:p=q
  ·rw[if_pos hp]at h;cases h
  ·rw [if_neg hp] at h
   unfold bump
   rw[if_neg hp,Qpl (by simpa using h)];rfl
theorem Qpm{r q k a:Nat}: ∀{es:List (Nat×List Nat)}{a:Nat},idxOf q es=some a→∃l,es[a]? =some (q,l)∧bump r q k es=es.set a (q,l.set k (l.getD k 0+1))
 |[],_,h=>by cases h
 | (p, l) :: es, a, h => by
  unfold idxOf at h
  unfold bump
  by_cases hp:p=q
  ·rw [if_pos hp] at h; cases h
   subst hp
   exact⟨l,rfl,by rw[if_pos rfl];rfl⟩
  ·rw [if_neg hp] at h
   rw[if_neg hp]
   cases hi:idxOf q es with
   |none=>rw[hi]at h;cases h
   |some a'=>
    rw[hi]at h;cases h
    obtain⟨l',h1,h2⟩:=Qpm (a:=a) (r:=r) (k:=k) hi
    exact⟨l',by simpa using h1,by rw[h2];rfl⟩
theorem Qlz(r b:Nat)(e:Nat×List Nat): ∀(es:List (Nat×List Nat))(t:Nat),entR r b t (es++[e])=entR r b t es++[(i6 (e.1:Nat),.sl (b+(t+es.length)) 0 r (some (r-r)),t+es.length)]
 |[],t=>rfl
 |x::es,t=>by
  rw[List.cons_append,entR,entR,Qlz r b e es (t+1),List.cons_append,List.length_cons,show t+1+es.length=t+(es.length+1)by omega]
theorem Qpw(r b q:Nat)(l l':List Nat): ∀(es:List (Nat×List Nat))(t a:Nat),es[a]? =some (q,l)→entR r b t (es.set a (q,l'))=entR r b t es
 |[],_,_,h=>by simp at h
 |x::es,t,0,h=>by
  obtain rfl:x=(q,l):=by simpa using h
  rfl
 |x::es,t,a+1,h=>by
  rw[List.set_cons_succ,entR,entR,Qpw r b q l l' es (t+1) a (by simpa using h)]
section
variable (cards:List Nat) (cs:List (List Nat)) (v ps r:Nat)
abbrev dO:O:=.row 31 none [nl cards,cV cs]
abbrev fbS(i:Nat):List (Nat×V):=[(1,i6 v),(2,u6 ps),(3,.ptr 0 0),(6,.ptr 1 0),(7,i6 r),(8,.mp 2),(28,cV cs),(29,i6 cs.length),(30,i6 i)]
abbrev frS(vals:List Nat)(i:Nat)(q:Nat×Nat):List (Nat×V):=[(1,i6 v),(2,u6 ps),(3,.ptr 0 0),(6,.ptr 1 0),(7,i6 r),(8,.mp 2),(28,cV cs),(29,i6 cs.length),(30,i6 i),(10,nl vals),(11,i6 q.2),(35,nl cards),(36,i6 cards.length),(37,i6 q.1)]
abbrev frX(vals:List Nat)(i:Nat)(w:Nat):List (Nat×V):=[(1,i6 v),(2,u6 ps),(3,.ptr 0 0),(6,.ptr 1 0),(7,i6 r),(8,.mp 2),(28,cV cs),(29,i6 cs.length),(30,i6 i),(10,nl vals),(11,i6 w)]
end
theorem fam_row(cards:List Nat)(cs:List (List Nat))(v ps r:Nat)(vals:List Nat)(i:Nat)(hc:CardsOk cards)(hv:CaseOk cards vals)(H:T O)(nx:Nat)(lg:List Nat)(w:Nat)(hw:w=rowN cards ps vals cards.length):
  Sat Pg none 0 (at' 26 [1,1,1,0,1,0,0,1,1,0,0,1,1,0,1,0]) (mkSo g0 113 (frS cards cs v ps r vals i (0,0)) H nx lg) (Qmt g0 113 H nx lg [(True,.exit 2,frX cs v ps r vals i w)]):=by
 refine loopFr (b:=at' 26 [1,1,1,0,1,0,0,1,1,0,0,1,1,0,1,0,0]) (by kernel_rfl) (fun q=>q.1≤cards.length∧q.2=rowN cards ps vals q.1) (frS cards cs v ps r vals i) (fun q=>cards.length-q.1) _ H nx lg (fun q G hq hN hE=>?_) (0,0) ⟨Nat.zero_le _,rfl⟩
 obtain⟨k,u⟩:=q
 obtain⟨hk,hu⟩:=hq
 dsimp only at hk hu
 have h6:=hc.six
 by_cases hlt:k<cards.length
 ·have hcd := hc.each k hlt
  have hvl:=hv.lt k hlt
  have hlen:=hv.len
  have hb:=rowN_bd hc hv ps (k:=k) (by omega)
  have hld:=@Qea cards k hlt
  have hld2:=@Qea vals k (by omega)
  have hshr:=@shr_u (Qae Pg) 50 ps k (by omega)
  have hand:=@and1_u (Qae Pg) 50 (ps/2^k)
  rw[←hu]at hb
  by_cases hbit:ps/2^k%2=1
  ·have hrow : rowN cards ps vals (k + 1) = u * cards.getD k 0 + vals.getD k 0 := by
    show(if _ then _ else _)=_
    rw[if_pos hbit,hu]
   have hmul:u*cards.getD k 0≤4096*4:=Nat.mul_le_mul (by omega) hcd.2
   generalize cards.getD k 0=c at*
   generalize vals.getD k 0=x at*
   have hcast:((u:Int)*(c:Int))=((u*c:Nat):Int):=by simp
   generalize u*c=uc at*
   refine⟨[yes 38,pl 40,ld 41 (i6 (c:Nat)),va 44 (u6 (ps/2^k:Nat)),va 45 (u6 (ps/2^k%2:Nat)),yes 46,nu 49 (uc:Nat),pl 52,ld 53 (i6 (x:Nat)),nu 54 (uc+x:Nat),nu 55 (k+1:Nat),toO (frS cards cs v ps r vals i (k+1,uc+x))],1000,?_⟩
   refine Eq.mp (by kernel_rfl:(let z0:=(↑k:Int);let z1:=(↑cards.length:Int);let z2:=u6 ↑(ps/2^k);An [decide (z0<z1)=true,An [(0:Int)≤z0,z0<z1],headF (List.drop (k*1) (nt cards))=some (i6 ↑c),binV (Qae Pg) .shr 50 (u6 ↑ps) (i6 ↑k)=some z2,binV (Qae Pg) .and 50 z2 (u6 1)=some (u6 ↑(ps/2^k%2)),((↑(ps/2^k%2):Int)==(1:Int))=true,wr .i64 ((↑u:Int)*(↑c:Int))=(↑uc:Int),An [(0:Int)≤z0,z0<(↑vals.length:Int)],headF (List.drop (k*1) (nt vals))=some (i6 ↑x),wr .i64 ((↑uc:Int)+(↑x:Int))=(↑(uc+x):Int),wr .i64 (z0+(1:Int))=(↑(k+1):Int),G Ex.normal (frS cards cs v ps r vals i (k+1,uc+x)) H nx lg,Sm (i6 ↑v),Sm (u6 ↑ps),Sm (V.ptr 0 0),Sm (V.ptr 1 0),Sm (i6 ↑r),Sm (V.mp 2),Sm (cV cs),Sm (i6 ↑cs.length),Sm (i6 ↑i),Sm (nl vals),Sm (i6 ↑(uc+x)),Sm (nl cards),Sm (i6 ↑cards.length),Sm (i6 ↑(k+1)),Tt])=_) ?_
   (repeat'(first|(with_reducible apply And.intro)|(refine fun(_:True)=>?_)))<;>first|exact aq|skip
   all_goals exact hN (k+1,uc+x) ⟨hlt,hrow.symm⟩ (by dsimp only;omega)
  ·have hrow : rowN cards ps vals (k + 1) = u := by
    show(if _ then _ else _)=_
    rw[if_neg hbit,hu]
   generalize cards.getD k 0=c at*
   refine⟨[yes 38,pl 40,ld 41 (i6 (c:Nat)),va 44 (u6 (ps/2^k:Nat)),va 45 (u6 (ps/2^k%2:Nat)),no 46,nu 55 (k+1:Nat),toO (frS cards cs v ps r vals i (k+1,u))],1000,?_⟩
   refine Eq.mp (by kernel_rfl:(let z0:=(↑k:Int);let z1:=(↑cards.length:Int);let z2:=u6 ↑(ps/2^k);An [decide (z0<z1)=true,An [(0:Int)≤z0,z0<z1],headF (List.drop (k*1) (nt cards))=some (i6 ↑c),binV (Qae Pg) .shr 50 (u6 ↑ps) (i6 ↑k)=some z2,binV (Qae Pg) .and 50 z2 (u6 1)=some (u6 ↑(ps/2^k%2)),((↑(ps/2^k%2):Int)==(1:Int))=false,wr .i64 (z0+(1:Int))=(↑(k+1):Int),G Ex.normal (frS cards cs v ps r vals i (k+1,u)) H nx lg,Sm (i6 ↑v),Sm (u6 ↑ps),Sm (V.ptr 0 0),Sm (V.ptr 1 0),Sm (i6 ↑r),Sm (V.mp 2),Sm (cV cs),Sm (i6 ↑cs.length),Sm (i6 ↑i),Sm (nl vals),Sm (i6 ↑u),Sm (nl cards),Sm (i6 ↑cards.length),Sm (i6 ↑(k+1)),Tt])=_) ?_
   (repeat'(first|(with_reducible apply And.intro)|(refine fun(_:True)=>?_)))<;>first|exact aq|skip
   all_goals exact hN (k+1,u) ⟨hlt,hrow.symm⟩ (by dsimp only;omega)
 ·have : k = cards.length := by omega
  subst this
  obtain rfl:u=w:=hu.trans hw.symm
  refine⟨[no 38,toO (frX cs v ps r vals i u)],1000,?_⟩
  refine Eq.mp (by kernel_rfl:(let z0:=(↑cards.length:Int);An [decide (z0<z0)=false,G (Ex.exit 2) (frX cs v ps r vals i u) H nx lg,Sm (i6 ↑v),Sm (u6 ↑ps),Sm (V.ptr 0 0),Sm (V.ptr 1 0),Sm (i6 ↑r),Sm (V.mp 2),Sm (cV cs),Sm (i6 ↑cs.length),Sm (i6 ↑i),Sm (nl vals),Sm (i6 ↑u),Tt])=_) ?_
  (repeat'(first|(with_reducible apply And.intro)|(refine fun(_:True)=>?_)))<;>first|exact aq|skip
  all_goals exact hE _ _ (.inl ⟨trivial,rfl,rfl⟩)
def Qaz(cards:List Nat)(v ps:Nat)(cs:List (List Nat)):List (Nat×Nat):=cs.map fun c=>(rowN cards ps c cards.length,c.getD v 0)
structure FamH(cards:List Nat)(cs:List (List Nat))(r:Nat)(es:List (Nat×List Nat))(M:Mem):Prop where
 h0:gt M.H 0=some (dO cards cs)
 h1:gt M.H 1=some (.row 44 none (arF Qap))
 h2:gt M.H 2=some (.map (entR r 3 0 es) es.length)
 nx:M.nx=3+es.length
 row: ∀a e,es[a]? =some e→gt M.H (3+a)=some (.row 3 none (nt e.2))∧e.2.length=r
abbrev FamI(cards:List Nat)(cs:List (List Nat))(v ps r:Nat)(i:Nat)(M:Mem):Prop:=i≤cs.length∧FamH cards cs r (Qao r (Qaz cards v ps (cs.take i))) M
theorem Qrs{cards:List Nat}{v ps i:Nat}{cs:List (List Nat)}{c:List Nat}(h:cs[i]? =some c):Qaz cards v ps (cs.take (i+1))=Qaz cards v ps (cs.take i)++[(rowN cards ps c cards.length,c.getD v 0)]:=by
 rw[List.take_add_one,h];simp[Qaz]
theorem famH_new{cards:List Nat}{cs:List (List Nat)}{r q k:Nat}{es:List (Nat×List Nat)}{H H':T O}{nx:Nat}{lg lg':List Nat}(h:FamH cards cs r es ⟨H,nx,lg⟩)(hi:idxOf q es=none)
  (hg: ∀j,gt H' j=if j=nx then some (.row 3 none (nt ((List.replicate r 0).set k 1)))else if j=2 then some (.map (entR r 3 0 es++[(i6 (q:Nat),.sl nx 0 r (some (r-r)),es.length)]) (es.length+1))else gt H j):FamH cards cs r (bump r q k es) ⟨H',nx+1,lg'⟩:=by
 have hnx:nx=3+es.length:=h.nx
 rw[Qpl hi]
 refine⟨?_,?_,?_,by simp only[List.length_append,List.length_cons,List.length_nil];omega,fun a e ha=>?_⟩
 ·rw[hg,if_neg (by omega),if_neg (by omega)];exact h.h0
 ·rw[hg,if_neg (by omega),if_neg (by omega)];exact h.h1
 ·rw [hg, if_neg (by omega), if_pos rfl, Qlz]
  simp only[Nat.zero_add,hnx,List.length_append,List.length_cons,List.length_nil]
 ·rw [hg]
  rw[List.getElem?_append]at ha
  split at ha
  ·rename_i hlt
   rw[if_neg (by omega),if_neg (by omega)]
   exact h.row a e ha
  ·rename_i hge
   have ha0:a=es.length:=by
    have:=(List.getElem?_eq_some_iff.1 ha).1
    simp at this;omega
   subst ha0
   rw[Nat.sub_self]at ha
   cases ha
   rw[if_pos hnx.symm]
   exact⟨rfl,by simp⟩
theorem famH_old{cards:List Nat}{cs:List (List Nat)}{r q k a:Nat}{l:List Nat}{es:List (Nat×List Nat)}{H H':T O}{nx:Nat}{lg lg':List Nat}(h:FamH cards cs r es ⟨H,nx,lg⟩)(hl:es[a]? =some (q,l))(hb:bump r q k es=es.set a (q,l.set k (l.getD k 0+1)))
  (hg: ∀j,gt H' j=if j=3+a then some (.row 3 none (nt (l.set k (l.getD k 0+1))))else gt H j):FamH cards cs r (bump r q k es) ⟨H',nx,lg'⟩:=by
 have hnx:nx=3+es.length:=h.nx
 rw[hb]
 have hr:=(h.row a _ hl).2
 refine⟨?_,?_,?_,by simp only[List.length_set];omega,fun b e he=>?_⟩
 ·rw[hg,if_neg (by omega)];exact h.h0
 ·rw[hg,if_neg (by omega)];exact h.h1
 ·rw[hg,if_neg (by omega),Qpw r 3 q l _ es 0 a hl,List.length_set];exact h.h2
 ·rw [hg]
  rw[List.getElem?_set]at he
  split at he
  ·rename_i hab
   subst hab
   split at he
   ·cases he
    rw[if_pos rfl]
    exact⟨rfl,by simpa using hr⟩
   ·cases he
  ·rename_i hab
   rw[if_neg (by omega)]
   exact h.row b e he
theorem Qiw{k:IntKind}{n:Int}{v:V}{b:Nat}: ∀{es:List (V×V×Nat)}{j:Nat},findV k n es j=some none→findV k n (es++[(.int k n,v,b)]) j=some (some (j+es.length,v))
 |[],j,_=>by simp[findV]
 | (x, y, c) :: es, j, h => by
  cases x<;>try(unfold findV at h;cases h;done)
  rename_i k' m
  unfold findV at h
  rw[List.cons_append]
  unfold findV
  split at h
  ·split at h
   ·cases h
   ·rename_i h1 h2
    rw[if_pos h1,if_neg h2,Qiw h,List.length_cons,show j+1+es.length=j+(es.length+1)by omega]
  ·cases h
theorem putE_new{k:IntKind}{n:Int}{v:V}{es:List (V×V×Nat)}{ck:Nat}(h:findV k n es 0=some none):putE k n v es ck=some (.map (es++[(.int k n,v,ck)]) (ck+1)):=by unfold putE;rw[h]
theorem Qgs(r b:Nat): ∀(es:List (Nat×List Nat))(t:Nat),(entR r b t es).length=es.length
 |[],_=>rfl
 |e::es,t=>by rw[entR,List.length_cons,Qgs r b es (t+1),List.length_cons]
theorem Qrh{r:Nat}{P:List (Nat×Nat)}(h: ∀p∈P,p.2<r): ∀e∈Qao r P,∀x,e.2.getD x 0≤P.length:=by
 intro e he x
 have hE:=Qbz P h
 rw[hE.row e he]
 have h1:=Qdy (r:=r) P e.1 h
 rw[List.getD_eq_getElem?_getD]
 cases hx:(rowL P r e.1)[x]? with
 |none=>exact Nat.zero_le _
 |some y=>exact Nat.le_trans (Qdx (List.mem_of_getElem? hx)) h1
theorem pairs_lt{cards:List Nat}{v ps:Nat}{cs:List (List Nat)}(hcs: ∀c∈cs,CaseOk cards c)(hv:v<cards.length): ∀p∈Qaz cards v ps cs,p.2<cards.getD v 0:=by
 intro p hp
 obtain⟨c,hc,rfl⟩:=List.mem_map.1 hp
 exact(hcs c hc).lt v hv
theorem Qtl(cards:List Nat)(cs:List (List Nat))(v ps r:Nat)(hc:CardsOk cards)(hcs: ∀c∈cs,CaseOk cards c)(hv:v<cards.length)(hr:cards.getD v 0=r)(hm:cs.length≤40)(M:Mem)(hM:FamI cards cs v ps r 0 M):
  Sat Pg none 0 (at' 26 [1,1,1,0,1,0]) (mkSo g0 113 (fbS cs v ps r 0) M.H M.nx M.lg) (fun e st=>∃sl M',st=mkSo g0 113 sl M'.H M'.nx M'.lg∧e= .exit 0∧sl=fbS cs v ps r cs.length∧FamH cards cs r (Qao r (Qaz cards v ps cs)) M'):=by
 refine Qmi (b:=at' 26 [1,1,1,0,1,0,0]) (by kernel_rfl) (FamI cards cs v ps r) (fbS cs v ps r) (fun i=>cs.length-i) (fun e sl M'=>e= .exit 0∧sl=fbS cs v ps r cs.length∧FamH cards cs r (Qao r (Qaz cards v ps cs)) M') (fun i H nx lg G hI hN hE _=>?_) 0 M hM
 obtain⟨hi,hH⟩:=hI
 by_cases hlt:i<cs.length
 ·have hci : cs[i]? = some cs[i] := List.getElem?_eq_getElem hlt
  have hco:=hcs _ (List.getElem_mem hlt)
  have hps:=@Qrs cards v ps i cs _ hci
  generalize cs[i]=c at*
  have hN1:=fun H nx lg h=>hN (i+1) H nx lg ⟨by omega,h⟩ (by omega)
  rw[hps,Qc3]at hN1
  dsimp only at hN1
  have hbd:=Qrh (P:=Qaz cards v ps (cs.take i)) (r:=r) (by rw[←hr];exact pairs_lt (fun c hc=>hcs c (List.mem_of_mem_take hc)) hv)
  have hpl:(Qaz cards v ps (cs.take i)).length≤40:=by simp only[Qaz,List.length_map,List.length_take];omega
  generalize Qao r (Qaz cards v ps (cs.take i))=es at*
  have hw:=fam_row cards cs v ps r c i hc hco
  have hxr:c.getD v 0<r:=by have:=hco.lt v hv;omega
  have hr4:r≤4:=by have:=hc.each v hv;omega
  have hnx:nx=3+es.length:=hH.nx
  have h0:gt H 0=some (dO cards cs):=hH.h0
  have h2:gt H 2=some (.map (entR r 3 0 es) es.length):=hH.h2
  have hld1:headF ((cs.map nl).drop (i*1))=some (nl c):=Qcu hci
  have hld2:=@Qea c v (by have:=hco.len;omega)
  have hcl:=hco.len
  generalize hq:rowN cards ps c cards.length=q at*
  have hw':=fun H nx lg=>hw H nx lg q rfl
  generalize c.getD v 0=x at*
  cases hidx:idxOf q es with
  | none =>
   have hf1:findV .i64 (q:Int) (entR r 3 0 es) 0=some none:=by rw[Qgv,hidx];rfl
   refine⟨[yes 31,pl 32,ld 33 (nl c),lo_ 35 (dO cards cs) (nl cards),lpF (frS cards cs v ps r c i (0,0)) (.exit 2) (frX cs v ps r c i q),lk 58 (entR r 3 0 es) es.length none,mk 63,up (entR r 3 0 es) es.length (.map (entR r 3 0 es++[(i6 (q:Nat),.sl nx 0 r (some (r-r)),es.length)]) (es.length+1)),lk 66 (entR r 3 0 es++[(i6 (q:Nat),.sl nx 0 r (some (r-r)),es.length)]) (es.length+1) (some (es.length,.sl nx 0 r (some (r-r)))),pl 69,ld 70 (i6 x),pl 71,lo_ 72 (.row 3 none (nt (List.replicate r 0))) (i6 0),nu 73 1,pl 74,so (.row 3 none (nt (List.replicate r 0))) (nt ((List.replicate r 0).set x 1)),nu 75 (i+1:Nat),toO (fbS cs v ps r (i+1))],1000,?_⟩
   refine Eq.mp (by kernel_rfl:(let z1:=pt H nx (O.row 3 none (rep r [i6 0]));let z2:=List.replicate r 0;let z3:=V.sl nx 0 r (some (r-r));let z4:=entR r 3 0 es;let z5:=(↑r:Int);let z6:=i6 ↑cs.length;let z7:=(0:Int);let z9:=(↑i:Int);let y0:=(↑x:Int);let y5:=V.ptr 0 0;let y6:=V.ptr 1 0;let y7:=nl cards;let y8:=(↑q:Int);let y1:=some (O.row 3 none (nt z2));let y2:=[(i6 ↑q,z3,es.length)];let y3:=some (O.map z4 es.length);let y4:=nt (List.set z2 x 1);let z0:=O.map (z4++y2) (es.length+1);let z8:=pt z1 2 z0;An [decide (z9<(↑cs.length:Int))=true,An [z7≤z9,z9<(↑cs.length:Int)],headF (List.drop (i*1) (List.map nl cs))=some (nl c),gt H 0=some (dO cards cs),headF (dropF (0+0) [y7,cV cs])=some y7,An [Sm (i6 ↑v),Sm (u6 ↑ps),y5=y5,y6=y6,Sm (i6 ↑r),Sm (V.mp 2),Sm (cV cs),z6=z6,Sm (i6 ↑i),Sm (nl c),i6 0=i6 ↑(0:Nat),y7=y7,Sm (i6 ↑cards.length),i6 0=i6 ↑(0:Nat),Tt],Sat Pg none 0 (at' 26 [1,1,1,0,1,0,0,1,1,0,0,1,1,0,1,0]) (mkSo g0 113 (frS cards cs v ps r c i (0,0)) H nx lg) (Qmt g0 113 H nx lg [(True,Ex.exit 2,frX cs v ps r c i q)]),(True→An [An [gt H 2=y3,findV IntKind.i64 y8 z4 0=some none],An [z7≤z5,z5≤z5,(↑(8:Nat):Int)*z5≤(281474976710656:Int),z5≤(9223372036854775807:Int)],An [gt z1 2=y3,putE IntKind.i64 y8 z3 z4 es.length=some z0],An [gt z8 2=some z0,findV IntKind.i64 y8 (z4++y2) 0=some (some (es.length,z3))],An [z7≤(↑v:Int),(↑v:Int)<(↑c.length:Int)],headF (List.drop (v*1) (nt c))=some (i6 ↑x),An [z7≤y0,y0<z5],gt z8 nx=y1,headF (dropF (0+x*1) (nt z2))=some (i6 0),wr .i64 (z7+(1:Int))=(1:Int),An [z7≤y0,y0<z5],An [gt z8 nx=y1,layE (0+x*1) (nt z2) [i6 1]=some y4],wr .i64 (z9+(1:Int))=(↑(i+1):Int),G Ex.normal (fbS cs v ps r (i+1)) (pt z8 nx (O.row 3 none y4)) (nx+1) ([nx]++([2]++lg)),Sm (i6 ↑v),Sm (u6 ↑ps),y5=y5,y6=y6,Sm (i6 ↑r),Sm (V.mp 2),Sm (cV cs),z6=z6,Sm (i6 ↑(i+1)),Tt]),Tt])=_) ?_
   (repeat'(first|(with_reducible apply And.intro)|(refine fun(_:True)=>?_)))<;>first|exact aq|skip
   ·rfl
   ·rw[Qa2,if_neg (by omega)];exact h2
   ·exact putE_new hf1
   ·rw[Qa2,if_pos rfl]
   ·have := Qiw (v := .sl nx 0 r (some (r - r))) (b := es.length) hf1
    rw[Nat.zero_add,Qgs]at this;exact this
   ·rw[Qa2,if_neg (by omega),Qa2,if_pos rfl];exact congrArg (fun z=>some (O.row 3 none z)) (rep_nt r 0)
   ·rw[Qam,Nat.zero_add,Qea (by simpa using hxr),List.getD_eq_getElem?_getD,List.getElem?_replicate];simp[hxr]
   ·rw[Qa2,if_neg (by omega),Qa2,if_pos rfl];exact congrArg (fun z=>some (O.row 3 none z)) (rep_nt r 0)
   ·exact lay_nt (x:=1) (by simpa using hxr)
   ·refine hN1 _ _ _ (famH_new hH hidx (fun j => ?_))
    simp only[Qa2]
    split
    ·rfl
    ·split
     ·rfl
     ·rfl
  |some a=>
   obtain⟨l,hl,hb⟩:=@Qpm r q x 0 es a hidx
   have hf1:findV .i64 (q:Int) (entR r 3 0 es) 0=some (some (a,.sl (3+a) 0 r (some (r-r)))):=by rw[Qgv,hidx];simp only[Option.map_some,Nat.zero_add,Nat.add_zero]
   refine⟨[yes 31,pl 32,ld 33 (nl c),lo_ 35 (dO cards cs) (nl cards),lpF (frS cards cs v ps r c i (0,0)) (.exit 2) (frX cs v ps r c i q),lk 58 (entR r 3 0 es) es.length (some (a,.sl (3+a) 0 r (some (r-r)))),lk 66 (entR r 3 0 es) es.length (some (a,.sl (3+a) 0 r (some (r-r)))),pl 69,ld 70 (i6 x),pl 71,lo_ 72 (.row 3 none (nt l)) (i6 (l.getD x 0:Nat)),nu 73 (l.getD x 0+1:Nat),pl 74,so (.row 3 none (nt l)) (nt (l.set x (l.getD x 0+1))),nu 75 (i+1:Nat),toO (fbS cs v ps r (i+1))],1000,?_⟩
   have hrow:=hH.row a _ hl
   have hlb:=hbd _ (List.mem_of_getElem? hl) x
   obtain⟨hrow,hrl⟩:=hrow
   dsimp only at hrow hrl hlb
   refine Eq.mp (by kernel_rfl:(let z0:=List.getD l x 0;let z1:=findV IntKind.i64 (↑q:Int) (entR r 3 0 es) 0;let z2:=some (some (a,V.sl (3+a) 0 r (some (r-r))));let z3:=i6 ↑cs.length;let z4:=some (O.map (entR r 3 0 es) es.length);let z5:=(↑i:Int);let z6:=(↑x:Int);let z8:=some (O.row 3 none (nt l));let z9:=(0:Int);let y0:=V.ptr 0 0;let y1:=V.ptr 1 0;let y2:=nl cards;let z7:=nt (List.set l x (z0+1));An [decide (z5<(↑cs.length:Int))=true,An [z9≤z5,z5<(↑cs.length:Int)],headF (List.drop (i*1) (List.map nl cs))=some (nl c),gt H 0=some (dO cards cs),headF (dropF (0+0) [y2,cV cs])=some y2,An [Sm (i6 ↑v),Sm (u6 ↑ps),y0=y0,y1=y1,Sm (i6 ↑r),Sm (V.mp 2),Sm (cV cs),z3=z3,Sm (i6 ↑i),Sm (nl c),i6 0=i6 ↑(0:Nat),y2=y2,Sm (i6 ↑cards.length),i6 0=i6 ↑(0:Nat),Tt],Sat Pg none 0 (at' 26 [1,1,1,0,1,0,0,1,1,0,0,1,1,0,1,0]) (mkSo g0 113 (frS cards cs v ps r c i (0,0)) H nx lg) (Qmt g0 113 H nx lg [(True,Ex.exit 2,frX cs v ps r c i q)]),(True→An [An [gt H 2=z4,z1=z2],An [gt H 2=z4,z1=z2],An [z9≤(↑v:Int),(↑v:Int)<(↑c.length:Int)],headF (List.drop (v*1) (nt c))=some (i6 ↑x),An [z9≤z6,z6<(↑r:Int)],gt H (3+a)=z8,headF (dropF (0+x*1) (nt l))=some (i6 ↑(z0)),wr .i64 ((↑(z0):Int)+(1:Int))=(↑(z0+1):Int),An [z9≤z6,z6<(↑r:Int)],An [gt H (3+a)=z8,layE (0+x*1) (nt l) [i6 ↑(z0+1)]=some z7],wr .i64 (z5+(1:Int))=(↑(i+1):Int),G Ex.normal (fbS cs v ps r (i+1)) (pt H (3+a) (O.row 3 none z7)) nx ([3+a]++lg),Sm (i6 ↑v),Sm (u6 ↑ps),y0=y0,y1=y1,Sm (i6 ↑r),Sm (V.mp 2),Sm (cV cs),z3=z3,Sm (i6 ↑(i+1)),Tt]),Tt])=_) ?_
   (repeat'(first|(with_reducible apply And.intro)|(refine fun(_:True)=>?_)))<;>first|exact aq|skip
   ·rfl
   ·rw[Qam,Nat.zero_add];exact Qea (by omega)
   ·exact lay_nt (by omega)
   ·exact hN1 _ _ _ (famH_old hH hl hb (fun j=>Qa2 _ _ _ _))
 ·have : i = cs.length := by omega
  subst this
  rw[List.take_length]at hH
  refine⟨[no 31,toO (fbS cs v ps r cs.length)],1000,?_⟩
  refine Eq.mp (by kernel_rfl:(An [decide ((↑cs.length:Int)<(↑cs.length:Int))=false,G (Ex.exit 0) (fbS cs v ps r cs.length) H nx lg,Sm (i6 ↑v),Sm (u6 ↑ps),Sm (V.ptr 0 0),Sm (V.ptr 1 0),Sm (i6 ↑r),Sm (V.mp 2),Sm (cV cs),Sm (i6 ↑cs.length),Sm (i6 ↑cs.length),Tt])=_) ?_
  (repeat'(first|(with_reducible apply And.intro)|(refine fun(_:True)=>?_)))<;>first|exact aq|skip
  all_goals exact hE _ _ _ _ _ ⟨rfl,rfl,hH⟩
def arE:SL:={sl:=[]}
def bE(d:Nat)(b:Bool):SL:={sl:=[(d,.bool b)]}
theorem spI0{p n:Nat}(hp:2≤p)(h1:1≤n)(h2:n≤4611686018427387903):SpI p (Qdf p 63 n).1 (Qdf p 63 n).2 63 n 0:=
 ⟨h1,by(have:(2:Nat)^63=9223372036854775808:=by decide);omega,rfl,rfl⟩
abbrev TrI(n:Nat)(q:Nat×Nat×(Nat→Int)):Prop:=q.1≤18∧q.2.1=ofN n q.1∧q.2.2=ofF n q.1
theorem tr_next{n k:Nat}(h1:1≤n)(h2:n≤4611686018427387903)(hlt:k<18){m:Nat}{f:Nat→Int}(hm:m=ofN n k)(hf:f=ofF n k): ∃E M:Nat,E≤63∧SpI (primeN k) E M 63 m 0∧m≤4611686018427387903∧TrI n (k+1,M,upA f k E)∧(∀i,f i=upA f k ((0:Nat):Int) i):=by
 subst hm hf
 have hb:=Qut h1 k
 have hp:=Qbu k
 refine⟨(Qdf (primeN k) 63 (ofN n k)).1,(Qdf (primeN k) 63 (ofN n k)).2,(Qf6 hp.1 63 (ofN n k) hb.1).2.2,spI0 hp.1 hb.1 (by omega),by omega,⟨hlt,rfl,rfl⟩,fun i=>?_⟩
 unfold upA;split
 ·rename_i h;rw[Qus n k i (by omega)];rfl
 ·rfl
def mixF(a b:Nat→Int)(s:Int):Nat→Nat→Int
 |0=>a
 |k+1=>upA (mixF a b s k) k (a k+s*b k)
theorem Qcg(a b:Nat→Int)(s:Int): ∀k i,mixF a b s k i=if i<k then a i+s*b i else a i
 |0,i=>by simp[mixF]
 | k + 1, i => by
  unfold mixF upA
  by_cases h:i=k
  ·subst h;rw[if_pos rfl,if_pos (by omega)]
  ·rw [if_neg h, Qcg a b s k i]
   by_cases h2:i<k
   ·rw[if_pos h2,if_pos (by omega)]
   ·rw[if_neg h2,if_neg (by omega)]
abbrev cbS(a b:Nat→Int)(s:Int)(k:Nat):SL:={sl:=[(2,i6 s),(3,.ptr 0 0),(4,.ptr 1 0),(6,.ptr 2 0),(8,i6 k)],os:=[.row 44 none (arF (mixF a b s k)),.row 44 none (arF b),.row 44 none (arF Qap)]}
abbrev cbX(a b:Nat→Int)(s:Int):SL:={sl:=[(3,.ptr 0 0),(6,.ptr 1 0)],os:=[.row 44 none (arF (mixF a b s 18)),.row 44 none (arF Qap)]}
theorem Qll(a b:Nat→Int)(s:Int)(ha: ∀k,k<18→ -1000000≤a k∧a k≤1000000)(hb: ∀k,k<18→ -1000000≤s*b k∧s*b k≤1000000)(k:Nat)(hk:k≤18):
  Sat Pg none 0 (at' 25 [1,0,1,0]) (mkSt g0 23 (cbS a b s k)) (Qaf g0 23 [(True,.exit 0,cbX a b s)]):=by
 refine Qa6 vE_ok mixed Qad (b:=at' 25 [1,0,1,0,0]) (by kernel_rfl) (fun k=>k≤18) (cbS a b s) (fun k=>18-k) (fun k hk=>?_) k hk
 by_cases hlt:k<18
 ·have p0 := @Qkj 0 k hlt
  have p1:=@Qkj 1 k hlt
  have h0:headF (dropF k (arF (mixF a b s k)))=some (i6 (a k)):=by rw[Qj7 hlt,Qcg,if_neg (by omega)]
  have h1:=@Qj7 b k hlt
  have hst:layE k (arF (mixF a b s k)) [i6 (a k+s*b k)]=some (arF (mixF a b s (k+1))):=lay_ar hlt
  have ha:=ha k hlt
  have hb:=hb k hlt
  refine .inl ⟨k+1,[0,1,2],[yes 9,va 12 (.ptr 0 k),ld 13 (i6 (a k)),va 16 (.ptr 1 k),ld 17 (i6 (b k)),nu 18 (s*b k),nu 19 (a k+s*b k),va 20 (.ptr 0 k),st (arF (mixF a b s (k+1))),nu 21 (k+1:Nat)],1000,hlt,by omega,?_⟩
  refine Eq.mp (by kernel_rfl:(let z0:=arF (mixF a b s (k+1));let z2:=(↑(k+1):Int);let z3:=(↑k:Int);let z4:=arF (mixF a b s k);let z1:=placeV (Qae Pg) 44 (V.ptr 0 0) z3;An [decide (z3<(18:Int))=true,z1=some (V.ptr 0 k),headF (dropF k z4)=some (i6 (a k)),placeV (Qae Pg) 44 (V.ptr 1 0) z3=some (V.ptr 1 k),headF (dropF k (arF b))=some (i6 (b k)),wr .i64 (s*b k)=s*b k,wr .i64 (a k+s*b k)=a k+s*b k,z1=some (V.ptr 0 k),layE k z4 [i6 (a k+s*b k)]=some z0,wr .i64 (z3+(1:Int))=z2,An [s=s,Zz,Zz,Zz,z2=z2,Tt],An [z0=z0,TT 18],An [Sm (arF b),TT 18],An [Sm (arF Qap),TT 18],Tt])=_) ?_
  exact au
 ·have : k = 18 := by omega
  subst this
  refine .inr ⟨.exit 0,[0,2],cbX a b s,[],1000,.inl ⟨trivial,rfl,rfl⟩,?_⟩
  refine Eq.mp (by kernel_rfl:(An [An [Zz,Zz,Tt],An [Sm (arF (mixF a b s 18)),TT 18],An [Sm (arF Qap),TT 18],Tt])=_) ?_
  exact au
theorem Qfe(a b:Nat→Int)(s:Int)(ha: ∀k,k<18→ -1000000≤a k∧a k≤1000000)(hb: ∀k,k<18→ -1000000≤s*b k∧s*b k≤1000000):FnOk Pg g0 25 [ar a,ar b,i6 s] (ar (mixF a b s 18)):=by
 have l:=Qll a b s ha hb 0 (Nat.zero_le _)
 refine FnOk.of_vc vE_ok mixed Qad (n:=1000) (r:=[1]) (S:={sl:=[(6,.ptr 0 0)],os:=[.row 44 none (arF (mixF a b s 18))]}) (hs:=[(0,.loop [0,1,2] (cbS a b s 0) [(True,.exit 0,cbX a b s)])]) ?_
 refine Eq.mp (by kernel_rfl:(let z0:=mixF a b s 18;An [V.agg (arF z0)=ar z0,An [An [s=s,Zz,Zz,Zz,(↑(0:Nat):Int)=(0:Int),Tt],An [arF (mixF a b s 0)=arF a,TT 18],An [Sm (arF b),TT 18],An [arF Qap=[i6 0,i6 0,i6 0,i6 0,i6 0,i6 0,i6 0,i6 0,i6 0,i6 0,i6 0,i6 0,i6 0,i6 0,i6 0,i6 0,i6 0,i6 0],TT 18],Tt],Sat Pg none 0 (at' 25 [1,0,1,0]) (mkSt g0 23 (cbS a b s 0)) (Qaf g0 23 [(True,Ex.exit 0,cbX a b s)]),(True→An [An [Zz,Tt],An [Sm (arF z0),TT 18],Tt]),Tt])=_) ?_
 exact au
def factL:List Int:=
  [0, 0, 0, 0, 0, 0, 0, 0, 0, 0, 0, 0, 0, 0, 0, 0, 0, 0,
   0,0,0,0,0,0,0,0,0,0,0,0,0,0,0,0,0,0,
   1,0,0,0,0,0,0,0,0,0,0,0,0,0,0,0,0,0,
   1,1,0,0,0,0,0,0,0,0,0,0,0,0,0,0,0,0,
   3,1,0,0,0,0,0,0,0,0,0,0,0,0,0,0,0,0,
   3,1,1,0,0,0,0,0,0,0,0,0,0,0,0,0,0,0,
   4,2,1,0,0,0,0,0,0,0,0,0,0,0,0,0,0,0,
   4,2,1,1,0,0,0,0,0,0,0,0,0,0,0,0,0,0,
   7,2,1,1,0,0,0,0,0,0,0,0,0,0,0,0,0,0,
   7,4,1,1,0,0,0,0,0,0,0,0,0,0,0,0,0,0,
   8,4,2,1,0,0,0,0,0,0,0,0,0,0,0,0,0,0,
   8,4,2,1,1,0,0,0,0,0,0,0,0,0,0,0,0,0,
   10,5,2,1,1,0,0,0,0,0,0,0,0,0,0,0,0,0,
   10,5,2,1,1,1,0,0,0,0,0,0,0,0,0,0,0,0,
   11,5,2,2,1,1,0,0,0,0,0,0,0,0,0,0,0,0,
   11,6,3,2,1,1,0,0,0,0,0,0,0,0,0,0,0,0,
   15,6,3,2,1,1,0,0,0,0,0,0,0,0,0,0,0,0,
   15,6,3,2,1,1,1,0,0,0,0,0,0,0,0,0,0,0,
   16,8,3,2,1,1,1,0,0,0,0,0,0,0,0,0,0,0,
   16,8,3,2,1,1,1,1,0,0,0,0,0,0,0,0,0,0,
   18,8,4,2,1,1,1,1,0,0,0,0,0,0,0,0,0,0,
   18,9,4,3,1,1,1,1,0,0,0,0,0,0,0,0,0,0,
   19,9,4,3,2,1,1,1,0,0,0,0,0,0,0,0,0,0,
   19,9,4,3,2,1,1,1,1,0,0,0,0,0,0,0,0,0,
   22,10,4,3,2,1,1,1,1,0,0,0,0,0,0,0,0,0,
   22,10,6,3,2,1,1,1,1,0,0,0,0,0,0,0,0,0,
   23,10,6,3,2,2,1,1,1,0,0,0,0,0,0,0,0,0,
   23,13,6,3,2,2,1,1,1,0,0,0,0,0,0,0,0,0,
   25,13,6,4,2,2,1,1,1,0,0,0,0,0,0,0,0,0,
   25,13,6,4,2,2,1,1,1,1,0,0,0,0,0,0,0,0,
   26,14,7,4,2,2,1,1,1,1,0,0,0,0,0,0,0,0,
   26,14,7,4,2,2,1,1,1,1,1,0,0,0,0,0,0,0,
   31,14,7,4,2,2,1,1,1,1,1,0,0,0,0,0,0,0,
   31,15,7,4,3,2,1,1,1,1,1,0,0,0,0,0,0,0,
   32,15,7,4,3,2,2,1,1,1,1,0,0,0,0,0,0,0,
   32,15,8,5,3,2,2,1,1,1,1,0,0,0,0,0,0,0,
   34,17,8,5,3,2,2,1,1,1,1,0,0,0,0,0,0,0,
   34,17,8,5,3,2,2,1,1,1,1,1,0,0,0,0,0,0,
   35,17,8,5,3,2,2,2,1,1,1,1,0,0,0,0,0,0,
   35,18,8,5,3,3,2,2,1,1,1,1,0,0,0,0,0,0,
   38,18,9,5,3,3,2,2,1,1,1,1,0,0,0,0,0,0,
   38,18,9,5,3,3,2,2,1,1,1,1,1,0,0,0,0,0,
   39,19,9,6,3,3,2,2,1,1,1,1,1,0,0,0,0,0,
   39,19,9,6,3,3,2,2,1,1,1,1,1,1,0,0,0,0]
def entF(r:Nat):Nat→List (Nat×List Nat)→List (V×V×Nat)
 | _,[]=>[]
 |t,e::es=>(i6 (e.1:Nat),.im r (nt e.2),t)::entF r (t+1) es
theorem Qly{H:Nat→Option O}{F:Nat→Prop}{ρ:Nat→Option Nat}{r b:Nat}: ∀(es:List (Nat×List Nat))(t:Nat),(∀a e,es[a]? =some e→F (b+(t+a))∧H (b+(t+a))=some (.row 3 none (nt e.2)))→ViewE H F ρ (entF r t es) (entR r b t es)
 |[],_,_=>rfl
 |e::es,t,h=>by
  obtain⟨h1,h2⟩:=h 0 e rfl
  refine⟨_,_,_,rfl,rfl,.inr (.inr ⟨b+t,0,some (r-r),3,none,nt e.2,rfl,h1,h2,ViewP.of_hf _ (HfL_nt _)⟩),Qly es (t+1) (fun a e' ha=>?_)⟩
  have:=h (a+1) e' (by simpa using ha)
  rwa [show t+(a+1)=t+1+a by omega]at this
abbrev fcS(r:Nat)(os:List O):SL:={sl:=[(6,.ptr 1 0),(7,i6 r),(8,.mp 2)],os:=os}
abbrev fcO(cards:List Nat)(cs:List (List Nat))(r:Nat)(es:List (Nat×List Nat)):List O:=[dO cards cs,.row 44 none (arF Qap),.map (entF r 0 es) es.length]
abbrev fbO(cards:List Nat)(cs:List (List Nat)):List O:=[dO cards cs,.row 44 none (arF Qap),.map [] 0]
theorem HfL_ar(f:Nat→Int):HfL (arF f):=by repeat'(first|exact trivial|refine And.intro trivial ?_)
theorem Qtm(cards:List Nat)(cs:List (List Nat))(v ps r:Nat)(hc:CardsOk cards)(hcs: ∀c∈cs,CaseOk cards c)(hv:v<cards.length)(hr:cards.getD v 0=r)(hm:cs.length≤40):
  Sat Pg none 0 (at' 26 [1,1,1,0,1,0]) (mkSt g0 113 {sl:=fbS cs v ps r 0,os:=fbO cards cs}) (Qaf g0 113 [(True,.exit 0,fcS r (fcO cards cs r (Qao r (Qaz cards v ps cs))))]):=by
 have h0:FamI cards cs v ps r 0 ⟨ofOs .e 0 (fbO cards cs),3,[]⟩:=by
  refine⟨Nat.zero_le _,?_⟩
  have:Qao r (Qaz cards v ps (cs.take 0))=[]:=rfl
  rw[this]
  exact⟨rfl,rfl,rfl,rfl,fun a e h=>by simp at h⟩
 refine Sat.gc_post ((Qtl cards cs v ps r hc hcs hv hr hm _ h0).mono ?_)
 rintro e st ⟨sl,M',rfl,rfl,rfl,hH⟩
 generalize Qao r (Qaz cards v ps cs)=es at*
 obtain⟨H,nx,lg⟩:=M'
 have hnx:nx=3+es.length:=hH.nx
 have h0:=hH.h0
 have h1:=hH.h1
 have h2:=hH.h2
 rw[Qaw]at h0 h1 h2
 refine⟨[0,1,2],mkSt g0 113 (fcS r (fcO cards cs r es)),⟨rfl,fun g hg=>?_,by decide,rfl,rfl,fun i x hx=>?_,fun h o ho hl=>?_,fun h _ hlt=>absurd hlt (Nat.not_lt_zero _)⟩,.inl ⟨trivial,rfl,rfl⟩⟩
 ·refine ⟨Nat.zero_le _, ?_⟩
  show g<nx
  simp at hg;omega
 ·have b6 : gt (putL (blank 113) (fbS cs v ps r cs.length)) 6 = some (.ptr 1 0) := by kernel_rfl
  have b7:gt (putL (blank 113) (fbS cs v ps r cs.length)) 7=some (i6 r):=by kernel_rfl
  have b8:gt (putL (blank 113) (fbS cs v ps r cs.length)) 8=some (.mp 2):=by kernel_rfl
  rw[Qaw]at b6 b7 b8
  rcases putL_get _ _ _ _ hx with hmem|hmem
  ·simp only [List.mem_cons, List.not_mem_nil, or_false] at hmem
   rcases hmem with h|h|h<;>cases h
   ·exact⟨_,b6,1,rfl,rfl⟩
   ·exact⟨_,b7,rfl⟩
   ·exact⟨_,b8,2,rfl,rfl⟩
  ·rw[Qbj]at hmem;cases hmem
 ·rcases ofOs_get _ _ _ _ _ ho with ⟨_, hm⟩ | hm
  ·rw [Nat.sub_zero] at hm
   rcases h with _| _| _|h
   ·cases hm;exact⟨0,_,rfl,h0,_,rfl,ViewL.of_hf _ ⟨trivial,trivial,trivial⟩⟩
   ·cases hm;exact⟨1,_,rfl,h1,_,rfl,ViewL.of_hf _ (HfL_ar _)⟩
   ·cases hm
    refine⟨2,_,rfl,h2,_,rfl,Qly es 0 (fun a e ha=>⟨⟨Nat.zero_le _,?_,fun _ _=>Nat.zero_le _⟩,?_⟩)⟩
    ·simp;omega
    ·have := (hH.row a e ha).1
     rw[Qaw]at this
     rw[Nat.zero_add];exact this
   ·simp at hm
  ·simp at hm
theorem Qe0{g c:Nat}(h:c<44):placeV (Qae Pg) 106 (.ptr g 0) (c:Int)=some (.ptr g (c*18)):=by
 have h1:(Qae Pg).ty 106=some ⟨.array 44 44,792,6336,true,((Qae Pg).ty 106).bind (·.zero)⟩:=by kernel_rfl
 have h2:(Qae Pg).ty 44=some ⟨.array 18 3,18,144,true,((Qae Pg).ty 44).bind (·.zero)⟩:=by kernel_rfl
 unfold placeV
 rw[h1]
 dsimp only
 rw[h2]
 dsimp only
 rw[if_pos ⟨by omega,by omega⟩]
 simp[Qgc]
structure Qq5(F:Nat→Nat→Int)(tb:List V):Prop where
 take: ∀c,c<44→takeE 18 (dropF (c*18) tb)=some (arF (F c))
 bd: ∀c i,c<44→i<18→0≤F c i∧F c i≤50
 hf:HfL tb
def addA(f g:Nat→Int)(s:Int):Nat→Int:=fun i=>f i+s*g i
theorem comb(f g:Nat→Int)(s:Int)(ha: ∀k,k<18→ -1000000≤f k∧f k≤1000000)(hb: ∀k,k<18→ -1000000≤s*g k∧s*g k≤1000000):FnOk Pg g0 25 [ar f,ar g,i6 s] (ar (addA f g s)):=by
 have h:=Qfe f g s ha hb
 have e:arF (mixF f g s 18)=arF (addA f g s):=Qcq fun k hk=>by rw[Qcg,if_pos hk];rfl
 rw[show ar (mixF f g s 18)=ar (addA f g s)from congrArg V.agg e]at h
 exact h
section
variable (r:Nat) (E:List (V×V×Nat)) (n:Nat) (tb:List V) (seen:List Nat)
abbrev fmO(f:Nat→Int):List O:=[.dead,.row 44 none (arF Qap),.map E n,.row 106 none tb,.row 44 none (arF f),.iter (some 2) n seen n]
abbrev fmS(f:Nat→Int):SL:={sl:=[(6,.ptr 1 0),(7,i6 r),(14,.ptr 3 0),(15,.ptr 4 0),(78,.ptr 5 0)],os:=fmO E n tb seen f}
abbrev flS(l:List Nat)(q:Nat×Nat×(Nat→Int)):SL:={sl:=[(6,.ptr 1 0),(7,i6 r),(14,.ptr 3 0),(15,.ptr 4 0),(78,.ptr 5 0),(18,i6 q.2.1),(83,nl l),(84,i6 l.length),(85,i6 q.1)],os:=fmO E n tb seen q.2.2}
abbrev flX(s:Nat)(f:Nat→Int):SL:={sl:=[(6,.ptr 1 0),(7,i6 r),(14,.ptr 3 0),(15,.ptr 4 0),(78,.ptr 5 0),(18,i6 s)],os:=fmO E n tb seen f}
end
def sumA(F:Nat→Nat→Int)(f:Nat→Int)(l:List Nat):Nat→(Nat→Int)
 |0=>f
 |k+1=>addA (sumA F f l k) (F (l.getD k 0)) 1
theorem Qks(F:Nat→Nat→Int)(f:Nat→Int)(l:List Nat)(i:Nat): ∀k,k≤l.length→sumA F f l k i=f i+sumI ((l.take k).map fun c=>F c i)
 |0,_=>by simp[sumA,sumI]
 |k+1,h=>by
  have:=Qks F f l i k (by omega)
  unfold sumA addA
  rw[this,List.take_add_one,List.map_append,Qhv,List.getElem?_eq_getElem (by omega),List.getD_eq_getElem?_getD,List.getElem?_eq_getElem (by omega)]
  simp[sumI];omega
theorem Qm9{F:Nat→Nat→Int}{tb:List V}(h:Qq5 F tb){i:Nat}(hi:i<18): ∀l:List Nat,(∀c∈l,c<44)→0≤sumI (l.map fun c=>F c i)∧sumI (l.map fun c=>F c i)≤50*l.length
 |[],_=>by simp[sumI]
 |c::l,hl=>by
  have h1:=Qm9 h hi l (fun x hx=>hl x (List.mem_cons_of_mem _ hx))
  have h2:=h.bd c i (hl c List.mem_cons_self) hi
  simp only[List.map_cons,sumI,List.length_cons]
  omega
theorem fam_list(r n:Nat)(E:List (V×V×Nat))(tb:List V)(seen:List Nat)(F:Nat→Nat→Int)(ht:Qq5 F tb)(hE:HfE E)(l:List Nat)(hl: ∀c∈l,c<44)(hl4:l.length≤4)(hs:sumN l≤43)(f:Nat→Int)(hf: ∀k,k<18→ -900000≤f k∧f k≤900000)(g:Nat→Int)(hg:g=sumA F f l l.length)(s:Nat)(hsum:s=sumN l):
  Sat Pg none 0 (at' 26 [1,1,1,1,1,1,0,1,0,0,1,1,0,1,1,0,1,0]) (mkSt g0 113 (flS r E n tb seen l (0,0,f))) (Qaf g0 113 [(True,.exit 6,flX r E n tb seen s g)]):=by
 refine Qa6 vE_ok mixed Qad (b:=at' 26 [1,1,1,1,1,1,0,1,0,0,1,1,0,1,1,0,1,0,0]) (by kernel_rfl) (fun q=>q.1≤l.length∧q.2.1=sumN (l.take q.1)∧q.2.2=sumA F f l q.1) (flS r E n tb seen l) (fun q=>l.length-q.1) (fun q hq=>?_) (0,0,f) ⟨Nat.zero_le _,rfl,rfl⟩
 obtain⟨k,u,a⟩:=q
 obtain⟨hk,hu,ha⟩:=hq
 dsimp only at hk hu ha
 by_cases hlt:k<l.length
 ·have hld := @Qea l k hlt
  have hc:l.getD k 0<44:=hl _ (by rw[List.getD_eq_getElem?_getD,List.getElem?_eq_getElem hlt];exact List.getElem_mem hlt)
  have htk:=ht.take _ hc
  have hpl:=@Qe0 3 _ hc
  have hsn:sumN (l.take (k+1))=u+l.getD k 0:=by
   rw[List.take_add_one,Qhw,←hu,List.getElem?_eq_getElem hlt,List.getD_eq_getElem?_getD,List.getElem?_eq_getElem hlt];simp[sumN]
  have hle:sumN (l.take (k+1))≤sumN l:=by
   have:=Qhw (l.take (k+1)) (l.drop (k+1))
   rw[List.take_append_drop]at this;omega
  have hbd:=fun i(hi:i<18)=>Qm9 ht hi (l.take k) (fun c hc=>hl c (List.mem_of_mem_take hc))
  have hcb:=fun i(hi:i<18)=>ht.bd _ i hc hi
  have hcomb:=comb a (F (l.getD k 0)) 1 (fun i hi=>by
   have:=hbd i hi;have:=hf i hi
   rw[ha,Qks _ _ _ _ _ hk]
   have:(l.take k).length≤4:=by rw[List.length_take];omega
   omega) (fun i hi=>by have:=hcb i hi;omega)
  have hnext:addA a (F (l.getD k 0)) 1=sumA F f l (k+1):=by rw[ha];rfl
  have htf:=ht.hf
  generalize l.getD k 0=c at*
  generalize F c=fc at*
  refine .inl ⟨(k+1,u+c,addA a fc 1),[0,1,2,3,4,5],[yes 86,pl 87,ld 88 (i6 c),nu 91 (u+c:Nat),va 94 (.ptr 3 (c*18)),ld 95 (ar fc),fn 96 (ar (addA a fc 1)),nu 97 (k+1:Nat)],1000,⟨hlt,hsn.symm,hnext⟩,by dsimp only;omega,?_⟩
  generalize addA a fc 1=a' at*
  refine Eq.mp (by kernel_rfl:(let z0:=(↑l.length:Int);let z1:=(↑(u+c):Int);let z2:=(↑(k+1):Int);let z3:=(↑k:Int);An [decide (z3<z0)=true,An [(0:Int)≤z3,z3<z0],headF (List.drop (k*1) (nt l))=some (i6 ↑c),wr .i64 ((↑u:Int)+(↑c:Int))=z1,placeV (Qae Pg) 106 (V.ptr 3 0) (↑c:Int)=some (V.ptr 3 (c*18)),takeE 18 (dropF (c*18) tb)=some (arF fc),An [TT 18,TT 18,Tt,Tt],FnOk Pg g0 25 [V.agg (arF a),V.agg (arF fc),i6 1] (ar a'),Tt,wr .i64 (z3+(1:Int))=z2,An [Zz,Sm (↑r:Int),Zz,Zz,Zz,z1=z1,An [Sm l.length,Sm (nt l)],z0=z0,z2=z2,Tt],Tt,An [Sm (arF Qap),TT 18],An [E=E,HfE E,n=n],An [tb=tb,HfL tb],An [Sm (arF a'),TT 18],An [n=n,Sm seen,n=n],Tt])=_) ?_
  exact au
 ·have : k = l.length := by omega
  subst this
  rw[List.take_length]at hu
  obtain rfl:u=s:=hu.trans hsum.symm
  obtain rfl:a=g:=ha.trans hg.symm
  have htf:=ht.hf
  refine .inr ⟨.exit 6,[0,1,2,3,4,5],flX r E n tb seen u a,[no 86],1000,.inl ⟨trivial,rfl,rfl⟩,?_⟩
  refine Eq.mp (by kernel_rfl:(An [decide ((↑l.length:Int)<(↑l.length:Int))=false,An [Zz,Sm (↑r:Int),Zz,Zz,Zz,Sm (↑u:Int),Tt],Tt,An [Sm (arF Qap),TT 18],An [E=E,HfE E,n=n],An [tb=tb,HfL tb],An [Sm (arF a),TT 18],An [n=n,Sm seen,n=n],Tt])=_) ?_
  exact au
section
variable (r:Nat) (key:Nat→Nat) (cl:Nat→List Nat)
abbrev Qh2:Nat→V×V×Nat:=fun a=>(i6 (key a:Nat),.im r (nt (cl a)),a)
theorem Qi0(seen:List Nat): ∀l:List Nat,leftE seen (l.map (Qh2 r key cl))=(l.filter fun a=> !seen.contains a).map (Qh2 r key cl)
 |[]=>rfl
 |a::l=>by
  rw[List.map_cons,leftE,Qi0 seen l,List.filter_cons]
  cases seen.contains a<;>rfl
theorem Qgd(n:Nat): ∀l:List Nat,(∀a∈l,a<n)→allOld n (l.map (Qh2 r key cl))=true
 |[],_=>rfl
 |a::l,h=>by
  rw[List.map_cons,allOld,Qgd n l (fun x hx=>h x (List.mem_cons_of_mem _ hx)),Bool.and_true]
  exact Nat.ble_eq_true_of_le (h a List.mem_cons_self)
theorem Qiu{a:Nat}: ∀{l:List Nat},a∈l→findB a (l.map (Qh2 r key cl))=some (i6 (key a:Nat),.im r (nt (cl a)))
 | b :: l, h => by
  rw[List.map_cons,findB]
  cases hb:Nat.beq b a with
  |true=>
   have:=Nat.eq_of_beq_eq_true hb
   subst this;rfl
  |false=>
   rw[cond_false]
   refine Qiu ((List.mem_cons.1 h).resolve_left ?_)
   rintro rfl
   simp at hb
theorem Qjl: ∀l:List Nat,HfE (l.map (Qh2 r key cl))
 |[]=>trivial
 |a::l=>⟨trivial,trivial,Qjl l⟩
end
theorem Qpu(r:Nat): ∀(es:List (Nat×List Nat))(t a:Nat),(entF r t es)[a]? =es[a]?.map fun e=>(i6 (e.1:Nat),V.im r (nt e.2),t+a)
 |[],_,_=>by simp[entF]
 |e::es,t,0=>by simp[entF]
 |e::es,t,a+1=>by
  rw[entF,List.getElem?_cons_succ,Qpu r es (t+1) a,List.getElem?_cons_succ,show t+1+a=t+(a+1)by omega]
theorem Qs7(r:Nat)(es:List (Nat×List Nat)):entF r 0 es=(List.range es.length).map (Qh2 r (fun a=>(es.getD a (0,[])).1) (fun a=>(es.getD a (0,[])).2)):=by
 apply List.ext_getElem?
 intro a
 rw[Qpu,List.getElem?_map,Nat.zero_add]
 by_cases h:a<es.length
 ·rw [List.getElem?_range h, List.getElem?_eq_getElem h]
  simp only[Option.map_some,Qh2,List.getD_eq_getElem?_getD,List.getElem?_eq_getElem h,Option.getD_some]
 ·rw[List.getElem?_eq_none (by omega),List.getElem?_eq_none (by simp;omega)];rfl
theorem Qqj{ks:List Nat}{n:Nat}(hn:ks.Nodup)(hk: ∀k∈ks,k<n):ks.length≤n:=by
 have hp:((List.range n).filter (fun j=>decide (j∈ks))).Perm ks:=by
  refine(List.perm_ext_iff_of_nodup (List.Nodup.sublist List.filter_sublist List.nodup_range) hn).2 fun a=>?_
  simp only[List.mem_filter,List.mem_range,decide_eq_true_eq]
  exact⟨fun h=>h.2,fun h=>⟨hk a h,h⟩⟩
 rw[←hp.length_eq]
 calc _≤(List.range n).length:=List.length_filter_le _ _
  _=n:=List.length_range
structure Qo4(r n:Nat)(cl:Nat→List Nat):Prop where
 r1:1≤r
 r4:r≤4
 n40:n≤40
 len: ∀a,a<n→(cl a).length=r
 sum: ∀a,a<n→sumN (cl a)≤40
theorem con_bd{F:Nat→Nat→Int}{tb:List V}(ht:Qq5 F tb){r n:Nat}{cl:Nat→List Nat}(h:Qo4 r n cl){a i:Nat}(ha:a<n)(hi:i<18): -250≤conF F r (cl a) i∧conF F r (cl a) i≤250:=by
 have h1:=Qm9 ht hi (cl a) (fun c hc=>by have:=Qdx hc;have:=h.sum a ha;omega)
 have h2:=h.len a ha
 have h3:=h.sum a ha
 have h4:=h.r4
 have h5:=ht.bd (r-1) i (by omega) hi
 have h6:=ht.bd (sumN (cl a)+(r-1)) i (by omega) hi
 unfold conF;omega
theorem Qu8{F:Nat→Nat→Int}{tb:List V}(ht:Qq5 F tb){r n:Nat}{cl:Nat→List Nat}(h:Qo4 r n cl){i:Nat}(hi:i<18): ∀l:List Nat,(∀a∈l,a<n)→ -250*(l.length:Int)≤sumI (l.map fun a=>conF F r (cl a) i)∧sumI (l.map fun a=>conF F r (cl a) i)≤250*(l.length:Int)
 |[],_=>by simp[sumI]
 |a::l,hl=>by
  have h1:=Qu8 ht h hi l (fun x hx=>hl x (List.mem_cons_of_mem _ hx))
  have h2:=con_bd ht h (hl a List.mem_cons_self) hi
  simp only[List.map_cons,sumI,List.length_cons]
  omega
abbrev fzS(f:Nat→Int):SL:={sl:=[(6,.ptr 1 0),(15,.ptr 4 0)],os:=[.dead,.row 44 none (arF Qap),.dead,.dead,.row 44 none (arF f),.dead]}
theorem fam_map(r n:Nat)(key:Nat→Nat)(cl:Nat→List Nat)(tb:List V)(F:Nat→Nat→Int)(ht:Qq5 F tb)(h:Qo4 r n cl)(E:List (V×V×Nat))(hE:E=(List.range n).map (Qh2 r key cl)):
  Sat Pg none 0 (at' 26 [1,1,1,1,1,1,0,1,0]) (mkSt g0 113 (fmS r E n tb [] Qap)) (Qaf g0 113 [(True,.exit 4,fzS (fun i=>sumI ((List.range n).map fun a=>conF F r (cl a) i)))]):=by
 refine(loopHG (b:=at' 26 [1,1,1,1,1,1,0,1,0,0]) (by kernel_rfl) (fun q:List Nat×(Nat→Int)=>q.1.Nodup∧(∀a∈q.1,a<n)∧∀i,i<18→q.2 i=sumI (q.1.map fun a=>conF F r (cl a) i)) (fun q=>fmS r E n tb q.1 q.2) (fun q=>n-q.1.length) (fun e S'=>e= .exit 4∧∃f,S'=fzS f∧∀i,i<18→f i=sumI ((List.range n).map fun a=>conF F r (cl a) i)) (fun q G hq hN hX _=>?_) ([],Qap) ⟨List.nodup_nil,fun _ h=>(by cases h),fun _ _=>rfl⟩).mono ?_
 ·obtain ⟨seen, f⟩ := q
  obtain⟨hn,hs,hf⟩:=hq
  dsimp only at hn hs hf hN
  have hle:=Qqj hn hs
  have hHf:HfE E:=by rw[hE];exact Qjl r key cl _
  have hleft:leftE seen E=((List.range n).filter fun a=> !seen.contains a).map (Qh2 r key cl):=by rw[hE];exact Qi0 r key cl seen _
  have hold:allOld n E=true:=by rw[hE];exact Qgd r key cl n _ (fun a ha=>List.mem_range.1 ha)
  have hids: ∀a∈(List.range n).filter (fun a=> !seen.contains a),a<n∧a∉seen:=by
   intro a ha
   obtain⟨h1,h2⟩:=List.mem_filter.1 ha
   refine⟨List.mem_range.1 h1,fun hm=>?_⟩
   simp[hm]at h2
  have hnil:(List.range n).filter (fun a=> !seen.contains a)=[]→∀i,i<18→f i=sumI ((List.range n).map fun a=>conF F r (cl a) i):=by
   intro he i hi
   have hp:seen.Perm (List.range n):=by
    refine(List.perm_ext_iff_of_nodup hn List.nodup_range).2 fun a=>⟨fun ha=>List.mem_range.2 (hs a ha),fun ha=>?_⟩
    by_cases hm:a∈seen
    ·exact hm
    ·have : a ∈ (List.range n).filter (fun a => !seen.contains a) := List.mem_filter.2 ⟨ha, by simpa using hm⟩
     rw[he]at this;cases this
   rw[hf i hi]
   exact Qm7 (hp.map _)
  have hfind: ∀a,a<n→findB a E=some (i6 (key a:Nat),.im r (nt (cl a))):=fun a ha=>by rw[hE];exact Qiu r key cl (List.mem_range.2 ha)
  have htf:=ht.hf
  have hr4:=h.r4
  have hr1:=h.r1
  have hn40:=h.n40
  have hfb: ∀i,i<18→ -10000≤f i∧f i≤10000:=fun i hi=>by
   have:=Qu8 ht h hi seen hs
   rw[hf i hi];omega
  have hp1:=@Qe0 3 (r-1) (by omega)
  have ht1:=ht.take (r-1) (by omega)
  have hstep: ∀a,a<n→a∉seen→G .normal (fmS r E n tb (seen++[a]) (addA (addA (sumA F f (cl a) (cl a).length) (F (r-1)) 1) (F (sumN (cl a)+(r-1))) (-1))):=fun a ha hm=>by
   refine hN (seen++[a],_) ⟨?_,?_,fun i hi=>?_⟩ ?_
   ·rw [List.nodup_append]
    refine⟨hn,by simp,fun x hx y hy=>?_⟩
    obtain rfl:=List.mem_singleton.1 hy
    rintro rfl;exact hm hx
   ·intro x hx
    rcases List.mem_append.1 hx with hx|hx
    ·exact hs x hx
    ·obtain rfl:=List.mem_singleton.1 hx;exact ha
   ·dsimp only
    rw[List.map_append,Qhv,←hf i hi]
    simp only[addA,Qks _ _ _ _ _ (Nat.le_refl _),List.take_length,List.map_cons,List.map_nil,sumI,conF]
    omega
   ·have : (seen ++ [a]).length ≤ n := Qqj (by
     rw[List.nodup_append]
     refine⟨hn,by simp,fun x hx y hy=>?_⟩
     obtain rfl:=List.mem_singleton.1 hy
     rintro rfl;exact hm hx) (fun x hx=>by
     rcases List.mem_append.1 hx with hx|hx
     ·exact hs x hx
     ·obtain rfl:=List.mem_singleton.1 hx;exact ha)
    simp only[List.length_append,List.length_cons,List.length_nil]at this⊢
    omega
  have hX':(List.range n).filter (fun a=> !seen.contains a)=[]→G (.exit 4) (fzS f):=fun he=>hX 4 _ ⟨rfl,f,rfl,hnil he⟩
  generalize (List.range n).filter (fun a=> !seen.contains a)=ids at*
  refine⟨[(0,.nx ids (Qh2 r key cl) (fun a=>[(81,.en a (i6 (key a:Nat)) (.im r (nt (cl a)))),(0,.loop [0,1,2,3,4,5] (flS r E n tb (seen++[a]) (cl a) (0,0,f)) [(True,.exit 6,flX r E n tb (seen++[a]) (sumN (cl a)) (sumA F f (cl a) (cl a).length))]),nu 100 (r-1:Nat),va 101 (.ptr 3 ((r-1)*18)),ld 102 (ar (F (r-1))),fn 103 (ar (addA (sumA F f (cl a) (cl a).length) (F (r-1)) 1)),nu 107 (sumN (cl a)+r:Nat),nu 108 (sumN (cl a)+(r-1):Nat),va 109 (.ptr 3 ((sumN (cl a)+(r-1))*18)),ld 110 (ar (F (sumN (cl a)+(r-1)))),fn 111 (ar (addA (addA (sumA F f (cl a) (cl a).length) (F (r-1)) 1) (F (sumN (cl a)+(r-1))) (-1))),(0,.to [0,1,2,3,4,5] (fmS r E n tb (seen++[a]) (addA (addA (sumA F f (cl a) (cl a).length) (F (r-1)) 1) (F (sumN (cl a)+(r-1))) (-1))))]) [(0,.to [0,1,2,3,4,5] (fzS f))])],1000,?_⟩
  refine Eq.mp (by kernel_rfl:(let z5:=An [TT 18,TT 18,Tt,Tt];let z6:=An [Sm (arF f),TT 18];let z0:=F (r-1);let z1:=(1:Int);let z2:=(-1:Int);let z3:=(↑r:Int);let z4:=arF Qap;An [An [allOld n E=true,n≤n,leftE seen E=List.map (Qh2 r key cl) ids],(ids=[]→An [G (Ex.exit 4) (fzS f),An [Zz,Zz,Tt],Tt,An [z4=z4,TT 18],Tt,Tt,z6,Tt,Tt]),∀(a:Nat),List.Mem a ids→An [An [List.getLast? (seen++[a])=some a,n=n,findB a E=some (i6 ↑(key a),V.im r (nt (cl a)))],An [An [Zz,z3=z3,Zz,Zz,Zz,(↑(0:Nat):Int)=(0:Int),An [List.length (cl a)=r,Sm (nt (cl a))],(↑(List.length (cl a)):Int)=z3,(↑(0:Nat):Int)=(0:Int),Tt],Tt,An [z4=z4,TT 18],An [E=E,HfE E,n=n],An [tb=tb,HfL tb],z6,An [n=n,Sm (seen++[a]),n=n],Tt],Sat Pg none 0 (at' 26 [1,1,1,1,1,1,0,1,0,0,1,1,0,1,1,0,1,0]) (mkSt g0 113 (flS r E n tb (seen++[a]) (cl a) (0,0,f))) (Qaf g0 113 [(True,Ex.exit 6,flX r E n tb (seen++[a]) (sumN (cl a)) (sumA F f (cl a) (List.length (cl a))))]),(True→An [wr .i64 (z3-z1)=(↑(r-1):Int),placeV (Qae Pg) 106 (V.ptr 3 0) (↑(r-1):Int)=some (V.ptr 3 ((r-1)*18)),takeE 18 (dropF ((r-1)*18) tb)=some (arF z0),z5,FnOk Pg g0 25 [V.agg (arF (sumA F f (cl a) (List.length (cl a)))),V.agg (arF z0),i6 1] (ar (addA (sumA F f (cl a) (List.length (cl a))) z0 z1)),Tt,wr .i64 ((↑(sumN (cl a)):Int)+z3)=(↑(sumN (cl a)+r):Int),wr .i64 ((↑(sumN (cl a)+r):Int)-z1)=(↑(sumN (cl a)+(r-1)):Int),placeV (Qae Pg) 106 (V.ptr 3 0) (↑(sumN (cl a)+(r-1)):Int)=some (V.ptr 3 ((sumN (cl a)+(r-1))*18)),takeE 18 (dropF ((sumN (cl a)+(r-1))*18) tb)=some (arF (F (sumN (cl a)+(r-1)))),z5,FnOk Pg g0 25 [V.agg (arF (addA (sumA F f (cl a) (List.length (cl a))) z0 z1)),V.agg (arF (F (sumN (cl a)+(r-1)))),i6 (-1)] (ar (addA (addA (sumA F f (cl a) (List.length (cl a))) z0 z1) (F (sumN (cl a)+(r-1))) z2)),Tt,G Ex.normal (fmS r E n tb (seen++[a]) (addA (addA (sumA F f (cl a) (List.length (cl a))) z0 z1) (F (sumN (cl a)+(r-1))) z2)),An [Zz,z3=z3,Zz,Zz,Zz,Tt],Tt,An [z4=z4,TT 18],An [E=E,HfE E,n=n],An [tb=tb,HfL tb],An [arF (addA (addA (sumA F f (cl a) (List.length (cl a))) z0 z1) (F (sumN (cl a)+(r-1))) z2)=[i6 (addA (addA (sumA F f (cl a) (List.length (cl a))) z0 z1) (F (sumN (cl a)+(r-1))) z2 0),i6 (addA (addA (sumA F f (cl a) (List.length (cl a))) z0 z1) (F (sumN (cl a)+(r-1))) z2 1),i6 (addA (addA (sumA F f (cl a) (List.length (cl a))) z0 z1) (F (sumN (cl a)+(r-1))) z2 2),i6 (addA (addA (sumA F f (cl a) (List.length (cl a))) z0 z1) (F (sumN (cl a)+(r-1))) z2 3),i6 (addA (addA (sumA F f (cl a) (List.length (cl a))) z0 z1) (F (sumN (cl a)+(r-1))) z2 4),i6 (addA (addA (sumA F f (cl a) (List.length (cl a))) z0 z1) (F (sumN (cl a)+(r-1))) z2 5),i6 (addA (addA (sumA F f (cl a) (List.length (cl a))) z0 z1) (F (sumN (cl a)+(r-1))) z2 6),i6 (addA (addA (sumA F f (cl a) (List.length (cl a))) z0 z1) (F (sumN (cl a)+(r-1))) z2 7),i6 (addA (addA (sumA F f (cl a) (List.length (cl a))) z0 z1) (F (sumN (cl a)+(r-1))) z2 8),i6 (addA (addA (sumA F f (cl a) (List.length (cl a))) z0 z1) (F (sumN (cl a)+(r-1))) z2 9),i6 (addA (addA (sumA F f (cl a) (List.length (cl a))) z0 z1) (F (sumN (cl a)+(r-1))) z2 10),i6 (addA (addA (sumA F f (cl a) (List.length (cl a))) z0 z1) (F (sumN (cl a)+(r-1))) z2 11),i6 (addA (addA (sumA F f (cl a) (List.length (cl a))) z0 z1) (F (sumN (cl a)+(r-1))) z2 12),i6 (addA (addA (sumA F f (cl a) (List.length (cl a))) z0 z1) (F (sumN (cl a)+(r-1))) z2 13),i6 (addA (addA (sumA F f (cl a) (List.length (cl a))) z0 z1) (F (sumN (cl a)+(r-1))) z2 14),i6 (addA (addA (sumA F f (cl a) (List.length (cl a))) z0 z1) (F (sumN (cl a)+(r-1))) z2 15),i6 (addA (addA (sumA F f (cl a) (List.length (cl a))) z0 z1) (F (sumN (cl a)+(r-1))) z2 16),i6 (addA (addA (sumA F f (cl a) (List.length (cl a))) z0 z1) (F (sumN (cl a)+(r-1))) z2 17)],TT 18],An [n=n,Sm (seen++[a]),n=n],Tt]),Tt]])=_) ?_
  refine⟨⟨hold,Nat.le_refl _,hleft⟩,fun hid0=>?_,fun a hma=>?_⟩
  ·have hX2 := hX' hid0
   exact au
  ·obtain ⟨ha1, ha2⟩ := hids a hma
   have hlen:=h.len a ha1
   have hsum:=h.sum a ha1
   have hlist:=fam_list r n E tb (seen++[a]) F ht hHf (cl a) (fun c hc=>by have:=Qdx hc;omega) (by omega) (by omega) f (fun i hi=>by have:=hfb i hi;omega) _ rfl _ rfl
   have hsb:=fun i(hi:i<18)=>Qm9 ht hi (cl a) (fun c hc=>by have:=Qdx hc;omega)
   have hb1:=fun i(hi:i<18)=>ht.bd (r-1) i (by omega) hi
   have hb2:=fun i(hi:i<18)=>ht.bd (sumN (cl a)+(r-1)) i (by omega) hi
   have hs1: ∀i,i<18→ -20000≤sumA F f (cl a) (cl a).length i∧sumA F f (cl a) (cl a).length i≤20000:=fun i hi=>by
    rw[Qks _ _ _ _ _ (Nat.le_refl _),List.take_length]
    have:=hsb i hi;have:=hfb i hi
    omega
   have c1:=comb (sumA F f (cl a) (cl a).length) (F (r-1)) 1 (fun i hi=>by have:=hs1 i hi;omega) (fun i hi=>by have:=hb1 i hi;omega)
   have c2:=comb (addA (sumA F f (cl a) (cl a).length) (F (r-1)) 1) (F (sumN (cl a)+(r-1))) (-1) (fun i hi=>by have:=hs1 i hi;have:=hb1 i hi;unfold addA;omega) (fun i hi=>by have:=hb2 i hi;omega)
   have hp2:=@Qe0 3 (sumN (cl a)+(r-1)) (by omega)
   have ht2:=ht.take (sumN (cl a)+(r-1)) (by omega)
   have hst:=hstep a ha1 ha2
   have hfa:=hfind a ha1
   have hgl:(seen++[a]).getLast?=some a:=by simp
   exact au
 ·rintro e st ⟨S', rfl, rfl, f, rfl, hf⟩
  refine .inl ⟨trivial,rfl,?_⟩
  have:arF f=arF (fun i=>sumI ((List.range n).map fun a=>conF F r (cl a) i)):=Qcq hf
  show mkSt g0 113 {sl:=[(6,.ptr 1 0),(15,.ptr 4 0)],os:=[.dead,.row 44 none (arF Qap),.dead,.dead,.row 44 none (arF f),.dead]}=_
  rw[this]
abbrev soS(q:Nat×Nat×(Nat→Int)):SL:={sl:=[(0,i6 q.2.1),(2,.ptr 0 0),(6,prV),(7,i6 q.1)],os:=[.row 44 none (arF q.2.2)]}
abbrev soX(m:Nat)(f:Nat→Int):SL:={sl:=[(0,i6 m),(2,.ptr 0 0)],os:=[.row 44 none (arF f)]}
theorem Qvk(n:Nat)(h1:1≤n)(h2:n≤4611686018427387903)(q:Nat×Nat×(Nat→Int))(hq:TrI n q):
  Sat Pg none 0 (at' 53 [1,0,1,0]) (mkSt g0 26 (soS q)) (Qaf g0 26 [(True,.exit 0,soX (ofN n 18) (ofF n 18))]):=by
 refine Qa6 vE_ok mixed Qad (b:=at' 53 [1,0,1,0,0]) (by kernel_rfl) (TrI n) soS (fun q=>18-q.1) (fun q hq=>?_) q hq
 obtain⟨k,m,f⟩:=q
 obtain⟨hk,hm,hf⟩:=hq
 dsimp only at hk hm hf
 by_cases hlt:k<18
 ·have hx := @idx40 k hlt
  obtain⟨E,M,hE,hsp,hm2,hnx,hz⟩:=tr_next h1 h2 hlt hm hf
  have l:=split_in f k hlt E M (63,m,0) hE ⟨hsp,hm2⟩
  refine .inl ⟨(k+1,M,upA f k E),[0],[yes 8,va 10 (i6 (primeN k)),(0,.loop [0] (spS f k (63,m,0)) [(True,.exit 2,spX f k M E)]),nu 23 (k+1:Nat)],1000,hnx,by dsimp only;omega,?_⟩
  refine Eq.mp (by kernel_rfl:(let z0:=An [Sm (2:Int),Sm (3:Int),Sm (5:Int),Sm (7:Int),Sm (11:Int),Sm (13:Int),Sm (17:Int),Sm (19:Int),Sm (23:Int),Sm (29:Int),Sm (31:Int),Sm (37:Int),Sm (41:Int),Sm (43:Int),Sm (47:Int),Sm (53:Int),Sm (59:Int),Sm (61:Int),Tt];let z1:=(↑k:Int);An [decide (z1<(18:Int))=true,idxV (Qae Pg) 43 prV z1=some (i6 ↑(primeN k)),An [An [Sm (↑m:Int),Zz,Sm z1,Sm (↑(primeN k):Int),z0,Sm z1,Tt],An [arF (upA f k (↑(0:Nat):Int))=arF f,TT 18],Tt],Sat Pg none 0 (at' 53 [1,0,1,0,0,1,1,0,0,1,0]) (mkSt g0 26 (spS f k (63,m,0))) (Qaf g0 26 [(True,Ex.exit 2,spX f k M E)]),(True→An [wr .i64 (z1+(1:Int))=(↑(k+1):Int),An [Sm (↑M:Int),Zz,z0,Sm (↑(k+1):Int),Tt],An [Sm (arF (upA f k (↑E:Int))),TT 18],Tt]),Tt])=_) ?_
  exact au
 ·have : k = 18 := by omega
  subst this
  rw[←hm,←hf]
  refine .inr ⟨.exit 0,[0],soX m f,[],1000,.inl ⟨trivial,rfl,rfl⟩,?_⟩
  refine Eq.mp (by kernel_rfl:(An [An [Sm (↑m:Int),Zz,Tt],An [Sm (arF f),TT 18],Tt])=_) ?_
  exact au
theorem split_fn(n:Nat)(h1:1≤n)(h2:n≤4611686018427387903):FnOk Pg g0 53 [i6 n] (.tup [ar (ofF n 18),i6 (ofN n 18)]):=by
 have l:=Qvk n h1 h2 (0,n,Qap) ⟨Nat.zero_le _,rfl,rfl⟩
 generalize ofN n 18=m at*
 generalize ofF n 18=f at*
 refine FnOk.of_vc vE_ok mixed Qad (n:=1000) (r:=[0]) (S:={sl:=[(2,.ptr 0 0),(3,i6 m)],os:=[.row 44 none (arF f)]}) (hs:=[(0,.loop [0] (soS (0,n,Qap)) [(True,.exit 0,soX m f)])]) ?_
 refine Eq.mp (by kernel_rfl:(An [V.tup [V.agg (arF f),i6 ↑m]=V.tup [ar f,i6 ↑m],An [An [Sm (↑n:Int),Zz,An [Sm (2:Int),Sm (3:Int),Sm (5:Int),Sm (7:Int),Sm (11:Int),Sm (13:Int),Sm (17:Int),Sm (19:Int),Sm (23:Int),Sm (29:Int),Sm (31:Int),Sm (37:Int),Sm (41:Int),Sm (43:Int),Sm (47:Int),Sm (53:Int),Sm (59:Int),Sm (61:Int),Tt],(↑(0:Nat):Int)=(0:Int),Tt],An [arF Qap=[i6 0,i6 0,i6 0,i6 0,i6 0,i6 0,i6 0,i6 0,i6 0,i6 0,i6 0,i6 0,i6 0,i6 0,i6 0,i6 0,i6 0,i6 0],TT 18],Tt],Sat Pg none 0 (at' 53 [1,0,1,0]) (mkSt g0 26 (soS (0,n,Qap))) (Qaf g0 26 [(True,Ex.exit 0,soX m f)]),(True→An [An [Zz,Sm (↑m:Int),Tt],An [Sm (arF f),TT 18],Tt]),Tt])=_) ?_
 exact au
def okA(f:Nat→Int)(l:List Nat):Bool:=l.all fun i=>decide (-2000≤f i)&&decide (f i≤2000)
def inA(f:Nat→Int):Bool:=okA f (List.range 18)
theorem okA_drop(f:Nat→Int){k:Nat}(h:k<18):okA f ((List.range 18).drop k)=((decide (-2000≤f k)&&decide (f k≤2000))&&okA f ((List.range 18).drop (k+1))):=by
 rw[List.drop_eq_getElem_cons (by simpa using h)];simp[okA]
theorem Qiy{f:Nat→Int}(h:inA f=true){k:Nat}(hk:k<18): -2000≤f k∧f k≤2000:=by
 unfold inA okA at h
 have:=List.all_eq_true.1 h k (List.mem_range.2 hk)
 simpa using this
abbrev irS(f:Nat→Int)(k:Nat):SL:={sl:=[(5,ar f),(6,i6 k)]}
theorem Qmc(f:Nat→Int)(b:Bool)(k:Nat)(hk:k≤18∧okA f ((List.range 18).drop k)=b):
  Sat Pg none 0 (at' 30 [1,0,1,0]) (mkSt g0 16 (irS f k)) (Qaf g0 16 [(b=true,.exit 0,arE),(b=false,.ret,bE 2 false)]):=by
 refine Qa6 vE_ok mixed Qad (b:=at' 30 [1,0,1,0,0]) (by kernel_rfl) (fun k=>k≤18∧okA f ((List.range 18).drop k)=b) (irS f) (fun k=>18-k) (fun k hk=>?_) k hk
 obtain⟨hk,hb⟩:=hk
 by_cases hlt:k<18
 ·rw [okA_drop f hlt] at hb
  have hx:=@idx41 f k hlt
  by_cases h1:f k< -2000
  ·rw [decide_eq_false (show ¬ -2000 ≤ f k by omega)] at hb
   refine .inr ⟨.ret,[],bE 2 false,[yes 7,va 8 (i6 (f k)),yes 10],1000,.inr (.inl ⟨hb.symm,rfl,rfl⟩),?_⟩
   refine Eq.mp (by kernel_rfl:(An [decide ((↑k:Int)<(18:Int))=true,idxV (Qae Pg) 44 (ar f) (↑k:Int)=some (i6 (f k)),decide (f k<(-2000:Int))=true,An [Sm false,Tt],Tt])=_) ?_
   exact au
  ·by_cases h2 : 2000 < f k
   ·rw [decide_eq_false (show ¬ f k ≤ 2000 by omega), Bool.and_false] at hb
    refine .inr ⟨.ret,[],bE 2 false,[yes 7,va 8 (i6 (f k)),no 10,yes 13],1000,.inr (.inl ⟨hb.symm,rfl,rfl⟩),?_⟩
    refine Eq.mp (by kernel_rfl:(An [decide ((↑k:Int)<(18:Int))=true,idxV (Qae Pg) 44 (ar f) (↑k:Int)=some (i6 (f k)),decide (f k<(-2000:Int))=false,decide (f k>(2000:Int))=true,An [Sm false,Tt],Tt])=_) ?_
    exact au
   ·rw [decide_eq_true (show -2000 ≤ f k by omega), decide_eq_true (show f k ≤ 2000 by omega)] at hb
    refine .inl ⟨k+1,[],[yes 7,va 8 (i6 (f k)),no 10,no 13,nu 15 (k+1:Nat)],1000,⟨hlt,hb⟩,by omega,?_⟩
    refine Eq.mp (by kernel_rfl:(let z0:=(↑(k+1):Int);let z1:=(↑k:Int);An [decide (z1<(18:Int))=true,idxV (Qae Pg) 44 (ar f) z1=some (i6 (f k)),decide (f k<(-2000:Int))=false,decide (f k>(2000:Int))=false,wr .i64 (z1+(1:Int))=z0,An [An [f 0=f 0,f 1=f 1,f 2=f 2,f 3=f 3,f 4=f 4,f 5=f 5,f 6=f 6,f 7=f 7,f 8=f 8,f 9=f 9,Sm (f 10),Sm (f 11),Sm (f 12),Sm (f 13),Sm (f 14),Sm (f 15),Sm (f 16),Sm (f 17),Tt],z0=z0,Tt],Tt])=_) ?_
    exact au
 ·have : k = 18 := by omega
  subst this
  refine .inr ⟨.exit 0,[],arE,[],1000,.inl ⟨hb.symm,rfl,rfl⟩,?_⟩
  refine Eq.mp (by kernel_rfl:(An [Tt,Tt])=_) ?_
  exact au
theorem Qco(f:Nat→Int):FnOk Pg g0 30 [ar f] (.bool (inA f)):=by
 have l:=Qmc f (inA f) 0 ⟨Nat.zero_le _,rfl⟩
 refine FnOk.of_vc vE_ok mixed Qad (n:=1000) (r:=[]) (S:=bE 2 (inA f)) (hs:=[(0,.loop [] (irS f 0) [(inA f=true,.exit 0,arE),(inA f=false,.ret,bE 2 false)])]) ?_
 refine Eq.mp (by kernel_rfl:(An [Sm (V.bool (inA f)),An [An [An [f 0=f 0,f 1=f 1,f 2=f 2,f 3=f 3,f 4=f 4,f 5=f 5,f 6=f 6,f 7=f 7,f 8=f 8,f 9=f 9,Sm (f 10),Sm (f 11),Sm (f 12),Sm (f 13),Sm (f 14),Sm (f 15),Sm (f 16),Sm (f 17),Tt],(↑(0:Nat):Int)=(0:Int),Tt],Tt],Sat Pg none 0 (at' 30 [1,0,1,0]) (mkSt g0 16 (irS f 0)) (Qaf g0 16 [(inA f=true,Ex.exit 0,arE),(inA f=false,Ex.ret,bE 2 false)]),(inA f=true→An [An [inA f=true,Tt],Tt]),(inA f=false→An [An [inA f=false,Tt],Tt]),Tt])=_) ?_
 exact au
abbrev sumF(a b:Nat→Int):Nat→Int:=mixF a b 1 18
abbrev adS(f:Nat→Int)(e:Int):SL:={sl:=[(4,.ptr 0 0),(5,i6 e)],os:=[.row 44 none (arF f)]}
theorem add_ok(a b:Nat→Int)(ha:inA a=true)(hb:inA b=true)(hs:inA (sumF a b)=true):FnOk Pg g0 43 [ar a,ar b] (.tup [ar (sumF a b),i6 0]):=by
 have h:=Qco a
 have h2:=Qco b
 have h3:=Qco (sumF a b)
 have h4:=Qfe a b 1 (fun k hk=>by have:=Qiy ha hk;omega) (fun k hk=>by have:=Qiy hb hk;omega)
 rw[ha]at h
 rw[hb]at h2
 rw[hs]at h3
 change FnOk Pg g0 _ _ (ar (sumF a b))at h4
 generalize hf:sumF a b=f at*
 refine FnOk.of_vc vE_ok mixed Qad (n:=1000) (r:=[2]) (S:=adS f 0) (hs:=[fn 8 (.bool true),fn 12 (.bool true),fn 18 (ar f),fn 20 (.bool true)]) ?_
 refine Eq.mp (by kernel_rfl:(let z4:=An [TT 18,Tt];let z0:=pt (pt (pt T.e 0 (O.row 44 none (arF a))) 1 (O.row 44 none (arF b))) 2 (O.row 44 none [i6 0,i6 0,i6 0,i6 0,i6 0,i6 0,i6 0,i6 0,i6 0,i6 0,i6 0,i6 0,i6 0,i6 0,i6 0,i6 0,i6 0,i6 0]);let z1:=V.bool true;let z2:=V.agg (arF a);let z3:=V.agg (arF b);An [V.tup [V.agg (arF f),i6 0]=V.tup [ar f,i6 0],z4,FnOk Pg g0 30 [z2] z1,Tt,z4,FnOk Pg g0 30 [z3] z1,An [(V.fn 30 []=V.fn 30 []→[z2]=[z3]→z0=z0→0+1+1+1=3→Sm (CR.mk z1 z0 3 [])),Tt],An [TT 18,TT 18,Tt,Tt],FnOk Pg g0 25 [z2,z3,i6 1] (ar f),Tt,z4,FnOk Pg g0 30 [V.agg (arF f)] z1,Tt,An [Zz,Sm (0:Int),Tt],An [Sm (arF f),TT 18],Tt])=_) ?_
 (repeat'(first|(with_reducible apply And.intro)|(refine fun(_:True)=>?_)))<;>first|exact aq|skip
 all_goals rfl
theorem ofF_bd{n:Nat}(h:1≤n): ∀k i,0≤ofF n k i∧ofF n k i≤63
 |0,_=>by simp[ofF,Qap]
 | k + 1, i => by
  unfold ofF upA
  split
  ·have := (Qf6 (Qbu k).1 63 (ofN n k) (Qut h k).1).2.2
   omega
  ·exact ofF_bd h k i
theorem Qt6{f:Nat→Int}(h: ∀k,k<18→ -2000≤f k∧f k≤2000):inA f=true:=by
 unfold inA okA
 rw[List.all_eq_true]
 intro k hk
 have:=h k (List.mem_range.1 hk)
 simpa using this
def eqA(a b:Nat→Int):Bool:=a 0==b 0&&(a 1==b 1&&(a 2==b 2&&(a 3==b 3&&(a 4==b 4&&(a 5==b 5&&(a 6==b 6&&(a 7==b 7&&(a 8==b 8&&(a 9==b 9&&(a 10==b 10&&(a 11==b 11&&(a 12==b 12&&(a 13==b 13&&(a 14==b 14&&(a 15==b 15&&(a 16==b 16&&(a 17==b 17&&true)))))))))))))))))
theorem Qj1{a b:Nat→Int}:eqA a b=true↔∀i,i<18→a i=b i:=by
 unfold eqA
 simp only[Bool.and_eq_true,beq_iff_eq,and_true]
 constructor
 ·rintro ⟨h0, h1, h2, h3, h4, h5, h6, h7, h8, h9, h10, h11, h12, h13, h14, h15, h16, h17⟩ i hi
  rcases lt18 hi with rfl|rfl|rfl|rfl|rfl|rfl|rfl|rfl|rfl|rfl|rfl|rfl|rfl|rfl|rfl|rfl|rfl|rfl<;>assumption
 ·intro h
  exact⟨h 0 (by omega),h 1 (by omega),h 2 (by omega),h 3 (by omega),h 4 (by omega),h 5 (by omega),h 6 (by omega),h 7 (by omega),h 8 (by omega),h 9 (by omega),h 10 (by omega),h 11 (by omega),h 12 (by omega),h 13 (by omega),h 14 (by omega),h 15 (by omega),h 16 (by omega),h 17 (by omega)⟩
theorem Qtb{a b:Nat→Int}(h: ¬ ∀i,i<18→a i=b i):eqA a b=false:=by
 cases hb:eqA a b with
 |false=>rfl
 |true=>exact absurd (Qj1.1 hb) h
theorem eqA_self(a:Nat→Int):eqA a a=true:=Qj1.2 fun _ _=>rfl
def factT:List V:=factL.map (V.int .i64)
def facF(c i:Nat):Int:=factL.getD (18*c+i) 0
theorem lt44{k:Nat}(h:k<44):k=0∨k=1∨k=2∨k=3∨k=4∨k=5∨k=6∨k=7∨k=8∨k=9∨k=10∨k=11∨k=12∨k=13∨k=14∨k=15∨k=16∨k=17∨k=18∨k=19∨k=20∨k=21∨k=22∨k=23∨k=24∨k=25∨k=26∨k=27∨k=28∨k=29∨k=30∨k=31∨k=32∨k=33∨k=34∨k=35∨k=36∨k=37∨k=38∨k=39∨k=40∨k=41∨k=42∨k=43:=by omega
abbrev fcT(A B:List V)(n:Nat):SL:={sl:=[(0,.ptr 0 0),(1,.ptr 1 0),(2,i6 (n:Nat))],os:=[.row 106 none A,.row 106 none B]}
theorem Qti(A:List V)(T:Nat→List V)(F:Nat→Nat→Int)(hT: ∀n,HfL (T n))(hA:HfL A)(h1: ∀n,n<44→1≤n→takeE 18 (dropF ((n-1)*18) (T n))=some (arF (F (n-1))))(h2: ∀n,n<44→1≤n→layE (0+n*18) (T n) (arF (F n))=some (T (n+1)))
  (h3: ∀n,n<44→1≤n→ar (addA (F (n-1)) (ofF n 18) 1)=ar (F n))(h4: ∀n k,-1000000≤F n k∧F n k≤1000000):
  Sat Pg none 0 (at' 39 [1,1,0,1,0]) (mkSt g0 23 (fcT A (T 1) 1)) (Qaf g0 23 [(True,.exit 0,fcT A (T 44) 44)]):=by
 refine Qa6 vE_ok mixed Qad (b:=at' 39 [1,1,0,1,0,0]) (by kernel_rfl) (fun n=>1≤n∧n≤44) (fun n=>fcT A (T n) n) (fun n=>44-n) (fun n hn=>?_) 1 ⟨Nat.le_refl _,by decide⟩
 obtain⟨hn1,hn2⟩:=hn
 by_cases hlt:n<44
 ·have hs := split_fn n hn1 (by omega)
  have hc:=comb (F (n-1)) (ofF n 18) 1 (fun k _=>h4 _ k) (fun k _=>by have:=ofF_bd hn1 18 k;omega)
  rw[h3 n hlt hn1]at hc
  have hp1:=@Qe0 1 (n-1) (by omega)
  have hp2:=@Qe0 1 n hlt
  have ht:=h1 n hlt hn1
  have hl:=h2 n hlt hn1
  have hz:((n-1:Nat):Int)=(n:Int)-1:=by omega
  have hf:=hT n
  have hf2:=hT (n+1)
  generalize hm:n-1=m at*
  generalize ofF n 18=g at*
  generalize ofN n 18=o at*
  generalize F n=f1 at*
  generalize F m=f0 at*
  generalize hT1:T (n+1)=T1 at*
  generalize T n=T0 at*
  refine .inl ⟨n+1,[0,1],[yes 6,fn 11 (.tup [ar g,i6 (o:Nat)]),nu 16 ((m:Nat):Int),va 17 (.ptr 1 (m*18)),ld 18 (ar f0),fn 20 (ar f1),va 21 (.ptr 1 (n*18)),st T1,nu 8 ((n+1:Nat):Int)],1000,⟨by omega,by omega⟩,by omega,?_⟩
  exact m_ (p:=let z0:=(↑(n+1):Int);let z1:=(↑n:Int);An [decide (z1<(44:Int))=true,An [Tt,Tt],_,Tt,wr .i64 (z1-(1:Int))=(↑m:Int),_,_,An [TT 18,TT 18,Tt,Tt],_,Tt,_,layE (n*18) T0 (arF f1)=some T1,wr .i64 (z1+(1:Int))=z0,An [Zz,Zz,z0=z0,Tt],An [A=A,_],An [_,HfL (T (n+1))],Tt]) ⟨aq,a_,hs,aq,aq,hp1,ht,a_,hc,aq,hp2,aq,aq,a_,⟨aq,hA⟩,⟨hT1,aq⟩,aq⟩
 ·have : n = 44 := by omega
  subst this
  have hf:=hT 44
  generalize T 44=T0 at*
  refine .inr ⟨.exit 0,[0,1],fcT A T0 44,[no 6],1000,.inl ⟨trivial,rfl,rfl⟩,?_⟩
  exact m_ (p:=let z0:=(↑(44:Nat):Int);An [decide (z0<(44:Int))=false,An [Zz,Zz,z0=z0,Tt],An [A=A,_],An [T0=T0,_],Tt]) ⟨aq,a_,⟨aq,hA⟩,⟨aq,hf⟩,aq⟩
def fzT:List V:=List.replicate 792 (i6 0)
def fcB(n:Nat):List V:=(List.range 44).flatMap fun c=>arF (if c<n then facF c else Qap)
theorem hf_apT{a b:List V}(ha:HfL a)(hb:HfL b):HfL (a++b):=by
 induction a with
 |nil=>exact hb
 |cons x a ih=>exact⟨ha.1,ih ha.2⟩
theorem Qp4(n:Nat):HfL (fcB n):=by
 unfold fcB
 generalize List.range 44=l
 induction l with
 |nil=>trivial
 |cons x l ih=>rw[List.flatMap_cons];exact hf_apT (HfL_ar _) ih
theorem facF_bd(n k:Nat): -1000000≤facF n k∧facF n k≤1000000:=by
 have h: ∀x∈factL,0≤x∧x≤50:=by decide
 unfold facF
 rw[List.getD_eq_getElem?_getD]
 cases hx:factL[18*n+k]? with
 |none=>simp
 |some x=>have:=h x (List.mem_of_getElem? hx);simp only[Option.getD_some];omega
theorem fact_fn:FnOk Pg g0 39 [] (.agg factT):=by
 have hl:Sat Pg none 0 (at' 39 [1,1,0,1,0]) (mkSt g0 23 (fcT fzT (fcB 1) 1)) (Qaf g0 23 [(True,.exit 0,fcT fzT (fcB 44) 44)]):=
  Qti fzT fcB facF Qp4 ((by kernel_rfl:fcB 0=fzT)▸Qp4 0)
   (fun n h h1=>by rcases lt44 h with rfl|rfl|rfl|rfl|rfl|rfl|rfl|rfl|rfl|rfl|rfl|rfl|rfl|rfl|rfl|rfl|rfl|rfl|rfl|rfl|rfl|rfl|rfl|rfl|rfl|rfl|rfl|rfl|rfl|rfl|rfl|rfl|rfl|rfl|rfl|rfl|rfl|rfl|rfl|rfl|rfl|rfl|rfl|rfl<;>first|(exact absurd h1 (by decide))|kernel_rfl)
   (fun n h h1=>by rcases lt44 h with rfl|rfl|rfl|rfl|rfl|rfl|rfl|rfl|rfl|rfl|rfl|rfl|rfl|rfl|rfl|rfl|rfl|rfl|rfl|rfl|rfl|rfl|rfl|rfl|rfl|rfl|rfl|rfl|rfl|rfl|rfl|rfl|rfl|rfl|rfl|rfl|rfl|rfl|rfl|rfl|rfl|rfl|rfl|rfl<;>first|(exact absurd h1 (by decide))|kernel_rfl)
   (fun n h h1=>by rcases lt44 h with rfl|rfl|rfl|rfl|rfl|rfl|rfl|rfl|rfl|rfl|rfl|rfl|rfl|rfl|rfl|rfl|rfl|rfl|rfl|rfl|rfl|rfl|rfl|rfl|rfl|rfl|rfl|rfl|rfl|rfl|rfl|rfl|rfl|rfl|rfl|rfl|rfl|rfl|rfl|rfl|rfl|rfl|rfl|rfl<;>first|(exact absurd h1 (by decide))|kernel_rfl) facF_bd
 have h0:HfL fzT:=(by kernel_rfl:fcB 0=fzT)▸Qp4 0
 refine FnOk.of_vc vE_ok mixed Qad (n:=1000) (r:=[0]) (S:={sl:=[(0,.ptr 0 0)],os:=[.row 106 none factT]}) (hs:=[(777777,.loop [0,1] (fcT fzT (fcB 1) 1) [(True,.exit 0,fcT fzT (fcB 44) 44)]),ld 22 (.agg factT),(999999,.sw)]) ?_
 exact Eq.mp (by kernel_rfl:(V.agg factT=V.agg factT∧((0=0∧0=0∧((1:Nat):Int)=(1:Int)∧True)∧(fzT=fzT∧HfL fzT)∧(fcB 1=fzT∧HfL (fcB 1))∧True)∧Sat Pg none 0 (at' 39 [1,1,0,1,0]) (mkSt g0 23 (fcT fzT (fcB 1) 1)) (Qaf g0 23 [(True,Ex.exit 0,fcT fzT (fcB 44) 44)])∧(True→takeE 792 (fcB 44)=some factT∧(792=792∧atoms factT=true∧792=792)∧(0=0∧True)∧(factT=factT∧HfL factT)∧True)∧True)=_)
  ⟨rfl,⟨⟨rfl,rfl,rfl,trivial⟩,⟨rfl,h0⟩,⟨by kernel_rfl,Qp4 1⟩,trivial⟩,hl,fun _=>⟨by kernel_rfl,⟨rfl,by kernel_rfl,rfl⟩,⟨rfl,trivial⟩,⟨rfl,Qab _⟩,trivial⟩,trivial⟩
theorem fac_ok:Qq5 facF factT:=by
 refine⟨fun c hc=>?_,fun c i _ _=>?_,Qab _⟩
 ·rcases lt44 hc with rfl|rfl|rfl|rfl|rfl|rfl|rfl|rfl|rfl|rfl|rfl|rfl|rfl|rfl|rfl|rfl|rfl|rfl|rfl|rfl|rfl|rfl|rfl|rfl|rfl|rfl|rfl|rfl|rfl|rfl|rfl|rfl|rfl|rfl|rfl|rfl|rfl|rfl|rfl|rfl|rfl|rfl|rfl|rfl<;>kernel_rfl
 ·have : ∀ x ∈ factL, 0 ≤ x ∧ x ≤ 50 := by decide
  unfold facF
  rw[List.getD_eq_getElem?_getD]
  cases hx:factL[18*c+i]? with
  |none=>simp
  |some x=>exact this x (List.mem_of_getElem? hx)
theorem Qj2(i:Nat)(h:i<18):facF 0 i=0:=by
 rcases lt18 h with rfl|rfl|rfl|rfl|rfl|rfl|rfl|rfl|rfl|rfl|rfl|rfl|rfl|rfl|rfl|rfl|rfl|rfl<;>rfl
def famF(cards:List Nat)(cs:List (List Nat))(v ps:Nat):Nat→Int:=famZ facF (Qaz cards v ps cs) (cards.getD v 0) (Qht cards ps cards.length)
theorem Qkh{cards:List Nat}{v ps:Nat}{cs:List (List Nat)}(hc:CardsOk cards)(hcs: ∀c∈cs,CaseOk cards c)(hv:v<cards.length): ∀p∈Qaz cards v ps cs,p.1<Qht cards ps cards.length∧p.2<cards.getD v 0:=by
 intro p hp
 obtain⟨c,hm,rfl⟩:=List.mem_map.1 hp
 exact⟨Qoi hc (hcs c hm) ps _ (Nat.le_refl _),(hcs c hm).lt v hv⟩
theorem Qd8{r:Nat}{P:List (Nat×Nat)}(h: ∀p∈P,p.2<r):(Qao r P).length≤P.length:=by
 have hE:=Qbz P h
 have hk: ∀k∈(Qao r P).map (·.1),k∈P.map (·.1):=fun k hk=>by
  obtain⟨m,hm⟩:=(hE.keys k).1 hk
  exact List.mem_map.2 ⟨_,hm,rfl⟩
 have key: ∀(a b:List Nat),a.Nodup→(∀x∈a,x∈b)→a.length≤b.length:=by
  intro a
  induction a with
  |nil=>intro b _ _;exact Nat.zero_le _
  |cons x a ih=>
   intro b hn hs
   rw[List.nodup_cons]at hn
   have hx:=hs x List.mem_cons_self
   have:=ih (b.erase x) hn.2 (fun y hy=>(List.mem_erase_of_ne (fun e=>hn.1 (by rw[←e];exact hy))).2 (hs y (List.mem_cons_of_mem _ hy)))
   rw[List.length_erase_of_mem hx]at this
   have:=List.length_pos_of_mem hx
   simp only[List.length_cons];omega
 have:=key _ _ hE.nodup hk
 simpa using this
theorem Qtp(cards:List Nat)(cs:List (List Nat))(v ps r n:Nat)(E:List (V×V×Nat))(tb:List V)(hv:v<cards.length)(htl:tb.length=792)(hta:atoms tb=true)(htf:HfL tb)(hHE:HfE E)(hfact:FnOk Pg g0 39 [] (.agg tb))(g:Nat→Int)(hld:headF ((nt cards).drop (v*1))=some (i6 r))
  (hcount:Sat Pg none 0 (at' 26 [1,1,1,0,1,0]) (mkSt g0 113 {sl:=fbS cs v ps r 0,os:=fbO cards cs}) (Qaf g0 113 [(True,.exit 0,fcS r [dO cards cs,.row 44 none (arF Qap),.map E n])]))
  (hmap:Sat Pg none 0 (at' 26 [1,1,1,1,1,1,0,1,0]) (mkSt g0 113 (fmS r E n tb [] Qap)) (Qaf g0 113 [(True,.exit 4,fzS g)])):FnOk Pg g0 26 [dN cards cs,i6 v,u6 ps] (ar g):=by
 refine FnOk.of_vc vE_ok mixed Qad (n:=1000) (r:=[1]) (S:={sl:=[(6,.ptr 0 0)],os:=[.row 44 none (arF g)]}) (hs:=[pl 24,ld 25 (i6 r),(0,.loop [0,1,2] {sl:=fbS cs v ps r 0,os:=fbO cards cs} [(True,.exit 0,fcS r [dO cards cs,.row 44 none (arF Qap),.map E n])]),(76,.fnP (.agg tb)),(999999,.sw),(0,.loop [0,1,2,3,4,5] (fmS r E n tb [] Qap) [(True,.exit 4,fzS g)])]) ?_
 exact m_ (p:=let z0:=[i6 0,i6 0,i6 0,i6 0,i6 0,i6 0,i6 0,i6 0,i6 0,i6 0,i6 0,i6 0,i6 0,i6 0,i6 0,i6 0,i6 0,i6 0];let z1:=cellsV (V.agg tb);let z2:=(↑v:Int);let z3:=(↑r:Int);let z4:=arF Qap;An [V.agg (arF g)=ar g,An [(0:Int)≤z2,z2<(↑cards.length:Int)],_,An [An [z2=z2,Sm (↑ps:Int),Zz,Zz,z3=z3,_,An [Sm cs.length,Sm (List.map nl cs)],Sm (↑cs.length:Int),(↑(0:Nat):Int)=(0:Int),_],An [Sm [nl cards,cV cs],TT 2],An [z4=z0,TT 18],An [([]:List (V×V×Nat))=[],HfE [],Zz],_],_,(True->An [_,An [Hf (V.agg tb),_],_,An [z1.length=792,atoms z1=true,792=z1.length],An [An [Zz,z3=z3,Zz,Zz,Zz,_],_,An [z4=z4,TT 18],An [E=E,_,n=n],An [tb=z1,_],An [z4=z0,TT 18],An [n=n,([]:List Nat)=[],n=n],_],_,(True->An [An [Zz,_],An [Sm (arF g),TT 18],_]),_]),_]) ⟨aq,a_,hld,⟨⟨aq,aq,aq,aq,aq,trivial,a_,aq,aq,trivial⟩,a_,⟨(by rfl),aq⟩,⟨aq,trivial,aq⟩,trivial⟩,hcount,(fun _=>⟨trivial,⟨htf,hfact⟩,trivial,⟨htl,hta,htl.symm⟩,⟨⟨aq,aq,aq,aq,aq,trivial⟩,trivial,a_,⟨aq,hHE,aq⟩,⟨(by rfl),htf⟩,⟨(by rfl),aq⟩,a_,trivial⟩,hmap,(fun _=>⟨⟨aq,trivial⟩,a_,trivial⟩),trivial⟩),trivial⟩
theorem Ql2(cards:List Nat)(cs:List (List Nat))(v ps:Nat)(hc:CardsOk cards)(hcs: ∀c∈cs,CaseOk cards c)(hv:v<cards.length)(hm:cs.length≤40):FnOk Pg g0 26 [dN cards cs,i6 v,u6 ps] (ar (famF cards cs v ps)):=by
 have hcount:=Qtm cards cs v ps _ hc hcs hv rfl hm
 have hpo:=Qkh (ps:=ps) hc hcs hv
 have hr:=hc.each v hv
 have hlt:=fun p hp=>(hpo p hp).2
 have hel:=Qd8 hlt
 have hpl:(Qaz cards v ps cs).length≤40:=by simpa [Qaz]using hm
 have hE:=Qbz _ hlt
 have hsum:=Qdy (r:=cards.getD v 0) (Qaz cards v ps cs)
 have hz:ar (famF cards cs v ps)=ar (fun i=>sumI ((Qao (cards.getD v 0) (Qaz cards v ps cs)).map fun e=>conF facF (cards.getD v 0) e.2 i)):=by
  refine congrArg V.agg (Qcq fun i hi=>?_)
  exact(Qd9 (Qj2 i hi) hpo).symm
 have hld:=@Qea cards v hv
 rw[hz]
 generalize Qao (cards.getD v 0) (Qaz cards v ps cs)=es at*
 generalize hrr:cards.getD v 0=r at*
 have hrows:Qo4 r es.length (fun a=>(es.getD a (0,[])).2):=by
  have hget: ∀a,a<es.length→es.getD a (0,[])∈es:=fun a ha=>by
   rw[List.getD_eq_getElem?_getD,List.getElem?_eq_getElem ha];exact List.getElem_mem ha
  refine⟨by omega,hr.2,by omega,fun a ha=>?_,fun a ha=>?_⟩
  ·show (es.getD a (0, [])).2.length = r
   rw[hE.row _ (hget a ha),Qcx]
  ·show sumN (es.getD a (0, [])).2 ≤ 40
   rw[hE.row _ (hget a ha)]
   have:=hsum (es.getD a (0,[])).1 hlt
   omega
 have hmap:=fam_map r es.length (fun a=>(es.getD a (0,[])).1) (fun a=>(es.getD a (0,[])).2) factT facF fac_ok hrows (entF r 0 es) (Qs7 r es)
 have hfin:(fun i=>sumI ((List.range es.length).map fun a=>conF facF r ((fun a=>(es.getD a (0,[])).2) a) i))=(fun i=>sumI (es.map fun e=>conF facF r e.2 i)):=by
  funext i
  congr 1
  apply List.ext_getElem?
  intro a
  rw[List.getElem?_map,List.getElem?_map]
  by_cases h:a<es.length
  ·rw [List.getElem?_range h, List.getElem?_eq_getElem h]
   simp only[Option.map_some,List.getD_eq_getElem?_getD,List.getElem?_eq_getElem h,Option.getD_some]
  ·rw[List.getElem?_eq_none (by simp;omega),List.getElem?_eq_none (by omega)];rfl
 rw[hfin]at hmap
 generalize (fun i=>sumI (es.map fun e=>conF facF r e.2 i))=g at*
 have hHE:HfE (entF r 0 es):=by rw[Qs7];exact Qjl _ _ _ _
 simp only[fcO]at hcount
 generalize entF r 0 es=E at*
 have hfact:FnOk Pg g0 39 [] (.agg factT):=fact_fn
 have htl:factT.length=792:=by kernel_rfl
 have hta:atoms factT=true:=by kernel_rfl
 exact Qtp cards cs v ps r es.length E factT hv htl hta (Qab _) hHE hfact g hld hcount hmap
theorem Qpp(cs:List (List Int)):((comp cs).length=cs.length↔cs.any negB=false):=by
 unfold comp
 rw[←List.countP_eq_length_filter]
 constructor
 ·intro h
  rw[List.countP_eq_length]at h
  rw[List.any_eq_false]
  intro c hc
  have:=h c hc
  simpa using this
 ·intro h
  rw[List.countP_eq_length]
  intro c hc
  rw[List.any_eq_false]at h
  simpa using h c hc
end Go.Proofs.YtcmeiecgijmdjaaDoor.Am
