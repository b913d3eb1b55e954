/- Texts behind the claim, part 4: the abstract machine, and what the functions answer. No condition. -/
import Derived.Test.YtglpoiaedkoecaaDoorCAll3
set_option linter.unusedVariables false
set_option linter.unusedSimpArgs false
set_option linter.unusedSectionVars false
namespace Go.Proofs.YtglpoiaedkoecaaDoor.Am
open Go.RowKit
theorem plain:Qev Tryd.prog=true:=by kernel_rfl
theorem mixed:Tryd.prog.follows .mixedOrders=true:=by kernel_rfl
def Qqq:List V→Option V
 |[.int .u64 x,.int .u64 y,.int .u64 c]=>if 0≤x∧0≤y∧0≤c∧c≤1 then some (.tup [.int .u64 ((x+y+c)%18446744073709551616),.int .u64 ((x+y+c)/18446744073709551616)])else none
 | _=>none
def extF(f:Nat)(l:List V):Option V:=bif Nat.beq f 114 then Qqq l else none
theorem ext_ok:Qlv Tryd.prog extF:=by
 intro f l v h s w vals hl
 unfold extF at h
 obtain⟨hf,k⟩:=Qak h
 clear h
 have:=Nat.eq_of_beq_eq_true hf
 subst this
 unfold Qqq at k
 split at k
 ·rename_i x y c
  split at k
  ·rename_i hc
   cases k
   obtain⟨v1,r1,e1,h1,v2,r2,rfl,h2,v3,r3,rfl,h3,h4⟩:=hl
   cases h1;cases h2;cases h3;cases h4
   have hv:vals= #[.int .u64 x,.int .u64 y,.int .u64 c]:=by rw[←Array.toArray_toList (xs:=vals),e1]
   subst hv
   refine⟨.tuple #[.int .u64 ((x+y+c)%18446744073709551616),.int .u64 ((x+y+c)/18446744073709551616)],?_,⟨_,rfl,_,_,rfl,rfl,_,_,rfl,rfl,rfl⟩⟩
   rw[run_callFunc_extern (e:=add64Entry) Tryd.func114 (by kernel_rfl) (by kernel_rfl) (by kernel_rfl) (by kernel_rfl),run_add64 x y c hc.1 hc.2.1 hc.2.2.1 hc.2.2.2]
   rfl
  ·cases k
 ·cases k
noncomputable def vE:Env:=envOf Tryd.prog Qs0 extF
theorem vE_ok:vE.Ok Tryd.prog:=env_ok plain Qk5 ext_ok
noncomputable abbrev Pg:Program:=Tryd.prog
def primesL:List Int:=[2,3,5,7,11,13,17,19,23,29,31,37,41,43,47,53,59,61]
def gs0:Gs:=[(0,primesL.map (V.int .i64))]
abbrev g0:T (List V):=glOf gs0
def sub:List Nat→Code→Code
 |[],c=>c
 |0::p,.seq a _=>sub p a
 | _::p,.seq _ b=>sub p b
 |0::p,.cond _ a _=>sub p a
 | _::p,.cond _ _ b=>sub p b
 | _::p,.block _ b=>sub p b
 | _::p,.loop b=>sub p b
 | _::p,.scope b=>sub p b
 | _:: _,c=>c
noncomputable def bodyOf(f:Nat):Code:=match codeOf Tryd.prog f with|some fi=>fi.body|none=>.skip
noncomputable def at'(f:Nat)(p:List Nat):Code:=sub p (bodyOf f)
abbrev i6(n:Int):V:=.int .i64 n
def ints(l:List Int):List V:=l.map (V.int .i64)
abbrev sl(l:List Int):V:=.im l.length (ints l)
theorem Qdt(l:List Int):(ints l).length=l.length:=by simp[ints]
theorem Qsg(l:List Int)(k:Nat):(ints l).drop k=ints (l.drop k):=by simp[ints]
theorem Qsa{l:List Int}{k:Nat}(h:k<l.length):headF ((ints l).drop k)=some (i6 l[k]):=by
 rw[Qsg,List.drop_eq_getElem_cons h];rfl
theorem Qae(l:List Int):HfL (ints l):=by
 induction l with
 |nil=>trivial
 |cons x l ih=>exact⟨trivial,ih⟩
abbrev yes(d:Nat):Nat×Hint:=(d,.bool true)
abbrev no(d:Nat):Nat×Hint:=(d,.bool false)
abbrev pl(d:Nat):Nat×Hint:=(d,.at_)
abbrev ld(d:Nat)(v:V):Nat×Hint:=(d,.ld v)
abbrev nu(d:Nat)(n:Int):Nat×Hint:=(d,.num n)
abbrev va(d:Nat)(v:V):Nat×Hint:=(d,.val v)
abbrev ap(d:Nat):Nat×Hint:=(d,.app)
abbrev mk(d:Nat):Nat×Hint:=(d,.mk)
abbrev st(c:List V):Nat×Hint:=(999999,.st c)
abbrev fn(d:Nat)(v:V):Nat×Hint:=(d,.fn v)
noncomputable def sp0:Qdl:=fun _ _=>none
theorem Qab{gl:T (List V)}:Qbg Tryd.prog gl sp0:=fun _ _ _ _ h=>by cases h
theorem wr6{n:Int}(h1: -9223372036854775808≤n)(h2:n≤9223372036854775807):wr .i64 n=n:=Qe2 h1 h2
theorem wr6'{n m:Int}(h1: -9223372036854775808≤n)(h2:n≤9223372036854775807)(h:n=m):wr .i64 n=m:=by rw[wr6 h1 h2,h]
theorem Qc8{l:List Int}{k:Nat}(h:k<l.length):headF ((ints l).drop (k*1))=some (i6 l[k]):=by rw[Nat.mul_one];exact Qsa h
theorem Qau{l:List Int}{k:Nat}(h:k<l.length):headF ((ints l).drop (k*1))=some (i6 (l.getD k 0)):=by
 rw[Qc8 h,List.getD_eq_getElem?_getD,List.getElem?_eq_getElem h];rfl
theorem rem6{G:Ctx}{t:Nat}{x y:Int}(h:y≠0):binV G .rem t (i6 x) (i6 y)=some (i6 (x.tmod y)):=by simp[binV,intV,h]
theorem rep_ints(n:Nat)(x:Int):rep n [i6 x]=ints (List.replicate n x):=by
 induction n with
 |zero=>rfl
 |succ n ih=>rw[rep,ih,List.replicate_succ];rfl
theorem Qof{l:List Int}{j:Nat}{x:Int}(h:j<l.length):layE (0+j*1) (ints l) [i6 x]=some (ints (l.set j x)):=by
 rw[Nat.zero_add,Nat.mul_one,Qd9,Qdt]
 have:Nat.ble (j+[i6 x].length) l.length=true:=Nat.ble_eq_true_of_le (by simp;omega)
 rw[this,cond_true]
 congr 1
 rw[List.set_eq_take_append_cons_drop,if_pos h]
 simp[ints,List.map_take,List.map_drop]
theorem Qjx{x y:Int}(h:x=y):(x != y)=false:=by simp[h]
theorem Qnm{x y:Int}(h:x≠y):(x != y)=true:=by simp[h]
theorem Qen{x y:Int}(h:x≠y):(x==y)=false:=by simp[h]
theorem Qjw{x y:Int}(h:x=y):(x==y)=true:=by simp[h]
theorem au{P:Prop}(h:P:=by
 (repeat'(first|(with_reducible apply And.intro)|(refine fun(_:True)=>?_)))<;>first|with_reducible(first|rfl|exact trivial|assumption|(refine decide_eq_true ?_<;>omega)|(refine decide_eq_false ?_<;>omega)|(refine Qc8 ?_<;>omega)|(refine Qjx ?_<;>omega)|(refine Qnm ?_<;>omega)|(refine Qen ?_<;>omega)|(refine Qjw ?_<;>omega)|(refine wr6' ?_ ?_ ?_<;>omega)|(refine rem6 ?_<;>omega)|(refine quo6 ?_ ?_ ?_<;>omega)|exact Qae _|omega)|((with_reducible show(_:V)=_);rfl)|(intro hk_;exfalso;revert hk_;simp;done)|(intros;simp_all;done)|(split<;>omega)|((with_reducible show decide _=true);exact decide_eq_true (by omega))|((with_reducible show decide _=false);exact decide_eq_false (by omega))|assumption|rfl|exact HfL_sls _|exact HfL_nt _|exact HfL_nls _|exact Qa8 _|(simp;done)|omega):P:=h
theorem aq{P:Prop}(h:P:=by
 first|exact TT_ok _|exact EQn_ok _ _ _|with_reducible(first|rfl|exact trivial|assumption|(refine decide_eq_true ?_<;>omega)|(refine decide_eq_false ?_<;>omega)|(refine Qc8 ?_<;>omega)|(refine Qjx ?_<;>omega)|(refine Qnm ?_<;>omega)|(refine Qen ?_<;>omega)|(refine Qjw ?_<;>omega)|(refine wr6' ?_ ?_ ?_<;>omega)|(refine rem6 ?_<;>omega)|(refine quo6 ?_ ?_ ?_<;>omega)|exact Qae _|omega)|((with_reducible show(_:V)=_);rfl)|(intro hk_;exfalso;revert hk_;simp;done)|(intros;simp_all;done)|(split<;>omega)|((with_reducible show decide _=true);exact decide_eq_true (by omega))|((with_reducible show decide _=false);exact decide_eq_false (by omega))):P:=h
set_option maxHeartbeats 1000000
set_option maxRecDepth 100000
abbrev arF(f:Nat→Int):List V:=[i6 (f 0),i6 (f 1),i6 (f 2),i6 (f 3),i6 (f 4),i6 (f 5),i6 (f 6),i6 (f 7),i6 (f 8),i6 (f 9),i6 (f 10),i6 (f 11),i6 (f 12),i6 (f 13),i6 (f 14),i6 (f 15),i6 (f 16),i6 (f 17)]
abbrev ar(f:Nat→Int):V:=.agg (arF f)
def upA(f:Nat→Int)(k:Nat)(v:Int):Nat→Int:=fun i=>if i=k then v else f i
def Qaj:Nat→Int:=fun _=>0
theorem lt18{k:Nat}(h:k<18):k=0∨k=1∨k=2∨k=3∨k=4∨k=5∨k=6∨k=7∨k=8∨k=9∨k=10∨k=11∨k=12∨k=13∨k=14∨k=15∨k=16∨k=17:=by omega
theorem idx41{f:Nat→Int}{k:Nat}(h:k<18):idxV (Qad Pg) 41 (ar f) (k:Int)=some (i6 (f k)):=by
 rcases lt18 h with rfl|rfl|rfl|rfl|rfl|rfl|rfl|rfl|rfl|rfl|rfl|rfl|rfl|rfl|rfl|rfl|rfl|rfl<;>kernel_rfl
theorem Qmo{g:Nat}{k:Nat}(h:k<18):placeV (Qad Pg) 41 (.ptr g 0) (k:Int)=some (.ptr g k):=by
 rcases lt18 h with rfl|rfl|rfl|rfl|rfl|rfl|rfl|rfl|rfl|rfl|rfl|rfl|rfl|rfl|rfl|rfl|rfl|rfl<;>kernel_rfl
theorem Qmb{f:Nat→Int}{k:Nat}(h:k<18):headF (dropF k (arF f))=some (i6 (f k)):=by
 rcases lt18 h with rfl|rfl|rfl|rfl|rfl|rfl|rfl|rfl|rfl|rfl|rfl|rfl|rfl|rfl|rfl|rfl|rfl|rfl<;>rfl
theorem lay_ar{f:Nat→Int}{k:Nat}{v:Int}(h:k<18):layE k (arF f) [i6 v]=some (arF (upA f k v)):=by
 rcases lt18 h with rfl|rfl|rfl|rfl|rfl|rfl|rfl|rfl|rfl|rfl|rfl|rfl|rfl|rfl|rfl|rfl|rfl|rfl<;>rfl
theorem Qbp{f g:Nat→Int}(h: ∀k,k<18→f k=g k):arF f=arF g:=by
 simp only[arF,h 0 (by omega),h 1 (by omega),h 2 (by omega),h 3 (by omega),h 4 (by omega),h 5 (by omega),h 6 (by omega),h 7 (by omega),h 8 (by omega),h 9 (by omega),h 10 (by omega),h 11 (by omega),h 12 (by omega),h 13 (by omega),h 14 (by omega),h 15 (by omega),h 16 (by omega),h 17 (by omega)]
def primeL:List Nat:=[2,3,5,7,11,13,17,19,23,29,31,37,41,43,47,53,59,61]
def primeN(k:Nat):Nat:=primeL.getD k 2
theorem Qef(k:Nat):2≤primeN k∧primeN k≤61:=by
 by_cases h:k<18
 ·rcases lt18 h with rfl|rfl|rfl|rfl|rfl|rfl|rfl|rfl|rfl|rfl|rfl|rfl|rfl|rfl|rfl|rfl|rfl|rfl<;>decide
 ·have : primeL.getD k 2 = 2 := by
   rw[List.getD_eq_getElem?_getD,List.getElem?_eq_none (by simp[primeL];omega)];rfl
  unfold primeN;omega
abbrev prV:V:=.agg (primesL.map (V.int .i64))
theorem idx40{k:Nat}(h:k<18):idxV (Qad Pg) 40 prV (k:Int)=some (i6 (primeN k)):=by
 rcases lt18 h with rfl|rfl|rfl|rfl|rfl|rfl|rfl|rfl|rfl|rfl|rfl|rfl|rfl|rfl|rfl|rfl|rfl|rfl<;>kernel_rfl
def strip(p:Nat):Nat→Nat→Nat×Nat
 |0,n=>(0,n)
 |t+1,n=>if n%p=0 then((strip p t (n/p)).1+1,(strip p t (n/p)).2)else(0,n)
structure SpI(p:Nat)(E M:Nat)(t n e:Nat):Prop where
 pos:1≤n
 fuel:n<2^t
 e1:(strip p t n).1+e=E
 e2:(strip p t n).2=M
theorem Qjj(n p:Nat):((n:Int)).tmod (p:Int)=((n%p:Nat):Int):=by
 rw[Int.tmod_eq_emod_of_nonneg (by omega)];simp
open Go.RowKit Go.ChangeShapes Go.WideShapes
def allB(w:World)(b:Nat):Prop:=b<w.heap.size
section
variable {H:Type} {enc:TypeId×Value→H} {w:World}
theorem int_trod{P:Program}{base:Nat}{sp:Nat→Bool}{held:Bool}{fuel:Nat}{t:TypeId}{k:IntKind}{c:Value}{y:DataW H×List MemPlace}
  (ht:P.underlying t=some (.int k))(h:DataW.trod enc P w base sp held fuel t [c]=some y): ∃n,c= .int k n∧y=(.lit (.int k n),[])∧(Lit.int k n).wf=true:=by
 cases fuel with
 |zero=>simp[DataW.trod]at h
 |succ fuel=>
  cases c<;>simp[DataW.trod,ht]at h
  rename_i k' n
  obtain⟨⟨rfl,hw⟩,rfl⟩:=h
  exact⟨n,rfl,rfl,hw⟩
def litN:DataW H→Int
 | .lit (.int _ n)=>n
 | _=>0
theorem Qe5{P:Program}{base:Nat}{sp:Nat→Bool}{held:Bool}{fuel:Nat}{t e:TypeId}{m:Nat}{k:IntKind}{cs:List Value}{x:DataW H×List MemPlace}
  (ht:P.underlying t=some (.array m e))(he:P.underlying e=some (.int k))(hce:P.cellsOf e=1)(hct:P.cellsOf t=m)(h:DataW.trod enc P w base sp held fuel t cs=some x):
  ∃ns:List Int,ns.length=m∧cs=ns.map (Value.int k)∧x.1= .agg (ns.map fun n=>.lit (.int k n))∧∀n∈ns,(Lit.int k n).wf=true:=by
 obtain⟨xs,f,rfl,rfl,hl,hxl,hx⟩:=DataW.trod_array ht h
 rw[hct]at hl
 have key: ∀i(hi:i<m),∃n,cs[i]'(by omega)= .int k n∧xs[i]'(by omega)=(.lit (.int k n),[])∧(Lit.int k n).wf=true:=by
  intro i hi
  have h1:=hx i hi
  rw[hce,Nat.mul_one,List.drop_eq_getElem_cons (by omega),List.take_succ_cons,List.take_zero,List.getElem?_eq_getElem (by omega)]at h1
  obtain⟨n,e1,e2,e3⟩:=int_trod he h1
  exact⟨n,e1,e2,e3⟩
 refine⟨xs.map fun y=>litN y.1,by simp[hxl],?_,?_,?_⟩
 ·refine List.ext_getElem (by simp; omega) fun i h1 h2 => ?_
  obtain⟨n,e1,e2,_⟩:=key i (by omega)
  simp[e1,e2,litN]
 ·refine congrArg DataW.agg ?_
  refine List.ext_getElem (by rw[List.length_map,List.length_map,List.length_map]) fun i h1 h2=>?_
  obtain⟨n,e1,e2,_⟩:=key i (by rw[List.length_map]at h1;omega)
  simp[e2,litN]
 ·intro n hn
  obtain⟨y,hy,rfl⟩:=List.mem_map.1 hn
  obtain⟨i,hi,rfl⟩:=List.getElem_of_mem hy
  obtain⟨n,_,e2,e3⟩:=key i (by omega)
  rw[e2];exact e3
theorem RL_map{s:Sig}{w:World}{k:IntKind}: ∀ns:List Int,RL s w (ns.map (V.int k)) (ns.map (Value.int k))
 |[]=>rfl
 |n::ns=>⟨_,_,rfl,rfl,RL_map ns⟩
end
theorem prime_glob:Pg.globalNamed "haruspex/score.primes" =some 0:=by kernel_rfl
theorem prime_type:(Pg.globals[0]?).map (·.type)=some 40:=by kernel_rfl
def primesA:Array Value:=(primesL.map (Value.int .i64)).toArray
theorem Qmp{W:World}(h:laidMet Pg [("haruspex/score.primes",Rows.laid_haruspex_score_primes)] W):W.var? Pg "haruspex/score.primes" =some primesA:=by
 obtain⟨ps,⟨g,t,cs,fuel,p,q,hg,ht,hvar,hd,_,_⟩,_⟩:=h
 obtain rfl:=Option.some.inj (prime_glob.symm.trans hg)
 obtain rfl:=Option.some.inj (prime_type.symm.trans ht)
 rw[hvar]
 congr 1
 obtain⟨ns,h1,h2,h3,_⟩:=Qe5 Tryd.underlying40 Tryd.underlying3 (by kernel_rfl) (by kernel_rfl) hd
 have h4:(ns.map fun n=>(DataW.lit (.int .i64 n):DataW Unit)).map litN=primesL:=by
  have e:(DataW.agg (ns.map fun n=>(DataW.lit (.int .i64 n):DataW Unit)))=Rows.laid_haruspex_score_primes:=h3.symm
  injection e with e
  rw[e];rfl
 have h5:ns=primesL:=by
  rw[←h4,List.map_map]
  exact(List.map_id' ns).symm
 rw[←Array.toArray_toList (xs:=cs),h2,h5];rfl
theorem prime_gl{W:World}(h:W.var? Pg "haruspex/score.primes" =some primesA):GL (sg (allB W)) W g0:=by
 intro g l hg
 have hg':((T.e:T (List V)).put 0 (primesL.map (V.int .i64))).get g=some l:=hg
 rw[T.get_put]at hg'
 split at hg'
 ·rename_i e
  cases hg'
  subst e
  have hsz:0<W.heap.size:=by
   have hv:=h
   simp only[World.var?,prime_glob,Option.bind_some]at hv
   split at hv
   ·rename_i c t f hb;exact(Array.getElem?_eq_some_iff.1 hb).1
   ·cases hv
  have key: ∀(l:List Int)(off:Nat),(∀(j:Nat)(h:j<l.length),W.cell? ⟨0,off+j,none⟩=some (.int .i64 l[j]))→RC (sg (allB W)) W (l.map (V.int .i64)) 0 off:=by
   intro l
   induction l with
   |nil=>intro _ _;trivial
   | cons y l ih =>
    intro off hh
    exact⟨⟨hsz,_,hh 0 (by simp),rfl⟩,ih (off+1) fun j hj=>by
     have:=hh (j+1) (by simpa using hj)
     rw[show off+1+j=off+(j+1)by omega]
     exact this⟩
  refine key primesL 0 fun j hj=>?_
  rw[World.var?_cell prime_glob h,Nat.zero_add]
  simp[primesA,List.getElem?_eq_getElem hj]
 ·simp at hg'
theorem Qsn{f:Nat}{ars:List V}{b:Bool}(h:FnOk Pg g0 f ars (.bool b))(hf:(codeOf Pg f).isSome=true){w:World}{vals:Array Value}(ha:RL (sg (allB w)) w ars vals.toList)(hg:GL (sg (allB w)) w g0):Calls Pg f vals w fun e w'=>e= .returned (.bool b)∧Below w.heap.size w w':=by
 obtain⟨fi,hfi⟩:=Option.isSome_iff_exists.1 hf
 obtain⟨next,e1,e2,e3⟩:=h.1 (sg (allB w)) w (.func (.func f) #[] #[]) vals ⟨#[],rfl,rfl⟩ ha (no_rh (fun b hb=>hb.elim id False.elim)) hg (fun _ _ h=>h)
 have hn:next= .enter f vals:=by
  have:=(vE_ok.code f fi hfi)
  obtain⟨fn,f1,f2,f3,f4,f5⟩:=this
  have:=f5 vals w
  simp[Deferred.ofValue,invoke,this]at e1
  exact e1.symm
 subst hn
 refine(callsIn_wide.1 e2).mono ?_
 rintro e w' ⟨u,s',rfl,g1,g2,g3,_⟩
 obtain rfl:u= .bool b:=g1
 exact⟨rfl,g3.mod.os,g3.mod.tape,g3.mod.output,g3.mod.size,fun k hk=>g3.mod.block k hk (fun⟨_,hm,_⟩=>by cases hm)⟩
noncomputable def Qkw(os:Os):World:=
 { World.holding Pg os ⟨#[], #[], []⟩ with heap := (World.holding Pg os ⟨#[], #[], []⟩).heap.modify 0 fun
   | .cells _ t frozen=>.cells primesA t frozen
   |o=>o}
def sumI:List Int→Int
 |[]=>0
 |x::l=>x+sumI l
def sumN:List Nat→Nat
 |[]=>0
 |x::l=>x+sumN l
theorem Qgw(a b:List Int):sumI (a++b)=sumI a+sumI b:=by
 induction a with
 |nil=>simp[sumI]
 |cons x a ih=>simp only[List.cons_append,sumI,ih];omega
theorem Qgx(a b:List Nat):sumN (a++b)=sumN a+sumN b:=by
 induction a with
 |nil=>simp[sumN]
 |cons x a ih=>simp only[List.cons_append,sumN,ih];omega
theorem Qlm{α:Type}(f:α→Int): ∀l:List α,(∀x∈l,f x=0)→sumI (l.map f)=0
 |[],_=>rfl
 |x::l,h=>by
  simp only[List.map_cons,sumI,h x List.mem_cons_self,Qlm f l (fun y hy=>h y (List.mem_cons_of_mem _ hy))];omega
theorem Qh4{α:Type}{f g:α→Int}: ∀l:List α,(∀x∈l,f x=g x)→sumI (l.map f)=sumI (l.map g)
 |[],_=>rfl
 |x::l,h=>by
  simp only[List.map_cons,sumI,h x List.mem_cons_self,Qh4 l (fun y hy=>h y (List.mem_cons_of_mem _ hy))]
theorem Qll{a b:List Int}(h:a.Perm b):sumI a=sumI b:=by
 induction h with
 |nil=>rfl
 |cons x _ ih=>simp only[sumI,ih]
 |swap x y l=>simp only[sumI];omega
 |trans _ _ h1 h2=>exact h1.trans h2
theorem Qg8{ks:List Nat}(f:Nat→Int)(n:Nat)(hn:ks.Nodup)(hk: ∀k∈ks,k<n)(h0: ∀j,j<n→j∉ks→f j=0):sumI ((List.range n).map f)=sumI (ks.map f):=by
 have hp:((List.range n).filter (fun j=>decide (j∈ks))).Perm ks:=by
  refine(List.perm_ext_iff_of_nodup (List.Nodup.sublist List.filter_sublist List.nodup_range) hn).2 fun a=>?_
  simp only[List.mem_filter,List.mem_range,decide_eq_true_eq]
  exact⟨fun h=>h.2,fun h=>⟨hk a h,h⟩⟩
 rw[←Qll (hp.map f)]
 have: ∀l:List Nat,(∀j∈l,j∉ks→f j=0)→sumI (l.map f)=sumI ((l.filter (fun j=>decide (j∈ks))).map f):=by
  intro l
  induction l with
  |nil=>intro _;rfl
  | cons x l ih =>
   intro h
   have h1:=ih (fun j hj=>h j (List.mem_cons_of_mem _ hj))
   by_cases hx:x∈ks
   ·rw [List.filter_cons_of_pos (by simpa using hx)]
    simp only[List.map_cons,sumI,h1]
   ·rw [List.filter_cons_of_neg (by simpa using hx)]
    simp only[List.map_cons,sumI,h1,h x List.mem_cons_self hx];omega
 exact this _ (fun j hj=>h0 j (List.mem_range.1 hj))
def bump(r q k:Nat):List (Nat×List Nat)→List (Nat×List Nat)
 |[]=>[(q,(List.replicate r 0).set k 1)]
 |(p,l)::es=>if p=q then(p,l.set k (l.getD k 0+1))::es else(p,l)::bump r q k es
def Qan(r:Nat)(P:List (Nat×Nat)):List (Nat×List Nat):=P.foldl (fun es p=>bump r p.1 p.2 es) []
def cntJ(P:List (Nat×Nat))(j k:Nat):Nat:=P.count (j,k)
def rowL(P:List (Nat×Nat))(r j:Nat):List Nat:=(List.range r).map (cntJ P j)
def conF(F:Nat→Nat→Int)(r:Nat)(l:List Nat)(i:Nat):Int:=sumI (l.map fun c=>F c i)+F (r-1) i-F (sumN l+(r-1)) i
def famZ(F:Nat→Nat→Int)(P:List (Nat×Nat))(r size:Nat)(i:Nat):Int:=sumI ((List.range size).map fun j=>conF F r (rowL P r j) i)
theorem Qcp(r:Nat)(P:List (Nat×Nat))(p:Nat×Nat):Qan r (P++[p])=bump r p.1 p.2 (Qan r P):=by simp[Qan,List.foldl_append]
structure EntOk(r:Nat)(P:List (Nat×Nat))(es:List (Nat×List Nat)):Prop where
 nodup:(es.map (·.1)).Nodup
 row: ∀e∈es,e.2=rowL P r e.1
 keys: ∀q,q∈es.map (·.1)↔∃k,(q,k)∈P
theorem Qj4(P:List (Nat×Nat))(q k j m:Nat):cntJ (P++[(q,k)]) j m=cntJ P j m+if q=j∧k=m then 1 else 0:=by
 unfold cntJ
 rw[List.count_append,List.count_singleton]
 by_cases h:q=j∧k=m
 ·rw[if_pos h];simp[h.1,h.2]
 ·rw [if_neg h]
  have:((q,k)==(j,m))=false:=by
   rw[beq_eq_false_iff_ne];intro e;cases e;exact h ⟨rfl,rfl⟩
  rw[this];rfl
theorem Qhy{P:List (Nat×Nat)}{r q k j:Nat}(h:q≠j):rowL (P++[(q,k)]) r j=rowL P r j:=by
 unfold rowL
 refine List.map_congr_left fun m _=>?_
 rw[Qj4,if_neg (fun h'=>h h'.1)];omega
theorem rowL_get{P:List (Nat×Nat)}{r j k:Nat}(h:k<r):(rowL P r j).getD k 0=cntJ P j k:=by
 unfold rowL
 rw[List.getD_eq_getElem?_getD,List.getElem?_map,List.getElem?_range h];rfl
theorem Qcj(P:List (Nat×Nat))(r j:Nat):(rowL P r j).length=r:=by simp[rowL]
theorem Qgt{P:List (Nat×Nat)}{r q k:Nat}(h:k<r):rowL (P++[(q,k)]) r q=(rowL P r q).set k ((rowL P r q).getD k 0+1):=by
 rw[rowL_get h]
 apply List.ext_getElem
 ·simp[rowL]
 ·intro m h1 h2
  rw[Qcj]at h1
  rw[List.getElem_set]
  simp only[rowL,List.getElem_map,List.getElem_range,Qj4]
  by_cases hm:k=m
  ·subst hm;simp
  ·simp[hm]
theorem Qgs{P:List (Nat×Nat)}{r j:Nat}(h: ¬ ∃k,(j,k)∈P):rowL P r j=List.replicate r 0:=by
 unfold rowL
 rw[List.eq_replicate_iff]
 refine⟨by simp,fun b hb=>?_⟩
 obtain⟨k,_,rfl⟩:=List.mem_map.1 hb
 exact List.count_eq_zero.2 fun hm=>h ⟨k,hm⟩
theorem Qjy(r q k:Nat): ∀es:List (Nat×List Nat),(bump r q k es).map (·.1)=if q∈es.map (·.1)then es.map (·.1)else es.map (·.1)++[q]
 |[]=>by simp[bump]
 | (p, l) :: es => by
  unfold bump
  by_cases hp:p=q
  ·subst hp;simp
  ·rw [if_neg hp]
   simp only[List.map_cons,Qjy r q k es,List.mem_cons]
   by_cases hm:q∈es.map (·.1)
   ·rw[if_pos hm,if_pos (.inr hm)]
   ·rw[if_neg hm,if_neg (by rintro(h|h);exact hp h.symm;exact hm h)];rfl
theorem bump_mem{r q k:Nat}: ∀{es:List (Nat×List Nat)},(es.map (·.1)).Nodup→∀e∈bump r q k es,(e.1≠q∧e∈es)∨(e.1=q∧((∃l,(q,l)∈es∧e.2=l.set k (l.getD k 0+1))∨(q∉es.map (·.1)∧e.2=(List.replicate r 0).set k 1)))
 |[],_,e,he=>by
  unfold bump at he
  obtain rfl:=List.mem_singleton.1 he
  exact .inr ⟨rfl,.inr ⟨by simp,rfl⟩⟩
 | (p, l) :: es, hn, e, he => by
  unfold bump at he
  rw[List.map_cons,List.nodup_cons]at hn
  by_cases hp:p=q
  ·subst hp
   rw[if_pos rfl]at he
   rcases List.mem_cons.1 he with rfl|he
   ·exact .inr ⟨rfl,.inl ⟨l,List.mem_cons_self,rfl⟩⟩
   ·refine .inl ⟨fun h=>hn.1 (h▸List.mem_map.2 ⟨e,he,rfl⟩),List.mem_cons_of_mem _ he⟩
  ·rw [if_neg hp] at he
   rcases List.mem_cons.1 he with rfl|he
   ·exact .inl ⟨hp,List.mem_cons_self⟩
   ·rcases bump_mem hn.2 e he with ⟨h1, h2⟩ | ⟨h1, ⟨l', h2, h3⟩ | ⟨h2, h3⟩⟩
    ·exact .inl ⟨h1,List.mem_cons_of_mem _ h2⟩
    ·exact .inr ⟨h1,.inl ⟨l',List.mem_cons_of_mem _ h2,h3⟩⟩
    ·refine .inr ⟨h1, .inr ⟨?_, h3⟩⟩
     rw[List.map_cons,List.mem_cons]
     rintro(h|h)
     ·exact hp h.symm
     ·exact h2 h
theorem EntOk.bump{r:Nat}{P:List (Nat×Nat)}{es:List (Nat×List Nat)}(h:EntOk r P es){q k:Nat}(hk:k<r):EntOk r (P++[(q,k)]) (bump r q k es):=by
 have hk':=Qjy r q k es
 refine⟨?_,fun e he=>?_,fun a=>?_⟩
 ·rw [hk']
  split
  ·exact h.nodup
  ·rename_i hm
   rw[List.nodup_append]
   refine⟨h.nodup,by simp,fun a ha b hb=>?_⟩
   obtain rfl:=List.mem_singleton.1 hb
   rintro rfl;exact hm ha
 ·rcases bump_mem h.nodup e he with ⟨h1, h2⟩ | ⟨h1, ⟨l, h2, h3⟩ | ⟨h2, h3⟩⟩
  ·rw[Qhy (Ne.symm h1)];exact h.row e h2
  ·rw [h1, Qgt hk, h3]
   have:=h.row _ h2
   dsimp only at this
   rw[this]
  ·rw [h1, Qgt hk, h3, Qgs (fun hx => h2 ((h.keys q).2 hx))]
   congr 1
   rw[List.getD_eq_getElem?_getD,List.getElem?_replicate];simp[hk]
 ·rw [hk']
  have:=h.keys a
  split
  ·rename_i hm
   rw[this]
   constructor
   ·rintro⟨m,hm⟩;exact⟨m,List.mem_append_left _ hm⟩
   ·rintro ⟨m, hm2⟩
    rcases List.mem_append.1 hm2 with h2|h2
    ·exact⟨m,h2⟩
    ·cases List.mem_singleton.1 h2;exact(h.keys _).1 hm
  ·rw [List.mem_append, this]
   constructor
   ·rintro (⟨m, hm⟩ | ha)
    ·exact⟨m,List.mem_append_left _ hm⟩
    ·obtain rfl:=List.mem_singleton.1 ha;exact⟨k,List.mem_append_right _ (List.mem_singleton.2 rfl)⟩
   ·rintro ⟨m, hm2⟩
    rcases List.mem_append.1 hm2 with h2|h2
    ·exact .inl ⟨m,h2⟩
    ·cases List.mem_singleton.1 h2;exact .inr (List.mem_singleton.2 rfl)
theorem Qbt{r:Nat}(P:List (Nat×Nat))(h: ∀p∈P,p.2<r):EntOk r P (Qan r P):=by
 have key: ∀(P Q:List (Nat×Nat)),(∀p∈Q,p.2<r)→EntOk r P (Qan r P)→EntOk r (P++Q) (Qan r (P++Q)):=by
  intro P Q
  induction Q generalizing P with
  |nil=>intro _ h;rw[List.append_nil];exact h
  |cons p Q ih=>
   intro hq h
   rw[show P++p::Q=(P++[p])++Q by simp]
   refine ih _ (fun x hx=>hq x (List.mem_cons_of_mem _ hx)) ?_
   rw[Qcp]
   exact h.bump (hq p List.mem_cons_self)
 have:=key [] P h ⟨by simp[Qan],by simp[Qan],by simp[Qan]⟩
 rwa [List.nil_append]at this
theorem Qjg(r:Nat):sumN (List.replicate r 0)=0:=by
 induction r with
 |zero=>rfl
 |succ r ih=>rw[List.replicate_succ,sumN,ih]
theorem con_zero{F:Nat→Nat→Int}{r i:Nat}(h0:F 0 i=0):conF F r (List.replicate r 0) i=0:=by
 unfold conF
 rw[Qjg,Qlm _ _ (fun x hx=>by rw[(List.mem_replicate.1 hx).2];exact h0)]
 simp only[Nat.zero_add];omega
theorem Qdq{F:Nat→Nat→Int}{r size i:Nat}{P:List (Nat×Nat)}(h0:F 0 i=0)(h: ∀p∈P,p.1<size∧p.2<r):sumI ((Qan r P).map fun e=>conF F r e.2 i)=famZ F P r size i:=by
 have hE:=Qbt P (fun p hp=>(h p hp).2)
 unfold famZ
 rw[Qg8 (ks:=(Qan r P).map (·.1)) _ size hE.nodup ?_ ?_,List.map_map]
 ·refine Qh4 _ fun e he => ?_
  simp only[Function.comp]
  rw[hE.row e he]
 ·intro k hk
  obtain⟨m,hm⟩:=(hE.keys k).1 hk
  exact(h _ hm).1
 ·intro j _ hj
  rw[Qgs (fun hx=>hj ((hE.keys j).2 hx))]
  exact con_zero h0
theorem Qdf{r:Nat}(P:List (Nat×Nat))(j:Nat)(h: ∀p∈P,p.2<r):sumN (rowL P r j)≤P.length:=by
 have key : ∀ (P Q : List (Nat × Nat)), (∀ p ∈ Q, p.2 < r) → sumN (rowL P r j) ≤ P.length → sumN (rowL (P ++ Q) r j) ≤ (P ++ Q).length := by
  intro P Q
  induction Q generalizing P with
  |nil=>intro _ h;rw[List.append_nil];exact h
  | cons p Q ih =>
   intro hq h
   rw[show P++p::Q=(P++[p])++Q by simp]
   refine ih _ (fun x hx=>hq x (List.mem_cons_of_mem _ hx)) ?_
   obtain⟨q,k⟩:=p
   have hk:k<r:=hq _ List.mem_cons_self
   by_cases hqj:q=j
   ·subst hqj
    rw[Qgt hk]
    have hs: ∀(l:List Nat)(k:Nat),k<l.length→sumN (l.set k (l.getD k 0+1))=sumN l+1:=by
     intro l
     induction l with
     |nil=>intro k h;cases h
     | cons x l ih =>
      intro k h
      cases k with
      |zero=>simp[sumN];omega
      |succ k=>
       have:=ih k (by simpa using h)
       simp only[List.set_cons_succ,List.getD_cons_succ,sumN,this];omega
    rw[hs _ _ (by rw[Qcj];exact hk)]
    simp;omega
   ·rw[Qhy hqj];simp;omega
 have:=key [] P h (by rw[Qgs (by simp),Qjg];exact Nat.zero_le _)
 rwa [List.nil_append]at this
theorem Qde{l:List Nat}{x:Nat}(h:x∈l):x≤sumN l:=by
 induction l with
 |nil=>cases h
 |cons y l ih=>
  simp only[sumN]
  rcases List.mem_cons.1 h with rfl|h
  ·omega
  ·have:=ih h;omega
set_option maxHeartbeats 1000000
set_option maxRecDepth 100000
abbrev lk(d:Nat)(es:List (V×V×Nat))(ck:Nat)(r0:Option (Nat×V)):Nat×Hint:=(d,.lk es ck r0)
abbrev up(es:List (V×V×Nat))(ck:Nat)(o':O):Nat×Hint:=(999999,.up es ck o')
abbrev lo_(d:Nat)(o:O)(v:V):Nat×Hint:=(d,.lo o v)
abbrev so(o:O)(c:List V):Nat×Hint:=(999999,.so o c)
abbrev toO(sl:List (Nat×V)):Nat×Hint:=(0,.toO sl)
abbrev lpF(sl:List (Nat×V))(e:Ex)(sl':List (Nat×V)):Nat×Hint:=(0,.loopF sl [(True,e,sl')])
def outF:List (Prop×Ex×List (Nat×V))→Ex→List (Nat×V)→Prop
 |[],_,_=>False
 |(p,e',sl')::l,e,sl=>(p∧e=e'∧sl=sl')∨outF l e sl
theorem outF_F{gl:T (List V)}{n:Nat}{M:Mem}: ∀{l:List (Prop×Ex×List (Nat×V))}{e:Ex}{sl:List (Nat×V)},outF l e sl→Qk7 gl n M.H M.nx M.lg l e (mkSo gl n sl M.H M.nx M.lg)
 |(p,e',sl')::l,e,sl,h=>by
  rcases h with⟨h1,h2,rfl⟩|h
  ·exact .inl ⟨h1,h2,rfl⟩
  ·exact .inr (outF_F h)
theorem Qkx{gl:T (List V)}{c b:Code}(hc:c= .loop b){k:Nat}{α:Type}(I:α→Mem→Prop)(S:α→List (Nat×V))(m:α→Nat)(out:Ex→List (Nat×V)→Mem→Prop)
  (h: ∀x(H:T O)(nx:Nat)(lg:List Nat)(G:Ex→List (Nat×V)→T O→Nat→List Nat→Prop),I x ⟨H,nx,lg⟩→(∀y H nx lg,I y ⟨H,nx,lg⟩→m y<m x→G .normal (S y) H nx lg)→(∀i sl H nx lg,out (.exit i) sl ⟨H,nx,lg⟩→G (.exit i) sl H nx lg)→(∀sl H nx lg,out .ret sl ⟨H,nx,lg⟩→G .ret sl H nx lg)→∃hs n,vc Pg vE sp0 none 0 n b hs (mkSo gl k (S x) H nx lg) (kEndO k G))
  (x:α)(M:Mem)(hx:I x M):Sat Pg none 0 c (mkSo gl k (S x) M.H M.nx M.lg) (fun e st=>∃sl M',st=mkSo gl k sl M'.H M'.nx M'.lg∧out e sl M'):=
 loopO vE_ok mixed Qab hc I S m out (fun x H nx lg hI=>h x H nx lg _ hI (fun y H nx lg h1 h2=>⟨y,h1,h2,rfl⟩) (fun i sl H nx lg h=>h) (fun sl H nx lg h=>h)) x M hx
theorem loopFr{gl:T (List V)}{c b:Code}(hc:c= .loop b){k:Nat}{α:Type}(I:α→Prop)(S:α→List (Nat×V))(m:α→Nat)(outs:List (Prop×Ex×List (Nat×V)))(H:T O)(nx:Nat)(lg:List Nat)
  (h: ∀x(G:Ex→List (Nat×V)→T O→Nat→List Nat→Prop),I x→(∀y,I y→m y<m x→G .normal (S y) H nx lg)→(∀i sl,outF outs (.exit i) sl→G (.exit i) sl H nx lg)→∃hs n,vc Pg vE sp0 none 0 n b hs (mkSo gl k (S x) H nx lg) (kEndO k G))(x:α)(hx:I x):Sat Pg none 0 c (mkSo gl k (S x) H nx lg) (Qk7 gl k H nx lg outs):=by
 refine(Qkx hc (fun y M'=>I y∧M'=⟨H,nx,lg⟩) S m (fun e sl M'=>M'=⟨H,nx,lg⟩∧outF outs e sl) (fun x H' nx' lg' G hI hN hE _=>?_) x ⟨H,nx,lg⟩ ⟨hx,rfl⟩).mono ?_
 ·obtain ⟨hI, e⟩ := hI
  cases e
  exact h x G hI (fun y h1 h2=>hN y _ _ _ ⟨h1,rfl⟩ h2) (fun i sl h=>hE i sl _ _ _ ⟨rfl,h⟩)
 ·rintro e st ⟨sl, M', rfl, rfl, ho⟩
  exact outF_F (M:=⟨H,nx,lg⟩) ho
theorem loopHG{gl:T (List V)}{c b:Code}(hc:c= .loop b){k nx0:Nat}{α:Type}(I:α→Prop)(S:α→SL)(m:α→Nat)(out:Ex→SL→Prop)
  (h: ∀x(G:Ex→SL→Prop),I x→(∀y,I y→m y<m x→G .normal (S y))→(∀i S',out (.exit i) S'→G (.exit i) S')→(∀S',out .ret S'→G .ret S')→∃hs n,vc Pg vE sp0 none nx0 n b hs (mkSt gl k (S x)) (kEnd nx0 k G))(x:α)(hx:I x):Sat Pg none nx0 c (mkSt gl k (S x)) (fun e st=>∃S',st=mkSt gl k S'∧out e S'):=
 loopH vE_ok mixed Qab hc I S m out (fun x hI=>h x _ hI (fun y h1 h2=>⟨y,h1,h2,rfl⟩) (fun i S' h=>h) (fun S' h=>h)) x hx
theorem Qam{α:Type}(t:T α)(i j:Nat)(x:α):gt (pt t i x) j=if j=i then some x else gt t j:=by rw[Qay,pt_eq,T.get_put,Qay]
def nt(l:List Nat):List V:=l.map fun(x:Nat)=>i6 (x:Int)
abbrev nl(l:List Nat):V:=.im l.length (nt l)
theorem Qeu(l:List Nat):nt l=ints (l.map fun(x:Nat)=>(x:Int)):=by simp[nt,ints,List.map_map,Function.comp]
theorem Qdr{l:List Nat}{k:Nat}(h:k<l.length):headF ((nt l).drop (k*1))=some (i6 ((l.getD k 0:Nat):Int)):=by
 rw[Qeu,Qau (by simpa using h)]
 congr 2
 rw[List.getD_eq_getElem?_getD,List.getD_eq_getElem?_getD,List.getElem?_map,List.getElem?_eq_getElem h];rfl
theorem HfL_nt(l:List Nat):HfL (nt l):=by rw[Qeu];exact Qae _
theorem rep_nt(n x:Nat):rep n [i6 (x:Int)]=nt (List.replicate n x):=by rw[rep_ints,Qeu,List.map_replicate]
theorem lay_nt{l:List Nat}{j x:Nat}(h:j<l.length):layE (0+j*1) (nt l) [i6 (x:Int)]=some (nt (l.set j x)):=by
 rw[Qeu,Qof (by simpa using h),Qeu]
 congr 2
 apply List.ext_getElem
 ·simp
 ·intro n h1 h2
  simp only[List.getElem_set,List.getElem_map]
  split<;>rfl
theorem Qb3{α:Type}(f:α→V)(l:List α)(h: ∀x,Hf (f x)):HfL (l.map f):=by
 induction l with
 |nil=>trivial
 |cons x l ih=>exact⟨h x,ih⟩
theorem Qc9{α:Type}{f:α→V}{l:List α}{k:Nat}{x:α}(h:l[k]? =some x):headF ((l.map f).drop (k*1))=some (f x):=by
 obtain⟨hk,rfl⟩:=List.getElem?_eq_some_iff.1 h
 rw[Nat.mul_one,←List.map_drop,List.drop_eq_getElem_cons hk];rfl
abbrev u6(n:Int):V:=.int .u64 n
theorem Qli{G:Ctx}{t:Nat}{x k:Nat}(hk:k≤64):binV G .shr t (u6 (x:Int)) (i6 (k:Int))=some (u6 ((x/2^k:Nat):Int)):=by
 have h1:((k:Int)<0)=False:=by simp
 have h2:min k 64=k:=by omega
 simp only[binV,intV,h1,if_false,Int.toNat_natCast,IntKind.bits,h2]
 rw[Int.fdiv_eq_ediv_of_nonneg _ (Int.natCast_nonneg _)]
 rfl
theorem Qjv{G:Ctx}{t:Nat}{x:Nat}:binV G .and t (u6 (x:Int)) (u6 1)=some (u6 ((x%2:Nat):Int)):=by
 have h:(BitVec.ofInt 64 (x:Int)&&& BitVec.ofInt 64 1).toNat=x%2:=by
  rw[BitVec.toNat_and]
  have h1:(BitVec.ofInt 64 1).toNat=1:=by decide
  rw[h1,Nat.and_one_is_mod]
  have h2:(BitVec.ofInt 64 (x:Int)).toNat=x%2^64:=by
   rw[BitVec.toNat_ofInt];omega
  rw[h2];omega
 have hw:IntKind.u64.wrap ((x%2:Nat):Int)=((x%2:Nat):Int):=by
  rw[←wr_eq];exact Qe2 (by simp[lo];omega) (by simp[hi];omega)
 have e:binV G .and t (u6 (x:Int)) (u6 1)=some (.int .u64 (IntKind.u64.wrap ((BitVec.ofInt 64 (x:Int)&&& BitVec.ofInt 64 1).toNat:Int))):=rfl
 rw[e,h,hw]
def rowN(cards:List Nat)(ps:Nat)(vals:List Nat):Nat→Nat
 |0=>0
 |k+1=>if ps/2^k%2=1 then rowN cards ps vals k*cards.getD k 0+vals.getD k 0 else rowN cards ps vals k
def Qgv(cards:List Nat)(ps:Nat):Nat→Nat
 |0=>1
 |k+1=>if ps/2^k%2=1 then Qgv cards ps k*cards.getD k 0 else Qgv cards ps k
structure CardsOk(cards:List Nat):Prop where
 pos:1≤cards.length
 six:cards.length≤6
 each: ∀k,k<cards.length→2≤cards.getD k 0∧cards.getD k 0≤4
structure CaseOk(cards vals:List Nat):Prop where
 len:vals.length=cards.length
 lt: ∀k,k<cards.length→vals.getD k 0<cards.getD k 0
theorem Qo2{cards:List Nat}(h:CardsOk cards)(ps:Nat): ∀k,k≤cards.length→1≤Qgv cards ps k∧Qgv cards ps k≤4^k
 |0,_=>by simp[Qgv]
 | k + 1, hk => by
  have h1:=Qo2 h ps k (by omega)
  have h2:=h.each k (by omega)
  unfold Qgv
  split
  ·constructor
   ·exact Nat.mul_pos h1.1 (by omega)
   ·rw[Nat.pow_succ];exact Nat.mul_le_mul h1.2 h2.2
  ·rw[Nat.pow_succ];omega
theorem Qmu{cards vals:List Nat}(h:CardsOk cards)(hv:CaseOk cards vals)(ps:Nat): ∀k,k≤cards.length→rowN cards ps vals k<Qgv cards ps k
 |0,_=>by simp[rowN,Qgv]
 |k+1,hk=>by
  have h1:=Qmu h hv ps k (by omega)
  have h2:=h.each k (by omega)
  have h3:=hv.lt k (by omega)
  unfold rowN Qgv
  split
  ·calc _<rowN cards ps vals k*cards.getD k 0+cards.getD k 0:=by omega
    _=(rowN cards ps vals k+1)*cards.getD k 0:=by rw[Nat.add_mul,Nat.one_mul]
    _≤_:=Nat.mul_le_mul_right _ h1
  ·exact h1
theorem pow4{k:Nat}(h:k≤6):4^k≤4096:=by
 calc 4^k≤4^6:=Nat.pow_le_pow_right (by omega) h
  _=4096:=by decide
theorem rowN_bd{cards vals:List Nat}(h:CardsOk cards)(hv:CaseOk cards vals)(ps:Nat){k:Nat}(hk:k≤cards.length):rowN cards ps vals k<4096:=by
 have:=Qmu h hv ps k hk
 have:=Qo2 h ps k hk
 have:=pow4 (show k≤6 by have:=h.six;omega)
 omega
abbrev cV(cs:List (List Nat)):V:=.im cs.length (cs.map nl)
abbrev dN(cards:List Nat)(cs:List (List Nat)):V:=.agg [nl cards,cV cs]
abbrev gC(cs:List (List Int)):V:=.im cs.length (cs.map sl)
abbrev gV(cards:List Int)(cs:List (List Int)):V:=.agg [sl cards,gC cs]
abbrev gO(cards:List Int)(cs:List (List Int)):O:=.row 32 none [sl cards,gC cs]
def okC(x:Int):Bool:=decide (2≤x∧x≤4)
def okX(c x:Int):Bool:=decide (-1≤x∧x<c)
def okCs(cards:List Int):Bool:=(List.range cards.length).all fun j=>okC (cards.getD j 0)
def okRow(cards c:List Int):Bool:=decide (c.length=cards.length)&&(List.range cards.length).all fun j=>okX (cards.getD j 0) (c.getD j 0)
def prodT(cards:List Int):Nat→Int
 |0=>1
 |k+1=>prodT cards k*cards.getD k 0
def okAll(cards:List Int)(cs:List (List Int)):Bool:=
 decide (1≤cards.length)&&(decide (cards.length≤6)&&(decide (cs.length≤40)&&(okCs cards&&(decide (prodT cards cards.length≤1024)&&cs.all (okRow cards)))))
theorem all_range{n:Nat}{p:Nat→Bool}:(List.range n).all p=true↔∀j,j<n→p j=true:=by
 rw[List.all_eq_true]
 exact⟨fun h j hj=>h j (List.mem_range.2 hj),fun h j hj=>h j (List.mem_range.1 hj)⟩
theorem Qbc{n k:Nat}{p:Nat→Bool}(hk:k<n)(h:p k=false):(List.range n).all p=false:=by
 cases hb:(List.range n).all p with
 |false=>rfl
 |true=>rw[all_range.1 hb k hk]at h;cases h
theorem Qi2{cards:List Int}: ∀k:Nat,(∀j,j<k→okC (cards.getD j 0)=true)→1≤prodT cards k∧prodT cards k≤4^k
 |0,_=>by simp[prodT]
 |k+1,h=>by
  have h1:=Qi2 k (fun j hj=>h j (by omega))
  have h2:=of_decide_eq_true (h k (by omega))
  unfold prodT
  have h3:prodT cards k*1≤prodT cards k*cards.getD k 0:=Int.mul_le_mul_of_nonneg_left (by omega) (by omega)
  have h4:prodT cards k*cards.getD k 0≤4^k*4:=Int.mul_le_mul h1.2 h2.2 (by omega) (by omega)
  rw[Int.pow_succ]
  omega
theorem pow4I{k:Nat}(h:k≤6):(4:Int)^k≤4096:=by
 have:k=0∨k=1∨k=2∨k=3∨k=4∨k=5∨k=6:=by omega
 rcases this with rfl|rfl|rfl|rfl|rfl|rfl|rfl<;>decide
theorem Qb6{gl:T (List V)}{n:Nat}{p q:Prop}{e e':Ex}{S S':SL}(hp:p)(hq: ¬q): ∀e1 st,Qaf gl n [(p,e,S),(q,e',S')] e1 st→Qaf gl n [(True,e,S)] e1 st:=by
 rintro e1 st (⟨_,h⟩|⟨h,_⟩|h)
 ·exact .inl ⟨trivial,h⟩
 ·exact absurd h hq
 ·exact h.elim
theorem Qb7{gl:T (List V)}{n:Nat}{p q:Prop}{e e':Ex}{S S':SL}(hp: ¬p)(hq:q): ∀e1 st,Qaf gl n [(p,e,S),(q,e',S')] e1 st→Qaf gl n [(True,e',S')] e1 st:=by
 rintro e1 st (⟨h,_⟩|⟨_,h⟩|h)
 ·exact absurd h hp
 ·exact .inl ⟨trivial,h⟩
 ·exact h.elim
abbrev ckS(cards:List Int)(cs:List (List Int))(k:Nat):SL:={sl:=[(1,.ptr 0 0),(3,i6 (prodT cards k)),(28,sl cards),(29,i6 cards.length),(30,i6 k)],os:=[gO cards cs]}
abbrev ckX(cards:List Int)(cs:List (List Int))(w:Int):SL:={sl:=[(1,.ptr 0 0),(3,i6 w)],os:=[gO cards cs]}
abbrev ckR(e:Int):SL:={sl:=[(2,i6 e)]}
theorem Qq0(cards:List Int)(cs:List (List Int))(h6:cards.length≤6):
  Sat Pg none 0 (at' 84 [1,0,1,1,0,1,0]) (mkSt g0 80 (ckS cards cs 0)) (Qaf g0 80 [(okCs cards=true,.exit 0,ckX cards cs (prodT cards cards.length)),(okCs cards=false,.ret,ckR 250)]):=by
 refine Qa2 vE_ok mixed Qab (b:=at' 84 [1,0,1,1,0,1,0,0]) (by kernel_rfl) (fun k=>k≤cards.length∧∀j,j<k→okC (cards.getD j 0)=true) (ckS cards cs) (fun k=>cards.length-k) (fun k hk=>?_) 0 ⟨Nat.zero_le _,fun j h=>absurd h (Nat.not_lt_zero _)⟩
 obtain⟨hk,hj⟩:=hk
 by_cases hlt:k<cards.length
 ·have hld := @Qau cards k hlt
  have hpb:=Qi2 k hj
  have hp4:=pow4I (show k≤6 by omega)
  have hnext:prodT cards (k+1)=prodT cards k*cards.getD k 0:=rfl
  have hbad:okC (cards.getD k 0)=false→okCs cards=false:=fun h=>Qbc hlt h
  have hgood:okC (cards.getD k 0)=true→∀j,j<k+1→okC (cards.getD j 0)=true:=fun h j hj1=>by
   rcases Nat.lt_succ_iff_lt_or_eq.1 hj1 with h2|h2
   ·exact hj j h2
   ·subst h2;exact h
  have hS:ckS cards cs (k+1)={sl:=[(1,.ptr 0 0),(3,i6 (prodT cards k*cards.getD k 0)),(28,sl cards),(29,i6 cards.length),(30,i6 (k+1:Nat))],os:=[gO cards cs]}:=rfl
  by_cases h1:cards.getD k 0<2
  ·have hb := hbad (by unfold okC; exact decide_eq_false (by omega))
   refine .inr ⟨.ret,[],ckR 250,[yes 31,pl 32,ld 33 (i6 (cards.getD k 0)),yes 35],1000,.inr (.inl ⟨hb,rfl,rfl⟩),?_⟩
   generalize cards.getD k 0=x at*
   refine Eq.mp (by kernel_rfl:(let z0:=(↑cards.length:Int);let z1:=(↑k:Int);An [decide (z1<z0)=true,An [(0:Int)≤z1,z1<z0],headF (List.drop (k*1) (ints cards))=some (i6 x),decide (x<(2:Int))=true,An [Sm (250:Int),Tt],Tt])=_) ?_
   exact au
  ·by_cases h2 : cards.getD k 0 > 4
   ·have hb := hbad (by unfold okC; exact decide_eq_false (by omega))
    refine .inr ⟨.ret,[],ckR 250,[yes 31,pl 32,ld 33 (i6 (cards.getD k 0)),no 35,yes 38],1000,.inr (.inl ⟨hb,rfl,rfl⟩),?_⟩
    generalize cards.getD k 0=x at*
    refine Eq.mp (by kernel_rfl:(let z0:=(↑cards.length:Int);let z1:=(↑k:Int);An [decide (z1<z0)=true,An [(0:Int)≤z1,z1<z0],headF (List.drop (k*1) (ints cards))=some (i6 x),decide (x<(2:Int))=false,decide (x>(4:Int))=true,An [Sm (250:Int),Tt],Tt])=_) ?_
    exact au
   ·have hg := hgood (by unfold okC; exact decide_eq_true (by omega))
    have hm:prodT cards k*cards.getD k 0≤4096*4:=Int.mul_le_mul (by omega) (by omega) (by omega) (by omega)
    have hm0:0≤prodT cards k*cards.getD k 0:=Int.mul_nonneg (by omega) (by omega)
    refine .inl ⟨k+1,[0],[yes 31,pl 32,ld 33 (i6 (cards.getD k 0)),no 35,no 38,nu 42 (prodT cards k*cards.getD k 0),nu 43 (k+1:Nat)],1000,⟨hlt,hg⟩,by omega,?_⟩
    rw[hS]
    generalize hy:prodT cards k*cards.getD k 0=y at*
    refine Eq.mp (by kernel_rfl:(let z0:=List.getD cards k (0:Int);let z1:=(↑cards.length:Int);let z2:=(↑(k+1):Int);let z3:=(↑k:Int);An [decide (z3<z1)=true,An [(0:Int)≤z3,z3<z1],headF (List.drop (k*1) (ints cards))=some (i6 z0),decide (z0<(2:Int))=false,decide (z0>(4:Int))=false,wr .i64 (prodT cards k*z0)=y,wr .i64 (z3+(1:Int))=z2,An [Zz,y=y,An [Sm cards.length,Sm (ints cards)],z1=z1,z2=z2,Tt],An [Sm [sl cards,gC cs],TT 2],Tt])=_) ?_
    (repeat'(first|(with_reducible apply And.intro)|(refine fun(_:True)=>?_)))<;>first|exact aq|skip
    all_goals first|exact HfL_sls _|(rw[hy];exact wr6 (by omega) (by omega))
 ·have : k = cards.length := by omega
  subst this
  refine .inr ⟨.exit 0,[0],ckX cards cs (prodT cards cards.length),[no 31],1000,.inl ⟨all_range.2 hj,rfl,rfl⟩,?_⟩
  show vc _ _ _ _ _ _ _ _ (mkSt g0 80 {sl:=[(1,.ptr 0 0),(3,i6 (prodT cards cards.length)),(28,sl cards),(29,i6 cards.length),(30,i6 (cards.length:Nat))],os:=[gO cards cs]}) _
  generalize prodT cards cards.length=w at*
  refine Eq.mp (by kernel_rfl:(let z0:=(↑cards.length:Int);An [decide (z0<z0)=false,An [Zz,w=w,Tt],An [Sm [sl cards,gC cs],TT 2],Tt])=_) ?_
  exact au
abbrev cvS(cards:List Int)(cs:List (List Int))(i:Nat)(c:List Int)(j:Nat):SL:={sl:=[(1,.ptr 0 0),(6,i6 0),(47,gC cs),(48,i6 cs.length),(49,i6 i),(59,sl c),(60,i6 c.length),(61,i6 j)],os:=[gO cards cs]}
abbrev cwS(cards:List Int)(cs:List (List Int))(i:Nat):SL:={sl:=[(1,.ptr 0 0),(6,i6 0),(47,gC cs),(48,i6 cs.length),(49,i6 i)],os:=[gO cards cs]}
abbrev cwX(e:Int):SL:={sl:=[(6,i6 e)]}
theorem chk_row(cards:List Int)(cs:List (List Int))(i:Nat)(c:List Int)(hlen:c.length=cards.length)(h6:cards.length≤6):
  Sat Pg none 0 (at' 84 [1,0,1,1,1,1,1,1,0,1,0,0,1,1,0,0,1,1,1,0]) (mkSt g0 80 (cvS cards cs i c 0)) (Qaf g0 80 [(okRow cards c=true,.exit 4,cwS cards cs i),(okRow cards c=false,.exit 2,cwX 250)]):=by
 refine Qa2 vE_ok mixed Qab (b:=at' 84 [1,0,1,1,1,1,1,1,0,1,0,0,1,1,0,0,1,1,1,0,0]) (by kernel_rfl) (fun k=>k≤cards.length∧∀j,j<k→okX (cards.getD j 0) (c.getD j 0)=true) (cvS cards cs i c) (fun k=>cards.length-k) (fun k hk=>?_) 0 ⟨Nat.zero_le _,fun j h=>absurd h (Nat.not_lt_zero _)⟩
 obtain⟨hk,hj⟩:=hk
 by_cases hlt:k<cards.length
 ·have hld := @Qau cards k hlt
  have hld2:=@Qau c k (by omega)
  have hbad:okX (cards.getD k 0) (c.getD k 0)=false→okRow cards c=false:=fun h=>by
   unfold okRow;rw[Qbc hlt h,Bool.and_false]
  have hgood:okX (cards.getD k 0) (c.getD k 0)=true→∀j,j<k+1→okX (cards.getD j 0) (c.getD j 0)=true:=fun h j hj1=>by
   rcases Nat.lt_succ_iff_lt_or_eq.1 hj1 with h2|h2
   ·exact hj j h2
   ·subst h2;exact h
  by_cases h1:c.getD k 0< -1
  ·have hb := hbad (by unfold okX; exact decide_eq_false (by omega))
   refine .inr ⟨.exit 2,[],cwX 250,[yes 62,pl 64,ld 65 (i6 (c.getD k 0)),yes 67],1000,.inr (.inl ⟨hb,rfl,rfl⟩),?_⟩
   refine Eq.mp (by kernel_rfl:(let z0:=List.getD c k (0:Int);let z1:=(↑k:Int);An [decide (z1<(↑c.length:Int))=true,An [(0:Int)≤z1,z1<(↑c.length:Int)],headF (List.drop (k*1) (ints c))=some (i6 z0),decide (z0<(-1:Int))=true,An [Sm (250:Int),Tt],Tt])=_) ?_
   exact au
  ·by_cases h2 : c.getD k 0 ≥ cards.getD k 0
   ·have hb := hbad (by unfold okX; exact decide_eq_false (by omega))
    refine .inr ⟨.exit 2,[],cwX 250,[yes 62,pl 64,ld 65 (i6 (c.getD k 0)),no 67,pl 73,ld 74 (i6 (cards.getD k 0)),yes 75],1000,.inr (.inl ⟨hb,rfl,rfl⟩),?_⟩
    refine Eq.mp (by kernel_rfl:(let z1:=(↑k:Int);let z2:=(0:Int);let z0:=List.getD c k z2;let z3:=List.getD cards k z2;An [decide (z1<(↑c.length:Int))=true,An [z2≤z1,z1<(↑c.length:Int)],headF (List.drop (k*1) (ints c))=some (i6 z0),decide (z0<(-1:Int))=false,An [z2≤z1,z1<(↑cards.length:Int)],headF (List.drop (k*1) (ints cards))=some (i6 z3),decide (z0≥z3)=true,An [Sm (250:Int),Tt],Tt])=_) ?_
    exact au
   ·have hg := hgood (by unfold okX; exact decide_eq_true (by omega))
    refine .inl ⟨k+1,[0],[yes 62,pl 64,ld 65 (i6 (c.getD k 0)),no 67,pl 73,ld 74 (i6 (cards.getD k 0)),no 75,nu 77 (k+1:Nat)],1000,⟨hlt,hg⟩,by omega,?_⟩
    refine Eq.mp (by kernel_rfl:(let z0:=(0:Int);let z1:=(↑c.length:Int);let z2:=(↑k:Int);let z3:=(↑(k+1):Int);let z4:=List.getD c k z0;let z5:=List.getD cards k z0;An [decide (z2<z1)=true,An [z0≤z2,z2<z1],headF (List.drop (k*1) (ints c))=some (i6 z4),decide (z4<(-1:Int))=false,An [z0≤z2,z2<(↑cards.length:Int)],headF (List.drop (k*1) (ints cards))=some (i6 z5),decide (z4≥z5)=false,wr .i64 (z2+(1:Int))=z3,An [Zz,z0=z0,An [Sm cs.length,Sm (List.map sl cs)],Sm (↑cs.length:Int),Sm (↑i:Int),An [Sm c.length,Sm (ints c)],z1=z1,z3=z3,Tt],An [Sm [sl cards,gC cs],TT 2],Tt])=_) ?_
    exact au
 ·have : k = cards.length := by omega
  subst this
  have hg:okRow cards c=true:=by unfold okRow;rw[all_range.2 hj,decide_eq_true hlen];rfl
  refine .inr ⟨.exit 4,[0],cwS cards cs i,[no 62],1000,.inl ⟨hg,rfl,rfl⟩,?_⟩
  refine Eq.mp (by kernel_rfl:(An [decide ((↑cards.length:Int)<(↑c.length:Int))=false,An [Zz,Sm (0:Int),An [Sm cs.length,Sm (List.map sl cs)],Sm (↑cs.length:Int),Sm (↑i:Int),Tt],An [Sm [sl cards,gC cs],TT 2],Tt])=_) ?_
  exact au
theorem chk_rows(cards:List Int)(cs:List (List Int))(h6:cards.length≤6)(h40:cs.length≤40)(e:Int)(he:e=if cs.all (okRow cards)then 0 else 250):
  Sat Pg none 0 (at' 84 [1,0,1,1,1,1,1,1,0,1,0]) (mkSt g0 80 (cwS cards cs 0)) (Qaf g0 80 [(True,.exit 2,cwX e)]):=by
 refine Qa2 vE_ok mixed Qab (b:=at' 84 [1,0,1,1,1,1,1,1,0,1,0,0]) (by kernel_rfl) (fun k=>k≤cs.length∧(cs.take k).all (okRow cards)=true) (cwS cards cs) (fun k=>cs.length-k) (fun k hk=>?_) 0 ⟨Nat.zero_le _,rfl⟩
 obtain⟨hk,hj⟩:=hk
 by_cases hlt:k<cs.length
 ·have hck : cs[k]? = some cs[k] := List.getElem?_eq_getElem hlt
  have hmem:=List.getElem_mem hlt
  generalize cs[k]=c at*
  have hld:headF ((cs.map sl).drop (k*1))=some (sl c):=Qc9 hck
  have hbad:okRow cards c=false→e=250:=fun h=>by
   rw[he,if_neg (fun ha=>?_)]
   rw[List.all_eq_true]at ha
   rw[ha c hmem]at h;cases h
  have hgood:okRow cards c=true→(cs.take (k+1)).all (okRow cards)=true:=fun h=>by
   rw[List.take_add_one,hck,List.all_append,hj];simp[h]
  by_cases h1:c.length=cards.length
  ·have hrow := chk_row cards cs k c h1 h6
   cases hok:okRow cards c with
   |true=>
    have hr:=hrow.mono (Qb6 hok (by rw[hok];simp))
    refine .inl ⟨k+1,[0],[yes 50,pl 51,ld 52 (sl c),no 58,(0,.loop [0] (cvS cards cs k c 0) [(True,.exit 4,cwS cards cs k)]),nu 78 (k+1:Nat)],1000,⟨hlt,hgood hok⟩,by omega,?_⟩
    refine Eq.mp (by kernel_rfl:(let z0:=(↑cs.length:Int);let z1:=(↑k:Int);let z2:=List.map sl cs;let z3:=[sl cards,gC cs];let z4:=(0:Int);let z5:=(↑c.length:Int);let z6:=(↑(k+1):Int);An [decide (z1<z0)=true,An [z4≤z1,z1<z0],headF (List.drop (k*1) z2)=some (sl c),(z5 != (↑cards.length:Int))=false,An [An [Zz,z4=z4,An [Sm cs.length,z2=z2],z0=z0,z1=z1,An [Sm c.length,Sm (ints c)],z5=z5,(↑(0:Nat):Int)=z4,Tt],An [z3=z3,TT 2],Tt],Sat Pg none 0 (at' 84 [1,0,1,1,1,1,1,1,0,1,0,0,1,1,0,0,1,1,1,0]) (mkSt g0 80 (cvS cards cs k c 0)) (Qaf g0 80 [(True,Ex.exit 4,cwS cards cs k)]),(True→An [wr .i64 (z1+(1:Int))=z6,An [Zz,z4=z4,An [Sm cs.length,z2=z2],z0=z0,z6=z6,Tt],An [z3=z3,TT 2],Tt]),Tt])=_) ?_
    exact au
   |false=>
    have hr:=hrow.mono (Qb7 (by rw[hok];simp) hok)
    have:=hbad hok
    subst this
    refine .inr ⟨.exit 2,[],cwX 250,[yes 50,pl 51,ld 52 (sl c),no 58,(0,.loop [0] (cvS cards cs k c 0) [(True,.exit 2,cwX 250)])],1000,.inl ⟨trivial,rfl,rfl⟩,?_⟩
    refine Eq.mp (by kernel_rfl:(let z0:=(↑cs.length:Int);let z1:=(↑k:Int);let z2:=(↑c.length:Int);let z3:=List.map sl cs;let z4:=(0:Int);An [decide (z1<z0)=true,An [z4≤z1,z1<z0],headF (List.drop (k*1) z3)=some (sl c),(z2 != (↑cards.length:Int))=false,An [An [Zz,z4=z4,An [Sm cs.length,z3=z3],z0=z0,z1=z1,An [Sm c.length,Sm (ints c)],z2=z2,(↑(0:Nat):Int)=z4,Tt],An [Sm [sl cards,gC cs],TT 2],Tt],Sat Pg none 0 (at' 84 [1,0,1,1,1,1,1,1,0,1,0,0,1,1,0,0,1,1,1,0]) (mkSt g0 80 (cvS cards cs k c 0)) (Qaf g0 80 [(True,Ex.exit 2,cwX (250:Int))]),(True→An [An [Sm (250:Int),Tt],Tt]),Tt])=_) ?_
    exact au
  ·have := hbad (by unfold okRow; rw [decide_eq_false h1]; rfl)
   subst this
   refine .inr ⟨.exit 2,[],cwX 250,[yes 50,pl 51,ld 52 (sl c),yes 58],1000,.inl ⟨trivial,rfl,rfl⟩,?_⟩
   refine Eq.mp (by kernel_rfl:(let z0:=(↑k:Int);An [decide (z0<(↑cs.length:Int))=true,An [(0:Int)≤z0,z0<(↑cs.length:Int)],headF (List.drop (k*1) (List.map sl cs))=some (sl c),((↑c.length:Int) != (↑cards.length:Int))=true,An [Sm (250:Int),Tt],Tt])=_) ?_
   exact au
 ·have : k = cs.length := by omega
  subst this
  rw[List.take_length]at hj
  have:e=0:=by rw[he,if_pos hj]
  subst this
  refine .inr ⟨.exit 2,[],cwX 0,[no 50],1000,.inl ⟨trivial,rfl,rfl⟩,?_⟩
  refine Eq.mp (by kernel_rfl:(An [decide ((↑cs.length:Int)<(↑cs.length:Int))=false,An [Sm (0:Int),Tt],Tt])=_) ?_
  exact au
def chkE(cards:List Int)(cs:List (List Int)):Int:=if okAll cards cs then 0 else 250
theorem Qnr(cards:List Int)(cs:List (List Int))(hl1:cards.length≤1000)(hl2:cs.length≤1000):FnOk Pg g0 84 [gV cards cs] (i6 (chkE cards cs)):=by
 have hall: ∀b1 b2 b3 b4 b5 b6:Bool,decide (1≤cards.length)=b1→decide (cards.length≤6)=b2→decide (cs.length≤40)=b3→okCs cards=b4→decide (prodT cards cards.length≤1024)=b5→cs.all (okRow cards)=b6→chkE cards cs=if b1&&(b2&&(b3&&(b4&&(b5&&b6))))then 0 else 250:=by
  intro b1 b2 b3 b4 b5 b6 h1 h2 h3 h4 h5 h6
  unfold chkE okAll
  rw[h1,h2,h3,h4,h5,h6]
 by_cases h1:1≤cards.length
 ·by_cases h2 : cards.length ≤ 6
  ·by_cases h3 : cs.length ≤ 40
   ·have hl := Qq0 cards cs h2
    cases h4:okCs cards with
    |false=>
     rw[hall _ _ _ _ _ _ rfl rfl rfl h4 rfl rfl]
     have he:(if(decide (1≤cards.length)&&(decide (cards.length≤6)&&(decide (cs.length≤40)&&(false&&(decide (prodT cards cards.length≤1024)&&cs.all (okRow cards))))):Bool)then(0:Int)else 250)=250:=by simp
     rw[he]
     have hl':=hl.mono (Qb7 (by rw[h4];simp) h4)
     refine FnOk.of_vc vE_ok mixed Qab (n:=1000) (r:=[]) (S:=ckR 250) (hs:=[no 14,no 19,no 25,(0,.loop [0] (ckS cards cs 0) [(True,.ret,ckR 250)])]) ?_
     refine Eq.mp (by kernel_rfl:(let z0:=(↑cards.length:Int);An [Sm (i6 250),decide (z0<(1:Int))=false,decide (z0>(6:Int))=false,decide ((↑cs.length:Int)>(40:Int))=false,An [An [Zz,prodT cards 0=(1:Int),An [Sm cards.length,Sm (ints cards)],z0=z0,(↑(0:Nat):Int)=(0:Int),Tt],An [Sm [sl cards,gC cs],TT 2],Tt],Sat Pg none 0 (at' 84 [1,0,1,1,0,1,0]) (mkSt g0 80 (ckS cards cs 0)) (Qaf g0 80 [(True,Ex.ret,ckR (250:Int))]),(True→An [An [Sm (250:Int),Tt],Tt]),Tt])=_) ?_
     exact au
    | true =>
     have hl':=hl.mono (Qb6 h4 (by rw[h4];simp))
     have hpb:=Qi2 cards.length (all_range.1 h4)
     have hp4:=pow4I h2
     by_cases h5:prodT cards cards.length≤1024
     ·have hr := chk_rows cards cs h2 h3 (chkE cards cs) (by rw [hall _ _ _ _ _ _ rfl rfl rfl h4 rfl rfl, decide_eq_true h1, decide_eq_true h2, decide_eq_true h3, decide_eq_true h5]; rfl)
      generalize chkE cards cs=e at*
      refine FnOk.of_vc vE_ok mixed Qab (n:=1000) (r:=[]) (S:=ckR e) (hs:=[no 14,no 19,no 25,(0,.loop [0] (ckS cards cs 0) [(True,.exit 0,ckX cards cs (prodT cards cards.length))]),no 45,(0,.loop [0] (cwS cards cs 0) [(True,.exit 2,cwX e)])]) ?_
      refine Eq.mp (by kernel_rfl:(let z0:=(↑cards.length:Int);let z1:=[sl cards,gC cs];let z2:=(↑cs.length:Int);let z3:=prodT cards cards.length;let z4:=(0:Int);An [Sm (i6 e),decide (z0<(1:Int))=false,decide (z0>(6:Int))=false,decide (z2>(40:Int))=false,An [An [Zz,prodT cards 0=(1:Int),An [Sm cards.length,Sm (ints cards)],z0=z0,(↑(0:Nat):Int)=z4,Tt],An [z1=z1,TT 2],Tt],Sat Pg none 0 (at' 84 [1,0,1,1,0,1,0]) (mkSt g0 80 (ckS cards cs 0)) (Qaf g0 80 [(True,Ex.exit 0,ckX cards cs z3)]),(True→An [decide (z3>(1024:Int))=false,An [An [Zz,z4=z4,An [Sm cs.length,Sm (List.map sl cs)],z2=z2,(↑(0:Nat):Int)=z4,Tt],An [z1=z1,TT 2],Tt],Sat Pg none 0 (at' 84 [1,0,1,1,1,1,1,1,0,1,0]) (mkSt g0 80 (cwS cards cs 0)) (Qaf g0 80 [(True,Ex.exit 2,cwX e)]),(True→An [An [e=e,Tt],Tt]),Tt]),Tt])=_) ?_
      exact au
     ·have he : chkE cards cs = 250 := by rw [hall _ _ _ _ _ _ rfl rfl rfl h4 (decide_eq_false h5) rfl]; simp
      rw[he]
      refine FnOk.of_vc vE_ok mixed Qab (n:=1000) (r:=[]) (S:=ckR 250) (hs:=[no 14,no 19,no 25,(0,.loop [0] (ckS cards cs 0) [(True,.exit 0,ckX cards cs (prodT cards cards.length))]),yes 45]) ?_
      refine Eq.mp (by kernel_rfl:(let z0:=(↑cards.length:Int);let z1:=prodT cards cards.length;An [Sm (i6 250),decide (z0<(1:Int))=false,decide (z0>(6:Int))=false,decide ((↑cs.length:Int)>(40:Int))=false,An [An [Zz,prodT cards 0=(1:Int),An [Sm cards.length,Sm (ints cards)],z0=z0,(↑(0:Nat):Int)=(0:Int),Tt],An [Sm [sl cards,gC cs],TT 2],Tt],Sat Pg none 0 (at' 84 [1,0,1,1,0,1,0]) (mkSt g0 80 (ckS cards cs 0)) (Qaf g0 80 [(True,Ex.exit 0,ckX cards cs z1)]),(True→An [decide (z1>(1024:Int))=true,An [Sm (250:Int),Tt],Tt]),Tt])=_) ?_
      exact au
   ·have he : chkE cards cs = 250 := by rw [hall _ _ _ _ _ _ rfl rfl (decide_eq_false h3) rfl rfl rfl]; simp
    rw[he]
    refine FnOk.of_vc vE_ok mixed Qab (n:=1000) (r:=[]) (S:=ckR 250) (hs:=[no 14,no 19,yes 25]) ?_
    refine Eq.mp (by kernel_rfl:(let z0:=(↑cards.length:Int);An [Sm (i6 250),decide (z0<(1:Int))=false,decide (z0>(6:Int))=false,decide ((↑cs.length:Int)>(40:Int))=true,An [Sm (250:Int),Tt],Tt])=_) ?_
    exact au
  ·have he : chkE cards cs = 250 := by rw [hall _ _ _ _ _ _ rfl (decide_eq_false h2) rfl rfl rfl rfl]; simp
   rw[he]
   refine FnOk.of_vc vE_ok mixed Qab (n:=1000) (r:=[]) (S:=ckR 250) (hs:=[no 14,yes 19]) ?_
   refine Eq.mp (by kernel_rfl:(let z0:=(↑cards.length:Int);An [Sm (i6 250),decide (z0<(1:Int))=false,decide (z0>(6:Int))=true,An [Sm (250:Int),Tt],Tt])=_) ?_
   exact au
 ·have he : chkE cards cs = 250 := by rw [hall _ _ _ _ _ _ (decide_eq_false h1) rfl rfl rfl rfl rfl]; simp
  rw[he]
  refine FnOk.of_vc vE_ok mixed Qab (n:=1000) (r:=[]) (S:=ckR 250) (hs:=[yes 14]) ?_
  refine Eq.mp (by kernel_rfl:(An [Sm (i6 250),decide ((↑cards.length:Int)<(1:Int))=true,An [Sm (250:Int),Tt],Tt])=_) ?_
  exact au
def negB(c:List Int):Bool:=c.any fun x=>decide (x<0)
def goodE(cards:List Int)(cs:List (List Int)):Int:=if okAll cards cs then(if cs.any negB then 260 else 0)else 250
theorem Qc4{α:Type}{l:List α}{k:Nat}{x:α}{p:α→Bool}(hx:l[k]? =some x)(h:(l.take k).any p=false)(hp:p x=false):(l.take (k+1)).any p=false:=by
 rw[List.take_add_one,hx,List.any_append,h];simp[hp]
theorem Qd0{α:Type}{l:List α}{k:Nat}{x:α}{p:α→Bool}(hx:l[k]? =some x)(hp:p x=true):l.any p=true:=
 List.any_eq_true.2 ⟨x,List.mem_of_getElem? hx,hp⟩
abbrev wrS(cs:List (List Int))(i:Nat)(c:List Int)(j:Nat):SL:={sl:=[(14,gC cs),(15,i6 cs.length),(16,i6 i),(20,sl c),(21,i6 c.length),(22,i6 j)]}
abbrev wrB(cs:List (List Int))(i:Nat):SL:={sl:=[(14,gC cs),(15,i6 cs.length),(16,i6 i)]}
theorem cw_row(cs:List (List Int))(i:Nat)(c:List Int)(hl:c.length≤1000):
  Sat Pg none 0 (at' 72 [1,1,0,1,0,0,1,1,0,0,1,1,0]) (mkSt g0 30 (wrS cs i c 0)) (Qaf g0 30 [(negB c=false,.exit 2,wrB cs i),(negB c=true,.ret,ckR 260)]):=by
 refine Qa2 vE_ok mixed Qab (b:=at' 72 [1,1,0,1,0,0,1,1,0,0,1,1,0,0]) (by kernel_rfl) (fun k=>k≤c.length∧(c.take k).any (fun x=>decide (x<0))=false) (wrS cs i c) (fun k=>c.length-k) (fun k hk=>?_) 0 ⟨Nat.zero_le _,rfl⟩
 obtain⟨hk,hj⟩:=hk
 by_cases hlt:k<c.length
 ·have hld := @Qau c k hlt
  have hck:c[k]? =some (c.getD k 0):=by rw[List.getD_eq_getElem?_getD,List.getElem?_eq_getElem hlt];rfl
  by_cases h1:c.getD k 0<0
  ·have hb : negB c = true := Qd0 hck (decide_eq_true h1)
   refine .inr ⟨.ret,[],ckR 260,[yes 23,pl 24,ld 25 (i6 (c.getD k 0)),yes 27],1000,.inr (.inl ⟨hb,rfl,rfl⟩),?_⟩
   refine Eq.mp (by kernel_rfl:(let z0:=List.getD c k (0:Int);let z1:=(↑k:Int);An [decide (z1<(↑c.length:Int))=true,An [(0:Int)≤z1,z1<(↑c.length:Int)],headF (List.drop (k*1) (ints c))=some (i6 z0),decide (z0<(0:Int))=true,An [Sm (260:Int),Tt],Tt])=_) ?_
   exact au
  ·have hg := Qc4 hck hj (decide_eq_false h1)
   refine .inl ⟨k+1,[],[yes 23,pl 24,ld 25 (i6 (c.getD k 0)),no 27,nu 28 (k+1:Nat)],1000,⟨hlt,hg⟩,by omega,?_⟩
   refine Eq.mp (by kernel_rfl:(let z0:=(↑c.length:Int);let z1:=(↑(k+1):Int);let z2:=(↑k:Int);let z3:=List.getD c k (0:Int);An [decide (z2<z0)=true,An [(0:Int)≤z2,z2<z0],headF (List.drop (k*1) (ints c))=some (i6 z3),decide (z3<(0:Int))=false,wr .i64 (z2+(1:Int))=z1,An [An [Sm cs.length,Sm (List.map sl cs)],Sm (↑cs.length:Int),Sm (↑i:Int),An [Sm c.length,Sm (ints c)],z0=z0,z1=z1,Tt],Tt])=_) ?_
   exact au
 ·have : k = c.length := by omega
  subst this
  rw[List.take_length]at hj
  refine .inr ⟨.exit 2,[],wrB cs i,[no 23],1000,.inl ⟨hj,rfl,rfl⟩,?_⟩
  refine Eq.mp (by kernel_rfl:(An [decide ((↑c.length:Int)<(↑c.length:Int))=false,An [An [Sm cs.length,Sm (List.map sl cs)],Sm (↑cs.length:Int),Sm (↑i:Int),Tt],Tt])=_) ?_
  exact au
theorem cw_rows(cs:List (List Int))(h40:cs.length≤1000)(hcl: ∀c∈cs,c.length≤1000):
  Sat Pg none 0 (at' 72 [1,1,0,1,0]) (mkSt g0 30 (wrB cs 0)) (Qaf g0 30 [(cs.any negB=false,.exit 0,{sl:=[]}),(cs.any negB=true,.ret,ckR 260)]):=by
 refine Qa2 vE_ok mixed Qab (b:=at' 72 [1,1,0,1,0,0]) (by kernel_rfl) (fun k=>k≤cs.length∧(cs.take k).any negB=false) (wrB cs) (fun k=>cs.length-k) (fun k hk=>?_) 0 ⟨Nat.zero_le _,rfl⟩
 obtain⟨hk,hj⟩:=hk
 by_cases hlt:k<cs.length
 ·have hck : cs[k]? = some cs[k] := List.getElem?_eq_getElem hlt
  have hlc:=hcl _ (List.getElem_mem hlt)
  generalize cs[k]=c at*
  have hld:headF ((cs.map sl).drop (k*1))=some (sl c):=Qc9 hck
  have hrow:=cw_row cs k c hlc
  cases hok:negB c with
  |false=>
   have hr:=hrow.mono (Qb6 hok (by rw[hok];simp))
   refine .inl ⟨k+1,[],[yes 17,pl 18,ld 19 (sl c),(0,.loop [] (wrS cs k c 0) [(True,.exit 2,wrB cs k)]),nu 29 (k+1:Nat)],1000,⟨hlt,Qc4 hck hj hok⟩,by omega,?_⟩
   refine Eq.mp (by kernel_rfl:(let z0:=(↑cs.length:Int);let z1:=(↑k:Int);let z2:=List.map sl cs;let z3:=(↑(k+1):Int);An [decide (z1<z0)=true,An [(0:Int)≤z1,z1<z0],headF (List.drop (k*1) z2)=some (sl c),An [An [An [Sm cs.length,z2=z2],z0=z0,z1=z1,An [Sm c.length,Sm (ints c)],Sm (↑c.length:Int),(↑(0:Nat):Int)=(0:Int),Tt],Tt],Sat Pg none 0 (at' 72 [1,1,0,1,0,0,1,1,0,0,1,1,0]) (mkSt g0 30 (wrS cs k c 0)) (Qaf g0 30 [(True,Ex.exit 2,wrB cs k)]),(True→An [wr .i64 (z1+(1:Int))=z3,An [An [Sm cs.length,z2=z2],z0=z0,z3=z3,Tt],Tt]),Tt])=_) ?_
   exact au
  |true=>
   have hr:=hrow.mono (Qb7 (by rw[hok];simp) hok)
   refine .inr ⟨.ret,[],ckR 260,[yes 17,pl 18,ld 19 (sl c),(0,.loop [] (wrS cs k c 0) [(True,.ret,ckR 260)])],1000,.inr (.inl ⟨Qd0 hck hok,rfl,rfl⟩),?_⟩
   refine Eq.mp (by kernel_rfl:(let z0:=(↑cs.length:Int);let z1:=(↑k:Int);let z2:=List.map sl cs;An [decide (z1<z0)=true,An [(0:Int)≤z1,z1<z0],headF (List.drop (k*1) z2)=some (sl c),An [An [An [Sm cs.length,z2=z2],z0=z0,z1=z1,An [Sm c.length,Sm (ints c)],Sm (↑c.length:Int),(↑(0:Nat):Int)=(0:Int),Tt],Tt],Sat Pg none 0 (at' 72 [1,1,0,1,0,0,1,1,0,0,1,1,0]) (mkSt g0 30 (wrS cs k c 0)) (Qaf g0 30 [(True,Ex.ret,ckR (260:Int))]),(True→An [An [Sm (260:Int),Tt],Tt]),Tt])=_) ?_
   exact au
 ·have : k = cs.length := by omega
  subst this
  rw[List.take_length]at hj
  refine .inr ⟨.exit 0,[],{sl:=[]},[no 17],1000,.inl ⟨hj,rfl,rfl⟩,?_⟩
  refine Eq.mp (by kernel_rfl:(An [decide ((↑cs.length:Int)<(↑cs.length:Int))=false,Tt,Tt])=_) ?_
  exact au
theorem Qbq(cards:List Int)(cs:List (List Int))(hl1:cards.length≤1000)(hl2:cs.length≤1000)(hcl: ∀c∈cs,c.length≤1000):FnOk Pg g0 72 [gV cards cs] (i6 (goodE cards cs)):=by
 have hc:=Qnr cards cs hl1 hl2
 have hr:=cw_rows cs hl2 hcl
 cases hok:okAll cards cs with
 |false=>
  have e1:chkE cards cs=250:=by unfold chkE;rw[hok];rfl
  have e2:goodE cards cs=250:=by unfold goodE;rw[hok];rfl
  rw[e1]at hc
  rw[e2]
  refine FnOk.of_vc vE_ok mixed Qab (n:=1000) (r:=[]) (S:=ckR 250) (hs:=[fn 9 (i6 250)]) ?_
  refine Eq.mp (by kernel_rfl:(An [Sm (i6 250),An [TT 2,Tt],FnOk Pg g0 84 [V.agg [V.im cards.length (ints cards),V.im cs.length (List.map sl cs)]] (i6 250),Tt,An [Sm (250:Int),Tt],Tt])=_) ?_
  exact au
 | true =>
  have e1:chkE cards cs=0:=by unfold chkE;rw[hok];rfl
  rw[e1]at hc
  cases hn:cs.any negB with
  |false=>
   have e2:goodE cards cs=0:=by unfold goodE;rw[hok,hn];rfl
   rw[e2]
   have hr:=hr.mono (Qb6 hn (by rw[hn];simp))
   refine FnOk.of_vc vE_ok mixed Qab (n:=1000) (r:=[]) (S:=ckR 0) (hs:=[fn 9 (i6 0),(0,.loop [] (wrB cs 0) [(True,.exit 0,{sl:=[]})])]) ?_
   refine Eq.mp (by kernel_rfl:(An [Sm (i6 0),An [TT 2,Tt],FnOk Pg g0 84 [V.agg [V.im cards.length (ints cards),V.im cs.length (List.map sl cs)]] (i6 0),Tt,An [An [An [Sm cs.length,Sm (List.map sl cs)],Sm (↑cs.length:Int),(↑(0:Nat):Int)=(0:Int),Tt],Tt],Sat Pg none 0 (at' 72 [1,1,0,1,0]) (mkSt g0 30 (wrB cs 0)) (Qaf g0 30 [(True,Ex.exit 0,SL.mk [] [] [] [])]),(True→An [An [Sm (0:Int),Tt],Tt]),Tt])=_) ?_
   exact au
  |true=>
   have e2:goodE cards cs=260:=by unfold goodE;rw[hok,hn];rfl
   rw[e2]
   have hr:=hr.mono (Qb7 (by rw[hn];simp) hn)
   refine FnOk.of_vc vE_ok mixed Qab (n:=1000) (r:=[]) (S:=ckR 260) (hs:=[fn 9 (i6 0),(0,.loop [] (wrB cs 0) [(True,.ret,ckR 260)])]) ?_
   refine Eq.mp (by kernel_rfl:(An [Sm (i6 260),An [TT 2,Tt],FnOk Pg g0 84 [V.agg [V.im cards.length (ints cards),V.im cs.length (List.map sl cs)]] (i6 0),Tt,An [An [An [Sm cs.length,Sm (List.map sl cs)],Sm (↑cs.length:Int),(↑(0:Nat):Int)=(0:Int),Tt],Tt],Sat Pg none 0 (at' 72 [1,1,0,1,0]) (mkSt g0 30 (wrB cs 0)) (Qaf g0 30 [(True,Ex.ret,ckR (260:Int))]),(True→An [An [Sm (260:Int),Tt],Tt]),Tt])=_) ?_
   exact au
def owV(h:Nat):Nat→V
 |0=>.nils
 |n+1=>.sl h 0 (n+1) none
def owL(t:Nat)(l:List V):Nat→List O
 |0=>[]
 | _+1=>[.row t (some 1) l]
def comp(cs:List (List Int)):List (List Int):=cs.filter fun c=> !negB c
theorem Qq9{cs:List (List Int)}{k:Nat}{c:List Int}(h:cs[k]? =some c):comp (cs.take (k+1))=comp (cs.take k)++if negB c then[]else[c]:=by
 unfold comp
 rw[List.take_add_one,h,List.filter_append]
 cases hn:negB c<;>simp[hn]
def entR(r b:Nat):Nat→List (Nat×List Nat)→List (V×V×Nat)
 | _,[]=>[]
 |t,e::es=>(i6 (e.1:Nat),.sl (b+t) 0 r (some (r-r)),t)::entR r b (t+1) es
def idxOf(q:Nat):List (Nat×List Nat)→Option Nat
 |[]=>none
 |e::es=>if e.1=q then some 0 else(idxOf q es).map (· +1)
theorem Qfz(r b q:Nat): ∀(es:List (Nat×List Nat))(t j:Nat),findV .i64 (q:Int) (entR r b t es) j=some ((idxOf q es).map fun a=>(j+a,V.sl (b+t+a) 0 r (some (r-r))))
 |[],_,_=>rfl
 | e :: es, t, j => by
  unfold entR findV idxOf
  rw[if_pos rfl]
  by_cases h:e.1=q
  ·rw[if_pos (by rw[h]),if_pos h];rfl
  ·rw [if_neg (by intro h'; exact h (Int.ofNat.inj h').symm), if_neg h, Qfz r b q es (t + 1) (j + 1)]
   cases idxOf q es with
   |none=>rfl
   |some a=>
    simp only[Option.map_some]
    rw[show j+1+a=j+(a+1)by omega,show b+(t+1)+a=b+t+(a+1)by omega]
theorem Qnn{r q k:Nat}: ∀{es:List (Nat×List Nat)},idxOf q es=none→bump r q k es=es++[(q,(List.replicate r 0).set k 1)]
 |[],_=>rfl
 | (p, l) :: es, h => by
  unfold idxOf at h
  by_cases hp:p=q
  ·rw[if_pos hp]at h;cases h
  ·rw [if_neg hp] at h
   unfold bump
   rw[if_neg hp,Qnn (by simpa using h)];rfl
theorem Qno{r q k a:Nat}: ∀{es:List (Nat×List Nat)}{a:Nat},idxOf q es=some a→∃l,es[a]? =some (q,l)∧bump r q k es=es.set a (q,l.set k (l.getD k 0+1))
 |[],_,h=>by cases h
 | (p, l) :: es, a, h => by
  unfold idxOf at h
  unfold bump
  by_cases hp:p=q
  ·rw [if_pos hp] at h; cases h
   subst hp
   exact⟨l,rfl,by rw[if_pos rfl];rfl⟩
  ·rw [if_neg hp] at h
   rw[if_neg hp]
   cases hi:idxOf q es with
   |none=>rw[hi]at h;cases h
   |some a'=>
    rw[hi]at h;cases h
    obtain⟨l',h1,h2⟩:=Qno (a:=a) (r:=r) (k:=k) hi
    exact⟨l',by simpa using h1,by rw[h2];rfl⟩
theorem Qkf(r b:Nat)(e:Nat×List Nat): ∀(es:List (Nat×List Nat))(t:Nat),entR r b t (es++[e])=entR r b t es++[(i6 (e.1:Nat),.sl (b+(t+es.length)) 0 r (some (r-r)),t+es.length)]
 |[],t=>rfl
 |x::es,t=>by
  rw[List.cons_append,entR,entR,Qkf r b e es (t+1),List.cons_append,List.length_cons,show t+1+es.length=t+(es.length+1)by omega]
theorem Qnz(r b q:Nat)(l l':List Nat): ∀(es:List (Nat×List Nat))(t a:Nat),es[a]? =some (q,l)→entR r b t (es.set a (q,l'))=entR r b t es
 |[],_,_,h=>by simp at h
 |x::es,t,0,h=>by
  obtain rfl:x=(q,l):=by simpa using h
  rfl
 |x::es,t,a+1,h=>by
  rw[List.set_cons_succ,entR,entR,Qnz r b q l l' es (t+1) a (by simpa using h)]
section
variable (cards:List Nat) (cs:List (List Nat)) (v ps r:Nat)
abbrev dO:O:=.row 32 none [nl cards,cV cs]
abbrev fbS(i:Nat):List (Nat×V):=[(1,i6 v),(2,u6 ps),(3,.ptr 0 0),(6,.ptr 1 0),(7,i6 r),(8,.mp 2),(28,cV cs),(29,i6 cs.length),(30,i6 i)]
abbrev frS(vals:List Nat)(i:Nat)(q:Nat×Nat):List (Nat×V):=[(1,i6 v),(2,u6 ps),(3,.ptr 0 0),(6,.ptr 1 0),(7,i6 r),(8,.mp 2),(28,cV cs),(29,i6 cs.length),(30,i6 i),(10,nl vals),(11,i6 q.2),(35,nl cards),(36,i6 cards.length),(37,i6 q.1)]
abbrev frX(vals:List Nat)(i:Nat)(w:Nat):List (Nat×V):=[(1,i6 v),(2,u6 ps),(3,.ptr 0 0),(6,.ptr 1 0),(7,i6 r),(8,.mp 2),(28,cV cs),(29,i6 cs.length),(30,i6 i),(10,nl vals),(11,i6 w)]
end
theorem fam_row(cards:List Nat)(cs:List (List Nat))(v ps r:Nat)(vals:List Nat)(i:Nat)(hc:CardsOk cards)(hv:CaseOk cards vals)(H:T O)(nx:Nat)(lg:List Nat)(w:Nat)(hw:w=rowN cards ps vals cards.length):
  Sat Pg none 0 (at' 73 [1,1,1,0,1,0,0,1,1,0,0,1,1,0,1,0]) (mkSo g0 113 (frS cards cs v ps r vals i (0,0)) H nx lg) (Qk7 g0 113 H nx lg [(True,.exit 2,frX cs v ps r vals i w)]):=by
 refine loopFr (b:=at' 73 [1,1,1,0,1,0,0,1,1,0,0,1,1,0,1,0,0]) (by kernel_rfl) (fun q=>q.1≤cards.length∧q.2=rowN cards ps vals q.1) (frS cards cs v ps r vals i) (fun q=>cards.length-q.1) _ H nx lg (fun q G hq hN hE=>?_) (0,0) ⟨Nat.zero_le _,rfl⟩
 obtain⟨k,u⟩:=q
 obtain⟨hk,hu⟩:=hq
 dsimp only at hk hu
 have h6:=hc.six
 by_cases hlt:k<cards.length
 ·have hcd := hc.each k hlt
  have hvl:=hv.lt k hlt
  have hlen:=hv.len
  have hb:=rowN_bd hc hv ps (k:=k) (by omega)
  have hld:=@Qdr cards k hlt
  have hld2:=@Qdr vals k (by omega)
  have hshr:=@Qli (Qad Pg) 28 ps k (by omega)
  have hand:=@Qjv (Qad Pg) 28 (ps/2^k)
  rw[←hu]at hb
  by_cases hbit:ps/2^k%2=1
  ·have hrow : rowN cards ps vals (k + 1) = u * cards.getD k 0 + vals.getD k 0 := by
    show(if _ then _ else _)=_
    rw[if_pos hbit,hu]
   have hmul:u*cards.getD k 0≤4096*4:=Nat.mul_le_mul (by omega) hcd.2
   generalize cards.getD k 0=c at*
   generalize vals.getD k 0=x at*
   have hcast:((u:Int)*(c:Int))=((u*c:Nat):Int):=by simp
   generalize u*c=uc at*
   refine⟨[yes 38,pl 40,ld 41 (i6 (c:Nat)),va 44 (u6 (ps/2^k:Nat)),va 45 (u6 (ps/2^k%2:Nat)),yes 46,nu 49 (uc:Nat),pl 52,ld 53 (i6 (x:Nat)),nu 54 (uc+x:Nat),nu 55 (k+1:Nat),toO (frS cards cs v ps r vals i (k+1,uc+x))],1000,?_⟩
   refine Eq.mp (by kernel_rfl:(let z0:=(↑k:Int);let z1:=(↑cards.length:Int);let z2:=u6 ↑(ps/2^k);An [decide (z0<z1)=true,An [(0:Int)≤z0,z0<z1],headF (List.drop (k*1) (nt cards))=some (i6 ↑c),binV (Qad Pg) .shr 28 (u6 ↑ps) (i6 ↑k)=some z2,binV (Qad Pg) .and 28 z2 (u6 1)=some (u6 ↑(ps/2^k%2)),((↑(ps/2^k%2):Int)==(1:Int))=true,wr .i64 ((↑u:Int)*(↑c:Int))=(↑uc:Int),An [(0:Int)≤z0,z0<(↑vals.length:Int)],headF (List.drop (k*1) (nt vals))=some (i6 ↑x),wr .i64 ((↑uc:Int)+(↑x:Int))=(↑(uc+x):Int),wr .i64 (z0+(1:Int))=(↑(k+1):Int),G Ex.normal (frS cards cs v ps r vals i (k+1,uc+x)) H nx lg,Sm (i6 ↑v),Sm (u6 ↑ps),Sm (V.ptr 0 0),Sm (V.ptr 1 0),Sm (i6 ↑r),Sm (V.mp 2),Sm (cV cs),Sm (i6 ↑cs.length),Sm (i6 ↑i),Sm (nl vals),Sm (i6 ↑(uc+x)),Sm (nl cards),Sm (i6 ↑cards.length),Sm (i6 ↑(k+1)),Tt])=_) ?_
   (repeat'(first|(with_reducible apply And.intro)|(refine fun(_:True)=>?_)))<;>first|exact aq|skip
   all_goals exact hN (k+1,uc+x) ⟨hlt,hrow.symm⟩ (by dsimp only;omega)
  ·have hrow : rowN cards ps vals (k + 1) = u := by
    show(if _ then _ else _)=_
    rw[if_neg hbit,hu]
   generalize cards.getD k 0=c at*
   refine⟨[yes 38,pl 40,ld 41 (i6 (c:Nat)),va 44 (u6 (ps/2^k:Nat)),va 45 (u6 (ps/2^k%2:Nat)),no 46,nu 55 (k+1:Nat),toO (frS cards cs v ps r vals i (k+1,u))],1000,?_⟩
   refine Eq.mp (by kernel_rfl:(let z0:=(↑k:Int);let z1:=(↑cards.length:Int);let z2:=u6 ↑(ps/2^k);An [decide (z0<z1)=true,An [(0:Int)≤z0,z0<z1],headF (List.drop (k*1) (nt cards))=some (i6 ↑c),binV (Qad Pg) .shr 28 (u6 ↑ps) (i6 ↑k)=some z2,binV (Qad Pg) .and 28 z2 (u6 1)=some (u6 ↑(ps/2^k%2)),((↑(ps/2^k%2):Int)==(1:Int))=false,wr .i64 (z0+(1:Int))=(↑(k+1):Int),G Ex.normal (frS cards cs v ps r vals i (k+1,u)) H nx lg,Sm (i6 ↑v),Sm (u6 ↑ps),Sm (V.ptr 0 0),Sm (V.ptr 1 0),Sm (i6 ↑r),Sm (V.mp 2),Sm (cV cs),Sm (i6 ↑cs.length),Sm (i6 ↑i),Sm (nl vals),Sm (i6 ↑u),Sm (nl cards),Sm (i6 ↑cards.length),Sm (i6 ↑(k+1)),Tt])=_) ?_
   (repeat'(first|(with_reducible apply And.intro)|(refine fun(_:True)=>?_)))<;>first|exact aq|skip
   all_goals exact hN (k+1,u) ⟨hlt,hrow.symm⟩ (by dsimp only;omega)
 ·have : k = cards.length := by omega
  subst this
  obtain rfl:u=w:=hu.trans hw.symm
  refine⟨[no 38,toO (frX cs v ps r vals i u)],1000,?_⟩
  refine Eq.mp (by kernel_rfl:(let z0:=(↑cards.length:Int);An [decide (z0<z0)=false,G (Ex.exit 2) (frX cs v ps r vals i u) H nx lg,Sm (i6 ↑v),Sm (u6 ↑ps),Sm (V.ptr 0 0),Sm (V.ptr 1 0),Sm (i6 ↑r),Sm (V.mp 2),Sm (cV cs),Sm (i6 ↑cs.length),Sm (i6 ↑i),Sm (nl vals),Sm (i6 ↑u),Tt])=_) ?_
  (repeat'(first|(with_reducible apply And.intro)|(refine fun(_:True)=>?_)))<;>first|exact aq|skip
  all_goals exact hE _ _ (.inl ⟨trivial,rfl,rfl⟩)
def Qav(cards:List Nat)(v ps:Nat)(cs:List (List Nat)):List (Nat×Nat):=cs.map fun c=>(rowN cards ps c cards.length,c.getD v 0)
structure FamH(cards:List Nat)(cs:List (List Nat))(r:Nat)(es:List (Nat×List Nat))(M:Mem):Prop where
 h0:gt M.H 0=some (dO cards cs)
 h1:gt M.H 1=some (.row 41 none (arF Qaj))
 h2:gt M.H 2=some (.map (entR r 3 0 es) es.length)
 nx:M.nx=3+es.length
 row: ∀a e,es[a]? =some e→gt M.H (3+a)=some (.row 3 none (nt e.2))∧e.2.length=r
abbrev FamI(cards:List Nat)(cs:List (List Nat))(v ps r:Nat)(i:Nat)(M:Mem):Prop:=i≤cs.length∧FamH cards cs r (Qan r (Qav cards v ps (cs.take i))) M
theorem Qp2{cards:List Nat}{v ps i:Nat}{cs:List (List Nat)}{c:List Nat}(h:cs[i]? =some c):Qav cards v ps (cs.take (i+1))=Qav cards v ps (cs.take i)++[(rowN cards ps c cards.length,c.getD v 0)]:=by
 rw[List.take_add_one,h];simp[Qav]
theorem famH_new{cards:List Nat}{cs:List (List Nat)}{r q k:Nat}{es:List (Nat×List Nat)}{H H':T O}{nx:Nat}{lg lg':List Nat}(h:FamH cards cs r es ⟨H,nx,lg⟩)(hi:idxOf q es=none)
  (hg: ∀j,gt H' j=if j=nx then some (.row 3 none (nt ((List.replicate r 0).set k 1)))else if j=2 then some (.map (entR r 3 0 es++[(i6 (q:Nat),.sl nx 0 r (some (r-r)),es.length)]) (es.length+1))else gt H j):FamH cards cs r (bump r q k es) ⟨H',nx+1,lg'⟩:=by
 have hnx:nx=3+es.length:=h.nx
 rw[Qnn hi]
 refine⟨?_,?_,?_,by simp only[List.length_append,List.length_cons,List.length_nil];omega,fun a e ha=>?_⟩
 ·rw[hg,if_neg (by omega),if_neg (by omega)];exact h.h0
 ·rw[hg,if_neg (by omega),if_neg (by omega)];exact h.h1
 ·rw [hg, if_neg (by omega), if_pos rfl, Qkf]
  simp only[Nat.zero_add,hnx,List.length_append,List.length_cons,List.length_nil]
 ·rw [hg]
  rw[List.getElem?_append]at ha
  split at ha
  ·rename_i hlt
   rw[if_neg (by omega),if_neg (by omega)]
   exact h.row a e ha
  ·rename_i hge
   have ha0:a=es.length:=by
    have:=(List.getElem?_eq_some_iff.1 ha).1
    simp at this;omega
   subst ha0
   rw[Nat.sub_self]at ha
   cases ha
   rw[if_pos hnx.symm]
   exact⟨rfl,by simp⟩
theorem famH_old{cards:List Nat}{cs:List (List Nat)}{r q k a:Nat}{l:List Nat}{es:List (Nat×List Nat)}{H H':T O}{nx:Nat}{lg lg':List Nat}(h:FamH cards cs r es ⟨H,nx,lg⟩)(hl:es[a]? =some (q,l))(hb:bump r q k es=es.set a (q,l.set k (l.getD k 0+1)))
  (hg: ∀j,gt H' j=if j=3+a then some (.row 3 none (nt (l.set k (l.getD k 0+1))))else gt H j):FamH cards cs r (bump r q k es) ⟨H',nx,lg'⟩:=by
 have hnx:nx=3+es.length:=h.nx
 rw[hb]
 have hr:=(h.row a _ hl).2
 refine⟨?_,?_,?_,by simp only[List.length_set];omega,fun b e he=>?_⟩
 ·rw[hg,if_neg (by omega)];exact h.h0
 ·rw[hg,if_neg (by omega)];exact h.h1
 ·rw[hg,if_neg (by omega),Qnz r 3 q l _ es 0 a hl,List.length_set];exact h.h2
 ·rw [hg]
  rw[List.getElem?_set]at he
  split at he
  ·rename_i hab
   subst hab
   split at he
   ·cases he
    rw[if_pos rfl]
    exact⟨rfl,by simpa using hr⟩
   ·cases he
  ·rename_i hab
   rw[if_neg (by omega)]
   exact h.row b e he
theorem Qho{k:IntKind}{n:Int}{v:V}{b:Nat}: ∀{es:List (V×V×Nat)}{j:Nat},findV k n es j=some none→findV k n (es++[(.int k n,v,b)]) j=some (some (j+es.length,v))
 |[],j,_=>by simp[findV]
 | (x, y, c) :: es, j, h => by
  cases x<;>try(unfold findV at h;cases h;done)
  rename_i k' m
  unfold findV at h
  rw[List.cons_append]
  unfold findV
  split at h
  ·split at h
   ·cases h
   ·rename_i h1 h2
    rw[if_pos h1,if_neg h2,Qho h,List.length_cons,show j+1+es.length=j+(es.length+1)by omega]
  ·cases h
theorem putE_new{k:IntKind}{n:Int}{v:V}{es:List (V×V×Nat)}{ck:Nat}(h:findV k n es 0=some none):putE k n v es ck=some (.map (es++[(.int k n,v,ck)]) (ck+1)):=by unfold putE;rw[h]
theorem Qfw(r b:Nat): ∀(es:List (Nat×List Nat))(t:Nat),(entR r b t es).length=es.length
 |[],_=>rfl
 |e::es,t=>by rw[entR,List.length_cons,Qfw r b es (t+1),List.length_cons]
theorem Qpn{r:Nat}{P:List (Nat×Nat)}(h: ∀p∈P,p.2<r): ∀e∈Qan r P,∀x,e.2.getD x 0≤P.length:=by
 intro e he x
 have hE:=Qbt P h
 rw[hE.row e he]
 have h1:=Qdf (r:=r) P e.1 h
 rw[List.getD_eq_getElem?_getD]
 cases hx:(rowL P r e.1)[x]? with
 |none=>exact Nat.zero_le _
 |some y=>exact Nat.le_trans (Qde (List.mem_of_getElem? hx)) h1
theorem pairs_lt{cards:List Nat}{v ps:Nat}{cs:List (List Nat)}(hcs: ∀c∈cs,CaseOk cards c)(hv:v<cards.length): ∀p∈Qav cards v ps cs,p.2<cards.getD v 0:=by
 intro p hp
 obtain⟨c,hc,rfl⟩:=List.mem_map.1 hp
 exact(hcs c hc).lt v hv
theorem Qrs(cards:List Nat)(cs:List (List Nat))(v ps r:Nat)(hc:CardsOk cards)(hcs: ∀c∈cs,CaseOk cards c)(hv:v<cards.length)(hr:cards.getD v 0=r)(hm:cs.length≤40)(M:Mem)(hM:FamI cards cs v ps r 0 M):
  Sat Pg none 0 (at' 73 [1,1,1,0,1,0]) (mkSo g0 113 (fbS cs v ps r 0) M.H M.nx M.lg) (fun e st=>∃sl M',st=mkSo g0 113 sl M'.H M'.nx M'.lg∧e= .exit 0∧sl=fbS cs v ps r cs.length∧FamH cards cs r (Qan r (Qav cards v ps cs)) M'):=by
 refine Qkx (b:=at' 73 [1,1,1,0,1,0,0]) (by kernel_rfl) (FamI cards cs v ps r) (fbS cs v ps r) (fun i=>cs.length-i) (fun e sl M'=>e= .exit 0∧sl=fbS cs v ps r cs.length∧FamH cards cs r (Qan r (Qav cards v ps cs)) M') (fun i H nx lg G hI hN hE _=>?_) 0 M hM
 obtain⟨hi,hH⟩:=hI
 by_cases hlt:i<cs.length
 ·have hci : cs[i]? = some cs[i] := List.getElem?_eq_getElem hlt
  have hco:=hcs _ (List.getElem_mem hlt)
  have hps:=@Qp2 cards v ps i cs _ hci
  generalize cs[i]=c at*
  have hN1:=fun H nx lg h=>hN (i+1) H nx lg ⟨by omega,h⟩ (by omega)
  rw[hps,Qcp]at hN1
  dsimp only at hN1
  have hbd:=Qpn (P:=Qav cards v ps (cs.take i)) (r:=r) (by rw[←hr];exact pairs_lt (fun c hc=>hcs c (List.mem_of_mem_take hc)) hv)
  have hpl:(Qav cards v ps (cs.take i)).length≤40:=by simp only[Qav,List.length_map,List.length_take];omega
  generalize Qan r (Qav cards v ps (cs.take i))=es at*
  have hw:=fam_row cards cs v ps r c i hc hco
  have hxr:c.getD v 0<r:=by have:=hco.lt v hv;omega
  have hr4:r≤4:=by have:=hc.each v hv;omega
  have hnx:nx=3+es.length:=hH.nx
  have h0:gt H 0=some (dO cards cs):=hH.h0
  have h2:gt H 2=some (.map (entR r 3 0 es) es.length):=hH.h2
  have hld1:headF ((cs.map nl).drop (i*1))=some (nl c):=Qc9 hci
  have hld2:=@Qdr c v (by have:=hco.len;omega)
  have hcl:=hco.len
  generalize hq:rowN cards ps c cards.length=q at*
  have hw':=fun H nx lg=>hw H nx lg q rfl
  generalize c.getD v 0=x at*
  cases hidx:idxOf q es with
  | none =>
   have hf1:findV .i64 (q:Int) (entR r 3 0 es) 0=some none:=by rw[Qfz,hidx];rfl
   refine⟨[yes 31,pl 32,ld 33 (nl c),lo_ 35 (dO cards cs) (nl cards),lpF (frS cards cs v ps r c i (0,0)) (.exit 2) (frX cs v ps r c i q),lk 58 (entR r 3 0 es) es.length none,mk 63,up (entR r 3 0 es) es.length (.map (entR r 3 0 es++[(i6 (q:Nat),.sl nx 0 r (some (r-r)),es.length)]) (es.length+1)),lk 66 (entR r 3 0 es++[(i6 (q:Nat),.sl nx 0 r (some (r-r)),es.length)]) (es.length+1) (some (es.length,.sl nx 0 r (some (r-r)))),pl 69,ld 70 (i6 x),pl 71,lo_ 72 (.row 3 none (nt (List.replicate r 0))) (i6 0),nu 73 1,pl 74,so (.row 3 none (nt (List.replicate r 0))) (nt ((List.replicate r 0).set x 1)),nu 75 (i+1:Nat),toO (fbS cs v ps r (i+1))],1000,?_⟩
   refine Eq.mp (by kernel_rfl:(let z1:=pt H nx (O.row 3 none (rep r [i6 0]));let z2:=List.replicate r 0;let z3:=V.sl nx 0 r (some (r-r));let z4:=entR r 3 0 es;let z5:=(↑r:Int);let z6:=i6 ↑cs.length;let z7:=(0:Int);let z9:=(↑i:Int);let y0:=(↑x:Int);let y5:=V.ptr 0 0;let y6:=V.ptr 1 0;let y7:=nl cards;let y8:=(↑q:Int);let y1:=some (O.row 3 none (nt z2));let y2:=[(i6 ↑q,z3,es.length)];let y3:=some (O.map z4 es.length);let y4:=nt (List.set z2 x 1);let z0:=O.map (z4++y2) (es.length+1);let z8:=pt z1 2 z0;An [decide (z9<(↑cs.length:Int))=true,An [z7≤z9,z9<(↑cs.length:Int)],headF (List.drop (i*1) (List.map nl cs))=some (nl c),gt H 0=some (dO cards cs),headF (dropF (0+0) [y7,cV cs])=some y7,An [Sm (i6 ↑v),Sm (u6 ↑ps),y5=y5,y6=y6,Sm (i6 ↑r),Sm (V.mp 2),Sm (cV cs),z6=z6,Sm (i6 ↑i),Sm (nl c),i6 0=i6 ↑(0:Nat),y7=y7,Sm (i6 ↑cards.length),i6 0=i6 ↑(0:Nat),Tt],Sat Pg none 0 (at' 73 [1,1,1,0,1,0,0,1,1,0,0,1,1,0,1,0]) (mkSo g0 113 (frS cards cs v ps r c i (0,0)) H nx lg) (Qk7 g0 113 H nx lg [(True,Ex.exit 2,frX cs v ps r c i q)]),(True→An [An [gt H 2=y3,findV IntKind.i64 y8 z4 0=some none],An [z7≤z5,z5≤z5,(↑(8:Nat):Int)*z5≤(281474976710656:Int),z5≤(9223372036854775807:Int)],An [gt z1 2=y3,putE IntKind.i64 y8 z3 z4 es.length=some z0],An [gt z8 2=some z0,findV IntKind.i64 y8 (z4++y2) 0=some (some (es.length,z3))],An [z7≤(↑v:Int),(↑v:Int)<(↑c.length:Int)],headF (List.drop (v*1) (nt c))=some (i6 ↑x),An [z7≤y0,y0<z5],gt z8 nx=y1,headF (dropF (0+x*1) (nt z2))=some (i6 0),wr .i64 (z7+(1:Int))=(1:Int),An [z7≤y0,y0<z5],An [gt z8 nx=y1,layE (0+x*1) (nt z2) [i6 1]=some y4],wr .i64 (z9+(1:Int))=(↑(i+1):Int),G Ex.normal (fbS cs v ps r (i+1)) (pt z8 nx (O.row 3 none y4)) (nx+1) ([nx]++([2]++lg)),Sm (i6 ↑v),Sm (u6 ↑ps),y5=y5,y6=y6,Sm (i6 ↑r),Sm (V.mp 2),Sm (cV cs),z6=z6,Sm (i6 ↑(i+1)),Tt]),Tt])=_) ?_
   (repeat'(first|(with_reducible apply And.intro)|(refine fun(_:True)=>?_)))<;>first|exact aq|skip
   ·rfl
   ·rw[Qam,if_neg (by omega)];exact h2
   ·exact putE_new hf1
   ·rw[Qam,if_pos rfl]
   ·have := Qho (v := .sl nx 0 r (some (r - r))) (b := es.length) hf1
    rw[Nat.zero_add,Qfw]at this;exact this
   ·rw[Qam,if_neg (by omega),Qam,if_pos rfl];exact congrArg (fun z=>some (O.row 3 none z)) (rep_nt r 0)
   ·rw[Qat,Nat.zero_add,Qdr (by simpa using hxr),List.getD_eq_getElem?_getD,List.getElem?_replicate];simp[hxr]
   ·rw[Qam,if_neg (by omega),Qam,if_pos rfl];exact congrArg (fun z=>some (O.row 3 none z)) (rep_nt r 0)
   ·exact lay_nt (x:=1) (by simpa using hxr)
   ·refine hN1 _ _ _ (famH_new hH hidx (fun j => ?_))
    simp only[Qam]
    split
    ·rfl
    ·split
     ·rfl
     ·rfl
  |some a=>
   obtain⟨l,hl,hb⟩:=@Qno r q x 0 es a hidx
   have hf1:findV .i64 (q:Int) (entR r 3 0 es) 0=some (some (a,.sl (3+a) 0 r (some (r-r)))):=by rw[Qfz,hidx];simp only[Option.map_some,Nat.zero_add,Nat.add_zero]
   refine⟨[yes 31,pl 32,ld 33 (nl c),lo_ 35 (dO cards cs) (nl cards),lpF (frS cards cs v ps r c i (0,0)) (.exit 2) (frX cs v ps r c i q),lk 58 (entR r 3 0 es) es.length (some (a,.sl (3+a) 0 r (some (r-r)))),lk 66 (entR r 3 0 es) es.length (some (a,.sl (3+a) 0 r (some (r-r)))),pl 69,ld 70 (i6 x),pl 71,lo_ 72 (.row 3 none (nt l)) (i6 (l.getD x 0:Nat)),nu 73 (l.getD x 0+1:Nat),pl 74,so (.row 3 none (nt l)) (nt (l.set x (l.getD x 0+1))),nu 75 (i+1:Nat),toO (fbS cs v ps r (i+1))],1000,?_⟩
   have hrow:=hH.row a _ hl
   have hlb:=hbd _ (List.mem_of_getElem? hl) x
   obtain⟨hrow,hrl⟩:=hrow
   dsimp only at hrow hrl hlb
   refine Eq.mp (by kernel_rfl:(let z0:=List.getD l x 0;let z1:=findV IntKind.i64 (↑q:Int) (entR r 3 0 es) 0;let z2:=some (some (a,V.sl (3+a) 0 r (some (r-r))));let z3:=i6 ↑cs.length;let z4:=some (O.map (entR r 3 0 es) es.length);let z5:=(↑i:Int);let z6:=(↑x:Int);let z8:=some (O.row 3 none (nt l));let z9:=(0:Int);let y0:=V.ptr 0 0;let y1:=V.ptr 1 0;let y2:=nl cards;let z7:=nt (List.set l x (z0+1));An [decide (z5<(↑cs.length:Int))=true,An [z9≤z5,z5<(↑cs.length:Int)],headF (List.drop (i*1) (List.map nl cs))=some (nl c),gt H 0=some (dO cards cs),headF (dropF (0+0) [y2,cV cs])=some y2,An [Sm (i6 ↑v),Sm (u6 ↑ps),y0=y0,y1=y1,Sm (i6 ↑r),Sm (V.mp 2),Sm (cV cs),z3=z3,Sm (i6 ↑i),Sm (nl c),i6 0=i6 ↑(0:Nat),y2=y2,Sm (i6 ↑cards.length),i6 0=i6 ↑(0:Nat),Tt],Sat Pg none 0 (at' 73 [1,1,1,0,1,0,0,1,1,0,0,1,1,0,1,0]) (mkSo g0 113 (frS cards cs v ps r c i (0,0)) H nx lg) (Qk7 g0 113 H nx lg [(True,Ex.exit 2,frX cs v ps r c i q)]),(True→An [An [gt H 2=z4,z1=z2],An [gt H 2=z4,z1=z2],An [z9≤(↑v:Int),(↑v:Int)<(↑c.length:Int)],headF (List.drop (v*1) (nt c))=some (i6 ↑x),An [z9≤z6,z6<(↑r:Int)],gt H (3+a)=z8,headF (dropF (0+x*1) (nt l))=some (i6 ↑(z0)),wr .i64 ((↑(z0):Int)+(1:Int))=(↑(z0+1):Int),An [z9≤z6,z6<(↑r:Int)],An [gt H (3+a)=z8,layE (0+x*1) (nt l) [i6 ↑(z0+1)]=some z7],wr .i64 (z5+(1:Int))=(↑(i+1):Int),G Ex.normal (fbS cs v ps r (i+1)) (pt H (3+a) (O.row 3 none z7)) nx ([3+a]++lg),Sm (i6 ↑v),Sm (u6 ↑ps),y0=y0,y1=y1,Sm (i6 ↑r),Sm (V.mp 2),Sm (cV cs),z3=z3,Sm (i6 ↑(i+1)),Tt]),Tt])=_) ?_
   (repeat'(first|(with_reducible apply And.intro)|(refine fun(_:True)=>?_)))<;>first|exact aq|skip
   ·rfl
   ·rw[Qat,Nat.zero_add];exact Qdr (by omega)
   ·exact lay_nt (by omega)
   ·exact hN1 _ _ _ (famH_old hH hl hb (fun j=>Qam _ _ _ _))
 ·have : i = cs.length := by omega
  subst this
  rw[List.take_length]at hH
  refine⟨[no 31,toO (fbS cs v ps r cs.length)],1000,?_⟩
  refine Eq.mp (by kernel_rfl:(An [decide ((↑cs.length:Int)<(↑cs.length:Int))=false,G (Ex.exit 0) (fbS cs v ps r cs.length) H nx lg,Sm (i6 ↑v),Sm (u6 ↑ps),Sm (V.ptr 0 0),Sm (V.ptr 1 0),Sm (i6 ↑r),Sm (V.mp 2),Sm (cV cs),Sm (i6 ↑cs.length),Sm (i6 ↑cs.length),Tt])=_) ?_
  (repeat'(first|(with_reducible apply And.intro)|(refine fun(_:True)=>?_)))<;>first|exact aq|skip
  all_goals exact hE _ _ _ _ _ ⟨rfl,rfl,hH⟩
set_option maxHeartbeats 1000000
set_option maxRecDepth 100000
def arE:SL:={sl:=[]}
def bE(d:Nat)(b:Bool):SL:={sl:=[(d,.bool b)]}
def mixF(a b:Nat→Int)(s:Int):Nat→Nat→Int
 |0=>a
 |k+1=>upA (mixF a b s k) k (a k+s*b k)
theorem Qbn(a b:Nat→Int)(s:Int): ∀k i,mixF a b s k i=if i<k then a i+s*b i else a i
 |0,i=>by simp[mixF]
 | k + 1, i => by
  unfold mixF upA
  by_cases h:i=k
  ·subst h;rw[if_pos rfl,if_pos (by omega)]
  ·rw [if_neg h, Qbn a b s k i]
   by_cases h2:i<k
   ·rw[if_pos h2,if_pos (by omega)]
   ·rw[if_neg h2,if_neg (by omega)]
abbrev cbS(a b:Nat→Int)(s:Int)(k:Nat):SL:={sl:=[(2,i6 s),(3,.ptr 0 0),(4,.ptr 1 0),(6,.ptr 2 0),(8,i6 k)],os:=[.row 41 none (arF (mixF a b s k)),.row 41 none (arF b),.row 41 none (arF Qaj)]}
abbrev cbX(a b:Nat→Int)(s:Int):SL:={sl:=[(3,.ptr 0 0),(6,.ptr 1 0)],os:=[.row 41 none (arF (mixF a b s 18)),.row 41 none (arF Qaj)]}
theorem Qj5(a b:Nat→Int)(s:Int)(ha: ∀k,k<18→ -1000000≤a k∧a k≤1000000)(hb: ∀k,k<18→ -1000000≤s*b k∧s*b k≤1000000)(k:Nat)(hk:k≤18):
  Sat Pg none 0 (at' 79 [1,0,1,0]) (mkSt g0 23 (cbS a b s k)) (Qaf g0 23 [(True,.exit 0,cbX a b s)]):=by
 refine Qa2 vE_ok mixed Qab (b:=at' 79 [1,0,1,0,0]) (by kernel_rfl) (fun k=>k≤18) (cbS a b s) (fun k=>18-k) (fun k hk=>?_) k hk
 by_cases hlt:k<18
 ·have p0 := @Qmo 0 k hlt
  have p1:=@Qmo 1 k hlt
  have h0:headF (dropF k (arF (mixF a b s k)))=some (i6 (a k)):=by rw[Qmb hlt,Qbn,if_neg (by omega)]
  have h1:=@Qmb b k hlt
  have hst:layE k (arF (mixF a b s k)) [i6 (a k+s*b k)]=some (arF (mixF a b s (k+1))):=lay_ar hlt
  have ha:=ha k hlt
  have hb:=hb k hlt
  refine .inl ⟨k+1,[0,1,2],[yes 9,va 12 (.ptr 0 k),ld 13 (i6 (a k)),va 16 (.ptr 1 k),ld 17 (i6 (b k)),nu 18 (s*b k),nu 19 (a k+s*b k),va 20 (.ptr 0 k),st (arF (mixF a b s (k+1))),nu 21 (k+1:Nat)],1000,hlt,by omega,?_⟩
  refine Eq.mp (by kernel_rfl:(let z0:=arF (mixF a b s (k+1));let z2:=(↑(k+1):Int);let z3:=(↑k:Int);let z4:=arF (mixF a b s k);let z1:=placeV (Qad Pg) 41 (V.ptr 0 0) z3;An [decide (z3<(18:Int))=true,z1=some (V.ptr 0 k),headF (dropF k z4)=some (i6 (a k)),placeV (Qad Pg) 41 (V.ptr 1 0) z3=some (V.ptr 1 k),headF (dropF k (arF b))=some (i6 (b k)),wr .i64 (s*b k)=s*b k,wr .i64 (a k+s*b k)=a k+s*b k,z1=some (V.ptr 0 k),layE k z4 [i6 (a k+s*b k)]=some z0,wr .i64 (z3+(1:Int))=z2,An [s=s,Zz,Zz,Zz,z2=z2,Tt],An [z0=z0,TT 18],An [Sm (arF b),TT 18],An [Sm (arF Qaj),TT 18],Tt])=_) ?_
  exact au
 ·have : k = 18 := by omega
  subst this
  refine .inr ⟨.exit 0,[0,2],cbX a b s,[],1000,.inl ⟨trivial,rfl,rfl⟩,?_⟩
  refine Eq.mp (by kernel_rfl:(An [An [Zz,Zz,Tt],An [Sm (arF (mixF a b s 18)),TT 18],An [Sm (arF Qaj),TT 18],Tt])=_) ?_
  exact au
theorem Qc5(a b:Nat→Int)(s:Int)(ha: ∀k,k<18→ -1000000≤a k∧a k≤1000000)(hb: ∀k,k<18→ -1000000≤s*b k∧s*b k≤1000000):FnOk Pg g0 79 [ar a,ar b,i6 s] (ar (mixF a b s 18)):=by
 have l:=Qj5 a b s ha hb 0 (Nat.zero_le _)
 refine FnOk.of_vc vE_ok mixed Qab (n:=1000) (r:=[1]) (S:={sl:=[(6,.ptr 0 0)],os:=[.row 41 none (arF (mixF a b s 18))]}) (hs:=[(0,.loop [0,1,2] (cbS a b s 0) [(True,.exit 0,cbX a b s)])]) ?_
 refine Eq.mp (by kernel_rfl:(let z0:=mixF a b s 18;An [V.agg (arF z0)=ar z0,An [An [s=s,Zz,Zz,Zz,(↑(0:Nat):Int)=(0:Int),Tt],An [arF (mixF a b s 0)=arF a,TT 18],An [Sm (arF b),TT 18],An [arF Qaj=[i6 0,i6 0,i6 0,i6 0,i6 0,i6 0,i6 0,i6 0,i6 0,i6 0,i6 0,i6 0,i6 0,i6 0,i6 0,i6 0,i6 0,i6 0],TT 18],Tt],Sat Pg none 0 (at' 79 [1,0,1,0]) (mkSt g0 23 (cbS a b s 0)) (Qaf g0 23 [(True,Ex.exit 0,cbX a b s)]),(True→An [An [Zz,Tt],An [Sm (arF z0),TT 18],Tt]),Tt])=_) ?_
 exact au
def factL:List Int:=
  [0, 0, 0, 0, 0, 0, 0, 0, 0, 0, 0, 0, 0, 0, 0, 0, 0, 0,
   0,0,0,0,0,0,0,0,0,0,0,0,0,0,0,0,0,0,
   1,0,0,0,0,0,0,0,0,0,0,0,0,0,0,0,0,0,
   1,1,0,0,0,0,0,0,0,0,0,0,0,0,0,0,0,0,
   3,1,0,0,0,0,0,0,0,0,0,0,0,0,0,0,0,0,
   3,1,1,0,0,0,0,0,0,0,0,0,0,0,0,0,0,0,
   4,2,1,0,0,0,0,0,0,0,0,0,0,0,0,0,0,0,
   4,2,1,1,0,0,0,0,0,0,0,0,0,0,0,0,0,0,
   7,2,1,1,0,0,0,0,0,0,0,0,0,0,0,0,0,0,
   7,4,1,1,0,0,0,0,0,0,0,0,0,0,0,0,0,0,
   8,4,2,1,0,0,0,0,0,0,0,0,0,0,0,0,0,0,
   8,4,2,1,1,0,0,0,0,0,0,0,0,0,0,0,0,0,
   10,5,2,1,1,0,0,0,0,0,0,0,0,0,0,0,0,0,
   10,5,2,1,1,1,0,0,0,0,0,0,0,0,0,0,0,0,
   11,5,2,2,1,1,0,0,0,0,0,0,0,0,0,0,0,0,
   11,6,3,2,1,1,0,0,0,0,0,0,0,0,0,0,0,0,
   15,6,3,2,1,1,0,0,0,0,0,0,0,0,0,0,0,0,
   15,6,3,2,1,1,1,0,0,0,0,0,0,0,0,0,0,0,
   16,8,3,2,1,1,1,0,0,0,0,0,0,0,0,0,0,0,
   16,8,3,2,1,1,1,1,0,0,0,0,0,0,0,0,0,0,
   18,8,4,2,1,1,1,1,0,0,0,0,0,0,0,0,0,0,
   18,9,4,3,1,1,1,1,0,0,0,0,0,0,0,0,0,0,
   19,9,4,3,2,1,1,1,0,0,0,0,0,0,0,0,0,0,
   19,9,4,3,2,1,1,1,1,0,0,0,0,0,0,0,0,0,
   22,10,4,3,2,1,1,1,1,0,0,0,0,0,0,0,0,0,
   22,10,6,3,2,1,1,1,1,0,0,0,0,0,0,0,0,0,
   23,10,6,3,2,2,1,1,1,0,0,0,0,0,0,0,0,0,
   23,13,6,3,2,2,1,1,1,0,0,0,0,0,0,0,0,0,
   25,13,6,4,2,2,1,1,1,0,0,0,0,0,0,0,0,0,
   25,13,6,4,2,2,1,1,1,1,0,0,0,0,0,0,0,0,
   26,14,7,4,2,2,1,1,1,1,0,0,0,0,0,0,0,0,
   26,14,7,4,2,2,1,1,1,1,1,0,0,0,0,0,0,0,
   31,14,7,4,2,2,1,1,1,1,1,0,0,0,0,0,0,0,
   31,15,7,4,3,2,1,1,1,1,1,0,0,0,0,0,0,0,
   32,15,7,4,3,2,2,1,1,1,1,0,0,0,0,0,0,0,
   32,15,8,5,3,2,2,1,1,1,1,0,0,0,0,0,0,0,
   34,17,8,5,3,2,2,1,1,1,1,0,0,0,0,0,0,0,
   34,17,8,5,3,2,2,1,1,1,1,1,0,0,0,0,0,0,
   35,17,8,5,3,2,2,2,1,1,1,1,0,0,0,0,0,0,
   35,18,8,5,3,3,2,2,1,1,1,1,0,0,0,0,0,0,
   38,18,9,5,3,3,2,2,1,1,1,1,0,0,0,0,0,0,
   38,18,9,5,3,3,2,2,1,1,1,1,1,0,0,0,0,0,
   39,19,9,6,3,3,2,2,1,1,1,1,1,0,0,0,0,0,
   39,19,9,6,3,3,2,2,1,1,1,1,1,1,0,0,0,0]
def factV:V:=.agg (factL.map (V.int .i64))
theorem fact_run:valOf (Qi8 vE 100000 (glOf gs0) 103 [] .e 0)=some factV:=by kernel_rfl
theorem fact_fn:FnOk Pg g0 103 [] factV:=FnOk.of_run vE_ok mixed (n:=100000) rfl fact_run
def entF(r:Nat):Nat→List (Nat×List Nat)→List (V×V×Nat)
 | _,[]=>[]
 |t,e::es=>(i6 (e.1:Nat),.im r (nt e.2),t)::entF r (t+1) es
theorem Qke{H:Nat→Option O}{F:Nat→Prop}{ρ:Nat→Option Nat}{r b:Nat}: ∀(es:List (Nat×List Nat))(t:Nat),(∀a e,es[a]? =some e→F (b+(t+a))∧H (b+(t+a))=some (.row 3 none (nt e.2)))→ViewE H F ρ (entF r t es) (entR r b t es)
 |[],_,_=>rfl
 |e::es,t,h=>by
  obtain⟨h1,h2⟩:=h 0 e rfl
  refine⟨_,_,_,rfl,rfl,.inr (.inr ⟨b+t,0,some (r-r),3,none,nt e.2,rfl,h1,h2,ViewP.of_hf _ (HfL_nt _)⟩),Qke es (t+1) (fun a e' ha=>?_)⟩
  have:=h (a+1) e' (by simpa using ha)
  rwa [show t+(a+1)=t+1+a by omega]at this
abbrev fcS(r:Nat)(os:List O):SL:={sl:=[(6,.ptr 1 0),(7,i6 r),(8,.mp 2)],os:=os}
abbrev fcO(cards:List Nat)(cs:List (List Nat))(r:Nat)(es:List (Nat×List Nat)):List O:=[dO cards cs,.row 41 none (arF Qaj),.map (entF r 0 es) es.length]
abbrev fbO(cards:List Nat)(cs:List (List Nat)):List O:=[dO cards cs,.row 41 none (arF Qaj),.map [] 0]
theorem HfL_ar(f:Nat→Int):HfL (arF f):=by repeat'(first|exact trivial|refine And.intro trivial ?_)
theorem Qrt(cards:List Nat)(cs:List (List Nat))(v ps r:Nat)(hc:CardsOk cards)(hcs: ∀c∈cs,CaseOk cards c)(hv:v<cards.length)(hr:cards.getD v 0=r)(hm:cs.length≤40):
  Sat Pg none 0 (at' 73 [1,1,1,0,1,0]) (mkSt g0 113 {sl:=fbS cs v ps r 0,os:=fbO cards cs}) (Qaf g0 113 [(True,.exit 0,fcS r (fcO cards cs r (Qan r (Qav cards v ps cs))))]):=by
 have h0:FamI cards cs v ps r 0 ⟨ofOs .e 0 (fbO cards cs),3,[]⟩:=by
  refine⟨Nat.zero_le _,?_⟩
  have:Qan r (Qav cards v ps (cs.take 0))=[]:=rfl
  rw[this]
  exact⟨rfl,rfl,rfl,rfl,fun a e h=>by simp at h⟩
 refine Sat.gc_post ((Qrs cards cs v ps r hc hcs hv hr hm _ h0).mono ?_)
 rintro e st ⟨sl,M',rfl,rfl,rfl,hH⟩
 generalize Qan r (Qav cards v ps cs)=es at*
 obtain⟨H,nx,lg⟩:=M'
 have hnx:nx=3+es.length:=hH.nx
 have h0:=hH.h0
 have h1:=hH.h1
 have h2:=hH.h2
 rw[Qay]at h0 h1 h2
 refine⟨[0,1,2],mkSt g0 113 (fcS r (fcO cards cs r es)),⟨rfl,fun g hg=>?_,by decide,rfl,rfl,fun i x hx=>?_,fun h o ho hl=>?_,fun h _ hlt=>absurd hlt (Nat.not_lt_zero _)⟩,.inl ⟨trivial,rfl,rfl⟩⟩
 ·refine ⟨Nat.zero_le _, ?_⟩
  show g<nx
  simp at hg;omega
 ·have b6 : gt (putL (blank 113) (fbS cs v ps r cs.length)) 6 = some (.ptr 1 0) := by kernel_rfl
  have b7:gt (putL (blank 113) (fbS cs v ps r cs.length)) 7=some (i6 r):=by kernel_rfl
  have b8:gt (putL (blank 113) (fbS cs v ps r cs.length)) 8=some (.mp 2):=by kernel_rfl
  rw[Qay]at b6 b7 b8
  rcases putL_get _ _ _ _ hx with hmem|hmem
  ·simp only [List.mem_cons, List.not_mem_nil, or_false] at hmem
   rcases hmem with h|h|h<;>cases h
   ·exact⟨_,b6,1,rfl,rfl⟩
   ·exact⟨_,b7,rfl⟩
   ·exact⟨_,b8,2,rfl,rfl⟩
  ·rw[Qbi]at hmem;cases hmem
 ·rcases ofOs_get _ _ _ _ _ ho with ⟨_, hm⟩ | hm
  ·rw [Nat.sub_zero] at hm
   rcases h with _| _| _|h
   ·cases hm;exact⟨0,_,rfl,h0,_,rfl,ViewL.of_hf _ ⟨trivial,trivial,trivial⟩⟩
   ·cases hm;exact⟨1,_,rfl,h1,_,rfl,ViewL.of_hf _ (HfL_ar _)⟩
   ·cases hm
    refine⟨2,_,rfl,h2,_,rfl,Qke es 0 (fun a e ha=>⟨⟨Nat.zero_le _,?_,fun _ _=>Nat.zero_le _⟩,?_⟩)⟩
    ·simp;omega
    ·have := (hH.row a e ha).1
     rw[Qay]at this
     rw[Nat.zero_add];exact this
   ·simp at hm
  ·simp at hm
theorem Qiz{g c:Nat}(h:c<44):placeV (Qad Pg) 173 (.ptr g 0) (c:Int)=some (.ptr g (c*18)):=by
 have h1:(Qad Pg).ty 173=some ⟨.array 44 41,792,6336,true,((Qad Pg).ty 173).bind (·.zero)⟩:=by kernel_rfl
 have h2:(Qad Pg).ty 41=some ⟨.array 18 3,18,144,true,((Qad Pg).ty 41).bind (·.zero)⟩:=by kernel_rfl
 unfold placeV
 rw[h1]
 dsimp only
 rw[h2]
 dsimp only
 rw[if_pos ⟨by omega,by omega⟩]
 simp[Qfh]
structure Qpa(F:Nat→Nat→Int)(tb:List V):Prop where
 take: ∀c,c<44→takeE 18 (dropF (c*18) tb)=some (arF (F c))
 bd: ∀c i,c<44→i<18→0≤F c i∧F c i≤50
 hf:HfL tb
def addA(f g:Nat→Int)(s:Int):Nat→Int:=fun i=>f i+s*g i
theorem comb(f g:Nat→Int)(s:Int)(ha: ∀k,k<18→ -1000000≤f k∧f k≤1000000)(hb: ∀k,k<18→ -1000000≤s*g k∧s*g k≤1000000):FnOk Pg g0 79 [ar f,ar g,i6 s] (ar (addA f g s)):=by
 have h:=Qc5 f g s ha hb
 have e:arF (mixF f g s 18)=arF (addA f g s):=Qbp fun k hk=>by rw[Qbn,if_pos hk];rfl
 rw[show ar (mixF f g s 18)=ar (addA f g s)from congrArg V.agg e]at h
 exact h
section
variable (r:Nat) (E:List (V×V×Nat)) (n:Nat) (tb:List V) (seen:List Nat)
abbrev fmO(f:Nat→Int):List O:=[.dead,.row 41 none (arF Qaj),.map E n,.row 173 none tb,.row 41 none (arF f),.iter (some 2) n seen n]
abbrev fmS(f:Nat→Int):SL:={sl:=[(6,.ptr 1 0),(7,i6 r),(14,.ptr 3 0),(15,.ptr 4 0),(78,.ptr 5 0)],os:=fmO E n tb seen f}
abbrev flS(l:List Nat)(q:Nat×Nat×(Nat→Int)):SL:={sl:=[(6,.ptr 1 0),(7,i6 r),(14,.ptr 3 0),(15,.ptr 4 0),(78,.ptr 5 0),(18,i6 q.2.1),(83,nl l),(84,i6 l.length),(85,i6 q.1)],os:=fmO E n tb seen q.2.2}
abbrev flX(s:Nat)(f:Nat→Int):SL:={sl:=[(6,.ptr 1 0),(7,i6 r),(14,.ptr 3 0),(15,.ptr 4 0),(78,.ptr 5 0),(18,i6 s)],os:=fmO E n tb seen f}
end
def sumA(F:Nat→Nat→Int)(f:Nat→Int)(l:List Nat):Nat→(Nat→Int)
 |0=>f
 |k+1=>addA (sumA F f l k) (F (l.getD k 0)) 1
theorem Qjf(F:Nat→Nat→Int)(f:Nat→Int)(l:List Nat)(i:Nat): ∀k,k≤l.length→sumA F f l k i=f i+sumI ((l.take k).map fun c=>F c i)
 |0,_=>by simp[sumA,sumI]
 |k+1,h=>by
  have:=Qjf F f l i k (by omega)
  unfold sumA addA
  rw[this,List.take_add_one,List.map_append,Qgw,List.getElem?_eq_getElem (by omega),List.getD_eq_getElem?_getD,List.getElem?_eq_getElem (by omega)]
  simp[sumI];omega
theorem Qln{F:Nat→Nat→Int}{tb:List V}(h:Qpa F tb){i:Nat}(hi:i<18): ∀l:List Nat,(∀c∈l,c<44)→0≤sumI (l.map fun c=>F c i)∧sumI (l.map fun c=>F c i)≤50*l.length
 |[],_=>by simp[sumI]
 |c::l,hl=>by
  have h1:=Qln h hi l (fun x hx=>hl x (List.mem_cons_of_mem _ hx))
  have h2:=h.bd c i (hl c List.mem_cons_self) hi
  simp only[List.map_cons,sumI,List.length_cons]
  omega
theorem fam_list(r n:Nat)(E:List (V×V×Nat))(tb:List V)(seen:List Nat)(F:Nat→Nat→Int)(ht:Qpa F tb)(hE:HfE E)(l:List Nat)(hl: ∀c∈l,c<44)(hl4:l.length≤4)(hs:sumN l≤43)(f:Nat→Int)(hf: ∀k,k<18→ -900000≤f k∧f k≤900000)(g:Nat→Int)(hg:g=sumA F f l l.length)(s:Nat)(hsum:s=sumN l):
  Sat Pg none 0 (at' 73 [1,1,1,1,1,1,0,1,0,0,1,1,0,1,1,0,1,0]) (mkSt g0 113 (flS r E n tb seen l (0,0,f))) (Qaf g0 113 [(True,.exit 6,flX r E n tb seen s g)]):=by
 refine Qa2 vE_ok mixed Qab (b:=at' 73 [1,1,1,1,1,1,0,1,0,0,1,1,0,1,1,0,1,0,0]) (by kernel_rfl) (fun q=>q.1≤l.length∧q.2.1=sumN (l.take q.1)∧q.2.2=sumA F f l q.1) (flS r E n tb seen l) (fun q=>l.length-q.1) (fun q hq=>?_) (0,0,f) ⟨Nat.zero_le _,rfl,rfl⟩
 obtain⟨k,u,a⟩:=q
 obtain⟨hk,hu,ha⟩:=hq
 dsimp only at hk hu ha
 by_cases hlt:k<l.length
 ·have hld := @Qdr l k hlt
  have hc:l.getD k 0<44:=hl _ (by rw[List.getD_eq_getElem?_getD,List.getElem?_eq_getElem hlt];exact List.getElem_mem hlt)
  have htk:=ht.take _ hc
  have hpl:=@Qiz 3 _ hc
  have hsn:sumN (l.take (k+1))=u+l.getD k 0:=by
   rw[List.take_add_one,Qgx,←hu,List.getElem?_eq_getElem hlt,List.getD_eq_getElem?_getD,List.getElem?_eq_getElem hlt];simp[sumN]
  have hle:sumN (l.take (k+1))≤sumN l:=by
   have:=Qgx (l.take (k+1)) (l.drop (k+1))
   rw[List.take_append_drop]at this;omega
  have hbd:=fun i(hi:i<18)=>Qln ht hi (l.take k) (fun c hc=>hl c (List.mem_of_mem_take hc))
  have hcb:=fun i(hi:i<18)=>ht.bd _ i hc hi
  have hcomb:=comb a (F (l.getD k 0)) 1 (fun i hi=>by
   have:=hbd i hi;have:=hf i hi
   rw[ha,Qjf _ _ _ _ _ hk]
   have:(l.take k).length≤4:=by rw[List.length_take];omega
   omega) (fun i hi=>by have:=hcb i hi;omega)
  have hnext:addA a (F (l.getD k 0)) 1=sumA F f l (k+1):=by rw[ha];rfl
  have htf:=ht.hf
  generalize l.getD k 0=c at*
  generalize F c=fc at*
  refine .inl ⟨(k+1,u+c,addA a fc 1),[0,1,2,3,4,5],[yes 86,pl 87,ld 88 (i6 c),nu 91 (u+c:Nat),va 94 (.ptr 3 (c*18)),ld 95 (ar fc),fn 96 (ar (addA a fc 1)),nu 97 (k+1:Nat)],1000,⟨hlt,hsn.symm,hnext⟩,by dsimp only;omega,?_⟩
  generalize addA a fc 1=a' at*
  refine Eq.mp (by kernel_rfl:(let z0:=(↑l.length:Int);let z1:=(↑(u+c):Int);let z2:=(↑(k+1):Int);let z3:=(↑k:Int);An [decide (z3<z0)=true,An [(0:Int)≤z3,z3<z0],headF (List.drop (k*1) (nt l))=some (i6 ↑c),wr .i64 ((↑u:Int)+(↑c:Int))=z1,placeV (Qad Pg) 173 (V.ptr 3 0) (↑c:Int)=some (V.ptr 3 (c*18)),takeE 18 (dropF (c*18) tb)=some (arF fc),An [TT 18,TT 18,Tt,Tt],FnOk Pg g0 79 [V.agg (arF a),V.agg (arF fc),i6 1] (ar a'),Tt,wr .i64 (z3+(1:Int))=z2,An [Zz,Sm (↑r:Int),Zz,Zz,Zz,z1=z1,An [Sm l.length,Sm (nt l)],z0=z0,z2=z2,Tt],Tt,An [Sm (arF Qaj),TT 18],An [E=E,HfE E,n=n],An [tb=tb,HfL tb],An [Sm (arF a'),TT 18],An [n=n,Sm seen,n=n],Tt])=_) ?_
  exact au
 ·have : k = l.length := by omega
  subst this
  rw[List.take_length]at hu
  obtain rfl:u=s:=hu.trans hsum.symm
  obtain rfl:a=g:=ha.trans hg.symm
  have htf:=ht.hf
  refine .inr ⟨.exit 6,[0,1,2,3,4,5],flX r E n tb seen u a,[no 86],1000,.inl ⟨trivial,rfl,rfl⟩,?_⟩
  refine Eq.mp (by kernel_rfl:(An [decide ((↑l.length:Int)<(↑l.length:Int))=false,An [Zz,Sm (↑r:Int),Zz,Zz,Zz,Sm (↑u:Int),Tt],Tt,An [Sm (arF Qaj),TT 18],An [E=E,HfE E,n=n],An [tb=tb,HfL tb],An [Sm (arF a),TT 18],An [n=n,Sm seen,n=n],Tt])=_) ?_
  exact au
set_option maxHeartbeats 1000000
set_option maxRecDepth 100000
section
variable (r:Nat) (key:Nat→Nat) (cl:Nat→List Nat)
abbrev Qg2:Nat→V×V×Nat:=fun a=>(i6 (key a:Nat),.im r (nt (cl a)),a)
theorem Qht(seen:List Nat): ∀l:List Nat,leftE seen (l.map (Qg2 r key cl))=(l.filter fun a=> !seen.contains a).map (Qg2 r key cl)
 |[]=>rfl
 |a::l=>by
  rw[List.map_cons,leftE,Qht seen l,List.filter_cons]
  cases seen.contains a<;>rfl
theorem Qfi(n:Nat): ∀l:List Nat,(∀a∈l,a<n)→allOld n (l.map (Qg2 r key cl))=true
 |[],_=>rfl
 |a::l,h=>by
  rw[List.map_cons,allOld,Qfi n l (fun x hx=>h x (List.mem_cons_of_mem _ hx)),Bool.and_true]
  exact Nat.ble_eq_true_of_le (h a List.mem_cons_self)
theorem Qhm{a:Nat}: ∀{l:List Nat},a∈l→findB a (l.map (Qg2 r key cl))=some (i6 (key a:Nat),.im r (nt (cl a)))
 | b :: l, h => by
  rw[List.map_cons,findB]
  cases hb:Nat.beq b a with
  |true=>
   have:=Nat.eq_of_beq_eq_true hb
   subst this;rfl
  |false=>
   rw[cond_false]
   refine Qhm ((List.mem_cons.1 h).resolve_left ?_)
   rintro rfl
   simp at hb
theorem Qh5: ∀l:List Nat,HfE (l.map (Qg2 r key cl))
 |[]=>trivial
 |a::l=>⟨trivial,trivial,Qh5 l⟩
end
theorem Qnx(r:Nat): ∀(es:List (Nat×List Nat))(t a:Nat),(entF r t es)[a]? =es[a]?.map fun e=>(i6 (e.1:Nat),V.im r (nt e.2),t+a)
 |[],_,_=>by simp[entF]
 |e::es,t,0=>by simp[entF]
 |e::es,t,a+1=>by
  rw[entF,List.getElem?_cons_succ,Qnx r es (t+1) a,List.getElem?_cons_succ,show t+1+a=t+(a+1)by omega]
theorem Qrg(r:Nat)(es:List (Nat×List Nat)):entF r 0 es=(List.range es.length).map (Qg2 r (fun a=>(es.getD a (0,[])).1) (fun a=>(es.getD a (0,[])).2)):=by
 apply List.ext_getElem?
 intro a
 rw[Qnx,List.getElem?_map,Nat.zero_add]
 by_cases h:a<es.length
 ·rw [List.getElem?_range h, List.getElem?_eq_getElem h]
  simp only[Option.map_some,Qg2,List.getD_eq_getElem?_getD,List.getElem?_eq_getElem h,Option.getD_some]
 ·rw[List.getElem?_eq_none (by omega),List.getElem?_eq_none (by simp;omega)];rfl
theorem Qom{ks:List Nat}{n:Nat}(hn:ks.Nodup)(hk: ∀k∈ks,k<n):ks.length≤n:=by
 have hp:((List.range n).filter (fun j=>decide (j∈ks))).Perm ks:=by
  refine(List.perm_ext_iff_of_nodup (List.Nodup.sublist List.filter_sublist List.nodup_range) hn).2 fun a=>?_
  simp only[List.mem_filter,List.mem_range,decide_eq_true_eq]
  exact⟨fun h=>h.2,fun h=>⟨hk a h,h⟩⟩
 rw[←hp.length_eq]
 calc _≤(List.range n).length:=List.length_filter_le _ _
  _=n:=List.length_range
structure Qm8(r n:Nat)(cl:Nat→List Nat):Prop where
 r1:1≤r
 r4:r≤4
 n40:n≤40
 len: ∀a,a<n→(cl a).length=r
 sum: ∀a,a<n→sumN (cl a)≤40
theorem con_bd{F:Nat→Nat→Int}{tb:List V}(ht:Qpa F tb){r n:Nat}{cl:Nat→List Nat}(h:Qm8 r n cl){a i:Nat}(ha:a<n)(hi:i<18): -250≤conF F r (cl a) i∧conF F r (cl a) i≤250:=by
 have h1:=Qln ht hi (cl a) (fun c hc=>by have:=Qde hc;have:=h.sum a ha;omega)
 have h2:=h.len a ha
 have h3:=h.sum a ha
 have h4:=h.r4
 have h5:=ht.bd (r-1) i (by omega) hi
 have h6:=ht.bd (sumN (cl a)+(r-1)) i (by omega) hi
 unfold conF;omega
theorem Qtl{F:Nat→Nat→Int}{tb:List V}(ht:Qpa F tb){r n:Nat}{cl:Nat→List Nat}(h:Qm8 r n cl){i:Nat}(hi:i<18): ∀l:List Nat,(∀a∈l,a<n)→ -250*(l.length:Int)≤sumI (l.map fun a=>conF F r (cl a) i)∧sumI (l.map fun a=>conF F r (cl a) i)≤250*(l.length:Int)
 |[],_=>by simp[sumI]
 |a::l,hl=>by
  have h1:=Qtl ht h hi l (fun x hx=>hl x (List.mem_cons_of_mem _ hx))
  have h2:=con_bd ht h (hl a List.mem_cons_self) hi
  simp only[List.map_cons,sumI,List.length_cons]
  omega
abbrev fzS(f:Nat→Int):SL:={sl:=[(6,.ptr 1 0),(15,.ptr 4 0)],os:=[.dead,.row 41 none (arF Qaj),.dead,.dead,.row 41 none (arF f),.dead]}
theorem fam_map(r n:Nat)(key:Nat→Nat)(cl:Nat→List Nat)(tb:List V)(F:Nat→Nat→Int)(ht:Qpa F tb)(h:Qm8 r n cl)(E:List (V×V×Nat))(hE:E=(List.range n).map (Qg2 r key cl)):
  Sat Pg none 0 (at' 73 [1,1,1,1,1,1,0,1,0]) (mkSt g0 113 (fmS r E n tb [] Qaj)) (Qaf g0 113 [(True,.exit 4,fzS (fun i=>sumI ((List.range n).map fun a=>conF F r (cl a) i)))]):=by
 refine(loopHG (b:=at' 73 [1,1,1,1,1,1,0,1,0,0]) (by kernel_rfl) (fun q:List Nat×(Nat→Int)=>q.1.Nodup∧(∀a∈q.1,a<n)∧∀i,i<18→q.2 i=sumI (q.1.map fun a=>conF F r (cl a) i)) (fun q=>fmS r E n tb q.1 q.2) (fun q=>n-q.1.length) (fun e S'=>e= .exit 4∧∃f,S'=fzS f∧∀i,i<18→f i=sumI ((List.range n).map fun a=>conF F r (cl a) i)) (fun q G hq hN hX _=>?_) ([],Qaj) ⟨List.nodup_nil,fun _ h=>(by cases h),fun _ _=>rfl⟩).mono ?_
 ·obtain ⟨seen, f⟩ := q
  obtain⟨hn,hs,hf⟩:=hq
  dsimp only at hn hs hf hN
  have hle:=Qom hn hs
  have hHf:HfE E:=by rw[hE];exact Qh5 r key cl _
  have hleft:leftE seen E=((List.range n).filter fun a=> !seen.contains a).map (Qg2 r key cl):=by rw[hE];exact Qht r key cl seen _
  have hold:allOld n E=true:=by rw[hE];exact Qfi r key cl n _ (fun a ha=>List.mem_range.1 ha)
  have hids: ∀a∈(List.range n).filter (fun a=> !seen.contains a),a<n∧a∉seen:=by
   intro a ha
   obtain⟨h1,h2⟩:=List.mem_filter.1 ha
   refine⟨List.mem_range.1 h1,fun hm=>?_⟩
   simp[hm]at h2
  have hnil:(List.range n).filter (fun a=> !seen.contains a)=[]→∀i,i<18→f i=sumI ((List.range n).map fun a=>conF F r (cl a) i):=by
   intro he i hi
   have hp:seen.Perm (List.range n):=by
    refine(List.perm_ext_iff_of_nodup hn List.nodup_range).2 fun a=>⟨fun ha=>List.mem_range.2 (hs a ha),fun ha=>?_⟩
    by_cases hm:a∈seen
    ·exact hm
    ·have : a ∈ (List.range n).filter (fun a => !seen.contains a) := List.mem_filter.2 ⟨ha, by simpa using hm⟩
     rw[he]at this;cases this
   rw[hf i hi]
   exact Qll (hp.map _)
  have hfind: ∀a,a<n→findB a E=some (i6 (key a:Nat),.im r (nt (cl a))):=fun a ha=>by rw[hE];exact Qhm r key cl (List.mem_range.2 ha)
  have htf:=ht.hf
  have hr4:=h.r4
  have hr1:=h.r1
  have hn40:=h.n40
  have hfb: ∀i,i<18→ -10000≤f i∧f i≤10000:=fun i hi=>by
   have:=Qtl ht h hi seen hs
   rw[hf i hi];omega
  have hp1:=@Qiz 3 (r-1) (by omega)
  have ht1:=ht.take (r-1) (by omega)
  have hstep: ∀a,a<n→a∉seen→G .normal (fmS r E n tb (seen++[a]) (addA (addA (sumA F f (cl a) (cl a).length) (F (r-1)) 1) (F (sumN (cl a)+(r-1))) (-1))):=fun a ha hm=>by
   refine hN (seen++[a],_) ⟨?_,?_,fun i hi=>?_⟩ ?_
   ·rw [List.nodup_append]
    refine⟨hn,by simp,fun x hx y hy=>?_⟩
    obtain rfl:=List.mem_singleton.1 hy
    rintro rfl;exact hm hx
   ·intro x hx
    rcases List.mem_append.1 hx with hx|hx
    ·exact hs x hx
    ·obtain rfl:=List.mem_singleton.1 hx;exact ha
   ·dsimp only
    rw[List.map_append,Qgw,←hf i hi]
    simp only[addA,Qjf _ _ _ _ _ (Nat.le_refl _),List.take_length,List.map_cons,List.map_nil,sumI,conF]
    omega
   ·have : (seen ++ [a]).length ≤ n := Qom (by
     rw[List.nodup_append]
     refine⟨hn,by simp,fun x hx y hy=>?_⟩
     obtain rfl:=List.mem_singleton.1 hy
     rintro rfl;exact hm hx) (fun x hx=>by
     rcases List.mem_append.1 hx with hx|hx
     ·exact hs x hx
     ·obtain rfl:=List.mem_singleton.1 hx;exact ha)
    simp only[List.length_append,List.length_cons,List.length_nil]at this⊢
    omega
  have hX':(List.range n).filter (fun a=> !seen.contains a)=[]→G (.exit 4) (fzS f):=fun he=>hX 4 _ ⟨rfl,f,rfl,hnil he⟩
  generalize (List.range n).filter (fun a=> !seen.contains a)=ids at*
  refine⟨[(0,.nx ids (Qg2 r key cl) (fun a=>[(81,.en a (i6 (key a:Nat)) (.im r (nt (cl a)))),(0,.loop [0,1,2,3,4,5] (flS r E n tb (seen++[a]) (cl a) (0,0,f)) [(True,.exit 6,flX r E n tb (seen++[a]) (sumN (cl a)) (sumA F f (cl a) (cl a).length))]),nu 100 (r-1:Nat),va 101 (.ptr 3 ((r-1)*18)),ld 102 (ar (F (r-1))),fn 103 (ar (addA (sumA F f (cl a) (cl a).length) (F (r-1)) 1)),nu 107 (sumN (cl a)+r:Nat),nu 108 (sumN (cl a)+(r-1):Nat),va 109 (.ptr 3 ((sumN (cl a)+(r-1))*18)),ld 110 (ar (F (sumN (cl a)+(r-1)))),fn 111 (ar (addA (addA (sumA F f (cl a) (cl a).length) (F (r-1)) 1) (F (sumN (cl a)+(r-1))) (-1))),(0,.to [0,1,2,3,4,5] (fmS r E n tb (seen++[a]) (addA (addA (sumA F f (cl a) (cl a).length) (F (r-1)) 1) (F (sumN (cl a)+(r-1))) (-1))))]) [(0,.to [0,1,2,3,4,5] (fzS f))])],1000,?_⟩
  refine Eq.mp (by kernel_rfl:(let z5:=An [TT 18,TT 18,Tt,Tt];let z6:=An [Sm (arF f),TT 18];let z0:=F (r-1);let z1:=(1:Int);let z2:=(-1:Int);let z3:=(↑r:Int);let z4:=arF Qaj;An [An [allOld n E=true,n≤n,leftE seen E=List.map (Qg2 r key cl) ids],(ids=[]→An [G (Ex.exit 4) (fzS f),An [Zz,Zz,Tt],Tt,An [z4=z4,TT 18],Tt,Tt,z6,Tt,Tt]),∀(a:Nat),List.Mem a ids→An [An [List.getLast? (seen++[a])=some a,n=n,findB a E=some (i6 ↑(key a),V.im r (nt (cl a)))],An [An [Zz,z3=z3,Zz,Zz,Zz,(↑(0:Nat):Int)=(0:Int),An [List.length (cl a)=r,Sm (nt (cl a))],(↑(List.length (cl a)):Int)=z3,(↑(0:Nat):Int)=(0:Int),Tt],Tt,An [z4=z4,TT 18],An [E=E,HfE E,n=n],An [tb=tb,HfL tb],z6,An [n=n,Sm (seen++[a]),n=n],Tt],Sat Pg none 0 (at' 73 [1,1,1,1,1,1,0,1,0,0,1,1,0,1,1,0,1,0]) (mkSt g0 113 (flS r E n tb (seen++[a]) (cl a) (0,0,f))) (Qaf g0 113 [(True,Ex.exit 6,flX r E n tb (seen++[a]) (sumN (cl a)) (sumA F f (cl a) (List.length (cl a))))]),(True→An [wr .i64 (z3-z1)=(↑(r-1):Int),placeV (Qad Pg) 173 (V.ptr 3 0) (↑(r-1):Int)=some (V.ptr 3 ((r-1)*18)),takeE 18 (dropF ((r-1)*18) tb)=some (arF z0),z5,FnOk Pg g0 79 [V.agg (arF (sumA F f (cl a) (List.length (cl a)))),V.agg (arF z0),i6 1] (ar (addA (sumA F f (cl a) (List.length (cl a))) z0 z1)),Tt,wr .i64 ((↑(sumN (cl a)):Int)+z3)=(↑(sumN (cl a)+r):Int),wr .i64 ((↑(sumN (cl a)+r):Int)-z1)=(↑(sumN (cl a)+(r-1)):Int),placeV (Qad Pg) 173 (V.ptr 3 0) (↑(sumN (cl a)+(r-1)):Int)=some (V.ptr 3 ((sumN (cl a)+(r-1))*18)),takeE 18 (dropF ((sumN (cl a)+(r-1))*18) tb)=some (arF (F (sumN (cl a)+(r-1)))),z5,FnOk Pg g0 79 [V.agg (arF (addA (sumA F f (cl a) (List.length (cl a))) z0 z1)),V.agg (arF (F (sumN (cl a)+(r-1)))),i6 (-1)] (ar (addA (addA (sumA F f (cl a) (List.length (cl a))) z0 z1) (F (sumN (cl a)+(r-1))) z2)),Tt,G Ex.normal (fmS r E n tb (seen++[a]) (addA (addA (sumA F f (cl a) (List.length (cl a))) z0 z1) (F (sumN (cl a)+(r-1))) z2)),An [Zz,z3=z3,Zz,Zz,Zz,Tt],Tt,An [z4=z4,TT 18],An [E=E,HfE E,n=n],An [tb=tb,HfL tb],An [arF (addA (addA (sumA F f (cl a) (List.length (cl a))) z0 z1) (F (sumN (cl a)+(r-1))) z2)=[i6 (addA (addA (sumA F f (cl a) (List.length (cl a))) z0 z1) (F (sumN (cl a)+(r-1))) z2 0),i6 (addA (addA (sumA F f (cl a) (List.length (cl a))) z0 z1) (F (sumN (cl a)+(r-1))) z2 1),i6 (addA (addA (sumA F f (cl a) (List.length (cl a))) z0 z1) (F (sumN (cl a)+(r-1))) z2 2),i6 (addA (addA (sumA F f (cl a) (List.length (cl a))) z0 z1) (F (sumN (cl a)+(r-1))) z2 3),i6 (addA (addA (sumA F f (cl a) (List.length (cl a))) z0 z1) (F (sumN (cl a)+(r-1))) z2 4),i6 (addA (addA (sumA F f (cl a) (List.length (cl a))) z0 z1) (F (sumN (cl a)+(r-1))) z2 5),i6 (addA (addA (sumA F f (cl a) (List.length (cl a))) z0 z1) (F (sumN (cl a)+(r-1))) z2 6),i6 (addA (addA (sumA F f (cl a) (List.length (cl a))) z0 z1) (F (sumN (cl a)+(r-1))) z2 7),i6 (addA (addA (sumA F f (cl a) (List.length (cl a))) z0 z1) (F (sumN (cl a)+(r-1))) z2 8),i6 (addA (addA (sumA F f (cl a) (List.length (cl a))) z0 z1) (F (sumN (cl a)+(r-1))) z2 9),i6 (addA (addA (sumA F f (cl a) (List.length (cl a))) z0 z1) (F (sumN (cl a)+(r-1))) z2 10),i6 (addA (addA (sumA F f (cl a) (List.length (cl a))) z0 z1) (F (sumN (cl a)+(r-1))) z2 11),i6 (addA (addA (sumA F f (cl a) (List.length (cl a))) z0 z1) (F (sumN (cl a)+(r-1))) z2 12),i6 (addA (addA (sumA F f (cl a) (List.length (cl a))) z0 z1) (F (sumN (cl a)+(r-1))) z2 13),i6 (addA (addA (sumA F f (cl a) (List.length (cl a))) z0 z1) (F (sumN (cl a)+(r-1))) z2 14),i6 (addA (addA (sumA F f (cl a) (List.length (cl a))) z0 z1) (F (sumN (cl a)+(r-1))) z2 15),i6 (addA (addA (sumA F f (cl a) (List.length (cl a))) z0 z1) (F (sumN (cl a)+(r-1))) z2 16),i6 (addA (addA (sumA F f (cl a) (List.length (cl a))) z0 z1) (F (sumN (cl a)+(r-1))) z2 17)],TT 18],An [n=n,Sm (seen++[a]),n=n],Tt]),Tt]])=_) ?_
  refine⟨⟨hold,Nat.le_refl _,hleft⟩,fun hid0=>?_,fun a hma=>?_⟩
  ·have hX2 := hX' hid0
   exact au
  ·obtain ⟨ha1, ha2⟩ := hids a hma
   have hlen:=h.len a ha1
   have hsum:=h.sum a ha1
   have hlist:=fam_list r n E tb (seen++[a]) F ht hHf (cl a) (fun c hc=>by have:=Qde hc;omega) (by omega) (by omega) f (fun i hi=>by have:=hfb i hi;omega) _ rfl _ rfl
   have hsb:=fun i(hi:i<18)=>Qln ht hi (cl a) (fun c hc=>by have:=Qde hc;omega)
   have hb1:=fun i(hi:i<18)=>ht.bd (r-1) i (by omega) hi
   have hb2:=fun i(hi:i<18)=>ht.bd (sumN (cl a)+(r-1)) i (by omega) hi
   have hs1: ∀i,i<18→ -20000≤sumA F f (cl a) (cl a).length i∧sumA F f (cl a) (cl a).length i≤20000:=fun i hi=>by
    rw[Qjf _ _ _ _ _ (Nat.le_refl _),List.take_length]
    have:=hsb i hi;have:=hfb i hi
    omega
   have c1:=comb (sumA F f (cl a) (cl a).length) (F (r-1)) 1 (fun i hi=>by have:=hs1 i hi;omega) (fun i hi=>by have:=hb1 i hi;omega)
   have c2:=comb (addA (sumA F f (cl a) (cl a).length) (F (r-1)) 1) (F (sumN (cl a)+(r-1))) (-1) (fun i hi=>by have:=hs1 i hi;have:=hb1 i hi;unfold addA;omega) (fun i hi=>by have:=hb2 i hi;omega)
   have hp2:=@Qiz 3 (sumN (cl a)+(r-1)) (by omega)
   have ht2:=ht.take (sumN (cl a)+(r-1)) (by omega)
   have hst:=hstep a ha1 ha2
   have hfa:=hfind a ha1
   have hgl:(seen++[a]).getLast?=some a:=by simp
   exact au
 ·rintro e st ⟨S', rfl, rfl, f, rfl, hf⟩
  refine .inl ⟨trivial,rfl,?_⟩
  have:arF f=arF (fun i=>sumI ((List.range n).map fun a=>conF F r (cl a) i)):=Qbp hf
  show mkSt g0 113 {sl:=[(6,.ptr 1 0),(15,.ptr 4 0)],os:=[.dead,.row 41 none (arF Qaj),.dead,.dead,.row 41 none (arF f),.dead]}=_
  rw[this]
set_option maxHeartbeats 1000000
set_option maxRecDepth 100000
def factT:List V:=factL.map (V.int .i64)
def facF(c i:Nat):Int:=factL.getD (18*c+i) 0
theorem lt44{k:Nat}(h:k<44):k=0∨k=1∨k=2∨k=3∨k=4∨k=5∨k=6∨k=7∨k=8∨k=9∨k=10∨k=11∨k=12∨k=13∨k=14∨k=15∨k=16∨k=17∨k=18∨k=19∨k=20∨k=21∨k=22∨k=23∨k=24∨k=25∨k=26∨k=27∨k=28∨k=29∨k=30∨k=31∨k=32∨k=33∨k=34∨k=35∨k=36∨k=37∨k=38∨k=39∨k=40∨k=41∨k=42∨k=43:=by omega
theorem fac_ok:Qpa facF factT:=by
 refine⟨fun c hc=>?_,fun c i _ _=>?_,Qae _⟩
 ·rcases lt44 hc with rfl|rfl|rfl|rfl|rfl|rfl|rfl|rfl|rfl|rfl|rfl|rfl|rfl|rfl|rfl|rfl|rfl|rfl|rfl|rfl|rfl|rfl|rfl|rfl|rfl|rfl|rfl|rfl|rfl|rfl|rfl|rfl|rfl|rfl|rfl|rfl|rfl|rfl|rfl|rfl|rfl|rfl|rfl|rfl<;>kernel_rfl
 ·have : ∀ x ∈ factL, 0 ≤ x ∧ x ≤ 50 := by decide
  unfold facF
  rw[List.getD_eq_getElem?_getD]
  cases hx:factL[18*c+i]? with
  |none=>simp
  |some x=>exact this x (List.mem_of_getElem? hx)
theorem Qik(i:Nat)(h:i<18):facF 0 i=0:=by
 rcases lt18 h with rfl|rfl|rfl|rfl|rfl|rfl|rfl|rfl|rfl|rfl|rfl|rfl|rfl|rfl|rfl|rfl|rfl|rfl<;>rfl
def famF(cards:List Nat)(cs:List (List Nat))(v ps:Nat):Nat→Int:=famZ facF (Qav cards v ps cs) (cards.getD v 0) (Qgv cards ps cards.length)
theorem Qiy{cards:List Nat}{v ps:Nat}{cs:List (List Nat)}(hc:CardsOk cards)(hcs: ∀c∈cs,CaseOk cards c)(hv:v<cards.length): ∀p∈Qav cards v ps cs,p.1<Qgv cards ps cards.length∧p.2<cards.getD v 0:=by
 intro p hp
 obtain⟨c,hm,rfl⟩:=List.mem_map.1 hp
 exact⟨Qmu hc (hcs c hm) ps _ (Nat.le_refl _),(hcs c hm).lt v hv⟩
theorem Qdp{r:Nat}{P:List (Nat×Nat)}(h: ∀p∈P,p.2<r):(Qan r P).length≤P.length:=by
 have hE:=Qbt P h
 have hk: ∀k∈(Qan r P).map (·.1),k∈P.map (·.1):=fun k hk=>by
  obtain⟨m,hm⟩:=(hE.keys k).1 hk
  exact List.mem_map.2 ⟨_,hm,rfl⟩
 have key: ∀(a b:List Nat),a.Nodup→(∀x∈a,x∈b)→a.length≤b.length:=by
  intro a
  induction a with
  |nil=>intro b _ _;exact Nat.zero_le _
  |cons x a ih=>
   intro b hn hs
   rw[List.nodup_cons]at hn
   have hx:=hs x List.mem_cons_self
   have:=ih (b.erase x) hn.2 (fun y hy=>(List.mem_erase_of_ne (fun e=>hn.1 (by rw[←e];exact hy))).2 (hs y (List.mem_cons_of_mem _ hy)))
   rw[List.length_erase_of_mem hx]at this
   have:=List.length_pos_of_mem hx
   simp only[List.length_cons];omega
 have:=key _ _ hE.nodup hk
 simpa using this
theorem Qrw(cards:List Nat)(cs:List (List Nat))(v ps r n:Nat)(E:List (V×V×Nat))(tb:List V)(hv:v<cards.length)(htl:tb.length=792)(hta:atoms tb=true)(htf:HfL tb)(hHE:HfE E)(hfact:FnOk Pg g0 103 [] (.agg tb))(g:Nat→Int)(hld:headF ((nt cards).drop (v*1))=some (i6 r))
  (hcount:Sat Pg none 0 (at' 73 [1,1,1,0,1,0]) (mkSt g0 113 {sl:=fbS cs v ps r 0,os:=fbO cards cs}) (Qaf g0 113 [(True,.exit 0,fcS r [dO cards cs,.row 41 none (arF Qaj),.map E n])]))
  (hmap:Sat Pg none 0 (at' 73 [1,1,1,1,1,1,0,1,0]) (mkSt g0 113 (fmS r E n tb [] Qaj)) (Qaf g0 113 [(True,.exit 4,fzS g)])):FnOk Pg g0 73 [dN cards cs,i6 v,u6 ps] (ar g):=by
 refine FnOk.of_vc vE_ok mixed Qab (n:=1000) (r:=[1]) (S:={sl:=[(6,.ptr 0 0)],os:=[.row 41 none (arF g)]}) (hs:=[pl 24,ld 25 (i6 r),(0,.loop [0,1,2] {sl:=fbS cs v ps r 0,os:=fbO cards cs} [(True,.exit 0,fcS r [dO cards cs,.row 41 none (arF Qaj),.map E n])]),(76,.fnP (.agg tb)),(999999,.sw),(0,.loop [0,1,2,3,4,5] (fmS r E n tb [] Qaj) [(True,.exit 4,fzS g)])]) ?_
 refine Eq.mp (by kernel_rfl:(let z0:=[i6 0,i6 0,i6 0,i6 0,i6 0,i6 0,i6 0,i6 0,i6 0,i6 0,i6 0,i6 0,i6 0,i6 0,i6 0,i6 0,i6 0,i6 0];let z1:=cellsV (V.agg tb);let z2:=(↑v:Int);let z3:=(↑r:Int);let z4:=arF Qaj;An [V.agg (arF g)=ar g,An [(0:Int)≤z2,z2<(↑cards.length:Int)],headF (List.drop (v*1) (nt cards))=some (i6 ↑r),An [An [z2=z2,Sm (↑ps:Int),Zz,Zz,z3=z3,Tt,An [Sm cs.length,Sm (List.map nl cs)],Sm (↑cs.length:Int),(↑(0:Nat):Int)=(0:Int),Tt],An [Sm [nl cards,cV cs],TT 2],An [z4=z0,TT 18],An [([]:List (V×V×Nat))=[],HfE [],Zz],Tt],Sat Pg none 0 (at' 73 [1,1,1,0,1,0]) (mkSt g0 113 (SL.mk (fbS cs v ps r 0) (fbO cards cs) [] [])) (Qaf g0 113 [(True,Ex.exit 0,fcS r [dO cards cs,O.row 41 none z4,O.map E n])]),(True→An [Tt,An [Hf (V.agg tb),FnOk Pg g0 103 [] (V.agg tb)],Tt,An [z1.length=792,atoms z1=true,792=z1.length],An [An [Zz,z3=z3,Zz,Zz,Zz,Tt],Tt,An [z4=z4,TT 18],An [E=E,HfE E,n=n],An [tb=z1,HfL tb],An [z4=z0,TT 18],An [n=n,([]:List Nat)=[],n=n],Tt],Sat Pg none 0 (at' 73 [1,1,1,1,1,1,0,1,0]) (mkSt g0 113 (fmS r E n tb [] Qaj)) (Qaf g0 113 [(True,Ex.exit 4,fzS g)]),(True→An [An [Zz,Tt],An [Sm (arF g),TT 18],Tt]),Tt]),Tt])=_) ?_
 (repeat'(first|(with_reducible apply And.intro)|(refine fun(_:True)=>?_)))<;>first|exact aq|skip
 all_goals first|rfl|exact htf|exact htl|exact hta|exact htl.symm|exact trivial
theorem Qki(cards:List Nat)(cs:List (List Nat))(v ps:Nat)(hc:CardsOk cards)(hcs: ∀c∈cs,CaseOk cards c)(hv:v<cards.length)(hm:cs.length≤40):FnOk Pg g0 73 [dN cards cs,i6 v,u6 ps] (ar (famF cards cs v ps)):=by
 have hcount:=Qrt cards cs v ps _ hc hcs hv rfl hm
 have hpo:=Qiy (ps:=ps) hc hcs hv
 have hr:=hc.each v hv
 have hlt:=fun p hp=>(hpo p hp).2
 have hel:=Qdp hlt
 have hpl:(Qav cards v ps cs).length≤40:=by simpa [Qav]using hm
 have hE:=Qbt _ hlt
 have hsum:=Qdf (r:=cards.getD v 0) (Qav cards v ps cs)
 have hz:ar (famF cards cs v ps)=ar (fun i=>sumI ((Qan (cards.getD v 0) (Qav cards v ps cs)).map fun e=>conF facF (cards.getD v 0) e.2 i)):=by
  refine congrArg V.agg (Qbp fun i hi=>?_)
  exact(Qdq (Qik i hi) hpo).symm
 have hld:=@Qdr cards v hv
 rw[hz]
 generalize Qan (cards.getD v 0) (Qav cards v ps cs)=es at*
 generalize hrr:cards.getD v 0=r at*
 have hrows:Qm8 r es.length (fun a=>(es.getD a (0,[])).2):=by
  have hget: ∀a,a<es.length→es.getD a (0,[])∈es:=fun a ha=>by
   rw[List.getD_eq_getElem?_getD,List.getElem?_eq_getElem ha];exact List.getElem_mem ha
  refine⟨by omega,hr.2,by omega,fun a ha=>?_,fun a ha=>?_⟩
  ·show (es.getD a (0, [])).2.length = r
   rw[hE.row _ (hget a ha),Qcj]
  ·show sumN (es.getD a (0, [])).2 ≤ 40
   rw[hE.row _ (hget a ha)]
   have:=hsum (es.getD a (0,[])).1 hlt
   omega
 have hmap:=fam_map r es.length (fun a=>(es.getD a (0,[])).1) (fun a=>(es.getD a (0,[])).2) factT facF fac_ok hrows (entF r 0 es) (Qrg r es)
 have hfin:(fun i=>sumI ((List.range es.length).map fun a=>conF facF r ((fun a=>(es.getD a (0,[])).2) a) i))=(fun i=>sumI (es.map fun e=>conF facF r e.2 i)):=by
  funext i
  congr 1
  apply List.ext_getElem?
  intro a
  rw[List.getElem?_map,List.getElem?_map]
  by_cases h:a<es.length
  ·rw [List.getElem?_range h, List.getElem?_eq_getElem h]
   simp only[Option.map_some,List.getD_eq_getElem?_getD,List.getElem?_eq_getElem h,Option.getD_some]
  ·rw[List.getElem?_eq_none (by simp;omega),List.getElem?_eq_none (by omega)];rfl
 rw[hfin]at hmap
 generalize (fun i=>sumI (es.map fun e=>conF facF r e.2 i))=g at*
 have hHE:HfE (entF r 0 es):=by rw[Qrg];exact Qh5 _ _ _ _
 simp only[fcO]at hcount
 generalize entF r 0 es=E at*
 have hfact:FnOk Pg g0 103 [] (.agg factT):=fact_fn
 have htl:factT.length=792:=by kernel_rfl
 have hta:atoms factT=true:=by kernel_rfl
 exact Qrw cards cs v ps r es.length E factT hv htl hta (Qae _) hHE hfact g hld hcount hmap
theorem Qnu(cs:List (List Int)):((comp cs).length=cs.length↔cs.any negB=false):=by
 unfold comp
 rw[←List.countP_eq_length_filter]
 constructor
 ·intro h
  rw[List.countP_eq_length]at h
  rw[List.any_eq_false]
  intro c hc
  have:=h c hc
  simpa using this
 ·intro h
  rw[List.countP_eq_length]
  intro c hc
  rw[List.any_eq_false]at h
  simpa using h c hc
abbrev w8(n:Int):V:=.int .u8 n
abbrev sl8(l:List Int):V:=.im l.length (l.map w8)
def u8s(l:List Int):Prop:=∀c∈l,0≤c∧c≤255
theorem head_8{l:List Int}{k:Nat}(h:k<l.length):headF ((l.map w8).drop (k*1))=some (w8 (l.getD k 0)):=by
 rw[Nat.mul_one,←List.map_drop,List.drop_eq_getElem_cons h,List.getD_eq_getElem?_getD,List.getElem?_eq_getElem h];rfl
theorem Qn5{l:List Int}{k:Nat}(h:k<l.length):l.getD k 0∈l:=by rw[List.getD_eq_getElem?_getD,List.getElem?_eq_getElem h];exact List.getElem_mem h
def five(f:Nat→Int):List V:=[w8 (f 0),w8 (f 1),w8 (f 2),w8 (f 3),w8 (f 4)]
def Qcm:List (Nat→Int)→List V
 |[]=>[]
 |f::l=>five f++Qcm l
abbrev kV(ks:List (Nat→Int)):V:=.im ks.length (Qcm ks)
theorem Qkm: ∀(ks:List (Nat→Int))(i:Nat)(f:Nat→Int),ks[i]? =some f→∃rest,(Qcm ks).drop (i*5)=five f++rest
 |[],i,f,h=>by simp at h
 |g::ks,0,f,h=>by
  obtain rfl:g=f:=by simpa using h
  exact⟨Qcm ks,by simp[Qcm]⟩
 |g::ks,i+1,f,h=>by
  obtain⟨rest,hr⟩:=Qkm ks i f (by simpa using h)
  refine⟨rest,?_⟩
  rw[Qcm,Nat.add_mul,Nat.one_mul,Nat.add_comm,←List.drop_drop,List.drop_left' (by rfl),hr]
theorem lt5{j:Nat}(h:j<5):j=0∨j=1∨j=2∨j=3∨j=4:=by omega
theorem Qr0(f:Nat→Int)(rest:List V){j:Nat}(h:j<5):headF ((five f++rest).drop j)=some (w8 (f j)):=by
 rcases lt5 h with rfl|rfl|rfl|rfl|rfl<;>rfl
theorem place92{l:List V}{j:Nat}(h:j<5):placeV (Qad Pg) 92 (.imp l) (j:Int)=some (.imp (l.drop j)):=by
 rcases lt5 h with rfl|rfl|rfl|rfl|rfl<;>kernel_rfl
structure KOk(ks:List (Nat→Int)):Prop where
 bd: ∀f∈ks,∀j,j<5→0≤f j∧f j≤255
abbrev dfL(C:List Int)(ks:List (Nat→Int))(fo:Int)(M:List Int):List V:=[sl8 C,kV ks,w8 fo,sl8 M]
abbrev dfV(C:List Int)(ks:List (Nat→Int))(fo:Int)(M:List Int):V:=.agg (dfL C ks fo M)
abbrev dfO(C:List Int)(ks:List (Nat→Int))(fo:Int)(M:List Int):O:=.row 25 none (dfL C ks fo M)
def Qcf(c:Int):Int:=2+c%2
theorem Qji{C:List Int}{k:Nat}(h:k<C.length)(f:Int→Int):(C.take (k+1)).map f=(C.take k).map f++[f (C.getD k 0)]:=by
 rw[List.take_succ_eq_append_getElem h,List.map_append,List.getD_eq_getElem?_getD,List.getElem?_eq_getElem h];rfl
theorem Qoc(l:List Int)(x:Int):ints (l++[x])=ints l++[i6 x]:=by simp[ints]
abbrev n2:O:=.row 32 none [.nils,.nils]
abbrev dcS(C:List Int)(ks:List (Nat→Int))(fo:Int)(M:List Int)(k:Nat):SL:={sl:=[(1,.ptr 0 0),(2,.ptr 1 0),(3,.ptr 2 0),(4,i6 k)],os:=dfO C ks fo M::n2:: .row 32 none [owV 3 k,.nils]::owL 3 (ints ((C.take k).map Qcf)) k,md:=[0,0,1]}
abbrev dcX(C:List Int)(ks:List (Nat→Int))(fo:Int)(M:List Int)(k:Nat):SL:={sl:=[(1,.ptr 0 0),(2,.ptr 1 0),(3,.ptr 2 0)],os:=dfO C ks fo M::n2:: .row 32 none [owV 3 k,.nils]::owL 3 (ints ((C.take k).map Qcf)) k,md:=[0,0,1]}
theorem dc_loop(C:List Int)(ks:List (Nat→Int))(fo:Int)(M:List Int)(hC:u8s C)(n:Nat)(hn:n=min C.length 5):
  Sat Pg none 0 (at' 19 [1,1,0,1,0]) (mkSt g0 139 (dcS C ks fo M 0)) (Qaf g0 139 [(True,.exit 0,dcX C ks fo M n)]):=by
 refine Qa2 vE_ok mixed Qab (b:=at' 19 [1,1,0,1,0,0]) (by kernel_rfl) (fun k=>k≤n) (dcS C ks fo M) (fun k=>n-k) (fun k hk=>?_) 0 (Nat.zero_le _)
 by_cases hlt:k<n
 ·have h1 : k < C.length := by omega
  have hc:=hC _ (Qn5 h1)
  have hld:=head_8 h1
  have e1:(C.getD k 0).tmod 2=C.getD k 0%2:=Int.tmod_eq_emod_of_nonneg hc.1
  have hts:=Qji h1 Qcf
  have e2:Qcf (C.getD k 0)=2+C.getD k 0%2:=rfl
  have hil:=Qdt ((C.take k).map Qcf)
  have hll:((C.take k).map Qcf).length=k:=by rw[List.length_map,List.length_take];omega
  rw[e2]at hts
  have hap:=Qoc ((C.take k).map Qcf) (2+C.getD k 0%2)
  rw[←hts]at hap
  generalize C.getD k 0=c at*
  cases k with
  |zero=>
   refine .inl ⟨1,[0,1,2,4],[yes 15,yes 18,pl 27,ld 28 (w8 c),nu 29 (c%2),nu 30 (c%2),nu 31 (2+c%2),nu 21 1],1000,hlt,by omega,?_⟩
   refine Eq.mp (by kernel_rfl:(let z0:=(↑(0:Nat):Int);let z1:=(2:Int);let z2:=ints (List.map Qcf (List.take 1 C));An [decide (z0<(↑C.length:Int))=true,decide (z0<(5:Int))=true,An [(0:Int)≤z0,z0<(↑C.length:Int)],headF (List.drop (0*1) (List.map w8 C))=some (w8 c),Int.tmod c z1=c%z1,wr .i64 (c%z1)=c%z1,wr .i64 (z1+c%z1)=z1+c%z1,wr .i64 (z0+(1:Int))=(1:Int),An [Zz,Zz,Zz,(↑(1:Nat):Int)=(1:Int),Tt],An [Sm (dfL C ks fo M),TT 4],An [Sm [V.nils,V.nils],TT 2],An [An [Zz,1=1,Tt],Tt,Tt],An [z2=[i6 (z1+c%z1)],HfL z2],Tt])=_) ?_
   (repeat'(first|(with_reducible apply And.intro)|(refine fun(_:True)=>?_)))<;>first|exact aq|skip
   all_goals first|rfl|exact hap|(rw[hap];rfl)
  |succ k=>
   refine .inl ⟨k+1+1,[0,1,2,5],[yes 15,yes 18,pl 27,ld 28 (w8 c),nu 29 (c%2),nu 30 (c%2),nu 31 (2+c%2),ap 33,nu 21 (k+1+1:Nat)],1000,hlt,by omega,?_⟩
   refine Eq.mp (by kernel_rfl:(let z0:=(↑(k+1):Int);let z1:=(2:Int);let z2:=ints (List.map Qcf (List.take (k+1+1) C));let z3:=ints (List.map Qcf (List.take (k+1) C));let z4:=(↑(k+1+1):Int);An [decide (z0<(↑C.length:Int))=true,decide (z0<(5:Int))=true,An [(0:Int)≤z0,z0<(↑C.length:Int)],headF (List.drop ((k+1)*1) (List.map w8 C))=some (w8 c),Int.tmod c z1=c%z1,wr .i64 (c%z1)=c%z1,wr .i64 (z1+c%z1)=z1+c%z1,z3.length=(k+1)*1,k+1+1≤9223372036854775807,(k+1+1)*8≤140737488355328,wr .i64 (z0+(1:Int))=z4,An [Zz,Zz,Zz,z4=z4,Tt],An [Sm (dfL C ks fo M),TT 4],An [Sm [V.nils,V.nils],TT 2],An [An [Zz,Nat.succ k+1=k+1+1,Tt],Tt,Tt],An [z2=z3++[i6 (z1+c%z1)],HfL z2],Tt])=_) ?_
   exact au
 ·have : k = n := by omega
  subst this
  by_cases h5:k<C.length
  ·cases k with
   |zero=>omega
   |succ k=>
    refine .inr ⟨.exit 0,[0,1,2,3],dcX C ks fo M (k+1),[yes 15,no 18],1000,.inl ⟨trivial,rfl,rfl⟩,?_⟩
    refine Eq.mp (by kernel_rfl:(let z0:=ints (List.map Qcf (List.take (k+1) C));An [decide ((↑(k+1):Int)<(↑C.length:Int))=true,decide ((↑(k+1):Int)<(5:Int))=false,An [Zz,Zz,Zz,Tt],An [Sm (dfL C ks fo M),TT 4],An [Sm [V.nils,V.nils],TT 2],An [An [Zz,Sm (k+1),Tt],Tt,Tt],An [z0=z0,HfL z0],Tt])=_) ?_
    exact au
  ·cases k with
   |zero=>
    refine .inr ⟨.exit 0,[0,1,2],dcX C ks fo M 0,[no 15],1000,.inl ⟨trivial,rfl,rfl⟩,?_⟩
    refine Eq.mp (by kernel_rfl:(An [decide ((↑(0:Nat):Int)<(↑C.length:Int))=false,An [Zz,Zz,Zz,Tt],An [Sm (dfL C ks fo M),TT 4],An [Sm [V.nils,V.nils],TT 2],TT 2,Tt])=_) ?_
    exact au
   |succ k=>
    refine .inr ⟨.exit 0,[0,1,2,3],dcX C ks fo M (k+1),[no 15],1000,.inl ⟨trivial,rfl,rfl⟩,?_⟩
    refine Eq.mp (by kernel_rfl:(let z0:=ints (List.map Qcf (List.take (k+1) C));An [decide ((↑(k+1):Int)<(↑C.length:Int))=false,An [Zz,Zz,Zz,Tt],An [Sm (dfL C ks fo M),TT 4],An [Sm [V.nils,V.nils],TT 2],An [An [Zz,Sm (k+1),Tt],Tt,Tt],An [z0=z0,HfL z0],Tt])=_) ?_
    exact au
def Qjc(x fo prev card:Int)(j:Nat):Int:=(if 0<j∧x%8<fo%8 then prev else x)%card
def rowD(f:Nat→Int)(fo:Int)(cards:List Int):Nat→List Int
 |0=>[]
 |j+1=>rowD f fo cards j++[Qjc (f j) fo ((rowD f fo cards j).getD (j-1) 0) (cards.getD j 0) j]
theorem Qbd(f:Nat→Int)(fo:Int)(cards:List Int): ∀j,(rowD f fo cards j).length=j
 |0=>rfl
 |j+1=>by rw[rowD,List.length_append,Qbd f fo cards j];rfl
structure CdOk(cards:List Int):Prop where
 pos:1≤cards.length
 five:cards.length≤5
 each: ∀k,k<cards.length→2≤cards.getD k 0∧cards.getD k 0≤3
theorem getD_app{l:List Int}{x:Int}{t:Nat}:(l++[x]).getD t 0=if t<l.length then l.getD t 0 else if t=l.length then x else 0:=by
 rw[List.getD_eq_getElem?_getD,List.getElem?_append]
 split
 ·rw[List.getD_eq_getElem?_getD]
 ·split
  ·rename_i h;subst h;simp
  ·rw[List.getElem?_eq_none (by simp;omega)];rfl
theorem Qmt{f:Nat→Int}{fo:Int}{cards:List Int}(hc:CdOk cards): ∀j,j≤cards.length→∀t,t<j→0≤(rowD f fo cards j).getD t 0∧(rowD f fo cards j).getD t 0<cards.getD t 0
 |0,_,t,h=>absurd h (Nat.not_lt_zero _)
 | j + 1, hj, t, h => by
  have h1:=hc.each j (by omega)
  unfold rowD
  rw[getD_app,Qbd]
  by_cases ht:t<j
  ·rw[if_pos ht];exact Qmt hc j (by omega) t ht
  ·have : t = j := by omega
   subst this
   rw[if_neg ht,if_pos rfl]
   unfold Qjc
   exact⟨Int.emod_nonneg _ (by omega),Int.emod_lt_of_pos _ (by omega)⟩
abbrev dbS(i:Nat):List (Nat×V):=[(1,.ptr 0 0),(2,.ptr 1 0),(3,.ptr 2 0),(5,i6 i)]
abbrev diS(i:Nat)(q:Nat×Nat):List (Nat×V):=[(1,.ptr 0 0),(2,.ptr 1 0),(3,.ptr 2 0),(5,i6 i),(6,owV q.2 q.1),(7,i6 q.1)]
abbrev diX(i n:Nat)(h:Nat):List (Nat×V):=[(1,.ptr 0 0),(2,.ptr 1 0),(3,.ptr 2 0),(5,i6 i),(6,.sl h 0 n none)]
structure Base(C:List Int)(ks:List (Nat→Int))(fo:Int)(M:List Int)(cards:List Int)(room:Option Nat)(sp:Option Nat)(lv:V)(H:T O)(nx:Nat):Prop where
 h0:gt H 0=some (dfO C ks fo M)
 h1:gt H 1=some n2
 h2:gt H 2=some (.row 32 none [.sl 3 0 cards.length room,lv])
 h3:gt H 3=some (.row 3 sp (ints cards))
 nx:4≤nx
theorem Base.mono{C:List Int}{ks:List (Nat→Int)}{fo:Int}{M cards:List Int}{room sp:Option Nat}{lv:V}{H H':T O}{nx nx':Nat}(h:Base C ks fo M cards room sp lv H nx)(hg: ∀g,g<nx→gt H' g=gt H g)(hn:nx≤nx'):Base C ks fo M cards room sp lv H' nx':=by
 have:=h.nx
 exact⟨by rw[hg 0 (by omega)];exact h.h0,by rw[hg 1 (by omega)];exact h.h1,by rw[hg 2 (by omega)];exact h.h2,by rw[hg 3 (by omega)];exact h.h3,by omega⟩
def rowQ(H0:T O)(nx0:Nat)(c:List Int)(h:Nat)(H:T O)(nx:Nat)(_:List Nat):Prop:=(∀g,g<nx0→gt H g=gt H0 g)∧nx0≤h∧h<nx∧gt H h=some (.row 3 (some 1) (ints c))
theorem Qlj{H:T O}{h:Nat}{t:Nat}{sp:Option Nat}{x:V}{room:Option Nat}(hg:gt H h=some (.row t sp [x])):srcV H 1 (.sl h 0 1 room)=some (1,[x]):=by
 rw[Qay]at hg
 unfold srcV
 dsimp only
 rw[hg]
 rfl
theorem di_loop(C:List Int)(ks:List (Nat→Int))(fo:Int)(M cards:List Int)(room sp:Option Nat)(lv:V)(i:Nat)(f:Nat→Int)(hf:ks[i]? =some f)(hK:KOk ks)(hfo:0≤fo∧fo≤255)(hc:CdOk cards)(H0:T O)(nx0:Nat)(lg0:List Nat)(hB:Base C ks fo M cards room sp lv H0 nx0):
  Sat Pg none 0 (at' 19 [1,1,1,1,0,1,0,0,1,0,0,1,0,1,0]) (mkSo g0 139 (diS i (0,0)) H0 nx0 lg0) (Qk8 g0 139 (.exit 4) (diX i cards.length) (rowQ H0 nx0 (rowD f fo cards cards.length))):=by
 have h5:=hc.five
 have hi:i<ks.length:=(List.getElem?_eq_some_iff.1 hf).1
 obtain⟨rest,hrest⟩:=Qkm ks i f hf
 have key:=Qkx (c:=at' 19 [1,1,1,1,0,1,0,0,1,0,0,1,0,1,0]) (b:=at' 19 [1,1,1,1,0,1,0,0,1,0,0,1,0,1,0,0]) (by kernel_rfl) (k:=139) (gl:=g0) (fun(q:Nat×Nat)(M':Mem)=>q.1≤cards.length∧nx0≤M'.nx∧(∀g,g<nx0→gt M'.H g=gt H0 g)∧(0<q.1→nx0≤q.2∧q.2<M'.nx∧gt M'.H q.2=some (.row 3 (some 1) (ints (rowD f fo cards q.1))))) (diS i) (fun q=>cards.length-q.1) (fun e sl M'=>e= .exit 4∧∃h,sl=diX i cards.length h∧rowQ H0 nx0 (rowD f fo cards cards.length) h M'.H M'.nx M'.lg) (fun q H nx lg G hI hN hE _=>?_) (0,0) ⟨H0,nx0,lg0⟩ ⟨Nat.zero_le _,Nat.le_refl _,fun _ _=>rfl,fun h=>absurd h (Nat.lt_irrefl _)⟩
 ·refine key.mono ?_
  rintro e st ⟨sl,M',rfl,rfl,h,rfl,hQ⟩
  exact⟨h,M'.H,M'.nx,M'.lg,rfl,rfl,hQ⟩
 ·obtain ⟨j, hcr⟩ := q
  obtain⟨hj,hnx,hg,hrow⟩:=hI
  dsimp only at hj hnx hg hrow hN
  have hB':=hB.mono hg hnx
  obtain⟨b0,b1,b2,b3,b4⟩:=hB'
  by_cases hlt:j<cards.length
  ·have hx := hK.bd f (List.mem_of_getElem? hf) j (by omega)
   have hcd:=hc.each j hlt
   have hp92:=@place92 ((Qcm ks).drop (i*5)) j (by omega)
   have hhd:headF (((Qcm ks).drop (i*5)).drop j)=some (w8 (f j)):=by rw[hrest];exact Qr0 f rest (by omega)
   have hldc:=@Qau cards j hlt
   have hnext:rowD f fo cards (j+1)=rowD f fo cards j++[Qjc (f j) fo ((rowD f fo cards j).getD (j-1) 0) (cards.getD j 0) j]:=rfl
   have hrl:=Qbd f fo cards j
   have hrb:=fun t ht=>@Qmt f fo cards hc j (by omega) t ht
   have hN1:=fun h' H nx lg h1 h2 h3 h4 h5=>hN (j+1,h') H nx lg ⟨by dsimp only;omega,h1,h2,fun _=>⟨h3,h4,h5⟩⟩ (by dsimp only;omega)
   dsimp only at hN1
   rw[hnext]at hN1
   clear hnext hN hE hrest
   generalize rowD f fo cards j=c at*
   generalize hfx:f j=x at*
   generalize cards.getD j 0=cd at*
   have e1:x.tmod 8=x%8:=Int.tmod_eq_emod_of_nonneg hx.1
   have e2:fo.tmod 8=fo%8:=Int.tmod_eq_emod_of_nonneg hfo.1
   cases j with
   |zero=>
    have hc0:c=[]:=List.eq_nil_of_length_eq_zero hrl
    subst hc0
    have hst:Qjc x fo (([]:List Int).getD (0-1) 0) cd 0=x%cd:=by unfold Qjc;rw[if_neg (by omega)]
    rw[hst]at hN1
    have e3:binV (Qad Pg) .rem 3 (i6 x) (i6 cd)=some (i6 (x%cd)):=by rw[rem6 (by omega),Int.tmod_eq_emod_of_nonneg hx.1]
    refine⟨[lo_ 54 (.row 32 none [.sl 3 0 cards.length room,lv]) (.sl 3 0 cards.length room),yes 56,lo_ 60 (dfO C ks fo M) (kV ks),pl 63,va 64 (.imp (((Qcm ks).drop (i*5)).drop 0)),ld 65 (w8 x),nu 66 x,lo_ 86 (.row 32 none [.sl 3 0 cards.length room,lv]) (.sl 3 0 cards.length room),pl 88,lo_ 89 (.row 3 sp (ints cards)) (i6 cd),va 90 (i6 (x%cd)),(92,.an 1 [i6 (x%cd)]),nu 58 1,toO (diS i (1,nx+1))],1000,?_⟩
    refine Eq.mp (by kernel_rfl:(let z0:=V.sl 3 0 cards.length room;let z1:=(↑(0:Nat):Int);let z2:=List.drop (i*5) (Qcm ks);let z3:=i6 (x%cd);let z7:=(↑cards.length:Int);let z4:=pt H nx (O.row 3 none [z3]);let z5:=headF (dropF (0+0) [z0,lv]);let z6:=some (O.row 32 none [z0,lv]);An [gt H 2=z6,z5=some z0,decide (z1<z7)=true,gt H 0=some (dfO C ks fo M),headF (dropF 1 (dfL C ks fo M))=some (kV ks),An [(0:Int)≤(↑i:Int),(↑i:Int)<(↑ks.length:Int)],placeV (Qad Pg) 92 (V.imp z2) z1=some (V.imp (List.drop 0 z2)),headF (List.drop 0 z2)=some (w8 x),wr .i64 x=x,gt H 2=z6,z5=some z0,An [(0:Int)≤z1,z1<z7],gt H 3=some (O.row 3 sp (ints cards)),headF (dropF (0+0*1) (ints cards))=some (i6 cd),binV (Qad Pg) .rem 3 (i6 x) (i6 cd)=some z3,An [srcV z4 1 (V.sl nx 0 1 (some 0))=some (1,[z3]),1≤9223372036854775807,1*8≤140737488355328],wr .i64 (z1+(1:Int))=(1:Int),G Ex.normal (diS i (1,nx+1)) (pt z4 (nx+1) (O.row 3 (some 1) [z3])) (nx+1+1) ([]++lg),Sm (V.ptr 0 0),Sm (V.ptr 1 0),Sm (V.ptr 2 0),Sm (i6 ↑i),V.sl (nx+1) 0 1 none=owV (nx+1) 1,i6 1=i6 ↑(1:Nat),Tt])=_) ?_
    (repeat'(first|(with_reducible apply And.intro)|(refine fun(_:True)=>?_)))<;>first|exact aq|skip
    all_goals first|rfl|(rw[Qat,Nat.zero_add];exact hldc)|exact Qlj (t:=3) (sp:=none) ((Qam _ _ _ _).trans ((if_pos rfl).trans (by kernel_rfl)))|skip
    refine hN1 (nx+1) _ _ _ ?_ (fun g hg'=>?_) ?_ ?_ ?_
    ·omega
    ·rw[Qam,if_neg (by omega),Qam,if_neg (by omega)];exact hg g hg'
    ·omega
    ·omega
    ·rw[Qam,if_pos rfl];rfl
   | succ j =>
    obtain⟨r1,r2,r3⟩:=hrow (by omega)
    have hap:=Qoc c
    have hil:=Qdt c
    have hjb:=hrb j (by omega)
    have hldp:=@Qau c j (by omega)
    have hsub:j+1-1=j:=by omega
    rw[hsub]at hN1
    by_cases hlt8:x%8<fo%8
    ·have hst : Qjc x fo (c.getD j 0) cd (j + 1) = c.getD j 0 % cd := by unfold Qjc; rw [if_pos ⟨by omega, hlt8⟩]
     rw[hst]at hN1
     generalize c.getD j 0=y at*
     have e3:binV (Qad Pg) .rem 3 (i6 y) (i6 cd)=some (i6 (y%cd)):=by rw[rem6 (by omega),Int.tmod_eq_emod_of_nonneg hjb.1]
     have hap:=hap (y%cd)
     generalize y%cd=z at*
     refine⟨[lo_ 54 (.row 32 none [.sl 3 0 cards.length room,lv]) (.sl 3 0 cards.length room),yes 56,lo_ 60 (dfO C ks fo M) (kV ks),pl 63,va 64 (.imp (((Qcm ks).drop (i*5)).drop (j+1))),ld 65 (w8 x),nu 66 x,yes 68,nu 71 (x%8),lo_ 73 (dfO C ks fo M) (w8 fo),nu 74 (fo%8),nu 75 (fo%8),yes 76,nu 80 j,pl 81,lo_ 82 (.row 3 (some 1) (ints c)) (i6 y),lo_ 86 (.row 32 none [.sl 3 0 cards.length room,lv]) (.sl 3 0 cards.length room),pl 88,lo_ 89 (.row 3 sp (ints cards)) (i6 cd),va 90 (i6 z),(92,.ao (.row 3 (some 1) (ints c)) 1 [i6 z]),nu 58 (j+1+1:Nat),toO (diS i (j+1+1,nx+1))],1000,?_⟩
     refine Eq.mp (by kernel_rfl:(let z0:=V.sl 3 0 cards.length room;let z1:=(↑(j+1):Int);let z2:=pt H nx (O.row 3 none [i6 z]);let z3:=List.drop (i*5) (Qcm ks);let z4:=(8:Int);let z5:=some (O.row 3 (some 1) (ints c));let z9:=(↑cards.length:Int);let y0:=(0:Int);let y1:=(↑j:Int);let z6:=headF (dropF (0+0) [z0,lv]);let z7:=some (O.row 32 none [z0,lv]);let z8:=List.drop (j+1) z3;An [gt H 2=z7,z6=some z0,decide (z1<z9)=true,gt H 0=some (dfO C ks fo M),headF (dropF 1 (dfL C ks fo M))=some (kV ks),An [y0≤(↑i:Int),(↑i:Int)<(↑ks.length:Int)],placeV (Qad Pg) 92 (V.imp z3) z1=some (V.imp z8),headF z8=some (w8 x),wr .i64 x=x,decide (z1>y0)=true,Int.tmod x z4=x%z4,gt H 0=some (dfO C ks fo M),headF (dropF (0+2) (dfL C ks fo M))=some (w8 fo),Int.tmod fo z4=fo%z4,wr .i64 (fo%z4)=fo%z4,decide (x%z4<fo%z4)=true,wr .i64 (z1-(1:Int))=y1,An [y0≤y1,y1<z1],gt H hcr=z5,headF (dropF (0+j*1) (ints c))=some (i6 y),gt H 2=z7,z6=some z0,An [y0≤z1,z1<z9],gt H 3=some (O.row 3 sp (ints cards)),headF (dropF (0+(j+1)*1) (ints cards))=some (i6 cd),binV (Qad Pg) .rem 3 (i6 y) (i6 cd)=some (i6 z),srcV z2 1 (V.sl nx 0 1 (some 0))=some (1,[i6 z]),gt z2 hcr=z5,List.length (ints c)=(j+1)*1,j+1+1≤9223372036854775807,(j+1+1)*8≤140737488355328,wr .i64 (z1+(1:Int))=(↑(j+1+1):Int),G Ex.normal (diS i (j+1+1,nx+1)) (pt (pt z2 hcr O.dead) (nx+1) (O.row 3 (some 1) (ints c++[i6 z]))) (nx+1+1) ([hcr]++lg),Sm (V.ptr 0 0),Sm (V.ptr 1 0),Sm (V.ptr 2 0),Sm (i6 ↑i),V.sl (nx+1) 0 (j+1+1) none=owV (nx+1) (j+1+1),Sm (i6 ↑(j+1+1)),Tt])=_) ?_
     (repeat'(first|(with_reducible apply And.intro)|(refine fun(_:True)=>?_)))<;>first|exact aq|skip
     all_goals first|rfl|omega|(rw[Qat,Nat.zero_add];first|exact hldc|exact hldp)|exact Qlj (t:=3) (sp:=none) ((Qam _ _ _ _).trans ((if_pos rfl).trans (by kernel_rfl)))|((repeat(first|(rw[Qam,if_pos (by first|rfl|omega)])|(rw[Qam,if_neg (by omega)])))<;>first|assumption|rfl)|skip
     refine hN1 (nx+1) _ _ _ ?_ (fun g hg'=>?_) ?_ ?_ ?_
     ·omega
     ·rw[Qam,if_neg (by omega),Qam,if_neg (by omega),Qam,if_neg (by omega)];exact hg g hg'
     ·omega
     ·omega
     ·rw[Qam,if_pos rfl,hap]
    ·have hst : Qjc x fo (c.getD j 0) cd (j + 1) = x % cd := by unfold Qjc; rw [if_neg (fun h => hlt8 h.2)]
     rw[hst]at hN1
     have e3:binV (Qad Pg) .rem 3 (i6 x) (i6 cd)=some (i6 (x%cd)):=by rw[rem6 (by omega),Int.tmod_eq_emod_of_nonneg hx.1]
     have hap:=hap (x%cd)
     generalize hz:x%cd=z at*
     refine⟨[lo_ 54 (.row 32 none [.sl 3 0 cards.length room,lv]) (.sl 3 0 cards.length room),yes 56,lo_ 60 (dfO C ks fo M) (kV ks),pl 63,va 64 (.imp (((Qcm ks).drop (i*5)).drop (j+1))),ld 65 (w8 x),nu 66 x,yes 68,nu 71 (x%8),lo_ 73 (dfO C ks fo M) (w8 fo),nu 74 (fo%8),nu 75 (fo%8),no 76,lo_ 86 (.row 32 none [.sl 3 0 cards.length room,lv]) (.sl 3 0 cards.length room),pl 88,lo_ 89 (.row 3 sp (ints cards)) (i6 cd),va 90 (i6 z),(92,.ao (.row 3 (some 1) (ints c)) 1 [i6 z]),nu 58 (j+1+1:Nat),toO (diS i (j+1+1,nx+1))],1000,?_⟩
     refine Eq.mp (by kernel_rfl:(let z0:=V.sl 3 0 cards.length room;let z1:=(↑(j+1):Int);let z2:=pt H nx (O.row 3 none [i6 z]);let z3:=List.drop (i*5) (Qcm ks);let z4:=(8:Int);let z8:=(↑cards.length:Int);let z5:=headF (dropF (0+0) [z0,lv]);let z6:=some (O.row 32 none [z0,lv]);let z7:=List.drop (j+1) z3;An [gt H 2=z6,z5=some z0,decide (z1<z8)=true,gt H 0=some (dfO C ks fo M),headF (dropF 1 (dfL C ks fo M))=some (kV ks),An [(0:Int)≤(↑i:Int),(↑i:Int)<(↑ks.length:Int)],placeV (Qad Pg) 92 (V.imp z3) z1=some (V.imp z7),headF z7=some (w8 x),wr .i64 x=x,decide (z1>(0:Int))=true,Int.tmod x z4=x%z4,gt H 0=some (dfO C ks fo M),headF (dropF (0+2) (dfL C ks fo M))=some (w8 fo),Int.tmod fo z4=fo%z4,wr .i64 (fo%z4)=fo%z4,decide (x%z4<fo%z4)=false,gt H 2=z6,z5=some z0,An [(0:Int)≤z1,z1<z8],gt H 3=some (O.row 3 sp (ints cards)),headF (dropF (0+(j+1)*1) (ints cards))=some (i6 cd),binV (Qad Pg) .rem 3 (i6 x) (i6 cd)=some (i6 z),srcV z2 1 (V.sl nx 0 1 (some 0))=some (1,[i6 z]),gt z2 hcr=some (O.row 3 (some 1) (ints c)),List.length (ints c)=(j+1)*1,j+1+1≤9223372036854775807,(j+1+1)*8≤140737488355328,wr .i64 (z1+(1:Int))=(↑(j+1+1):Int),G Ex.normal (diS i (j+1+1,nx+1)) (pt (pt z2 hcr O.dead) (nx+1) (O.row 3 (some 1) (ints c++[i6 z]))) (nx+1+1) ([hcr]++lg),Sm (V.ptr 0 0),Sm (V.ptr 1 0),Sm (V.ptr 2 0),Sm (i6 ↑i),V.sl (nx+1) 0 (j+1+1) none=owV (nx+1) (j+1+1),Sm (i6 ↑(j+1+1)),Tt])=_) ?_
     (repeat'(first|(with_reducible apply And.intro)|(refine fun(_:True)=>?_)))<;>first|exact aq|skip
     all_goals first|rfl|omega|(rw[Qat,Nat.zero_add];first|exact hldc|exact hldp)|exact Qlj (t:=3) (sp:=none) ((Qam _ _ _ _).trans ((if_pos rfl).trans (by kernel_rfl)))|((repeat(first|(rw[Qam,if_pos (by first|rfl|omega)])|(rw[Qam,if_neg (by omega)])))<;>first|assumption|rfl)|skip
     refine hN1 (nx+1) _ _ _ ?_ (fun g hg'=>?_) ?_ ?_ ?_
     ·omega
     ·rw[Qam,if_neg (by omega),Qam,if_neg (by omega),Qam,if_neg (by omega)];exact hg g hg'
     ·omega
     ·omega
     ·rw[Qam,if_pos rfl,hap]
  ·have : j = cards.length := by omega
   subst this
   obtain⟨r1,r2,r3⟩:=hrow hc.pos
   have hX:=hE 4 (diX i cards.length hcr) H nx lg ⟨rfl,hcr,rfl,hg,r1,r2,r3⟩
   have hpos:=hc.pos
   generalize rowD f fo cards cards.length=c at*
   cases hn:cards.length with
   |zero=>omega
   |succ n=>
    rw[hn]at hX b2
    refine⟨[lo_ 54 (.row 32 none [.sl 3 0 (n+1) room,lv]) (.sl 3 0 (n+1) room),no 56,toO (diX i (n+1) hcr)],1000,?_⟩
    clear hn
    refine Eq.mp (by kernel_rfl:(let z0:=V.sl 3 0 (n+1) room;An [gt H 2=some (O.row 32 none [z0,lv]),headF (dropF (0+0) [z0,lv])=some z0,decide ((↑(n+1):Int)<(↑(n+1):Int))=false,G (Ex.exit 4) (diX i (n+1) hcr) H nx lg,Sm (V.ptr 0 0),Sm (V.ptr 1 0),Sm (V.ptr 2 0),Sm (i6 ↑i),owV hcr (n+1)=V.sl hcr 0 (n+1) none,Tt])=_) ?_
    exact au
end Go.Proofs.YtglpoiaedkoecaaDoor.Am
