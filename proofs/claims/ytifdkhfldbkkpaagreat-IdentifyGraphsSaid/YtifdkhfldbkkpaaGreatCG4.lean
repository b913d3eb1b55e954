/- Texts behind the claim, part 4: the abstract machine, and what the functions answer. No condition. -/
import Derived.Test.YtifdkhfldbkkpaaGreatCG3
set_option linter.unusedVariables false
set_option maxHeartbeats 4000000
set_option maxRecDepth 100000
set_option linter.unusedSimpArgs false
set_option linter.unusedSectionVars false
namespace Go.Proofs.YtifdkhfldbkkpaaGreat.Am
open Go.RowKit
theorem plain:Qfd Tryz.prog=true:=by kernel_rfl
theorem Qaf:Tryz.prog.follows .mixedOrders=true:=by kernel_rfl
def add64V:List V→Option V
 |[.int .u64 x,.int .u64 y,.int .u64 c]=>if 0≤x∧0≤y∧0≤c∧c≤1 then some (.tup [.int .u64 ((x+y+c)%18446744073709551616),.int .u64 ((x+y+c)/18446744073709551616)])else none
 | _=>none
def extF(f:Nat)(l:List V):Option V:=bif Nat.beq f 133 then add64V l else none
theorem Qmp:Qor Tryz.prog extF:=by
 intro f l v h s w vals hl
 unfold extF at h
 obtain⟨hf,k⟩:=Qam h
 clear h
 have:=Nat.eq_of_beq_eq_true hf
 subst this
 unfold add64V at k
 split at k
 ·rename_i x y c
  split at k
  ·rename_i hc
   cases k
   obtain⟨v1,r1,e1,h1,v2,r2,rfl,h2,v3,r3,rfl,h3,h4⟩:=hl
   cases h1;cases h2;cases h3;cases h4
   have hv:vals= #[.int .u64 x,.int .u64 y,.int .u64 c]:=by rw[←Array.toArray_toList (xs:=vals),e1]
   subst hv
   refine⟨.tuple #[.int .u64 ((x+y+c)%18446744073709551616),.int .u64 ((x+y+c)/18446744073709551616)],?_,⟨_,rfl,_,_,rfl,rfl,_,_,rfl,rfl,rfl⟩⟩
   rw[run_callFunc_extern (e:=add64Entry) Tryz.func133 (by kernel_rfl) (by kernel_rfl) (by kernel_rfl) (by kernel_rfl),run_add64 x y c hc.1 hc.2.1 hc.2.2.1 hc.2.2.2]
   rfl
  ·cases k
 ·cases k
noncomputable def vE:Env:=Qp4 Tryz.prog Qjz extF
theorem vE_ok:vE.Ok Tryz.prog:=Qmn plain Qes Qmp
noncomputable abbrev Pg:Program:=Tryz.prog
abbrev g0:T (List V):=.e
def sub:List Nat→Code→Code
 |[],c=>c
 |0::p,.seq a _=>sub p a
 | _::p,.seq _ b=>sub p b
 |0::p,.cond _ a _=>sub p a
 | _::p,.cond _ _ b=>sub p b
 | _::p,.block _ b=>sub p b
 | _::p,.loop b=>sub p b
 | _::p,.scope b=>sub p b
 | _:: _,c=>c
noncomputable def bodyOf(f:Nat):Code:=match codeOf Tryz.prog f with|some fi=>fi.body|none=>.skip
noncomputable def at'(f:Nat)(p:List Nat):Code:=sub p (bodyOf f)
abbrev i6(n:Int):V:=.int .i64 n
def ints(l:List Int):List V:=l.map (V.int .i64)
abbrev sl(l:List Int):V:=.im l.length (ints l)
theorem Qal(l:List Int):(ints l).length=l.length:=by simp[ints]
theorem Qqo(l:List Int)(k:Nat):(ints l).drop k=ints (l.drop k):=by simp[ints]
theorem Qqk{l:List Int}{k:Nat}(h:k<l.length):headF ((ints l).drop k)=some (i6 l[k]):=by
 rw[Qqo,List.drop_eq_getElem_cons h];rfl
theorem Qad(l:List Int):HfL (ints l):=by
 induction l with
 |nil=>trivial
 |cons x l ih=>exact⟨trivial,ih⟩
abbrev yes(d:Nat):Nat×Hint:=(d,.bool true)
abbrev no(d:Nat):Nat×Hint:=(d,.bool false)
abbrev pl(d:Nat):Nat×Hint:=(d,.at_)
abbrev ld(d:Nat)(v:V):Nat×Hint:=(d,.ld v)
abbrev nu(d:Nat)(n:Int):Nat×Hint:=(d,.num n)
abbrev va(d:Nat)(v:V):Nat×Hint:=(d,.val v)
abbrev ap(d:Nat):Nat×Hint:=(d,.app)
abbrev mk(d:Nat):Nat×Hint:=(d,.mk)
abbrev st(c:List V):Nat×Hint:=(999999,.st c)
abbrev fn(d:Nat)(v:V):Nat×Hint:=(d,.fn v)
noncomputable def sp0:Qb3:=fun _ _=>none
theorem Qab{gl:T (List V)}:Qbf Tryz.prog gl sp0:=fun _ _ _ _ h=>by cases h
theorem wr6{n:Int}(h1: -9223372036854775808≤n)(h2:n≤9223372036854775807):wr .i64 n=n:=Qg9 h1 h2
theorem wr6'{n m:Int}(h1: -9223372036854775808≤n)(h2:n≤9223372036854775807)(h:n=m):wr .i64 n=m:=by rw[wr6 h1 h2,h]
theorem Qht{l:List Int}{k:Nat}(h:k<l.length):headF ((ints l).drop (k*1))=some (i6 l[k]):=by rw[Nat.mul_one];exact Qqk h
theorem Qao{l:List Int}{k:Nat}(h:k<l.length):headF ((ints l).drop (k*1))=some (i6 (l.getD k 0)):=by
 rw[Qht h,List.getD_eq_getElem?_getD,List.getElem?_eq_getElem h];rfl
theorem rem6{G:Ctx}{t:Nat}{x y:Int}(h:y≠0):binV G .rem t (i6 x) (i6 y)=some (i6 (x.tmod y)):=by simp[binV,intV,h]
theorem rep_ints(n:Nat)(x:Int):rep n [i6 x]=ints (List.replicate n x):=by
 induction n with
 |zero=>rfl
 |succ n ih=>rw[rep,ih,List.replicate_succ];rfl
theorem Qfp{l:List Int}{j:Nat}{x:Int}(h:j<l.length):layE (0+j*1) (ints l) [i6 x]=some (ints (l.set j x)):=by
 rw[Nat.zero_add,Nat.mul_one,Qem,Qal]
 have:Nat.ble (j+[i6 x].length) l.length=true:=Nat.ble_eq_true_of_le (by simp;omega)
 rw[this,cond_true]
 congr 1
 rw[List.set_eq_take_append_cons_drop,if_pos h]
 simp[ints,List.map_take,List.map_drop]
theorem Qf5{x y:Int}(h:x=y):(x != y)=false:=by simp[h]
theorem Qfn{x y:Int}(h:x≠y):(x != y)=true:=by simp[h]
theorem Qdi{x y:Int}(h:x≠y):(x==y)=false:=by simp[h]
theorem Qas{x y:Int}(h:x=y):(x==y)=true:=by simp[h]
theorem aq{P:Prop}(h:P:=by
 first|exact TT_ok _|exact EQn_ok _ _ _|with_reducible(first|rfl|exact trivial|assumption|(refine decide_eq_true ?_<;>omega)|(refine decide_eq_false ?_<;>omega)|(refine Qht ?_<;>omega)|(refine Qf5 ?_<;>omega)|(refine Qfn ?_<;>omega)|(refine Qdi ?_<;>omega)|(refine Qas ?_<;>omega)|(refine wr6' ?_ ?_ ?_<;>omega)|(refine rem6 ?_<;>omega)|(refine quo6 ?_ ?_ ?_<;>omega)|exact Qad _|omega)|((with_reducible show(_:V)=_);rfl)|(intro hk_;exfalso;revert hk_;simp;done)|(intros;simp_all;done)|(split<;>omega)|((with_reducible show decide _=true);exact decide_eq_true (by omega))|((with_reducible show decide _=false);exact decide_eq_false (by omega))):P:=h
theorem a_ {P:Prop} (h:P:=by
 (repeat'(first|(with_reducible apply And.intro)|(refine fun(_:True)=>?_)))
 all_goals first|with_reducible rfl|with_reducible assumption|exact aq|solve_by_elim|rfl):P:=h
theorem m_ {p q:Prop} (h:p) (e:p=q:=by kernel_rfl):q:=e.mp h
theorem Qej{α:Type}{f:α→V}: ∀{l:List α}{k:Nat}{x:α},l[k]? =some x→headF ((l.map f).drop (k*1))=some (f x):=by
 intro l k x h
 obtain⟨hlt,rfl⟩:=List.getElem?_eq_some_iff.1 h
 rw[Nat.mul_one,←List.map_drop,List.drop_eq_getElem_cons hlt];rfl
theorem Qe1{α:Type}(f:α→V): ∀(l:List α),(∀x,Hf (f x))→HfL (l.map f)
 |[],_=>trivial
 |x::l,h=>⟨h x,Qe1 f l h⟩
abbrev u6(n:Int):V:=.int .u64 n
theorem Qc5{G:Ctx}{t:Nat}{x k:Nat}(hk:k≤64):binV G .shr t (u6 (x:Int)) (i6 (k:Int))=some (u6 ((x/2^k:Nat):Int)):=by
 have h1:((k:Int)<0)=False:=by simp
 have h2:min k 64=k:=by omega
 simp only[binV,intV,h1,if_false,Int.toNat_natCast,IntKind.bits,h2]
 rw[Int.fdiv_eq_ediv_of_nonneg _ (Int.natCast_nonneg _)]
 rfl
theorem Qc6{G:Ctx}{t:Nat}{x:Nat}:binV G .and t (u6 (x:Int)) (u6 1)=some (u6 ((x%2:Nat):Int)):=by
 have h:(BitVec.ofInt 64 (x:Int)&&& BitVec.ofInt 64 1).toNat=x%2:=by
  rw[BitVec.toNat_and]
  have h1:(BitVec.ofInt 64 1).toNat=1:=by decide
  rw[h1,Nat.and_one_is_mod]
  have h2:(BitVec.ofInt 64 (x:Int)).toNat=x%2^64:=by
   rw[BitVec.toNat_ofInt];omega
  rw[h2];omega
 have hw:IntKind.u64.wrap ((x%2:Nat):Int)=((x%2:Nat):Int):=by
  rw[←wr_eq];exact Qg9 (by simp[lo];omega) (by simp[hi];omega)
 have e:binV G .and t (u6 (x:Int)) (u6 1)=some (.int .u64 (IntKind.u64.wrap ((BitVec.ofInt 64 (x:Int)&&& BitVec.ofInt 64 1).toNat:Int))):=rfl
 rw[e,h,hw]
theorem Qco(x:Nat):BitVec.ofInt 64 (x:Int)=BitVec.ofNat 64 x:=by
 apply BitVec.eq_of_toNat_eq
 rw[BitVec.toNat_ofInt,BitVec.toNat_ofNat];omega
theorem Qez{z:Nat}(h:z<18446744073709551616):IntKind.u64.wrap ((z:Nat):Int)=(z:Int):=by
 rw[←wr_eq];exact Qg9 (by simp[lo]) (by simp[hi];omega)
theorem or_u{G:Ctx}{t:Nat}{x y:Nat}(hx:x<18446744073709551616)(hy:y<18446744073709551616):binV G .or t (u6 (x:Int)) (u6 (y:Int))=some (u6 ((x|||y:Nat):Int))∧x|||y<18446744073709551616:=by
 have hz:x|||y<2^64:=Nat.or_lt_two_pow hx hy
 refine⟨?_,hz⟩
 have e:binV G .or t (u6 (x:Int)) (u6 (y:Int))=some (.int .u64 (IntKind.u64.wrap ((BitVec.ofInt 64 (x:Int)|||BitVec.ofInt 64 (y:Int)).toNat:Int))):=rfl
 have h:(BitVec.ofInt 64 (x:Int)|||BitVec.ofInt 64 (y:Int)).toNat=x|||y:=by
  rw[Qco,Qco,BitVec.toNat_or,BitVec.toNat_ofNat,BitVec.toNat_ofNat,Nat.mod_eq_of_lt hx,Nat.mod_eq_of_lt hy]
 rw[e,h,Qez hz]
def mi(x y:Nat):Nat:=x&&& (2^64-(y+1))
theorem Qep{x y:Nat}(hx:x<18446744073709551616)(hy:y<18446744073709551616)(b:Nat):(mi x y).testBit b=(x.testBit b&& !y.testBit b):=by
 unfold mi
 rw[Nat.testBit_and,Nat.testBit_two_pow_sub_succ hy]
 by_cases hb:b<64
 ·simp[hb]
 ·have : x.testBit b = false := Nat.testBit_lt_two_pow (Nat.lt_of_lt_of_le (show x < 2 ^ 64 from hx) (Nat.pow_le_pow_right (show 0 < 2 by omega) (show 64 ≤ b by omega)))
  simp[this]
theorem mi_lt{x y:Nat}:mi x y<18446744073709551616:=Nat.and_lt_two_pow (n:=64) _ (by omega)
theorem mi_u{G:Ctx}{t:Nat}{x y:Nat}(hx:x<18446744073709551616)(hy:y<18446744073709551616):binV G .andNot t (u6 (x:Int)) (u6 (y:Int))=some (u6 ((mi x y:Nat):Int)):=by
 have h:(BitVec.ofInt 64 (x:Int)&&& ~~~BitVec.ofInt 64 (y:Int)).toNat=mi x y:=by
  rw[Qco,Qco,BitVec.toNat_and,BitVec.toNat_not,BitVec.toNat_ofNat,BitVec.toNat_ofNat,Nat.mod_eq_of_lt hx,Nat.mod_eq_of_lt hy]
  unfold mi
  congr 1;omega
 have e:binV G .andNot t (u6 (x:Int)) (u6 (y:Int))=some (.int .u64 (IntKind.u64.wrap ((BitVec.ofInt 64 (x:Int)&&& ~~~BitVec.ofInt 64 (y:Int)).toNat:Int))):=rfl
 rw[e,h,Qez mi_lt]
theorem Qje{G:Ctx}{t:Nat}{x y:Nat}(hx:x<18446744073709551616)(hy:y<18446744073709551616):binV G .and t (u6 (x:Int)) (u6 (y:Int))=some (u6 ((x&&& y:Nat):Int)):=by
 have hz:x&&& y<2^64:=Nat.and_lt_two_pow _ hy
 have e:binV G .and t (u6 (x:Int)) (u6 (y:Int))=some (.int .u64 (IntKind.u64.wrap ((BitVec.ofInt 64 (x:Int)&&& BitVec.ofInt 64 (y:Int)).toNat:Int))):=rfl
 have h:(BitVec.ofInt 64 (x:Int)&&& BitVec.ofInt 64 (y:Int)).toNat=x&&& y:=by
  rw[Qco,Qco,BitVec.toNat_and,BitVec.toNat_ofNat,BitVec.toNat_ofNat,Nat.mod_eq_of_lt hx,Nat.mod_eq_of_lt hy]
 rw[e,h,Qez hz]
theorem Qew{G:Ctx}{t:Nat}{k:Nat}(hk:k<64):binV G .shl t (u6 1) (i6 (k:Int))=some (u6 ((2^k:Nat):Int))∧2^k<18446744073709551616:=by
 have hp:2^k<2^64:=Nat.pow_lt_pow_right (by omega) hk
 refine⟨?_,hp⟩
 have e:binV G .shl t (u6 1) (i6 (k:Int))=if(k:Int)<0 then none else some (.int .u64 (wr .u64 (1*((2^min ((k:Int).toNat) 64:Nat):Int)))):=rfl
 rw[e,if_neg (by omega),Int.toNat_natCast,show min k 64=k by omega,Int.one_mul,wr_eq,Qez hp]
theorem Qo8(x k:Nat):x.testBit k=decide (x/2^k%2=1):=Nat.testBit_eq_decide_div_mod_eq
def ut(l:List Nat):List V:=l.map fun(x:Nat)=>u6 (x:Int)
abbrev ul(l:List Nat):V:=.im l.length (ut l)
theorem Qa0{l:List Nat}{k:Nat}(h:k<l.length):headF ((ut l).drop (k*1))=some (u6 ((l.getD k 0:Nat):Int)):=by
 unfold ut
 rw[List.getD_eq_getElem?_getD,List.getElem?_eq_getElem h]
 exact Qej (List.getElem?_eq_getElem h)
theorem Qag(l:List Nat):HfL (ut l):=Qe1 _ l (fun _=>trivial)
def S64(l:List Nat):Prop:=∀x∈l,x<18446744073709551616
theorem S64.get{l:List Nat}(h:S64 l)(k:Nat):l.getD k 0<18446744073709551616:=by
 rw[List.getD_eq_getElem?_getD]
 cases hx:l[k]? with
 |none=>decide
 |some x=>exact h x (List.mem_of_getElem? hx)
def nxF(s w:Nat)(l:List Nat):Nat→Nat
 |0=>s
 |k+1=>if s.testBit k then nxF s w l k|||(l.getD k 0&&& w)else nxF s w l k
theorem Qfj{s w:Nat}{l:List Nat}(hs:s<18446744073709551616)(hw:w<18446744073709551616): ∀k,nxF s w l k<18446744073709551616
 |0=>hs
 |k+1=>by
  unfold nxF
  split
  ·exact Nat.or_lt_two_pow (n:=64) (Qfj hs hw k) (Nat.and_lt_two_pow (n:=64) _ hw)
  ·exact Qfj hs hw k
theorem Qbx(s k:Nat):s/2^k%2=if s.testBit k then 1 else 0:=by
 rw[Qo8]
 by_cases h:s/2^k%2=1
 ·simp[h]
 ·simp[h];omega
abbrev ciS(s w:Nat)(l:List Nat)(k:Nat):SL:={sl:=[(0,u6 s),(1,u6 w),(2,ul l),(6,u6 (0:Nat)),(7,u6 (nxF s w l k:Nat)),(11,ul l),(12,i6 (l.length:Nat)),(13,i6 (k:Nat))]}
theorem Qpq(s w:Nat)(l:List Nat)(hs:s<18446744073709551616)(hw:w<18446744073709551616)(hl:l.length≤64)(h64:S64 l):
  Sat Pg none 0 (at' 109 [1,0,0,0,1,0,1,0]) (mkSt g0 34 (ciS s w l 0)) (Qae g0 34 [(True,.exit 2,ciS s w l l.length)]):=by
 have hu:=Qag l
 refine Qaw vE_ok Qaf Qab (b:=at' 109 [1,0,0,0,1,0,1,0,0]) (by kernel_rfl) (fun k=>k≤l.length) (ciS s w l) (fun k=>l.length-k) (fun k hk=>?_) 0 (Nat.zero_le _)
 by_cases hlt:k<l.length
 ·have hld := Qa0 hlt
  have h1:=Qc5 (G:=Qac Pg) (t:=29) (x:=s) (k:=k) (by omega)
  have h2:=Qc6 (G:=Qac Pg) (t:=29) (x:=s/2^k)
  have h3:=Qje (G:=Qac Pg) (t:=29) (h64.get k) hw
  have h4:=or_u (G:=Qac Pg) (t:=29) (Qfj (l:=l) hs hw k) (Nat.and_lt_two_pow (n:=64) (l.getD k 0) hw)
  cases hb:s.testBit k with
  |true=>
   have hbe:s/2^k%2=1:=by rw[Qbx,hb];rfl
   have e1:nxF s w l (k+1)=nxF s w l k|||(l.getD k 0&&& w):=by rw[nxF,hb];rfl
   refine .inl ⟨k+1,[],[yes 14,pl 16,ld 17 (u6 (l.getD k 0:Nat)),va 20 (u6 (s/2^k:Nat)),va 21 (u6 (s/2^k%2:Nat)),yes 22,va 26 (u6 (l.getD k 0&&& w:Nat)),va 27 (u6 (nxF s w l (k+1):Nat)),nu 28 ((k+1:Nat):Int)],1000,hlt,by omega,?_⟩
   exact m_ (p:=let z6:=An [Sm l.length,Sm (ut l)];let z0:=(↑(nxF s w l (k+1)):Int);let z1:=(↑l.length:Int);let z4:=(↑(k+1):Int);let z5:=(↑k:Int);An [decide (z5<z1)=true,An [(0:Int)≤z5,z5<z1],_,_,_,((↑(s/2^k%2):Int)==(1:Int))=true,_,binV (Qac Tryz.prog) BinOp.or 29 (u6 ↑(nxF s w l k)) (u6 ↑((List.getD l k 0)&&& w))=some (u6 z0),wr .i64 (z5+(1:Int))=z4,An [Sm (↑s:Int),Sm (↑w:Int),z6,Sm (↑(0:Nat):Int),z0=z0,z6,z1=z1,z4=z4,Tt],Tt]) ⟨aq,a_,hld,h1,h2,aq,h3,a_⟩
  |false=>
   have hbe:s/2^k%2=0:=by rw[Qbx,hb];rfl
   have e1:nxF s w l (k+1)=nxF s w l k:=by rw[nxF,hb];rfl
   refine .inl ⟨k+1,[],[yes 14,pl 16,ld 17 (u6 (l.getD k 0:Nat)),va 20 (u6 (s/2^k:Nat)),va 21 (u6 (s/2^k%2:Nat)),no 22,nu 28 ((k+1:Nat):Int)],1000,hlt,by omega,?_⟩
   refine Eq.mp (by kernel_rfl:(let z3:=An [Sm l.length,Sm (ut l)];let z0:=(↑l.length:Int);let z1:=(↑(k+1):Int);let z2:=(↑k:Int);An [decide (z2<z0)=true,An [(0:Int)≤z2,z2<z0],headF (List.drop (k*1) (ut l))=some (u6 ↑(List.getD l k 0)),binV (Qac Tryz.prog) BinOp.shr 29 (u6 ↑s) (i6 ↑k)=some (u6 ↑(s/2^k)),binV (Qac Tryz.prog) BinOp.and 29 (u6 ↑(s/2^k)) (u6 1)=some (u6 ↑(s/2^k%2)),((↑(s/2^k%2):Int)==(1:Int))=false,wr .i64 (z2+(1:Int))=z1,An [Sm (↑s:Int),Sm (↑w:Int),z3,Sm (↑(0:Nat):Int),(↑(nxF s w l (k+1)):Int)=(↑(nxF s w l k):Int),z3,z0=z0,z1=z1,Tt],Tt])=_) ?_
   (repeat'(first|(with_reducible apply And.intro)|(refine fun(_:True)=>?_)))<;>first|exact aq|skip
   all_goals rw[e1]
 ·have : k = l.length := by omega
  subst this
  refine .inr ⟨.exit 2,[],ciS s w l l.length,[no 14],1000,.inl ⟨trivial,rfl,rfl⟩,?_⟩
  refine Eq.mp (by kernel_rfl:(let z2:=An [Sm l.length,Sm (ut l)];let z0:=(↑l.length:Int);let z1:=(↑(nxF s w l l.length):Int);An [decide (z0<z0)=false,An [Sm (↑s:Int),Sm (↑w:Int),z2,Sm (↑(0:Nat):Int),z1=z1,z2,z0=z0,z0=z0,Tt],Tt])=_) ?_
  (repeat'(first|(with_reducible apply And.intro)|(refine fun(_:True)=>?_)))<;>first|exact aq|skip
  all_goals skip
def clF(w:Nat)(l:List Nat):Nat→Nat→Nat
 |0,s=>s
 |f+1,s=>if nxF s w l l.length=s then s else clF w l f (nxF s w l l.length)
theorem Qhu(s w:Nat)(l:List Nat): ∀k,s≤nxF s w l k
 |0=>Nat.le_refl _
 |k+1=>by
  unfold nxF
  split
  ·exact Nat.le_trans (Qhu s w l k) Nat.left_le_or
  ·exact Qhu s w l k
def clo(s w:Nat)(l:List Nat):Nat:=clF w l (18446744073709551616-s) s
theorem clo_step{s w:Nat}{l:List Nat}(hs:s<18446744073709551616)(hw:w<18446744073709551616)(h:nxF s w l l.length≠s):clo s w l=clo (nxF s w l l.length) w l:=by
 have h1:=Qhu s w l l.length
 have h2:=Qfj (l:=l) hs hw l.length
 -- more steps than needed change nothing
 have more: ∀(f g s:Nat),s<18446744073709551616→18446744073709551616-s≤f→f≤g→clF w l f s=clF w l g s:=by
  intro f
  induction f with
  |zero=>intro g s hs hf hg;omega
  | succ f ih =>
   intro g s hs hf hg
   cases g with
   |zero=>omega
   | succ g =>
    unfold clF
    split
    ·rfl
    ·rename_i hne
     have:=Qhu s w l l.length
     exact ih g _ (Qfj hs hw _) (by omega) (by omega)
 unfold clo
 rw[show 18446744073709551616-s=(18446744073709551616-s-1)+1 by omega,clF,if_neg h]
 exact(more _ _ _ h2 (Nat.le_refl _) (by omega)).symm
theorem clo_end{s w:Nat}{l:List Nat}(hs:s<18446744073709551616)(h:nxF s w l l.length=s):clo s w l=s:=by
 unfold clo
 rw[show 18446744073709551616-s=(18446744073709551616-s-1)+1 by omega,clF,if_pos h]
theorem Qpo{s w:Nat}{l:List Nat}(hs:s<18446744073709551616)(hw:w<18446744073709551616):clo s w l<18446744073709551616:=by
 have key: ∀f s,s<18446744073709551616→clF w l f s<18446744073709551616:=by
  intro f
  induction f with
  |zero=>intro s hs;exact hs
  |succ f ih=>grind[clF,Qfj]
 exact key _ _ hs
abbrev coS(s w:Nat)(l:List Nat):SL:={sl:=[(0,u6 s),(1,u6 w),(2,ul l),(6,u6 (0:Nat))]}
abbrev coX(v:Nat):SL:={sl:=[(6,u6 (v:Nat))]}
theorem Qnv(s w:Nat)(l:List Nat)(hs:s<18446744073709551616)(hw:w<18446744073709551616)(hl:l.length≤64)(h64:S64 l):
  Sat Pg none 0 (at' 109 [1,0]) (mkSt g0 34 (coS s w l)) (Qae g0 34 [(True,.ret,coX (clo s w l))]):=by
 have hu:=Qag l
 refine Qaw vE_ok Qaf Qab (b:=at' 109 [1,0,0]) (by kernel_rfl) (fun x=>x<18446744073709551616∧clo x w l=clo s w l) (fun x=>coS x w l) (fun x=>18446744073709551616-x) (fun x hx=>?_) s ⟨hs,rfl⟩
 obtain⟨h1,h2⟩:=hx
 have hin:=Qpq x w l h1 hw hl h64
 by_cases he:nxF x w l l.length=x
 ·have hv := (clo_end h1 he).symm.trans h2
  refine .inr ⟨.ret,[],coX (clo s w l),[(0,.loop [] (ciS x w l 0) [(True,.exit 2,ciS x w l l.length)]),yes 31],1000,.inl ⟨trivial,rfl,rfl⟩,?_⟩
  exact m_ (p:=let z2:=An [Sm l.length,Sm (ut l)];let z0:=(↑x:Int);let z1:=(↑(0:Nat):Int);An [An [An [z0=z0,Sm (↑w:Int),z2,z1=z1,(↑(nxF x w l 0):Int)=z0,z2,Sm (↑l.length:Int),z1=(0:Int),Tt],Tt],_,(True->An [((↑(nxF x w l l.length):Int)==z0)=true,An [(↑(clo s w l):Int)=z0,Tt],Tt]),Tt]) ⟨⟨⟨aq,aq,aq,aq,rfl,a_⟩,aq⟩,hin,a_⟩
 ·have hlt : x < nxF x w l l.length := Nat.lt_of_le_of_ne (Qhu x w l l.length) (Ne.symm he)
  have hb:=Qfj (l:=l) h1 hw l.length
  refine .inl ⟨nxF x w l l.length,[],[(0,.loop [] (ciS x w l 0) [(True,.exit 2,ciS x w l l.length)]),no 31],1000,⟨hb,(clo_step h1 hw he).symm.trans h2⟩,by omega,?_⟩
  exact m_ (p:=let z4:=An [Sm l.length,Sm (ut l)];let z0:=(↑(0:Nat):Int);let z1:=(↑(nxF x w l l.length):Int);let z2:=(↑x:Int);let z3:=(↑w:Int);An [An [An [z2=z2,z3=z3,z4,z0=z0,(↑(nxF x w l 0):Int)=z2,z4,Sm (↑l.length:Int),z0=(0:Int),Tt],Tt],_,(True->An [(z1==z2)=false,An [z1=z1,z3=z3,z4,z0=z0,Tt],Tt]),Tt]) ⟨⟨⟨aq,aq,aq,aq,rfl,a_⟩,aq⟩,hin,a_⟩
theorem Qpp(s w:Nat)(l:List Nat)(hs:s<18446744073709551616)(hw:w<18446744073709551616)(hl:l.length≤64)(h64:S64 l):FnOk Pg g0 109 [u6 s,u6 w,ul l] (u6 (clo s w l:Nat)):=by
 have hu:=Qag l
 have ho:=Qnv s w l hs hw hl h64
 refine FnOk.of_vc vE_ok Qaf Qab (n:=1000) (r:=[]) (S:=coX (clo s w l)) (hs:=[(0,.loop [] (coS s w l) [(True,.ret,coX (clo s w l))])]) ?_
 exact m_ (p:=An [Sm (u6 ↑((clo s w l))),An [An [Sm (↑s:Int),Sm (↑w:Int),An [Sm l.length,Sm (ut l)],(↑(0:Nat):Int)=(0:Int),Tt],Tt],_,(True->An [An [Sm (↑((clo s w l)):Int),Tt],Tt]),Tt]) ⟨aq,a_,ho,a_⟩
abbrev grV(p j:List Nat):V:=.agg [ul p,ul j]
def alN(n:Nat):Nat:=2^n-1
theorem Qo1(p j:List Nat)(hl:p.length<64):FnOk Pg g0 66 [grV p j] (u6 (alN p.length:Nat)):=by
 have hp:=Qag p
 have hj:=Qag j
 obtain⟨z,hz⟩: ∃z,z=2^p.length:=⟨_,rfl⟩
 obtain⟨h1,h2⟩:=Qew (G:=Qac Pg) (t:=29) hl
 have h3:1≤2^p.length:=Nat.one_le_two_pow
 have h4:(alN p.length:Int)=(z:Int)-1:=by unfold alN;omega
 rw[←hz]at h1 h2 h3
 have h5:wr .u64 ((z:Int)-1)=(alN p.length:Int):=by rw[h4];exact Qg9 (by simp[lo];omega) (by simp[hi];omega)
 refine FnOk.of_vc vE_ok Qaf Qab (n:=1000) (r:=[]) (S:={sl:=[(2,u6 (alN p.length:Nat))]}) (hs:=[va 6 (u6 (z:Nat)),nu 7 (alN p.length:Nat)]) ?_
 exact m_ (p:=let z0:=(↑(alN p.length):Int);An [Sm (u6 z0),_,_,An [z0=z0,Tt],Tt]) ⟨aq,h1,h5,a_⟩
inductive Es where
 |mk(k v:Nat)(l:List Es)
mutual
def esC:Es→List V
 | .mk k v l=>[i6 (k:Nat),u6 (v:Nat),.im l.length (esL l)]
def esL:List Es→List V
 |[]=>[]
 |x::l=>esC x++esL l
end
abbrev esV(t:Es):V:=.agg (esC t)
mutual
theorem HfL_es: ∀t,HfL (esC t)
 | .mk k v l=>by unfold esC;exact⟨trivial,trivial,trivial,trivial⟩
end
theorem Qe0{a b:List V}(ha:HfL a)(hb:HfL b):HfL (a++b):=by
 induction a with
 |nil=>exact hb
 |cons x a ih=>exact⟨ha.1,ih ha.2⟩
def noL:List V:=[]
def owV(h:Nat):Nat→V
 |0=>.nils
 |n+1=>.sl h 0 (n+1) none
def owL(t z:Nat)(l:List V):Nat→List O
 |0=>[]
 | _+1=>[.row t (some z) l]
def it(l:List Nat):List V:=l.map fun(x:Nat)=>i6 (x:Int)
theorem Qaq(l:List Nat):HfL (it l):=Qe1 _ l (fun _=>trivial)
def soP(p:List Nat):Nat→Nat×List Nat→Nat×List Nat
 |0,x=>x
 |k+1,x=>if¬(soP p k x).1.testBit k∧mi (p.getD k 0) (soP p k x).1=0 then((soP p k x).1|||2^k,(soP p k x).2++[k])else soP p k x
def soW(p:List Nat):Nat→Nat×List Nat→Option (Nat×List Nat)
 |0,x=>if x.1=alN p.length then some x else none
 |f+1,x=>if x.1=alN p.length then some x else soW p f (soP p p.length x)
theorem Qgj{l:List Nat}{k:Nat}(h:k<l.length):headF ((it l).drop (k*1))=some (i6 ((l.getD k 0:Nat):Int)):=by
 unfold it
 rw[List.getD_eq_getElem?_getD,List.getElem?_eq_getElem h]
 exact Qej (List.getElem?_eq_getElem h)
abbrev ptC(p j:List Nat)(s:Nat):V:=.fn 108 [.imp [u6 (s:Nat)],.imp [ul p,ul j]]
theorem Qm6(p j:List Nat)(s:Nat):FnOk Pg g0 67 [grV p j,u6 s] (ptC p j s):=by
 have hp:=Qag p
 have hj:=Qag j
 refine FnOk.of_vc vE_ok Qaf Qab (n:=1000) (r:=[]) (S:={sl:=[(4,ptC p j s)]}) (hs:=[]) ?_
 refine Eq.mp (by kernel_rfl:(An [Sm (ptC p j s),An [An [An [Sm [u6 ↑s],Tt,Tt],An [Sm [ul p,ul j],TT 2],Tt],Tt],Tt])=_) ?_
 (repeat'(first|(with_reducible apply And.intro)|(refine fun(_:True)=>?_)))<;>first|exact aq|skip
 all_goals skip
abbrev lo_(d:Nat)(o:O)(v:V):Nat×Hint:=(d,.lo o v)
abbrev so(o:O)(c:List V):Nat×Hint:=(999999,.so o c)
abbrev toO(sl:List (Nat×V)):Nat×Hint:=(0,.toO sl)
theorem loopOG{gl:T (List V)}{c b:Code}(hc:c= .loop b){rd:Option Nat}{k nx0:Nat}{α:Type}(I:α→Mem→Prop)(S:α→List (Nat×V))(m:α→Nat)(out:Ex→List (Nat×V)→Mem→Prop)
  (h: ∀x(H:T O)(nx:Nat)(lg:List Nat)(G:Ex→List (Nat×V)→T O→Nat→List Nat→Prop),I x ⟨H,nx,lg⟩→(∀y H nx lg,I y ⟨H,nx,lg⟩→m y<m x→G .normal (S y) H nx lg)→(∀i sl H nx lg,out (.exit i) sl ⟨H,nx,lg⟩→G (.exit i) sl H nx lg)→(∀sl H nx lg,out .ret sl ⟨H,nx,lg⟩→G .ret sl H nx lg)→∃hs n,vc Pg vE sp0 rd nx0 n b hs (mkSo gl k (S x) H nx lg) (Qqv k G))
  (x:α)(M:Mem)(hx:I x M):Sat Pg rd nx0 c (mkSo gl k (S x) M.H M.nx M.lg) (fun e st=>∃sl M',st=mkSo gl k sl M'.H M'.nx M'.lg∧out e sl M'):=
 loopO vE_ok Qaf Qab hc I S m out (fun x H nx lg hI=>h x H nx lg _ hI (fun y H nx lg h1 h2=>⟨y,h1,h2,rfl⟩) (fun i sl H nx lg h=>h) (fun sl H nx lg h=>h)) x M hx
theorem Qaa{α:Type}(t:T α)(i j:Nat)(x:α):gt (pt t i x) j=if j=i then some x else gt t j:=by rw[Qay,pt_eq,T.get_put,Qay]
theorem gq{P:Prop}(h:P:=by
 ((repeat(first|(rw[Qaa,if_pos (by first|rfl|omega)])|(rw[Qaa,if_neg (by omega)])))<;>first|assumption|rfl)):P:=h
theorem T.set_set{α:Type}: ∀(f:Nat)(t:T α)(i:Nat)(x y:Option α),i<f→T.set f (T.set f t i x) i y=T.set f t i y
 |0,_,_,_,_,h=>absurd h (Nat.not_lt_zero _)
 | f + 1, t, i, x, y, h => by
  have ih:i≠0→∀t:T α,T.set f (T.set f t (i/2) x) (i/2) y=T.set f t (i/2) y:=fun _ t=>T.set_set f t (i/2) x y (by omega)
  have ih2:i≠0→∀t:T α,T.set f (T.set f t (i/2-1) x) (i/2-1) y=T.set f t (i/2-1) y:=fun _ t=>T.set_set f t (i/2-1) x y (by omega)
  by_cases h0:i=0
  ·subst h0;cases t<;>simp[T.set]
  ·have hb : Nat.beq i 0 = false := by
    cases hb:Nat.beq i 0 with
    |false=>rfl
    |true=>exact absurd (Nat.eq_of_beq_eq_true hb) h0
   cases h1:Nat.beq (i%2) 1<;>cases t<;>simp only[T.set,hb,h1,cond_true,cond_false,ih h0,ih2 h0]
theorem pt_pt{α:Type}(t:T α)(i:Nat)(x y:α):pt (pt t i x) i y=pt t i y:=by
 rw[pt_eq,pt_eq,pt_eq];exact T.set_set _ _ _ _ _ (Nat.lt_succ_self _)
noncomputable def kEq(E:Env)(res:List ResultVar)(r:CR):KF:=fun e _ st=>match e with
 | .exit _=>False
 | .pan _=>False
 | _=>retP r.v (retV E.G st.tm st.H res)∧st.H=r.H∧st.nx=r.nx∧st.lg=r.lg
noncomputable def vcFiA(P:Program)(E:Env)(sp:Qb3)(gl:T (List V))(n:Nat)(ars:List V)(H:T O)(nx:Nat)(hs:Hs)(r:CR):Option FI→Prop
 |some fi=>bif Nat.ble ars.length fi.ntmps then vc P E sp none nx n fi.body hs ⟨⟨Qda (blank fi.ntmps) 0 ars,gl,fi.ntmps⟩,H,nx,[]⟩ (kEq E fi.res r)else False
 |none=>False
theorem CallSpec.of_vcA{P:Program}{E:Env}{sp:Qb3}(hE:E.Ok P)(hm:P.follows .mixedOrders=true){gl:T (List V)}(hsp:Qbf P gl sp){n f:Nat}{ars:List V}{H:T O}{nx:Nat}{hs:Hs}{r:CR}(hlog:Log H.get nx r.H.get r.nx r.lg)(h:vcFiA P E sp gl n ars H nx hs r (E.code f)):CallSpec P gl (.fn f []) ars H nx r:=by
 unfold vcFiA at h
 split at h
 ·rename_i fi hfi
  obtain⟨hb,hv⟩:=Qaj h
  rw[Qbh]at hv
  refine CallSpec.fn hE hfi (by rw[List.append_nil];exact hb) hlog ?_
  rw[List.append_nil]
  refine Sat.of_vc hE hm hsp rfl hv fun e hs' st' hg hk=>?_
  have fin:(retP r.v (retV E.G st'.tm st'.H fi.res)∧st'.H=r.H∧st'.nx=r.nx∧st'.lg=r.lg)→retV E.G st'.tm st'.H fi.res=some r.v∧st'.H=r.H∧st'.nx=r.nx∧st'.lg=r.lg:=by
   rintro⟨hret,k⟩
   refine⟨?_,k⟩
   unfold retP at hret
   split at hret
   ·rename_i u e;rw[e,hret]
   ·exact hret.elim
  unfold kEq at hk
  cases e with
  |exit=>exact hk.elim
  |pan=>exact hk.elim
  |normal=>exact⟨.inl rfl,fin hk⟩
  |ret=>exact⟨.inr rfl,fin hk⟩
 ·exact h.elim
def SubL(a b:List Nat):Prop:=∀g,g∈a→g∈b
noncomputable def kSub(E:Env)(res:List ResultVar)(r:CR):KF:=fun e _ st=>match e with
 | .exit _=>False
 | .pan _=>False
 | _=>retP r.v (retV E.G st.tm st.H res)∧st.H=r.H∧st.nx=r.nx∧SubL st.lg r.lg
noncomputable def vcFiS(P:Program)(E:Env)(sp:Qb3)(gl:T (List V))(n:Nat)(ars:List V)(H:T O)(nx:Nat)(hs:Hs)(r:CR):Option FI→Prop
 |some fi=>bif Nat.ble ars.length fi.ntmps then vc P E sp none nx n fi.body hs ⟨⟨Qda (blank fi.ntmps) 0 ars,gl,fi.ntmps⟩,H,nx,[]⟩ (kSub E fi.res r)else False
 |none=>False
theorem CallSpec.of_vcS{P:Program}{E:Env}{sp:Qb3}(hE:E.Ok P)(hm:P.follows .mixedOrders=true){gl:T (List V)}(hsp:Qbf P gl sp){n f:Nat}{ars:List V}{H:T O}{nx:Nat}{hs:Hs}{r:CR}(hlog:Log H.get nx r.H.get r.nx r.lg)(h:vcFiS P E sp gl n ars H nx hs r (E.code f)):CallSpec P gl (.fn f []) ars H nx r:=by
 unfold vcFiS at h
 split at h
 ·rename_i fi hfi
  obtain⟨hb,hv⟩:=Qaj h
  rw[Qbh]at hv
  refine CallSpec.fnC hE hfi (by rw[List.append_nil];exact hb) hlog (R:=fun e st=>(e= .normal∨e= .ret)∧retV E.G st.tm st.H fi.res=some r.v∧st.H=r.H∧st.nx=r.nx∧SubL st.lg r.lg) ?_ ?_
  ·rw [List.append_nil]
   refine Sat.of_vc hE hm hsp rfl hv fun e hs' st' hg hk=>?_
   have fin:(retP r.v (retV E.G st'.tm st'.H fi.res)∧st'.H=r.H∧st'.nx=r.nx∧SubL st'.lg r.lg)→retV E.G st'.tm st'.H fi.res=some r.v∧st'.H=r.H∧st'.nx=r.nx∧SubL st'.lg r.lg:=by
    rintro⟨hret,k⟩
    refine⟨?_,k⟩
    unfold retP at hret
    split at hret
    ·rename_i u e;rw[e,hret]
    ·exact hret.elim
   unfold kSub at hk
   cases e with
   |exit=>exact hk.elim
   |pan=>exact hk.elim
   |normal=>exact⟨.inl rfl,fin hk⟩
   |ret=>exact⟨.inr rfl,fin hk⟩
  ·rintro e st ⟨he, hret, h1, h2, h3⟩
   refine⟨he,r.v,hret,fun s w ee w' _ _⟨u,s',k1,g1,g2,g3,g4,g5⟩=>?_⟩
   dsimp only at g1 g2 g3 g4 g5
   rw[h1]at g2
   rw[h2]at g4 g5
   exact⟨u,s',k1,g1,g2,g3.more h3,g4,g5⟩
 ·exact h.elim
def lowB(x:Nat):Nat:=x&&& (18446744073709551616-x)
theorem Qk4{x:Nat}(h:x<18446744073709551616):lowB x<18446744073709551616:=Nat.lt_of_le_of_lt Nat.and_le_left h
theorem low_u{G:Ctx}{t:Nat}{x:Nat}(hx:x<18446744073709551616)(h0:x≠0):binV G .and t (u6 (x:Int)) (u6 ((18446744073709551616-x:Nat):Int))=some (u6 ((lowB x:Nat):Int)):=Qje hx (by omega)
def reF(j:List Nat)(s:Nat):Nat→Nat
 |0=>s
 |k+1=>mi (reF j s k) (clo (lowB (reF j s k)) s j)
theorem Qgy{j:List Nat}{s:Nat}(hs:s<18446744073709551616): ∀k,reF j s k<18446744073709551616
 |0=>hs
 |k+1=>mi_lt
def dkF(j:List Nat)(s k:Nat):Nat:=clo (lowB (reF j s k)) s j
abbrev piS(p j:List Nat)(hd s k:Nat):List (Nat×V):=[(0,.yld hd),(1,.imp [u6 (s:Nat)]),(2,.imp [ul p,ul j]),(4,u6 (reF j s k:Nat))]
abbrev piQ(HP:T O)(nx0:Nat)(L:List Nat)(_:Nat)(H:T O)(nx:Nat)(lg:List Nat):Prop:=H=HP∧nx=nx0∧SubL lg L
theorem Qn8(p j:List Nat)(s:Nat)(hs:s<18446744073709551616)(hl:j.length≤64)(h64:S64 j)(nx0 hd m:Nat)(hm:reF j s m=0)(hne: ∀k,k<m→reF j s k≠0)(HH:Nat→T O)(N:Nat→Nat)(LY:List Nat)
  (hy: ∀k,k<m→CallSpec Pg g0 (.yld hd) [u6 (dkF j s k:Nat)] (HH k) (N k) ⟨.bool true,HH (k+1),N (k+1),LY⟩):
  Sat Pg none nx0 (at' 108 [1,0]) (mkSo g0 24 (piS p j hd s 0) (HH 0) (N 0) []) (Qj3 g0 24 (.exit 0) (fun _=>[]) (piQ (HH m) (N m) LY)):=by
 have hp:=Qag p
 have hj:=Qag j
 refine(loopOG (b:=at' 108 [1,0,0]) (by kernel_rfl) (fun(k:Nat) M=>k≤m∧M.H=HH k∧M.nx=N k∧SubL M.lg LY) (piS p j hd s) (fun k=>m-k) (fun e sl M=>e= .exit 0∧sl=[]∧piQ (HH m) (N m) LY 0 M.H M.nx M.lg) (fun k H nx1 lg G hI hN hE hR=>?_) 0 ⟨_,_,_⟩ ⟨Nat.zero_le _,rfl,rfl,fun g hg=>by cases hg⟩).mono ?_
 ·obtain ⟨hk, rfl, rfl, hsub⟩ := hI
  dsimp only at hk hsub
  have hr:=Qgy (j:=j) hs k
  by_cases hlt:k<m
  ·have hcall := hy k hlt
   have h0:=hne k hlt
   have e1:reF j s (k+1)=mi (reF j s k) (dkF j s k):=rfl
   have hdk:dkF j s k=clo (lowB (reF j s k)) s j:=rfl
   have hnext:=fun lg' h=>hN (k+1) (HH (k+1)) (N (k+1)) lg' ⟨hlt,rfl,rfl,h⟩ (by omega)
   simp only[piS]at hnext
   rw[e1]at hnext
   have hl0:=Qk4 hr
   have hc:=Qpp (lowB (reF j s k)) s j hl0 hs hl h64
   rw[←hdk]at hc
   have hdl:dkF j s k<18446744073709551616:=by rw[hdk];exact Qpo hl0 hs
   simp only[piS]
   generalize reF j s k=r at*
   generalize dkF j s k=d at*
   have s1:=low_u (G:=Qac Pg) (t:=29) hr h0
   have s2:=mi_u (G:=Qac Pg) (t:=29) hr hdl
   obtain⟨ng,hng⟩: ∃ng,ng=18446744073709551616-r:=⟨_,rfl⟩
   rw[←hng]at s1
   have hneg:wr .u64 (-(r:Int))=(ng:Int):=by
    rw[wr_eq,Qsz]
    simp only[lo,wid]
    omega
   generalize lowB r=lo_ at*
   refine⟨[yes 8,nu 11 (ng:Nat),va 12 (u6 (lo_:Nat)),fn 16 (u6 (d:Nat)),(19,.call ⟨.bool true,HH (k+1),N (k+1),LY⟩),va 23 (u6 (mi r d:Nat)),toO [(0,.yld hd),(1,.imp [u6 (s:Nat)]),(2,.imp [ul p,ul j]),(4,u6 (mi r d:Nat))]],1000,?_⟩
   clear hN hE hR e1 hy hdk hng hm hne
   refine Eq.mp (by kernel_rfl:(let z0:=u6 ↑(mi r d);let z1:=V.imp [ul p,ul j];let z2:=V.imp [u6 ↑s];let z3:=V.yld hd;An [((↑r:Int) != (0:Int))=true,wr .u64 ((0:Int)-(↑r:Int))=(↑ng:Int),binV (Qac Tryz.prog) BinOp.and 29 (u6 ↑r) (u6 ↑ng)=some (u6 ↑lo_),TT 3,FnOk Pg g0 109 [u6 ↑lo_,u6 ↑s,V.im j.length (ut j)] (u6 ↑d),Tt,CallSpec Pg g0 z3 [u6 ↑d] (HH k) (N k) (CR.mk (V.bool true) (HH (k+1)) (N (k+1)) LY),Tt,binV (Qac Tryz.prog) BinOp.andNot 29 (u6 ↑r) (u6 ↑d)=some z0,G Ex.normal [(0,z3),(1,z2),(2,z1),(4,z0)] (HH (k+1)) (N (k+1)) (LY++([]++lg)),z3=z3,z2=z2,z1=z1,z0=z0,Tt])=_) ?_
   (repeat'(first|(with_reducible apply And.intro)|(refine fun(_:True)=>?_)))<;>first|exact aq|skip
   all_goals first|exact s1|exact s2|exact hc|exact hneg|exact hcall|(refine hnext _ (fun g hg=>?_);rcases List.mem_append.1 hg with hg|hg;exact hg;exact hsub g hg)|skip
  ·have : k = m := by omega
   subst this
   have hout:=fun lg' h=>hE 0 [] (HH k) (N k) lg' ⟨rfl,rfl,rfl,rfl,h⟩
   simp only[piS]
   rw[hm]
   refine⟨[no 8,toO []],1000,?_⟩
   clear hN hE hR hy hne hm
   exact m_ (p:=An [((↑(0:Nat):Int) != (0:Int))=false,_,Tt]) ⟨aq,(hout _ hsub),aq⟩
 ·rintro e st ⟨sl', M', rfl, rfl, rfl, hQ⟩
  exact⟨0,_,_,_,rfl,rfl,hQ⟩
theorem Qrk(p j:List Nat)(s:Nat)(hs:s<18446744073709551616)(hl:j.length≤64)(h64:S64 j)(hd m:Nat)(hm:reF j s m=0)(hne: ∀k,k<m→reF j s k≠0)(HH:Nat→T O)(N:Nat→Nat)(LY:List Nat)
  (hy: ∀k,k<m→CallSpec Pg g0 (.yld hd) [u6 (dkF j s k:Nat)] (HH k) (N k) ⟨.bool true,HH (k+1),N (k+1),LY⟩)(hlog:Log (HH 0).get (N 0) (HH m).get (N m) LY):
  CallSpec Pg g0 (ptC p j s) [.yld hd] (HH 0) (N 0) ⟨.tup [],HH m,N m,LY⟩:=by
 refine CallSpec.caps ?_
 have l:=Qn8 p j s hs hl h64 (N 0) hd m hm hne HH N LY hy
 have hp:=Qag p
 have hj:=Qag j
 refine CallSpec.of_vcS vE_ok Qaf Qab (n:=1000) (hs:=[(0,.loopM (piS p j hd s 0) (.exit 0) (fun _=>[]) (piQ (HH m) (N m) LY) (fun _ _ _ _=>[]))]) hlog ?_
 clear hlog hy hne hm
 exact m_ (p:=An [An [Sm (V.yld hd),Sm (V.imp [u6 ↑s]),Sm (V.imp [ul p,ul j]),u6 ↑s=u6 ↑(reF j s 0),Tt],_,∀(h:Nat)(H:T O)(nx:Nat)(lg:List Nat),(H=HH m∧nx=N m∧∀(g:Nat),List.Mem g lg→List.Mem g LY)→V.tup []=V.tup []∧H=HH m∧nx=N m∧∀(g:Nat),List.Mem g lg→List.Mem g LY]) ⟨a_,l,aq⟩
theorem Qpb{x:Nat}(h: ∀i,x.testBit i=false):x=0:=Nat.eq_of_testBit_eq fun i=>by rw[h i,Nat.zero_testBit]
theorem Qk5{x:Nat}(h0:x≠0)(hx:x<18446744073709551616): ∃v,v<64∧x.testBit v=true∧lowB x=2^v∧∀b,b<v→x.testBit b=false:=by
 obtain⟨v,hv,hmin⟩: ∃v,x.testBit v=true∧∀b,b<v→x.testBit b=false:=by
  have hex: ∃v,x.testBit v=true:=by
   by_cases h: ∃v,x.testBit v=true
   ·exact h
   ·exact absurd (Qpb fun i=>by
     cases hb:x.testBit i with
     |false=>rfl
     |true=>exact absurd ⟨i,hb⟩ h) h0
  obtain⟨w,hw⟩:=hex
  induction w using Nat.strongRecOn with
  | ind w ih =>
   by_cases hb: ∃b,b<w∧x.testBit b=true
   ·obtain ⟨b, h1, h2⟩ := hb
    exact ih b h1 h2
   ·refine ⟨w, hw, fun b hlt => ?_⟩
    cases hc:x.testBit b with
    |false=>rfl
    |true=>exact absurd ⟨b,hlt,hc⟩ hb
 have hv64:v<64:=by
  refine Nat.lt_of_not_le fun hle=>?_
  rw[Nat.testBit_lt_two_pow (Nat.lt_of_lt_of_le (show x<2^64 from hx) (Nat.pow_le_pow_right (by decide) hle))]at hv
  cases hv
 refine⟨v,hv64,hv,?_,hmin⟩
 -- x = 2^v (2 m + 1)
 have hmod:x%2^v=0:=Qpb fun i=>by
  rw[Nat.testBit_mod_two_pow]
  by_cases hi:i<v
  ·rw[hmin i hi,Bool.and_false]
  ·rw[decide_eq_false hi,Bool.false_and]
 obtain⟨q,hq⟩: ∃q,q=x/2^v:=⟨_,rfl⟩
 have hxq:x=2^v*q:=by rw[hq];have:=Nat.div_add_mod x (2^v);omega
 have hodd:q%2=1:=by
  rw[Qo8]at hv
  rw[hq];exact of_decide_eq_true hv
 have hpos:0<2^v:=Nat.pow_pos (by decide)
 have hx1:x-1=2^v*(q-1)+(2^v-1):=by
  obtain⟨r,rfl⟩: ∃r,q=r+1:=⟨q-1,by omega⟩
  rw[hxq,Nat.mul_succ,Nat.add_sub_cancel];omega
 unfold lowB
 apply Nat.eq_of_testBit_eq
 intro b
 rw[Nat.testBit_and,show 18446744073709551616-x=2^64-((x-1)+1)by omega,Nat.testBit_two_pow_sub_succ (by omega),hx1,Nat.testBit_two_pow_mul_add _ (by omega),Nat.testBit_two_pow]
 by_cases h1:b<v
 ·rw[hmin b h1];simp;omega
 ·by_cases h2 : b = v
  ·subst h2
   have e:(q-1).testBit 0=false:=by
    rw[Nat.testBit_zero];simp;omega
   rw[hv,if_neg (by omega),Nat.sub_self,e];simp;exact hv64
  ·have e : x.testBit b = q.testBit (b - v) := by rw [hxq, Nat.testBit_two_pow_mul]; simp; omega
   have e2:(q-1).testBit (b-v)=q.testBit (b-v):=by
    obtain⟨c,hc⟩: ∃c,b-v=c+1:=⟨b-v-1,by omega⟩
    rw[hc,Nat.testBit_succ,Nat.testBit_succ,show(q-1)/2=q/2 by omega]
   rw[if_neg h1,e2,e,decide_eq_false (Ne.symm h2)]
   cases q.testBit (b-v)<;>simp
theorem Qk9{s w:Nat}{l:List Nat}{b:Nat}(h:s.testBit b=true): ∀k,(nxF s w l k).testBit b=true
 |0=>h
 |k+1=>by
  unfold nxF
  split
  ·rw[Nat.testBit_or,Qk9 h k,Bool.true_or]
  ·exact Qk9 h k
theorem Qpl{w:Nat}{l:List Nat}{b:Nat}: ∀f{s:Nat},s.testBit b=true→(clF w l f s).testBit b=true
 |0,s,h=>h
 |f+1,s,h=>by
  unfold clF
  split
  ·exact h
  ·exact Qpl f (Qk9 h _)
theorem Qii{s w:Nat}{l:List Nat}{b:Nat}(h:s.testBit b=true):(clo s w l).testBit b=true:=Qpl _ h
theorem reF_dec{j:List Nat}{s k:Nat}(hs:s<18446744073709551616)(h0:reF j s k≠0):reF j s (k+1)<reF j s k:=by
 have hr:=Qgy (j:=j) hs k
 obtain⟨v,h64,h1,h2,h3⟩:=Qk5 h0 hr
 have hd:(dkF j s k).testBit v=true:=Qii (by rw[h2];exact Nat.testBit_two_pow_self)
 have hle:reF j s (k+1)≤reF j s k:=Nat.and_le_left
 refine Nat.lt_of_le_of_ne hle fun e=>?_
 have:(reF j s (k+1)).testBit v=(reF j s k).testBit v:=by rw[e]
 rw[h1]at this
 have e2:reF j s (k+1)=mi (reF j s k) (dkF j s k):=rfl
 rw[e2,Qep hr (show dkF j s k<18446744073709551616 from Qpo (Qk4 hr) hs),hd]at this
 simp at this
def rnF(j:List Nat)(s:Nat):Nat→Nat→Nat
 |0,k=>k
 |f+1,k=>if reF j s k=0 then k else rnF j s f (k+1)
def rn(j:List Nat)(s:Nat):Nat:=rnF j s s 0
theorem rnF_ok{j:List Nat}{s:Nat}(hs:s<18446744073709551616): ∀f k,reF j s k≤f→(∀i,i<k→reF j s i≠0)→reF j s (rnF j s f k)=0∧∀i,i<rnF j s f k→reF j s i≠0
 |0,k,h,hi=>⟨by unfold rnF;omega,by unfold rnF;exact hi⟩
 | f + 1, k, h, hi => by
  unfold rnF
  split
  ·rename_i h0;exact⟨h0,hi⟩
  ·rename_i h0
   have:=reF_dec hs h0
   refine rnF_ok hs f (k+1) (by omega) fun i hik=>?_
   by_cases h1:i<k
   ·exact hi i h1
   ·have : i = k := by omega
    subst this;exact h0
theorem rn_ok{j:List Nat}{s:Nat}(hs:s<18446744073709551616):reF j s (rn j s)=0∧∀i,i<rn j s→reF j s i≠0:=
 rnF_ok hs s 0 (Nat.le_refl _) (fun i hi=>absurd hi (Nat.not_lt_zero _))
theorem Qmk{j:List Nat}{s:Nat}(hs:s<18446744073709551616)(k:Nat):dkF j s k<18446744073709551616:=Qpo (Qk4 (Qgy hs k)) hs
def abF(p:List Nat)(c t:Nat):Nat:=clo (c&&& t) t p
noncomputable def rfBody:Code→Code
 | .rangeFunc _ _ _ b=>b
 |c=>c
noncomputable def rfAsg:Code→Code
 | .rangeFunc _ _ a _=>a
 |c=>c
section
variable (p j:List Nat) (xs ys:Nat) (od:List Nat) (c:Nat) (hc:c<18446744073709551616) (ho: ∀x∈od,x<64) (hol:od.length≤64) (hlp:p.length≤64) (h64p:S64 p) (hl:j.length≤64) (h64:S64 j)
include hc ho hol hlp h64p hl h64
end
section
variable (p j:List Nat) (xs ys:Nat) (od:List Nat) (c:Nat) (hc:c<18446744073709551616) (ho: ∀x∈od,x<64) (hol:od.length≤64) (hlp:p.length≤64) (h64p:S64 p) (hl:j.length≤64) (h64:S64 j)
include hc ho hol hlp h64p hl h64
end
section
variable (p j:List Nat) (xs ys:Nat) (od:List Nat) (c:Nat) (hc:c<18446744073709551616) (ho: ∀x∈od,x<64) (hol:od.length≤64) (hlp:p.length≤64) (h64p:S64 p) (hl:j.length≤64) (h64:S64 j)
include hc ho hol hlp h64p hl h64
end
theorem CallSpec.moreL{P:Program}{gl:T (List V)}{c:V}{ars:List V}{H:T O}{nx:Nat}{r:CR}{L:List Nat}(h:CallSpec P gl c ars H nx r)(hl: ∀x∈r.lg,x∈L):CallSpec P gl c ars H nx ⟨r.v,r.H,r.nx,L⟩:=by
 refine⟨fun s w fv vals a1 a2 a3 a4 a5=>?_,h.2.more hl⟩
 obtain⟨next,e1,e2,e3⟩:=h.1 s w fv vals a1 a2 a3 a4 a5
 have key: ∀e w',Qbb s w nx r e w'→Qbb s w nx ⟨r.v,r.H,r.nx,L⟩ e w':=by
  rintro e w' ⟨u,s',k1,g1,g2,g3,g4,g5⟩
  exact⟨u,s',k1,g1,g2,g3.more hl,g4,g5⟩
 refine⟨next,e1,?_,e3⟩
 cases next with
 |enter f ars=>exact CallsIn.mono e2 key
 |round l f tm a b=>exact RoundIn.mono e2 key
 | _=>exact e2.elim
theorem Qke{I:Nat→T O→Nat→Prop}{C:Nat→T O→Nat→T O→Nat→List Nat→Prop}(H0:T O)(n0:Nat)(h0:I 0 H0 n0): ∀(m:Nat),(∀k,k<m→∀H n,I k H n→∃H' n' L,I (k+1) H' n'∧C k H n H' n' L)→
  ∃(HH:Nat→T O)(N:Nat→Nat)(LL:Nat→List Nat),HH 0=H0∧N 0=n0∧(∀k,k≤m→I k (HH k) (N k))∧∀k,k<m→C k (HH k) (N k) (HH (k+1)) (N (k+1)) (LL k)
 |0,_=>⟨fun _=>H0,fun _=>n0,fun _=>[],rfl,rfl,fun k hk=>by rw[Nat.le_zero.1 hk];exact h0,fun k hk=>absurd hk (Nat.not_lt_zero _)⟩
 | m + 1, h => by
  obtain⟨HH,N,LL,e1,e2,hi,hc⟩:=Qke H0 n0 h0 m (fun k hk=>h k (by omega))
  obtain⟨H',n',L,hI,hC⟩:=h m (by omega) _ _ (hi m (Nat.le_refl _))
  refine⟨fun k=>if k=m+1 then H' else HH k,fun k=>if k=m+1 then n' else N k,fun k=>if k=m then L else LL k,(if_neg (by omega)).trans e1,(if_neg (by omega)).trans e2,fun k hk=>?_,fun k hk=>?_⟩
  ·dsimp only
   by_cases hkm:k=m+1
   ·subst hkm;rw[if_pos rfl,if_pos rfl];exact hI
   ·rw[if_neg hkm,if_neg hkm];exact hi k (by omega)
  ·dsimp only
   by_cases hkm:k=m
   ·subst hkm;rw[if_neg (by omega),if_neg (by omega),if_pos rfl,if_pos rfl,if_pos rfl];exact hC
   ·rw[if_neg (by omega),if_neg (by omega),if_neg (by omega),if_neg (by omega),if_neg hkm];exact hc k (by omega)
theorem Qh2{HH:Nat→T O}{N:Nat→Nat}{LL:Nat→List Nat}{L:List Nat}: ∀m,(∀k,k<m→Log (HH k).get (N k) (HH (k+1)).get (N (k+1)) (LL k))→(∀k,k<m→∀x∈LL k,x∈L)→Log (HH 0).get (N 0) (HH m).get (N m) L
 |0,_,_=>Log.refl _ _ _
 |m+1,h,hl=>((Qh2 m (fun k hk=>h k (by omega)) (fun k hk=>hl k (by omega))).trans (h m (by omega))).more (fun x hx=>(List.mem_append.1 hx).elim (hl m (by omega) x) id)
theorem Qrl(p j:List Nat)(s:Nat)(hs:s<18446744073709551616)(hl:j.length≤64)(h64:S64 j)(hd m:Nat)(hm:reF j s m=0)(hne: ∀k,k<m→reF j s k≠0)(I:Nat→T O→Nat→Prop)(H0:T O)(n0:Nat)(h0:I 0 H0 n0)
  (step: ∀k,k<m→∀H n,I k H n→∃H' n' L,I (k+1) H' n'∧CallSpec Pg g0 (.yld hd) [u6 (dkF j s k:Nat)] H n ⟨.bool true,H',n',L⟩):
  ∃H' n' L,I m H' n'∧CallSpec Pg g0 (ptC p j s) [.yld hd] H0 n0 ⟨.tup [],H',n',L⟩:=by
 obtain⟨HH,N,LL,e1,e2,hi,hc⟩:=Qke (C:=fun k H n H' n' L=>CallSpec Pg g0 (.yld hd) [u6 (dkF j s k:Nat)] H n ⟨.bool true,H',n',L⟩) H0 n0 h0 m step
 have hL: ∀k,k<m→∀x∈LL k,x∈(List.range m).flatMap LL:=fun k hk x hx=>List.mem_flatMap.2 ⟨k,List.mem_range.2 hk,hx⟩
 refine⟨HH m,N m,(List.range m).flatMap LL,hi m (Nat.le_refl _),?_⟩
 have:=Qrk p j s hs hl h64 hd m hm hne HH N ((List.range m).flatMap LL) (fun k hk=>CallSpec.moreL (r:=⟨_,_,_,LL k⟩) (hc k hk) (hL k hk)) (Qh2 m (fun k hk=>(hc k hk).2) hL)
 rw[e1,e2]at this
 exact this
theorem Qrr{rd:Option Nat}{nx0 n nx s m:Nat}{sl:List (Nat×V)}{H:T O}{lg:List Nat}{g:Operand}{ps:Array Tmp}{asg body:Code}(p j:List Nat)(hs:s<18446744073709551616)(hl:j.length≤64)(h64:S64 j)(hm:reF j s m=0)(hne: ∀k,k<m→reF j s k≠0)
  (hg:ev (mkSo g0 n sl H nx lg).tm g=some (ptC p j s))(hlb:rdOk rd H=true)(L0:O)(hL0:L0= .loop .ready none 0 (mkSo g0 n sl H nx lg).tm ps.toList asg body)
  (I:Nat→T O→Nat→Prop)(h0:I 0 (pt H nx L0) (nx+1))(step: ∀k,k<m→∀H n,I k H n→∃H' n' L,I (k+1) H' n'∧CallSpec Pg g0 (.yld nx) [u6 (dkF j s k:Nat)] H n ⟨.bool true,H',n',L⟩)
  (hI: ∀H' n',I m H' n'→gt H' nx=some L0):
  ∃H1 n1 L,I m H1 n1∧Log (pt H nx L0).get (nx+1) H1.get n1 L∧Sat Pg rd nx0 (.rangeFunc g ps asg body) (mkSo g0 n sl H nx lg) (Qj3 g0 n .normal (fun _=>sl) (fun _ H' nx' lg'=>H'=pt H1 nx .dead∧nx'=n1∧lg'=L++lg)):=by
 obtain⟨H1,n1,L,hi,hc⟩:=Qrl p j s hs hl h64 nx m hm hne I _ _ h0 step
 refine⟨H1,n1,L,hi,hc.2,?_⟩
 have hgt:=hI _ _ hi
 rw[Qay]at hgt
 rw[pt_eq]at hc
 subst hL0
 refine Sat.rangeFunc' hg hlb hc (.inl ⟨0,_,_,_,_,hgt,0,_,_,_,rfl,?_,rfl,rfl,rfl⟩)
 rw[pt_eq];rfl
noncomputable def kAsgO(n:Nat)(sl1:List (Nat×V))(H:T O)(nx:Nat)(lg:List Nat):KF:=fun e _ st=>match e with
 | .normal=>bif Nat.beq st.tm.n n then slotsQ st.tm sl1∧st.H=H∧st.nx=nx∧st.lg=lg else False
 | _=>False
noncomputable def kBdyO(H:T O)(nx:Nat)(L:List Nat):KF:=fun e _ st=>match e with
 | .normal=>st.H=H∧st.nx=nx∧st.lg=L
 | _=>False
theorem CallSpec.yldO{P:Program}{E:Env}{sp:Qb3}(hE:E.Ok P)(hm:P.follows .mixedOrders=true){gl:T (List V)}(hsp:Qbf P gl sp){n hd:Nat}{ars:List V}{H H1 H2:T O}{nx nx1 nx2:Nat}{tm tm1:TM}{ps:List Nat}{assign body:Code}{fn0:Nat}{sl0 sl1:List (Nat×V)}{lg1 L:List Nat}{hs0 hs1:Hs}{m0 m1:Nat}
  (ho:gt H hd=some (.loop .ready none fn0 tm ps assign body))(htm1:putPs tm ps ars=some tm1)(hn:tm1.n=n)(hg:tm1.gl=gl)(h0:slotsQ tm1 sl0)
  (ha:vc P E sp (some hd) nx m0 assign hs0 (mkSo gl n sl0 H nx []) (kAsgO n sl1 H1 nx1 lg1))(h1:gt H1 hd=some (.loop .ready none fn0 tm ps assign body))
  (hb:vc P E sp (some hd) nx m1 body hs1 (mkSo gl n sl1 (pt H1 hd (.loop .busy none fn0 tm ps assign body)) nx1 (hd::lg1)) (kBdyO H2 nx2 L))
  (h2:gt H2 hd=some (.loop .busy none fn0 tm ps assign body))(hlog:Log H.get nx (pt H2 hd (.loop .ready none fn0 tm ps assign body)).get nx2 (hd::L)):
  CallSpec P gl (.yld hd) ars H nx ⟨.bool true,pt H2 hd (.loop .ready none fn0 tm ps assign body),nx2,hd::L⟩:=by
 rw[Qay]at ho h1 h2
 refine CallSpec.yld ho htm1 hlog ?_
 have hst:(⟨tm1,H,nx,[]⟩:St)=⟨⟨tm1.sl,gl,n⟩,H,nx,[]⟩:=by cases tm1;subst hn hg;rfl
 rw[hst]
 refine Sat.fewer (sl:=sl0) (by obtain⟨a,b,c⟩:=tm1;cases hn;cases hg;exact h0) ?_
 refine Sat.fewer_post ?_
 refine Sat.of_vc hE hm hsp rfl ha fun e hs' st' hgl hk=>?_
 unfold kAsgO at hk
 split at hk
 ·obtain ⟨hb1, k1, k2, k3, k4⟩ := Qaj hk
  have hn':=Nat.eq_of_beq_eq_true hb1
  refine⟨sl1,k1,rfl,none,fn0,tm,ps,assign,body,by show st'.H.get hd=_;rw[k2];exact h1,?_⟩
  show Sat P (some hd) nx body ⟨_,st'.H.put hd _,st'.nx,hd::st'.lg⟩ _
  rw[k2,k3,k4]
  have e0:(mkSo st'.tm.gl st'.tm.n sl1 H1 nx1 lg1).tm=(mkSo gl n sl1 H1 nx1 lg1).tm:=by rw[hgl,hn']
  rw[e0]
  rw[pt_eq]at hb
  refine Sat.of_vc hE hm hsp rfl hb fun e hs2 st2 hgl2 hk2=>?_
  unfold kBdyO at hk2
  split at hk2
  ·obtain ⟨q1, q2, q3⟩ := hk2
   refine⟨rfl,.busy,none,fn0,tm,ps,assign,body,by rw[q1];exact h2,rfl,?_,q2.symm,fun x hx=>?_⟩
   ·show pt H2 hd _ = _
    rw[q1,pt_eq];rfl
   ·rw[q3]at hx;exact hx
  ·exact hk2.elim
 ·exact hk.elim
theorem log_of{H H':T O}{nx nx':Nat}{L:List Nat}(hle:nx≤nx')(h: ∀i,i∉L→¬(nx≤i∧i<nx')→gt H' i=gt H i):Log H.get nx H'.get nx' L:=
 ⟨hle,fun i h1 h2=>by rw[←Qay,←Qay];exact h i h1 h2⟩
section
variable (p j:List Nat) (xs ys:Nat) (od:List Nat) (all c hb hl fn0:Nat) (Lo:O)
end
section
variable (p j:List Nat) (xs ys:Nat) (od:List Nat) (all c hb hl fn0:Nat) (Lo:O)
end
section
variable (p j:List Nat) (xs ys:Nat) (od:List Nat) (asked all c fn0:Nat) (hc:c<18446744073709551616) (hall:all<18446744073709551616) (ho: ∀x∈od,x<64) (hol:od.length≤64) (hlp:p.length≤64) (h64p:S64 p) (hl:j.length≤64) (h64:S64 j)
include hc hall ho hol hlp h64p hl h64
end
noncomputable def kFinO(gl:T (List V))(n:Nat)(r:List Nat)(sl:List (Nat×V))(S:SL):KF:=fun e _ st=>match e with
 | .exit _=>False
 | .pan _=>False
 | _=>bif Nat.beq st.tm.n n then slotsQ st.tm sl∧Gc 0 r (mkSo gl n sl st.H st.nx st.lg) (mkSt gl n S)else False
noncomputable def vcFiO(P:Program)(E:Env)(sp:Qb3)(gl:T (List V))(n:Nat)(ars:List V)(hs:Hs)(r:List Nat)(sl:List (Nat×V))(S:SL)(v:V):Option FI→Prop
 |some fi=>bif Nat.ble ars.length fi.ntmps&&hfB v then retP v (retV E.G (mkSt gl fi.ntmps S).tm (mkSt gl fi.ntmps S).H fi.res)∧vc P E sp none 0 n fi.body hs ⟨⟨Qda (blank fi.ntmps) 0 ars,gl,fi.ntmps⟩,.e,0,[]⟩ (kFinO gl fi.ntmps r sl S)else False
 |none=>False
noncomputable def vcFnX(P:Program)(E:Env)(sp:Qb3)(gl:T (List V))(n f:Nat)(ars:List V)(hs:Hs)(r:List Nat)(sl:List (Nat×V))(S:SL)(v:V):Prop:=vcFiO P E sp gl n ars hs r sl S v (E.code f)
theorem FnOk.of_vcX{gl:T (List V)}{n f:Nat}{ars:List V}{hs:Hs}{r:List Nat}{sl:List (Nat×V)}{S:SL}{v:V}(h:vcFnX Pg vE sp0 gl n f ars hs r sl S v):FnOk Pg gl f ars v:=by
 unfold vcFnX vcFiO at h
 split at h
 ·rename_i fi hfi
  obtain⟨hb,hret,hv⟩:=Qaj h
  rw[Bool.and_eq_true]at hb
  have hret':retV vE.G (mkSt gl fi.ntmps S).tm (mkSt gl fi.ntmps S).H fi.res=some v:=by
   unfold retP at hret
   split at hret
   ·rename_i u e;rw[e,hret]
   ·exact hret.elim
  rw[Qbh]at hv
  refine CallSpec.fnC vE_ok hfi (by rw[List.append_nil];exact hb.1) (Log.refl _ _ _) (R:=fun e st=>(e= .normal∨e= .ret)∧st=mkSt gl fi.ntmps S) ?_ ?_
  ·rw [List.append_nil]
   refine Sat.gc_post (Sat.fewer_post (Sat.of_vc vE_ok Qaf Qab rfl hv fun e hs' st' hg hk=>?_))
   unfold kFinO at hk
   have fin:(bif Nat.beq st'.tm.n fi.ntmps then slotsQ st'.tm sl∧Gc 0 r (mkSo gl fi.ntmps sl st'.H st'.nx st'.lg) (mkSt gl fi.ntmps S)else False)→slotsQ st'.tm sl∧Gc 0 r (mkSo st'.tm.gl st'.tm.n sl st'.H st'.nx st'.lg) (mkSt gl fi.ntmps S):=by
    intro hk
    obtain⟨hb,hk1,hk2⟩:=Qaj hk
    exact⟨hk1,by rw[hg,Nat.eq_of_beq_eq_true hb];exact hk2⟩
   cases e with
   |exit=>exact hk.elim
   |pan=>exact hk.elim
   |normal=>obtain⟨h1,h2⟩:=fin hk;exact⟨sl,h1,r,_,h2,.inl rfl,rfl⟩
   |ret=>obtain⟨h1,h2⟩:=fin hk;exact⟨sl,h1,r,_,h2,.inr rfl,rfl⟩
  ·rintro e st ⟨he, rfl⟩
   refine⟨he,v,hret',fun s w ee w' hH hn⟨u,s',h1,g1,g2,g3,_,_⟩=>?_⟩
   subst h1
   obtain⟨s'',q1,q2,q3,q4⟩:=Qed hH g1 (Qek.1 v hb.2) g3 (fun h _=>hn h (Nat.zero_le _)) (fun b hb=>g2.old b (.inl hb))
   exact⟨u,s'',rfl,q1,q2,q3,fun i=>by rw[q4];exact dom_same s _ i,Nat.le_refl _⟩
 ·exact h.elim
section
variable (p j:List Nat) (xs ys:Nat) (od:List Nat) (asked all:Nat) (hasked:asked<18446744073709551616) (hall:all<18446744073709551616) (ho: ∀x∈od,x<64) (hol:od.length≤64) (hlp:p.length≤64) (h64p:S64 p) (hl:j.length≤64) (h64:S64 j)
include hasked hall ho hol hlp h64p hl h64
end
section
variable (p j:List Nat) (xs ys:Nat) (od:List Nat) (hxs:xs<18446744073709551616) (hys:ys<18446744073709551616) (ho: ∀x∈od,x<64) (hol:od.length≤64) (hlp:p.length<64) (h64p:S64 p) (hl:j.length≤64) (h64:S64 j)
include hxs hys ho hol hlp h64p hl h64
end
section
variable (p j:List Nat) (xs ys:Nat) (od:List Nat) (all c hb hl:Nat) (Lo:O)
end
section
variable (p j:List Nat) (xs ys:Nat) (od:List Nat) (asked all c:Nat) (hc:c<18446744073709551616) (hall:all<18446744073709551616) (ho: ∀x∈od,x<64) (hol:od.length≤64) (hlp:p.length≤64) (h64p:S64 p) (hl:j.length≤64) (h64:S64 j)
include hc hall ho hol hlp h64p hl h64
end
section
variable (p j:List Nat) (xs ys:Nat) (od:List Nat) (hxs:xs<18446744073709551616) (hys:ys<18446744073709551616) (ho: ∀x∈od,x<64) (hol:od.length≤64) (hlp:p.length<64) (h64p:S64 p) (hl:j.length≤64) (h64:S64 j)
include hxs hys ho hol hlp h64p hl h64
end
section
variable (p j:List Nat) (xs ys:Nat) (od:List Nat) (hxs:xs<18446744073709551616) (hys:ys<18446744073709551616) (ho: ∀x∈od,x<64) (hol:od.length≤64) (hlp:p.length<64) (h64p:S64 p) (hl:j.length≤64) (h64:S64 j)
include hxs hys ho hol hlp h64p hl h64
end
end Go.Proofs.YtifdkhfldbkkpaaGreat.Am
namespace Go.Proofs.YtifdkhfldbkkpaaGreat.Am
open Go.RowKit
section
variable (p j:List Nat) (xs ys:Nat)
end
section
variable (p j:List Nat) (xs ys:Nat)
variable (hl:p.length<64) (h64:S64 p) (F:Nat) (hF:F≤10) (y:Nat×List Nat) (hy:soW p F (0,[])=some y) (ha:FnOk Pg g0 89 [ul p,ul j,u6 (xs:Nat),u6 (ys:Nat)] (i6 (0:Nat)))
include hl h64 hF hy ha
end
theorem shl_u{G:Ctx}{t:Nat}{x k:Nat}(hk:k<64)(hx:x*2^k<18446744073709551616):binV G .shl t (u6 (x:Int)) (i6 (k:Int))=some (u6 ((x*2^k:Nat):Int)):=by
 have e:binV G .shl t (u6 (x:Int)) (i6 (k:Int))=if(k:Int)<0 then none else some (.int .u64 (wr .u64 ((x:Int)*((2^min ((k:Int).toNat) 64:Nat):Int)))):=rfl
 rw[e,if_neg (by omega),Int.toNat_natCast,show min k 64=k by omega,wr_eq,←Int.natCast_mul,Qez hx]
def uF(f:Nat→Nat)(n:Nat):List V:=(List.range n).map fun i=>u6 (f i:Nat)
theorem Qak(f:Nat→Nat)(n:Nat):HfL (uF f n):=Qe1 _ _ (fun _=>trivial)
theorem Qax(f:Nat→Nat)(n:Nat):(uF f n).length=n:=by unfold uF;rw[List.length_map,List.length_range]
theorem Qc2{f g:Nat→Nat}{n:Nat}(h: ∀i,i<n→f i=g i):uF f n=uF g n:=by
 unfold uF
 exact List.map_congr_left fun i hi=>by rw[h i (List.mem_range.1 hi)]
theorem Qbv{f:Nat→Nat}{n k:Nat}(h:k<n):headF (dropF (0+k*1) (uF f n))=some (u6 (f k:Nat)):=by
 rw[Qa2,Nat.zero_add]
 exact Qej (by rw[List.getElem?_range h])
theorem lay_set{c:List V}{j:Nat}{x:V}(h:j<c.length):layE (0+j*1) c [x]=some (c.set j x):=by
 rw[Qem,Nat.zero_add,Nat.mul_one]
 have hb:Nat.ble (j+[x].length) c.length=true:=by rw[Nat.ble_eq];simp;omega
 rw[hb,cond_true]
 congr 1
 rw[List.set_eq_take_append_cons_drop,if_pos h,List.append_assoc]
 rfl
theorem Qfh{f:Nat→Nat}{n j:Nat}(h:j<n)(x:Nat):layE (0+j*1) (uF f n) [u6 (x:Nat)]=some (uF (fun i=>if i=j then x else f i) n):=by
 rw[lay_set (by rw[Qax];exact h)]
 congr 1
 apply List.ext_getElem?
 intro i
 unfold uF
 rw[List.getElem?_set,List.length_map,List.length_range]
 by_cases hij:j=i
 ·subst hij
  rw[if_pos rfl,if_pos h,List.getElem?_map,List.getElem?_range h];simp
 ·rw [if_neg hij, List.getElem?_map, List.getElem?_map]
  by_cases hi:i<n
  ·rw[List.getElem?_range hi];simp[Ne.symm hij]
  ·rw[List.getElem?_eq_none (by simp;omega)];rfl
def chR(p:List Nat):Nat→Nat→Nat
 |0,_=>0
 |k+1,i=>chR p k i|||p.getD k 0/2^i%2*2^k
def chI(p:List Nat)(k m i:Nat):Nat:=if i<m then chR p (k+1) i else chR p k i
theorem Qo9{y k:Nat}(hk:k<64):y%2*2^k<18446744073709551616:=by
 have h1:2^k≤2^63:=Nat.pow_le_pow_right (by decide) (by omega)
 have h2:y%2≤1:=by omega
 have:=Nat.mul_le_mul h2 h1
 omega
theorem chR_lt(p:List Nat): ∀k i,k≤64→chR p k i<18446744073709551616
 |0,_,_=>by unfold chR;decide
 |k+1,i,hk=>Nat.or_lt_two_pow (n:=64) (chR_lt p k i (by omega)) (Qo9 (by omega))
theorem chI_step(p:List Nat)(k m:Nat):(fun i=>if i=m then chR p k m|||p.getD k 0/2^m%2*2^k else chI p k m i)=chI p k (m+1):=by
 funext i
 unfold chI
 by_cases h:i=m
 ·subst h;rw[if_pos rfl,if_pos (by omega)];rfl
 ·rw [if_neg h]
  by_cases h2:i<m
  ·rw[if_pos h2,if_pos (by omega)]
  ·rw[if_neg h2,if_neg (by omega)]
theorem chI_zero(p:List Nat)(k:Nat):chI p k 0=chR p k:=by
 funext i;unfold chI;rw[if_neg (by omega)]
theorem Qpi(p:List Nat)(k n:Nat):uF (chI p k n) n=uF (chR p (k+1)) n:=Qc2 fun i hi=>by unfold chI;rw[if_pos hi]
abbrev rdO(p:List Nat)(r:Nat)(C:List V):List O:=[.row 190 none [.nils,.nils],.row 29 none C,.row 190 none [ul p,.sl 1 0 p.length (some (r-r))]]
abbrev rd2(p:List Nat)(x k n:Nat)(q:Nat×List V):SL:={sl:=[(0,ul p),(2,.ptr 0 0),(4,.ptr 2 0),(28,ul p),(29,i6 (n:Nat)),(30,i6 (k:Nat)),(5,i6 (k:Nat)),(6,u6 (x:Nat)),(42,i6 (n:Nat)),(43,i6 (q.1:Nat))],os:=rdO p n q.2,md:=[0,0,1]}
theorem Qrw(p:List Nat)(hl:p.length≤64)(h64:S64 p)(n k x:Nat)(hn:p.length=n)(hk:k<n)(hx:p.getD k 0=x)(A B:List V)(hA:uF (chI p k 0) n=A)(hB:uF (chI p k n) n=B):
  Sat Pg none 0 (at' 106 [1,0,1,1,0,1,0,0,1,1,0,0,1,1,1,0]) (mkSt g0 95 (rd2 p x k n (0,A))) (Qae g0 95 [(True,.exit 2,rd2 p x k n (n,B))]):=by
 have hp:=Qag p
 refine Qaw vE_ok Qaf Qab (b:=at' 106 [1,0,1,1,0,1,0,0,1,1,0,0,1,1,1,0,0]) (by kernel_rfl) (fun q=>q.1≤n∧uF (chI p k q.1) n=q.2) (rd2 p x k n) (fun q=>n-q.1) (fun q hq=>?_) (0,A) ⟨Nat.zero_le _,hA⟩
 obtain⟨m,C⟩:=q
 obtain⟨hm,hC⟩:=hq
 dsimp only at hm hC
 have hCf:HfL C:=by rw[←hC];exact Qak _ _
 by_cases hlt:m<n
 ·have s0 : headF (dropF (0 + m * 1) C) = some (u6 (chR p k m : Nat)) := by rw [← hC, Qbv hlt]; unfold chI; rw [if_neg (by omega)]
  have s1:=Qc5 (G:=Qac Pg) (t:=29) (x:=p.getD k 0) (k:=m) (by omega)
  have s2:=Qc6 (G:=Qac Pg) (t:=29) (x:=p.getD k 0/2^m)
  have s3:=shl_u (G:=Qac Pg) (t:=29) (x:=p.getD k 0/2^m%2) (k:=k) (by omega) (Qo9 (by omega))
  have s4:=(or_u (G:=Qac Pg) (t:=29) (chR_lt p k m (by omega)) (Qo9 (y:=p.getD k 0/2^m) (k:=k) (by omega))).1
  have s5:=Qfh (f:=chI p k m) hlt (chR p k m|||p.getD k 0/2^m%2*2^k)
  rw[chI_step,hC]at s5
  generalize hD:uF (chI p k (m+1)) n=D at s5
  generalize chR p k m=c at*
  rw[hx]at s1 s2 s3 s4 s5
  generalize x/2^m=x1 at*
  generalize x1%2=x2 at*
  generalize x2*2^k=x3 at*
  generalize c|||x3=x4 at*
  refine .inl ⟨(m+1,D),[0,1,2],[yes 44,pl 49,ld 50 (u6 (c:Nat)),va 53 (u6 (x1:Nat)),va 54 (u6 (x2:Nat)),va 56 (u6 (x3:Nat)),va 57 (u6 (x4:Nat)),pl 58,st D,nu 59 ((m+1:Nat):Int)],1000,⟨hlt,hD⟩,by dsimp only;omega,?_⟩
  have hDf:HfL D:=by rw[←hD];exact Qak _ _
  clear hC hD hA hB hx
  exact m_ (p:=let z5:=An [Sm p.length,Sm (ut p)];let z0:=(↑m:Int);let z2:=(↑n:Int);let z3:=(↑(m+1):Int);let z4:=(↑k:Int);An [decide (z0<z2)=true,An [(0:Int)≤z0,z0<(↑p.length:Int)],_,_,_,_,_,An [(0:Int)≤z0,z0<(↑p.length:Int)],_,wr .i64 (z0+(1:Int))=z3,An [z5,Zz,Zz,z5,z2=z2,z4=z4,z4=z4,Sm (↑x:Int),z2=z2,z3=z3,Tt],An [Sm [V.nils,V.nils],TT 2],An [D=D,_],An [z5,An [Zz,Sm p.length,Sm (n-n)],Tt],Tt]) ⟨aq,a_,s0,s1,s2,s3,s4,a_,s5,aq,a_,a_,⟨aq,hDf⟩,a_⟩
 ·obtain rfl : m = n := by omega
  rw[hB]at hC
  subst hC
  refine .inr ⟨.exit 2,[0,1,2],rd2 p x k m (m,B),[no 44],1000,.inl ⟨trivial,rfl,rfl⟩,?_⟩
  clear hA hB hx
  exact m_ (p:=let z2:=An [Sm p.length,Sm (ut p)];let z0:=(↑m:Int);let z1:=(↑k:Int);An [decide (z0<z0)=false,An [z2,Zz,Zz,z2,z0=z0,z1=z1,z1=z1,Sm (↑x:Int),z0=z0,z0=z0,Tt],An [Sm [V.nils,V.nils],TT 2],An [B=B,_],An [z2,An [Zz,Sm p.length,Sm (m-m)],Tt],Tt]) ⟨aq,a_,a_,⟨aq,hCf⟩,a_⟩
abbrev rd1(p:List Nat)(n:Nat)(q:Nat×List V):SL:={sl:=[(0,ul p),(2,.ptr 0 0),(4,.ptr 2 0),(28,ul p),(29,i6 (n:Nat)),(30,i6 (q.1:Nat))],os:=rdO p n q.2,md:=[0,0,1]}
theorem Qka(p:List Nat)(hl:p.length≤64)(h64:S64 p)(n:Nat)(hn:p.length=n)(hW: ∀k,k<n→p.getD k 0/2^n=0)(A B:List V)(hA:uF (chR p 0) n=A)(hB:uF (chR p n) n=B):
  Sat Pg none 0 (at' 106 [1,0,1,1,0,1,0]) (mkSt g0 95 (rd1 p n (0,A))) (Qae g0 95 [(True,.exit 0,rd1 p n (n,B))]):=by
 have hp:=Qag p
 refine Qaw vE_ok Qaf Qab (b:=at' 106 [1,0,1,1,0,1,0,0]) (by kernel_rfl) (fun q=>q.1≤n∧uF (chR p q.1) n=q.2) (rd1 p n) (fun q=>n-q.1) (fun q hq=>?_) (0,A) ⟨Nat.zero_le _,hA⟩
 obtain⟨k,C⟩:=q
 obtain⟨hk,hC⟩:=hq
 dsimp only at hk hC
 have hCf:HfL C:=by rw[←hC];exact Qak _ _
 by_cases hlt:k<n
 ·have s0 := Qa0 (l := p) (k := k) (by omega)
  have s1:=Qc5 (G:=Qac Pg) (t:=29) (x:=p.getD k 0) (k:=n) (by omega)
  rw[hW k hlt]at s1
  have hin:=Qrw p hl h64 n k (p.getD k 0) hn hlt rfl C (uF (chR p (k+1)) n) (by rw[chI_zero];exact hC) (Qpi p k n)
  have hDf:=Qak (chR p (k+1)) n
  generalize hD:uF (chR p (k+1)) n=D at*
  generalize p.getD k 0=x at*
  refine .inl ⟨(k+1,D),[0,1,2],[yes 31,pl 33,ld 34 (u6 (x:Nat)),va 38 (u6 (0:Nat)),no 39,(0,.loop [0,1,2] (rd2 p x k n (0,C)) [(True,.exit 2,rd2 p x k n (n,D))]),nu 60 ((k+1:Nat):Int)],1000,⟨hlt,hD⟩,by dsimp only;omega,?_⟩
  clear hC hD hA hB
  exact m_ (p:=let z4:=An [Sm p.length,Sm (ut p)];let z5:=An [z4,An [Zz,Sm p.length,Sm (n-n)],Tt];let z0:=(↑k:Int);let z1:=(↑n:Int);let z2:=[V.nils,V.nils];let z3:=(↑(k+1):Int);An [decide (z0<z1)=true,An [(0:Int)≤z0,z0<(↑p.length:Int)],_,binV (Qac Tryz.prog) BinOp.shr 29 (u6 ↑x) (i6 ↑p.length)=some (u6 ↑(0:Nat)),((↑(0:Nat):Int) != (0:Int))=false,An [An [z4,Zz,Zz,z4,z1=z1,z0=z0,z0=z0,Sm (↑x:Int),z1=(↑p.length:Int),(↑(0:Nat):Int)=(0:Int),Tt],An [z2=z2,TT 2],An [C=C,_],z5,Tt],_,(True->An [wr .i64 (z0+(1:Int))=z3,An [z4,Zz,Zz,z4,z1=z1,z3=z3,Tt],An [z2=z2,TT 2],An [D=D,_],z5,Tt]),Tt]) ⟨aq,a_,s0,aq,aq,⟨a_,a_,⟨aq,hCf⟩,a_⟩,hin,(fun _=>⟨aq,a_,a_,⟨aq,hDf⟩,a_⟩),aq⟩
 ·obtain rfl : k = n := by omega
  rw[hB]at hC
  subst hC
  refine .inr ⟨.exit 0,[0,1,2],rd1 p k (k,B),[no 31],1000,.inl ⟨trivial,rfl,rfl⟩,?_⟩
  clear hA hB
  exact m_ (p:=let z1:=An [Sm p.length,Sm (ut p)];let z0:=(↑k:Int);An [decide (z0<z0)=false,An [z1,Zz,Zz,z1,z0=z0,z0=z0,Tt],An [Sm [V.nils,V.nils],TT 2],An [B=B,_],An [z1,An [Zz,Sm p.length,Sm (k-k)],Tt],Tt]) ⟨aq,a_,a_,⟨aq,hCf⟩,a_⟩
def okN(p:List Nat)(s k:Nat):Prop:=s.testBit k=false∧mi (p.getD k 0) s=0
abbrev rd4(p:List Nat)(n i s:Nat)(C:List V)(k:Nat):SL:={sl:=[(0,ul p),(2,.ptr 0 0),(4,.ptr 2 0),(8,u6 (s:Nat)),(64,i6 (n:Nat)),(65,i6 (i:Nat)),(69,ul p),(70,i6 (n:Nat)),(71,i6 (k:Nat))],os:=rdO p n C,md:=[0,0,1]}
abbrev rd3(p:List Nat)(n:Nat)(C:List V)(q:Nat×Nat):SL:={sl:=[(0,ul p),(2,.ptr 0 0),(4,.ptr 2 0),(8,u6 (q.2:Nat)),(64,i6 (n:Nat)),(65,i6 (q.1:Nat))],os:=rdO p n C,md:=[0,0,1]}
theorem Qj9(p:List Nat)(hl:p.length≤64)(h64:S64 p)(n i s:Nat)(hn:p.length=n)(hs:s<18446744073709551616)(C:List V)(hC:HfL C)(u:Nat)(hu:u<n)(hok:okN p s u)(hmin: ∀i,i<u→¬okN p s i):
  Sat Pg none 0 (at' 106 [1,0,1,1,1,1,1,0,1,0,0,1,1,0,0,0,1,0]) (mkSt g0 95 (rd4 p n i s C 0)) (Qae g0 95 [(True,.exit 5,rd3 p n C (i,s|||2^u))]):=by
 have hp:=Qag p
 refine Qaw vE_ok Qaf Qab (b:=at' 106 [1,0,1,1,1,1,1,0,1,0,0,1,1,0,0,0,1,0,0]) (by kernel_rfl) (fun q=>q≤u) (rd4 p n i s C) (fun q=>u-q) (fun k hk=>?_) 0 (Nat.zero_le _)
 have hlt:k<n:=by omega
 have s0:=Qa0 (l:=p) (k:=k) (by omega)
 have s1:=Qc5 (G:=Qac Pg) (t:=29) (x:=s) (k:=k) (by omega)
 have s2:=Qc6 (G:=Qac Pg) (t:=29) (x:=s/2^k)
 have s3:=mi_u (G:=Qac Pg) (t:=29) (h64.get k) hs
 obtain⟨s4,s5⟩:=Qew (G:=Qac Pg) (t:=29) (k:=k) (by omega)
 have s6:=(or_u (G:=Qac Pg) (t:=29) hs s5).1
 by_cases hku:k=u
 ·subst hku
  obtain⟨hb,hm⟩:=hok
  have hbe:s/2^k%2=0:=by rw[Qbx,hb];rfl
  rw[hm]at s3
  rw[hbe]at s2
  generalize s/2^k=x1 at*
  generalize 2^k=z at*
  generalize s|||z=s' at*
  generalize p.getD k 0=x at*
  refine .inr ⟨.exit 5,[0,1,2],rd3 p n C (i,s'),[yes 72,pl 74,ld 75 (u6 (x:Nat)),va 78 (u6 (x1:Nat)),va 79 (u6 (0:Nat)),yes 80,va 84 (u6 (0:Nat)),yes 85,va 89 (u6 (z:Nat)),va 90 (u6 (s':Nat))],1000,.inl ⟨trivial,rfl,rfl⟩,?_⟩
  clear hmin
  exact m_ (p:=let z5:=An [Sm p.length,Sm (ut p)];let z1:=((↑(0:Nat):Int)==(0:Int));let z2:=(↑k:Int);let z3:=(↑n:Int);An [decide (z2<z3)=true,An [(0:Int)≤z2,z2<(↑p.length:Int)],_,_,_,z1=true,_,z1=true,_,_,An [z5,Zz,Zz,Sm (↑s':Int),z3=z3,Sm (↑i:Int),Tt],An [Sm [V.nils,V.nils],TT 2],An [C=C,_],An [z5,An [Zz,Sm p.length,Sm (n-n)],Tt],Tt]) ⟨aq,a_,s0,s1,s2,aq,s3,aq,s4,s6,a_,a_,⟨aq,hC⟩,a_⟩
 ·have hno := hmin k (by omega)
  cases hb:s.testBit k with
  |true=>
   have hbe:s/2^k%2=1:=by rw[Qbx,hb];rfl
   rw[hbe]at s2
   generalize s/2^k=x1 at*
   generalize p.getD k 0=x at*
   refine .inl ⟨k+1,[0,1,2],[yes 72,pl 74,ld 75 (u6 (x:Nat)),va 78 (u6 (x1:Nat)),va 79 (u6 (1:Nat)),no 80,nu 91 ((k+1:Nat):Int)],1000,by omega,by omega,?_⟩
   clear hmin hno
   exact m_ (p:=let z3:=An [Sm p.length,Sm (ut p)];let z0:=(↑n:Int);let z1:=(↑(k+1):Int);let z2:=(↑k:Int);An [decide (z2<z0)=true,An [(0:Int)≤z2,z2<(↑p.length:Int)],_,_,_,((↑(1:Nat):Int)==(0:Int))=false,wr .i64 (z2+(1:Int))=z1,An [z3,Zz,Zz,Sm (↑s:Int),z0=z0,Sm (↑i:Int),z3,z0=z0,z1=z1,Tt],An [Sm [V.nils,V.nils],TT 2],An [C=C,_],An [z3,An [Zz,Sm p.length,Sm (n-n)],Tt],Tt]) ⟨aq,a_,s0,s1,s2,aq,aq,a_,a_,⟨aq,hC⟩,a_⟩
  |false=>
   have hbe:s/2^k%2=0:=by rw[Qbx,hb];rfl
   have hm:mi (p.getD k 0) s≠0:=fun e=>hno ⟨hb,e⟩
   rw[hbe]at s2
   generalize s/2^k=x1 at*
   generalize mi (p.getD k 0) s=y at*
   generalize p.getD k 0=x at*
   refine .inl ⟨k+1,[0,1,2],[yes 72,pl 74,ld 75 (u6 (x:Nat)),va 78 (u6 (x1:Nat)),va 79 (u6 (0:Nat)),yes 80,va 84 (u6 (y:Nat)),no 85,nu 91 ((k+1:Nat):Int)],1000,by omega,by omega,?_⟩
   clear hmin hno
   exact m_ (p:=let z4:=An [Sm p.length,Sm (ut p)];let z0:=(↑n:Int);let z2:=(↑(k+1):Int);let z3:=(↑k:Int);An [decide (z3<z0)=true,An [(0:Int)≤z3,z3<(↑p.length:Int)],_,_,_,((↑(0:Nat):Int)==(0:Int))=true,_,((↑y:Int)==(0:Int))=false,wr .i64 (z3+(1:Int))=z2,An [z4,Zz,Zz,Sm (↑s:Int),z0=z0,Sm (↑i:Int),z4,z0=z0,z2=z2,Tt],An [Sm [V.nils,V.nils],TT 2],An [C=C,_],An [z4,An [Zz,Sm p.length,Sm (n-n)],Tt],Tt]) ⟨aq,a_,s0,s1,s2,aq,s3,aq,aq,a_,a_,⟨aq,hC⟩,a_⟩
def Acy(p:List Nat):Prop:=∃rk:Nat→Nat,∀u,u<p.length→∀v,(p.getD u 0).testBit v=true→v<p.length∧rk v<rk u
theorem Qms{P:Nat→Prop}{n:Nat}(h: ∃k,k<n∧P k): ∃k,k<n∧P k∧∀i,i<k→¬P i:=by
 obtain⟨k,hk,hp⟩:=h
 induction k using Nat.strongRecOn with
 | ind k ih =>
  by_cases hb: ∃b,b<k∧P b
  ·obtain ⟨b, h1, h2⟩ := hb
   exact ih b h1 (by omega) h2
  ·exact⟨k,hk,hp,fun i hi hpi=>hb ⟨i,hi,hpi⟩⟩
theorem Ql9{p:List Nat}(h:Acy p)(h64:S64 p){s:Nat}(hs:s<18446744073709551616)(hv: ∃v,v<p.length∧s.testBit v=false): ∃u,u<p.length∧okN p s u∧∀i,i<u→¬okN p s i:=by
 obtain⟨rk,hr⟩:=h
 refine Qms ?_
 obtain⟨v,hv,hb⟩:=hv
 generalize hm:rk v=m
 induction m using Nat.strongRecOn generalizing v with
 | ind m ih =>
  by_cases hok:mi (p.getD v 0) s=0
  ·exact⟨v,hv,hb,hok⟩
  ·obtain ⟨b, hbb⟩ : ∃ b, (mi (p.getD v 0) s).testBit b = true := by
    by_cases hx: ∃b,(mi (p.getD v 0) s).testBit b=true
    ·exact hx
    ·exact absurd (Qpb fun i=>by
      cases hi:(mi (p.getD v 0) s).testBit i with
      |false=>rfl
      |true=>exact absurd ⟨i,hi⟩ hx) hok
   rw[Qep (h64.get v) hs]at hbb
   simp only[Bool.and_eq_true,Bool.not_eq_true']at hbb
   obtain⟨h1,h2⟩:=hr v hv b hbb.1
   exact ih (rk b) (by omega) b h1 hbb.2 rfl
theorem miss_of{l:List Nat}{n:Nat}(hn:l.Nodup)(hl:l.length<n)(hlt: ∀x∈l,x<n): ∃v,v<n∧v∉l:=by
 by_cases h: ∃v,v<n∧v∉l
 ·exact h
 ·have hp : (List.range n).Perm l := (List.perm_ext_iff_of_nodup List.nodup_range hn).2 fun a => ⟨fun ha => by
   by_cases hb:a∈l
   ·exact hb
   ·exact absurd ⟨a,List.mem_range.1 ha,hb⟩ h,fun ha=>List.mem_range.2 (hlt a ha)⟩
  have:=hp.length_eq
  rw[List.length_range]at this
  omega
def SetOf(l:List Nat)(s:Nat):Prop:=∀b,s.testBit b=decide (b∈l)
theorem SetOf.lt{l:List Nat}{s n:Nat}(h:SetOf l s)(hl: ∀x∈l,x<n):s<2^n:=by
 refine Nat.lt_pow_two_of_testBit s fun i hi=>?_
 rw[h i]
 exact decide_eq_false fun hm=>absurd (hl i hm) (by omega)
theorem SetOf.put{l:List Nat}{s u:Nat}(h:SetOf l s):SetOf (l++[u]) (s|||2^u):=by
 intro b
 rw[Nat.testBit_or,h b,Nat.testBit_two_pow]
 by_cases e:u=b
 ·subst e;simp
 ·simp[e,Ne.symm e]
theorem Qod(p:List Nat)(hl:p.length≤64)(h64:S64 p)(hac:Acy p)(n:Nat)(hn:p.length=n)(C:List V)(hC:HfL C):
  Sat Pg none 0 (at' 106 [1,0,1,1,1,1,1,0,1,0]) (mkSt g0 95 (rd3 p n C (0,0))) (Qae g0 95 [(True,.exit 4,{sl:=[(2,.ptr 0 0),(4,.ptr 2 0)],os:=rdO p n C,md:=[0,0,1]})]):=by
 have hp:=Qag p
 refine Qaw vE_ok Qaf Qab (b:=at' 106 [1,0,1,1,1,1,1,0,1,0,0]) (by kernel_rfl) (fun q=>q.1≤n∧∃l:List Nat,l.Nodup∧l.length=q.1∧(∀x∈l,x<n)∧SetOf l q.2) (rd3 p n C) (fun q=>n-q.1) (fun q hq=>?_) (0,0) ⟨Nat.zero_le _,[],List.nodup_nil,rfl,fun x hx=>(by cases hx),fun b=>by simp⟩
 obtain⟨i,s⟩:=q
 obtain⟨hi,l,h1,h2,h3,h4⟩:=hq
 dsimp only at hi h2 h4
 have hs2:s<2^n:=h4.lt h3
 have hs:s<18446744073709551616:=Nat.lt_of_lt_of_le hs2 (Nat.pow_le_pow_right (n:=2) (by decide) (show n≤64 by omega))
 by_cases hlt:i<n
 ·obtain ⟨v, hv, hvl⟩ := miss_of h1 (by omega) h3
  obtain⟨u,hu,hok,hmin⟩:=Ql9 hac h64 hs ⟨v,by omega,by rw[h4 v];exact decide_eq_false hvl⟩
  have hf:=Qj9 p hl h64 n i s hn hs C hC u (by omega) hok hmin
  have hul:u∉l:=fun hm=>by
   have:=hok.1
   rw[h4 u,decide_eq_true hm]at this
   cases this
  have hnext:(fun q:Nat×Nat=>q.1≤n∧∃l:List Nat,l.Nodup∧l.length=q.1∧(∀x∈l,x<n)∧SetOf l q.2) (i+1,s|||2^u):=by
   refine⟨hlt,l++[u],?_,by simp;omega,fun x hx=>?_,h4.put⟩
   ·rw [List.nodup_append]
    exact⟨h1,by simp,fun a ha b hb e=>by
     obtain rfl:=List.mem_singleton.1 hb
     exact hul (e▸ha)⟩
   ·rcases List.mem_append.1 hx with hx | hx
    ·exact h3 x hx
    ·obtain rfl:=List.mem_singleton.1 hx;omega
  generalize s|||2^u=s' at*
  refine .inl ⟨(i+1,s'),[0,1,2],[yes 66,(0,.loop [0,1,2] (rd4 p n i s C 0) [(True,.exit 5,rd3 p n C (i,s'))]),nu 93 ((i+1:Nat):Int)],1000,hnext,by dsimp only;omega,?_⟩
  clear hnext hmin hok hul
  exact m_ (p:=let z4:=An [Sm p.length,Sm (ut p)];let z5:=An [z4,An [Zz,Sm p.length,Sm (n-n)],Tt];let z0:=(↑n:Int);let z1:=[V.nils,V.nils];let z2:=(↑(i+1):Int);let z3:=(↑i:Int);An [decide (z3<z0)=true,An [An [z4,Zz,Zz,Sm (↑s:Int),z0=z0,z3=z3,z4,z0=(↑p.length:Int),(↑(0:Nat):Int)=(0:Int),Tt],An [z1=z1,TT 2],An [C=C,_],z5,Tt],_,(True->An [wr .i64 (z3+(1:Int))=z2,An [z4,Zz,Zz,Sm (↑s':Int),z0=z0,z2=z2,Tt],An [z1=z1,TT 2],An [C=C,_],z5,Tt]),Tt]) ⟨aq,⟨a_,a_,⟨aq,hC⟩,a_⟩,hf,(fun _=>⟨aq,a_,a_,⟨aq,hC⟩,a_⟩),aq⟩
 ·obtain rfl : i = n := by omega
  refine .inr ⟨.exit 4,[0,1,2],{sl:=[(2,.ptr 0 0),(4,.ptr 2 0)],os:=rdO p i C,md:=[0,0,1]},[no 66],1000,.inl ⟨trivial,rfl,rfl⟩,?_⟩
  clear h1 h2 h3 h4
  exact m_ (p:=An [decide ((↑i:Int)<(↑i:Int))=false,An [Zz,Zz,Tt],An [Sm [V.nils,V.nils],TT 2],An [C=C,_],An [An [Sm p.length,Sm (ut p)],An [Zz,Sm p.length,Sm (i-i)],Tt],Tt]) ⟨aq,a_,a_,⟨aq,hC⟩,a_⟩
theorem Qbn(n:Nat){p:List Nat}:uF (chR p 0) n=rep n [u6 0]:=by
 apply List.ext_getElem?
 intro i
 unfold uF
 rw[List.getElem?_map]
 by_cases hi:i<n
 ·rw[List.getElem?_range hi,Qll n [u6 0] i (by simpa using hi),List.length_singleton,Nat.mod_one];rfl
 ·rw[List.getElem?_eq_none (by simp;omega),List.getElem?_eq_none (by rw[Qdo];simp;omega)];rfl
theorem read_fn(p:List Nat)(hl:p.length≤8)(hl1:1≤p.length)(h64:S64 p)(hac:Acy p)(hW: ∀k,k<p.length→p.getD k 0/2^p.length=0):FnOk Pg g0 106 [ul p] (.tup [.agg [ul p,.im p.length (uF (chR p p.length) p.length)],i6 0]):=by
 have hp:=Qag p
 have hA:uF (chR p 0) p.length=rep p.length [u6 0]:=Qbn p.length
 have h1:=Qka p (by omega) h64 p.length rfl hW _ _ rfl rfl
 rw[hA]at h1
 have hCf:=Qak (chR p p.length) p.length
 have hRf:HfL (rep p.length [u6 0]):=by rw[←Qbn (p:=p)];exact Qak _ _
 generalize uF (chR p p.length) p.length=C at*
 have h2:=Qod p (by omega) h64 hac p.length rfl C hCf
 have hn8:(p.length:Int)≤8:=by omega
 generalize hn:p.length=n at*
 refine FnOk.of_vc vE_ok Qaf Qab (n:=1000) (r:=[0]) (S:={sl:=[(2,.ptr 0 0),(3,i6 0)],os:=[.row 190 none [ul p,.im n C]],md:=[1]}) (hs:=[no 13,no 17,mk 24,(0,.loop [0,1,2] (rd1 p n (0,rep n [u6 0])) [(True,.exit 0,rd1 p n (n,C))]),(0,.loop [0,1,2] (rd3 p n C (0,0)) [(True,.exit 4,{sl:=[(2,.ptr 0 0),(4,.ptr 2 0)],os:=rdO p n C,md:=[0,0,1]})])]) ?_
 exact m_ (p:=let z6:=An [Sm p.length,Sm (ut p)];let z0:=(↑p.length:Int);let z1:=[V.nils,V.nils];let z2:=(↑(0:Nat):Int);let z3:=(0:Int);let z4:=V.tup [V.agg [ul p,V.im n C],i6 0];An [z4=z4,decide (z0<(1:Int))=false,decide (z0>(8:Int))=false,An [z3≤z0,z0≤z0,(↑(8:Nat):Int)*z0≤(281474976710656:Int),z0≤(9223372036854775807:Int)],An [An [z6,Zz,Zz,z6,(↑n:Int)=z0,z2=z3,Tt],An [z1=z1,TT 2],An [(rep n [u6 0])=rep p.length [u6 0],_],An [z6,An [Zz,Sm p.length,n-n=p.length-p.length],Tt],Tt],_,(True->An [An [An [z6,Zz,Zz,z2=z3,(↑n:Int)=z0,z2=z3,Tt],An [z1=z1,TT 2],An [C=C,_],An [z6,An [Zz,Sm p.length,Sm (n-n)],Tt],Tt],_,(True->An [An [Zz,z3=z3,Tt],An [z6,An [n=p.length,C=C,_],Tt],Tt]),Tt]),Tt]) ⟨aq,aq,aq,a_,⟨a_,a_,⟨aq,hRf⟩,a_⟩,h1,(fun _=>⟨⟨a_,a_,⟨aq,hCf⟩,a_⟩,h2,(fun _=>⟨a_,⟨aq,⟨aq,aq,hCf⟩,aq⟩,aq⟩),aq⟩),aq⟩
structure GrOk(p j:List Nat):Prop where
 l1:1≤p.length
 l5:p.length≤5
 p64:S64 p
 acy:Acy p
 pw: ∀k,k<p.length→p.getD k 0/2^p.length=0
 jl:j.length=p.length
 j64:S64 j
 jw: ∀k,k<p.length→j.getD k 0/2^p.length=0
 jk: ∀k,k<p.length→(j.getD k 0).testBit k=false
 js: ∀k m,k<p.length→m<p.length→(j.getD k 0).testBit m=(j.getD m 0).testBit k
theorem Qkf(p:List Nat)(hl:p.length≤8)(hl1:1≤p.length)(h64:S64 p)(hac:Acy p)(hW: ∀k,k<p.length→p.getD k 0/2^p.length=0):FnOk Pg g0 64 [ul p] (i6 0):=by
 have hp:=Qag p
 have h1:=read_fn p hl hl1 h64 hac hW
 have hCf:=Qak (chR p p.length) p.length
 generalize uF (chR p p.length) p.length=C at*
 refine FnOk.of_vc vE_ok Qaf Qab (n:=1000) (r:=[]) (S:={sl:=[(2,i6 0)]}) (hs:=[fn 7 (.tup [.agg [ul p,.im p.length C],i6 0])]) ?_
 exact m_ (p:=An [Sm (i6 0),An [Tt,Tt],_,Tt,An [Sm (0:Int),Tt],Tt]) ⟨aq,a_,h1,a_⟩
abbrev ck2(j:List Nat)(n k x m:Nat):SL:={sl:=[(1,ul j),(5,i6 (n:Nat)),(25,ul j),(26,i6 (n:Nat)),(27,i6 (k:Nat)),(6,i6 (k:Nat)),(7,u6 (x:Nat)),(43,ul j),(44,i6 (n:Nat)),(45,i6 (m:Nat))]}
abbrev ck1(j:List Nat)(n k:Nat):SL:={sl:=[(1,ul j),(5,i6 (n:Nat)),(25,ul j),(26,i6 (n:Nat)),(27,i6 (k:Nat))]}
theorem check_in(p j:List Nat)(h:GrOk p j)(n k x:Nat)(hn:j.length=n)(hk:k<n)(hx:j.getD k 0=x):
  Sat Pg none 0 (at' 21 [1,1,1,0,1,0,0,1,1,0,0,1,1,1,0]) (mkSt g0 61 (ck2 j n k x 0)) (Qae g0 61 [(True,.exit 2,ck2 j n k x n)]):=by
 have hj:=Qag j
 have hjl:=h.jl
 have h5:=h.l5
 refine Qaw vE_ok Qaf Qab (b:=at' 21 [1,1,1,0,1,0,0,1,1,0,0,1,1,1,0,0]) (by kernel_rfl) (fun m=>m≤n) (ck2 j n k x) (fun m=>n-m) (fun m hm=>?_) 0 (Nat.zero_le _)
 by_cases hlt:m<n
 ·have s0 := Qa0 (l := j) (k := m) (by omega)
  have s1:=Qc5 (G:=Qac Pg) (t:=29) (x:=x) (k:=m) (by omega)
  have s2:=Qc6 (G:=Qac Pg) (t:=29) (x:=x/2^m)
  have s3:=Qc5 (G:=Qac Pg) (t:=29) (x:=j.getD m 0) (k:=k) (by omega)
  have s4:=Qc6 (G:=Qac Pg) (t:=29) (x:=j.getD m 0/2^k)
  have e:x/2^m%2=j.getD m 0/2^k%2:=by
   have:=h.js k m (by omega) (by omega)
   rw[hx]at this
   rw[Qbx,Qbx,this]
  rw[←e]at s4
  generalize j.getD m 0=y at*
  generalize y/2^k=y1 at*
  generalize x/2^m=x1 at*
  generalize x1%2=x2 at*
  refine .inl ⟨m+1,[],[yes 46,pl 48,ld 49 (u6 (y:Nat)),va 52 (u6 (x1:Nat)),va 53 (u6 (x2:Nat)),va 56 (u6 (y1:Nat)),va 57 (u6 (x2:Nat)),no 58,nu 59 ((m+1:Nat):Int)],1000,by omega,by omega,?_⟩
  clear e h
  exact m_ (p:=let z5:=An [Sm j.length,Sm (ut j)];let z0:=(↑n:Int);let z2:=(↑(m+1):Int);let z3:=(↑m:Int);let z4:=(↑k:Int);An [decide (z3<z0)=true,An [(0:Int)≤z3,z3<(↑j.length:Int)],_,_,_,_,_,((↑x2:Int) != (↑x2:Int))=false,wr .i64 (z3+(1:Int))=z2,An [z5,z0=z0,z5,z0=z0,z4=z4,z4=z4,Sm (↑x:Int),z5,z0=z0,z2=z2,Tt],Tt]) ⟨aq,a_,s0,s1,s2,s3,s4,a_⟩
 ·obtain rfl : m = n := by omega
  refine .inr ⟨.exit 2,[],ck2 j m k x m,[no 46],1000,.inl ⟨trivial,rfl,rfl⟩,?_⟩
  clear h
  refine Eq.mp (by kernel_rfl:(let z2:=An [Sm j.length,Sm (ut j)];let z0:=(↑m:Int);let z1:=(↑k:Int);An [decide (z0<z0)=false,An [z2,z0=z0,z2,z0=z0,z1=z1,z1=z1,Sm (↑x:Int),z2,z0=z0,z0=z0,Tt],Tt])=_) ?_
  (repeat'(first|(with_reducible apply And.intro)|(refine fun(_:True)=>?_)))<;>first|exact aq|skip
  all_goals skip
theorem Qpk(p j:List Nat)(h:GrOk p j)(n:Nat)(hn:j.length=n):
  Sat Pg none 0 (at' 21 [1,1,1,0,1,0]) (mkSt g0 61 (ck1 j n 0)) (Qae g0 61 [(True,.exit 0,ck1 j n n)]):=by
 have hj:=Qag j
 have hjl:=h.jl
 have h5:=h.l5
 refine Qaw vE_ok Qaf Qab (b:=at' 21 [1,1,1,0,1,0,0]) (by kernel_rfl) (fun k=>k≤n) (ck1 j n) (fun k=>n-k) (fun k hk=>?_) 0 (Nat.zero_le _)
 by_cases hlt:k<n
 ·have s0 := Qa0 (l := j) (k := k) (by omega)
  have s1:=Qc5 (G:=Qac Pg) (t:=29) (x:=j.getD k 0) (k:=n) (by omega)
  have hw:=h.jw k (by omega)
  rw[←hjl,hn]at hw
  rw[hw]at s1
  have s2:=Qc5 (G:=Qac Pg) (t:=29) (x:=j.getD k 0) (k:=k) (by omega)
  have s3:=Qc6 (G:=Qac Pg) (t:=29) (x:=j.getD k 0/2^k)
  have hb:=h.jk k (by omega)
  have hbe:j.getD k 0/2^k%2=0:=by rw[Qbx,hb];rfl
  rw[hbe]at s3
  have hin:=check_in p j h n k (j.getD k 0) hn hlt rfl
  generalize j.getD k 0=x at*
  generalize x/2^k=x1 at*
  refine .inl ⟨k+1,[],[yes 28,pl 30,ld 31 (u6 (x:Nat)),va 34 (u6 (0:Nat)),va 39 (u6 (x1:Nat)),va 40 (u6 (0:Nat)),(0,.loop [] (ck2 j n k x 0) [(True,.exit 2,ck2 j n k x n)]),nu 60 ((k+1:Nat):Int)],1000,by omega,by omega,?_⟩
  clear hw hb hbe h
  exact m_ (p:=let z5:=An [Sm j.length,Sm (ut j)];let z0:=(↑n:Int);let z1:=(↑k:Int);let z3:=(↑(k+1):Int);An [decide (z1<z0)=true,An [(0:Int)≤z1,z1<(↑j.length:Int)],_,_,_,_,An [An [z5,z0=z0,z5,z0=z0,z1=z1,z1=z1,Sm (↑x:Int),z5,z0=(↑j.length:Int),(↑(0:Nat):Int)=(0:Int),Tt],Tt],_,(True->An [wr .i64 (z1+(1:Int))=z3,An [z5,z0=z0,z5,z0=z0,z3=z3,Tt],Tt]),Tt]) ⟨aq,a_,s0,s1,s2,s3,a_,hin,a_⟩
 ·obtain rfl : k = n := by omega
  refine .inr ⟨.exit 0,[],ck1 j k k,[no 28],1000,.inl ⟨trivial,rfl,rfl⟩,?_⟩
  clear h
  refine Eq.mp (by kernel_rfl:(let z1:=An [Sm j.length,Sm (ut j)];let z0:=(↑k:Int);An [decide (z0<z0)=false,An [z1,z0=z0,z1,z0=z0,z0=z0,Tt],Tt])=_) ?_
  (repeat'(first|(with_reducible apply And.intro)|(refine fun(_:True)=>?_)))<;>first|exact aq|skip
  all_goals skip
theorem Qeb(p j:List Nat)(h:GrOk p j):FnOk Pg g0 21 [ul p,ul j] (i6 0):=by
 have hp:=Qag p
 have hj:=Qag j
 have h5:=h.l5
 have hjl:=h.jl
 have h1:=Qkf p (by omega) h.l1 h.p64 h.acy h.pw
 have h2:=Qpk p j h j.length rfl
 generalize hn:p.length=n at*
 rw[hjl]at h2
 show FnOk Pg g0 21 [.im p.length (ut p),.im j.length (ut j)] (i6 0)
 have h1':FnOk Pg g0 64 [.im n (ut p)] (i6 0):=by rw[←hn];exact h1
 have h2':Sat Pg none 0 (at' 21 [1,1,1,0,1,0]) (mkSt g0 61 {sl:=[(1,.im n (ut j)),(5,i6 (n:Nat)),(25,.im n (ut j)),(26,i6 (n:Nat)),(27,i6 (0:Nat))]}) (Qae g0 61 [(True,.exit 0,{sl:=[(1,.im n (ut j)),(5,i6 (n:Nat)),(25,.im n (ut j)),(26,i6 (n:Nat)),(27,i6 (n:Nat))]})]):=by
  rw[←hjl];rw[←hjl]at h2;exact h2
 rw[hn,hjl]
 clear h hn hjl
 refine FnOk.of_vc vE_ok Qaf Qab (n:=1000) (r:=[]) (S:={sl:=[(4,i6 0)]}) (hs:=[no 13,fn 16 (i6 0),no 23,(0,.loop [] {sl:=[(1,.im n (ut j)),(5,i6 (n:Nat)),(25,.im n (ut j)),(26,i6 (n:Nat)),(27,i6 (0:Nat))]} [(True,.exit 0,{sl:=[(1,.im n (ut j)),(5,i6 (n:Nat)),(25,.im n (ut j)),(26,i6 (n:Nat)),(27,i6 (n:Nat))]})])]) ?_
 exact m_ (p:=let z0:=(↑n:Int);An [Sm (i6 0),decide (z0>(5:Int))=false,An [Tt,Tt],_,Tt,(z0 != z0)=false,An [An [An [n=n,Sm (ut j)],z0=z0,An [n=n,Sm (ut j)],z0=z0,(↑(0:Nat):Int)=(0:Int),Tt],Tt],_,(True->An [An [Sm (0:Int),Tt],Tt]),Tt]) ⟨aq,aq,a_,h1',aq,aq,a_,h2',a_⟩
theorem Qfz{n:Nat}(h:n<64):alN n<18446744073709551616:=by
 have:=Nat.pow_le_pow_right (n:=2) (by decide) (show n≤63 by omega)
 unfold alN;omega
structure AskOk(n xs ys:Nat):Prop where
 x:mi xs (alN n)=0
 y:mi ys (alN n)=0
 d:xs&&& ys=0
 n0:ys≠0
 x64:xs<18446744073709551616
 y64:ys<18446744073709551616
noncomputable def dcC:Code:=at' 24 [1,1,1,1,1,0,1,0]
noncomputable def dcB:Code:=rfBody dcC
noncomputable def dcA:Code:=rfAsg dcC
theorem dc_eq:dcC= .rangeFunc (.tmp 25) #[26] dcA dcB:=by kernel_rfl
abbrev lsO(v:V):O:=.row 55 none [v]
abbrev lsL(A:List V):O:=.row 29 (some 1) A
abbrev dcS(p j:List Nat)(s:Nat):List (Nat×V):=[(8,.ptr 0 0),(9,.ptr 1 0),(25,ptC p j s)]
abbrev dc0(d:Nat):List (Nat×V):=[(9,.ptr 1 0),(26,u6 (d:Nat))]
abbrev dc1(d:Nat):List (Nat×V):=[(9,.ptr 1 0),(10,u6 (d:Nat))]
theorem dc_asg(d:Nat)(H:T O)(nx:Nat):vc Pg vE sp0 (some 2) nx 1000 dcA [] (mkSo g0 32 (dc0 d) H nx []) (kAsgO 32 (dc1 d) H nx []):=by
 refine Eq.mp (by kernel_rfl:(An [An [Sm (V.ptr 1 0),Sm (u6 ↑d),Tt],H=H,nx=nx,([]:List Nat)=[]])=_) ?_
 (repeat'(first|(with_reducible apply And.intro)|(refine fun(_:True)=>?_)))<;>first|exact aq|skip
 all_goals first|rfl|skip
theorem src_u{H:T O}{nx d:Nat}:srcV (pt H nx (.row 29 none [u6 (d:Nat)])) 1 (.sl nx 0 1 (some 0))=some (1,[u6 (d:Nat)]):=by
 unfold srcV;dsimp only;rw[pt_eq,T.get_put,if_pos rfl];rfl
abbrev uL(d:Nat):O:=.row 29 none [u6 (d:Nat)]
theorem dc_first(d nx:Nat)(H:T O)(h1:gt H 1=some (lsO .nils))(hn:2<nx):
  vc Pg vE sp0 (some 2) nx 1000 dcB [lo_ 27 (lsO .nils) .nils,(30,.an 1 [u6 (d:Nat)]),so (lsO .nils) [.sl (nx+1) 0 1 none]] (mkSo g0 32 (dc1 d) H nx [2]) (kBdyO (pt (pt (pt H nx (uL d)) (nx+1) (lsL [u6 (d:Nat)])) 1 (lsO (.sl (nx+1) 0 1 none))) (nx+1+1) [1,2]):=by
 exact m_ (p:=let z1:=V.sl (nx+1) 0 1 none;let z3:=[u6 ↑d];let z2:=pt H nx (O.row 29 none z3);let z0:=pt z2 (nx+1) (O.row 29 (some 1) z3);An [_,headF [V.nils]=some V.nils,An [srcV z2 1 (V.sl nx 0 1 (some 0))=some (1,z3),1≤9223372036854775807,1*8≤140737488355328],An [gt z0 1=some (lsO V.nils),layE 0 [V.nils] [z1]=some [z1]],pt z0 1 (O.row 55 none [z1])=pt (pt (pt H nx (uL d)) (nx+1) (lsL z3)) 1 (lsO z1),Sm (nx+1+1),[1]++([]++[2])=[1,2]]) ⟨h1,(by rfl),⟨src_u,a_⟩,⟨(by (rw[Qaa,if_neg (by omega),Qaa,if_neg (by omega)];exact h1)),(by rfl)⟩,a_⟩
theorem dc_more(d nx h w:Nat)(A:List V)(hA:A.length=w+1)(hw:w≤1000)(H:T O)(h1:gt H 1=some (lsO (.sl h 0 (w+1) none)))(h2:gt H h=some (lsL A))(hn:2<nx)(hh:h<nx)(hh2:2<h):
  vc Pg vE sp0 (some 2) nx 1000 dcB [lo_ 27 (lsO (.sl h 0 (w+1) none)) (.sl h 0 (w+1) none),(30,.ao (lsL A) 1 [u6 (d:Nat)]),so (lsO (.sl h 0 (w+1) none)) [.sl (nx+1) 0 (w+1+1) none]] (mkSo g0 32 (dc1 d) H nx [2]) (kBdyO (pt (pt (pt (pt H nx (uL d)) h .dead) (nx+1) (lsL (A++[u6 (d:Nat)]))) 1 (lsO (.sl (nx+1) 0 (w+1+1) none))) (nx+1+1) [1,h,2]):=by
 exact m_ (p:=let z1:=V.sl (nx+1) 0 (w+1+1) none;let z2:=V.sl h 0 (w+1) none;let z4:=[u6 ↑d];let z0:=pt H nx (O.row 29 none z4);let z3:=pt (pt z0 h O.dead) (nx+1) (O.row 29 (some 1) (A++z4));An [_,headF [z2]=some z2,srcV z0 1 (V.sl nx 0 1 (some 0))=some (1,z4),gt z0 h=some (lsL A),A.length=(w+1)*1,w+1+1≤9223372036854775807,(w+1+1)*8≤140737488355328,An [gt z3 1=some (lsO z2),layE 0 [z2] [z1]=some [z1]],pt z3 1 (O.row 55 none [z1])=pt (pt (pt (pt H nx (uL d)) h O.dead) (nx+1) (lsL (A++z4))) 1 (lsO z1),Sm (nx+1+1),[1]++([h]++[2])=[1,h,2]]) ⟨h1,(by rfl),src_u,(by (rw[Qaa,if_neg (by omega)];exact h2)),aq,aq,aq,⟨(by (rw[Qaa,if_neg (by omega),Qaa,if_neg (by omega),Qaa,if_neg (by omega)];exact h1)),(by rfl)⟩,a_⟩
noncomputable abbrev tmD(p j:List Nat)(s:Nat):TM:=(mkSo g0 32 (dcS p j s) .e 0 []).tm
noncomputable abbrev lpD(p j:List Nat)(s:Nat)(ls:LoopState):O:=.loop ls none 0 (tmD p j s) [26] dcA dcB
structure DiM(Lp:O)(L:List Nat)(H:T O)(nx:Nat):Prop where
 m2:gt H 2=some Lp
 b:2<nx
 m:(L=[]∧gt H 1=some (lsO .nils))∨∃h w,2<h∧h<nx∧L.length=w+1∧gt H 1=some (lsO (.sl h 0 (w+1) none))∧gt H h=some (lsL (ut L))
theorem ut_app(a b:List Nat):ut (a++b)=ut a++ut b:=by unfold ut;rw[List.map_append]
theorem ut_len(a:List Nat):(ut a).length=a.length:=by unfold ut;rw[List.length_map]
theorem dc_round(p j:List Nat)(s d:Nat)(L:List Nat)(hl:L.length≤1000)(H:T O)(nx:Nat)(M:DiM (lpD p j s .ready) L H nx):
  ∃H' n' LL,DiM (lpD p j s .ready) (L++[d]) H' n'∧CallSpec Pg g0 (.yld 2) [u6 (d:Nat)] H nx ⟨.bool true,H',n',LL⟩:=by
 obtain⟨m2,b,m⟩:=M
 rcases m with⟨rfl,m1⟩|⟨h,w,g1,g2,g3,m1,g5⟩
 ·have hv := dc_first d nx (pt H 2 (lpD p j s .busy)) (by rw [Qaa, if_neg (by decide)]; exact m1) b
  refine⟨_,_,_,?_,CallSpec.yldO vE_ok Qaf Qab (n:=32) (hd:=2) (H:=H) (H1:=H) (fn0:=0) (tm:=tmD p j s) (ps:=[26]) (assign:=dcA) (body:=dcB) (sl0:=dc0 d) (sl1:=dc1 d) m2 rfl rfl rfl ⟨rfl,rfl,trivial⟩ (dc_asg d H nx) m2 hv ?_ (log_of (by omega) (fun i hi hr=>?_))⟩
  ·refine ⟨by rw [Qaa, if_pos rfl], by omega, .inr ⟨nx + 1, 0, by omega, by omega, rfl, ?_, ?_⟩⟩
   ·rw[Qaa,if_neg (by decide),Qaa,if_pos rfl]
   ·rw[Qaa,if_neg (by omega),Qaa,if_neg (by omega),Qaa,if_pos rfl];rfl
  ·rw[Qaa,if_neg (by decide),Qaa,if_neg (by omega),Qaa,if_neg (by omega),Qaa,if_pos rfl]
  ·simp only [List.mem_cons, List.not_mem_nil, or_false, not_or] at hi
   rw[Qaa,if_neg hi.1,Qaa,if_neg hi.2.1,Qaa,if_neg (by omega),Qaa,if_neg (by omega),Qaa,if_neg hi.1]
 ·have hv := dc_more d nx h w (ut L) (by rw [ut_len]; exact g3) (by omega) (pt H 2 (lpD p j s .busy)) (by rw [Qaa, if_neg (by decide)]; exact m1) (by rw [Qaa, if_neg (by omega)]; exact g5) b g2 g1
  refine⟨_,_,_,?_,CallSpec.yldO vE_ok Qaf Qab (n:=32) (hd:=2) (H:=H) (H1:=H) (fn0:=0) (tm:=tmD p j s) (ps:=[26]) (assign:=dcA) (body:=dcB) (sl0:=dc0 d) (sl1:=dc1 d) m2 rfl rfl rfl ⟨rfl,rfl,trivial⟩ (dc_asg d H nx) m2 hv ?_ (log_of (by omega) (fun i hi hr=>?_))⟩
  ·refine ⟨by rw [Qaa, if_pos rfl], by omega, .inr ⟨nx + 1, w + 1, by omega, by omega, by simp; omega, ?_, ?_⟩⟩
   ·rw[Qaa,if_neg (by decide),Qaa,if_pos rfl]
   ·rw[Qaa,if_neg (by omega),Qaa,if_neg (by omega),Qaa,if_pos rfl,ut_app];rfl
  ·rw[Qaa,if_neg (by decide),Qaa,if_neg (by omega),Qaa,if_neg (by omega),Qaa,if_neg (by omega),Qaa,if_pos rfl]
  ·simp only [List.mem_cons, List.not_mem_nil, or_false, not_or] at hi
   rw[Qaa,if_neg hi.1,Qaa,if_neg hi.2.1,Qaa,if_neg (by omega),Qaa,if_neg hi.2.2.1,Qaa,if_neg (by omega),Qaa,if_neg hi.1]
def diL(j:List Nat)(s k:Nat):List Nat:=(List.range k).map (dkF j s)
theorem Qmj(j:List Nat)(s k:Nat):diL j s (k+1)=diL j s k++[dkF j s k]:=by unfold diL;rw[List.range_succ,List.map_append];rfl
theorem Qik(j:List Nat)(s k:Nat):(diL j s k).length=k:=by unfold diL;rw[List.length_map,List.length_range]
theorem rn_pos{j:List Nat}{s:Nat}(hs:s<18446744073709551616)(h0:s≠0):rn j s≠0:=fun e=>by
 have h:=(rn_ok (j:=j) hs).1
 rw[e]at h
 exact h0 h
theorem Qmi(p j:List Nat)(s:Nat)(hs:s<18446744073709551616)(hl:j.length≤64)(h64:S64 j)(hr:rn j s≤1000)(H:T O)(lg:List Nat)(h1:gt H 1=some (lsO .nils)):
  ∃H1 n1 L,DiM (lpD p j s .ready) (diL j s (rn j s)) H1 n1∧Sat Pg none 0 dcC (mkSo g0 32 (dcS p j s) H 2 lg) (Qj3 g0 32 .normal (fun _=>dcS p j s) (fun _ H' nx' lg'=>H'=pt H1 2 .dead∧nx'=n1∧lg'=L++lg)):=by
 obtain⟨hrm,hrne⟩:=rn_ok (j:=j) hs
 have hrange:=Qrr (rd:=none) (nx0:=0) (n:=32) (nx:=2) (s:=s) (m:=rn j s) (sl:=dcS p j s) (H:=H) (lg:=lg) (g:=.tmp 25) (ps:= #[26]) (asg:=dcA) (body:=dcB) p j hs hl h64 hrm hrne rfl rfl (lpD p j s .ready) rfl
  (fun k H' n'=>DiM (lpD p j s .ready) (diL j s k) H' n')
  ⟨by rw[Qaa,if_pos rfl],by decide,.inl ⟨rfl,by rw[Qaa,if_neg (by decide)];exact h1⟩⟩
  (fun k hk H' n' hM => by
   obtain⟨H2,n2,L,i1,i2⟩:=dc_round p j s (dkF j s k) (diL j s k) (by rw[Qik];omega) H' n' hM
   exact⟨H2,n2,L,by rw[Qmj];exact i1,i2⟩)
  (fun H' n' hM=>hM.m2)
 obtain⟨H1,n1,L,hM,hlog,hsat⟩:=hrange
 exact⟨H1,n1,L,hM,by rw[dc_eq];exact hsat⟩
theorem gc_list{H:T O}{nx h n:Nat}{lg:List Nat}{X:List V}(hX:HfL X)(hn:h<nx)(h1:gt H h=some (lsL X)):
  Gc 0 [] (mkSo g0 32 [(6,.sl h 0 n none),(7,i6 0)] H nx lg) (mkSt g0 32 {sl:=[(6,.im n X),(7,i6 0)]}):=by
 rw[Qay]at h1
 refine⟨rfl,fun g hg=>(by cases hg),List.nodup_nil,rfl,rfl,fun i x hx=>?_,fun h' o ho hlive=>?_,fun h _ hlt=>absurd hlt (Nat.not_lt_zero _)⟩
 ·have c6 : gt (putL (blank 32) [(6, V.sl h 0 n none), (7, i6 0)]) 6 = some (.sl h 0 n none) := by kernel_rfl
  have c7:gt (putL (blank 32) [(6,V.sl h 0 n none),(7,i6 0)]) 7=some (i6 0):=by kernel_rfl
  rw[Qay]at c6 c7
  rcases putL_get _ _ _ _ hx with hmem|hmem
  ·simp only [List.mem_cons, List.not_mem_nil, or_false] at hmem
   rcases hmem with hmem|hmem
   ·cases hmem
    exact⟨_,c6,.inr (.inr ⟨h,0,none,_,_,_,rfl,⟨Nat.zero_le _,by simp,fun _ _=>Nat.zero_le _⟩,h1,ViewP.of_hf _ hX⟩)⟩
   ·cases hmem
    exact⟨_,c7,rfl⟩
  ·rw[Qbl]at hmem;cases hmem
 ·simp[mkSt,ofOs]at ho
theorem Qjl(p j:List Nat)(h:GrOk p j)(s:Nat)(hs:s<18446744073709551616)(h0:s≠0)(hsa:mi s (alN p.length)=0)(hr:rn j s≤1000):FnOk Pg g0 24 [ul p,ul j,u6 (s:Nat)] (.tup [ul (diL j s (rn j s)),i6 0]):=by
 have hp:=Qag p
 have hj:=Qag j
 have h5:=h.l5
 have hck:=Qeb p j h
 have hall:=Qo1 p j (by omega)
 have hpt:=Qm6 p j s
 have s1:=mi_u (G:=Qac Pg) (t:=29) (x:=s) (y:=alN p.length) hs (Qfz (by omega))
 rw[hsa]at s1
 obtain⟨H1,m1,L,hM,hsat⟩:=Qmi p j s hs (by have:=h.jl;omega) h.j64 hr (pt (pt (pt .e 0 (.row 138 none [.nils,.nils])) 0 (.row 138 none [ul p,ul j])) 1 (lsO .nils)) [0] rfl
 have hrp:=rn_pos (j:=j) hs h0
 obtain⟨m2,b,m⟩:=hM
 rcases m with⟨e,_⟩|⟨hq,w,g1,g2,g3,q1,q2⟩
 ·have := Qik j s (rn j s)
  rw[e]at this
  exact absurd this.symm hrp
 have hA:=Qag (diL j s (rn j s))
 have e1:ul (diL j s (rn j s))= .im (w+1) (ut (diL j s (rn j s))):=by rw[←g3]
 rw[e1]
 generalize ut (diL j s (rn j s))=A at*
 obtain⟨gq,rfl⟩: ∃g,hq=g+3:=⟨hq-3,by omega⟩
 have r1:gt (pt H1 2 .dead) 1=some (lsO (.sl (gq+3) 0 (w+1) none)):=by rw[Qaa,if_neg (by decide)];exact q1
 have r2:gt (pt H1 2 .dead) (gq+3)=some (lsL A):=by rw[Qaa,if_neg (by omega)];exact q2
 generalize alN p.length=al at*
 refine FnOk.of_vcX (n:=1000) (r:=[]) (sl:=[(6,.sl (gq+3) 0 (w+1) none),(7,i6 0)]) (S:={sl:=[(6,.im (w+1) A),(7,i6 0)]}) (hs:=[fn 13 (i6 0),fn 20 (u6 (al:Nat)),va 21 (u6 (0:Nat)),fn 25 (ptC p j s),(0,.loopM (dcS p j s) .normal (fun _=>dcS p j s) (fun _ H' nx' lg'=>H'=pt H1 2 .dead∧nx'=m1∧lg'=L++[0]) (fun _ _ _ _=>[lo_ 31 (lsO (.sl (gq+3) 0 (w+1) none)) (.sl (gq+3) 0 (w+1) none)]))]) ?_
 clear g3 e1 h hsa
 refine Eq.mp (by kernel_rfl:(let z0:=V.sl (gq+3) 0 (w+1) none;let z1:=[V.im p.length (ut p),V.im j.length (ut j)];let z2:=V.tup [V.im (w+1) A,i6 0];An [z2=z2,TT 2,FnOk Pg g0 21 z1 (i6 0),Tt,An [TT 2,Tt],FnOk Pg g0 66 [V.agg z1] (u6 ↑al),Tt,binV (Qac Tryz.prog) BinOp.andNot 29 (u6 ↑s) (u6 ↑al)=some (u6 ↑(0:Nat)),An [TT 2,Tt,Tt],FnOk Pg g0 67 [V.agg z1,u6 ↑s] (ptC p j s),Tt,An [Sm (V.ptr 0 0),Sm (V.ptr 1 0),Sm (ptC p j s),Tt],Sat Pg none 0 (at' 24 [1,1,1,1,1,0,1,0]) (mkSo g0 32 (dcS p j s) (pt (pt (pt T.e 0 (O.row 138 none [V.nils,V.nils])) 0 (O.row 138 none [ul p,ul j])) 1 (O.row 55 none [V.nils])) 2 ([]++([]++([0]++([]++[]))))) (Qj3 g0 32 Ex.normal (fun x=>dcS p j s) fun x H' nx' lg'=>H'=pt H1 2 O.dead∧nx'=m1∧lg'=L++[0]),∀(h:Nat)(H:T O)(nx:Nat)(lg:List Nat),H=pt H1 2 O.dead∧nx=m1∧lg=L++[0]→An [gt H 1=some (lsO z0),headF [z0]=some z0,An [z0=z0,Sm (i6 0),Tt],Gc 0 [] (mkSo g0 32 [(6,z0),(7,i6 0)] H nx lg) (mkSt g0 32 (SL.mk [(6,V.im (w+1) A),(7,i6 0)] [] [] []))]])=_) ?_
 (repeat'(first|(with_reducible apply And.intro)|(refine fun(_:True)=>?_)))
 all_goals first|exact hck|exact hall|exact s1|exact hpt|exact hsat|(rintro h H nx lg ⟨rfl,rfl,rfl⟩;(repeat'(first|(with_reducible apply And.intro)|(refine fun(_:True)=>?_)));all_goals first|rfl|exact aq|exact r1|exact gc_list hA g2 r2|skip)|exact aq|skip
abbrev w8(n:Int):V:=.int .u8 n
def bt(l:List Nat):List V:=l.map fun(x:Nat)=>w8 (x:Int)
abbrev bl(l:List Nat):V:=.im l.length (bt l)
theorem Qau(l:List Nat):HfL (bt l):=Qe1 _ l (fun _=>trivial)
theorem Qbu{l:List Nat}{k:Nat}(h:k<l.length):headF ((bt l).drop (k*1))=some (w8 ((l.getD k 0:Nat):Int)):=by
 grind[bt,Qej]
theorem Qcp{G:Ctx}{t:Nat}{a b:Nat}(h:b≠0):binV G .rem t (i6 (a:Nat)) (i6 (b:Nat))=some (i6 ((a%b:Nat):Int)):=by
 grind[rem6]
def atF(Q:List Nat)(i:Nat):Nat:=if i<Q.length then Q.getD i 0%(i+1)else 0
theorem atF_lt(Q:List Nat)(i:Nat):atF Q i<i+1:=by
 unfold atF
 split
 all_goals simp_all[Nat.mod_lt]
def orL(Q:List Nat):Nat→List Nat
 |0=>[]
 |i+1=>(orL Q i).take (atF Q i)++[i]++(orL Q i).drop (atF Q i)
theorem Qcz(Q:List Nat): ∀i,(orL Q i).length=i
 |0=>rfl
 |i+1=>by
  have h:=Qcz Q i
  grind[orL]
theorem Qby: ∀l:List Nat,atoms (it l)=true
 |[]=>rfl
 |x::l=>Qby l
theorem Qbd{h k:Nat}{lo hi:Option Int}{a b:Nat}(e1:lo.getD 0=a)(e2:hi.getD k=b)(h1:a<b)(h2:b≤k):sliceV (Qac Pg) 47 (.sl h 0 k none) lo hi none=some (.sl h a (b-a) none):=by
 have e:sliceV (Qac Pg) 47 (.sl h 0 k none) lo hi none=(if 0≤lo.getD 0∧lo.getD 0≤hi.getD k∧hi.getD k≤((k:Int)+((0:Nat):Int))∧((k:Int)+((0:Nat):Int))≤(k:Int)+((0:Nat):Int)∧(false=true→hi.isSome=true)then(if lo.getD 0=hi.getD k then some (.im 0 [])else if lo.getD 0=0∨1≠0 then some (.sl h (0+(lo.getD 0).toNat*1) ((hi.getD k).toNat-(lo.getD 0).toNat) none)else none)else none):=by kernel_rfl
 grind
theorem Qcq{h k:Nat}{lo hi:Option Int}{a:Nat}(e1:lo.getD 0=a)(e2:hi.getD k=a)(h2:a≤k):sliceV (Qac Pg) 47 (.sl h 0 k none) lo hi none=some (.im 0 []):=by
 have e:sliceV (Qac Pg) 47 (.sl h 0 k none) lo hi none=(if 0≤lo.getD 0∧lo.getD 0≤hi.getD k∧hi.getD k≤((k:Int)+((0:Nat):Int))∧((k:Int)+((0:Nat):Int))≤(k:Int)+((0:Nat):Int)∧(false=true→hi.isSome=true)then(if lo.getD 0=hi.getD k then some (.im 0 [])else if lo.getD 0=0∨1≠0 then some (.sl h (0+(lo.getD 0).toNat*1) ((hi.getD k).toNat-(lo.getD 0).toNat) none)else none)else none):=by kernel_rfl
 simp_all
theorem Qdt{H:T O}{g t:Nat}{sp:Option Nat}{L M:List Nat}{off n:Nat}(hg:gt H g=some (.row t sp (it L)))(h:off+n≤L.length)(e:(L.drop off).take n=M):srcV H 1 (.sl g off n none)=some (n,it M):=by
 grind[Qay,srcV,it,Nat.ble_eq_true_of_le,List.map_drop,List.map_take]
abbrev dfO(P Q:List Nat):O:=.row 58 none [bl P,bl Q]
abbrev ogS(P Q:List Nat)(n:Nat)(q:Nat×List Nat):SL:={sl:=[(1,.ptr 0 0),(3,i6 (n:Nat)),(4,owV 1 q.1),(5,i6 (q.1:Nat))],os:=dfO P Q::owL 3 1 (it q.2) q.1}
theorem og_0(P Q:List Nat)(n:Nat)(hn:0<n)(hn6:n≤6)(y:Nat)(hb:0<Q.length)(hy:Q.getD (0) 0=y)(hu:y%(0+1)=0)(hx:y<256):
  vc Pg vE sp0 none 0 1000 (at' 105 [1,1,1,0,1,0,0]) [yes 19,yes 26,pl 30,ld 31 (w8 (y:Nat)),nu 32 (y:Nat),va 35 (i6 (0:Nat))] (mkSt g0 105 (ogS P Q n (0,[]))) (Qci 0 105 [0,2] (ogS P Q n (1,[0]))):=by
 have hP:=Qau P
 have hQ:=Qau Q
 have h1:=Qbu (l:=Q) (k:=0) hb
 rw[hy]at h1
 have h2:=Qcp (G:=Qac Pg) (t:=3) (a:=y) (b:=1) (by decide)
 rw[hu]at h2
 refine Eq.mp (by kernel_rfl:(let z0:=(↑(0:Nat):Int);let z2:=(↑n:Int);let z1:=wr .i64 (z0+(1:Int));An [decide (z0<z2)=true,decide (z0<(↑Q.length:Int))=true,An [(0:Int)≤z0,z0<(↑Q.length:Int)],headF (List.drop (0*1) (bt Q))=some (w8 ↑y),wr .i64 (↑y:Int)=(↑y:Int),binV (Qac Tryz.prog) BinOp.rem 3 (i6 ↑y) (i6 z1)=some (i6 ↑(0:Nat)),An [Zz,z2=z2,An [Zz,1=1,Tt],(↑(1:Nat):Int)=z1,Tt],An [Sm [bl P,bl Q],TT 2],An [it [0]=[i6 ↑(0:Nat)],Tt,Tt],Tt])=_) ?_
 (repeat'(first|(with_reducible apply And.intro)|(refine fun(_:True)=>?_)))<;>first|exact aq|skip
 all_goals trivial
theorem og_0n(P Q:List Nat)(n:Nat)(hn:0<n)(hn6:n≤6)(hb: ¬0<Q.length):
  vc Pg vE sp0 none 0 1000 (at' 105 [1,1,1,0,1,0,0]) [yes 19,no 26] (mkSt g0 105 (ogS P Q n (0,[]))) (Qci 0 105 [0,2] (ogS P Q n (1,[0]))):=by
 have hP:=Qau P
 have hQ:=Qau Q
 refine Eq.mp (by kernel_rfl:(let z0:=(↑(0:Nat):Int);let z1:=(↑n:Int);An [decide (z0<z1)=true,decide (z0<(↑Q.length:Int))=false,An [Zz,z1=z1,An [Zz,1=1,Tt],(↑(1:Nat):Int)=wr .i64 (z0+(1:Int)),Tt],An [Sm [bl P,bl Q],TT 2],An [it [0]=[i6 ↑(0:Nat)],Tt,Tt],Tt])=_) ?_
 (repeat'(first|(with_reducible apply And.intro)|(refine fun(_:True)=>?_)))<;>first|exact aq|skip
 all_goals trivial
theorem og_B(P Q:List Nat)(n:Nat)(i:Nat)(hn:i+1<n)(hn6:n≤6)(l:List Nat)(hl:l.length=i+1)(M:List Nat)(hM:it M=[i6 ((i+1:Nat):Int)]++it l)(y:Nat)(hb:i+1<Q.length)(hy:Q.getD (i+1) 0=y)(hu:y%(i+1+1)=0)(hx:y<256):
  vc Pg vE sp0 none 0 1000 (at' 105 [1,1,1,0,1,0,0]) [yes 19,yes 26,pl 30,ld 31 (w8 (y:Nat)),nu 32 (y:Nat),nu 34 ((i+1+1:Nat):Int),va 35 (i6 (0:Nat)),va 39 (.im 0 []),va 47 (.sl 1 0 (i+1) none),(48,.aop (.row 3 (some 1) ([i6 ((i+1:Nat):Int)])) (i+1) (it l)),nu 21 ((i+1+1:Nat):Int)] (mkSt g0 105 (ogS P Q n (i+1,l))) (Qci 0 105 [0,4] (ogS P Q n (i+1+1,M))):=by
 have hP:=Qau P
 have hQ:=Qau Q
 have h1:=Qbu (l:=Q) (k:=i+1) hb
 rw[hy]at h1
 have h2:=Qcp (G:=Qac Pg) (t:=3) (a:=y) (b:=i+1+1) (by omega)
 rw[hu]at h2
 have s3:=@Qcq 1 (i+1) none (some ((0:Nat):Int)) 0 rfl rfl (by omega)
 have s4:=@Qbd 1 (i+1) (some ((0:Nat):Int)) none 0 (i+1) rfl rfl (by omega) (Nat.le_refl _)
 exact m_ (p:=let z1:=(↑(i+1):Int);let z2:=(↑(i+1+1):Int);let z4:=Qac Tryz.prog;let z5:=some (↑(0:Nat):Int);let z6:=V.sl 1 0 (i+1) none;let z9:=(↑n:Int);let z7:=wr .i64 (z1+(1:Int));let z8:=O.row 3 (some 1) [i6 ↑(i+1)];let z0:=T.put (pt (ofOs T.e 0 (dfO P Q::owL 3 1 (it l) (i+1))) 2 (O.row 3 none [i6 ↑(i+1)])) 3 z8;An [decide (z1<z9)=true,decide (z1<(↑Q.length:Int))=true,An [(0:Int)≤z1,z1<(↑Q.length:Int)],_,wr .i64 (↑y:Int)=(↑y:Int),z7=z2,_,sliceV z4 47 (owV 1 (i+1)) none z5 none=some (V.im 0 []),sliceV z4 47 (owV 1 (i+1)) z5 none none=some z6,srcV z0 1 z6=some (i+1,it l),An [gt z0 3=some z8,1=1*1,1≤i+1,1+(i+1)≤9223372036854775807,(1+(i+1))*8≤140737488355328,atoms (it l)=true],z7=z2,An [Zz,z9=z9,An [Zz,Nat.succ i+1=1+(i+1),Tt],z2=z2,Tt],An [Sm [bl P,bl Q],TT 2],An [_,HfL (it M)],Tt]) ⟨aq,aq,a_,h1,aq,aq,h2,s3,s4,(by exact Qdt (L:=l) (t:=3) (sp:=some 1) (by kernel_rfl) (by omega) (List.take_of_length_le (by simp;omega))),⟨(by rfl),aq,aq,aq,aq,Qby _⟩,aq,a_,a_,⟨hM,Qaq _⟩,aq⟩
theorem og_Bn(P Q:List Nat)(n:Nat)(i:Nat)(hn:i+1<n)(hn6:n≤6)(l:List Nat)(hl:l.length=i+1)(M:List Nat)(hM:it M=[i6 ((i+1:Nat):Int)]++it l)(hb: ¬i+1<Q.length):
  vc Pg vE sp0 none 0 1000 (at' 105 [1,1,1,0,1,0,0]) [yes 19,no 26,va 39 (.im 0 []),va 47 (.sl 1 0 (i+1) none),(48,.aop (.row 3 (some 1) ([i6 ((i+1:Nat):Int)])) (i+1) (it l)),nu 21 ((i+1+1:Nat):Int)] (mkSt g0 105 (ogS P Q n (i+1,l))) (Qci 0 105 [0,4] (ogS P Q n (i+1+1,M))):=by
 have hP:=Qau P
 have hQ:=Qau Q
 have s3:=@Qcq 1 (i+1) none (some ((0:Nat):Int)) 0 rfl rfl (by omega)
 have s4:=@Qbd 1 (i+1) (some ((0:Nat):Int)) none 0 (i+1) rfl rfl (by omega) (Nat.le_refl _)
 exact m_ (p:=let z1:=(↑(i+1+1):Int);let z3:=(↑(i+1):Int);let z4:=V.sl 1 0 (i+1) none;let z6:=(↑n:Int);let z5:=O.row 3 (some 1) [i6 ↑(i+1)];let z0:=T.put (pt (ofOs T.e 0 (dfO P Q::owL 3 1 (it l) (i+1))) 2 (O.row 3 none [i6 ↑(i+1)])) 3 z5;An [decide (z3<z6)=true,decide (z3<(↑Q.length:Int))=false,sliceV (Qac Tryz.prog) 47 (owV 1 (i+1)) none (some (0:Int)) none=some (V.im 0 []),sliceV (Qac Tryz.prog) 47 (owV 1 (i+1)) (some (0:Int)) none none=some z4,srcV z0 1 z4=some (i+1,it l),An [gt z0 3=some z5,1=1*1,1≤i+1,1+(i+1)≤9223372036854775807,(1+(i+1))*8≤140737488355328,atoms (it l)=true],wr .i64 (z3+(1:Int))=z1,An [Zz,z6=z6,An [Zz,Nat.succ i+1=1+(i+1),Tt],z1=z1,Tt],An [Sm [bl P,bl Q],TT 2],An [_,HfL (it M)],Tt]) ⟨aq,aq,s3,s4,(by exact Qdt (L:=l) (t:=3) (sp:=some 1) (by kernel_rfl) (by omega) (List.take_of_length_le (by simp;omega))),⟨(by rfl),aq,aq,aq,aq,Qby _⟩,aq,a_,a_,⟨hM,Qaq _⟩,aq⟩
theorem og_A(P Q:List Nat)(n:Nat)(i a m:Nat)(hi:i+1=a+1+(m+1))(hn:i+1<n)(hn6:n≤6)(l:List Nat)(hl:l.length=i+1)(y:Nat)(hb:i+1<Q.length)(hy:Q.getD (i+1) 0=y)(hu:y%(i+1+1)=a+1)(hx:y<256):
  vc Pg vE sp0 none 0 1000 (at' 105 [1,1,1,0,1,0,0]) [yes 19,yes 26,pl 30,ld 31 (w8 (y:Nat)),nu 32 (y:Nat),nu 34 ((i+1+1:Nat):Int),va 35 (i6 ((a+1:Nat):Nat)),va 39 (.sl 1 0 (a+1) none),(40,.an (a+1) (it (l.take (a+1)))),(43,.ao (.row 3 (some 1) (it (l.take (a+1)))) 1 [i6 ((i+1:Nat):Int)]),va 47 (.sl 1 (a+1) (m+1) none),(48,.aop (.row 3 (some 1) (it (l.take (a+1))++[i6 ((i+1:Nat):Int)])) (m+1) (it (l.drop (a+1)))),nu 21 ((i+1+1:Nat):Int)] (mkSt g0 105 (ogS P Q n (i+1,l))) (Qci 0 105 [0,5] (ogS P Q n (i+1+1,l.take (a+1)++[i+1]++l.drop (a+1)))):=by
 have hP:=Qau P
 have hQ:=Qau Q
 have h1:=Qbu (l:=Q) (k:=i+1) hb
 rw[hy]at h1
 have h2:=Qcp (G:=Qac Pg) (t:=3) (a:=y) (b:=i+1+1) (by omega)
 rw[hu]at h2
 have s3:=@Qbd 1 (i+1) none (some ((a+1:Nat):Int)) 0 (a+1) rfl rfl (by omega) (by omega)
 have s4:=@Qbd 1 (i+1) (some ((a+1:Nat):Int)) none (a+1) (i+1) rfl rfl (by omega) (Nat.le_refl _)
 rw[show i+1-(a+1)=m+1 by omega]at s4
 exact m_ (p:=let z1:=List.take (a+1) l;let z3:=(↑(i+1):Int);let z4:=List.drop (a+1) l;let z5:=(↑(i+1+1):Int);let z6:=[i6 ↑(i+1)];let z7:=ofOs T.e 0 (dfO P Q::owL 3 1 (it l) (i+1));let z8:=Qac Tryz.prog;let z9:=V.sl 1 (a+1) (m+1) none;let y2:=some (↑(a+1):Int);let y4:=V.sl 1 0 (a+1) none;let y6:=(↑n:Int);let z2:=O.row 3 (some 1) (it z1++z6);let y0:=O.row 3 (some 1) (it z1);let y3:=it (z1++[i+1]++z4);let y5:=wr .i64 (z3+(1:Int));let z0:=pt (pt z7 2 y0) 3 (O.row 3 none z6);let y1:=pt (pt z0 2 O.dead) 4 z2;An [decide (z3<y6)=true,decide (z3<(↑Q.length:Int))=true,An [(0:Int)≤z3,z3<(↑Q.length:Int)],_,wr .i64 (↑y:Int)=(↑y:Int),y5=z5,_,sliceV z8 47 (owV 1 (i+1)) none y2 none=some y4,An [srcV z7 1 y4=some (a+1,it z1),a+1≤9223372036854775807,(a+1)*8≤140737488355328],srcV z0 1 (V.sl 3 0 1 (some 0))=some (1,z6),gt z0 2=some y0,List.length (it z1)=(a+1)*1,a+1+1≤9223372036854775807,(a+1+1)*8≤140737488355328,sliceV z8 47 (owV 1 (i+1)) y2 none none=some z9,srcV y1 1 z9=some (m+1,it z4),An [gt y1 4=some z2,List.length (it z1++z6)=(a+1+1)*1,1≤m+1,a+1+1+(m+1)≤9223372036854775807,(a+1+1+(m+1))*8≤140737488355328,atoms (it z4)=true],y5=z5,An [Zz,y6=y6,An [Zz,Nat.succ i+1=a+1+1+(m+1),Tt],z5=z5,Tt],An [Sm [bl P,bl Q],TT 2],An [y3=it z1++z6++it z4,HfL y3],Tt]) ⟨aq,aq,a_,h1,aq,aq,h2,s3,⟨Qdt (L:=l) (t:=3) (sp:=some 1) (by kernel_rfl) (by omega) (by rw[List.drop_zero]),a_⟩,(by rfl),(by rfl),(by (simp[it,hl];omega)),aq,aq,s4,(by exact Qdt (L:=l) (t:=3) (sp:=some 1) (by kernel_rfl) (by omega) (List.take_of_length_le (by simp;omega))),⟨(by rfl),(by (simp[it,hl];omega)),aq,aq,aq,Qby _⟩,aq,a_,a_,⟨(by (simp[it];done)),Qaq _⟩,aq⟩
theorem og_C(P Q:List Nat)(n:Nat)(i:Nat)(hn:i+1<n)(hn6:n≤6)(l:List Nat)(hl:l.length=i+1)(y:Nat)(hb:i+1<Q.length)(hy:Q.getD (i+1) 0=y)(hu:y%(i+1+1)=i+1)(hx:y<256):
  vc Pg vE sp0 none 0 1000 (at' 105 [1,1,1,0,1,0,0]) [yes 19,yes 26,pl 30,ld 31 (w8 (y:Nat)),nu 32 (y:Nat),nu 34 ((i+1+1:Nat):Int),va 35 (i6 ((i+1:Nat):Nat)),va 39 (.sl 1 0 (i+1) none),(40,.an (i+1) (it l)),(43,.ao (.row 3 (some 1) (it l)) 1 [i6 ((i+1:Nat):Int)]),va 47 (.im 0 []),nu 21 ((i+1+1:Nat):Int)] (mkSt g0 105 (ogS P Q n (i+1,l))) (Qci 0 105 [0,4] (ogS P Q n (i+1+1,l++[i+1]))):=by
 have hP:=Qau P
 have hQ:=Qau Q
 have h1:=Qbu (l:=Q) (k:=i+1) hb
 rw[hy]at h1
 have h2:=Qcp (G:=Qac Pg) (t:=3) (a:=y) (b:=i+1+1) (by omega)
 rw[hu]at h2
 have s3:=@Qbd 1 (i+1) none (some ((i+1:Nat):Int)) 0 (i+1) rfl rfl (by omega) (Nat.le_refl _)
 have s4:=@Qcq 1 (i+1) (some ((i+1:Nat):Int)) none (i+1) rfl rfl (Nat.le_refl _)
 exact m_ (p:=let z1:=(↑(i+1):Int);let z2:=(↑(i+1+1):Int);let z3:=ofOs T.e 0 (dfO P Q::owL 3 1 (it l) (i+1));let z4:=i6 ↑(i+1);let z5:=Qac Tryz.prog;let z6:=O.row 3 (some 1) (it l);let z7:=V.sl 1 0 (i+1) none;let z9:=(↑n:Int);let z0:=pt (pt z3 2 z6) 3 (O.row 3 none [z4]);let z8:=wr .i64 (z1+(1:Int));An [decide (z1<z9)=true,decide (z1<(↑Q.length:Int))=true,An [(0:Int)≤z1,z1<(↑Q.length:Int)],_,wr .i64 (↑y:Int)=(↑y:Int),z8=z2,_,sliceV z5 47 (owV 1 (i+1)) none (some z1) none=some z7,An [srcV z3 1 z7=some (i+1,it l),i+1≤9223372036854775807,(i+1)*8≤140737488355328],srcV z0 1 (V.sl 3 0 1 (some 0))=some (1,[z4]),gt z0 2=some z6,List.length (it l)=(i+1)*1,i+1+1≤9223372036854775807,(i+1+1)*8≤140737488355328,sliceV z5 47 (owV 1 (i+1)) (some z1) none none=some (V.im 0 []),z8=z2,An [Zz,z9=z9,An [Zz,Nat.succ i+1=i+1+1,Tt],z2=z2,Tt],An [Sm [bl P,bl Q],TT 2],An [it (l++[i+1])=it l++[z4],HfL (it (l++[i+1]))],Tt]) ⟨aq,aq,a_,h1,aq,aq,h2,s3,⟨(by exact Qdt (L:=l) (t:=3) (sp:=some 1) (by kernel_rfl) (by omega) (List.take_of_length_le (by simp;omega))),a_⟩,(by rfl),(by rfl),(by (simp[it,hl];done)),aq,aq,s4,aq,a_,a_,⟨(by (simp[it,hl];done)),Qaq _⟩,aq⟩
abbrev ogX(P Q:List Nat)(n:Nat)(L:List Nat):SL:={sl:=[(1,.ptr 0 0),(3,i6 (n:Nat)),(4,.sl 1 0 n none)],os:=[dfO P Q,.row 3 (some 1) (it L)]}
theorem og_exit(P Q:List Nat)(m:Nat)(L:List Nat):
  vc Pg vE sp0 none 0 1000 (at' 105 [1,1,1,0,1,0,0]) [no 19] (mkSt g0 105 (ogS P Q (m+1) (m+1,L))) (kOut 0 105 (.exit 0) [0,1] (ogX P Q (m+1) L)):=by
 have hP:=Qau P
 have hQ:=Qau Q
 have hL:=Qaq L
 exact m_ (p:=let z0:=(↑(m+1):Int);An [decide (z0<z0)=false,An [Zz,z0=z0,An [Zz,Sm (m+1),Tt],Tt],An [Sm [bl P,bl Q],TT 2],An [Sm (it L),_],Tt]) ⟨aq,a_,a_,⟨aq,hL⟩,aq⟩
theorem Qgi{Q:List Nat}(h: ∀x∈Q,x<256)(i:Nat):Q.getD i 0<256:=by
 rw[List.getD_eq_getElem?_getD]
 cases hx:Q[i]? with
 |none=>decide
 |some x=>exact h x (List.mem_of_getElem? hx)
theorem og_round(P Q:List Nat)(hQ: ∀x∈Q,x<256)(n i:Nat)(hn:i<n)(hn6:n≤6)(L:List Nat)(hL:L=orL Q i):
  ∃r hs,vc Pg vE sp0 none 0 1000 (at' 105 [1,1,1,0,1,0,0]) hs (mkSt g0 105 (ogS P Q n (i,L))) (Qci 0 105 r (ogS P Q n (i+1,orL Q (i+1)))):=by
 have hl:L.length=i:=by rw[hL];exact Qcz Q i
 have hnx:orL Q (i+1)=L.take (atF Q i)++[i]++L.drop (atF Q i):=by rw[hL];rfl
 have hlt:=atF_lt Q i
 have hy:=Qgi hQ i
 rw[hnx]
 clear hnx hL
 cases i with
 |zero=>
  obtain rfl:=List.eq_nil_of_length_eq_zero hl
  rw[List.take_nil,List.drop_nil]
  by_cases hb:0<Q.length
  ·exact⟨_,_,og_0 P Q n hn hn6 _ hb rfl (Nat.mod_one _) hy⟩
  ·exact⟨_,_,og_0n P Q n hn hn6 hb⟩
 | succ i =>
  by_cases hb:i+1<Q.length
  ·have e : atF Q (i + 1) = Q.getD (i + 1) 0 % (i + 1 + 1) := by unfold atF; rw [if_pos hb]
   generalize atF Q (i+1)=u at*
   rcases(show u=0∨u=i+1∨∃a m,u=a+1∧i+1=a+1+(m+1)by
    rcases Nat.eq_zero_or_pos u with h|h
    ·exact .inl h
    ·rcases Nat.lt_or_ge u (i + 1) with h' | h'
     ·exact .inr (.inr ⟨u-1,i-u,by omega,by omega⟩)
     ·exact .inr (.inl (by omega)))with rfl|rfl|⟨a,m,rfl,hi⟩
   ·exact⟨_,_,og_B P Q n i hn hn6 L hl _ (by simp[it]) _ hb rfl e.symm hy⟩
   ·rw [List.take_of_length_le (by omega), List.drop_eq_nil_of_le (by omega), List.append_nil]
    exact⟨_,_,og_C P Q n i hn hn6 L hl _ hb rfl e.symm hy⟩
   ·exact⟨_,_,og_A P Q n i a m hi hn hn6 L hl _ hb rfl e.symm hy⟩
  ·have e : atF Q (i + 1) = 0 := by unfold atF; rw [if_neg hb]
   rw[e]
   exact⟨_,_,og_Bn P Q n i hn hn6 L hl _ (by simp[it]) hb⟩
theorem og_loop(P Q:List Nat)(hQ: ∀x∈Q,x<256)(m:Nat)(hm:m+1≤6):
  Sat Pg none 0 (at' 105 [1,1,1,0,1,0]) (mkSt g0 105 (ogS P Q (m+1) (0,[]))) (Qae g0 105 [(True,.exit 0,ogX P Q (m+1) (orL Q (m+1)))]):=by
 refine Qaw vE_ok Qaf Qab (b:=at' 105 [1,1,1,0,1,0,0]) (by kernel_rfl) (fun q=>q.1≤m+1∧q.2=orL Q q.1) (ogS P Q (m+1)) (fun q=>m+1-q.1) (fun q hq=>?_) (0,[]) ⟨Nat.zero_le _,rfl⟩
 obtain⟨i,L⟩:=q
 obtain⟨hi,hL⟩:=hq
 dsimp only at hi hL
 by_cases hlt:i<m+1
 ·obtain ⟨r, hs, h⟩ := og_round P Q hQ (m + 1) i hlt hm L hL
  exact .inl ⟨(i+1,orL Q (i+1)),r,hs,1000,⟨hlt,rfl⟩,by dsimp only;omega,h⟩
 ·obtain rfl : i = m + 1 := by omega
  subst hL
  exact .inr ⟨.exit 0,[0,1],ogX P Q (m+1) (orL Q (m+1)),[no 19],1000,.inl ⟨trivial,rfl,rfl⟩,og_exit P Q m _⟩
theorem shr_8{G:Ctx}{t:Nat}{x k:Nat}{K:IntKind}(hk:k≤8):binV G .shr t (w8 (x:Int)) (.int K (k:Int))=some (w8 ((x/2^k:Nat):Int)):=by
 grind[binV,intV,IntKind.bits]
theorem and1_8{G:Ctx}{t:Nat}{x:Nat}:binV G .and t (w8 (x:Int)) (w8 1)=some (w8 ((x%2:Nat):Int)):=by
 have h:(BitVec.ofInt 8 (x:Int)&&& BitVec.ofInt 8 1).toNat=x%2:=by
  rw[BitVec.toNat_and]
  have h1:(BitVec.ofInt 8 1).toNat=1:=by decide
  rw[h1,Nat.and_one_is_mod]
  have h2:(BitVec.ofInt 8 (x:Int)).toNat=x%2^8:=by
   rw[BitVec.toNat_ofInt];omega
  rw[h2];omega
 have hw:IntKind.u8.wrap ((x%2:Nat):Int)=((x%2:Nat):Int):=by
  rw[←wr_eq];exact Qg9 (by grind[lo]) (by grind[hi])
 have e:binV G .and t (w8 (x:Int)) (w8 1)=some (.int .u8 (IntKind.u8.wrap ((BitVec.ofInt 8 (x:Int)&&& BitVec.ofInt 8 1).toNat:Int))):=rfl
 rw[e,h,hw]
theorem Qd2{G:Ctx}{t:Nat}{k:Nat}(hk:k<64):binV G .shl t (u6 1) (u6 (k:Int))=some (u6 ((2^k:Nat):Int))∧2^k<18446744073709551616:=by
 have hp:2^k<2^64:=Nat.pow_lt_pow_right (by omega) hk
 refine⟨?_,hp⟩
 have e:binV G .shl t (u6 1) (u6 (k:Int))=if(k:Int)<0 then none else some (.int .u64 (wr .u64 (1*((2^min ((k:Int).toNat) 64:Nat):Int)))):=rfl
 grind[wr_eq,Qez]
theorem Qmw{l:List Nat}{k:Nat}(h:k<l.length):headF (dropF (0+k*1) (it l))=some (i6 ((l.getD k 0:Nat):Int)):=by
 grind[Qa2,Qgj]
def drI(y:Nat)(o:Nat→Nat)(k:Nat)(x:Nat×(Nat→Nat)):Nat→Nat×(Nat→Nat)
 |0=>x
 |j+1=>if y/2^j%2=1∧(drI y o k x j).1<3 then((drI y o k x j).1+1,fun i=>if i=o k then(drI y o k x j).2 (o k)|||2^o j else(drI y o k x j).2 i)else drI y o k x j
theorem Qpw{y:Nat}{o:Nat→Nat}{k n:Nat}{x:Nat×(Nat→Nat)}(hn:n≤64)(ho: ∀j,j<k→o j<n)(hx: ∀i,x.2 i<2^n): ∀j,j≤k→∀i,(drI y o k x j).2 i<2^n
 |0,_,i=>hx i
 | j + 1, hj, i => by
  have ih:=Qpw (y:=y) hn ho hx j (by omega)
  unfold drI
  split
  ·dsimp only
   split
   ·exact Nat.or_lt_two_pow (ih _) (Nat.pow_lt_pow_right (by decide) (ho j (by omega)))
   ·exact ih i
  ·exact ih i
theorem Qpv{y:Nat}{o:Nat→Nat}{k:Nat}{x:Nat×(Nat→Nat)}(h0:x.1≤3): ∀j,(drI y o k x j).1≤3
 |0=>h0
 |j+1=>by
  have ih:=Qpv (y:=y) (o:=o) (k:=k) h0 j
  grind[drI]
abbrev egS(P Q:List Nat)(n:Nat)(L:List Nat)(k:Nat)(q:Nat×Nat×List V):SL:={sl:=[(1,.ptr 0 0),(3,i6 (n:Nat)),(4,.sl 1 0 n none),(8,.sl 2 0 n (some (n-n))),(9,i6 (k:Nat)),(10,i6 (q.2.1:Nat)),(11,i6 (q.1:Nat))],os:=[dfO P Q,.row 3 (some 1) (it L),.row 29 none q.2.2]}
theorem eg_in(P Q:List Nat)(hP: ∀x∈P,x<256)(n:Nat)(hn6:n≤6)(L:List Nat)(hL:L.length=n)(hLn: ∀x∈L,x<n)(k:Nat)(hk:k<n)(hkP:k<P.length)(f:Nat→Nat)(hf: ∀i,f i<2^n)(A B:List V)(c:Nat)(hA:uF f n=A)(hB:uF (drI (P.getD k 0) (fun i=>L.getD i 0) k (0,f) k).2 n=B)(hc:(drI (P.getD k 0) (fun i=>L.getD i 0) k (0,f) k).1=c):
  Sat Pg none 0 (at' 105 [1,1,1,1,1,0,1,0,0,1,0,0,1,1,0]) (mkSt g0 105 (egS P Q n L k (0,0,A))) (Qae g0 105 [(True,.exit 4,egS P Q n L k (k,c,B))]):=by
 have hPf:=Qau P
 have hQf:=Qau Q
 have hLf:=Qaq L
 have ho: ∀i,L.getD i 0<n:=fun i=>by
  rw[List.getD_eq_getElem?_getD]
  cases hx:L[i]? with
  |none=>simp;omega
  |some x=>exact hLn x (List.mem_of_getElem? hx)
 refine Qaw vE_ok Qaf Qab (b:=at' 105 [1,1,1,1,1,0,1,0,0,1,0,0,1,1,0,0]) (by kernel_rfl) (fun q=>q.1≤k∧uF (drI (P.getD k 0) (fun i=>L.getD i 0) k (0,f) q.1).2 n=q.2.2∧(drI (P.getD k 0) (fun i=>L.getD i 0) k (0,f) q.1).1=q.2.1) (egS P Q n L k) (fun q=>k-q.1) (fun q hq=>?_) (0,0,A) ⟨Nat.zero_le _,hA,rfl⟩
 obtain⟨j,cn,C⟩:=q
 obtain⟨hj,hC,hcn⟩:=hq
 dsimp only at hj hC hcn
 have hCf:HfL C:=by rw[←hC];exact Qak _ _
 have hc3:cn≤3:=by rw[←hcn];exact Qpv (Nat.zero_le _) j
 by_cases hlt:j<k
 ·have hlt64 := Qpw (y := P.getD k 0) (o := fun i => L.getD i 0) (x := (0, f)) (show n ≤ 64 by omega) (fun i _ => ho i) hf j (by omega)
  have s0:=Qbu (l:=P) (k:=k) hkP
  have s1:=shr_8 (G:=Qac Pg) (t:=5) (x:=P.getD k 0) (k:=j) (K:=.u64) (by omega)
  have s2:=and1_8 (G:=Qac Pg) (t:=5) (x:=P.getD k 0/2^j)
  have w1:wr .u64 (j:Int)=(j:Int):=by rw[wr_eq];exact Qez (by omega)
  have hstep:drI (P.getD k 0) (fun i=>L.getD i 0) k (0,f) (j+1)=if P.getD k 0/2^j%2=1∧(drI (P.getD k 0) (fun i=>L.getD i 0) k (0,f) j).1<3 then((drI (P.getD k 0) (fun i=>L.getD i 0) k (0,f) j).1+1,fun i=>if i=L.getD k 0 then(drI (P.getD k 0) (fun i=>L.getD i 0) k (0,f) j).2 (L.getD k 0)|||2^L.getD j 0 else(drI (P.getD k 0) (fun i=>L.getD i 0) k (0,f) j).2 i)else drI (P.getD k 0) (fun i=>L.getD i 0) k (0,f) j:=rfl
  by_cases hbit:P.getD k 0/2^j%2=1
  ·by_cases h3 : cn < 3
   ·rw [if_pos ⟨hbit, by omega⟩] at hstep
    have hok:=ho k
    have hoj:=ho j
    have s3:=Qmw (l:=L) (k:=k) (by omega)
    have s4:=Qmw (l:=L) (k:=j) (by omega)
    have s5:headF (dropF (0+L.getD k 0*1) C)=some (u6 ((drI (P.getD k 0) (fun i=>L.getD i 0) k (0,f) j).2 (L.getD k 0):Nat)):=by rw[←hC];exact Qbv hok
    obtain⟨s6,s6b⟩:=Qd2 (G:=Qac Pg) (t:=29) (k:=L.getD j 0) (by omega)
    have h2n:2^n≤64:=by
     have:=Nat.pow_le_pow_right (n:=2) (by decide) hn6
     omega
    have s7:=(or_u (G:=Qac Pg) (t:=29) (x:=(drI (P.getD k 0) (fun i=>L.getD i 0) k (0,f) j).2 (L.getD k 0)) (by grind) s6b).1
    have s8:=Qfh (f:=(drI (P.getD k 0) (fun i=>L.getD i 0) k (0,f) j).2) hok ((drI (P.getD k 0) (fun i=>L.getD i 0) k (0,f) j).2 (L.getD k 0)|||2^L.getD j 0)
    have hD2:uF (drI (P.getD k 0) (fun i=>L.getD i 0) k (0,f) (j+1)).2 n=uF (fun i=>if i=L.getD k 0 then(drI (P.getD k 0) (fun i=>L.getD i 0) k (0,f) j).2 (L.getD k 0)|||2^L.getD j 0 else(drI (P.getD k 0) (fun i=>L.getD i 0) k (0,f) j).2 i) n:=by rw[hstep]
    rw[←hD2,hC]at s8
    have hn2:(drI (P.getD k 0) (fun i=>L.getD i 0) k (0,f) (j+1)).1=cn+1:=by rw[hstep];dsimp only;omega
    have hDf:=Qak (drI (P.getD k 0) (fun i=>L.getD i 0) k (0,f) (j+1)).2 n
    have w2:wr .u64 (L.getD j 0:Int)=(L.getD j 0:Int):=by rw[wr_eq];exact Qez (by omega)
    rw[hbit]at s2
    clear hD2 hstep hlt64
    generalize hD:uF (drI (P.getD k 0) (fun i=>L.getD i 0) k (0,f) (j+1)).2 n=D at*
    generalize (drI (P.getD k 0) (fun i=>L.getD i 0) k (0,f) j).2 (L.getD k 0)=fo at*
    generalize hok':L.getD k 0=ok at*
    generalize hoj':L.getD j 0=oj at*
    generalize hy:P.getD k 0=y at*
    generalize hy1:y/2^j=y1 at*
    generalize hz:2^oj=z at*
    generalize hz1:fo|||z=z1 at*
    refine .inl ⟨(j+1,cn+1,D),[0,1,2],[yes 65,pl 71,ld 72 (w8 (y:Nat)),nu 74 (j:Nat),va 75 (w8 (y1:Nat)),va 76 (w8 (1:Nat)),yes 77,yes 80,pl 85,ld 86 (i6 (ok:Nat)),pl 90,ld 91 (i6 (ok:Nat)),pl 92,ld 93 (u6 (fo:Nat)),pl 96,ld 97 (i6 (oj:Nat)),nu 98 (oj:Nat),va 99 (u6 (z:Nat)),va 100 (u6 (z1:Nat)),pl 101,st D,nu 103 ((cn+1:Nat):Int),nu 67 ((j+1:Nat):Int)],1000,⟨hlt,by rw[←hD,←hy],by assumption⟩,by omega,?_⟩
    clear hn2 hC hcn hA hB hc hD hok' hoj' hy hy1 hz hz1
    exact m_ (p:=let z0:=(↑k:Int);let z2:=(↑n:Int);let z3:=(↑j:Int);let z5:=(0:Int);let z6:=(↑(cn+1):Int);let z7:=(↑ok:Int);let z8:=(↑(j+1):Int);An [decide (z3<z0)=true,An [z5≤z0,z0<(↑P.length:Int)],_,_,_,_,((↑(1:Nat):Int)==(1:Int))=true,decide ((↑cn:Int)<(3:Int))=true,An [z5≤z0,z0<z2],_,An [z5≤z0,z0<z2],_,An [z5≤z7,z7<z2],_,An [z5≤z3,z3<z2],_,_,_,_,An [z5≤z7,z7<z2],_,wr .i64 ((↑cn:Int)+(1:Int))=z6,wr .i64 (z3+(1:Int))=z8,An [Zz,z2=z2,An [Zz,n=n,Tt],An [Zz,n=n,Sm (n-n)],z0=z0,z6=z6,z8=z8,Tt],An [Sm [bl P,bl Q],TT 2],An [Sm (it L),_],An [D=D,_],Tt]) ⟨aq,a_,s0,w1,s1,s2,aq,aq,a_,s3,a_,s3,a_,s5,a_,s4,w2,s6,s7,a_,s8,aq,aq,a_,a_,⟨aq,hLf⟩,⟨aq,hDf⟩,aq⟩
   ·rw [if_neg (fun h => h3 (by omega))] at hstep
    rw[hbit]at s2
    have hinv:uF (drI (P.getD k 0) (fun i=>L.getD i 0) k (0,f) (j+1)).2 n=C∧(drI (P.getD k 0) (fun i=>L.getD i 0) k (0,f) (j+1)).1=cn:=by rw[hstep];exact⟨hC,hcn⟩
    clear hstep hlt64 hC hcn hA hB hc hbit
    generalize P.getD k 0=y at*
    generalize y/2^j=y1 at*
    refine .inl ⟨(j+1,cn,C),[0,1,2],[yes 65,pl 71,ld 72 (w8 (y:Nat)),nu 74 (j:Nat),va 75 (w8 (y1:Nat)),va 76 (w8 (1:Nat)),yes 77,no 80,nu 67 ((j+1:Nat):Int)],1000,⟨hlt,hinv⟩,by omega,?_⟩
    clear hinv
    exact m_ (p:=let z0:=(↑k:Int);let z1:=(↑(j+1):Int);let z3:=(↑cn:Int);An [decide ((↑j:Int)<z0)=true,An [(0:Int)≤z0,z0<(↑P.length:Int)],_,_,_,_,((↑(1:Nat):Int)==(1:Int))=true,decide (z3<(3:Int))=false,wr .i64 ((↑j:Int)+(1:Int))=z1,An [Zz,Sm (↑n:Int),An [Zz,n=n,Tt],An [Zz,n=n,Sm (n-n)],z0=z0,z3=z3,z1=z1,Tt],An [Sm [bl P,bl Q],TT 2],An [Sm (it L),_],An [C=C,_],Tt]) ⟨aq,a_,s0,w1,s1,s2,aq,aq,aq,a_,a_,⟨aq,hLf⟩,⟨aq,hCf⟩,aq⟩
  ·rw [if_neg (fun h => hbit h.1)] at hstep
   have hb0:P.getD k 0/2^j%2=0:=by omega
   rw[hb0]at s2
   have hinv:uF (drI (P.getD k 0) (fun i=>L.getD i 0) k (0,f) (j+1)).2 n=C∧(drI (P.getD k 0) (fun i=>L.getD i 0) k (0,f) (j+1)).1=cn:=by rw[hstep];exact⟨hC,hcn⟩
   clear hstep hlt64 hC hcn hA hB hc hbit hb0
   generalize P.getD k 0=y at*
   generalize y/2^j=y1 at*
   refine .inl ⟨(j+1,cn,C),[0,1,2],[yes 65,pl 71,ld 72 (w8 (y:Nat)),nu 74 (j:Nat),va 75 (w8 (y1:Nat)),va 76 (w8 (0:Nat)),no 77,nu 67 ((j+1:Nat):Int)],1000,⟨hlt,hinv⟩,by omega,?_⟩
   clear hinv
   exact m_ (p:=let z0:=(↑k:Int);let z1:=(↑(j+1):Int);An [decide ((↑j:Int)<z0)=true,An [(0:Int)≤z0,z0<(↑P.length:Int)],_,_,_,_,((↑(0:Nat):Int)==(1:Int))=false,wr .i64 ((↑j:Int)+(1:Int))=z1,An [Zz,Sm (↑n:Int),An [Zz,n=n,Tt],An [Zz,n=n,Sm (n-n)],z0=z0,Sm (↑cn:Int),z1=z1,Tt],An [Sm [bl P,bl Q],TT 2],An [Sm (it L),_],An [C=C,_],Tt]) ⟨aq,a_,s0,w1,s1,s2,aq,aq,a_,a_,⟨aq,hLf⟩,⟨aq,hCf⟩,aq⟩
 ·obtain rfl : j = k := by omega
  rw[hB]at hC
  rw[hc]at hcn
  subst hC hcn
  refine .inr ⟨.exit 4,[0,1,2],egS P Q n L j (j,c,B),[no 65],1000,.inl ⟨trivial,rfl,rfl⟩,?_⟩
  clear hA hB hc
  exact m_ (p:=let z0:=(↑j:Int);An [decide (z0<z0)=false,An [Zz,Sm (↑n:Int),An [Zz,n=n,Tt],An [Zz,n=n,Sm (n-n)],z0=z0,Sm (↑c:Int),z0=z0,Tt],An [Sm [bl P,bl Q],TT 2],An [Sm (it L),_],An [B=B,_],Tt]) ⟨aq,a_,a_,⟨aq,hLf⟩,⟨aq,hCf⟩,aq⟩
end Go.Proofs.YtifdkhfldbkkpaaGreat.Am
