/- Texts behind the claim, part 4: the abstract machine, and what the functions answer. No condition. -/
import Derived.Test.YthjjgipcoeiapaaCWKnown3
set_option linter.unusedVariables false
set_option linter.unusedSimpArgs false
set_option linter.unusedSectionVars false
namespace Go.Proofs.Ythjjgipcoeiapaa.Am
open Go.RowKit
theorem plain:Qfm Try.prog=true:=by kernel_rfl
theorem mixed:Try.prog.follows .mixedOrders=true:=by kernel_rfl
def extF(f:Nat)(l:List V):Option V:=none
theorem Qns:Qqc Try.prog extF:=fun f l v h=>by cases h
noncomputable def vE:Env:=Qq9 Try.prog Qoa extF
theorem vE_ok:vE.Ok Try.prog:=Qno plain Qhf Qns
noncomputable abbrev Pg:Program:=Try.prog
abbrev g0:T (List V):=.e
def sub:List Nat→Code→Code
 |[],c=>c
 |0::p,.seq a _=>sub p a
 | _::p,.seq _ b=>sub p b
 |0::p,.cond _ a _=>sub p a
 | _::p,.cond _ _ b=>sub p b
 | _::p,.block _ b=>sub p b
 | _::p,.loop b=>sub p b
 | _::p,.scope b=>sub p b
 | _:: _,c=>c
noncomputable def Qqx(f:Nat):Code:=match codeOf Try.prog f with|some fi=>fi.body|none=>.skip
noncomputable def at'(f:Nat)(p:List Nat):Code:=sub p (Qqx f)
abbrev i6(n:Int):V:=.int .i64 n
def ints(l:List Int):List V:=l.map (V.int .i64)
abbrev sl(l:List Int):V:=.im l.length (ints l)
theorem Qbs(l:List Int):(ints l).length=l.length:=by simp[ints]
theorem Qsd(l:List Int)(k:Nat):(ints l).drop k=ints (l.drop k):=by simp[ints]
theorem Qr4{l:List Int}{k:Nat}(h:k<l.length):headF ((ints l).drop k)=some (i6 l[k]):=by
 rw[Qsd,List.drop_eq_getElem_cons h];rfl
theorem Qaa(l:List Int):HfL (ints l):=by
 induction l with
 |nil=>trivial
 |cons x l ih=>exact⟨trivial,ih⟩
abbrev yes(d:Nat):Nat×Hint:=(d,.bool true)
abbrev no(d:Nat):Nat×Hint:=(d,.bool false)
abbrev pl(d:Nat):Nat×Hint:=(d,.at_)
abbrev ld(d:Nat)(v:V):Nat×Hint:=(d,.ld v)
abbrev nu(d:Nat)(n:Int):Nat×Hint:=(d,.num n)
abbrev va(d:Nat)(v:V):Nat×Hint:=(d,.val v)
abbrev ap(d:Nat):Nat×Hint:=(d,.app)
abbrev mk(d:Nat):Nat×Hint:=(d,.mk)
abbrev st(c:List V):Nat×Hint:=(999999,.st c)
abbrev fn(d:Nat)(v:V):Nat×Hint:=(d,.fn v)
noncomputable def sp0:Qa7:=fun _ _=>none
theorem Qab{gl:T (List V)}:Qau Try.prog gl sp0:=fun _ _ _ _ h=>by cases h
theorem wr6{n:Int}(h1: -9223372036854775808≤n)(h2:n≤9223372036854775807):wr .i64 n=n:=Qlp h1 h2
theorem wr6'{n m:Int}(h1: -9223372036854775808≤n)(h2:n≤9223372036854775807)(h:n=m):wr .i64 n=m:=by rw[wr6 h1 h2,h]
theorem Qim{l:List Int}{k:Nat}(h:k<l.length):headF ((ints l).drop (k*1))=some (i6 l[k]):=by rw[Nat.mul_one];exact Qr4 h
theorem Qag{l:List Int}{k:Nat}(h:k<l.length):headF ((ints l).drop (k*1))=some (i6 (l.getD k 0)):=by
 rw[Qim h,List.getD_eq_getElem?_getD,List.getElem?_eq_getElem h];rfl
theorem rem6{G:Ctx}{t:Nat}{x y:Int}(h:y≠0):binV G .rem t (i6 x) (i6 y)=some (i6 (x.tmod y)):=by simp[binV,intV,h]
theorem quo6{G:Ctx}{t:Nat}{x y:Int}(h:y≠0)(h1: -9223372036854775808≤x.tdiv y)(h2:x.tdiv y≤9223372036854775807):binV G .quo t (i6 x) (i6 y)=some (i6 (x.tdiv y)):=by simp[binV,intV,h,wr6 h1 h2]
theorem Qay(n:Nat)(x:Int):rep n [i6 x]=ints (List.replicate n x):=by
 induction n with
 |zero=>rfl
 |succ n ih=>rw[rep,ih,List.replicate_succ];rfl
theorem Qa3{l:List Int}{j:Nat}{x:Int}(h:j<l.length):layE (0+j*1) (ints l) [i6 x]=some (ints (l.set j x)):=by
 rw[Nat.zero_add,Nat.mul_one,Qf7,Qbs]
 have:Nat.ble (j+[i6 x].length) l.length=true:=Nat.ble_eq_true_of_le (by simp;omega)
 rw[this,cond_true]
 congr 1
 rw[List.set_eq_take_append_cons_drop,if_pos h]
 simp[ints,List.map_take,List.map_drop]
theorem Qqw{x y:Int}(h:x=y):(x != y)=false:=by simp[h]
theorem bne_true{x y:Int}(h:x≠y):(x != y)=true:=by simp[h]
theorem Qpc{x y:Int}(h:x≠y):(x==y)=false:=by simp[h]
theorem Qqr{x y:Int}(h:x=y):(x==y)=true:=by simp[h]
theorem aq{P:Prop}(h:P:=by
 first|exact TT_ok _|exact EQn_ok _ _ _|with_reducible(first|rfl|exact trivial|assumption|(refine decide_eq_true ?_<;>omega)|(refine decide_eq_false ?_<;>omega)|(refine Qim ?_<;>omega)|(refine Qqw ?_<;>omega)|(refine bne_true ?_<;>omega)|(refine Qpc ?_<;>omega)|(refine Qqr ?_<;>omega)|(refine wr6' ?_ ?_ ?_<;>omega)|(refine rem6 ?_<;>omega)|(refine quo6 ?_ ?_ ?_<;>omega)|exact Qaa _|omega)|((with_reducible show(_:V)=_);rfl)|(intro hk_;exfalso;revert hk_;simp;done)|(intros;simp_all;done)|(split<;>omega)|((with_reducible show decide _=true);exact decide_eq_true (by omega))|((with_reducible show decide _=false);exact decide_eq_false (by omega))):P:=h
theorem a_ {P:Prop} (h:P:=by
 (repeat'(first|(with_reducible apply And.intro)|(refine fun(_:True)=>?_)))
 all_goals first|with_reducible rfl|with_reducible assumption|exact aq|solve_by_elim|rfl):P:=h
theorem m_ {p q:Prop} (h:p) (e:p=q:=by kernel_rfl):q:=e.mp h
theorem u_ {p q:Prop} (h:p:=by exact au) (e:p=q:=by kernel_rfl):q:=e.mp h
theorem v_ {p q:Prop} (h:p:=by exact a_) (e:p=q:=by kernel_rfl):q:=e.mp h
abbrev Bn:List Prop→Prop
 |[]=>True
 |p::l=>p∧Bn l
theorem Qf6{α:Type}{f:α->V}: ∀{l:List α}{k:Nat}{x:α},l[k]? =some x->headF ((l.map f).drop (k*1))=some (f x):=by
 intro l k x h
 obtain⟨hlt,rfl⟩:=List.getElem?_eq_some_iff.1 h
 rw[Nat.mul_one,<-List.map_drop,List.drop_eq_getElem_cons hlt];rfl
theorem Qgg{α:Type}(f:α->V): ∀(l:List α),(∀x,Hf (f x))->HfL (l.map f)
 |[],_=>trivial
 |x::l,h=>⟨h x,Qgg f l h⟩
abbrev u6(n:Int):V:=.int .u64 n
theorem Qdd{G:Ctx}{t:Nat}{x k:Nat}(hk:k<=64):binV G .shr t (u6 (x:Int)) (i6 (k:Int))=some (u6 ((x/2^k:Nat):Int)):=by
 have h1:((k:Int)<0)=False:=by simp
 have h2:min k 64=k:=by omega
 simp only[binV,intV,h1,if_false,Int.toNat_natCast,IntKind.bits,h2]
 rw[Int.fdiv_eq_ediv_of_nonneg _ (Int.natCast_nonneg _)]
 rfl
theorem Qcj{G:Ctx}{t:Nat}{x:Nat}:binV G .and t (u6 (x:Int)) (u6 1)=some (u6 ((x%2:Nat):Int)):=by
 have h:(BitVec.ofInt 64 (x:Int)&&& BitVec.ofInt 64 1).toNat=x%2:=by
  rw[BitVec.toNat_and]
  have h1:(BitVec.ofInt 64 1).toNat=1:=by decide
  rw[h1,Nat.and_one_is_mod]
  have h2:(BitVec.ofInt 64 (x:Int)).toNat=x%2^64:=by
   rw[BitVec.toNat_ofInt];omega
  rw[h2];omega
 have hw:IntKind.u64.wrap ((x%2:Nat):Int)=((x%2:Nat):Int):=by
  rw[<-wr_eq];exact Qlp (by simp[lo];omega) (by simp[hi];omega)
 have e:binV G .and t (u6 (x:Int)) (u6 1)=some (.int .u64 (IntKind.u64.wrap ((BitVec.ofInt 64 (x:Int)&&& BitVec.ofInt 64 1).toNat:Int))):=rfl
 rw[e,h,hw]
theorem Qcw(x:Nat):BitVec.ofInt 64 (x:Int)=BitVec.ofNat 64 x:=by
 apply BitVec.eq_of_toNat_eq
 rw[BitVec.toNat_ofInt,BitVec.toNat_ofNat];omega
theorem Qu8{z:Nat}(h:z<18446744073709551616):IntKind.u64.wrap ((z:Nat):Int)=(z:Int):=by
 rw[<-wr_eq];exact Qlp (by simp[lo]) (by simp[hi];omega)
theorem or_u{G:Ctx}{t:Nat}{x y:Nat}(hx:x<18446744073709551616)(hy:y<18446744073709551616):binV G .or t (u6 (x:Int)) (u6 (y:Int))=some (u6 ((x|||y:Nat):Int))/\x|||y<18446744073709551616:=by
 have hz:x|||y<2^64:=Nat.or_lt_two_pow hx hy
 refine⟨?_,hz⟩
 have e:binV G .or t (u6 (x:Int)) (u6 (y:Int))=some (.int .u64 (IntKind.u64.wrap ((BitVec.ofInt 64 (x:Int)|||BitVec.ofInt 64 (y:Int)).toNat:Int))):=rfl
 have h:(BitVec.ofInt 64 (x:Int)|||BitVec.ofInt 64 (y:Int)).toNat=x|||y:=by
  rw[Qcw,Qcw,BitVec.toNat_or,BitVec.toNat_ofNat,BitVec.toNat_ofNat,Nat.mod_eq_of_lt hx,Nat.mod_eq_of_lt hy]
 rw[e,h,Qu8 hz]
def mi(x y:Nat):Nat:=x&&& (2^64-(y+1))
theorem Qhd{x y:Nat}(hx:x<18446744073709551616)(hy:y<18446744073709551616)(b:Nat):(mi x y).testBit b=(x.testBit b&& !y.testBit b):=by
 unfold mi
 rw[Nat.testBit_and,Nat.testBit_two_pow_sub_succ hy]
 by_cases hb:b<64
 ·simp[hb]
 ·have : x.testBit b = false := Nat.testBit_lt_two_pow (Nat.lt_of_lt_of_le (show x < 2 ^ 64 from hx) (Nat.pow_le_pow_right (show 0 < 2 by omega) (show 64 <= b by omega)))
  simp[this]
theorem Qc4{x y:Nat}:mi x y<18446744073709551616:=Nat.and_lt_two_pow (n:=64) _ o_
theorem mi_u{G:Ctx}{t:Nat}{x y:Nat}(hx:x<18446744073709551616)(hy:y<18446744073709551616):binV G .andNot t (u6 (x:Int)) (u6 (y:Int))=some (u6 ((mi x y:Nat):Int)):=by
 have h:(BitVec.ofInt 64 (x:Int)&&& ~~~BitVec.ofInt 64 (y:Int)).toNat=mi x y:=by
  rw[Qcw,Qcw,BitVec.toNat_and,BitVec.toNat_not,BitVec.toNat_ofNat,BitVec.toNat_ofNat,Nat.mod_eq_of_lt hx,Nat.mod_eq_of_lt hy]
  unfold mi
  congr 1;omega
 have e:binV G .andNot t (u6 (x:Int)) (u6 (y:Int))=some (.int .u64 (IntKind.u64.wrap ((BitVec.ofInt 64 (x:Int)&&& ~~~BitVec.ofInt 64 (y:Int)).toNat:Int))):=rfl
 rw[e,h,Qu8 Qc4]
theorem Qls{G:Ctx}{t:Nat}{x y:Nat}(hx:x<18446744073709551616)(hy:y<18446744073709551616):binV G .and t (u6 (x:Int)) (u6 (y:Int))=some (u6 ((x&&& y:Nat):Int)):=by
 have hz:x&&& y<2^64:=Nat.and_lt_two_pow _ hy
 have e:binV G .and t (u6 (x:Int)) (u6 (y:Int))=some (.int .u64 (IntKind.u64.wrap ((BitVec.ofInt 64 (x:Int)&&& BitVec.ofInt 64 (y:Int)).toNat:Int))):=rfl
 have h:(BitVec.ofInt 64 (x:Int)&&& BitVec.ofInt 64 (y:Int)).toNat=x&&& y:=by
  rw[Qcw,Qcw,BitVec.toNat_and,BitVec.toNat_ofNat,BitVec.toNat_ofNat,Nat.mod_eq_of_lt hx,Nat.mod_eq_of_lt hy]
 rw[e,h,Qu8 hz]
theorem Qdm{G:Ctx}{t:Nat}{k:Nat}(hk:k<64):binV G .shl t (u6 1) (i6 (k:Int))=some (u6 ((2^k:Nat):Int))/\2^k<18446744073709551616:=by
 have hp:2^k<2^64:=Nat.pow_lt_pow_right o_ hk
 refine⟨?_,hp⟩
 have e:binV G .shl t (u6 1) (i6 (k:Int))=if(k:Int)<0 then none else some (.int .u64 (wr .u64 (1*((2^min ((k:Int).toNat) 64:Nat):Int)))):=rfl
 rw[e,if_neg o_,Int.toNat_natCast,show min k 64=k by omega,Int.one_mul,wr_eq,Qu8 hp]
theorem Qqt(x k:Nat):x.testBit k=decide (x/2^k%2=1):=Nat.testBit_eq_decide_div_mod_eq
def ut(l:List Nat):List V:=l.map fun(x:Nat)=>u6 (x:Int)
abbrev ul(l:List Nat):V:=.im l.length (ut l)
theorem Qc1{l:List Nat}{k:Nat}(h:k<l.length):headF ((ut l).drop (k*1))=some (u6 ((l.getD k 0:Nat):Int)):=by
 unfold ut
 rw[List.getD_eq_getElem?_getD,List.getElem?_eq_getElem h]
 exact Qf6 (List.getElem?_eq_getElem h)
theorem Qaf(l:List Nat):HfL (ut l):=Qgg _ l (fun _=>trivial)
def S64(l:List Nat):Prop:=∀x∈l,x<18446744073709551616
theorem S64.get{l:List Nat}(h:S64 l)(k:Nat):l.getD k 0<18446744073709551616:=by
 rw[List.getD_eq_getElem?_getD]
 cases hx:l[k]? with
 |none=>decide
 |some x=>exact h x (List.mem_of_getElem? hx)
set_option maxHeartbeats 1000000
set_option maxRecDepth 100000
def nxF(s w:Nat)(l:List Nat):Nat->Nat
 |0=>s
 |k+1=>if s.testBit k then nxF s w l k|||(l.getD k 0&&& w)else nxF s w l k
theorem Qhi{s w:Nat}{l:List Nat}(hs:s<18446744073709551616)(hw:w<18446744073709551616): ∀k,nxF s w l k<18446744073709551616
 |0=>hs
 |k+1=>by
  unfold nxF
  split
  ·exact Nat.or_lt_two_pow (n:=64) (Qhi hs hw k) (Nat.and_lt_two_pow (n:=64) _ hw)
  ·exact Qhi hs hw k
theorem Qb2(s k:Nat):s/2^k%2=if s.testBit k then 1 else 0:=by
 rw[Qqt]
 by_cases h:s/2^k%2=1
 ·simp[h]
 ·simp[h];omega
abbrev ciS(s w:Nat)(l:List Nat)(k:Nat):SL:={sl:=[(0,u6 s),(1,u6 w),(2,ul l),(6,u6 (0:Nat)),(7,u6 (nxF s w l k:Nat)),(11,ul l),(12,i6 (l.length:Nat)),(13,i6 (k:Nat))]}
theorem Qq2(s w:Nat)(l:List Nat)(hs:s<18446744073709551616)(hw:w<18446744073709551616)(hl:l.length<=64)(h64:S64 l):
  Sat Pg none 0 (at' 87 [1,0,0,0,1,0,1,0]) (mkSt g0 34 (ciS s w l 0)) (Qad g0 34 [(True,.exit 2,ciS s w l l.length)]):=by
 have hu:=Qaf l
 refine Qav vE_ok mixed Qab (b:=at' 87 [1,0,0,0,1,0,1,0,0]) k_ (fun k=>k<=l.length) (ciS s w l) (fun k=>l.length-k) (fun k hk=>?_) 0 (Nat.zero_le _)
 by_cases hlt:k<l.length
 ·have hld := Qc1 hlt
  have h1:=Qdd (G:=Qac Pg) (t:=29) (x:=s) (k:=k) o_
  have h2:=Qcj (G:=Qac Pg) (t:=29) (x:=s/2^k)
  have h3:=Qls (G:=Qac Pg) (t:=29) (h64.get k) hw
  have h4:=or_u (G:=Qac Pg) (t:=29) (Qhi (l:=l) hs hw k) (Nat.and_lt_two_pow (n:=64) (l.getD k 0) hw)
  cases hb:s.testBit k with
  |true=>
   have hbe:s/2^k%2=1:=by rw[Qb2,hb];rfl
   have e1:nxF s w l (k+1)=nxF s w l k|||(l.getD k 0&&& w):=by rw[nxF,hb];rfl
   refine .inl ⟨k+1,[],[yes 14,pl 16,ld 17 (u6 (l.getD k 0:Nat)),va 20 (u6 (s/2^k:Nat)),va 21 (u6 (s/2^k%2:Nat)),yes 22,va 26 (u6 (l.getD k 0&&& w:Nat)),va 27 (u6 (nxF s w l (k+1):Nat)),nu 28 ((k+1:Nat):Int)],1000,hlt,by omega,?_⟩
   refine m_ (p:=let z6:=An [Sm l.length,Sm (ut l)];let z0:=(↑(nxF s w l (k+1)):Int);let z1:=(l.length:Int);let z2:=Qac Try.prog;let z3:=List.getD l k 0;let z4:=(↑(k+1):Int);let z5:=(k:Int);Bn [decide (z5<z1)=true,An [(0:Int)<=z5,z5<z1],headF (List.drop (k*1) (ut l))=some (u6 ↑(z3)),binV z2 BinOp.shr 29 (u6 s) (i6 k)=some (u6 ↑(s/2^k)),binV z2 BinOp.and 29 (u6 ↑(s/2^k)) (u6 1)=some (u6 ↑(s/2^k%2)),((↑(s/2^k%2):Int)==1)=true,binV z2 BinOp.and 29 (u6 ↑(z3)) (u6 w)=some (u6 ↑(z3&&& w)),binV z2 BinOp.or 29 (u6 ↑(nxF s w l k)) (u6 ↑(z3&&& w))=some (u6 z0),wr .i64 (z5+1)=z4,Bn [Sm (s:Int),Sm (w:Int),z6,Sm ((0:Nat):Int),z0=z0,z6,z1=z1,z4=z4]]) ?_
   (repeat'(first|(with_reducible apply And.intro)|(refine fun(_:True)=>?_)))<;>first|exact aq|skip
   all_goals(rw[e1];exact h4.1)
  |false=>
   have hbe:s/2^k%2=0:=by rw[Qb2,hb];rfl
   have e1:nxF s w l (k+1)=nxF s w l k:=by rw[nxF,hb];rfl
   refine .inl ⟨k+1,[],[yes 14,pl 16,ld 17 (u6 (l.getD k 0:Nat)),va 20 (u6 (s/2^k:Nat)),va 21 (u6 (s/2^k%2:Nat)),no 22,nu 28 ((k+1:Nat):Int)],1000,hlt,by omega,?_⟩
   refine m_ (p:=let z3:=An [Sm l.length,Sm (ut l)];let z0:=(l.length:Int);let z1:=(↑(k+1):Int);let z2:=(k:Int);Bn [decide (z2<z0)=true,An [(0:Int)<=z2,z2<z0],headF (List.drop (k*1) (ut l))=some (u6 ↑(List.getD l k 0)),binV (Qac Try.prog) BinOp.shr 29 (u6 s) (i6 k)=some (u6 ↑(s/2^k)),binV (Qac Try.prog) BinOp.and 29 (u6 ↑(s/2^k)) (u6 1)=some (u6 ↑(s/2^k%2)),((↑(s/2^k%2):Int)==1)=false,wr .i64 (z2+1)=z1,Bn [Sm (s:Int),Sm (w:Int),z3,Sm ((0:Nat):Int),(↑(nxF s w l (k+1)):Int)=(↑(nxF s w l k):Int),z3,z0=z0,z1=z1]]) ?_
   (repeat'(first|(with_reducible apply And.intro)|(refine fun(_:True)=>?_)))<;>first|exact aq|skip
   all_goals rw[e1]
 ·have : k = l.length := by omega
  subst this
  refine .inr ⟨.exit 2,[],ciS s w l l.length,[no 14],1000,.inl ⟨trivial,rfl,rfl⟩,?_⟩
  refine m_ (p:=let z2:=An [Sm l.length,Sm (ut l)];let z0:=(l.length:Int);let z1:=(↑(nxF s w l l.length):Int);Bn [decide (z0<z0)=false,Bn [Sm (s:Int),Sm (w:Int),z2,Sm ((0:Nat):Int),z1=z1,z2,z0=z0,z0=z0]]) ?_
  (repeat'(first|(with_reducible apply And.intro)|(refine fun(_:True)=>?_)))<;>first|exact aq|skip
  all_goals skip
def clF(w:Nat)(l:List Nat):Nat->Nat->Nat
 |0,s=>s
 |f+1,s=>if nxF s w l l.length=s then s else clF w l f (nxF s w l l.length)
theorem Qlf(s w:Nat)(l:List Nat): ∀k,s<=nxF s w l k
 |0=>Nat.le_refl _
 |k+1=>by
  unfold nxF
  split
  ·exact Nat.le_trans (Qlf s w l k) Nat.left_le_or
  ·exact Qlf s w l k
def clo(s w:Nat)(l:List Nat):Nat:=clF w l (18446744073709551616-s) s
theorem clo_step{s w:Nat}{l:List Nat}(hs:s<18446744073709551616)(hw:w<18446744073709551616)(h:nxF s w l l.length≠s):clo s w l=clo (nxF s w l l.length) w l:=by
 have h1:=Qlf s w l l.length
 have h2:=Qhi (l:=l) hs hw l.length
 -- more steps than needed change nothing
 have more: ∀(f g s:Nat),s<18446744073709551616->18446744073709551616-s<=f->f<=g->clF w l f s=clF w l g s:=by
  intro f
  induction f with
  |zero=>intro g s hs hf hg;omega
  | succ f ih =>
   intro g s hs hf hg
   cases g with
   |zero=>omega
   | succ g =>
    unfold clF
    split
    ·rfl
    ·rename_i hne
     have:=Qlf s w l l.length
     exact ih g _ (Qhi hs hw _) o_ o_
 unfold clo
 rw[show 18446744073709551616-s=(18446744073709551616-s-1)+1 by omega,clF,if_neg h]
 exact(more _ _ _ h2 (Nat.le_refl _) o_).symm
theorem clo_end{s w:Nat}{l:List Nat}(hs:s<18446744073709551616)(h:nxF s w l l.length=s):clo s w l=s:=by
 unfold clo
 rw[show 18446744073709551616-s=(18446744073709551616-s-1)+1 by omega,clF,if_pos h]
theorem Qea{s w:Nat}{l:List Nat}(hs:s<18446744073709551616)(hw:w<18446744073709551616):clo s w l<18446744073709551616:=by
 have key: ∀f s,s<18446744073709551616->clF w l f s<18446744073709551616:=by
  intro f
  induction f with
  |zero=>intro s hs;exact hs
  |succ f ih=>intro s hs;unfold clF;split;exact hs;exact ih _ (Qhi hs hw _)
 exact key _ _ hs
abbrev coS(s w:Nat)(l:List Nat):SL:={sl:=[(0,u6 s),(1,u6 w),(2,ul l),(6,u6 (0:Nat))]}
abbrev coX(v:Nat):SL:={sl:=[(6,u6 (v:Nat))]}
theorem Qpj(s w:Nat)(l:List Nat)(hs:s<18446744073709551616)(hw:w<18446744073709551616)(hl:l.length<=64)(h64:S64 l):
  Sat Pg none 0 (at' 87 [1,0]) (mkSt g0 34 (coS s w l)) (Qad g0 34 [(True,.ret,coX (clo s w l))]):=by
 have hu:=Qaf l
 refine Qav vE_ok mixed Qab (b:=at' 87 [1,0,0]) k_ (fun x=>x<18446744073709551616/\clo x w l=clo s w l) (fun x=>coS x w l) (fun x=>18446744073709551616-x) (fun x hx=>?_) s ⟨hs,rfl⟩
 obtain⟨h1,h2⟩:=hx
 have hin:=Qq2 x w l h1 hw hl h64
 by_cases he:nxF x w l l.length=x
 ·have hv := (clo_end h1 he).symm.trans h2
  refine .inr ⟨.ret,[],coX (clo s w l),[(0,.loop [] (ciS x w l 0) [(True,.exit 2,ciS x w l l.length)]),yes 31],1000,.inl ⟨trivial,rfl,rfl⟩,?_⟩
  refine m_ (p:=let z2:=An [Sm l.length,Sm (ut l)];let z0:=(x:Int);let z1:=((0:Nat):Int);Bn [Bn [Bn [z0=z0,Sm (w:Int),z2,z1=z1,(↑(nxF x w l 0):Int)=z0,z2,Sm (l.length:Int),z1=(0:Int)]],Sat Try.prog none 0 (at' 87 [1,0,0,0,1,0,1,0]) (mkSt g0 34 (ciS x w l 0)) (Qad g0 34 [(True,Ex.exit 2,ciS x w l l.length)]),(True->Bn [((↑(nxF x w l l.length):Int)==z0)=true,Bn [(↑(clo s w l):Int)=z0]])]) ?_
  (repeat'(first|(with_reducible apply And.intro)|(refine fun(_:True)=>?_)))<;>first|exact aq|skip
  all_goals first|exact hin|rfl|(rw[he];simp)|(rw[<-hv])|skip
 ·have hlt : x < nxF x w l l.length := Nat.lt_of_le_of_ne (Qlf x w l l.length) (Ne.symm he)
  have hb:=Qhi (l:=l) h1 hw l.length
  refine .inl ⟨nxF x w l l.length,[],[(0,.loop [] (ciS x w l 0) [(True,.exit 2,ciS x w l l.length)]),no 31],1000,⟨hb,(clo_step h1 hw he).symm.trans h2⟩,by omega,?_⟩
  refine m_ (p:=let z4:=An [Sm l.length,Sm (ut l)];let z0:=((0:Nat):Int);let z1:=(↑(nxF x w l l.length):Int);let z2:=(x:Int);let z3:=(w:Int);Bn [Bn [Bn [z2=z2,z3=z3,z4,z0=z0,(↑(nxF x w l 0):Int)=z2,z4,Sm (l.length:Int),z0=(0:Int)]],Sat Try.prog none 0 (at' 87 [1,0,0,0,1,0,1,0]) (mkSt g0 34 (ciS x w l 0)) (Qad g0 34 [(True,Ex.exit 2,ciS x w l l.length)]),(True->Bn [(z1==z2)=false,Bn [z1=z1,z3=z3,z4,z0=z0]])]) ?_
  (repeat'(first|(with_reducible apply And.intro)|(refine fun(_:True)=>?_)))<;>first|exact aq|skip
  all_goals first|exact hin|rfl|(simp;omega)|skip
theorem Qgq(s w:Nat)(l:List Nat)(hs:s<18446744073709551616)(hw:w<18446744073709551616)(hl:l.length<=64)(h64:S64 l):FnOk Pg g0 87 [u6 s,u6 w,ul l] (u6 (clo s w l:Nat)):=by
 have hu:=Qaf l
 have ho:=Qpj s w l hs hw hl h64
 refine FnOk.of_vc vE_ok mixed Qab (n:=1000) (r:=[]) (S:=coX (clo s w l)) (hs:=[(0,.loop [] (coS s w l) [(True,.ret,coX (clo s w l))])]) ?_
 refine m_ (p:=let z0:=clo s w l;Bn [Sm (u6 ↑(z0)),Bn [Bn [Sm (s:Int),Sm (w:Int),An [Sm l.length,Sm (ut l)],((0:Nat):Int)=(0:Int)]],Sat Try.prog none 0 (at' 87 [1,0]) (mkSt g0 34 (coS s w l)) (Qad g0 34 [(True,Ex.ret,coX z0)]),(True->Bn [Bn [Sm (↑(z0):Int)]])]) ?_
 (repeat'(first|(with_reducible apply And.intro)|(refine fun(_:True)=>?_)))<;>first|exact aq|skip
 all_goals first|exact ho|skip
abbrev grV(p j:List Nat):V:=.agg [ul p,ul j]
theorem Qfz(p j:List Nat)(s w:Nat)(hs:s<18446744073709551616)(hw:w<18446744073709551616)(hl:p.length<=64)(h64:S64 p):FnOk Pg g0 63 [grV p j,u6 s,u6 w] (u6 (clo (s&&& w) w p:Nat)):=by
 have hp:=Qaf p
 have hj:=Qaf j
 have h1:=Qls (G:=Qac Pg) (t:=29) hs hw
 have hlt:s&&& w<18446744073709551616:=Nat.and_lt_two_pow (n:=64) _ hw
 have hf:=Qgq (s&&& w) w p hlt hw hl h64
 refine FnOk.of_vc vE_ok mixed Qab (n:=1000) (r:=[]) (S:={sl:=[(6,u6 (clo (s&&& w) w p:Nat))]}) (hs:=[va 9 (u6 (s&&& w:Nat)),fn 13 (u6 (clo (s&&& w) w p:Nat))]) ?_
 refine m_ (p:=let z0:=(↑(clo (s&&& w) w p):Int);Bn [Sm (u6 z0),binV (Qac Try.prog) BinOp.and 29 (u6 s) (u6 w)=some (u6 ↑(s&&& w)),TT 3,FnOk Try.prog g0 87 [u6 ↑(s&&& w),u6 w,V.im p.length (ut p)] (u6 z0),Tt,Bn [z0=z0]]) ?_
 (repeat'(first|(with_reducible apply And.intro)|(refine fun(_:True)=>?_)))<;>first|exact aq|skip
 all_goals first|exact h1|exact hf|skip
def alN(n:Nat):Nat:=2^n-1
theorem Qqm(p j:List Nat)(hl:p.length<64):FnOk Pg g0 62 [grV p j] (u6 (alN p.length:Nat)):=by
 have hp:=Qaf p
 have hj:=Qaf j
 obtain⟨z,hz⟩: ∃z,z=2^p.length:=⟨_,rfl⟩
 obtain⟨h1,h2⟩:=Qdm (G:=Qac Pg) (t:=29) hl
 have h3:1<=2^p.length:=Nat.one_le_two_pow
 have h4:(alN p.length:Int)=(z:Int)-1:=by unfold alN;omega
 rw[<-hz]at h1 h2 h3
 have h5:wr .u64 ((z:Int)-1)=(alN p.length:Int):=by rw[h4];exact Qlp (by simp[lo];omega) (by simp[hi];omega)
 refine FnOk.of_vc vE_ok mixed Qab (n:=1000) (r:=[]) (S:={sl:=[(2,u6 (alN p.length:Nat))]}) (hs:=[va 6 (u6 (z:Nat)),nu 7 (alN p.length:Nat)]) ?_
 refine m_ (p:=let z0:=(↑(alN p.length):Int);Bn [Sm (u6 z0),binV (Qac Try.prog) BinOp.shl 29 (u6 1) (i6 p.length)=some (u6 z),wr .u64 ((z:Int)-1)=z0,Bn [z0=z0]]) ?_
 (repeat'(first|(with_reducible apply And.intro)|(refine fun(_:True)=>?_)))<;>first|exact aq|skip
 all_goals first|exact h1|exact h5|skip
def ovF'(s:Nat)(l:List Nat):Nat->Nat
 |0=>0
 |k+1=>if s.testBit k then ovF' s l k|||l.getD k 0 else ovF' s l k
theorem Qjv{s:Nat}{l:List Nat}(h64:S64 l): ∀k,ovF' s l k<18446744073709551616
 |0=>by unfold ovF';decide
 |k+1=>by
  unfold ovF'
  split
  ·exact Nat.or_lt_two_pow (n:=64) (Qjv h64 k) (h64.get k)
  ·exact Qjv h64 k
abbrev ovS(s:Nat)(p j:List Nat)(k:Nat):SL:={sl:=[(1,u6 s),(4,u6 (0:Nat)),(5,u6 (ovF' s p k:Nat)),(9,ul p),(10,i6 (p.length:Nat)),(11,i6 (k:Nat))]}
theorem Qta(s:Nat)(p j:List Nat)(hs:s<18446744073709551616)(hl:p.length<=64)(h64:S64 p):
  Sat Pg none 0 (at' 88 [1,1,0,1,0]) (mkSt g0 26 (ovS s p j 0)) (Qad g0 26 [(True,.exit 0,ovS s p j p.length)]):=by
 have hu:=Qaf p
 refine Qav vE_ok mixed Qab (b:=at' 88 [1,1,0,1,0,0]) k_ (fun k=>k<=p.length) (ovS s p j) (fun k=>p.length-k) (fun k hk=>?_) 0 (Nat.zero_le _)
 by_cases hlt:k<p.length
 ·have hld := Qc1 hlt
  have h1:=Qdd (G:=Qac Pg) (t:=29) (x:=s) (k:=k) o_
  have h2:=Qcj (G:=Qac Pg) (t:=29) (x:=s/2^k)
  have h4:=or_u (G:=Qac Pg) (t:=29) (Qjv (s:=s) h64 k) (h64.get k)
  cases hb:s.testBit k with
  |true=>
   have hbe:s/2^k%2=1:=by rw[Qb2,hb];rfl
   have e1:ovF' s p (k+1)=ovF' s p k|||p.getD k 0:=by rw[ovF',hb];rfl
   refine .inl ⟨k+1,[],[yes 12,pl 14,ld 15 (u6 (p.getD k 0:Nat)),va 18 (u6 (s/2^k:Nat)),va 19 (u6 (s/2^k%2:Nat)),yes 20,va 23 (u6 (ovF' s p (k+1):Nat)),nu 24 ((k+1:Nat):Int)],1000,hlt,by omega,?_⟩
   refine m_ (p:=let z0:=(↑(ovF' s p (k+1)):Int);let z1:=(p.length:Int);let z2:=(↑(k+1):Int);let z3:=(k:Int);let z4:=Qac Try.prog;let z5:=u6 ↑(List.getD p k 0);Bn [decide (z3<z1)=true,An [(0:Int)<=z3,z3<z1],headF (List.drop (k*1) (ut p))=some z5,binV z4 BinOp.shr 29 (u6 s) (i6 k)=some (u6 ↑(s/2^k)),binV z4 BinOp.and 29 (u6 ↑(s/2^k)) (u6 1)=some (u6 ↑(s/2^k%2)),((↑(s/2^k%2):Int)==1)=true,binV z4 BinOp.or 29 (u6 ↑(ovF' s p k)) z5=some (u6 z0),wr .i64 (z3+1)=z2,Bn [Sm (s:Int),Sm ((0:Nat):Int),z0=z0,An [Sm p.length,Sm (ut p)],z1=z1,z2=z2]]) ?_
   (repeat'(first|(with_reducible apply And.intro)|(refine fun(_:True)=>?_)))<;>first|exact aq|skip
   all_goals(rw[e1];exact h4.1)
  |false=>
   have hbe:s/2^k%2=0:=by rw[Qb2,hb];rfl
   have e1:ovF' s p (k+1)=ovF' s p k:=by rw[ovF',hb];rfl
   refine .inl ⟨k+1,[],[yes 12,pl 14,ld 15 (u6 (p.getD k 0:Nat)),va 18 (u6 (s/2^k:Nat)),va 19 (u6 (s/2^k%2:Nat)),no 20,nu 24 ((k+1:Nat):Int)],1000,hlt,by omega,?_⟩
   refine m_ (p:=let z0:=(p.length:Int);let z1:=(↑(k+1):Int);let z2:=(k:Int);Bn [decide (z2<z0)=true,An [(0:Int)<=z2,z2<z0],headF (List.drop (k*1) (ut p))=some (u6 ↑(List.getD p k 0)),binV (Qac Try.prog) BinOp.shr 29 (u6 s) (i6 k)=some (u6 ↑(s/2^k)),binV (Qac Try.prog) BinOp.and 29 (u6 ↑(s/2^k)) (u6 1)=some (u6 ↑(s/2^k%2)),((↑(s/2^k%2):Int)==1)=false,wr .i64 (z2+1)=z1,Bn [Sm (s:Int),Sm ((0:Nat):Int),(↑(ovF' s p (k+1)):Int)=(↑(ovF' s p k):Int),An [Sm p.length,Sm (ut p)],z0=z0,z1=z1]]) ?_
   (repeat'(first|(with_reducible apply And.intro)|(refine fun(_:True)=>?_)))<;>first|exact aq|skip
   all_goals rw[e1]
 ·have : k = p.length := by omega
  subst this
  refine .inr ⟨.exit 0,[],ovS s p j p.length,[no 12],1000,.inl ⟨trivial,rfl,rfl⟩,?_⟩
  refine m_ (p:=let z0:=(p.length:Int);let z1:=(↑(ovF' s p p.length):Int);Bn [decide (z0<z0)=false,Bn [Sm (s:Int),Sm ((0:Nat):Int),z1=z1,An [Sm p.length,Sm (ut p)],z0=z0,z0=z0]]) ?_
  (repeat'(first|(with_reducible apply And.intro)|(refine fun(_:True)=>?_)))<;>first|exact aq|skip
  all_goals skip
theorem over_fn(s:Nat)(p j:List Nat)(hs:s<18446744073709551616)(hl:p.length<=64)(h64:S64 p):FnOk Pg g0 88 [grV p j,u6 s] (u6 (ovF' s p p.length:Nat)):=by
 have hp:=Qaf p
 have hj:=Qaf j
 have ho:=Qta s p j hs hl h64
 refine FnOk.of_vc vE_ok mixed Qab (n:=1000) (r:=[]) (S:={sl:=[(4,u6 (ovF' s p p.length:Nat))]}) (hs:=[(0,.loop [] (ovS s p j 0) [(True,.exit 0,ovS s p j p.length)])]) ?_
 refine m_ (p:=let z0:=(↑(ovF' s p p.length):Int);Bn [Sm (u6 z0),Bn [Bn [Sm (s:Int),((0:Nat):Int)=(0:Int),(↑(ovF' s p 0):Int)=(0:Int),An [Sm p.length,Sm (ut p)],Sm (p.length:Int),((0:Nat):Int)=(0:Int)]],Sat Try.prog none 0 (at' 88 [1,1,0,1,0]) (mkSt g0 26 (ovS s p j 0)) (Qad g0 26 [(True,Ex.exit 0,ovS s p j p.length)]),(True->Bn [Bn [z0=z0]])]) ?_
 (repeat'(first|(with_reducible apply And.intro)|(refine fun(_:True)=>?_)))<;>first|exact aq|skip
 all_goals first|exact ho|rfl|skip
inductive Es where
 |mk(k v:Nat)(l:List Es)
mutual
def esC:Es->List V
 | .mk k v l=>[i6 (k:Nat),u6 (v:Nat),.im l.length (esL l)]
def esL:List Es->List V
 |[]=>[]
 |x::l=>esC x++esL l
end
abbrev esV(t:Es):V:=.agg (esC t)
mutual
theorem Qqb: ∀t,HfL (esC t)
 | .mk k v l=>by unfold esC;exact⟨trivial,trivial,trivial,trivial⟩
end
theorem Qb9{a b:List V}(ha:HfL a)(hb:HfL b):HfL (a++b):=by
 induction a with
 |nil=>exact hb
 |cons x a ih=>exact⟨ha.1,ih ha.2⟩
def noL:List V:=[]
theorem Qkb(s:Nat):FnOk Pg g0 67 [u6 s] (esV (.mk 1 s [])):=by
 refine FnOk.of_vc vE_ok mixed Qab (n:=1000) (r:=[0]) (S:={sl:=[(2,.ptr 0 0)],os:=[.row 57 none [i6 (1:Nat),u6 s,.im 0 noL]],md:=[1]}) (hs:=[]) ?_
 refine m_ (p:=Bn [V.agg [i6 ↑(1:Nat),u6 s,V.im 0 noL]=esV (Es.mk 1 s []),Bn [Zz],Bn [((1:Nat):Int)=(1:Int),Sm (s:Int),Zz]]) ?_
 (repeat'(first|(with_reducible apply And.intro)|(refine fun(_:True)=>?_)))<;>first|exact aq|skip
 all_goals skip
theorem Qan(l:List Es):HfL (esL l):=by
 induction l with
 |nil=>trivial
 |cons x l ih=>rw[esL];exact Qb9 (Qqb x) ih
theorem ratio_fn(a b:Es):FnOk Pg g0 90 [esV a,esV b] (esV (.mk 4 0 [a,b])):=by
 obtain⟨k,v,l⟩:=a
 obtain⟨k2,v2,l2⟩:=b
 have h1:=Qan l
 have h2:=Qan l2
 show FnOk Pg g0 90 [.agg [i6 (k:Nat),u6 (v:Nat),.im l.length (esL l)],.agg [i6 (k2:Nat),u6 (v2:Nat),.im l2.length (esL l2)]] (.agg [i6 (4:Nat),u6 (0:Nat),.im 2 [i6 (k:Nat),u6 (v:Nat),.im l.length (esL l),i6 (k2:Nat),u6 (v2:Nat),.im l2.length (esL l2)]])
 generalize esL l=A at*
 generalize esL l2=B at*
 refine FnOk.of_vc vE_ok mixed Qab (n:=1000) (r:=[2]) (S:={sl:=[(4,.ptr 0 0)],os:=[.row 57 none [i6 (4:Nat),u6 (0:Nat),.im 2 [i6 (k:Nat),u6 (v:Nat),.im l.length A,i6 (k2:Nat),u6 (v2:Nat),.im l2.length B]]],md:=[1]}) (hs:=[]) ?_
 refine m_ (p:=let z0:=[i6 k,u6 v,V.im l.length A,i6 k2,u6 v2,V.im l2.length B];let z1:=V.agg [i6 ↑(4:Nat),u6 ↑(0:Nat),V.im 2 z0];Bn [z1=z1,Bn [Zz],Bn [((4:Nat):Int)=(4:Int),((0:Nat):Int)=(0:Int),An [2=2,z0=z0,TT 6]]]) ?_
 (repeat'(first|(with_reducible apply And.intro)|(refine fun(_:True)=>?_)))<;>first|exact aq|skip
 all_goals skip
set_option maxHeartbeats 1000000
set_option maxRecDepth 100000
def sumE(s:Nat):Es->Es
 | .mk k v l=>if s=0 then .mk k v l else if k=1/\mi s v=0 then .mk 1 (mi v s) []else .mk 2 s [.mk k v l]
theorem sum_fn0(k v:Nat)(l:List Es):FnOk Pg g0 68 [u6 (0:Nat),esV (.mk k v l)] (esV (.mk k v l)):=by
 have h1:=Qan l
 show FnOk Pg g0 68 [u6 (0:Nat),.agg [i6 (k:Nat),u6 (v:Nat),.im l.length (esL l)]] (.agg [i6 (k:Nat),u6 (v:Nat),.im l.length (esL l)])
 generalize esL l=A at*
 refine FnOk.of_vc vE_ok mixed Qab (n:=1000) (r:=[1]) (S:={sl:=[(4,.ptr 0 0)],os:=[.row 57 none [i6 (k:Nat),u6 (v:Nat),.im l.length A]],md:=[1]}) (hs:=[]) ?_
 refine m_ (p:=Bn [Sm (V.agg [i6 k,u6 v,V.im l.length A]),Bn [Zz],Bn [Sm (k:Int),Sm (v:Int),An [Sm l.length,A=A]]]) ?_
 (repeat'(first|(with_reducible apply And.intro)|(refine fun(_:True)=>?_)))<;>first|exact aq|skip
 all_goals skip
theorem sum_fn2(s k v:Nat)(l:List Es)(hs:s<18446744073709551616)(hv:v<18446744073709551616)(h0:s≠0)(hk:k≠1):FnOk Pg g0 68 [u6 s,esV (.mk k v l)] (esV (.mk 2 s [.mk k v l])):=by
 have h1:=Qan l
 show FnOk Pg g0 68 [u6 s,.agg [i6 (k:Nat),u6 (v:Nat),.im l.length (esL l)]] (.agg [i6 (2:Nat),u6 s,.im 1 [i6 (k:Nat),u6 (v:Nat),.im l.length (esL l)]])
 generalize esL l=A at*
 refine FnOk.of_vc vE_ok mixed Qab (n:=1000) (r:=[1]) (S:={sl:=[(4,.ptr 0 0)],os:=[.row 57 none [i6 (2:Nat),u6 s,.im 1 [i6 (k:Nat),u6 (v:Nat),.im l.length A]]],md:=[1]}) (hs:=[no 7,no 12]) ?_
 refine m_ (p:=let z0:=[i6 k,u6 v,V.im l.length A];Bn [Sm (V.agg [i6 ↑(2:Nat),u6 s,V.im 1 z0]),((s:Int)==0)=false,((k:Int)==1)=false,Bn [Zz],Bn [((2:Nat):Int)=(2:Int),Sm (s:Int),An [1=1,Sm z0,TT 3]]]) ?_
 (repeat'(first|(with_reducible apply And.intro)|(refine fun(_:True)=>?_)))<;>first|exact aq|skip
 all_goals skip
theorem sum_fn3(s v:Nat)(l:List Es)(hs:s<18446744073709551616)(hv:v<18446744073709551616)(h0:s≠0)(hm:mi s v≠0):FnOk Pg g0 68 [u6 s,esV (.mk 1 v l)] (esV (.mk 2 s [.mk 1 v l])):=by
 have h1:=Qan l
 have h2:=mi_u (G:=Qac Pg) (t:=29) hs hv
 show FnOk Pg g0 68 [u6 s,.agg [i6 (1:Nat),u6 (v:Nat),.im l.length (esL l)]] (.agg [i6 (2:Nat),u6 s,.im 1 [i6 (1:Nat),u6 (v:Nat),.im l.length (esL l)]])
 generalize esL l=A at*
 refine FnOk.of_vc vE_ok mixed Qab (n:=1000) (r:=[1]) (S:={sl:=[(4,.ptr 0 0)],os:=[.row 57 none [i6 (2:Nat),u6 s,.im 1 [i6 (1:Nat),u6 (v:Nat),.im l.length A]]],md:=[1]}) (hs:=[no 7,va 17 (u6 (mi s v:Nat)),no 18]) ?_
 refine m_ (p:=let z0:=[i6 ↑(1:Nat),u6 v,V.im l.length A];let z2:=(s:Int);let z1:=V.agg [i6 ↑(2:Nat),u6 s,V.im 1 z0];Bn [z1=z1,(z2==0)=false,binV (Qac Try.prog) BinOp.andNot 29 (u6 s) (u6 v)=some (u6 ↑(mi s v)),((↑(mi s v):Int)==0)=false,Bn [Zz],Bn [((2:Nat):Int)=(2:Int),z2=z2,An [1=1,z0=z0,TT 3]]]) ?_
 (repeat'(first|(with_reducible apply And.intro)|(refine fun(_:True)=>?_)))<;>first|exact aq|skip
 all_goals first|exact h2|skip
theorem sum_fn1(s v:Nat)(l:List Es)(hs:s<18446744073709551616)(hv:v<18446744073709551616)(h0:s≠0)(hm:mi s v=0):FnOk Pg g0 68 [u6 s,esV (.mk 1 v l)] (esV (.mk 1 (mi v s) [])):=by
 have h1:=Qan l
 have h2:=mi_u (G:=Qac Pg) (t:=29) hs hv
 rw[hm]at h2
 have h3:=mi_u (G:=Qac Pg) (t:=29) hv hs
 have hf:=Qkb (mi v s)
 show FnOk Pg g0 68 [u6 s,.agg [i6 (1:Nat),u6 (v:Nat),.im l.length (esL l)]] (.agg [i6 (1:Nat),u6 (mi v s:Nat),.im 0 noL])
 change FnOk Pg g0 _ _ (.agg [i6 (1:Nat),u6 (mi v s:Nat),.im 0 noL])at hf
 generalize esL l=A at*
 refine FnOk.of_vc vE_ok mixed Qab (n:=1000) (r:=[1]) (S:={sl:=[(4,.ptr 0 0)],os:=[.row 57 none [i6 (1:Nat),u6 (mi v s:Nat),.im 0 noL]],md:=[1]}) (hs:=[no 7,va 17 (u6 (0:Nat)),va 23 (u6 (mi v s:Nat)),fn 24 (.agg [i6 (1:Nat),u6 (mi v s:Nat),.im 0 noL])]) ?_
 refine m_ (p:=let z1:=u6 ↑(mi v s);let z0:=V.agg [i6 ↑(1:Nat),z1,V.im 0 noL];Bn [z0=z0,((s:Int)==0)=false,binV (Qac Try.prog) BinOp.andNot 29 (u6 s) (u6 v)=some (u6 ↑(0:Nat)),binV (Qac Try.prog) BinOp.andNot 29 (u6 v) (u6 s)=some z1,Bn [Tt],FnOk Try.prog g0 67 [z1] z0,Tt,Bn [Zz],Bn [Sm ((1:Nat):Int),Sm (↑(mi v s):Int),An [Zz,noL=noL]]]) ?_
 (repeat'(first|(with_reducible apply And.intro)|(refine fun(_:True)=>?_)))<;>first|exact aq|skip
 all_goals first|exact h2|exact h3|exact hf|skip
def Es.vars:Es->Nat| .mk _ v _=>v
theorem Qoz(s:Nat)(t:Es)(hs:s<18446744073709551616)(hv:t.vars<18446744073709551616):FnOk Pg g0 68 [u6 s,esV t] (esV (sumE s t)):=by
 obtain⟨k,v,l⟩:=t
 show FnOk Pg g0 68 _ (esV (if s=0 then .mk k v l else if k=1/\mi s v=0 then .mk 1 (mi v s) []else .mk 2 s [.mk k v l]))
 by_cases h0:s=0
 ·subst h0;rw[if_pos rfl];exact sum_fn0 k v l
 ·rw [if_neg h0]
  by_cases hk:k=1
  ·subst hk
   by_cases hm:mi s v=0
   ·rw[if_pos ⟨rfl,hm⟩];exact sum_fn1 s v l hs hv h0 hm
   ·rw[if_neg (fun h=>hm h.2)];exact sum_fn3 s v l hs hv h0 hm
  ·rw[if_neg (fun h=>hk h.1)];exact sum_fn2 s k v l hs hv h0 hk
theorem Quf(k v:Nat)(l:List Es):FnOk Pg g0 69 [.im 1 (esL [.mk k v l])] (esV (.mk k v l)):=by
 have h1:=Qan l
 show FnOk Pg g0 69 [.im 1 [i6 (k:Nat),u6 (v:Nat),.im l.length (esL l)]] (.agg [i6 (k:Nat),u6 (v:Nat),.im l.length (esL l)])
 generalize esL l=A at*
 refine FnOk.of_vc vE_ok mixed Qab (n:=1000) (r:=[0]) (S:={sl:=[(2,.ptr 0 0)],os:=[.row 57 none [i6 (k:Nat),u6 (v:Nat),.im l.length A]],md:=[1]}) (hs:=[]) ?_
 refine m_ (p:=Bn [Sm (V.agg [i6 k,u6 v,V.im l.length A]),Bn [Zz],Bn [Sm (k:Int),Sm (v:Int),An [Sm l.length,A=A]]]) ?_
 (repeat'(first|(with_reducible apply And.intro)|(refine fun(_:True)=>?_)))<;>first|exact aq|skip
 all_goals skip
theorem Que:FnOk Pg g0 69 [.im 0 noL] (esV (.mk 3 0 [])):=by
 refine FnOk.of_vc vE_ok mixed Qab (n:=1000) (r:=[0]) (S:={sl:=[(2,.ptr 0 0)],os:=[.row 57 none [i6 (3:Nat),u6 (0:Nat),.im 0 noL]],md:=[1]}) (hs:=[]) ?_
 refine m_ (p:=Bn [V.agg [i6 ↑(3:Nat),u6 ↑(0:Nat),V.im 0 noL]=esV (Es.mk 3 0 []),Bn [Zz],Bn [((3:Nat):Int)=(3:Int),((0:Nat):Int)=(0:Int),Zz]]) ?_
 (repeat'(first|(with_reducible apply And.intro)|(refine fun(_:True)=>?_)))<;>first|exact aq|skip
 all_goals skip
theorem Qgt(l:List Es):(esL l).length=3*l.length:=by
 induction l with
 |nil=>rfl
 |cons x l ih=>obtain⟨k,v,m⟩:=x;rw[esL,List.length_append,ih,esC];simp;omega
theorem src_im{A:List V}{n m:Nat}{H:T O}(h:A.length=m*n):srcV H n (.im m A)=some (m,A):=by
 unfold srcV;dsimp only
 rw[h,show Nat.ble (m*n) (m*n)=true from Nat.ble_eq_true_of_le (Nat.le_refl _)]
 simp[List.take_of_length_le (Nat.le_of_eq h)]
theorem Qp4(m:Nat)(l:List Es)(hl:l.length=m+2)(hn:m<=1000):FnOk Pg g0 69 [.im (m+2) (esL l)] (esV (.mk 3 0 l)):=by
 have h1:=Qan l
 have h2:=Qgt l
 rw[hl]at h2
 show FnOk Pg g0 69 [.im (m+2) (esL l)] (.agg [i6 (3:Nat),u6 (0:Nat),.im l.length (esL l)])
 rw[hl]
 generalize esL l=A at*
 refine FnOk.of_vc vE_ok mixed Qab (n:=1000) (r:=[0]) (S:={sl:=[(2,.ptr 0 0)],os:=[.row 57 none [i6 (3:Nat),u6 (0:Nat),.im (m+2) A]],md:=[1]}) (hs:=[no 5,(10,.an (m+2) A)]) ?_
 refine m_ (p:=Bn [Sm (V.agg [i6 ↑(3:Nat),u6 ↑(0:Nat),V.im (m+2) A]),((↑(m+2):Int)==1)=false,An [srcV (pt T.e 0 (O.row 57 none [i6 0,u6 0,V.nils])) 3 (V.im (m+2) A)=some (m+2,A),m+2<=9223372036854775807,(m+2)*40<=140737488355328],Bn [Zz],Bn [((3:Nat):Int)=(3:Int),((0:Nat):Int)=(0:Int),An [Sm (m+2),A=A,HfL A]]]) ?_
 (repeat'(first|(with_reducible apply And.intro)|(refine fun(_:True)=>?_)))<;>first|exact aq|skip
 all_goals first|exact src_im o_ |skip
inductive EsB:Es->Prop
 |mk {k v:Nat} {l:List Es}:l.length<=1000->(∀x∈l,EsB x)->EsB (.mk k v l)
theorem Qfd: ∀(a b:List Es),esL (a++b)=esL a++esL b
 |[],b=>rfl
 |x::a,b=>by rw[List.cons_append,esL,esL,Qfd a b,List.append_assoc]
theorem Qgu(x:Es):esL [x]=esC x:=by rw[esL,esL,List.append_nil]
theorem take_esL{l:List Es}{k a b:Nat}{c:List Es}(h:l[k]? =some (.mk a b c)):takeE 3 ((esL l).drop (k*3))=some [i6 (a:Nat),u6 (b:Nat),.im c.length (esL c)]:=by
 obtain⟨hlt,he⟩:=List.getElem?_eq_some_iff.1 h
 have e:l=l.take k++(Es.mk a b c::l.drop (k+1)):=by rw[<-he,<-List.drop_eq_getElem_cons hlt,List.take_append_drop]
 have hk:(esL (l.take k)).length=k*3:=by rw[Qgt,List.length_take];omega
 conv=>lhs;rw[e]
 rw[Qfd,<-hk,List.drop_left,esL,esC]
 rfl
def owV(h:Nat):Nat->V
 |0=>.nils
 |n+1=>.sl h 0 (n+1) none
def owL(t z:Nat)(l:List V):Nat->List O
 |0=>[]
 | _+1=>[.row t (some z) l]
abbrev cnS(k v n:Nat)(A:List V)(q:Nat×List V):SL:={sl:=[(2,.ptr 0 0),(3,.ptr 1 0),(12,.im n A),(13,i6 (n:Nat)),(14,i6 (q.1:Nat))],os:=.row 57 none [i6 0,u6 0,.nils]:: .row 57 none [i6 (k:Nat),u6 (v:Nat),owV 2 q.1]::owL 57 3 q.2 q.1,md:=[1,1]}
abbrev cnX(k v n:Nat)(A:List V):SL:={sl:=[(2,.ptr 0 0),(3,.ptr 1 0)],os:=[.row 57 none [i6 0,u6 0,.nils],.row 57 none [i6 (k:Nat),u6 (v:Nat),.im n A]],md:=[1,1]}
theorem Qpi(k v:Nat)(l:List Es)(hl:l.length<=1000)(ih: ∀x∈l,FnOk Pg g0 38 [esV x] (esV x))(n:Nat)(hn:l.length=n)(A:List V)(hA:esL l=A):
  Sat Pg none 0 (at' 38 [1,1,0,1,0]) (mkSt g0 27 (cnS k v n A (0,[]))) (Qad g0 27 [(True,.exit 0,cnX k v n A)]):=by
 have hu:=Qan l
 rw[hA]at hu
 refine Qav vE_ok mixed Qab (b:=at' 38 [1,1,0,1,0,0]) k_ (fun q=>q.1<=n/\q.2=esL (l.take q.1)) (cnS k v n A) (fun q=>n-q.1) (fun q hq=>?_) (0,[]) ⟨Nat.zero_le _,rfl⟩
 obtain⟨i,a⟩:=q
 obtain⟨hi,ha⟩:=hq
 dsimp only at hi ha
 by_cases hlt:i<n
 ·have hck : l[i]? = some l[i] := List.getElem?_eq_getElem o_
  have hf:=ih _ (List.getElem_mem (show i<l.length by omega))
  have hal:a.length=i*3:=by rw[ha,Qgt,List.length_take];omega
  have hnx:esL (l.take (i+1))=a++esC l[i]:=by rw[List.take_add_one,hck,Qfd,ha];simp[Qgu]
  have hha:HfL a:=by rw[ha];exact Qan _
  generalize l[i]' o_ =x at*
  obtain⟨kx,vx,lx⟩:=x
  have hld:=take_esL hck
  rw[hA]at hld
  have hux:=Qan lx
  change FnOk Pg g0 38 [.agg [i6 (kx:Nat),u6 (vx:Nat),.im lx.length (esL lx)]] (.agg [i6 (kx:Nat),u6 (vx:Nat),.im lx.length (esL lx)])at hf
  rw[esC]at hnx
  generalize esL lx=X at*
  clear ha
  cases i with
  |zero=>
   have:a=[]:=List.eq_nil_of_length_eq_zero o_
   subst this
   refine .inl ⟨(0+1,[i6 (kx:Nat),u6 (vx:Nat),.im lx.length X]),[0,1,4],[yes 15,pl 16,ld 17 (.agg [i6 (kx:Nat),u6 (vx:Nat),.im lx.length X]),fn 21 (.agg [i6 (kx:Nat),u6 (vx:Nat),.im lx.length X]),nu 25 (0+1:Nat)],1000,⟨hlt,hnx.symm⟩,by dsimp only;omega,?_⟩
   clear hnx ih
   refine m_ (p:=let z0:=[i6 kx,u6 vx,V.im lx.length X];let z1:=((0:Nat):Int);let z2:=(n:Int);let z3:=(0:Int);let z4:=(↑(1):Int);Bn [decide (z1<z2)=true,An [z3<=z1,z1<z2],takeE 3 (List.drop (0*3) A)=some z0,Bn [TT 3],FnOk Try.prog g0 38 [V.agg z0] (V.agg z0),Tt,wr .i64 (z1+1)=z4,Bn [Zz,Zz,An [n=n,A=A],z2=z2,z4=z4],Bn [z3=z3,z3=z3,Tt],Bn [Sm (k:Int),Sm (v:Int),Bn [Zz,1=1]],An [z0=z0,TT 3]]) ?_
   (repeat'(first|(with_reducible apply And.intro)|(refine fun(_:True)=>?_)))<;>first|exact aq|skip
   all_goals skip
  |succ i=>
   refine .inl ⟨(i+1+1,a++[i6 (kx:Nat),u6 (vx:Nat),.im lx.length X]),[0,1,5],[yes 15,pl 16,ld 17 (.agg [i6 (kx:Nat),u6 (vx:Nat),.im lx.length X]),fn 21 (.agg [i6 (kx:Nat),u6 (vx:Nat),.im lx.length X]),ap 23,nu 25 (i+1+1:Nat)],1000,⟨hlt,hnx.symm⟩,by dsimp only;omega,?_⟩
   clear hnx ih
   refine m_ (p:=let z0:=[i6 kx,u6 vx,V.im lx.length X];let z1:=(↑(i+1):Int);let z2:=(↑(i+1+1):Int);let z3:=(n:Int);let z4:=(0:Int);Bn [decide (z1<z3)=true,An [z4<=z1,z1<z3],takeE 3 (List.drop ((i+1)*3) A)=some z0,Bn [TT 3],FnOk Try.prog g0 38 [V.agg z0] (V.agg z0),Tt,a.length=(i+1)*3,i+1+1<=9223372036854775807,(i+1+1)*40<=140737488355328,wr .i64 (z1+1)=z2,Bn [Zz,Zz,An [n=n,A=A],z3=z3,z2=z2],Bn [z4=z4,z4=z4,Tt],Bn [Sm (k:Int),Sm (v:Int),Bn [Zz,Nat.succ i+1=i+1+1]],An [Sm (a++z0),HfL (a++z0)]]) ?_
   (repeat'(first|(with_reducible apply And.intro)|(refine fun(_:True)=>?_)))<;>first|exact aq|skip
   all_goals first|exact Qb9 hha ⟨trivial,trivial,trivial,trivial⟩|skip
 ·have : i = n := by omega
  subst this
  have:a=A:=by rw[ha,<-hA,List.take_of_length_le o_]
  subst this
  cases i with
  |zero=>
   refine .inr ⟨.exit 0,[0,1],cnX k v 0 a,[no 15],1000,.inl ⟨trivial,rfl,rfl⟩,?_⟩
   clear ha hA ih
   refine m_ (p:=Bn [decide (((0:Nat):Int)<((0:Nat):Int))=false,Bn [Zz,Zz],Bn [Sm (0:Int),Sm (0:Int),Tt],Bn [Sm (k:Int),Sm (v:Int),Zz]]) ?_
   (repeat'(first|(with_reducible apply And.intro)|(refine fun(_:True)=>?_)))<;>first|exact aq|skip
   all_goals skip
  |succ i=>
   refine .inr ⟨.exit 0,[0,1],cnX k v (i+1) a,[no 15],1000,.inl ⟨trivial,rfl,rfl⟩,?_⟩
   clear ha hA ih
   refine m_ (p:=Bn [decide ((↑(i+1):Int)<(↑(i+1):Int))=false,Bn [Zz,Zz],Bn [Sm (0:Int),Sm (0:Int),Tt],Bn [Sm (k:Int),Sm (v:Int),An [Sm (i+1),a=a,HfL a]]]) ?_
   (repeat'(first|(with_reducible apply And.intro)|(refine fun(_:True)=>?_)))<;>first|exact aq|skip
   all_goals skip
theorem clone_mk(k v:Nat)(l:List Es)(hl:l.length<=1000)(ih: ∀x∈l,FnOk Pg g0 38 [esV x] (esV x)):FnOk Pg g0 38 [esV (.mk k v l)] (esV (.mk k v l)):=by
 have hu:=Qan l
 have hlp:=Qpi k v l hl ih l.length rfl (esL l) rfl
 show FnOk Pg g0 38 [.agg [i6 (k:Nat),u6 (v:Nat),.im l.length (esL l)]] (.agg [i6 (k:Nat),u6 (v:Nat),.im l.length (esL l)])
 generalize esL l=A at*
 clear ih
 refine FnOk.of_vc vE_ok mixed Qab (n:=1000) (r:=[0]) (S:={sl:=[(2,.ptr 0 0)],os:=[.row 57 none [i6 (k:Nat),u6 (v:Nat),.im l.length A]],md:=[1]}) (hs:=[(0,.loop [1,2] (cnS k v l.length A (0,[])) [(True,.exit 0,cnX k v l.length A)])]) ?_
 refine m_ (p:=Bn [Sm (V.agg [i6 k,u6 v,V.im l.length A]),Bn [Bn [Zz,Zz,An [Sm l.length,A=A],Sm (l.length:Int),((0:Nat):Int)=(0:Int)],Bn [Sm (0:Int),Sm (0:Int),Tt],Bn [Sm (k:Int),Sm (v:Int),Tt]],Sat Try.prog none 0 (at' 38 [1,1,0,1,0]) (mkSt g0 27 (cnS k v l.length A (0,[]))) (Qad g0 27 [(True,Ex.exit 0,cnX k v l.length A)]),(True->Bn [Bn [Zz],Bn [Sm (k:Int),Sm (v:Int),An [Sm l.length,A=A]]])]) ?_
 (repeat'(first|(with_reducible apply And.intro)|(refine fun(_:True)=>?_)))<;>first|exact aq|skip
 all_goals first|exact hlp|skip
theorem clone_fn{t:Es}(h:EsB t):FnOk Pg g0 38 [esV t] (esV t):=by
 induction h with
 |mk a b ih=>exact clone_mk _ _ _ a ih
def it(l:List Nat):List V:=l.map fun(x:Nat)=>i6 (x:Int)
abbrev il(l:List Nat):V:=.im l.length (it l)
theorem Qbk(l:List Nat):HfL (it l):=Qgg _ l (fun _=>trivial)
theorem it_app(a b:List Nat):it (a++b)=it a++it b:=by unfold it;rw[List.map_append]
theorem Qsh(a:List Nat):(it a).length=a.length:=by unfold it;rw[List.length_map]
def soP(p:List Nat):Nat->Nat×List Nat->Nat×List Nat
 |0,x=>x
 |k+1,x=>if¬(soP p k x).1.testBit k/\mi (p.getD k 0) (soP p k x).1=0 then((soP p k x).1|||2^k,(soP p k x).2++[k])else soP p k x
theorem Qou{p:List Nat}{x:Nat×List Nat}(hx:x.1<18446744073709551616): ∀k,k<=64->(soP p k x).1<18446744073709551616
 |0,_=>hx
 |k+1,hk=>by
  unfold soP
  split
  ·exact Nat.or_lt_two_pow (n:=64) (Qou hx k o_) (Nat.pow_lt_pow_right o_ o_)
  ·exact Qou hx k o_
theorem Qmv{p:List Nat}{x:Nat×List Nat}: ∀k,(soP p k x).2.length<=x.2.length+k
 |0=>Nat.le_refl _
 |k+1=>by
  have:=Qmv (p:=p) (x:=x) k
  unfold soP
  split
  ·simp;omega
  ·omega
abbrev gO(p j:List Nat):O:=.row 94 none [ul p,ul j]
abbrev soS(p j:List Nat)(q:Nat×Nat×Nat×List V):SL:={sl:=[(1,.ptr 0 0),(3,owV 1 q.2.2.1),(4,u6 (q.2.1:Nat)),(12,ul p),(13,i6 (p.length:Nat)),(14,i6 (q.1:Nat))],os:=gO p j::owL 3 1 q.2.2.2 q.2.2.1}
theorem Qt3(p j:List Nat)(hl:p.length<=64)(h64:S64 p)(x:Nat×List Nat)(hx:x.1<18446744073709551616)(hxl:x.2.length<=1000)(d u d' u':Nat)(a a':List V)(h1:x.1=d)(h2:x.2.length=u)(h3:it x.2=a)(h4:(soP p p.length x).1=d')(h5:(soP p p.length x).2.length=u')(h6:it (soP p p.length x).2=a'):
  Sat Pg none 0 (at' 37 [1,1,0,1,0,0,1,0,1,0]) (mkSt g0 40 (soS p j (0,d,u,a))) (Qad g0 40 [(True,.exit 2,soS p j (p.length,d',u',a'))]):=by
 have hp:=Qaf p
 have hj:=Qaf j
 refine Qav vE_ok mixed Qab (b:=at' 37 [1,1,0,1,0,0,1,0,1,0,0]) k_ (fun q=>q.1<=p.length/\(soP p q.1 x).1=q.2.1/\(soP p q.1 x).2.length=q.2.2.1/\it (soP p q.1 x).2=q.2.2.2) (soS p j) (fun q=>p.length-q.1) (fun q hq=>?_) (0,d,u,a) ⟨Nat.zero_le _,h1,h2,h3⟩
 obtain⟨k,e,w,b⟩:=q
 obtain⟨hk,q1,q2,q3⟩:=hq
 dsimp only at hk q1 q2 q3
 have hb:HfL b:=by rw[<-q3];exact Qbk _
 have hbl:b.length=w:=by rw[<-q3,Qsh,q2]
 have hw:w<=1064:=by have:=Qmv (p:=p) (x:=x) k;omega
 have hlt64:=Qou (p:=p) hx k o_
 rw[q1]at hlt64
 by_cases hlt:k<p.length
 ·have hld := Qc1 hlt
  have s1:=Qdd (G:=Qac Pg) (t:=29) (x:=e) (k:=k) o_
  have s2:=Qcj (G:=Qac Pg) (t:=29) (x:=e/2^k)
  have s3:=mi_u (G:=Qac Pg) (t:=29) (h64.get k) hlt64
  obtain⟨s4,s5⟩:=Qdm (G:=Qac Pg) (t:=29) (k:=k) o_
  have s6:=or_u (G:=Qac Pg) (t:=29) hlt64 s5
  obtain⟨z,hz⟩: ∃z,z=2^k:=⟨_,rfl⟩
  cases kp:e.testBit k with
  | true =>
   have hbe:e/2^k%2=1:=by rw[Qb2,kp];rfl
   have en:soP p (k+1) x=soP p k x:=by rw[soP,if_neg (fun h=>h.1 (by rw[q1];exact kp))]
   cases w with
   |zero=>
    have:b=[]:=List.eq_nil_of_length_eq_zero hbl
    subst this
    refine .inl ⟨(k+1,e,0,[]),[0],[yes 15,pl 17,ld 18 (u6 (p.getD k 0:Nat)),va 21 (u6 (e/2^k:Nat)),va 22 (u6 (e/2^k%2:Nat)),no 23,nu 38 ((k+1:Nat):Int)],1000,⟨hlt,by rw[en];exact q1,by rw[en];exact q2,by rw[en];exact q3⟩,by dsimp only;omega,?_⟩
    clear q1 q2 q3 en
    refine m_ (p:=let z0:=(p.length:Int);let z1:=(↑(k+1):Int);let z2:=(k:Int);Bn [decide (z2<z0)=true,An [(0:Int)<=z2,z2<z0],headF (List.drop (k*1) (ut p))=some (u6 ↑(List.getD p k 0)),binV (Qac Try.prog) BinOp.shr 29 (u6 e) (i6 k)=some (u6 ↑(e/2^k)),binV (Qac Try.prog) BinOp.and 29 (u6 ↑(e/2^k)) (u6 1)=some (u6 ↑(e/2^k%2)),((↑(e/2^k%2):Int)==0)=false,wr .i64 (z2+1)=z1,Bn [Zz,Tt,Sm (e:Int),An [Sm p.length,Sm (ut p)],z0=z0,z1=z1],An [Sm [ul p,ul j],TT 2]]) ?_
    (repeat'(first|(with_reducible apply And.intro)|(refine fun(_:True)=>?_)))<;>first|exact aq|skip
    all_goals skip
   |succ w=>
    refine .inl ⟨(k+1,e,w+1,b),[0,1],[yes 15,pl 17,ld 18 (u6 (p.getD k 0:Nat)),va 21 (u6 (e/2^k:Nat)),va 22 (u6 (e/2^k%2:Nat)),no 23,nu 38 ((k+1:Nat):Int)],1000,⟨hlt,by rw[en];exact q1,by rw[en];exact q2,by rw[en];exact q3⟩,by dsimp only;omega,?_⟩
    clear q1 q2 q3 en
    refine m_ (p:=let z0:=(p.length:Int);let z1:=(↑(k+1):Int);let z2:=(k:Int);Bn [decide (z2<z0)=true,An [(0:Int)<=z2,z2<z0],headF (List.drop (k*1) (ut p))=some (u6 ↑(List.getD p k 0)),binV (Qac Try.prog) BinOp.shr 29 (u6 e) (i6 k)=some (u6 ↑(e/2^k)),binV (Qac Try.prog) BinOp.and 29 (u6 ↑(e/2^k)) (u6 1)=some (u6 ↑(e/2^k%2)),((↑(e/2^k%2):Int)==0)=false,wr .i64 (z2+1)=z1,Bn [Zz,Bn [Zz,Sm (w+1)],Sm (e:Int),An [Sm p.length,Sm (ut p)],z0=z0,z1=z1],An [Sm [ul p,ul j],TT 2],An [b=b,HfL b]]) ?_
    (repeat'(first|(with_reducible apply And.intro)|(refine fun(_:True)=>?_)))<;>first|exact aq|skip
    all_goals skip
  | false =>
   have hbe:e/2^k%2=0:=by rw[Qb2,kp];rfl
   by_cases hm:mi (p.getD k 0) e=0
   ·have en : soP p (k + 1) x = (e ||| 2 ^ k, (soP p k x).2 ++ [k]) := by rw [soP, if_pos ⟨by rw [q1, kp]; simp, by rw [q1]; exact hm⟩, q1]
    have ei:it (soP p (k+1) x).2=b++[i6 (k:Nat)]:=by rw[en];dsimp only;rw[it_app,q3];rfl
    have ew:(soP p (k+1) x).2.length=w+1:=by rw[en];simp;omega
    rw[hm]at s3
    rw[<-hz]at s4 s5 s6 en
    cases w with
    |zero=>
     have:b=[]:=List.eq_nil_of_length_eq_zero hbl
     subst this
     refine .inl ⟨(k+1,e|||z,1,[i6 (k:Nat)]),[0,2],[yes 15,pl 17,ld 18 (u6 (p.getD k 0:Nat)),va 21 (u6 (e/2^k:Nat)),va 22 (u6 (e/2^k%2:Nat)),yes 23,va 27 (u6 (0:Nat)),yes 28,va 36 (u6 (z:Nat)),va 37 (u6 (e|||z:Nat)),nu 38 ((k+1:Nat):Int)],1000,⟨hlt,by rw[en],ew,ei⟩,by dsimp only;omega,?_⟩
     clear q1 q2 q3 en ei ew
     refine m_ (p:=let z0:=Qac Try.prog;let z1:=(p.length:Int);let z2:=(↑(k+1):Int);let z3:=(k:Int);let z4:=u6 ↑(List.getD p k 0);Bn [decide (z3<z1)=true,An [(0:Int)<=z3,z3<z1],headF (List.drop (k*1) (ut p))=some z4,binV z0 BinOp.shr 29 (u6 e) (i6 k)=some (u6 ↑(e/2^k)),binV z0 BinOp.and 29 (u6 ↑(e/2^k)) (u6 1)=some (u6 ↑(e/2^k%2)),((↑(e/2^k%2):Int)==0)=true,binV z0 BinOp.andNot 29 z4 (u6 e)=some (u6 ↑(0:Nat)),(((0:Nat):Int)==0)=true,binV z0 BinOp.shl 29 (u6 1) (i6 k)=some (u6 z),binV z0 BinOp.or 29 (u6 e) (u6 z)=some (u6 ↑(e|||z)),wr .i64 (z3+1)=z2,Bn [Zz,Bn [Zz,1=1],Sm (↑(e|||z):Int),An [Sm p.length,Sm (ut p)],z1=z1,z2=z2],An [Sm [ul p,ul j],TT 2],Bn [Sm [i6 k],Tt]]) ?_
     (repeat'(first|(with_reducible apply And.intro)|(refine fun(_:True)=>?_)))<;>first|exact aq|skip
     all_goals first|exact s3|exact s4|exact s6.1|skip
    |succ w=>
     refine .inl ⟨(k+1,e|||z,w+1+1,b++[i6 (k:Nat)]),[0,3],[yes 15,pl 17,ld 18 (u6 (p.getD k 0:Nat)),va 21 (u6 (e/2^k:Nat)),va 22 (u6 (e/2^k%2:Nat)),yes 23,va 27 (u6 (0:Nat)),yes 28,ap 33,va 36 (u6 (z:Nat)),va 37 (u6 (e|||z:Nat)),nu 38 ((k+1:Nat):Int)],1000,⟨hlt,by rw[en],ew,ei⟩,by dsimp only;omega,?_⟩
     clear q1 q2 q3 en ei ew
     refine m_ (p:=let z0:=Qac Try.prog;let z1:=(p.length:Int);let z2:=(↑(k+1):Int);let z3:=(k:Int);let z4:=u6 ↑(List.getD p k 0);Bn [decide (z3<z1)=true,An [(0:Int)<=z3,z3<z1],headF (List.drop (k*1) (ut p))=some z4,binV z0 BinOp.shr 29 (u6 e) (i6 k)=some (u6 ↑(e/2^k)),binV z0 BinOp.and 29 (u6 ↑(e/2^k)) (u6 1)=some (u6 ↑(e/2^k%2)),((↑(e/2^k%2):Int)==0)=true,binV z0 BinOp.andNot 29 z4 (u6 e)=some (u6 ↑(0:Nat)),(((0:Nat):Int)==0)=true,b.length=(w+1)*1,w+1+1<=9223372036854775807,(w+1+1)*8<=140737488355328,binV z0 BinOp.shl 29 (u6 1) (i6 k)=some (u6 z),binV z0 BinOp.or 29 (u6 e) (u6 z)=some (u6 ↑(e|||z)),wr .i64 (z3+1)=z2,Bn [Zz,Bn [Zz,Nat.succ w+1=w+1+1],Sm (↑(e|||z):Int),An [Sm p.length,Sm (ut p)],z1=z1,z2=z2],An [Sm [ul p,ul j],TT 2],An [Sm (b++[i6 k]),HfL (b++[i6 k])]]) ?_
     (repeat'(first|(with_reducible apply And.intro)|(refine fun(_:True)=>?_)))<;>first|exact aq|skip
     all_goals first|exact s3|exact s4|exact s6.1|exact Qb9 hb ⟨trivial,trivial⟩|skip
   ·have en : soP p (k + 1) x = soP p k x := by rw [soP, if_neg (fun h => hm (by rw [<- q1]; exact h.2))]
    cases w with
    |zero=>
     have:b=[]:=List.eq_nil_of_length_eq_zero hbl
     subst this
     refine .inl ⟨(k+1,e,0,[]),[0],[yes 15,pl 17,ld 18 (u6 (p.getD k 0:Nat)),va 21 (u6 (e/2^k:Nat)),va 22 (u6 (e/2^k%2:Nat)),yes 23,va 27 (u6 (mi (p.getD k 0) e:Nat)),no 28,nu 38 ((k+1:Nat):Int)],1000,⟨hlt,by rw[en];exact q1,by rw[en];exact q2,by rw[en];exact q3⟩,by dsimp only;omega,?_⟩
     clear q1 q2 q3 en
     refine m_ (p:=let z0:=(p.length:Int);let z1:=List.getD p k 0;let z2:=(↑(k+1):Int);let z3:=(k:Int);let z4:=Qac Try.prog;Bn [decide (z3<z0)=true,An [(0:Int)<=z3,z3<z0],headF (List.drop (k*1) (ut p))=some (u6 ↑(z1)),binV z4 BinOp.shr 29 (u6 e) (i6 k)=some (u6 ↑(e/2^k)),binV z4 BinOp.and 29 (u6 ↑(e/2^k)) (u6 1)=some (u6 ↑(e/2^k%2)),((↑(e/2^k%2):Int)==0)=true,binV z4 BinOp.andNot 29 (u6 ↑(z1)) (u6 e)=some (u6 ↑(mi z1 e)),((↑(mi z1 e):Int)==0)=false,wr .i64 (z3+1)=z2,Bn [Zz,Tt,Sm (e:Int),An [Sm p.length,Sm (ut p)],z0=z0,z2=z2],An [Sm [ul p,ul j],TT 2]]) ?_
     (repeat'(first|(with_reducible apply And.intro)|(refine fun(_:True)=>?_)))<;>first|exact aq|skip
     all_goals first|exact s3|skip
    |succ w=>
     refine .inl ⟨(k+1,e,w+1,b),[0,1],[yes 15,pl 17,ld 18 (u6 (p.getD k 0:Nat)),va 21 (u6 (e/2^k:Nat)),va 22 (u6 (e/2^k%2:Nat)),yes 23,va 27 (u6 (mi (p.getD k 0) e:Nat)),no 28,nu 38 ((k+1:Nat):Int)],1000,⟨hlt,by rw[en];exact q1,by rw[en];exact q2,by rw[en];exact q3⟩,by dsimp only;omega,?_⟩
     clear q1 q2 q3 en
     refine m_ (p:=let z0:=(p.length:Int);let z1:=List.getD p k 0;let z2:=(↑(k+1):Int);let z3:=(k:Int);let z4:=Qac Try.prog;Bn [decide (z3<z0)=true,An [(0:Int)<=z3,z3<z0],headF (List.drop (k*1) (ut p))=some (u6 ↑(z1)),binV z4 BinOp.shr 29 (u6 e) (i6 k)=some (u6 ↑(e/2^k)),binV z4 BinOp.and 29 (u6 ↑(e/2^k)) (u6 1)=some (u6 ↑(e/2^k%2)),((↑(e/2^k%2):Int)==0)=true,binV z4 BinOp.andNot 29 (u6 ↑(z1)) (u6 e)=some (u6 ↑(mi z1 e)),((↑(mi z1 e):Int)==0)=false,wr .i64 (z3+1)=z2,Bn [Zz,Bn [Zz,Sm (w+1)],Sm (e:Int),An [Sm p.length,Sm (ut p)],z0=z0,z2=z2],An [Sm [ul p,ul j],TT 2],An [b=b,HfL b]]) ?_
     (repeat'(first|(with_reducible apply And.intro)|(refine fun(_:True)=>?_)))<;>first|exact aq|skip
     all_goals first|exact s3|skip
 ·have : k = p.length := by omega
  subst this
  obtain rfl:d'=e:=by rw[<-h4,q1]
  obtain rfl:u'=w:=by rw[<-h5,q2]
  obtain rfl:a'=b:=by rw[<-h6,q3]
  clear h4 h5 h6 q1 q2 q3
  cases u' with
  |zero=>
   have:a'=[]:=List.eq_nil_of_length_eq_zero hbl
   subst this
   refine .inr ⟨.exit 2,[0],soS p j (p.length,d',0,[]),[no 15],1000,.inl ⟨trivial,rfl,rfl⟩,?_⟩
   refine m_ (p:=let z0:=(p.length:Int);Bn [decide (z0<z0)=false,Bn [Zz,Tt,Sm (d':Int),An [Sm p.length,Sm (ut p)],z0=z0,z0=z0],An [Sm [ul p,ul j],TT 2]]) ?_
   (repeat'(first|(with_reducible apply And.intro)|(refine fun(_:True)=>?_)))<;>first|exact aq|skip
   all_goals skip
  |succ u'=>
   refine .inr ⟨.exit 2,[0,1],soS p j (p.length,d',u'+1,a'),[no 15],1000,.inl ⟨trivial,rfl,rfl⟩,?_⟩
   refine m_ (p:=let z0:=(p.length:Int);Bn [decide (z0<z0)=false,Bn [Zz,Bn [Zz,Sm (u'+1)],Sm (d':Int),An [Sm p.length,Sm (ut p)],z0=z0,z0=z0],An [Sm [ul p,ul j],TT 2],An [a'=a',HfL a']]) ?_
   (repeat'(first|(with_reducible apply And.intro)|(refine fun(_:True)=>?_)))<;>first|exact aq|skip
   all_goals skip
def soW(p:List Nat):Nat->Nat×List Nat->Option (Nat×List Nat)
 |0,x=>if x.1=alN p.length then some x else none
 |f+1,x=>if x.1=alN p.length then some x else soW p f (soP p p.length x)
abbrev sqS(p j:List Nat)(q:Nat×Nat×Nat×List V):SL:={sl:=[(1,.ptr 0 0),(3,owV 1 q.2.2.1),(4,u6 (q.2.1:Nat))],os:=gO p j::owL 3 1 q.2.2.2 q.2.2.1}
theorem Qp1(p j:List Nat)(hl:p.length<64)(h64:S64 p)(F:Nat)(hF:F<=10)(y:Nat×List Nat)(hy:soW p F (0,[])=some y)(n:Nat)(hn:y.2.length=n)(a:List V)(ha:it y.2=a):
  Sat Pg none 0 (at' 37 [1,1,0,1,0]) (mkSt g0 40 (sqS p j (0,0,0,[]))) (Qad g0 40 [(True,.exit 0,{sl:=[(3,.im n a)]})]):=by
 have hp:=Qaf p
 have hj:=Qaf j
 have jx:=Qqm p j hl
 refine Qav vE_ok mixed Qab (b:=at' 37 [1,1,0,1,0,0]) k_ (fun q=>∃x:Nat×List Nat,soW p q.1 x=some y/\x.1=q.2.1/\x.2.length=q.2.2.1/\it x.2=q.2.2.2/\x.1<18446744073709551616/\x.2.length<=p.length*(F-q.1)/\q.1<=F) (sqS p j) (fun q=>q.1) (fun q hq=>?_) (F,0,0,[]) ⟨(0,[]),hy,rfl,rfl,rfl,by decide,by simp,Nat.le_refl _⟩
 obtain⟨f,d,u,b⟩:=q
 obtain⟨x,q0,q1,q2,q3,q4,q5,q6⟩:=hq
 dsimp only at q0 q1 q2 q3 q5 q6
 have hb:HfL b:=by rw[<-q3];exact Qbk _
 have hbl:b.length=u:=by rw[<-q3,Qsh,q2]
 have hu1:x.2.length<=640:=Nat.le_trans q5 (Nat.mul_le_mul (by omega:p.length<=64) (by omega:F-f<=10))
 obtain⟨A,hA⟩: ∃A,A=alN p.length:=⟨_,rfl⟩
 rw[<-hA]at jx
 by_cases hd:d=A
 ·have : x = y := by
   cases f with
   |zero=>rw[soW,if_pos (by rw[q1,hd,hA])]at q0;exact Option.some.inj q0
   |succ f=>rw[soW,if_pos (by rw[q1,hd,hA])]at q0;exact Option.some.inj q0
  subst this
  obtain rfl:n=u:=hn.symm.trans q2
  obtain rfl:a=b:=ha.symm.trans q3
  subst hd
  clear ha hn q0 q1 q2 q3 q4 q5 hu1
  cases n with
  |zero=>
   have:a=[]:=List.eq_nil_of_length_eq_zero hbl
   subst this
   refine .inr ⟨.exit 0,[],{sl:=[(3,.im 0 [])]},[fn 9 (u6 (d:Nat)),no 10],1000,.inl ⟨trivial,rfl,rfl⟩,?_⟩
   refine m_ (p:=Bn [Bn [TT 2],FnOk Try.prog g0 62 [V.agg [V.im p.length (ut p),V.im j.length (ut j)]] (u6 d),Tt,((d:Int) != (d:Int))=false,Bn [Zz]]) ?_
   (repeat'(first|(with_reducible apply And.intro)|(refine fun(_:True)=>?_)))<;>first|exact aq|skip
   all_goals first|exact jx|skip
  |succ n=>
   refine .inr ⟨.exit 0,[],{sl:=[(3,.im (n+1) a)]},[fn 9 (u6 (d:Nat)),no 10],1000,.inl ⟨trivial,rfl,rfl⟩,?_⟩
   refine m_ (p:=Bn [Bn [TT 2],FnOk Try.prog g0 62 [V.agg [V.im p.length (ut p),V.im j.length (ut j)]] (u6 d),Tt,((d:Int) != (d:Int))=false,Bn [An [Sm (n+1),a=a,HfL a]]]) ?_
   (repeat'(first|(with_reducible apply And.intro)|(refine fun(_:True)=>?_)))<;>first|exact aq|skip
   all_goals first|exact jx|skip
 ·obtain ⟨f, rfl⟩ : ∃ g, f = g + 1 := by
   cases f with
   |zero=>rw[soW,if_neg (by rw[q1,<-hA];exact hd)]at q0;cases q0
   |succ f=>exact⟨f,rfl⟩
  rw[soW,if_neg (by rw[q1,<-hA];exact hd)]at q0
  have hin:=Qt3 p j o_ h64 x q4 o_ d u _ _ b _ q1 q2 q3 rfl rfl rfl
  have hin2:=Qou (p:=p) q4 p.length o_
  have jr:=Qmv (p:=p) (x:=x) p.length
  have hmul:p.length*(F-f)=p.length*(F-(f+1))+p.length:=by rw[show F-f=(F-(f+1))+1 by omega,Nat.mul_succ]
  have hI: ∃z:Nat×List Nat,soW p f z=some y/\z.1=(soP p p.length x).1/\z.2.length=(soP p p.length x).2.length/\it z.2=it (soP p p.length x).2/\z.1<18446744073709551616/\z.2.length<=p.length*(F-f)/\f<=F:=⟨_,q0,rfl,rfl,rfl,hin2,by omega,by omega⟩
  have hb2:=Qbk (soP p p.length x).2
  have hl2:=Qsh (soP p p.length x).2
  generalize hy1:(soP p p.length x).1=d1 at*
  generalize hy2:(soP p p.length x).2.length=u1 at*
  generalize hy3:it (soP p p.length x).2=b1 at*
  clear hmul jr q0 q3 q1 ha hn hy hy1 hy2 hy3
  cases u with
  | zero =>
   have:b=[]:=List.eq_nil_of_length_eq_zero hbl
   subst this
   cases u1 with
   |zero=>
    have:b1=[]:=List.eq_nil_of_length_eq_zero hl2
    subst this
    refine .inl ⟨(f,d1,0,[]),[0],[fn 9 (u6 (A:Nat)),yes 10,(0,.loop [0] (soS p j (0,d,0,[])) [(True,.exit 2,soS p j (p.length,d1,0,[]))])],1000,hI,Nat.lt_succ_self _,?_⟩
    clear hI
    refine m_ (p:=let z0:=An [Sm [ul p,ul j],TT 2];Bn [Bn [TT 2],FnOk Try.prog g0 62 [V.agg [V.im p.length (ut p),V.im j.length (ut j)]] (u6 A),Tt,((d:Int) != (A:Int))=true,Bn [Bn [Zz,Tt,Sm (d:Int),An [Sm p.length,Sm (ut p)],Sm (p.length:Int),((0:Nat):Int)=(0:Int)],z0],Sat Try.prog none 0 (at' 37 [1,1,0,1,0,0,1,0,1,0]) (mkSt g0 40 (soS p j (0,d,0,[]))) (Qad g0 40 [(True,Ex.exit 2,soS p j (p.length,d1,0,[]))]),(True->Bn [Bn [Zz,Tt,Sm (d1:Int)],z0])]) ?_
    (repeat'(first|(with_reducible apply And.intro)|(refine fun(_:True)=>?_)))<;>first|exact aq|skip
    all_goals first|exact hin|exact jx|skip
   |succ u1=>
    refine .inl ⟨(f,d1,u1+1,b1),[0,1],[fn 9 (u6 (A:Nat)),yes 10,(0,.loop [0] (soS p j (0,d,0,[])) [(True,.exit 2,soS p j (p.length,d1,u1+1,b1))])],1000,hI,Nat.lt_succ_self _,?_⟩
    clear hI
    refine m_ (p:=let z0:=An [Sm [ul p,ul j],TT 2];Bn [Bn [TT 2],FnOk Try.prog g0 62 [V.agg [V.im p.length (ut p),V.im j.length (ut j)]] (u6 A),Tt,((d:Int) != (A:Int))=true,Bn [Bn [Zz,Tt,Sm (d:Int),An [Sm p.length,Sm (ut p)],Sm (p.length:Int),((0:Nat):Int)=(0:Int)],z0],Sat Try.prog none 0 (at' 37 [1,1,0,1,0,0,1,0,1,0]) (mkSt g0 40 (soS p j (0,d,0,[]))) (Qad g0 40 [(True,Ex.exit 2,soS p j (p.length,d1,u1+1,b1))]),(True->Bn [Bn [Zz,Bn [Zz,Sm (u1+1)],Sm (d1:Int)],z0,An [b1=b1,HfL b1]])]) ?_
    (repeat'(first|(with_reducible apply And.intro)|(refine fun(_:True)=>?_)))<;>first|exact aq|skip
    all_goals first|exact hin|exact jx|skip
  | succ u =>
   cases u1 with
   |zero=>
    have:b1=[]:=List.eq_nil_of_length_eq_zero hl2
    subst this
    refine .inl ⟨(f,d1,0,[]),[0],[fn 9 (u6 (A:Nat)),yes 10,(0,.loop [0,1] (soS p j (0,d,u+1,b)) [(True,.exit 2,soS p j (p.length,d1,0,[]))])],1000,hI,Nat.lt_succ_self _,?_⟩
    clear hI
    refine m_ (p:=let z0:=An [Sm [ul p,ul j],TT 2];Bn [Bn [TT 2],FnOk Try.prog g0 62 [V.agg [V.im p.length (ut p),V.im j.length (ut j)]] (u6 A),Tt,((d:Int) != (A:Int))=true,Bn [Bn [Zz,Bn [Zz,Sm (u+1)],Sm (d:Int),An [Sm p.length,Sm (ut p)],Sm (p.length:Int),((0:Nat):Int)=(0:Int)],z0,An [b=b,HfL b]],Sat Try.prog none 0 (at' 37 [1,1,0,1,0,0,1,0,1,0]) (mkSt g0 40 (soS p j (0,d,u+1,b))) (Qad g0 40 [(True,Ex.exit 2,soS p j (p.length,d1,0,[]))]),(True->Bn [Bn [Zz,Tt,Sm (d1:Int)],z0])]) ?_
    (repeat'(first|(with_reducible apply And.intro)|(refine fun(_:True)=>?_)))<;>first|exact aq|skip
    all_goals first|exact hin|exact jx|skip
   |succ u1=>
    refine .inl ⟨(f,d1,u1+1,b1),[0,1],[fn 9 (u6 (A:Nat)),yes 10,(0,.loop [0,1] (soS p j (0,d,u+1,b)) [(True,.exit 2,soS p j (p.length,d1,u1+1,b1))])],1000,hI,Nat.lt_succ_self _,?_⟩
    clear hI
    refine m_ (p:=let z0:=An [Sm [ul p,ul j],TT 2];Bn [Bn [TT 2],FnOk Try.prog g0 62 [V.agg [V.im p.length (ut p),V.im j.length (ut j)]] (u6 A),Tt,((d:Int) != (A:Int))=true,Bn [Bn [Zz,Bn [Zz,Sm (u+1)],Sm (d:Int),An [Sm p.length,Sm (ut p)],Sm (p.length:Int),((0:Nat):Int)=(0:Int)],z0,An [b=b,HfL b]],Sat Try.prog none 0 (at' 37 [1,1,0,1,0,0,1,0,1,0]) (mkSt g0 40 (soS p j (0,d,u+1,b))) (Qad g0 40 [(True,Ex.exit 2,soS p j (p.length,d1,u1+1,b1))]),(True->Bn [Bn [Zz,Bn [Zz,Sm (u1+1)],Sm (d1:Int)],z0,An [b1=b1,HfL b1]])]) ?_
    (repeat'(first|(with_reducible apply And.intro)|(refine fun(_:True)=>?_)))<;>first|exact aq|skip
    all_goals first|exact hin|exact jx|skip
theorem Qlm(p j:List Nat)(hl:p.length<64)(h64:S64 p)(F:Nat)(hF:F<=10)(y:Nat×List Nat)(hy:soW p F (0,[])=some y):FnOk Pg g0 37 [grV p j] (il y.2):=by
 have hp:=Qaf p
 have hj:=Qaf j
 have ho:=Qp1 p j hl h64 F hF y hy _ rfl _ rfl
 have h1:=Qbk y.2
 show FnOk Pg g0 37 [grV p j] (.im y.2.length (it y.2))
 generalize it y.2=a at*
 generalize y.2.length=n at*
 clear hy
 refine FnOk.of_vc vE_ok mixed Qab (n:=1000) (r:=[]) (S:={sl:=[(2,.im n a)]}) (hs:=[(0,.loop [0] (sqS p j (0,0,0,[])) [(True,.exit 0,{sl:=[(3,.im n a)]})])]) ?_
 refine m_ (p:=Bn [Sm (V.im n a),Bn [Bn [Zz,Tt,((0:Nat):Int)=(0:Int)],An [Sm [ul p,ul j],TT 2]],Sat Try.prog none 0 (at' 37 [1,1,0,1,0]) (mkSt g0 40 (sqS p j (0,0,0,[]))) (Qad g0 40 [(True,Ex.exit 0,SL.mk [(3,V.im n a)] [] [] [])]),(True->Bn [Bn [An [n=n,a=a]]])]) ?_
 (repeat'(first|(with_reducible apply And.intro)|(refine fun(_:True)=>?_)))<;>first|exact aq|skip
 all_goals first|exact ho|skip
abbrev prC(p j:List Nat)(xs ys:Nat)(od:List Nat):List V:=[ul p,ul j,u6 (xs:Nat),u6 (ys:Nat),il od]
def facE(s b n:Nat)(q:Es):Es:=if b=0 then sumE (mi s n) q else .mk 4 0 [sumE (mi s n) q,sumE (mi s b) q]
def paF(d s:Nat)(q:Es)(od:List Nat):Nat->Nat×List Es
 |0=>(0,[])
 |k+1=>if s.testBit (od.getD k 0)then((paF d s q od k).1|||2^od.getD k 0,if d.testBit (od.getD k 0)then(paF d s q od k).2++[facE s (paF d s q od k).1 ((paF d s q od k).1|||2^od.getD k 0) q]else(paF d s q od k).2)else paF d s q od k
def Qdb:List Es->Es
 |[x]=>x
 |l=>.mk 3 0 l
def partE(d s:Nat)(q:Es)(od:List Nat):Es:=if d=s then q else Qdb (paF d s q od od.length).2
theorem Qo2(l:List Es)(hl:l.length<=1000):FnOk Pg g0 69 [.im l.length (esL l)] (esV (Qdb l)):=by
 match l,hl with
 |[],_=>exact Que
 |[.mk k v m],_=>exact Quf k v m
 |x::y::m,hl=>exact Qp4 m.length (x::y::m) rfl (by simp at hl;omega)
theorem Qtc{d s:Nat}{q:Es}{od:List Nat}(ho: ∀x∈od,x<64): ∀k,(paF d s q od k).1<18446744073709551616
 |0=>by unfold paF;decide
 | k + 1 => by
  have h1:od.getD k 0<64:=by
   rw[List.getD_eq_getElem?_getD]
   cases hx:od[k]? with
   |none=>decide
   |some x=>exact ho x (List.mem_of_getElem? hx)
  unfold paF
  split
  ·exact Nat.or_lt_two_pow (n:=64) (Qtc ho k) (Nat.pow_lt_pow_right o_ h1)
  ·exact Qtc ho k
theorem Qjw{d s:Nat}{q:Es}{od:List Nat}: ∀k,(paF d s q od k).2.length<=k
 |0=>Nat.le_refl _
 | k + 1 => by
  have:=Qjw (d:=d) (s:=s) (q:=q) (od:=od) k
  unfold paF
  split
  ·dsimp only
   split
   ·simp;omega
   ·omega
  ·omega
theorem head_it{l:List Nat}{k:Nat}(h:k<l.length):headF ((it l).drop (k*1))=some (i6 ((l.getD k 0:Nat):Int)):=by
 unfold it
 rw[List.getD_eq_getElem?_getD,List.getElem?_eq_getElem h]
 exact Qf6 (List.getElem?_eq_getElem h)
abbrev esO(k v n:Nat)(X:List V):O:=.row 57 none [i6 (k:Nat),u6 (v:Nat),.im n X]
abbrev esZ:O:=.row 57 none [i6 0,u6 0,.nils]
abbrev ptS(d s:Nat)(od:List Nat)(kq vq nq:Nat)(X:List V)(q:Nat×Nat×Nat×List V):SL:={sl:=[(1,u6 (d:Nat)),(2,u6 (s:Nat)),(7,.ptr 0 0),(8,.ptr 1 0),(9,owV 2 q.2.2.1),(10,u6 (q.2.1:Nat)),(22,il od),(23,i6 (od.length:Nat)),(24,i6 (q.1:Nat))],os:=esO kq vq nq X::esZ::owL 57 3 q.2.2.2 q.2.2.1}
theorem Qtf(d s:Nat)(kq vq:Nat)(lq:List Es)(od:List Nat)(hs:s<18446744073709551616)(hd:d<18446744073709551616)(hv:vq<18446744073709551616)(ho: ∀x∈od,x<64)(hol:od.length<=64)(F:List Es)(hF:(paF d s (.mk kq vq lq) od od.length).2=F)(n:Nat)(hn:F.length=n)(A:List V)(hA:esL F=A):
  Sat Pg none 0 (at' 66 [1,1,1,1,0,1,0]) (mkSt g0 64 (ptS d s od kq vq lq.length (esL lq) (0,0,0,[]))) (Qad g0 64 [(True,.exit 0,{sl:=[(8,.ptr 0 0),(9,.im n A)],os:=[esZ]})]):=by
 have hod:=Qbk od
 have hX:=Qan lq
 have hsum:=fun(z:Nat)(hz:z<18446744073709551616)=>Qoz z (.mk kq vq lq) hz hv
 change∀z:Nat,z<18446744073709551616->FnOk Pg g0 68 [u6 z,.agg [i6 (kq:Nat),u6 (vq:Nat),.im lq.length (esL lq)]] (esV (sumE z (.mk kq vq lq)))at hsum
 generalize hXe:esL lq=X at*
 generalize hnq:lq.length=nq at*
 refine Qav vE_ok mixed Qab (b:=at' 66 [1,1,1,1,0,1,0,0]) k_ (fun q=>q.1<=od.length/\(paF d s (.mk kq vq lq) od q.1).1=q.2.1/\(paF d s (.mk kq vq lq) od q.1).2.length=q.2.2.1/\esL (paF d s (.mk kq vq lq) od q.1).2=q.2.2.2) (ptS d s od kq vq nq X) (fun q=>od.length-q.1) (fun q hq=>?_) (0,0,0,[]) ⟨Nat.zero_le _,rfl,rfl,rfl⟩
 obtain⟨k,b,u,a⟩:=q
 obtain⟨hk,q1,q2,q3⟩:=hq
 dsimp only at hk q1 q2 q3
 have hb:=Qtc (d:=d) (s:=s) (q:=.mk kq vq lq) ho k
 rw[q1]at hb
 have ha:HfL a:=by rw[<-q3];exact Qan _
 have hal:a.length=3*u:=by rw[<-q3,Qgt,q2]
 have hu:u<=64:=by have:=Qjw (d:=d) (s:=s) (q:=.mk kq vq lq) (od:=od) k;omega
 by_cases hlt:k<od.length
 ·have hld := head_it hlt
  have hw:od.getD k 0<64:=by
   rw[List.getD_eq_getElem?_getD,List.getElem?_eq_getElem hlt];exact ho _ (List.getElem_mem hlt)
  have jc:=(rfl:paF d s (.mk kq vq lq) od (k+1)=_)
  conv at jc=>rhs;unfold paF
  rw[q1]at jc
  generalize od.getD k 0=w at*
  have s1:=Qdd (G:=Qac Pg) (t:=29) (x:=s) (k:=w) o_
  have s2:=Qcj (G:=Qac Pg) (t:=29) (x:=s/2^w)
  have d1:=Qdd (G:=Qac Pg) (t:=29) (x:=d) (k:=w) o_
  have d2:=Qcj (G:=Qac Pg) (t:=29) (x:=d/2^w)
  obtain⟨s4,s5⟩:=Qdm (G:=Qac Pg) (t:=29) hw
  have s6:=or_u (G:=Qac Pg) (t:=29) hb s5
  have m1:=mi_u (G:=Qac Pg) (t:=29) hs s6.2
  have m2:=mi_u (G:=Qac Pg) (t:=29) hs hb
  have f1:=hsum (mi s (b|||2^w)) Qc4
  have f2:=hsum (mi s b) Qc4
  obtain⟨sw,hsw⟩: ∃z,z=s/2^w:=⟨_,rfl⟩
  obtain⟨dw,hdw⟩: ∃z,z=d/2^w:=⟨_,rfl⟩
  cases hsb:s.testBit w with
  | false =>
   have hse:s/2^w%2=0:=by rw[Qb2,hsb];rfl
   rw[hsb,if_neg d_]at jc
   rw[<-hsw]at s1 s2 hse
   cases u with
   |zero=>
    have:a=[]:=List.eq_nil_of_length_eq_zero o_
    subst this
    refine .inl ⟨(k+1,b,0,[]),[0,1],[yes 25,pl 26,ld 27 (i6 (w:Nat)),va 30 (u6 (sw:Nat)),va 31 (u6 (sw%2:Nat)),yes 32,nu 61 ((k+1:Nat):Int)],1000,⟨hlt,by rw[jc];exact q1,by rw[jc];exact q2,by rw[jc];exact q3⟩,by dsimp only;omega,?_⟩
    clear q1 q2 q3 jc hF hA hn hsum
    refine m_ (p:=let z0:=(od.length:Int);let z1:=(↑(k+1):Int);let z2:=(k:Int);let z3:=[i6 kq,u6 vq,V.im nq X];Bn [decide (z2<z0)=true,An [(0:Int)<=z2,z2<z0],headF (List.drop (k*1) (it od))=some (i6 w),binV (Qac Try.prog) BinOp.shr 29 (u6 s) (i6 w)=some (u6 sw),binV (Qac Try.prog) BinOp.and 29 (u6 sw) (u6 1)=some (u6 ↑(sw%2)),((↑(sw%2):Int)==0)=true,wr .i64 (z2+1)=z1,Bn [Sm (d:Int),Sm (s:Int),Zz,Zz,Tt,Sm (b:Int),An [Sm od.length,Sm (it od)],z0=z0,z1=z1],An [z3=z3,TT 3],An [Sm [i6 0,u6 0,V.nils],TT 3]]) ?_
    (repeat'(first|(with_reducible apply And.intro)|(refine fun(_:True)=>?_)))<;>first|exact aq|skip
    all_goals first|exact s1|exact s2|exact d1|exact d2|exact s4|exact s6.1|exact m1|exact m2|exact f1|exact f2|exact hr|exact Qb9 ha ⟨trivial,trivial,trivial,trivial⟩|skip
   |succ u=>
    refine .inl ⟨(k+1,b,u+1,a),[0,1,2],[yes 25,pl 26,ld 27 (i6 (w:Nat)),va 30 (u6 (sw:Nat)),va 31 (u6 (sw%2:Nat)),yes 32,nu 61 ((k+1:Nat):Int)],1000,⟨hlt,by rw[jc];exact q1,by rw[jc];exact q2,by rw[jc];exact q3⟩,by dsimp only;omega,?_⟩
    clear q1 q2 q3 jc hF hA hn hsum
    refine m_ (p:=let z0:=(od.length:Int);let z1:=(↑(k+1):Int);let z2:=(k:Int);let z3:=[i6 kq,u6 vq,V.im nq X];Bn [decide (z2<z0)=true,An [(0:Int)<=z2,z2<z0],headF (List.drop (k*1) (it od))=some (i6 w),binV (Qac Try.prog) BinOp.shr 29 (u6 s) (i6 w)=some (u6 sw),binV (Qac Try.prog) BinOp.and 29 (u6 sw) (u6 1)=some (u6 ↑(sw%2)),((↑(sw%2):Int)==0)=true,wr .i64 (z2+1)=z1,Bn [Sm (d:Int),Sm (s:Int),Zz,Zz,Bn [Zz,Sm (u+1)],Sm (b:Int),An [Sm od.length,Sm (it od)],z0=z0,z1=z1],An [z3=z3,TT 3],An [Sm [i6 0,u6 0,V.nils],TT 3],An [a=a,HfL a]]) ?_
    (repeat'(first|(with_reducible apply And.intro)|(refine fun(_:True)=>?_)))<;>first|exact aq|skip
    all_goals first|exact s1|exact s2|exact d1|exact d2|exact s4|exact s6.1|exact m1|exact m2|exact f1|exact f2|exact hr|exact Qb9 ha ⟨trivial,trivial,trivial,trivial⟩|skip
  | true =>
   have hse:s/2^w%2=1:=by rw[Qb2,hsb];rfl
   rw[hsb,if_pos rfl]at jc
   rw[<-hsw]at s1 s2 hse
   cases hdb:d.testBit w with
   | false =>
    have hde:d/2^w%2=0:=by rw[Qb2,hdb];rfl
    rw[hdb,if_neg d_]at jc
    rw[<-hdw]at d1 d2 hde
    obtain⟨z,hz⟩: ∃z,z=2^w:=⟨_,rfl⟩
    obtain⟨y,hy⟩: ∃y,y=b|||2^w:=⟨_,rfl⟩
    rw[<-hy]at s6 jc
    rw[<-hz]at s4 s5 s6
    cases u with
    |zero=>
     have:a=[]:=List.eq_nil_of_length_eq_zero o_
     subst this
     refine .inl ⟨(k+1,y,0,[]),[0,1],[yes 25,pl 26,ld 27 (i6 (w:Nat)),va 30 (u6 (sw:Nat)),va 31 (u6 (sw%2:Nat)),no 32,va 35 (u6 (z:Nat)),va 36 (u6 (y:Nat)),va 39 (u6 (dw:Nat)),va 40 (u6 (dw%2:Nat)),no 41,nu 61 ((k+1:Nat):Int)],1000,⟨hlt,by rw[jc],by rw[jc];exact q2,by rw[jc];exact q3⟩,by dsimp only;omega,?_⟩
     clear q1 q2 q3 jc hF hA hn hsum m1 m2 f1 f2
     refine m_ (p:=let z0:=Qac Try.prog;let z1:=(od.length:Int);let z2:=(↑(k+1):Int);let z3:=(k:Int);let z4:=[i6 kq,u6 vq,V.im nq X];Bn [decide (z3<z1)=true,An [(0:Int)<=z3,z3<z1],headF (List.drop (k*1) (it od))=some (i6 w),binV z0 BinOp.shr 29 (u6 s) (i6 w)=some (u6 sw),binV z0 BinOp.and 29 (u6 sw) (u6 1)=some (u6 ↑(sw%2)),((↑(sw%2):Int)==0)=false,binV z0 BinOp.shl 29 (u6 1) (i6 w)=some (u6 z),binV z0 BinOp.or 29 (u6 b) (u6 z)=some (u6 y),binV z0 BinOp.shr 29 (u6 d) (i6 w)=some (u6 dw),binV z0 BinOp.and 29 (u6 dw) (u6 1)=some (u6 ↑(dw%2)),((↑(dw%2):Int)==1)=false,wr .i64 (z3+1)=z2,Bn [Sm (d:Int),Sm (s:Int),Zz,Zz,Tt,Sm (y:Int),An [Sm od.length,Sm (it od)],z1=z1,z2=z2],An [z4=z4,TT 3],An [Sm [i6 0,u6 0,V.nils],TT 3]]) ?_
     (repeat'(first|(with_reducible apply And.intro)|(refine fun(_:True)=>?_)))<;>first|exact aq|skip
     all_goals first|exact s1|exact s2|exact d1|exact d2|exact s4|exact s6.1|exact m1|exact m2|exact f1|exact f2|exact hr|exact Qb9 ha ⟨trivial,trivial,trivial,trivial⟩|skip
    |succ u=>
     refine .inl ⟨(k+1,y,u+1,a),[0,1,2],[yes 25,pl 26,ld 27 (i6 (w:Nat)),va 30 (u6 (sw:Nat)),va 31 (u6 (sw%2:Nat)),no 32,va 35 (u6 (z:Nat)),va 36 (u6 (y:Nat)),va 39 (u6 (dw:Nat)),va 40 (u6 (dw%2:Nat)),no 41,nu 61 ((k+1:Nat):Int)],1000,⟨hlt,by rw[jc],by rw[jc];exact q2,by rw[jc];exact q3⟩,by dsimp only;omega,?_⟩
     clear q1 q2 q3 jc hF hA hn hsum m1 m2 f1 f2
     refine m_ (p:=let z0:=Qac Try.prog;let z1:=(od.length:Int);let z2:=(↑(k+1):Int);let z3:=(k:Int);let z4:=[i6 kq,u6 vq,V.im nq X];Bn [decide (z3<z1)=true,An [(0:Int)<=z3,z3<z1],headF (List.drop (k*1) (it od))=some (i6 w),binV z0 BinOp.shr 29 (u6 s) (i6 w)=some (u6 sw),binV z0 BinOp.and 29 (u6 sw) (u6 1)=some (u6 ↑(sw%2)),((↑(sw%2):Int)==0)=false,binV z0 BinOp.shl 29 (u6 1) (i6 w)=some (u6 z),binV z0 BinOp.or 29 (u6 b) (u6 z)=some (u6 y),binV z0 BinOp.shr 29 (u6 d) (i6 w)=some (u6 dw),binV z0 BinOp.and 29 (u6 dw) (u6 1)=some (u6 ↑(dw%2)),((↑(dw%2):Int)==1)=false,wr .i64 (z3+1)=z2,Bn [Sm (d:Int),Sm (s:Int),Zz,Zz,Bn [Zz,Sm (u+1)],Sm (y:Int),An [Sm od.length,Sm (it od)],z1=z1,z2=z2],An [z4=z4,TT 3],An [Sm [i6 0,u6 0,V.nils],TT 3],An [a=a,HfL a]]) ?_
     (repeat'(first|(with_reducible apply And.intro)|(refine fun(_:True)=>?_)))<;>first|exact aq|skip
     all_goals first|exact s1|exact s2|exact d1|exact d2|exact s4|exact s6.1|exact m1|exact m2|exact f1|exact f2|exact hr|exact Qb9 ha ⟨trivial,trivial,trivial,trivial⟩|skip
   | true =>
    have hde:d/2^w%2=1:=by rw[Qb2,hdb];rfl
    rw[hdb,if_pos rfl]at jc
    rw[<-hdw]at d1 d2 hde
    obtain⟨z,hz⟩: ∃z,z=2^w:=⟨_,rfl⟩
    obtain⟨y,hy⟩: ∃y,y=b|||2^w:=⟨_,rfl⟩
    rw[<-hy]at s6 jc m1 f1
    rw[<-hz]at s4 s5 s6
    by_cases hb0:b=0
    ·have e1 : paF d s (.mk kq vq lq) od (k + 1) = (y, (paF d s (.mk kq vq lq) od k).2 ++ [sumE (mi s y) (.mk kq vq lq)]) := by rw [jc, facE, if_pos hb0]
     generalize sumE (mi s y) (.mk kq vq lq)=r1 at*
     obtain⟨k1,v1,l1⟩:=r1
     have g1:(paF d s (.mk kq vq lq) od (k+1)).2.length=u+1:=by rw[e1];simp;omega
     have g2:esL (paF d s (.mk kq vq lq) od (k+1)).2=a++[i6 (k1:Nat),u6 (v1:Nat),.im l1.length (esL l1)]:=by rw[e1];dsimp only;rw[Qfd,q3,Qgu,esC]
     have hX1:=Qan l1
     change FnOk Pg g0 68 _ (.agg [i6 (k1:Nat),u6 (v1:Nat),.im l1.length (esL l1)])at f1
     generalize esL l1=X1 at*
     obtain⟨ms,hms⟩: ∃ms,ms=mi s y:=⟨_,rfl⟩
     rw[<-hms]at m1 f1
     subst hb0
     cases u with
     |zero=>
      have:a=[]:=List.eq_nil_of_length_eq_zero o_
      subst this
      refine .inl ⟨(k+1,y,1,[i6 (k1:Nat),u6 (v1:Nat),.im l1.length X1]),[0,1,4],[yes 25,pl 26,ld 27 (i6 (w:Nat)),va 30 (u6 (sw:Nat)),va 31 (u6 (sw%2:Nat)),no 32,va 35 (u6 (z:Nat)),va 36 (u6 (y:Nat)),va 39 (u6 (dw:Nat)),va 40 (u6 (dw%2:Nat)),yes 41,va 44 (u6 (ms:Nat)),fn 46 (.agg [i6 (k1:Nat),u6 (v1:Nat),.im l1.length X1]),no 48,nu 61 ((k+1:Nat):Int)],1000,⟨hlt,by rw[e1],g1,g2⟩,by dsimp only;omega,?_⟩
      clear q1 q2 q3 jc hF hA hn hsum m2 f2 e1 g1 g2
      refine m_ (p:=let z0:=Qac Try.prog;let z1:=[i6 k1,u6 v1,V.im l1.length X1];let z2:=[i6 kq,u6 vq,V.im nq X];let z3:=(od.length:Int);let z4:=(↑(k+1):Int);let z5:=(k:Int);Bn [decide (z5<z3)=true,An [(0:Int)<=z5,z5<z3],headF (List.drop (k*1) (it od))=some (i6 w),binV z0 BinOp.shr 29 (u6 s) (i6 w)=some (u6 sw),binV z0 BinOp.and 29 (u6 sw) (u6 1)=some (u6 ↑(sw%2)),((↑(sw%2):Int)==0)=false,binV z0 BinOp.shl 29 (u6 1) (i6 w)=some (u6 z),binV z0 BinOp.or 29 (u6 ↑(0:Nat)) (u6 z)=some (u6 y),binV z0 BinOp.shr 29 (u6 d) (i6 w)=some (u6 dw),binV z0 BinOp.and 29 (u6 dw) (u6 1)=some (u6 ↑(dw%2)),((↑(dw%2):Int)==1)=true,binV z0 BinOp.andNot 29 (u6 s) (u6 y)=some (u6 ms),Bn [Tt,TT 3],FnOk Try.prog g0 68 [u6 ms,V.agg z2] (V.agg z1),Tt,(((0:Nat):Int) != 0)=false,wr .i64 (z5+1)=z4,Bn [Sm (d:Int),Sm (s:Int),Zz,Zz,Bn [Zz,1=1],Sm (y:Int),An [Sm od.length,Sm (it od)],z3=z3,z4=z4],An [z2=z2,TT 3],An [Sm [i6 0,u6 0,V.nils],TT 3],An [z1=z1,TT 3]]) ?_
      (repeat'(first|(with_reducible apply And.intro)|(refine fun(_:True)=>?_)))<;>first|exact aq|skip
      all_goals first|exact s1|exact s2|exact d1|exact d2|exact s4|exact s6.1|exact m1|exact m2|exact f1|exact f2|exact hr|exact Qb9 ha ⟨trivial,trivial,trivial,trivial⟩|skip
     |succ u=>
      refine .inl ⟨(k+1,y,u+1+1,a++[i6 (k1:Nat),u6 (v1:Nat),.im l1.length X1]),[0,1,5],[yes 25,pl 26,ld 27 (i6 (w:Nat)),va 30 (u6 (sw:Nat)),va 31 (u6 (sw%2:Nat)),no 32,va 35 (u6 (z:Nat)),va 36 (u6 (y:Nat)),va 39 (u6 (dw:Nat)),va 40 (u6 (dw%2:Nat)),yes 41,va 44 (u6 (ms:Nat)),fn 46 (.agg [i6 (k1:Nat),u6 (v1:Nat),.im l1.length X1]),no 48,ap 59,nu 61 ((k+1:Nat):Int)],1000,⟨hlt,by rw[e1],g1,g2⟩,by dsimp only;omega,?_⟩
      clear q1 q2 q3 jc hF hA hn hsum m2 f2 e1 g1 g2
      refine m_ (p:=let z0:=[i6 k1,u6 v1,V.im l1.length X1];let z1:=Qac Try.prog;let z2:=[i6 kq,u6 vq,V.im nq X];let z3:=(od.length:Int);let z4:=(↑(k+1):Int);let z5:=(k:Int);Bn [decide (z5<z3)=true,An [(0:Int)<=z5,z5<z3],headF (List.drop (k*1) (it od))=some (i6 w),binV z1 BinOp.shr 29 (u6 s) (i6 w)=some (u6 sw),binV z1 BinOp.and 29 (u6 sw) (u6 1)=some (u6 ↑(sw%2)),((↑(sw%2):Int)==0)=false,binV z1 BinOp.shl 29 (u6 1) (i6 w)=some (u6 z),binV z1 BinOp.or 29 (u6 ↑(0:Nat)) (u6 z)=some (u6 y),binV z1 BinOp.shr 29 (u6 d) (i6 w)=some (u6 dw),binV z1 BinOp.and 29 (u6 dw) (u6 1)=some (u6 ↑(dw%2)),((↑(dw%2):Int)==1)=true,binV z1 BinOp.andNot 29 (u6 s) (u6 y)=some (u6 ms),Bn [Tt,TT 3],FnOk Try.prog g0 68 [u6 ms,V.agg z2] (V.agg z0),Tt,(((0:Nat):Int) != 0)=false,a.length=(u+1)*3,u+1+1<=9223372036854775807,(u+1+1)*40<=140737488355328,wr .i64 (z5+1)=z4,Bn [Sm (d:Int),Sm (s:Int),Zz,Zz,Bn [Zz,Nat.succ u+1=u+1+1],Sm (y:Int),An [Sm od.length,Sm (it od)],z3=z3,z4=z4],An [z2=z2,TT 3],An [Sm [i6 0,u6 0,V.nils],TT 3],An [Sm (a++z0),HfL (a++z0)]]) ?_
      (repeat'(first|(with_reducible apply And.intro)|(refine fun(_:True)=>?_)))<;>first|exact aq|skip
      all_goals first|exact s1|exact s2|exact d1|exact d2|exact s4|exact s6.1|exact m1|exact m2|exact f1|exact f2|exact hr|exact Qb9 ha ⟨trivial,trivial,trivial,trivial⟩|skip
    ·have e1 : paF d s (.mk kq vq lq) od (k + 1) = (y, (paF d s (.mk kq vq lq) od k).2 ++ [.mk 4 0 [sumE (mi s y) (.mk kq vq lq), sumE (mi s b) (.mk kq vq lq)]]) := by rw [jc, facE, if_neg hb0]
     have hr:=ratio_fn (sumE (mi s y) (.mk kq vq lq)) (sumE (mi s b) (.mk kq vq lq))
     generalize sumE (mi s y) (.mk kq vq lq)=r1 at*
     generalize sumE (mi s b) (.mk kq vq lq)=r2 at*
     have hX3:=Qan [r1,r2]
     have g1:(paF d s (.mk kq vq lq) od (k+1)).2.length=u+1:=by rw[e1];simp;omega
     have g2:esL (paF d s (.mk kq vq lq) od (k+1)).2=a++[i6 (4:Nat),u6 (0:Nat),.im 2 (esL [r1,r2])]:=by rw[e1];dsimp only;rw[Qfd,q3,Qgu,esC];rfl
     change FnOk Pg g0 90 [esV r1,esV r2] (.agg [i6 (4:Nat),u6 (0:Nat),.im 2 (esL [r1,r2])])at hr
     generalize esL [r1,r2]=X3 at*
     obtain⟨k1,v1,l1⟩:=r1
     obtain⟨k2,v2,l2⟩:=r2
     have hX1:=Qan l1
     have hX2:=Qan l2
     change FnOk Pg g0 68 _ (.agg [i6 (k1:Nat),u6 (v1:Nat),.im l1.length (esL l1)])at f1
     change FnOk Pg g0 68 _ (.agg [i6 (k2:Nat),u6 (v2:Nat),.im l2.length (esL l2)])at f2
     change FnOk Pg g0 90 [.agg [i6 (k1:Nat),u6 (v1:Nat),.im l1.length (esL l1)],.agg [i6 (k2:Nat),u6 (v2:Nat),.im l2.length (esL l2)]] _ at hr
     generalize esL l1=X1 at*
     generalize esL l2=X2 at*
     obtain⟨ms,hms⟩: ∃ms,ms=mi s y:=⟨_,rfl⟩
     rw[<-hms]at m1 f1
     obtain⟨mb,hmb⟩: ∃mb,mb=mi s b:=⟨_,rfl⟩
     rw[<-hmb]at m2 f2
     have hb1:(b:Int)≠0:=by omega
     cases u with
     |zero=>
      have:a=[]:=List.eq_nil_of_length_eq_zero o_
      subst this
      refine .inl ⟨(k+1,y,1,[i6 (4:Nat),u6 (0:Nat),.im 2 X3]),[0,1,4],[yes 25,pl 26,ld 27 (i6 (w:Nat)),va 30 (u6 (sw:Nat)),va 31 (u6 (sw%2:Nat)),no 32,va 35 (u6 (z:Nat)),va 36 (u6 (y:Nat)),va 39 (u6 (dw:Nat)),va 40 (u6 (dw%2:Nat)),yes 41,va 44 (u6 (ms:Nat)),fn 46 (.agg [i6 (k1:Nat),u6 (v1:Nat),.im l1.length X1]),yes 48,va 52 (u6 (mb:Nat)),fn 54 (.agg [i6 (k2:Nat),u6 (v2:Nat),.im l2.length X2]),fn 55 (.agg [i6 (4:Nat),u6 (0:Nat),.im 2 X3]),nu 61 ((k+1:Nat):Int)],1000,⟨hlt,by rw[e1],g1,g2⟩,by dsimp only;omega,?_⟩
      clear q1 q2 q3 jc hF hA hn hsum e1 g1 g2
      refine m_ (p:=let z0:=[i6 k1,u6 v1,V.im l1.length X1];let z1:=V.agg [i6 k2,u6 v2,V.im l2.length X2];let z2:=[i6 ↑(4:Nat),u6 ↑(0:Nat),V.im 2 X3];let z3:=[i6 kq,u6 vq,V.im nq X];let z5:=Qac Try.prog;let z6:=(od.length:Int);let z8:=esO kq vq nq X;let z9:=[i6 0,u6 0,V.nils];let y0:=(↑(k+1):Int);let y1:=(k:Int);let z4:=O.row 57 none z9;let z7:=O.row 57 none z0;Bn [decide (y1<z6)=true,An [(0:Int)<=y1,y1<z6],headF (List.drop (k*1) (it od))=some (i6 w),binV z5 BinOp.shr 29 (u6 s) (i6 w)=some (u6 sw),binV z5 BinOp.and 29 (u6 sw) (u6 1)=some (u6 ↑(sw%2)),((↑(sw%2):Int)==0)=false,binV z5 BinOp.shl 29 (u6 1) (i6 w)=some (u6 z),binV z5 BinOp.or 29 (u6 b) (u6 z)=some (u6 y),binV z5 BinOp.shr 29 (u6 d) (i6 w)=some (u6 dw),binV z5 BinOp.and 29 (u6 dw) (u6 1)=some (u6 ↑(dw%2)),((↑(dw%2):Int)==1)=true,binV z5 BinOp.andNot 29 (u6 s) (u6 y)=some (u6 ms),Bn [Tt,TT 3],FnOk Try.prog g0 68 [u6 ms,V.agg z3] (V.agg z0),Tt,((b:Int) != 0)=true,binV z5 BinOp.andNot 29 (u6 s) (u6 b)=some (u6 mb),Bn [Tt,TT 3],FnOk Try.prog g0 68 [u6 mb,V.agg z3] z1,Tt,Bn [TT 3,TT 3],FnOk Try.prog g0 90 [V.agg z0,z1] (V.agg z2),Bn [(V.fn 68 []=V.fn 90 []->[u6 mb,V.agg z3]=[V.agg z0,z1]->pt (pt (ofOs T.e 0 (z8::esZ::owL 57 3 [] 0)) 2 z4) 2 z7=pt (pt (ofOs T.e 0 (z8::esZ::owL 57 3 [] 0)) 2 z4) 2 z7->2+1=3->CR.mk z1 (pt (pt (ofOs T.e 0 (z8::esZ::owL 57 3 [] 0)) 2 z4) 2 z7) 3 []=CR.mk (V.agg z2) (pt (pt (ofOs T.e 0 (z8::esZ::owL 57 3 [] 0)) 2 z4) 2 z7) 3 [])],wr .i64 (y1+1)=y0,Bn [Sm (d:Int),Sm (s:Int),Zz,Zz,Bn [Zz,1=1],Sm (y:Int),An [Sm od.length,Sm (it od)],z6=z6,y0=y0],An [z3=z3,TT 3],An [z9=z9,TT 3],An [z2=z2,TT 3]]) ?_
      (repeat'(first|(with_reducible apply And.intro)|(refine fun(_:True)=>?_)))<;>first|exact aq|skip
      all_goals first|exact s1|exact s2|exact d1|exact d2|exact s4|exact s6.1|exact m1|exact m2|exact f1|exact f2|exact hr|exact Qb9 ha ⟨trivial,trivial,trivial,trivial⟩|skip
     |succ u=>
      refine .inl ⟨(k+1,y,u+1+1,a++[i6 (4:Nat),u6 (0:Nat),.im 2 X3]),[0,1,5],[yes 25,pl 26,ld 27 (i6 (w:Nat)),va 30 (u6 (sw:Nat)),va 31 (u6 (sw%2:Nat)),no 32,va 35 (u6 (z:Nat)),va 36 (u6 (y:Nat)),va 39 (u6 (dw:Nat)),va 40 (u6 (dw%2:Nat)),yes 41,va 44 (u6 (ms:Nat)),fn 46 (.agg [i6 (k1:Nat),u6 (v1:Nat),.im l1.length X1]),yes 48,va 52 (u6 (mb:Nat)),fn 54 (.agg [i6 (k2:Nat),u6 (v2:Nat),.im l2.length X2]),fn 55 (.agg [i6 (4:Nat),u6 (0:Nat),.im 2 X3]),ap 59,nu 61 ((k+1:Nat):Int)],1000,⟨hlt,by rw[e1],g1,g2⟩,by dsimp only;omega,?_⟩
      clear q1 q2 q3 jc hF hA hn hsum e1 g1 g2
      refine m_ (p:=let z1:=[i6 ↑(4:Nat),u6 ↑(0:Nat),V.im 2 X3];let z2:=V.agg [i6 k2,u6 v2,V.im l2.length X2];let z3:=[i6 kq,u6 vq,V.im nq X];let z4:=[i6 k1,u6 v1,V.im l1.length X1];let z5:=Qac Try.prog;let z6:=(od.length:Int);let z7:=[i6 0,u6 0,V.nils];let z8:=(↑(k+1):Int);let z9:=(k:Int);let z0:=pt (pt (ofOs T.e 0 (esO kq vq nq X::esZ::owL 57 3 a (u+1))) 3 (O.row 57 none z7)) 3 (O.row 57 none z4);Bn [decide (z9<z6)=true,An [(0:Int)<=z9,z9<z6],headF (List.drop (k*1) (it od))=some (i6 w),binV z5 BinOp.shr 29 (u6 s) (i6 w)=some (u6 sw),binV z5 BinOp.and 29 (u6 sw) (u6 1)=some (u6 ↑(sw%2)),((↑(sw%2):Int)==0)=false,binV z5 BinOp.shl 29 (u6 1) (i6 w)=some (u6 z),binV z5 BinOp.or 29 (u6 b) (u6 z)=some (u6 y),binV z5 BinOp.shr 29 (u6 d) (i6 w)=some (u6 dw),binV z5 BinOp.and 29 (u6 dw) (u6 1)=some (u6 ↑(dw%2)),((↑(dw%2):Int)==1)=true,binV z5 BinOp.andNot 29 (u6 s) (u6 y)=some (u6 ms),Bn [Tt,TT 3],FnOk Try.prog g0 68 [u6 ms,V.agg z3] (V.agg z4),Tt,((b:Int) != 0)=true,binV z5 BinOp.andNot 29 (u6 s) (u6 b)=some (u6 mb),Bn [Tt,TT 3],FnOk Try.prog g0 68 [u6 mb,V.agg z3] z2,Tt,Bn [TT 3,TT 3],FnOk Try.prog g0 90 [V.agg z4,z2] (V.agg z1),Bn [(V.fn 68 []=V.fn 90 []->[u6 mb,V.agg z3]=[V.agg z4,z2]->z0=z0->3+1=4->CR.mk z2 z0 4 []=CR.mk (V.agg z1) z0 4 [])],a.length=(u+1)*3,u+1+1<=9223372036854775807,(u+1+1)*40<=140737488355328,wr .i64 (z9+1)=z8,Bn [Sm (d:Int),Sm (s:Int),Zz,Zz,Bn [Zz,Nat.succ u+1=u+1+1],Sm (y:Int),An [Sm od.length,Sm (it od)],z6=z6,z8=z8],An [z3=z3,TT 3],An [z7=z7,TT 3],An [Sm (a++z1),HfL (a++z1)]]) ?_
      (repeat'(first|(with_reducible apply And.intro)|(refine fun(_:True)=>?_)))<;>first|exact aq|skip
      all_goals first|exact s1|exact s2|exact d1|exact d2|exact s4|exact s6.1|exact m1|exact m2|exact f1|exact f2|exact hr|exact Qb9 ha ⟨trivial,trivial,trivial,trivial⟩|skip
 ·have : k = od.length := by omega
  subst this
  rw[hF]at q2 q3
  obtain rfl:n=u:=hn.symm.trans q2
  obtain rfl:A=a:=hA.symm.trans q3
  clear q1 q2 q3 hF hA hn hsum
  cases n with
  |zero=>
   have:A=[]:=List.eq_nil_of_length_eq_zero o_
   subst this
   refine .inr ⟨.exit 0,[1],{sl:=[(8,.ptr 0 0),(9,.im 0 [])],os:=[esZ]},[no 25],1000,.inl ⟨trivial,rfl,rfl⟩,?_⟩
   refine m_ (p:=Bn [decide ((od.length:Int)<(od.length:Int))=false,Bn [Zz,Zz],An [Sm [i6 0,u6 0,V.nils],TT 3]]) ?_
   (repeat'(first|(with_reducible apply And.intro)|(refine fun(_:True)=>?_)))<;>first|exact aq|skip
   all_goals skip
  |succ n=>
   refine .inr ⟨.exit 0,[1],{sl:=[(8,.ptr 0 0),(9,.im (n+1) A)],os:=[esZ]},[no 25],1000,.inl ⟨trivial,rfl,rfl⟩,?_⟩
   refine m_ (p:=Bn [decide ((od.length:Int)<(od.length:Int))=false,Bn [Zz,An [Sm (n+1),A=A,HfL A]],An [Sm [i6 0,u6 0,V.nils],TT 3]]) ?_
   (repeat'(first|(with_reducible apply And.intro)|(refine fun(_:True)=>?_)))<;>first|exact aq|skip
   all_goals skip
theorem Qe5{s:Nat}{t:Es}(hs:s<18446744073709551616)(ht:t.vars<18446744073709551616):(sumE s t).vars<18446744073709551616:=by
 obtain⟨k,v,l⟩:=t
 show(if s=0 then Es.mk k v l else if k=1/\mi s v=0 then Es.mk 1 (mi v s) []else Es.mk 2 s [Es.mk k v l]).vars< _
 split
 ·exact ht
 ·split
  ·exact Qc4
  ·exact hs
theorem Qrk{s b n:Nat}{q:Es}(hq:q.vars<18446744073709551616):(facE s b n q).vars<18446744073709551616:=by
 unfold facE
 split
 ·exact Qe5 Qc4 hq
 ·show 0 < 18446744073709551616
  decide
theorem Qf9{d s:Nat}{q:Es}{od:List Nat}(hq:q.vars<18446744073709551616): ∀k,∀x∈(paF d s q od k).2,x.vars<18446744073709551616
 |0,x,hx=>by unfold paF at hx;cases hx
 | k + 1, x, hx => by
  unfold paF at hx
  split at hx
  ·dsimp only at hx
   split at hx
   ·rcases List.mem_append.1 hx with hx | hx
    ·exact Qf9 hq k x hx
    ·simp only [List.mem_singleton] at hx
     rw[hx];exact Qrk hq
   ·exact Qf9 hq k x hx
  ·exact Qf9 hq k x hx
theorem Qhy{l:List Es}(hl: ∀x∈l,x.vars<18446744073709551616):(Qdb l).vars<18446744073709551616:=by
 match l,hl with
 |[],_=>show 0<18446744073709551616;decide
 |[x],h=>exact h x (by simp)
 |x::y::m,_=>show 0<18446744073709551616;decide
theorem Qdy{d s:Nat}{q:Es}{od:List Nat}(hq:q.vars<18446744073709551616):(partE d s q od).vars<18446744073709551616:=by
 unfold partE
 split
 ·exact hq
 ·exact Qhy (Qf9 hq _)
theorem Qtg(p j:List Nat)(xs ys d:Nat)(od:List Nat)(kq vq nq:Nat)(X:List V)(hX:HfL X):
  FnOk Pg g0 66 [.imp (prC p j xs ys od),u6 d,u6 d,.agg [i6 (kq:Nat),u6 (vq:Nat),.im nq X]] (.agg [i6 (kq:Nat),u6 (vq:Nat),.im nq X]):=by
 have hp:=Qaf p
 have hj:=Qaf j
 have ho:=Qbk od
 refine FnOk.of_vc vE_ok mixed Qab (n:=1000) (r:=[1]) (S:={sl:=[(8,.ptr 0 0)],os:=[esO kq vq nq X],md:=[1]}) (hs:=[yes 17]) ?_
 refine m_ (p:=Bn [Sm (V.agg [i6 kq,u6 vq,V.im nq X]),((d:Int)==(d:Int))=true,Bn [Zz],Bn [Sm (kq:Int),Sm (vq:Int),An [nq=nq,X=X]]]) ?_
 (repeat'(first|(with_reducible apply And.intro)|(refine fun(_:True)=>?_)))<;>first|exact aq|skip
 all_goals skip
theorem Qmj(p j:List Nat)(xs ys d s:Nat)(od:List Nat)(q:Es)(hs:s<18446744073709551616)(hd:d<18446744073709551616)(hv:q.vars<18446744073709551616)(ho: ∀x∈od,x<64)(hol:od.length<=64):
  FnOk Pg g0 66 [.imp (prC p j xs ys od),u6 d,u6 s,esV q] (esV (partE d s q od)):=by
 obtain⟨kq,vq,lq⟩:=q
 by_cases hds:d=s
 ·subst hds
  have e:partE d d (.mk kq vq lq) od= .mk kq vq lq:=by rw[partE,if_pos rfl]
  rw[e]
  exact Qtg p j xs ys d od kq vq lq.length (esL lq) (Qan lq)
 ·have e : partE d s (.mk kq vq lq) od = Qdb (paF d s (.mk kq vq lq) od od.length).2 := by rw [partE, if_neg hds]
  have hlp:=Qtf d s kq vq lq od hs hd hv ho hol _ rfl _ rfl _ rfl
  have hln:=Qjw (d:=d) (s:=s) (q:=.mk kq vq lq) (od:=od) od.length
  have ht:=Qo2 (paF d s (.mk kq vq lq) od od.length).2 o_
  have hA:=Qan (paF d s (.mk kq vq lq) od od.length).2
  have hX:=Qan lq
  have hp:=Qaf p
  have hj:=Qaf j
  have hod:=Qbk od
  rw[e]
  generalize Qdb (paF d s (.mk kq vq lq) od od.length).2=r at*
  generalize hF:(paF d s (.mk kq vq lq) od od.length).2=F at*
  obtain⟨k1,v1,l1⟩:=r
  have hX1:=Qan l1
  show FnOk Pg g0 66 [.imp (prC p j xs ys od),u6 d,u6 s,.agg [i6 (kq:Nat),u6 (vq:Nat),.im lq.length (esL lq)]] (.agg [i6 (k1:Nat),u6 (v1:Nat),.im l1.length (esL l1)])
  change FnOk Pg g0 69 _ (.agg [i6 (k1:Nat),u6 (v1:Nat),.im l1.length (esL l1)])at ht
  generalize esL lq=X at*
  generalize esL l1=X1 at*
  generalize esL F=A at*
  generalize F.length=n at*
  clear e hF
  refine FnOk.of_vc vE_ok mixed Qab (n:=1000) (r:=[0]) (S:={sl:=[(8,.ptr 0 0)],os:=[esO k1 v1 l1.length X1],md:=[1]}) (hs:=[no 17,(0,.loop [0,1] (ptS d s od kq vq lq.length X (0,0,0,[])) [(True,.exit 0,{sl:=[(8,.ptr 0 0),(9,.im n A)],os:=[esZ]})]),fn 63 (.agg [i6 (k1:Nat),u6 (v1:Nat),.im l1.length X1])]) ?_
  refine m_ (p:=let z0:=V.agg [i6 k1,u6 v1,V.im l1.length X1];let z1:=[i6 kq,u6 vq,V.im lq.length X];let z2:=(d:Int);let z3:=(s:Int);Bn [z0=z0,(z2==z3)=false,Bn [Bn [z2=z2,z3=z3,Zz,Zz,Tt,((0:Nat):Int)=(0:Int),An [Sm od.length,Sm (it od)],Sm (od.length:Int),((0:Nat):Int)=(0:Int)],An [z1=z1,TT 3],An [Sm [i6 0,u6 0,V.nils],TT 3]],Sat Try.prog none 0 (at' 66 [1,1,1,1,0,1,0]) (mkSt g0 64 (ptS d s od kq vq lq.length X (0,0,0,[]))) (Qad g0 64 [(True,Ex.exit 0,SL.mk [(8,V.ptr 0 0),(9,V.im n A)] [esZ] [] [])]),(True->Bn [Bn [Tt],FnOk Try.prog g0 69 [V.im n A] z0,Tt,Bn [Zz],Bn [Sm (k1:Int),Sm (v1:Int),An [Sm l1.length,X1=X1]]])]) ?_
  (repeat'(first|(with_reducible apply And.intro)|(refine fun(_:True)=>?_)))<;>first|exact aq|skip
  all_goals first|exact hlp|exact ht|skip
abbrev ptC(p j:List Nat)(s:Nat):V:=.fn 89 [.imp [u6 (s:Nat)],.imp [ul p,ul j]]
theorem Qe1(p j:List Nat)(s:Nat):FnOk Pg g0 64 [grV p j,u6 s] (ptC p j s):=by
 have hp:=Qaf p
 have hj:=Qaf j
 refine FnOk.of_vc vE_ok mixed Qab (n:=1000) (r:=[]) (S:={sl:=[(4,ptC p j s)]}) (hs:=[]) ?_
 refine m_ (p:=Bn [Sm (ptC p j s),Bn [Bn [Bn [Sm [u6 s],Tt],An [Sm [ul p,ul j],TT 2]]]]) ?_
 (repeat'(first|(with_reducible apply And.intro)|(refine fun(_:True)=>?_)))<;>first|exact aq|skip
 all_goals skip
abbrev lo_(d:Nat)(o:O)(v:V):Nat×Hint:=(d,.lo o v)
abbrev so(o:O)(c:List V):Nat×Hint:=(999999,.so o c)
abbrev toO(sl:List (Nat×V)):Nat×Hint:=(0,.toO sl)
abbrev lpF(sl:List (Nat×V))(e:Ex)(sl':List (Nat×V)):Nat×Hint:=(0,.loopF sl [(True,e,sl')])
def outF:List (Prop×Ex×List (Nat×V))->Ex->List (Nat×V)->Prop
 |[],_,_=>False
 |(p,e',sl')::l,e,sl=>(p/\e=e'/\sl=sl')\/outF l e sl
theorem outF_F{gl:T (List V)}{n:Nat}{M:Mem}: ∀{l:List (Prop×Ex×List (Nat×V))}{e:Ex}{sl:List (Nat×V)},outF l e sl->Qjt gl n M.H M.nx M.lg l e (mkSo gl n sl M.H M.nx M.lg)
 |(p,e',sl')::l,e,sl,h=>by
  rcases h with⟨h1,h2,rfl⟩|h
  ·exact .inl ⟨h1,h2,rfl⟩
  ·exact .inr (outF_F h)
theorem Qha{gl:T (List V)}{c b:Code}(hc:c= .loop b){rd:Option Nat}{k nx0:Nat}{α:Type}(I:α->Mem->Prop)(S:α->List (Nat×V))(m:α->Nat)(out:Ex->List (Nat×V)->Mem->Prop)
  (h: ∀x(H:T O)(nx:Nat)(lg:List Nat)(G:Ex->List (Nat×V)->T O->Nat->List Nat->Prop),I x ⟨H,nx,lg⟩->(∀y H nx lg,I y ⟨H,nx,lg⟩->m y<m x->G .normal (S y) H nx lg)->(∀i sl H nx lg,out (.exit i) sl ⟨H,nx,lg⟩->G (.exit i) sl H nx lg)->(∀sl H nx lg,out .ret sl ⟨H,nx,lg⟩->G .ret sl H nx lg)->∃hs n,vc Pg vE sp0 rd nx0 n b hs (mkSo gl k (S x) H nx lg) (Qsj k G))
  (x:α)(M:Mem)(hx:I x M):Sat Pg rd nx0 c (mkSo gl k (S x) M.H M.nx M.lg) (fun e st=>∃sl M',st=mkSo gl k sl M'.H M'.nx M'.lg/\out e sl M'):=
 loopO vE_ok mixed Qab hc I S m out (fun x H nx lg hI=>h x H nx lg _ hI (fun y H nx lg h1 h2=>⟨y,h1,h2,rfl⟩) (fun i sl H nx lg h=>h) (fun sl H nx lg h=>h)) x M hx
theorem loopFr{gl:T (List V)}{c b:Code}(hc:c= .loop b){rd:Option Nat}{k nx0:Nat}{α:Type}(I:α->Prop)(S:α->List (Nat×V))(m:α->Nat)(km:List (Prop×Ex×List (Nat×V)))(H:T O)(nx:Nat)(lg:List Nat)
  (h: ∀x(G:Ex->List (Nat×V)->T O->Nat->List Nat->Prop),I x->(∀y,I y->m y<m x->G .normal (S y) H nx lg)->(∀i sl,outF km (.exit i) sl->G (.exit i) sl H nx lg)->∃hs n,vc Pg vE sp0 rd nx0 n b hs (mkSo gl k (S x) H nx lg) (Qsj k G))(x:α)(hx:I x):Sat Pg rd nx0 c (mkSo gl k (S x) H nx lg) (Qjt gl k H nx lg km):=by
 refine(Qha hc (fun y M'=>I y/\M'=⟨H,nx,lg⟩) S m (fun e sl M'=>M'=⟨H,nx,lg⟩/\outF km e sl) (fun x H' nx' lg' G hI hN hE _=>?_) x ⟨H,nx,lg⟩ ⟨hx,rfl⟩).mono ?_
 ·obtain ⟨hI, e⟩ := hI
  cases e
  exact h x G hI (fun y h1 h2=>hN y _ _ _ ⟨h1,rfl⟩ h2) (fun i sl h=>hE i sl _ _ _ ⟨rfl,h⟩)
 ·rintro e st ⟨sl, M', rfl, rfl, ho⟩
  exact outF_F (M:=⟨H,nx,lg⟩) ho
theorem gt_pt{α:Type}(t:T α)(i j:Nat)(x:α):gt (pt t i x) j=if j=i then some x else gt t j:=by rw[Qak,pt_eq,T.get_put,Qak]
theorem T.set_set{α:Type}: ∀(f:Nat)(t:T α)(i:Nat)(x y:Option α),i<f->T.set f (T.set f t i x) i y=T.set f t i y
 |0,_,_,_,_,h=>absurd h (Nat.not_lt_zero _)
 | f + 1, t, i, x, y, h => by
  have ih:i≠0->∀t:T α,T.set f (T.set f t (i/2) x) (i/2) y=T.set f t (i/2) y:=fun _ t=>T.set_set f t (i/2) x y o_
  have ih2:i≠0->∀t:T α,T.set f (T.set f t (i/2-1) x) (i/2-1) y=T.set f t (i/2-1) y:=fun _ t=>T.set_set f t (i/2-1) x y o_
  by_cases h0:i=0
  ·subst h0;cases t<;>simp[T.set]
  ·have hb : Nat.beq i 0 = false := by
    cases hb:Nat.beq i 0 with
    |false=>rfl
    |true=>exact absurd (Nat.eq_of_beq_eq_true hb) h0
   cases h1:Nat.beq (i%2) 1<;>cases t<;>simp only[T.set,hb,h1,cond_true,cond_false,ih h0,ih2 h0]
theorem T.set_same{α:Type}: ∀(f:Nat)(t:T α)(i:Nat)(x:α),i<f->t.get i=some x->T.set f t i (some x)=t
 |0,_,_,_,h,_=>absurd h (Nat.not_lt_zero _)
 |f+1,.e,_,_,_,h=>by simp at h
 | f + 1, .n l v r, i, x, hf, h => by
  unfold T.get at h
  unfold T.set
  cases h0:Nat.beq i 0 with
  |true=>rw[h0,cond_true]at h;rw[cond_true,h]
  |false=>
   have hi:i≠0:=by rintro rfl;cases h0
   rw[h0,cond_false]at h
   rw[cond_false]
   cases h1:Nat.beq (i%2) 1 with
   |true=>rw[h1,cond_true]at h;rw[cond_true,T.set_same f l (i/2) x o_ h]
   |false=>rw[h1,cond_false]at h;rw[cond_false,T.set_same f r (i/2-1) x o_ h]
theorem Qhm{α:Type}(t:T α)(i:Nat)(x y:α):pt (pt t i x) i y=pt t i y:=by
 rw[pt_eq,pt_eq,pt_eq];exact T.set_set _ _ _ _ _ (Nat.lt_succ_self _)
theorem Qhn{α:Type}{t:T α}{i:Nat}{x:α}(h:gt t i=some x):pt t i x=t:=by
 rw[Qak]at h;rw[pt_eq];exact T.set_same _ _ _ _ (Nat.lt_succ_self _) h
def SubL(a b:List Nat):Prop:=∀g,g∈a->g∈b
noncomputable def kSub(E:Env)(res:List ResultVar)(r:CR):KF:=fun e _ st=>match e with
 | .exit _=>False
 | .pan _=>False
 | _=>retP r.v (retV E.G st.tm st.H res)/\st.H=r.H/\st.nx=r.nx/\SubL st.lg r.lg
noncomputable def vcFiS(P:Program)(E:Env)(sp:Qa7)(gl:T (List V))(n:Nat)(ars:List V)(H:T O)(nx:Nat)(hs:Hs)(r:CR):Option FI->Prop
 |some fi=>bif Nat.ble ars.length fi.ntmps then vc P E sp none nx n fi.body hs ⟨⟨Qco (blank fi.ntmps) 0 ars,gl,fi.ntmps⟩,H,nx,[]⟩ (kSub E fi.res r)else False
 |none=>False
theorem CallSpec.of_vcS{P:Program}{E:Env}{sp:Qa7}(hE:E.Ok P)(hm:P.follows .mixedOrders=true){gl:T (List V)}(hsp:Qau P gl sp){n f:Nat}{ars:List V}{H:T O}{nx:Nat}{hs:Hs}{r:CR}(hlog:Log H.get nx r.H.get r.nx r.lg)(h:vcFiS P E sp gl n ars H nx hs r (E.code f)):CallSpec P gl (.fn f []) ars H nx r:=by
 unfold vcFiS at h
 split at h
 ·rename_i fi hfi
  obtain⟨hb,hv⟩:=Qae h
  rw[Qbl]at hv
  refine CallSpec.fnC hE hfi (by rw[List.append_nil];exact hb) hlog (R:=fun e st=>(e= .normal\/e= .ret)/\retV E.G st.tm st.H fi.res=some r.v/\st.H=r.H/\st.nx=r.nx/\SubL st.lg r.lg) ?_ ?_
  ·rw [List.append_nil]
   refine Sat.of_vc hE hm hsp rfl hv fun e hs' st' hg hk=>?_
   have fin:(retP r.v (retV E.G st'.tm st'.H fi.res)/\st'.H=r.H/\st'.nx=r.nx/\SubL st'.lg r.lg)->retV E.G st'.tm st'.H fi.res=some r.v/\st'.H=r.H/\st'.nx=r.nx/\SubL st'.lg r.lg:=by
    rintro⟨jd,k⟩
    refine⟨?_,k⟩
    unfold retP at jd
    split at jd
    ·rename_i u e;rw[e,jd]
    ·exact jd.elim
   unfold kSub at hk
   cases e with
   |exit=>exact hk.elim
   |pan=>exact hk.elim
   |normal=>exact⟨.inl rfl,fin hk⟩
   |ret=>exact⟨.inr rfl,fin hk⟩
  ·rintro e st ⟨he, jd, h1, h2, h3⟩
   refine⟨he,r.v,jd,fun s w ee w' _ _⟨u,s',k1,g1,g2,g3,g4,g5⟩=>?_⟩
   dsimp only at g1 g2 g3 g4 g5
   rw[h1]at g2
   rw[h2]at g4 g5
   exact⟨u,s',k1,g1,g2,g3.more h3,g4,g5⟩
 ·exact h.elim
def lowB(x:Nat):Nat:=x&&& (18446744073709551616-x)
theorem Qjm{x:Nat}(h:x<18446744073709551616):lowB x<18446744073709551616:=Nat.lt_of_le_of_lt Nat.and_le_left h
theorem low_u{G:Ctx}{t:Nat}{x:Nat}(hx:x<18446744073709551616)(h0:x≠0):binV G .and t (u6 (x:Int)) (u6 ((18446744073709551616-x:Nat):Int))=some (u6 ((lowB x:Nat):Int)):=Qls hx o_
def reF(j:List Nat)(s:Nat):Nat->Nat
 |0=>s
 |k+1=>mi (reF j s k) (clo (lowB (reF j s k)) s j)
theorem Qiu{j:List Nat}{s:Nat}(hs:s<18446744073709551616): ∀k,reF j s k<18446744073709551616
 |0=>hs
 |k+1=>Qc4
def dkF(j:List Nat)(s k:Nat):Nat:=clo (lowB (reF j s k)) s j
abbrev piS(p j:List Nat)(hd s k:Nat):List (Nat×V):=[(0,.yld hd),(1,.imp [u6 (s:Nat)]),(2,.imp [ul p,ul j]),(4,u6 (reF j s k:Nat))]
abbrev piQ(HP:T O)(nx0:Nat)(L:List Nat)(_:Nat)(H:T O)(nx:Nat)(lg:List Nat):Prop:=H=HP/\nx=nx0/\SubL lg L
theorem Qps(p j:List Nat)(s:Nat)(hs:s<18446744073709551616)(hl:j.length<=64)(h64:S64 j)(nx0 hd m:Nat)(hm:reF j s m=0)(hne: ∀k,k<m->reF j s k≠0)(HH:Nat->T O)(N:Nat->Nat)(LY:List Nat)
  (hy: ∀k,k<m->CallSpec Pg g0 (.yld hd) [u6 (dkF j s k:Nat)] (HH k) (N k) ⟨.bool true,HH (k+1),N (k+1),LY⟩):
  Sat Pg none nx0 (at' 89 [1,0]) (mkSo g0 24 (piS p j hd s 0) (HH 0) (N 0) []) (Qbq g0 24 (.exit 0) (fun _=>[]) (piQ (HH m) (N m) LY)):=by
 have hp:=Qaf p
 have hj:=Qaf j
 refine(Qha (b:=at' 89 [1,0,0]) k_ (fun(k:Nat) M=>k<=m/\M.H=HH k/\M.nx=N k/\SubL M.lg LY) (piS p j hd s) (fun k=>m-k) (fun e sl M=>e= .exit 0/\sl=[]/\piQ (HH m) (N m) LY 0 M.H M.nx M.lg) (fun k H nx1 lg G hI hN hE hR=>?_) 0 ⟨_,_,_⟩ ⟨Nat.zero_le _,rfl,rfl,fun g hg=>by cases hg⟩).mono ?_
 ·obtain ⟨hk, rfl, rfl, kw⟩ := hI
  dsimp only at hk kw
  have hr:=Qiu (j:=j) hs k
  by_cases hlt:k<m
  ·have hcall := hy k hlt
   have h0:=hne k hlt
   have e1:reF j s (k+1)=mi (reF j s k) (dkF j s k):=rfl
   have hdk:dkF j s k=clo (lowB (reF j s k)) s j:=rfl
   have jg:=fun lg' h=>hN (k+1) (HH (k+1)) (N (k+1)) lg' ⟨hlt,rfl,rfl,h⟩ o_
   simp only[piS]at jg
   rw[e1]at jg
   have hl0:=Qjm hr
   have hc:=Qgq (lowB (reF j s k)) s j hl0 hs hl h64
   rw[<-hdk]at hc
   have hdl:dkF j s k<18446744073709551616:=by rw[hdk];exact Qea hl0 hs
   simp only[piS]
   generalize reF j s k=r at*
   generalize dkF j s k=d at*
   have s1:=low_u (G:=Qac Pg) (t:=29) hr h0
   have s2:=mi_u (G:=Qac Pg) (t:=29) hr hdl
   obtain⟨ng,hng⟩: ∃ng,ng=18446744073709551616-r:=⟨_,rfl⟩
   rw[<-hng]at s1
   have hneg:wr .u64 (-(r:Int))=(ng:Int):=by
    rw[wr_eq,Qke]
    simp only[lo,wid]
    omega
   generalize lowB r=lo_ at*
   refine⟨[yes 8,nu 11 (ng:Nat),va 12 (u6 (lo_:Nat)),fn 16 (u6 (d:Nat)),(19,.call ⟨.bool true,HH (k+1),N (k+1),LY⟩),va 23 (u6 (mi r d:Nat)),toO [(0,.yld hd),(1,.imp [u6 (s:Nat)]),(2,.imp [ul p,ul j]),(4,u6 (mi r d:Nat))]],1000,?_⟩
   clear hN hE hR e1 hy hdk hng hm hne
   refine m_ (p:=let z0:=u6 ↑(mi r d);let z1:=V.imp [ul p,ul j];let z2:=V.imp [u6 s];let z3:=V.yld hd;Bn [((r:Int) != 0)=true,wr .u64 ((0:Int)-(r:Int))=(ng:Int),binV (Qac Try.prog) BinOp.and 29 (u6 r) (u6 ng)=some (u6 lo_),TT 3,FnOk Pg g0 87 [u6 lo_,u6 s,V.im j.length (ut j)] (u6 d),Tt,CallSpec Pg g0 z3 [u6 d] (HH k) (N k) (CR.mk (V.bool true) (HH (k+1)) (N (k+1)) LY),Tt,binV (Qac Try.prog) BinOp.andNot 29 (u6 r) (u6 d)=some z0,G Ex.normal [(0,z3),(1,z2),(2,z1),(4,z0)] (HH (k+1)) (N (k+1)) (LY++([]++lg)),z3=z3,z2=z2,z1=z1,z0=z0]) ?_
   (repeat'(first|(with_reducible apply And.intro)|(refine fun(_:True)=>?_)))<;>first|exact aq|skip
   all_goals first|exact s1|exact s2|exact hc|exact hneg|exact hcall|(refine jg _ (fun g hg=>?_);rcases List.mem_append.1 hg with hg|hg;exact hg;exact kw g hg)|skip
  ·have : k = m := by omega
   subst this
   have hout:=fun lg' h=>hE 0 [] (HH k) (N k) lg' ⟨rfl,rfl,rfl,rfl,h⟩
   simp only[piS]
   rw[hm]
   refine⟨[no 8,toO []],1000,?_⟩
   clear hN hE hR hy hne hm
   refine m_ (p:=Bn [(((0:Nat):Int) != 0)=false,G (Ex.exit 0) [] (HH k) (N k) lg]) ?_
   (repeat'(first|(with_reducible apply And.intro)|(refine fun(_:True)=>?_)))<;>first|exact aq|skip
   all_goals first|exact hout _ kw|skip
 ·rintro e st ⟨sl', M', rfl, rfl, rfl, hQ⟩
  exact⟨0,_,_,_,rfl,rfl,hQ⟩
theorem Qli(p j:List Nat)(s:Nat)(hs:s<18446744073709551616)(hl:j.length<=64)(h64:S64 j)(hd m:Nat)(hm:reF j s m=0)(hne: ∀k,k<m->reF j s k≠0)(HH:Nat->T O)(N:Nat->Nat)(LY:List Nat)
  (hy: ∀k,k<m->CallSpec Pg g0 (.yld hd) [u6 (dkF j s k:Nat)] (HH k) (N k) ⟨.bool true,HH (k+1),N (k+1),LY⟩)(hlog:Log (HH 0).get (N 0) (HH m).get (N m) LY):
  CallSpec Pg g0 (ptC p j s) [.yld hd] (HH 0) (N 0) ⟨.tup [],HH m,N m,LY⟩:=by
 refine CallSpec.caps ?_
 have l:=Qps p j s hs hl h64 (N 0) hd m hm hne HH N LY hy
 have hp:=Qaf p
 have hj:=Qaf j
 refine CallSpec.of_vcS vE_ok mixed Qab (n:=1000) (hs:=[(0,.loopM (piS p j hd s 0) (.exit 0) (fun _=>[]) (piQ (HH m) (N m) LY) (fun _ _ _ _=>[]))]) hlog ?_
 clear hlog hy hne hm
 refine m_ (p:=An [Bn [Sm (V.yld hd),Sm (V.imp [u6 s]),Sm (V.imp [ul p,ul j]),u6 s=u6 ↑(reF j s 0)],Sat Try.prog none (N 0) (at' 89 [1,0]) (mkSo g0 24 (piS p j hd s 0) (HH 0) (N 0) []) (Qbq g0 24 (Ex.exit 0) (fun x=>[]) (piQ (HH m) (N m) LY)),∀(h:Nat)(H:T O)(nx:Nat)(lg:List Nat),(H=HH m/\nx=N m/\∀(g:Nat),List.Mem g lg->List.Mem g LY)->V.tup []=V.tup []/\H=HH m/\nx=N m/\∀(g:Nat),List.Mem g lg->List.Mem g LY]) ?_
 (repeat'(first|(with_reducible apply And.intro)|(refine fun(_:True)=>?_)))<;>first|exact aq|skip
 all_goals first|exact l|(rintro h H nx lg ⟨rfl,rfl,hs'⟩;(repeat'(first|(with_reducible apply And.intro)|(refine fun(_:True)=>?_)));all_goals first|rfl|exact trivial|exact hs'|skip)|skip
theorem bits0{x:Nat}(h: ∀i,x.testBit i=false):x=0:=Nat.eq_of_testBit_eq fun i=>by rw[h i,Nat.zero_testBit]
theorem Qsr{x:Nat}(h0:x≠0)(hx:x<18446744073709551616): ∃v,v<64/\x.testBit v=true/\lowB x=2^v/\∀b,b<v->x.testBit b=false:=by
 obtain⟨v,hv,hmin⟩: ∃v,x.testBit v=true/\∀b,b<v->x.testBit b=false:=by
  have hex: ∃v,x.testBit v=true:=by
   by_cases h: ∃v,x.testBit v=true
   ·exact h
   ·exact absurd (bits0 fun i=>by
     cases hb:x.testBit i with
     |false=>rfl
     |true=>exact absurd ⟨i,hb⟩ h) h0
  obtain⟨w,hw⟩:=hex
  induction w using Nat.strongRecOn with
  | ind w ih =>
   by_cases hb: ∃b,b<w/\x.testBit b=true
   ·obtain ⟨b, h1, h2⟩ := hb
    exact ih b h1 h2
   ·refine ⟨w, hw, fun b hlt => ?_⟩
    cases hc:x.testBit b with
    |false=>rfl
    |true=>exact absurd ⟨b,hlt,hc⟩ hb
 have hv64:v<64:=by
  refine Nat.lt_of_not_le fun hle=>?_
  rw[Nat.testBit_lt_two_pow (Nat.lt_of_lt_of_le (show x<2^64 from hx) (Nat.pow_le_pow_right d_ hle))]at hv
  cases hv
 refine⟨v,hv64,hv,?_,hmin⟩
 -- x = 2^v (2 m + 1)
 have hmod:x%2^v=0:=bits0 fun i=>by
  rw[Nat.testBit_mod_two_pow]
  by_cases hi:i<v
  ·rw[hmin i hi,Bool.and_false]
  ·rw[decide_eq_false hi,Bool.false_and]
 obtain⟨q,hq⟩: ∃q,q=x/2^v:=⟨_,rfl⟩
 have hxq:x=2^v*q:=by rw[hq];have:=Nat.div_add_mod x (2^v);omega
 have hodd:q%2=1:=by
  rw[Qqt]at hv
  rw[hq];exact of_decide_eq_true hv
 have hpos:0<2^v:=Nat.pow_pos d_
 have hx1:x-1=2^v*(q-1)+(2^v-1):=by
  obtain⟨r,rfl⟩: ∃r,q=r+1:=⟨q-1,by omega⟩
  rw[hxq,Nat.mul_succ,Nat.add_sub_cancel];omega
 unfold lowB
 apply Nat.eq_of_testBit_eq
 intro b
 rw[Nat.testBit_and,show 18446744073709551616-x=2^64-((x-1)+1)by omega,Nat.testBit_two_pow_sub_succ o_,hx1,Nat.testBit_two_pow_mul_add _ o_,Nat.testBit_two_pow]
 by_cases h1:b<v
 ·rw[hmin b h1];simp;omega
 ·by_cases h2 : b = v
  ·subst h2
   have e:(q-1).testBit 0=false:=by
    rw[Nat.testBit_zero];simp;omega
   rw[hv,if_neg o_,Nat.sub_self,e];simp;exact hv64
  ·have e : x.testBit b = q.testBit (b - v) := by rw [hxq, Nat.testBit_two_pow_mul]; simp; omega
   have e2:(q-1).testBit (b-v)=q.testBit (b-v):=by
    obtain⟨c,hc⟩: ∃c,b-v=c+1:=⟨b-v-1,by omega⟩
    rw[hc,Nat.testBit_succ,Nat.testBit_succ,show(q-1)/2=q/2 by omega]
   rw[if_neg h1,e2,e,decide_eq_false (Ne.symm h2)]
   cases q.testBit (b-v)<;>simp
theorem Qmh{s w:Nat}{l:List Nat}{b:Nat}(h:s.testBit b=true): ∀k,(nxF s w l k).testBit b=true
 |0=>h
 |k+1=>by
  unfold nxF
  split
  ·rw[Nat.testBit_or,Qmh h k,Bool.true_or]
  ·exact Qmh h k
theorem Qq0{w:Nat}{l:List Nat}{b:Nat}: ∀f{s:Nat},s.testBit b=true->(clF w l f s).testBit b=true
 |0,s,h=>h
 |f+1,s,h=>by
  unfold clF
  split
  ·exact h
  ·exact Qq0 f (Qmh h _)
theorem Qq1{s w:Nat}{l:List Nat}{b:Nat}(h:s.testBit b=true):(clo s w l).testBit b=true:=Qq0 _ h
theorem reF_dec{j:List Nat}{s k:Nat}(hs:s<18446744073709551616)(h0:reF j s k≠0):reF j s (k+1)<reF j s k:=by
 have hr:=Qiu (j:=j) hs k
 obtain⟨v,h64,h1,h2,h3⟩:=Qsr h0 hr
 have hd:(dkF j s k).testBit v=true:=Qq1 (by rw[h2];exact Nat.testBit_two_pow_self)
 have hle:reF j s (k+1)<=reF j s k:=Nat.and_le_left
 refine Nat.lt_of_le_of_ne hle fun e=>?_
 have:(reF j s (k+1)).testBit v=(reF j s k).testBit v:=by rw[e]
 rw[h1]at this
 have e2:reF j s (k+1)=mi (reF j s k) (dkF j s k):=rfl
 rw[e2,Qhd hr (show dkF j s k<18446744073709551616 from Qea (Qjm hr) hs),hd]at this
 simp at this
def rnF(j:List Nat)(s:Nat):Nat->Nat->Nat
 |0,k=>k
 |f+1,k=>if reF j s k=0 then k else rnF j s f (k+1)
def rn(j:List Nat)(s:Nat):Nat:=rnF j s s 0
theorem rnF_ok{j:List Nat}{s:Nat}(hs:s<18446744073709551616): ∀f k,reF j s k<=f->(∀i,i<k->reF j s i≠0)->reF j s (rnF j s f k)=0/\∀i,i<rnF j s f k->reF j s i≠0
 |0,k,h,hi=>⟨by unfold rnF;omega,by unfold rnF;exact hi⟩
 | f + 1, k, h, hi => by
  unfold rnF
  split
  ·rename_i h0;exact⟨h0,hi⟩
  ·rename_i h0
   have:=reF_dec hs h0
   refine rnF_ok hs f (k+1) o_ fun i hik=>?_
   by_cases h1:i<k
   ·exact hi i h1
   ·have : i = k := by omega
    subst this;exact h0
theorem Qpw{j:List Nat}{s:Nat}(hs:s<18446744073709551616):reF j s (rn j s)=0/\∀i,i<rn j s->reF j s i≠0:=
 rnF_ok hs s 0 (Nat.le_refl _) (fun i hi=>absurd hi (Nat.not_lt_zero _))
def tqF(j:List Nat)(c a:Nat)(od:List Nat)(x:Nat×Es):Nat->Nat×Es
 |0=>x
 |k+1=>if mi c (dkF j a k)=0 then(dkF j a k,partE (dkF j a k) a (tqF j c a od x k).2 od)else tqF j c a od x k
theorem Qd6{j:List Nat}{c a:Nat}{od:List Nat}{x:Nat×Es}(hx:x.2.vars<18446744073709551616): ∀k,(tqF j c a od x k).2.vars<18446744073709551616
 |0=>hx
 |k+1=>by
  unfold tqF
  split
  ·exact Qdy (Qd6 hx k)
  ·exact Qd6 hx k
theorem Qep{j:List Nat}{s:Nat}(hs:s<18446744073709551616)(k:Nat):dkF j s k<18446744073709551616:=Qea (Qjm (Qiu hs k)) hs
theorem Qug{j:List Nat}{c a:Nat}{od:List Nat}{x:Nat×Es}(hx:x.1<18446744073709551616)(ha:a<18446744073709551616): ∀k,(tqF j c a od x k).1<18446744073709551616
 |0=>hx
 |k+1=>by
  unfold tqF
  split
  ·exact Qep ha k
  ·exact Qug hx ha k
def abF(p:List Nat)(c t:Nat):Nat:=clo (c&&& t) t p
def fiW(p j:List Nat)(od:List Nat)(c:Nat):Nat->Nat×Es->Option (Es ⊕ Nat×Nat×Nat)
 |0,x=>if x.1=c then some (.inl x.2)else none
 | f + 1, x => if x.1 = c then some (.inl x.2) else if abF p c x.1 = x.1 then some (.inr (x.1, c, mi c (ovF' c p p.length))) else
   fiW p j od c f (tqF j c (abF p c x.1) od (abF p c x.1,sumE (mi x.1 (abF p c x.1)) x.2) (rn j (abF p c x.1)))
noncomputable def Qbb:Code->Code
 | .rangeFunc _ _ _ b=>b
 |c=>c
noncomputable def Qeh:Code->Code
 | .rangeFunc _ _ a _=>a
 |c=>c
noncomputable def kAsg(n:Nat)(sl1:List (Nat×V))(H:T O)(nx:Nat):KF:=fun e _ st=>match e with
 | .normal=>bif Nat.beq st.tm.n n then slotsQ st.tm sl1/\st.H=H/\st.nx=nx/\st.lg=[]else False
 | _=>False
noncomputable def kBdy(H:T O)(nx:Nat)(L:List Nat):KF:=fun e _ st=>match e with
 | .normal=>st.H=H/\st.nx=nx/\SubL st.lg L
 | _=>False
theorem CallSpec.yldC{P:Program}{E:Env}{sp:Qa7}(hE:E.Ok P)(hm:P.follows .mixedOrders=true){gl:T (List V)}(hsp:Qau P gl sp){n hd:Nat}{ars:List V}{H H2:T O}{nx:Nat}{tm tm1:TM}{ps:List Nat}{assign body:Code}{fn0:Nat}{sl0 sl1:List (Nat×V)}{L:List Nat}{hs0:Hs}{hs1:O->Hs}{m0 m1:Nat}
  (ho:gt H hd=some (.loop .ready none fn0 tm ps assign body))(xg:putPs tm ps ars=some tm1)(hn:tm1.n=n)(hg:tm1.gl=gl)(h0:slotsQ tm1 sl0)
  (ha: ∀(H:T O)(nx:Nat),vc P E sp (some hd) nx m0 assign hs0 (mkSo gl n sl0 H nx []) (kAsg n sl1 H nx))
  (hb: ∀Lb:O,vc P E sp (some hd) nx m1 body (hs1 Lb) (mkSo gl n sl1 (pt H hd Lb) nx [hd]) (kBdy (pt H2 hd Lb) nx L))
  (hL:hd∈L)(hlog: ∀i,i∉L->H2.get i=H.get i)(h2:gt H2 hd=some (.loop .ready none fn0 tm ps assign body)):CallSpec P gl (.yld hd) ars H nx ⟨.bool true,H2,nx,L⟩:=by
 rw[Qak]at ho h2
 refine CallSpec.yld ho xg ⟨Nat.le_refl _,fun i hi _=>hlog i hi⟩ ?_
 have hst:(⟨tm1,H,nx,[]⟩:St)=⟨⟨tm1.sl,gl,n⟩,H,nx,[]⟩:=by cases tm1;subst hn hg;rfl
 rw[hst]
 refine Sat.fewer (sl:=sl0) (by obtain⟨a,b,c⟩:=tm1;cases hn;cases hg;exact h0) ?_
 refine Sat.fewer_post ?_
 refine Sat.of_vc hE hm hsp rfl (ha H nx) fun e hs' st' hgl hk=>?_
 unfold kAsg at hk
 split at hk
 ·obtain ⟨hb1, k1, k2, k3, k4⟩ := Qae hk
  have hn':=Nat.eq_of_beq_eq_true hb1
  refine⟨sl1,k1,rfl,none,fn0,tm,ps,assign,body,by show st'.H.get hd=_;rw[k2];exact ho,?_⟩
  show Sat P (some hd) nx body ⟨_,st'.H.put hd _,st'.nx,hd::st'.lg⟩ _
  rw[k2,k3,k4]
  have e0:(mkSo st'.tm.gl st'.tm.n sl1 H nx []).tm=(mkSo gl n sl1 H nx []).tm:=by rw[hgl,hn']
  rw[e0]
  have hb':=hb (.loop .busy none fn0 tm ps assign body)
  rw[pt_eq]at hb'
  refine Sat.of_vc hE hm hsp rfl hb' fun e hs2 st2 hgl2 hk2=>?_
  unfold kBdy at hk2
  split at hk2
  ·obtain ⟨q1, q2, q3⟩ := hk2
   refine⟨rfl,.busy,none,fn0,tm,ps,assign,body,by rw[q1,pt_eq,T.get_put,if_pos rfl],rfl,?_,q2.symm,fun x hx=>?_⟩
   ·show H2 = _
    rw[q1]
    have: ∀x:O,(pt H2 hd x).put hd (.loop .ready none fn0 tm ps assign body)=H2:=fun x=>by
     rw[<-pt_eq,Qhm,Qhn (by rw[Qak];exact h2)]
    exact(this _).symm
   ·rcases List.mem_cons.1 hx with rfl | hx
    ·exact hL
    ·exact q3 x hx
  ·exact hk2.elim
 ·exact hk.elim
theorem Sat.rangeC{P:Program}{gl:T (List V)}{rd:Option Nat}{nx0:Nat}{g:Operand}{ps:Array Tmp}{asg body:Code}{f:Nat}{caps:List V}{n:Nat}{S S':SL}{H1:T O}{nx1:Nat}{r L:List Nat}{v:V}
  (hg:ev (mkSt gl n S).tm g=some (.fn f caps))(hlb:rdOk rd (mkSt gl n S).H=true)
  (hc:CallSpec P gl (.fn f caps) [.yld S.os.length] (pt (ofOs .e 0 S.os) S.os.length (.loop .ready none 0 (mkSt gl n S).tm ps.toList asg body)) (S.os.length+1) ⟨v,H1,nx1,L⟩)
  (h1:gt H1 S.os.length=some (.loop .ready none 0 (mkSt gl n S).tm ps.toList asg body))
  (hr:gcP nx0 r ⟨(mkSt gl n S).tm,pt H1 S.os.length .dead,nx1,L++S.lg⟩ S'):
  Sat P rd nx0 (.rangeFunc g ps asg body) (mkSt gl n S) (Qad gl n [(True,.normal,S')]):=by
 rw[pt_eq]at hc
 rw[Qak]at h1
 rw[pt_eq]at hr
 refine Sat.gc_post (Sat.rangeFunc' hg hlb hc (.inl ⟨0,_,_,_,_,h1,r,mkSt gl n S',Qeb hr,.inl ⟨trivial,rfl,rfl⟩⟩))
abbrev uO(x:Nat):O:=.row 29 none [u6 (x:Nat)]
abbrev pO(p j:List Nat)(xs ys:Nat)(od:List Nat):O:=.row 95 none [.imp (prC p j xs ys od)]
abbrev fiO(p j:List Nat)(xs ys:Nat)(od:List Nat)(c t kq vq nq:Nat)(X:List V)(a:Nat):List O:=[pO p j xs ys od,uO c,uO t,esO kq vq nq X,esZ,uO a]
abbrev fiR(p j:List Nat)(a:Nat):List (Nat×V):=[(4,.ptr 0 0),(5,.ptr 1 0),(6,.ptr 2 0),(7,.ptr 3 0),(8,.ptr 4 0),(9,.ptr 5 0),(47,ptC p j a)]
noncomputable abbrev fgC:Code:=at' 65 [1,0,0,0,1,0,1,1,1,1,1,0]
theorem fg_eq:fgC= .rangeFunc (.tmp 47) #[48] (Qeh fgC) (Qbb fgC):=by kernel_rfl
noncomputable def fgB:Code:=Qbb fgC
noncomputable def fgA:Code:=Qeh fgC
abbrev fg0(d:Nat):List (Nat×V):=[(4,.ptr 0 0),(5,.ptr 1 0),(6,.ptr 2 0),(7,.ptr 3 0),(9,.ptr 5 0),(48,u6 (d:Nat))]
abbrev fg1(d:Nat):List (Nat×V):=[(4,.ptr 0 0),(5,.ptr 1 0),(6,.ptr 2 0),(7,.ptr 3 0),(9,.ptr 5 0),(10,u6 (d:Nat))]
theorem fg_asg(d:Nat)(H:T O)(nx:Nat):vc Pg vE sp0 (some 6) nx 1000 fgA [] (mkSo g0 60 (fg0 d) H nx []) (kAsg 60 (fg1 d) H nx):=by
 refine m_ (p:=An [Bn [Sm (V.ptr 0 0),Sm (V.ptr 1 0),Sm (V.ptr 2 0),Sm (V.ptr 3 0),Sm (V.ptr 5 0),Sm (u6 d)],H=H,nx=nx,([]:List Nat)=[]]) ?_
 (repeat'(first|(with_reducible apply And.intro)|(refine fun(_:True)=>?_)))<;>first|exact aq|skip
 all_goals skip
theorem fg_miss(p j:List Nat)(xs ys:Nat)(od:List Nat)(c t kq vq nq:Nat)(X:List V)(a d:Nat)(hc:c<18446744073709551616)(hd:d<18446744073709551616)(hm:mi c d≠0)(Lb:O):
  vc Pg vE sp0 (some 6) 7 1000 fgB [va 51 (u6 (mi c d:Nat)),no 52] (mkSo g0 60 (fg1 d) (ofOs .e 0 (fiO p j xs ys od c t kq vq nq X a++[Lb])) 7 [6]) (kBdy (ofOs .e 0 (fiO p j xs ys od c t kq vq nq X a++[Lb])) 7 [2,3,6]):=by
 have s1:=mi_u (G:=Qac Pg) (t:=29) hc hd
 obtain⟨z,hz⟩: ∃z,z=mi c d:=⟨_,rfl⟩
 rw[<-hz]at s1 hm⊢
 refine m_ (p:=An [binV (Qac Try.prog) BinOp.andNot 29 (u6 c) (u6 d)=some (u6 z),((z:Int)==0)=false,Sm (ofOs T.e 0 (fiO p j xs ys od c t kq vq nq X a++[Lb])),7=7,∀(g:Nat),List.Mem g [6]->List.Mem g [2,3,6]]) ?_
 (repeat'(first|(with_reducible apply And.intro)|(refine fun(_:True)=>?_)))<;>first|exact aq|skip
 all_goals first|exact s1|(intro g (hg:g∈[6]);show g∈[2,3,6];simp only[List.mem_cons,List.not_mem_nil,or_false]at hg⊢;omega)|skip
theorem fg_hit(p j:List Nat)(xs ys:Nat)(od:List Nat)(c t kq vq nq:Nat)(X:List V)(a d k1 v1 n1:Nat)(X1:List V)(hc:c<18446744073709551616)(hd:d<18446744073709551616)(hm:mi c d=0)(hX:HfL X)
  (xy:FnOk Pg g0 66 [.imp (prC p j xs ys od),u6 d,u6 a,.agg [i6 (kq:Nat),u6 (vq:Nat),.im nq X]] (.agg [i6 (k1:Nat),u6 (v1:Nat),.im n1 X1]))(Lb:O):
  vc Pg vE sp0 (some 6) 7 1000 fgB [va 51 (u6 (0:Nat)),yes 52,fn 57 (.agg [i6 (k1:Nat),u6 (v1:Nat),.im n1 X1])] (mkSo g0 60 (fg1 d) (ofOs .e 0 (fiO p j xs ys od c t kq vq nq X a++[Lb])) 7 [6]) (kBdy (ofOs .e 0 (fiO p j xs ys od c d k1 v1 n1 X1 a++[Lb])) 7 [2,3,6]):=by
 have s1:=mi_u (G:=Qac Pg) (t:=29) hc hd
 rw[hm]at s1
 have hp:=Qaf p
 have hj:=Qaf j
 have ho:=Qbk od
 refine m_ (p:=let z0:=[i6 k1,u6 v1,V.im n1 X1];An [binV (Qac Try.prog) BinOp.andNot 29 (u6 c) (u6 d)=some (u6 ↑(0:Nat)),(((0:Nat):Int)==0)=true,Bn [Tt,Tt,Tt,TT 3],FnOk Pg g0 66 [V.imp (prC p j xs ys od),u6 d,u6 a,V.agg [i6 kq,u6 vq,V.im nq X]] (V.agg z0),Tt,pt (pt (ofOs T.e 0 (fiO p j xs ys od c t kq vq nq X a++[Lb])) 3 (O.row 57 none z0)) 2 (O.row 29 none [u6 d])=ofOs T.e 0 (fiO p j xs ys od c d k1 v1 n1 X1 a++[Lb]),7=7,∀(g:Nat),List.Mem g ([2]++([3]++([]++[6])))->List.Mem g [2,3,6]]) ?_
 (repeat'(first|(with_reducible apply And.intro)|(refine fun(_:True)=>?_)))<;>first|exact aq|skip
 all_goals first|exact s1|exact xy|kernel_rfl|(intro g hg;show g∈[2,3,6];change g∈[2,3,6]at hg;exact hg)|(intro g hg;change g∈[3,2,6]at hg;show g∈[2,3,6];simp only[List.mem_cons,List.not_mem_nil,or_false]at hg⊢;omega)|(intro g hg;change g∈[2,3,6]at hg;exact hg)|skip
abbrev fgS(p j:List Nat)(xs ys:Nat)(od:List Nat)(c t kq vq nq:Nat)(X:List V)(a:Nat):SL:={sl:=fiR p j a,os:=fiO p j xs ys od c t kq vq nq X a,md:=[1,0,0,1,0,0]}
noncomputable def fgL(p j:List Nat)(xs ys:Nat)(od:List Nat)(c a:Nat):O:=.loop .ready none 0 (mkSt g0 60 (fgS p j xs ys od c 0 0 0 0 [] a)).tm [48] fgA fgB
abbrev fgX(p j:List Nat)(xs ys:Nat)(od:List Nat)(c t kq vq nq:Nat)(X:List V):SL:={sl:=[(4,.ptr 0 0),(5,.ptr 1 0),(6,.ptr 2 0),(7,.ptr 3 0),(8,.ptr 4 0)],os:=[pO p j xs ys od,uO c,uO t,esO kq vq nq X,esZ],md:=[1,0,0,1,0]}
abbrev esOf(x:Es):O:=.row 57 none (esC x)
theorem Qrq(p j:List Nat)(xs ys:Nat)(od:List Nat)(c t t' a:Nat)(x x':List V)(L:O)(i:Nat)(hi:i∉[2,3,6]):
  (pt (ofOs .e 0 [pO p j xs ys od,uO c,uO t,.row 57 none x,esZ,uO a]) 6 L).get i=(pt (ofOs .e 0 [pO p j xs ys od,uO c,uO t',.row 57 none x',esZ,uO a]) 6 L).get i:=by
 simp only[List.mem_cons,List.not_mem_nil,or_false,not_or]at hi
 have e: ∀(t:Nat)(x:List V),ofOs .e 0 [pO p j xs ys od,uO c,uO t,.row 57 none x,esZ,uO a]=pt (pt (ofOs .e 0 [pO p j xs ys od,uO c,uO 0,.row 57 none [],esZ,uO a]) 2 (uO t)) 3 (.row 57 none x):=fun t x=>by kernel_rfl
 rw[e t x,e t' x',pt_eq,T.get_put,pt_eq,T.get_put,pt_eq,T.get_put,pt_eq,T.get_put,pt_eq,T.get_put,pt_eq,T.get_put,if_neg hi.2.2,if_neg hi.2.2,if_neg hi.2.1,if_neg hi.2.1,if_neg hi.1,if_neg hi.1]
theorem Qnv(p j:List Nat)(xs ys:Nat)(od:List Nat)(c a t0:Nat)(x0:Es)(hc:c<18446744073709551616)(ha:a<18446744073709551616)(hx:x0.vars<18446744073709551616)(ho: ∀x∈od,x<64)(hol:od.length<=64)(hl:j.length<=64)(h64:S64 j)(k0 v0 n0:Nat)(X0:List V)(e0:esC x0=[i6 (k0:Nat),u6 (v0:Nat),.im n0 X0])(t1 k1 v1 n1:Nat)(X1:List V)(hX1:HfL X1)(e1:(tqF j c a od (t0,x0) (rn j a)).1=t1/\esC (tqF j c a od (t0,x0) (rn j a)).2=[i6 (k1:Nat),u6 (v1:Nat),.im n1 X1]):
  Sat Pg none 0 fgC (mkSt g0 60 (fgS p j xs ys od c t0 k0 v0 n0 X0 a)) (Qad g0 60 [(True,.normal,fgX p j xs ys od c t1 k1 v1 n1 X1)]):=by
 have hp:=Qaf p
 have hj:=Qaf j
 have hod:=Qbk od
 rw[fg_eq]
 obtain⟨L,hL⟩: ∃L,L=fgL p j xs ys od c a:=⟨_,rfl⟩
 obtain⟨hm,hne⟩:=Qpw (j:=j) ha
 have hcall:=Qli p j a ha hl h64 6 (rn j a) hm hne (fun k=>pt (ofOs .e 0 [pO p j xs ys od,uO c,uO (tqF j c a od (t0,x0) k).1,esOf (tqF j c a od (t0,x0) k).2,esZ,uO a]) 6 L) (fun _=>7) [2,3,6] (fun k hk=>by
  have hd:=Qep (j:=j) ha k
  have hv:=Qd6 (j:=j) (c:=c) (a:=a) (od:=od) (x:=(t0,x0)) hx k
  have hs:tqF j c a od (t0,x0) (k+1)=if mi c (dkF j a k)=0 then(dkF j a k,partE (dkF j a k) a (tqF j c a od (t0,x0) k).2 od)else tqF j c a od (t0,x0) k:=rfl
  generalize tqF j c a od (t0,x0) (k+1)=y' at*
  generalize tqF j c a od (t0,x0) k=y at*
  generalize dkF j a k=d at*
  obtain⟨t,x⟩:=y
  obtain⟨kq,vq,lq⟩:=x
  have hXq:=Qan lq
  have hpt:=Qmj p j xs ys d a od (.mk kq vq lq) ha hd hv ho hol
  have main: ∃hsb:Hs,∀Lb:O,vc Pg vE sp0 (some 6) 7 1000 fgB hsb (mkSo g0 60 (fg1 d) (pt (pt (ofOs .e 0 [pO p j xs ys od,uO c,uO t,esOf (.mk kq vq lq),esZ,uO a]) 6 L) 6 Lb) 7 [6]) (kBdy (pt (pt (ofOs .e 0 [pO p j xs ys od,uO c,uO y'.1,esOf y'.2,esZ,uO a]) 6 L) 6 Lb) 7 [2,3,6]):=by
   by_cases hmi:mi c d=0
   ·rw [if_pos hmi] at hs
    rw[hs]
    cases hpe:partE d a (.mk kq vq lq) od with
    |mk k2 v2 l2=>
    exact⟨_,fun Lb=>fg_hit p j xs ys od c t kq vq lq.length (esL lq) a d k2 v2 l2.length (esL l2) hc hd hmi hXq (by rw[hpe]at hpt;exact hpt) Lb⟩
   ·rw [if_neg hmi] at hs
    rw[hs]
    exact⟨_,fun Lb=>fg_miss p j xs ys od c t kq vq lq.length (esL lq) a d hc hd hmi Lb⟩
  obtain⟨hsb,hb⟩:=main
  refine CallSpec.yldC vE_ok mixed Qab (n:=60) (fn0:=0) (tm:=(mkSt g0 60 (fgS p j xs ys od c 0 0 0 0 [] a)).tm) (ps:=[48]) (assign:=fgA) (body:=fgB) (hs0:=[]) (hs1:=fun _=>hsb) (m0:=1000) (m1:=1000) (sl0:=fg0 d) (sl1:=fg1 d) ?_ rfl rfl rfl ⟨rfl,rfl,rfl,rfl,rfl,rfl,trivial⟩ (fg_asg d) hb d_ (fun i hi=>?_) ?_
  ·rw[gt_pt,if_pos rfl,hL];rfl
  ·exact Qrq p j xs ys od c _ _ a _ _ L i hi
  ·rw[gt_pt,if_pos rfl,hL];rfl) ⟨Nat.le_refl _,fun i hi _=>Qrq p j xs ys od c _ _ a _ _ L i hi⟩
 have e0':esOf (tqF j c a od (t0,x0) 0).2=esO k0 v0 n0 X0:=by show O.row _ _ (esC x0)=_;rw[e0]
 have e1':esOf (tqF j c a od (t0,x0) (rn j a)).2=esO k1 v1 n1 X1:=by show O.row _ _ (esC _)=_;rw[e1.2]
 rw[e0',e1',e1.1]at hcall
 refine Sat.rangeC (r:=[0,1,2,3,4]) (S:=fgS p j xs ys od c t0 k0 v0 n0 X0 a) (f:=89) (caps:=[.imp [u6 (a:Nat)],.imp [ul p,ul j]]) rfl rfl (by rw[hL]at hcall;exact hcall) ?_ ?_
 ·rw[gt_pt];exact(if_pos rfl).trans rfl
 ·clear hcall e1' e0' hL e1 e0
  refine m_ (p:=Bn [Bn [Zz,Zz,Zz,Zz,Zz],Bn [Sm (prC p j xs ys od)],Bn [Sm [u6 c],Tt],Bn [Sm [u6 t1],Tt],Bn [Sm (k1:Int),Sm (v1:Int),An [n1=n1,X1=X1]],An [Sm [i6 0,u6 0,V.nils],TT 3]]) ?_
  (repeat'(first|(with_reducible apply And.intro)|(refine fun(_:True)=>?_)))<;>first|exact aq|skip
  all_goals first|rfl|skip
abbrev hgV(h:Nat×Nat×Nat):V:=.agg [u6 (h.1:Nat),u6 (h.2.1:Nat),u6 (h.2.2:Nat)]
abbrev hgP(h:Nat×Nat×Nat):V:=.ifc 59 (hgV h)
abbrev fnS(p j:List Nat)(xs ys:Nat)(od:List Nat)(c:Nat)(q:Nat×Nat×Nat×Nat×Nat×List V):SL:=fgX p j xs ys od c q.2.1 q.2.2.1 q.2.2.2.1 q.2.2.2.2.1 q.2.2.2.2.2
def FiI(p j:List Nat)(od:List Nat)(c:Nat)(r:Es ⊕ Nat×Nat×Nat)(q:Nat×Nat×Nat×Nat×Nat×List V):Prop:=
 ∃x:Es,esC x=[i6 (q.2.2.1:Nat),u6 (q.2.2.2.1:Nat),.im q.2.2.2.2.1 q.2.2.2.2.2]/\fiW p j od c q.1 (q.2.1,x)=some r/\x.vars<18446744073709551616/\q.2.1<18446744073709551616
section
variable (p j:List Nat) (xs ys:Nat) (od:List Nat) (c:Nat) (hc:c<18446744073709551616) (ho: ∀x∈od,x<64) (hol:od.length<=64) (hlp:p.length<=64) (jt:S64 p) (hl:j.length<=64) (h64:S64 j)
include hc ho hol hlp jt hl h64
theorem fi_loop(F t0:Nat)(x0:Es)(k0 v0 n0:Nat)(X0:List V)(e0:esC x0=[i6 (k0:Nat),u6 (v0:Nat),.im n0 X0])(hx:x0.vars<18446744073709551616)(ht:t0<18446744073709551616)(x1:Es)(hr:fiW p j od c F (t0,x0)=some (.inl x1))(k1 v1 n1:Nat)(X1:List V)(e1:esC x1=[i6 (k1:Nat),u6 (v1:Nat),.im n1 X1]):
  Sat Pg none 0 (at' 65 [1,0,0]) (mkSt g0 60 (fnS p j xs ys od c (F,t0,k0,v0,n0,X0))) (Qad g0 60 [(True,.exit 0,{sl:=[(7,.ptr 0 0),(8,.ptr 1 0)],os:=[esO k1 v1 n1 X1,esZ],md:=[1,0]})]):=by
 have hp:=Qaf p
 have hj:=Qaf j
 have hod:=Qbk od
 refine Qav vE_ok mixed Qab (b:=at' 65 [1,0,0,0]) k_ (FiI p j od c (.inl x1)) (fnS p j xs ys od c) (fun q=>q.1) (fun q hq=>?_) (F,t0,k0,v0,n0,X0) ⟨x0,e0,hr,hx,ht⟩
 obtain⟨f,t,k,v,n,X⟩:=q
 obtain⟨x,q1,q2,q3,q4⟩:=hq
 dsimp only at q1 q2 q3 q4
 have hX:HfL X:=by
  have:=Qqb x
  obtain⟨k',v',l'⟩:=x
  rw[esC]at q1
  injection q1 with _ q1
  injection q1 with _ q1
  injection q1 with q1 _
  injection q1 with _ q1
  rw[<-q1];exact Qan _
 by_cases htc:t=c
 ·have he : x = x1 := by
   cases f with
   |zero=>rw[fiW,if_pos htc]at q2;exact Sum.inl.inj (Option.some.inj q2)
   |succ f=>rw[fiW,if_pos htc]at q2;exact Sum.inl.inj (Option.some.inj q2)
  subst he
  rw[e1]at q1
  injection q1 with a1 q1
  injection q1 with a2 q1
  injection q1 with a3 _
  injection a1 with _ a1
  injection a2 with _ a2
  injection a3 with a3 a4
  have a1:=Int.ofNat_inj.1 a1
  have a2:=Int.ofNat_inj.1 a2
  subst a1 a2 a3 a4 htc
  refine .inr ⟨.exit 0,[3,4],{sl:=[(7,.ptr 0 0),(8,.ptr 1 0)],os:=[esO k1 v1 n1 X1,esZ],md:=[1,0]},[no 13],1000,.inl ⟨trivial,rfl,rfl⟩,?_⟩
  clear q2 hr e1
  refine m_ (p:=Bn [((t:Int) != (t:Int))=false,Bn [Zz,Zz],Bn [Sm (k1:Int),Sm (v1:Int),An [n1=n1,X1=X1]],An [Sm [i6 0,u6 0,V.nils],TT 3]]) ?_
  (repeat'(first|(with_reducible apply And.intro)|(refine fun(_:True)=>?_)))<;>first|exact aq|skip
  all_goals skip
 ·obtain ⟨f, rfl⟩ : ∃ g, f = g + 1 := by
   cases f with
   |zero=>rw[fiW,if_neg htc]at q2;cases q2
   |succ f=>exact⟨f,rfl⟩
  rw[fiW,if_neg htc]at q2
  have hat:abF p c t≠t:=fun h=>by
   dsimp only at q2
   rw[if_pos h]at q2;cases q2
  dsimp only at q2
  rw[if_neg hat]at q2
  have hab:=Qfz p j c t hc q4 hlp jt
  have hale:abF p c t<18446744073709551616:=Qea (Nat.and_lt_two_pow (n:=64) _ q4) q4
  have hae:abF p c t=clo (c&&& t) t p:=rfl
  rw[<-hae]at hab
  have hsm:=Qoz (mi t (abF p c t)) x Qc4 q3
  have hsv:=Qe5 (s:=mi t (abF p c t)) Qc4 q3
  have s1:=mi_u (G:=Qac Pg) (t:=29) q4 hale
  have hpts:=Qe1 p j (abF p c t)
  generalize hA:abF p c t=a at*
  rw[show esV x= .agg [i6 (k:Nat),u6 (v:Nat),.im n X]by show V.agg (esC x)=_;rw[q1]]at hsm
  generalize hsE:sumE (mi t a) x=s at*
  have htv:=Qd6 (j:=j) (c:=c) (a:=a) (od:=od) (x:=(a,s)) hsv (rn j a)
  have htl:=Qug (j:=j) (c:=c) (a:=a) (od:=od) (x:=(a,s)) hale hale (rn j a)
  have hrg:=fun k0 v0 n0 X0 e0 t1 k1 v1 n1 X1 hX1 e1=>Qnv p j xs ys od c a a s hc hale hsv ho hol hl h64 k0 v0 n0 X0 e0 t1 k1 v1 n1 X1 hX1 e1
  obtain⟨t1,ht1⟩: ∃t1,(tqF j c a od (a,s) (rn j a)).1=t1:=⟨_,rfl⟩
  obtain⟨y,hy⟩: ∃y,(tqF j c a od (a,s) (rn j a)).2=y:=⟨_,rfl⟩
  have hq:fiW p j od c f (t1,y)=some (.inl x1):=by rw[<-ht1,<-hy];exact q2
  rw[ht1]at htl
  rw[hy]at htv
  obtain⟨ks,vs,ls⟩:=s
  obtain⟨ky,vy,ly⟩:=y
  have hrg:=hrg ks vs ls.length (esL ls) (by rw[esC]) t1 ky vy ly.length (esL ly) (Qan _) ⟨ht1,by rw[hy,esC]⟩
  have hXs:=Qan ls
  have hXy:=Qan ly
  have hI:FiI p j od c (.inl x1) (f,t1,ky,vy,ly.length,esL ly):=⟨.mk ky vy ly,by rw[esC],hq,htv,htl⟩
  change FnOk Pg g0 68 _ (.agg [i6 (ks:Nat),u6 (vs:Nat),.im ls.length (esL ls)])at hsm
  generalize esL ls=XS at*
  generalize esL ly=XY at*
  obtain⟨ta,hta⟩: ∃z,z=mi t a:=⟨_,rfl⟩
  rw[<-hta]at s1 hsm
  refine .inl ⟨(f,t1,ky,vy,ly.length,XY),[0,1,2,3,4],[yes 13,fn 20 (u6 (a:Nat)),no 23,va 38 (u6 (ta:Nat)),fn 40 (.agg [i6 (ks:Nat),u6 (vs:Nat),.im ls.length XS]),fn 47 (ptC p j a),(0,.loop [0,1,2,3,4,5] (fgS p j xs ys od c a ks vs ls.length XS a) [(True,.normal,fgX p j xs ys od c t1 ky vy ly.length XY)])],1000,hI,Nat.lt_succ_self _,?_⟩
  clear hI hq hy ht1 htv htl hsE hA q2 hsv hr e1 e0 q1 q3
  refine m_ (p:=let z0:=[i6 0,u6 0,V.nils];let z1:=V.agg [V.im p.length (ut p),V.im j.length (ut j)];let z2:=prC p j xs ys od;let z3:=[u6 a];let z4:=[u6 c];Bn [((t:Int) != (c:Int))=true,An [TT 2,TT 2],FnOk Try.prog g0 63 [z1,u6 c,u6 t] (u6 a),Tt,((a:Int)==(t:Int))=false,binV (Qac Try.prog) BinOp.andNot 29 (u6 t) (u6 a)=some (u6 ta),Bn [Tt,TT 3],FnOk Try.prog g0 68 [u6 ta,V.agg [i6 k,u6 v,V.im n X]] (V.agg [i6 ks,u6 vs,V.im ls.length XS]),Tt,Bn [TT 2,Tt],FnOk Try.prog g0 64 [z1,u6 a] (ptC p j a),Tt,Bn [Bn [Zz,Zz,Zz,Zz,Zz,Zz,Bn [z3=z3,Sm [ul p,ul j]]],Bn [z2=z2],Bn [z4=z4,Tt],Bn [z3=z3,Tt],Bn [Sm (ks:Int),Sm (vs:Int),An [Sm ls.length,XS=XS]],An [z0=z0,TT 3],Bn [z3=z3,Tt]],Sat Try.prog none 0 (at' 65 [1,0,0,0,1,0,1,1,1,1,1,0]) (mkSt g0 60 (fgS p j xs ys od c a ks vs ls.length XS a)) (Qad g0 60 [(True,Ex.normal,fgX p j xs ys od c t1 ky vy ly.length XY)]),(True->Bn [Bn [Zz,Zz,Zz,Zz,Zz],Bn [z2=z2],Bn [z4=z4,Tt],Bn [Sm [u6 t1],Tt],Bn [Sm (ky:Int),Sm (vy:Int),An [Sm ly.length,XY=XY]],An [z0=z0,TT 3]])]) ?_
  (repeat'(first|(with_reducible apply And.intro)|(refine fun(_:True)=>?_)))<;>first|exact aq|skip
  all_goals first|exact hrg|exact s1|exact hab|exact hsm|exact hpts|skip
end
set_option maxHeartbeats 1000000
set_option maxRecDepth 100000
theorem Qfs(x:Es): ∃k v n X,esC x=[i6 ((k:Nat):Int),u6 ((v:Nat):Int),.im n X]/\HfL X:=by
 obtain⟨k,v,l⟩:=x
 exact⟨k,v,l.length,esL l,by rw[esC],Qan l⟩
section
variable (p j:List Nat) (xs ys:Nat) (od:List Nat) (c:Nat) (hc:c<18446744073709551616) (ho: ∀x∈od,x<64) (hol:od.length<=64) (hlp:p.length<=64) (jt:S64 p) (hl:j.length<=64) (h64:S64 j)
include hc ho hol hlp jt hl h64
theorem find_fn(F t:Nat)(q:Es)(hq:q.vars<18446744073709551616)(ht:t<18446744073709551616)(x:Es)(hr:fiW p j od c F (t,q)=some (.inl x)):
  FnOk Pg g0 65 [.imp (prC p j xs ys od),u6 c,u6 t,esV q] (esV x):=by
 have hp:=Qaf p
 have hj:=Qaf j
 have hod:=Qbk od
 obtain⟨k0,v0,n0,X0,e0,h0⟩:=Qfs q
 obtain⟨k1,v1,n1,X1,e1,h1⟩:=Qfs x
 have hlp:=fi_loop p j xs ys od c hc ho hol hlp jt hl h64 F t q k0 v0 n0 X0 e0 hq ht x hr k1 v1 n1 X1 e1
 show FnOk Pg g0 65 [.imp (prC p j xs ys od),u6 c,u6 t,.agg (esC q)] (.agg (esC x))
 rw[e0,e1]
 clear e0 e1 hr
 refine FnOk.of_vc vE_ok mixed Qab (n:=1000) (r:=[1]) (S:={sl:=[(8,.ptr 0 0)],os:=[esO k1 v1 n1 X1],md:=[1]}) (hs:=[(0,.loop [0,1,2,3,4] (fnS p j xs ys od c (F,t,k0,v0,n0,X0)) [(True,.exit 0,{sl:=[(7,.ptr 0 0),(8,.ptr 1 0)],os:=[esO k1 v1 n1 X1,esZ],md:=[1,0]})])]) ?_
 refine m_ (p:=Bn [Sm (V.agg [i6 k1,u6 v1,V.im n1 X1]),Bn [Bn [Zz,Zz,Zz,Zz,Zz],Bn [Sm (prC p j xs ys od)],Bn [Sm [u6 c],Tt],Bn [Sm [u6 t],Tt],Bn [Sm (k0:Int),Sm (v0:Int),An [n0=n0,X0=X0]],An [Sm [i6 0,u6 0,V.nils],TT 3]],Sat Try.prog none 0 (at' 65 [1,0,0]) (mkSt g0 60 (fnS p j xs ys od c (F,t,k0,v0,n0,X0))) (Qad g0 60 [(True,Ex.exit 0,SL.mk [(7,V.ptr 0 0),(8,V.ptr 1 0)] [esO k1 v1 n1 X1,esZ] [] [1,0])]),(True->Bn [Bn [Zz],Bn [Sm (k1:Int),Sm (v1:Int),An [n1=n1,X1=X1]]])]) ?_
 (repeat'(first|(with_reducible apply And.intro)|(refine fun(_:True)=>?_)))<;>first|exact aq|skip
 all_goals first|exact hlp|skip
end
set_option maxHeartbeats 1000000
set_option maxRecDepth 100000
section
variable (p j:List Nat) (xs ys:Nat) (od:List Nat) (c:Nat) (hc:c<18446744073709551616) (ho: ∀x∈od,x<64) (hol:od.length<=64) (hlp:p.length<=64) (jt:S64 p) (hl:j.length<=64) (h64:S64 j)
include hc ho hol hlp jt hl h64
theorem fi_pan(F t0:Nat)(x0:Es)(k0 v0 n0:Nat)(X0:List V)(e0:esC x0=[i6 (k0:Nat),u6 (v0:Nat),.im n0 X0])(hx:x0.vars<18446744073709551616)(ht:t0<18446744073709551616)(h:Nat×Nat×Nat)(hr:fiW p j od c F (t0,x0)=some (.inr h)):
  Sat Pg none 0 (at' 65 [1,0,0]) (mkSt g0 60 (fnS p j xs ys od c (F,t0,k0,v0,n0,X0))) (Qad g0 60 [(True,.pan (hgP h),{sl:=[]})]):=by
 have hp:=Qaf p
 have hj:=Qaf j
 have hod:=Qbk od
 refine Qav vE_ok mixed Qab (b:=at' 65 [1,0,0,0]) k_ (FiI p j od c (.inr h)) (fnS p j xs ys od c) (fun q=>q.1) (fun q hq=>?_) (F,t0,k0,v0,n0,X0) ⟨x0,e0,hr,hx,ht⟩
 obtain⟨f,t,k,v,n,X⟩:=q
 obtain⟨x,q1,q2,q3,q4⟩:=hq
 dsimp only at q1 q2 q3 q4
 have hX:HfL X:=by
  have:=Qqb x
  obtain⟨k',v',l'⟩:=x
  rw[esC]at q1
  injection q1 with _ q1
  injection q1 with _ q1
  injection q1 with q1 _
  injection q1 with _ q1
  rw[<-q1];exact Qan _
 by_cases htc:t=c
 ·exfalso
  cases f with
  |zero=>rw[fiW,if_pos htc]at q2;cases q2
  |succ f=>rw[fiW,if_pos htc]at q2;cases q2
 ·obtain ⟨f, rfl⟩ : ∃ g, f = g + 1 := by
   cases f with
   |zero=>rw[fiW,if_neg htc]at q2;cases q2
   |succ f=>exact⟨f,rfl⟩
  rw[fiW,if_neg htc]at q2
  dsimp only at q2
  have hab:=Qfz p j c t hc q4 hlp jt
  have hale:abF p c t<18446744073709551616:=Qea (Nat.and_lt_two_pow (n:=64) _ q4) q4
  have hae:abF p c t=clo (c&&& t) t p:=rfl
  rw[<-hae]at hab
  by_cases hat:abF p c t=t
  ·rw [if_pos hat] at q2
   have hh:h=(t,c,mi c (ovF' c p p.length)):=(Sum.inr.inj (Option.some.inj q2)).symm
   have hov:=over_fn c p j hc hlp jt
   have hovl:=Qjv (s:=c) jt p.length
   have s2:=mi_u (G:=Qac Pg) (t:=29) hc hovl
   rw[hat]at hab
   subst hh
   generalize ovF' c p p.length=o at*
   obtain⟨z,hz⟩: ∃z,z=mi c o:=⟨_,rfl⟩
   rw[<-hz]at s2⊢
   clear q2 hr e0 q1 q3 hae hale hat
   refine .inr ⟨.pan (hgP (t,c,z)),[],{sl:=[]},[yes 13,fn 20 (u6 (t:Nat)),yes 23,(4,.pn 12 none),fn 32 (u6 (o:Nat)),va 33 (u6 (z:Nat))],1000,.inl ⟨trivial,rfl,rfl⟩,?_⟩
   refine m_ (p:=let z0:=pt (pt (ofOs T.e 0 [pO p j xs ys od,uO c,uO t,esO k v n X,esZ]) 5 (O.row 29 none [u6 0])) 5 (O.row 29 none [u6 t]);let z1:=V.agg [V.im p.length (ut p),V.im j.length (ut j)];let z2:=(t:Int);Bn [(z2 != (c:Int))=true,An [TT 2,TT 2],FnOk Try.prog g0 63 [z1,u6 c,u6 t] (u6 t),Tt,(z2==z2)=true,Bn [TT 2,Tt],FnOk Try.prog g0 88 [z1,u6 c] (u6 o),Tt,An [z0=z0,6=6,([]:List Nat)=[]],binV (Qac Try.prog) BinOp.andNot 29 (u6 c) (u6 o)=some (u6 z),V.ifc 59 (V.agg [u6 t,u6 c,u6 z])=hgP (t,c,z),Tt]) ?_
   (repeat'(first|(with_reducible apply And.intro)|(refine fun(_:True)=>?_)))<;>first|exact aq|skip
   all_goals first|exact hab|exact hov|exact s2|skip
  ·rw [if_neg hat] at q2
   have hsm:=Qoz (mi t (abF p c t)) x Qc4 q3
   have hsv:=Qe5 (s:=mi t (abF p c t)) Qc4 q3
   have s1:=mi_u (G:=Qac Pg) (t:=29) q4 hale
   have hpts:=Qe1 p j (abF p c t)
   generalize hA:abF p c t=a at*
   rw[show esV x= .agg [i6 (k:Nat),u6 (v:Nat),.im n X]by show V.agg (esC x)=_;rw[q1]]at hsm
   generalize hsE:sumE (mi t a) x=s at*
   have htv:=Qd6 (j:=j) (c:=c) (a:=a) (od:=od) (x:=(a,s)) hsv (rn j a)
   have htl:=Qug (j:=j) (c:=c) (a:=a) (od:=od) (x:=(a,s)) hale hale (rn j a)
   have hrg:=fun k0 v0 n0 X0 e0 t1 k1 v1 n1 X1 hX1 e1=>Qnv p j xs ys od c a a s hc hale hsv ho hol hl h64 k0 v0 n0 X0 e0 t1 k1 v1 n1 X1 hX1 e1
   obtain⟨t1,ht1⟩: ∃t1,(tqF j c a od (a,s) (rn j a)).1=t1:=⟨_,rfl⟩
   obtain⟨y,hy⟩: ∃y,(tqF j c a od (a,s) (rn j a)).2=y:=⟨_,rfl⟩
   have hq:fiW p j od c f (t1,y)=some (.inr h):=by rw[<-ht1,<-hy];exact q2
   rw[ht1]at htl
   rw[hy]at htv
   obtain⟨ks,vs,ls⟩:=s
   obtain⟨ky,vy,ly⟩:=y
   have hrg:=hrg ks vs ls.length (esL ls) (by rw[esC]) t1 ky vy ly.length (esL ly) (Qan _) ⟨ht1,by rw[hy,esC]⟩
   have hXs:=Qan ls
   have hXy:=Qan ly
   have hI:FiI p j od c (.inr h) (f,t1,ky,vy,ly.length,esL ly):=⟨.mk ky vy ly,by rw[esC],hq,htv,htl⟩
   change FnOk Pg g0 68 _ (.agg [i6 (ks:Nat),u6 (vs:Nat),.im ls.length (esL ls)])at hsm
   generalize esL ls=XS at*
   generalize esL ly=XY at*
   obtain⟨ta,hta⟩: ∃z,z=mi t a:=⟨_,rfl⟩
   rw[<-hta]at s1 hsm
   refine .inl ⟨(f,t1,ky,vy,ly.length,XY),[0,1,2,3,4],[yes 13,fn 20 (u6 (a:Nat)),no 23,va 38 (u6 (ta:Nat)),fn 40 (.agg [i6 (ks:Nat),u6 (vs:Nat),.im ls.length XS]),fn 47 (ptC p j a),(0,.loop [0,1,2,3,4,5] (fgS p j xs ys od c a ks vs ls.length XS a) [(True,.normal,fgX p j xs ys od c t1 ky vy ly.length XY)])],1000,hI,Nat.lt_succ_self _,?_⟩
   clear hI hq hy ht1 htv htl hsE hA q2 hsv hr e0 q1 q3
   refine m_ (p:=let z0:=[i6 0,u6 0,V.nils];let z1:=V.agg [V.im p.length (ut p),V.im j.length (ut j)];let z2:=prC p j xs ys od;let z3:=[u6 a];let z4:=[u6 c];Bn [((t:Int) != (c:Int))=true,An [TT 2,TT 2],FnOk Try.prog g0 63 [z1,u6 c,u6 t] (u6 a),Tt,((a:Int)==(t:Int))=false,binV (Qac Try.prog) BinOp.andNot 29 (u6 t) (u6 a)=some (u6 ta),Bn [Tt,TT 3],FnOk Try.prog g0 68 [u6 ta,V.agg [i6 k,u6 v,V.im n X]] (V.agg [i6 ks,u6 vs,V.im ls.length XS]),Tt,Bn [TT 2,Tt],FnOk Try.prog g0 64 [z1,u6 a] (ptC p j a),Tt,Bn [Bn [Zz,Zz,Zz,Zz,Zz,Zz,Bn [z3=z3,Sm [ul p,ul j]]],Bn [z2=z2],Bn [z4=z4,Tt],Bn [z3=z3,Tt],Bn [Sm (ks:Int),Sm (vs:Int),An [Sm ls.length,XS=XS]],An [z0=z0,TT 3],Bn [z3=z3,Tt]],Sat Try.prog none 0 (at' 65 [1,0,0,0,1,0,1,1,1,1,1,0]) (mkSt g0 60 (fgS p j xs ys od c a ks vs ls.length XS a)) (Qad g0 60 [(True,Ex.normal,fgX p j xs ys od c t1 ky vy ly.length XY)]),(True->Bn [Bn [Zz,Zz,Zz,Zz,Zz],Bn [z2=z2],Bn [z4=z4,Tt],Bn [Sm [u6 t1],Tt],Bn [Sm (ky:Int),Sm (vy:Int),An [Sm ly.length,XY=XY]],An [z0=z0,TT 3]])]) ?_
   (repeat'(first|(with_reducible apply And.intro)|(refine fun(_:True)=>?_)))<;>first|exact aq|skip
   all_goals first|exact hrg|exact s1|exact hab|exact hsm|exact hpts|skip
theorem find_pan(F t:Nat)(q:Es)(hq:q.vars<18446744073709551616)(ht:t<18446744073709551616)(h:Nat×Nat×Nat)(hr:fiW p j od c F (t,q)=some (.inr h)):
  FnPan Pg g0 65 [.imp (prC p j xs ys od),u6 c,u6 t,esV q] (hgP h):=by
 have hp:=Qaf p
 have hj:=Qaf j
 have hod:=Qbk od
 obtain⟨k0,v0,n0,X0,e0,h0⟩:=Qfs q
 have hlp:=fi_pan p j xs ys od c hc ho hol hlp jt hl h64 F t q k0 v0 n0 X0 e0 hq ht h hr
 show FnPan Pg g0 65 [.imp (prC p j xs ys od),u6 c,u6 t,.agg (esC q)] (hgP h)
 rw[e0]
 clear e0 hr
 refine FnPan.of_vc vE_ok mixed Qab (n:=1000) (r:=[]) (S:={sl:=[]}) (hs:=[(0,.loop [0,1,2,3,4] (fnS p j xs ys od c (F,t,k0,v0,n0,X0)) [(True,.pan (hgP h),{sl:=[]})])]) ?_
 refine m_ (p:=Bn [Bn [Bn [Zz,Zz,Zz,Zz,Zz],Bn [Sm (prC p j xs ys od)],Bn [Sm [u6 c],Tt],Bn [Sm [u6 t],Tt],Bn [Sm (k0:Int),Sm (v0:Int),An [n0=n0,X0=X0]],An [Sm [i6 0,u6 0,V.nils],TT 3]],Sat Try.prog none 0 (at' 65 [1,0,0]) (mkSt g0 60 (fnS p j xs ys od c (F,t,k0,v0,n0,X0))) (Qad g0 60 [(True,Ex.pan (hgP h),SL.mk [] [] [] [])]),(True->Bn [Sm (hgP h),Tt])]) ?_
 (repeat'(first|(with_reducible apply And.intro)|(refine fun(_:True)=>?_)))<;>first|exact aq|skip
 all_goals first|exact hlp|skip
end
end Go.Proofs.Ythjjgipcoeiapaa.Am
