/- Texts behind the claim, part 1: the abstract machine, and what the functions answer. No condition. -/
import Derived.Test.YtifdkhfldbkkpaaGreatRows
import Derived.Test.YtifdkhfldbkkpaaGreatProg
import Derived.WalkKit
import Derived.WalkSpells
import Derived.WalkLawsBesides
import Derived.WalkMore
import Derived.Deep.LoopGhost
import Derived.Deep.Draws
import Derived.Deep.OwnRows
import Derived.Lib.Hide
import Derived.BigQuiet
import Derived.Deep.QuietTactic
import Derived.RangeFuncLeaves
import Derived.RangeFuncBox
import Derived.OwnWalkIn
import Derived.TacticsInMore
import Derived.LoopNIn
import Derived.LoopIn
import Derived.RangeFuncCalls
import Derived.RangeFuncBound
import Derived.RangeFuncNested
import Derived.Shelf.Abstract
import Derived.OrdersIn
import Derived.Still
import Derived.Great.BuildSlice
import Derived.Laws.IdiomRangeMap
import Derived.Maps.RangeRun
import Derived.ChangeKeysEq
import Derived.RecoverIn
import Derived.Laws.Externs
import Derived.ChangeSlices
import Derived.ProofKit
import Derived.OpenShut
import Derived.Carry
set_option linter.unusedVariables false
set_option maxHeartbeats 4000000
set_option maxRecDepth 100000
set_option linter.unusedSimpArgs false
set_option linter.unusedSectionVars false
namespace Go.Proofs.YtifdkhfldbkkpaaGreat.Am
theorem aA:type_of% @List.getD_eq_getElem?_getD:=@List.getD_eq_getElem?_getD
theorem aB:type_of% @List.getElem?_eq_getElem:=@List.getElem?_eq_getElem
theorem aC:type_of% @Nat.le_refl:=@Nat.le_refl
theorem aD:type_of% @Bool.and_eq_true:=@Bool.and_eq_true
theorem aE:type_of% @List.eq_nil_of_length_eq_zero:=@List.eq_nil_of_length_eq_zero
theorem aF:type_of% @Nat.eq_of_beq_eq_true:=@Nat.eq_of_beq_eq_true
theorem aG:type_of% @Nat.zero_le:=@Nat.zero_le
theorem aH:type_of% @Nat.pow_le_pow_right:=@Nat.pow_le_pow_right
theorem aI:type_of% @Nat.le_of_ble_eq_true:=@Nat.le_of_ble_eq_true
theorem aJ:type_of% @Nat.not_lt_zero:=@Nat.not_lt_zero
theorem aK:type_of% @List.mem_cons:=@List.mem_cons
theorem aL:type_of% @List.mem_append:=@List.mem_append
theorem aM:type_of% @List.getElem?_eq_some_iff:=@List.getElem?_eq_some_iff
theorem aN:type_of% @List.mem_singleton:=@List.mem_singleton
theorem aO:type_of% @List.all_eq_true:=@List.all_eq_true
theorem aP:type_of% @Nat.le_trans:=@Nat.le_trans
theorem aQ:type_of% @Nat.lt_of_lt_of_le:=@Nat.lt_of_lt_of_le
theorem aR:type_of% @List.length_append:=@List.length_append
theorem aS:type_of% @Int.tmod_eq_emod_of_nonneg:=@Int.tmod_eq_emod_of_nonneg
theorem aU:type_of% @Nat.ble_eq_true_of_le:=@Nat.ble_eq_true_of_le
theorem aV:type_of% @List.append_nil:=@List.append_nil
theorem aW:type_of% @List.mem_cons_of_mem:=@List.mem_cons_of_mem
theorem aX:type_of% @List.getElem?_eq_none:=@List.getElem?_eq_none
theorem aY:type_of% @Nat.mod_lt:=@Nat.mod_lt
theorem aZ:type_of% @List.mem_cons_self:=@List.mem_cons_self
theorem bB:type_of% @List.mem_range:=@List.mem_range
theorem bC:type_of% @Int.mul_le_mul:=@Int.mul_le_mul
theorem bD:type_of% @List.getElem?_map:=@List.getElem?_map
theorem bE:type_of% @List.not_mem_nil:=@List.not_mem_nil
theorem bF:type_of% @List.take_of_length_le:=@List.take_of_length_le
theorem bG:type_of% @List.mem_of_getElem?:=@List.mem_of_getElem?
theorem bH:type_of% @Nat.div_lt_iff_lt_mul:=@Nat.div_lt_iff_lt_mul
theorem bI:type_of% @Bool.not_eq_true':=@Bool.not_eq_true'
theorem bJ:type_of% @List.length_set:=@List.length_set
theorem bK:type_of% @Nat.pow_succ:=@Nat.pow_succ
theorem bL:type_of% @Int.mul_le_mul_of_nonneg_right:=@Int.mul_le_mul_of_nonneg_right
theorem bM:type_of% @Array.getElem?_eq_some_iff:=@Array.getElem?_eq_some_iff
theorem bN:type_of% @List.getElem?_append_left:=@List.getElem?_append_left
theorem bO:type_of% @Nat.mod_eq_of_lt:=@Nat.mod_eq_of_lt
theorem bP:type_of% @List.map_append:=@List.map_append
theorem bQ:type_of% @Nat.mul_comm:=@Nat.mul_comm
theorem bR:type_of% @List.length_singleton:=@List.length_singleton
theorem bS:type_of% @Decidable.by_contra:=@Decidable.by_contra
theorem bT:type_of% @Bool.or_eq_true:=@Bool.or_eq_true
theorem bU:type_of% @List.getElem?_append_right:=@List.getElem?_append_right
theorem bV:type_of% @List.getElem?_set:=@List.getElem?_set
theorem bW:type_of% @Nat.mul_le_mul_right:=@Nat.mul_le_mul_right
theorem bX:type_of% @Nat.div_div_eq_div_mul:=@Nat.div_div_eq_div_mul
theorem bY:type_of% @Int.mul_nonneg:=@Int.mul_nonneg
theorem bZ:type_of% @List.length_cons:=@List.length_cons
theorem cA:type_of% @List.cons.inj:=@List.cons.inj
theorem cB:type_of% @Array.length_toList:=@Array.length_toList
theorem cC:type_of% @List.mem_map:=@List.mem_map
theorem cD:type_of% @List.ext_getElem?:=@List.ext_getElem?
theorem cE:type_of% @List.append_assoc:=@List.append_assoc
theorem cF:type_of% @List.nodup_nil:=@List.nodup_nil
theorem cG:type_of% @Nat.lt_of_le_of_lt:=@Nat.lt_of_le_of_lt
theorem cH:type_of% @Option.bind_eq_some_iff:=@Option.bind_eq_some_iff
theorem cI:type_of% @Nat.testBit_lt_two_pow:=@Nat.testBit_lt_two_pow
theorem cJ:type_of% @Int.natCast_mul:=@Int.natCast_mul
theorem cK:type_of% @List.length_replicate:=@List.length_replicate
theorem cL:type_of% @List.getElem_mem:=@List.getElem_mem
theorem cM:type_of% @Nat.zero_add:=@Nat.zero_add
theorem cO:type_of% @Nat.sub_zero:=@Nat.sub_zero
theorem cP:type_of% @Nat.testBit_or:=@Nat.testBit_or
theorem cQ:type_of% @Array.toArray_toList:=@Array.toArray_toList
theorem cR:type_of% @Nat.add_sub_cancel_left:=@Nat.add_sub_cancel_left
theorem cS:type_of% @Int.toNat_natCast:=@Int.toNat_natCast
theorem cT:type_of% @List.cons.injEq:=@List.cons.injEq
theorem cU:type_of% @Nat.lt_or_ge:=@Nat.lt_or_ge
theorem cV:type_of% @Int.pow_succ:=@Int.pow_succ
theorem cW:type_of% @Nat.div_eq_of_lt:=@Nat.div_eq_of_lt
theorem cX:type_of% @Nat.mul_le_mul:=@Nat.mul_le_mul
theorem cY:type_of% @BitVec.toNat_ofNat:=@BitVec.toNat_ofNat
theorem cZ:type_of% @Array.getElem?_toList:=@Array.getElem?_toList
theorem dA:type_of% @List.drop_eq_getElem_cons:=@List.drop_eq_getElem_cons
theorem dB:type_of% @Nat.zero_lt_one:=@Nat.zero_lt_one
theorem dC:type_of% @List.nodup_cons:=@List.nodup_cons
theorem dD:type_of% @Nat.pow_lt_pow_right:=@Nat.pow_lt_pow_right
theorem dE:type_of% @Nat.add_zero:=@Nat.add_zero
theorem dF:type_of% @List.take_add_one:=@List.take_add_one
theorem dG:type_of% @Option.getD_none:=@Option.getD_none
theorem dH:type_of% @Nat.lt_succ_self:=@Nat.lt_succ_self
theorem dJ:type_of% @Nat.sub_self:=@Nat.sub_self
theorem dK:type_of% @Nat.testBit_two_pow_sub_one:=@Nat.testBit_two_pow_sub_one
theorem dL:type_of% @Nat.or_lt_two_pow:=@Nat.or_lt_two_pow
theorem dM:type_of% @List.nodup_append:=@List.nodup_append
theorem dN:type_of% @Nat.pow_add:=@Nat.pow_add
theorem dO:type_of% @Nat.eq_of_testBit_eq:=@Nat.eq_of_testBit_eq
theorem dP:type_of% @List.range_eq_range':=@List.range_eq_range'
theorem dQ:type_of% @List.mem_append_left:=@List.mem_append_left
theorem dR:type_of% @List.getElem?_append:=@List.getElem?_append
theorem dS:type_of% @Int.add_mul:=@Int.add_mul
theorem dT:type_of% @Bool.or_eq_false_iff:=@Bool.or_eq_false_iff
theorem dU:type_of% @Option.getD_some:=@Option.getD_some
theorem dW:type_of% @Nat.lt_of_not_le:=@Nat.lt_of_not_le
theorem dX:type_of% @List.range'_succ:=@List.range'_succ
theorem dY:type_of% @List.cons_append:=@List.cons_append
theorem dZ:type_of% @List.map_congr_left:=@List.map_congr_left
theorem eA:type_of% @List.getElem?_range:=@List.getElem?_range
theorem eB:type_of% @Array.toList_append:=@Array.toList_append
theorem eC:type_of% @Option.isSome_iff_exists:=@Option.isSome_iff_exists
theorem eD:type_of% @Bool.true_and:=@Bool.true_and
theorem eE:type_of% @Nat.div_le_self:=@Nat.div_le_self
theorem eF:type_of% @Nat.and_le_left:=@Nat.and_le_left
theorem eG:type_of% @List.range_succ:=@List.range_succ
theorem eI:type_of% @Nat.add_sub_cancel:=@Nat.add_sub_cancel
theorem eJ:type_of% @List.append_of_mem:=@List.append_of_mem
theorem eK:type_of% @Nat.add_mul:=@Nat.add_mul
theorem eM:type_of% @Classical.axiomOfChoice:=@Classical.axiomOfChoice
theorem eO:type_of% @Option.some.injEq:=@Option.some.injEq
theorem eP:type_of% @Nat.add_comm:=@Nat.add_comm
theorem eQ:type_of% @List.drop_eq_nil_of_le:=@List.drop_eq_nil_of_le
theorem eS:type_of% @List.mem_append_right:=@List.mem_append_right
theorem eT:type_of% @List.eq_replicate_iff:=@List.eq_replicate_iff
theorem eU:type_of% @Int.mul_assoc:=@Int.mul_assoc
theorem eV:type_of% @Bool.and_self:=@Bool.and_self
theorem eW:type_of% @Int.one_mul:=@Int.one_mul
theorem eY:type_of% @Option.some.inj:=@Option.some.inj
theorem eZ:type_of% @List.nil_append:=@List.nil_append
theorem fA:type_of% @List.length_map:=@List.length_map
theorem fB:type_of% @Nat.testBit_two_pow:=@Nat.testBit_two_pow
theorem fC:type_of% @List.length_pos_iff:=@List.length_pos_iff
theorem fD:type_of% @List.getElem_of_mem:=@List.getElem_of_mem
theorem fE:type_of% @Nat.succ_mul:=@Nat.succ_mul
theorem fF:type_of% @Array.getD_eq_getD_getElem?:=@Array.getD_eq_getD_getElem?
theorem fG:type_of% @Nat.div_mul_cancel:=@Nat.div_mul_cancel
theorem fH:type_of% @Bool.false_and:=@Bool.false_and
theorem fI:type_of% @Nat.mul_left_comm:=@Nat.mul_left_comm
theorem fJ:type_of% @List.length_range:=@List.length_range
theorem fK:type_of% @Iff.rfl:=@Iff.rfl
theorem fL:type_of% @Nat.gcd_pos_of_pos_right:=@Nat.gcd_pos_of_pos_right
theorem fM:type_of% @List.length_take:=@List.length_take
theorem fN:type_of% @List.drop_append:=@List.drop_append
theorem fO:type_of% @BitVec.toNat_and:=@BitVec.toNat_and
theorem fP:type_of% @Array.toList_map:=@Array.toList_map
theorem fQ:type_of% @Option.map_eq_some_iff:=@Option.map_eq_some_iff
theorem fR:type_of% @Nat.lt_trans:=@Nat.lt_trans
theorem fS:type_of% @Nat.testBit_and:=@Nat.testBit_and
theorem fT:type_of% @Nat.le_div_iff_mul_le:=@Nat.le_div_iff_mul_le
theorem fU:type_of% @List.take_append_drop:=@List.take_append_drop
theorem o_ {P:Prop} (h:P:=by omega):P:=h
theorem k_ {P:Prop} (h:P:=by kernel_rfl):P:=h
theorem d_ {P:Prop} (h:P:=by decide):P:=h
theorem s_{P:Prop}(h:P:=by simp):P:=h
/-- a conjunction, listed -/
abbrev An:List Prop->Prop
 |[]=>True
 | p :: l => match l with
  |[]=>p
  |q::m=>match m with
   |[]=>p/\q
   | _:: _=>p/\An (q::m)
abbrev TT:Nat->Prop
 |0=>True
 |n+1=>True/\TT n
theorem DJ: ∀n,TT n
 |0=>trivial
 |n+1=>⟨trivial,DJ n⟩
abbrev Sm{α:Sort _}(x:α):Prop:=x=x
abbrev Zz:Prop:=0=0
abbrev Tt:Prop:=True
end Go.Proofs.YtifdkhfldbkkpaaGreat.Am
namespace Go.Proofs.YtifdkhfldbkkpaaGreat
open Go.RowKit
structure Jl(S:Nat->Prop)(w w':World):Prop where
 os:w'.os=w.os
 tape:w'.tape=w.tape
 output:w'.output=w.output
 size:w.heap.size<=w'.heap.size
 block: ∀k,k<w.heap.size->¬S k->w'.heap[k]? =w.heap[k]?
theorem Jl.refl(S:Nat->Prop)(w:World):Jl S w w:=⟨rfl,rfl,rfl,Nat.le_refl _,λ_ _ _=>rfl⟩
theorem Jl.trans{S:Nat->Prop}{a b c:World}(h:Jl S a b)(k:Jl S b c):Jl S a c:=
 ⟨k.os.trans h.os,k.tape.trans h.tape,k.output.trans h.output,Nat.le_trans h.size k.size,
  λi hi hs=>(k.block i (Nat.lt_of_lt_of_le hi h.size) hs).trans (h.block i hi hs)⟩
theorem Jl.of_below{S:Nat->Prop}{w w':World}(h:Below w.heap.size w w'):Jl S w w':=
 ⟨h.os,h.tape,h.output,h.size,λk hk _=>h.block k hk⟩
theorem Jl.mono{S T:Nat->Prop}{w w':World}(h:Jl S w w')(hst: ∀k,S k->T k):Jl T w w':=
 ⟨h.os,h.tape,h.output,h.size,λk hk ht=>h.block k hk (λhs=>ht (hst k hs))⟩
theorem Jl.drew{S:Nat->Prop}{a w:World}(h:Jl S a w):Jl S a w.drew:=⟨h.os,h.tape,h.output,h.size,h.block⟩
theorem Jl.alloc{S:Nat->Prop}{a w:World}(h:Jl S a w)(o:Obj):Jl S a (w.alloc o):=
 h.trans (Jl.of_below ((Below.refl _ w).alloc (Nat.le_refl _) o))
end Go.Proofs.YtifdkhfldbkkpaaGreat
namespace Go.Proofs.YtifdkhfldbkkpaaGreat
open Go.RowKit
section
variable {F:Fence} {n:Nat} {P:Program} {ops:Array Oper} {md:Region.Mode} {S:World->Prop} {Q:Act->World->Prop}
def EL(v:Value)(w:World):Result Next->Prop
 | .ok (.value u) w'=>w'=w/\u=v
 | .ok .skip w'=>w'=w/\v=undef
 | _=>False
attribute [go_sem] EL
@[go_sem] theorem EU:Fence.wide.round=none:=rfl
theorem Sq{listed:Array Bool}{i:Nat}(h:listed.getD i true=false)(h':listed.getD i false=true):False:=by
 grind
theorem bo{o:Oper}{a:Act}{w:World}{K:Act->World->Prop}(hd:F.depth=none)
  (hh:o.wpIn F n P a w K (λ_ _ _=>False)): ∃a' w',K a' w':=by
 have hL: ¬LetsOut (λ(_:Exit)(_:Act)(_:World)=>False):=λ⟨_,_,h⟩=>h
 have hr: ∀k,F.room k:=λk d h=>by simp_all
 have hh:=hh.2
 generalize (o.semAt F.round a.eval).run P w=r at*
 cases r with
 | ok x w' =>
  cases x<;>simp only[Oper.uponIn]at hh
  case enter f args=>
   obtain⟨e,w'',fr,hR,_⟩:=hh.2.2 [] (hr _)
   grind
  case row r args=>
   obtain⟨v,w'',hR,_⟩:=hh.2 default [] (hr _)
   grind
  case round l f tmps assign body=>
   obtain⟨e,w'',hR,_⟩:=hh.2.2 default [] (hr _)
   grind
  all_goals grind
 |halt x w'=>cases x<;>simp only[Oper.uponIn]at hh
end
end Go.Proofs.YtifdkhfldbkkpaaGreat
namespace Go.Proofs.YtifdkhfldbkkpaaGreat.Am
open Go.RowKit
inductive T(α:Type) where
 |e
 |n(l:T α)(v:Option α)(r:T α)
def T.get{α:Type}:T α->Nat->Option α
 | .e,_=>none
 | .n l v r,i=>bif Nat.beq i 0 then v else bif Nat.beq (i%2) 1 then l.get (i/2)else r.get (i/2-1)
def T.set{α:Type}:Nat->T α->Nat->Option α->T α
 |0,t,_,_=>t
 |f+1,.e,i,x=>bif Nat.beq i 0 then .n .e x .e else bif Nat.beq (i%2) 1 then .n (T.set f .e (i/2) x) none .e else .n .e none (T.set f .e (i/2-1) x)
 |f+1,.n l v r,i,x=>bif Nat.beq i 0 then .n l x r else bif Nat.beq (i%2) 1 then .n (T.set f l (i/2) x) v r else .n l v (T.set f r (i/2-1) x)
def T.put{α:Type}(t:T α)(i:Nat)(x:α):T α:=T.set (i+1) t i (some x)
theorem T.get_set{α:Type}: ∀(f:Nat)(t:T α)(i j:Nat)(x:Option α),i<f->(T.set f t i x).get j=if j=i then x else t.get j
 |0,_,_,_,_,h=>absurd h (aJ _)
 | f + 1, t, i, j, x, h => by
  have hb: ∀a b:Nat,Nat.beq a b=decide (a=b):=λa b=>by
   by_cases hab:a=b
   .subst hab;simp
   grind[Nat.eq_of_beq_eq_true]
  have h1:i≠0->i%2=1->∀t:T α,∀j,(T.set f t (i/2) x).get j=if j=i/2 then x else t.get j:=λ_ _ t j=>T.get_set f t (i/2) j x o_
  have h2:i≠0->¬i%2=1->∀t:T α,∀j,(T.set f t (i/2-1) x).get j=if j=i/2-1 then x else t.get j:=λ_ _ t j=>T.get_set f t (i/2-1) j x o_
  cases t with
  |e=>
   grind[T.set,T.get]
  |n l v r=>
   grind[T.set,T.get]
theorem T.get_put{α:Type}(t:T α)(i j:Nat)(x:α):(t.put i x).get j=if j=i then some x else t.get j:=T.get_set _ _ _ _ _ (dH _)
@[simp] theorem T.get_e {α:Type} (i:Nat):(T.e:T α).get i=none:=rfl
inductive V where
 |bool(b:Bool)
 |int(k:IntKind)(n:Int)
 |str(s:ByteArray)
 |nilp|nilf|nili|nils|nilm
 |ptr(h off:Nat)
 |sl(h off len:Nat)(room:Option Nat)
 |mp(h:Nat)
 |fn(f:Nat)(caps:List V)
 |mfn(f:Nat)(l:List V)
 |yld(h:Nat)
 |agg(l:List V)
 |tup(l:List V)
 |ifc(t:Nat)(v:V)
 |im(n:Nat)(l:List V)
 |imp(l:List V)
structure Av where
 μ:Nat->Nat
 cp:Nat->Nat
 dom:Nat->Prop
 fz:Nat->Prop
 mark:Nat->Prop
def Av.pr(s:Av)(b:Nat):Prop:=s.fz b\/s.mark b
def Av.bare(s:Av):Av:=⟨λ_=>0,λ_=>0,λ_=>False,s.fz,λ_=>False⟩
mutual
def RV:Av->World->V->Value->Prop
 | _,_,.bool b,v=>v= .bool b
 | _,_,.int k n,v=>v= .int k n
 | _,_,.str x,v=>v= .string x
 | _,_,.nilp,v=>v= .pointer none
 | _,_,.nilf,v=>v= .nilFunc
 | _,_,.nili,v=>v= .nilIface
 | _,_,.nils,v=>v= .slice none 0 0
 | _,_,.nilm,v=>v= .map none
 |s,_,.ptr h off,v=>s.dom h/\v= .pointer (some ⟨s.μ h,off,none⟩)
 |s,_,.sl h off len room,v=>s.dom h/\∃cap,v= .slice (some ⟨s.μ h,off,none⟩) len cap/\len<=cap/\(∀r,room=some r->cap=len+r)/\(room=none->off=0->cap=s.cp h)
 |s,_,.mp h,v=>s.dom h/\v= .map (some (s.μ h))
 |s,w,.fn f caps,v=>∃vs:Array Value,v= .func (.func f) #[] vs/\RL s w caps vs.toList
 |s,w,.mfn f l,v=>∃vs:Array Value,v= .func (.func f) vs #[]/\RL s w l vs.toList
 |s,_,.yld h,v=>s.dom h/\v= .func (.yield (s.μ h)) #[] #[]
 |s,w,.agg l,v=>∃vs:Array Value,v= .agg vs/\RL s w l vs.toList
 |s,w,.tup l,v=>∃vs:Array Value,v= .tuple vs/\RL s w l vs.toList
 |s,w,.ifc t x,v=>∃u,v= .iface t u/\RV s w x u
 |s,w,.im n l,v=>∃a cap,v= .slice a n cap/\n<=cap/\(n≠0->∃b off,a=some ⟨b,off,none⟩/\RC s w l b off)
 |s,w,.imp l,v=>∃b off,v= .pointer (some ⟨b,off,none⟩)/\RC s w l b off
def RL:Av->World->List V->List Value->Prop
 | _,_,[],vs=>vs=[]
 |s,w,x::xs,vs=>∃v vs',vs=v::vs'/\RV s w x v/\RL s w xs vs'
def RC:Av->World->List V->Nat->Nat->Prop
 | _,_,[],_,_=>True
 |s,w,x::xs,b,off=>(s.fz b/\∃u,w.cell? ⟨b,off,none⟩=some u/\RV s.bare w x u)/\RC s w xs b (off+1)
end
structure Av.Sub(s s':Av):Prop where
 μ: ∀h,s.dom h->s'.μ h=s.μ h
 cp: ∀h,s.dom h->s'.cp h=s.cp h
 dom: ∀h,s.dom h->s'.dom h
 fz: ∀b,s.fz b->s'.fz b
structure Av.Le(s s':Av):Prop extends Av.Sub s s' where
 mark: ∀b,s.mark b->s'.mark b
theorem Av.Le.pr{s s':Av}(h:s.Le s'){b:Nat}(hb:s.pr b):s'.pr b:=hb.imp (h.fz b) (h.mark b)
theorem Av.Sub.refl(s:Av):s.Sub s:=⟨λ_ _=>rfl,λ_ _=>rfl,λ_ h=>h,λ_ h=>h⟩
theorem Av.Le.refl(s:Av):s.Le s:=⟨Av.Sub.refl s,λ_ h=>h⟩
theorem Av.Sub.trans{a b c:Av}(h:a.Sub b)(k:b.Sub c):a.Sub c:=⟨λi hi=>(k.μ i (h.dom i hi)).trans (h.μ i hi),λi hi=>(k.cp i (h.dom i hi)).trans (h.cp i hi),λi hi=>k.dom i (h.dom i hi),λi hi=>k.fz i (h.fz i hi)⟩
theorem Av.Le.trans{a b c:Av}(h:a.Le b)(k:b.Le c):a.Le c:=⟨h.toSub.trans k.toSub,λi hi=>k.mark i (h.mark i hi)⟩
def Er(s:Av)(w w':World):Prop:=∀b,s.fz b->w'.heap[b]? =w.heap[b]?
def Ee(s:Av)(w w':World):Prop:=∀b,s.pr b->w'.heap[b]? =w.heap[b]?
theorem Ee.k{s:Av}{w w':World}(h:Ee s w w'):Er s w w':=λb hb=>h b (.inl hb)
theorem Av.Sub.bare{s s':Av}(h: ∀b,s.fz b->s'.fz b):s.bare.Sub s'.bare:=⟨λ_ h=>h.elim,λ_ h=>h.elim,λ_ h=>h,h⟩
theorem Av.bare_sub(s:Av):s.bare.Sub s:=⟨λ_ h=>h.elim,λ_ h=>h.elim,λ_ h=>h.elim,λ_ h=>h⟩
mutual
theorem RV.mono': ∀{s s':Av}{w w':World}(_:s.Sub s')(_:Er s w w')(x:V)(v:Value),RV s w x v->RV s' w' x v
 | _,_,_,_,_,_,.bool _,_,h| _,_,_,_,_,_,.int _ _,_,h| _,_,_,_,_,_,.str _,_,h| _,_,_,_,_,_,.nilp,_,h| _,_,_,_,_,_,.nilf,_,h| _,_,_,_,_,_,.nili,_,h| _,_,_,_,_,_,.nils,_,h| _,_,_,_,_,_,.nilm,_,h=>h
 | _,_,_,_,hs,_,.ptr h _,_,⟨hd,e⟩=>⟨hs.dom _ hd,by rw[hs.μ _ hd];exact e⟩
 | _,_,_,_,hs,_,.sl h _ _ _,_,⟨hd,e⟩=>⟨hs.dom _ hd,by rw[hs.μ _ hd,hs.cp _ hd];exact e⟩
 | _,_,_,_,hs,_,.mp h,_,⟨hd,e⟩=>⟨hs.dom _ hd,by rw[hs.μ _ hd];exact e⟩
 | _,_,_,_,hs,_,.yld h,_,⟨hd,e⟩=>⟨hs.dom _ hd,by rw[hs.μ _ hd];exact e⟩
 | _,_,_,_,hs,hk,.fn _ caps,_,⟨vs,e,h⟩=>⟨vs,e,RL.mono' hs hk caps _ h⟩
 | _,_,_,_,hs,hk,.mfn _ caps,_,⟨vs,e,h⟩=>⟨vs,e,RL.mono' hs hk caps _ h⟩
 | _,_,_,_,hs,hk,.agg l,_,⟨vs,e,h⟩=>⟨vs,e,RL.mono' hs hk l _ h⟩
 | _,_,_,_,hs,hk,.tup l,_,⟨vs,e,h⟩=>⟨vs,e,RL.mono' hs hk l _ h⟩
 | _,_,_,_,hs,hk,.ifc _ x,_,⟨u,e,h⟩=>⟨u,e,RV.mono' hs hk x _ h⟩
 | _,_,_,_,hs,hk,.im _ l,_,⟨a,cap,e,hc,h⟩=>⟨a,cap,e,hc,λhn=>let ⟨b,off,ha,hl⟩:=h hn;⟨b,off,ha,RC.mono' hs.fz hk l b off hl⟩⟩
 | _,_,_,_,hs,hk,.imp l,_,⟨b,off,e,hl⟩=>⟨b,off,e,RC.mono' hs.fz hk l b off hl⟩
theorem RL.mono': ∀{s s':Av}{w w':World}(_:s.Sub s')(_:Er s w w')(l:List V)(vs:List Value),RL s w l vs->RL s' w' l vs
 | _,_,_,_,_,_,[],_,h=>h
 | _,_,_,_,hs,hk,x::xs,_,⟨v,vs',e,hx,hl⟩=>⟨v,vs',e,RV.mono' hs hk x v hx,RL.mono' hs hk xs vs' hl⟩
theorem RC.mono': ∀{s s':Av}{w w':World}(_: ∀b,s.fz b->s'.fz b)(_:Er s w w')(l:List V)(b off:Nat),RC s w l b off->RC s' w' l b off
 | _,_,_,_,_,_,[],_,_,_=>trivial
 | _,_,_,_,hs,hk,x::xs,b,off,⟨⟨hb,u,hu,hx⟩,hl⟩=>⟨⟨hs b hb,u,(World.cell?_of_block (a:=⟨b,off,none⟩) (hk b hb)).trans hu,RV.mono' (Av.Sub.bare hs) hk x u hx⟩,RC.mono' hs hk xs b (off+1) hl⟩
end
theorem RV.mono{s s':Av}{w w':World}(hs:s.Le s')(hk:Er s w w'): ∀(x:V)(v:Value),RV s w x v->RV s' w' x v:=RV.mono' hs.toSub hk
theorem RL.mono{s s':Av}{w w':World}(hs:s.Le s')(hk:Er s w w'): ∀(l:List V)(vs:List Value),RL s w l vs->RL s' w' l vs:=RL.mono' hs.toSub hk
theorem RC.mono{s s':Av}{w w':World}(hs:s.Le s')(hk:Er s w w'): ∀(l:List V)(b off:Nat),RC s w l b off->RC s' w' l b off:=RC.mono' hs.fz hk
theorem RL.length{s:Av}{w:World}: ∀{l:List V}{vs:List Value},RL s w l vs->l.length=vs.length
 |[],_,h=>by cases h;rfl
 | _:: _,_,⟨_,_,e,_,h⟩=>by subst e;simp[RL.length h]
theorem RL.get{s:Av}{w:World}: ∀{l:List V}{vs:List Value},RL s w l vs->∀{i:Nat}{x:V},l[i]? =some x->∃v,vs[i]? =some v/\RV s w x v
 |[],_,_,_,_,h=>by simp at h
 |y::ys,_,⟨v,vs',e,hy,_⟩,0,x,h=>by
  simp_all
 | _::ys,_,⟨v,vs',e,_,hl⟩,i+1,x,h=>by
  obtain⟨u,hu,hx⟩:=RL.get hl (i:=i) (x:=x) (by simpa using h)
  simp_all
theorem RL.append{s:Av}{w:World}: ∀{l m:List V}{vs us:List Value},RL s w l vs->RL s w m us->RL s w (l++m) (vs++us)
 |[],_,_,_,h,k=>by cases h;exact k
 | _:: _,_,_,_,⟨v,vs',e,hx,hl⟩,k=>by subst e;exact⟨v,_,rfl,hx,RL.append hl k⟩
theorem RL.split{s:Av}{w:World}: ∀{l m:List V}{vs:List Value},RL s w (l++m) vs->∃a b,vs=a++b/\RL s w l a/\RL s w m b
 |[],_,vs,h=>⟨[],vs,rfl,rfl,h⟩
 | _:: _,_,_,⟨v,vs',e,hx,hl⟩=>by
  obtain⟨a,b,rfl,h1,h2⟩:=RL.split hl
  exact⟨v::a,b,by simp[e],⟨v,a,rfl,hx,h1⟩,h2⟩
theorem RL.take{s:Av}{w:World}{l:List V}{vs:List Value}(h:RL s w l vs)(n:Nat):RL s w (l.take n) (vs.take n):=by
 have h':=h
 rw[<-fU n l]at h'
 obtain⟨a,b,rfl,h1,_⟩:=RL.split h'
 have e:=h1.length
 have e2:=h.length
 grind[List.take_of_length_le]
theorem RL.drop{s:Av}{w:World}: ∀{l:List V}{vs:List Value}(n:Nat),RL s w l vs->RL s w (l.drop n) (vs.drop n)
 | _,_,0,h=>by simpa using h
 |[],_,n+1,h=>by grind[RL]
 | _:: _,_,n+1,⟨v,vs',e,_,hl⟩=>by subst e;simpa using RL.drop n hl
theorem RL.set{s:Av}{w:World}: ∀{l:List V}{vs:List Value}(i:Nat){x:V}{v:Value},RL s w l vs->RV s w x v->RL s w (l.set i x) (vs.set i v)
 |[],_,_,_,_,h,_=>by cases h;rfl
 | _:: _,_,0,_,_,⟨v,vs',e,_,hl⟩,hx=>by subst e;exact⟨_,_,rfl,hx,hl⟩
 | _:: _,_,i+1,_,_,⟨v,vs',e,hy,hl⟩,hx=>by subst e;exact⟨_,_,rfl,hy,RL.set i hl hx⟩
theorem RL.mk{s:Av}{w:World}: ∀{l:List V}{vs:List Value},l.length=vs.length->(∀(i:Nat)(x:V)(v:Value),l[i]? =some x->vs[i]? =some v->RV s w x v)->RL s w l vs
 |[],[],_,_=>rfl
 |[],_:: _,h,_=>by simp at h
 | _:: _,[],h,_=>by simp at h
 |x::xs,v::vs,h,k=>⟨v,vs,rfl,k 0 x v rfl rfl,RL.mk (by simpa using h) (λi y u hy hu=>k (i+1) y u (by simpa using hy) (by simpa using hu))⟩
theorem RC.drop{s:Av}{w:World}: ∀{l:List V}{b off:Nat}(n:Nat),RC s w l b off->RC s w (l.drop n) b (off+n)
 | _,_,_,0,h=>by simpa using h
 |[],_,_,n+1,_=>by simp[RC]
 | _:: _,_,off,n+1,⟨_,h⟩=>by
  have:=RC.drop n h
  grind
theorem RC.take{s:Av}{w:World}: ∀{l:List V}{b off:Nat}(n:Nat),RC s w l b off->RC s w (l.take n) b off
 | _,_,_,0,_=>by simp[RC]
 |[],_,_,n+1,_=>by simp[RC]
 | _:: _,_,_,n+1,⟨h1,h⟩=>⟨h1,RC.take n h⟩
theorem RC.get{s:Av}{w:World}: ∀{l:List V}{b off:Nat},RC s w l b off->∀{i:Nat}{x:V},l[i]? =some x->s.fz b/\∃u,w.cell? ⟨b,off+i,none⟩=some u/\RV s w x u
 |[],_,_,_,_,_,h=>by simp at h
 | _:: _,_,_,⟨⟨hb,u,hu,hx⟩,_⟩,0,_,h=>by
  cases(by simpa using h);exact⟨hb,u,hu,RV.mono' s.bare_sub (λ_ _=>rfl) _ _ hx⟩
 | _:: _,_,off,⟨_,hl⟩,i+1,_,h=>by
  have:=RC.get hl (i:=i) (by simpa using h)
  grind
theorem RC.cells{s:Av}{w:World}: ∀{l:List V}{b off:Nat},RC s w l b off->∃vs:List Value,RL s w l vs/\∀j v,vs[j]? =some v->w.cell? ⟨b,off+j,none⟩=some v
 |[],_,_,_=>⟨[],rfl,λ_ _ h=>by simp at h⟩
 | _:: _,_,off,⟨⟨_,u,hu,hx⟩,hl⟩=>by
  obtain⟨vs,h1,h2⟩:=RC.cells hl
  refine⟨u::vs,⟨u,vs,rfl,RV.mono' s.bare_sub (λ_ _=>rfl) _ _ hx,h1⟩,λj v h=>?_⟩
  grind
structure TM where
 sl:T V
 gl:T (List V)
 n:Nat
def TM.put:TM->Option Nat->V->TM
 |⟨sl,gl,n⟩,some i,x=>bif Nat.blt i n then⟨sl.put i x,gl,n⟩else⟨sl,gl,n⟩
 |t,none,_=>t
theorem TM.put_some(t:TM)(i:Nat)(x:V):t.put (some i) x=bif Nat.blt i t.n then⟨t.sl.put i x,t.gl,t.n⟩else t:=rfl
inductive O where
 |row(t:Nat)(sp:Option Nat)(c:List V)
 |map(es:List (V×V×Nat))(clock:Nat)
 |iter(m:Option Nat)(since:Nat)(seen:List Nat)(last:Nat)
 |loop(st:LoopState)(pend:Option Code)(fn:Nat)(tm:TM)(ps:List Nat)(assign body:Code)
 |dead
def O.live:O->Bool
 | .dead=>false
 | _=>true
def RE(s:Av)(w:World):List (V×V×Nat)->List MapEntry->Prop
 |[],es=>es=[]
 |(k,v,n)::xs,es=>∃e es',es=e::es'/\RV s w k e.key/\RV s w v e.val/\e.born=n/\RE s w xs es'
theorem RE.mono'{s s':Av}{w w':World}(hs:s.Sub s')(hk:Er s w w'): ∀(l:List (V×V×Nat))(es:List MapEntry),RE s w l es->RE s' w' l es
 |[],_,h=>h
 | _::xs,_,⟨e,es',he,h1,h2,h3,h4⟩=>⟨e,es',he,RV.mono' hs hk _ _ h1,RV.mono' hs hk _ _ h2,h3,RE.mono' hs hk xs es' h4⟩
def RT(s:Av)(w:World)(t:TM)(a:Array Value):Prop:=a.size=t.n/\(∀i x,t.sl.get i=some x->∃v,a[i]? =some v/\RV s w x v)/\∀g l,t.gl.get g=some l->RC s w l g 0
theorem RT.mono'{s s':Av}{w w':World}(hs:s.Sub s')(hk:Er s w w'){t:TM}{a:Array Value}(h:RT s w t a):RT s' w' t a:=
 ⟨h.1,λi x hx=>let ⟨v,hv,hr⟩:=h.2.1 i x hx;⟨v,hv,RV.mono' hs hk x v hr⟩,λg l hg=>RC.mono' hs.fz hk l g 0 (h.2.2 g l hg)⟩
theorem RT.mono{s s':Av}{w w':World}(hs:s.Le s')(hk:Er s w w'){t:TM}{a:Array Value}(h:RT s w t a):RT s' w' t a:=h.mono' hs.toSub hk
theorem RT.put{s:Av}{w:World}{t:TM}{a:Act}(h:RT s w t a.tmps){d:Option Nat}{x:V}{v:Value}(hx:RV s w x v):RT s w (t.put d x) (a.put d v).tmps:=by
 cases d with
 |none=>exact h
 | some i =>
  rw[TM.put_some]
  unfold Act.put
  cases hb:Nat.blt i t.n with
  | false =>
   dsimp only
   rw[cond_false]
   refine⟨by simp[h.1],λj y hy=>?_,h.2.2⟩
   obtain⟨u,hu,hr⟩:=h.2.1 j y hy
   have hge: ¬i<a.tmps.size:=by
    intro hlt
    rw[h.1]at hlt
    have:Nat.blt i t.n=true:=aU hlt
    rw[hb]at this;cases this
   grind
  | true =>
   dsimp only
   rw[cond_true]
   have hlt:i<a.tmps.size:=by rw[h.1];exact aI hb
   refine⟨by simp[h.1],λj y hy=>?_,h.2.2⟩
   simp only[T.get_put]at hy
   split at hy
   .simp_all
   .rename_i e
    obtain⟨u,hu,hr⟩:=h.2.1 j y hy
    grind
def RO(s:Av)(w:World):O->Nat->Prop
 | .row t sp c,h=>∃vs rest,w.heap[s.μ h]? =some (.cells (vs++rest).toArray t (0,0))/\RL s w c vs/\(sp=none->rest=[])/\∀n,sp=some n->(vs++rest).length=s.cp h*n
 | .map es ck,h=>∃arr,w.heap[s.μ h]? =some (.map arr ck)/\RE s w es arr.toList
 | .iter m since seen last,h=>(∀g,m=some g->s.dom g)/\w.heap[s.μ h]? =some (.mapIter (m.map s.μ) since seen.toArray last)
 | .loop st pend fw tm ps assign body,h=>∃tmps d fn,(∀f,fw=f+1->fn=f)/\w.heap[s.μ h]? =some (.loop {state:=st,pending:=pend,fn,tmps,params:=ps.toArray,assign,body,defers:=d})/\RT s w tm tmps
 | .dead,_=>True
theorem RO.mono'{s s':Av}{w w':World}(hs:s.Sub s')(hk:Er s w w'){o:O}{h:Nat}(hd:s.dom h)(ho:RO s w o h)(hb:o.live=true->w'.heap[s.μ h]? =w.heap[s.μ h]?):RO s' w' o h:=by
 cases o with
 |row t full c=>obtain⟨vs,rest,h1,h2,h3,h4⟩:=ho;exact⟨vs,rest,by rw[hs.μ _ hd];exact(hb rfl).trans h1,RL.mono' hs hk _ _ h2,h3,by rw[hs.cp _ hd];exact h4⟩
 |map es ck=>obtain⟨arr,h1,h2⟩:=ho;exact⟨arr,by rw[hs.μ _ hd];exact(hb rfl).trans h1,RE.mono' hs hk _ _ h2⟩
 | iter m since seen last =>
  obtain⟨h0,h1⟩:=ho
  have e:m.map s'.μ=m.map s.μ:=by
   cases m with
   |none=>rfl
   |some g=>simp[hs.μ g (h0 g rfl)]
  exact⟨λg hg=>hs.dom g (h0 g hg),by rw[hs.μ _ hd,e];exact(hb rfl).trans h1⟩
 |loop st pend fn tm ps assign body=>obtain⟨tmps,d,fn',h0,h1,h2⟩:=ho;exact⟨tmps,d,fn',h0,by rw[hs.μ _ hd];exact(hb rfl).trans h1,h2.mono' hs hk⟩
 |dead=>trivial
theorem RO.mono{s s':Av}{w w':World}(hs:s.Le s')(hk:Er s w w'){o:O}{h:Nat}(hd:s.dom h)(ho:RO s w o h)(hb:o.live=true->w'.heap[s.μ h]? =w.heap[s.μ h]?):RO s' w' o h:=RO.mono' hs.toSub hk hd ho hb
structure RH(s:Av)(w:World)(H:Nat->Option O):Prop where
 obj: ∀h o,H h=some o->o.live=true->s.dom h/\s.μ h<w.heap.size/\¬s.pr (s.μ h)/\RO s w o h
 inj: ∀h h' o o',H h=some o->H h'=some o'->o.live=true->o'.live=true->s.μ h=s.μ h'->h=h'
 old: ∀b,s.pr b->b<w.heap.size
structure TI where
 desc:TypeDesc
 size:Nat
 bytes:Nat
 agg:Bool
 zero:Option (List V)
structure Ca where
 ty:Nat->Option TI
 flat:Nat->Option (List Bool)
def Lk:List Bool->List Value->List Value->Bool
 |[],[],[]=>true
 |true::ks,.int k _::xs,.int k' _::ys=>(k==k')&&Lk ks xs ys
 |false::ks,.bool _::xs,.bool _::ys=>Lk ks xs ys
 | _,_,_=>false
def zv(agg:Bool)(z:List V):V:=bif agg then .agg z else z.headD .nilp
structure Ca.Ok(G:Ca)(P:Program):Prop where
 ty: ∀t i,G.ty t=some i->∃f,P.info? t=some f/\P.underlying t=some i.desc/\f.size=i.size/\f.bytes=i.bytes/\
  i.agg=(match i.desc with| .struct _| .array _ _=>true| _=>false)/\∀z,i.zero=some z->∃v,f.zero=some v/\v.cells.size=f.size/\(∀s w,RL s w z v.cells.toList)/\∀s w,RV s w (zv i.agg z) v
 flat: ∀t ks,G.flat t=some ks->∀(xs ys:Array Value)(w:World),Lk ks xs.toList ys.toList=true->
  P.eqGuardType P.depth t=false/\∃b:Bool,(Op.equal t (.agg xs) (.agg ys)).run P w= .ok b w/\(b=true↔xs.toList=ys.toList)
 keyed: ∀t ks,G.flat t=some ks->∀(b:Bool)(xs:Array Value)(w:World),Lk ks xs.toList xs.toList=true->(Instr.checkKey b 10000 t (.agg xs)).run P w= .ok () w
def Iz:Value->Option V
 | .bool b=>some (.bool b)
 | .int k n=>some (.int k n)
 | .string s=>some (.str s)
 | .pointer none=>some .nilp
 | .slice none 0 0=>some .nils
 | .map none=>some .nilm
 | .nilFunc=>some .nilf
 | .nilIface=>some .nili
 | _=>none
def Fv:List Value->Option (List V)
 |[]=>some []
 |v::vs=>match Iz v,Fv vs with
  |some x,some xs=>some (x::xs)
  | _,_=>none
def Nw:Value->Option V
 | .agg l=>(Fv l.toList).map .agg
 | .tuple l=>(Fv l.toList).map .tup
 |v=>Iz v
theorem Ga{s:Av}{w:World}{v:Value}{x:V}(h:Iz v=some x):RV s w x v:=by
 unfold Iz at h
 split at h<;>first|(cases h;rfl)|cases h
theorem E3{s:Av}{w:World}: ∀{l:List Value}{xs:List V},Fv l=some xs->RL s w xs l
 |[],_,h=>by cases h;rfl
 |v::vs,xs,h=>by
  unfold Fv at h
  split at h
  .rename_i x ys h1 h2;cases h;exact⟨v,vs,rfl,Ga h1,E3 h2⟩
  .cases h
theorem Sn{s:Av}{w:World}{v:Value}{x:V}(h:Nw v=some x):RV s w x v:=by
 unfold Nw at h
 split at h
 .rename_i l
  cases hl:Fv l.toList with
  |none=>simp[hl]at h
  |some xs=>simp[hl]at h;subst h;exact⟨l,rfl,E3 hl⟩
 .rename_i l
  cases hl:Fv l.toList with
  |none=>simp[hl]at h
  |some xs=>simp[hl]at h;subst h;exact⟨l,rfl,E3 hl⟩
 .exact Ga h
def ev(tm:TM):Operand->Option V
 | .tmp t=>tm.sl.get t
 | .const v=>Nw v
 | .func f=>some (.fn f [])
 | .global g=>match tm.gl.get g with
  |some l=>some (.imp l)
  |none=>none
theorem Bb{s:Av}{w:World}{tm:TM}{a:Act}(h:RT s w tm a.tmps){o:Operand}{x:V}(hx:ev tm o=some x):RV s w x (a.eval o):=by
 cases o with
 |tmp t=>
  obtain⟨v,hv,hr⟩:=h.2.1 t x hx
  simp_all[Act.eval]
 |const v=>exact Sn hx
 |func f=>cases hx;exact⟨#[],rfl,rfl⟩
 |global g=>
  simp only[ev]at hx
  cases hl:tm.gl.get g with
  |none=>simp_all
  |some l=>rw[hl]at hx;cases hx;exact⟨g,0,rfl,h.2.2 g l hl⟩
def lo:IntKind->Int
 | .i8=> -128| .i16=> -32768| .i32=> -2147483648| .i64=> -9223372036854775808| _=>0
def hi:IntKind->Int
 | .i8=>127| .i16=>32767| .i32=>2147483647| .i64=>9223372036854775807| .u8=>255| .u16=>65535| .u32=>4294967295| .u64=>18446744073709551615
def NE:IntKind->Int
 | .i8| .u8=>256| .i16| .u16=>65536| .i32| .u32=>4294967296| .i64| .u64=>2^64
def wr(k:IntKind)(n:Int):Int:=if lo k<=n/\n<=hi k then n else(n-lo k)%NE k+lo k
theorem Ww(k:IntKind)(n:Int):k.wrap n=(n-lo k)%NE k+lo k:=by
 unfold IntKind.wrap
 by_cases h:n%(2^k.bits:Int)≥(2^(k.bits-1):Int)
 .simp only[h,decide_true,Bool.and_true]
  cases k<;>simp[IntKind.bits,IntKind.signed]at h⊢<;>simp[lo,NE]<;>omega
 .simp only[h,decide_false,Bool.and_false,Bool.false_eq_true,if_false]
  cases k<;>simp[IntKind.bits]at h⊢<;>simp[lo,NE]<;>omega
theorem Fh(k:IntKind)(n:Int):wr k n=k.wrap n:=by
 rw[Ww]
 unfold wr
 split
 .rename_i h;cases k<;>simp[lo,hi,NE]at h⊢<;>omega
 .rfl
theorem Vu{k:IntKind}{n:Int}(h1:lo k<=n)(h2:n<=hi k):wr k n=n:=if_pos ⟨h1,h2⟩
def N9(op:BinOp)(k:IntKind)(x y:Int):Option V:=
 match op with
 | .and=>some (.int k (k.wrap (BitVec.ofInt k.bits x&&& BitVec.ofInt k.bits y).toNat))
 | .or=>some (.int k (k.wrap (BitVec.ofInt k.bits x|||BitVec.ofInt k.bits y).toNat))
 | .xor=>some (.int k (k.wrap (BitVec.ofInt k.bits x^^^BitVec.ofInt k.bits y).toNat))
 | .andNot=>some (.int k (k.wrap (BitVec.ofInt k.bits x&&& ~~~BitVec.ofInt k.bits y).toNat))
 | _=>none
def Lx(op:BinOp)(k:IntKind)(x:Int)(k':IntKind)(y:Int):Option V:=
 match op with
 | .shl=>if y<0 then none else some (.int k (wr k (x*((2^min y.toNat k.bits:Nat):Int))))
 | .shr=>if y<0 then none else some (.int k (x.fdiv ((2^min y.toNat k.bits:Nat):Int)))
 | .add=>if k=k' then some (.int k (wr k (x+y)))else none
 | .sub=>if k=k' then some (.int k (wr k (x-y)))else none
 | .mul=>if k=k' then some (.int k (wr k (x*y)))else none
 | .quo=>if k=k' then(if y=0 then none else some (.int k (wr k (x.tdiv y))))else none
 | .rem=>if k=k' then(if y=0 then none else some (.int k (x.tmod y)))else none
 | .and| .or| .xor| .andNot=>if k=k' then N9 op k x y else none
 | .eql=>if k=k' then some (.bool (x==y))else none
 | .neq=>if k=k' then some (.bool (x != y))else none
 | .lss=>if k=k' then some (.bool (decide (x<y)))else none
 | .leq=>if k=k' then some (.bool (decide (x<=y)))else none
 | .gtr=>if k=k' then some (.bool (decide (x>y)))else none
 | .geq=>if k=k' then some (.bool (decide (x≥y)))else none
theorem xJ{P:Program}{op:BinOp}{k:IntKind}{a b:Int}{x:V}(h:N9 op k a b=some x): ∃v,(∀s w,RV s w x v)/\∀w,(Op.intBits op k a b).run P w= .ok v w:=by
 unfold N9 at h
 split at h<;>first|(cases h;exact⟨_,λ_ _=>rfl,λw=>rfl⟩)|cases h
theorem Y9{P:Program}{op:BinOp}{k k':IntKind}{a b:Int}{x:V}(h:Lx op k a k' b=some x)(t:TypeId): ∃v,(∀s w,RV s w x v)/\∀w,(binOp op t (.int k a) (.int k' b)).run P w= .ok v w:=by
  cases op<;>simp only[Lx]at h
  case shl=>
    split at h
    . cases h
    . rename_i hy
      cases h
      refine⟨_,λ_ _=>rfl,λw=>?_⟩
      simp_all[binOp,Op.shift,if_neg,Fh]
  case shr=>
    split at h
    . cases h
    . rename_i hy
      cases h
      refine⟨_,λ_ _=>rfl,λw=>?_⟩
      simp_all[binOp,Op.shift,if_neg]
  all_goals
    split at h
    . rename_i hk
      subst hk
      first
        |(cases h;refine⟨_,λ_ _=>rfl,λw=>?_⟩;simp[binOp,Op.intArith,Op.intCmp,Fh,pure];done)
        | (split at h
           . cases h
           . rename_i hy
             cases h
             refine⟨_,λ_ _=>rfl,λw=>?_⟩
             simp[binOp,Op.intDiv,hy,Fh,pure];done)
        | (obtain ⟨v, h1, h2⟩ := xJ (P := P) h
           exact⟨v,h1,λw=>by simp[binOp,h2]⟩)
    . cases h
section
variable {P:Program} {G:Ca} (hG:G.Ok P)
include hG
theorem Ca.Ok.und{t:Nat}{i:TI}(h:G.ty t=some i)(w:World):(underlying t).run P w= .ok i.desc w:=by
 obtain⟨f,_,h2,_⟩:=hG.ty t i h
 grind[run_underlying]
theorem Ca.Ok.sz{t:Nat}{i:TI}(h:G.ty t=some i)(w:World):(sizeOf t).run P w= .ok i.size w:=by
 obtain⟨f,h1,_,h3,_⟩:=hG.ty t i h
 simp_all[sizeOf,typeInfo]
theorem Ca.Ok.agg{t:Nat}{i:TI}(h:G.ty t=some i)(w:World):(isAgg t).run P w= .ok i.agg w:=by
 obtain⟨f,h1,h2,h3,h4,h5,_⟩:=hG.ty t i h
 have:=run_underlying h2 w
 rw[h5]
 simp only[isAgg,Sem.run_bind,this,Result.andThen_ok]
 cases i.desc<;>rfl
end
theorem Nd(b off j:Nat):(⟨b,off,none⟩:Addr).add j=⟨b,off+j,none⟩:=by
 grind[Addr.add]
def UV:UnOp->V->Option V
 | .not,.bool b=>some (.bool !b)
 | .neg,.int k n=>some (.int k (wr k (0-n)))
 | .xor,.int k n=>N9 .xor k (if k.signed then -1 else k.max) n
 | _,_=>none
theorem FA{P:Program}{op:UnOp}{x y:V}(h:UV op x=some y){s:Av}{w:World}{u:Value}(hx:RV s w x u): ∃v,RV s w y v/\∀w',(Op.unary op u).run P w'= .ok v w':=by
 unfold UV at h
 split at h
 .cases h;cases hx;exact⟨_,rfl,λ_=>rfl⟩
 .cases h;cases hx;exact⟨_,rfl,λ_=>by simp_all[Op.unary,Op.intArith,Fh]⟩
 .cases hx
  obtain⟨v,h1,h2⟩:=xJ (P:=P) h
  exact⟨v,h1 s w,λw'=>h2 w'⟩
 .cases h
def E4(i:TI)(c:List V):Option V:=
 bif i.agg then(bif Nat.ble i.size c.length then some (.agg (c.take i.size))else none)else c[0]?
theorem oU{P:Program}{G:Ca}(hG:G.Ok P){t:Nat}{i:TI}(ht:G.ty t=some i){s:Av}{w:World}{c:List V}{vs:List Value}(hc:RL s w c vs){x:V}(h:E4 i c=some x):
  ∃v,RV s w x v/\∀(w':World)(b off:Nat),(∀(j:Nat) u,vs[j]? =some u->w'.cell? ⟨b,off+j,none⟩=some u)->(Instr.loadAt t (.pointer (some ⟨b,off,none⟩))).run P w'= .ok v w':=by
 unfold E4 at h
 cases ha:i.agg with
 | true =>
  rw[ha,cond_true]at h
  cases hb:Nat.ble i.size c.length with
  |false=>simp_all
  | true =>
   rw[hb]at h;cases h
   have hle:=aI hb
   refine⟨.agg (vs.take i.size).toArray,⟨_,rfl,by simpa using hc.take i.size⟩,λw' b off hcell=>?_⟩
   have hl:(vs.take i.size).length=i.size:=by rw[fM,<-hc.length];omega
   have hcs:=run_loadCells_list (P:=P) w' ⟨b,off,none⟩ (vs.take i.size) (λj v hv=>by
    grind[Nd])
   rw[hl]at hcs
   simp[Instr.loadAt,Instr.sureAddr,loadVar,hG.agg ht,ha,hG.sz ht,hcs]
 |false=>
  rw[ha,cond_false]at h
  obtain⟨v,hv,hr⟩:=hc.get h
  refine⟨v,hr,λw' b off hcell=>?_⟩
  have:=hcell 0 v hv
  rw[dE]at this
  simp[Instr.loadAt,Instr.sureAddr,loadVar,hG.agg ht,ha,this]
def WV:V->Nat->Option V
 | .ptr h o,n=>some (.ptr h (o+n))
 | .imp l,n=>some (.imp (l.drop n))
 | _,_=>none
theorem yT{s:Av}{w:World}{x y:V}{n:Nat}{u:Value}(hx:RV s w x u)(h:WV x n=some y): ∃b off,u= .pointer (some ⟨b,off,none⟩)/\RV s w y (.pointer (some ((⟨b,off,none⟩:Addr).add n))):=by
 unfold WV at h
 split at h
 .cases h;obtain⟨hd,rfl⟩:=hx;exact⟨_,_,rfl,hd,by rw[Nd]⟩
 .cases h;obtain⟨b,off,rfl,hl⟩:=hx;exact⟨_,_,rfl,b,off+n,by rw[Nd],hl.drop n⟩
 .cases h
def Ku(G:Ca)(t:Nat)(f:Nat)(x:V):Option V:=
 match G.ty t with
 | some { desc := .struct fields, .. } => match fields[f]? with
  |some fd=>match G.ty fd.type with
   |some ti=>bif Nat.beq ti.size 0 then none else WV x fd.offset
   |none=>none
  |none=>none
 | _=>none
theorem ZB{a b:Nat}(h:Nat.beq a b=false):a≠b:=λe=>by simp_all
theorem ip{P:Program}{G:Ca}(hG:G.Ok P){t f:Nat}{x y:V}{s:Av}{w:World}{u:Value}(hx:RV s w x u)(h:Ku G t f x=some y):
  ∃v,RV s w y v/\∀w',(Instr.fieldAt t u f).run P w'= .ok v w':=by
 unfold Ku at h
 split at h
 .rename_i fields _ _ _ _ ht
  split at h
  .rename_i fd hfd
   split at h
   .rename_i ti hti
    cases hb:Nat.beq ti.size 0 with
    |true=>simp_all
    |false=>
     rw[hb,cond_false]at h
     obtain⟨b,off,rfl,hr⟩:=yT hx h
     refine⟨_,hr,λw'=>?_⟩
     simp[Instr.fieldAt,hG.und ht,hfd,Instr.sureAddr,fieldPlace,hG.sz hti,ZB hb]
   .cases h
  .cases h
 .cases h
def Gs(G:Ca)(t:Nat)(x:V)(n:Int):Option V:=
 match G.ty t with
 |some {desc:=.array len elem,.. }=>match G.ty elem with
  |some ti=>if 0<=n/\n<len then WV x (n.toNat*ti.size)else none
  |none=>none
 | some { desc := .slice elem, .. } => match G.ty elem with
  |some ti=>match x with
   | .sl h off len _=>if 0<=n/\n<len then some (.ptr h (off+n.toNat*ti.size))else none
   | .im m l=>if 0<=n/\n<m then some (.imp (l.drop (n.toNat*ti.size)))else none
   | _=>none
  |none=>none
 | _=>none
theorem gw{P:Program}{G:Ca}(hG:G.Ok P){t:Nat}{x y:V}{n:Int}{k:IntKind}{s:Av}{w:World}{u:Value}(hx:RV s w x u)(h:Gs G t x n=some y):
  ∃v,RV s w y v/\∀w',(Instr.indexAt t u (.int k n)).run P w'= .ok v w':=by
 unfold Gs at h
 split at h
 .rename_i len elem _ _ _ _ ht
  split at h
  .rename_i ti hti
   split at h
   .rename_i hn
    obtain⟨b,off,rfl,hr⟩:=yT hx h
    refine⟨_,hr,λw'=>?_⟩
    simp[Instr.indexAt,asIntOf,hG.und ht,Instr.sureAddr,hn,hG.sz hti,pure,Sem.run]
   .cases h
  .cases h
 .rename_i elem _ _ _ _ ht
  split at h
  .rename_i ti hti
   split at h
   .split at h
    .rename_i hn
     cases h
     obtain⟨hd,cap,rfl,_,_⟩:=hx
     refine⟨_,⟨hd,rfl⟩,λw'=>?_⟩
     simp[Instr.indexAt,asIntOf,hG.und ht,hn,hG.sz hti,Nd]
    .cases h
   .split at h
    .rename_i hn
     cases h
     obtain⟨a,cap,rfl,_,hl⟩:=hx
     obtain⟨b,off,rfl,hl'⟩:=hl o_
     refine⟨_,⟨b,_,rfl,hl'.drop _⟩,λw'=>?_⟩
     simp[Instr.indexAt,asIntOf,hG.und ht,hn,hG.sz hti,Nd]
    .cases h
   .cases h
  .cases h
 .cases h
def Nt(G:Ca)(t:Nat)(c:List V)(off:Nat):Option V:=
 match G.ty t with
 |some ti=>bif ti.agg then(bif Nat.ble (off+ti.size) c.length then some (.agg ((c.drop off).take ti.size))else none)else c[off]?
 |none=>none
theorem yN{P:Program}{G:Ca}(hG:G.Ok P){t off:Nat}{c:List V}{y:V}{s:Av}{w:World}{vs:Array Value}(hc:RL s w c vs.toList)(h:Nt G t c off=some y):
  ∃v,RV s w y v/\∀w',(part t vs off).run P w'= .ok v w':=by
 unfold Nt at h
 split at h
 .rename_i ti hti
  cases ha:ti.agg with
  | true =>
   rw[ha,cond_true]at h
   cases hb:Nat.ble (off+ti.size) c.length with
   |false=>simp_all
   | true =>
    rw[hb]at h;cases h
    refine⟨.agg (vs.extract off (off+ti.size)),⟨_,rfl,?_⟩,λw'=>?_⟩
    .have:=(hc.drop off).take ti.size
     simp_all
    .simp[part,hG.agg hti,ha,hG.sz hti]
  |false=>
   rw[ha,cond_false]at h
   obtain⟨v,hv,hr⟩:=hc.get h
   refine⟨v,hr,λw'=>?_⟩
   have:vs[off]? =some v:=by simpa using hv
   simp[part,hG.agg hti,ha,this]
 .cases h
def Jw(G:Ca)(t:Nat)(x:V)(n:Int):Option V:=
 match G.ty t,x with
 |some {desc:=.array len elem,.. },.agg c=>match G.ty elem with
  |some ti=>if 0<=n/\n<len then Nt G elem c (n.toNat*ti.size)else none
  |none=>none
 | _,_=>none
theorem Tv{P:Program}{G:Ca}(hG:G.Ok P){t:Nat}{x y:V}{n:Int}{k:IntKind}{s:Av}{w:World}{u:Value}(hx:RV s w x u)(h:Jw G t x n=some y):
  ∃v,RV s w y v/\∀w',(Instr.index t u (.int k n)).run P w'= .ok v w':=by
 unfold Jw at h
 split at h
 .rename_i len elem _ _ _ _ c ht
  split at h
  .rename_i ti hti
   split at h
   .rename_i hn
    obtain⟨vs,rfl,hc⟩:=hx
    obtain⟨v,hv,hr⟩:=yN hG hc h
    refine⟨v,hv,λw'=>?_⟩
    simp[Instr.index,asIntOf,hG.und ht,hn,hG.sz hti,hr]
   .cases h
  .cases h
 .cases h
def Zg(G:Ca)(t f:Nat)(x:V):Option V:=
 match G.ty t,x with
 |some {desc:=.struct fields,.. },.agg c=>match fields[f]? with
  |some fd=>Nt G fd.type c fd.offset
  |none=>none
 | _,_=>none
theorem T9{P:Program}{G:Ca}(hG:G.Ok P){t f:Nat}{x y:V}{s:Av}{w:World}{u:Value}(hx:RV s w x u)(h:Zg G t f x=some y):
  ∃v,RV s w y v/\∀w',(Instr.field t u f).run P w'= .ok v w':=by
 unfold Zg at h
 split at h
 .rename_i fields _ _ _ _ c ht
  split at h
  .rename_i fd hfd
   obtain⟨vs,rfl,hc⟩:=hx
   obtain⟨v,hv,hr⟩:=yN hG hc h
   refine⟨v,hv,λw'=>?_⟩
   simp[Instr.field,hG.und ht,hfd,asAgg,hr]
  .cases h
 .cases h
def Zm(x:V)(i:Nat):Option V:=
 match x with
 | .tup l=>l[i]?
 | _=>none
theorem Ui{P:Program}{i:Nat}{x y:V}{s:Av}{w:World}{u:Value}(hx:RV s w x u)(h:Zm x i=some y):
  ∃v,RV s w y v/\∀w',(Instr.extract u i).run P w'= .ok v w':=by
 unfold Zm at h
 split at h
 .obtain⟨vs,rfl,hc⟩:=hx
  obtain⟨v,hv,hr⟩:=hc.get h
  simp_all[Instr.extract]
 .cases h
def OI:Option Value->Option Int->Prop
 |none,none=>True
 |some (.int _ a),some b=>a=b
 | _,_=>False
theorem fp{P:Program}{k:IntKind}{n:Int}{y:Nat}{c:BoundsCode}(h0:0<=n)(h1:n<=y)(w:World):(Instr.sliceBound (.int k n) y c).run P w= .ok n.toNat w:=by
 simp_all[Instr.sliceBound,asIntOf]
theorem OI.cases{v:Option Value}{n:Option Int}(h:OI v n):(v=none/\n=none)\/∃k a,v=some (.int k a)/\n=some a:=by
 unfold OI at h
 grind
theorem zJ{P:Program}{low high max:Option Value}{l h m:Option Int}(hl:OI low l)(hh:OI high h)(hm:OI max m){len cap:Nat}(hmh:m.isSome=true→h.isSome=true)
  (h0:0≤l.getD 0)(h1:l.getD 0≤h.getD len)(h2:h.getD len≤m.getD cap)(h3:m.getD cap≤cap)(b:Bool)(w:World):
  (Instr.sliceBounds b len cap low high max).run P w= .ok ((l.getD 0).toNat,(h.getD len).toNat,(m.getD cap).toNat) w:=by
 rcases hl.cases with⟨rfl,rfl⟩|⟨_,_,rfl,rfl⟩<;>rcases hh.cases with⟨rfl,rfl⟩|⟨_,_,rfl,rfl⟩<;>rcases hm.cases with⟨rfl,rfl⟩|⟨_,_,rfl,rfl⟩<;>
  simp only[dU,dG,Option.isSome_some,Option.isSome_none,Bool.false_eq_true,imp_false,not_true,true_imp_iff]at h0 h1 h2 h3 hmh<;>
  (try exact hmh.elim)<;>
  simp only[Instr.sliceBounds,Sem.run_bind,Sem.run_pure,Result.andThen_ok,dU,dG]<;>
  (repeat rw[fp (by omega) (by omega),Result.andThen_ok])<;>simp
def Ce(G:Ca)(t:Nat)(x:V)(l hi mx:Option Int):Option V:=
 match G.ty t with
 | some { desc := .array n elem, .. } => match G.ty elem with
  |some _=>match x with
   | .ptr h off=>if l=none/\mx=none/\0<=hi.getD n/\hi.getD n<=n then some (.sl h off (hi.getD n).toNat (some (n-(hi.getD n).toNat)))else none
   | _=>none
  |none=>none
 | some { desc := .slice elem, .. } => match G.ty elem with
  | some ti => match x with
   | .sl h off len room=>
    let lo:=l.getD 0
    let hh:=hi.getD len
    let mm:=mx.getD (len+room.getD 0)
    if 0<=lo/\lo<=hh/\hh<=mm/\mm<=len+room.getD 0/\(mx.isSome=true->hi.isSome=true)then
     bif mx.isNone&&room.isNone then(if lo=hh then some (.im 0 [])else if lo=0\/ti.size≠0 then some (.sl h (off+lo.toNat*ti.size) (hh.toNat-lo.toNat) none)else none)
     else some (.sl h (if lo=mm then off else off+lo.toNat*ti.size) (hh.toNat-lo.toNat) (some (mm.toNat-hh.toNat)))
    else none
   | .im n c=>
    let lo:=l.getD 0
    let hh:=hi.getD n
    if 0<=lo/\lo<=hh/\hh<=n/\mx.isNone=true then some (if lo=hh then .im 0 []else .im (hh.toNat-lo.toNat) ((c.drop (lo.toNat*ti.size)).take ((hh.toNat-lo.toNat)*ti.size)))else none
   | .nils=>if l.getD 0=0/\hi.getD 0=0/\mx.isNone=true then some .nils else none
   | _=>none
  |none=>none
 | _=>none
theorem gj{P:Program}{G:Ca}(hG:G.Ok P){t:Nat}{x y:V}{l hi mx:Option Int}{lv hv mv:Option Value}(hlv:OI lv l)(hhv:OI hv hi)(hmv:OI mv mx){s:Av}{w:World}{u:Value}(hx:RV s w x u)(h:Ce G t x l hi mx=some y):
  ∃v,RV s w y v/\∀w',(Instr.sliceAt t u lv hv mv).run P w'= .ok v w':=by
 unfold Ce at h
 split at h
 .rename_i n elem _ _ _ _ ht
  split at h
  .rename_i ti hti
   split at h
   .rename_i hd off
    split at h
    .rename_i hc
     obtain⟨rfl,rfl,h1,h2⟩:=hc
     cases h
     obtain⟨hdom,rfl⟩:=hx
     refine⟨.slice (some ⟨s.μ hd,off,none⟩) (hi.getD n).toNat n,⟨hdom,n,rfl,o_,λr hr=>by cases hr;omega,λh=>by cases h⟩,λw'=>?_⟩
     have hb:=zJ (P:=P) hlv hhv hmv (len:=n) (cap:=n) s_ s_ h1 h2 s_ false w'
     simp only[dG,Int.toNat_zero,cS]at hb
     simp only[Instr.sliceAt,Sem.run_bind,hG.und ht,Result.andThen_ok,Instr.sureAddr,Sem.run_pure,hb,hG.sz hti,Nat.zero_mul,cO]
     grind[Addr.add]
    .cases h
   .cases h
  .cases h
 .rename_i elem _ _ _ _ ht
  split at h
  .rename_i ti hti
   have key: ∀(a:Option Addr)(len cap:Nat)(w':World),(mx.isSome=true->hi.isSome=true)->0<=l.getD 0->l.getD 0<=hi.getD len->hi.getD len<=mx.getD cap->mx.getD cap<=cap->
     (Instr.sliceAt t (.slice a len cap) lv hv mv).run P w'= .ok (.slice (if(mx.getD cap).toNat=(l.getD 0).toNat then a else a.map (·.add ((l.getD 0).toNat*ti.size))) ((hi.getD len).toNat-(l.getD 0).toNat) ((mx.getD cap).toNat-(l.getD 0).toNat)) w':=by
    intro a len cap w' h0 h1 h2 h3 h4
    simp only[Instr.sliceAt,Instr.slice,Sem.run_bind,hG.und ht,Result.andThen_ok,zJ hlv hhv hmv h0 h1 h2 h3 h4,hG.sz hti,Sem.run_pure]
   split at h
   .rename_i hd off len room
    obtain⟨hdom,cap,rfl,hcap,hroom,hcp⟩:=hx
    dsimp only at h
    split at h
    .rename_i hc
     obtain⟨c0,c1,c2,c3,c4⟩:=hc
     cases hmr:(mx.isNone&&room.isNone)with
     | true =>
      rw[hmr,cond_true]at h
      simp only[aD,Option.isNone_iff_eq_none]at hmr
      obtain⟨rfl,rfl⟩:=hmr
      simp only[dG,Int.natCast_zero,Int.add_zero]at c2 c3 key
      refine⟨_,?_,λw'=>key _ _ _ _ s_ c0 c1 o_ s_⟩
      split at h
      .cases h
       exact⟨_,_,by rw[show(hi.getD len).toNat-(l.getD 0).toNat=0 by omega],aG _,λh=>absurd rfl h⟩
      .split at h
       .rename_i hlo
        cases h
        refine⟨hdom,cap-(l.getD 0).toNat,?_,o_,λr hr=>(by cases hr),λ_ h0=>?_⟩
        all_goals grind[Nd,Nat.mul_eq_zero]
       .cases h
     | false =>
      rw[hmr,cond_false]at h
      cases h
      have hce:mx.getD (cap:Int)<=cap/\mx.getD (cap:Int)=mx.getD ((len:Int)+(room.getD 0:Nat)):=by
       cases room with
       |some r=>simp_all
       |none=>cases mx with
        |none=>simp at hmr
        |some m=>grind
      refine⟨_,?_,λw'=>key _ _ _ _ c4 c0 c1 o_ hce.1⟩
      rw[hce.2]
      refine⟨hdom,(mx.getD ((len:Int)+(room.getD 0:Nat))).toNat-(l.getD 0).toNat,?_,?_,λr hr=>?_,λh=>(by cases h)⟩
      all_goals grind[Nd]
    .cases h
   .rename_i n c
    obtain⟨a,cap,rfl,hcap,hl⟩:=hx
    dsimp only at h
    split at h
    .rename_i hc
     obtain⟨c0,c1,c2,c4⟩:=hc
     rw[Option.isNone_iff_eq_none]at c4
     subst c4
     cases h
     simp only[dG]at key
     refine⟨_,?_,λw'=>key _ _ _ _ s_ c0 c1 o_ s_⟩
     split
     .exact⟨_,_,by rw[show(hi.getD n).toNat-(l.getD 0).toNat=0 by omega],aG _,λh=>absurd rfl h⟩
     .obtain⟨b,off,rfl,hl'⟩:=hl o_
      refine⟨_,_,rfl,by simp;omega,λ_=>⟨b,off+(l.getD 0).toNat*ti.size,?_,(hl'.drop _).take _⟩⟩
      grind[Nd]
    .cases h
   all_goals grind[Option.isNone_iff_eq_none,RV]
  .cases h
 .cases h
def QH:List Bool->List V->List V->Option Bool
 |[],[],[]=>some true
 |true::ks,.int k a::xs,.int k' b::ys=>if k=k' then(match QH ks xs ys with|some r=>some ((a==b)&&r)|none=>none)else none
 |false::ks,.bool a::xs,.bool b::ys=>match QH ks xs ys with|some r=>some ((a==b)&&r)|none=>none
 | _,_,_=>none
theorem Uj{s:Av}{w:World}: ∀{ks:List Bool}{xs ys:List V}{r:Bool}{us vs:List Value},QH ks xs ys=some r→RL s w xs us→RL s w ys vs→Lk ks us vs=true∧(r=true↔us=vs):=by
 intro ks xs ys
 fun_induction QH ks xs ys with
 |case1=>
  intro r us vs h h1 h2
  cases h;cases h1;cases h2;simp[Lk]
 |case2 ks xs a ys k b r' hr ih=>
  intro r us vs h h1 h2
  cases h
  obtain⟨u,us',rfl,hu,h1⟩:=h1
  obtain⟨v,vs',rfl,hv,h2⟩:=h2
  cases hu;cases hv
  grind[Lk]
 |case3=>simp
 |case4=>simp
 |case5 ks a xs b ys r' hr ih=>
  intro r us vs h h1 h2
  cases h
  obtain⟨u,us',rfl,hu,h1⟩:=h1
  obtain⟨v,vs',rfl,hv,h2⟩:=h2
  cases hu;cases hv
  grind[Lk]
 |case6=>simp
 |case7=>simp
def Ks(G:Ca)(t:Nat):Bool:=match G.ty t with|some {desc:=.bool,.. }=>true| _=>false
def Gb(G:Ca)(t:Nat):Bool:=match G.ty t with|some {desc:=.slice _,.. }=>true| _=>false
def I6(G:Ca)(t:Nat):Bool:=match G.ty t with|some {desc:=.func ..,.. }=>true| _=>false
def Lv(G:Ca)(t:Nat):Bool:=match G.ty t with|some {desc:=.map ..,.. }=>true| _=>false
def Lw(G:Ca)(t:Nat):Bool:=match G.ty t with|some {desc:=.interface ms,.. }=>ms.isEmpty| _=>false
def VT(G:Ca)(t:Nat)(x y:V):Option Bool:=
 match x,y with
 | .bool a,.bool b=>bif Ks G t then some (a==b)else none
 | .agg xs,.agg ys=>(match G.flat t with|some ks=>QH ks xs ys|none=>none)
 | .nils,.nils=>bif Gb G t then some true else none
 | .sl ..,.nils| .nils,.sl .. =>bif Gb G t then some false else none
 | .im (_+1) _,.nils| .nils,.im (_+1) _=>bif Gb G t then some false else none
 | .nilf,.nilf=>bif I6 G t then some true else none
 | .fn ..,.nilf| .nilf,.fn .. =>bif I6 G t then some false else none
 | .nilm,.nilm=>bif Lv G t then some true else none
 | .mp _,.nilm| .nilm,.mp _=>bif Lv G t then some false else none
 | .nili,.nili=>bif Lw G t then some true else none
 | .ifc ..,.nili| .nili,.ifc .. =>bif Lw G t then some false else none
 | _,_=>none
theorem eu{P:Program}{G:Ca}(hG:G.Ok P){t:Nat}(h:Ks G t=true)(w:World):(underlying t).run P w= .ok .bool w:=by
 unfold Ks at h
 split at h
 .rename_i ht;exact hG.und ht w
 .cases h
theorem io{P:Program}{G:Ca}(hG:G.Ok P){t:Nat}(h:Gb G t=true): ∃e,∀w,(underlying t).run P w= .ok (.slice e) w:=by
 unfold Gb at h
 split at h
 .rename_i ht;exact⟨_,λw=>hG.und ht w⟩
 .cases h
theorem ep{P:Program}{G:Ca}(hG:G.Ok P){t:Nat}(h:I6 G t=true): ∃a b c,∀w,(underlying t).run P w= .ok (.func a b c) w:=by
 unfold I6 at h
 split at h
 .rename_i ht;exact⟨_,_,_,λw=>hG.und ht w⟩
 .cases h
theorem Tl{P:Program}{G:Ca}(hG:G.Ok P){t:Nat}(h:Lv G t=true): ∃a b,∀w,(underlying t).run P w= .ok (.map a b) w:=by
 unfold Lv at h
 split at h
 .rename_i ht;exact⟨_,_,λw=>hG.und ht w⟩
 .cases h
theorem Tm{P:Program}{G:Ca}(hG:G.Ok P){t:Nat}(h:Lw G t=true): ∃ms,ms.isEmpty=true/\∀w,(underlying t).run P w= .ok (.interface ms) w:=by
 unfold Lw at h
 split at h
 .rename_i ht;exact⟨_,h,λw=>hG.und ht w⟩
 .cases h
theorem TP{P:Program}{t:Nat}{w:World}{u v:Value}{b:Bool}
  (h: ∀n,(Op.equalIn (n+1) t u v).run P w= .ok b w):(Op.equal t u v).run P w= .ok b w:=h 9999
theorem HG{P:Program}{t:Nat}{w:World}{u v:Value}{b:Bool}
  (h: ∀n,(Op.eqGuardIn (n+1) t u v).run P w= .ok b w):(Op.eqGuardIn Op.maxDepth t u v).run P w= .ok b w:=h 9999
theorem uW{P:Program}{G:Ca}(hG:G.Ok P){t:Nat}{x y:V}{b:Bool}(h:VT G t x y=some b){s:Av}{w:World}{u v:Value}(hx:RV s w x u)(hy:RV s w y v)(op:BinOp)(ox oy:Operand):
    ∀w',(Op.equal t u v).run P w'= .ok b w'/\(eqGuard op t ox oy u v).run P w'= .ok () w'/\binOp .eql t u v=(do pure (.bool (<-Op.equal t u v)))/\binOp .neq t u v=(do pure (.bool (!(<-Op.equal t u v)))):=by
  intro w'
  unfold VT at h
  split at h
  . cases hk:Ks G t with
    |false=>simp[hk]at h
    | true =>
      simp only[hk,cond_true,eO]at h;subst h
      cases hx;cases hy
      have hd:=eu hG hk w'
      refine⟨?_,by simp_all[eqGuard],rfl,rfl⟩
      refine TP λn=>?_
      simp[Op.equalIn,hd]
  . rename_i xs ys
    cases hk:G.flat t with
    |none=>simp[hk]at h
    | some ks =>
      simp only[hk]at h
      obtain⟨us,rfl,hu⟩:=hx
      obtain⟨vs,rfl,hv⟩:=hy
      obtain⟨i1,i2⟩:=Uj h hu hv
      obtain⟨hg,b',hb,hbe⟩:=hG.flat t ks hk us vs w' i1
      have:b=b':=by rw[Bool.eq_iff_iff,i2,hbe]
      subst this
      refine⟨hb,?_,rfl,rfl⟩
      simp_all[eqGuard]
  all_goals first
    |cases h;done
    | (cases hk : Gb G t with
       |false=>simp[hk]at h
       | true =>
         simp only[hk,cond_true,eO]at h;subst h
         obtain⟨e,hd⟩:=io hG hk
         have hd:=hd w'
         first|(obtain⟨a,cap,rfl,_,hx⟩:=hx;obtain⟨b',off,rfl,_⟩:=hx (Nat.succ_ne_zero _))|(obtain⟨_,cap,rfl,_⟩:=hx)|(obtain rfl:=hx)
         all_goals first|(obtain⟨a,cap,rfl,_,hy⟩:=hy;obtain⟨b',off,rfl,_⟩:=hy (Nat.succ_ne_zero _))|(obtain⟨_,cap,rfl,_⟩:=hy)|(obtain rfl:=hy)
         all_goals
           refine⟨?_,by cases op<;>simp[eqGuard],rfl,rfl⟩
           refine TP λn=>?_
           simp[Op.equalIn,hd])
    | (cases hk : I6 G t with
       |false=>simp[hk]at h
       | true =>
         simp only[hk,cond_true,eO]at h;subst h
         obtain⟨_,_,_,hd⟩:=ep hG hk
         have hd:=hd w'
         first|(obtain⟨_,rfl,_⟩:=hx)|(obtain rfl:=hx)
         all_goals first|(obtain⟨_,rfl,_⟩:=hy)|(obtain rfl:=hy)
         all_goals
           refine⟨?_,by cases op<;>simp[eqGuard],rfl,rfl⟩
           refine TP λn=>?_
           simp[Op.equalIn,hd])
    | (cases hk : Lv G t with
       |false=>simp[hk]at h
       | true =>
         simp only[hk,cond_true,eO]at h;subst h
         obtain⟨_,_,hd⟩:=Tl hG hk
         have hd:=hd w'
         first|(obtain⟨_,rfl⟩:=hx)|(obtain rfl:=hx)
         all_goals first|(obtain⟨_,rfl⟩:=hy)|(obtain rfl:=hy)
         all_goals
           refine⟨?_,by cases op<;>simp[eqGuard],rfl,rfl⟩
           refine TP λn=>?_
           simp[Op.equalIn,hd])
    | (cases hk : Lw G t with
       |false=>simp[hk]at h
       | true =>
         simp only[hk,cond_true,eO]at h;subst h
         obtain⟨ms,hms,hd⟩:=Tm hG hk
         have hd:=hd w'
         have hgd:(Op.eqGuardIn Op.maxDepth t .nilIface .nilIface).run P w'= .ok false w':=HG λn=>by simp[Op.eqGuardIn,hd,hms]
         first|(obtain⟨_,rfl,_⟩:=hx)|(obtain rfl:=hx)
         all_goals first|(obtain⟨_,rfl,_⟩:=hy)|(obtain rfl:=hy)
         all_goals
           refine⟨?_,by cases op<;>simp[eqGuard,hgd],rfl,rfl⟩
           refine TP λn=>?_
           simp[Op.equalIn,hd])
def B6(G:Ca)(op:BinOp)(t:Nat)(x y:V):Option V:=
 match x,y with
 | .int k a,.int k' b=>Lx op k a k' b
 | _,_=>match op with
  | .eql=>match VT G t x y with|some b=>some (.bool b)|none=>none
  | .neq=>match VT G t x y with|some b=>some (.bool !b)|none=>none
  | _=>none
theorem U6{P:Program}{G:Ca}(hG:G.Ok P){op:BinOp}{t:Nat}{x y z:V}(h:B6 G op t x y=some z){s:Av}{w:World}{u v:Value}(hx:RV s w x u)(hy:RV s w y v)(ox oy:Operand):
  ∃r,RV s w z r/\∀w',((do eqGuard op t ox oy u v;binOp op t u v):Sem Value).run P w'= .ok r w':=by
 unfold B6 at h
 split at h
 .rename_i k a k' b
  obtain rfl:u= .int k a:=hx
  obtain rfl:v= .int k' b:=hy
  obtain⟨r,h1,h2⟩:=Y9 (P:=P) h t
  simp_all[eqGuard]
 .split at h
  .split at h
   .rename_i b hb
    cases h
    refine⟨_,rfl,λw'=>?_⟩
    obtain⟨h1,h2,h3,h4⟩:=uW hG hb hx hy .eql ox oy w'
    simp_all
   .cases h
  .split at h
   .rename_i b hb
    cases h
    refine⟨_,rfl,λw'=>?_⟩
    obtain⟨h1,h2,h3,h4⟩:=uW hG hb hx hy .neq ox oy w'
    simp_all
   .cases h
  .cases h
def Bi:V->List V
 | .agg l=>l
 |v=>[v]
theorem ZA{s:Av}{w:World}{x:V}{v:Value}(h:RV s w x v):RL s w (Bi x) v.cells.toList:=by
 have one: ∀{x:V}{v:Value},RV s w x v->v.cells= #[v]->RL s w [x] v.cells.toList:=λh e=>by rw[e];exact⟨_,[],rfl,h,rfl⟩
 cases x with
 |agg l=>obtain⟨vs,rfl,h⟩:=h;exact h
 |bool|int|str|nilp|nilf|nili|nils|nilm=>obtain rfl:=h;exact one rfl rfl
 |ptr|mp|yld=>obtain⟨hd,rfl⟩:=h;exact one ⟨hd,rfl⟩ rfl
 |sl h off len room=>obtain⟨hd,cap,rfl,h⟩:=h;exact one ⟨hd,cap,rfl,h⟩ rfl
 |fn f c=>obtain⟨vs,rfl,h⟩:=h;exact one ⟨vs,rfl,h⟩ rfl
 |mfn f c=>obtain⟨vs,rfl,h⟩:=h;exact one ⟨vs,rfl,h⟩ rfl
 |tup l=>obtain⟨vs,rfl,h⟩:=h;exact one ⟨vs,rfl,h⟩ rfl
 |ifc t y=>obtain⟨u,rfl,h⟩:=h;exact one ⟨u,rfl,h⟩ rfl
 |im n l=>obtain⟨a,cap,rfl,h⟩:=h;exact one ⟨a,cap,rfl,h⟩ rfl
 |imp l=>obtain⟨b,off,rfl,h⟩:=h;exact one ⟨b,off,rfl,h⟩ rfl
def ov:List V->Nat->List V->List V
 |c,_,[]=>c
 |c,off,x::xs=>ov (c.set off x) (off+1) xs
theorem CG{s:Av}{w:World}(off:Nat): ∀(us:List Value)(k:Nat)(arr:Array Value)(xs c:List V),RL s w c arr.toList->RL s w xs us->
  RL s w (ov c (off+k) xs) ((us.zipIdx k).foldl (λcs(p:Value×Nat)=>cs.setIfInBounds (off+p.2) p.1) arr).toList/\((us.zipIdx k).foldl (λcs(p:Value×Nat)=>cs.setIfInBounds (off+p.2) p.1) arr).size=arr.size
 |[],k,arr,xs,c,h1,h2=>by
  cases xs with
  |nil=>exact⟨h1,rfl⟩
  |cons _ _=>obtain⟨_,_,e,_⟩:=h2;cases e
 | u :: us, k, arr, xs, c, h1, h2 => by
  cases xs with
  |nil=>cases h2
  |cons x xs=>
   obtain⟨_,_,e,hx,h2⟩:=h2
   cases e
   have:=CG off us (k+1) (arr.setIfInBounds (off+k) u) xs (c.set (off+k) x) (by rw[Array.toList_setIfInBounds];exact h1.set _ hx) h2
   simp_all[ov,Nat.add_assoc]
def Kb(place:Nat->Option (Nat×Nat)):List V->List (Nat×V)->Option (List V)
 |c,[]=>some c
 |c,(i,v)::rest=>match place i with
  |some (off,size)=>bif Nat.beq (Bi v).length size&&Nat.ble (off+(Bi v).length) c.length then Kb place (ov c off (Bi v)) rest else none
  |none=>none
def RP(s:Av)(w:World):List (Nat×V)->List (Nat×Value)->Prop
 |[],vs=>vs=[]
 |(i,x)::xs,vs=>∃v vs',vs=(i,v)::vs'/\RV s w x v/\RP s w xs vs'
theorem ZD{s:Av}{w:World}{place place':Nat->Option (Nat×Nat)}(hpl: ∀i p,place i=some p->place' i=some p): ∀{ps:List (Nat×V)}{us:List (Nat×Value)}{c z:List V}{arr:Array Value},RP s w ps us->RL s w c arr.toList->Kb place c ps=some z->
  ∃arr',Instr.fill place' arr us=some arr'/\RL s w z arr'.toList
 |[],_,c,z,arr,h,hc,e=>by cases h;cases e;exact⟨arr,rfl,hc⟩
 | (i, v) :: rest, _, c, z, arr, ⟨u, us', e', hv, h⟩, hc, e => by
  subst e'
  unfold Kb at e
  split at e
  .rename_i off size hp
   cases hb:(Nat.beq (Bi v).length size&&Nat.ble (off+(Bi v).length) c.length)with
   |false=>simp_all
   |true=>
    rw[hb,cond_true]at e
    rw[aD]at hb
    have h1:=aF hb.1
    have h2:=aI hb.2
    have hcl:=(ZA hv).length
    have hal:=hc.length
    simp only[cB]at hcl hal
    have hov:=CG off u.cells.toList 0 arr (Bi v) c hc (ZA hv)
    rw[dE]at hov
    obtain⟨arr',h3,h4⟩:=ZD hpl h hov.1 e
    grind[Instr.fill,Array.toList_zipIdx]
  .cases e
def Wj(tm:TM):List (Nat×Operand)->Option (List (Nat×V))
 |[]=>some []
 |(i,x)::xs=>match ev tm x,Wj tm xs with
  |some v,some vs=>some ((i,v)::vs)
  | _,_=>none
def L3(tm:TM):List Operand->Option (List V)
 |[]=>some []
 |x::xs=>match ev tm x,L3 tm xs with
  |some v,some vs=>some (v::vs)
  | _,_=>none
theorem M7{s:Av}{w:World}{tm:TM}{a:Act}(h:RT s w tm a.tmps): ∀{l:List (Nat×Operand)}{xs:List (Nat×V)},Wj tm l=some xs->RP s w xs (l.map λp=>(p.1,a.eval p.2))
 |[],_,e=>by cases e;rfl
 |(i,x)::l,xs,e=>by
  unfold Wj at e
  split at e
  .rename_i v vs h1 h2;cases e;exact⟨_,_,rfl,Bb h h1,M7 h h2⟩
  .cases e
theorem Fx{s:Av}{w:World}{tm:TM}{a:Act}(h:RT s w tm a.tmps): ∀{l:List Operand}{xs:List V},L3 tm l=some xs->RL s w xs (l.map a.eval)
 |[],_,e=>by cases e;rfl
 |x::l,xs,e=>by
  unfold L3 at e
  split at e
  .rename_i v vs h1 h2;cases e;exact⟨_,_,rfl,Bb h h1,Fx h h2⟩
  .cases e
def Fw(G:Ca):List Field->Bool
 |[]=>true
 |f::fs=>(G.ty f.type).isSome&&Fw G fs
def My(G:Ca)(fields:Array Field)(i:Nat):Option (Nat×Nat):=
 match fields[i]? with
 |some f=>match G.ty f.type with
  |some ti=>some (f.offset,ti.size)
  |none=>none
 |none=>none
def Kw(G:Ca)(t:Nat)(ps:List (Nat×V)):Option V:=
 match G.ty t with
 |some {desc:=.struct fields,zero:=some z,.. }=>bif Fw G fields.toList then(match Kb (My G fields) z ps with|some c=>some (.agg c)|none=>none)else none
 |some {desc:=.array _ elem,zero:=some z,.. }=>match G.ty elem with
  |some ti=>match Kb (λi=>some (i*ti.size,ti.size)) z ps with|some c=>some (.agg c)|none=>none
  |none=>none
 | _=>none
theorem yL{P:Program}{G:Ca}(hG:G.Ok P): ∀(fs:List Field),Fw G fs=true->∃ps,fs.mapM (λf=>(P.info? f.type).map λi=>(f.offset,i.size))=some ps/\∀(i:Nat) p,My G fs.toArray i=some p->ps[i]? =some p
 |[],_=>⟨[],rfl,λi p h=>by assumption⟩
 |f::fs,h=>by
  unfold Fw at h
  rw[aD]at h
  obtain⟨ti,hti⟩:=eC.1 h.1
  obtain⟨ps,h1,h2⟩:=yL hG fs h.2
  obtain⟨g,g1,_,g3,_⟩:=hG.ty _ _ hti
  refine⟨(f.offset,ti.size)::ps,by simp_all,λi p hp=>?_⟩
  grind[My]
theorem iy{P:Program}{G:Ca}(hG:G.Ok P){t:Nat}{ps:List (Nat×V)}{us:List (Nat×Value)}{x:V}{s:Av}{w:World}(hps:RP s w ps us)(h:Kw G t ps=some x):
  ∃v,RV s w x v/\∀w',(Instr.build t us.toArray).run P w'= .ok v w':=by
 unfold Kw at h
 split at h
 .rename_i fields _ _ _ z ht
  cases hf:Fw G fields.toList with
  |false=>simp_all
  | true =>
   rw[hf,cond_true]at h
   split at h
   .rename_i c hc
    cases h
    obtain⟨f,f1,f2,f3,f4,f5,f6⟩:=hG.ty _ _ ht
    obtain⟨zv,z1,z2,z3,_⟩:=f6 z rfl
    obtain⟨pl,p1,p2⟩:=yL hG fields.toList hf
    obtain⟨arr,a1,a2⟩:=ZD (place':=(pl.toArray[·]?)) (λi p hp=>by simpa using p2 i p hp) hps (z3 s w) hc
    refine⟨.agg arr,⟨arr,rfl,a2⟩,λw'=>run_build w' t us.toArray arr ?_⟩
    grind[Program.built]
   .cases h
 .rename_i len elem _ _ _ z ht
  split at h
  .rename_i ti hti
   split at h
   .rename_i c hc
    cases h
    obtain⟨f,f1,f2,f3,f4,f5,f6⟩:=hG.ty _ _ ht
    obtain⟨zv,z1,z2,z3,_⟩:=f6 z rfl
    obtain⟨g,g1,g2,g3,_⟩:=hG.ty _ _ hti
    obtain⟨arr,a1,a2⟩:=ZD (place':=λi=>some (i*g.size,g.size)) (λi p hp=>by simp_all) hps (z3 s w) hc
    refine⟨.agg arr,⟨arr,rfl,a2⟩,λw'=>run_build w' t us.toArray arr ?_⟩
    grind[Program.built]
   .cases h
  .cases h
 .cases h
def Lt(G:Ca)(H:Nat->Option O)(t:Nat)(x:V):Option (Nat×List Nat):=
 match G.ty t with
 |some {desc:=.slice _,.. }=>match x with
  | .sl _ _ n _=>some (n,[])
  | .im n _=>some (n,[])
  | .nils=>some (0,[])
  | _=>none
 |some {desc:=.array n _,.. }=>some (n,[])
 |some {desc:=.string,.. }=>match x with
  | .str b=>some (b.size,[])
  | _=>none
 | some { desc := .map _ _, .. } => match x with
  | .nilm=>some (0,[])
  | .mp h=>match H h with
   |some (.map es _)=>some (es.length,[h])
   | _=>none
  | _=>none
 | _=>none
theorem RE.length{s:Av}{w:World}: ∀{l:List (V×V×Nat)}{es:List MapEntry},RE s w l es->l.length=es.length
 |[],_,h=>by cases h;rfl
 | _:: _,_,⟨_,_,e,_,_,_,h⟩=>by subst e;simp[RE.length h]
theorem Th{P:Program}{G:Ca}(hG:G.Ok P){t n:Nat}{H:Nat->Option O}{x:V}{rd:List Nat}{s:Av}{w:World}{u:Value}(hH:RH s w H)(hx:RV s w x u)(h:Lt G H t x=some (n,rd))(ty:Nat):
  ∀w',(∀h∈rd,w'.heap[s.μ h]? =w.heap[s.μ h]?)->(Builtin.len_ #[t] ty #[u]).run P w'= .ok (.int .i64 n) w':=by
 intro w' hw
 unfold Lt at h
 split at h
 .rename_i ht
  have hd:=hG.und ht w'
  split at h
  .cases h;obtain⟨_,cap,rfl,_⟩:=hx;simp[Builtin.len_,hd,goInt]
  .cases h;obtain⟨_,cap,rfl,_⟩:=hx;simp[Builtin.len_,hd,goInt]
  .cases h;obtain rfl:=hx;simp[Builtin.len_,hd,goInt]
  .cases h
 .rename_i ht
  cases h
  have hd:=hG.und ht w'
  simp_all[Builtin.len_,goInt]
 .rename_i ht
  have hd:=hG.und ht w'
  split at h
  .cases h;obtain rfl:=hx;simp[Builtin.len_,hd,goInt]
  .cases h
 .rename_i ht
  have hd:=hG.und ht w'
  split at h
  .cases h;obtain rfl:=hx;simp[Builtin.len_,hd,goInt]
  .split at h
   .rename_i hm _ es ck ho
    cases h
    obtain⟨_,rfl⟩:=hx
    obtain⟨_,_,_,arr,h1,h2⟩:=hH.obj _ _ ho rfl
    have hb:=(hw hm s_).trans h1
    have:=h2.length
    simp[Builtin.len_,hd,goInt,getObj,Sem.run,hb,this]
   .cases h
  .cases h
 .cases h
def Te(_:Ca)(_:Nat->Option O)(_:Nat)(_ _:V)(_:Bool):Option (V×List Nat):=none
theorem dd{P:Program}{G:Ca}(hG:G.Ok P){t:Nat}{H:Nat->Option O}{x key y:V}{ok:Bool}{rd:List Nat}{s:Av}{w:World}{u uk:Value}(hH:RH s w H)(hx:RV s w x u)(hk:RV s w key uk)(h:Te G H t x key ok=some (y,rd)):
  ∃v,RV s w y v/\∀w',(∀h∈rd,w'.heap[s.μ h]? =w.heap[s.μ h]?)->(Instr.lookup t u uk ok).run P w'= .ok v w':=by cases h
def O2(mx:Bool)(k:IntKind)(n:Int):List V->Option V
 |[]=>some (.int k n)
 | .int k' m::l=>if k=k' then O2 mx k (bif mx then(if m>n then m else n)else(if m<n then m else n)) l else none
 | _=>none
theorem oE{P:Program}{mx:Bool}{s:Av}{w:World}{k:IntKind}: ∀{l:List V}{vs:List Value}{n:Int}{x:V},RL s w l vs->O2 mx k n l=some x->
  ∃m,x= .int k m/\∀w',(vs.foldlM (bif mx then Builtin.max2 else Builtin.min2) (Value.int k n)).run P w'= .ok (.int k m) w'
 |[],_,n,x,h,e=>by cases h;cases e;simp
 | y :: l, _, n, x, ⟨v, vs', e', hy, h⟩, e => by
  subst e'
  cases y with
  | int k' m =>
   obtain rfl:v= .int k' m:=hy
   unfold O2 at e
   split at e
   .rename_i hk
    subst hk
    obtain⟨r,h1,h2⟩:=oE h e
    refine⟨r,h1,λw'=>?_⟩
    have:=h2 w'
    cases mx<;>simpa [List.foldlM_cons,Builtin.max2,Builtin.min2]using this
   .cases e
  | _=>cases e
def Hq:TypeDesc->Bool
 | .interface _=>true
 | _=>false
def calm(G:Ca)(tm:TM)(H:Nat->Option O)(o:Oper):Option (V×List Nat):=
 match o.op with
 | .move x| .assign x=>match ev tm x with|some v=>some (v,[])|none=>none
 | .pick c a b=>match ev tm c,ev tm a,ev tm b with
  |some (.bool t),some x,some y=>some (bif t then x else y,[])
  | _,_,_=>none
 | .load t x=>match G.ty t,ev tm x with
  |some ti,some (.ptr h off)=>match H h with
   |some (.row _ _ c)=>match E4 ti (c.drop off)with|some v=>some (v,[h])|none=>none
   | _=>none
  |some ti,some (.imp l)=>match E4 ti l with|some v=>some (v,[])|none=>none
  | _,_=>none
 | .nilCheck x=>match ev tm x with
  |some (.ptr h off)=>some (.ptr h off,[])
  |some (.imp l)=>some (.imp l,[])
  |some (.fn f l)=>some (.fn f l,[])
  | _=>none
 | .binOp op t x y _=>match ev tm x,ev tm y with
  |some a,some b=>match B6 G op t a b with|some v=>some (v,[])|none=>none
  | _,_=>none
 | .unOp op _ x=>match ev tm x with
  |some a=>match UV op a with|some v=>some (v,[])|none=>none
  |none=>none
 | .convert src dst x=>match G.ty src,G.ty dst,ev tm x with
  |some _,some {desc:=.int k,.. },some (.int _ n)=>some (.int k (wr k n),[])
  | _,_,_=>none
 | .fieldAddr t x f=>match ev tm x with
  |some a=>match Ku G t f a with|some v=>some (v,[])|none=>none
  |none=>none
 | .field t x f=>match ev tm x with
  |some a=>match Zg G t f a with|some v=>some (v,[])|none=>none
  |none=>none
 | .indexAddr t x i=>match ev tm x,ev tm i with
  |some a,some (.int _ n)=>match Gs G t a n with|some v=>some (v,[])|none=>none
  | _,_=>none
 | .index t x i=>match ev tm x,ev tm i with
  |some a,some (.int _ n)=>match Jw G t a n with|some v=>some (v,[])|none=>none
  | _,_=>none
 | .slice t x l h m=>match ev tm x,evO tm l,evO tm h,evO tm m with
  |some a,some l,some h,some m=>match Ce G t a l h m with|some v=>some (v,[])|none=>none
  | _,_,_,_=>none
 | .extract x i=>match ev tm x with
  |some a=>match Zm a i with|some v=>some (v,[])|none=>none
  |none=>none
 | .build t ps=>match Wj tm ps.toList with
  |some l=>match Kw G t l with|some v=>some (v,[])|none=>none
  |none=>none
 | .makeFunc (.func f) fs cs=>match fs.toList,cs.toList with
  |[],cs'=>match L3 tm cs' with|some l=>some (.fn f l,[])|none=>none
  |x::fs',[]=>match L3 tm (x::fs')with|some l=>some (.mfn f l,[])|none=>none
  | _:: _,_:: _=>none
 | .lookup t x i ok=>match ev tm x,ev tm i with
  |some a,some k=>Te G H t a k ok
  | _,_=>none
 | .call c=>match c.callee,c.args.toList,c.argTypes.toList with
  | .builtin .len,[x],[t]=>match ev tm x with
   |some a=>match Lt G H t a with|some (n,rd)=>some (.int .i64 n,rd)|none=>none
   |none=>none
  | .builtin .max,x::l,_=>match ev tm x,L3 tm l with
   |some (.int k n),some l=>match O2 true k n l with|some v=>some (v,[])|none=>none
   | _,_=>none
  | .builtin .min,x::l,_=>match ev tm x,L3 tm l with
   |some (.int k n),some l=>match O2 false k n l with|some v=>some (v,[])|none=>none
   | _,_=>none
  | _,_,_=>none
 | .makeInterface t x=>match G.ty t,ev tm x with
  |some ti,some a=>bif Hq ti.desc then none else some (.ifc t a,[])
  | _,_=>none
 | .typeAssert x _ t2 ok=>match G.ty t2,ev tm x with
  |some ti,some (.ifc t v)=>bif Nat.beq t t2&& !Hq ti.desc then some (bif ok then .tup [v,.bool true]else v,[])else none
  | _,_=>none
 | _=>none
where
 evO (tm:TM):Option Operand->Option (Option Int)
  |none=>some none
  |some x=>match ev tm x with
   |some (.int _ n)=>some (some n)
   | _=>none
theorem lW{s:Av}{w:World}{tm:TM}{a:Act}(h:RT s w tm a.tmps){o:Option Operand}{n:Option Int}(e:calm.evO tm o=some n):OI (o.map a.eval) n:=by
 cases o with
 |none=>cases e;trivial
 | some x =>
  simp only[calm.evO]at e
  split at e
  .rename_i k m hx
   cases e
   have:a.eval x= .int k m:=Bb h hx
   simp[this,OI]
  .cases e
theorem YU{P:Program}{G:Ca}(hG:G.Ok P){tm:TM}{H:Nat->Option O}{o:Oper}{x:V}{rd:List Nat}{s:Av}{w:World}{a:Act}(hH:RH s w H)(hT:RT s w tm a.tmps)(h:calm G tm H o=some (x,rd)):
  ∃v,RV s w x v/\∀w',(∀h∈rd,w'.heap[s.μ h]? =w.heap[s.μ h]?)->Er s w w'->(execOp a.eval o).run P w'= .ok (.value v) w':=by
 unfold calm at h
 split at h
 case h_1 hop=>
  split at h
  .rename_i v hv;cases h
   exact⟨_,Bb hT hv,λw' _ _=>by simp[execOp,hop]⟩
  .cases h
 case h_2 hop=>
  split at h
  .rename_i v hv;cases h
   exact⟨_,Bb hT hv,λw' _ _=>by simp[execOp,hop]⟩
  .cases h
 case h_3 hop=>
  split at h
  .rename_i t x y hc hx hy;cases h
   have hc':a.eval _= .bool t:=Bb hT hc
   cases t with
   |true=>exact⟨_,Bb hT hx,λw' _ _=>by simp_all[execOp,asBool]⟩
   |false=>exact⟨_,Bb hT hy,λw' _ _=>by simp_all[execOp,asBool]⟩
  .cases h
 case h_4 hop=>
  split at h
  .rename_i ti hd off hti hx
   split at h
   .rename_i t full c ho
    split at h
    .rename_i v hv;cases h
     obtain⟨hdom,hp⟩:=Bb hT hx
     obtain⟨_,_,_,vs,rest,h1,h2,_,_⟩:=hH.obj _ _ ho rfl
     obtain⟨v,hr,hrun⟩:=oU (P:=P) hG hti (h2.drop off) hv
     refine⟨v,hr,λw' hw _=>?_⟩
     simp_all[execOp,World.cell?,aM,dR]
    .cases h
   .cases h
  .rename_i ti l hti hx
   split at h
   .rename_i v hv;cases h
    obtain⟨b,off,hp,hl⟩:=Bb hT hx
    obtain⟨vs,g1,g2⟩:=hl.cells
    obtain⟨v,hr,hrun⟩:=oU (P:=P) hG hti g1 hv
    refine⟨v,hr,λw' _ hk=>?_⟩
    simp only[execOp,hop,hp]
    rw[Sem.run_bind,hrun w' b off (λj u hu=>by
     have hfz:s.fz b:=by
      have hj:j<l.length:=by rw[g1.length];exact(aM.1 hu).1
      exact(hl.get (aB hj)).1
     exact(World.cell?_of_block (a:=⟨b,off+j,none⟩) (hk b hfz)).trans (g2 j u hu))]
    rfl
   .cases h
  .cases h
 case h_5 hop=>
  split at h
  .rename_i hx;cases h
   obtain⟨hd,hp⟩:=Bb hT hx
   exact⟨_,⟨hd,rfl⟩,λw' _ _=>by simp_all[execOp]⟩
  .rename_i hx;cases h
   obtain⟨b,off,hp,hl⟩:=Bb hT hx
   exact⟨_,⟨b,off,rfl,hl⟩,λw' _ _=>by simp_all[execOp]⟩
  .rename_i hx;cases h
   obtain⟨vs,hp,hl⟩:=Bb hT hx
   exact⟨_,⟨vs,rfl,hl⟩,λw' _ _=>by simp_all[execOp]⟩
  .cases h
 case h_6 hop=>
  split at h
  .rename_i p q hx hy
   split at h
   .rename_i v hv;cases h
    obtain⟨r,h1,h2⟩:=U6 hG hv (Bb hT hx) (Bb hT hy) _ _
    refine⟨r,h1,λw' _ _=>?_⟩
    simp only[execOp,hop]
    rw[Sem.run_bind,h2]
    rfl
   .cases h
  .cases h
 case h_7 hop=>
  split at h
  .rename_i p hx
   split at h
   .rename_i v hv;cases h
    obtain⟨r,h1,h2⟩:=FA (P:=P) hv (Bb hT hx)
    exact⟨r,h1,λw' _ _=>by simp_all[execOp]⟩
   .cases h
  .cases h
 case h_8 src dst ox hop=>
  split at h
  .rename_i ks _ _ _ _ n hs hd hx;cases h
   have hp:a.eval ox= .int _ n:=Bb hT hx
   refine⟨_,rfl,λw' _ _=>?_⟩
   simp[execOp,hop,hp,convert,hG.und hs,hG.und hd,Conv.intToInt,Fh,pure]
  .cases h
 case h_9 hop=>
  split at h
  .rename_i p hx
   split at h
   .rename_i v hv;cases h
    obtain⟨r,h1,h2⟩:=ip hG (Bb hT hx) hv
    exact⟨r,h1,λw' _ _=>by simp_all[execOp]⟩
   .cases h
  .cases h
 case h_10 hop=>
  split at h
  .rename_i p hx
   split at h
   .rename_i v hv;cases h
    obtain⟨r,h1,h2⟩:=T9 hG (Bb hT hx) hv
    exact⟨r,h1,λw' _ _=>by simp_all[execOp]⟩
   .cases h
  .cases h
 case h_11 hop=>
  split at h
  .rename_i p k n hx hi
   split at h
   .rename_i v hv;cases h
    have hi':=Bb hT hi
    obtain⟨r,h1,h2⟩:=gw hG (k:=k) (Bb hT hx) hv
    exact⟨r,h1,λw' _ _=>by simp[execOp,hop,show a.eval _=_ from hi',h2]⟩
   .cases h
  .cases h
 case h_12 hop=>
  split at h
  .rename_i p k n hx hi
   split at h
   .rename_i v hv;cases h
    have hi':=Bb hT hi
    obtain⟨r,h1,h2⟩:=Tv hG (k:=k) (Bb hT hx) hv
    exact⟨r,h1,λw' _ _=>by simp[execOp,hop,show a.eval _=_ from hi',h2]⟩
   .cases h
  .cases h
 case h_13 hop=>
  split at h
  .rename_i p l hh m hx hl hhh hm
   split at h
   .rename_i v hv;cases h
    obtain⟨r,h1,h2⟩:=gj hG (lW hT hl) (lW hT hhh) (lW hT hm) (Bb hT hx) hv
    exact⟨r,h1,λw' _ _=>by simp_all[execOp]⟩
   .cases h
  .cases h
 case h_14 hop=>
  split at h
  .rename_i p hx
   split at h
   .rename_i v hv;cases h
    obtain⟨r,h1,h2⟩:=Ui (P:=P) (Bb hT hx) hv
    exact⟨r,h1,λw' _ _=>by simp_all[execOp]⟩
   .cases h
  .cases h
 case h_15 hop=>
  split at h
  .rename_i l hl
   split at h
   .rename_i v hv;cases h
    obtain⟨r,h1,h2⟩:=iy hG (M7 hT hl) hv
    refine⟨r,h1,λw' _ _=>?_⟩
    simp only[execOp,hop]
    rw[Sem.run_bind]
    have:=h2 w'
    rw[<-List.map_toArray,cQ]at this
    simp_all
   .cases h
  .cases h
 case h_16 hop=>
  split at h
  .rename_i hf
   split at h
   .rename_i l hl;cases h
    have:=Fx hT hl
    refine⟨_,⟨_,rfl,(show RL s w l ((Array.map a.eval _).toList)by rw[fP];exact this)⟩,λw' _ _=>?_⟩
    simp_all[execOp,Instr.makeFunc]
   .cases h
  .rename_i x fs' hf hcs
   split at h
   .rename_i l hl;cases h
    rw[<-hf]at hl
    have:=Fx hT hl
    refine⟨_,⟨_,rfl,(show RL s w l ((Array.map a.eval _).toList)by rw[fP];exact this)⟩,λw' _ _=>?_⟩
    simp_all[execOp,Instr.makeFunc]
   .cases h
  .cases h
 case h_17 hop=>
  split at h
  .rename_i p k hx hk
   obtain⟨r,h1,h2⟩:=dd hG hH (Bb hT hx) (Bb hT hk) h
   exact⟨r,h1,λw' hw _=>by simp_all[execOp]⟩
  .cases h
 case h_18 c hop=>
  have hargs: ∀l,c.args.toList=l->c.args=l.toArray:=λl h=>by rw[<-h]
  split at h
  .rename_i x t hc ha ht
   split at h
   .rename_i p hx
    split at h
    .rename_i n rd hn
     cases h
     refine⟨_,rfl,λw' hw _=>?_⟩
     have ht':c.argTypes= #[t]:=by rw[<-cQ (xs:=c.argTypes),ht]
     have:=Th hG hH (Bb hT hx) hn o.type w' hw
     simp_all[execOp,resolve,invoke,builtin]
    .cases h
   .cases h
  .rename_i x l hc ha
   split at h
   .rename_i k n l' hx hl
    split at h
    .rename_i v hv
     cases h
     obtain⟨m,rfl,hm⟩:=oE (P:=P) (Fx hT hl) hv
     refine⟨_,rfl,λw' hw _=>?_⟩
     have hx':a.eval x= .int k n:=Bb hT hx
     simp_all[execOp,resolve,invoke,builtin,Builtin.max_]
    .cases h
   .cases h
  .rename_i x l hc ha
   split at h
   .rename_i k n l' hx hl
    split at h
    .rename_i v hv
     cases h
     obtain⟨m,rfl,hm⟩:=oE (P:=P) (Fx hT hl) hv
     refine⟨_,rfl,λw' hw _=>?_⟩
     have hx':a.eval x= .int k n:=Bb hT hx
     simp_all[execOp,resolve,invoke,builtin,Builtin.min_]
    .cases h
   .cases h
  .cases h
 case h_19 t x hop=>
  split at h
  .rename_i ti v hti hv
   cases hd:Hq ti.desc with
   |true=>simp_all
   | false =>
    rw[hd,cond_false]at h;cases h
    obtain⟨f,_,f2,_⟩:=hG.ty _ _ hti
    refine⟨.iface t (a.eval x),⟨_,rfl,Bb hT hv⟩,λw' _ _=>?_⟩
    have:(Instr.makeInterface t (a.eval x)).run P w'= .ok (.iface t (a.eval x)) w':=by
     simp only[Instr.makeInterface,Sem.run_bind,run_underlying f2,Result.andThen_ok]
     cases hdd:ti.desc<;>first|rfl|(rw[hdd]at hd;cases hd)
    simp_all[execOp]
  .cases h
 case h_20 x t1 t2 ok hop=>
  split at h
  .rename_i ti t v hti hv
   cases hd:(Nat.beq t t2&& !Hq ti.desc)with
   |false=>simp_all
   | true =>
    rw[hd,cond_true]at h;cases h
    rw[aD]at hd
    obtain⟨h1,h2⟩:=hd
    have h1:=aF h1
    subst h1
    obtain⟨f,_,f2,_⟩:=hG.ty _ _ hti
    obtain⟨u,he,hu⟩:=Bb hT hv
    have he':a.eval x= .iface t u:=he
    refine⟨if ok then .tuple #[u,.bool true]else u,?_,λw' _ _=>?_⟩
    .cases ok with
     |true=>exact⟨#[u,.bool true],rfl,_,_,rfl,hu,_,_,rfl,rfl,rfl⟩
     |false=>exact hu
    .have:(Instr.typeAssert (.iface t u) t1 t ok).run P w'= .ok (if ok then .tuple #[u,.bool true]else u) w':=by
      simp only[Instr.typeAssert,Sem.run_bind,run_underlying f2,Result.andThen_ok]
      cases hdd:ti.desc<;>first|(simp[hdd];done)|(rw[hdd]at h2;cases h2)
     simp_all[execOp]
  .cases h
 trivial
def Jm(H:Nat->Option O)(h:Nat)(o:O):Nat->Option O:=λj=>if j=h then some o else H j
theorem A9(t:T O)(h:Nat)(o:O):(t.put h o).get=Jm t.get h o:=funext λj=>T.get_put t h j o
structure Br(s:Av)(w:World)(s':Av)(w':World)(lg:List Nat):Prop where
 le:s.Le s'
 fz: ∀b,s'.fz b->s.fz b\/w.heap.size<=b\/∃h∈lg,s.dom h/\b=s.μ h/\¬s.mark b
 kept:Ee s w w'
 mod:Jl (λb=>∃h∈lg,s.dom h/\b=s.μ h) w w'
 new: ∀h,s'.dom h->¬s.dom h->w.heap.size<=s'.μ h\/∃g∈lg,s.dom g/\s'.μ h=s.μ g
theorem Br.refl(s:Av)(w:World)(lg:List Nat):Br s w s w lg:=⟨Av.Le.refl s,λ_ h=>.inl h,λ_ _=>rfl,Jl.refl _ w,λ_ h k=>absurd h k⟩
theorem Br.trans{a b c:Av}{u v w:World}{l m:List Nat}(h:Br a u b v l)(k:Br b v c w m):Br a u c w (l++m):=by
 have hm:Jl (λx=>∃h∈l++m,a.dom h/\x=a.μ h) v w\/True:=.inr trivial
 refine⟨h.le.trans k.le,λx hx=>?_,λx hx=>(k.kept x (h.le.pr hx)).trans (h.kept x hx),?_,?_⟩
 .rcases k.fz x hx with hx|hx|⟨g,hg,hd,e,hm'⟩
  .rcases h.fz x hx with hx|hx|⟨g,hg,r⟩
   all_goals grind
  .exact .inr (.inl (aP h.mod.size hx))
  .by_cases hda:a.dom g
   .exact .inr (.inr ⟨g,aL.2 (.inr hg),hda,by rw[e,h.le.μ g hda],λk'=>hm' (h.le.mark _ k')⟩)
   .rcases h.new g hd hda with hn|⟨g',hg',hd',e'⟩
    .omega
    .exact .inr (.inr ⟨g',aL.2 (.inl hg'),hd',by rw[e,e'],λk'=>hm' (h.le.mark _ k')⟩)
 .refine⟨k.mod.os.trans h.mod.os,k.mod.tape.trans h.mod.tape,k.mod.output.trans h.mod.output,aP h.mod.size k.mod.size,λi hi hno=>?_⟩
  have h1:=h.mod.block i hi (λ⟨g,hg,hd,e⟩=>hno ⟨g,aL.2 (.inl hg),hd,e⟩)
  refine(k.mod.block i (aQ hi h.mod.size) (λ⟨g,hg,hd,e⟩=>?_)).trans h1
  by_cases hda:a.dom g
  .exact hno ⟨g,aL.2 (.inr hg),hda,by rw[e,h.le.μ g hda]⟩
  .rcases h.new g hd hda with hn|⟨g',hg',hd',e'⟩
   all_goals grind
 .intro i hi hno
  by_cases hb:b.dom i
  .rw[k.le.μ i hb]
   rcases h.new i hb hno with hn|⟨g,hg,hd,e⟩
   all_goals grind
  .rcases k.new i hi hb with hn|⟨g,hg,hd,e⟩
   .exact .inl (aP h.mod.size hn)
   .by_cases hda:a.dom g
    .exact .inr ⟨g,aL.2 (.inr hg),hda,by rw[e,h.le.μ g hda]⟩
    .rcases h.new g hd hda with hn|⟨g',hg',hd',e'⟩
     all_goals grind
theorem Br.more{s s':Av}{w w':World}{l m:List Nat}(h:Br s w s' w' l)(hl: ∀x∈l,x∈m):Br s w s' w' m:=
 ⟨h.le,λb hb=>(h.fz b hb).imp id (Or.imp id λ⟨g,hg,r⟩=>⟨g,hl g hg,r⟩),h.kept,h.mod.mono (λ_⟨g,hg,r⟩=>⟨g,hl g hg,r⟩),λi hi hn=>(h.new i hi hn).imp id (λ⟨g,hg,r⟩=>⟨g,hl g hg,r⟩)⟩
theorem Br.drew{s s':Av}{w w':World}{l:List Nat}(h:Br s w s' w' l):Br s w s' w'.drew l:=⟨h.le,h.fz,h.kept,h.mod.drew,h.new⟩
theorem RH.drew{s:Av}{w:World}{H:Nat->Option O}(h:RH s w H):RH s w.drew H:=
 ⟨λi o hi hl=>let ⟨a,b,c,d⟩:=h.obj i o hi hl;⟨a,b,c,RO.mono (w:=w) (w':=w.drew) (Av.Le.refl s) (λ_ _=>rfl) a d (λ_=>rfl)⟩,h.inj,h.old⟩
theorem Br.k{s s':Av}{w w':World}{l:List Nat}(h:Br s w s' w' l):Er s w w':=h.kept.k
def Av.ext(s:Av)(h b c:Nat):Av:=⟨λi=>if i=h then b else s.μ i,λi=>if i=h then c else s.cp i,λi=>s.dom i\/i=h,s.fz,s.mark⟩
theorem Av.ext_le{s:Av}{h b c:Nat}(hn: ¬s.dom h):s.Le (s.ext h b c):=
 ⟨⟨λi hi=>if_neg (c:=i=h) (λe=>hn (by simp_all)),λi hi=>if_neg (c:=i=h) (λe=>hn (by simp_all)),λ_ hi=>.inl hi,λ_ hi=>hi⟩,λ_ hi=>hi⟩
theorem Ig(s:Av)(h b c:Nat):(s.ext h b c).μ h=b:=if_pos rfl
theorem Ht(s:Av)(h b c:Nat):(s.ext h b c).cp h=c:=if_pos rfl
theorem Wp(s:Av)(h b c:Nat):(s.ext h b c).dom h:=.inr rfl
theorem RH.put{s:Av}{w w':World}{H:Nat->Option O}{h b c:Nat}{o:O}(hH:RH s w H)(hn: ¬s.dom h)
  (hb:w.heap.size<=b\/¬s.pr b/\∀g og,H g=some og->og.live=true->s.μ g≠b)(hk:Ee s w w')(hold: ∀g og,H g=some og->og.live=true->w'.heap[s.μ g]? =w.heap[s.μ g]?)(hsz:w.heap.size<=w'.heap.size)(hlt:b<w'.heap.size)
  (ho:RO (s.ext h b c) w' o h):RH (s.ext h b c) w' (Jm H h o):=by
 have hle:=Av.ext_le (b:=b) (c:=c) hn
 have hfz: ¬s.pr b:=by
  rcases hb with hb|hb
  .exact λhf=>by have:=hH.old b hf;omega
  .exact hb.1
 have hne: ∀g og,H g=some og->og.live=true->s.μ g≠b:=by
  intro g og hg hl
  rcases hb with hb|hb
  .grind
  .simp_all
 have hdom: ∀g og,H g=some og->og.live=true->g≠h:=λg og hg hl e=>hn (e▸(hH.obj g og hg hl).1)
 refine⟨λg og hg hl=>?_,λg g' og og' hg hg' hl hl' e=>?_,λx hx=>aQ (hH.old x hx) hsz⟩
 .unfold Jm at hg
  split at hg
  .rename_i e;subst e;cases hg
   exact⟨.inr rfl,by grind[Ig],by rw[Ig];exact hfz,ho⟩
  .obtain⟨a1,a2,a3,a4⟩:=hH.obj g og hg hl
   exact⟨.inl a1,by rw[hle.μ g a1];omega,by rw[hle.μ g a1];exact a3,RO.mono hle hk.k a1 a4 (λ_=>hold g og hg hl)⟩
 .unfold Jm at hg hg'
  split at hg<;>split at hg'
  .omega
  .rename_i e1 e2
   cases hg
   subst e1
   rw[Ig,hle.μ g' (hH.obj g' og' hg' hl').1]at e
   grind
  .rename_i e1 e2
   cases hg'
   subst e2
   rw[Ig,hle.μ g (hH.obj g og hg hl).1]at e
   simp_all
  .rw[hle.μ g (hH.obj g og hg hl).1,hle.μ g' (hH.obj g' og' hg' hl').1]at e
   exact hH.inj g g' og og' hg hg' hl hl' e
theorem UB{s:Av}{w:World}{H:Nat->Option O}{h c:Nat}{o:O}{ob:Obj}(hH:RH s w H)(hn: ¬s.dom h)(ho:RO (s.ext h w.heap.size c) (w.alloc ob) o h):
  RH (s.ext h w.heap.size c) (w.alloc ob) (Jm H h o)/\Br s w (s.ext h w.heap.size c) (w.alloc ob) []/\Ee s w (w.alloc ob):=by
 have hold: ∀k,k<w.heap.size->(w.alloc ob).heap[k]? =w.heap[k]? :=λk hk=>Below.heap_alloc w ob k hk
 have hk:Ee s w (w.alloc ob):=λb hb=>hold b (hH.old b hb)
 refine⟨hH.put hn (.inl (aC _)) hk (λg og hg hl=>hold _ (hH.obj g og hg hl).2.1) s_ s_ ho,⟨Av.ext_le hn,λ_ h=>.inl h,hk,(Jl.refl _ w).alloc ob,λi hi hno=>?_⟩,hk⟩
 rcases hi with hi|hi
 all_goals grind[Ig]
theorem TC{s:Av}{w:World}{H:Nat->Option O}{h t:Nat}{c:List V}{vs:List Value}(hH:RH s w H)(hn: ¬s.dom h)(hc:RL s w c vs):
  RH (s.ext h w.heap.size 0) (w.alloc (.cells vs.toArray t)) (Jm H h (.row t none c))/\Br s w (s.ext h w.heap.size 0) (w.alloc (.cells vs.toArray t)) []:=by
 have hk:Ee s w (w.alloc (.cells vs.toArray t)):=λb hb=>Below.heap_alloc w _ b (hH.old b hb)
 obtain⟨h1,h2,_⟩:=UB (c:=0) (o:=.row t none c) (ob:=.cells vs.toArray t) hH hn
  ⟨vs,[],by grind[Ig,World.alloc_heap_new],RL.mono (Av.ext_le hn) hk.k _ _ hc,λ_=>rfl,λ_ h=>(by cases h)⟩
 exact⟨h1,h2⟩
theorem RH.write{s:Av}{w w':World}{H:Nat->Option O}{h:Nat}{o o':O}(hH:RH s w H)(ho:H h=some o)(hl:o.live=true)(hother: ∀b,b≠s.μ h->w'.heap[b]? =w.heap[b]?)(hsz:w.heap.size<=w'.heap.size)(ho':Ee s w w'->RO s w' o' h):
  RH s w' (Jm H h o')/\Ee s w w':=by
 obtain⟨a1,a2,a3,a4⟩:=hH.obj h o ho hl
 have hk:Ee s w w':=λb hb=>hother b (λe=>a3 (e▸hb))
 refine⟨⟨λg og hg hlg=>?_,λg g' og og' hg hg' hlg hlg' e=>?_,λx hx=>aQ (hH.old x hx) hsz⟩,hk⟩
 .unfold Jm at hg
  split at hg
  .grind
  .rename_i hne
   obtain⟨b1,b2,b3,b4⟩:=hH.obj g og hg hlg
   exact⟨b1,o_,b3,RO.mono (Av.Le.refl s) hk.k b1 b4 (λ_=>hother _ (λe=>hne (hH.inj g h og o hg ho hlg hl e)))⟩
 .unfold Jm at hg hg'
  split at hg<;>split at hg'
  .omega
  .rename_i e1 e2;subst e1;exact hH.inj g g' o og' ho hg' hl hlg' e
  .rename_i e1 e2;subst e2;exact hH.inj g g' og o hg ho hlg hl e
  .exact hH.inj g g' og og' hg hg' hlg hlg' e
theorem yV{s:Av}{w w':World}{H:Nat->Option O}{h:Nat}{o:O}(hH:RH s w H)(ho:H h=some o)(hl:o.live=true)(hk:Ee s w w')(hother: ∀b,b≠s.μ h->w'.heap[b]? =w.heap[b]?)(hm:w'.os=w.os/\w'.tape=w.tape/\w'.output=w.output)(hsz:w.heap.size<=w'.heap.size):Br s w s w' [h]:=
 ⟨Av.Le.refl s,λ_ h=>.inl h,hk,⟨hm.1,hm.2.1,hm.2.2,hsz,λk _ hno=>hother k (λe=>hno ⟨h,by simp,(hH.obj h o ho hl).1,e⟩)⟩,λ_ h k=>absurd h k⟩
def LD:V->Bool
 | .agg _| .tup _=>false
 | _=>true
theorem iz{s:Av}{w:World}{x:V}{v:Value}(h:RV s w x v)(ha:LD x=true):v.oneCell'=true:=by
 cases x with
 |agg|tup=>cases ha
 |bool|int|str|nilp|nilf|nili|nils|nilm=>obtain rfl:=h;rfl
 |ptr|mp|yld=>obtain⟨hd,rfl⟩:=h;rfl
 |sl h off len room=>obtain⟨hd,cap,rfl,h⟩:=h;rfl
 |fn f c=>obtain⟨vs,rfl,h⟩:=h;rfl
 |mfn f c=>obtain⟨vs,rfl,h⟩:=h;rfl
 |ifc t y=>obtain⟨u,rfl,h⟩:=h;rfl
 |im n l=>obtain⟨a,cap,rfl,h⟩:=h;rfl
 |imp l=>obtain⟨b,off,rfl,h⟩:=h;rfl
def Bl:List V->Bool
 |[]=>true
 |x::xs=>LD x&&Bl xs
theorem qB{s:Av}{w:World}: ∀{l:List V}{vs:List Value},RL s w l vs->Bl l=true->∀v∈vs,v.oneCell'=true
 |[],_,h,_=>by cases h;simp
 | _:: _,_,⟨v,vs',e,hx,hl⟩,ha=>by
  subst e
  unfold Bl at ha
  rw[aD]at ha
  intro u hu
  rcases aK.1 hu with rfl|hu
  .grind[iz]
  .exact qB hl ha.2 u hu
theorem Sg: ∀(xs c:List V)(off:Nat),off+xs.length≤c.length→ov c off xs=c.take off++xs++c.drop (off+xs.length)
 |[],c,off,_=>by simp[ov]
 | x :: xs, c, off, h => by
  simp only[bZ]at h
  rw[ov,Sg xs _ _ (by simp;omega),List.set_eq_take_append_cons_drop,if_pos (by omega)]
  have hl:(c.take off).length=off:=by simp;omega
  have e1:(c.take off++x::c.drop (off+1)).take (off+1)=c.take off++[x]:=by
   rw[List.take_append,hl,bF (by omega),show off+1-off=1 by omega];rfl
  have e2:(c.take off++x::c.drop (off+1)).drop (off+1+xs.length)=c.drop (off+(xs.length+1)):=by
   rw[fN,hl,List.drop_of_length_le (by omega),show off+1+xs.length-off=xs.length+1 by omega,List.drop_succ_cons,List.drop_drop]
   simp;congr 1;omega
  simp_all
theorem GI{s:Av}{w:World}{c xs:List V}{vs us:List Value}{off:Nat}(hc:RL s w c vs)(hx:RL s w xs us)(h:off+xs.length<=c.length):RL s w (ov c off xs) (vs.take off++us++vs.drop (off+us.length)):=by
 rw[Sg _ _ _ h,<-hx.length]
 exact((hc.take _).append hx).append (hc.drop _)
theorem oO{P:Program}{s:Av}{w:World}{H:Nat->Option O}{h t off:Nat}{sp:Option Nat}{c xs:List V}{us:List Value}(hH:RH s w H)(ho:H h=some (.row t sp c))(hx:RL s w xs us)(ha:Bl xs=true)(hl:off+xs.length<=c.length):
  ∃w',(storeCells ⟨s.μ h,off,none⟩ us).run P w= .ok () w'/\RH s w' (Jm H h (.row t sp (ov c off xs)))/\Br s w s w' [h]:=by
 obtain⟨a1,a2,a3,vs,rest,b1,b2,b3,b4⟩:=hH.obj h _ ho rfl
 have hcl:=b2.length
 have hxl:=hx.length
 have hst:=run_storeCells_at P (s.μ h) off t us 0 _ w b1 (by simp;omega) (qB hx ha)
 have hset: ∀b,b≠s.μ h->(w.setRow (s.μ h) ((vs++rest).toArray.toList.take (off+0)++us++(vs++rest).toArray.toList.drop (off+0+us.length)).toArray).heap[b]? =w.heap[b]? :=λb hb=>by
  grind[World.setRow]
 have hsz:(w.setRow (s.μ h) ((vs++rest).toArray.toList.take (off+0)++us++(vs++rest).toArray.toList.drop (off+0+us.length)).toArray).heap.size=w.heap.size:=by simp[World.setRow]
 have hnew:(w.setRow (s.μ h) ((vs++rest).toArray.toList.take (off+0)++us++(vs++rest).toArray.toList.drop (off+0+us.length)).toArray).heap[s.μ h]? =some (.cells ((vs.take off++us++vs.drop (off+us.length))++rest).toArray t (0,0)):=by
  rw[setRow_heap w _ _ _ _ _ b1]
  congr 2
  simp only[dE]
  rw[List.take_append_of_le_length o_,List.drop_append_of_le_length o_]
  simp[cE]
 obtain⟨r1,r2⟩:=hH.write ho rfl hset o_ (o':=.row t sp (ov c off xs)) (λhk=>
  ⟨_,rest,hnew,RL.mono (Av.Le.refl s) hk.k _ _ (GI b2 hx hl),b3,λn hn=>by grind⟩)
 exact⟨_,hst,r1,yV hH ho rfl r2 hset ⟨rfl,rfl,rfl⟩ o_⟩
def Cx:Nat->List V->List V
 |0,_=>[]
 |n+1,z=>z++Cx n z
theorem pP: ∀(n:Nat)(z:List V),(Cx n z).length=n*z.length
 |0,z=>by simp[Cx]
 |n+1,z=>by rw[Cx,aR,pP n z,fE];omega
theorem sY: ∀(n:Nat)(z:List V)(i:Nat),i<n*z.length->(Cx n z)[i]? =z[i%z.length]?
 |0,z,i,h=>by simp at h
 | n + 1, z, i, h => by
  rw[Cx]
  rcases cU i z.length with hi|hi
  .grind[Nat.mod_eq_of_lt]
  .rw[fE]at h
   rw[bU hi,sY n z _ o_,<-Nat.mod_eq_sub_mod hi]
theorem Rv{s:Av}{w:World}{n:Nat}{z:List V}{zs:Array Value}(h:RL s w z zs.toList):RL s w (Cx n z) (madeCells zs (n*zs.size)).toList:=by
 have hl:z.length=zs.size:=by simpa using h.length
 refine RL.mk ?_ λi x v hx hv=>?_
 .grind[pP,madeCells]
 .have hi:i<n*z.length:=by rw[<-pP];exact(aM.1 hx).1
  rw[sY n z i hi]at hx
  obtain⟨u,hu,hr⟩:=h.get hx
  grind[madeCells]
def Bj(G:Ca)(tm:TM)(nx:Nat)(o:Oper):Option (V×O):=
 match o.op with
 | .alloc t=>match G.ty t with
  |some {zero:=some z,.. }=>some (.ptr nx 0,.row t none z)
  | _=>none
 | .box t x=>match ev tm x with
  |some v=>some (.ptr nx 0,.row t none (Bi v))
  |none=>none
 | .buildSlice t len ps=>match G.ty t with
  | some { desc := .slice e, .. } => match G.ty e with
   | some { size := sz, zero := some z, .. } => bif Nat.ble (len * sz) 16777216 then
     bif Nat.beq (len*sz) 0 then(match len,ps.toList with|0,[]=>some (.sl nx 0 0 (some 0),.row e none [])| _,_=>none)
     else match Wj tm ps.toList with
      |some l=>match Kb (λi=>some (i*sz,sz)) (Cx len z) l with
       |some c=>some (.sl nx 0 len (some 0),.row e none c)
       |none=>none
      |none=>none
    else none
   | _=>none
  | _=>none
 | .makeSlice t l c=>match G.ty t,ev tm l,ev tm c with
  |some {desc:=.slice e,.. },some (.int _ l),some (.int _ c)=>match G.ty e with
   |some {bytes:=by_,zero:=some z,.. }=>if 0<=l/\l<=c/\(by_:Int)*c<=281474976710656/\c<=9223372036854775807 then some (.sl nx 0 l.toNat (some (c.toNat-l.toNat)),.row e none (Cx c.toNat z))else none
   | _=>none
  | _,_,_=>none
 | .makeMap t r=>match G.ty t with
  | some { desc := .map .., .. } => match r with
   |none=>some (.mp nx,.map [] 0)
   |some x=>match ev tm x with
    |some (.int ..)=>some (.mp nx,.map [] 0)
    | _=>none
  | _=>none
 | _=>none
theorem pI{P:Program}{G:Ca}(hG:G.Ok P){tm:TM}{H:Nat ->Option O}{o:Oper}{nx:Nat}{x:V}{ob:O}{s:Av}{w:World}{a:Act}(hH:RH s w H)(hT:RT s w tm a.tmps)(hn: ¬s.dom nx)(h:Bj G tm nx o=some (x,ob)):
  ∃v w' s',(execOp a.eval o).run P w= .ok (.value v) w'/\RV s' w' x v/\RH s' w' (Jm H nx ob)/\Br s w s' w' []/\(∀i,s'.dom i↔s.dom i\/i=nx):=by
 have hdom: ∀b c i,(s.ext nx b c).dom i↔s.dom i\/i=nx:=λ_ _ _=>fK
 unfold Bj at h
 split at h
 .rename_i t hop
  split at h
  .rename_i z hti
   cases h
   obtain⟨f,f1,f2,f3,f4,f5,f6⟩:=hG.ty _ _ hti
   obtain⟨zv,z1,z2,z3,_⟩:=f6 _ rfl
   obtain⟨g1,g2⟩:=TC (t:=t) hH hn (z3 s w)
   refine⟨_,_,_,?_,⟨Wp _ _ _ _,rfl⟩,g1,g2,hdom _ _⟩
   simp_all[execOp,Instr.alloc,zeroValue,typeInfo,newVar,newRow,Ig]
  .cases h
 .rename_i t ox hop
  split at h
  .rename_i v hv
   cases h
   obtain⟨g1,g2⟩:=TC (t:=t) hH hn (ZA (Bb hT hv))
   refine⟨_,_,_,?_,⟨Wp _ _ _ _,rfl⟩,g1,g2,hdom _ _⟩
   simp_all[execOp,Instr.box,newVar,newRow,Ig]
  .cases h
 .rename_i t len ps hop
  split at h
  .rename_i e _ _ _ _ ht
   split at h
   .rename_i sz _ _ z he
    obtain⟨f,f1,f2,f3,f4,f5,f6⟩:=hG.ty _ _ he
    obtain⟨zv,z1,z2,z3,_⟩:=f6 _ rfl
    obtain⟨ft,ft1,ft2,_⟩:=hG.ty _ _ ht
    cases hb:Nat.ble (len*sz) 16777216 with
    |false=>simp_all
    | true =>
     rw[hb,cond_true]at h
     have hle:=aI hb
     cases h0:Nat.beq (len*sz) 0 with
     | true =>
      rw[h0,cond_true]at h
      split at h
      .rename_i hps
       cases h
       obtain⟨g1,g2⟩:=TC (t:=e) (c:=[]) (vs:=[]) hH hn rfl
       refine⟨_,_,_,?_,⟨Wp _ _ _ _,0,rfl,aC _,λr hr=>?_,λh=>(by cases h)⟩,g1,g2,hdom _ _⟩
       .have hps':ps= #[]:=Array.toList_eq_nil_iff.1 hps
        simp[execOp,hop,Instr.buildSlice,hG.und ht,hG.sz he,hps',Instr.fill,newRow,Ig,show Array.range 0= #[]from rfl]
       .cases hr;rfl
      .cases h
     | false =>
      rw[h0,cond_false]at h
      have hne:=ZB h0
      split at h
      .rename_i l hl
       split at h
       .rename_i c hc
        cases h
        have hrep:RL s w (Cx len z) (madeCells zv.cells (len*zv.cells.size)).toList:=Rv (z3 s w)
        obtain⟨arr,a1,a2⟩:=ZD (place':=λi=>some (i*f.size,f.size)) (λi p hp=>by simp_all) (M7 hT hl) hrep hc
        obtain⟨g1,g2⟩:=TC (t:=e) hH hn a2
        refine⟨_,_,_,?_,⟨Wp _ _ _ _,len,rfl,aC _,λr hr=>(by cases hr;rfl),λh=>(by cases h)⟩,g1,g2,hdom _ _⟩
        have:=run_buildSlice (P:=P) w t e len (ps.map λ(i,x)=>(i,a.eval x)) arr f zv ft2 f1 z1 (by simp_all) (by simp_all) (by
         rw[<-z2]
         rw[<-z2]at a1
         rw[<-a1,fP]
         rfl)
        simp_all[execOp,Ig]
       .cases h
      .cases h
   .cases h
  .cases h
 .rename_i t ol oc hop
  split at h
  .rename_i e _ _ _ _ kl l kc c ht hl hc
   split at h
   .rename_i by_ _ z he
    split at h
    .rename_i hcond
     obtain⟨c1,c2,c3,c4⟩:=hcond
     cases h
     obtain⟨f,f1,f2,f3,f4,f5,f6⟩:=hG.ty _ _ he
     obtain⟨zv,z1,z2,z3,_⟩:=f6 _ rfl
     obtain⟨ft,ft1,ft2,_⟩:=hG.ty _ _ ht
     have hrep:RL s w (Cx c.toNat z) (madeCells zv.cells (c.toNat*zv.cells.size)).toList:=Rv (z3 s w)
     obtain⟨g1,g2⟩:=TC (t:=e) hH hn hrep
     have hl':a.eval ol= .int kl l:=Bb hT hl
     have hc':a.eval oc= .int kc c:=Bb hT hc
     refine⟨_,_,_,?_,⟨Wp _ _ _ _,c.toNat,rfl,o_,λr hr=>(by cases hr;omega),λh=>(by cases h)⟩,g1,g2,hdom _ _⟩
     have:=run_make (P:=P) w t e f zv ft2 f1 z1 kl kc l c c1 c2 (by simp_all) c4
     simp_all[execOp,Ig]
    .cases h
   .cases h
  .cases h
 .rename_i t r hop
  split at h
  .rename_i k e _ _ _ _ ht
   obtain⟨g1,g2,_⟩:=UB (c:=0) (o:=.map [] 0) (ob:=.map #[] 0) hH hn ⟨#[],by grind[Ig,World.alloc_heap_new],rfl⟩
   split at h
   .cases h
    refine⟨_,_,_,?_,⟨Wp _ _ _ _,rfl⟩,g1,g2,hdom _ _⟩
    simp_all[execOp,Instr.makeMap,Ig]
   .rename_i ox
    split at h
    .rename_i kk n hx
     cases h
     have hx':a.eval ox= .int kk n:=Bb hT hx
     refine⟨_,_,_,?_,⟨Wp _ _ _ _,rfl⟩,g1,g2,hdom _ _⟩
     simp[execOp,hop,Instr.makeMap,Ig,hG.und ht,asInt,asIntOf,hx']
    .cases h
  .cases h
 .cases h
def Fd(G:Ca)(tm:TM)(H:T O)(t:Nat)(x y:Operand):Option (T O×List Nat):=
 match G.ty t,ev tm x,ev tm y with
 |some ti,some (.ptr h off),some v=>match H.get h with
  |some (.row et sp c)=>bif Nat.beq (Bi v).length ti.size&&Bl (Bi v)&&Nat.ble (off+(Bi v).length) c.length then some (H.put h (.row et sp (ov c off (Bi v))),[h])else none
  | _=>none
 | _,_,_=>none
theorem co{P:Program}{G:Ca}(hG:G.Ok P){tm:TM}{H H':T O}{t:Nat}{x y:Operand}{lg:List Nat}{s:Av}{w:World}{a:Act}(hH:RH s w H.get)(hT:RT s w tm a.tmps)(h:Fd G tm H t x y=some (H',lg)):
  ∃w',(Instr.storeAt t (a.eval x) (a.eval y)).run P w= .ok () w'/\RH s w' H'.get/\Br s w s w' lg:=by
 unfold Fd at h
 split at h
 .rename_i ti hd off v hti hx hy
  split at h
  .rename_i et sp c ho
   cases hb:(Nat.beq (Bi v).length ti.size&&Bl (Bi v)&&Nat.ble (off+(Bi v).length) c.length)with
   |false=>simp_all
   |true=>
    rw[hb,cond_true]at h
    cases h
    simp only[aD]at hb
    have h1:=aF hb.1.1
    have h2:=aI hb.2
    have hv:=ZA (Bb hT hy)
    obtain⟨w',r1,r2,r3⟩:=oO (P:=P) hH ho hv hb.1.2 h2
    obtain⟨_,hp⟩:=Bb hT hx
    refine⟨w',?_,by grind[A9],r3⟩
    have hl:=hv.length
    simp only[cB]at hl
    rw[hp]
    simp only[Instr.storeAt,Instr.sureAddr,Sem.run_bind,Sem.run_pure,Result.andThen_ok,storeVar,hG.sz hti]
    simp_all
  .cases h
 .cases h
def A6(H:T O)(sz:Nat)(x:V):Option (Nat×List V):=
 match x with
 | .nils=>some (0,[])
 | .sl h off n _=>match H.get h with
  |some (.row _ _ c)=>bif Nat.ble (off+n*sz) c.length then some (n,(c.drop off).take (n*sz))else none
  | _=>none
 | .im n l=>bif Nat.ble (n*sz) l.length then some (n,l.take (n*sz))else none
 | _=>none
theorem mG{P:Program}{H:T O}{sz n:Nat}{x:V}{c:List V}{s:Av}{w:World}{u:Value}(hH:RH s w H.get)(hx:RV s w x u)(h:A6 H sz x=some (n,c)):
  ∃us,RL s w c us/\us.length=n*sz/\∀w',w'.heap=w.heap->(Builtin.firstCells sz n u).run P w'= .ok us.toArray w'/\(Builtin.lenOf u).run P w'= .ok n w':=by
 unfold A6 at h
 split at h
 .cases h;obtain rfl:=hx
  exact⟨[],rfl,by simp,λw' _=>⟨by trivial,by trivial⟩⟩
 .rename_i hd off m _
  split at h
  .rename_i et sp c' ho
   cases hb:Nat.ble (off+m*sz) c'.length with
   |false=>simp_all
   |true=>
    rw[hb,cond_true]at h
    cases h
    have hle:=aI hb
    obtain⟨_,cap,rfl,_⟩:=hx
    obtain⟨_,_,_,vs,rest,b1,b2,_⟩:=hH.obj _ _ ho rfl
    have hl:=b2.length
    have h1:(((vs.drop off).take (n*sz)).length)=n*sz:=by simp;omega
    refine⟨(vs.drop off).take (n*sz),(b2.drop off).take _,h1,λw' hw=>⟨run_firstCells_some w' sz n _ _ _ _ h1 (λj v hv=>?_),by trivial⟩⟩
    grind[Nd,World.cell?]
  .cases h
 .rename_i m l
  cases hb:Nat.ble (m*sz) l.length with
  |false=>simp_all
  | true =>
   rw[hb,cond_true]at h
   cases h
   have hle:=aI hb
   obtain⟨ad,cap,rfl,_,hl⟩:=hx
   by_cases hn:n=0
   .subst hn
    refine⟨[],by simp[RL],by simp,λw' _=>⟨?_,by trivial⟩⟩
    cases ad<;>simp[Builtin.firstCells,loadCells,loadCellsFrom]
   .obtain⟨b,off,rfl,hc⟩:=hl hn
    obtain⟨us,g1,g2⟩:=(hc.take (n*sz)).cells
    have h1:us.length=n*sz:=by rw[<-g1.length];simp;omega
    refine⟨us,g1,h1,λw' hw=>⟨run_firstCells_some w' sz n _ _ _ _ h1 (λj v hv=>?_),by trivial⟩⟩
    grind[Nd,World.cell?]
 .cases h
theorem ZN{P:Program}{w w':World}{t tx ty e e2:TypeId}{sz n len cap:Nat}{base:Option Addr}{u:Value}{us:List Value}(ht:(underlying t).run P w= .ok (.slice e) w)(hx:(underlying tx).run P w= .ok (.slice e2) w)(hsz:(sizeOf e).run P w= .ok sz w)
  (hl:(Builtin.lenOf u).run P w= .ok n w)(hc:(Builtin.firstCells sz n u).run P w= .ok us.toArray w)(hroom:len+n<=cap)
  (hst:match base with|some a=>(storeCells (a.add (len*sz)) us).run P w= .ok () w'|none=>w'=w):
  (Builtin.append_ #[t,tx] ty #[.slice base len cap,u]).run P w= .ok (.slice base (len+n) cap) w':=by
 simp only[Builtin.append_,List.getElem?_toArray,List.getElem?_cons_zero,List.getElem?_cons_succ,Sem.run_bind,ht,Result.andThen_ok,hsz,hx,Sem.run_pure]
 cases base with
 |none=>subst hst;simp[hl,hroom,hc]
 |some a=>simp[hl,hroom,hc,hst]
theorem qG{P:Program}{w:World}{t tx ty e e2:TypeId}{i:TypeInfo}{z v u:Value}{n len cap:Nat}{us os:List Value}{base:Option Addr}(ht:P.underlying t=some (.slice e))(hx:P.underlying tx=some (.slice e2))(hi:P.info? e=some i)(hz:i.zero=some z)
  (hv:v= .slice base len cap)(hl: ∀w',w'.heap=w.heap->(Builtin.firstCells i.size n u).run P w'= .ok us.toArray w'/\(Builtin.lenOf u).run P w'= .ok n w')(ho: ∀w',w'.heap=w.heap->(Builtin.firstCells i.size len v).run P w'= .ok os.toArray w')
  (hno:cap<len+n)(h63:len+n<=9223372036854775807)(hfit:(len+n)*i.bytes<=140737488355328):
  (Builtin.append_ #[t,tx] ty #[v,u]).run P w= .ok (.slice (some ⟨w.heap.size,0,none⟩) (len+n) (grownCap w (len+n) cap e))
   (w.drew.alloc (.cells (os.toArray++us.toArray++Builtin.zeroCells z.cells (grownCap w (len+n) cap e-(len+n))) e)):=by
 subst hv
 have hn: ¬(len+n<=cap):=o_
 have h63': ¬(9223372036854775807<((len:Int)+(n:Int))):=o_
 have h48': ¬(281474976710656<Builtin.nextslicecap (len+n) cap*i.bytes):=by have:=growslice_fits hno hfit;omega
 have h1:=(hl w rfl).2
 have h2:=(hl w.drew rfl).1
 have h3:=ho w.drew rfl
 simp[Builtin.append_,run_underlying ht,run_underlying hx,sizeOf,typeInfo,zeroValue,hi,hz,h1,hn,h63',h48',Question.forced,h2,h3,newRow,grownCap]
 grind
theorem RH.kill{s:Av}{w:World}{H:Nat->Option O}(hH:RH s w H)(h:Nat):RH s w (Jm H h .dead):=by
 refine⟨λg og hg hl=>?_,λg g' og og' hg hg' hl hl' e=>?_,hH.old⟩
 .unfold Jm at hg
  split at hg
  .cases hg;cases hl
  .exact hH.obj g og hg hl
 .unfold Jm at hg hg'
  split at hg
  .cases hg;cases hl
  .split at hg'
   .cases hg';cases hl'
   .exact hH.inj g g' og og' hg hg' hl hl' e
theorem pS{s:Av}{w:World}{H:Nat->Option O}{nx e sz need cap:Nat}{c:List V}{us:List Value}{rest:Array Value}(hH:RH s w H)(hn: ¬s.dom nx)(hc:RL s w c us)(hu:us.length=need*sz)(hrest:rest.size=(cap-need)*sz)(hcap:need<=cap):
  ∃s',RV s' (w.drew.alloc (.cells (us.toArray++rest) e)) (.sl nx 0 need none) (.slice (some ⟨w.heap.size,0,none⟩) need cap)/\RH s' (w.drew.alloc (.cells (us.toArray++rest) e)) (Jm H nx (.row e (some sz) c))/\
   Br s w s' (w.drew.alloc (.cells (us.toArray++rest) e)) []/\∀i,s'.dom i↔s.dom i\/i=nx:=by
 have hk:Ee s w.drew (w.drew.alloc (.cells (us.toArray++rest) e)):=λb hb=>Below.heap_alloc w.drew _ b (hH.old b hb)
 obtain⟨h1,h2,_⟩:=UB (c:=cap) (o:=.row e (some sz) c) (ob:=.cells (us.toArray++rest) e) hH.drew hn
  ⟨us,rest.toList,by rw[Ig,World.alloc_heap_new];simp,RL.mono (Av.ext_le hn) hk.k _ _ (RL.mono (w:=w) (w':=w.drew) (Av.Le.refl s) (λ_ _=>rfl) _ _ hc),λh=>(by cases h),λn hnn=>by
   cases hnn
   simp only[Ht,aR,cB,hrest,hu,<-eK]
   congr 1;omega⟩
 refine⟨s.ext nx w.drew.heap.size cap,⟨Wp _ _ _ _,cap,by rw[Ig];rfl,hcap,λr hr=>(by cases hr),λ_ _=>(Ht _ _ _ _).symm⟩,h1,?_,λ_=>fK⟩
 have:=(Br.refl s w []).drew.trans h2
 exact this
def Dg(G:Ca)(H:T O)(nx:Nat)(t tx:Nat)(x y:V):Option (V×T O×Nat×List Nat):=
 match G.ty t,G.ty tx with
 | some { desc := .slice e, .. }, some { desc := .slice _, .. } => match G.ty e with
  | some { size := sz, bytes := by_, zero := some _, .. } => match A6 H sz y with
   | some (n, news) => bif Nat.beq n 0 then (match x with
     | .nils=>some (.nils,H,nx,[])
     | .sl h off len room=>some (.sl h off len room,H,nx,[])
     | _=>none)
    else bif Nat.beq sz 0 then none
    else match x with
    | .nils=>bif Nat.ble n 9223372036854775807&&Nat.ble (n*by_) 140737488355328 then some (.sl nx 0 n none,H.put nx (.row e (some sz) news),nx+1,[])else none
    | .sl h off len room=>match room with
     | some r => bif Nat.ble n r then (match H.get h with
       |some (.row et sp c)=>bif Nat.ble (off+len*sz+news.length) c.length&&Bl news then some (.sl h off (len+n) (some (r-n)),H.put h (.row et sp (ov c (off+len*sz) news)),nx,[h])else none
       | _=>none)
      else(match A6 H sz (.sl h off len room)with
       |some (_,olds)=>bif Nat.ble (len+n) 9223372036854775807&&Nat.ble ((len+n)*by_) 140737488355328 then some (.sl nx 0 (len+n) none,H.put nx (.row e (some sz) (olds++news)),nx+1,[])else none
       |none=>none)
     |none=>match H.get h with
      | some (.row et (some sz') c) => bif Nat.beq off 0 && Nat.beq et e && Nat.beq sz' sz && Nat.beq c.length (len * sz) && Bl news && Nat.ble (len + n) 9223372036854775807 && Nat.ble ((len + n) * by_) 140737488355328 then
        some (.sl nx 0 (len+n) none,(H.put h .dead).put nx (.row e (some sz) (c++news)),nx+1,[h])else none
      | _=>none
    | _=>none
   |none=>none
  | _=>none
 | _,_=>none
theorem bz{P:Program}{G:Ca}(hG:G.Ok P){e:Nat}{i:TI}{z:List V}(he:G.ty e=some i)(hz:i.zero=some z): ∃f v,P.info? e=some f/\f.size=i.size/\f.bytes=i.bytes/\f.zero=some v/\v.cells.size=i.size:=by
 obtain⟨f,f1,_,f3,f4,_,f6⟩:=hG.ty _ _ he
 grind
theorem ic {P : Program} {G : Ca} (hG : G.Ok P) {H H' : T O} {t tx ty nx nx' : Nat} {x y r : V} {lg : List Nat} {s : Av} {w : World} {v u : Value} (hH : RH s w H.get) (hn : ∀ i, nx <= i -> ¬ s.dom i) (hx : RV s w x v) (hy : RV s w y u) (h : Dg G H nx t tx x y = some (r, H', nx', lg)) :
  ∃rv w' s',(Builtin.append_ #[t,tx] ty #[v,u]).run P w= .ok rv w'/\RV s' w' r rv/\RH s' w' H'.get/\Br s w s' w' lg/\(∀i,s'.dom i↔s.dom i\/nx<=i/\i<nx')/\nx<=nx':=by
 unfold Dg at h
 split at h
 .rename_i e _ _ _ _ e2 _ _ _ _ ht htx
  obtain⟨ft,ft1,ft2,_⟩:=hG.ty _ _ ht
  obtain⟨fx,fx1,fx2,_⟩:=hG.ty _ _ htx
  split at h
  .rename_i sz by_ _ z he
   obtain⟨f,zv,f1,f3,f4,z1,z2⟩:=bz hG he rfl
   have hs:=hG.sz he w
   have hdom0: ∀i,s.dom i↔s.dom i\/nx<=i/\i<nx:=λi=>⟨.inl,λh=>h.elim id (λh=>o_)⟩
   have hdom1: ∀{s':Av},(∀i,s'.dom i↔s.dom i\/i=nx)->∀i,s'.dom i↔s.dom i\/nx<=i/\i<nx+1:=λh i=>by grind
   have hnx:=hn nx (aC _)
   split at h
   .rename_i n news hsrc
    obtain⟨us,u1,u2,u3⟩:=mG (P:=P) hH hy hsrc
    have hnl:news.length=n*sz:=by rw[u1.length,u2]
    cases h0:Nat.beq n 0 with
    | true =>
     rw[h0,cond_true]at h
     have hn0:=aF h0
     subst hn0
     have hus:us=[]:=aE (by simpa using u2)
     subst hus
     split at h
     .cases h
      obtain rfl:=hx
      have:=ZN (P:=P) (w':=w) (ty:=ty) (len:=0) (cap:=0) (base:=none) (hG.und ht w) (hG.und htx w) hs (u3 w rfl).2 (u3 w rfl).1 (aC _) rfl
      exact⟨_,w,s,this,rfl,hH,Br.refl s w _,hdom0,aC _⟩
     .rename_i hd0 off0 len0 room0
      cases h
      obtain⟨hd,cap,rfl,hrest⟩:=hx
      have:=ZN (P:=P) (w':=w) (ty:=ty) (cap:=cap) (len:=len0) (base:=some ⟨s.μ hd0,off0,none⟩) (hG.und ht w) (hG.und htx w) hs (u3 w rfl).2 (u3 w rfl).1 hrest.1 rfl
      exact⟨_,w,s,this,⟨hd,cap,rfl,hrest⟩,hH,Br.refl s w _,hdom0,aC _⟩
     .cases h
    | false =>
     rw[h0,cond_false]at h
     have hn0:=ZB h0
     cases hz0:Nat.beq sz 0 with
     |true=>grind
     | false =>
      rw[hz0,cond_false]at h
      have hsz0:=ZB hz0
      have zc: ∀k,(Builtin.zeroCells zv.cells k).size=k*sz:=λk=>by rw[size_zeroCells,z2]
      split at h
      .-- onto nil
       obtain rfl:=hx
       cases hb:(Nat.ble n 9223372036854775807&&Nat.ble (n*by_) 140737488355328)with
       |false=>grind
       |true=>
        rw[hb,cond_true]at h
        cases h
        rw[aD]at hb
        have b1:=aI hb.1
        have b2:=aI hb.2
        have hrun:=qG (P:=P) (ty:=ty) (len:=0) (cap:=0) (os:=[]) (base:=none) ft2 fx2 f1 z1 rfl (by rw[f3];exact u3) (λw' _=>by trivial) o_ o_ (by grind)
        simp only[cM]at hrun
        obtain⟨s',r1,r2,r3,r4⟩:=pS (e:=e) (cap:=grownCap w n 0 e) (rest:=Builtin.zeroCells zv.cells (grownCap w n 0 e-n)) hH hnx u1 u2 (zc _) (grownCap_ge w n 0 e)
        grind[A9]
      .rename_i hd off len room
       split at h
       .rename_i r
        cases hr:Nat.ble n r with
        | true =>
         rw[hr,cond_true]at h
         have hnr:=aI hr
         split at h
         .rename_i et sp c ho
          cases hb:(Nat.ble (off+len*sz+news.length) c.length&&Bl news)with
          |false=>grind
          |true=>
           rw[hb,cond_true]at h
           cases h
           rw[aD]at hb
           obtain⟨hdm,cap,rfl,hcap,hroom,hcp⟩:=hx
           have hce:=hroom r rfl
           obtain⟨w',r1,r2,r3⟩:=oO (P:=P) hH ho u1 hb.2 (aI hb.1)
           have hrun:=ZN (P:=P) (w':=w') (ty:=ty) (cap:=cap) (len:=len) (base:=some ⟨s.μ hd,off,none⟩) (hG.und ht w) (hG.und htx w) hs (u3 w rfl).2 (u3 w rfl).1 o_ (by grind[Nd])
           exact⟨_,w',s,hrun,⟨hdm,cap,rfl,o_,λq hq=>(by cases hq;omega),λh=>(by cases h)⟩,by grind[A9],r3,hdom0,aC _⟩
         .cases h
        | false =>
         rw[hr,cond_false]at h
         have hnr:r<n:=by
          rcases cU r n with h|h
          .exact h
          .grind[Nat.ble_eq_true_of_le]
         split at h
         .rename_i m olds hso
          cases hb:(Nat.ble (len+n) 9223372036854775807&&Nat.ble ((len+n)*by_) 140737488355328)with
          |false=>grind
          | true =>
           rw[hb,cond_true]at h
           cases h
           rw[aD]at hb
           have b1:=aI hb.1
           have b2:=aI hb.2
           obtain⟨os,o1,o2,o3⟩:=mG (P:=P) hH hx hso
           obtain⟨hdm,cap,rfl,hcap,hroom,hcp⟩:=hx
           have hce:=hroom r rfl
           have hml:m=len:=by
            have:=(o3 w rfl).2
            simp[Builtin.lenOf]at this
            exact this.symm
           subst hml
           have hrun:=qG (P:=P) (ty:=ty) (len:=m) (cap:=cap) ft2 fx2 f1 z1 rfl (by rw[f3];exact u3) (λw' hw'=>by rw[f3];exact(o3 w' hw').1) o_ o_ (by grind)
           obtain⟨s',r1,r2,r3,r4⟩:=pS (e:=e) (sz:=sz) (need:=m+n) (cap:=grownCap w (m+n) cap e) (rest:=Builtin.zeroCells zv.cells (grownCap w (m+n) cap e-(m+n))) hH hnx (o1.append u1) (by grind) (zc _) (grownCap_ge w _ _ e)
           grind[A9]
         .cases h
       .split at h
        .rename_i et sz' c ho
         cases hb:(Nat.beq off 0&&Nat.beq et e&&Nat.beq sz' sz&&Nat.beq c.length (len*sz)&&Bl news&&Nat.ble (len+n) 9223372036854775807&&Nat.ble ((len+n)*by_) 140737488355328)with
         |false=>grind
         | true =>
          rw[hb,cond_true]at h
          cases h
          simp only[aD]at hb
          obtain⟨⟨⟨⟨⟨⟨e1,e2⟩,e3⟩,e4⟩,e5⟩,e6⟩,e7⟩:=hb
          have e1:=aF e1
          have e2:=aF e2
          have e3:=aF e3
          have e4:=aF e4
          have e6:=aI e6
          have e7:=aI e7
          subst e1 e2 e3
          obtain⟨hdm,cap,rfl,hcap,hroom,hcp⟩:=hx
          have hcap':=hcp rfl rfl
          obtain⟨a1,a2,a3,vs,rest,b1,b2,b3,b4⟩:=hH.obj _ _ ho rfl
          have hvl:=b2.length
          have htot:=b4 _ rfl
          rw[<-hcap',aR]at htot
          by_cases hfit:len+n<=cap
          .-- in place
           have hmul:(len+n)*sz'<=cap*sz':=bW _ hfit
           rw[eK]at hmul
           have hst:=run_storeCells_at P (s.μ hd) (len*sz') et us 0 _ w b1 (by simp;omega) (qB u1 e5)
           have hset: ∀b,b≠s.μ hd->(w.setRow (s.μ hd) ((vs++rest).toArray.toList.take (len*sz'+0)++us++(vs++rest).toArray.toList.drop (len*sz'+0+us.length)).toArray).heap[b]? =w.heap[b]? :=λb hb=>by
            grind[World.setRow]
           have hsz:(w.setRow (s.μ hd) ((vs++rest).toArray.toList.take (len*sz'+0)++us++(vs++rest).toArray.toList.drop (len*sz'+0+us.length)).toArray).heap.size=w.heap.size:=by simp[World.setRow]
           have hnew:(w.setRow (s.μ hd) ((vs++rest).toArray.toList.take (len*sz'+0)++us++(vs++rest).toArray.toList.drop (len*sz'+0+us.length)).toArray).heap[s.μ hd]? =some (.cells ((vs++us)++rest.drop us.length).toArray et (0,0)):=by
            rw[setRow_heap w _ _ _ _ _ b1]
            congr 2
            simp only[dE]
            have hv2:vs.length=len*sz':=o_
            rw[<-hv2,List.take_left,fN]
            simp
           have hrun:=ZN (P:=P) (ty:=ty) (cap:=cap) (len:=len) (base:=some ⟨s.μ hd,0,none⟩) (hG.und ht w) (hG.und htx w) hs (u3 w rfl).2 (u3 w rfl).1 hfit (by show(storeCells (Addr.add _ _) us).run P w=_;rw[Nd,cM];exact hst)
           have hk:Ee s w _:=λb hb=>hset b (λe=>a3 (e▸hb))
           have hH':=hH.kill hd
           have hlive: ∀g og,Jm H.get hd .dead g=some og->og.live=true->s.μ g≠s.μ hd:=by
            intro g og hg hl e
            unfold Jm at hg
            split at hg
            .cases hg;cases hl
            .rename_i hne;exact hne (hH.inj g hd og _ hg ho hl rfl e)
           have hput:=hH'.put (h:=nx) (b:=s.μ hd) (c:=cap) (o:=.row et (some sz') (c++news)) hnx (.inr ⟨a3,hlive⟩) hk (λg og hg hl=>hset _ (hlive g og hg hl)) o_ o_
            ⟨vs++us,rest.drop us.length,by rw[Ig];exact hnew,RL.mono (Av.ext_le hnx) hk.k _ _ (b2.append u1),λh=>(by cases h),λq hq=>by
             grind[Ht]⟩
           refine⟨_,_,s.ext nx (s.μ hd) cap,hrun,⟨Wp _ _ _ _,cap,by rw[Ig],hfit,λq hq=>(by cases hq),λ_ _=>(Ht _ _ _ _).symm⟩,by grind[A9],?_,hdom1 (λ_=>fK),o_⟩
           refine⟨Av.ext_le hnx,λ_ h=>.inl h,hk,⟨rfl,rfl,rfl,o_,λk _ hno=>hset k (λe=>hno ⟨hd,by simp,a1,e⟩)⟩,λi hi hno=>?_⟩
           rcases hi with hi|hi
           all_goals grind[Ig]
          .-- a new block
           have ho3: ∀w',w'.heap=w.heap->(Builtin.firstCells f.size len (.slice (some ⟨s.μ hd,0,none⟩) len cap)).run P w'= .ok vs.toArray w':=λw' hw'=>by
            grind[run_firstCells_some,Nd,World.cell?]
           have hrun:=qG (P:=P) (ty:=ty) (len:=len) (cap:=cap) ft2 fx2 f1 z1 rfl (by rw[f3];exact u3) ho3 o_ e6 (by grind)
           obtain⟨s',r1,r2,r3,r4⟩:=pS (e:=et) (sz:=sz') (need:=len+n) (cap:=grownCap w (len+n) cap et) (rest:=Builtin.zeroCells zv.cells (grownCap w (len+n) cap et-(len+n))) (hH.kill hd) hnx (b2.append u1) (by grind) (zc _) (grownCap_ge w _ _ et)
           have hcat:(vs++us).toArray=vs.toArray++us.toArray:=by simp
           rw[hcat]at r1 r2 r3
           exact⟨_,_,s',hrun,r1,by grind[A9],r3.more s_,hdom1 r4,o_⟩
        .cases h
      .cases h
   .cases h
  .cases h
 .cases h
def QU(m:Nat):V->V
 | .sl h off _ _=>.sl h off m (some 0)
 | .im _ l=>.im m l
 |v=>v
def CJ:V->Option Nat
 | .sl _ _ m _=>some m
 | .im m _=>some m
 | _=>none
def Kc(G:Ca)(H:T O)(t:Nat)(x y:V):Option (V×T O×List Nat):=
 match G.ty t with
 | some { desc := .slice e, .. } => match G.ty e with
  | some { size := sz, .. } => match x, CJ y with
   | .sl h off len _,some m=>match H.get h,A6 H sz (QU (Nat.min m len) y)with
    |some (.row et sp c),some (n,cs)=>bif Nat.beq n (Nat.min m len)&&Nat.ble (off+cs.length) c.length&&Bl cs then some (.int .i64 n,H.put h (.row et sp (ov c off cs)),[h])else none
    | _,_=>none
   | _,_=>none
  | _=>none
 | _=>none
theorem IB{P:Program}{y:V}{m k:Nat}{s:Av}{w:World}{u:Value}(hy:RV s w y u)(h:CJ y=some m)(hk:k<=m): ∃u',RV s w (QU k y) u'/\(∀w',(Builtin.lenOf u).run P w'= .ok m w')/\∀sz w',(Builtin.firstCells sz k u).run P w'=(Builtin.firstCells sz k u').run P w':=by
 cases y with
 |sl g off m' room=>
  cases h
  obtain⟨hd,cap,rfl,hle,_⟩:=hy
  exact⟨.slice (some ⟨s.μ g,off,none⟩) k k,⟨hd,k,rfl,aC _,λr hr=>(by cases hr;rfl),λh=>(by cases h)⟩,λw'=>by trivial,λsz w'=>rfl⟩
 |im m' l=>
  cases h
  obtain⟨a,cap,rfl,hle,hc⟩:=hy
  refine⟨.slice a k cap,⟨a,cap,rfl,o_,λhk0=>?_⟩,λw'=>by trivial,λsz w'=>by cases a<;>rfl⟩
  grind
 | _=>cases h
theorem Uy{P:Program}{G:Ca}(hG:G.Ok P){H H':T O}{t tx ty:Nat}{x y r:V}{lg:List Nat}{s:Av}{w:World}{v u:Value}(hH:RH s w H.get)(hx:RV s w x v)(hy:RV s w y u)(h:Kc G H t x y=some (r,H',lg)):
  ∃rv w',(Builtin.copy_ #[t,tx] ty #[v,u]).run P w= .ok rv w'/\RV s w' r rv/\RH s w' H'.get/\Br s w s w' lg:=by
 unfold Kc at h
 split at h
 .rename_i e _ _ _ _ ht
  split at h
  .rename_i sz _ _ _ he
   split at h
   .rename_i hd off len room m hm
    split at h
    .rename_i et sp c n cs ho hsrc
     cases hb:(Nat.beq n (Nat.min m len)&&Nat.ble (off+cs.length) c.length&&Bl cs)with
     |false=>simp_all
     | true =>
      rw[hb,cond_true]at h
      cases h
      simp only[aD]at hb
      have hn:=aF hb.1.1
      obtain⟨u',q1,q2,q3⟩:=IB (P:=P) hy hm (Nat.min_le_left m len)
      obtain⟨us,u1,u2,u3⟩:=mG (P:=P) hH q1 hsrc
      obtain⟨hdm,cap,rfl,hcap,hroom,hcp⟩:=hx
      obtain⟨w',r1,r2,r3⟩:=oO (P:=P) hH ho u1 hb.2 (aI hb.1.2)
      have hfc:(Builtin.firstCells sz (Nat.min m len) u).run P w= .ok us.toArray w:=by
       rw[q3]
       have h7:=(u3 w rfl).1
       rw[hn]at h7
       exact h7
      refine⟨goInt n,w',?_,rfl,by grind[A9],r3⟩
      have hs:=hG.sz he w
      have hu:=hG.und ht w
      simp_all[Builtin.copy_]
    .cases h
   .cases h
  .cases h
 .cases h
def Kq(_:Ca)(_:T O)(_:Nat)(_ _ _:V):Option (T O×List Nat):=none
theorem xU{P:Program}{G:Ca}(hG:G.Ok P){H H':T O}{t:Nat}{m key x:V}{um uk ux:Value}{lg:List Nat}{s:Av}{w:World}(hH:RH s w H.get)(hm:RV s w m um)(hk:RV s w key uk)(hx:RV s w x ux)(h:Kq G H t m key x=some (H',lg)):
  ∃w',(Instr.mapUpdate t um uk ux).run P w= .ok () w'/\RH s w' H'.get/\Br s w s w' lg:=by cases h
def Mz(_:Ca)(_:T O)(_:Nat)(_ _:V):Option (V×T O×List Nat):=none
def M9(_:T O)(_ _ _:V):Option (T O×List Nat):=none
def Rw(_:Ca)(_:T O)(_:Nat)(_:V):Option O:=none
def Ul(_:T O)(_:V):Option V:=none
def PI(_:T O)(_:V):Option (List (V×T O)×Nat):=none
mutual
def T4:V->Bool
 | .bool _| .int _ _| .str _| .nilp| .nilf| .nili| .nils| .nilm=>true
 | .agg l=>M1 l
 | .tup l=>M1 l
 | .fn _ l=>M1 l
 | .mfn _ l=>M1 l
 | .ifc _ x=>T4 x
 | .ptr .. | .sl .. | .mp .. | .yld .. | .im .. | .imp .. =>false
def M1:List V->Bool
 |[]=>true
 |x::xs=>T4 x&&M1 xs
end
mutual
theorem I9{s s':Av}{w w':World}: ∀(x:V)(v:Value),T4 x=true->RV s w x v->RV s' w' x v
 | .bool _,_,_,h| .int _ _,_,_,h| .str _,_,_,h| .nilp,_,_,h| .nilf,_,_,h| .nili,_,_,h| .nils,_,_,h| .nilm,_,_,h=>h
 | .agg l,_,hg,⟨vs,e,h⟩=>⟨vs,e,SI l vs.toList hg h⟩
 | .tup l,_,hg,⟨vs,e,h⟩=>⟨vs,e,SI l vs.toList hg h⟩
 | .fn _ l,_,hg,⟨vs,e,h⟩=>⟨vs,e,SI l vs.toList hg h⟩
 | .mfn _ l,_,hg,⟨vs,e,h⟩=>⟨vs,e,SI l vs.toList hg h⟩
 | .ifc _ x,_,hg,⟨u,e,h⟩=>⟨u,e,I9 x u hg h⟩
 | .ptr ..,_,hg,_| .sl ..,_,hg,_| .mp ..,_,hg,_| .yld ..,_,hg,_| .im ..,_,hg,_| .imp ..,_,hg,_=>by cases hg
theorem SI{s s':Av}{w w':World}: ∀(l:List V)(vs:List Value),M1 l=true->RL s w l vs->RL s' w' l vs
 |[],_,_,h=>h
 |x::xs,_,hg,⟨v,vs',e,hx,hl⟩=>by
  unfold M1 at hg
  rw[aD]at hg
  exact⟨v,vs',e,I9 x v hg.1 hx,SI xs vs' hg.2 hl⟩
end
mutual
def Gv:V->V->Bool
 | .bool a,y=>match y with| .bool b=>a==b| _=>false
 | .int k a,y=>match y with| .int k' b=>decide (k=k')&&decide (a=b)| _=>false
 | .str _,_=>false
 | .nilp,y=>match y with| .nilp=>true| _=>false
 | .nilf,y=>match y with| .nilf=>true| _=>false
 | .nili,y=>match y with| .nili=>true| _=>false
 | .nils,y=>match y with| .nils=>true| _=>false
 | .nilm,y=>match y with| .nilm=>true| _=>false
 | .ptr h o,y=>match y with| .ptr k p=>Nat.beq h k&&Nat.beq o p| _=>false
 | .sl h o n r,y=>match y with| .sl k p m q=>Nat.beq h k&&Nat.beq o p&&Nat.beq n m&&decide (r=q)| _=>false
 | .mp h,y=>match y with| .mp k=>Nat.beq h k| _=>false
 | .fn f l,y=>match y with| .fn k m=>Nat.beq f k&&Ip l m| _=>false
 | .mfn f l,y=>match y with| .mfn k m=>Nat.beq f k&&Ip l m| _=>false
 | .yld h,y=>match y with| .yld k=>Nat.beq h k| _=>false
 | .agg l,y=>match y with| .agg m=>Ip l m| _=>false
 | .tup l,y=>match y with| .tup m=>Ip l m| _=>false
 | .ifc t v,y=>match y with| .ifc k u=>Nat.beq t k&&Gv v u| _=>false
 | .im n l,y=>match y with| .im k m=>Nat.beq n k&&Ip l m| _=>false
 | .imp l,y=>match y with| .imp m=>Ip l m| _=>false
def Ip:List V->List V->Bool
 |[],[]=>true
 |x::xs,y::ys=>Gv x y&&Ip xs ys
 | _,_=>false
end
mutual
theorem Gd: ∀(x y:V),Gv x y=true->x=y
 | .bool _,y,h| .int _ _,y,h| .str _,y,h| .nilp,y,h| .nilf,y,h| .nili,y,h| .nils,y,h| .nilm,y,h| .ptr _ _,y,h| .sl _ _ _ _,y,h| .mp _,y,h| .yld _,y,h=>by cases y<;>simp_all[Gv]
 | .fn f l,y,h=>by cases y<;>simp[Gv]at h;rw[h.1,Ef l _ h.2]
 | .mfn f l,y,h=>by cases y<;>simp[Gv]at h;rw[h.1,Ef l _ h.2]
 | .agg l,y,h=>by cases y<;>simp[Gv]at h;rw[Ef l _ h]
 | .tup l,y,h=>by cases y<;>simp[Gv]at h;rw[Ef l _ h]
 | .ifc t v,y,h=>by cases y<;>simp[Gv]at h;rw[h.1,Gd v _ h.2]
 | .im n l,y,h=>by cases y<;>simp[Gv]at h;rw[h.1,Ef l _ h.2]
 | .imp l,y,h=>by cases y<;>simp[Gv]at h;rw[Ef l _ h]
theorem Ef: ∀(l m:List V),Ip l m=true->l=m
 |[],m,h=>by grind[Ip]
 | x :: xs, m, h => by
  cases m with
  |nil=>trivial
  |cons y ys=>
   simp only[Ip,aD]at h
   rw[Gd x y h.1,Ef xs ys h.2]
end
inductive Ex where
 |normal
 |exit(id:Nat)
 |ret
 |pan(v:V)
structure St where
 tm:TM
 H:T O
 nx:Nat
 lg:List Nat
structure FI where
 body:Code
 ntmps:Nat
 res:List ResultVar
structure B9 where
 G:Ca
 code:Nat->Option FI
 hook:Nat->List V->T O->T (List V)->Option V
 ext:Nat->List V->Option V
structure CR where
 v:V
 H:T O
 nx:Nat
 lg:List Nat
abbrev Dq:=V->List V->T O->Nat->Option CR
def Fg(E:B9):V->List V->Option V
 | .fn f [],l=>E.ext f l
 | _,_=>none
def Dp(E:B9)(call:Dq)(tm:TM)(H:T O)(nx:Nat)(o:Oper):Option CR:=
 match o.op with
 | .store t x y=>match Fd E.G tm H t x y with
  |some (H',lg)=>some ⟨.tup [],H',nx,lg⟩
  |none=>none
 | .mapUpdate t m k v| .insert t m k v=>match ev tm m,ev tm k,ev tm v with
  |some m,some k,some v=>match Kq E.G H t m k v with
   |some (H',lg)=>some ⟨.tup [],H',nx,lg⟩
   |none=>none
  | _,_,_=>none
 | .mapEntry t m k=>match ev tm m,ev tm k with
  |some m,some k=>match Mz E.G H t m k with
   |some (r,H',lg)=>some ⟨r,H',nx,lg⟩
   |none=>none
  | _,_=>none
 | .entryStore _ m s v=>match ev tm m,ev tm s,ev tm v with
  |some m,some s,some v=>match M9 H m s v with
   |some (H',lg)=>some ⟨.tup [],H',nx,lg⟩
   |none=>none
  | _,_,_=>none
 | .range t x=>match ev tm x with
  |some x=>match Rw E.G H t x with
   |some ob=>some ⟨.ptr nx 0,H.put nx ob,nx+1,[]⟩
   |none=>none
  |none=>none
 | .entry x=>match ev tm x with
  |some x=>match Ul H x with
   |some v=>some ⟨v,H,nx,[]⟩
   |none=>none
  |none=>none
 | .call c=>match c.callee with
  | .builtin .append=>match c.args.toList,c.argTypes.toList with
   | [x, y], [t, tx] => match ev tm x, ev tm y with
    |some x,some y=>match Dg E.G H nx t tx x y with
     |some (r,H',nx',lg)=>some ⟨r,H',nx',lg⟩
     |none=>none
    | _,_=>none
   | _,_=>none
  | .builtin .copy=>match c.args.toList,c.argTypes.toList with
   | [x, y], [t, tx] => match ev tm x, ev tm y with
    |some x,some y=>match Kc E.G H t x y with
     |some (r,H',lg)=>some ⟨r,H',nx,lg⟩
     |none=>none
    | _,_=>none
   | _,_=>none
  | .value f=>match ev tm f,L3 tm c.args.toList with
   |some f,some l=>match Fg E f l with
    |some v=>some ⟨v,H,nx,[]⟩
    |none=>call f l H nx
   | _,_=>none
  | _=>none
 | _=>none
inductive OR where
 |calm(v:V)(rd:List Nat)
 |alloc(v:V)(o:O)
 |eff(r:CR)
def G1(E:B9)(call:Dq)(tm:TM)(H:T O)(nx:Nat)(o:Oper):Option OR:=
 match calm E.G tm H.get o with
 |some (v,rd)=>some (.calm v rd)
 | none => match Bj E.G tm nx o with
  |some (v,ob)=>some (.alloc v ob)
  |none=>match Dp E call tm H nx o with
   |some r=>some (.eff r)
   |none=>none
def Cc(tm:TM)(ops:Array Oper)(o:Oper):Option Bool:=
 match o.guard with
 |none=>some true
 | some (j, want) => match (ops[j]?).bind (·.dst) with
  |some d=>match tm.sl.get d with
   |some (.bool b)=>some (b==want)
   |some (.tup [])=>some false
   | _=>none
  |none=>none
def D1(E:B9)(call:Dq)(ops:Array Oper):List Oper->St->Option St
 |[],st=>some st
 | o :: l, st => match Cc st.tm ops o with
  |some true=>match G1 E call st.tm st.H st.nx o with
   |some (.calm v _)=>D1 E call ops l ⟨st.tm.put o.dst v,st.H,st.nx,st.lg⟩
   |some (.alloc v ob)=>D1 E call ops l ⟨st.tm.put o.dst v,st.H.put st.nx ob,st.nx+1,st.lg⟩
   |some (.eff r)=>D1 E call ops l ⟨st.tm.put o.dst r.v,r.H,r.nx,r.lg++st.lg⟩
   |none=>none
  |some false=>D1 E call ops l ⟨st.tm.put o.dst (.tup []),st.H,st.nx,st.lg⟩
  |none=>none
def O8(a b:List Nat):Bool:=a.all λx=> !b.contains x
def Jz(o:Oper):Bool:=
 match o.op with
 | .store .. | .mapUpdate .. | .insert .. | .mapEntry .. | .entryStore .. | .range .. | .entry .. =>true
 | .call c=>match c.callee with
  | .builtin .len| .builtin .min| .builtin .max=>false
  | _=>true
 | _=>false
def Vh(mask m k:Nat):List Nat:=(List.range k).filter λi=>mask.testBit i&& !m.testBit i
def Hv(bf:Array Nat)(n:Nat):List Oper->Nat->Nat->List Nat
 |[],_,m=>(List.range n).filter λi=> !m.testBit i
 |o::l,k,m=>bif Jz o then Vh (bf.getD k 0) m k++k::Hv bf n l (k+1) (m|||bf.getD k 0|||2^k)else Hv bf n l (k+1) m
def KU(ops:Array Oper)(bf:Array Nat):List Nat->Nat->Bool
 |[],m=>Nat.beq m (2^ops.size-1)
 |j::l,m=>match ops[j]? with
  |some o=> !m.testBit j&&(bif Jz o then Nat.beq m (bf.getD j 0)else Nat.beq (m&&& bf.getD j 0) (bf.getD j 0))&&KU ops bf l (m|||2^j)
  |none=>false
def AO:List Nat->Bool
 |[]=>true
 |x::xs=> !xs.contains x&&AO xs
def JC(ops:Array Oper):Bool:=ops.toList.zipIdx.all λp=>p.1.after.toList.all λe=> !Region.binds .any e||Nat.blt e.on p.2
def S8(bf:Array Nat)(o:Oper):Nat:=o.after.toList.foldl (λs e=>bif Region.binds .any e then s|||(2^e.on|||bf.getD e.on 0)else s) 0
def lG(ops:Array Oper)(bf:Array Nat):Bool:=ops.toList.zipIdx.all λp=>Nat.beq (bf.getD p.2 0) (S8 bf p.1)
def lC(ops:Array Oper)(bf:Array Nat):Bool:=ops.toList.zipIdx.all λp=>ops.toList.zipIdx.all λq=> !Nat.blt q.2 p.2||(bf.getD p.2 0).testBit q.2||q.1.apart ops p.1
def Nr(ops:Array Oper):Bool:=
 JC ops&&lG ops (Region.before ops)&&lC ops (Region.before ops)&&AO (ops.toList.filterMap (·.dst))&&KU ops (Region.before ops) (Hv (Region.before ops) ops.size ops.toList 0 0) 0
inductive Kd where
 |put(x:V)(rd:List Nat)
 |new(x:V)(ob:O)
 |eff(r:CR)
def Em(E:B9)(call:Dq)(ops:Array Oper)(j:Nat)(st:St):Option Kd:=
 match ops[j]? with
 |none=>none
 | some o => match Cc st.tm ops o with
  | some true => match calm E.G st.tm st.H.get o with
   |some (v,rd)=>some (.put v rd)
   |none=>match Bj E.G st.tm st.nx o with
    |some (v,ob)=>some (.new v ob)
    | none => bif Jz o then (match Dp E call st.tm st.H st.nx o with
      |some r=>some (.eff r)
      |none=>none)else none
  |some false=>some (.put (.tup []) [])
  |none=>none
abbrev Ew:=List (Nat×List Nat)
def Dl(E:B9)(call:Dq)(ops:Array Oper)(bf:Array Nat)(j:Nat)(p:St×Ew):Option (St×Ew):=
 match Em E call ops j p.1 with
 |some (.put x rd)=>bif p.2.all λq=>(bf.getD j 0).testBit q.1||O8 rd q.2 then some (⟨p.1.tm.put ((ops[j]?).bind (·.dst)) x,p.1.H,p.1.nx,p.1.lg⟩,p.2)else none
 |some (.new x ob)=>some (⟨p.1.tm.put ((ops[j]?).bind (·.dst)) x,p.1.H.put p.1.nx ob,p.1.nx+1,p.1.lg⟩,p.2)
 |some (.eff r)=>some (⟨p.1.tm.put ((ops[j]?).bind (·.dst)) r.v,r.H,r.nx,r.lg++p.1.lg⟩,(j,r.lg)::p.2)
 |none=>none
def D7(E:B9)(call:Dq)(ops:Array Oper)(bf:Array Nat):List Nat->St×Ew->Option (St×Ew)
 |[],p=>some p
 |j::l,p=>match Dl E call ops bf j p with
  |some q=>D7 E call ops bf l q
  |none=>none
def Hb(E:B9)(call:Dq)(ops:Array Oper)(st:St):Option St:=
 bif Nr ops then(match D7 E call ops (Region.before ops) (Hv (Region.before ops) ops.size ops.toList 0 0) (st,[])with
  |some p=>some p.1
  |none=>none)else none
def HN:T V->T V->Bool
 | .e,t=>match t with| .e=>true| _=>false
 | .n l v r,t=>match t with
  | .n l' v' r'=>HN l l'&&(match v,v' with|none,none=>true|some x,some y=>Gv x y| _,_=>false)&&HN r r'
  | _=>false
def KM:List (V×V×Nat)->List (V×V×Nat)->Bool
 |[],l=>match l with|[]=>true| _=>false
 |x::l,m=>match m with
  |y::m=>Gv x.1 y.1&&Gv x.2.1 y.2.1&&Nat.beq x.2.2 y.2.2&&KM l m
  |[]=>false
def jP:Option O->Option O->Bool
 |some (.row t sp c),some (.row t' sp' c')=>Nat.beq t t'&&decide (sp=sp')&&Ip c c'
 |some .dead,some .dead=>true
 |some (.map es c),some (.map es' c')=>KM es es'&&Nat.beq c c'
 | _,_=>false
def Q3(n:Nat)(r q:St):Bool:=
 Nat.beq r.nx n&&Nat.beq q.nx n&&Nat.beq r.tm.n q.tm.n&&(match r.tm.gl,q.tm.gl with| .e,.e=>true| _,_=>false)&&HN r.tm.sl q.tm.sl&&(r.lg++q.lg).all (λh=>jP (r.H.get h) (q.H.get h))&&q.lg.all (λh=>r.lg.contains h)
def Jh(E:B9)(call:Dq)(ops:Array Oper):Nat ->Array Bool ->St ->Option St
 |0,b,st=>match Region.ready .any ops b with|[]=>some st| _=>none
 | f + 1, b, st => match Region.ready .any ops b with
  |[]=>some st
  | i :: l => match (ops[i]?).bind (λo => (D1 E call ops [o] st).bind (Jh E call ops f (b.setIfInBounds i true))) with
   |some r=>bif l.all (λk=>match(ops[k]?).bind (λo=>(D1 E call ops [o] st).bind (Jh E call ops f (b.setIfInBounds k true)))with
    |some q=>Q3 st.nx r q
    |none=>false)then some r else none
   |none=>none
def kY(ops:Array Oper)(na:Nat):Bool:=
 Nat.ble na ops.size&&(ops.toList.all λo=>o.guard.isNone)&&JC (ops.extract 0 na)&&ops.toList.zipIdx.all λp=>Nat.blt p.2 na||(List.range na).all λk=>p.1.after.toList.any λe=>Region.binds .any e&&Nat.beq e.on k
def Tk(E:B9)(call:Dq)(ops:Array Oper)(st:St):Option St:=
 bif kY ops (ops.size-3)then(match Hb E call (ops.extract 0 (ops.size-3)) st with
  |some st1=>match Jh E call ops (ops.size-(ops.size-3)) (Array.replicate (ops.size-3) true++Array.replicate (ops.size-(ops.size-3)) false) ⟨st1.tm,st1.H,st1.nx,[]⟩with
   |some r=>some ⟨r.tm,r.H,r.nx,r.lg++st1.lg⟩
   |none=>none
  |none=>none)else none
def jU(_:B9)(_:Dq)(_:Array Oper)(_:St):Option St:=none
def LG(E:B9)(call:Dq)(ops:Array Oper)(st:St):Option St:=match Hb E call ops st with
 |some st'=>some st'
 |none=>match Tk E call ops st with
  |some st'=>some st'
  |none=>jU E call ops st
def JB:Nat->Nat->T V
 |0,_=>.e
 |f+1,n=>bif Nat.beq n 0 then .e else .n (JB f (n/2)) none (JB f ((n-1)/2))
def B0(n:Nat):T V:=JB (n+1) n
def Cf:T V->Nat->List V->T V
 |t,_,[]=>t
 |t,i,x::xs=>Cf (t.put i x) (i+1) xs
def Iy:TM->List Nat->List V->Option TM
 |t,[],[]=>some t
 |t,p::ps,x::xs=>Iy (t.put (some p) x) ps xs
 | _,_,_=>none
def FQ(G:Ca)(tm:TM)(H:T O):ResultVar->Option V
 | .tmp t=>tm.sl.get t
 | .cell a t=>match tm.sl.get a,G.ty t with
  |some (.ptr h off),some ti=>match H.get h with
   |some (.row _ _ c)=>E4 ti (c.drop off)
   | _=>none
  | _,_=>none
def Lq(G:Ca)(tm:TM)(H:T O):List ResultVar->Option (List V)
 |[]=>some []
 |r::rs=>match FQ G tm H r,Lq G tm H rs with
  |some v,some vs=>some (v::vs)
  | _,_=>none
def Db(G:Ca)(tm:TM)(H:T O)(rs:List ResultVar):Option V:=
 match Lq G tm H rs with
 |some [v]=>some v
 |some l=>some (.tup l)
 |none=>none
def Ex.pend:Ex->Option Code
 | .normal=>none
 | .exit id=>some (.exit id)
 | .ret=>some .ret
 | .pan _=>some .ret
def HA:Option O->Bool
 |some (.loop ..)=>true
 | _=>false
abbrev Rs:=List (Ex×St)
abbrev UM:=Option Nat->Code->St->Option Rs
def Nv(k:St->Option Rs):Rs->Option Rs
 |[]=>some []
 |(.normal,st)::l=>match k st,Nv k l with
  |some a,some b=>some (a++b)
  | _,_=>none
 |x::l=>match Nv k l with
  |some b=>some (x::b)
  |none=>none
def blockN(id:Nat):Rs->Rs
 |[]=>[]
 |(.exit i,st)::l=>(bif Nat.beq i id then(.normal,st)else(.exit i,st))::blockN id l
 |x::l=>x::blockN id l
def one?:Option St->Option Rs
 |some st=>some [(.normal,st)]
 |none=>none
def E5(ops:Array Oper):Option (Operand×Oper×List Oper):=
 match ops.toList with
 |o::l=>match o.guard,o.op with
  |none,.next it false=>some (it,o,l)
  | _,_=>none
 |[]=>none
def CW(f:V×T O->Option St):List (V×T O)->Option Rs
 |[]=>some []
 |p::l=>match f p,CW f l with
  |some st,some r=>some ((.normal,st)::r)
  | _,_=>none
def Nx(E:B9)(call:Dq)(ops:Array Oper)(it:Operand)(o:Oper)(l:List Oper)(st:St):Option Rs:=
 match ev st.tm it with
 |some x=>match PI st.H x with
  |some (L,h)=>CW (λp=>D1 E call ops l ⟨st.tm.put o.dst p.1,p.2,st.nx,h::st.lg⟩) L
  |none=>none
 |none=>none
def AT(E:B9)(call:Dq)(ops:Array Oper)(draw:Bool)(st:St):Option Rs:=
 bif draw then one? (LG E call ops st)else match E5 ops with
  |some (it,o,l)=>Nx E call ops it o l st
  |none=>one? (D1 E call ops ops.toList st)
def Sf(nx:Nat)(lg:List Nat):Bool:=lg.all λh=>Nat.ble nx h
def I4(G:Ca)(rs:List ResultVar)(nx:Nat):Ex×St->Option V
 |(.normal,st)|(.ret,st)=>match Db G st.tm st.H rs with
  |some v=>bif T4 v&&Sf nx st.lg&&Nat.ble nx st.nx then some v else none
  |none=>none
 | _=>none
def Ob(G:Ca)(rs:List ResultVar)(nx:Nat):Rs->Option V
 |[]=>none
 |[x]=>I4 G rs nx x
 |x::l=>match I4 G rs nx x,Ob G rs nx l with
  |some v,some u=>bif Gv v u then some u else none
  | _,_=>none
def LM(E:B9)(ex:UM)(gl:T (List V)):Dq:=λc args H nx=>
 match c with
 | .fn f caps=>match E.hook f (args++caps) H gl with
  |some v=>some ⟨v,H,nx,[]⟩
  | none => match E.code f with
   | some fi => bif Nat.ble (args ++ caps).length fi.ntmps then
    (match ex none fi.body ⟨⟨Cf (B0 fi.ntmps) 0 (args++caps),gl,fi.ntmps⟩,H,nx,[]⟩with
    |some [(.normal,st)]|some [(.ret,st)]=>match Db E.G st.tm st.H fi.res with
     |some v=>some ⟨v,st.H,st.nx,st.lg⟩
     |none=>none
    |some l=>match Ob E.G fi.res nx l with
     |some v=>some ⟨v,H,nx,[]⟩
     |none=>none
    |none=>none)else none
   |none=>none
 | .yld h=>match H.get h with
  | some (.loop .ready _ _ tm ps assign body) => match Iy tm ps args with
   | some tm1 => match ex (some h) assign ⟨tm1, H, nx, []⟩ with
    | some [(.normal, st1)] => match st1.H.get h with
     | some (.loop .ready pd fn1 tm1 ps1 as1 bd1) => match ex (some h) body ⟨st1.tm, st1.H.put h (.loop .busy pd fn1 tm1 ps1 as1 bd1), st1.nx, h :: st1.lg⟩ with
      |some [(e,st2)]=>match st2.H.get h with
       |some (.loop _ _ fn2 tm2 ps2 as2 bd2)=>some ⟨.bool e.pend.isNone,st2.H.put h (.loop (bif e.pend.isNone then .ready else .done) e.pend fn2 tm2 ps2 as2 bd2),st2.nx,h::st2.lg⟩
       | _=>none
      | _=>none
     | _=>none
    | _=>none
   |none=>none
  | _=>none
 | _=>none
def Jg(E:B9)(ex:UM)(gl:T (List V)):Dq:=λc args H nx=>
 match c with
 | .mfn f l=>LM E ex gl (.fn f []) (l++args) H nx
 |c=>LM E ex gl c args H nx
def Kl(rd:Option Nat)(H:T O):Bool:=match rd with|none=>true|some h=>HA (H.get h)
def Dh(E:B9):Nat ->UM
 |0,_,_,_=>none
 | n + 1, rd, c, st => match c with
  | .skip=>some [(.normal,st)]
  | .label _=>some [(.normal,st)]
  | .seq a b=>match Dh E n rd a st with
   |some l=>Nv (Dh E n rd b) l
   |none=>none
  | .region _ ops draw=>AT E (Jg E (Dh E n) st.tm.gl) ops draw st
  | .cond c a b=>match ev st.tm c with
   |some (.bool t)=>Dh E n rd (bif t then a else b) st
   | _=>none
  | .block id b=>match Dh E n rd b st with
   |some l=>some (blockN id l)
   |none=>none
  | .loop b=>match Dh E n rd b st with
   |some l=>Nv (Dh E n rd (.loop b)) l
   |none=>none
  | .scope b=>Dh E n rd b st
  | .exit id=>some [(.exit id,st)]
  | .ret=>some [(.ret,st)]
  | .rangeFunc g ps assign body=>match ev st.tm g with
   | some (.fn f caps) => bif Kl rd st.H then
    (match Jg E (Dh E n) st.tm.gl (.fn f caps) [.yld st.nx] (st.H.put st.nx (.loop .ready none 0 st.tm ps.toList assign body)) (st.nx+1)with
    |some r=>match r.H.get st.nx with
     |some (.loop .ready none ..)=>some [(.normal,⟨st.tm,r.H.put st.nx .dead,r.nx,r.lg++st.lg⟩)]
     |some (.loop .done (some c) ..)=>Dh E n rd c ⟨st.tm,r.H.put st.nx .dead,r.nx,r.lg++st.lg⟩
     | _=>none
    |none=>none)else none
   | _=>none
  | _=>none
def FF:Option Nat->Fence
 |none=>Fence.wide
 |some l=>Fence.wide.inRound l
theorem Vx(l:Option Nat)(f:Nat):(FF l).fn f:=by cases l<;>trivial
theorem xD(l:Option Nat):(FF l).depth=none:=by cases l<;>rfl
theorem BE(l:Option Nat)(n:Nat):(FF l).room n:=λd h=>by grind[xD]
theorem pW{P:Program}{f:Nat}{ars:Array Value}{w:World}{R:Ending->World->Prop}{n m:Nat}(l:Option Nat)(h:CallsIn Fence.wide n P f ars w R):CallsIn (FF l) m P f ars w R:=by
 cases l with
 |none=>exact⟨trivial,λcs _=>h.2 cs (room_wide _)⟩
 |some l=>exact⟨trivial,λcs _=>h.2 cs (room_wide _)⟩
theorem gn{P:Program}{k f:Nat}{tm:Array Value}{c b:Code}{w:World}{R:Ending->World->Prop}{n m:Nat}(l:Option Nat)(h:RoundIn Fence.wide n P k f tm c b w R):RoundIn (FF l) m P k f tm c b w R:=by
 cases l with
 |none=>exact⟨trivial,λc cs _=>h.2 c cs (room_wide _)⟩
 |some l=>exact⟨trivial,λc cs _=>h.2 c cs (room_wide _)⟩
def BD(P:Program)(R:Ending->World->Prop):Next->World->Prop
 | .enter f ars,w=>CallsIn Fence.wide 4 P f ars w R
 | .round l f tm a b,w=>RoundIn Fence.wide 3 P l f tm a b w R
 | _,_=>False
def Ge(s:Av)(w:World)(nx:Nat)(r:CR):Ending->World->Prop:=λe w'=>
 ∃v s',e= .returned v/\RV s' w' r.v v/\RH s' w' r.H.get/\Br s w s' w' r.lg/\(∀i,s'.dom i↔s.dom i\/nx<=i/\i<r.nx)/\nx<=r.nx
def GL(s:Av)(w:World)(gl:T (List V)):Prop:=∀g l,gl.get g=some l->RC s w l g 0
def Na(P:Program)(gl:T (List V))(call:Dq):Prop:=
 ∀{c:V}{args:List V}{H:T O}{nx:Nat}{r:CR}{s:Av}{w:World}{fv:Value}{vals:Array Value},call c args H nx=some r->RV s w c fv->RL s w args vals.toList->RH s w H.get->GL s w gl->(∀i,nx<=i->¬s.dom i)->
  ∃next,((do let d<-Deferred.ofValue fv vals;invoke d.target d.args):Sem Next).run P w= .ok next w/\BD P (Ge s w nx r) next w/\((∃f caps,c= .fn f caps)->∃f ars,next= .enter f ars)
theorem j7{P:Program}{l:Option Nat}{o:Oper}{a:Act}{w:World}{K:Act->World->Prop}{Q:Exit->Act->World->Prop}{nxt:Next}{s:Av}{w0:World}{nx:Nat}{r:CR}(h:BD P (Ge s w0 nx r) nxt w)
  (hK: ∀v w',Ge s w0 nx r (.returned v) w'->K (a.put o.dst v) w'):o.uponIn (FF l) 5 P a K Q (.ok nxt w):=by
 have hd:(FF l).depth.isSome=true->1<=5:=λh=>o_
 cases nxt with
 |enter f ars=>
  refine⟨hd,(pW l h).mono λe w' he=>?_⟩
  have he':=he
  obtain⟨v,s',rfl,_⟩:=he
  simp_all
 |round k f tm c b=>
  refine⟨hd,(gn l h).mono λe w' he=>?_⟩
  have he':=he
  obtain⟨v,s',rfl,_⟩:=he
  simp_all
 | _=>exact h.elim
def RX(E:B9)(P:Program):Prop:=∀f l v,E.ext f l=some v->∀(s:Av)(w:World)(vals:Array Value),RL s w l vals.toList->∃u,(callFunc f vals).run P w= .ok (.value u) w/\RV s w v u
theorem lQ{P:Program}{E:B9}(hG:E.G.Ok P)(hx:RX E P){gl:T (List V)}{call:Dq}(hcall:Na P gl call){tm:TM}(hgl:tm.gl=gl){H:T O}{nx:Nat}{o:Oper}{r:CR}{s:Av}{w:World}{a:Act}{l:Option Nat}{K:Act->World->Prop}{Q:Exit->Act->World->Prop}
  (hH:RH s w H.get)(hT:RT s w tm a.tmps)(hn: ∀i,nx<=i->¬s.dom i)(h:Dp E call tm H nx o=some r)
  (hK: ∀v w',Ge s w nx r (.returned v) w'->K (a.put o.dst v) w'):o.wpIn (FF l) 5 P a w K Q:=by
 refine⟨λf _=>Vx l f,?_⟩
 have hdom0: ∀i,s.dom i↔s.dom i\/nx<=i/\i<nx:=λi=>⟨.inl,λh=>h.elim id (λh=>o_)⟩
 have hund: ∀(s:Av)(w:World),RV s w (.tup []) undef:=λ_ _=>⟨#[],rfl,rfl⟩
 have Dy:(∀c,o.op≠ .defer c)->o.semAt (FF l).round a.eval=execOp a.eval o:=λh=>Oper.semAt_plain (FF l) a.eval o h
 unfold Dp at h
 split at h
 .rename_i t x y hop
  rw[Dy (λc e=>by grind)]
  split at h
  .rename_i H' lg hs
   cases h
   obtain⟨w',h1,h2,h3⟩:=co hG hH hT hs
   have:(execOp a.eval o).run P w= .ok .skip w':=by simp[execOp,hop,h1]
   rw[this]
   exact hK _ _ ⟨_,s,rfl,hund _ _,h2,h3,hdom0,aC _⟩
  .cases h
 .rename_i t m k v hop
  rw[Dy (λc e=>by grind)]
  split at h
  .rename_i vm vk vv hm hk hv
   split at h
   .rename_i H' lg hs
    cases h
    obtain⟨w',h1,h2,h3⟩:=xU hG hH (Bb hT hm) (Bb hT hk) (Bb hT hv) hs
    have:(execOp a.eval o).run P w= .ok .skip w':=by simp[execOp,hop,h1]
    rw[this]
    exact hK _ _ ⟨_,s,rfl,hund _ _,h2,h3,hdom0,aC _⟩
   .cases h
  .cases h
 .rename_i t m k v hop
  rw[Dy (λc e=>by grind)]
  split at h
  .rename_i vm vk vv hm hk hv
   split at h
   .rename_i H' lg hs
    cases h
    obtain⟨w',h1,h2,h3⟩:=xU hG hH (Bb hT hm) (Bb hT hk) (Bb hT hv) hs
    have:(execOp a.eval o).run P w= .ok .skip w':=by simp[execOp,hop,h1]
    rw[this]
    exact hK _ _ ⟨_,s,rfl,hund _ _,h2,h3,hdom0,aC _⟩
   .cases h
  .cases h
 .rename_i t m k hop
  rw[Dy (λc e=>by grind)]
  split at h
  all_goals trivial
 .rename_i t m sx v hop
  rw[Dy (λc e=>by grind)]
  split at h
  all_goals trivial
 .rename_i t x hop
  rw[Dy (λc e=>by grind)]
  split at h
  all_goals trivial
 .rename_i x hop
  rw[Dy (λc e=>by grind)]
  split at h
  all_goals trivial
 .rename_i c hop
  rw[Dy (λc e=>by grind)]
  split at h
  .rename_i hc
   split at h
   .rename_i x y t tx ha ht
    split at h
    .rename_i vx vy hx hy
     split at h
     .rename_i rv H' nx' lg hs
      cases h
      obtain⟨v,w',s',h1,h2,h3,h4,h5,h6⟩:=ic (ty:=o.type) hG hH hn (Bb hT hx) (Bb hT hy) hs
      have ha':c.args= #[x,y]:=by rw[<-cQ (xs:=c.args),ha]
      have ht':c.argTypes= #[t,tx]:=by rw[<-cQ (xs:=c.argTypes),ht]
      have:(execOp a.eval o).run P w= .ok (.value v) w':=by simp[execOp,hop,resolve,hc,ha',ht',invoke,builtin,h1]
      rw[this]
      exact hK _ _ ⟨_,s',rfl,h2,h3,h4,h5,h6⟩
     .cases h
    .cases h
   .cases h
  .rename_i hc
   split at h
   .rename_i x y t tx ha ht
    split at h
    .rename_i vx vy hx hy
     split at h
     .rename_i rv H' lg hs
      cases h
      obtain⟨v,w',h1,h2,h3,h4⟩:=Uy (tx:=tx) (ty:=o.type) hG hH (Bb hT hx) (Bb hT hy) hs
      have ha':c.args= #[x,y]:=by rw[<-cQ (xs:=c.args),ha]
      have ht':c.argTypes= #[t,tx]:=by rw[<-cQ (xs:=c.argTypes),ht]
      have:(execOp a.eval o).run P w= .ok (.value v) w':=by simp[execOp,hop,resolve,hc,ha',ht',invoke,builtin,h1]
      rw[this]
      exact hK _ _ ⟨_,s,rfl,h2,h3,h4,hdom0,aC _⟩
     .cases h
    .cases h
   .cases h
  .rename_i f hc
   split at h
   .rename_i vf ars hf has
    split at h
    .rename_i v hv
     cases h
     unfold Fg at hv
     split at hv
     .rename_i fid _
      obtain⟨vs,hfv,hvs⟩:=Bb hT hf
      have hvs':vs= #[]:=Array.toList_eq_nil_iff.1 hvs
      subst hvs'
      obtain⟨u,hu1,hu2⟩:=hx _ _ _ hv s w (c.args.map a.eval) (by grind[Array.toList_map,Fx])
      have:(execOp a.eval o).run P w= .ok (.value u) w:=by
       simp only[execOp,hop,resolve,hc,hfv]
       simp[Deferred.ofValue,invoke,hu1]
      rw[this]
      exact hK _ _ ⟨_,s,rfl,hu2,hH,Br.refl s w [],hdom0,aC _⟩
     .cases hv
    obtain⟨next,h1,h2,_⟩:=hcall (vals:=c.args.map a.eval) h (Bb hT hf) (by grind[Array.toList_map,Fx]) hH (by rw[<-hgl];exact hT.2.2) hn
    grind[execOp,resolve,j7]
   .cases h
  .cases h
 .cases h
def Mm(D:Nat):Deferred:={target:=.collected D,args:= #[]}
def EK(B:Nat)(s:Av)(w:World)(D:Nat):Prop:=B<=D/\s.mark D/\w.heap[D]? =some (.deferred (some []))/\¬s.fz D
theorem EK.step{B D:Nat}{s s':Av}{w w':World}{lg:List Nat}(h:EK B s w D)(hs:Br s w s' w' lg):EK B s' w' D:=
 ⟨h.1,hs.le.mark D h.2.1,(hs.kept D (.inr h.2.1)).trans h.2.2.1,λhf=>by
  rcases hs.fz D hf with k|k|⟨_,_,_,_,k⟩
  .exact h.2.2.2 k
  .have:=(bM.1 h.2.2.1).1;omega
  .exact k h.2.1⟩
structure Bs where
 n:Nat
 d:List Deferred
 ms:List Nat
abbrev bs(n:Nat):Bs:=⟨n,[],[]⟩
structure Ir(B:Bs)(s:Av)(w:World)(st:St)(a:Act):Prop where
 rh:RH s w st.H.get
 rt:RT s w st.tm a.tmps
 nx: ∀i,st.nx<=i->¬s.dom i
 df: ∃Ds:List Nat,a.defers=Ds.map Mm++B.d/\(Ds++B.ms).Nodup/\∀D∈Ds++B.ms,EK B.n s w D
structure E7(B:Bs)(s:Av)(w:World)(st st':St)(a:Act)(lg:List Nat)(s':Av)(w':World)(a':Act):Prop where
 rel:Ir B s' w' st' a'
 step:Br s w s' w' lg
 dom: ∀i,s'.dom i↔s.dom i\/st.nx<=i/\i<st'.nx
 le:st.nx<=st'.nx
 log:st'.lg=lg++st.lg
def Iu(B:Bs)(s:Av)(w:World)(st st':St)(a:Act)(a':Act)(w':World):Prop:=∃lg s',E7 B s w st st' a lg s' w' a'
theorem Cp(s:Av)(n:Nat): ∀i,s.dom i↔s.dom i\/n<=i/\i<n:=λi=>⟨.inl,λh=>h.elim id (λh=>o_)⟩
theorem E7.trans{B:Bs}{s s1 s2:Av}{w w1 w2:World}{st st1 st2:St}{a a1 a2:Act}{l m:List Nat}(h:E7 B s w st st1 a l s1 w1 a1)(k:E7 B s1 w1 st1 st2 a1 m s2 w2 a2):E7 B s w st st2 a (m++l) s2 w2 a2:=by
 refine⟨k.rel,(h.step.trans k.step).more (λx hx=>aL.2 ((aL.1 hx).symm)),λi=>?_,aP h.le k.le,by rw[k.log,h.log,cE]⟩
 rw[k.dom,h.dom]
 have h1:=h.le
 have h2:=k.le
 grind
theorem E7.refl{B:Bs}{s:Av}{w:World}{st:St}{a:Act}(h:Ir B s w st a):E7 B s w st st a [] s w a:=⟨h,Br.refl s w [],Cp s _,aC _,rfl⟩
theorem EH{s:Av}{w:World}{tm:TM}{a:Act}{ops:Array Oper}{o:Oper}{b:Bool}(hT:RT s w tm a.tmps)(h:Cc tm ops o=some b):Region.wanted o (yielded ops a.tmps)=b:=by
 unfold Cc at h
 unfold Region.wanted
 cases hg:o.guard with
 |none=>simp_all
 | some p =>
  obtain⟨j,want⟩:=p
  rw[hg]at h
  dsimp only at h⊢
  cases hd:(ops[j]?).bind (·.dst)with
  |none=>simp_all
  | some d =>
   rw[hd]at h
   dsimp only at h
   split at h
   .rename_i t ht
    cases h
    obtain⟨v,hv,hr⟩:=hT.2.1 d _ ht
    obtain rfl:v= .bool t:=hr
    grind[yielded]
   .rename_i ht
    cases h
    obtain⟨v,hv,hr⟩:=hT.2.1 d _ ht
    obtain⟨vs,rfl,hvs⟩:=hr
    grind[yielded]
   .cases h
theorem ZH(a:Act)(d:Option Nat)(v:Value):(a.put d v).defers=a.defers:=by cases d<;>rfl
theorem Kz(t:TM)(d:Option Nat)(x:V):(t.put d x).gl=t.gl:=by
 cases d with
 |none=>rfl
 |some i=>grind[TM.put_some]
theorem Ir.put{B:Bs}{s s':Av}{w w':World}{st:St}{a:Act}(h:Ir B s w st a){lg:List Nat}(hs:Br s w s' w' lg){H':T O}{nx':Nat}{lg':List Nat}(hH:RH s' w' H'.get)(hnx: ∀i,nx'<=i->¬s'.dom i){d:Option Nat}{x:V}{v:Value}(hx:RV s' w' x v):
  Ir B s' w' ⟨st.tm.put d x,H',nx',lg'⟩ (a.put d v):=by
 refine⟨hH,(h.rt.mono hs.le hs.k).put hx,hnx,?_⟩
 obtain⟨Ds,h1,h2,h3⟩:=h.df
 exact⟨Ds,by grind[ZH],h2,λD hD=>(h3 D hD).step hs⟩
theorem zU{s s':Av}{nx nx':Nat}(hn: ∀i,nx<=i->¬s.dom i)(hd: ∀i,s'.dom i↔s.dom i\/nx<=i/\i<nx')(hle:nx<=nx'): ∀i,nx'<=i->¬s'.dom i:=λi hi h=>by
 grind
theorem zH{G:Ca}{tm:TM}{H:Nat->Option O}{o:Oper}{x:V}{rd:List Nat}(h:calm G tm H o=some (x,rd))(F:Fence)(ρ:Operand->Value):o.semAt F.round ρ=execOp ρ o:=by
 grind[Oper.semAt_plain,calm]
theorem af{G:Ca}{tm:TM}{nx:Nat}{o:Oper}{x:V}{ob:O}(h:Bj G tm nx o=some (x,ob))(F:Fence)(ρ:Operand->Value):o.semAt F.round ρ=execOp ρ o:=by
 grind[Oper.semAt_plain,Bj]
theorem SF{P:Program}{E:B9}(hG:E.G.Ok P)(hx:RX E P){gl:T (List V)}{call:Dq}(hcall:Na P gl call){ops:Array Oper}{l:Option Nat}{B:Bs}{Q:Exit->Act->World->Prop}: ∀(os:List Oper)(k:Nat)(st st':St)(s:Av)(w:World)(a:Act),(∀j,j<os.length->os[j]? =ops[k+j]?)->D1 E call ops os st=some st'->st.tm.gl=gl->Ir B s w st a->
  (∀a' w',Iu B s w st st' a a' w'->Q .normal a' w')->wpOpsIn (FF l) 5 P ops Q (List.range' k os.length) a w
 |[],k,st,st',s,w,a,hl,h,hgl,hr,hQ=>by
  cases h
  exact hQ a w ⟨_,_,E7.refl hr⟩
 | o :: os, k, st, st', s, w, a, hl, h, hgl, hr, hQ => by
  have h0:ops[k]? =some o:=by simpa using (hl 0 s_).symm
  have hl': ∀j,j<os.length->os[j]? =ops[k+1+j]? :=λj hj=>by have:=hl (j+1) (by simpa using hj);grind
  rw[bZ,dX,wpOpsIn_cons]
  unfold wpOpIn
  rw[h0]
  dsimp only
  unfold D1 at h
  -- going on from the next state
  have next: ∀(st1:St)(s1:Av)(w1:World)(a1:Act)(lg:List Nat),D1 E call ops os st1=some st'->st1.tm.gl=gl->E7 B s w st st1 a lg s1 w1 a1->
    wpOpsIn (FF l) 5 P ops Q (List.range' (k+1) os.length) a1 w1:=by
   intro st1 s1 w1 a1 lg hs hg1 hw1
   refine SF hG hx hcall os (k+1) st1 st' s1 w1 a1 hl' hs hg1 hw1.rel ?_
   rintro a' w' ⟨lg2,s2,g⟩
   exact hQ a' w' ⟨_,_,hw1.trans g⟩
  split at h
  .rename_i hw
   rw[if_pos (EH hr.rt hw)]
   split at h
   .rename_i v rd hop
    -- a read
    unfold G1 at hop
    split at hop
    .rename_i v' rd' hc
     cases hop
     obtain⟨u,g1,g2⟩:=YU hG hr.rh hr.rt hc
     refine⟨λf _=>Vx l f,?_⟩
     rw[zH hc,g2 w (λ_ _=>rfl) (λ_ _=>rfl)]
     exact next _ s w _ [] h (by grind[Kz]) ⟨hr.put (Br.refl s w []) hr.rh hr.nx g1,Br.refl s w [],Cp s _,aC _,rfl⟩
    .split at hop
     .cases hop
     .split at hop<;>cases hop
   .rename_i v ob hop
    unfold G1 at hop
    split at hop
    .cases hop
    .split at hop
     .rename_i v' ob' hc
      cases hop
      obtain⟨u,w',s',g1,g2,g3,g4,g5⟩:=pI hG hr.rh hr.rt (hr.nx st.nx (aC _)) hc
      have hd: ∀i,s'.dom i↔s.dom i\/st.nx<=i/\i<st.nx+1:=λi=>by grind
      refine⟨λf _=>Vx l f,?_⟩
      rw[af hc,g1]
      exact next _ s' w' _ [] h (by grind[Kz]) ⟨hr.put g4 (by grind[A9]) (zU hr.nx hd o_) g2,g4,hd,by simp,rfl⟩
     .split at hop<;>cases hop
   .rename_i r hop
    unfold G1 at hop
    split at hop
    .cases hop
    .split at hop
     .cases hop
     .split at hop
      .rename_i r' hc
       cases hop
       refine lQ hG hx hcall hgl hr.rh hr.rt hr.nx hc ?_
       rintro v w' ⟨v',s',e,g1,g2,g3,g4,g5⟩
       cases e
       exact next _ s' w' _ r.lg h (by grind[Kz]) ⟨hr.put g3 g2 (zU hr.nx g4 g5) g1,g3,g4,g5,rfl⟩
      .cases hop
   .cases h
  .rename_i hw
   rw[if_neg (by rw[EH hr.rt hw];decide)]
   refine⟨λf _=>Vx l f,?_⟩
   exact next _ s w _ [] h (by grind[Kz]) ⟨hr.put (Br.refl s w []) hr.rh hr.nx ⟨#[],rfl,rfl⟩,Br.refl s w [],Cp s _,aC _,rfl⟩
  .cases h
def C5(H:Nat->Option O)(nx:Nat)(H':Nat->Option O)(nx':Nat)(lg:List Nat):Prop:=nx<=nx'/\∀h,h∉lg->¬(nx<=h/\h<nx')->H' h=H h
theorem C5.refl(H:Nat->Option O)(nx:Nat)(lg:List Nat):C5 H nx H nx lg:=⟨aC _,λ_ _ _=>rfl⟩
theorem C5.trans{H H1 H2:Nat→Option O}{a b c:Nat}{l m:List Nat}(h:C5 H a H1 b l)(k:C5 H1 b H2 c m):C5 H a H2 c (m++l):=
 ⟨aP h.1 k.1, fun i hi hn => by
  have h1:=h.1
  have h2:=k.1
  rw[k.2 i (fun e=>hi (aL.2 (.inl e))) (fun e=>hn ⟨by omega,e.2⟩),h.2 i (fun e=>hi (aL.2 (.inr e))) (fun e=>hn ⟨e.1,by omega⟩)]⟩
theorem C5.more{H H1:Nat->Option O}{a b:Nat}{l m:List Nat}(h:C5 H a H1 b l)(hl: ∀x∈l,x∈m):C5 H a H1 b m:=⟨h.1,λi hi hn=>h.2 i (λe=>hi (hl i e)) hn⟩
theorem C5.put(t:T O)(h:Nat)(o:O)(nx:Nat):C5 t.get nx (t.put h o).get nx [h]:=
 ⟨aC _,λi hi _=>by rw[A9];exact if_neg (λe=>hi (by simp[e]))⟩
theorem C5.new(t:T O)(o:O)(nx:Nat)(lg:List Nat):C5 t.get nx (t.put nx o).get (nx+1) lg:=
 ⟨Nat.le_succ _,λi _ hn=>by rw[A9];exact if_neg (λe=>hn ⟨o_,o_⟩)⟩
theorem Hi{α:Type}{b:Bool}{x:Option α}{y:α}(h:(bif b then x else none)=some y):b=true/\x=some y:=by
 grind
def J4(call:Dq):Prop:=∀c ars(H:T O) nx r,call c ars H nx=some r->C5 H.get nx r.H.get r.nx r.lg
theorem Uz{G:Ca}{H H':T O}{nx t:Nat}{x y r:V}{lg:List Nat}(h:Kc G H t x y=some (r,H',lg)):C5 H.get nx H'.get nx lg:=by
 unfold Kc at h
 split at h
 all_goals grind[C5.put]
theorem ie{G:Ca}{H H':T O}{nx nx' t tx:Nat}{x y r:V}{lg:List Nat}(h:Dg G H nx t tx x y=some (r,H',nx',lg)):C5 H.get nx H'.get nx' lg:=by
 unfold Dg at h
 split at h
 .rename_i e _ _ _ _ e2 _ _ _ _ ht htx
  split at h
  .rename_i sz by_ _ z he
   split at h
   .rename_i n news hsrc
    cases h0:Nat.beq n 0 with
    |true=>
     grind[C5.refl]
    | false =>
     rw[h0,cond_false]at h
     cases hz0:Nat.beq sz 0 with
     |true=>simp_all
     | false =>
      rw[hz0,cond_false]at h
      split at h
      .grind[C5.new]
      .rename_i hd off len room
       split at h
       .grind[C5.put,C5.new]
       .split at h
        .rename_i et sz' c ho
         cases hb:(Nat.beq off 0&&Nat.beq et e&&Nat.beq sz' sz&&Nat.beq c.length (len*sz)&&Bl news&&Nat.ble (len+n) 9223372036854775807&&Nat.ble ((len+n)*by_) 140737488355328)with
         |false=>simp_all
         |true=>
          rw[hb,cond_true]at h
          cases h
          exact((C5.put H hd .dead nx).trans (C5.new _ _ _ [])).more s_
        .cases h
      .cases h
   .cases h
  .cases h
 .cases h
theorem uJ{E:B9}{call:Dq}(hc:J4 call){tm:TM}{H:T O}{nx:Nat}{o:Oper}{r:CR}(h:Dp E call tm H nx o=some r):C5 H.get nx r.H.get r.nx r.lg:=by
 have hm: ∀{t m k v H' lg},Kq E.G H t m k v=some (H',lg)->C5 H.get nx H'.get nx lg:=by
  intro t m k v H' lg h
  cases h
 unfold Dp at h
 split at h
 .grind[Fd,C5.put]
 .grind
 .grind
 .split at h
  .split at h
   .rename_i rv H' lg hs
    cases h
    unfold Mz at hs
    cases hs
   .cases h
  .cases h
 .split at h
  .split at h
   .rename_i H' lg hs
    cases h
    unfold M9 at hs
    cases hs
   .cases h
  .cases h
 .grind[C5.new]
 .grind[C5.refl]
 .split at h
  .grind[ie]
  .grind[Uz]
  .split at h
   .split at h
    .grind[C5.refl]
    .exact hc _ _ _ _ _ h
   .cases h
  .cases h
 .cases h
def Bt(st st':St):Prop:=∃lg,st'.lg=lg++st.lg/\C5 st.H.get st.nx st'.H.get st'.nx lg
theorem Bt.refl(st:St):Bt st st:=⟨[],rfl,C5.refl _ _ _⟩
theorem Bt.trans{a b c:St}(h:Bt a b)(k:Bt b c):Bt a c:=by
 obtain⟨l,h1,h2⟩:=h
 obtain⟨m,k1,k2⟩:=k
 exact⟨m++l,by simp_all,h2.trans k2⟩
theorem Bt.comp{a b c:St}(k:Bt b c)(h:Bt a b):Bt a c:=h.trans k
theorem JL{E:B9}{call:Dq}(hc:J4 call){ops:Array Oper}: ∀(l:List Oper)(st st':St),D1 E call ops l st=some st'->Bt st st'
 |[],st,st',h=>by cases h;exact Bt.refl _
 | o :: l, st, st', h => by
  unfold D1 at h
  split at h
  .split at h
   .exact Bt.comp (JL hc l _ _ h) ⟨[],rfl,C5.refl _ _ _⟩
   .exact Bt.comp (JL hc l _ _ h) ⟨[],rfl,C5.new _ _ _ _⟩
   .rename_i r hop
    refine Bt.trans ⟨r.lg,rfl,?_⟩ (JL hc l _ _ h)
    grind[G1,uJ]
   .cases h
  .exact Bt.comp (JL hc l _ _ h) ⟨[],rfl,C5.refl _ _ _⟩
  .cases h
theorem yP{E:B9}{call:Dq}(hc:J4 call){ops:Array Oper}{bf:Array Nat}{j:Nat}{p q:St×Ew}(h:Dl E call ops bf j p=some q):Bt p.1 q.1:=by
 unfold Dl at h
 split at h
 .obtain⟨_,h⟩:=Hi h
  cases h
  exact⟨[],rfl,C5.refl _ _ _⟩
 .cases h
  exact⟨[],rfl,C5.new _ _ _ _⟩
 .rename_i r hk
  cases h
  refine⟨r.lg,rfl,?_⟩
  grind[Em,uJ]
 .cases h
theorem L6{E:B9}{call:Dq}(hc:J4 call){ops:Array Oper}{bf:Array Nat}: ∀(l:List Nat)(p q:St×Ew),D7 E call ops bf l p=some q->Bt p.1 q.1
 |[],p,q,h=>by cases h;exact Bt.refl _
 |j::l,p,q,h=>by
  unfold D7 at h
  split at h
  .rename_i p1 h1;exact(yP hc h1).trans (L6 hc l _ _ h)
  .cases h
theorem yI{E:B9}{call:Dq}(hc:J4 call){ops:Array Oper}{st st':St}(h:Hb E call ops st=some st'):Bt st st':=by
 unfold Hb at h
 obtain⟨_,h⟩:=Hi h
 split at h
 .rename_i p hp;cases h;exact L6 hc _ _ _ hp
 .cases h
theorem oI{E:B9}{call:Dq}(hc:J4 call){ops:Array Oper}: ∀(f:Nat)(b:Array Bool)(st r:St),Jh E call ops f b st=some r->Bt st r
 |0,b,st,r,h=>by
  grind[Jh,Bt.refl]
 | f + 1, b, st, r, h => by
  unfold Jh at h
  split at h
  .grind[Bt.refl]
  .split at h
   .rename_i r' hr
    obtain⟨_,h⟩:=Hi h
    cases h
    obtain⟨o,_,hr⟩:=cH.1 hr
    obtain⟨st1,h1,h2⟩:=cH.1 hr
    exact(JL hc _ _ _ h1).trans (oI hc f _ _ _ h2)
   .cases h
theorem Zt{E:B9}{call:Dq}(_:J4 call){ops:Array Oper}{st st':St}(h:jU E call ops st=some st'):Bt st st':=by
 cases h
theorem f8{E:B9}{call:Dq}(hc:J4 call){ops:Array Oper}{st st':St}(h:LG E call ops st=some st'):Bt st st':=by
 unfold LG at h
 split at h
 .grind[yI]
 .split at h
  .rename_i st2 h
   cases ‹some st2=some st'›
   unfold Tk at h
   obtain⟨_,h⟩:=Hi h
   split at h
   .rename_i st1 h1
    split at h
    .rename_i r hr
     cases h
     refine(yI hc h1).trans ?_
     obtain⟨lg,k1,k2⟩:=oI hc _ _ _ _ hr
     exact⟨lg,by rw[k1];simp,k2⟩
    .cases h
   .cases h
  .exact Zt hc h
def Hz(p:Ex->St->Prop)(l:Rs):Prop:=∀e st,(e,st)∈l->p e st
theorem MA{k:St->Option Rs}{p q:Ex->St->Prop}(hk: ∀st m,p .normal st->k st=some m->Hz q m)(hp: ∀e st,e≠ .normal->p e st->q e st): ∀{l m:Rs},Hz p l->Nv k l=some m->Hz q m
 |[],_,_,h=>by cases h;intro e st hm;cases hm
 | (x, st) :: l, m, ha, h => by
  have ht:Hz p l:=λe s hs=>ha e s (aW _ hs)
  have hx:p x st:=ha x st aZ
  cases x with
  | normal =>
   unfold Nv at h
   split at h
   .rename_i m1 m2 h1 h2
    cases h
    intro e s hs
    rcases aL.1 hs with hs|hs
    .exact hk st m1 hx h1 e s hs
    .exact MA hk hp ht h2 e s hs
   .cases h
  | exit id =>
   unfold Nv at h
   split at h
   .rename_i m2 h2
    cases h
    intro e s hs
    rcases aK.1 hs with e'|hs
    .simp_all
    .exact MA hk hp ht h2 e s hs
   .cases h
  | ret =>
   unfold Nv at h
   split at h
   .rename_i m2 h2
    cases h
    intro e s hs
    rcases aK.1 hs with e'|hs
    .simp_all
    .exact MA hk hp ht h2 e s hs
   .cases h
  | pan v =>
   unfold Nv at h
   split at h
   .rename_i m2 h2
    cases h
    intro e s hs
    rcases aK.1 hs with e'|hs
    .simp_all
    .exact MA hk hp ht h2 e s hs
   .cases h
theorem zL{id:Nat}{p q:Ex->St->Prop}(h1: ∀st,p (.exit id) st->q .normal st)(h2: ∀i st,i≠id->p (.exit i) st->q (.exit i) st)(h3: ∀st,p .normal st->q .normal st)(h4: ∀st,p .ret st->q .ret st)(h5: ∀v st,p (.pan v) st->q (.pan v) st): ∀{l:Rs},Hz p l->Hz q (blockN id l)
 |[],_=>λe st hm=>by cases hm
 | (x, st) :: l, ha => by
  have ht:Hz q (blockN id l):=zL h1 h2 h3 h4 h5 λe s hs=>ha e s (aW _ hs)
  have hx:p x st:=ha x st aZ
  intro e s hs
  cases x with
  |normal=>
   rcases aK.1 hs with e'|hs
   .simp_all
   .exact ht e s hs
  |ret=>
   rcases aK.1 hs with e'|hs
   .simp_all
   .exact ht e s hs
  |pan v=>
   rcases aK.1 hs with e'|hs
   .simp_all
   .exact ht e s hs
  | exit i =>
   rcases aK.1 hs with e'|hs
   .cases hb:Nat.beq i id with
    |true=>
     simp_all
    |false=>
     rw[hb,cond_false]at e'
     cases e'
     exact h2 _ _ (λe=>by simp_all) hx
   .exact ht e s hs
theorem jh{E:B9}{call:Dq}(hc:J4 call){ops:Array Oper}{draw:Bool}{st:St}{l:Rs}(h:AT E call ops draw st=some l):Hz (λ_ st'=>Bt st st') l:=by
 have one: ∀{o:Option St}{l:Rs},one? o=some l->(∀st',o=some st'->Bt st st')->Hz (λ_ st'=>Bt st st') l:=by
  intro o l h hs
  cases o with
  |none=>cases h
  |some st'=>
   cases h
   intro e s hm
   rw[aN]at hm
   simp_all
 unfold AT at h
 cases draw with
 |true=>grind[f8]
 | false =>
  rw[cond_false]at h
  split at h
  .rename_i it o ol hf
   unfold Nx at h
   split at h
   all_goals trivial
  grind[JL]
theorem zI{E:B9}{ex:UM}(hX: ∀rd c st l,ex rd c st=some l ->Hz (λ_ st'=>Bt st st') l)(gl:T (List V)):J4 (LM E ex gl):=by
 have hX1: ∀rd c st e st',ex rd c st=some [(e,st')]->Bt st st':=λrd c st e st' h=>hX rd c st _ h e st' (aN.2 rfl)
 intro c ars H nx r h
 unfold LM at h
 split at h
 .rename_i f caps
  split at h
  .grind[C5.refl]
  .split at h
   .rename_i fi hfi
    cases hb:Nat.ble (ars++caps).length fi.ntmps with
    |false=>simp_all
    | true =>
     rw[hb,cond_true]at h
     have key: ∀(e:Ex)(st:St),ex none fi.body ⟨⟨Cf (B0 fi.ntmps) 0 (ars++caps),gl,fi.ntmps⟩,H,nx,[]⟩=some [(e,st)]->C5 H.get nx st.H.get st.nx st.lg:=by
      intro e st hex
      obtain⟨lg,h1,h2⟩:=hX1 _ _ _ _ _ hex
      have:st.lg=lg:=by rw[h1];simp
      rw[this];exact h2
     grind[C5.refl]
   .cases h
 .rename_i hd
  split at h
  .split at h
   .split at h
    .rename_i st1 hex1
     split at h
     .split at h
      .rename_i e st2 hex2
       split at h
       .cases h
        obtain⟨l1,a1,a2⟩:=hX1 _ _ _ _ _ hex1
        obtain⟨l2,b1,b2⟩:=hX1 _ _ _ _ _ hex2
        refine(((a2.trans (C5.put _ _ _ _)).trans b2).trans (C5.put _ _ _ _)).more (λx hx=>?_)
        simp_all
       .cases h
      .cases h
     .cases h
    .cases h
   .cases h
  .cases h
 .cases h
theorem pO{E:B9}{ex:UM}(hX: ∀rd c st l,ex rd c st=some l->Hz (λ_ st'=>Bt st st') l)(gl:T (List V)):J4 (Jg E ex gl):=by
 intro c ars H nx r h
 unfold Jg at h
 split at h
 .exact zI hX gl _ _ _ _ _ h
 .exact zI hX gl _ _ _ _ _ h
theorem G7{p:Ex->St->Prop}{e:Ex}{st:St}(h:p e st):Hz p [(e,st)]:=λe' s hm=>by
 simp_all
theorem wI{E:B9}: ∀(n:Nat)(rd:Option Nat)(c:Code)(st:St)(l:Rs),Dh E n rd c st=some l→Hz (fun _ st'=>Bt st st') l
 |0,_,_,_,_,h=>by cases h
 | n + 1, rd, c, st, l, h => by
  have ih:=wI (E:=E) n
  unfold Dh at h
  split at h
  ·grind[G7,Bt.refl]
  ·grind[G7,Bt.refl]
  ·split at h
   ·rename_i l1 h1
    exact MA (p:=fun _ st'=>Bt st st') (fun s m hs hm e s' hs'=>hs.trans (ih _ _ _ _ hm e s' hs')) (fun _ _ _ h=>h) (ih _ _ _ _ h1) h
   ·cases h
  ·grind[jh,pO]
  ·grind
  ·split at h
   ·rename_i l1 h1
    cases h
    exact zL (p:=fun _ st'=>Bt st st') (fun _ h=>h) (fun _ _ _ h=>h) (fun _ h=>h) (fun _ h=>h) (fun _ _ h=>h) (ih _ _ _ _ h1)
   ·cases h
  ·split at h
   ·rename_i l1 h1
    exact MA (p:=fun _ st'=>Bt st st') (fun s m hs hm e s' hs'=>hs.trans (ih _ _ _ _ hm e s' hs')) (fun _ _ _ h=>h) (ih _ _ _ _ h1) h
   ·cases h
  ·grind
  ·grind[G7,Bt.refl]
  ·grind[G7,Bt.refl]
  ·split at h
   ·rename_i f caps hg
    cases hlb:Kl rd st.H with
    |false=>simp_all
    | true =>
     rw[hlb,cond_true]at h
     split at h
     ·rename_i r hcall
      have hl:=pO ih st.tm.gl _ _ _ _ _ hcall
      have h0: ∀o,C5 st.H.get st.nx (r.H.put st.nx o).get r.nx r.lg:=fun o=>by
       have h1:=(C5.new st.H (.loop .ready none 0 st.tm _ _ _) st.nx []).trans hl
       refine⟨h1.1,fun i hi hn=>?_⟩
       have hlt:=hl.1
       rw[A9]
       unfold Jm
       rw[if_neg (fun e=>hn ⟨by omega,by omega⟩)]
       exact h1.2 i (by simpa using hi) hn
      split at h
      ·cases h;exact G7 ⟨r.lg,rfl,h0 _⟩
      ·intro e s hs
       exact Bt.trans ⟨r.lg,rfl,h0 .dead⟩ (ih _ _ _ _ h e s hs)
      ·cases h
     ·cases h
   ·cases h
  ·cases h
theorem iw(E:B9)(n:Nat)(gl:T (List V)):J4 (Jg E (Dh E n) gl):=pO (wI n) gl
end Go.Proofs.YtifdkhfldbkkpaaGreat.Am
