/- The frame's lemmas for chapter 28: arrays of numbers; the package variable primes. Printed by wip/gend7.py. -/
import Derived.Test.YtglpoiaedkoecaaDoorRows
import Derived.Test.YtglpoiaedkoecaaDoorD3
import Derived.ChangeSlices
import Derived.WalkKit
import Derived.ProofKit
import Derived.OpenShut
import Derived.Carry
import Derived.ChangeVars
import Derived.LaidLaws
import Derived.JoinedOf
namespace Go.Proofs.YtglpoiaedkoecaaDoor.Am
open Go.RowKit Go.ChangeShapes Go.WideShapes
set_option linter.unusedVariables false
set_option maxRecDepth 100000

/-- what was there when the law was called: nobody writes it -/
def allB (w : World) (b : Nat) : Prop := b < w.heap.size

section
variable {H : Type} {enc : TypeId × Value → H} {w : World}

theorem int_trod {P : Program} {base : Nat} {sp : Nat → Bool} {held : Bool} {fuel : Nat} {t : TypeId} {k : IntKind} {c : Value} {y : DataW H × List MemPlace}
    (ht : P.underlying t = some (.int k)) (h : DataW.trod enc P w base sp held fuel t [c] = some y) : ∃ n, c = .int k n ∧ y = (.lit (.int k n), []) ∧ (Lit.int k n).wf = true := by
  cases fuel with
  | zero => simp [DataW.trod] at h
  | succ fuel =>
    cases c <;> simp [DataW.trod, ht] at h
    rename_i k' n
    obtain ⟨⟨rfl, hw⟩, rfl⟩ := h
    exact ⟨n, rfl, rfl, hw⟩
def litN : DataW H → Int
  | .lit (.int _ n) => n
  | _ => 0
theorem arr_trod {P : Program} {base : Nat} {sp : Nat → Bool} {held : Bool} {fuel : Nat} {t e : TypeId} {m : Nat} {k : IntKind} {cs : List Value} {x : DataW H × List MemPlace}
    (ht : P.underlying t = some (.array m e)) (he : P.underlying e = some (.int k)) (hce : P.cellsOf e = 1) (hct : P.cellsOf t = m) (h : DataW.trod enc P w base sp held fuel t cs = some x) :
    ∃ ns : List Int, ns.length = m ∧ cs = ns.map (Value.int k) ∧ x.1 = .agg (ns.map fun n => .lit (.int k n)) ∧ ∀ n ∈ ns, (Lit.int k n).wf = true := by
  obtain ⟨xs, f, rfl, rfl, hl, hxl, hx⟩ := DataW.trod_array ht h
  rw [hct] at hl
  have key : ∀ i (hi : i < m), ∃ n, cs[i]'(by omega) = .int k n ∧ xs[i]'(by omega) = (.lit (.int k n), []) ∧ (Lit.int k n).wf = true := by
    intro i hi
    have h1 := hx i hi
    rw [hce, Nat.mul_one, List.drop_eq_getElem_cons (by omega), List.take_succ_cons, List.take_zero, List.getElem?_eq_getElem (by omega)] at h1
    obtain ⟨n, e1, e2, e3⟩ := int_trod he h1
    exact ⟨n, e1, e2, e3⟩
  refine ⟨xs.map fun y => litN y.1, by simp [hxl], ?_, ?_, ?_⟩
  · refine List.ext_getElem (by simp; omega) fun i h1 h2 => ?_
    obtain ⟨n, e1, e2, _⟩ := key i (by omega)
    simp [e1, e2, litN]
  · refine congrArg DataW.agg ?_
    refine List.ext_getElem (by rw [List.length_map, List.length_map, List.length_map]) fun i h1 h2 => ?_
    obtain ⟨n, e1, e2, _⟩ := key i (by rw [List.length_map] at h1; omega)
    simp [e2, litN]
  · intro n hn
    obtain ⟨y, hy, rfl⟩ := List.mem_map.1 hn
    obtain ⟨i, hi, rfl⟩ := List.getElem_of_mem hy
    obtain ⟨n, _, e2, e3⟩ := key i (by omega)
    rw [e2]; exact e3
theorem okWide_arr {P : Program} {r : Reach} {base : Nat} {t : TypeId} {v : Value} {n : Nat} {e : TypeId} (ht : P.underlying t = some (.array n e)) (h : Value.okWide P w r base t v) : ∃ cs, v = .agg cs := by
  simp only [Value.okWide, ht] at h
  obtain ⟨cs, h1, _⟩ := h
  exact ⟨cs, h1⟩
theorem RL_map {s : Sig} {w : World} {k : IntKind} : ∀ ns : List Int, RL s w (ns.map (V.int k)) (ns.map (Value.int k))
  | [] => rfl
  | n :: ns => ⟨_, _, rfl, rfl, RL_map ns⟩
theorem ar_of {ns : List Int} (h : ns.length = 18) : ns.map (V.int .i64) = arF (fun k => ns.getD k 0) := by
  match ns, h with
  | [a0, a1, a2, a3, a4, a5, a6, a7, a8, a9, a10, a11, a12, a13, a14, a15, a16, a17], _ => rfl
theorem ar8_of {ns : List Int} (h : ns.length = 18) : ns.map (V.int .i8) = ar8F (fun k => ns.getD k 0) := by
  match ns, h with
  | [a0, a1, a2, a3, a4, a5, a6, a7, a8, a9, a10, a11, a12, a13, a14, a15, a16, a17], _ => rfl
/-- an argument that is an array of 18 numbers -/
theorem arg_arr {t e : TypeId} {k : IntKind} {v : Value} {d : DataW H} {p : List MemPlace} (ht : Pg.underlying t = some (.array 18 e)) (he : Pg.underlying e = some (.int k)) (hce : Pg.cellsOf e = 1) (hct : Pg.cellsOf t = 18) (hv : ∃ cs, v = .agg cs) (h : DataW.Trod enc Pg w 0 (fun _ => true) true t v d p) :
    ∃ ns : List Int, ns.length = 18 ∧ RV (sg (allB w)) w (.agg (ns.map (V.int k))) v ∧ ∀ n ∈ ns, (Lit.int k n).wf = true := by
  obtain ⟨cs, rfl⟩ := hv
  obtain ⟨fuel, hf⟩ := h
  obtain ⟨ns, h1, h2, _, h3⟩ := arr_trod ht he hce hct hf
  have h2' : cs.toList = ns.map (Value.int k) := h2
  exact ⟨ns, h1, ⟨cs, rfl, by rw [h2']; exact RL_map ns⟩, h3⟩
end

/-! ### the package variable -/
theorem prime_glob : Pg.globalNamed "haruspex/score.primes" = some 0 := by kernel_rfl
theorem prime_type : (Pg.globals[0]?).map (·.type) = some 40 := by kernel_rfl
def primesA : Array Value := (primesL.map (Value.int .i64)).toArray
theorem prime_cells {W : World} (h : laidMet Pg [("haruspex/score.primes", Rows.laid_haruspex_score_primes)] W) : W.var? Pg "haruspex/score.primes" = some primesA := by
  obtain ⟨ps, ⟨g, t, cs, fuel, p, q, hg, ht, hvar, hd, _, _⟩, _⟩ := h
  obtain rfl := Option.some.inj (prime_glob.symm.trans hg)
  obtain rfl := Option.some.inj (prime_type.symm.trans ht)
  rw [hvar]
  congr 1
  obtain ⟨ns, h1, h2, h3, _⟩ := arr_trod Tryd.underlying40 Tryd.underlying3 (by kernel_rfl) (by kernel_rfl) hd
  have h4 : (ns.map fun n => (DataW.lit (.int .i64 n) : DataW Unit)).map litN = primesL := by
    have e : (DataW.agg (ns.map fun n => (DataW.lit (.int .i64 n) : DataW Unit))) = Rows.laid_haruspex_score_primes := h3.symm
    injection e with e
    rw [e]; rfl
  have h5 : ns = primesL := by
    rw [← h4, List.map_map]
    exact (List.map_id' ns).symm
  rw [← Array.toArray_toList (xs := cs), h2, h5]; rfl
theorem prime_gl {W : World} (h : W.var? Pg "haruspex/score.primes" = some primesA) : GL (sg (allB W)) W g0 := by
  intro g l hg
  have hg' : ((T.e : T (List V)).put 0 (primesL.map (V.int .i64))).get g = some l := hg
  rw [T.get_put] at hg'
  split at hg'
  · rename_i e
    cases hg'
    subst e
    have hsz : 0 < W.heap.size := by
      have hv := h
      simp only [World.var?, prime_glob, Option.bind_some] at hv
      split at hv
      · rename_i c t f hb; exact (Array.getElem?_eq_some_iff.1 hb).1
      · cases hv
    have key : ∀ (l : List Int) (off : Nat), (∀ (j : Nat) (h : j < l.length), W.cell? ⟨0, off + j, none⟩ = some (.int .i64 l[j])) → RC (sg (allB W)) W (l.map (V.int .i64)) 0 off := by
      intro l
      induction l with
      | nil => intro _ _; trivial
      | cons y l ih =>
        intro off hh
        exact ⟨⟨hsz, _, hh 0 (by simp), rfl⟩, ih (off + 1) fun j hj => by
          have := hh (j + 1) (by simpa using hj)
          rw [show off + 1 + j = off + (j + 1) by omega]
          exact this⟩
    refine key primesL 0 fun j hj => ?_
    rw [World.var?_cell prime_glob h, Nat.zero_add]
    simp [primesA, List.getElem?_eq_getElem hj]
  · simp at hg'

/-- a law that returns a bool -/
theorem law_calls {f : Nat} {ars : List V} {b : Bool} (h : FnOk Pg g0 f ars (.bool b)) (hf : (codeOf Pg f).isSome = true) {w : World} {vals : Array Value} (ha : RL (sg (allB w)) w ars vals.toList) (hg : GL (sg (allB w)) w g0) : Calls Pg f vals w fun e w' => e = .returned (.bool b) ∧ Below w.heap.size w w' := by
  obtain ⟨fi, hfi⟩ := Option.isSome_iff_exists.1 hf
  obtain ⟨next, e1, e2, e3⟩ := h.1 (sg (allB w)) w (.func (.func f) #[] #[]) vals ⟨#[], rfl, rfl⟩ ha (no_rh (fun b hb => hb.elim id False.elim)) hg (fun _ _ h => h)
  have hn : next = .enter f vals := by
    have := (vE_ok.code f fi hfi)
    obtain ⟨fn, f1, f2, f3, f4, f5⟩ := this
    have := f5 vals w
    simp [Deferred.ofValue, invoke, this] at e1
    exact e1.symm
  subst hn
  refine (callsIn_wide.1 e2).mono ?_
  rintro e w' ⟨u, s', rfl, g1, g2, g3, _⟩
  obtain rfl : u = .bool b := g1
  exact ⟨rfl, g3.mod.os, g3.mod.tape, g3.mod.output, g3.mod.size, fun k hk => g3.mod.block k hk (fun ⟨_, hm, _⟩ => by cases hm)⟩

/-! ### a world in which the variable is laid -/
noncomputable def laidWorld (os : Os) : World :=
  { World.holding Pg os ⟨#[], #[], []⟩ with heap := (World.holding Pg os ⟨#[], #[], []⟩).heap.modify 0 fun
      | .cells _ t frozen => .cells primesA t frozen
      | o => o }

end Go.Proofs.YtglpoiaedkoecaaDoor.Am
