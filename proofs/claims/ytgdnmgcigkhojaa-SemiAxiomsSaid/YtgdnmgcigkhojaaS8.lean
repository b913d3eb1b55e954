/- Chapter 04: the frame's lemmas: elements, arrays of four and six small numbers. -/
import Derived.Test.YtgdnmgcigkhojaaRows
import Derived.Test.YtgdnmgcigkhojaaS1
import Derived.ChangeSlices
import Derived.WalkKit
import Derived.ProofKit
import Derived.OpenShut
import Derived.Carry
namespace Go.Proofs.Ytgdnmgcigkhojaa.Am
open Go.RowKit Go.ChangeShapes Go.WideShapes
set_option linter.unusedVariables false
set_option maxRecDepth 100000

/-- what was there when the law was called: nobody writes it -/
def allB (w : World) (b : Nat) : Prop := b < w.heap.size

section
variable {H : Type} {enc : TypeId × Value → H} {w : World}

theorem int_trod {P : Program} {base : Nat} {sp : Nat → Bool} {held : Bool} {fuel : Nat} {t : TypeId} {k : IntKind} {c : Value} {y : DataW H × List MemPlace}
    (ht : P.underlying t = some (.int k)) (h : DataW.trod enc P w base sp held fuel t [c] = some y) : ∃ n, c = .int k n ∧ y = (.lit (.int k n), []) ∧ (Lit.int k n).wf = true := by
  cases fuel with
  | zero => simp [DataW.trod] at h
  | succ fuel =>
    cases c <;> simp [DataW.trod, ht] at h
    rename_i k' n
    obtain ⟨⟨rfl, hw⟩, rfl⟩ := h
    exact ⟨n, rfl, rfl, hw⟩
def litN : DataW H → Int
  | .lit (.int _ n) => n
  | _ => 0
theorem arr_trod {P : Program} {base : Nat} {sp : Nat → Bool} {held : Bool} {fuel : Nat} {t e : TypeId} {m : Nat} {k : IntKind} {cs : List Value} {x : DataW H × List MemPlace}
    (ht : P.underlying t = some (.array m e)) (he : P.underlying e = some (.int k)) (hce : P.cellsOf e = 1) (hct : P.cellsOf t = m) (h : DataW.trod enc P w base sp held fuel t cs = some x) :
    ∃ ns : List Int, ns.length = m ∧ cs = ns.map (Value.int k) ∧ x.1 = .agg (ns.map fun n => .lit (.int k n)) ∧ ∀ n ∈ ns, (Lit.int k n).wf = true := by
  obtain ⟨xs, f, rfl, rfl, hl, hxl, hx⟩ := DataW.trod_array ht h
  rw [hct] at hl
  have key : ∀ i (hi : i < m), ∃ n, cs[i]'(by omega) = .int k n ∧ xs[i]'(by omega) = (.lit (.int k n), []) ∧ (Lit.int k n).wf = true := by
    intro i hi
    have h1 := hx i hi
    rw [hce, Nat.mul_one, List.drop_eq_getElem_cons (by omega), List.take_succ_cons, List.take_zero, List.getElem?_eq_getElem (by omega)] at h1
    obtain ⟨n, e1, e2, e3⟩ := int_trod he h1
    exact ⟨n, e1, e2, e3⟩
  refine ⟨xs.map fun y => litN y.1, by simp [hxl], ?_, ?_, ?_⟩
  · refine List.ext_getElem (by simp; omega) fun i h1 h2 => ?_
    obtain ⟨n, e1, e2, _⟩ := key i (by omega)
    simp [e1, e2, litN]
  · refine congrArg DataW.agg ?_
    refine List.ext_getElem (by rw [List.length_map, List.length_map, List.length_map]) fun i h1 h2 => ?_
    obtain ⟨n, e1, e2, _⟩ := key i (by rw [List.length_map] at h1; omega)
    simp [e2, litN]
  · intro n hn
    obtain ⟨y, hy, rfl⟩ := List.mem_map.1 hn
    obtain ⟨i, hi, rfl⟩ := List.getElem_of_mem hy
    obtain ⟨n, _, e2, e3⟩ := key i (by omega)
    rw [e2]; exact e3
theorem okWide_arr {P : Program} {r : Reach} {base : Nat} {t : TypeId} {v : Value} {n : Nat} {e : TypeId} (ht : P.underlying t = some (.array n e)) (h : Value.okWide P w r base t v) : ∃ cs, v = .agg cs := by
  simp only [Value.okWide, ht] at h
  obtain ⟨cs, h1, _⟩ := h
  exact ⟨cs, h1⟩
theorem RL_map {s : Sig} {w : World} {k : IntKind} : ∀ ns : List Int, RL s w (ns.map (V.int k)) (ns.map (Value.int k))
  | [] => rfl
  | n :: ns => ⟨_, _, rfl, rfl, RL_map ns⟩

theorem wf8n {n : Int} (h : (Lit.int .u8 n).wf = true) : ∃ x : Nat, n = x ∧ x < 256 := by
  simp only [Lit.wf, Bool.and_eq_true, decide_eq_true_eq] at h
  obtain ⟨h1, h2⟩ := h
  have h1' : (0 : Int) ≤ n := h1
  have h2' : n ≤ 255 := h2
  exact ⟨n.toNat, by omega, by omega⟩
/-- an argument: an element -/
theorem arg_el {v : Value} {d : DataW H} {p : List MemPlace} (hv : ∃ cs, v = .agg cs ∧ cs.size = Pg.cellsOf 23) (h : DataW.Trod enc Pg w 0 (fun _ => true) true 23 v d p) :
    ∃ a b : Int, RV (sg (allB w)) w (el a b) v := by
  obtain ⟨arr, rfl, hsz⟩ := hv
  obtain ⟨fuel, hf⟩ := h
  obtain ⟨xs, n, _, _, hl, hlen, hfd⟩ := DataW.trod_struct Try.underlying23 hf
  have hc23 : Pg.cellsOf 23 = 2 := by kernel_rfl
  rw [hc23] at hl
  have hcells : (Value.agg arr).cells.toList = arr.toList := rfl
  rw [hcells] at hl hfd
  obtain ⟨c0, c1, harr⟩ : ∃ c0 c1, arr.toList = [c0, c1] := by
    match arr.toList, hl with
    | [c0, c1], _ => exact ⟨c0, c1, rfl⟩
  have hlen' : xs.length = 2 := hlen
  obtain ⟨y0, y1, rfl⟩ : ∃ y0 y1, xs = [y0, y1] := by
    match xs, hlen' with
    | [y0, y1], _ => exact ⟨y0, y1, rfl⟩
  have h1c : Pg.cellsOf 3 = 1 := by kernel_rfl
  have f0 : DataW.trod enc Pg w 0 (fun _ => true) true n 3 (List.take (Pg.cellsOf 3) (List.drop 0 arr.toList)) = some y0 := hfd 0 _ rfl
  have f1 : DataW.trod enc Pg w 0 (fun _ => true) true n 3 (List.take (Pg.cellsOf 3) (List.drop 1 arr.toList)) = some y1 := hfd 1 _ rfl
  rw [harr, h1c] at f0 f1
  obtain ⟨a, e0, _, _⟩ := int_trod Try.underlying3 f0
  obtain ⟨b, e1, _, _⟩ := int_trod Try.underlying3 f1
  subst e0 e1
  refine ⟨a, b, arr, rfl, ?_⟩
  rw [harr]
  exact ⟨_, _, rfl, rfl, _, _, rfl, rfl, rfl⟩
/-- an argument: an array of small numbers -/
theorem arg_small {m : Nat} {t e : TypeId} {v : Value} {d : DataW H} {p : List MemPlace} (ht : Pg.underlying t = some (.array m e)) (he : Pg.underlying e = some (.int .u8)) (hce : Pg.cellsOf e = 1) (hct : Pg.cellsOf t = m) (hv : ∃ cs, v = .agg cs) (h : DataW.Trod enc Pg w 0 (fun _ => true) true t v d p) :
    ∃ ns : List Nat, ns.length = m ∧ RV (sg (allB w)) w (.agg (ns.map fun x : Nat => V.int .u8 (x : Int))) v ∧ ∀ n ∈ ns, n < 256 := by
  obtain ⟨cs, rfl⟩ := hv
  obtain ⟨fuel, hf⟩ := h
  obtain ⟨ns, h1, h2, _, h3⟩ := arr_trod ht he hce hct hf
  have h2' : cs.toList = ns.map (Value.int .u8) := h2
  have key : ∀ l : List Int, (∀ n ∈ l, (Lit.int .u8 n).wf = true) → ∃ l' : List Nat, l = l'.map (fun x : Nat => (x : Int)) ∧ ∀ n ∈ l', n < 256 := by
    intro l
    induction l with
    | nil => exact fun _ => ⟨[], rfl, fun _ h => by cases h⟩
    | cons y l ih =>
      intro hl
      obtain ⟨l', e, hb⟩ := ih fun n hn => hl n (List.mem_cons_of_mem _ hn)
      obtain ⟨x, e', hx⟩ := wf8n (hl y List.mem_cons_self)
      exact ⟨x :: l', by rw [e, e']; rfl, fun n hn => (List.mem_cons.1 hn).elim (fun e => e ▸ hx) (hb n)⟩
  obtain ⟨l', rfl, hb⟩ := key ns h3
  refine ⟨l', by simpa using h1, ⟨cs, rfl, ?_⟩, hb⟩
  rw [h2']
  have := RL_map (s := sg (allB w)) (w := w) (k := .u8) (l'.map (fun x : Nat => (x : Int)))
  rw [List.map_map] at this
  exact this
theorem arg_small4 {t e : TypeId} {v : Value} {d : DataW H} {p : List MemPlace} (ht : Pg.underlying t = some (.array 4 e)) (he : Pg.underlying e = some (.int .u8)) (hce : Pg.cellsOf e = 1) (hct : Pg.cellsOf t = 4) (hv : ∃ cs, v = .agg cs) (h : DataW.Trod enc Pg w 0 (fun _ => true) true t v d p) :
    ∃ a b c d : Nat, RV (sg (allB w)) w (.agg [V.int .u8 (a : Int), V.int .u8 (b : Int), V.int .u8 (c : Int), V.int .u8 (d : Int)]) v ∧ a < 256 ∧ b < 256 ∧ c < 256 ∧ d < 256 := by
  obtain ⟨ns, hl, hr, hb⟩ := arg_small ht he hce hct hv h
  match ns, hl with
  | [a, b, c, d], _ => exact ⟨a, b, c, d, hr, hb a (by simp), hb b (by simp), hb c (by simp), hb d (by simp)⟩
theorem arg_small6 {t e : TypeId} {v : Value} {d : DataW H} {p : List MemPlace} (ht : Pg.underlying t = some (.array 6 e)) (he : Pg.underlying e = some (.int .u8)) (hce : Pg.cellsOf e = 1) (hct : Pg.cellsOf t = 6) (hv : ∃ cs, v = .agg cs) (h : DataW.Trod enc Pg w 0 (fun _ => true) true t v d p) :
    ∃ a b c d e f : Nat, RV (sg (allB w)) w (.agg [V.int .u8 (a : Int), V.int .u8 (b : Int), V.int .u8 (c : Int), V.int .u8 (d : Int), V.int .u8 (e : Int), V.int .u8 (f : Int)]) v ∧ a < 256 ∧ b < 256 ∧ c < 256 ∧ d < 256 ∧ e < 256 ∧ f < 256 := by
  obtain ⟨ns, hl, hr, hb⟩ := arg_small ht he hce hct hv h
  match ns, hl with
  | [a, b, c, d, e, f], _ => exact ⟨a, b, c, d, e, f, hr, hb a (by simp), hb b (by simp), hb c (by simp), hb d (by simp), hb e (by simp), hb f (by simp)⟩
end

/-- a law that returns a bool -/
theorem law_calls {f : Nat} {ars : List V} {b : Bool} (h : FnOk Pg g0 f ars (.bool b)) (hf : (codeOf Pg f).isSome = true) {w : World} {vals : Array Value} (ha : RL (sg (allB w)) w ars vals.toList) : Calls Pg f vals w fun e w' => e = .returned (.bool b) ∧ Below w.heap.size w w' := by
  obtain ⟨fi, hfi⟩ := Option.isSome_iff_exists.1 hf
  obtain ⟨next, e1, e2, e3⟩ := h.1 (sg (allB w)) w (.func (.func f) #[] #[]) vals ⟨#[], rfl, rfl⟩ ha (no_rh (fun b hb => hb.elim id False.elim)) no_gl (fun _ _ h => h)
  have hn : next = .enter f vals := by
    have := (vE_ok.code f fi hfi)
    obtain ⟨fn, f1, f2, f3, f4, f5⟩ := this
    have := f5 vals w
    simp [Deferred.ofValue, invoke, this] at e1
    exact e1.symm
  subst hn
  refine (callsIn_wide.1 e2).mono ?_
  rintro e w' ⟨u, s', rfl, g1, g2, g3, _⟩
  obtain rfl : u = .bool b := g1
  exact ⟨rfl, g3.mod.os, g3.mod.tape, g3.mod.output, g3.mod.size, fun k hk => g3.mod.block k hk (fun ⟨_, hm, _⟩ => by cases hm)⟩


end Go.Proofs.Ytgdnmgcigkhojaa.Am
