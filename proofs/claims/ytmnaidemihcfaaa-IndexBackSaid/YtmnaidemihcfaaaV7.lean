/- From the given reading of a law's arguments to the machine's values. -/
import Derived.Test.YtmnaidemihcfaaaV4
import Derived.ChangeSlices
import Derived.WalkKit
import Derived.ProofKit
import Derived.OpenShut
import Derived.Carry
namespace Go.Proofs.Ytmnaidemihcfaaa.Am
open Go.RowKit Go.ChangeShapes Go.WideShapes
set_option linter.unusedVariables false
set_option maxRecDepth 100000

/-- what was there when the law was called: nobody writes it -/
def allB (w : World) (b : Nat) : Prop := b < w.heap.size

theorem no_spot {w : World} {a : Addr} {v : Value} (h : w.cell? a = some v) : a = ⟨a.block, a.off, none⟩ ∧ a.block < w.heap.size := by
  unfold World.cell? at h
  split at h
  · rename_i c e f hb
    refine ⟨?_, (Array.getElem?_eq_some_iff.1 hb).1⟩
    cases a with
    | mk b o s =>
      cases s with
      | none => rfl
      | some x => simp at h
  · cases h

section
variable {H : Type} {enc : TypeId × Value → H} {w : World}

theorem trod_sl {t e : TypeId} {k : IntKind} {fuel : Nat} {cs : List Value} {x : DataW H × List MemPlace} (ht : Pg.underlying t = some (.slice e)) (he : Pg.underlying e = some (.int k)) (hc : Pg.cellsOf e = 1)
    (h : DataW.trod enc Pg w 0 (fun _ => true) true fuel t cs = some x) : ∃ (v : Value) (L : List Int), cs = [v] ∧ RV (sg (allB w)) w (.im L.length (L.map (V.int k))) v ∧ ∀ n ∈ L, (Lit.int k n).wf = true := by
  rcases open_ints ht he hc h with ⟨rfl, _⟩ | ⟨a, len, cap, zs, rfl, _, hl, _, hz, _, hcell, hw⟩
  · exact ⟨_, [], rfl, ⟨none, 0, rfl, Nat.le_refl _, fun h => absurd rfl h⟩, fun _ h => by cases h⟩
  · have hz' : zs.length = cap := by simpa using hz
    refine ⟨_, zs.take len, rfl, ⟨some a, cap, ?_, by simp; omega, fun hn => ?_⟩, fun n hm => hw n (List.mem_of_mem_take hm)⟩
    · congr 1; simp; omega
    · have h0 : 0 < zs.length := by
        have : (zs.take len).length ≠ 0 := hn
        simp at this; omega
      obtain ⟨h1, h2⟩ := no_spot (by have := hcell 0 h0; simpa [Addr.add] using this)
      refine ⟨a.block, a.off, by rw [← h1], ?_⟩
      have key : ∀ (l : List Int) (off : Nat), (∀ (j : Nat) (h : j < l.length), w.cell? ⟨a.block, off + j, none⟩ = some (.int k l[j])) → RC (sg (allB w)) w (l.map (V.int k)) a.block off := by
        intro l
        induction l with
        | nil => intro _ _; trivial
        | cons y l ih =>
          intro off hh
          exact ⟨⟨h2, _, hh 0 (by simp), rfl⟩, ih (off + 1) fun j hj => by
            have := hh (j + 1) (by simpa using hj)
            rw [show off + 1 + j = off + (j + 1) by omega]
            exact this⟩
      refine key _ _ fun j hj => ?_
      have hj' : j < zs.length := by simp at hj; omega
      have := hcell j hj'
      rw [h1, addr_add] at this
      rw [this]
      simp [List.getD, List.getElem?_eq_getElem hj']

theorem trod_i {t : TypeId} {k : IntKind} {fuel : Nat} {cs : List Value} {x : DataW H × List MemPlace} (ht : Pg.underlying t = some (.int k)) (h : DataW.trod enc Pg w 0 (fun _ => true) true fuel t cs = some x) : ∃ n, cs = [.int k n] ∧ (Lit.int k n).wf = true := by
  cases fuel with
  | zero => simp [DataW.trod] at h
  | succ m =>
    obtain ⟨n, rfl, _, hw⟩ := DataW.trod_int ht h
    exact ⟨n, rfl, hw⟩

/-- an argument: a list of numbers -/
theorem arg_sl {t e : TypeId} {k : IntKind} {v : Value} {d : DataW H} {p : List MemPlace} (ht : Pg.underlying t = some (.slice e)) (he : Pg.underlying e = some (.int k)) (hc : Pg.cellsOf e = 1) (hv : ∃ a len cap, v = .slice a len cap) (h : DataW.Trod enc Pg w 0 (fun _ => true) true t v d p) :
    ∃ L : List Int, RV (sg (allB w)) w (.im L.length (L.map (V.int k))) v ∧ ∀ n ∈ L, (Lit.int k n).wf = true := by
  obtain ⟨a, len, cap, rfl⟩ := hv
  obtain ⟨fuel, hf⟩ := h
  obtain ⟨u, L, e1, h1, h2⟩ := trod_sl ht he hc hf
  simp [Value.cells] at e1
  subst e1
  exact ⟨L, h1, h2⟩

theorem wf8 {n : Int} (h : (Lit.int .u8 n).wf = true) : 0 ≤ n ∧ n ≤ 255 := by
  simp only [Lit.wf, Bool.and_eq_true, decide_eq_true_eq] at h
  exact h
theorem wf16 {n : Int} (h : (Lit.int .u16 n).wf = true) : 0 ≤ n ∧ n ≤ 65535 := by
  simp only [Lit.wf, Bool.and_eq_true, decide_eq_true_eq] at h
  exact h

/-- an argument: a draft of chapter 02 -/
theorem arg_draft {v : Value} {d : DataW H} {p : List MemPlace} (hv : ∃ cs, v = .agg cs ∧ cs.size = Pg.cellsOf 26) (h : DataW.Trod enc Pg w 0 (fun _ => true) true 26 v d p) :
    ∃ (C : List Int) (w' : Int) (D : List Int), RV (sg (allB w)) w (drV C D w') v ∧ u8s C ∧ 0 ≤ w' ∧ w' ≤ 65535 ∧ u8s D := by
  obtain ⟨arr, rfl, hsz⟩ := hv
  obtain ⟨fuel, hf⟩ := h
  obtain ⟨xs, n, _, _, hl, hlen, hfd⟩ := DataW.trod_struct Try.underlying26 hf
  have hc26 : Pg.cellsOf 26 = 3 := by kernel_rfl
  rw [hc26] at hl
  have hcells : (Value.agg arr).cells.toList = arr.toList := rfl
  rw [hcells] at hl hfd
  obtain ⟨c0, c1, c2, harr⟩ : ∃ c0 c1 c2, arr.toList = [c0, c1, c2] := by
    match arr.toList, hl with
    | [c0, c1, c2], _ => exact ⟨c0, c1, c2, rfl⟩
  have hlen' : xs.length = 3 := hlen
  obtain ⟨y0, y1, y2, rfl⟩ : ∃ y0 y1 y2, xs = [y0, y1, y2] := by
    match xs, hlen' with
    | [y0, y1, y2], _ => exact ⟨y0, y1, y2, rfl⟩
  have h1c : ∀ t, t = 23 ∨ t = 24 → Pg.cellsOf t = 1 := by
    rintro t (rfl | rfl) <;> kernel_rfl
  have f0 : DataW.trod enc Pg w 0 (fun _ => true) true n 23 (List.take (Pg.cellsOf 23) (List.drop 0 arr.toList)) = some y0 := hfd 0 _ rfl
  have f1 : DataW.trod enc Pg w 0 (fun _ => true) true n 24 (List.take (Pg.cellsOf 24) (List.drop 1 arr.toList)) = some y1 := hfd 1 _ rfl
  have f2 : DataW.trod enc Pg w 0 (fun _ => true) true n 23 (List.take (Pg.cellsOf 23) (List.drop 2 arr.toList)) = some y2 := hfd 2 _ rfl
  rw [harr] at f0 f1 f2
  rw [h1c 23 (.inl rfl)] at f0 f2
  rw [h1c 24 (.inr rfl)] at f1
  obtain ⟨v0, C, e0, r0, w0⟩ := trod_sl Try.underlying23 Try.underlying5 (by kernel_rfl) (x := y0) f0
  obtain ⟨k1, e1, w1⟩ := trod_i Try.underlying24 (x := y1) f1
  obtain ⟨v2, D, e2, r2, w2⟩ := trod_sl Try.underlying23 Try.underlying5 (by kernel_rfl) (x := y2) f2
  simp at e0 e1 e2
  subst e0 e1 e2
  refine ⟨C, k1, D, ⟨arr, rfl, ?_⟩, fun c hc => wf8 (w0 c hc), (wf16 w1).1, (wf16 w1).2, fun c hc => wf8 (w2 c hc)⟩
  rw [harr]
  exact ⟨_, _, rfl, r0, _, _, rfl, rfl, _, _, rfl, r2, rfl⟩
end

/-- a law that returns a bool -/
theorem law_calls {f : Nat} {ars : List V} {b : Bool} (h : FnOk Pg .e f ars (.bool b)) (hf : (codeOf Pg f).isSome = true) {w : World} {vals : Array Value} (ha : RL (sg (allB w)) w ars vals.toList) : Calls Pg f vals w fun e w' => e = .returned (.bool b) ∧ Below w.heap.size w w' := by
  obtain ⟨next, e1, e2, e3⟩ := h.1 (sg (allB w)) w (.func (.func f) #[] #[]) vals ⟨#[], rfl, rfl⟩ ha (no_rh (fun b hb => hb.elim id False.elim)) no_gl (fun _ _ h => h)
  have hn : next = .enter f vals := by
    have := enters f hf vals w
    simp [Deferred.ofValue, invoke, this] at e1
    exact e1.symm
  subst hn
  refine (callsIn_wide.1 e2).mono ?_
  rintro e w' ⟨u, s', rfl, g1, g2, g3, _⟩
  obtain rfl : u = .bool b := g1
  exact ⟨rfl, g3.mod.os, g3.mod.tape, g3.mod.output, g3.mod.size, fun k hk => g3.mod.block k hk (fun ⟨_, hm, _⟩ => by cases hm)⟩

end Go.Proofs.Ytmnaidemihcfaaa.Am
