/- The frame's lemmas for drafts. -/
import Derived.Test.YtglpoiaedkoecaaDoorD7
import Derived.Test.YtglpoiaedkoecaaDoorE15
namespace Go.Proofs.YtglpoiaedkoecaaDoor.Am
open Go.RowKit Go.ChangeShapes Go.WideShapes
set_option linter.unusedVariables false
set_option maxRecDepth 100000

theorem no_spot {w : World} {a : Addr} {v : Value} (h : w.cell? a = some v) : a = ⟨a.block, a.off, none⟩ ∧ a.block < w.heap.size := by
  unfold World.cell? at h
  split at h
  · rename_i c e f hb
    refine ⟨?_, (Array.getElem?_eq_some_iff.1 hb).1⟩
    cases a with
    | mk b o s =>
      cases s with
      | none => rfl
      | some x => simp at h
  · cases h
theorem wf8 {n : Int} (h : (Lit.int .u8 n).wf = true) : 0 ≤ n ∧ n ≤ 255 := by
  simp only [Lit.wf, Bool.and_eq_true, decide_eq_true_eq] at h
  exact h

section
variable {H : Type} {enc : TypeId × Value → H} {w : World}

theorem trod_sl {t e : TypeId} {k : IntKind} {fuel : Nat} {cs : List Value} {x : DataW H × List MemPlace} (ht : Pg.underlying t = some (.slice e)) (he : Pg.underlying e = some (.int k)) (hc : Pg.cellsOf e = 1)
    (h : DataW.trod enc Pg w 0 (fun _ => true) true fuel t cs = some x) : ∃ (v : Value) (L : List Int), cs = [v] ∧ RV (sg (allB w)) w (.im L.length (L.map (V.int k))) v ∧ (∀ n ∈ L, (Lit.int k n).wf = true) ∧ L.length ≤ 9223372036854775807 := by
  rcases open_ints ht he hc h with ⟨rfl, _⟩ | ⟨a, len, cap, zs, rfl, _, hl, hmx, hz, _, hcell, hw⟩
  · exact ⟨_, [], rfl, ⟨none, 0, rfl, Nat.le_refl _, fun h => absurd rfl h⟩, (fun _ h => by cases h), Nat.zero_le _⟩
  · have hz' : zs.length = cap := by simpa using hz
    have hmx' : cap ≤ 9223372036854775807 := hmx
    refine ⟨_, zs.take len, rfl, ⟨some a, cap, ?_, by simp; omega, fun hn => ?_⟩, fun n hm => hw n (List.mem_of_mem_take hm), by rw [List.length_take]; omega⟩
    · congr 1; simp; omega
    · have h0 : 0 < zs.length := by
        have : (zs.take len).length ≠ 0 := hn
        simp at this; omega
      obtain ⟨h1, h2⟩ := no_spot (by have := hcell 0 h0; simpa [Addr.add] using this)
      refine ⟨a.block, a.off, by rw [← h1], ?_⟩
      have key : ∀ (l : List Int) (off : Nat), (∀ (j : Nat) (h : j < l.length), w.cell? ⟨a.block, off + j, none⟩ = some (.int k l[j])) → RC (sg (allB w)) w (l.map (V.int k)) a.block off := by
        intro l
        induction l with
        | nil => intro _ _; trivial
        | cons y l ih =>
          intro off hh
          exact ⟨⟨h2, _, hh 0 (by simp), rfl⟩, ih (off + 1) fun j hj => by
            have := hh (j + 1) (by simpa using hj)
            rw [show off + 1 + j = off + (j + 1) by omega]
            exact this⟩
      refine key _ _ fun j hj => ?_
      have hj' : j < zs.length := by simp at hj; omega
      have := hcell j hj'
      rw [h1, addr_add] at this
      rw [this]
      simp [List.getD, List.getElem?_eq_getElem hj']
theorem trod_i {t : TypeId} {k : IntKind} {fuel : Nat} {cs : List Value} {x : DataW H × List MemPlace} (ht : Pg.underlying t = some (.int k)) (h : DataW.trod enc Pg w 0 (fun _ => true) true fuel t cs = some x) : ∃ n, cs = [.int k n] ∧ (Lit.int k n).wf = true := by
  cases fuel with
  | zero => simp [DataW.trod] at h
  | succ m =>
    obtain ⟨n, rfl, _, hw⟩ := DataW.trod_int ht h
    exact ⟨n, rfl, hw⟩
/-- a slice of arrays of five octets -/
theorem trod_five {fuel : Nat} {cs : List Value} {x : DataW H × List MemPlace} (h : DataW.trod enc Pg w 0 (fun _ => true) true fuel 23 cs = some x) : ∃ (v : Value) (ks : List (Nat → Int)), cs = [v] ∧ RV (sg (allB w)) w (kV ks) v ∧ KOk ks := by
  have h5 : Pg.cellsOf 92 = 5 := by kernel_rfl
  rcases DataW.trod_slice Tryd.underlying23 h with ⟨rfl, _⟩ | ⟨a, len, cap, elems, rest, n, _, rfl, _, _, hl, _, hlen, hel, _, _⟩
  · exact ⟨_, [], rfl, ⟨none, 0, rfl, Nat.le_refl _, fun h => absurd rfl h⟩, ⟨fun f hf => by cases hf⟩⟩
  · rw [h5] at hel
    have each : ∀ i : Nat, ∃ ns : List Int, i < len → (ns.length = 5 ∧ (∀ m ∈ ns, (Lit.int .u8 m).wf = true) ∧ ∀ j, j < 5 → w.cell? ((a.add (i * 5)).add j) = some (.int .u8 (ns.getD j 0))) := by
      intro i
      by_cases hi : i < len
      · have h1 := hel i hi
        rw [List.getElem?_eq_getElem (by omega)] at h1
        obtain ⟨cs', hcs, hy⟩ := Option.bind_eq_some_iff.1 h1
        obtain ⟨ns, e1, e2, _, e4⟩ := arr_trod Tryd.underlying92 Tryd.underlying5 (by kernel_rfl) (by kernel_rfl) hy
        refine ⟨ns, fun _ => ⟨e1, e4, fun j hj => ?_⟩⟩
        have := (World.cells?_some hcs).2.2 j hj
        rw [e2, List.getElem?_map, List.getElem?_eq_getElem (by omega)] at this
        rw [this, List.getD_eq_getElem?_getD, List.getElem?_eq_getElem (by omega)]
        rfl
      · exact ⟨[], fun h => absurd h hi⟩
    obtain ⟨f, hf⟩ := Classical.axiomOfChoice each
    refine ⟨_, (List.range len).map fun i j => (f i).getD j 0, rfl, ?_, ⟨fun g hg j hj => ?_⟩⟩
    · refine ⟨some a, cap, by simp, by simpa using hl, fun hn => ?_⟩
      have h0 : 0 < len := by
        have : ((List.range len).map fun i j => (f i).getD j 0).length ≠ 0 := hn
        simp at this; omega
      obtain ⟨h1, h2⟩ := no_spot (by have := (hf 0 h0).2.2 0 (by omega); simpa [Addr.add] using this)
      refine ⟨a.block, a.off, by rw [← h1], ?_⟩
      have key : ∀ (l : List (Nat → Int)) (off : Nat), (∀ (i : Nat) (g : Nat → Int), l[i]? = some g → ∀ j, j < 5 → w.cell? ⟨a.block, off + (i * 5 + j), none⟩ = some (.int .u8 (g j))) → RC (sg (allB w)) w (flatK l) a.block off := by
        intro l
        induction l with
        | nil => intro _ _; trivial
        | cons y l ih =>
          intro off hh
          have q := fun j hj => hh 0 y rfl j hj
          refine ⟨⟨h2, _, q 0 (by omega), rfl⟩, ⟨h2, _, ?_, rfl⟩, ⟨h2, _, ?_, rfl⟩, ⟨h2, _, ?_, rfl⟩, ⟨h2, _, ?_, rfl⟩, ih (off + 1 + 1 + 1 + 1 + 1) fun i g hi j hj => ?_⟩
          · exact q 1 (by omega)
          · exact q 2 (by omega)
          · exact q 3 (by omega)
          · exact q 4 (by omega)
          · have := hh (i + 1) g (by simpa using hi) j hj
            rw [show off + 1 + 1 + 1 + 1 + 1 + (i * 5 + j) = off + ((i + 1) * 5 + j) by omega]
            exact this
      refine key _ _ fun i g hi j hj => ?_
      rw [List.getElem?_map] at hi
      have hlt : i < len := by
        rcases Nat.lt_or_ge i len with h' | h'
        · exact h'
        · rw [List.getElem?_eq_none (by simpa using h')] at hi; cases hi
      rw [List.getElem?_range hlt] at hi
      cases hi
      have := (hf i hlt).2.2 j hj
      rw [h1, addr_add, addr_add, Nat.add_assoc] at this
      exact this
    · obtain ⟨i, hi, rfl⟩ := List.mem_map.1 hg
      have hlt := List.mem_range.1 hi
      obtain ⟨e1, e2, _⟩ := hf i hlt
      dsimp only
      rw [List.getD_eq_getElem?_getD, List.getElem?_eq_getElem (by omega)]
      exact wf8 (e2 _ (List.getElem_mem _))

/-- an argument: a draft of data -/
theorem arg_draft {v : Value} {d : DataW H} {p : List MemPlace} (hv : ∃ cs, v = .agg cs ∧ cs.size = Pg.cellsOf 25) (h : DataW.Trod enc Pg w 0 (fun _ => true) true 25 v d p) :
    ∃ (C : List Int) (ks : List (Nat → Int)) (fo : Int) (M : List Int), RV (sg (allB w)) w (dfV C ks fo M) v ∧ DrOk C ks fo M := by
  obtain ⟨arr, rfl, hsz⟩ := hv
  obtain ⟨fuel, hf⟩ := h
  obtain ⟨xs, n, _, _, hl, hlen, hfd⟩ := DataW.trod_struct Tryd.underlying25 hf
  have hc26 : Pg.cellsOf 25 = 4 := by kernel_rfl
  rw [hc26] at hl
  have hcells : (Value.agg arr).cells.toList = arr.toList := rfl
  rw [hcells] at hl hfd
  obtain ⟨c0, c1, c2, c3, harr⟩ : ∃ c0 c1 c2 c3, arr.toList = [c0, c1, c2, c3] := by
    match arr.toList, hl with
    | [c0, c1, c2, c3], _ => exact ⟨c0, c1, c2, c3, rfl⟩
  have hlen' : xs.length = 4 := hlen
  obtain ⟨y0, y1, y2, y3, rfl⟩ : ∃ y0 y1 y2 y3, xs = [y0, y1, y2, y3] := by
    match xs, hlen' with
    | [y0, y1, y2, y3], _ => exact ⟨y0, y1, y2, y3, rfl⟩
  have h1c : ∀ t, t = 22 ∨ t = 23 ∨ t = 5 → Pg.cellsOf t = 1 := by
    rintro t (rfl | rfl | rfl) <;> kernel_rfl
  have f0 : DataW.trod enc Pg w 0 (fun _ => true) true n 22 (List.take (Pg.cellsOf 22) (List.drop 0 arr.toList)) = some y0 := hfd 0 _ rfl
  have f1 : DataW.trod enc Pg w 0 (fun _ => true) true n 23 (List.take (Pg.cellsOf 23) (List.drop 1 arr.toList)) = some y1 := hfd 1 _ rfl
  have f2 : DataW.trod enc Pg w 0 (fun _ => true) true n 5 (List.take (Pg.cellsOf 5) (List.drop 2 arr.toList)) = some y2 := hfd 2 _ rfl
  have f3 : DataW.trod enc Pg w 0 (fun _ => true) true n 22 (List.take (Pg.cellsOf 22) (List.drop 3 arr.toList)) = some y3 := hfd 3 _ rfl
  rw [harr] at f0 f1 f2 f3
  rw [h1c 22 (.inl rfl)] at f0 f3
  rw [h1c 23 (.inr (.inl rfl))] at f1
  rw [h1c 5 (.inr (.inr rfl))] at f2
  obtain ⟨v0, C, e0, r0, w0, _⟩ := trod_sl Tryd.underlying22 Tryd.underlying5 (by kernel_rfl) (x := y0) f0
  obtain ⟨v1, ks, e1, r1, w1⟩ := trod_five (x := y1) f1
  obtain ⟨k2, e2, w2⟩ := trod_i Tryd.underlying5 (x := y2) f2
  obtain ⟨v3, M, e3, r3, w3, l3⟩ := trod_sl Tryd.underlying22 Tryd.underlying5 (by kernel_rfl) (x := y3) f3
  simp at e0 e1 e2 e3
  subst e0 e1 e2 e3
  refine ⟨C, ks, k2, M, ⟨arr, rfl, ?_⟩, ⟨fun c hc => wf8 (w0 c hc), w1, wf8 w2, fun c hc => wf8 (w3 c hc), l3⟩⟩
  rw [harr]
  exact ⟨_, _, rfl, r0, _, _, rfl, r1, _, _, rfl, rfl, _, _, rfl, r3, rfl⟩
end

end Go.Proofs.YtglpoiaedkoecaaDoor.Am
