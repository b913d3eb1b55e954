/- The frame's lemmas for plans of graphs and lists of sets. -/
import Derived.Test.YtglpoiaedkoecaaDoorE26
import Derived.Test.YtglpoiaedkoecaaDoorF5
namespace Go.Proofs.YtglpoiaedkoecaaDoor.Am
open Go.RowKit Go.ChangeShapes Go.WideShapes
set_option linter.unusedVariables false
set_option maxRecDepth 100000

theorem wf16 {n : Int} (h : (Lit.int .u16 n).wf = true) : 0 ≤ n ∧ n ≤ 65535 := by
  simp only [Lit.wf, Bool.and_eq_true, decide_eq_true_eq] at h
  exact h
theorem wf64 {n : Int} (h : (Lit.int .u64 n).wf = true) : 0 ≤ n ∧ n ≤ 18446744073709551615 := by
  simp only [Lit.wf, Bool.and_eq_true, decide_eq_true_eq] at h
  exact h
theorem wf8n {n : Int} (h : (Lit.int .u8 n).wf = true) : ∃ m : Nat, n = m ∧ m < 256 := by
  have := wf8 h
  exact ⟨n.toNat, by omega, by omega⟩

section
variable {H : Type} {enc : TypeId × Value → H} {w : World}
/-- an argument: a list of sets -/
theorem arg_us {v : Value} {d : DataW H} {p : List MemPlace} (hv : ∃ a len cap, v = .slice a len cap) (h : DataW.Trod enc Pg w 0 (fun _ => true) true 52 v d p) :
    ∃ L : List Nat, RV (sg (allB w)) w (ul L) v ∧ S64 L ∧ L.length ≤ 9223372036854775807 := by
  obtain ⟨a, len, cap, rfl⟩ := hv
  obtain ⟨fuel, hf⟩ := h
  obtain ⟨u, L, e1, h1, h2, h3⟩ := trod_sl Tryd.underlying52 Tryd.underlying28 (by kernel_rfl) hf
  simp [Value.cells] at e1
  subst e1
  refine ⟨L.map Int.toNat, ?_, fun x hx => ?_, by rw [List.length_map]; exact h3⟩
  · have e : ut (L.map Int.toNat) = L.map (V.int .u64) := by
      unfold ut
      rw [List.map_map]
      refine List.map_congr_left fun n hn => ?_
      have := wf64 (h2 n hn)
      simp only [Function.comp]
      rw [Int.toNat_of_nonneg this.1]
    unfold ul
    rw [e, List.length_map]
    exact h1
  · obtain ⟨n, hn, rfl⟩ := List.mem_map.1 hx
    have := wf64 (h2 n hn)
    omega
/-- an argument: a plan of a graph -/
theorem arg_plan {v : Value} {d : DataW H} {p : List MemPlace} (hv : ∃ cs, v = .agg cs ∧ cs.size = Pg.cellsOf 51) (h : DataW.Trod enc Pg w 0 (fun _ => true) true 51 v d p) :
    ∃ (N : Int) (o : Nat → Nat) (E : Nat), RV (sg (allB w)) w (.agg [w8 N, w8 (o 0), w8 (o 1), w8 (o 2), w8 (o 3), w8 (o 4), w8 (o 5), v16 E]) v ∧ (∀ k, k < 6 → o k < 256) ∧ E < 65536 := by
  obtain ⟨arr, rfl, hsz⟩ := hv
  obtain ⟨fuel, hf⟩ := h
  obtain ⟨xs, n, _, _, hl, hlen, hfd⟩ := DataW.trod_struct Tryd.underlying51 hf
  have hc51 : Pg.cellsOf 51 = 8 := by kernel_rfl
  rw [hc51] at hl
  have hcells : (Value.agg arr).cells.toList = arr.toList := rfl
  rw [hcells] at hl hfd
  obtain ⟨c0, c1, c2, c3, c4, c5, c6, c7, harr⟩ : ∃ c0 c1 c2 c3 c4 c5 c6 c7, arr.toList = [c0, c1, c2, c3, c4, c5, c6, c7] := by
    match arr.toList, hl with
    | [c0, c1, c2, c3, c4, c5, c6, c7], _ => exact ⟨c0, c1, c2, c3, c4, c5, c6, c7, rfl⟩
  have hlen' : xs.length = 3 := hlen
  obtain ⟨y0, y1, y2, rfl⟩ : ∃ y0 y1 y2, xs = [y0, y1, y2] := by
    match xs, hlen' with
    | [y0, y1, y2], _ => exact ⟨y0, y1, y2, rfl⟩
  have hc5 : Pg.cellsOf 5 = 1 := by kernel_rfl
  have hc48 : Pg.cellsOf 48 = 6 := by kernel_rfl
  have hc49 : Pg.cellsOf 49 = 1 := by kernel_rfl
  have f0 : DataW.trod enc Pg w 0 (fun _ => true) true n 5 (List.take (Pg.cellsOf 5) (List.drop 0 arr.toList)) = some y0 := hfd 0 _ rfl
  have f1 : DataW.trod enc Pg w 0 (fun _ => true) true n 48 (List.take (Pg.cellsOf 48) (List.drop 1 arr.toList)) = some y1 := hfd 1 _ rfl
  have f2 : DataW.trod enc Pg w 0 (fun _ => true) true n 49 (List.take (Pg.cellsOf 49) (List.drop 7 arr.toList)) = some y2 := hfd 2 _ rfl
  rw [harr] at f0 f1 f2
  rw [hc5] at f0
  rw [hc48] at f1
  rw [hc49] at f2
  obtain ⟨k0, e0, w0⟩ := trod_i Tryd.underlying5 (x := y0) f0
  obtain ⟨ns, l1, e1, _, w1⟩ := arr_trod Tryd.underlying48 Tryd.underlying5 (by kernel_rfl) (by kernel_rfl) f1
  obtain ⟨k2, e2, w2⟩ := trod_i Tryd.underlying49 (x := y2) f2
  obtain ⟨n0, n1, n2, n3, n4, n5, rfl⟩ : ∃ n0 n1 n2 n3 n4 n5, ns = [n0, n1, n2, n3, n4, n5] := by
    match ns, l1 with
    | [n0, n1, n2, n3, n4, n5], _ => exact ⟨n0, n1, n2, n3, n4, n5, rfl⟩
  simp at e0 e1 e2
  obtain ⟨a0, rfl, b0⟩ := wf8n (w1 n0 (by simp))
  obtain ⟨a1, rfl, b1⟩ := wf8n (w1 n1 (by simp))
  obtain ⟨a2, rfl, b2⟩ := wf8n (w1 n2 (by simp))
  obtain ⟨a3, rfl, b3⟩ := wf8n (w1 n3 (by simp))
  obtain ⟨a4, rfl, b4⟩ := wf8n (w1 n4 (by simp))
  obtain ⟨a5, rfl, b5⟩ := wf8n (w1 n5 (by simp))
  have b6 := wf16 w2
  obtain ⟨E, rfl⟩ : ∃ E : Nat, k2 = E := ⟨k2.toNat, by omega⟩
  obtain ⟨rfl, rfl, rfl, rfl, rfl, rfl⟩ := e1
  subst e0 e2
  refine ⟨k0, fun k => [a0, a1, a2, a3, a4, a5].getD k 0, E, ⟨arr, rfl, ?_⟩, fun k hk => ?_, by omega⟩
  · rw [harr]
    exact ⟨_, _, rfl, rfl, _, _, rfl, rfl, _, _, rfl, rfl, _, _, rfl, rfl, _, _, rfl, rfl, _, _, rfl, rfl, _, _, rfl, rfl, _, _, rfl, rfl, rfl⟩
  · rcases lt6 hk with rfl | rfl | rfl | rfl | rfl | rfl
    · exact b0
    · exact b1
    · exact b2
    · exact b3
    · exact b4
    · exact b5
end

end Go.Proofs.YtglpoiaedkoecaaDoor.Am
