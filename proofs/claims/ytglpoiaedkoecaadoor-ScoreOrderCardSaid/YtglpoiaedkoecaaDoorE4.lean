/- Chapter 28: score.family: the range over the map of counts; the function's answer. -/
import Derived.Test.YtglpoiaedkoecaaDoorE3
namespace Go.Proofs.YtglpoiaedkoecaaDoor.Am
open Go.RowKit
set_option linter.unusedVariables false
set_option maxHeartbeats 1000000
set_option maxRecDepth 100000

section
variable (r : Nat) (key : Nat → Nat) (cl : Nat → List Nat)
abbrev viewF : Nat → V × V × Nat := fun a => (i6 (key a : Nat), .im r (nt (cl a)), a)
theorem leftE_view (seen : List Nat) : ∀ l : List Nat, leftE seen (l.map (viewF r key cl)) = (l.filter fun a => !seen.contains a).map (viewF r key cl)
  | [] => rfl
  | a :: l => by
    rw [List.map_cons, leftE, leftE_view seen l, List.filter_cons]
    cases seen.contains a <;> rfl
theorem allOld_view (n : Nat) : ∀ l : List Nat, (∀ a ∈ l, a < n) → allOld n (l.map (viewF r key cl)) = true
  | [], _ => rfl
  | a :: l, h => by
    rw [List.map_cons, allOld, allOld_view n l (fun x hx => h x (List.mem_cons_of_mem _ hx)), Bool.and_true]
    exact Nat.ble_eq_true_of_le (h a List.mem_cons_self)
theorem findB_view {a : Nat} : ∀ {l : List Nat}, a ∈ l → findB a (l.map (viewF r key cl)) = some (i6 (key a : Nat), .im r (nt (cl a)))
  | b :: l, h => by
    rw [List.map_cons, findB]
    cases hb : Nat.beq b a with
    | true =>
      have := Nat.eq_of_beq_eq_true hb
      subst this; rfl
    | false =>
      rw [cond_false]
      refine findB_view ((List.mem_cons.1 h).resolve_left ?_)
      rintro rfl
      simp at hb
theorem HfE_view : ∀ l : List Nat, HfE (l.map (viewF r key cl))
  | [] => trivial
  | a :: l => ⟨trivial, trivial, HfE_view l⟩
end
theorem entF_get (r : Nat) : ∀ (es : List (Nat × List Nat)) (t a : Nat), (entF r t es)[a]? = es[a]?.map fun e => (i6 (e.1 : Nat), V.im r (nt e.2), t + a)
  | [], _, _ => by simp [entF]
  | e :: es, t, 0 => by simp [entF]
  | e :: es, t, a + 1 => by
    rw [entF, List.getElem?_cons_succ, entF_get r es (t + 1) a, List.getElem?_cons_succ, show t + 1 + a = t + (a + 1) by omega]
theorem entF_eq (r : Nat) (es : List (Nat × List Nat)) : entF r 0 es = (List.range es.length).map (viewF r (fun a => (es.getD a (0, [])).1) (fun a => (es.getD a (0, [])).2)) := by
  apply List.ext_getElem?
  intro a
  rw [entF_get, List.getElem?_map, Nat.zero_add]
  by_cases h : a < es.length
  · rw [List.getElem?_range h, List.getElem?_eq_getElem h]
    simp only [Option.map_some, viewF, List.getD_eq_getElem?_getD, List.getElem?_eq_getElem h, Option.getD_some]
  · rw [List.getElem?_eq_none (by omega), List.getElem?_eq_none (by simp; omega)]; rfl
theorem nodup_le {ks : List Nat} {n : Nat} (hn : ks.Nodup) (hk : ∀ k ∈ ks, k < n) : ks.length ≤ n := by
  have hp : ((List.range n).filter (fun j => decide (j ∈ ks))).Perm ks := by
    refine (List.perm_ext_iff_of_nodup (List.Nodup.sublist List.filter_sublist List.nodup_range) hn).2 fun a => ?_
    simp only [List.mem_filter, List.mem_range, decide_eq_true_eq]
    exact ⟨fun h => h.2, fun h => ⟨hk a h, h⟩⟩
  rw [← hp.length_eq]
  calc _ ≤ (List.range n).length := List.length_filter_le _ _
    _ = n := List.length_range

structure RowsOk (r n : Nat) (cl : Nat → List Nat) : Prop where
  r1 : 1 ≤ r
  r4 : r ≤ 4
  n40 : n ≤ 40
  len : ∀ a, a < n → (cl a).length = r
  sum : ∀ a, a < n → sumN (cl a) ≤ 40
theorem con_bd {F : Nat → Nat → Int} {tb : List V} (ht : TabOk F tb) {r n : Nat} {cl : Nat → List Nat} (h : RowsOk r n cl) {a i : Nat} (ha : a < n) (hi : i < 18) : -250 ≤ conF F r (cl a) i ∧ conF F r (cl a) i ≤ 250 := by
  have h1 := sum_bd ht hi (cl a) (fun c hc => by have := sumN_mem hc; have := h.sum a ha; omega)
  have h2 := h.len a ha
  have h3 := h.sum a ha
  have h4 := h.r4
  have h5 := ht.bd (r - 1) i (by omega) hi
  have h6 := ht.bd (sumN (cl a) + (r - 1)) i (by omega) hi
  unfold conF; omega
theorem seen_bd {F : Nat → Nat → Int} {tb : List V} (ht : TabOk F tb) {r n : Nat} {cl : Nat → List Nat} (h : RowsOk r n cl) {i : Nat} (hi : i < 18) : ∀ l : List Nat, (∀ a ∈ l, a < n) → -250 * (l.length : Int) ≤ sumI (l.map fun a => conF F r (cl a) i) ∧ sumI (l.map fun a => conF F r (cl a) i) ≤ 250 * (l.length : Int)
  | [], _ => by simp [sumI]
  | a :: l, hl => by
    have h1 := seen_bd ht h hi l (fun x hx => hl x (List.mem_cons_of_mem _ hx))
    have h2 := con_bd ht h (hl a List.mem_cons_self) hi
    simp only [List.map_cons, sumI, List.length_cons]
    omega

abbrev fzS (f : Nat → Int) : SL := { sl := [(6, .ptr 1 0), (15, .ptr 4 0)], os := [.dead, .row 41 none (arF zeroF), .dead, .dead, .row 41 none (arF f), .dead] }
theorem fam_map (r n : Nat) (key : Nat → Nat) (cl : Nat → List Nat) (tb : List V) (F : Nat → Nat → Int) (ht : TabOk F tb) (h : RowsOk r n cl) (E : List (V × V × Nat)) (hE : E = (List.range n).map (viewF r key cl)) :
    Sat Pg none 0 (at' 73 [1, 1, 1, 1, 1, 1, 0, 1, 0]) (mkSt g0 113 (fmS r E n tb [] zeroF)) (outsP g0 113 [(True, .exit 4, fzS (fun i => sumI ((List.range n).map fun a => conF F r (cl a) i)))]) := by
  refine (loopHG (b := at' 73 [1, 1, 1, 1, 1, 1, 0, 1, 0, 0]) (by kernel_rfl) (fun q : List Nat × (Nat → Int) => q.1.Nodup ∧ (∀ a ∈ q.1, a < n) ∧ ∀ i, i < 18 → q.2 i = sumI (q.1.map fun a => conF F r (cl a) i)) (fun q => fmS r E n tb q.1 q.2) (fun q => n - q.1.length) (fun e S' => e = .exit 4 ∧ ∃ f, S' = fzS f ∧ ∀ i, i < 18 → f i = sumI ((List.range n).map fun a => conF F r (cl a) i)) (fun q G hq hN hX _ => ?_) ([], zeroF) ⟨List.nodup_nil, fun _ h => (by cases h), fun _ _ => rfl⟩).mono ?_
  · obtain ⟨seen, f⟩ := q
    obtain ⟨hn, hs, hf⟩ := hq
    dsimp only at hn hs hf hN
    have hle := nodup_le hn hs
    have hHf : HfE E := by rw [hE]; exact HfE_view r key cl _
    have hleft : leftE seen E = ((List.range n).filter fun a => !seen.contains a).map (viewF r key cl) := by rw [hE]; exact leftE_view r key cl seen _
    have hold : allOld n E = true := by rw [hE]; exact allOld_view r key cl n _ (fun a ha => List.mem_range.1 ha)
    have hids : ∀ a ∈ (List.range n).filter (fun a => !seen.contains a), a < n ∧ a ∉ seen := by
      intro a ha
      obtain ⟨h1, h2⟩ := List.mem_filter.1 ha
      refine ⟨List.mem_range.1 h1, fun hm => ?_⟩
      simp [hm] at h2
    have hnil : (List.range n).filter (fun a => !seen.contains a) = [] → ∀ i, i < 18 → f i = sumI ((List.range n).map fun a => conF F r (cl a) i) := by
      intro he i hi
      have hp : seen.Perm (List.range n) := by
        refine (List.perm_ext_iff_of_nodup hn List.nodup_range).2 fun a => ⟨fun ha => List.mem_range.2 (hs a ha), fun ha => ?_⟩
        by_cases hm : a ∈ seen
        · exact hm
        · have : a ∈ (List.range n).filter (fun a => !seen.contains a) := List.mem_filter.2 ⟨ha, by simpa using hm⟩
          rw [he] at this; cases this
      rw [hf i hi]
      exact sumI_perm (hp.map _)
    have hfind : ∀ a, a < n → findB a E = some (i6 (key a : Nat), .im r (nt (cl a))) := fun a ha => by rw [hE]; exact findB_view r key cl (List.mem_range.2 ha)
    have htf := ht.hf
    have hr4 := h.r4
    have hr1 := h.r1
    have hn40 := h.n40
    have hfb : ∀ i, i < 18 → -10000 ≤ f i ∧ f i ≤ 10000 := fun i hi => by
      have := seen_bd ht h hi seen hs
      rw [hf i hi]; omega
    have hp1 := @place173 3 (r - 1) (by omega)
    have ht1 := ht.take (r - 1) (by omega)
    have hstep : ∀ a, a < n → a ∉ seen → G .normal (fmS r E n tb (seen ++ [a]) (addA (addA (sumA F f (cl a) (cl a).length) (F (r - 1)) 1) (F (sumN (cl a) + (r - 1))) (-1))) := fun a ha hm => by
      refine hN (seen ++ [a], _) ⟨?_, ?_, fun i hi => ?_⟩ ?_
      · rw [List.nodup_append]
        refine ⟨hn, by simp, fun x hx y hy => ?_⟩
        obtain rfl := List.mem_singleton.1 hy
        rintro rfl; exact hm hx
      · intro x hx
        rcases List.mem_append.1 hx with hx | hx
        · exact hs x hx
        · obtain rfl := List.mem_singleton.1 hx; exact ha
      · dsimp only
        rw [List.map_append, sumI_append, ← hf i hi]
        simp only [addA, sumA_at _ _ _ _ _ (Nat.le_refl _), List.take_length, List.map_cons, List.map_nil, sumI, conF]
        omega
      · have : (seen ++ [a]).length ≤ n := nodup_le (by
          rw [List.nodup_append]
          refine ⟨hn, by simp, fun x hx y hy => ?_⟩
          obtain rfl := List.mem_singleton.1 hy
          rintro rfl; exact hm hx) (fun x hx => by
          rcases List.mem_append.1 hx with hx | hx
          · exact hs x hx
          · obtain rfl := List.mem_singleton.1 hx; exact ha)
        simp only [List.length_append, List.length_cons, List.length_nil] at this ⊢
        omega
    have hX' : (List.range n).filter (fun a => !seen.contains a) = [] → G (.exit 4) (fzS f) := fun he => hX 4 _ ⟨rfl, f, rfl, hnil he⟩
    generalize (List.range n).filter (fun a => !seen.contains a) = ids at *
    refine ⟨[(0, .nx ids (viewF r key cl) (fun a => [(81, .en a (i6 (key a : Nat)) (.im r (nt (cl a)))), (0, .loop [0, 1, 2, 3, 4, 5] (flS r E n tb (seen ++ [a]) (cl a) (0, 0, f)) [(True, .exit 6, flX r E n tb (seen ++ [a]) (sumN (cl a)) (sumA F f (cl a) (cl a).length))]), nu 100 (r - 1 : Nat), va 101 (.ptr 3 ((r - 1) * 18)), ld 102 (ar (F (r - 1))), fn 103 (ar (addA (sumA F f (cl a) (cl a).length) (F (r - 1)) 1)), nu 107 (sumN (cl a) + r : Nat), nu 108 (sumN (cl a) + (r - 1) : Nat), va 109 (.ptr 3 ((sumN (cl a) + (r - 1)) * 18)), ld 110 (ar (F (sumN (cl a) + (r - 1)))), fn 111 (ar (addA (addA (sumA F f (cl a) (cl a).length) (F (r - 1)) 1) (F (sumN (cl a) + (r - 1))) (-1))), (0, .to [0, 1, 2, 3, 4, 5] (fmS r E n tb (seen ++ [a]) (addA (addA (sumA F f (cl a) (cl a).length) (F (r - 1)) 1) (F (sumN (cl a) + (r - 1))) (-1))))]) [(0, .to [0, 1, 2, 3, 4, 5] (fzS f))])], 1000, ?_⟩
    refine Eq.mp (by kernel_rfl : ((allOld n E = true ∧ n ≤ n ∧ leftE seen E = List.map (viewF r key cl) ids) ∧ (ids = [] → G (Ex.exit 4) (fzS f) ∧ (0 = 0 ∧ 0 = 0 ∧ True) ∧ True ∧ (arF zeroF = arF zeroF ∧ True ∧ True ∧ True ∧ True ∧ True ∧ True ∧ True ∧ True ∧ True ∧ True ∧ True ∧ True ∧ True ∧ True ∧ True ∧ True ∧ True ∧ True ∧ True) ∧ True ∧ True ∧ (arF f = arF f ∧ True ∧ True ∧ True ∧ True ∧ True ∧ True ∧ True ∧ True ∧ True ∧ True ∧ True ∧ True ∧ True ∧ True ∧ True ∧ True ∧ True ∧ True ∧ True) ∧ True ∧ True) ∧ ∀ (a : Nat), List.Mem a ids → (List.getLast? (seen ++ [a]) = some a ∧ n = n ∧ findB a E = some (i6 (↑(key a) : Int), V.im r (nt (cl a)))) ∧ ((0 = 0 ∧ (↑r : Int) = (↑r : Int) ∧ 0 = 0 ∧ 0 = 0 ∧ 0 = 0 ∧ (↑(0 : Nat) : Int) = (0 : Int) ∧ (List.length (cl a) = r ∧ nt (cl a) = nt (cl a)) ∧ (↑(List.length (cl a)) : Int) = (↑r : Int) ∧ (↑(0 : Nat) : Int) = (0 : Int) ∧ True) ∧ True ∧ (arF zeroF = arF zeroF ∧ True ∧ True ∧ True ∧ True ∧ True ∧ True ∧ True ∧ True ∧ True ∧ True ∧ True ∧ True ∧ True ∧ True ∧ True ∧ True ∧ True ∧ True ∧ True) ∧ (E = E ∧ HfE E ∧ n = n) ∧ (tb = tb ∧ HfL tb) ∧ (arF f = arF f ∧ True ∧ True ∧ True ∧ True ∧ True ∧ True ∧ True ∧ True ∧ True ∧ True ∧ True ∧ True ∧ True ∧ True ∧ True ∧ True ∧ True ∧ True ∧ True) ∧ (n = n ∧ seen ++ [a] = seen ++ [a] ∧ n = n) ∧ True) ∧ Sat Pg none 0 (at' 73 [1, 1, 1, 1, 1, 1, 0, 1, 0, 0, 1, 1, 0, 1, 1, 0, 1, 0]) (mkSt g0 113 (flS r E n tb (seen ++ [a]) (cl a) (0, 0, f))) (outsP g0 113 [(True, Ex.exit 6, flX r E n tb (seen ++ [a]) (sumN (cl a)) (sumA F f (cl a) (List.length (cl a))))]) ∧ (True → wr IntKind.i64 ((↑r : Int) - (1 : Int)) = (↑(r - 1) : Int) ∧ placeV (ctxOf Tryd.prog) 173 (V.ptr 3 0) (↑(r - 1) : Int) = some (V.ptr 3 ((r - 1) * 18)) ∧ takeE 18 (dropF ((r - 1) * 18) tb) = some (arF (F (r - 1))) ∧ ((True ∧ True ∧ True ∧ True ∧ True ∧ True ∧ True ∧ True ∧ True ∧ True ∧ True ∧ True ∧ True ∧ True ∧ True ∧ True ∧ True ∧ True ∧ True) ∧ (True ∧ True ∧ True ∧ True ∧ True ∧ True ∧ True ∧ True ∧ True ∧ True ∧ True ∧ True ∧ True ∧ True ∧ True ∧ True ∧ True ∧ True ∧ True) ∧ True ∧ True) ∧ FnOk Pg g0 79 [V.agg [V.int IntKind.i64 (sumA F f (cl a) (List.length (cl a)) 0), V.int IntKind.i64 (sumA F f (cl a) (List.length (cl a)) 1), V.int IntKind.i64 (sumA F f (cl a) (List.length (cl a)) 2), V.int IntKind.i64 (sumA F f (cl a) (List.length (cl a)) 3), V.int IntKind.i64 (sumA F f (cl a) (List.length (cl a)) 4), V.int IntKind.i64 (sumA F f (cl a) (List.length (cl a)) 5), V.int IntKind.i64 (sumA F f (cl a) (List.length (cl a)) 6), V.int IntKind.i64 (sumA F f (cl a) (List.length (cl a)) 7), V.int IntKind.i64 (sumA F f (cl a) (List.length (cl a)) 8), V.int IntKind.i64 (sumA F f (cl a) (List.length (cl a)) 9), V.int IntKind.i64 (sumA F f (cl a) (List.length (cl a)) 10), V.int IntKind.i64 (sumA F f (cl a) (List.length (cl a)) 11), V.int IntKind.i64 (sumA F f (cl a) (List.length (cl a)) 12), V.int IntKind.i64 (sumA F f (cl a) (List.length (cl a)) 13), V.int IntKind.i64 (sumA F f (cl a) (List.length (cl a)) 14), V.int IntKind.i64 (sumA F f (cl a) (List.length (cl a)) 15), V.int IntKind.i64 (sumA F f (cl a) (List.length (cl a)) 16), V.int IntKind.i64 (sumA F f (cl a) (List.length (cl a)) 17)], V.agg [V.int IntKind.i64 (F (r - 1) 0), V.int IntKind.i64 (F (r - 1) 1), V.int IntKind.i64 (F (r - 1) 2), V.int IntKind.i64 (F (r - 1) 3), V.int IntKind.i64 (F (r - 1) 4), V.int IntKind.i64 (F (r - 1) 5), V.int IntKind.i64 (F (r - 1) 6), V.int IntKind.i64 (F (r - 1) 7), V.int IntKind.i64 (F (r - 1) 8), V.int IntKind.i64 (F (r - 1) 9), V.int IntKind.i64 (F (r - 1) 10), V.int IntKind.i64 (F (r - 1) 11), V.int IntKind.i64 (F (r - 1) 12), V.int IntKind.i64 (F (r - 1) 13), V.int IntKind.i64 (F (r - 1) 14), V.int IntKind.i64 (F (r - 1) 15), V.int IntKind.i64 (F (r - 1) 16), V.int IntKind.i64 (F (r - 1) 17)], V.int IntKind.i64 (1 : Int)] (ar (addA (sumA F f (cl a) (List.length (cl a))) (F (r - 1)) (1 : Int))) ∧ True ∧ wr IntKind.i64 ((↑(sumN (cl a)) : Int) + (↑r : Int)) = (↑(sumN (cl a) + r) : Int) ∧ wr IntKind.i64 ((↑(sumN (cl a) + r) : Int) - (1 : Int)) = (↑(sumN (cl a) + (r - 1)) : Int) ∧ placeV (ctxOf Tryd.prog) 173 (V.ptr 3 0) (↑(sumN (cl a) + (r - 1)) : Int) = some (V.ptr 3 ((sumN (cl a) + (r - 1)) * 18)) ∧ takeE 18 (dropF ((sumN (cl a) + (r - 1)) * 18) tb) = some (arF (F (sumN (cl a) + (r - 1)))) ∧ ((True ∧ True ∧ True ∧ True ∧ True ∧ True ∧ True ∧ True ∧ True ∧ True ∧ True ∧ True ∧ True ∧ True ∧ True ∧ True ∧ True ∧ True ∧ True) ∧ (True ∧ True ∧ True ∧ True ∧ True ∧ True ∧ True ∧ True ∧ True ∧ True ∧ True ∧ True ∧ True ∧ True ∧ True ∧ True ∧ True ∧ True ∧ True) ∧ True ∧ True) ∧ FnOk Pg g0 79 [V.agg [V.int IntKind.i64 (addA (sumA F f (cl a) (List.length (cl a))) (F (r - 1)) (1 : Int) 0), V.int IntKind.i64 (addA (sumA F f (cl a) (List.length (cl a))) (F (r - 1)) (1 : Int) 1), V.int IntKind.i64 (addA (sumA F f (cl a) (List.length (cl a))) (F (r - 1)) (1 : Int) 2), V.int IntKind.i64 (addA (sumA F f (cl a) (List.length (cl a))) (F (r - 1)) (1 : Int) 3), V.int IntKind.i64 (addA (sumA F f (cl a) (List.length (cl a))) (F (r - 1)) (1 : Int) 4), V.int IntKind.i64 (addA (sumA F f (cl a) (List.length (cl a))) (F (r - 1)) (1 : Int) 5), V.int IntKind.i64 (addA (sumA F f (cl a) (List.length (cl a))) (F (r - 1)) (1 : Int) 6), V.int IntKind.i64 (addA (sumA F f (cl a) (List.length (cl a))) (F (r - 1)) (1 : Int) 7), V.int IntKind.i64 (addA (sumA F f (cl a) (List.length (cl a))) (F (r - 1)) (1 : Int) 8), V.int IntKind.i64 (addA (sumA F f (cl a) (List.length (cl a))) (F (r - 1)) (1 : Int) 9), V.int IntKind.i64 (addA (sumA F f (cl a) (List.length (cl a))) (F (r - 1)) (1 : Int) 10), V.int IntKind.i64 (addA (sumA F f (cl a) (List.length (cl a))) (F (r - 1)) (1 : Int) 11), V.int IntKind.i64 (addA (sumA F f (cl a) (List.length (cl a))) (F (r - 1)) (1 : Int) 12), V.int IntKind.i64 (addA (sumA F f (cl a) (List.length (cl a))) (F (r - 1)) (1 : Int) 13), V.int IntKind.i64 (addA (sumA F f (cl a) (List.length (cl a))) (F (r - 1)) (1 : Int) 14), V.int IntKind.i64 (addA (sumA F f (cl a) (List.length (cl a))) (F (r - 1)) (1 : Int) 15), V.int IntKind.i64 (addA (sumA F f (cl a) (List.length (cl a))) (F (r - 1)) (1 : Int) 16), V.int IntKind.i64 (addA (sumA F f (cl a) (List.length (cl a))) (F (r - 1)) (1 : Int) 17)], V.agg [V.int IntKind.i64 (F (sumN (cl a) + (r - 1)) 0), V.int IntKind.i64 (F (sumN (cl a) + (r - 1)) 1), V.int IntKind.i64 (F (sumN (cl a) + (r - 1)) 2), V.int IntKind.i64 (F (sumN (cl a) + (r - 1)) 3), V.int IntKind.i64 (F (sumN (cl a) + (r - 1)) 4), V.int IntKind.i64 (F (sumN (cl a) + (r - 1)) 5), V.int IntKind.i64 (F (sumN (cl a) + (r - 1)) 6), V.int IntKind.i64 (F (sumN (cl a) + (r - 1)) 7), V.int IntKind.i64 (F (sumN (cl a) + (r - 1)) 8), V.int IntKind.i64 (F (sumN (cl a) + (r - 1)) 9), V.int IntKind.i64 (F (sumN (cl a) + (r - 1)) 10), V.int IntKind.i64 (F (sumN (cl a) + (r - 1)) 11), V.int IntKind.i64 (F (sumN (cl a) + (r - 1)) 12), V.int IntKind.i64 (F (sumN (cl a) + (r - 1)) 13), V.int IntKind.i64 (F (sumN (cl a) + (r - 1)) 14), V.int IntKind.i64 (F (sumN (cl a) + (r - 1)) 15), V.int IntKind.i64 (F (sumN (cl a) + (r - 1)) 16), V.int IntKind.i64 (F (sumN (cl a) + (r - 1)) 17)], V.int IntKind.i64 (-1 : Int)] (ar (addA (addA (sumA F f (cl a) (List.length (cl a))) (F (r - 1)) (1 : Int)) (F (sumN (cl a) + (r - 1))) (-1 : Int))) ∧ True ∧ G Ex.normal (fmS r E n tb (seen ++ [a]) (addA (addA (sumA F f (cl a) (List.length (cl a))) (F (r - 1)) (1 : Int)) (F (sumN (cl a) + (r - 1))) (-1 : Int))) ∧ (0 = 0 ∧ (↑r : Int) = (↑r : Int) ∧ 0 = 0 ∧ 0 = 0 ∧ 0 = 0 ∧ True) ∧ True ∧ (arF zeroF = arF zeroF ∧ True ∧ True ∧ True ∧ True ∧ True ∧ True ∧ True ∧ True ∧ True ∧ True ∧ True ∧ True ∧ True ∧ True ∧ True ∧ True ∧ True ∧ True ∧ True) ∧ (E = E ∧ HfE E ∧ n = n) ∧ (tb = tb ∧ HfL tb) ∧ (arF (addA (addA (sumA F f (cl a) (List.length (cl a))) (F (r - 1)) (1 : Int)) (F (sumN (cl a) + (r - 1))) (-1 : Int)) = [i6 (addA (addA (sumA F f (cl a) (List.length (cl a))) (F (r - 1)) (1 : Int)) (F (sumN (cl a) + (r - 1))) (-1 : Int) 0), i6 (addA (addA (sumA F f (cl a) (List.length (cl a))) (F (r - 1)) (1 : Int)) (F (sumN (cl a) + (r - 1))) (-1 : Int) 1), i6 (addA (addA (sumA F f (cl a) (List.length (cl a))) (F (r - 1)) (1 : Int)) (F (sumN (cl a) + (r - 1))) (-1 : Int) 2), i6 (addA (addA (sumA F f (cl a) (List.length (cl a))) (F (r - 1)) (1 : Int)) (F (sumN (cl a) + (r - 1))) (-1 : Int) 3), i6 (addA (addA (sumA F f (cl a) (List.length (cl a))) (F (r - 1)) (1 : Int)) (F (sumN (cl a) + (r - 1))) (-1 : Int) 4), i6 (addA (addA (sumA F f (cl a) (List.length (cl a))) (F (r - 1)) (1 : Int)) (F (sumN (cl a) + (r - 1))) (-1 : Int) 5), i6 (addA (addA (sumA F f (cl a) (List.length (cl a))) (F (r - 1)) (1 : Int)) (F (sumN (cl a) + (r - 1))) (-1 : Int) 6), i6 (addA (addA (sumA F f (cl a) (List.length (cl a))) (F (r - 1)) (1 : Int)) (F (sumN (cl a) + (r - 1))) (-1 : Int) 7), i6 (addA (addA (sumA F f (cl a) (List.length (cl a))) (F (r - 1)) (1 : Int)) (F (sumN (cl a) + (r - 1))) (-1 : Int) 8), i6 (addA (addA (sumA F f (cl a) (List.length (cl a))) (F (r - 1)) (1 : Int)) (F (sumN (cl a) + (r - 1))) (-1 : Int) 9), i6 (addA (addA (sumA F f (cl a) (List.length (cl a))) (F (r - 1)) (1 : Int)) (F (sumN (cl a) + (r - 1))) (-1 : Int) 10), i6 (addA (addA (sumA F f (cl a) (List.length (cl a))) (F (r - 1)) (1 : Int)) (F (sumN (cl a) + (r - 1))) (-1 : Int) 11), i6 (addA (addA (sumA F f (cl a) (List.length (cl a))) (F (r - 1)) (1 : Int)) (F (sumN (cl a) + (r - 1))) (-1 : Int) 12), i6 (addA (addA (sumA F f (cl a) (List.length (cl a))) (F (r - 1)) (1 : Int)) (F (sumN (cl a) + (r - 1))) (-1 : Int) 13), i6 (addA (addA (sumA F f (cl a) (List.length (cl a))) (F (r - 1)) (1 : Int)) (F (sumN (cl a) + (r - 1))) (-1 : Int) 14), i6 (addA (addA (sumA F f (cl a) (List.length (cl a))) (F (r - 1)) (1 : Int)) (F (sumN (cl a) + (r - 1))) (-1 : Int) 15), i6 (addA (addA (sumA F f (cl a) (List.length (cl a))) (F (r - 1)) (1 : Int)) (F (sumN (cl a) + (r - 1))) (-1 : Int) 16), i6 (addA (addA (sumA F f (cl a) (List.length (cl a))) (F (r - 1)) (1 : Int)) (F (sumN (cl a) + (r - 1))) (-1 : Int) 17)] ∧ True ∧ True ∧ True ∧ True ∧ True ∧ True ∧ True ∧ True ∧ True ∧ True ∧ True ∧ True ∧ True ∧ True ∧ True ∧ True ∧ True ∧ True ∧ True) ∧ (n = n ∧ seen ++ [a] = seen ++ [a] ∧ n = n) ∧ True) ∧ True) = _) ?_
    refine ⟨⟨hold, Nat.le_refl _, hleft⟩, fun hid0 => ?_, fun a hma => ?_⟩
    · have hX2 := hX' hid0
      exact au
    · obtain ⟨ha1, ha2⟩ := hids a hma
      have hlen := h.len a ha1
      have hsum := h.sum a ha1
      have hlist := fam_list r n E tb (seen ++ [a]) F ht hHf (cl a) (fun c hc => by have := sumN_mem hc; omega) (by omega) (by omega) f (fun i hi => by have := hfb i hi; omega) _ rfl _ rfl
      have hsb := fun i (hi : i < 18) => sum_bd ht hi (cl a) (fun c hc => by have := sumN_mem hc; omega)
      have hb1 := fun i (hi : i < 18) => ht.bd (r - 1) i (by omega) hi
      have hb2 := fun i (hi : i < 18) => ht.bd (sumN (cl a) + (r - 1)) i (by omega) hi
      have hs1 : ∀ i, i < 18 → -20000 ≤ sumA F f (cl a) (cl a).length i ∧ sumA F f (cl a) (cl a).length i ≤ 20000 := fun i hi => by
        rw [sumA_at _ _ _ _ _ (Nat.le_refl _), List.take_length]
        have := hsb i hi; have := hfb i hi
        omega
      have c1 := comb (sumA F f (cl a) (cl a).length) (F (r - 1)) 1 (fun i hi => by have := hs1 i hi; omega) (fun i hi => by have := hb1 i hi; omega)
      have c2 := comb (addA (sumA F f (cl a) (cl a).length) (F (r - 1)) 1) (F (sumN (cl a) + (r - 1))) (-1) (fun i hi => by have := hs1 i hi; have := hb1 i hi; unfold addA; omega) (fun i hi => by have := hb2 i hi; omega)
      have hp2 := @place173 3 (sumN (cl a) + (r - 1)) (by omega)
      have ht2 := ht.take (sumN (cl a) + (r - 1)) (by omega)
      have hst := hstep a ha1 ha2
      have hfa := hfind a ha1
      have hgl : (seen ++ [a]).getLast? = some a := by simp
      exact au
  · rintro e st ⟨S', rfl, rfl, f, rfl, hf⟩
    refine .inl ⟨trivial, rfl, ?_⟩
    have : arF f = arF (fun i => sumI ((List.range n).map fun a => conF F r (cl a) i)) := ar_congr hf
    show mkSt g0 113 { sl := [(6, .ptr 1 0), (15, .ptr 4 0)], os := [.dead, .row 41 none (arF zeroF), .dead, .dead, .row 41 none (arF f), .dead] } = _
    rw [this]

end Go.Proofs.YtglpoiaedkoecaaDoor.Am
