/- Chapter 25: the graph of a plan has no cycle (plain). -/
import Derived.Test.YtglpoiaedkoecaaDoorF5
import Derived.Test.YtglpoiaedkoecaaDoorF2
namespace Go.Proofs.YtglpoiaedkoecaaDoor.Am
open Go.RowKit
set_option linter.unusedVariables false
set_option maxHeartbeats 1000000
set_option maxRecDepth 100000

/-! ### the order has each variable once -/
theorem shf_eq (a : Nat) : ∀ (d : Nat) (M : List Nat), a + d + 1 ≤ M.length → shf a d M = M.take (a + 1) ++ ((M.drop a).take d ++ M.drop (a + d + 1))
  | 0, M, h => by simp [shf]
  | d + 1, M, h => by
    rw [shf, shf_eq a d _ (by simp; omega)]
    generalize hx : M.getD (a + d) 0 = x
    have h1 : (M.set (a + d + 1) x).take (a + 1) = M.take (a + 1) := List.take_set_of_le (by omega)
    have h2 : ((M.set (a + d + 1) x).drop a).take d = (M.drop a).take d := by
      rw [List.drop_set, if_neg (by omega), List.take_set_of_le (by omega)]
    have h3 : (M.set (a + d + 1) x).drop (a + d + 1) = x :: M.drop (a + d + 1 + 1) := by
      rw [List.drop_eq_getElem_cons (by simp; omega)]
      congr 1
      · simp
      · rw [List.drop_set_of_lt (by omega)]
    rw [h1, h2, h3]
    congr 1
    have h4 : (M.drop a).take (d + 1) = (M.drop a).take d ++ [x] := by
      rw [List.take_succ_eq_append_getElem (by simp; omega)]
      congr 2
      rw [List.getElem_drop, ← hx, List.getD_eq_getElem?_getD, List.getElem?_eq_getElem (by omega)]; rfl
    rw [h4]
    simp [Nat.add_assoc]
theorem ordL_ins {f : Nat → Nat} (hf : ∀ k, f k ≤ k) (i : Nat) : ordL f (i + 1) = (ordL f i).take (f i) ++ i :: (ordL f i).drop (f i) := by
  have hl := ordL_len f i
  have hfi := hf i
  rw [ordL, shf_eq _ _ _ (by rw [List.length_append, hl]; simp; omega)]
  generalize ordL f i = L at *
  generalize f i = a at *
  rw [show a + (i - a) + 1 = (L ++ [0]).length by rw [List.length_append, hl]; simp; omega, List.drop_length, List.append_nil]
  have h1 : (L ++ [0]).take (a + 1) = L.take a ++ [(L ++ [0]).getD a 0] := by
    rw [List.take_succ_eq_append_getElem (by simp; omega), List.take_append_of_le_length (by omega), List.getD_eq_getElem?_getD, List.getElem?_eq_getElem (by simp; omega)]; rfl
  have h2 : ((L ++ [0]).drop a).take (i - a) = L.drop a := by
    rw [List.drop_append_of_le_length (by omega), List.take_append_of_le_length (by simp; omega), List.take_of_length_le (by simp; omega)]
  rw [h1, h2]
  have h3 : (L.take a).length = a := by simp; omega
  rw [List.append_assoc, List.set_append_right _ _ (by omega), h3, Nat.sub_self]
  rfl
theorem ordL_nodup {f : Nat → Nat} (hf : ∀ k, f k ≤ k) : ∀ i, (ordL f i).Nodup ∧ ∀ x ∈ ordL f i, x < i
  | 0 => ⟨by simp [ordL], fun x hx => by simp [ordL] at hx⟩
  | i + 1 => by
    obtain ⟨h1, h2⟩ := ordL_nodup hf i
    rw [ordL_ins hf i]
    have hp : ((ordL f i).take (f i) ++ i :: (ordL f i).drop (f i)).Perm (i :: ordL f i) := by
      have := List.perm_middle (a := i) (l₁ := (ordL f i).take (f i)) (l₂ := (ordL f i).drop (f i))
      rwa [List.take_append_drop] at this
    refine ⟨hp.nodup_iff.2 (List.nodup_cons.2 ⟨fun hm => by have := h2 i hm; omega, h1⟩), fun x hx => ?_⟩
    rcases List.mem_cons.1 (hp.mem_iff.1 hx) with rfl | hm
    · omega
    · have := h2 x hm; omega

/-! ### edges go down the order -/
def Down (L : List Nat) (a b : Nat) (G : List Nat) : Prop := ∀ u p, (G.getD u 0).testBit p = true → ∃ x y, y < x ∧ (x < a ∨ (x = a ∧ y < b)) ∧ u = L.getD x 0 ∧ p = L.getD y 0
theorem Down.mono {L G : List Nat} {a b a' b' : Nat} (h : Down L a b G) (hm : ∀ x y, (x < a ∨ (x = a ∧ y < b)) → (x < a' ∨ (x = a' ∧ y < b'))) : Down L a' b' G := fun u p hb => by
  obtain ⟨x, y, h1, h2, h3⟩ := h u p hb
  exact ⟨x, y, h1, hm x y h2, h3⟩
theorem edge_down {L G : List Nat} {E a b bit : Nat} (hb : b < a) (h : Down L a b G) : Down L a (b + 1) (edge L E a b bit G) := by
  have h' : Down L a (b + 1) G := h.mono fun x y hh => by omega
  unfold edge
  split
  · intro u p hbit
    rw [getD_setN] at hbit
    split at hbit
    · rename_i hc
      rw [Nat.testBit_or, Nat.testBit_two_pow, Bool.or_eq_true] at hbit
      rcases hbit with h1 | h1
      · obtain ⟨x, y, k1, k2, k3, k4⟩ := h' _ _ h1
        exact ⟨x, y, k1, k2, hc.1 ▸ k3, k4⟩
      · exact ⟨a, b, hb, .inr ⟨rfl, Nat.lt_succ_self _⟩, hc.1.symm, (of_decide_eq_true h1).symm⟩
    · exact h' u p hbit
  · exact h'
theorem edgeR_down {L G : List Nat} {E a bit : Nat} (h : Down L a 0 G) : ∀ b, b ≤ a → Down L a b (edgeR L E a bit b G)
  | 0, _ => h
  | b + 1, hb => edge_down (by omega) (edgeR_down h b (by omega))
theorem edgeA_down {L : List Nat} {E n : Nat} : ∀ a, Down L a 0 (edgeA L E n a)
  | 0 => fun u p h => by
    have : (List.replicate n 0).getD u 0 = 0 := by rw [List.getD_eq_getElem?_getD, List.getElem?_replicate]; split <;> rfl
    rw [edgeA, this, Nat.zero_testBit] at h; cases h
  | a + 1 => (edgeR_down (edgeA_down a) a (Nat.le_refl _)).mono fun x y hh => by omega
theorem idx_at {L : List Nat} (hn : L.Nodup) {x : Nat} (hx : x < L.length) : L.idxOf (L.getD x 0) = x := by
  have hm : L.getD x 0 ∈ L := by rw [List.getD_eq_getElem?_getD, List.getElem?_eq_getElem hx]; exact List.getElem_mem hx
  have hlt := List.idxOf_lt_length_of_mem hm
  have h1 := List.getElem_idxOf hlt
  have h2 : L[x] = L.getD x 0 := by rw [List.getD_eq_getElem?_getD, List.getElem?_eq_getElem hx]; rfl
  have h3 : L[L.idxOf (L.getD x 0)]? = L[x]? := by
    rw [List.getElem?_eq_getElem hlt, List.getElem?_eq_getElem hx, h1, h2]
  exact (List.getElem?_inj hlt hn).1 h3
/-- the graph of a plan is a graph -/
theorem plan_fits (N : Nat) (o : Nat → Nat) (E : Nat) : fitsB (N % 6 + 1) (graphP N o E) = true := by
  have hn : N % 6 < 6 := Nat.mod_lt _ (by omega)
  unfold graphP
  generalize N % 6 = n0 at *
  obtain ⟨m, hm⟩ : ∃ m, m = n0 + 1 := ⟨_, rfl⟩
  rw [← hm]
  have hf : ∀ k, o k % (k + 1) ≤ k := fun k => Nat.le_of_lt_succ (Nat.mod_lt _ (by omega))
  obtain ⟨hnd, hlt⟩ := ordL_nodup (f := fun k => o k % (k + 1)) hf m
  have hl := ordL_len (fun k => o k % (k + 1)) m
  have hb := ordL_bnd (fun k => o k % (k + 1)) (show 0 < m by omega) m (Nat.le_refl _)
  generalize ordL (fun k => o k % (k + 1)) m = L at *
  have hok := edgeA_ok (L := L) (E := E) (n := m) (fun k => Nat.lt_of_lt_of_le (hb k) (by omega)) m
  have hd := edgeA_down (L := L) (E := E) (n := m) m
  generalize edgeA L E m m = G at *
  have hG := hok.len
  have hr : ∀ u, u < m → ∀ p, relL G u p = true → p < m ∧ L.idxOf p < L.idxOf u := fun u hu p hp => by
    obtain ⟨x, y, h1, h2, h3, h4⟩ := hd u p hp
    have hx : x < m := by omega
    subst h3 h4
    rw [idx_at hnd (by omega), idx_at hnd (by omega)]
    exact ⟨hb y, h1⟩
  unfold fitsB graphB
  rw [hG]
  simp only [decide_true, Bool.true_and]
  rw [decide_eq_true (show 1 ≤ m by omega), decide_eq_true (show m ≤ 6 by omega), Bool.true_and, Bool.true_and, Bool.and_eq_true]
  refine ⟨GG.all_range.2 fun u hu => ?_, GG.all_range.2 fun i hi => ?_⟩
  · rw [in_out fun p hp => (hr u hu p hp).1]; rfl
  · cases hc : GG.clo m (relL G) i m i with
    | false => rfl
    | true => have := (GG.clo_below hr hi m i hc).2; omega
end Go.Proofs.YtglpoiaedkoecaaDoor.Am
