/- Walks of package index: Spread. -/
import Derived.Test.YtmnaidemihcfaaaIxN
namespace Go.Proofs.Ytmnaidemihcfaaa
open Go.RowKit

/-- the product of the cards at the places -/
def prodAt (cs ps : List Int) : Int := prodL (ps.map fun p => cs.getD p.toNat 0)

theorem incr_cons {n last p : Int} {ps : List Int} : incr n last (p :: ps) = true ↔ last < p ∧ p < n ∧ incr n p ps = true := by
  have e : incr n last (p :: ps) = if p ≤ last ∨ n ≤ p then false else incr n p ps := rfl
  rw [e]
  by_cases h : p ≤ last ∨ n ≤ p
  · rw [if_pos h]; simp; omega
  · rw [if_neg h]
    exact ⟨fun h' => ⟨by omega, by omega, h'⟩, fun h => h.2.2⟩

theorem incr_mem : ∀ {ps : List Int} {n last : Int}, incr n last ps = true → ∀ p ∈ ps, last < p ∧ p < n
  | [], _, _, _ => by simp
  | q :: ps, n, last, h => by
    rw [incr_cons] at h
    intro p hp
    rcases List.mem_cons.1 hp with rfl | hp
    · exact ⟨h.1, h.2.1⟩
    · have := incr_mem h.2.2 p hp
      exact ⟨by omega, this.2⟩

theorem incr_length : ∀ {ps : List Int} {n last : Int}, incr n last ps = true → last < n → (ps.length : Int) < n - last
  | [], _, _, _, h => by simp; omega
  | q :: ps, n, last, h, hl => by
    rw [incr_cons] at h
    have := incr_length h.2.2 h.2.1
    simp only [List.length_cons]; omega

theorem incr_le {ps : List Int} {n : Nat} (h : incr n (-1) ps = true) : ps.length ≤ n := by
  have := incr_length h (by omega); omega

theorem ppG_eq : ∀ (cs ps : List Int) (k : Nat), incr (k + cs.length) (k - 1) ps = true → ppG k cs ps = prodL (ps.map fun p => cs.getD (p.toNat - k) 0)
  | [], [], _, _ => rfl
  | [], p :: ps, k, h => by
    rw [incr_cons] at h; simp at h; omega
  | c :: cs, [], _, _ => rfl
  | c :: cs, p :: ps, k, h => by
    have h0 := h
    rw [incr_cons] at h
    obtain ⟨h1, h2, h3⟩ := h
    simp only [List.length_cons] at h2 h3
    have shift : ∀ l : List Int, (∀ q ∈ l, (k : Int) < q) → (l.map fun p => (c :: cs).getD (p.toNat - k) 0) = l.map fun p => cs.getD (p.toNat - (k + 1)) 0 := by
      intro l hl
      refine List.map_congr_left fun q hq => ?_
      have := hl q hq
      rw [show q.toNat - k = (q.toNat - (k + 1)) + 1 by omega, List.getD_cons_succ]
    by_cases hpk : p = k
    · subst hpk
      have h3' : incr (((k + 1 : Nat) : Int) + cs.length) (((k + 1 : Nat) : Int) - 1) ps = true := by
        rw [show ((k + 1 : Nat) : Int) + cs.length = k + ((cs.length + 1 : Nat) : Int) by omega, show ((k + 1 : Nat) : Int) - 1 = k by omega]; exact h3
      have ih := ppG_eq cs ps (k + 1) h3'
      simp only [ppG, if_pos, List.map_cons, prodL]
      rw [ih, shift ps (fun q hq => (incr_mem h3 q hq).1)]
      simp
    · have h4 : incr (((k + 1 : Nat) : Int) + cs.length) (((k + 1 : Nat) : Int) - 1) (p :: ps) = true := by
        rw [incr_cons]
        refine ⟨by omega, by omega, ?_⟩
        rw [show ((k + 1 : Nat) : Int) + cs.length = k + ((cs.length + 1 : Nat) : Int) by omega]; exact h3
      have ih := ppG_eq cs (p :: ps) (k + 1) h4
      simp only [ppG, if_neg hpk]
      rw [ih, shift (p :: ps) (fun q hq => by have := (incr_mem h4 q hq).1; omega)]

theorem ppG_zero {cs ps : List Int} (h : incr cs.length (-1) ps = true) : ppG 0 cs ps = prodAt cs ps := by
  have := ppG_eq cs ps 0 (by simpa using h)
  simpa [prodAt] using this

theorem prodL_append (a b : List Int) : prodL (a ++ b) = prodL a * prodL b := by
  induction a with
  | nil => simp [prodL]
  | cons x a ih => simp only [List.cons_append, prodL, ih, Int.mul_assoc]

theorem prodAt_take {cs ps : List Int} {k : Nat} (hk : k < ps.length) : prodAt cs (ps.take (k + 1)) = prodAt cs (ps.take k) * cs.getD ps[k].toNat 0 := by
  unfold prodAt
  rw [List.take_succ_eq_append_getElem hk, List.map_append, prodL_append]
  simp [prodL]

theorem prodAt_bd {cs : List Int} (hg : Good cs) : ∀ (ps : List Int), (∀ p ∈ ps, 0 ≤ p ∧ p < cs.length) → 1 ≤ prodAt cs ps ∧ prodAt cs ps ≤ 8 ^ ps.length
  | [], _ => by simp [prodAt, prodL]
  | p :: ps, h => by
    have ih := prodAt_bd hg ps (fun q hq => h q (List.mem_cons_of_mem _ hq))
    have hp := h p List.mem_cons_self
    have hlt : p.toNat < cs.length := by omega
    have hc := hg.at_ hlt
    have e : prodAt cs (p :: ps) = cs[p.toNat] * prodAt cs ps := by
      simp [prodAt, prodL, List.getD_eq_getElem?_getD, List.getElem?_eq_getElem hlt]
    rw [e]
    have a : 1 * 1 ≤ cs[p.toNat] * prodAt cs ps := Int.mul_le_mul hc.1 ih.1 (by omega) (by omega)
    have b : cs[p.toNat] * prodAt cs ps ≤ 8 * 8 ^ ps.length := Int.mul_le_mul hc.2 ih.2 (by omega) (by omega)
    refine ⟨by omega, ?_⟩
    rw [List.length_cons, Int.pow_succ]; rw [Int.mul_comm (8 ^ ps.length) 8]; exact b

theorem pow8_le {k : Nat} (h : k ≤ 12) : (8 : Int) ^ k ≤ 68719476736 := by
  have : k = 0 ∨ k = 1 ∨ k = 2 ∨ k = 3 ∨ k = 4 ∨ k = 5 ∨ k = 6 ∨ k = 7 ∨ k = 8 ∨ k = 9 ∨ k = 10 ∨ k = 11 ∨ k = 12 := by omega
  rcases this with rfl | rfl | rfl | rfl | rfl | rfl | rfl | rfl | rfl | rfl | rfl | rfl | rfl <;> decide

end Go.Proofs.Ytmnaidemihcfaaa
