/- Arrays of 18 numbers that are the same; sums in the range. -/
import Derived.Test.YtglpoiaedkoecaaDoorD5
namespace Go.Proofs.YtglpoiaedkoecaaDoor.Am
open Go.RowKit
set_option linter.unusedVariables false
set_option maxHeartbeats 1000000
set_option maxRecDepth 100000

theorem sumF_at {a b : Nat → Int} {k : Nat} (h : k < 18) : sumF a b k = a k + b k := by
  show mixF a b 1 18 k = _
  rw [mixF_at, if_pos h]; omega
theorem ofF_bd {n : Nat} (h : 1 ≤ n) : ∀ k i, 0 ≤ ofF n k i ∧ ofF n k i ≤ 63
  | 0, _ => by simp [ofF, zeroF]
  | k + 1, i => by
    unfold ofF upA
    split
    · have := (strip_bd (primeN_bd k).1 63 (ofN n k) (ofN_bd h k).1).2.2
      omega
    · exact ofF_bd h k i
theorem inA_of {f : Nat → Int} (h : ∀ k, k < 18 → -2000 ≤ f k ∧ f k ≤ 2000) : inA f = true := by
  unfold inA okA
  rw [List.all_eq_true]
  intro k hk
  have := h k (List.mem_range.1 hk)
  simpa using this
/-- 18 numbers are the same -/
def eqA (a b : Nat → Int) : Bool := a 0 == b 0 && (a 1 == b 1 && (a 2 == b 2 && (a 3 == b 3 && (a 4 == b 4 && (a 5 == b 5 && (a 6 == b 6 && (a 7 == b 7 && (a 8 == b 8 && (a 9 == b 9 && (a 10 == b 10 && (a 11 == b 11 && (a 12 == b 12 && (a 13 == b 13 && (a 14 == b 14 && (a 15 == b 15 && (a 16 == b 16 && (a 17 == b 17 && true)))))))))))))))))
theorem eqA_iff {a b : Nat → Int} : eqA a b = true ↔ ∀ i, i < 18 → a i = b i := by
  unfold eqA
  simp only [Bool.and_eq_true, beq_iff_eq, and_true]
  constructor
  · rintro ⟨h0, h1, h2, h3, h4, h5, h6, h7, h8, h9, h10, h11, h12, h13, h14, h15, h16, h17⟩ i hi
    rcases lt18 hi with rfl | rfl | rfl | rfl | rfl | rfl | rfl | rfl | rfl | rfl | rfl | rfl | rfl | rfl | rfl | rfl | rfl | rfl <;> assumption
  · intro h
    exact ⟨h 0 (by omega), h 1 (by omega), h 2 (by omega), h 3 (by omega), h 4 (by omega), h 5 (by omega), h 6 (by omega), h 7 (by omega), h 8 (by omega), h 9 (by omega), h 10 (by omega), h 11 (by omega), h 12 (by omega), h 13 (by omega), h 14 (by omega), h 15 (by omega), h 16 (by omega), h 17 (by omega)⟩
theorem eqA_false {a b : Nat → Int} (h : ¬ ∀ i, i < 18 → a i = b i) : eqA a b = false := by
  cases hb : eqA a b with
  | false => rfl
  | true => exact absurd (eqA_iff.1 hb) h
theorem eqA_self (a : Nat → Int) : eqA a a = true := eqA_iff.2 fun _ _ => rfl
end Go.Proofs.YtglpoiaedkoecaaDoor.Am
