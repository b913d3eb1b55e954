/- Chapter 04: elements: what the kinds do, the program's and the reference's. -/
import Derived.Test.YtgdnmgcigkhojaaS0
namespace Go.Proofs.Ytgdnmgcigkhojaa.Am
open Go.RowKit
set_option linter.unusedVariables false
set_option maxHeartbeats 1000000
set_option maxRecDepth 100000

/-! ### plain -/
def okE (k a b : Int) : Bool :=
  if k = 1 ∨ k = 2 then decide (0 ≤ a ∧ a ≤ 4611686018427387903 ∧ b = 0)
  else if k = 3 then decide (-1 ≤ a ∧ a ≤ 4611686018427387903 ∧ b = 0)
  else if k = 4 then decide ((a = 0 ∨ a = 1) ∧ b = 0)
  else if k = 5 then decide (0 ≤ a ∧ a ≤ 4611686018427387903 ∧ 0 ≤ b ∧ b ≤ 4611686018427387903 ∧ (a = 0 ↔ b = 0))
  else false
/-- elements that may be too big -/
def wideE (k a b : Int) : Bool :=
  if k = 1 ∨ k = 2 then decide (0 ≤ a ∧ a ≤ 4611686018427387904 ∧ b = 0)
  else if k = 3 then decide (-1 ≤ a ∧ a ≤ 4611686018427387904 ∧ b = 0)
  else if k = 4 then decide ((a = 0 ∨ a = 1) ∧ b = 0)
  else if k = 5 then decide (0 ≤ a ∧ a ≤ 4611686018427387904 ∧ 0 ≤ b ∧ b ≤ 4611686018427387904 ∧ (a = 0 ↔ b = 0))
  else false
def maxI (a b : Int) : Int := if a < b then b else a
def plusE (k a b c d : Int) : Int × Int :=
  if k = 1 then (addI a c, 0)
  else if k = 3 then (if a < 0 ∨ (0 ≤ c ∧ c < a) then (c, d) else (a, b))
  else if k = 5 then (if c < a then (a, b) else if a < c then (c, d) else (a, addI b d))
  else (maxI a c, 0)
def timesE (k a b c d : Int) : Int × Int :=
  if k = 3 then (if a < 0 ∨ c < 0 then (-1, 0) else (addI a c, 0))
  else if k = 5 then (mulI a c, mulI b d)
  else (mulI a c, 0)
theorem plusE_3 {a b c d : Int} : plusE 3 a b c d = if a < 0 ∨ (0 ≤ c ∧ c < a) then (c, d) else (a, b) := by
  unfold plusE; rw [if_neg (by decide), if_pos rfl]
theorem plusE_5 {a b c d : Int} : plusE 5 a b c d = if c < a then (a, b) else if a < c then (c, d) else (a, addI b d) := by
  unfold plusE; rw [if_neg (by decide), if_neg (by decide), if_pos rfl]
theorem timesE_3 {a b c d : Int} : timesE 3 a b c d = if a < 0 ∨ c < 0 then (-1, 0) else (addI a c, 0) := by
  unfold timesE; rw [if_pos rfl]
theorem timesE_5 {a b c d : Int} : timesE 5 a b c d = (mulI a c, mulI b d) := by
  unfold timesE; rw [if_neg (by decide), if_pos rfl]
theorem wideE_of {k a b : Int} (h : okE k a b = true) : wideE k a b = true := by
  unfold okE at h
  unfold wideE
  repeat' split at h
  all_goals first
    | (simp only [decide_eq_true_eq] at h; rename_i hk; simp [hk]; omega)
    | cases h
    | skip

end Go.Proofs.Ytgdnmgcigkhojaa.Am
