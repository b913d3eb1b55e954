/- Chapter 04: the closures of semi.choose. -/
import Derived.Test.YtgdnmgcigkhojaaS1
namespace Go.Proofs.Ytgdnmgcigkhojaa.Am
open Go.RowKit
set_option linter.unusedVariables false
set_option maxHeartbeats 1000000
set_option maxRecDepth 100000

theorem single_fn (a b : Int) : FnOk Pg g0 56 [el a b] (.bool (decide (0 ≤ a ∧ a ≤ 4611686018427387903 ∧ b = 0))) := by
  by_cases h1 : 0 ≤ a
  · by_cases h2 : a ≤ 4611686018427387903
    · by_cases h3 : b = 0
      · rw [decide_eq_true (show 0 ≤ a ∧ a ≤ 4611686018427387903 ∧ b = 0 by omega)]
        refine FnOk.of_vc vE_ok mixed sp0_ok (n := 1000) (r := []) (S := { sl := [(2, .bool true)] }) (hs := [yes 5, yes 9, yes 14]) ?_
        refine Eq.mp (by kernel_rfl : (V.bool true = V.bool true ∧ decide (a ≥ (0 : Int)) = true ∧ decide (a ≤ (4611686018427387903 : Int)) = true ∧ (b == (0 : Int)) = true ∧ (true = true ∧ True) ∧ True) = _) ?_
        (repeat' (first | (with_reducible apply And.intro) | (refine fun (_ : True) => ?_))) <;> first | exact aq | skip
      · rw [decide_eq_false (show ¬ (0 ≤ a ∧ a ≤ 4611686018427387903 ∧ b = 0) by omega)]
        refine FnOk.of_vc vE_ok mixed sp0_ok (n := 1000) (r := []) (S := { sl := [(2, .bool false)] }) (hs := [yes 5, yes 9, no 14]) ?_
        refine Eq.mp (by kernel_rfl : (V.bool false = V.bool false ∧ decide (a ≥ (0 : Int)) = true ∧ decide (a ≤ (4611686018427387903 : Int)) = true ∧ (b == (0 : Int)) = false ∧ (false = false ∧ True) ∧ True) = _) ?_
        (repeat' (first | (with_reducible apply And.intro) | (refine fun (_ : True) => ?_))) <;> first | exact aq | skip
    · rw [decide_eq_false (show ¬ (0 ≤ a ∧ a ≤ 4611686018427387903 ∧ b = 0) by omega)]
      refine FnOk.of_vc vE_ok mixed sp0_ok (n := 1000) (r := []) (S := { sl := [(2, .bool false)] }) (hs := [yes 5, no 9]) ?_
      refine Eq.mp (by kernel_rfl : (V.bool false = V.bool false ∧ decide (a ≥ (0 : Int)) = true ∧ decide (a ≤ (4611686018427387903 : Int)) = false ∧ (false = false ∧ True) ∧ True) = _) ?_
      (repeat' (first | (with_reducible apply And.intro) | (refine fun (_ : True) => ?_))) <;> first | exact aq | skip
  · rw [decide_eq_false (show ¬ (0 ≤ a ∧ a ≤ 4611686018427387903 ∧ b = 0) by omega)]
    refine FnOk.of_vc vE_ok mixed sp0_ok (n := 1000) (r := []) (S := { sl := [(2, .bool false)] }) (hs := [no 5]) ?_
    refine Eq.mp (by kernel_rfl : (V.bool false = V.bool false ∧ decide (a ≥ (0 : Int)) = false ∧ (false = false ∧ True) ∧ True) = _) ?_
    (repeat' (first | (with_reducible apply And.intro) | (refine fun (_ : True) => ?_))) <;> first | exact aq | skip
theorem bit_fn (a b : Int) : FnOk Pg g0 55 [el a b] (.bool (decide ((a = 0 ∨ a = 1) ∧ b = 0))) := by
  by_cases h1 : b = 0
  · by_cases h2 : a = 0
    · rw [decide_eq_true (show (a = 0 ∨ a = 1) ∧ b = 0 by omega)]
      refine FnOk.of_vc vE_ok mixed sp0_ok (n := 1000) (r := []) (S := { sl := [(2, .bool true)] }) (hs := [yes 5, yes 9]) ?_
      refine Eq.mp (by kernel_rfl : (V.bool true = V.bool true ∧ (b == (0 : Int)) = true ∧ (a == (0 : Int)) = true ∧ (true = true ∧ True) ∧ True) = _) ?_
      (repeat' (first | (with_reducible apply And.intro) | (refine fun (_ : True) => ?_))) <;> first | exact aq | skip
    · by_cases h3 : a = 1
      · rw [decide_eq_true (show (a = 0 ∨ a = 1) ∧ b = 0 by omega)]
        refine FnOk.of_vc vE_ok mixed sp0_ok (n := 1000) (r := []) (S := { sl := [(2, .bool true)] }) (hs := [yes 5, no 9, yes 13]) ?_
        refine Eq.mp (by kernel_rfl : (V.bool true = V.bool true ∧ (b == (0 : Int)) = true ∧ (a == (0 : Int)) = false ∧ (a == (1 : Int)) = true ∧ (true = true ∧ True) ∧ True) = _) ?_
        (repeat' (first | (with_reducible apply And.intro) | (refine fun (_ : True) => ?_))) <;> first | exact aq | skip
      · rw [decide_eq_false (show ¬ ((a = 0 ∨ a = 1) ∧ b = 0) by omega)]
        refine FnOk.of_vc vE_ok mixed sp0_ok (n := 1000) (r := []) (S := { sl := [(2, .bool false)] }) (hs := [yes 5, no 9, no 13]) ?_
        refine Eq.mp (by kernel_rfl : (V.bool false = V.bool false ∧ (b == (0 : Int)) = true ∧ (a == (0 : Int)) = false ∧ (a == (1 : Int)) = false ∧ (false = false ∧ True) ∧ True) = _) ?_
        (repeat' (first | (with_reducible apply And.intro) | (refine fun (_ : True) => ?_))) <;> first | exact aq | skip
  · rw [decide_eq_false (show ¬ ((a = 0 ∨ a = 1) ∧ b = 0) by omega)]
    refine FnOk.of_vc vE_ok mixed sp0_ok (n := 1000) (r := []) (S := { sl := [(2, .bool false)] }) (hs := [no 5]) ?_
    refine Eq.mp (by kernel_rfl : (V.bool false = V.bool false ∧ (b == (0 : Int)) = false ∧ (false = false ∧ True) ∧ True) = _) ?_
    (repeat' (first | (with_reducible apply And.intro) | (refine fun (_ : True) => ?_))) <;> first | exact aq | skip
theorem cost_fn (a b : Int) : FnOk Pg g0 61 [el a b] (.bool (decide (-1 ≤ a ∧ a ≤ 4611686018427387903 ∧ b = 0))) := by
  have hs := single_fn a b
  by_cases h1 : 0 ≤ a ∧ a ≤ 4611686018427387903 ∧ b = 0
  · rw [decide_eq_true h1] at hs
    rw [decide_eq_true (show -1 ≤ a ∧ a ≤ 4611686018427387903 ∧ b = 0 by omega)]
    refine FnOk.of_vc vE_ok mixed sp0_ok (n := 1000) (r := []) (S := { sl := [(2, .bool true)] }) (hs := [fn 4 (.bool true)]) ?_
    refine Eq.mp (by kernel_rfl : (V.bool true = V.bool true ∧ ((True ∧ True ∧ True) ∧ True) ∧ FnOk Try.prog g0 56 [V.agg [V.int IntKind.i64 a, V.int IntKind.i64 b]] (V.bool true) ∧ True ∧ (true = true ∧ True) ∧ True) = _) ?_
    (repeat' (first | (with_reducible apply And.intro) | (refine fun (_ : True) => ?_))) <;> first | exact aq | skip
  · rw [decide_eq_false h1] at hs
    by_cases h2 : a = -1 ∧ b = 0
    · rw [decide_eq_true (show -1 ≤ a ∧ a ≤ 4611686018427387903 ∧ b = 0 by omega)]
      obtain ⟨rfl, rfl⟩ := h2
      refine FnOk.of_vc vE_ok mixed sp0_ok (n := 1000) (r := []) (S := { sl := [(2, .bool true)] }) (hs := [fn 4 (.bool false)]) ?_
      refine Eq.mp (by kernel_rfl : (V.bool true = V.bool true ∧ ((True ∧ True ∧ True) ∧ True) ∧ FnOk Try.prog g0 56 [V.agg [V.int IntKind.i64 (-1 : Int), V.int IntKind.i64 (0 : Int)]] (V.bool false) ∧ True ∧ (true = ((-1 : Int) == (-1 : Int) && ((0 : Int) == (0 : Int) && true)) ∧ True) ∧ True) = _) ?_
      (repeat' (first | (with_reducible apply And.intro) | (refine fun (_ : True) => ?_))) <;> first | exact aq | skip
    · rw [decide_eq_false (show ¬ (-1 ≤ a ∧ a ≤ 4611686018427387903 ∧ b = 0) by omega)]
      refine FnOk.of_vc vE_ok mixed sp0_ok (n := 1000) (r := []) (S := { sl := [(2, .bool false)] }) (hs := [fn 4 (.bool false), no 8]) ?_
      refine Eq.mp (by kernel_rfl : (V.bool false = V.bool false ∧ ((True ∧ True ∧ True) ∧ True) ∧ FnOk Try.prog g0 56 [V.agg [V.int IntKind.i64 a, V.int IntKind.i64 b]] (V.bool false) ∧ True ∧ (a == (-1 : Int) && (b == (0 : Int) && true)) = false ∧ (false = false ∧ True) ∧ True) = _) ?_
      (repeat' (first | (with_reducible apply And.intro) | (refine fun (_ : True) => ?_))) <;> first | exact aq | skip
theorem pair_fn (a b : Int) : FnOk Pg g0 66 [el a b] (.bool (decide (0 ≤ a ∧ a ≤ 4611686018427387903 ∧ 0 ≤ b ∧ b ≤ 4611686018427387903 ∧ (a = 0 ↔ b = 0)))) := by
  have hs := single_fn a 0
  have ht := single_fn b 0
  by_cases h1 : 0 ≤ a ∧ a ≤ 4611686018427387903
  · rw [decide_eq_true (show 0 ≤ a ∧ a ≤ 4611686018427387903 ∧ (0 : Int) = 0 by omega)] at hs
    by_cases h2 : 0 ≤ b ∧ b ≤ 4611686018427387903
    · rw [decide_eq_true (show 0 ≤ b ∧ b ≤ 4611686018427387903 ∧ (0 : Int) = 0 by omega)] at ht
      by_cases h3 : a = 0
      · by_cases h4 : b = 0
        · rw [decide_eq_true (show 0 ≤ a ∧ a ≤ 4611686018427387903 ∧ 0 ≤ b ∧ b ≤ 4611686018427387903 ∧ (a = 0 ↔ b = 0) by omega)]
          refine FnOk.of_vc vE_ok mixed sp0_ok (n := 1000) (r := []) (S := { sl := [(2, .bool true)] }) (hs := [fn 6 (.bool true), fn 11 (.bool true), yes 16, yes 19]) ?_
          refine Eq.mp (by kernel_rfl : (V.bool true = V.bool true ∧ ((True ∧ True ∧ True) ∧ True) ∧ FnOk Try.prog g0 56 [V.agg [V.int IntKind.i64 a, V.int IntKind.i64 (0 : Int)]] (V.bool true) ∧ True ∧ ((True ∧ True ∧ True) ∧ True) ∧ FnOk Try.prog g0 56 [V.agg [V.int IntKind.i64 b, V.int IntKind.i64 (0 : Int)]] (V.bool true) ∧ ((V.fn 56 [] = V.fn 56 [] → [V.agg [i6 a, V.int IntKind.i64 (0 : Int)]] = [V.agg [i6 b, V.int IntKind.i64 (0 : Int)]] → pt T.e 0 (O.row 23 none [i6 a, i6 b]) = pt T.e 0 (O.row 23 none [i6 a, i6 b]) → 0 + 1 = 0 + 1 → CR.mk (V.bool true) (pt T.e 0 (O.row 23 none [i6 a, i6 b])) (0 + 1) [] = CR.mk (V.bool true) (pt T.e 0 (O.row 23 none [i6 a, i6 b])) (0 + 1) []) ∧ True) ∧ (a == (0 : Int)) = true ∧ (b == (0 : Int)) = true ∧ (true = (true == true) ∧ True) ∧ True) = _) ?_
          (repeat' (first | (with_reducible apply And.intro) | (refine fun (_ : True) => ?_))) <;> first | exact aq | skip
        · rw [decide_eq_false (show ¬ (0 ≤ a ∧ a ≤ 4611686018427387903 ∧ 0 ≤ b ∧ b ≤ 4611686018427387903 ∧ (a = 0 ↔ b = 0)) by omega)]
          refine FnOk.of_vc vE_ok mixed sp0_ok (n := 1000) (r := []) (S := { sl := [(2, .bool false)] }) (hs := [fn 6 (.bool true), fn 11 (.bool true), yes 16, no 19]) ?_
          refine Eq.mp (by kernel_rfl : (V.bool false = V.bool false ∧ ((True ∧ True ∧ True) ∧ True) ∧ FnOk Try.prog g0 56 [V.agg [V.int IntKind.i64 a, V.int IntKind.i64 (0 : Int)]] (V.bool true) ∧ True ∧ ((True ∧ True ∧ True) ∧ True) ∧ FnOk Try.prog g0 56 [V.agg [V.int IntKind.i64 b, V.int IntKind.i64 (0 : Int)]] (V.bool true) ∧ ((V.fn 56 [] = V.fn 56 [] → [V.agg [i6 a, V.int IntKind.i64 (0 : Int)]] = [V.agg [i6 b, V.int IntKind.i64 (0 : Int)]] → pt T.e 0 (O.row 23 none [i6 a, i6 b]) = pt T.e 0 (O.row 23 none [i6 a, i6 b]) → 0 + 1 = 0 + 1 → CR.mk (V.bool true) (pt T.e 0 (O.row 23 none [i6 a, i6 b])) (0 + 1) [] = CR.mk (V.bool true) (pt T.e 0 (O.row 23 none [i6 a, i6 b])) (0 + 1) []) ∧ True) ∧ (a == (0 : Int)) = true ∧ (b == (0 : Int)) = false ∧ (false = (true == false) ∧ True) ∧ True) = _) ?_
          (repeat' (first | (with_reducible apply And.intro) | (refine fun (_ : True) => ?_))) <;> first | exact aq | skip
      · by_cases h4 : b = 0
        · rw [decide_eq_false (show ¬ (0 ≤ a ∧ a ≤ 4611686018427387903 ∧ 0 ≤ b ∧ b ≤ 4611686018427387903 ∧ (a = 0 ↔ b = 0)) by omega)]
          refine FnOk.of_vc vE_ok mixed sp0_ok (n := 1000) (r := []) (S := { sl := [(2, .bool false)] }) (hs := [fn 6 (.bool true), fn 11 (.bool true), no 16, yes 19]) ?_
          refine Eq.mp (by kernel_rfl : (V.bool false = V.bool false ∧ ((True ∧ True ∧ True) ∧ True) ∧ FnOk Try.prog g0 56 [V.agg [V.int IntKind.i64 a, V.int IntKind.i64 (0 : Int)]] (V.bool true) ∧ True ∧ ((True ∧ True ∧ True) ∧ True) ∧ FnOk Try.prog g0 56 [V.agg [V.int IntKind.i64 b, V.int IntKind.i64 (0 : Int)]] (V.bool true) ∧ ((V.fn 56 [] = V.fn 56 [] → [V.agg [i6 a, V.int IntKind.i64 (0 : Int)]] = [V.agg [i6 b, V.int IntKind.i64 (0 : Int)]] → pt T.e 0 (O.row 23 none [i6 a, i6 b]) = pt T.e 0 (O.row 23 none [i6 a, i6 b]) → 0 + 1 = 0 + 1 → CR.mk (V.bool true) (pt T.e 0 (O.row 23 none [i6 a, i6 b])) (0 + 1) [] = CR.mk (V.bool true) (pt T.e 0 (O.row 23 none [i6 a, i6 b])) (0 + 1) []) ∧ True) ∧ (a == (0 : Int)) = false ∧ (b == (0 : Int)) = true ∧ (false = (false == true) ∧ True) ∧ True) = _) ?_
          (repeat' (first | (with_reducible apply And.intro) | (refine fun (_ : True) => ?_))) <;> first | exact aq | skip
        · rw [decide_eq_true (show 0 ≤ a ∧ a ≤ 4611686018427387903 ∧ 0 ≤ b ∧ b ≤ 4611686018427387903 ∧ (a = 0 ↔ b = 0) by omega)]
          refine FnOk.of_vc vE_ok mixed sp0_ok (n := 1000) (r := []) (S := { sl := [(2, .bool true)] }) (hs := [fn 6 (.bool true), fn 11 (.bool true), no 16, no 19]) ?_
          refine Eq.mp (by kernel_rfl : (V.bool true = V.bool true ∧ ((True ∧ True ∧ True) ∧ True) ∧ FnOk Try.prog g0 56 [V.agg [V.int IntKind.i64 a, V.int IntKind.i64 (0 : Int)]] (V.bool true) ∧ True ∧ ((True ∧ True ∧ True) ∧ True) ∧ FnOk Try.prog g0 56 [V.agg [V.int IntKind.i64 b, V.int IntKind.i64 (0 : Int)]] (V.bool true) ∧ ((V.fn 56 [] = V.fn 56 [] → [V.agg [i6 a, V.int IntKind.i64 (0 : Int)]] = [V.agg [i6 b, V.int IntKind.i64 (0 : Int)]] → pt T.e 0 (O.row 23 none [i6 a, i6 b]) = pt T.e 0 (O.row 23 none [i6 a, i6 b]) → 0 + 1 = 0 + 1 → CR.mk (V.bool true) (pt T.e 0 (O.row 23 none [i6 a, i6 b])) (0 + 1) [] = CR.mk (V.bool true) (pt T.e 0 (O.row 23 none [i6 a, i6 b])) (0 + 1) []) ∧ True) ∧ (a == (0 : Int)) = false ∧ (b == (0 : Int)) = false ∧ (true = (false == false) ∧ True) ∧ True) = _) ?_
          (repeat' (first | (with_reducible apply And.intro) | (refine fun (_ : True) => ?_))) <;> first | exact aq | skip
    · rw [decide_eq_false (show ¬ (0 ≤ b ∧ b ≤ 4611686018427387903 ∧ (0 : Int) = 0) by omega)] at ht
      rw [decide_eq_false (show ¬ (0 ≤ a ∧ a ≤ 4611686018427387903 ∧ 0 ≤ b ∧ b ≤ 4611686018427387903 ∧ (a = 0 ↔ b = 0)) by omega)]
      refine FnOk.of_vc vE_ok mixed sp0_ok (n := 1000) (r := []) (S := { sl := [(2, .bool false)] }) (hs := [fn 6 (.bool true), fn 11 (.bool false)]) ?_
      refine Eq.mp (by kernel_rfl : (V.bool false = V.bool false ∧ ((True ∧ True ∧ True) ∧ True) ∧ FnOk Try.prog g0 56 [V.agg [V.int IntKind.i64 a, V.int IntKind.i64 (0 : Int)]] (V.bool true) ∧ True ∧ ((True ∧ True ∧ True) ∧ True) ∧ FnOk Try.prog g0 56 [V.agg [V.int IntKind.i64 b, V.int IntKind.i64 (0 : Int)]] (V.bool false) ∧ ((V.fn 56 [] = V.fn 56 [] → [V.agg [i6 a, V.int IntKind.i64 (0 : Int)]] = [V.agg [i6 b, V.int IntKind.i64 (0 : Int)]] → pt T.e 0 (O.row 23 none [i6 a, i6 b]) = pt T.e 0 (O.row 23 none [i6 a, i6 b]) → 0 + 1 = 0 + 1 → CR.mk (V.bool true) (pt T.e 0 (O.row 23 none [i6 a, i6 b])) (0 + 1) [] = CR.mk (V.bool false) (pt T.e 0 (O.row 23 none [i6 a, i6 b])) (0 + 1) []) ∧ True) ∧ (false = false ∧ True) ∧ True) = _) ?_
      (repeat' (first | (with_reducible apply And.intro) | (refine fun (_ : True) => ?_))) <;> first | exact aq | skip
      intro _ he _ _
      exact absurd (show a = b by simpa using he) (by omega)
  · rw [decide_eq_false (show ¬ (0 ≤ a ∧ a ≤ 4611686018427387903 ∧ (0 : Int) = 0) by omega)] at hs
    rw [decide_eq_false (show ¬ (0 ≤ a ∧ a ≤ 4611686018427387903 ∧ 0 ≤ b ∧ b ≤ 4611686018427387903 ∧ (a = 0 ↔ b = 0)) by omega)]
    refine FnOk.of_vc vE_ok mixed sp0_ok (n := 1000) (r := []) (S := { sl := [(2, .bool false)] }) (hs := [fn 6 (.bool false)]) ?_
    refine Eq.mp (by kernel_rfl : (V.bool false = V.bool false ∧ ((True ∧ True ∧ True) ∧ True) ∧ FnOk Try.prog g0 56 [V.agg [V.int IntKind.i64 a, V.int IntKind.i64 (0 : Int)]] (V.bool false) ∧ True ∧ (false = false ∧ True) ∧ True) = _) ?_
    (repeat' (first | (with_reducible apply And.intro) | (refine fun (_ : True) => ?_))) <;> first | exact aq | skip
theorem plus1_fn (a b c d : Int) (h1 : 0 ≤ a) (h2 : a ≤ 4611686018427387904) (h3 : 0 ≤ c) (h4 : c ≤ 4611686018427387904) : FnOk Pg g0 57 [el a b, el c d] (el (addI a c) 0) := by
  have h := add_fn a c h1 h2 h3 h4
  generalize addI a c = r at *
  refine FnOk.of_vc vE_ok mixed sp0_ok (n := 1000) (r := [2]) (S := { sl := [(4, .ptr 0 0)], os := [.row 23 none [i6 r, i6 0]] }) (hs := [fn 9 (i6 r)]) ?_
  refine Eq.mp (by kernel_rfl : (V.agg [i6 r, i6 (0 : Int)] = el r (0 : Int) ∧ (True ∧ True ∧ True) ∧ FnOk Try.prog g0 58 [V.int IntKind.i64 a, V.int IntKind.i64 c] (i6 r) ∧ True ∧ (0 = 0 ∧ True) ∧ ([i6 r, i6 (0 : Int)] = [i6 r, V.int IntKind.i64 (0 : Int)] ∧ True ∧ True ∧ True) ∧ True) = _) ?_
  (repeat' (first | (with_reducible apply And.intro) | (refine fun (_ : True) => ?_))) <;> first | exact aq | skip
theorem mult_fn (a b c d : Int) (h1 : 0 ≤ a) (h2 : a ≤ 4611686018427387904) (h3 : 0 ≤ c) (h4 : c ≤ 4611686018427387904) : FnOk Pg g0 59 [el a b, el c d] (el (mulI a c) 0) := by
  have h := mul_fn a c h1 h2 h3 h4
  generalize mulI a c = r at *
  refine FnOk.of_vc vE_ok mixed sp0_ok (n := 1000) (r := [2]) (S := { sl := [(4, .ptr 0 0)], os := [.row 23 none [i6 r, i6 0]] }) (hs := [fn 9 (i6 r)]) ?_
  refine Eq.mp (by kernel_rfl : (V.agg [i6 r, i6 (0 : Int)] = el r (0 : Int) ∧ (True ∧ True ∧ True) ∧ FnOk Try.prog g0 69 [V.int IntKind.i64 a, V.int IntKind.i64 c] (i6 r) ∧ True ∧ (0 = 0 ∧ True) ∧ ([i6 r, i6 (0 : Int)] = [i6 r, V.int IntKind.i64 (0 : Int)] ∧ True ∧ True ∧ True) ∧ True) = _) ?_
  (repeat' (first | (with_reducible apply And.intro) | (refine fun (_ : True) => ?_))) <;> first | exact aq | skip
theorem max_fn (a b c d : Int) : FnOk Pg g0 60 [el a b, el c d] (el (maxI a c) 0) := by
  have h : (if c > a then c else a) = maxI a c := rfl
  generalize maxI a c = r at *
  refine FnOk.of_vc vE_ok mixed sp0_ok (n := 1000) (r := [2]) (S := { sl := [(4, .ptr 0 0)], os := [.row 23 none [i6 (if c > a then c else a), i6 0]] }) (hs := []) ?_
  refine Eq.mp (by kernel_rfl : (V.agg [i6 (if c > a then c else a), i6 (0 : Int)] = el r (0 : Int) ∧ (0 = 0 ∧ True) ∧ ([i6 (if c > a then c else a), i6 (0 : Int)] = [V.int IntKind.i64 (if c > a then c else a), V.int IntKind.i64 (0 : Int)] ∧ True ∧ True ∧ True) ∧ True) = _) ?_
  (repeat' (first | (with_reducible apply And.intro) | (refine fun (_ : True) => ?_))) <;> first | exact aq | skip
theorem lesser_fn (a b c d : Int) (p q : Int) (h : (if a < 0 ∨ (0 ≤ c ∧ c < a) then (c, d) else (a, b)) = (p, q)) : FnOk Pg g0 62 [el a b, el c d] (el p q) := by
  by_cases h1 : a < 0
  · rw [if_pos (by omega)] at h
    cases h
    refine FnOk.of_vc vE_ok mixed sp0_ok (n := 1000) (r := [2]) (S := { sl := [(4, .ptr 0 0)], os := [.row 23 none [i6 c, i6 d]] }) (hs := [yes 7]) ?_
    refine Eq.mp (by kernel_rfl : (V.agg [i6 c, i6 d] = el c d ∧ decide (a < (0 : Int)) = true ∧ (0 = 0 ∧ True) ∧ ([i6 c, i6 d] = [i6 c, i6 d] ∧ True ∧ True ∧ True) ∧ True) = _) ?_
    (repeat' (first | (with_reducible apply And.intro) | (refine fun (_ : True) => ?_))) <;> first | exact aq | skip
  · by_cases h2 : 0 ≤ c
    · by_cases h3 : c < a
      · rw [if_pos (by omega)] at h
        cases h
        refine FnOk.of_vc vE_ok mixed sp0_ok (n := 1000) (r := [2]) (S := { sl := [(4, .ptr 0 0)], os := [.row 23 none [i6 c, i6 d]] }) (hs := [no 7, yes 11, yes 17]) ?_
        refine Eq.mp (by kernel_rfl : (V.agg [i6 c, i6 d] = el c d ∧ decide (a < (0 : Int)) = false ∧ decide (c ≥ (0 : Int)) = true ∧ decide (c < a) = true ∧ (0 = 0 ∧ True) ∧ ([i6 c, i6 d] = [i6 c, i6 d] ∧ True ∧ True ∧ True) ∧ True) = _) ?_
        (repeat' (first | (with_reducible apply And.intro) | (refine fun (_ : True) => ?_))) <;> first | exact aq | skip
      · rw [if_neg (by omega)] at h
        cases h
        refine FnOk.of_vc vE_ok mixed sp0_ok (n := 1000) (r := [2]) (S := { sl := [(4, .ptr 0 0)], os := [.row 23 none [i6 a, i6 b]] }) (hs := [no 7, yes 11, no 17]) ?_
        refine Eq.mp (by kernel_rfl : (V.agg [i6 a, i6 b] = el a b ∧ decide (a < (0 : Int)) = false ∧ decide (c ≥ (0 : Int)) = true ∧ decide (c < a) = false ∧ (0 = 0 ∧ True) ∧ ([i6 a, i6 b] = [i6 a, i6 b] ∧ True ∧ True ∧ True) ∧ True) = _) ?_
        (repeat' (first | (with_reducible apply And.intro) | (refine fun (_ : True) => ?_))) <;> first | exact aq | skip
    · rw [if_neg (by omega)] at h
      cases h
      refine FnOk.of_vc vE_ok mixed sp0_ok (n := 1000) (r := [2]) (S := { sl := [(4, .ptr 0 0)], os := [.row 23 none [i6 a, i6 b]] }) (hs := [no 7, no 11]) ?_
      refine Eq.mp (by kernel_rfl : (V.agg [i6 a, i6 b] = el a b ∧ decide (a < (0 : Int)) = false ∧ decide (c ≥ (0 : Int)) = false ∧ (0 = 0 ∧ True) ∧ ([i6 a, i6 b] = [i6 a, i6 b] ∧ True ∧ True ∧ True) ∧ True) = _) ?_
      (repeat' (first | (with_reducible apply And.intro) | (refine fun (_ : True) => ?_))) <;> first | exact aq | skip
theorem costs_fn (a b c d : Int) (h1 : a ≤ 4611686018427387904) (h2 : c ≤ 4611686018427387904) (p q : Int) (h : (if a < 0 ∨ c < 0 then (-1, 0) else (addI a c, 0)) = (p, q)) : FnOk Pg g0 63 [el a b, el c d] (el p q) := by
  by_cases h3 : a < 0
  · rw [if_pos (by omega)] at h
    cases h
    refine FnOk.of_vc vE_ok mixed sp0_ok (n := 1000) (r := [2]) (S := { sl := [(4, .ptr 0 0)], os := [.row 23 none [i6 (-1), i6 0]] }) (hs := [yes 7]) ?_
    refine Eq.mp (by kernel_rfl : (V.agg [i6 (-1 : Int), i6 (0 : Int)] = el (-1 : Int) (0 : Int) ∧ decide (a < (0 : Int)) = true ∧ (0 = 0 ∧ True) ∧ ([i6 (-1 : Int), i6 (0 : Int)] = [V.int IntKind.i64 (-1 : Int), V.int IntKind.i64 (0 : Int)] ∧ True ∧ True ∧ True) ∧ True) = _) ?_
    (repeat' (first | (with_reducible apply And.intro) | (refine fun (_ : True) => ?_))) <;> first | exact aq | skip
  · by_cases h4 : c < 0
    · rw [if_pos (by omega)] at h
      cases h
      refine FnOk.of_vc vE_ok mixed sp0_ok (n := 1000) (r := [2]) (S := { sl := [(4, .ptr 0 0)], os := [.row 23 none [i6 (-1), i6 0]] }) (hs := [no 7, yes 11]) ?_
      refine Eq.mp (by kernel_rfl : (V.agg [i6 (-1 : Int), i6 (0 : Int)] = el (-1 : Int) (0 : Int) ∧ decide (a < (0 : Int)) = false ∧ decide (c < (0 : Int)) = true ∧ (0 = 0 ∧ True) ∧ ([i6 (-1 : Int), i6 (0 : Int)] = [V.int IntKind.i64 (-1 : Int), V.int IntKind.i64 (0 : Int)] ∧ True ∧ True ∧ True) ∧ True) = _) ?_
      (repeat' (first | (with_reducible apply And.intro) | (refine fun (_ : True) => ?_))) <;> first | exact aq | skip
    · rw [if_neg (by omega)] at h
      cases h
      have hs := add_fn a c (by omega) h1 (by omega) h2
      generalize addI a c = r at *
      refine FnOk.of_vc vE_ok mixed sp0_ok (n := 1000) (r := [2]) (S := { sl := [(4, .ptr 0 0)], os := [.row 23 none [i6 r, i6 0]] }) (hs := [no 7, no 11, fn 18 (i6 r)]) ?_
      refine Eq.mp (by kernel_rfl : (V.agg [i6 r, i6 (0 : Int)] = el r (0 : Int) ∧ decide (a < (0 : Int)) = false ∧ decide (c < (0 : Int)) = false ∧ (True ∧ True ∧ True) ∧ FnOk Try.prog g0 58 [V.int IntKind.i64 a, V.int IntKind.i64 c] (i6 r) ∧ True ∧ (0 = 0 ∧ True) ∧ ([i6 r, i6 (0 : Int)] = [i6 r, V.int IntKind.i64 (0 : Int)] ∧ True ∧ True ∧ True) ∧ True) = _) ?_
      (repeat' (first | (with_reducible apply And.intro) | (refine fun (_ : True) => ?_))) <;> first | exact aq | skip
theorem or_fn (a b c d : Int) (h1 : a = 0 ∨ a = 1) (h2 : c = 0 ∨ c = 1) : FnOk Pg g0 64 [el a b, el c d] (el (maxI a c) 0) := by
  rcases h1 with rfl | rfl <;> rcases h2 with rfl | rfl
  · rw [show maxI 0 0 = 0 by decide]
    refine FnOk.of_vc vE_ok mixed sp0_ok (n := 1000) (r := [2]) (S := { sl := [(4, .ptr 0 0)], os := [.row 23 none [i6 0, i6 0]] }) (hs := []) ?_
    refine Eq.mp (by kernel_rfl : (V.agg [i6 (0 : Int), i6 (0 : Int)] = el (0 : Int) (0 : Int) ∧ (0 = 0 ∧ True) ∧ ([i6 (0 : Int), i6 (0 : Int)] = [V.int IntKind.i64 (IntKind.wrap IntKind.i64 (↑(BitVec.toNat (BitVec.ofInt (IntKind.bits IntKind.i64) (0 : Int) ||| BitVec.ofInt (IntKind.bits IntKind.i64) (0 : Int))) : Int)), V.int IntKind.i64 (0 : Int)] ∧ True ∧ True ∧ True) ∧ True) = _) ?_
    (repeat' (first | (with_reducible apply And.intro) | (refine fun (_ : True) => ?_))) <;> first | exact aq | skip
    all_goals rfl
  · rw [show maxI 0 1 = 1 by decide]
    refine FnOk.of_vc vE_ok mixed sp0_ok (n := 1000) (r := [2]) (S := { sl := [(4, .ptr 0 0)], os := [.row 23 none [i6 1, i6 0]] }) (hs := []) ?_
    refine Eq.mp (by kernel_rfl : (V.agg [i6 (1 : Int), i6 (0 : Int)] = el (1 : Int) (0 : Int) ∧ (0 = 0 ∧ True) ∧ ([i6 (1 : Int), i6 (0 : Int)] = [V.int IntKind.i64 (IntKind.wrap IntKind.i64 (↑(BitVec.toNat (BitVec.ofInt (IntKind.bits IntKind.i64) (0 : Int) ||| BitVec.ofInt (IntKind.bits IntKind.i64) (1 : Int))) : Int)), V.int IntKind.i64 (0 : Int)] ∧ True ∧ True ∧ True) ∧ True) = _) ?_
    (repeat' (first | (with_reducible apply And.intro) | (refine fun (_ : True) => ?_))) <;> first | exact aq | skip
    all_goals rfl
  · rw [show maxI 1 0 = 1 by decide]
    refine FnOk.of_vc vE_ok mixed sp0_ok (n := 1000) (r := [2]) (S := { sl := [(4, .ptr 0 0)], os := [.row 23 none [i6 1, i6 0]] }) (hs := []) ?_
    refine Eq.mp (by kernel_rfl : (V.agg [i6 (1 : Int), i6 (0 : Int)] = el (1 : Int) (0 : Int) ∧ (0 = 0 ∧ True) ∧ ([i6 (1 : Int), i6 (0 : Int)] = [V.int IntKind.i64 (IntKind.wrap IntKind.i64 (↑(BitVec.toNat (BitVec.ofInt (IntKind.bits IntKind.i64) (1 : Int) ||| BitVec.ofInt (IntKind.bits IntKind.i64) (0 : Int))) : Int)), V.int IntKind.i64 (0 : Int)] ∧ True ∧ True ∧ True) ∧ True) = _) ?_
    (repeat' (first | (with_reducible apply And.intro) | (refine fun (_ : True) => ?_))) <;> first | exact aq | skip
    all_goals rfl
  · rw [show maxI 1 1 = 1 by decide]
    refine FnOk.of_vc vE_ok mixed sp0_ok (n := 1000) (r := [2]) (S := { sl := [(4, .ptr 0 0)], os := [.row 23 none [i6 1, i6 0]] }) (hs := []) ?_
    refine Eq.mp (by kernel_rfl : (V.agg [i6 (1 : Int), i6 (0 : Int)] = el (1 : Int) (0 : Int) ∧ (0 = 0 ∧ True) ∧ ([i6 (1 : Int), i6 (0 : Int)] = [V.int IntKind.i64 (IntKind.wrap IntKind.i64 (↑(BitVec.toNat (BitVec.ofInt (IntKind.bits IntKind.i64) (1 : Int) ||| BitVec.ofInt (IntKind.bits IntKind.i64) (1 : Int))) : Int)), V.int IntKind.i64 (0 : Int)] ∧ True ∧ True ∧ True) ∧ True) = _) ?_
    (repeat' (first | (with_reducible apply And.intro) | (refine fun (_ : True) => ?_))) <;> first | exact aq | skip
    all_goals rfl
theorem and_fn (a b c d : Int) (h1 : a = 0 ∨ a = 1) (h2 : c = 0 ∨ c = 1) : FnOk Pg g0 65 [el a b, el c d] (el (mulI a c) 0) := by
  rcases h1 with rfl | rfl <;> rcases h2 with rfl | rfl
  · rw [show mulI 0 0 = 0 by decide]
    refine FnOk.of_vc vE_ok mixed sp0_ok (n := 1000) (r := [2]) (S := { sl := [(4, .ptr 0 0)], os := [.row 23 none [i6 0, i6 0]] }) (hs := []) ?_
    refine Eq.mp (by kernel_rfl : (V.agg [i6 (0 : Int), i6 (0 : Int)] = el (0 : Int) (0 : Int) ∧ (0 = 0 ∧ True) ∧ ([i6 (0 : Int), i6 (0 : Int)] = [V.int IntKind.i64 (IntKind.wrap IntKind.i64 (↑(BitVec.toNat (BitVec.ofInt (IntKind.bits IntKind.i64) (0 : Int) &&& BitVec.ofInt (IntKind.bits IntKind.i64) (0 : Int))) : Int)), V.int IntKind.i64 (0 : Int)] ∧ True ∧ True ∧ True) ∧ True) = _) ?_
    (repeat' (first | (with_reducible apply And.intro) | (refine fun (_ : True) => ?_))) <;> first | exact aq | skip
    all_goals rfl
  · rw [show mulI 0 1 = 0 by decide]
    refine FnOk.of_vc vE_ok mixed sp0_ok (n := 1000) (r := [2]) (S := { sl := [(4, .ptr 0 0)], os := [.row 23 none [i6 0, i6 0]] }) (hs := []) ?_
    refine Eq.mp (by kernel_rfl : (V.agg [i6 (0 : Int), i6 (0 : Int)] = el (0 : Int) (0 : Int) ∧ (0 = 0 ∧ True) ∧ ([i6 (0 : Int), i6 (0 : Int)] = [V.int IntKind.i64 (IntKind.wrap IntKind.i64 (↑(BitVec.toNat (BitVec.ofInt (IntKind.bits IntKind.i64) (0 : Int) &&& BitVec.ofInt (IntKind.bits IntKind.i64) (1 : Int))) : Int)), V.int IntKind.i64 (0 : Int)] ∧ True ∧ True ∧ True) ∧ True) = _) ?_
    (repeat' (first | (with_reducible apply And.intro) | (refine fun (_ : True) => ?_))) <;> first | exact aq | skip
    all_goals rfl
  · rw [show mulI 1 0 = 0 by decide]
    refine FnOk.of_vc vE_ok mixed sp0_ok (n := 1000) (r := [2]) (S := { sl := [(4, .ptr 0 0)], os := [.row 23 none [i6 0, i6 0]] }) (hs := []) ?_
    refine Eq.mp (by kernel_rfl : (V.agg [i6 (0 : Int), i6 (0 : Int)] = el (0 : Int) (0 : Int) ∧ (0 = 0 ∧ True) ∧ ([i6 (0 : Int), i6 (0 : Int)] = [V.int IntKind.i64 (IntKind.wrap IntKind.i64 (↑(BitVec.toNat (BitVec.ofInt (IntKind.bits IntKind.i64) (1 : Int) &&& BitVec.ofInt (IntKind.bits IntKind.i64) (0 : Int))) : Int)), V.int IntKind.i64 (0 : Int)] ∧ True ∧ True ∧ True) ∧ True) = _) ?_
    (repeat' (first | (with_reducible apply And.intro) | (refine fun (_ : True) => ?_))) <;> first | exact aq | skip
    all_goals rfl
  · rw [show mulI 1 1 = 1 by decide]
    refine FnOk.of_vc vE_ok mixed sp0_ok (n := 1000) (r := [2]) (S := { sl := [(4, .ptr 0 0)], os := [.row 23 none [i6 1, i6 0]] }) (hs := []) ?_
    refine Eq.mp (by kernel_rfl : (V.agg [i6 (1 : Int), i6 (0 : Int)] = el (1 : Int) (0 : Int) ∧ (0 = 0 ∧ True) ∧ ([i6 (1 : Int), i6 (0 : Int)] = [V.int IntKind.i64 (IntKind.wrap IntKind.i64 (↑(BitVec.toNat (BitVec.ofInt (IntKind.bits IntKind.i64) (1 : Int) &&& BitVec.ofInt (IntKind.bits IntKind.i64) (1 : Int))) : Int)), V.int IntKind.i64 (0 : Int)] ∧ True ∧ True ∧ True) ∧ True) = _) ?_
    (repeat' (first | (with_reducible apply And.intro) | (refine fun (_ : True) => ?_))) <;> first | exact aq | skip
    all_goals rfl
theorem most_fn (a b c d : Int) (h1 : 0 ≤ b) (h2 : b ≤ 4611686018427387904) (h3 : 0 ≤ d) (h4 : d ≤ 4611686018427387904) (p q : Int) (h : (if c < a then (a, b) else if a < c then (c, d) else (a, addI b d)) = (p, q)) : FnOk Pg g0 67 [el a b, el c d] (el p q) := by
  by_cases h5 : c < a
  · rw [if_pos h5] at h
    cases h
    refine FnOk.of_vc vE_ok mixed sp0_ok (n := 1000) (r := [2]) (S := { sl := [(4, .ptr 0 0)], os := [.row 23 none [i6 a, i6 b]] }) (hs := [yes 10]) ?_
    refine Eq.mp (by kernel_rfl : (V.agg [i6 a, i6 b] = el a b ∧ decide (a > c) = true ∧ (0 = 0 ∧ True) ∧ ([i6 a, i6 b] = [i6 a, i6 b] ∧ True ∧ True ∧ True) ∧ True) = _) ?_
    (repeat' (first | (with_reducible apply And.intro) | (refine fun (_ : True) => ?_))) <;> first | exact aq | skip
  · rw [if_neg h5] at h
    by_cases h6 : a < c
    · rw [if_pos h6] at h
      cases h
      refine FnOk.of_vc vE_ok mixed sp0_ok (n := 1000) (r := [2]) (S := { sl := [(4, .ptr 0 0)], os := [.row 23 none [i6 c, i6 d]] }) (hs := [no 10, yes 17]) ?_
      refine Eq.mp (by kernel_rfl : (V.agg [i6 c, i6 d] = el c d ∧ decide (a > c) = false ∧ decide (a < c) = true ∧ (0 = 0 ∧ True) ∧ ([i6 c, i6 d] = [i6 c, i6 d] ∧ True ∧ True ∧ True) ∧ True) = _) ?_
      (repeat' (first | (with_reducible apply And.intro) | (refine fun (_ : True) => ?_))) <;> first | exact aq | skip
    · rw [if_neg h6] at h
      cases h
      have hs := add_fn b d h1 h2 h3 h4
      generalize addI b d = r at *
      refine FnOk.of_vc vE_ok mixed sp0_ok (n := 1000) (r := [2]) (S := { sl := [(4, .ptr 0 0)], os := [.row 23 none [i6 a, i6 r]] }) (hs := [no 10, no 17, fn 25 (i6 r)]) ?_
      refine Eq.mp (by kernel_rfl : (V.agg [i6 a, i6 r] = el a r ∧ decide (a > c) = false ∧ decide (a < c) = false ∧ (True ∧ True ∧ True) ∧ FnOk Try.prog g0 58 [V.int IntKind.i64 b, V.int IntKind.i64 d] (i6 r) ∧ True ∧ (0 = 0 ∧ True) ∧ ([i6 a, i6 r] = [i6 a, i6 r] ∧ True ∧ True ∧ True) ∧ True) = _) ?_
      (repeat' (first | (with_reducible apply And.intro) | (refine fun (_ : True) => ?_))) <;> first | exact aq | skip
theorem pairs_fn (a b c d : Int) (h1 : 0 ≤ a) (h2 : a ≤ 4611686018427387904) (h3 : 0 ≤ c) (h4 : c ≤ 4611686018427387904) (h5 : 0 ≤ b) (h6 : b ≤ 4611686018427387904) (h7 : 0 ≤ d) (h8 : d ≤ 4611686018427387904) : FnOk Pg g0 68 [el a b, el c d] (el (mulI a c) (mulI b d)) := by
  have g1 := mul_fn a c h1 h2 h3 h4
  have g2 := mul_fn b d h5 h6 h7 h8
  have e : a = b → c = d → mulI a c = mulI b d := by rintro rfl rfl; rfl
  generalize mulI a c = r at *
  generalize mulI b d = s at *
  refine FnOk.of_vc vE_ok mixed sp0_ok (n := 1000) (r := [2]) (S := { sl := [(4, .ptr 0 0)], os := [.row 23 none [i6 r, i6 s]] }) (hs := [fn 9 (i6 r), fn 14 (i6 s)]) ?_
  refine Eq.mp (by kernel_rfl : (V.agg [i6 r, i6 s] = el r s ∧ (True ∧ True ∧ True) ∧ FnOk Try.prog g0 69 [V.int IntKind.i64 a, V.int IntKind.i64 c] (i6 r) ∧ True ∧ (True ∧ True ∧ True) ∧ FnOk Try.prog g0 69 [V.int IntKind.i64 b, V.int IntKind.i64 d] (i6 s) ∧ ((V.fn 69 [] = V.fn 69 [] → [i6 a, i6 c] = [i6 b, i6 d] → pt (pt (pt T.e 0 (O.row 23 none [i6 a, i6 b])) (0 + 1) (O.row 23 none [i6 c, i6 d])) (0 + 1 + 1) (O.row 23 none [V.int IntKind.i64 (0 : Int), V.int IntKind.i64 (0 : Int)]) = pt (pt (pt T.e 0 (O.row 23 none [i6 a, i6 b])) (0 + 1) (O.row 23 none [i6 c, i6 d])) (0 + 1 + 1) (O.row 23 none [V.int IntKind.i64 (0 : Int), V.int IntKind.i64 (0 : Int)]) → 0 + 1 + 1 + 1 = 0 + 1 + 1 + 1 → CR.mk (i6 r) (pt (pt (pt T.e 0 (O.row 23 none [i6 a, i6 b])) (0 + 1) (O.row 23 none [i6 c, i6 d])) (0 + 1 + 1) (O.row 23 none [V.int IntKind.i64 (0 : Int), V.int IntKind.i64 (0 : Int)])) (0 + 1 + 1 + 1) [] = CR.mk (i6 s) (pt (pt (pt T.e 0 (O.row 23 none [i6 a, i6 b])) (0 + 1) (O.row 23 none [i6 c, i6 d])) (0 + 1 + 1) (O.row 23 none [V.int IntKind.i64 (0 : Int), V.int IntKind.i64 (0 : Int)])) (0 + 1 + 1 + 1) []) ∧ True) ∧ (0 = 0 ∧ True) ∧ ([i6 r, i6 s] = [i6 r, i6 s] ∧ True ∧ True ∧ True) ∧ True) = _) ?_
  (repeat' (first | (with_reducible apply And.intro) | (refine fun (_ : True) => ?_))) <;> first | exact aq | skip
  all_goals (intro _ he _ _; simp only [List.cons.injEq, V.int.injEq, true_and, and_true] at he; rw [e he.1 he.2])
end Go.Proofs.Ytgdnmgcigkhojaa.Am
