/- Chapter 04: the reference: Kind, Right, Zero, One, Plus, Times, Fits. -/
import Derived.Test.YtgdnmgcigkhojaaS1
namespace Go.Proofs.Ytgdnmgcigkhojaa.Am
open Go.RowKit
set_option linter.unusedVariables false
set_option maxHeartbeats 1000000
set_option maxRecDepth 100000

theorem kind_fn (k : Int) : FnOk Pg g0 11 [i6 k] (.bool (decide (1 ≤ k ∧ k ≤ 5))) := by
  by_cases h1 : 1 ≤ k
  · by_cases h2 : k ≤ 5
    · rw [decide_eq_true (show 1 ≤ k ∧ k ≤ 5 by omega)]
      refine FnOk.of_vc vE_ok mixed sp0_ok (n := 1000) (r := []) (S := { sl := [(2, .bool true)] }) (hs := [yes 4, yes 7]) ?_
      refine Eq.mp (by kernel_rfl : (V.bool true = V.bool true ∧ decide (k ≥ (1 : Int)) = true ∧ decide (k ≤ (5 : Int)) = true ∧ (true = true ∧ True) ∧ True) = _) ?_
      (repeat' (first | (with_reducible apply And.intro) | (refine fun (_ : True) => ?_))) <;> first | exact aq | skip
    · rw [decide_eq_false (show ¬ (1 ≤ k ∧ k ≤ 5) by omega)]
      refine FnOk.of_vc vE_ok mixed sp0_ok (n := 1000) (r := []) (S := { sl := [(2, .bool false)] }) (hs := [yes 4, no 7]) ?_
      refine Eq.mp (by kernel_rfl : (V.bool false = V.bool false ∧ decide (k ≥ (1 : Int)) = true ∧ decide (k ≤ (5 : Int)) = false ∧ (false = false ∧ True) ∧ True) = _) ?_
      (repeat' (first | (with_reducible apply And.intro) | (refine fun (_ : True) => ?_))) <;> first | exact aq | skip
  · rw [decide_eq_false (show ¬ (1 ≤ k ∧ k ≤ 5) by omega)]
    refine FnOk.of_vc vE_ok mixed sp0_ok (n := 1000) (r := []) (S := { sl := [(2, .bool false)] }) (hs := [no 4]) ?_
    refine Eq.mp (by kernel_rfl : (V.bool false = V.bool false ∧ decide (k ≥ (1 : Int)) = false ∧ (false = false ∧ True) ∧ True) = _) ?_
    (repeat' (first | (with_reducible apply And.intro) | (refine fun (_ : True) => ?_))) <;> first | exact aq | skip
theorem five_kinds {k : Int} (h : 1 ≤ k ∧ k ≤ 5) : k = 1 ∨ k = 2 ∨ k = 3 ∨ k = 4 ∨ k = 5 := by omega
theorem okE_none {k : Int} (h : ¬ (1 ≤ k ∧ k ≤ 5)) (a b : Int) : okE k a b = false := by
  unfold okE
  rw [if_neg (by omega), if_neg (by omega), if_neg (by omega), if_neg (by omega)]
theorem okE_out {k a b : Int} (h : a < -1 ∨ 4611686018427387903 < a ∨ b < 0 ∨ 4611686018427387903 < b) : okE k a b = false := by
  unfold okE
  repeat' split
  all_goals first
    | rfl
    | (rw [decide_eq_false_iff_not]; omega)
theorem right_fn (k a b : Int) : FnOk Pg g0 33 [i6 k, el a b] (.bool (okE k a b)) := by
  have hk := kind_fn k
  by_cases h : 1 ≤ k ∧ k ≤ 5
  · rw [decide_eq_true h] at hk
    by_cases h1 : a < -1
    · rw [okE_out (.inl h1)]
      refine FnOk.of_vc vE_ok mixed sp0_ok (n := 1000) (r := []) (S := { sl := [(4, .bool false)] }) (hs := [fn 6 (.bool true), yes 11]) ?_
      refine Eq.mp (by kernel_rfl : (V.bool false = V.bool false ∧ (True ∧ True) ∧ FnOk Try.prog g0 11 [V.int IntKind.i64 k] (V.bool true) ∧ True ∧ decide (a < (-1 : Int)) = true ∧ (false = false ∧ True) ∧ True) = _) ?_
      (repeat' (first | (with_reducible apply And.intro) | (refine fun (_ : True) => ?_))) <;> first | exact aq | skip
    · by_cases h2 : 4611686018427387903 < a
      · rw [okE_out (.inr (.inl h2))]
        refine FnOk.of_vc vE_ok mixed sp0_ok (n := 1000) (r := []) (S := { sl := [(4, .bool false)] }) (hs := [fn 6 (.bool true), no 11, yes 16]) ?_
        refine Eq.mp (by kernel_rfl : (V.bool false = V.bool false ∧ (True ∧ True) ∧ FnOk Try.prog g0 11 [V.int IntKind.i64 k] (V.bool true) ∧ True ∧ decide (a < (-1 : Int)) = false ∧ decide (a > (4611686018427387903 : Int)) = true ∧ (false = false ∧ True) ∧ True) = _) ?_
        (repeat' (first | (with_reducible apply And.intro) | (refine fun (_ : True) => ?_))) <;> first | exact aq | skip
      · by_cases h3 : b < 0
        · rw [okE_out (.inr (.inr (.inl h3)))]
          refine FnOk.of_vc vE_ok mixed sp0_ok (n := 1000) (r := []) (S := { sl := [(4, .bool false)] }) (hs := [fn 6 (.bool true), no 11, no 16, yes 21]) ?_
          refine Eq.mp (by kernel_rfl : (V.bool false = V.bool false ∧ (True ∧ True) ∧ FnOk Try.prog g0 11 [V.int IntKind.i64 k] (V.bool true) ∧ True ∧ decide (a < (-1 : Int)) = false ∧ decide (a > (4611686018427387903 : Int)) = false ∧ decide (b < (0 : Int)) = true ∧ (false = false ∧ True) ∧ True) = _) ?_
          (repeat' (first | (with_reducible apply And.intro) | (refine fun (_ : True) => ?_))) <;> first | exact aq | skip
        · by_cases h4 : 4611686018427387903 < b
          · rw [okE_out (.inr (.inr (.inr h4)))]
            refine FnOk.of_vc vE_ok mixed sp0_ok (n := 1000) (r := []) (S := { sl := [(4, .bool false)] }) (hs := [fn 6 (.bool true), no 11, no 16, no 21, yes 26]) ?_
            refine Eq.mp (by kernel_rfl : (V.bool false = V.bool false ∧ (True ∧ True) ∧ FnOk Try.prog g0 11 [V.int IntKind.i64 k] (V.bool true) ∧ True ∧ decide (a < (-1 : Int)) = false ∧ decide (a > (4611686018427387903 : Int)) = false ∧ decide (b < (0 : Int)) = false ∧ decide (b > (4611686018427387903 : Int)) = true ∧ (false = false ∧ True) ∧ True) = _) ?_
            (repeat' (first | (with_reducible apply And.intro) | (refine fun (_ : True) => ?_))) <;> first | exact aq | skip
          · rcases five_kinds h with rfl | rfl | rfl | rfl | rfl
            · by_cases h5 : 0 ≤ a
              · by_cases h6 : b = 0
                · skip
                  rw [show okE 1 a b = true by simp [okE]; omega]
                  refine FnOk.of_vc vE_ok mixed sp0_ok (n := 1000) (r := []) (S := { sl := [(4, .bool true)] }) (hs := [fn 6 (.bool true), no 11, no 16, no 21, no 26, yes 71, yes 75]) ?_
                  refine Eq.mp (by kernel_rfl : (V.bool true = V.bool true ∧ (True ∧ True) ∧ FnOk Try.prog g0 11 [V.int IntKind.i64 (1 : Int)] (V.bool true) ∧ True ∧ decide (a < (-1 : Int)) = false ∧ decide (a > (4611686018427387903 : Int)) = false ∧ decide (b < (0 : Int)) = false ∧ decide (b > (4611686018427387903 : Int)) = false ∧ decide (a ≥ (0 : Int)) = true ∧ (b == (0 : Int)) = true ∧ (true = true ∧ True) ∧ True) = _) ?_
                  (repeat' (first | (with_reducible apply And.intro) | (refine fun (_ : True) => ?_))) <;> first | exact aq | skip
                · skip
                  rw [show okE 1 a b = false by simp [okE]; omega]
                  refine FnOk.of_vc vE_ok mixed sp0_ok (n := 1000) (r := []) (S := { sl := [(4, .bool false)] }) (hs := [fn 6 (.bool true), no 11, no 16, no 21, no 26, yes 71, no 75]) ?_
                  refine Eq.mp (by kernel_rfl : (V.bool false = V.bool false ∧ (True ∧ True) ∧ FnOk Try.prog g0 11 [V.int IntKind.i64 (1 : Int)] (V.bool true) ∧ True ∧ decide (a < (-1 : Int)) = false ∧ decide (a > (4611686018427387903 : Int)) = false ∧ decide (b < (0 : Int)) = false ∧ decide (b > (4611686018427387903 : Int)) = false ∧ decide (a ≥ (0 : Int)) = true ∧ (b == (0 : Int)) = false ∧ (false = false ∧ True) ∧ True) = _) ?_
                  (repeat' (first | (with_reducible apply And.intro) | (refine fun (_ : True) => ?_))) <;> first | exact aq | skip
              · skip
                rw [show okE 1 a b = false by simp [okE]; omega]
                refine FnOk.of_vc vE_ok mixed sp0_ok (n := 1000) (r := []) (S := { sl := [(4, .bool false)] }) (hs := [fn 6 (.bool true), no 11, no 16, no 21, no 26, no 71]) ?_
                refine Eq.mp (by kernel_rfl : (V.bool false = V.bool false ∧ (True ∧ True) ∧ FnOk Try.prog g0 11 [V.int IntKind.i64 (1 : Int)] (V.bool true) ∧ True ∧ decide (a < (-1 : Int)) = false ∧ decide (a > (4611686018427387903 : Int)) = false ∧ decide (b < (0 : Int)) = false ∧ decide (b > (4611686018427387903 : Int)) = false ∧ decide (a ≥ (0 : Int)) = false ∧ (false = false ∧ True) ∧ True) = _) ?_
                (repeat' (first | (with_reducible apply And.intro) | (refine fun (_ : True) => ?_))) <;> first | exact aq | skip
            · by_cases h5 : 0 ≤ a
              · by_cases h6 : b = 0
                · skip
                  rw [show okE 2 a b = true by simp [okE]; omega]
                  refine FnOk.of_vc vE_ok mixed sp0_ok (n := 1000) (r := []) (S := { sl := [(4, .bool true)] }) (hs := [fn 6 (.bool true), no 11, no 16, no 21, no 26, yes 71, yes 75]) ?_
                  refine Eq.mp (by kernel_rfl : (V.bool true = V.bool true ∧ (True ∧ True) ∧ FnOk Try.prog g0 11 [V.int IntKind.i64 (2 : Int)] (V.bool true) ∧ True ∧ decide (a < (-1 : Int)) = false ∧ decide (a > (4611686018427387903 : Int)) = false ∧ decide (b < (0 : Int)) = false ∧ decide (b > (4611686018427387903 : Int)) = false ∧ decide (a ≥ (0 : Int)) = true ∧ (b == (0 : Int)) = true ∧ (true = true ∧ True) ∧ True) = _) ?_
                  (repeat' (first | (with_reducible apply And.intro) | (refine fun (_ : True) => ?_))) <;> first | exact aq | skip
                · skip
                  rw [show okE 2 a b = false by simp [okE]; omega]
                  refine FnOk.of_vc vE_ok mixed sp0_ok (n := 1000) (r := []) (S := { sl := [(4, .bool false)] }) (hs := [fn 6 (.bool true), no 11, no 16, no 21, no 26, yes 71, no 75]) ?_
                  refine Eq.mp (by kernel_rfl : (V.bool false = V.bool false ∧ (True ∧ True) ∧ FnOk Try.prog g0 11 [V.int IntKind.i64 (2 : Int)] (V.bool true) ∧ True ∧ decide (a < (-1 : Int)) = false ∧ decide (a > (4611686018427387903 : Int)) = false ∧ decide (b < (0 : Int)) = false ∧ decide (b > (4611686018427387903 : Int)) = false ∧ decide (a ≥ (0 : Int)) = true ∧ (b == (0 : Int)) = false ∧ (false = false ∧ True) ∧ True) = _) ?_
                  (repeat' (first | (with_reducible apply And.intro) | (refine fun (_ : True) => ?_))) <;> first | exact aq | skip
              · skip
                rw [show okE 2 a b = false by simp [okE]; omega]
                refine FnOk.of_vc vE_ok mixed sp0_ok (n := 1000) (r := []) (S := { sl := [(4, .bool false)] }) (hs := [fn 6 (.bool true), no 11, no 16, no 21, no 26, no 71]) ?_
                refine Eq.mp (by kernel_rfl : (V.bool false = V.bool false ∧ (True ∧ True) ∧ FnOk Try.prog g0 11 [V.int IntKind.i64 (2 : Int)] (V.bool true) ∧ True ∧ decide (a < (-1 : Int)) = false ∧ decide (a > (4611686018427387903 : Int)) = false ∧ decide (b < (0 : Int)) = false ∧ decide (b > (4611686018427387903 : Int)) = false ∧ decide (a ≥ (0 : Int)) = false ∧ (false = false ∧ True) ∧ True) = _) ?_
                (repeat' (first | (with_reducible apply And.intro) | (refine fun (_ : True) => ?_))) <;> first | exact aq | skip
            · by_cases h5 : b = 0
              · skip
                rw [show okE 3 a b = true by simp [okE]; omega]
                refine FnOk.of_vc vE_ok mixed sp0_ok (n := 1000) (r := []) (S := { sl := [(4, .bool true)] }) (hs := [fn 6 (.bool true), no 11, no 16, no 21, no 26, yes 33]) ?_
                refine Eq.mp (by kernel_rfl : (V.bool true = V.bool true ∧ (True ∧ True) ∧ FnOk Try.prog g0 11 [V.int IntKind.i64 (3 : Int)] (V.bool true) ∧ True ∧ decide (a < (-1 : Int)) = false ∧ decide (a > (4611686018427387903 : Int)) = false ∧ decide (b < (0 : Int)) = false ∧ decide (b > (4611686018427387903 : Int)) = false ∧ (b == (0 : Int)) = true ∧ (true = true ∧ True) ∧ True) = _) ?_
                (repeat' (first | (with_reducible apply And.intro) | (refine fun (_ : True) => ?_))) <;> first | exact aq | skip
              · skip
                rw [show okE 3 a b = false by simp [okE]; omega]
                refine FnOk.of_vc vE_ok mixed sp0_ok (n := 1000) (r := []) (S := { sl := [(4, .bool false)] }) (hs := [fn 6 (.bool true), no 11, no 16, no 21, no 26, no 33]) ?_
                refine Eq.mp (by kernel_rfl : (V.bool false = V.bool false ∧ (True ∧ True) ∧ FnOk Try.prog g0 11 [V.int IntKind.i64 (3 : Int)] (V.bool true) ∧ True ∧ decide (a < (-1 : Int)) = false ∧ decide (a > (4611686018427387903 : Int)) = false ∧ decide (b < (0 : Int)) = false ∧ decide (b > (4611686018427387903 : Int)) = false ∧ (b == (0 : Int)) = false ∧ (false = false ∧ True) ∧ True) = _) ?_
                (repeat' (first | (with_reducible apply And.intro) | (refine fun (_ : True) => ?_))) <;> first | exact aq | skip
            · by_cases h5 : b = 0
              · by_cases h6 : a = 0
                · skip
                  rw [show okE 4 a b = true by simp [okE]; omega]
                  refine FnOk.of_vc vE_ok mixed sp0_ok (n := 1000) (r := []) (S := { sl := [(4, .bool true)] }) (hs := [fn 6 (.bool true), no 11, no 16, no 21, no 26, yes 38, yes 42]) ?_
                  refine Eq.mp (by kernel_rfl : (V.bool true = V.bool true ∧ (True ∧ True) ∧ FnOk Try.prog g0 11 [V.int IntKind.i64 (4 : Int)] (V.bool true) ∧ True ∧ decide (a < (-1 : Int)) = false ∧ decide (a > (4611686018427387903 : Int)) = false ∧ decide (b < (0 : Int)) = false ∧ decide (b > (4611686018427387903 : Int)) = false ∧ (b == (0 : Int)) = true ∧ (a == (0 : Int)) = true ∧ (true = true ∧ True) ∧ True) = _) ?_
                  (repeat' (first | (with_reducible apply And.intro) | (refine fun (_ : True) => ?_))) <;> first | exact aq | skip
                · by_cases h7 : a = 1
                  · skip
                    rw [show okE 4 a b = true by simp [okE]; omega]
                    refine FnOk.of_vc vE_ok mixed sp0_ok (n := 1000) (r := []) (S := { sl := [(4, .bool true)] }) (hs := [fn 6 (.bool true), no 11, no 16, no 21, no 26, yes 38, no 42, yes 46]) ?_
                    refine Eq.mp (by kernel_rfl : (V.bool true = V.bool true ∧ (True ∧ True) ∧ FnOk Try.prog g0 11 [V.int IntKind.i64 (4 : Int)] (V.bool true) ∧ True ∧ decide (a < (-1 : Int)) = false ∧ decide (a > (4611686018427387903 : Int)) = false ∧ decide (b < (0 : Int)) = false ∧ decide (b > (4611686018427387903 : Int)) = false ∧ (b == (0 : Int)) = true ∧ (a == (0 : Int)) = false ∧ (a == (1 : Int)) = true ∧ (true = true ∧ True) ∧ True) = _) ?_
                    (repeat' (first | (with_reducible apply And.intro) | (refine fun (_ : True) => ?_))) <;> first | exact aq | skip
                  · skip
                    rw [show okE 4 a b = false by simp [okE]; omega]
                    refine FnOk.of_vc vE_ok mixed sp0_ok (n := 1000) (r := []) (S := { sl := [(4, .bool false)] }) (hs := [fn 6 (.bool true), no 11, no 16, no 21, no 26, yes 38, no 42, no 46]) ?_
                    refine Eq.mp (by kernel_rfl : (V.bool false = V.bool false ∧ (True ∧ True) ∧ FnOk Try.prog g0 11 [V.int IntKind.i64 (4 : Int)] (V.bool true) ∧ True ∧ decide (a < (-1 : Int)) = false ∧ decide (a > (4611686018427387903 : Int)) = false ∧ decide (b < (0 : Int)) = false ∧ decide (b > (4611686018427387903 : Int)) = false ∧ (b == (0 : Int)) = true ∧ (a == (0 : Int)) = false ∧ (a == (1 : Int)) = false ∧ (false = false ∧ True) ∧ True) = _) ?_
                    (repeat' (first | (with_reducible apply And.intro) | (refine fun (_ : True) => ?_))) <;> first | exact aq | skip
              · skip
                rw [show okE 4 a b = false by simp [okE]; omega]
                refine FnOk.of_vc vE_ok mixed sp0_ok (n := 1000) (r := []) (S := { sl := [(4, .bool false)] }) (hs := [fn 6 (.bool true), no 11, no 16, no 21, no 26, no 38]) ?_
                refine Eq.mp (by kernel_rfl : (V.bool false = V.bool false ∧ (True ∧ True) ∧ FnOk Try.prog g0 11 [V.int IntKind.i64 (4 : Int)] (V.bool true) ∧ True ∧ decide (a < (-1 : Int)) = false ∧ decide (a > (4611686018427387903 : Int)) = false ∧ decide (b < (0 : Int)) = false ∧ decide (b > (4611686018427387903 : Int)) = false ∧ (b == (0 : Int)) = false ∧ (false = false ∧ True) ∧ True) = _) ?_
                (repeat' (first | (with_reducible apply And.intro) | (refine fun (_ : True) => ?_))) <;> first | exact aq | skip
            · by_cases h5 : a = 0
              · by_cases h6 : b = 0
                · skip
                  rw [show okE 5 a b = true by simp [okE]; omega]
                  refine FnOk.of_vc vE_ok mixed sp0_ok (n := 1000) (r := []) (S := { sl := [(4, .bool true)] }) (hs := [fn 6 (.bool true), no 11, no 16, no 21, no 26, yes 53, yes 57]) ?_
                  refine Eq.mp (by kernel_rfl : (V.bool true = V.bool true ∧ (True ∧ True) ∧ FnOk Try.prog g0 11 [V.int IntKind.i64 (5 : Int)] (V.bool true) ∧ True ∧ decide (a < (-1 : Int)) = false ∧ decide (a > (4611686018427387903 : Int)) = false ∧ decide (b < (0 : Int)) = false ∧ decide (b > (4611686018427387903 : Int)) = false ∧ (a == (0 : Int)) = true ∧ (b == (0 : Int)) = true ∧ (true = true ∧ True) ∧ True) = _) ?_
                  (repeat' (first | (with_reducible apply And.intro) | (refine fun (_ : True) => ?_))) <;> first | exact aq | skip
                · skip
                  rw [show okE 5 a b = false by simp [okE]; omega]
                  refine FnOk.of_vc vE_ok mixed sp0_ok (n := 1000) (r := []) (S := { sl := [(4, .bool false)] }) (hs := [fn 6 (.bool true), no 11, no 16, no 21, no 26, yes 53, no 57, no 62]) ?_
                  refine Eq.mp (by kernel_rfl : (V.bool false = V.bool false ∧ (True ∧ True) ∧ FnOk Try.prog g0 11 [V.int IntKind.i64 (5 : Int)] (V.bool true) ∧ True ∧ decide (a < (-1 : Int)) = false ∧ decide (a > (4611686018427387903 : Int)) = false ∧ decide (b < (0 : Int)) = false ∧ decide (b > (4611686018427387903 : Int)) = false ∧ (a == (0 : Int)) = true ∧ (b == (0 : Int)) = false ∧ decide (a > (0 : Int)) = false ∧ (false = false ∧ True) ∧ True) = _) ?_
                  (repeat' (first | (with_reducible apply And.intro) | (refine fun (_ : True) => ?_))) <;> first | exact aq | skip
              · by_cases h6 : 0 < a
                · by_cases h7 : 0 < b
                  · skip
                    rw [show okE 5 a b = true by simp [okE]; omega]
                    refine FnOk.of_vc vE_ok mixed sp0_ok (n := 1000) (r := []) (S := { sl := [(4, .bool true)] }) (hs := [fn 6 (.bool true), no 11, no 16, no 21, no 26, no 53, yes 62, yes 66]) ?_
                    refine Eq.mp (by kernel_rfl : (V.bool true = V.bool true ∧ (True ∧ True) ∧ FnOk Try.prog g0 11 [V.int IntKind.i64 (5 : Int)] (V.bool true) ∧ True ∧ decide (a < (-1 : Int)) = false ∧ decide (a > (4611686018427387903 : Int)) = false ∧ decide (b < (0 : Int)) = false ∧ decide (b > (4611686018427387903 : Int)) = false ∧ (a == (0 : Int)) = false ∧ decide (a > (0 : Int)) = true ∧ decide (b > (0 : Int)) = true ∧ (true = true ∧ True) ∧ True) = _) ?_
                    (repeat' (first | (with_reducible apply And.intro) | (refine fun (_ : True) => ?_))) <;> first | exact aq | skip
                  · skip
                    rw [show okE 5 a b = false by simp [okE]; omega]
                    refine FnOk.of_vc vE_ok mixed sp0_ok (n := 1000) (r := []) (S := { sl := [(4, .bool false)] }) (hs := [fn 6 (.bool true), no 11, no 16, no 21, no 26, no 53, yes 62, no 66]) ?_
                    refine Eq.mp (by kernel_rfl : (V.bool false = V.bool false ∧ (True ∧ True) ∧ FnOk Try.prog g0 11 [V.int IntKind.i64 (5 : Int)] (V.bool true) ∧ True ∧ decide (a < (-1 : Int)) = false ∧ decide (a > (4611686018427387903 : Int)) = false ∧ decide (b < (0 : Int)) = false ∧ decide (b > (4611686018427387903 : Int)) = false ∧ (a == (0 : Int)) = false ∧ decide (a > (0 : Int)) = true ∧ decide (b > (0 : Int)) = false ∧ (false = false ∧ True) ∧ True) = _) ?_
                    (repeat' (first | (with_reducible apply And.intro) | (refine fun (_ : True) => ?_))) <;> first | exact aq | skip
                · skip
                  rw [show okE 5 a b = false by simp [okE]; omega]
                  refine FnOk.of_vc vE_ok mixed sp0_ok (n := 1000) (r := []) (S := { sl := [(4, .bool false)] }) (hs := [fn 6 (.bool true), no 11, no 16, no 21, no 26, no 53, no 62]) ?_
                  refine Eq.mp (by kernel_rfl : (V.bool false = V.bool false ∧ (True ∧ True) ∧ FnOk Try.prog g0 11 [V.int IntKind.i64 (5 : Int)] (V.bool true) ∧ True ∧ decide (a < (-1 : Int)) = false ∧ decide (a > (4611686018427387903 : Int)) = false ∧ decide (b < (0 : Int)) = false ∧ decide (b > (4611686018427387903 : Int)) = false ∧ (a == (0 : Int)) = false ∧ decide (a > (0 : Int)) = false ∧ (false = false ∧ True) ∧ True) = _) ?_
                  (repeat' (first | (with_reducible apply And.intro) | (refine fun (_ : True) => ?_))) <;> first | exact aq | skip
  · rw [decide_eq_false h] at hk
    rw [okE_none h]
    refine FnOk.of_vc vE_ok mixed sp0_ok (n := 1000) (r := []) (S := { sl := [(4, .bool false)] }) (hs := [fn 6 (.bool false)]) ?_
    refine Eq.mp (by kernel_rfl : (V.bool false = V.bool false ∧ (True ∧ True) ∧ FnOk Try.prog g0 11 [V.int IntKind.i64 k] (V.bool false) ∧ True ∧ (false = false ∧ True) ∧ True) = _) ?_
    (repeat' (first | (with_reducible apply And.intro) | (refine fun (_ : True) => ?_))) <;> first | exact aq | skip
/-- zero and one -/
def zeroA (k : Int) : Int := if k = 3 then -1 else 0
def oneA (k : Int) : Int := if k = 3 then 0 else 1
def oneB (k : Int) : Int := if k = 5 then 1 else 0
theorem rzero_fn (k : Int) : FnOk Pg g0 31 [i6 k] (el (zeroA k) 0) := by
  by_cases h : k = 3
  · rw [show zeroA k = -1 by simp [zeroA, h]]
    refine FnOk.of_vc vE_ok mixed sp0_ok (n := 1000) (r := [0]) (S := { sl := [(2, .ptr 0 0)], os := [.row 23 none [i6 (-1), i6 0]] }) (hs := [yes 4]) ?_
    refine Eq.mp (by kernel_rfl : (V.agg [i6 (-1 : Int), i6 (0 : Int)] = el (-1 : Int) (0 : Int) ∧ (k == (3 : Int)) = true ∧ (0 = 0 ∧ True) ∧ ([i6 (-1 : Int), i6 (0 : Int)] = [V.int IntKind.i64 (-1 : Int), V.int IntKind.i64 (0 : Int)] ∧ True ∧ True ∧ True) ∧ True) = _) ?_
    (repeat' (first | (with_reducible apply And.intro) | (refine fun (_ : True) => ?_))) <;> first | exact aq | skip
  · rw [show zeroA k = 0 by simp [zeroA, h]]
    refine FnOk.of_vc vE_ok mixed sp0_ok (n := 1000) (r := [0]) (S := { sl := [(2, .ptr 0 0)], os := [.row 23 none [i6 0, i6 0]] }) (hs := [no 4]) ?_
    refine Eq.mp (by kernel_rfl : (V.agg [i6 (0 : Int), i6 (0 : Int)] = el (0 : Int) (0 : Int) ∧ (k == (3 : Int)) = false ∧ (0 = 0 ∧ True) ∧ ([i6 (0 : Int), i6 (0 : Int)] = [V.int IntKind.i64 (0 : Int), V.int IntKind.i64 (0 : Int)] ∧ True ∧ True ∧ True) ∧ True) = _) ?_
    (repeat' (first | (with_reducible apply And.intro) | (refine fun (_ : True) => ?_))) <;> first | exact aq | skip
theorem rone_fn (k : Int) : FnOk Pg g0 32 [i6 k] (el (oneA k) (oneB k)) := by
  by_cases h : k = 3
  · rw [show oneA k = 0 by simp [oneA, h], show oneB k = 0 by simp [oneB, h]]
    refine FnOk.of_vc vE_ok mixed sp0_ok (n := 1000) (r := [0]) (S := { sl := [(2, .ptr 0 0)], os := [.row 23 none [i6 0, i6 0]] }) (hs := [yes 5]) ?_
    refine Eq.mp (by kernel_rfl : (V.agg [i6 (0 : Int), i6 (0 : Int)] = el (0 : Int) (0 : Int) ∧ (k == (3 : Int)) = true ∧ (0 = 0 ∧ True) ∧ ([i6 (0 : Int), i6 (0 : Int)] = [V.int IntKind.i64 (0 : Int), V.int IntKind.i64 (0 : Int)] ∧ True ∧ True ∧ True) ∧ True) = _) ?_
    (repeat' (first | (with_reducible apply And.intro) | (refine fun (_ : True) => ?_))) <;> first | exact aq | skip
  · by_cases h1 : k = 5
    · rw [show oneA k = 1 by simp [oneA, h], show oneB k = 1 by simp [oneB, h1]]
      refine FnOk.of_vc vE_ok mixed sp0_ok (n := 1000) (r := [0]) (S := { sl := [(2, .ptr 0 0)], os := [.row 23 none [i6 1, i6 1]] }) (hs := [no 5, yes 8]) ?_
      refine Eq.mp (by kernel_rfl : (V.agg [i6 (1 : Int), i6 (1 : Int)] = el (1 : Int) (1 : Int) ∧ (k == (3 : Int)) = false ∧ (k == (5 : Int)) = true ∧ (0 = 0 ∧ True) ∧ ([i6 (1 : Int), i6 (1 : Int)] = [V.int IntKind.i64 (1 : Int), V.int IntKind.i64 (1 : Int)] ∧ True ∧ True ∧ True) ∧ True) = _) ?_
      (repeat' (first | (with_reducible apply And.intro) | (refine fun (_ : True) => ?_))) <;> first | exact aq | skip
    · rw [show oneA k = 1 by simp [oneA, h], show oneB k = 0 by simp [oneB, h1]]
      refine FnOk.of_vc vE_ok mixed sp0_ok (n := 1000) (r := [0]) (S := { sl := [(2, .ptr 0 0)], os := [.row 23 none [i6 1, i6 0]] }) (hs := [no 5, no 8]) ?_
      refine Eq.mp (by kernel_rfl : (V.agg [i6 (1 : Int), i6 (0 : Int)] = el (1 : Int) (0 : Int) ∧ (k == (3 : Int)) = false ∧ (k == (5 : Int)) = false ∧ (0 = 0 ∧ True) ∧ ([i6 (1 : Int), i6 (0 : Int)] = [V.int IntKind.i64 (1 : Int), V.int IntKind.i64 (0 : Int)] ∧ True ∧ True ∧ True) ∧ True) = _) ?_
      (repeat' (first | (with_reducible apply And.intro) | (refine fun (_ : True) => ?_))) <;> first | exact aq | skip
theorem rplus_fn (k a b c d p q : Int) (h1 : wideE k a b = true) (h2 : wideE k c d = true) (hk : 1 ≤ k ∧ k ≤ 5) (h : plusE k a b c d = (p, q)) : FnOk Pg g0 34 [i6 k, el a b, el c d] (el p q) := by
  rcases five_kinds hk with rfl | rfl | rfl | rfl | rfl
  · simp [wideE] at h1 h2
    simp [plusE] at h
    obtain ⟨h, rfl⟩ := h
    have hs := sum_fn a c (by omega) (by omega) (by omega) (by omega)
    rw [h] at hs
    clear h
    refine FnOk.of_vc vE_ok mixed sp0_ok (n := 1000) (r := [2]) (S := { sl := [(6, .ptr 0 0)], os := [.row 23 none [i6 p, i6 0]] }) (hs := [fn 14 (i6 p)]) ?_
    refine Eq.mp (by kernel_rfl : (V.agg [i6 p, i6 (0 : Int)] = el p (0 : Int) ∧ (True ∧ True ∧ True) ∧ FnOk Try.prog g0 53 [V.int IntKind.i64 a, V.int IntKind.i64 c] (i6 p) ∧ True ∧ (0 = 0 ∧ True) ∧ ([i6 p, i6 (0 : Int)] = [i6 p, V.int IntKind.i64 (0 : Int)] ∧ True ∧ True ∧ True) ∧ True) = _) ?_
    (repeat' (first | (with_reducible apply And.intro) | (refine fun (_ : True) => ?_))) <;> first | exact aq | skip
  · simp [wideE] at h1 h2
    simp [plusE] at h
    obtain ⟨h, rfl⟩ := h
    have h : (if c > a then c else a) = p := h
    refine FnOk.of_vc vE_ok mixed sp0_ok (n := 1000) (r := [2]) (S := { sl := [(6, .ptr 0 0)], os := [.row 23 none [i6 (if c > a then c else a), i6 0]] }) (hs := []) ?_
    refine Eq.mp (by kernel_rfl : (V.agg [i6 (if c > a then c else a), i6 (0 : Int)] = el p (0 : Int) ∧ (0 = 0 ∧ True) ∧ ([i6 (if c > a then c else a), i6 (0 : Int)] = [V.int IntKind.i64 (if c > a then c else a), V.int IntKind.i64 (0 : Int)] ∧ True ∧ True ∧ True) ∧ True) = _) ?_
    (repeat' (first | (with_reducible apply And.intro) | (refine fun (_ : True) => ?_))) <;> first | exact aq | skip
  · simp [wideE] at h1 h2
    rw [plusE_3] at h
    by_cases h3 : a < 0
    · rw [if_pos (by omega)] at h
      cases h
      refine FnOk.of_vc vE_ok mixed sp0_ok (n := 1000) (r := [2]) (S := { sl := [(6, .ptr 0 0)], os := [.row 23 none [i6 c, i6 d]] }) (hs := [yes 20]) ?_
      refine Eq.mp (by kernel_rfl : (V.agg [i6 c, i6 d] = el c d ∧ decide (a < (0 : Int)) = true ∧ (0 = 0 ∧ True) ∧ ([i6 c, i6 d] = [i6 c, i6 d] ∧ True ∧ True ∧ True) ∧ True) = _) ?_
      (repeat' (first | (with_reducible apply And.intro) | (refine fun (_ : True) => ?_))) <;> first | exact aq | skip
    · by_cases h4 : c < 0
      · rw [if_neg (by omega)] at h
        cases h
        refine FnOk.of_vc vE_ok mixed sp0_ok (n := 1000) (r := [2]) (S := { sl := [(6, .ptr 0 0)], os := [.row 23 none [i6 a, i6 b]] }) (hs := [no 20, yes 24]) ?_
        refine Eq.mp (by kernel_rfl : (V.agg [i6 a, i6 b] = el a b ∧ decide (a < (0 : Int)) = false ∧ decide (c < (0 : Int)) = true ∧ (0 = 0 ∧ True) ∧ ([i6 a, i6 b] = [i6 a, i6 b] ∧ True ∧ True ∧ True) ∧ True) = _) ?_
        (repeat' (first | (with_reducible apply And.intro) | (refine fun (_ : True) => ?_))) <;> first | exact aq | skip
      · have e : (if c < a then c else a) = p ∧ 0 = q := by
          by_cases h5 : c < a
          · rw [if_pos (by omega)] at h
            cases h
            rw [if_pos h5]; omega
          · rw [if_neg (by omega)] at h
            cases h
            rw [if_neg h5]; omega
        obtain ⟨e, rfl⟩ := e
        clear h
        refine FnOk.of_vc vE_ok mixed sp0_ok (n := 1000) (r := [2]) (S := { sl := [(6, .ptr 0 0)], os := [.row 23 none [i6 (if c < a then c else a), i6 0]] }) (hs := [no 20, no 24]) ?_
        refine Eq.mp (by kernel_rfl : (V.agg [i6 (if c < a then c else a), i6 (0 : Int)] = el p (0 : Int) ∧ decide (a < (0 : Int)) = false ∧ decide (c < (0 : Int)) = false ∧ (0 = 0 ∧ True) ∧ ([i6 (if c < a then c else a), i6 (0 : Int)] = [V.int IntKind.i64 (if c < a then c else a), V.int IntKind.i64 (0 : Int)] ∧ True ∧ True ∧ True) ∧ True) = _) ?_
        (repeat' (first | (with_reducible apply And.intro) | (refine fun (_ : True) => ?_))) <;> first | exact aq | skip
  · simp [wideE] at h1 h2
    simp [plusE] at h
    obtain ⟨h, rfl⟩ := h
    have h : (if c > a then c else a) = p := h
    refine FnOk.of_vc vE_ok mixed sp0_ok (n := 1000) (r := [2]) (S := { sl := [(6, .ptr 0 0)], os := [.row 23 none [i6 (if c > a then c else a), i6 0]] }) (hs := []) ?_
    refine Eq.mp (by kernel_rfl : (V.agg [i6 (if c > a then c else a), i6 (0 : Int)] = el p (0 : Int) ∧ (0 = 0 ∧ True) ∧ ([i6 (if c > a then c else a), i6 (0 : Int)] = [V.int IntKind.i64 (if c > a then c else a), V.int IntKind.i64 (0 : Int)] ∧ True ∧ True ∧ True) ∧ True) = _) ?_
    (repeat' (first | (with_reducible apply And.intro) | (refine fun (_ : True) => ?_))) <;> first | exact aq | skip
  · simp [wideE] at h1 h2
    rw [plusE_5] at h
    by_cases h3 : c < a
    · rw [if_pos h3] at h
      cases h
      refine FnOk.of_vc vE_ok mixed sp0_ok (n := 1000) (r := [2]) (S := { sl := [(6, .ptr 0 0)], os := [.row 23 none [i6 a, i6 b]] }) (hs := [yes 38]) ?_
      refine Eq.mp (by kernel_rfl : (V.agg [i6 a, i6 b] = el a b ∧ decide (a > c) = true ∧ (0 = 0 ∧ True) ∧ ([i6 a, i6 b] = [i6 a, i6 b] ∧ True ∧ True ∧ True) ∧ True) = _) ?_
      (repeat' (first | (with_reducible apply And.intro) | (refine fun (_ : True) => ?_))) <;> first | exact aq | skip
    · rw [if_neg h3] at h
      by_cases h4 : a < c
      · rw [if_pos h4] at h
        cases h
        refine FnOk.of_vc vE_ok mixed sp0_ok (n := 1000) (r := [2]) (S := { sl := [(6, .ptr 0 0)], os := [.row 23 none [i6 c, i6 d]] }) (hs := [no 38, yes 44]) ?_
        refine Eq.mp (by kernel_rfl : (V.agg [i6 c, i6 d] = el c d ∧ decide (a > c) = false ∧ decide (a < c) = true ∧ (0 = 0 ∧ True) ∧ ([i6 c, i6 d] = [i6 c, i6 d] ∧ True ∧ True ∧ True) ∧ True) = _) ?_
        (repeat' (first | (with_reducible apply And.intro) | (refine fun (_ : True) => ?_))) <;> first | exact aq | skip
      · rw [if_neg h4] at h
        by_cases h5 : a = 0
        · have hb : b = 0 := by omega
          have hc : c = 0 := by omega
          have hd : d = 0 := by omega
          subst h5 hb hc hd
          rw [show addI 0 0 = 0 by decide] at h
          cases h
          refine FnOk.of_vc vE_ok mixed sp0_ok (n := 1000) (r := [2]) (S := { sl := [(6, .ptr 0 0)], os := [.row 23 none [i6 0, i6 0]] }) (hs := [no 38, no 44, yes 48]) ?_
          refine Eq.mp (by kernel_rfl : (V.agg [i6 (0 : Int), i6 (0 : Int)] = el (0 : Int) (0 : Int) ∧ decide ((0 : Int) > (0 : Int)) = false ∧ decide ((0 : Int) < (0 : Int)) = false ∧ ((0 : Int) == (0 : Int)) = true ∧ (0 = 0 ∧ True) ∧ ([i6 (0 : Int), i6 (0 : Int)] = [i6 (0 : Int), i6 (0 : Int)] ∧ True ∧ True ∧ True) ∧ True) = _) ?_
          (repeat' (first | (with_reducible apply And.intro) | (refine fun (_ : True) => ?_))) <;> first | exact aq | skip
        · cases h
          have hs := sum_fn b d (by omega) (by omega) (by omega) (by omega)
          generalize addI b d = r at *
          refine FnOk.of_vc vE_ok mixed sp0_ok (n := 1000) (r := [2]) (S := { sl := [(6, .ptr 0 0)], os := [.row 23 none [i6 a, i6 r]] }) (hs := [no 38, no 44, no 48, fn 57 (i6 r)]) ?_
          refine Eq.mp (by kernel_rfl : (V.agg [i6 a, i6 r] = el a r ∧ decide (a > c) = false ∧ decide (a < c) = false ∧ (a == (0 : Int)) = false ∧ (True ∧ True ∧ True) ∧ FnOk Try.prog g0 53 [V.int IntKind.i64 b, V.int IntKind.i64 d] (i6 r) ∧ True ∧ (0 = 0 ∧ True) ∧ ([i6 a, i6 r] = [i6 a, i6 r] ∧ True ∧ True ∧ True) ∧ True) = _) ?_
          (repeat' (first | (with_reducible apply And.intro) | (refine fun (_ : True) => ?_))) <;> first | exact aq | skip
theorem rtimes_fn (k a b c d p q : Int) (h1 : wideE k a b = true) (h2 : wideE k c d = true) (hk : 1 ≤ k ∧ k ≤ 5) (h : timesE k a b c d = (p, q)) : FnOk Pg g0 35 [i6 k, el a b, el c d] (el p q) := by
  rcases five_kinds hk with rfl | rfl | rfl | rfl | rfl
  · simp [wideE] at h1 h2
    simp [timesE] at h
    obtain ⟨h, rfl⟩ := h
    have hs := product_fn a c (by omega) (by omega) (by omega) (by omega)
    rw [h] at hs
    clear h
    refine FnOk.of_vc vE_ok mixed sp0_ok (n := 1000) (r := [2]) (S := { sl := [(6, .ptr 0 0)], os := [.row 23 none [i6 p, i6 0]] }) (hs := [fn 42 (i6 p)]) ?_
    refine Eq.mp (by kernel_rfl : (V.agg [i6 p, i6 (0 : Int)] = el p (0 : Int) ∧ (True ∧ True ∧ True) ∧ FnOk Try.prog g0 54 [V.int IntKind.i64 a, V.int IntKind.i64 c] (i6 p) ∧ True ∧ (0 = 0 ∧ True) ∧ ([i6 p, i6 (0 : Int)] = [i6 p, V.int IntKind.i64 (0 : Int)] ∧ True ∧ True ∧ True) ∧ True) = _) ?_
    (repeat' (first | (with_reducible apply And.intro) | (refine fun (_ : True) => ?_))) <;> first | exact aq | skip
  · simp [wideE] at h1 h2
    simp [timesE] at h
    obtain ⟨h, rfl⟩ := h
    have hs := product_fn a c (by omega) (by omega) (by omega) (by omega)
    rw [h] at hs
    clear h
    refine FnOk.of_vc vE_ok mixed sp0_ok (n := 1000) (r := [2]) (S := { sl := [(6, .ptr 0 0)], os := [.row 23 none [i6 p, i6 0]] }) (hs := [fn 42 (i6 p)]) ?_
    refine Eq.mp (by kernel_rfl : (V.agg [i6 p, i6 (0 : Int)] = el p (0 : Int) ∧ (True ∧ True ∧ True) ∧ FnOk Try.prog g0 54 [V.int IntKind.i64 a, V.int IntKind.i64 c] (i6 p) ∧ True ∧ (0 = 0 ∧ True) ∧ ([i6 p, i6 (0 : Int)] = [i6 p, V.int IntKind.i64 (0 : Int)] ∧ True ∧ True ∧ True) ∧ True) = _) ?_
    (repeat' (first | (with_reducible apply And.intro) | (refine fun (_ : True) => ?_))) <;> first | exact aq | skip
  · simp [wideE] at h1 h2
    rw [timesE_3] at h
    by_cases h3 : a < 0
    · rw [if_pos (by omega)] at h
      cases h
      refine FnOk.of_vc vE_ok mixed sp0_ok (n := 1000) (r := [2]) (S := { sl := [(6, .ptr 0 0)], os := [.row 23 none [i6 (-1), i6 0]] }) (hs := [yes 12]) ?_
      refine Eq.mp (by kernel_rfl : (V.agg [i6 (-1 : Int), i6 (0 : Int)] = el (-1 : Int) (0 : Int) ∧ decide (a < (0 : Int)) = true ∧ (0 = 0 ∧ True) ∧ ([i6 (-1 : Int), i6 (0 : Int)] = [V.int IntKind.i64 (-1 : Int), V.int IntKind.i64 (0 : Int)] ∧ True ∧ True ∧ True) ∧ True) = _) ?_
      (repeat' (first | (with_reducible apply And.intro) | (refine fun (_ : True) => ?_))) <;> first | exact aq | skip
    · by_cases h4 : c < 0
      · rw [if_pos (by omega)] at h
        cases h
        refine FnOk.of_vc vE_ok mixed sp0_ok (n := 1000) (r := [2]) (S := { sl := [(6, .ptr 0 0)], os := [.row 23 none [i6 (-1), i6 0]] }) (hs := [no 12, yes 16]) ?_
        refine Eq.mp (by kernel_rfl : (V.agg [i6 (-1 : Int), i6 (0 : Int)] = el (-1 : Int) (0 : Int) ∧ decide (a < (0 : Int)) = false ∧ decide (c < (0 : Int)) = true ∧ (0 = 0 ∧ True) ∧ ([i6 (-1 : Int), i6 (0 : Int)] = [V.int IntKind.i64 (-1 : Int), V.int IntKind.i64 (0 : Int)] ∧ True ∧ True ∧ True) ∧ True) = _) ?_
        (repeat' (first | (with_reducible apply And.intro) | (refine fun (_ : True) => ?_))) <;> first | exact aq | skip
      · rw [if_neg (by omega)] at h
        cases h
        have hs := sum_fn a c (by omega) (by omega) (by omega) (by omega)
        generalize addI a c = r at *
        refine FnOk.of_vc vE_ok mixed sp0_ok (n := 1000) (r := [2]) (S := { sl := [(6, .ptr 0 0)], os := [.row 23 none [i6 r, i6 0]] }) (hs := [no 12, no 16, fn 23 (i6 r)]) ?_
        refine Eq.mp (by kernel_rfl : (V.agg [i6 r, i6 (0 : Int)] = el r (0 : Int) ∧ decide (a < (0 : Int)) = false ∧ decide (c < (0 : Int)) = false ∧ (True ∧ True ∧ True) ∧ FnOk Try.prog g0 53 [V.int IntKind.i64 a, V.int IntKind.i64 c] (i6 r) ∧ True ∧ (0 = 0 ∧ True) ∧ ([i6 r, i6 (0 : Int)] = [i6 r, V.int IntKind.i64 (0 : Int)] ∧ True ∧ True ∧ True) ∧ True) = _) ?_
        (repeat' (first | (with_reducible apply And.intro) | (refine fun (_ : True) => ?_))) <;> first | exact aq | skip
  · simp [wideE] at h1 h2
    simp [timesE] at h
    obtain ⟨h, rfl⟩ := h
    have hs := product_fn a c (by omega) (by omega) (by omega) (by omega)
    rw [h] at hs
    clear h
    refine FnOk.of_vc vE_ok mixed sp0_ok (n := 1000) (r := [2]) (S := { sl := [(6, .ptr 0 0)], os := [.row 23 none [i6 p, i6 0]] }) (hs := [fn 42 (i6 p)]) ?_
    refine Eq.mp (by kernel_rfl : (V.agg [i6 p, i6 (0 : Int)] = el p (0 : Int) ∧ (True ∧ True ∧ True) ∧ FnOk Try.prog g0 54 [V.int IntKind.i64 a, V.int IntKind.i64 c] (i6 p) ∧ True ∧ (0 = 0 ∧ True) ∧ ([i6 p, i6 (0 : Int)] = [i6 p, V.int IntKind.i64 (0 : Int)] ∧ True ∧ True ∧ True) ∧ True) = _) ?_
    (repeat' (first | (with_reducible apply And.intro) | (refine fun (_ : True) => ?_))) <;> first | exact aq | skip
  · simp [wideE] at h1 h2
    simp [timesE] at h
    obtain ⟨h, h0⟩ := h
    have e : a = b → c = d → p = q := by rintro rfl rfl; rw [← h, ← h0]
    have g1 := product_fn a c (by omega) (by omega) (by omega) (by omega)
    have g2 := product_fn b d (by omega) (by omega) (by omega) (by omega)
    rw [h] at g1
    rw [h0] at g2
    clear h h0
    refine FnOk.of_vc vE_ok mixed sp0_ok (n := 1000) (r := [2]) (S := { sl := [(6, .ptr 0 0)], os := [.row 23 none [i6 p, i6 q]] }) (hs := [fn 31 (i6 p), fn 36 (i6 q)]) ?_
    refine Eq.mp (by kernel_rfl : (V.agg [i6 p, i6 q] = el p q ∧ (True ∧ True ∧ True) ∧ FnOk Try.prog g0 54 [V.int IntKind.i64 a, V.int IntKind.i64 c] (i6 p) ∧ True ∧ (True ∧ True ∧ True) ∧ FnOk Try.prog g0 54 [V.int IntKind.i64 b, V.int IntKind.i64 d] (i6 q) ∧ ((V.fn 54 [] = V.fn 54 [] → [i6 a, i6 c] = [i6 b, i6 d] → pt (pt (pt T.e 0 (O.row 23 none [i6 a, i6 b])) (0 + 1) (O.row 23 none [i6 c, i6 d])) (0 + 1 + 1) (O.row 23 none [V.int IntKind.i64 (0 : Int), V.int IntKind.i64 (0 : Int)]) = pt (pt (pt T.e 0 (O.row 23 none [i6 a, i6 b])) (0 + 1) (O.row 23 none [i6 c, i6 d])) (0 + 1 + 1) (O.row 23 none [V.int IntKind.i64 (0 : Int), V.int IntKind.i64 (0 : Int)]) → 0 + 1 + 1 + 1 = 0 + 1 + 1 + 1 → CR.mk (i6 p) (pt (pt (pt T.e 0 (O.row 23 none [i6 a, i6 b])) (0 + 1) (O.row 23 none [i6 c, i6 d])) (0 + 1 + 1) (O.row 23 none [V.int IntKind.i64 (0 : Int), V.int IntKind.i64 (0 : Int)])) (0 + 1 + 1 + 1) [] = CR.mk (i6 q) (pt (pt (pt T.e 0 (O.row 23 none [i6 a, i6 b])) (0 + 1) (O.row 23 none [i6 c, i6 d])) (0 + 1 + 1) (O.row 23 none [V.int IntKind.i64 (0 : Int), V.int IntKind.i64 (0 : Int)])) (0 + 1 + 1 + 1) []) ∧ True) ∧ (0 = 0 ∧ True) ∧ ([i6 p, i6 q] = [i6 p, i6 q] ∧ True ∧ True ∧ True) ∧ True) = _) ?_
    (repeat' (first | (with_reducible apply And.intro) | (refine fun (_ : True) => ?_))) <;> first | exact aq | skip
    all_goals (intro _ he _ _; simp only [List.cons.injEq, V.int.injEq, true_and, and_true] at he; rw [e he.1 he.2])
theorem fits_fn (a b : Int) : FnOk Pg g0 49 [el a b] (.bool (decide (a ≤ 4611686018427387903 ∧ b ≤ 4611686018427387903))) := by
  by_cases h1 : a ≤ 4611686018427387903
  · by_cases h2 : b ≤ 4611686018427387903
    · rw [decide_eq_true (show a ≤ 4611686018427387903 ∧ b ≤ 4611686018427387903 by omega)]
      refine FnOk.of_vc vE_ok mixed sp0_ok (n := 1000) (r := []) (S := { sl := [(2, .bool true)] }) (hs := [yes 5, yes 9]) ?_
      refine Eq.mp (by kernel_rfl : (V.bool true = V.bool true ∧ decide (a ≤ (4611686018427387903 : Int)) = true ∧ decide (b ≤ (4611686018427387903 : Int)) = true ∧ (true = true ∧ True) ∧ True) = _) ?_
      (repeat' (first | (with_reducible apply And.intro) | (refine fun (_ : True) => ?_))) <;> first | exact aq | skip
    · rw [decide_eq_false (show ¬ (a ≤ 4611686018427387903 ∧ b ≤ 4611686018427387903) by omega)]
      refine FnOk.of_vc vE_ok mixed sp0_ok (n := 1000) (r := []) (S := { sl := [(2, .bool false)] }) (hs := [yes 5, no 9]) ?_
      refine Eq.mp (by kernel_rfl : (V.bool false = V.bool false ∧ decide (a ≤ (4611686018427387903 : Int)) = true ∧ decide (b ≤ (4611686018427387903 : Int)) = false ∧ (false = false ∧ True) ∧ True) = _) ?_
      (repeat' (first | (with_reducible apply And.intro) | (refine fun (_ : True) => ?_))) <;> first | exact aq | skip
  · rw [decide_eq_false (show ¬ (a ≤ 4611686018427387903 ∧ b ≤ 4611686018427387903) by omega)]
    refine FnOk.of_vc vE_ok mixed sp0_ok (n := 1000) (r := []) (S := { sl := [(2, .bool false)] }) (hs := [no 5]) ?_
    refine Eq.mp (by kernel_rfl : (V.bool false = V.bool false ∧ decide (a ≤ (4611686018427387903 : Int)) = false ∧ (false = false ∧ True) ∧ True) = _) ?_
    (repeat' (first | (with_reducible apply And.intro) | (refine fun (_ : True) => ?_))) <;> first | exact aq | skip
end Go.Proofs.Ytgdnmgcigkhojaa.Am
