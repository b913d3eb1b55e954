/- Chapter 04: choose, Check, Zero, One, Plus, Times, told. -/
import Derived.Test.YtgdnmgcigkhojaaS2
import Derived.Test.YtgdnmgcigkhojaaS3
namespace Go.Proofs.Ytgdnmgcigkhojaa.Am
open Go.RowKit
set_option linter.unusedVariables false
set_option maxHeartbeats 1000000
set_option maxRecDepth 100000

abbrev opV (z o u : Int) (fv fp ft : Nat) : V := .agg [i6 z, i6 0, i6 o, i6 u, .fn fv [], .fn fp [], .fn ft []]
abbrev nopV : V := .agg [i6 0, i6 0, i6 0, i6 0, .nilf, .nilf, .nilf]
/-- an operation does what its kind asks -/
structure OpOk (k : Int) (fv fp ft : Nat) : Prop where
  c : FnOk Pg g0 37 [i6 k] (.tup [opV (zeroA k) (oneA k) (oneB k) fv fp ft, i6 0])
  v : ∀ a b, FnOk Pg g0 fv [el a b] (.bool (okE k a b))
  p : ∀ a b c d p q, wideE k a b = true → wideE k c d = true → plusE k a b c d = (p, q) → FnOk Pg g0 fp [el a b, el c d] (el p q)
  t : ∀ a b c d p q, wideE k a b = true → wideE k c d = true → timesE k a b c d = (p, q) → FnOk Pg g0 ft [el a b, el c d] (el p q)
theorem choose_ok (k : Int) (h : 1 ≤ k ∧ k ≤ 5) : ∃ fv fp ft, OpOk k fv fp ft := by
  rcases five_kinds h with rfl | rfl | rfl | rfl | rfl
  · refine ⟨56, 57, 59, FnOk.of_run vE_ok mixed (n := 1000) rfl (by kernel_rfl), fun a b => single_fn a b, fun a b c d p q h1 h2 h3 => ?_, fun a b c d p q h1 h2 h3 => ?_⟩
    · simp [wideE] at h1 h2
      simp [plusE] at h3
      obtain ⟨rfl, rfl⟩ := h3
      exact plus1_fn a b c d (by omega) (by omega) (by omega) (by omega)
    · simp [wideE] at h1 h2
      simp [timesE] at h3
      obtain ⟨rfl, rfl⟩ := h3
      exact mult_fn a b c d (by omega) (by omega) (by omega) (by omega)
  · refine ⟨56, 60, 59, FnOk.of_run vE_ok mixed (n := 1000) rfl (by kernel_rfl), fun a b => single_fn a b, fun a b c d p q h1 h2 h3 => ?_, fun a b c d p q h1 h2 h3 => ?_⟩
    · simp [plusE] at h3
      obtain ⟨rfl, rfl⟩ := h3
      exact max_fn a b c d
    · simp [wideE] at h1 h2
      simp [timesE] at h3
      obtain ⟨rfl, rfl⟩ := h3
      exact mult_fn a b c d (by omega) (by omega) (by omega) (by omega)
  · refine ⟨61, 62, 63, FnOk.of_run vE_ok mixed (n := 1000) rfl (by kernel_rfl), fun a b => cost_fn a b, fun a b c d p q h1 h2 h3 => ?_, fun a b c d p q h1 h2 h3 => ?_⟩
    · rw [plusE_3] at h3
      exact lesser_fn a b c d p q h3
    · simp [wideE] at h1 h2
      rw [timesE_3] at h3
      exact costs_fn a b c d (by omega) (by omega) p q h3
  · refine ⟨55, 64, 65, FnOk.of_run vE_ok mixed (n := 1000) rfl (by kernel_rfl), fun a b => bit_fn a b, fun a b c d p q h1 h2 h3 => ?_, fun a b c d p q h1 h2 h3 => ?_⟩
    · simp [wideE] at h1 h2
      simp [plusE] at h3
      obtain ⟨rfl, rfl⟩ := h3
      exact or_fn a b c d h1.1 h2.1
    · simp [wideE] at h1 h2
      simp [timesE] at h3
      obtain ⟨rfl, rfl⟩ := h3
      exact and_fn a b c d h1.1 h2.1
  · refine ⟨66, 67, 68, FnOk.of_run vE_ok mixed (n := 1000) rfl (by kernel_rfl), fun a b => pair_fn a b, fun a b c d p q h1 h2 h3 => ?_, fun a b c d p q h1 h2 h3 => ?_⟩
    · simp [wideE] at h1 h2
      rw [plusE_5] at h3
      exact most_fn a b c d (by omega) (by omega) (by omega) (by omega) p q h3
    · simp [wideE] at h1 h2
      rw [timesE_5] at h3
      cases h3
      exact pairs_fn a b c d (by omega) (by omega) (by omega) (by omega) (by omega) (by omega) (by omega) (by omega)
theorem choose_none (k : Int) (h : ¬ (1 ≤ k ∧ k ≤ 5)) : FnOk Pg g0 37 [i6 k] (.tup [nopV, i6 40]) := by
  by_cases h1 : k < 1
  · skip
    refine FnOk.of_vc vE_ok mixed sp0_ok (n := 1000) (r := [0]) (S := { sl := [(2, .ptr 0 0), (3, i6 40)], os := [.row 79 none [i6 0, i6 0, i6 0, i6 0, .nilf, .nilf, .nilf]] }) (hs := [yes 6]) ?_
    refine Eq.mp (by kernel_rfl : (V.tup [V.agg [i6 (0 : Int), i6 (0 : Int), i6 (0 : Int), i6 (0 : Int), V.nilf, V.nilf, V.nilf], i6 (40 : Int)] = V.tup [nopV, i6 (40 : Int)] ∧ decide (k < (1 : Int)) = true ∧ (0 = 0 ∧ (40 : Int) = (40 : Int) ∧ True) ∧ ([i6 (0 : Int), i6 (0 : Int), i6 (0 : Int), i6 (0 : Int), V.nilf, V.nilf, V.nilf] = [V.int IntKind.i64 (0 : Int), V.int IntKind.i64 (0 : Int), V.int IntKind.i64 (0 : Int), V.int IntKind.i64 (0 : Int), V.nilf, V.nilf, V.nilf] ∧ True ∧ True ∧ True ∧ True ∧ True ∧ True ∧ True ∧ True) ∧ True) = _) ?_
    (repeat' (first | (with_reducible apply And.intro) | (refine fun (_ : True) => ?_))) <;> first | exact aq | skip
  · skip
    refine FnOk.of_vc vE_ok mixed sp0_ok (n := 1000) (r := [0]) (S := { sl := [(2, .ptr 0 0), (3, i6 40)], os := [.row 79 none [i6 0, i6 0, i6 0, i6 0, .nilf, .nilf, .nilf]] }) (hs := [no 6, yes 9]) ?_
    refine Eq.mp (by kernel_rfl : (V.tup [V.agg [i6 (0 : Int), i6 (0 : Int), i6 (0 : Int), i6 (0 : Int), V.nilf, V.nilf, V.nilf], i6 (40 : Int)] = V.tup [nopV, i6 (40 : Int)] ∧ decide (k < (1 : Int)) = false ∧ decide (k > (5 : Int)) = true ∧ (0 = 0 ∧ (40 : Int) = (40 : Int) ∧ True) ∧ ([i6 (0 : Int), i6 (0 : Int), i6 (0 : Int), i6 (0 : Int), V.nilf, V.nilf, V.nilf] = [V.int IntKind.i64 (0 : Int), V.int IntKind.i64 (0 : Int), V.int IntKind.i64 (0 : Int), V.int IntKind.i64 (0 : Int), V.nilf, V.nilf, V.nilf] ∧ True ∧ True ∧ True ∧ True ∧ True ∧ True ∧ True ∧ True) ∧ True) = _) ?_
    (repeat' (first | (with_reducible apply And.intro) | (refine fun (_ : True) => ?_))) <;> first | exact aq | skip
/-- a result that fits, or ErrBig -/
def setV (p q : Int) : V := if p ≤ 4611686018427387903 ∧ q ≤ 4611686018427387903 then .tup [el p q, i6 0] else .tup [el 0 0, i6 6]
theorem setV_cases (p q : Int) : (p ≤ 4611686018427387903 ∧ q ≤ 4611686018427387903 ∧ setV p q = .tup [el p q, i6 0]) ∨ (¬ (p ≤ 4611686018427387903 ∧ q ≤ 4611686018427387903) ∧ setV p q = .tup [el 0 0, i6 6]) := by
  by_cases h : p ≤ 4611686018427387903 ∧ q ≤ 4611686018427387903
  · exact .inl ⟨h.1, h.2, if_pos h⟩
  · exact .inr ⟨h, if_neg h⟩
theorem settle_fn (a b : Int) : FnOk Pg g0 45 [el a b] (setV a b) := by
  by_cases h1 : a ≤ 4611686018427387903
  · by_cases h2 : b ≤ 4611686018427387903
    · rw [show setV a b = .tup [el a b, i6 0] from if_pos ⟨h1, h2⟩]
      refine FnOk.of_vc vE_ok mixed sp0_ok (n := 1000) (r := [1]) (S := { sl := [(2, .ptr 0 0), (3, i6 0)], os := [.row 23 none [i6 a, i6 b]] }) (hs := [no 6, no 10]) ?_
      refine Eq.mp (by kernel_rfl : (V.tup [V.agg [i6 a, i6 b], i6 (0 : Int)] = V.tup [el a b, i6 (0 : Int)] ∧ decide (a > (4611686018427387903 : Int)) = false ∧ decide (b > (4611686018427387903 : Int)) = false ∧ (0 = 0 ∧ (0 : Int) = (0 : Int) ∧ True) ∧ ([i6 a, i6 b] = [i6 a, i6 b] ∧ True ∧ True ∧ True) ∧ True) = _) ?_
      (repeat' (first | (with_reducible apply And.intro) | (refine fun (_ : True) => ?_))) <;> first | exact aq | skip
    · rw [show setV a b = .tup [el 0 0, i6 6] from if_neg (by omega)]
      refine FnOk.of_vc vE_ok mixed sp0_ok (n := 1000) (r := [1]) (S := { sl := [(2, .ptr 0 0), (3, i6 6)], os := [.row 23 none [i6 0, i6 0]] }) (hs := [no 6, yes 10]) ?_
      refine Eq.mp (by kernel_rfl : (V.tup [V.agg [i6 (0 : Int), i6 (0 : Int)], i6 (6 : Int)] = V.tup [el (0 : Int) (0 : Int), i6 (6 : Int)] ∧ decide (a > (4611686018427387903 : Int)) = false ∧ decide (b > (4611686018427387903 : Int)) = true ∧ (0 = 0 ∧ (6 : Int) = (6 : Int) ∧ True) ∧ ([i6 (0 : Int), i6 (0 : Int)] = [V.int IntKind.i64 (0 : Int), V.int IntKind.i64 (0 : Int)] ∧ True ∧ True ∧ True) ∧ True) = _) ?_
      (repeat' (first | (with_reducible apply And.intro) | (refine fun (_ : True) => ?_))) <;> first | exact aq | skip
  · rw [show setV a b = .tup [el 0 0, i6 6] from if_neg (by omega)]
    refine FnOk.of_vc vE_ok mixed sp0_ok (n := 1000) (r := [1]) (S := { sl := [(2, .ptr 0 0), (3, i6 6)], os := [.row 23 none [i6 0, i6 0]] }) (hs := [yes 6]) ?_
    refine Eq.mp (by kernel_rfl : (V.tup [V.agg [i6 (0 : Int), i6 (0 : Int)], i6 (6 : Int)] = V.tup [el (0 : Int) (0 : Int), i6 (6 : Int)] ∧ decide (a > (4611686018427387903 : Int)) = true ∧ (0 = 0 ∧ (6 : Int) = (6 : Int) ∧ True) ∧ ([i6 (0 : Int), i6 (0 : Int)] = [V.int IntKind.i64 (0 : Int), V.int IntKind.i64 (0 : Int)] ∧ True ∧ True ∧ True) ∧ True) = _) ?_
    (repeat' (first | (with_reducible apply And.intro) | (refine fun (_ : True) => ?_))) <;> first | exact aq | skip
theorem check_fn (k a b : Int) : FnOk Pg g0 20 [i6 k, el a b] (i6 (if okE k a b = true then 0 else 40)) := by
  by_cases h : 1 ≤ k ∧ k ≤ 5
  · obtain ⟨fv, fp, ft, ho⟩ := choose_ok k h
    have hc := ho.c
    have hv := ho.v a b
    clear ho
    generalize zeroA k = z at *
    generalize oneA k = o at *
    generalize oneB k = u at *
    cases hb : okE k a b with
    | true =>
      rw [hb] at hv
      rw [if_pos rfl]
      refine FnOk.of_vc vE_ok mixed sp0_ok (n := 1000) (r := []) (S := { sl := [(4, i6 0)] }) (hs := [fn 9 (.tup [opV z o u fv fp ft, i6 0]), fn 18 (.bool true)]) ?_
      refine Eq.mp (by kernel_rfl : (i6 (0 : Int) = i6 (0 : Int) ∧ (True ∧ True) ∧ FnOk Try.prog g0 37 [V.int IntKind.i64 k] (V.tup [opV z o u fv fp ft, i6 (0 : Int)]) ∧ True ∧ ((True ∧ True ∧ True) ∧ True) ∧ FnOk Try.prog g0 fv [V.agg [V.int IntKind.i64 a, V.int IntKind.i64 b]] (V.bool true) ∧ True ∧ ((0 : Int) = (0 : Int) ∧ True) ∧ True) = _) ?_
      (repeat' (first | (with_reducible apply And.intro) | (refine fun (_ : True) => ?_))) <;> first | exact aq | skip
    | false =>
      rw [hb] at hv
      rw [if_neg (by decide)]
      refine FnOk.of_vc vE_ok mixed sp0_ok (n := 1000) (r := []) (S := { sl := [(4, i6 40)] }) (hs := [fn 9 (.tup [opV z o u fv fp ft, i6 0]), fn 18 (.bool false)]) ?_
      refine Eq.mp (by kernel_rfl : (i6 (40 : Int) = i6 (40 : Int) ∧ (True ∧ True) ∧ FnOk Try.prog g0 37 [V.int IntKind.i64 k] (V.tup [opV z o u fv fp ft, i6 (0 : Int)]) ∧ True ∧ ((True ∧ True ∧ True) ∧ True) ∧ FnOk Try.prog g0 fv [V.agg [V.int IntKind.i64 a, V.int IntKind.i64 b]] (V.bool false) ∧ True ∧ ((40 : Int) = (40 : Int) ∧ True) ∧ True) = _) ?_
      (repeat' (first | (with_reducible apply And.intro) | (refine fun (_ : True) => ?_))) <;> first | exact aq | skip
  · have hc := choose_none k h
    rw [okE_none h, if_neg (by decide)]
    refine FnOk.of_vc vE_ok mixed sp0_ok (n := 1000) (r := []) (S := { sl := [(4, i6 40)] }) (hs := [fn 9 (.tup [nopV, i6 40])]) ?_
    refine Eq.mp (by kernel_rfl : (i6 (40 : Int) = i6 (40 : Int) ∧ (True ∧ True) ∧ FnOk Try.prog g0 37 [V.int IntKind.i64 k] (V.tup [nopV, i6 (40 : Int)]) ∧ True ∧ ((40 : Int) = (40 : Int) ∧ True) ∧ True) = _) ?_
    (repeat' (first | (with_reducible apply And.intro) | (refine fun (_ : True) => ?_))) <;> first | exact aq | skip
theorem zero_in (k : Int) (h : 1 ≤ k ∧ k ≤ 5) : FnOk Pg g0 21 [i6 k] (.tup [el (zeroA k) 0, i6 0]) := by
  obtain ⟨fv, fp, ft, ho⟩ := choose_ok k h
  have hc := ho.c
  clear ho
  generalize zeroA k = z at *
  generalize oneA k = o at *
  generalize oneB k = u at *
  refine FnOk.of_vc vE_ok mixed sp0_ok (n := 1000) (r := [0]) (S := { sl := [(2, .ptr 0 0), (3, i6 0)], os := [.row 23 none [i6 z, i6 0]] }) (hs := [fn 8 (.tup [opV z o u fv fp ft, i6 0])]) ?_
  refine Eq.mp (by kernel_rfl : (V.tup [V.agg [i6 z, i6 (0 : Int)], i6 (0 : Int)] = V.tup [el z (0 : Int), i6 (0 : Int)] ∧ (True ∧ True) ∧ FnOk Try.prog g0 37 [V.int IntKind.i64 k] (V.tup [opV z o u fv fp ft, i6 (0 : Int)]) ∧ True ∧ (0 = 0 ∧ (0 : Int) = (0 : Int) ∧ True) ∧ ([i6 z, i6 (0 : Int)] = [i6 z, i6 (0 : Int)] ∧ True ∧ True ∧ True) ∧ True) = _) ?_
  (repeat' (first | (with_reducible apply And.intro) | (refine fun (_ : True) => ?_))) <;> first | exact aq | skip
theorem zero_none (k : Int) (h : ¬ (1 ≤ k ∧ k ≤ 5)) : FnOk Pg g0 21 [i6 k] (.tup [el 0 0, i6 40]) := by
  have hc := choose_none k h
  refine FnOk.of_vc vE_ok mixed sp0_ok (n := 1000) (r := [0]) (S := { sl := [(2, .ptr 0 0), (3, i6 40)], os := [.row 23 none [i6 0, i6 0]] }) (hs := [fn 8 (.tup [nopV, i6 40])]) ?_
  refine Eq.mp (by kernel_rfl : (V.tup [V.agg [i6 (0 : Int), i6 (0 : Int)], i6 (40 : Int)] = V.tup [el (0 : Int) (0 : Int), i6 (40 : Int)] ∧ (True ∧ True) ∧ FnOk Try.prog g0 37 [V.int IntKind.i64 k] (V.tup [nopV, i6 (40 : Int)]) ∧ True ∧ (0 = 0 ∧ (40 : Int) = (40 : Int) ∧ True) ∧ ([i6 (0 : Int), i6 (0 : Int)] = [i6 (0 : Int), i6 (0 : Int)] ∧ True ∧ True ∧ True) ∧ True) = _) ?_
  (repeat' (first | (with_reducible apply And.intro) | (refine fun (_ : True) => ?_))) <;> first | exact aq | skip
theorem one_in (k : Int) (h : 1 ≤ k ∧ k ≤ 5) : FnOk Pg g0 22 [i6 k] (.tup [el (oneA k) (oneB k), i6 0]) := by
  obtain ⟨fv, fp, ft, ho⟩ := choose_ok k h
  have hc := ho.c
  clear ho
  generalize zeroA k = z at *
  generalize oneA k = o at *
  generalize oneB k = u at *
  refine FnOk.of_vc vE_ok mixed sp0_ok (n := 1000) (r := [0]) (S := { sl := [(2, .ptr 0 0), (3, i6 0)], os := [.row 23 none [i6 o, i6 u]] }) (hs := [fn 8 (.tup [opV z o u fv fp ft, i6 0])]) ?_
  refine Eq.mp (by kernel_rfl : (V.tup [V.agg [i6 o, i6 u], i6 (0 : Int)] = V.tup [el o u, i6 (0 : Int)] ∧ (True ∧ True) ∧ FnOk Try.prog g0 37 [V.int IntKind.i64 k] (V.tup [opV z o u fv fp ft, i6 (0 : Int)]) ∧ True ∧ (0 = 0 ∧ (0 : Int) = (0 : Int) ∧ True) ∧ ([i6 o, i6 u] = [i6 o, i6 u] ∧ True ∧ True ∧ True) ∧ True) = _) ?_
  (repeat' (first | (with_reducible apply And.intro) | (refine fun (_ : True) => ?_))) <;> first | exact aq | skip
theorem one_none (k : Int) (h : ¬ (1 ≤ k ∧ k ≤ 5)) : FnOk Pg g0 22 [i6 k] (.tup [el 0 0, i6 40]) := by
  have hc := choose_none k h
  refine FnOk.of_vc vE_ok mixed sp0_ok (n := 1000) (r := [0]) (S := { sl := [(2, .ptr 0 0), (3, i6 40)], os := [.row 23 none [i6 0, i6 0]] }) (hs := [fn 8 (.tup [nopV, i6 40])]) ?_
  refine Eq.mp (by kernel_rfl : (V.tup [V.agg [i6 (0 : Int), i6 (0 : Int)], i6 (40 : Int)] = V.tup [el (0 : Int) (0 : Int), i6 (40 : Int)] ∧ (True ∧ True) ∧ FnOk Try.prog g0 37 [V.int IntKind.i64 k] (V.tup [nopV, i6 (40 : Int)]) ∧ True ∧ (0 = 0 ∧ (40 : Int) = (40 : Int) ∧ True) ∧ ([i6 (0 : Int), i6 (0 : Int)] = [i6 (0 : Int), i6 (0 : Int)] ∧ True ∧ True ∧ True) ∧ True) = _) ?_
  (repeat' (first | (with_reducible apply And.intro) | (refine fun (_ : True) => ?_))) <;> first | exact aq | skip
theorem plus_in (k a b c d p q : Int) (h1 : okE k a b = true) (h2 : okE k c d = true) (hk : 1 ≤ k ∧ k ≤ 5) (h : plusE k a b c d = (p, q)) : FnOk Pg g0 23 [i6 k, el a b, el c d] (setV p q) := by
  obtain ⟨fv, fp, ft, ho⟩ := choose_ok k hk
  have hc := ho.c
  have hv := ho.v a b
  have hw := ho.v c d
  rw [h1] at hv
  rw [h2] at hw
  have hp := ho.p a b c d p q (wideE_of h1) (wideE_of h2) h
  have hs := settle_fn p q
  clear ho h
  generalize zeroA k = z at *
  generalize oneA k = o at *
  generalize oneB k = u at *
  rcases setV_cases p q with ⟨g1, g2, e⟩ | ⟨g, e⟩
  · rw [e] at hs ⊢
    refine FnOk.of_vc vE_ok mixed sp0_ok (n := 1000) (r := [2]) (S := { sl := [(6, .ptr 0 0), (7, i6 0)], os := [.row 23 none [i6 p, i6 q]] }) (hs := [fn 12 (.tup [opV z o u fv fp ft, i6 0]), fn 22 (.bool true), fn 28 (.bool true), fn 36 (el p q), fn 37 (.tup [el p q, i6 0])]) ?_
    refine Eq.mp (by kernel_rfl : (V.tup [V.agg [i6 p, i6 q], i6 (0 : Int)] = V.tup [el p q, i6 (0 : Int)] ∧ (True ∧ True) ∧ FnOk Try.prog g0 37 [V.int IntKind.i64 k] (V.tup [opV z o u fv fp ft, i6 (0 : Int)]) ∧ True ∧ ((True ∧ True ∧ True) ∧ True) ∧ FnOk Try.prog g0 fv [V.agg [V.int IntKind.i64 a, V.int IntKind.i64 b]] (V.bool true) ∧ True ∧ ((True ∧ True ∧ True) ∧ True) ∧ FnOk Try.prog g0 fv [V.agg [V.int IntKind.i64 c, V.int IntKind.i64 d]] (V.bool true) ∧ ((V.fn fv [] = V.fn fv [] → [V.agg [i6 a, i6 b]] = [V.agg [i6 c, i6 d]] → pt (pt (pt (pt (pt T.e 0 (O.row 23 none [i6 a, i6 b])) (0 + 1) (O.row 23 none [i6 c, i6 d])) (0 + 1 + 1) (O.row 23 none [V.int IntKind.i64 (0 : Int), V.int IntKind.i64 (0 : Int)])) (0 + 1 + 1 + 1) (O.row 79 none [V.int IntKind.i64 (0 : Int), V.int IntKind.i64 (0 : Int), V.int IntKind.i64 (0 : Int), V.int IntKind.i64 (0 : Int), V.nilf, V.nilf, V.nilf])) (0 + 1 + 1 + 1) (O.row 79 none [i6 z, i6 (0 : Int), i6 o, i6 u, V.fn fv [], V.fn fp [], V.fn ft []]) = pt (pt (pt (pt (pt T.e 0 (O.row 23 none [i6 a, i6 b])) (0 + 1) (O.row 23 none [i6 c, i6 d])) (0 + 1 + 1) (O.row 23 none [V.int IntKind.i64 (0 : Int), V.int IntKind.i64 (0 : Int)])) (0 + 1 + 1 + 1) (O.row 79 none [V.int IntKind.i64 (0 : Int), V.int IntKind.i64 (0 : Int), V.int IntKind.i64 (0 : Int), V.int IntKind.i64 (0 : Int), V.nilf, V.nilf, V.nilf])) (0 + 1 + 1 + 1) (O.row 79 none [i6 z, i6 (0 : Int), i6 o, i6 u, V.fn fv [], V.fn fp [], V.fn ft []]) → 0 + 1 + 1 + 1 + 1 = 0 + 1 + 1 + 1 + 1 → CR.mk (V.bool true) (pt (pt (pt (pt (pt T.e 0 (O.row 23 none [i6 a, i6 b])) (0 + 1) (O.row 23 none [i6 c, i6 d])) (0 + 1 + 1) (O.row 23 none [V.int IntKind.i64 (0 : Int), V.int IntKind.i64 (0 : Int)])) (0 + 1 + 1 + 1) (O.row 79 none [V.int IntKind.i64 (0 : Int), V.int IntKind.i64 (0 : Int), V.int IntKind.i64 (0 : Int), V.int IntKind.i64 (0 : Int), V.nilf, V.nilf, V.nilf])) (0 + 1 + 1 + 1) (O.row 79 none [i6 z, i6 (0 : Int), i6 o, i6 u, V.fn fv [], V.fn fp [], V.fn ft []])) (0 + 1 + 1 + 1 + 1) [] = CR.mk (V.bool true) (pt (pt (pt (pt (pt T.e 0 (O.row 23 none [i6 a, i6 b])) (0 + 1) (O.row 23 none [i6 c, i6 d])) (0 + 1 + 1) (O.row 23 none [V.int IntKind.i64 (0 : Int), V.int IntKind.i64 (0 : Int)])) (0 + 1 + 1 + 1) (O.row 79 none [V.int IntKind.i64 (0 : Int), V.int IntKind.i64 (0 : Int), V.int IntKind.i64 (0 : Int), V.int IntKind.i64 (0 : Int), V.nilf, V.nilf, V.nilf])) (0 + 1 + 1 + 1) (O.row 79 none [i6 z, i6 (0 : Int), i6 o, i6 u, V.fn fv [], V.fn fp [], V.fn ft []])) (0 + 1 + 1 + 1 + 1) []) ∧ True) ∧ ((True ∧ True ∧ True) ∧ (True ∧ True ∧ True) ∧ True) ∧ FnOk Try.prog g0 fp [V.agg [V.int IntKind.i64 a, V.int IntKind.i64 b], V.agg [V.int IntKind.i64 c, V.int IntKind.i64 d]] (el p q) ∧ True ∧ ((True ∧ True ∧ True) ∧ True) ∧ FnOk Try.prog g0 45 [V.agg [V.int IntKind.i64 p, V.int IntKind.i64 q]] (V.tup [el p q, i6 (0 : Int)]) ∧ ((V.fn fp [] = V.fn 45 [] → [V.agg [i6 a, i6 b], V.agg [i6 c, i6 d]] = [el p q] → pt (pt (pt (pt (pt T.e 0 (O.row 23 none [i6 a, i6 b])) (0 + 1) (O.row 23 none [i6 c, i6 d])) (0 + 1 + 1) (O.row 23 none [V.int IntKind.i64 (0 : Int), V.int IntKind.i64 (0 : Int)])) (0 + 1 + 1 + 1) (O.row 79 none [V.int IntKind.i64 (0 : Int), V.int IntKind.i64 (0 : Int), V.int IntKind.i64 (0 : Int), V.int IntKind.i64 (0 : Int), V.nilf, V.nilf, V.nilf])) (0 + 1 + 1 + 1) (O.row 79 none [i6 z, i6 (0 : Int), i6 o, i6 u, V.fn fv [], V.fn fp [], V.fn ft []]) = pt (pt (pt (pt (pt T.e 0 (O.row 23 none [i6 a, i6 b])) (0 + 1) (O.row 23 none [i6 c, i6 d])) (0 + 1 + 1) (O.row 23 none [V.int IntKind.i64 (0 : Int), V.int IntKind.i64 (0 : Int)])) (0 + 1 + 1 + 1) (O.row 79 none [V.int IntKind.i64 (0 : Int), V.int IntKind.i64 (0 : Int), V.int IntKind.i64 (0 : Int), V.int IntKind.i64 (0 : Int), V.nilf, V.nilf, V.nilf])) (0 + 1 + 1 + 1) (O.row 79 none [i6 z, i6 (0 : Int), i6 o, i6 u, V.fn fv [], V.fn fp [], V.fn ft []]) → 0 + 1 + 1 + 1 + 1 = 0 + 1 + 1 + 1 + 1 → CR.mk (el p q) (pt (pt (pt (pt (pt T.e 0 (O.row 23 none [i6 a, i6 b])) (0 + 1) (O.row 23 none [i6 c, i6 d])) (0 + 1 + 1) (O.row 23 none [V.int IntKind.i64 (0 : Int), V.int IntKind.i64 (0 : Int)])) (0 + 1 + 1 + 1) (O.row 79 none [V.int IntKind.i64 (0 : Int), V.int IntKind.i64 (0 : Int), V.int IntKind.i64 (0 : Int), V.int IntKind.i64 (0 : Int), V.nilf, V.nilf, V.nilf])) (0 + 1 + 1 + 1) (O.row 79 none [i6 z, i6 (0 : Int), i6 o, i6 u, V.fn fv [], V.fn fp [], V.fn ft []])) (0 + 1 + 1 + 1 + 1) [] = CR.mk (V.tup [el p q, i6 (0 : Int)]) (pt (pt (pt (pt (pt T.e 0 (O.row 23 none [i6 a, i6 b])) (0 + 1) (O.row 23 none [i6 c, i6 d])) (0 + 1 + 1) (O.row 23 none [V.int IntKind.i64 (0 : Int), V.int IntKind.i64 (0 : Int)])) (0 + 1 + 1 + 1) (O.row 79 none [V.int IntKind.i64 (0 : Int), V.int IntKind.i64 (0 : Int), V.int IntKind.i64 (0 : Int), V.int IntKind.i64 (0 : Int), V.nilf, V.nilf, V.nilf])) (0 + 1 + 1 + 1) (O.row 79 none [i6 z, i6 (0 : Int), i6 o, i6 u, V.fn fv [], V.fn fp [], V.fn ft []])) (0 + 1 + 1 + 1 + 1) []) ∧ True) ∧ (0 = 0 ∧ (0 : Int) = (0 : Int) ∧ True) ∧ ([i6 p, i6 q] = [i6 p, i6 q] ∧ True ∧ True ∧ True) ∧ True) = _) ?_
    (repeat' (first | (with_reducible apply And.intro) | (refine fun (_ : True) => ?_))) <;> first | exact aq | skip
  · rw [e] at hs ⊢
    refine FnOk.of_vc vE_ok mixed sp0_ok (n := 1000) (r := [2]) (S := { sl := [(6, .ptr 0 0), (7, i6 6)], os := [.row 23 none [i6 0, i6 0]] }) (hs := [fn 12 (.tup [opV z o u fv fp ft, i6 0]), fn 22 (.bool true), fn 28 (.bool true), fn 36 (el p q), fn 37 (.tup [el 0 0, i6 6])]) ?_
    refine Eq.mp (by kernel_rfl : (V.tup [V.agg [i6 (0 : Int), i6 (0 : Int)], i6 (6 : Int)] = V.tup [el (0 : Int) (0 : Int), i6 (6 : Int)] ∧ (True ∧ True) ∧ FnOk Try.prog g0 37 [V.int IntKind.i64 k] (V.tup [opV z o u fv fp ft, i6 (0 : Int)]) ∧ True ∧ ((True ∧ True ∧ True) ∧ True) ∧ FnOk Try.prog g0 fv [V.agg [V.int IntKind.i64 a, V.int IntKind.i64 b]] (V.bool true) ∧ True ∧ ((True ∧ True ∧ True) ∧ True) ∧ FnOk Try.prog g0 fv [V.agg [V.int IntKind.i64 c, V.int IntKind.i64 d]] (V.bool true) ∧ ((V.fn fv [] = V.fn fv [] → [V.agg [i6 a, i6 b]] = [V.agg [i6 c, i6 d]] → pt (pt (pt (pt (pt T.e 0 (O.row 23 none [i6 a, i6 b])) (0 + 1) (O.row 23 none [i6 c, i6 d])) (0 + 1 + 1) (O.row 23 none [V.int IntKind.i64 (0 : Int), V.int IntKind.i64 (0 : Int)])) (0 + 1 + 1 + 1) (O.row 79 none [V.int IntKind.i64 (0 : Int), V.int IntKind.i64 (0 : Int), V.int IntKind.i64 (0 : Int), V.int IntKind.i64 (0 : Int), V.nilf, V.nilf, V.nilf])) (0 + 1 + 1 + 1) (O.row 79 none [i6 z, i6 (0 : Int), i6 o, i6 u, V.fn fv [], V.fn fp [], V.fn ft []]) = pt (pt (pt (pt (pt T.e 0 (O.row 23 none [i6 a, i6 b])) (0 + 1) (O.row 23 none [i6 c, i6 d])) (0 + 1 + 1) (O.row 23 none [V.int IntKind.i64 (0 : Int), V.int IntKind.i64 (0 : Int)])) (0 + 1 + 1 + 1) (O.row 79 none [V.int IntKind.i64 (0 : Int), V.int IntKind.i64 (0 : Int), V.int IntKind.i64 (0 : Int), V.int IntKind.i64 (0 : Int), V.nilf, V.nilf, V.nilf])) (0 + 1 + 1 + 1) (O.row 79 none [i6 z, i6 (0 : Int), i6 o, i6 u, V.fn fv [], V.fn fp [], V.fn ft []]) → 0 + 1 + 1 + 1 + 1 = 0 + 1 + 1 + 1 + 1 → CR.mk (V.bool true) (pt (pt (pt (pt (pt T.e 0 (O.row 23 none [i6 a, i6 b])) (0 + 1) (O.row 23 none [i6 c, i6 d])) (0 + 1 + 1) (O.row 23 none [V.int IntKind.i64 (0 : Int), V.int IntKind.i64 (0 : Int)])) (0 + 1 + 1 + 1) (O.row 79 none [V.int IntKind.i64 (0 : Int), V.int IntKind.i64 (0 : Int), V.int IntKind.i64 (0 : Int), V.int IntKind.i64 (0 : Int), V.nilf, V.nilf, V.nilf])) (0 + 1 + 1 + 1) (O.row 79 none [i6 z, i6 (0 : Int), i6 o, i6 u, V.fn fv [], V.fn fp [], V.fn ft []])) (0 + 1 + 1 + 1 + 1) [] = CR.mk (V.bool true) (pt (pt (pt (pt (pt T.e 0 (O.row 23 none [i6 a, i6 b])) (0 + 1) (O.row 23 none [i6 c, i6 d])) (0 + 1 + 1) (O.row 23 none [V.int IntKind.i64 (0 : Int), V.int IntKind.i64 (0 : Int)])) (0 + 1 + 1 + 1) (O.row 79 none [V.int IntKind.i64 (0 : Int), V.int IntKind.i64 (0 : Int), V.int IntKind.i64 (0 : Int), V.int IntKind.i64 (0 : Int), V.nilf, V.nilf, V.nilf])) (0 + 1 + 1 + 1) (O.row 79 none [i6 z, i6 (0 : Int), i6 o, i6 u, V.fn fv [], V.fn fp [], V.fn ft []])) (0 + 1 + 1 + 1 + 1) []) ∧ True) ∧ ((True ∧ True ∧ True) ∧ (True ∧ True ∧ True) ∧ True) ∧ FnOk Try.prog g0 fp [V.agg [V.int IntKind.i64 a, V.int IntKind.i64 b], V.agg [V.int IntKind.i64 c, V.int IntKind.i64 d]] (el p q) ∧ True ∧ ((True ∧ True ∧ True) ∧ True) ∧ FnOk Try.prog g0 45 [V.agg [V.int IntKind.i64 p, V.int IntKind.i64 q]] (V.tup [el (0 : Int) (0 : Int), i6 (6 : Int)]) ∧ ((V.fn fp [] = V.fn 45 [] → [V.agg [i6 a, i6 b], V.agg [i6 c, i6 d]] = [el p q] → pt (pt (pt (pt (pt T.e 0 (O.row 23 none [i6 a, i6 b])) (0 + 1) (O.row 23 none [i6 c, i6 d])) (0 + 1 + 1) (O.row 23 none [V.int IntKind.i64 (0 : Int), V.int IntKind.i64 (0 : Int)])) (0 + 1 + 1 + 1) (O.row 79 none [V.int IntKind.i64 (0 : Int), V.int IntKind.i64 (0 : Int), V.int IntKind.i64 (0 : Int), V.int IntKind.i64 (0 : Int), V.nilf, V.nilf, V.nilf])) (0 + 1 + 1 + 1) (O.row 79 none [i6 z, i6 (0 : Int), i6 o, i6 u, V.fn fv [], V.fn fp [], V.fn ft []]) = pt (pt (pt (pt (pt T.e 0 (O.row 23 none [i6 a, i6 b])) (0 + 1) (O.row 23 none [i6 c, i6 d])) (0 + 1 + 1) (O.row 23 none [V.int IntKind.i64 (0 : Int), V.int IntKind.i64 (0 : Int)])) (0 + 1 + 1 + 1) (O.row 79 none [V.int IntKind.i64 (0 : Int), V.int IntKind.i64 (0 : Int), V.int IntKind.i64 (0 : Int), V.int IntKind.i64 (0 : Int), V.nilf, V.nilf, V.nilf])) (0 + 1 + 1 + 1) (O.row 79 none [i6 z, i6 (0 : Int), i6 o, i6 u, V.fn fv [], V.fn fp [], V.fn ft []]) → 0 + 1 + 1 + 1 + 1 = 0 + 1 + 1 + 1 + 1 → CR.mk (el p q) (pt (pt (pt (pt (pt T.e 0 (O.row 23 none [i6 a, i6 b])) (0 + 1) (O.row 23 none [i6 c, i6 d])) (0 + 1 + 1) (O.row 23 none [V.int IntKind.i64 (0 : Int), V.int IntKind.i64 (0 : Int)])) (0 + 1 + 1 + 1) (O.row 79 none [V.int IntKind.i64 (0 : Int), V.int IntKind.i64 (0 : Int), V.int IntKind.i64 (0 : Int), V.int IntKind.i64 (0 : Int), V.nilf, V.nilf, V.nilf])) (0 + 1 + 1 + 1) (O.row 79 none [i6 z, i6 (0 : Int), i6 o, i6 u, V.fn fv [], V.fn fp [], V.fn ft []])) (0 + 1 + 1 + 1 + 1) [] = CR.mk (V.tup [el (0 : Int) (0 : Int), i6 (6 : Int)]) (pt (pt (pt (pt (pt T.e 0 (O.row 23 none [i6 a, i6 b])) (0 + 1) (O.row 23 none [i6 c, i6 d])) (0 + 1 + 1) (O.row 23 none [V.int IntKind.i64 (0 : Int), V.int IntKind.i64 (0 : Int)])) (0 + 1 + 1 + 1) (O.row 79 none [V.int IntKind.i64 (0 : Int), V.int IntKind.i64 (0 : Int), V.int IntKind.i64 (0 : Int), V.int IntKind.i64 (0 : Int), V.nilf, V.nilf, V.nilf])) (0 + 1 + 1 + 1) (O.row 79 none [i6 z, i6 (0 : Int), i6 o, i6 u, V.fn fv [], V.fn fp [], V.fn ft []])) (0 + 1 + 1 + 1 + 1) []) ∧ True) ∧ (0 = 0 ∧ (6 : Int) = (6 : Int) ∧ True) ∧ ([i6 (0 : Int), i6 (0 : Int)] = [i6 (0 : Int), i6 (0 : Int)] ∧ True ∧ True ∧ True) ∧ True) = _) ?_
    (repeat' (first | (with_reducible apply And.intro) | (refine fun (_ : True) => ?_))) <;> first | exact aq | skip
theorem plus_none (k a b c d : Int) (h : okE k a b = false ∨ okE k c d = false) : FnOk Pg g0 23 [i6 k, el a b, el c d] (.tup [el 0 0, i6 40]) := by
  by_cases hk : 1 ≤ k ∧ k ≤ 5
  · obtain ⟨fv, fp, ft, ho⟩ := choose_ok k hk
    have hc := ho.c
    have hv := ho.v a b
    have hw := ho.v c d
    clear ho
    generalize zeroA k = z at *
    generalize oneA k = o at *
    generalize oneB k = u at *
    cases hb : okE k a b with
    | false =>
      rw [hb] at hv
      refine FnOk.of_vc vE_ok mixed sp0_ok (n := 1000) (r := [2]) (S := { sl := [(6, .ptr 0 0), (7, i6 40)], os := [.row 23 none [i6 0, i6 0]] }) (hs := [fn 12 (.tup [opV z o u fv fp ft, i6 0]), fn 22 (.bool false)]) ?_
      refine Eq.mp (by kernel_rfl : (V.tup [V.agg [i6 (0 : Int), i6 (0 : Int)], i6 (40 : Int)] = V.tup [el (0 : Int) (0 : Int), i6 (40 : Int)] ∧ (True ∧ True) ∧ FnOk Try.prog g0 37 [V.int IntKind.i64 k] (V.tup [opV z o u fv fp ft, i6 (0 : Int)]) ∧ True ∧ ((True ∧ True ∧ True) ∧ True) ∧ FnOk Try.prog g0 fv [V.agg [V.int IntKind.i64 a, V.int IntKind.i64 b]] (V.bool false) ∧ True ∧ (0 = 0 ∧ (40 : Int) = (40 : Int) ∧ True) ∧ ([i6 (0 : Int), i6 (0 : Int)] = [V.int IntKind.i64 (0 : Int), V.int IntKind.i64 (0 : Int)] ∧ True ∧ True ∧ True) ∧ True) = _) ?_
      (repeat' (first | (with_reducible apply And.intro) | (refine fun (_ : True) => ?_))) <;> first | exact aq | skip
    | true =>
      rw [hb] at hv h
      have hb2 : okE k c d = false := by simpa using h
      rw [hb2] at hw
      clear h
      refine FnOk.of_vc vE_ok mixed sp0_ok (n := 1000) (r := [2]) (S := { sl := [(6, .ptr 0 0), (7, i6 40)], os := [.row 23 none [i6 0, i6 0]] }) (hs := [fn 12 (.tup [opV z o u fv fp ft, i6 0]), fn 22 (.bool true), fn 28 (.bool false)]) ?_
      refine Eq.mp (by kernel_rfl : (V.tup [V.agg [i6 (0 : Int), i6 (0 : Int)], i6 (40 : Int)] = V.tup [el (0 : Int) (0 : Int), i6 (40 : Int)] ∧ (True ∧ True) ∧ FnOk Try.prog g0 37 [V.int IntKind.i64 k] (V.tup [opV z o u fv fp ft, i6 (0 : Int)]) ∧ True ∧ ((True ∧ True ∧ True) ∧ True) ∧ FnOk Try.prog g0 fv [V.agg [V.int IntKind.i64 a, V.int IntKind.i64 b]] (V.bool true) ∧ True ∧ ((True ∧ True ∧ True) ∧ True) ∧ FnOk Try.prog g0 fv [V.agg [V.int IntKind.i64 c, V.int IntKind.i64 d]] (V.bool false) ∧ ((V.fn fv [] = V.fn fv [] → [V.agg [i6 a, i6 b]] = [V.agg [i6 c, i6 d]] → pt (pt (pt (pt (pt T.e 0 (O.row 23 none [i6 a, i6 b])) (0 + 1) (O.row 23 none [i6 c, i6 d])) (0 + 1 + 1) (O.row 23 none [V.int IntKind.i64 (0 : Int), V.int IntKind.i64 (0 : Int)])) (0 + 1 + 1 + 1) (O.row 79 none [V.int IntKind.i64 (0 : Int), V.int IntKind.i64 (0 : Int), V.int IntKind.i64 (0 : Int), V.int IntKind.i64 (0 : Int), V.nilf, V.nilf, V.nilf])) (0 + 1 + 1 + 1) (O.row 79 none [i6 z, i6 (0 : Int), i6 o, i6 u, V.fn fv [], V.fn fp [], V.fn ft []]) = pt (pt (pt (pt (pt T.e 0 (O.row 23 none [i6 a, i6 b])) (0 + 1) (O.row 23 none [i6 c, i6 d])) (0 + 1 + 1) (O.row 23 none [V.int IntKind.i64 (0 : Int), V.int IntKind.i64 (0 : Int)])) (0 + 1 + 1 + 1) (O.row 79 none [V.int IntKind.i64 (0 : Int), V.int IntKind.i64 (0 : Int), V.int IntKind.i64 (0 : Int), V.int IntKind.i64 (0 : Int), V.nilf, V.nilf, V.nilf])) (0 + 1 + 1 + 1) (O.row 79 none [i6 z, i6 (0 : Int), i6 o, i6 u, V.fn fv [], V.fn fp [], V.fn ft []]) → 0 + 1 + 1 + 1 + 1 = 0 + 1 + 1 + 1 + 1 → CR.mk (V.bool true) (pt (pt (pt (pt (pt T.e 0 (O.row 23 none [i6 a, i6 b])) (0 + 1) (O.row 23 none [i6 c, i6 d])) (0 + 1 + 1) (O.row 23 none [V.int IntKind.i64 (0 : Int), V.int IntKind.i64 (0 : Int)])) (0 + 1 + 1 + 1) (O.row 79 none [V.int IntKind.i64 (0 : Int), V.int IntKind.i64 (0 : Int), V.int IntKind.i64 (0 : Int), V.int IntKind.i64 (0 : Int), V.nilf, V.nilf, V.nilf])) (0 + 1 + 1 + 1) (O.row 79 none [i6 z, i6 (0 : Int), i6 o, i6 u, V.fn fv [], V.fn fp [], V.fn ft []])) (0 + 1 + 1 + 1 + 1) [] = CR.mk (V.bool false) (pt (pt (pt (pt (pt T.e 0 (O.row 23 none [i6 a, i6 b])) (0 + 1) (O.row 23 none [i6 c, i6 d])) (0 + 1 + 1) (O.row 23 none [V.int IntKind.i64 (0 : Int), V.int IntKind.i64 (0 : Int)])) (0 + 1 + 1 + 1) (O.row 79 none [V.int IntKind.i64 (0 : Int), V.int IntKind.i64 (0 : Int), V.int IntKind.i64 (0 : Int), V.int IntKind.i64 (0 : Int), V.nilf, V.nilf, V.nilf])) (0 + 1 + 1 + 1) (O.row 79 none [i6 z, i6 (0 : Int), i6 o, i6 u, V.fn fv [], V.fn fp [], V.fn ft []])) (0 + 1 + 1 + 1 + 1) []) ∧ True) ∧ (0 = 0 ∧ (40 : Int) = (40 : Int) ∧ True) ∧ ([i6 (0 : Int), i6 (0 : Int)] = [V.int IntKind.i64 (0 : Int), V.int IntKind.i64 (0 : Int)] ∧ True ∧ True ∧ True) ∧ True) = _) ?_
      (repeat' (first | (with_reducible apply And.intro) | (refine fun (_ : True) => ?_))) <;> first | exact aq | skip
      all_goals (intro _ he _ _; simp only [List.cons.injEq, V.agg.injEq, V.int.injEq, true_and, and_true] at he; rw [he.1, he.2, hb2] at hb; cases hb)
  · have hc := choose_none k hk
    refine FnOk.of_vc vE_ok mixed sp0_ok (n := 1000) (r := [2]) (S := { sl := [(6, .ptr 0 0), (7, i6 40)], os := [.row 23 none [i6 0, i6 0]] }) (hs := [fn 12 (.tup [nopV, i6 40])]) ?_
    refine Eq.mp (by kernel_rfl : (V.tup [V.agg [i6 (0 : Int), i6 (0 : Int)], i6 (40 : Int)] = V.tup [el (0 : Int) (0 : Int), i6 (40 : Int)] ∧ (True ∧ True) ∧ FnOk Try.prog g0 37 [V.int IntKind.i64 k] (V.tup [nopV, i6 (40 : Int)]) ∧ True ∧ (0 = 0 ∧ (40 : Int) = (40 : Int) ∧ True) ∧ ([i6 (0 : Int), i6 (0 : Int)] = [V.int IntKind.i64 (0 : Int), V.int IntKind.i64 (0 : Int)] ∧ True ∧ True ∧ True) ∧ True) = _) ?_
    (repeat' (first | (with_reducible apply And.intro) | (refine fun (_ : True) => ?_))) <;> first | exact aq | skip
theorem times_in (k a b c d p q : Int) (h1 : okE k a b = true) (h2 : okE k c d = true) (hk : 1 ≤ k ∧ k ≤ 5) (h : timesE k a b c d = (p, q)) : FnOk Pg g0 24 [i6 k, el a b, el c d] (setV p q) := by
  obtain ⟨fv, fp, ft, ho⟩ := choose_ok k hk
  have hc := ho.c
  have hv := ho.v a b
  have hw := ho.v c d
  rw [h1] at hv
  rw [h2] at hw
  have hp := ho.t a b c d p q (wideE_of h1) (wideE_of h2) h
  have hs := settle_fn p q
  clear ho h
  generalize zeroA k = z at *
  generalize oneA k = o at *
  generalize oneB k = u at *
  rcases setV_cases p q with ⟨g1, g2, e⟩ | ⟨g, e⟩
  · rw [e] at hs ⊢
    refine FnOk.of_vc vE_ok mixed sp0_ok (n := 1000) (r := [2]) (S := { sl := [(6, .ptr 0 0), (7, i6 0)], os := [.row 23 none [i6 p, i6 q]] }) (hs := [fn 12 (.tup [opV z o u fv fp ft, i6 0]), fn 22 (.bool true), fn 28 (.bool true), fn 36 (el p q), fn 37 (.tup [el p q, i6 0])]) ?_
    refine Eq.mp (by kernel_rfl : (V.tup [V.agg [i6 p, i6 q], i6 (0 : Int)] = V.tup [el p q, i6 (0 : Int)] ∧ (True ∧ True) ∧ FnOk Try.prog g0 37 [V.int IntKind.i64 k] (V.tup [opV z o u fv fp ft, i6 (0 : Int)]) ∧ True ∧ ((True ∧ True ∧ True) ∧ True) ∧ FnOk Try.prog g0 fv [V.agg [V.int IntKind.i64 a, V.int IntKind.i64 b]] (V.bool true) ∧ True ∧ ((True ∧ True ∧ True) ∧ True) ∧ FnOk Try.prog g0 fv [V.agg [V.int IntKind.i64 c, V.int IntKind.i64 d]] (V.bool true) ∧ ((V.fn fv [] = V.fn fv [] → [V.agg [i6 a, i6 b]] = [V.agg [i6 c, i6 d]] → pt (pt (pt (pt (pt T.e 0 (O.row 23 none [i6 a, i6 b])) (0 + 1) (O.row 23 none [i6 c, i6 d])) (0 + 1 + 1) (O.row 23 none [V.int IntKind.i64 (0 : Int), V.int IntKind.i64 (0 : Int)])) (0 + 1 + 1 + 1) (O.row 79 none [V.int IntKind.i64 (0 : Int), V.int IntKind.i64 (0 : Int), V.int IntKind.i64 (0 : Int), V.int IntKind.i64 (0 : Int), V.nilf, V.nilf, V.nilf])) (0 + 1 + 1 + 1) (O.row 79 none [i6 z, i6 (0 : Int), i6 o, i6 u, V.fn fv [], V.fn fp [], V.fn ft []]) = pt (pt (pt (pt (pt T.e 0 (O.row 23 none [i6 a, i6 b])) (0 + 1) (O.row 23 none [i6 c, i6 d])) (0 + 1 + 1) (O.row 23 none [V.int IntKind.i64 (0 : Int), V.int IntKind.i64 (0 : Int)])) (0 + 1 + 1 + 1) (O.row 79 none [V.int IntKind.i64 (0 : Int), V.int IntKind.i64 (0 : Int), V.int IntKind.i64 (0 : Int), V.int IntKind.i64 (0 : Int), V.nilf, V.nilf, V.nilf])) (0 + 1 + 1 + 1) (O.row 79 none [i6 z, i6 (0 : Int), i6 o, i6 u, V.fn fv [], V.fn fp [], V.fn ft []]) → 0 + 1 + 1 + 1 + 1 = 0 + 1 + 1 + 1 + 1 → CR.mk (V.bool true) (pt (pt (pt (pt (pt T.e 0 (O.row 23 none [i6 a, i6 b])) (0 + 1) (O.row 23 none [i6 c, i6 d])) (0 + 1 + 1) (O.row 23 none [V.int IntKind.i64 (0 : Int), V.int IntKind.i64 (0 : Int)])) (0 + 1 + 1 + 1) (O.row 79 none [V.int IntKind.i64 (0 : Int), V.int IntKind.i64 (0 : Int), V.int IntKind.i64 (0 : Int), V.int IntKind.i64 (0 : Int), V.nilf, V.nilf, V.nilf])) (0 + 1 + 1 + 1) (O.row 79 none [i6 z, i6 (0 : Int), i6 o, i6 u, V.fn fv [], V.fn fp [], V.fn ft []])) (0 + 1 + 1 + 1 + 1) [] = CR.mk (V.bool true) (pt (pt (pt (pt (pt T.e 0 (O.row 23 none [i6 a, i6 b])) (0 + 1) (O.row 23 none [i6 c, i6 d])) (0 + 1 + 1) (O.row 23 none [V.int IntKind.i64 (0 : Int), V.int IntKind.i64 (0 : Int)])) (0 + 1 + 1 + 1) (O.row 79 none [V.int IntKind.i64 (0 : Int), V.int IntKind.i64 (0 : Int), V.int IntKind.i64 (0 : Int), V.int IntKind.i64 (0 : Int), V.nilf, V.nilf, V.nilf])) (0 + 1 + 1 + 1) (O.row 79 none [i6 z, i6 (0 : Int), i6 o, i6 u, V.fn fv [], V.fn fp [], V.fn ft []])) (0 + 1 + 1 + 1 + 1) []) ∧ True) ∧ ((True ∧ True ∧ True) ∧ (True ∧ True ∧ True) ∧ True) ∧ FnOk Try.prog g0 ft [V.agg [V.int IntKind.i64 a, V.int IntKind.i64 b], V.agg [V.int IntKind.i64 c, V.int IntKind.i64 d]] (el p q) ∧ True ∧ ((True ∧ True ∧ True) ∧ True) ∧ FnOk Try.prog g0 45 [V.agg [V.int IntKind.i64 p, V.int IntKind.i64 q]] (V.tup [el p q, i6 (0 : Int)]) ∧ ((V.fn ft [] = V.fn 45 [] → [V.agg [i6 a, i6 b], V.agg [i6 c, i6 d]] = [el p q] → pt (pt (pt (pt (pt T.e 0 (O.row 23 none [i6 a, i6 b])) (0 + 1) (O.row 23 none [i6 c, i6 d])) (0 + 1 + 1) (O.row 23 none [V.int IntKind.i64 (0 : Int), V.int IntKind.i64 (0 : Int)])) (0 + 1 + 1 + 1) (O.row 79 none [V.int IntKind.i64 (0 : Int), V.int IntKind.i64 (0 : Int), V.int IntKind.i64 (0 : Int), V.int IntKind.i64 (0 : Int), V.nilf, V.nilf, V.nilf])) (0 + 1 + 1 + 1) (O.row 79 none [i6 z, i6 (0 : Int), i6 o, i6 u, V.fn fv [], V.fn fp [], V.fn ft []]) = pt (pt (pt (pt (pt T.e 0 (O.row 23 none [i6 a, i6 b])) (0 + 1) (O.row 23 none [i6 c, i6 d])) (0 + 1 + 1) (O.row 23 none [V.int IntKind.i64 (0 : Int), V.int IntKind.i64 (0 : Int)])) (0 + 1 + 1 + 1) (O.row 79 none [V.int IntKind.i64 (0 : Int), V.int IntKind.i64 (0 : Int), V.int IntKind.i64 (0 : Int), V.int IntKind.i64 (0 : Int), V.nilf, V.nilf, V.nilf])) (0 + 1 + 1 + 1) (O.row 79 none [i6 z, i6 (0 : Int), i6 o, i6 u, V.fn fv [], V.fn fp [], V.fn ft []]) → 0 + 1 + 1 + 1 + 1 = 0 + 1 + 1 + 1 + 1 → CR.mk (el p q) (pt (pt (pt (pt (pt T.e 0 (O.row 23 none [i6 a, i6 b])) (0 + 1) (O.row 23 none [i6 c, i6 d])) (0 + 1 + 1) (O.row 23 none [V.int IntKind.i64 (0 : Int), V.int IntKind.i64 (0 : Int)])) (0 + 1 + 1 + 1) (O.row 79 none [V.int IntKind.i64 (0 : Int), V.int IntKind.i64 (0 : Int), V.int IntKind.i64 (0 : Int), V.int IntKind.i64 (0 : Int), V.nilf, V.nilf, V.nilf])) (0 + 1 + 1 + 1) (O.row 79 none [i6 z, i6 (0 : Int), i6 o, i6 u, V.fn fv [], V.fn fp [], V.fn ft []])) (0 + 1 + 1 + 1 + 1) [] = CR.mk (V.tup [el p q, i6 (0 : Int)]) (pt (pt (pt (pt (pt T.e 0 (O.row 23 none [i6 a, i6 b])) (0 + 1) (O.row 23 none [i6 c, i6 d])) (0 + 1 + 1) (O.row 23 none [V.int IntKind.i64 (0 : Int), V.int IntKind.i64 (0 : Int)])) (0 + 1 + 1 + 1) (O.row 79 none [V.int IntKind.i64 (0 : Int), V.int IntKind.i64 (0 : Int), V.int IntKind.i64 (0 : Int), V.int IntKind.i64 (0 : Int), V.nilf, V.nilf, V.nilf])) (0 + 1 + 1 + 1) (O.row 79 none [i6 z, i6 (0 : Int), i6 o, i6 u, V.fn fv [], V.fn fp [], V.fn ft []])) (0 + 1 + 1 + 1 + 1) []) ∧ True) ∧ (0 = 0 ∧ (0 : Int) = (0 : Int) ∧ True) ∧ ([i6 p, i6 q] = [i6 p, i6 q] ∧ True ∧ True ∧ True) ∧ True) = _) ?_
    (repeat' (first | (with_reducible apply And.intro) | (refine fun (_ : True) => ?_))) <;> first | exact aq | skip
  · rw [e] at hs ⊢
    refine FnOk.of_vc vE_ok mixed sp0_ok (n := 1000) (r := [2]) (S := { sl := [(6, .ptr 0 0), (7, i6 6)], os := [.row 23 none [i6 0, i6 0]] }) (hs := [fn 12 (.tup [opV z o u fv fp ft, i6 0]), fn 22 (.bool true), fn 28 (.bool true), fn 36 (el p q), fn 37 (.tup [el 0 0, i6 6])]) ?_
    refine Eq.mp (by kernel_rfl : (V.tup [V.agg [i6 (0 : Int), i6 (0 : Int)], i6 (6 : Int)] = V.tup [el (0 : Int) (0 : Int), i6 (6 : Int)] ∧ (True ∧ True) ∧ FnOk Try.prog g0 37 [V.int IntKind.i64 k] (V.tup [opV z o u fv fp ft, i6 (0 : Int)]) ∧ True ∧ ((True ∧ True ∧ True) ∧ True) ∧ FnOk Try.prog g0 fv [V.agg [V.int IntKind.i64 a, V.int IntKind.i64 b]] (V.bool true) ∧ True ∧ ((True ∧ True ∧ True) ∧ True) ∧ FnOk Try.prog g0 fv [V.agg [V.int IntKind.i64 c, V.int IntKind.i64 d]] (V.bool true) ∧ ((V.fn fv [] = V.fn fv [] → [V.agg [i6 a, i6 b]] = [V.agg [i6 c, i6 d]] → pt (pt (pt (pt (pt T.e 0 (O.row 23 none [i6 a, i6 b])) (0 + 1) (O.row 23 none [i6 c, i6 d])) (0 + 1 + 1) (O.row 23 none [V.int IntKind.i64 (0 : Int), V.int IntKind.i64 (0 : Int)])) (0 + 1 + 1 + 1) (O.row 79 none [V.int IntKind.i64 (0 : Int), V.int IntKind.i64 (0 : Int), V.int IntKind.i64 (0 : Int), V.int IntKind.i64 (0 : Int), V.nilf, V.nilf, V.nilf])) (0 + 1 + 1 + 1) (O.row 79 none [i6 z, i6 (0 : Int), i6 o, i6 u, V.fn fv [], V.fn fp [], V.fn ft []]) = pt (pt (pt (pt (pt T.e 0 (O.row 23 none [i6 a, i6 b])) (0 + 1) (O.row 23 none [i6 c, i6 d])) (0 + 1 + 1) (O.row 23 none [V.int IntKind.i64 (0 : Int), V.int IntKind.i64 (0 : Int)])) (0 + 1 + 1 + 1) (O.row 79 none [V.int IntKind.i64 (0 : Int), V.int IntKind.i64 (0 : Int), V.int IntKind.i64 (0 : Int), V.int IntKind.i64 (0 : Int), V.nilf, V.nilf, V.nilf])) (0 + 1 + 1 + 1) (O.row 79 none [i6 z, i6 (0 : Int), i6 o, i6 u, V.fn fv [], V.fn fp [], V.fn ft []]) → 0 + 1 + 1 + 1 + 1 = 0 + 1 + 1 + 1 + 1 → CR.mk (V.bool true) (pt (pt (pt (pt (pt T.e 0 (O.row 23 none [i6 a, i6 b])) (0 + 1) (O.row 23 none [i6 c, i6 d])) (0 + 1 + 1) (O.row 23 none [V.int IntKind.i64 (0 : Int), V.int IntKind.i64 (0 : Int)])) (0 + 1 + 1 + 1) (O.row 79 none [V.int IntKind.i64 (0 : Int), V.int IntKind.i64 (0 : Int), V.int IntKind.i64 (0 : Int), V.int IntKind.i64 (0 : Int), V.nilf, V.nilf, V.nilf])) (0 + 1 + 1 + 1) (O.row 79 none [i6 z, i6 (0 : Int), i6 o, i6 u, V.fn fv [], V.fn fp [], V.fn ft []])) (0 + 1 + 1 + 1 + 1) [] = CR.mk (V.bool true) (pt (pt (pt (pt (pt T.e 0 (O.row 23 none [i6 a, i6 b])) (0 + 1) (O.row 23 none [i6 c, i6 d])) (0 + 1 + 1) (O.row 23 none [V.int IntKind.i64 (0 : Int), V.int IntKind.i64 (0 : Int)])) (0 + 1 + 1 + 1) (O.row 79 none [V.int IntKind.i64 (0 : Int), V.int IntKind.i64 (0 : Int), V.int IntKind.i64 (0 : Int), V.int IntKind.i64 (0 : Int), V.nilf, V.nilf, V.nilf])) (0 + 1 + 1 + 1) (O.row 79 none [i6 z, i6 (0 : Int), i6 o, i6 u, V.fn fv [], V.fn fp [], V.fn ft []])) (0 + 1 + 1 + 1 + 1) []) ∧ True) ∧ ((True ∧ True ∧ True) ∧ (True ∧ True ∧ True) ∧ True) ∧ FnOk Try.prog g0 ft [V.agg [V.int IntKind.i64 a, V.int IntKind.i64 b], V.agg [V.int IntKind.i64 c, V.int IntKind.i64 d]] (el p q) ∧ True ∧ ((True ∧ True ∧ True) ∧ True) ∧ FnOk Try.prog g0 45 [V.agg [V.int IntKind.i64 p, V.int IntKind.i64 q]] (V.tup [el (0 : Int) (0 : Int), i6 (6 : Int)]) ∧ ((V.fn ft [] = V.fn 45 [] → [V.agg [i6 a, i6 b], V.agg [i6 c, i6 d]] = [el p q] → pt (pt (pt (pt (pt T.e 0 (O.row 23 none [i6 a, i6 b])) (0 + 1) (O.row 23 none [i6 c, i6 d])) (0 + 1 + 1) (O.row 23 none [V.int IntKind.i64 (0 : Int), V.int IntKind.i64 (0 : Int)])) (0 + 1 + 1 + 1) (O.row 79 none [V.int IntKind.i64 (0 : Int), V.int IntKind.i64 (0 : Int), V.int IntKind.i64 (0 : Int), V.int IntKind.i64 (0 : Int), V.nilf, V.nilf, V.nilf])) (0 + 1 + 1 + 1) (O.row 79 none [i6 z, i6 (0 : Int), i6 o, i6 u, V.fn fv [], V.fn fp [], V.fn ft []]) = pt (pt (pt (pt (pt T.e 0 (O.row 23 none [i6 a, i6 b])) (0 + 1) (O.row 23 none [i6 c, i6 d])) (0 + 1 + 1) (O.row 23 none [V.int IntKind.i64 (0 : Int), V.int IntKind.i64 (0 : Int)])) (0 + 1 + 1 + 1) (O.row 79 none [V.int IntKind.i64 (0 : Int), V.int IntKind.i64 (0 : Int), V.int IntKind.i64 (0 : Int), V.int IntKind.i64 (0 : Int), V.nilf, V.nilf, V.nilf])) (0 + 1 + 1 + 1) (O.row 79 none [i6 z, i6 (0 : Int), i6 o, i6 u, V.fn fv [], V.fn fp [], V.fn ft []]) → 0 + 1 + 1 + 1 + 1 = 0 + 1 + 1 + 1 + 1 → CR.mk (el p q) (pt (pt (pt (pt (pt T.e 0 (O.row 23 none [i6 a, i6 b])) (0 + 1) (O.row 23 none [i6 c, i6 d])) (0 + 1 + 1) (O.row 23 none [V.int IntKind.i64 (0 : Int), V.int IntKind.i64 (0 : Int)])) (0 + 1 + 1 + 1) (O.row 79 none [V.int IntKind.i64 (0 : Int), V.int IntKind.i64 (0 : Int), V.int IntKind.i64 (0 : Int), V.int IntKind.i64 (0 : Int), V.nilf, V.nilf, V.nilf])) (0 + 1 + 1 + 1) (O.row 79 none [i6 z, i6 (0 : Int), i6 o, i6 u, V.fn fv [], V.fn fp [], V.fn ft []])) (0 + 1 + 1 + 1 + 1) [] = CR.mk (V.tup [el (0 : Int) (0 : Int), i6 (6 : Int)]) (pt (pt (pt (pt (pt T.e 0 (O.row 23 none [i6 a, i6 b])) (0 + 1) (O.row 23 none [i6 c, i6 d])) (0 + 1 + 1) (O.row 23 none [V.int IntKind.i64 (0 : Int), V.int IntKind.i64 (0 : Int)])) (0 + 1 + 1 + 1) (O.row 79 none [V.int IntKind.i64 (0 : Int), V.int IntKind.i64 (0 : Int), V.int IntKind.i64 (0 : Int), V.int IntKind.i64 (0 : Int), V.nilf, V.nilf, V.nilf])) (0 + 1 + 1 + 1) (O.row 79 none [i6 z, i6 (0 : Int), i6 o, i6 u, V.fn fv [], V.fn fp [], V.fn ft []])) (0 + 1 + 1 + 1 + 1) []) ∧ True) ∧ (0 = 0 ∧ (6 : Int) = (6 : Int) ∧ True) ∧ ([i6 (0 : Int), i6 (0 : Int)] = [i6 (0 : Int), i6 (0 : Int)] ∧ True ∧ True ∧ True) ∧ True) = _) ?_
    (repeat' (first | (with_reducible apply And.intro) | (refine fun (_ : True) => ?_))) <;> first | exact aq | skip
theorem times_none (k a b c d : Int) (h : okE k a b = false ∨ okE k c d = false) : FnOk Pg g0 24 [i6 k, el a b, el c d] (.tup [el 0 0, i6 40]) := by
  by_cases hk : 1 ≤ k ∧ k ≤ 5
  · obtain ⟨fv, fp, ft, ho⟩ := choose_ok k hk
    have hc := ho.c
    have hv := ho.v a b
    have hw := ho.v c d
    clear ho
    generalize zeroA k = z at *
    generalize oneA k = o at *
    generalize oneB k = u at *
    cases hb : okE k a b with
    | false =>
      rw [hb] at hv
      refine FnOk.of_vc vE_ok mixed sp0_ok (n := 1000) (r := [2]) (S := { sl := [(6, .ptr 0 0), (7, i6 40)], os := [.row 23 none [i6 0, i6 0]] }) (hs := [fn 12 (.tup [opV z o u fv fp ft, i6 0]), fn 22 (.bool false)]) ?_
      refine Eq.mp (by kernel_rfl : (V.tup [V.agg [i6 (0 : Int), i6 (0 : Int)], i6 (40 : Int)] = V.tup [el (0 : Int) (0 : Int), i6 (40 : Int)] ∧ (True ∧ True) ∧ FnOk Try.prog g0 37 [V.int IntKind.i64 k] (V.tup [opV z o u fv fp ft, i6 (0 : Int)]) ∧ True ∧ ((True ∧ True ∧ True) ∧ True) ∧ FnOk Try.prog g0 fv [V.agg [V.int IntKind.i64 a, V.int IntKind.i64 b]] (V.bool false) ∧ True ∧ (0 = 0 ∧ (40 : Int) = (40 : Int) ∧ True) ∧ ([i6 (0 : Int), i6 (0 : Int)] = [V.int IntKind.i64 (0 : Int), V.int IntKind.i64 (0 : Int)] ∧ True ∧ True ∧ True) ∧ True) = _) ?_
      (repeat' (first | (with_reducible apply And.intro) | (refine fun (_ : True) => ?_))) <;> first | exact aq | skip
    | true =>
      rw [hb] at hv h
      have hb2 : okE k c d = false := by simpa using h
      rw [hb2] at hw
      clear h
      refine FnOk.of_vc vE_ok mixed sp0_ok (n := 1000) (r := [2]) (S := { sl := [(6, .ptr 0 0), (7, i6 40)], os := [.row 23 none [i6 0, i6 0]] }) (hs := [fn 12 (.tup [opV z o u fv fp ft, i6 0]), fn 22 (.bool true), fn 28 (.bool false)]) ?_
      refine Eq.mp (by kernel_rfl : (V.tup [V.agg [i6 (0 : Int), i6 (0 : Int)], i6 (40 : Int)] = V.tup [el (0 : Int) (0 : Int), i6 (40 : Int)] ∧ (True ∧ True) ∧ FnOk Try.prog g0 37 [V.int IntKind.i64 k] (V.tup [opV z o u fv fp ft, i6 (0 : Int)]) ∧ True ∧ ((True ∧ True ∧ True) ∧ True) ∧ FnOk Try.prog g0 fv [V.agg [V.int IntKind.i64 a, V.int IntKind.i64 b]] (V.bool true) ∧ True ∧ ((True ∧ True ∧ True) ∧ True) ∧ FnOk Try.prog g0 fv [V.agg [V.int IntKind.i64 c, V.int IntKind.i64 d]] (V.bool false) ∧ ((V.fn fv [] = V.fn fv [] → [V.agg [i6 a, i6 b]] = [V.agg [i6 c, i6 d]] → pt (pt (pt (pt (pt T.e 0 (O.row 23 none [i6 a, i6 b])) (0 + 1) (O.row 23 none [i6 c, i6 d])) (0 + 1 + 1) (O.row 23 none [V.int IntKind.i64 (0 : Int), V.int IntKind.i64 (0 : Int)])) (0 + 1 + 1 + 1) (O.row 79 none [V.int IntKind.i64 (0 : Int), V.int IntKind.i64 (0 : Int), V.int IntKind.i64 (0 : Int), V.int IntKind.i64 (0 : Int), V.nilf, V.nilf, V.nilf])) (0 + 1 + 1 + 1) (O.row 79 none [i6 z, i6 (0 : Int), i6 o, i6 u, V.fn fv [], V.fn fp [], V.fn ft []]) = pt (pt (pt (pt (pt T.e 0 (O.row 23 none [i6 a, i6 b])) (0 + 1) (O.row 23 none [i6 c, i6 d])) (0 + 1 + 1) (O.row 23 none [V.int IntKind.i64 (0 : Int), V.int IntKind.i64 (0 : Int)])) (0 + 1 + 1 + 1) (O.row 79 none [V.int IntKind.i64 (0 : Int), V.int IntKind.i64 (0 : Int), V.int IntKind.i64 (0 : Int), V.int IntKind.i64 (0 : Int), V.nilf, V.nilf, V.nilf])) (0 + 1 + 1 + 1) (O.row 79 none [i6 z, i6 (0 : Int), i6 o, i6 u, V.fn fv [], V.fn fp [], V.fn ft []]) → 0 + 1 + 1 + 1 + 1 = 0 + 1 + 1 + 1 + 1 → CR.mk (V.bool true) (pt (pt (pt (pt (pt T.e 0 (O.row 23 none [i6 a, i6 b])) (0 + 1) (O.row 23 none [i6 c, i6 d])) (0 + 1 + 1) (O.row 23 none [V.int IntKind.i64 (0 : Int), V.int IntKind.i64 (0 : Int)])) (0 + 1 + 1 + 1) (O.row 79 none [V.int IntKind.i64 (0 : Int), V.int IntKind.i64 (0 : Int), V.int IntKind.i64 (0 : Int), V.int IntKind.i64 (0 : Int), V.nilf, V.nilf, V.nilf])) (0 + 1 + 1 + 1) (O.row 79 none [i6 z, i6 (0 : Int), i6 o, i6 u, V.fn fv [], V.fn fp [], V.fn ft []])) (0 + 1 + 1 + 1 + 1) [] = CR.mk (V.bool false) (pt (pt (pt (pt (pt T.e 0 (O.row 23 none [i6 a, i6 b])) (0 + 1) (O.row 23 none [i6 c, i6 d])) (0 + 1 + 1) (O.row 23 none [V.int IntKind.i64 (0 : Int), V.int IntKind.i64 (0 : Int)])) (0 + 1 + 1 + 1) (O.row 79 none [V.int IntKind.i64 (0 : Int), V.int IntKind.i64 (0 : Int), V.int IntKind.i64 (0 : Int), V.int IntKind.i64 (0 : Int), V.nilf, V.nilf, V.nilf])) (0 + 1 + 1 + 1) (O.row 79 none [i6 z, i6 (0 : Int), i6 o, i6 u, V.fn fv [], V.fn fp [], V.fn ft []])) (0 + 1 + 1 + 1 + 1) []) ∧ True) ∧ (0 = 0 ∧ (40 : Int) = (40 : Int) ∧ True) ∧ ([i6 (0 : Int), i6 (0 : Int)] = [V.int IntKind.i64 (0 : Int), V.int IntKind.i64 (0 : Int)] ∧ True ∧ True ∧ True) ∧ True) = _) ?_
      (repeat' (first | (with_reducible apply And.intro) | (refine fun (_ : True) => ?_))) <;> first | exact aq | skip
      all_goals (intro _ he _ _; simp only [List.cons.injEq, V.agg.injEq, V.int.injEq, true_and, and_true] at he; rw [he.1, he.2, hb2] at hb; cases hb)
  · have hc := choose_none k hk
    refine FnOk.of_vc vE_ok mixed sp0_ok (n := 1000) (r := [2]) (S := { sl := [(6, .ptr 0 0), (7, i6 40)], os := [.row 23 none [i6 0, i6 0]] }) (hs := [fn 12 (.tup [nopV, i6 40])]) ?_
    refine Eq.mp (by kernel_rfl : (V.tup [V.agg [i6 (0 : Int), i6 (0 : Int)], i6 (40 : Int)] = V.tup [el (0 : Int) (0 : Int), i6 (40 : Int)] ∧ (True ∧ True) ∧ FnOk Try.prog g0 37 [V.int IntKind.i64 k] (V.tup [nopV, i6 (40 : Int)]) ∧ True ∧ (0 = 0 ∧ (40 : Int) = (40 : Int) ∧ True) ∧ ([i6 (0 : Int), i6 (0 : Int)] = [V.int IntKind.i64 (0 : Int), V.int IntKind.i64 (0 : Int)] ∧ True ∧ True ∧ True) ∧ True) = _) ?_
    (repeat' (first | (with_reducible apply And.intro) | (refine fun (_ : True) => ?_))) <;> first | exact aq | skip
theorem told_err (c d e : Int) (he : e ≠ 0) : FnOk Pg g0 30 [el 0 0, i6 e, el c d, i6 e] (.bool true) := by
  refine FnOk.of_vc vE_ok mixed sp0_ok (n := 1000) (r := []) (S := { sl := [(8, .bool true)] }) (hs := [no 10, yes 17, yes 25]) ?_
  refine Eq.mp (by kernel_rfl : (V.bool true = V.bool true ∧ (e == (0 : Int)) = false ∧ (e != (0 : Int)) = true ∧ (e == e) = true ∧ (true = true ∧ True) ∧ True) = _) ?_
  (repeat' (first | (with_reducible apply And.intro) | (refine fun (_ : True) => ?_))) <;> first | exact aq | skip
theorem told_fit (a b : Int) (h1 : a ≤ 4611686018427387903) (h2 : b ≤ 4611686018427387903) : FnOk Pg g0 30 [el a b, i6 0, el a b, i6 0] (.bool true) := by
  have hf := fits_fn a b
  rw [decide_eq_true ⟨h1, h2⟩] at hf
  refine FnOk.of_vc vE_ok mixed sp0_ok (n := 1000) (r := []) (S := { sl := [(8, .bool true)] }) (hs := [fn 13 (.bool true), yes 21]) ?_
  refine Eq.mp (by kernel_rfl : (V.bool true = V.bool true ∧ ((True ∧ True ∧ True) ∧ True) ∧ FnOk Try.prog g0 49 [V.agg [V.int IntKind.i64 a, V.int IntKind.i64 b]] (V.bool true) ∧ True ∧ (a == a && (b == b && true)) = true ∧ (true = ((0 : Int) == (0 : Int)) ∧ True) ∧ True) = _) ?_
  (repeat' (first | (with_reducible apply And.intro) | (refine fun (_ : True) => ?_))) <;> first | exact aq | skip
theorem told_big (a b : Int) (h : ¬ (a ≤ 4611686018427387903 ∧ b ≤ 4611686018427387903)) : FnOk Pg g0 30 [el 0 0, i6 6, el a b, i6 0] (.bool true) := by
  have hf := fits_fn a b
  rw [decide_eq_false h] at hf
  refine FnOk.of_vc vE_ok mixed sp0_ok (n := 1000) (r := []) (S := { sl := [(8, .bool true)] }) (hs := [fn 13 (.bool false)]) ?_
  refine Eq.mp (by kernel_rfl : (V.bool true = V.bool true ∧ ((True ∧ True ∧ True) ∧ True) ∧ FnOk Try.prog g0 49 [V.agg [V.int IntKind.i64 a, V.int IntKind.i64 b]] (V.bool false) ∧ True ∧ (true = ((6 : Int) == (6 : Int)) ∧ True) ∧ True) = _) ?_
  (repeat' (first | (with_reducible apply And.intro) | (refine fun (_ : True) => ?_))) <;> first | exact aq | skip
end Go.Proofs.Ytgdnmgcigkhojaa.Am
