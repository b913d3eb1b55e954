/- IndexPermutes: the law returns true, whatever it is called with: the walk. -/
import Derived.Test.YtmnaidemihcfaaaV11
import Derived.Test.YtmnaidemihcfaaaV10
namespace Go.Proofs.Ytmnaidemihcfaaa.Am
open Go.RowKit
set_option linter.unusedVariables false
set_option maxHeartbeats 1000000
set_option maxRecDepth 100000

abbrev qtS (A : V) (c p : List Int) (i k nq size : Int) (j : Nat) (more : List (Nat × V)) : SL := { sl := [(2, i6 i), (4, .int .u16 k), (12, .ptr 0 0), (13, i6 nq), (14, i6 size), (38, A), (39, i6 j)] ++ more, os := [.row 29 none [sl c, sl p]] }
abbrev q1S (A : V) (c p : List Int) (i k nq size : Int) (j : Nat) (x y : Int) (m : Nat) : SL := qtS A c p i k nq size j [(56, .agg [i6 x, i6 y]), (57, i6 m)]

theorem permuteS_len {c p : List Int} {t : Int} (h : count c = some t) (hl : p.length ≠ c.length) (u : Int) : PermuteS c p u = (0, 2) := by
  simp only [PermuteS, h]; rw [if_pos (.inl hl)]
theorem permuteS_perm {c p : List Int} {t : Int} (h : count c = some t) (hp : permC c.length 0 p = false) (u : Int) : PermuteS c p u = (0, 2) := by
  simp only [PermuteS, h]; rw [if_pos hp]; split <;> rfl
theorem permuteS_out {c p : List Int} {t : Int} (h : count c = some t) {u : Int} (hu : u < 0 ∨ t ≤ u) : PermuteS c p u = (0, 2) := by
  simp only [PermuteS, h]; rw [if_pos (.inr hu)]

theorem qinner (a1 a2 a3 a4 a5 a6 c p : List Int) (i k nq size : Int) (j : Nat) (x y : Int) (hlen : c.length ≤ 14) (hpl : p.length ≤ 14) (hno : (count c = none ∧ nq = 20 ∧ size = 0) ∨ (count c = some size ∧ nq = 0)) (m : Nat) (hm3 : m ≤ 2) :
    Sat Pg none 0 (at' 4 [1, 1, 0, 1, 0, 0, 1, 1, 0, 0, 1, 1, 1, 1, 1, 0]) (mkSt .e 113 (q1S (six a1 a2 a3 a4 a5 a6) c p i k nq size j x y m)) (outsP .e 113 [(True, .exit 2, qtS (six a1 a2 a3 a4 a5 a6) c p i k nq size j [])]) := by
  refine loopC vE_ok mixed sp0_ok (b := at' 4 [1, 1, 0, 1, 0, 0, 1, 1, 0, 0, 1, 1, 1, 1, 1, 0, 0]) (by kernel_rfl) (fun m => m ≤ 2) (q1S (six a1 a2 a3 a4 a5 a6) c p i k nq size j x y) (fun m => 2 - m) (fun m hm3 => ?_) m hm3
  by_cases hlt : m < 2
  · obtain ⟨u, hu⟩ := pick48 x y m hlt
    have hpm := permute_ok (gl := .e) c p u (by omega)
    rcases hno with ⟨hc, rfl, rfl⟩ | ⟨hc, rfl⟩
    · have e1 : PermuteS c p u = (0, 20) := by simp [PermuteS, hc]
      rw [e1] at hpm
      have ht := then_err false
      have hn := number_20 0
      refine .inl ⟨m + 1, [0], [yes 58, va 59 (i6 u), fn 66 (.tup [i6 0, i6 20]), fn 89 (i6 20), fn 109 (.bool true), nu 111 (m + 1 : Nat)], 1000, hlt, by omega, ?_⟩
      refine Eq.mp (by kernel_rfl : (decide ((↑m : Int) < (2 : Int)) = true ∧
            idxV (ctxOf Try.prog) (48 : Nat) (V.agg [i6 x, i6 y]) (↑m : Int) = some (i6 u) ∧
              (True ∧ True ∧ True ∧ True) ∧
                FnOk Try.prog T.e (31 : Nat) [V.im (List.length c) (ints c), V.im (List.length p) (ints p), V.int IntKind.i64 u]
                    (V.tup [i6 (0 : Int), i6 (20 : Int)]) ∧
                  True ∧
                    (True ∧ True ∧ True) ∧
                      FnOk Try.prog T.e (24 : Nat) [V.int IntKind.i64 (20 : Int), V.bool false] (i6 (20 : Int)) ∧
                        True ∧
                          (True ∧ True ∧ True ∧ True ∧ True) ∧
                            FnOk Try.prog T.e (26 : Nat)
                                [V.int IntKind.i64 (0 : Int), V.int IntKind.i64 (20 : Int), V.int IntKind.i64 (20 : Int),
                                  V.int IntKind.i64 (0 : Int)]
                                (V.bool true) ∧
                              True ∧
                                wr IntKind.i64 ((↑m : Int) + (1 : Int)) = (↑(m + (1 : Nat)) : Int) ∧
                                  (i = i ∧
                                      k = k ∧
                                        (0 : Nat) = (0 : Nat) ∧
                                          (20 : Int) = (20 : Int) ∧
                                            (0 : Int) = (0 : Int) ∧
                                              ((List.length a1 = List.length a1 ∧ ints a1 = ints a1) ∧
                                                  (List.length a2 = List.length a2 ∧ ints a2 = ints a2) ∧
                                                    (List.length a3 = List.length a3 ∧ ints a3 = ints a3) ∧
                                                      (List.length a4 = List.length a4 ∧ ints a4 = ints a4) ∧
                                                        (List.length a5 = List.length a5 ∧ ints a5 = ints a5) ∧
                                                          (List.length a6 = List.length a6 ∧ ints a6 = ints a6) ∧ True) ∧
                                                (↑j : Int) = (↑j : Int) ∧
                                                  (x = x ∧ y = y ∧ True) ∧
                                                    (↑(m + (1 : Nat)) : Int) = (↑(m + (1 : Nat)) : Int) ∧ True) ∧
                                    ([sl c, sl p] = [sl c, sl p] ∧ True ∧ True ∧ True) ∧ True) = _) ?_
      (repeat' (first | (with_reducible apply And.intro) | (refine fun (_ : True) => ?_))) <;> first | with_reducible (first | rfl | exact trivial | assumption | (refine decide_eq_true ?_ <;> omega) | (refine decide_eq_false ?_ <;> omega) | (refine head_ints1 ?_ <;> omega) | (refine bne_false ?_ <;> omega) | (refine bne_true ?_ <;> omega) | (refine beq_false' ?_ <;> omega) | (refine beq_true' ?_ <;> omega) | (refine wr6' ?_ ?_ ?_ <;> omega) | (refine rem6 ?_ <;> omega) | (refine quo6 ?_ ?_ ?_ <;> omega) | exact HfL_ints _ | omega) | ((with_reducible show (_ : V) = _); rfl) | (intro hk_; exfalso; revert hk_; simp; done) | (intros; simp_all; done) | (split <;> omega) | ((with_reducible show decide _ = true); exact decide_eq_true (by omega)) | ((with_reducible show decide _ = false); exact decide_eq_false (by omega)) | skip
    · obtain ⟨hg, rfl⟩ := good_of hc
      have t0 := then_yes
      have t2 := then_no
      have n2 := number_2 0
      have n0 := number_ok (partR c p u)
      by_cases hl : p.length = c.length
      · have hr := permref_ok p c.length hl (by omega)
        cases hp : permC c.length 0 p with
        | false =>
          rw [hp] at hr
          rw [permuteS_perm hc hp] at hpm
          refine .inl ⟨m + 1, [0], [yes 58, va 59 (i6 u), fn 66 (.tup [i6 0, i6 2]), fn 78 (.bool false), fn 89 (i6 2), fn 109 (.bool true), nu 111 (m + 1 : Nat)], 1000, hlt, by omega, ?_⟩
          refine Eq.mp (by kernel_rfl : (decide ((↑m : Int) < (2 : Int)) = true ∧
                idxV (ctxOf Try.prog) (48 : Nat) (V.agg [i6 x, i6 y]) (↑m : Int) = some (i6 u) ∧
                  (True ∧ True ∧ True ∧ True) ∧
                    FnOk Try.prog T.e (31 : Nat) [V.im (List.length c) (ints c), V.im (List.length p) (ints p), V.int IntKind.i64 u]
                        (V.tup [i6 (0 : Int), i6 (2 : Int)]) ∧
                      True ∧
                        (True ∧ True ∧ True) ∧
                          FnOk Try.prog T.e (32 : Nat) [V.im (List.length p) (ints p), V.int IntKind.i64 (↑(List.length c) : Int)]
                              (V.bool false) ∧
                            True ∧
                              (True ∧ True ∧ True) ∧
                                FnOk Try.prog T.e (24 : Nat) [V.int IntKind.i64 (0 : Int), V.bool false] (i6 (2 : Int)) ∧
                                  ((V.fn (32 : Nat) [] = V.fn (24 : Nat) [] →
                                        [sl p, V.int IntKind.i64 (↑(List.length c) : Int)] = [i6 (0 : Int), V.bool false] →
                                          ofOs T.e (0 : Nat) [O.row (29 : Nat) none [sl c, sl p]] =
                                              ofOs T.e (0 : Nat) [O.row (29 : Nat) none [sl c, sl p]] →
                                            (1 : Nat) = (1 : Nat) →
                                              CR.mk (V.bool false) (ofOs T.e (0 : Nat) [O.row (29 : Nat) none [sl c, sl p]]) (1 : Nat)
                                                  [] =
                                                CR.mk (i6 (2 : Int)) (ofOs T.e (0 : Nat) [O.row (29 : Nat) none [sl c, sl p]])
                                                  (1 : Nat) []) ∧
                                      True) ∧
                                    (True ∧ True ∧ True ∧ True ∧ True) ∧
                                      FnOk Try.prog T.e (26 : Nat)
                                          [V.int IntKind.i64 (0 : Int), V.int IntKind.i64 (2 : Int), V.int IntKind.i64 (2 : Int),
                                            V.int IntKind.i64 (0 : Int)]
                                          (V.bool true) ∧
                                        True ∧
                                          wr IntKind.i64 ((↑m : Int) + (1 : Int)) = (↑(m + (1 : Nat)) : Int) ∧
                                            (i = i ∧
                                                k = k ∧
                                                  (0 : Nat) = (0 : Nat) ∧
                                                    (0 : Int) = (0 : Int) ∧
                                                      prodL c = prodL c ∧
                                                        ((List.length a1 = List.length a1 ∧ ints a1 = ints a1) ∧
                                                            (List.length a2 = List.length a2 ∧ ints a2 = ints a2) ∧
                                                              (List.length a3 = List.length a3 ∧ ints a3 = ints a3) ∧
                                                                (List.length a4 = List.length a4 ∧ ints a4 = ints a4) ∧
                                                                  (List.length a5 = List.length a5 ∧ ints a5 = ints a5) ∧
                                                                    (List.length a6 = List.length a6 ∧ ints a6 = ints a6) ∧ True) ∧
                                                          (↑j : Int) = (↑j : Int) ∧
                                                            (x = x ∧ y = y ∧ True) ∧
                                                              (↑(m + (1 : Nat)) : Int) = (↑(m + (1 : Nat)) : Int) ∧ True) ∧
                                              ([sl c, sl p] = [sl c, sl p] ∧ True ∧ True ∧ True) ∧ True) = _) ?_
          (repeat' (first | (with_reducible apply And.intro) | (refine fun (_ : True) => ?_))) <;> first | with_reducible (first | rfl | exact trivial | assumption | (refine decide_eq_true ?_ <;> omega) | (refine decide_eq_false ?_ <;> omega) | (refine head_ints1 ?_ <;> omega) | (refine bne_false ?_ <;> omega) | (refine bne_true ?_ <;> omega) | (refine beq_false' ?_ <;> omega) | (refine beq_true' ?_ <;> omega) | (refine wr6' ?_ ?_ ?_ <;> omega) | (refine rem6 ?_ <;> omega) | (refine quo6 ?_ ?_ ?_ <;> omega) | exact HfL_ints _ | omega) | ((with_reducible show (_ : V) = _); rfl) | (intro hk_; exfalso; revert hk_; simp; done) | (intros; simp_all; done) | (split <;> omega) | ((with_reducible show decide _ = true); exact decide_eq_true (by omega)) | ((with_reducible show decide _ = false); exact decide_eq_false (by omega)) | skip
        | true =>
          rw [hp] at hr
          by_cases u0 : u < 0
          · rw [permuteS_out hc (.inl u0)] at hpm
            refine .inl ⟨m + 1, [0], [yes 58, va 59 (i6 u), fn 66 (.tup [i6 0, i6 2]), fn 78 (.bool true), no 82, fn 89 (i6 2), fn 109 (.bool true), nu 111 (m + 1 : Nat)], 1000, hlt, by omega, ?_⟩
            refine Eq.mp (by kernel_rfl : (decide ((↑m : Int) < (2 : Int)) = true ∧
                  idxV (ctxOf Try.prog) (48 : Nat) (V.agg [i6 x, i6 y]) (↑m : Int) = some (i6 u) ∧
                    (True ∧ True ∧ True ∧ True) ∧
                      FnOk Try.prog T.e (31 : Nat) [V.im (List.length c) (ints c), V.im (List.length p) (ints p), V.int IntKind.i64 u]
                          (V.tup [i6 (0 : Int), i6 (2 : Int)]) ∧
                        True ∧
                          (True ∧ True ∧ True) ∧
                            FnOk Try.prog T.e (32 : Nat) [V.im (List.length p) (ints p), V.int IntKind.i64 (↑(List.length c) : Int)]
                                (V.bool true) ∧
                              True ∧
                                decide (u ≥ (0 : Int)) = false ∧
                                  (True ∧ True ∧ True) ∧
                                    FnOk Try.prog T.e (24 : Nat) [V.int IntKind.i64 (0 : Int), V.bool false] (i6 (2 : Int)) ∧
                                      ((V.fn (32 : Nat) [] = V.fn (24 : Nat) [] →
                                            [sl p, V.int IntKind.i64 (↑(List.length c) : Int)] = [i6 (0 : Int), V.bool false] →
                                              ofOs T.e (0 : Nat) [O.row (29 : Nat) none [sl c, sl p]] =
                                                  ofOs T.e (0 : Nat) [O.row (29 : Nat) none [sl c, sl p]] →
                                                (1 : Nat) = (1 : Nat) →
                                                  CR.mk (V.bool true) (ofOs T.e (0 : Nat) [O.row (29 : Nat) none [sl c, sl p]])
                                                      (1 : Nat) [] =
                                                    CR.mk (i6 (2 : Int)) (ofOs T.e (0 : Nat) [O.row (29 : Nat) none [sl c, sl p]])
                                                      (1 : Nat) []) ∧
                                          True) ∧
                                        (True ∧ True ∧ True ∧ True ∧ True) ∧
                                          FnOk Try.prog T.e (26 : Nat)
                                              [V.int IntKind.i64 (0 : Int), V.int IntKind.i64 (2 : Int), V.int IntKind.i64 (2 : Int),
                                                V.int IntKind.i64 (0 : Int)]
                                              (V.bool true) ∧
                                            True ∧
                                              wr IntKind.i64 ((↑m : Int) + (1 : Int)) = (↑(m + (1 : Nat)) : Int) ∧
                                                (i = i ∧
                                                    k = k ∧
                                                      (0 : Nat) = (0 : Nat) ∧
                                                        (0 : Int) = (0 : Int) ∧
                                                          prodL c = prodL c ∧
                                                            ((List.length a1 = List.length a1 ∧ ints a1 = ints a1) ∧
                                                                (List.length a2 = List.length a2 ∧ ints a2 = ints a2) ∧
                                                                  (List.length a3 = List.length a3 ∧ ints a3 = ints a3) ∧
                                                                    (List.length a4 = List.length a4 ∧ ints a4 = ints a4) ∧
                                                                      (List.length a5 = List.length a5 ∧ ints a5 = ints a5) ∧
                                                                        (List.length a6 = List.length a6 ∧ ints a6 = ints a6) ∧ True) ∧
                                                              (↑j : Int) = (↑j : Int) ∧
                                                                (x = x ∧ y = y ∧ True) ∧
                                                                  (↑(m + (1 : Nat)) : Int) = (↑(m + (1 : Nat)) : Int) ∧ True) ∧
                                                  ([sl c, sl p] = [sl c, sl p] ∧ True ∧ True ∧ True) ∧ True) = _) ?_
            (repeat' (first | (with_reducible apply And.intro) | (refine fun (_ : True) => ?_))) <;> first | with_reducible (first | rfl | exact trivial | assumption | (refine decide_eq_true ?_ <;> omega) | (refine decide_eq_false ?_ <;> omega) | (refine head_ints1 ?_ <;> omega) | (refine bne_false ?_ <;> omega) | (refine bne_true ?_ <;> omega) | (refine beq_false' ?_ <;> omega) | (refine beq_true' ?_ <;> omega) | (refine wr6' ?_ ?_ ?_ <;> omega) | (refine rem6 ?_ <;> omega) | (refine quo6 ?_ ?_ ?_ <;> omega) | exact HfL_ints _ | omega) | ((with_reducible show (_ : V) = _); rfl) | (intro hk_; exfalso; revert hk_; simp; done) | (intros; simp_all; done) | (split <;> omega) | ((with_reducible show decide _ = true); exact decide_eq_true (by omega)) | ((with_reducible show decide _ = false); exact decide_eq_false (by omega)) | skip
          · by_cases u1 : prodL c ≤ u
            · rw [permuteS_out hc (.inr u1)] at hpm
              refine .inl ⟨m + 1, [0], [yes 58, va 59 (i6 u), fn 66 (.tup [i6 0, i6 2]), fn 78 (.bool true), yes 82, no 87, fn 89 (i6 2), fn 109 (.bool true), nu 111 (m + 1 : Nat)], 1000, hlt, by omega, ?_⟩
              refine Eq.mp (by kernel_rfl : (decide ((↑m : Int) < (2 : Int)) = true ∧
                    idxV (ctxOf Try.prog) (48 : Nat) (V.agg [i6 x, i6 y]) (↑m : Int) = some (i6 u) ∧
                      (True ∧ True ∧ True ∧ True) ∧
                        FnOk Try.prog T.e (31 : Nat) [V.im (List.length c) (ints c), V.im (List.length p) (ints p), V.int IntKind.i64 u]
                            (V.tup [i6 (0 : Int), i6 (2 : Int)]) ∧
                          True ∧
                            (True ∧ True ∧ True) ∧
                              FnOk Try.prog T.e (32 : Nat) [V.im (List.length p) (ints p), V.int IntKind.i64 (↑(List.length c) : Int)]
                                  (V.bool true) ∧
                                True ∧
                                  decide (u ≥ (0 : Int)) = true ∧
                                    decide (u < prodL c) = false ∧
                                      (True ∧ True ∧ True) ∧
                                        FnOk Try.prog T.e (24 : Nat) [V.int IntKind.i64 (0 : Int), V.bool false] (i6 (2 : Int)) ∧
                                          ((V.fn (32 : Nat) [] = V.fn (24 : Nat) [] →
                                                [sl p, V.int IntKind.i64 (↑(List.length c) : Int)] = [i6 (0 : Int), V.bool false] →
                                                  ofOs T.e (0 : Nat) [O.row (29 : Nat) none [sl c, sl p]] =
                                                      ofOs T.e (0 : Nat) [O.row (29 : Nat) none [sl c, sl p]] →
                                                    (1 : Nat) = (1 : Nat) →
                                                      CR.mk (V.bool true) (ofOs T.e (0 : Nat) [O.row (29 : Nat) none [sl c, sl p]])
                                                          (1 : Nat) [] =
                                                        CR.mk (i6 (2 : Int)) (ofOs T.e (0 : Nat) [O.row (29 : Nat) none [sl c, sl p]])
                                                          (1 : Nat) []) ∧
                                              True) ∧
                                            (True ∧ True ∧ True ∧ True ∧ True) ∧
                                              FnOk Try.prog T.e (26 : Nat)
                                                  [V.int IntKind.i64 (0 : Int), V.int IntKind.i64 (2 : Int), V.int IntKind.i64 (2 : Int),
                                                    V.int IntKind.i64 (0 : Int)]
                                                  (V.bool true) ∧
                                                True ∧
                                                  wr IntKind.i64 ((↑m : Int) + (1 : Int)) = (↑(m + (1 : Nat)) : Int) ∧
                                                    (i = i ∧
                                                        k = k ∧
                                                          (0 : Nat) = (0 : Nat) ∧
                                                            (0 : Int) = (0 : Int) ∧
                                                              prodL c = prodL c ∧
                                                                ((List.length a1 = List.length a1 ∧ ints a1 = ints a1) ∧
                                                                    (List.length a2 = List.length a2 ∧ ints a2 = ints a2) ∧
                                                                      (List.length a3 = List.length a3 ∧ ints a3 = ints a3) ∧
                                                                        (List.length a4 = List.length a4 ∧ ints a4 = ints a4) ∧
                                                                          (List.length a5 = List.length a5 ∧ ints a5 = ints a5) ∧
                                                                            (List.length a6 = List.length a6 ∧ ints a6 = ints a6) ∧
                                                                              True) ∧
                                                                  (↑j : Int) = (↑j : Int) ∧
                                                                    (x = x ∧ y = y ∧ True) ∧
                                                                      (↑(m + (1 : Nat)) : Int) = (↑(m + (1 : Nat)) : Int) ∧ True) ∧
                                                      ([sl c, sl p] = [sl c, sl p] ∧ True ∧ True ∧ True) ∧ True) = _) ?_
              (repeat' (first | (with_reducible apply And.intro) | (refine fun (_ : True) => ?_))) <;> first | with_reducible (first | rfl | exact trivial | assumption | (refine decide_eq_true ?_ <;> omega) | (refine decide_eq_false ?_ <;> omega) | (refine head_ints1 ?_ <;> omega) | (refine bne_false ?_ <;> omega) | (refine bne_true ?_ <;> omega) | (refine beq_false' ?_ <;> omega) | (refine beq_true' ?_ <;> omega) | (refine wr6' ?_ ?_ ?_ <;> omega) | (refine rem6 ?_ <;> omega) | (refine quo6 ?_ ?_ ?_ <;> omega) | exact HfL_ints _ | omega) | ((with_reducible show (_ : V) = _); rfl) | (intro hk_; exfalso; revert hk_; simp; done) | (intros; simp_all; done) | (split <;> omega) | ((with_reducible show decide _ = true); exact decide_eq_true (by omega)) | ((with_reducible show decide _ = false); exact decide_eq_false (by omega)) | skip
            · rw [permuteS_ok hg hc hl hp (by omega) (by omega)] at hpm
              have hP := perm_inL hp
              have b1 := at_ok c p hP (by omega)
              have b2 := values_fn c u hg (by omega) (by omega)
              have b3 := at_ok (valL c u) p (fun q hq => by have := hP q hq; rw [valL_length]; exact this) (by omega)
              have b4 : FnOk Pg .e 33 [sl (atL c p), sl (atL (valL c u) p)] (i6 (partR c p u)) := index_fn (atL c p) (atL (valL c u) p) (perm_good hg hl hp) (by simp [atL]) (at_fit (valL_fit hg (by omega) (by omega)) (valL_length _ _).symm hP)
              refine .inl ⟨m + 1, [0], [yes 58, va 59 (i6 u), fn 66 (.tup [i6 (partR c p u), i6 0]), fn 78 (.bool true), yes 82, yes 87, fn 89 (i6 0), fn 96 (sl (atL c p)), fn 100 (sl (valL c u)), fn 103 (sl (atL (valL c u) p)), fn 104 (i6 (partR c p u)), fn 109 (.bool true), nu 111 (m + 1 : Nat)], 1000, hlt, by omega, ?_⟩
              refine Eq.mp (by kernel_rfl : (decide ((↑m : Int) < (2 : Int)) = true ∧
                    idxV (ctxOf Try.prog) (48 : Nat) (V.agg [i6 x, i6 y]) (↑m : Int) = some (i6 u) ∧
                      (True ∧ True ∧ True ∧ True) ∧
                        FnOk Try.prog T.e (31 : Nat) [V.im (List.length c) (ints c), V.im (List.length p) (ints p), V.int IntKind.i64 u]
                            (V.tup [i6 (partR c p u), i6 (0 : Int)]) ∧
                          True ∧
                            (True ∧ True ∧ True) ∧
                              FnOk Try.prog T.e (32 : Nat) [V.im (List.length p) (ints p), V.int IntKind.i64 (↑(List.length c) : Int)]
                                  (V.bool true) ∧
                                True ∧
                                  decide (u ≥ (0 : Int)) = true ∧
                                    decide (u < prodL c) = true ∧
                                      (True ∧ True ∧ True) ∧
                                        FnOk Try.prog T.e (24 : Nat) [V.int IntKind.i64 (0 : Int), V.bool true] (i6 (0 : Int)) ∧
                                          ((V.fn (32 : Nat) [] = V.fn (24 : Nat) [] →
                                                [sl p, V.int IntKind.i64 (↑(List.length c) : Int)] = [i6 (0 : Int), V.bool true] →
                                                  ofOs T.e (0 : Nat) [O.row (29 : Nat) none [sl c, sl p]] =
                                                      ofOs T.e (0 : Nat) [O.row (29 : Nat) none [sl c, sl p]] →
                                                    (1 : Nat) = (1 : Nat) →
                                                      CR.mk (V.bool true) (ofOs T.e (0 : Nat) [O.row (29 : Nat) none [sl c, sl p]])
                                                          (1 : Nat) [] =
                                                        CR.mk (i6 (0 : Int)) (ofOs T.e (0 : Nat) [O.row (29 : Nat) none [sl c, sl p]])
                                                          (1 : Nat) []) ∧
                                              True) ∧
                                            (True ∧ True ∧ True) ∧
                                              FnOk Try.prog T.e (22 : Nat) [V.im (List.length c) (ints c), V.im (List.length p) (ints p)]
                                                  (sl (atL c p)) ∧
                                                True ∧
                                                  (True ∧ True ∧ True) ∧
                                                    FnOk Try.prog T.e (34 : Nat) [V.im (List.length c) (ints c), V.int IntKind.i64 u]
                                                        (sl (valL c u)) ∧
                                                      ((V.fn (22 : Nat) [] = V.fn (34 : Nat) [] →
                                                            [sl c, sl p] = [sl c, i6 u] →
                                                              ofOs T.e (0 : Nat) [O.row (29 : Nat) none [sl c, sl p]] =
                                                                  ofOs T.e (0 : Nat) [O.row (29 : Nat) none [sl c, sl p]] →
                                                                (1 : Nat) = (1 : Nat) →
                                                                  CR.mk (sl (atL c p))
                                                                      (ofOs T.e (0 : Nat) [O.row (29 : Nat) none [sl c, sl p]]) (1 : Nat)
                                                                      [] =
                                                                    CR.mk (sl (valL c u))
                                                                      (ofOs T.e (0 : Nat) [O.row (29 : Nat) none [sl c, sl p]]) (1 : Nat)
                                                                      []) ∧
                                                          True) ∧
                                                        (True ∧ True ∧ True) ∧
                                                          FnOk Try.prog T.e (22 : Nat)
                                                              [V.im (List.length (valL c u)) (ints (valL c u)),
                                                                V.im (List.length p) (ints p)]
                                                              (sl (atL (valL c u) p)) ∧
                                                            ((V.fn (34 : Nat) [] = V.fn (22 : Nat) [] →
                                                                  [sl c, i6 u] = [sl (valL c u), sl p] →
                                                                    ofOs T.e (0 : Nat) [O.row (29 : Nat) none [sl c, sl p]] =
                                                                        ofOs T.e (0 : Nat) [O.row (29 : Nat) none [sl c, sl p]] →
                                                                      (1 : Nat) = (1 : Nat) →
                                                                        CR.mk (sl (valL c u))
                                                                            (ofOs T.e (0 : Nat) [O.row (29 : Nat) none [sl c, sl p]])
                                                                            (1 : Nat) [] =
                                                                          CR.mk (sl (atL (valL c u) p))
                                                                            (ofOs T.e (0 : Nat) [O.row (29 : Nat) none [sl c, sl p]])
                                                                            (1 : Nat) []) ∧
                                                                (V.fn (22 : Nat) [] = V.fn (22 : Nat) [] →
                                                                    [sl c, sl p] = [sl (valL c u), sl p] →
                                                                      ofOs T.e (0 : Nat) [O.row (29 : Nat) none [sl c, sl p]] =
                                                                          ofOs T.e (0 : Nat) [O.row (29 : Nat) none [sl c, sl p]] →
                                                                        (1 : Nat) = (1 : Nat) →
                                                                          CR.mk (sl (atL c p))
                                                                              (ofOs T.e (0 : Nat) [O.row (29 : Nat) none [sl c, sl p]])
                                                                              (1 : Nat) [] =
                                                                            CR.mk (sl (atL (valL c u) p))
                                                                              (ofOs T.e (0 : Nat) [O.row (29 : Nat) none [sl c, sl p]])
                                                                              (1 : Nat) []) ∧
                                                                  True) ∧
                                                              (True ∧ True ∧ True) ∧
                                                                FnOk Try.prog T.e (33 : Nat)
                                                                    [V.im (List.length (atL c p)) (ints (atL c p)),
                                                                      V.im (List.length (atL (valL c u) p)) (ints (atL (valL c u) p))]
                                                                    (i6 (partR c p u)) ∧
                                                                  ((V.fn (22 : Nat) [] = V.fn (33 : Nat) [] →
                                                                        [sl (valL c u), sl p] = [sl (atL c p), sl (atL (valL c u) p)] →
                                                                          ofOs T.e (0 : Nat) [O.row (29 : Nat) none [sl c, sl p]] =
                                                                              ofOs T.e (0 : Nat) [O.row (29 : Nat) none [sl c, sl p]] →
                                                                            (1 : Nat) = (1 : Nat) →
                                                                              CR.mk (sl (atL (valL c u) p))
                                                                                  (ofOs T.e (0 : Nat)
                                                                                    [O.row (29 : Nat) none [sl c, sl p]])
                                                                                  (1 : Nat) [] =
                                                                                CR.mk (i6 (partR c p u))
                                                                                  (ofOs T.e (0 : Nat)
                                                                                    [O.row (29 : Nat) none [sl c, sl p]])
                                                                                  (1 : Nat) []) ∧
                                                                      (V.fn (34 : Nat) [] = V.fn (33 : Nat) [] →
                                                                          [sl c, i6 u] = [sl (atL c p), sl (atL (valL c u) p)] →
                                                                            ofOs T.e (0 : Nat) [O.row (29 : Nat) none [sl c, sl p]] =
                                                                                ofOs T.e (0 : Nat) [O.row (29 : Nat) none [sl c, sl p]] →
                                                                              (1 : Nat) = (1 : Nat) →
                                                                                CR.mk (sl (valL c u))
                                                                                    (ofOs T.e (0 : Nat)
                                                                                      [O.row (29 : Nat) none [sl c, sl p]])
                                                                                    (1 : Nat) [] =
                                                                                  CR.mk (i6 (partR c p u))
                                                                                    (ofOs T.e (0 : Nat)
                                                                                      [O.row (29 : Nat) none [sl c, sl p]])
                                                                                    (1 : Nat) []) ∧
                                                                        (V.fn (22 : Nat) [] = V.fn (33 : Nat) [] →
                                                                            [sl c, sl p] = [sl (atL c p), sl (atL (valL c u) p)] →
                                                                              ofOs T.e (0 : Nat) [O.row (29 : Nat) none [sl c, sl p]] =
                                                                                  ofOs T.e (0 : Nat)
                                                                                    [O.row (29 : Nat) none [sl c, sl p]] →
                                                                                (1 : Nat) = (1 : Nat) →
                                                                                  CR.mk (sl (atL c p))
                                                                                      (ofOs T.e (0 : Nat)
                                                                                        [O.row (29 : Nat) none [sl c, sl p]])
                                                                                      (1 : Nat) [] =
                                                                                    CR.mk (i6 (partR c p u))
                                                                                      (ofOs T.e (0 : Nat)
                                                                                        [O.row (29 : Nat) none [sl c, sl p]])
                                                                                      (1 : Nat) []) ∧
                                                                          True) ∧
                                                                    (True ∧ True ∧ True ∧ True ∧ True) ∧
                                                                      FnOk Try.prog T.e (26 : Nat)
                                                                          [V.int IntKind.i64 (partR c p u), V.int IntKind.i64 (0 : Int),
                                                                            V.int IntKind.i64 (0 : Int), V.int IntKind.i64 (partR c p u)]
                                                                          (V.bool true) ∧
                                                                        True ∧
                                                                          wr IntKind.i64 ((↑m : Int) + (1 : Int)) =
                                                                              (↑(m + (1 : Nat)) : Int) ∧
                                                                            (i = i ∧
                                                                                k = k ∧
                                                                                  (0 : Nat) = (0 : Nat) ∧
                                                                                    (0 : Int) = (0 : Int) ∧
                                                                                      prodL c = prodL c ∧
                                                                                        ((List.length a1 = List.length a1 ∧
                                                                                              ints a1 = ints a1) ∧
                                                                                            (List.length a2 = List.length a2 ∧
                                                                                                ints a2 = ints a2) ∧
                                                                                              (List.length a3 = List.length a3 ∧
                                                                                                  ints a3 = ints a3) ∧
                                                                                                (List.length a4 = List.length a4 ∧
                                                                                                    ints a4 = ints a4) ∧
                                                                                                  (List.length a5 = List.length a5 ∧
                                                                                                      ints a5 = ints a5) ∧
                                                                                                    (List.length a6 = List.length a6 ∧
                                                                                                        ints a6 = ints a6) ∧
                                                                                                      True) ∧
                                                                                          (↑j : Int) = (↑j : Int) ∧
                                                                                            (x = x ∧ y = y ∧ True) ∧
                                                                                              (↑(m + (1 : Nat)) : Int) =
                                                                                                  (↑(m + (1 : Nat)) : Int) ∧
                                                                                                True) ∧
                                                                              ([sl c, sl p] = [sl c, sl p] ∧ True ∧ True ∧ True) ∧ True) = _) ?_
              (repeat' (first | (with_reducible apply And.intro) | (refine fun (_ : True) => ?_))) <;> first | with_reducible (first | rfl | exact trivial | assumption | (refine decide_eq_true ?_ <;> omega) | (refine decide_eq_false ?_ <;> omega) | (refine head_ints1 ?_ <;> omega) | (refine bne_false ?_ <;> omega) | (refine bne_true ?_ <;> omega) | (refine beq_false' ?_ <;> omega) | (refine beq_true' ?_ <;> omega) | (refine wr6' ?_ ?_ ?_ <;> omega) | (refine rem6 ?_ <;> omega) | (refine quo6 ?_ ?_ ?_ <;> omega) | exact HfL_ints _ | omega) | ((with_reducible show (_ : V) = _); rfl) | (intro hk_; exfalso; revert hk_; simp; done) | (intros; simp_all; done) | (split <;> omega) | ((with_reducible show decide _ = true); exact decide_eq_true (by omega)) | ((with_reducible show decide _ = false); exact decide_eq_false (by omega)) | skip
              all_goals (intro _ h _ _; rw [← sl_inj (List.cons.inj h).1])
      · have hr := permref_len p c.length hl (by omega)
        rw [permuteS_len hc hl] at hpm
        refine .inl ⟨m + 1, [0], [yes 58, va 59 (i6 u), fn 66 (.tup [i6 0, i6 2]), fn 78 (.bool false), fn 89 (i6 2), fn 109 (.bool true), nu 111 (m + 1 : Nat)], 1000, hlt, by omega, ?_⟩
        refine Eq.mp (by kernel_rfl : (decide ((↑m : Int) < (2 : Int)) = true ∧
              idxV (ctxOf Try.prog) (48 : Nat) (V.agg [i6 x, i6 y]) (↑m : Int) = some (i6 u) ∧
                (True ∧ True ∧ True ∧ True) ∧
                  FnOk Try.prog T.e (31 : Nat) [V.im (List.length c) (ints c), V.im (List.length p) (ints p), V.int IntKind.i64 u]
                      (V.tup [i6 (0 : Int), i6 (2 : Int)]) ∧
                    True ∧
                      (True ∧ True ∧ True) ∧
                        FnOk Try.prog T.e (32 : Nat) [V.im (List.length p) (ints p), V.int IntKind.i64 (↑(List.length c) : Int)]
                            (V.bool false) ∧
                          True ∧
                            (True ∧ True ∧ True) ∧
                              FnOk Try.prog T.e (24 : Nat) [V.int IntKind.i64 (0 : Int), V.bool false] (i6 (2 : Int)) ∧
                                ((V.fn (32 : Nat) [] = V.fn (24 : Nat) [] →
                                      [sl p, V.int IntKind.i64 (↑(List.length c) : Int)] = [i6 (0 : Int), V.bool false] →
                                        ofOs T.e (0 : Nat) [O.row (29 : Nat) none [sl c, sl p]] =
                                            ofOs T.e (0 : Nat) [O.row (29 : Nat) none [sl c, sl p]] →
                                          (1 : Nat) = (1 : Nat) →
                                            CR.mk (V.bool false) (ofOs T.e (0 : Nat) [O.row (29 : Nat) none [sl c, sl p]]) (1 : Nat)
                                                [] =
                                              CR.mk (i6 (2 : Int)) (ofOs T.e (0 : Nat) [O.row (29 : Nat) none [sl c, sl p]])
                                                (1 : Nat) []) ∧
                                    True) ∧
                                  (True ∧ True ∧ True ∧ True ∧ True) ∧
                                    FnOk Try.prog T.e (26 : Nat)
                                        [V.int IntKind.i64 (0 : Int), V.int IntKind.i64 (2 : Int), V.int IntKind.i64 (2 : Int),
                                          V.int IntKind.i64 (0 : Int)]
                                        (V.bool true) ∧
                                      True ∧
                                        wr IntKind.i64 ((↑m : Int) + (1 : Int)) = (↑(m + (1 : Nat)) : Int) ∧
                                          (i = i ∧
                                              k = k ∧
                                                (0 : Nat) = (0 : Nat) ∧
                                                  (0 : Int) = (0 : Int) ∧
                                                    prodL c = prodL c ∧
                                                      ((List.length a1 = List.length a1 ∧ ints a1 = ints a1) ∧
                                                          (List.length a2 = List.length a2 ∧ ints a2 = ints a2) ∧
                                                            (List.length a3 = List.length a3 ∧ ints a3 = ints a3) ∧
                                                              (List.length a4 = List.length a4 ∧ ints a4 = ints a4) ∧
                                                                (List.length a5 = List.length a5 ∧ ints a5 = ints a5) ∧
                                                                  (List.length a6 = List.length a6 ∧ ints a6 = ints a6) ∧ True) ∧
                                                        (↑j : Int) = (↑j : Int) ∧
                                                          (x = x ∧ y = y ∧ True) ∧
                                                            (↑(m + (1 : Nat)) : Int) = (↑(m + (1 : Nat)) : Int) ∧ True) ∧
                                            ([sl c, sl p] = [sl c, sl p] ∧ True ∧ True ∧ True) ∧ True) = _) ?_
        (repeat' (first | (with_reducible apply And.intro) | (refine fun (_ : True) => ?_))) <;> first | with_reducible (first | rfl | exact trivial | assumption | (refine decide_eq_true ?_ <;> omega) | (refine decide_eq_false ?_ <;> omega) | (refine head_ints1 ?_ <;> omega) | (refine bne_false ?_ <;> omega) | (refine bne_true ?_ <;> omega) | (refine beq_false' ?_ <;> omega) | (refine beq_true' ?_ <;> omega) | (refine wr6' ?_ ?_ ?_ <;> omega) | (refine rem6 ?_ <;> omega) | (refine quo6 ?_ ?_ ?_ <;> omega) | exact HfL_ints _ | omega) | ((with_reducible show (_ : V) = _); rfl) | (intro hk_; exfalso; revert hk_; simp; done) | (intros; simp_all; done) | (split <;> omega) | ((with_reducible show decide _ = true); exact decide_eq_true (by omega)) | ((with_reducible show decide _ = false); exact decide_eq_false (by omega)) | skip
  · have : m = 2 := by omega
    subst this
    refine .inr ⟨.exit 2, [0], qtS (six a1 a2 a3 a4 a5 a6) c p i k nq size j [], [no 58], 1000, .inl ⟨trivial, rfl, rfl⟩, ?_⟩
    refine Eq.mp (by kernel_rfl : (decide ((↑(2 : Nat) : Int) < (2 : Int)) = false ∧
          (i = i ∧
              k = k ∧
                (0 : Nat) = (0 : Nat) ∧
                  nq = nq ∧
                    size = size ∧
                      ((List.length a1 = List.length a1 ∧ ints a1 = ints a1) ∧
                          (List.length a2 = List.length a2 ∧ ints a2 = ints a2) ∧
                            (List.length a3 = List.length a3 ∧ ints a3 = ints a3) ∧
                              (List.length a4 = List.length a4 ∧ ints a4 = ints a4) ∧
                                (List.length a5 = List.length a5 ∧ ints a5 = ints a5) ∧
                                  (List.length a6 = List.length a6 ∧ ints a6 = ints a6) ∧ True) ∧
                        (↑j : Int) = (↑j : Int) ∧ True) ∧
            ([sl c, sl p] = [sl c, sl p] ∧ True ∧ True ∧ True) ∧ True) = _) ?_
    (repeat' (first | (with_reducible apply And.intro) | (refine fun (_ : True) => ?_))) <;> first | with_reducible (first | rfl | exact trivial | assumption | (refine decide_eq_true ?_ <;> omega) | (refine decide_eq_false ?_ <;> omega) | (refine head_ints1 ?_ <;> omega) | (refine bne_false ?_ <;> omega) | (refine bne_true ?_ <;> omega) | (refine beq_false' ?_ <;> omega) | (refine beq_true' ?_ <;> omega) | (refine wr6' ?_ ?_ ?_ <;> omega) | (refine rem6 ?_ <;> omega) | (refine quo6 ?_ ?_ ?_ <;> omega) | exact HfL_ints _ | omega) | ((with_reducible show (_ : V) = _); rfl) | (intro hk_; exfalso; revert hk_; simp; done) | (intros; simp_all; done) | (split <;> omega) | ((with_reducible show decide _ = true); exact decide_eq_true (by omega)) | ((with_reducible show decide _ = false); exact decide_eq_false (by omega)) | skip

abbrev qoS (A : V) (i k : Int) (j : Nat) : SL := { sl := [(2, i6 i), (4, .int .u16 k), (38, A), (39, i6 j)] }

theorem qouter (a1 a2 a3 a4 a5 a6 : List Int) (i k : Int) (hk0 : 0 ≤ k) (hk1 : k ≤ 65535) (h1 : a1.length ≤ 14) (h2 : a2.length ≤ 14) (h3 : a3.length ≤ 14) (h4 : a4.length ≤ 14) (h5 : a5.length ≤ 14) (h6 : a6.length ≤ 14) (j : Nat) (hj : j ≤ 3) :
    Sat Pg none 0 (at' 4 [1, 1, 0, 1, 0]) (mkSt .e 113 (qoS (six a1 a2 a3 a4 a5 a6) i k j)) (outsP .e 113 [(True, .exit 0, { sl := [] })]) := by
  refine loopC vE_ok mixed sp0_ok (b := at' 4 [1, 1, 0, 1, 0, 0]) (by kernel_rfl) (fun j => j ≤ 3) (qoS (six a1 a2 a3 a4 a5 a6) i k) (fun j => 3 - j) (fun j hj => ?_) j hj
  by_cases hlt : j < 3
  · obtain ⟨c, p, hcp, hcc⟩ := pick31 a1 a2 a3 a4 a5 a6 j hlt
    have hlen : c.length ≤ 14 := by rcases hcc with ⟨rfl, rfl⟩ | ⟨rfl, rfl⟩ | ⟨rfl, rfl⟩ <;> assumption
    have hpl : p.length ≤ 14 := by rcases hcc with ⟨rfl, rfl⟩ | ⟨rfl, rfl⟩ | ⟨rfl, rfl⟩ <;> assumption
    have hfirst := first_ok c
    cases hcount : count c with
    | none =>
      rw [hcount] at hfirst
      have hf' : FnOk Pg .e 19 [sl c] (i6 20) := hfirst
      have hl := qinner a1 a2 a3 a4 a5 a6 c p i k 20 0 j i (k.tmod 1) hlen hpl (.inl ⟨hcount, rfl, rfl⟩) 0 (Nat.zero_le _)
      refine .inl ⟨j + 1, [], [yes 40, va 41 (.agg [sl c, sl p]), fn 44 (i6 20), nu 52 k, nu 54 1, (0, .loop [0] (q1S (six a1 a2 a3 a4 a5 a6) c p i k 20 0 j i (k.tmod 1) 0) [(True, .exit 2, qtS (six a1 a2 a3 a4 a5 a6) c p i k 20 0 j [])]), nu 112 (j + 1 : Nat)], 1000, hlt, by omega, ?_⟩
      refine Eq.mp (by kernel_rfl : (decide ((↑j : Int) < (3 : Int)) = true ∧
            idxV (ctxOf Try.prog) (31 : Nat) (six a1 a2 a3 a4 a5 a6) (↑j : Int) = some (V.agg [sl c, sl p]) ∧
              (True ∧ True) ∧
                FnOk Try.prog T.e (19 : Nat) [V.im (List.length c) (ints c)] (i6 (20 : Int)) ∧
                  True ∧
                    wr IntKind.i64 k = k ∧
                      (if (0 : Int) > (1 : Int) then (0 : Int) else (1 : Int)) = (1 : Int) ∧
                        ((i = i ∧
                              k = k ∧
                                (0 : Nat) = (0 : Nat) ∧
                                  (20 : Int) = (20 : Int) ∧
                                    (0 : Int) = (0 : Int) ∧
                                      ((List.length a1 = List.length a1 ∧ ints a1 = ints a1) ∧
                                          (List.length a2 = List.length a2 ∧ ints a2 = ints a2) ∧
                                            (List.length a3 = List.length a3 ∧ ints a3 = ints a3) ∧
                                              (List.length a4 = List.length a4 ∧ ints a4 = ints a4) ∧
                                                (List.length a5 = List.length a5 ∧ ints a5 = ints a5) ∧
                                                  (List.length a6 = List.length a6 ∧ ints a6 = ints a6) ∧ True) ∧
                                        (↑j : Int) = (↑j : Int) ∧
                                          (i = i ∧ Int.tmod k (1 : Int) = Int.tmod k (1 : Int) ∧ True) ∧
                                            (↑(0 : Nat) : Int) = (0 : Int) ∧ True) ∧
                            ([sl c, sl p] = [sl c, sl p] ∧ True ∧ True ∧ True) ∧ True) ∧
                          Sat Try.prog none (0 : Nat)
                              (at' (4 : Nat)
                                [(1 : Nat), (1 : Nat), (0 : Nat), (1 : Nat), (0 : Nat), (0 : Nat), (1 : Nat), (1 : Nat),
                                  (0 : Nat), (0 : Nat), (1 : Nat), (1 : Nat), (1 : Nat), (1 : Nat), (1 : Nat), (0 : Nat)])
                              (mkSt T.e (113 : Nat)
                                (q1S (six a1 a2 a3 a4 a5 a6) c p i k (20 : Int) (0 : Int) j i (Int.tmod k (1 : Int)) (0 : Nat)))
                              (outsP T.e (113 : Nat)
                                [(True, Ex.exit (2 : Nat), qtS (six a1 a2 a3 a4 a5 a6) c p i k (20 : Int) (0 : Int) j [])]) ∧
                            (True →
                                wr IntKind.i64 ((↑j : Int) + (1 : Int)) = (↑(j + (1 : Nat)) : Int) ∧
                                  (i = i ∧
                                      k = k ∧
                                        ((List.length a1 = List.length a1 ∧ ints a1 = ints a1) ∧
                                            (List.length a2 = List.length a2 ∧ ints a2 = ints a2) ∧
                                              (List.length a3 = List.length a3 ∧ ints a3 = ints a3) ∧
                                                (List.length a4 = List.length a4 ∧ ints a4 = ints a4) ∧
                                                  (List.length a5 = List.length a5 ∧ ints a5 = ints a5) ∧
                                                    (List.length a6 = List.length a6 ∧ ints a6 = ints a6) ∧ True) ∧
                                          (↑(j + (1 : Nat)) : Int) = (↑(j + (1 : Nat)) : Int) ∧ True) ∧
                                    True) ∧
                              True) = _) ?_
      (repeat' (first | (with_reducible apply And.intro) | (refine fun (_ : True) => ?_))) <;> first | with_reducible (first | rfl | exact trivial | assumption | (refine decide_eq_true ?_ <;> omega) | (refine decide_eq_false ?_ <;> omega) | (refine head_ints1 ?_ <;> omega) | (refine bne_false ?_ <;> omega) | (refine bne_true ?_ <;> omega) | (refine beq_false' ?_ <;> omega) | (refine beq_true' ?_ <;> omega) | (refine wr6' ?_ ?_ ?_ <;> omega) | (refine rem6 ?_ <;> omega) | (refine quo6 ?_ ?_ ?_ <;> omega) | exact HfL_ints _ | omega) | ((with_reducible show (_ : V) = _); rfl) | (intro hk_; exfalso; revert hk_; simp; done) | (intros; simp_all; done) | (split <;> omega) | ((with_reducible show decide _ = true); exact decide_eq_true (by omega)) | ((with_reducible show decide _ = false); exact decide_eq_false (by omega)) | skip
    | some t =>
      obtain ⟨hg, rfl⟩ := good_of hcount
      rw [hcount] at hfirst
      have hf' : FnOk Pg .e 19 [sl c] (i6 0) := hfirst
      have hsz := size_fn c (fits_good hg) (by omega)
      have hpos := hg.pos
      have hl := qinner a1 a2 a3 a4 a5 a6 c p i k 0 (prodL c) j i (k.tmod (prodL c)) hlen hpl (.inr ⟨hcount, rfl⟩) 0 (Nat.zero_le _)
      refine .inl ⟨j + 1, [], [yes 40, va 41 (.agg [sl c, sl p]), fn 44 (i6 0), fn 49 (i6 (prodL c)), nu 52 k, nu 54 (prodL c), va 55 (i6 (k.tmod (prodL c))), (0, .loop [0] (q1S (six a1 a2 a3 a4 a5 a6) c p i k 0 (prodL c) j i (k.tmod (prodL c)) 0) [(True, .exit 2, qtS (six a1 a2 a3 a4 a5 a6) c p i k 0 (prodL c) j [])]), nu 112 (j + 1 : Nat)], 1000, hlt, by omega, ?_⟩
      refine Eq.mp (by kernel_rfl : (decide ((↑j : Int) < (3 : Int)) = true ∧
            idxV (ctxOf Try.prog) (31 : Nat) (six a1 a2 a3 a4 a5 a6) (↑j : Int) = some (V.agg [sl c, sl p]) ∧
              (True ∧ True) ∧
                FnOk Try.prog T.e (19 : Nat) [V.im (List.length c) (ints c)] (i6 (0 : Int)) ∧
                  True ∧
                    (True ∧ True) ∧
                      FnOk Try.prog T.e (21 : Nat) [V.im (List.length c) (ints c)] (i6 (prodL c)) ∧
                        True ∧
                          wr IntKind.i64 k = k ∧
                            (if prodL c > (1 : Int) then prodL c else (1 : Int)) = prodL c ∧
                              binV (ctxOf Try.prog) BinOp.rem (3 : Nat) (V.int IntKind.i64 k) (V.int IntKind.i64 (prodL c)) =
                                  some (i6 (Int.tmod k (prodL c))) ∧
                                ((i = i ∧
                                      k = k ∧
                                        (0 : Nat) = (0 : Nat) ∧
                                          (0 : Int) = (0 : Int) ∧
                                            prodL c = prodL c ∧
                                              ((List.length a1 = List.length a1 ∧ ints a1 = ints a1) ∧
                                                  (List.length a2 = List.length a2 ∧ ints a2 = ints a2) ∧
                                                    (List.length a3 = List.length a3 ∧ ints a3 = ints a3) ∧
                                                      (List.length a4 = List.length a4 ∧ ints a4 = ints a4) ∧
                                                        (List.length a5 = List.length a5 ∧ ints a5 = ints a5) ∧
                                                          (List.length a6 = List.length a6 ∧ ints a6 = ints a6) ∧ True) ∧
                                                (↑j : Int) = (↑j : Int) ∧
                                                  (i = i ∧ Int.tmod k (prodL c) = Int.tmod k (prodL c) ∧ True) ∧
                                                    (↑(0 : Nat) : Int) = (0 : Int) ∧ True) ∧
                                    ([sl c, sl p] = [sl c, sl p] ∧ True ∧ True ∧ True) ∧ True) ∧
                                  Sat Try.prog none (0 : Nat)
                                      (at' (4 : Nat)
                                        [(1 : Nat), (1 : Nat), (0 : Nat), (1 : Nat), (0 : Nat), (0 : Nat), (1 : Nat), (1 : Nat),
                                          (0 : Nat), (0 : Nat), (1 : Nat), (1 : Nat), (1 : Nat), (1 : Nat), (1 : Nat), (0 : Nat)])
                                      (mkSt T.e (113 : Nat)
                                        (q1S (six a1 a2 a3 a4 a5 a6) c p i k (0 : Int) (prodL c) j i (Int.tmod k (prodL c))
                                          (0 : Nat)))
                                      (outsP T.e (113 : Nat)
                                        [(True, Ex.exit (2 : Nat),
                                            qtS (six a1 a2 a3 a4 a5 a6) c p i k (0 : Int) (prodL c) j [])]) ∧
                                    (True →
                                        wr IntKind.i64 ((↑j : Int) + (1 : Int)) = (↑(j + (1 : Nat)) : Int) ∧
                                          (i = i ∧
                                              k = k ∧
                                                ((List.length a1 = List.length a1 ∧ ints a1 = ints a1) ∧
                                                    (List.length a2 = List.length a2 ∧ ints a2 = ints a2) ∧
                                                      (List.length a3 = List.length a3 ∧ ints a3 = ints a3) ∧
                                                        (List.length a4 = List.length a4 ∧ ints a4 = ints a4) ∧
                                                          (List.length a5 = List.length a5 ∧ ints a5 = ints a5) ∧
                                                            (List.length a6 = List.length a6 ∧ ints a6 = ints a6) ∧ True) ∧
                                                  (↑(j + (1 : Nat)) : Int) = (↑(j + (1 : Nat)) : Int) ∧ True) ∧
                                            True) ∧
                                      True) = _) ?_
      (repeat' (first | (with_reducible apply And.intro) | (refine fun (_ : True) => ?_))) <;> first | with_reducible (first | rfl | exact trivial | assumption | (refine decide_eq_true ?_ <;> omega) | (refine decide_eq_false ?_ <;> omega) | (refine head_ints1 ?_ <;> omega) | (refine bne_false ?_ <;> omega) | (refine bne_true ?_ <;> omega) | (refine beq_false' ?_ <;> omega) | (refine beq_true' ?_ <;> omega) | (refine wr6' ?_ ?_ ?_ <;> omega) | (refine rem6 ?_ <;> omega) | (refine quo6 ?_ ?_ ?_ <;> omega) | exact HfL_ints _ | omega) | ((with_reducible show (_ : V) = _); rfl) | (intro hk_; exfalso; revert hk_; simp; done) | (intros; simp_all; done) | (split <;> omega) | ((with_reducible show decide _ = true); exact decide_eq_true (by omega)) | ((with_reducible show decide _ = false); exact decide_eq_false (by omega)) | skip
  · have : j = 3 := by omega
    subst this
    refine .inr ⟨.exit 0, [], { sl := [] }, [no 40], 1000, .inl ⟨trivial, rfl, rfl⟩, ?_⟩
    refine Eq.mp (by kernel_rfl : (decide ((↑(3 : Nat) : Int) < (3 : Int)) = false ∧ True ∧ True) = _) ?_
    (repeat' (first | (with_reducible apply And.intro) | (refine fun (_ : True) => ?_))) <;> first | with_reducible (first | rfl | exact trivial | assumption | (refine decide_eq_true ?_ <;> omega) | (refine decide_eq_false ?_ <;> omega) | (refine head_ints1 ?_ <;> omega) | (refine bne_false ?_ <;> omega) | (refine bne_true ?_ <;> omega) | (refine beq_false' ?_ <;> omega) | (refine beq_true' ?_ <;> omega) | (refine wr6' ?_ ?_ ?_ <;> omega) | (refine rem6 ?_ <;> omega) | (refine quo6 ?_ ?_ ?_ <;> omega) | exact HfL_ints _ | omega) | ((with_reducible show (_ : V) = _); rfl) | (intro hk_; exfalso; revert hk_; simp; done) | (intros; simp_all; done) | (split <;> omega) | ((with_reducible show decide _ = true); exact decide_eq_true (by omega)) | ((with_reducible show decide _ = false); exact decide_eq_false (by omega)) | skip

theorem permutes_true (L M C D : List Int) (i w k : Int) (hC : u8s C) (hD : u8s D) (hk0 : 0 ≤ k) (hk1 : k ≤ 65535) : FnOk Pg .e 4 [sl L, sl M, i6 i, drV C D w, .int .u16 k] (.bool true) := by
  have hw := works_ok
  have hcut := cut_ok L
  have hcut2 := cut_ok M
  have hcards := cards_fn C D w hC
  have hpl := permdraft_fn C D w hC hD
  have hpl5 := permD_len D (cardsD C).length
  have hcd5 : (cardsD C).length ≤ 5 := by simp [cardsD]; omega
  have hl := qouter (L.take 14) (M.take 14) (cardsD C) (M.take 14) (cardsD C) (permD D (cardsD C).length) i k hk0 hk1 (by simp; omega) (by simp; omega) (by omega) (by simp; omega) (by omega) (by omega) 0 (Nat.zero_le _)
  refine FnOk.of_vc vE_ok mixed sp0_ok (n := 1000) (r := []) (S := boE 10 true) (hs := [fn 21 (.bool true), fn 24 (sl (L.take 14)), fn 26 (sl (M.take 14)), fn 29 (sl (cardsD C)), fn 31 (sl (M.take 14)), fn 34 (sl (cardsD C)), fn 36 (sl (permD D (cardsD C).length)), (0, .loop [] (qoS (six (L.take 14) (M.take 14) (cardsD C) (M.take 14) (cardsD C) (permD D (cardsD C).length)) i k 0) [(True, .exit 0, { sl := [] })])]) ?_
  refine Eq.mp (by kernel_rfl : (V.bool true = V.bool true ∧
        True ∧
          FnOk Try.prog T.e (15 : Nat) [] (V.bool true) ∧
            True ∧
              (True ∧ True) ∧
                FnOk Try.prog T.e (16 : Nat) [V.im (List.length L) (ints L)] (sl (List.take (14 : Nat) L)) ∧
                  True ∧
                    (True ∧ True) ∧
                      FnOk Try.prog T.e (16 : Nat) [V.im (List.length M) (ints M)] (sl (List.take (14 : Nat) M)) ∧
                        ((V.fn (16 : Nat) [] = V.fn (16 : Nat) [] →
                              [sl L] = [sl M] →
                                pt T.e (0 : Nat) (O.row (26 : Nat) none [sl8 C, V.int IntKind.u16 w, sl8 D]) =
                                    pt T.e (0 : Nat) (O.row (26 : Nat) none [sl8 C, V.int IntKind.u16 w, sl8 D]) →
                                  (0 : Nat) + (1 : Nat) = (0 : Nat) + (1 : Nat) →
                                    CR.mk (sl (List.take (14 : Nat) L))
                                        (pt T.e (0 : Nat) (O.row (26 : Nat) none [sl8 C, V.int IntKind.u16 w, sl8 D]))
                                        ((0 : Nat) + (1 : Nat)) [] =
                                      CR.mk (sl (List.take (14 : Nat) M))
                                        (pt T.e (0 : Nat) (O.row (26 : Nat) none [sl8 C, V.int IntKind.u16 w, sl8 D]))
                                        ((0 : Nat) + (1 : Nat)) []) ∧
                            True) ∧
                          ((True ∧ True ∧ True ∧ True) ∧ True) ∧
                            FnOk Try.prog T.e (17 : Nat)
                                [V.agg
                                    [V.im (List.length C) (List.map (V.int IntKind.u8) C), V.int IntKind.u16 w,
                                      V.im (List.length D) (List.map (V.int IntKind.u8) D)]]
                                (sl (cardsD C)) ∧
                              ((V.fn (16 : Nat) [] = V.fn (17 : Nat) [] →
                                    [sl M] = [V.agg [sl8 C, V.int IntKind.u16 w, sl8 D]] →
                                      pt T.e (0 : Nat) (O.row (26 : Nat) none [sl8 C, V.int IntKind.u16 w, sl8 D]) =
                                          pt T.e (0 : Nat) (O.row (26 : Nat) none [sl8 C, V.int IntKind.u16 w, sl8 D]) →
                                        (0 : Nat) + (1 : Nat) = (0 : Nat) + (1 : Nat) →
                                          CR.mk (sl (List.take (14 : Nat) M))
                                              (pt T.e (0 : Nat) (O.row (26 : Nat) none [sl8 C, V.int IntKind.u16 w, sl8 D]))
                                              ((0 : Nat) + (1 : Nat)) [] =
                                            CR.mk (sl (cardsD C))
                                              (pt T.e (0 : Nat) (O.row (26 : Nat) none [sl8 C, V.int IntKind.u16 w, sl8 D]))
                                              ((0 : Nat) + (1 : Nat)) []) ∧
                                  (V.fn (16 : Nat) [] = V.fn (17 : Nat) [] →
                                      [sl L] = [V.agg [sl8 C, V.int IntKind.u16 w, sl8 D]] →
                                        pt T.e (0 : Nat) (O.row (26 : Nat) none [sl8 C, V.int IntKind.u16 w, sl8 D]) =
                                            pt T.e (0 : Nat) (O.row (26 : Nat) none [sl8 C, V.int IntKind.u16 w, sl8 D]) →
                                          (0 : Nat) + (1 : Nat) = (0 : Nat) + (1 : Nat) →
                                            CR.mk (sl (List.take (14 : Nat) L))
                                                (pt T.e (0 : Nat) (O.row (26 : Nat) none [sl8 C, V.int IntKind.u16 w, sl8 D]))
                                                ((0 : Nat) + (1 : Nat)) [] =
                                              CR.mk (sl (cardsD C))
                                                (pt T.e (0 : Nat) (O.row (26 : Nat) none [sl8 C, V.int IntKind.u16 w, sl8 D]))
                                                ((0 : Nat) + (1 : Nat)) []) ∧
                                    True) ∧
                                (True ∧ True) ∧
                                  FnOk Try.prog T.e (16 : Nat) [V.im (List.length M) (ints M)] (sl (List.take (14 : Nat) M)) ∧
                                    ((V.fn (17 : Nat) [] = V.fn (16 : Nat) [] →
                                          [V.agg [sl8 C, V.int IntKind.u16 w, sl8 D]] = [sl M] →
                                            pt T.e (0 : Nat) (O.row (26 : Nat) none [sl8 C, V.int IntKind.u16 w, sl8 D]) =
                                                pt T.e (0 : Nat) (O.row (26 : Nat) none [sl8 C, V.int IntKind.u16 w, sl8 D]) →
                                              (0 : Nat) + (1 : Nat) = (0 : Nat) + (1 : Nat) →
                                                CR.mk (sl (cardsD C))
                                                    (pt T.e (0 : Nat)
                                                      (O.row (26 : Nat) none [sl8 C, V.int IntKind.u16 w, sl8 D]))
                                                    ((0 : Nat) + (1 : Nat)) [] =
                                                  CR.mk (sl (List.take (14 : Nat) M))
                                                    (pt T.e (0 : Nat)
                                                      (O.row (26 : Nat) none [sl8 C, V.int IntKind.u16 w, sl8 D]))
                                                    ((0 : Nat) + (1 : Nat)) []) ∧
                                        (V.fn (16 : Nat) [] = V.fn (16 : Nat) [] →
                                            [sl M] = [sl M] →
                                              pt T.e (0 : Nat) (O.row (26 : Nat) none [sl8 C, V.int IntKind.u16 w, sl8 D]) =
                                                  pt T.e (0 : Nat)
                                                    (O.row (26 : Nat) none [sl8 C, V.int IntKind.u16 w, sl8 D]) →
                                                (0 : Nat) + (1 : Nat) = (0 : Nat) + (1 : Nat) →
                                                  CR.mk (sl (List.take (14 : Nat) M))
                                                      (pt T.e (0 : Nat)
                                                        (O.row (26 : Nat) none [sl8 C, V.int IntKind.u16 w, sl8 D]))
                                                      ((0 : Nat) + (1 : Nat)) [] =
                                                    CR.mk (sl (List.take (14 : Nat) M))
                                                      (pt T.e (0 : Nat)
                                                        (O.row (26 : Nat) none [sl8 C, V.int IntKind.u16 w, sl8 D]))
                                                      ((0 : Nat) + (1 : Nat)) []) ∧
                                          (V.fn (16 : Nat) [] = V.fn (16 : Nat) [] →
                                              [sl L] = [sl M] →
                                                pt T.e (0 : Nat) (O.row (26 : Nat) none [sl8 C, V.int IntKind.u16 w, sl8 D]) =
                                                    pt T.e (0 : Nat)
                                                      (O.row (26 : Nat) none [sl8 C, V.int IntKind.u16 w, sl8 D]) →
                                                  (0 : Nat) + (1 : Nat) = (0 : Nat) + (1 : Nat) →
                                                    CR.mk (sl (List.take (14 : Nat) L))
                                                        (pt T.e (0 : Nat)
                                                          (O.row (26 : Nat) none [sl8 C, V.int IntKind.u16 w, sl8 D]))
                                                        ((0 : Nat) + (1 : Nat)) [] =
                                                      CR.mk (sl (List.take (14 : Nat) M))
                                                        (pt T.e (0 : Nat)
                                                          (O.row (26 : Nat) none [sl8 C, V.int IntKind.u16 w, sl8 D]))
                                                        ((0 : Nat) + (1 : Nat)) []) ∧
                                            True) ∧
                                      ((True ∧ True ∧ True ∧ True) ∧ True) ∧
                                        FnOk Try.prog T.e (17 : Nat)
                                            [V.agg
                                                [V.im (List.length C) (List.map (V.int IntKind.u8) C), V.int IntKind.u16 w,
                                                  V.im (List.length D) (List.map (V.int IntKind.u8) D)]]
                                            (sl (cardsD C)) ∧
                                          ((V.fn (16 : Nat) [] = V.fn (17 : Nat) [] →
                                                [sl M] = [V.agg [sl8 C, V.int IntKind.u16 w, sl8 D]] →
                                                  pt T.e (0 : Nat)
                                                        (O.row (26 : Nat) none [sl8 C, V.int IntKind.u16 w, sl8 D]) =
                                                      pt T.e (0 : Nat)
                                                        (O.row (26 : Nat) none [sl8 C, V.int IntKind.u16 w, sl8 D]) →
                                                    (0 : Nat) + (1 : Nat) = (0 : Nat) + (1 : Nat) →
                                                      CR.mk (sl (List.take (14 : Nat) M))
                                                          (pt T.e (0 : Nat)
                                                            (O.row (26 : Nat) none [sl8 C, V.int IntKind.u16 w, sl8 D]))
                                                          ((0 : Nat) + (1 : Nat)) [] =
                                                        CR.mk (sl (cardsD C))
                                                          (pt T.e (0 : Nat)
                                                            (O.row (26 : Nat) none [sl8 C, V.int IntKind.u16 w, sl8 D]))
                                                          ((0 : Nat) + (1 : Nat)) []) ∧
                                              (V.fn (17 : Nat) [] = V.fn (17 : Nat) [] →
                                                  [V.agg [sl8 C, V.int IntKind.u16 w, sl8 D]] =
                                                      [V.agg [sl8 C, V.int IntKind.u16 w, sl8 D]] →
                                                    pt T.e (0 : Nat)
                                                          (O.row (26 : Nat) none [sl8 C, V.int IntKind.u16 w, sl8 D]) =
                                                        pt T.e (0 : Nat)
                                                          (O.row (26 : Nat) none [sl8 C, V.int IntKind.u16 w, sl8 D]) →
                                                      (0 : Nat) + (1 : Nat) = (0 : Nat) + (1 : Nat) →
                                                        CR.mk (sl (cardsD C))
                                                            (pt T.e (0 : Nat)
                                                              (O.row (26 : Nat) none [sl8 C, V.int IntKind.u16 w, sl8 D]))
                                                            ((0 : Nat) + (1 : Nat)) [] =
                                                          CR.mk (sl (cardsD C))
                                                            (pt T.e (0 : Nat)
                                                              (O.row (26 : Nat) none [sl8 C, V.int IntKind.u16 w, sl8 D]))
                                                            ((0 : Nat) + (1 : Nat)) []) ∧
                                                (V.fn (16 : Nat) [] = V.fn (17 : Nat) [] →
                                                    [sl M] = [V.agg [sl8 C, V.int IntKind.u16 w, sl8 D]] →
                                                      pt T.e (0 : Nat)
                                                            (O.row (26 : Nat) none [sl8 C, V.int IntKind.u16 w, sl8 D]) =
                                                          pt T.e (0 : Nat)
                                                            (O.row (26 : Nat) none [sl8 C, V.int IntKind.u16 w, sl8 D]) →
                                                        (0 : Nat) + (1 : Nat) = (0 : Nat) + (1 : Nat) →
                                                          CR.mk (sl (List.take (14 : Nat) M))
                                                              (pt T.e (0 : Nat)
                                                                (O.row (26 : Nat) none [sl8 C, V.int IntKind.u16 w, sl8 D]))
                                                              ((0 : Nat) + (1 : Nat)) [] =
                                                            CR.mk (sl (cardsD C))
                                                              (pt T.e (0 : Nat)
                                                                (O.row (26 : Nat) none [sl8 C, V.int IntKind.u16 w, sl8 D]))
                                                              ((0 : Nat) + (1 : Nat)) []) ∧
                                                  (V.fn (16 : Nat) [] = V.fn (17 : Nat) [] →
                                                      [sl L] = [V.agg [sl8 C, V.int IntKind.u16 w, sl8 D]] →
                                                        pt T.e (0 : Nat)
                                                              (O.row (26 : Nat) none [sl8 C, V.int IntKind.u16 w, sl8 D]) =
                                                            pt T.e (0 : Nat)
                                                              (O.row (26 : Nat) none [sl8 C, V.int IntKind.u16 w, sl8 D]) →
                                                          (0 : Nat) + (1 : Nat) = (0 : Nat) + (1 : Nat) →
                                                            CR.mk (sl (List.take (14 : Nat) L))
                                                                (pt T.e (0 : Nat)
                                                                  (O.row (26 : Nat) none [sl8 C, V.int IntKind.u16 w, sl8 D]))
                                                                ((0 : Nat) + (1 : Nat)) [] =
                                                              CR.mk (sl (cardsD C))
                                                                (pt T.e (0 : Nat)
                                                                  (O.row (26 : Nat) none [sl8 C, V.int IntKind.u16 w, sl8 D]))
                                                                ((0 : Nat) + (1 : Nat)) []) ∧
                                                    True) ∧
                                            ((True ∧ True ∧ True ∧ True) ∧ True) ∧
                                              FnOk Try.prog T.e (30 : Nat)
                                                  [V.agg
                                                      [V.im (List.length C) (List.map (V.int IntKind.u8) C),
                                                        V.int IntKind.u16 w,
                                                        V.im (List.length D) (List.map (V.int IntKind.u8) D)]]
                                                  (sl (permD D (List.length (cardsD C)))) ∧
                                                ((V.fn (17 : Nat) [] = V.fn (30 : Nat) [] →
                                                      [V.agg [sl8 C, V.int IntKind.u16 w, sl8 D]] =
                                                          [V.agg [sl8 C, V.int IntKind.u16 w, sl8 D]] →
                                                        pt T.e (0 : Nat)
                                                              (O.row (26 : Nat) none [sl8 C, V.int IntKind.u16 w, sl8 D]) =
                                                            pt T.e (0 : Nat)
                                                              (O.row (26 : Nat) none [sl8 C, V.int IntKind.u16 w, sl8 D]) →
                                                          (0 : Nat) + (1 : Nat) = (0 : Nat) + (1 : Nat) →
                                                            CR.mk (sl (cardsD C))
                                                                (pt T.e (0 : Nat)
                                                                  (O.row (26 : Nat) none [sl8 C, V.int IntKind.u16 w, sl8 D]))
                                                                ((0 : Nat) + (1 : Nat)) [] =
                                                              CR.mk (sl (permD D (List.length (cardsD C))))
                                                                (pt T.e (0 : Nat)
                                                                  (O.row (26 : Nat) none [sl8 C, V.int IntKind.u16 w, sl8 D]))
                                                                ((0 : Nat) + (1 : Nat)) []) ∧
                                                    (V.fn (16 : Nat) [] = V.fn (30 : Nat) [] →
                                                        [sl M] = [V.agg [sl8 C, V.int IntKind.u16 w, sl8 D]] →
                                                          pt T.e (0 : Nat)
                                                                (O.row (26 : Nat) none [sl8 C, V.int IntKind.u16 w, sl8 D]) =
                                                              pt T.e (0 : Nat)
                                                                (O.row (26 : Nat) none [sl8 C, V.int IntKind.u16 w, sl8 D]) →
                                                            (0 : Nat) + (1 : Nat) = (0 : Nat) + (1 : Nat) →
                                                              CR.mk (sl (List.take (14 : Nat) M))
                                                                  (pt T.e (0 : Nat)
                                                                    (O.row (26 : Nat) none
                                                                      [sl8 C, V.int IntKind.u16 w, sl8 D]))
                                                                  ((0 : Nat) + (1 : Nat)) [] =
                                                                CR.mk (sl (permD D (List.length (cardsD C))))
                                                                  (pt T.e (0 : Nat)
                                                                    (O.row (26 : Nat) none
                                                                      [sl8 C, V.int IntKind.u16 w, sl8 D]))
                                                                  ((0 : Nat) + (1 : Nat)) []) ∧
                                                      (V.fn (17 : Nat) [] = V.fn (30 : Nat) [] →
                                                          [V.agg [sl8 C, V.int IntKind.u16 w, sl8 D]] =
                                                              [V.agg [sl8 C, V.int IntKind.u16 w, sl8 D]] →
                                                            pt T.e (0 : Nat)
                                                                  (O.row (26 : Nat) none
                                                                    [sl8 C, V.int IntKind.u16 w, sl8 D]) =
                                                                pt T.e (0 : Nat)
                                                                  (O.row (26 : Nat) none
                                                                    [sl8 C, V.int IntKind.u16 w, sl8 D]) →
                                                              (0 : Nat) + (1 : Nat) = (0 : Nat) + (1 : Nat) →
                                                                CR.mk (sl (cardsD C))
                                                                    (pt T.e (0 : Nat)
                                                                      (O.row (26 : Nat) none
                                                                        [sl8 C, V.int IntKind.u16 w, sl8 D]))
                                                                    ((0 : Nat) + (1 : Nat)) [] =
                                                                  CR.mk (sl (permD D (List.length (cardsD C))))
                                                                    (pt T.e (0 : Nat)
                                                                      (O.row (26 : Nat) none
                                                                        [sl8 C, V.int IntKind.u16 w, sl8 D]))
                                                                    ((0 : Nat) + (1 : Nat)) []) ∧
                                                        (V.fn (16 : Nat) [] = V.fn (30 : Nat) [] →
                                                            [sl M] = [V.agg [sl8 C, V.int IntKind.u16 w, sl8 D]] →
                                                              pt T.e (0 : Nat)
                                                                    (O.row (26 : Nat) none
                                                                      [sl8 C, V.int IntKind.u16 w, sl8 D]) =
                                                                  pt T.e (0 : Nat)
                                                                    (O.row (26 : Nat) none
                                                                      [sl8 C, V.int IntKind.u16 w, sl8 D]) →
                                                                (0 : Nat) + (1 : Nat) = (0 : Nat) + (1 : Nat) →
                                                                  CR.mk (sl (List.take (14 : Nat) M))
                                                                      (pt T.e (0 : Nat)
                                                                        (O.row (26 : Nat) none
                                                                          [sl8 C, V.int IntKind.u16 w, sl8 D]))
                                                                      ((0 : Nat) + (1 : Nat)) [] =
                                                                    CR.mk (sl (permD D (List.length (cardsD C))))
                                                                      (pt T.e (0 : Nat)
                                                                        (O.row (26 : Nat) none
                                                                          [sl8 C, V.int IntKind.u16 w, sl8 D]))
                                                                      ((0 : Nat) + (1 : Nat)) []) ∧
                                                          (V.fn (16 : Nat) [] = V.fn (30 : Nat) [] →
                                                              [sl L] = [V.agg [sl8 C, V.int IntKind.u16 w, sl8 D]] →
                                                                pt T.e (0 : Nat)
                                                                      (O.row (26 : Nat) none
                                                                        [sl8 C, V.int IntKind.u16 w, sl8 D]) =
                                                                    pt T.e (0 : Nat)
                                                                      (O.row (26 : Nat) none
                                                                        [sl8 C, V.int IntKind.u16 w, sl8 D]) →
                                                                  (0 : Nat) + (1 : Nat) = (0 : Nat) + (1 : Nat) →
                                                                    CR.mk (sl (List.take (14 : Nat) L))
                                                                        (pt T.e (0 : Nat)
                                                                          (O.row (26 : Nat) none
                                                                            [sl8 C, V.int IntKind.u16 w, sl8 D]))
                                                                        ((0 : Nat) + (1 : Nat)) [] =
                                                                      CR.mk (sl (permD D (List.length (cardsD C))))
                                                                        (pt T.e (0 : Nat)
                                                                          (O.row (26 : Nat) none
                                                                            [sl8 C, V.int IntKind.u16 w, sl8 D]))
                                                                        ((0 : Nat) + (1 : Nat)) []) ∧
                                                            True) ∧
                                                  ((i = i ∧
                                                        k = k ∧
                                                          ((List.length (List.take (14 : Nat) L) =
                                                                  List.length (List.take (14 : Nat) L) ∧
                                                                ints (List.take (14 : Nat) L) =
                                                                  ints (List.take (14 : Nat) L)) ∧
                                                              (List.length (List.take (14 : Nat) M) =
                                                                    List.length (List.take (14 : Nat) M) ∧
                                                                  ints (List.take (14 : Nat) M) =
                                                                    ints (List.take (14 : Nat) M)) ∧
                                                                (List.length (cardsD C) = List.length (cardsD C) ∧
                                                                    ints (cardsD C) = ints (cardsD C)) ∧
                                                                  (List.length (List.take (14 : Nat) M) =
                                                                        List.length (List.take (14 : Nat) M) ∧
                                                                      ints (List.take (14 : Nat) M) =
                                                                        ints (List.take (14 : Nat) M)) ∧
                                                                    (List.length (cardsD C) = List.length (cardsD C) ∧
                                                                        ints (cardsD C) = ints (cardsD C)) ∧
                                                                      (List.length (permD D (List.length (cardsD C))) =
                                                                            List.length (permD D (List.length (cardsD C))) ∧
                                                                          ints (permD D (List.length (cardsD C))) =
                                                                            ints (permD D (List.length (cardsD C)))) ∧
                                                                        True) ∧
                                                            (↑(0 : Nat) : Int) = (0 : Int) ∧ True) ∧
                                                      True) ∧
                                                    Sat Try.prog none (0 : Nat)
                                                        (at' (4 : Nat)
                                                          [(1 : Nat), (1 : Nat), (0 : Nat), (1 : Nat), (0 : Nat)])
                                                        (mkSt T.e (113 : Nat)
                                                          (qoS
                                                            (six (List.take (14 : Nat) L) (List.take (14 : Nat) M) (cardsD C)
                                                              (List.take (14 : Nat) M) (cardsD C)
                                                              (permD D (List.length (cardsD C))))
                                                            i k (0 : Nat)))
                                                        (outsP T.e (113 : Nat)
                                                          [(True, Ex.exit (0 : Nat), SL.mk [] [] [] [])]) ∧
                                                      (True → (true = true ∧ True) ∧ True) ∧ True) = _) ?_
  (repeat' (first | (with_reducible apply And.intro) | (refine fun (_ : True) => ?_))) <;> first | with_reducible (first | rfl | exact trivial | assumption | (refine decide_eq_true ?_ <;> omega) | (refine decide_eq_false ?_ <;> omega) | (refine head_ints1 ?_ <;> omega) | (refine bne_false ?_ <;> omega) | (refine bne_true ?_ <;> omega) | (refine beq_false' ?_ <;> omega) | (refine beq_true' ?_ <;> omega) | (refine wr6' ?_ ?_ ?_ <;> omega) | (refine rem6 ?_ <;> omega) | (refine quo6 ?_ ?_ ?_ <;> omega) | exact HfL_ints _ | omega) | ((with_reducible show (_ : V) = _); rfl) | (intro hk_; exfalso; revert hk_; simp; done) | (intros; simp_all; done) | (split <;> omega) | ((with_reducible show decide _ = true); exact decide_eq_true (by omega)) | ((with_reducible show decide _ = false); exact decide_eq_false (by omega)) | skip
  all_goals (intro _ h _ _; rw [sl_inj (List.cons.inj h).1])

end Go.Proofs.Ytmnaidemihcfaaa.Am
