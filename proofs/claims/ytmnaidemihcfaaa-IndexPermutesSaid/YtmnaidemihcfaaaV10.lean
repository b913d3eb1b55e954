/- IndexParts: the law returns true, whatever it is called with: the walk. -/
import Derived.Test.YtmnaidemihcfaaaV9
import Derived.Test.YtmnaidemihcfaaaV5
namespace Go.Proofs.Ytmnaidemihcfaaa.Am
open Go.RowKit
set_option linter.unusedVariables false
set_option maxHeartbeats 1000000
set_option maxRecDepth 100000

theorem pick37 (a b c : Int) (m : Nat) (hm : m < 3) : ∃ x, idxV (ctxOf Pg) 37 (.agg [i6 a, i6 b, i6 c]) (m : Int) = some (i6 x) := by
  have : m = 0 ∨ m = 1 ∨ m = 2 := by omega
  rcases this with rfl | rfl | rfl
  · exact ⟨a, by kernel_rfl⟩
  · exact ⟨b, by kernel_rfl⟩
  · exact ⟨c, by kernel_rfl⟩
abbrev six (a b c d e f : List Int) : V := .agg [sl a, sl b, sl c, sl d, sl e, sl f]
theorem pick31 (a b c d e f : List Int) (m : Nat) (hm : m < 3) : ∃ x y, idxV (ctxOf Pg) 31 (six a b c d e f) (m : Int) = some (.agg [sl x, sl y]) ∧ (x = a ∧ y = b ∨ x = c ∧ y = d ∨ x = e ∧ y = f) := by
  have : m = 0 ∨ m = 1 ∨ m = 2 := by omega
  rcases this with rfl | rfl | rfl
  · exact ⟨a, b, by kernel_rfl, .inl ⟨rfl, rfl⟩⟩
  · exact ⟨c, d, by kernel_rfl, .inr (.inl ⟨rfl, rfl⟩)⟩
  · exact ⟨e, f, by kernel_rfl, .inr (.inr ⟨rfl, rfl⟩)⟩

/-- what is known of a pair: no cards; no places; both -/
inductive Mode (c p : List Int) : Int → Bool → Int → Int → Prop where
  | a (h : count c = none) : Mode c p 20 false 0 0
  | b (size : Int) (h : count c = some size) (hp : incr c.length (-1) p = false) : Mode c p 0 false size 0
  | c (size : Int) (h : count c = some size) (hp : incr c.length (-1) p = true) : Mode c p 0 true size (prodL (atL c p))

abbrev ptS (A : V) (c p : List Int) (i k nq : Int) (rt : Bool) (size some_ : Int) (j : Nat) (more : List (Nat × V)) : SL := { sl := [(2, i6 i), (4, .int .u16 k), (12, .ptr 0 0), (13, i6 nq), (14, .bool rt), (15, i6 size), (16, i6 some_), (42, A), (43, i6 j)] ++ more, os := [.row 29 none [sl c, sl p]] }
abbrev p1S (A : V) (c p : List Int) (i k nq : Int) (rt : Bool) (size some_ : Int) (j : Nat) (x y z : Int) (m : Nat) : SL := ptS A c p i k nq rt size some_ j [(82, .agg [i6 x, i6 y, i6 z]), (83, i6 m)]

theorem pinner (a1 a2 a3 a4 a5 a6 c p : List Int) (i k nq : Int) (rt : Bool) (size some_ : Int) (j : Nat) (x y z : Int) (hlen : c.length ≤ 14) (hpl : p.length ≤ 14) (hm : Mode c p nq rt size some_) (m : Nat) (hm3 : m ≤ 3) :
    Sat Pg none 0 (at' 3 [1, 1, 0, 1, 0, 0, 1, 1, 0, 0, 1, 1, 1, 1, 1, 1, 1, 0]) (mkSt .e 171 (p1S (six a1 a2 a3 a4 a5 a6) c p i k nq rt size some_ j x y z m)) (outsP .e 171 [(True, .exit 2, ptS (six a1 a2 a3 a4 a5 a6) c p i k nq rt size some_ j [])]) := by
  refine loopC vE_ok mixed sp0_ok (b := at' 3 [1, 1, 0, 1, 0, 0, 1, 1, 0, 0, 1, 1, 1, 1, 1, 1, 1, 0, 0]) (by kernel_rfl) (fun m => m ≤ 3) (p1S (six a1 a2 a3 a4 a5 a6) c p i k nq rt size some_ j x y z) (fun m => 3 - m) (fun m hm3 => ?_) m hm3
  by_cases hlt : m < 3
  · obtain ⟨u, hu⟩ := pick37 x y z m hlt
    have hpart := part_ok (gl := .e) c p u (by omega)
    have hspr := spread_ok (gl := .e) c p u (by omega)
    cases hm with
    | a hc =>
      have e1 : PartS c p u = (0, 20) := by simp [PartS, hc]
      have e2 : SpreadS c p u = ([], 20) := by simp [SpreadS, hc]
      rw [e1] at hpart
      rw [e2] at hspr
      have hs' : FnOk Pg .e 27 [sl c, sl p, i6 u] (.tup [.im 0 [], i6 20]) := hspr
      have ht := then_err false
      have hn := number_20 0
      refine .inl ⟨m + 1, [0], [yes 84, va 85 (i6 u), fn 92 (.tup [i6 0, i6 20]), fn 106 (i6 20), fn 119 (.bool true), fn 127 (.tup [.im 0 [], i6 20]), fn 141 (i6 20), nu 169 (m + 1 : Nat)], 1000, hlt, by omega, ?_⟩
      refine Eq.mp (by kernel_rfl : (decide ((↑m : Int) < (3 : Int)) = true ∧
            idxV (ctxOf Try.prog) (37 : Nat) (V.agg [i6 x, i6 y, i6 z]) (↑m : Int) = some (i6 u) ∧
              (True ∧ True ∧ True ∧ True) ∧
                FnOk Try.prog T.e (23 : Nat) [V.im (List.length c) (ints c), V.im (List.length p) (ints p), V.int IntKind.i64 u]
                    (V.tup [i6 (0 : Int), i6 (20 : Int)]) ∧
                  True ∧
                    (True ∧ True ∧ True) ∧
                      FnOk Try.prog T.e (24 : Nat) [V.int IntKind.i64 (20 : Int), V.bool false] (i6 (20 : Int)) ∧
                        True ∧
                          (True ∧ True ∧ True ∧ True ∧ True) ∧
                            FnOk Try.prog T.e (26 : Nat)
                                [V.int IntKind.i64 (0 : Int), V.int IntKind.i64 (20 : Int), V.int IntKind.i64 (20 : Int),
                                  V.int IntKind.i64 (0 : Int)]
                                (V.bool true) ∧
                              True ∧
                                (True ∧ True ∧ True ∧ True) ∧
                                  FnOk Try.prog T.e (27 : Nat)
                                      [V.im (List.length c) (ints c), V.im (List.length p) (ints p), V.int IntKind.i64 u]
                                      (V.tup [V.im (0 : Nat) [], i6 (20 : Int)]) ∧
                                    True ∧
                                      (True ∧ True ∧ True) ∧
                                        FnOk Try.prog T.e (24 : Nat) [V.int IntKind.i64 (20 : Int), V.bool false]
                                            (i6 (20 : Int)) ∧
                                          True ∧
                                            wr IntKind.i64 ((↑m : Int) + (1 : Int)) = (↑(m + (1 : Nat)) : Int) ∧
                                              (i = i ∧
                                                  k = k ∧
                                                    (0 : Nat) = (0 : Nat) ∧
                                                      (20 : Int) = (20 : Int) ∧
                                                        false = false ∧
                                                          (0 : Int) = (0 : Int) ∧
                                                            (0 : Int) = (0 : Int) ∧
                                                              ((List.length a1 = List.length a1 ∧ ints a1 = ints a1) ∧
                                                                  (List.length a2 = List.length a2 ∧ ints a2 = ints a2) ∧
                                                                    (List.length a3 = List.length a3 ∧ ints a3 = ints a3) ∧
                                                                      (List.length a4 = List.length a4 ∧ ints a4 = ints a4) ∧
                                                                        (List.length a5 = List.length a5 ∧ ints a5 = ints a5) ∧
                                                                          (List.length a6 = List.length a6 ∧ ints a6 = ints a6) ∧
                                                                            True) ∧
                                                                (↑j : Int) = (↑j : Int) ∧
                                                                  (x = x ∧ y = y ∧ z = z ∧ True) ∧
                                                                    (↑(m + (1 : Nat)) : Int) = (↑(m + (1 : Nat)) : Int) ∧ True) ∧
                                                ([sl c, sl p] = [sl c, sl p] ∧ True ∧ True ∧ True) ∧ True) = _) ?_
      (repeat' (first | (with_reducible apply And.intro) | (refine fun (_ : True) => ?_))) <;> first | with_reducible (first | rfl | exact trivial | assumption | (refine decide_eq_true ?_ <;> omega) | (refine decide_eq_false ?_ <;> omega) | (refine head_ints1 ?_ <;> omega) | (refine bne_false ?_ <;> omega) | (refine bne_true ?_ <;> omega) | (refine beq_false' ?_ <;> omega) | (refine beq_true' ?_ <;> omega) | (refine wr6' ?_ ?_ ?_ <;> omega) | (refine rem6 ?_ <;> omega) | (refine quo6 ?_ ?_ ?_ <;> omega) | exact HfL_ints _ | omega) | ((with_reducible show (_ : V) = _); rfl) | (intro hk_; exfalso; revert hk_; simp; done) | (intros; simp_all; done) | (split <;> omega) | ((with_reducible show decide _ = true); exact decide_eq_true (by omega)) | ((with_reducible show decide _ = false); exact decide_eq_false (by omega)) | skip
    | b _ hc hp =>
      have e1 : PartS c p u = (0, 2) := by simp [PartS, hc, hp]
      have e2 : SpreadS c p u = ([], 2) := by simp [SpreadS, hc, hp]
      rw [e1] at hpart
      rw [e2] at hspr
      have hs' : FnOk Pg .e 27 [sl c, sl p, i6 u] (.tup [.im 0 [], i6 2]) := hspr
      have ht := then_no
      have hn := number_2 0
      refine .inl ⟨m + 1, [0], [yes 84, va 85 (i6 u), fn 92 (.tup [i6 0, i6 2]), fn 106 (i6 2), fn 119 (.bool true), fn 127 (.tup [.im 0 [], i6 2]), fn 141 (i6 2), nu 169 (m + 1 : Nat)], 1000, hlt, by omega, ?_⟩
      refine Eq.mp (by kernel_rfl : (decide ((↑m : Int) < (3 : Int)) = true ∧
            idxV (ctxOf Try.prog) (37 : Nat) (V.agg [i6 x, i6 y, i6 z]) (↑m : Int) = some (i6 u) ∧
              (True ∧ True ∧ True ∧ True) ∧
                FnOk Try.prog T.e (23 : Nat) [V.im (List.length c) (ints c), V.im (List.length p) (ints p), V.int IntKind.i64 u]
                    (V.tup [i6 (0 : Int), i6 (2 : Int)]) ∧
                  True ∧
                    (True ∧ True ∧ True) ∧
                      FnOk Try.prog T.e (24 : Nat) [V.int IntKind.i64 (0 : Int), V.bool false] (i6 (2 : Int)) ∧
                        True ∧
                          (True ∧ True ∧ True ∧ True ∧ True) ∧
                            FnOk Try.prog T.e (26 : Nat)
                                [V.int IntKind.i64 (0 : Int), V.int IntKind.i64 (2 : Int), V.int IntKind.i64 (2 : Int),
                                  V.int IntKind.i64 (0 : Int)]
                                (V.bool true) ∧
                              True ∧
                                (True ∧ True ∧ True ∧ True) ∧
                                  FnOk Try.prog T.e (27 : Nat)
                                      [V.im (List.length c) (ints c), V.im (List.length p) (ints p), V.int IntKind.i64 u]
                                      (V.tup [V.im (0 : Nat) [], i6 (2 : Int)]) ∧
                                    True ∧
                                      (True ∧ True ∧ True) ∧
                                        FnOk Try.prog T.e (24 : Nat) [V.int IntKind.i64 (0 : Int), V.bool false] (i6 (2 : Int)) ∧
                                          True ∧
                                            wr IntKind.i64 ((↑m : Int) + (1 : Int)) = (↑(m + (1 : Nat)) : Int) ∧
                                              (i = i ∧
                                                  k = k ∧
                                                    (0 : Nat) = (0 : Nat) ∧
                                                      (0 : Int) = (0 : Int) ∧
                                                        false = false ∧
                                                          size = size ∧
                                                            (0 : Int) = (0 : Int) ∧
                                                              ((List.length a1 = List.length a1 ∧ ints a1 = ints a1) ∧
                                                                  (List.length a2 = List.length a2 ∧ ints a2 = ints a2) ∧
                                                                    (List.length a3 = List.length a3 ∧ ints a3 = ints a3) ∧
                                                                      (List.length a4 = List.length a4 ∧ ints a4 = ints a4) ∧
                                                                        (List.length a5 = List.length a5 ∧ ints a5 = ints a5) ∧
                                                                          (List.length a6 = List.length a6 ∧ ints a6 = ints a6) ∧
                                                                            True) ∧
                                                                (↑j : Int) = (↑j : Int) ∧
                                                                  (x = x ∧ y = y ∧ z = z ∧ True) ∧
                                                                    (↑(m + (1 : Nat)) : Int) = (↑(m + (1 : Nat)) : Int) ∧ True) ∧
                                                ([sl c, sl p] = [sl c, sl p] ∧ True ∧ True ∧ True) ∧ True) = _) ?_
      (repeat' (first | (with_reducible apply And.intro) | (refine fun (_ : True) => ?_))) <;> first | with_reducible (first | rfl | exact trivial | assumption | (refine decide_eq_true ?_ <;> omega) | (refine decide_eq_false ?_ <;> omega) | (refine head_ints1 ?_ <;> omega) | (refine bne_false ?_ <;> omega) | (refine bne_true ?_ <;> omega) | (refine beq_false' ?_ <;> omega) | (refine beq_true' ?_ <;> omega) | (refine wr6' ?_ ?_ ?_ <;> omega) | (refine rem6 ?_ <;> omega) | (refine quo6 ?_ ?_ ?_ <;> omega) | exact HfL_ints _ | omega) | ((with_reducible show (_ : V) = _); rfl) | (intro hk_; exfalso; revert hk_; simp; done) | (intros; simp_all; done) | (split <;> omega) | ((with_reducible show decide _ = true); exact decide_eq_true (by omega)) | ((with_reducible show decide _ = false); exact decide_eq_false (by omega)) | skip
    | c _ hc hp =>
      obtain ⟨hg, rfl⟩ := good_of hc
      have hpp : ppG 0 c p = prodL (atL c p) := ppG_zero hp
      have t0 := then_yes
      have t2 := then_no
      have n2 := number_2 0
      have n0 := number_ok (partR c p u)
      by_cases u0 : u < 0
      · have e1 : PartS c p u = (0, 2) := by simp [PartS, hc, u0]
        have e2 : SpreadS c p u = ([], 2) := by simp [SpreadS, hc, u0]
        rw [e1] at hpart
        rw [e2] at hspr
        have hs' : FnOk Pg .e 27 [sl c, sl p, i6 u] (.tup [.im 0 [], i6 2]) := hspr
        refine .inl ⟨m + 1, [0], [yes 84, va 85 (i6 u), fn 92 (.tup [i6 0, i6 2]), no 99, fn 106 (i6 2), fn 119 (.bool true), fn 127 (.tup [.im 0 [], i6 2]), no 134, fn 141 (i6 2), nu 169 (m + 1 : Nat)], 1000, hlt, by omega, ?_⟩
        refine Eq.mp (by kernel_rfl : (decide ((↑m : Int) < (3 : Int)) = true ∧
              idxV (ctxOf Try.prog) (37 : Nat) (V.agg [i6 x, i6 y, i6 z]) (↑m : Int) = some (i6 u) ∧
                (True ∧ True ∧ True ∧ True) ∧
                  FnOk Try.prog T.e (23 : Nat) [V.im (List.length c) (ints c), V.im (List.length p) (ints p), V.int IntKind.i64 u]
                      (V.tup [i6 (0 : Int), i6 (2 : Int)]) ∧
                    True ∧
                      decide (u ≥ (0 : Int)) = false ∧
                        (True ∧ True ∧ True) ∧
                          FnOk Try.prog T.e (24 : Nat) [V.int IntKind.i64 (0 : Int), V.bool false] (i6 (2 : Int)) ∧
                            True ∧
                              (True ∧ True ∧ True ∧ True ∧ True) ∧
                                FnOk Try.prog T.e (26 : Nat)
                                    [V.int IntKind.i64 (0 : Int), V.int IntKind.i64 (2 : Int), V.int IntKind.i64 (2 : Int),
                                      V.int IntKind.i64 (0 : Int)]
                                    (V.bool true) ∧
                                  True ∧
                                    (True ∧ True ∧ True ∧ True) ∧
                                      FnOk Try.prog T.e (27 : Nat)
                                          [V.im (List.length c) (ints c), V.im (List.length p) (ints p), V.int IntKind.i64 u]
                                          (V.tup [V.im (0 : Nat) [], i6 (2 : Int)]) ∧
                                        True ∧
                                          decide (u ≥ (0 : Int)) = false ∧
                                            (True ∧ True ∧ True) ∧
                                              FnOk Try.prog T.e (24 : Nat) [V.int IntKind.i64 (0 : Int), V.bool false]
                                                  (i6 (2 : Int)) ∧
                                                True ∧
                                                  wr IntKind.i64 ((↑m : Int) + (1 : Int)) = (↑(m + (1 : Nat)) : Int) ∧
                                                    (i = i ∧
                                                        k = k ∧
                                                          (0 : Nat) = (0 : Nat) ∧
                                                            (0 : Int) = (0 : Int) ∧
                                                              true = true ∧
                                                                prodL c = prodL c ∧
                                                                  prodL (atL c p) = prodL (atL c p) ∧
                                                                    ((List.length a1 = List.length a1 ∧ ints a1 = ints a1) ∧
                                                                        (List.length a2 = List.length a2 ∧ ints a2 = ints a2) ∧
                                                                          (List.length a3 = List.length a3 ∧ ints a3 = ints a3) ∧
                                                                            (List.length a4 = List.length a4 ∧ ints a4 = ints a4) ∧
                                                                              (List.length a5 = List.length a5 ∧
                                                                                  ints a5 = ints a5) ∧
                                                                                (List.length a6 = List.length a6 ∧
                                                                                    ints a6 = ints a6) ∧
                                                                                  True) ∧
                                                                      (↑j : Int) = (↑j : Int) ∧
                                                                        (x = x ∧ y = y ∧ z = z ∧ True) ∧
                                                                          (↑(m + (1 : Nat)) : Int) = (↑(m + (1 : Nat)) : Int) ∧
                                                                            True) ∧
                                                      ([sl c, sl p] = [sl c, sl p] ∧ True ∧ True ∧ True) ∧ True) = _) ?_
        (repeat' (first | (with_reducible apply And.intro) | (refine fun (_ : True) => ?_))) <;> first | with_reducible (first | rfl | exact trivial | assumption | (refine decide_eq_true ?_ <;> omega) | (refine decide_eq_false ?_ <;> omega) | (refine head_ints1 ?_ <;> omega) | (refine bne_false ?_ <;> omega) | (refine bne_true ?_ <;> omega) | (refine beq_false' ?_ <;> omega) | (refine beq_true' ?_ <;> omega) | (refine wr6' ?_ ?_ ?_ <;> omega) | (refine rem6 ?_ <;> omega) | (refine quo6 ?_ ?_ ?_ <;> omega) | exact HfL_ints _ | omega) | ((with_reducible show (_ : V) = _); rfl) | (intro hk_; exfalso; revert hk_; simp; done) | (intros; simp_all; done) | (split <;> omega) | ((with_reducible show decide _ = true); exact decide_eq_true (by omega)) | ((with_reducible show decide _ = false); exact decide_eq_false (by omega)) | skip
      · by_cases u1 : prodL c ≤ u
        · have e1 : PartS c p u = (0, 2) := by simp [PartS, hc, u1]
          rw [e1] at hpart
          by_cases u2 : prodL (atL c p) ≤ u
          · have e2 : SpreadS c p u = ([], 2) := by simp only [SpreadS, hc]; rw [if_neg (by simp [hp]), if_pos (.inr (by rw [hpp]; exact u2))]
            rw [e2] at hspr
            have hs' : FnOk Pg .e 27 [sl c, sl p, i6 u] (.tup [.im 0 [], i6 2]) := hspr
            refine .inl ⟨m + 1, [0], [yes 84, va 85 (i6 u), fn 92 (.tup [i6 0, i6 2]), yes 99, no 104, fn 106 (i6 2), fn 119 (.bool true), fn 127 (.tup [.im 0 [], i6 2]), yes 134, no 139, fn 141 (i6 2), nu 169 (m + 1 : Nat)], 1000, hlt, by omega, ?_⟩
            refine Eq.mp (by kernel_rfl : (decide ((↑m : Int) < (3 : Int)) = true ∧
                  idxV (ctxOf Try.prog) (37 : Nat) (V.agg [i6 x, i6 y, i6 z]) (↑m : Int) = some (i6 u) ∧
                    (True ∧ True ∧ True ∧ True) ∧
                      FnOk Try.prog T.e (23 : Nat) [V.im (List.length c) (ints c), V.im (List.length p) (ints p), V.int IntKind.i64 u]
                          (V.tup [i6 (0 : Int), i6 (2 : Int)]) ∧
                        True ∧
                          decide (u ≥ (0 : Int)) = true ∧
                            decide (u < prodL c) = false ∧
                              (True ∧ True ∧ True) ∧
                                FnOk Try.prog T.e (24 : Nat) [V.int IntKind.i64 (0 : Int), V.bool false] (i6 (2 : Int)) ∧
                                  True ∧
                                    (True ∧ True ∧ True ∧ True ∧ True) ∧
                                      FnOk Try.prog T.e (26 : Nat)
                                          [V.int IntKind.i64 (0 : Int), V.int IntKind.i64 (2 : Int), V.int IntKind.i64 (2 : Int),
                                            V.int IntKind.i64 (0 : Int)]
                                          (V.bool true) ∧
                                        True ∧
                                          (True ∧ True ∧ True ∧ True) ∧
                                            FnOk Try.prog T.e (27 : Nat)
                                                [V.im (List.length c) (ints c), V.im (List.length p) (ints p), V.int IntKind.i64 u]
                                                (V.tup [V.im (0 : Nat) [], i6 (2 : Int)]) ∧
                                              True ∧
                                                decide (u ≥ (0 : Int)) = true ∧
                                                  decide (u < prodL (atL c p)) = false ∧
                                                    (True ∧ True ∧ True) ∧
                                                      FnOk Try.prog T.e (24 : Nat) [V.int IntKind.i64 (0 : Int), V.bool false]
                                                          (i6 (2 : Int)) ∧
                                                        True ∧
                                                          wr IntKind.i64 ((↑m : Int) + (1 : Int)) = (↑(m + (1 : Nat)) : Int) ∧
                                                            (i = i ∧
                                                                k = k ∧
                                                                  (0 : Nat) = (0 : Nat) ∧
                                                                    (0 : Int) = (0 : Int) ∧
                                                                      true = true ∧
                                                                        prodL c = prodL c ∧
                                                                          prodL (atL c p) = prodL (atL c p) ∧
                                                                            ((List.length a1 = List.length a1 ∧ ints a1 = ints a1) ∧
                                                                                (List.length a2 = List.length a2 ∧ ints a2 = ints a2) ∧
                                                                                  (List.length a3 = List.length a3 ∧
                                                                                      ints a3 = ints a3) ∧
                                                                                    (List.length a4 = List.length a4 ∧
                                                                                        ints a4 = ints a4) ∧
                                                                                      (List.length a5 = List.length a5 ∧
                                                                                          ints a5 = ints a5) ∧
                                                                                        (List.length a6 = List.length a6 ∧
                                                                                            ints a6 = ints a6) ∧
                                                                                          True) ∧
                                                                              (↑j : Int) = (↑j : Int) ∧
                                                                                (x = x ∧ y = y ∧ z = z ∧ True) ∧
                                                                                  (↑(m + (1 : Nat)) : Int) = (↑(m + (1 : Nat)) : Int) ∧
                                                                                    True) ∧
                                                              ([sl c, sl p] = [sl c, sl p] ∧ True ∧ True ∧ True) ∧ True) = _) ?_
            (repeat' (first | (with_reducible apply And.intro) | (refine fun (_ : True) => ?_))) <;> first | with_reducible (first | rfl | exact trivial | assumption | (refine decide_eq_true ?_ <;> omega) | (refine decide_eq_false ?_ <;> omega) | (refine head_ints1 ?_ <;> omega) | (refine bne_false ?_ <;> omega) | (refine bne_true ?_ <;> omega) | (refine beq_false' ?_ <;> omega) | (refine beq_true' ?_ <;> omega) | (refine wr6' ?_ ?_ ?_ <;> omega) | (refine rem6 ?_ <;> omega) | (refine quo6 ?_ ?_ ?_ <;> omega) | exact HfL_ints _ | omega) | ((with_reducible show (_ : V) = _); rfl) | (intro hk_; exfalso; revert hk_; simp; done) | (intros; simp_all; done) | (split <;> omega) | ((with_reducible show decide _ = true); exact decide_eq_true (by omega)) | ((with_reducible show decide _ = false); exact decide_eq_false (by omega)) | skip
          · have e2 : SpreadS c p u = (hitL c p u, 0) := by simp only [SpreadS, hc]; rw [if_neg (by simp [hp]), if_neg (by rw [hpp]; omega)]
            rw [e2] at hspr
            have hs' : FnOk Pg .e 27 [sl c, sl p, i6 u] (.tup [sl (hitL c p u), i6 0]) := hspr
            have hr := spreadref_ok c p u hg hp
            have hsm := same_ok (hitL c p u) (hitL c p u) (by have := hitI_len c p u (prodL c).toNat; rw [hitI_hitL] at this; have := hg.le; omega)
            rw [decide_eq_true rfl] at hsm
            refine .inl ⟨m + 1, [0], [yes 84, va 85 (i6 u), fn 92 (.tup [i6 0, i6 2]), yes 99, no 104, fn 106 (i6 2), fn 119 (.bool true), fn 127 (.tup [sl (hitL c p u), i6 0]), yes 134, yes 139, fn 141 (i6 0), fn 164 (sl (hitL c p u)), fn 165 (.bool true), nu 169 (m + 1 : Nat)], 1000, hlt, by omega, ?_⟩
            refine Eq.mp (by kernel_rfl : (decide ((↑m : Int) < (3 : Int)) = true ∧
                  idxV (ctxOf Try.prog) (37 : Nat) (V.agg [i6 x, i6 y, i6 z]) (↑m : Int) = some (i6 u) ∧
                    (True ∧ True ∧ True ∧ True) ∧
                      FnOk Try.prog T.e (23 : Nat) [V.im (List.length c) (ints c), V.im (List.length p) (ints p), V.int IntKind.i64 u]
                          (V.tup [i6 (0 : Int), i6 (2 : Int)]) ∧
                        True ∧
                          decide (u ≥ (0 : Int)) = true ∧
                            decide (u < prodL c) = false ∧
                              (True ∧ True ∧ True) ∧
                                FnOk Try.prog T.e (24 : Nat) [V.int IntKind.i64 (0 : Int), V.bool false] (i6 (2 : Int)) ∧
                                  True ∧
                                    (True ∧ True ∧ True ∧ True ∧ True) ∧
                                      FnOk Try.prog T.e (26 : Nat)
                                          [V.int IntKind.i64 (0 : Int), V.int IntKind.i64 (2 : Int), V.int IntKind.i64 (2 : Int),
                                            V.int IntKind.i64 (0 : Int)]
                                          (V.bool true) ∧
                                        True ∧
                                          (True ∧ True ∧ True ∧ True) ∧
                                            FnOk Try.prog T.e (27 : Nat)
                                                [V.im (List.length c) (ints c), V.im (List.length p) (ints p), V.int IntKind.i64 u]
                                                (V.tup [sl (hitL c p u), i6 (0 : Int)]) ∧
                                              True ∧
                                                decide (u ≥ (0 : Int)) = true ∧
                                                  decide (u < prodL (atL c p)) = true ∧
                                                    (True ∧ True ∧ True) ∧
                                                      FnOk Try.prog T.e (24 : Nat) [V.int IntKind.i64 (0 : Int), V.bool true]
                                                          (i6 (0 : Int)) ∧
                                                        True ∧
                                                          (True ∧ True ∧ True ∧ True) ∧
                                                            FnOk Try.prog T.e (29 : Nat)
                                                                [V.im (List.length c) (ints c), V.im (List.length p) (ints p),
                                                                  V.int IntKind.i64 u]
                                                                (sl (hitL c p u)) ∧
                                                              True ∧
                                                                (True ∧ True ∧ True) ∧
                                                                  FnOk Try.prog T.e (28 : Nat)
                                                                      [V.im (List.length (hitL c p u)) (ints (hitL c p u)),
                                                                        V.im (List.length (hitL c p u)) (ints (hitL c p u))]
                                                                      (V.bool true) ∧
                                                                    ((V.fn (29 : Nat) [] = V.fn (28 : Nat) [] →
                                                                          [sl c, sl p, i6 u] = [sl (hitL c p u), sl (hitL c p u)] →
                                                                            ofOs T.e (0 : Nat) [O.row (29 : Nat) none [sl c, sl p]] =
                                                                                ofOs T.e (0 : Nat)
                                                                                  [O.row (29 : Nat) none [sl c, sl p]] →
                                                                              (1 : Nat) = (1 : Nat) →
                                                                                CR.mk (sl (hitL c p u))
                                                                                    (ofOs T.e (0 : Nat)
                                                                                      [O.row (29 : Nat) none [sl c, sl p]])
                                                                                    (1 : Nat) [] =
                                                                                  CR.mk (V.bool true)
                                                                                    (ofOs T.e (0 : Nat)
                                                                                      [O.row (29 : Nat) none [sl c, sl p]])
                                                                                    (1 : Nat) []) ∧
                                                                        True) ∧
                                                                      wr IntKind.i64 ((↑m : Int) + (1 : Int)) =
                                                                          (↑(m + (1 : Nat)) : Int) ∧
                                                                        (i = i ∧
                                                                            k = k ∧
                                                                              (0 : Nat) = (0 : Nat) ∧
                                                                                (0 : Int) = (0 : Int) ∧
                                                                                  true = true ∧
                                                                                    prodL c = prodL c ∧
                                                                                      prodL (atL c p) = prodL (atL c p) ∧
                                                                                        ((List.length a1 = List.length a1 ∧
                                                                                              ints a1 = ints a1) ∧
                                                                                            (List.length a2 = List.length a2 ∧
                                                                                                ints a2 = ints a2) ∧
                                                                                              (List.length a3 = List.length a3 ∧
                                                                                                  ints a3 = ints a3) ∧
                                                                                                (List.length a4 = List.length a4 ∧
                                                                                                    ints a4 = ints a4) ∧
                                                                                                  (List.length a5 = List.length a5 ∧
                                                                                                      ints a5 = ints a5) ∧
                                                                                                    (List.length a6 = List.length a6 ∧
                                                                                                        ints a6 = ints a6) ∧
                                                                                                      True) ∧
                                                                                          (↑j : Int) = (↑j : Int) ∧
                                                                                            (x = x ∧ y = y ∧ z = z ∧ True) ∧
                                                                                              (↑(m + (1 : Nat)) : Int) =
                                                                                                  (↑(m + (1 : Nat)) : Int) ∧
                                                                                                True) ∧
                                                                          ([sl c, sl p] = [sl c, sl p] ∧ True ∧ True ∧ True) ∧ True) = _) ?_
            (repeat' (first | (with_reducible apply And.intro) | (refine fun (_ : True) => ?_))) <;> first | with_reducible (first | rfl | exact trivial | assumption | (refine decide_eq_true ?_ <;> omega) | (refine decide_eq_false ?_ <;> omega) | (refine head_ints1 ?_ <;> omega) | (refine bne_false ?_ <;> omega) | (refine bne_true ?_ <;> omega) | (refine beq_false' ?_ <;> omega) | (refine beq_true' ?_ <;> omega) | (refine wr6' ?_ ?_ ?_ <;> omega) | (refine rem6 ?_ <;> omega) | (refine quo6 ?_ ?_ ?_ <;> omega) | exact HfL_ints _ | omega) | ((with_reducible show (_ : V) = _); rfl) | (intro hk_; exfalso; revert hk_; simp; done) | (intros; simp_all; done) | (split <;> omega) | ((with_reducible show decide _ = true); exact decide_eq_true (by omega)) | ((with_reducible show decide _ = false); exact decide_eq_false (by omega)) | skip
        · have e1 : PartS c p u = (partR c p u, 0) := by
            simp only [PartS, hc]
            rw [if_neg (by simp [hp]; omega), partR_eq hp]
          rw [e1] at hpart
          have hpr := partref_ok c p u hg hp (by omega) (by omega)
          by_cases u2 : prodL (atL c p) ≤ u
          · have e2 : SpreadS c p u = ([], 2) := by simp only [SpreadS, hc]; rw [if_neg (by simp [hp]), if_pos (.inr (by rw [hpp]; exact u2))]
            rw [e2] at hspr
            have hs' : FnOk Pg .e 27 [sl c, sl p, i6 u] (.tup [.im 0 [], i6 2]) := hspr
            refine .inl ⟨m + 1, [0], [yes 84, va 85 (i6 u), fn 92 (.tup [i6 (partR c p u), i6 0]), yes 99, yes 104, fn 106 (i6 0), fn 114 (i6 (partR c p u)), fn 119 (.bool true), fn 127 (.tup [.im 0 [], i6 2]), yes 134, no 139, fn 141 (i6 2), nu 169 (m + 1 : Nat)], 1000, hlt, by omega, ?_⟩
            refine Eq.mp (by kernel_rfl : (decide ((↑m : Int) < (3 : Int)) = true ∧
                  idxV (ctxOf Try.prog) (37 : Nat) (V.agg [i6 x, i6 y, i6 z]) (↑m : Int) = some (i6 u) ∧
                    (True ∧ True ∧ True ∧ True) ∧
                      FnOk Try.prog T.e (23 : Nat) [V.im (List.length c) (ints c), V.im (List.length p) (ints p), V.int IntKind.i64 u]
                          (V.tup [i6 (partR c p u), i6 (0 : Int)]) ∧
                        True ∧
                          decide (u ≥ (0 : Int)) = true ∧
                            decide (u < prodL c) = true ∧
                              (True ∧ True ∧ True) ∧
                                FnOk Try.prog T.e (24 : Nat) [V.int IntKind.i64 (0 : Int), V.bool true] (i6 (0 : Int)) ∧
                                  True ∧
                                    (True ∧ True ∧ True ∧ True) ∧
                                      FnOk Try.prog T.e (25 : Nat)
                                          [V.im (List.length c) (ints c), V.im (List.length p) (ints p), V.int IntKind.i64 u]
                                          (i6 (partR c p u)) ∧
                                        True ∧
                                          (True ∧ True ∧ True ∧ True ∧ True) ∧
                                            FnOk Try.prog T.e (26 : Nat)
                                                [V.int IntKind.i64 (partR c p u), V.int IntKind.i64 (0 : Int),
                                                  V.int IntKind.i64 (0 : Int), V.int IntKind.i64 (partR c p u)]
                                                (V.bool true) ∧
                                              True ∧
                                                (True ∧ True ∧ True ∧ True) ∧
                                                  FnOk Try.prog T.e (27 : Nat)
                                                      [V.im (List.length c) (ints c), V.im (List.length p) (ints p),
                                                        V.int IntKind.i64 u]
                                                      (V.tup [V.im (0 : Nat) [], i6 (2 : Int)]) ∧
                                                    True ∧
                                                      decide (u ≥ (0 : Int)) = true ∧
                                                        decide (u < prodL (atL c p)) = false ∧
                                                          (True ∧ True ∧ True) ∧
                                                            FnOk Try.prog T.e (24 : Nat) [V.int IntKind.i64 (0 : Int), V.bool false]
                                                                (i6 (2 : Int)) ∧
                                                              True ∧
                                                                wr IntKind.i64 ((↑m : Int) + (1 : Int)) = (↑(m + (1 : Nat)) : Int) ∧
                                                                  (i = i ∧
                                                                      k = k ∧
                                                                        (0 : Nat) = (0 : Nat) ∧
                                                                          (0 : Int) = (0 : Int) ∧
                                                                            true = true ∧
                                                                              prodL c = prodL c ∧
                                                                                prodL (atL c p) = prodL (atL c p) ∧
                                                                                  ((List.length a1 = List.length a1 ∧
                                                                                        ints a1 = ints a1) ∧
                                                                                      (List.length a2 = List.length a2 ∧
                                                                                          ints a2 = ints a2) ∧
                                                                                        (List.length a3 = List.length a3 ∧
                                                                                            ints a3 = ints a3) ∧
                                                                                          (List.length a4 = List.length a4 ∧
                                                                                              ints a4 = ints a4) ∧
                                                                                            (List.length a5 = List.length a5 ∧
                                                                                                ints a5 = ints a5) ∧
                                                                                              (List.length a6 = List.length a6 ∧
                                                                                                  ints a6 = ints a6) ∧
                                                                                                True) ∧
                                                                                    (↑j : Int) = (↑j : Int) ∧
                                                                                      (x = x ∧ y = y ∧ z = z ∧ True) ∧
                                                                                        (↑(m + (1 : Nat)) : Int) =
                                                                                            (↑(m + (1 : Nat)) : Int) ∧
                                                                                          True) ∧
                                                                    ([sl c, sl p] = [sl c, sl p] ∧ True ∧ True ∧ True) ∧ True) = _) ?_
            (repeat' (first | (with_reducible apply And.intro) | (refine fun (_ : True) => ?_))) <;> first | with_reducible (first | rfl | exact trivial | assumption | (refine decide_eq_true ?_ <;> omega) | (refine decide_eq_false ?_ <;> omega) | (refine head_ints1 ?_ <;> omega) | (refine bne_false ?_ <;> omega) | (refine bne_true ?_ <;> omega) | (refine beq_false' ?_ <;> omega) | (refine beq_true' ?_ <;> omega) | (refine wr6' ?_ ?_ ?_ <;> omega) | (refine rem6 ?_ <;> omega) | (refine quo6 ?_ ?_ ?_ <;> omega) | exact HfL_ints _ | omega) | ((with_reducible show (_ : V) = _); rfl) | (intro hk_; exfalso; revert hk_; simp; done) | (intros; simp_all; done) | (split <;> omega) | ((with_reducible show decide _ = true); exact decide_eq_true (by omega)) | ((with_reducible show decide _ = false); exact decide_eq_false (by omega)) | skip
          · have e2 : SpreadS c p u = (hitL c p u, 0) := by simp only [SpreadS, hc]; rw [if_neg (by simp [hp]), if_neg (by rw [hpp]; omega)]
            rw [e2] at hspr
            have hs' : FnOk Pg .e 27 [sl c, sl p, i6 u] (.tup [sl (hitL c p u), i6 0]) := hspr
            have hr := spreadref_ok c p u hg hp
            have hsm := same_ok (hitL c p u) (hitL c p u) (by have := hitI_len c p u (prodL c).toNat; rw [hitI_hitL] at this; have := hg.le; omega)
            rw [decide_eq_true rfl] at hsm
            refine .inl ⟨m + 1, [0], [yes 84, va 85 (i6 u), fn 92 (.tup [i6 (partR c p u), i6 0]), yes 99, yes 104, fn 106 (i6 0), fn 114 (i6 (partR c p u)), fn 119 (.bool true), fn 127 (.tup [sl (hitL c p u), i6 0]), yes 134, yes 139, fn 141 (i6 0), fn 164 (sl (hitL c p u)), fn 165 (.bool true), nu 169 (m + 1 : Nat)], 1000, hlt, by omega, ?_⟩
            refine Eq.mp (by kernel_rfl : (decide ((↑m : Int) < (3 : Int)) = true ∧
                  idxV (ctxOf Try.prog) (37 : Nat) (V.agg [i6 x, i6 y, i6 z]) (↑m : Int) = some (i6 u) ∧
                    (True ∧ True ∧ True ∧ True) ∧
                      FnOk Try.prog T.e (23 : Nat) [V.im (List.length c) (ints c), V.im (List.length p) (ints p), V.int IntKind.i64 u]
                          (V.tup [i6 (partR c p u), i6 (0 : Int)]) ∧
                        True ∧
                          decide (u ≥ (0 : Int)) = true ∧
                            decide (u < prodL c) = true ∧
                              (True ∧ True ∧ True) ∧
                                FnOk Try.prog T.e (24 : Nat) [V.int IntKind.i64 (0 : Int), V.bool true] (i6 (0 : Int)) ∧
                                  True ∧
                                    (True ∧ True ∧ True ∧ True) ∧
                                      FnOk Try.prog T.e (25 : Nat)
                                          [V.im (List.length c) (ints c), V.im (List.length p) (ints p), V.int IntKind.i64 u]
                                          (i6 (partR c p u)) ∧
                                        True ∧
                                          (True ∧ True ∧ True ∧ True ∧ True) ∧
                                            FnOk Try.prog T.e (26 : Nat)
                                                [V.int IntKind.i64 (partR c p u), V.int IntKind.i64 (0 : Int),
                                                  V.int IntKind.i64 (0 : Int), V.int IntKind.i64 (partR c p u)]
                                                (V.bool true) ∧
                                              True ∧
                                                (True ∧ True ∧ True ∧ True) ∧
                                                  FnOk Try.prog T.e (27 : Nat)
                                                      [V.im (List.length c) (ints c), V.im (List.length p) (ints p),
                                                        V.int IntKind.i64 u]
                                                      (V.tup [sl (hitL c p u), i6 (0 : Int)]) ∧
                                                    True ∧
                                                      decide (u ≥ (0 : Int)) = true ∧
                                                        decide (u < prodL (atL c p)) = true ∧
                                                          (True ∧ True ∧ True) ∧
                                                            FnOk Try.prog T.e (24 : Nat) [V.int IntKind.i64 (0 : Int), V.bool true]
                                                                (i6 (0 : Int)) ∧
                                                              True ∧
                                                                (True ∧ True ∧ True ∧ True) ∧
                                                                  FnOk Try.prog T.e (29 : Nat)
                                                                      [V.im (List.length c) (ints c), V.im (List.length p) (ints p),
                                                                        V.int IntKind.i64 u]
                                                                      (sl (hitL c p u)) ∧
                                                                    True ∧
                                                                      (True ∧ True ∧ True) ∧
                                                                        FnOk Try.prog T.e (28 : Nat)
                                                                            [V.im (List.length (hitL c p u)) (ints (hitL c p u)),
                                                                              V.im (List.length (hitL c p u)) (ints (hitL c p u))]
                                                                            (V.bool true) ∧
                                                                          ((V.fn (29 : Nat) [] = V.fn (28 : Nat) [] →
                                                                                [sl c, sl p, i6 u] =
                                                                                    [sl (hitL c p u), sl (hitL c p u)] →
                                                                                  ofOs T.e (0 : Nat)
                                                                                        [O.row (29 : Nat) none [sl c, sl p]] =
                                                                                      ofOs T.e (0 : Nat)
                                                                                        [O.row (29 : Nat) none [sl c, sl p]] →
                                                                                    (1 : Nat) = (1 : Nat) →
                                                                                      CR.mk (sl (hitL c p u))
                                                                                          (ofOs T.e (0 : Nat)
                                                                                            [O.row (29 : Nat) none [sl c, sl p]])
                                                                                          (1 : Nat) [] =
                                                                                        CR.mk (V.bool true)
                                                                                          (ofOs T.e (0 : Nat)
                                                                                            [O.row (29 : Nat) none [sl c, sl p]])
                                                                                          (1 : Nat) []) ∧
                                                                              True) ∧
                                                                            wr IntKind.i64 ((↑m : Int) + (1 : Int)) =
                                                                                (↑(m + (1 : Nat)) : Int) ∧
                                                                              (i = i ∧
                                                                                  k = k ∧
                                                                                    (0 : Nat) = (0 : Nat) ∧
                                                                                      (0 : Int) = (0 : Int) ∧
                                                                                        true = true ∧
                                                                                          prodL c = prodL c ∧
                                                                                            prodL (atL c p) = prodL (atL c p) ∧
                                                                                              ((List.length a1 = List.length a1 ∧
                                                                                                    ints a1 = ints a1) ∧
                                                                                                  (List.length a2 = List.length a2 ∧
                                                                                                      ints a2 = ints a2) ∧
                                                                                                    (List.length a3 = List.length a3 ∧
                                                                                                        ints a3 = ints a3) ∧
                                                                                                      (List.length a4 = List.length a4 ∧
                                                                                                          ints a4 = ints a4) ∧
                                                                                                        (List.length a5 =
                                                                                                              List.length a5 ∧
                                                                                                            ints a5 = ints a5) ∧
                                                                                                          (List.length a6 =
                                                                                                                List.length a6 ∧
                                                                                                              ints a6 = ints a6) ∧
                                                                                                            True) ∧
                                                                                                (↑j : Int) = (↑j : Int) ∧
                                                                                                  (x = x ∧ y = y ∧ z = z ∧ True) ∧
                                                                                                    (↑(m + (1 : Nat)) : Int) =
                                                                                                        (↑(m + (1 : Nat)) : Int) ∧
                                                                                                      True) ∧
                                                                                ([sl c, sl p] = [sl c, sl p] ∧ True ∧ True ∧ True) ∧
                                                                                  True) = _) ?_
            (repeat' (first | (with_reducible apply And.intro) | (refine fun (_ : True) => ?_))) <;> first | with_reducible (first | rfl | exact trivial | assumption | (refine decide_eq_true ?_ <;> omega) | (refine decide_eq_false ?_ <;> omega) | (refine head_ints1 ?_ <;> omega) | (refine bne_false ?_ <;> omega) | (refine bne_true ?_ <;> omega) | (refine beq_false' ?_ <;> omega) | (refine beq_true' ?_ <;> omega) | (refine wr6' ?_ ?_ ?_ <;> omega) | (refine rem6 ?_ <;> omega) | (refine quo6 ?_ ?_ ?_ <;> omega) | exact HfL_ints _ | omega) | ((with_reducible show (_ : V) = _); rfl) | (intro hk_; exfalso; revert hk_; simp; done) | (intros; simp_all; done) | (split <;> omega) | ((with_reducible show decide _ = true); exact decide_eq_true (by omega)) | ((with_reducible show decide _ = false); exact decide_eq_false (by omega)) | skip
  · have : m = 3 := by omega
    subst this
    refine .inr ⟨.exit 2, [0], ptS (six a1 a2 a3 a4 a5 a6) c p i k nq rt size some_ j [], [no 84], 1000, .inl ⟨trivial, rfl, rfl⟩, ?_⟩
    refine Eq.mp (by kernel_rfl : (decide ((↑(3 : Nat) : Int) < (3 : Int)) = false ∧
          (i = i ∧
              k = k ∧
                (0 : Nat) = (0 : Nat) ∧
                  nq = nq ∧
                    rt = rt ∧
                      size = size ∧
                        some_ = some_ ∧
                          ((List.length a1 = List.length a1 ∧ ints a1 = ints a1) ∧
                              (List.length a2 = List.length a2 ∧ ints a2 = ints a2) ∧
                                (List.length a3 = List.length a3 ∧ ints a3 = ints a3) ∧
                                  (List.length a4 = List.length a4 ∧ ints a4 = ints a4) ∧
                                    (List.length a5 = List.length a5 ∧ ints a5 = ints a5) ∧
                                      (List.length a6 = List.length a6 ∧ ints a6 = ints a6) ∧ True) ∧
                            (↑j : Int) = (↑j : Int) ∧ True) ∧
            ([sl c, sl p] = [sl c, sl p] ∧ True ∧ True ∧ True) ∧ True) = _) ?_
    (repeat' (first | (with_reducible apply And.intro) | (refine fun (_ : True) => ?_))) <;> first | with_reducible (first | rfl | exact trivial | assumption | (refine decide_eq_true ?_ <;> omega) | (refine decide_eq_false ?_ <;> omega) | (refine head_ints1 ?_ <;> omega) | (refine bne_false ?_ <;> omega) | (refine bne_true ?_ <;> omega) | (refine beq_false' ?_ <;> omega) | (refine beq_true' ?_ <;> omega) | (refine wr6' ?_ ?_ ?_ <;> omega) | (refine rem6 ?_ <;> omega) | (refine quo6 ?_ ?_ ?_ <;> omega) | exact HfL_ints _ | omega) | ((with_reducible show (_ : V) = _); rfl) | (intro hk_; exfalso; revert hk_; simp; done) | (intros; simp_all; done) | (split <;> omega) | ((with_reducible show decide _ = true); exact decide_eq_true (by omega)) | ((with_reducible show decide _ = false); exact decide_eq_false (by omega)) | skip

abbrev poS (A : V) (i k : Int) (j : Nat) : SL := { sl := [(2, i6 i), (4, .int .u16 k), (42, A), (43, i6 j)] }

theorem pouter (a1 a2 a3 a4 a5 a6 : List Int) (i k : Int) (hk0 : 0 ≤ k) (hk1 : k ≤ 65535) (h1 : a1.length ≤ 14) (h2 : a2.length ≤ 14) (h3 : a3.length ≤ 14) (h4 : a4.length ≤ 14) (h5 : a5.length ≤ 14) (h6 : a6.length ≤ 14) (j : Nat) (hj : j ≤ 3) :
    Sat Pg none 0 (at' 3 [1, 1, 0, 1, 0]) (mkSt .e 171 (poS (six a1 a2 a3 a4 a5 a6) i k j)) (outsP .e 171 [(True, .exit 0, { sl := [] })]) := by
  refine loopC vE_ok mixed sp0_ok (b := at' 3 [1, 1, 0, 1, 0, 0]) (by kernel_rfl) (fun j => j ≤ 3) (poS (six a1 a2 a3 a4 a5 a6) i k) (fun j => 3 - j) (fun j hj => ?_) j hj
  by_cases hlt : j < 3
  · obtain ⟨c, p, hcp, hcc⟩ := pick31 a1 a2 a3 a4 a5 a6 j hlt
    have hlen : c.length ≤ 14 := by rcases hcc with ⟨rfl, rfl⟩ | ⟨rfl, rfl⟩ | ⟨rfl, rfl⟩ <;> assumption
    have hpl : p.length ≤ 14 := by rcases hcc with ⟨rfl, rfl⟩ | ⟨rfl, rfl⟩ | ⟨rfl, rfl⟩ <;> assumption
    have hfirst := first_ok c
    cases hcount : count c with
    | none =>
      rw [hcount] at hfirst
      have hf' : FnOk Pg .e 19 [sl c] (i6 20) := hfirst
      have hl := pinner a1 a2 a3 a4 a5 a6 c p i k 20 false 0 0 j i (k.tmod 1) (k.tmod 1) hlen hpl (.a hcount) 0 (Nat.zero_le _)
      refine .inl ⟨j + 1, [], [yes 44, va 45 (.agg [sl c, sl p]), fn 48 (i6 20), nu 73 k, nu 75 1, nu 78 k, nu 80 1, (0, .loop [0] (p1S (six a1 a2 a3 a4 a5 a6) c p i k 20 false 0 0 j i (k.tmod 1) (k.tmod 1) 0) [(True, .exit 2, ptS (six a1 a2 a3 a4 a5 a6) c p i k 20 false 0 0 j [])]), nu 170 (j + 1 : Nat)], 1000, hlt, by omega, ?_⟩
      refine Eq.mp (by kernel_rfl : (decide ((↑j : Int) < (3 : Int)) = true ∧
            idxV (ctxOf Try.prog) (31 : Nat) (six a1 a2 a3 a4 a5 a6) (↑j : Int) = some (V.agg [sl c, sl p]) ∧
              (True ∧ True) ∧
                FnOk Try.prog T.e (19 : Nat) [V.im (List.length c) (ints c)] (i6 (20 : Int)) ∧
                  True ∧
                    wr IntKind.i64 k = k ∧
                      (if (0 : Int) > (1 : Int) then (0 : Int) else (1 : Int)) = (1 : Int) ∧
                        wr IntKind.i64 k = k ∧
                          (if (0 : Int) > (1 : Int) then (0 : Int) else (1 : Int)) = (1 : Int) ∧
                            ((i = i ∧
                                  k = k ∧
                                    (0 : Nat) = (0 : Nat) ∧
                                      (20 : Int) = (20 : Int) ∧
                                        false = false ∧
                                          (0 : Int) = (0 : Int) ∧
                                            (0 : Int) = (0 : Int) ∧
                                              ((List.length a1 = List.length a1 ∧ ints a1 = ints a1) ∧
                                                  (List.length a2 = List.length a2 ∧ ints a2 = ints a2) ∧
                                                    (List.length a3 = List.length a3 ∧ ints a3 = ints a3) ∧
                                                      (List.length a4 = List.length a4 ∧ ints a4 = ints a4) ∧
                                                        (List.length a5 = List.length a5 ∧ ints a5 = ints a5) ∧
                                                          (List.length a6 = List.length a6 ∧ ints a6 = ints a6) ∧ True) ∧
                                                (↑j : Int) = (↑j : Int) ∧
                                                  (i = i ∧
                                                      Int.tmod k (1 : Int) = Int.tmod k (1 : Int) ∧
                                                        Int.tmod k (1 : Int) = Int.tmod k (1 : Int) ∧ True) ∧
                                                    (↑(0 : Nat) : Int) = (0 : Int) ∧ True) ∧
                                ([sl c, sl p] = [sl c, sl p] ∧ True ∧ True ∧ True) ∧ True) ∧
                              Sat Try.prog none (0 : Nat)
                                  (at' (3 : Nat)
                                    [(1 : Nat), (1 : Nat), (0 : Nat), (1 : Nat), (0 : Nat), (0 : Nat), (1 : Nat), (1 : Nat),
                                      (0 : Nat), (0 : Nat), (1 : Nat), (1 : Nat), (1 : Nat), (1 : Nat), (1 : Nat), (1 : Nat),
                                      (1 : Nat), (0 : Nat)])
                                  (mkSt T.e (171 : Nat)
                                    (p1S (six a1 a2 a3 a4 a5 a6) c p i k (20 : Int) false (0 : Int) (0 : Int) j i
                                      (Int.tmod k (1 : Int)) (Int.tmod k (1 : Int)) (0 : Nat)))
                                  (outsP T.e (171 : Nat)
                                    [(True, Ex.exit (2 : Nat),
                                        ptS (six a1 a2 a3 a4 a5 a6) c p i k (20 : Int) false (0 : Int) (0 : Int) j [])]) ∧
                                (True →
                                    wr IntKind.i64 ((↑j : Int) + (1 : Int)) = (↑(j + (1 : Nat)) : Int) ∧
                                      (i = i ∧
                                          k = k ∧
                                            ((List.length a1 = List.length a1 ∧ ints a1 = ints a1) ∧
                                                (List.length a2 = List.length a2 ∧ ints a2 = ints a2) ∧
                                                  (List.length a3 = List.length a3 ∧ ints a3 = ints a3) ∧
                                                    (List.length a4 = List.length a4 ∧ ints a4 = ints a4) ∧
                                                      (List.length a5 = List.length a5 ∧ ints a5 = ints a5) ∧
                                                        (List.length a6 = List.length a6 ∧ ints a6 = ints a6) ∧ True) ∧
                                              (↑(j + (1 : Nat)) : Int) = (↑(j + (1 : Nat)) : Int) ∧ True) ∧
                                        True) ∧
                                  True) = _) ?_
      (repeat' (first | (with_reducible apply And.intro) | (refine fun (_ : True) => ?_))) <;> first | with_reducible (first | rfl | exact trivial | assumption | (refine decide_eq_true ?_ <;> omega) | (refine decide_eq_false ?_ <;> omega) | (refine head_ints1 ?_ <;> omega) | (refine bne_false ?_ <;> omega) | (refine bne_true ?_ <;> omega) | (refine beq_false' ?_ <;> omega) | (refine beq_true' ?_ <;> omega) | (refine wr6' ?_ ?_ ?_ <;> omega) | (refine rem6 ?_ <;> omega) | (refine quo6 ?_ ?_ ?_ <;> omega) | exact HfL_ints _ | omega) | ((with_reducible show (_ : V) = _); rfl) | (intro hk_; exfalso; revert hk_; simp; done) | (intros; simp_all; done) | (split <;> omega) | ((with_reducible show decide _ = true); exact decide_eq_true (by omega)) | ((with_reducible show decide _ = false); exact decide_eq_false (by omega)) | skip
    | some t =>
      obtain ⟨hg, rfl⟩ := good_of hcount
      rw [hcount] at hfirst
      have hf' : FnOk Pg .e 19 [sl c] (i6 0) := hfirst
      have hsz := size_fn c (fits_good hg) (by omega)
      have hplc := placesR_ok p c.length (by omega)
      have hpos := hg.pos
      cases hp : incr c.length (-1) p with
      | false =>
        rw [hp] at hplc
        have hl := pinner a1 a2 a3 a4 a5 a6 c p i k 0 false (prodL c) 0 j i (k.tmod (prodL c)) (k.tmod 1) hlen hpl (.b _ hcount hp) 0 (Nat.zero_le _)
        refine .inl ⟨j + 1, [], [yes 44, va 45 (.agg [sl c, sl p]), fn 48 (i6 0), fn 57 (.bool false), fn 63 (i6 (prodL c)), nu 73 k, nu 75 (prodL c), va 76 (i6 (k.tmod (prodL c))), nu 78 k, nu 80 1, (0, .loop [0] (p1S (six a1 a2 a3 a4 a5 a6) c p i k 0 false (prodL c) 0 j i (k.tmod (prodL c)) (k.tmod 1) 0) [(True, .exit 2, ptS (six a1 a2 a3 a4 a5 a6) c p i k 0 false (prodL c) 0 j [])]), nu 170 (j + 1 : Nat)], 1000, hlt, by omega, ?_⟩
        refine Eq.mp (by kernel_rfl : (decide ((↑j : Int) < (3 : Int)) = true ∧
              idxV (ctxOf Try.prog) (31 : Nat) (six a1 a2 a3 a4 a5 a6) (↑j : Int) = some (V.agg [sl c, sl p]) ∧
                (True ∧ True) ∧
                  FnOk Try.prog T.e (19 : Nat) [V.im (List.length c) (ints c)] (i6 (0 : Int)) ∧
                    True ∧
                      (True ∧ True ∧ True) ∧
                        FnOk Try.prog T.e (20 : Nat) [V.im (List.length p) (ints p), V.int IntKind.i64 (↑(List.length c) : Int)]
                            (V.bool false) ∧
                          True ∧
                            (True ∧ True) ∧
                              FnOk Try.prog T.e (21 : Nat) [V.im (List.length c) (ints c)] (i6 (prodL c)) ∧
                                True ∧
                                  wr IntKind.i64 k = k ∧
                                    (if prodL c > (1 : Int) then prodL c else (1 : Int)) = prodL c ∧
                                      binV (ctxOf Try.prog) BinOp.rem (3 : Nat) (V.int IntKind.i64 k)
                                            (V.int IntKind.i64 (prodL c)) =
                                          some (i6 (Int.tmod k (prodL c))) ∧
                                        wr IntKind.i64 k = k ∧
                                          (if (0 : Int) > (1 : Int) then (0 : Int) else (1 : Int)) = (1 : Int) ∧
                                            ((i = i ∧
                                                  k = k ∧
                                                    (0 : Nat) = (0 : Nat) ∧
                                                      (0 : Int) = (0 : Int) ∧
                                                        false = false ∧
                                                          prodL c = prodL c ∧
                                                            (0 : Int) = (0 : Int) ∧
                                                              ((List.length a1 = List.length a1 ∧ ints a1 = ints a1) ∧
                                                                  (List.length a2 = List.length a2 ∧ ints a2 = ints a2) ∧
                                                                    (List.length a3 = List.length a3 ∧ ints a3 = ints a3) ∧
                                                                      (List.length a4 = List.length a4 ∧ ints a4 = ints a4) ∧
                                                                        (List.length a5 = List.length a5 ∧ ints a5 = ints a5) ∧
                                                                          (List.length a6 = List.length a6 ∧ ints a6 = ints a6) ∧
                                                                            True) ∧
                                                                (↑j : Int) = (↑j : Int) ∧
                                                                  (i = i ∧
                                                                      Int.tmod k (prodL c) = Int.tmod k (prodL c) ∧
                                                                        Int.tmod k (1 : Int) = Int.tmod k (1 : Int) ∧ True) ∧
                                                                    (↑(0 : Nat) : Int) = (0 : Int) ∧ True) ∧
                                                ([sl c, sl p] = [sl c, sl p] ∧ True ∧ True ∧ True) ∧ True) ∧
                                              Sat Try.prog none (0 : Nat)
                                                  (at' (3 : Nat)
                                                    [(1 : Nat), (1 : Nat), (0 : Nat), (1 : Nat), (0 : Nat), (0 : Nat), (1 : Nat),
                                                      (1 : Nat), (0 : Nat), (0 : Nat), (1 : Nat), (1 : Nat), (1 : Nat), (1 : Nat),
                                                      (1 : Nat), (1 : Nat), (1 : Nat), (0 : Nat)])
                                                  (mkSt T.e (171 : Nat)
                                                    (p1S (six a1 a2 a3 a4 a5 a6) c p i k (0 : Int) false (prodL c) (0 : Int) j i
                                                      (Int.tmod k (prodL c)) (Int.tmod k (1 : Int)) (0 : Nat)))
                                                  (outsP T.e (171 : Nat)
                                                    [(True, Ex.exit (2 : Nat),
                                                        ptS (six a1 a2 a3 a4 a5 a6) c p i k (0 : Int) false (prodL c) (0 : Int) j
                                                          [])]) ∧
                                                (True →
                                                    wr IntKind.i64 ((↑j : Int) + (1 : Int)) = (↑(j + (1 : Nat)) : Int) ∧
                                                      (i = i ∧
                                                          k = k ∧
                                                            ((List.length a1 = List.length a1 ∧ ints a1 = ints a1) ∧
                                                                (List.length a2 = List.length a2 ∧ ints a2 = ints a2) ∧
                                                                  (List.length a3 = List.length a3 ∧ ints a3 = ints a3) ∧
                                                                    (List.length a4 = List.length a4 ∧ ints a4 = ints a4) ∧
                                                                      (List.length a5 = List.length a5 ∧ ints a5 = ints a5) ∧
                                                                        (List.length a6 = List.length a6 ∧ ints a6 = ints a6) ∧
                                                                          True) ∧
                                                              (↑(j + (1 : Nat)) : Int) = (↑(j + (1 : Nat)) : Int) ∧ True) ∧
                                                        True) ∧
                                                  True) = _) ?_
        (repeat' (first | (with_reducible apply And.intro) | (refine fun (_ : True) => ?_))) <;> first | with_reducible (first | rfl | exact trivial | assumption | (refine decide_eq_true ?_ <;> omega) | (refine decide_eq_false ?_ <;> omega) | (refine head_ints1 ?_ <;> omega) | (refine bne_false ?_ <;> omega) | (refine bne_true ?_ <;> omega) | (refine beq_false' ?_ <;> omega) | (refine beq_true' ?_ <;> omega) | (refine wr6' ?_ ?_ ?_ <;> omega) | (refine rem6 ?_ <;> omega) | (refine quo6 ?_ ?_ ?_ <;> omega) | exact HfL_ints _ | omega) | ((with_reducible show (_ : V) = _); rfl) | (intro hk_; exfalso; revert hk_; simp; done) | (intros; simp_all; done) | (split <;> omega) | ((with_reducible show decide _ = true); exact decide_eq_true (by omega)) | ((with_reducible show decide _ = false); exact decide_eq_false (by omega)) | skip
      | true =>
        rw [hp] at hplc
        have hat := at_ok c p (incr_inL hp) (by omega)
        have hag := at_good hg hp
        have hasz := size_fn (atL c p) (fits_good hag) (by have := hag.len; omega)
        have hapos := hag.pos
        have hl := pinner a1 a2 a3 a4 a5 a6 c p i k 0 true (prodL c) (prodL (atL c p)) j i (k.tmod (prodL c)) (k.tmod (prodL (atL c p))) hlen hpl (.c _ hcount hp) 0 (Nat.zero_le _)
        refine .inl ⟨j + 1, [], [yes 44, va 45 (.agg [sl c, sl p]), fn 48 (i6 0), fn 57 (.bool true), fn 63 (i6 (prodL c)), fn 69 (sl (atL c p)), fn 70 (i6 (prodL (atL c p))), nu 73 k, nu 75 (prodL c), va 76 (i6 (k.tmod (prodL c))), nu 78 k, nu 80 (prodL (atL c p)), va 81 (i6 (k.tmod (prodL (atL c p)))), (0, .loop [0] (p1S (six a1 a2 a3 a4 a5 a6) c p i k 0 true (prodL c) (prodL (atL c p)) j i (k.tmod (prodL c)) (k.tmod (prodL (atL c p))) 0) [(True, .exit 2, ptS (six a1 a2 a3 a4 a5 a6) c p i k 0 true (prodL c) (prodL (atL c p)) j [])]), nu 170 (j + 1 : Nat)], 1000, hlt, by omega, ?_⟩
        refine Eq.mp (by kernel_rfl : (decide ((↑j : Int) < (3 : Int)) = true ∧
              idxV (ctxOf Try.prog) (31 : Nat) (six a1 a2 a3 a4 a5 a6) (↑j : Int) = some (V.agg [sl c, sl p]) ∧
                (True ∧ True) ∧
                  FnOk Try.prog T.e (19 : Nat) [V.im (List.length c) (ints c)] (i6 (0 : Int)) ∧
                    True ∧
                      (True ∧ True ∧ True) ∧
                        FnOk Try.prog T.e (20 : Nat) [V.im (List.length p) (ints p), V.int IntKind.i64 (↑(List.length c) : Int)]
                            (V.bool true) ∧
                          True ∧
                            (True ∧ True) ∧
                              FnOk Try.prog T.e (21 : Nat) [V.im (List.length c) (ints c)] (i6 (prodL c)) ∧
                                True ∧
                                  (True ∧ True ∧ True) ∧
                                    FnOk Try.prog T.e (22 : Nat) [V.im (List.length c) (ints c), V.im (List.length p) (ints p)]
                                        (sl (atL c p)) ∧
                                      True ∧
                                        (True ∧ True) ∧
                                          FnOk Try.prog T.e (21 : Nat) [V.im (List.length (atL c p)) (ints (atL c p))]
                                              (i6 (prodL (atL c p))) ∧
                                            ((V.fn (22 : Nat) [] = V.fn (21 : Nat) [] →
                                                  [sl c, sl p] = [sl (atL c p)] →
                                                    pt
                                                          (pt (ofOs T.e (0 : Nat) []) (0 : Nat)
                                                            (O.row (29 : Nat) none [V.nils, V.nils]))
                                                          (0 : Nat) (O.row (29 : Nat) none [sl c, sl p]) =
                                                        pt
                                                          (pt (ofOs T.e (0 : Nat) []) (0 : Nat)
                                                            (O.row (29 : Nat) none [V.nils, V.nils]))
                                                          (0 : Nat) (O.row (29 : Nat) none [sl c, sl p]) →
                                                      (0 : Nat) + (1 : Nat) = (0 : Nat) + (1 : Nat) →
                                                        CR.mk (sl (atL c p))
                                                            (pt
                                                              (pt (ofOs T.e (0 : Nat) []) (0 : Nat)
                                                                (O.row (29 : Nat) none [V.nils, V.nils]))
                                                              (0 : Nat) (O.row (29 : Nat) none [sl c, sl p]))
                                                            ((0 : Nat) + (1 : Nat)) [] =
                                                          CR.mk (i6 (prodL (atL c p)))
                                                            (pt
                                                              (pt (ofOs T.e (0 : Nat) []) (0 : Nat)
                                                                (O.row (29 : Nat) none [V.nils, V.nils]))
                                                              (0 : Nat) (O.row (29 : Nat) none [sl c, sl p]))
                                                            ((0 : Nat) + (1 : Nat)) []) ∧
                                                True) ∧
                                              wr IntKind.i64 k = k ∧
                                                (if prodL c > (1 : Int) then prodL c else (1 : Int)) = prodL c ∧
                                                  binV (ctxOf Try.prog) BinOp.rem (3 : Nat) (V.int IntKind.i64 k)
                                                        (V.int IntKind.i64 (prodL c)) =
                                                      some (i6 (Int.tmod k (prodL c))) ∧
                                                    wr IntKind.i64 k = k ∧
                                                      (if prodL (atL c p) > (1 : Int) then prodL (atL c p) else (1 : Int)) =
                                                          prodL (atL c p) ∧
                                                        binV (ctxOf Try.prog) BinOp.rem (3 : Nat) (V.int IntKind.i64 k)
                                                              (V.int IntKind.i64 (prodL (atL c p))) =
                                                            some (i6 (Int.tmod k (prodL (atL c p)))) ∧
                                                          ((i = i ∧
                                                                k = k ∧
                                                                  (0 : Nat) = (0 : Nat) ∧
                                                                    (0 : Int) = (0 : Int) ∧
                                                                      true = true ∧
                                                                        prodL c = prodL c ∧
                                                                          prodL (atL c p) = prodL (atL c p) ∧
                                                                            ((List.length a1 = List.length a1 ∧ ints a1 = ints a1) ∧
                                                                                (List.length a2 = List.length a2 ∧
                                                                                    ints a2 = ints a2) ∧
                                                                                  (List.length a3 = List.length a3 ∧
                                                                                      ints a3 = ints a3) ∧
                                                                                    (List.length a4 = List.length a4 ∧
                                                                                        ints a4 = ints a4) ∧
                                                                                      (List.length a5 = List.length a5 ∧
                                                                                          ints a5 = ints a5) ∧
                                                                                        (List.length a6 = List.length a6 ∧
                                                                                            ints a6 = ints a6) ∧
                                                                                          True) ∧
                                                                              (↑j : Int) = (↑j : Int) ∧
                                                                                (i = i ∧
                                                                                    Int.tmod k (prodL c) = Int.tmod k (prodL c) ∧
                                                                                      Int.tmod k (prodL (atL c p)) =
                                                                                          Int.tmod k (prodL (atL c p)) ∧
                                                                                        True) ∧
                                                                                  (↑(0 : Nat) : Int) = (0 : Int) ∧ True) ∧
                                                              ([sl c, sl p] = [sl c, sl p] ∧ True ∧ True ∧ True) ∧ True) ∧
                                                            Sat Try.prog none (0 : Nat)
                                                                (at' (3 : Nat)
                                                                  [(1 : Nat), (1 : Nat), (0 : Nat), (1 : Nat), (0 : Nat), (0 : Nat),
                                                                    (1 : Nat), (1 : Nat), (0 : Nat), (0 : Nat), (1 : Nat),
                                                                    (1 : Nat), (1 : Nat), (1 : Nat), (1 : Nat), (1 : Nat),
                                                                    (1 : Nat), (0 : Nat)])
                                                                (mkSt T.e (171 : Nat)
                                                                  (p1S (six a1 a2 a3 a4 a5 a6) c p i k (0 : Int) true (prodL c)
                                                                    (prodL (atL c p)) j i (Int.tmod k (prodL c))
                                                                    (Int.tmod k (prodL (atL c p))) (0 : Nat)))
                                                                (outsP T.e (171 : Nat)
                                                                  [(True, Ex.exit (2 : Nat),
                                                                      ptS (six a1 a2 a3 a4 a5 a6) c p i k (0 : Int) true (prodL c)
                                                                        (prodL (atL c p)) j [])]) ∧
                                                              (True →
                                                                  wr IntKind.i64 ((↑j : Int) + (1 : Int)) =
                                                                      (↑(j + (1 : Nat)) : Int) ∧
                                                                    (i = i ∧
                                                                        k = k ∧
                                                                          ((List.length a1 = List.length a1 ∧ ints a1 = ints a1) ∧
                                                                              (List.length a2 = List.length a2 ∧
                                                                                  ints a2 = ints a2) ∧
                                                                                (List.length a3 = List.length a3 ∧
                                                                                    ints a3 = ints a3) ∧
                                                                                  (List.length a4 = List.length a4 ∧
                                                                                      ints a4 = ints a4) ∧
                                                                                    (List.length a5 = List.length a5 ∧
                                                                                        ints a5 = ints a5) ∧
                                                                                      (List.length a6 = List.length a6 ∧
                                                                                          ints a6 = ints a6) ∧
                                                                                        True) ∧
                                                                            (↑(j + (1 : Nat)) : Int) = (↑(j + (1 : Nat)) : Int) ∧
                                                                              True) ∧
                                                                      True) ∧
                                                                True) = _) ?_
        (repeat' (first | (with_reducible apply And.intro) | (refine fun (_ : True) => ?_))) <;> first | with_reducible (first | rfl | exact trivial | assumption | (refine decide_eq_true ?_ <;> omega) | (refine decide_eq_false ?_ <;> omega) | (refine head_ints1 ?_ <;> omega) | (refine bne_false ?_ <;> omega) | (refine bne_true ?_ <;> omega) | (refine beq_false' ?_ <;> omega) | (refine beq_true' ?_ <;> omega) | (refine wr6' ?_ ?_ ?_ <;> omega) | (refine rem6 ?_ <;> omega) | (refine quo6 ?_ ?_ ?_ <;> omega) | exact HfL_ints _ | omega) | ((with_reducible show (_ : V) = _); rfl) | (intro hk_; exfalso; revert hk_; simp; done) | (intros; simp_all; done) | (split <;> omega) | ((with_reducible show decide _ = true); exact decide_eq_true (by omega)) | ((with_reducible show decide _ = false); exact decide_eq_false (by omega)) | skip
  · have : j = 3 := by omega
    subst this
    refine .inr ⟨.exit 0, [], { sl := [] }, [no 44], 1000, .inl ⟨trivial, rfl, rfl⟩, ?_⟩
    refine Eq.mp (by kernel_rfl : (decide ((↑(3 : Nat) : Int) < (3 : Int)) = false ∧ True ∧ True) = _) ?_
    (repeat' (first | (with_reducible apply And.intro) | (refine fun (_ : True) => ?_))) <;> first | with_reducible (first | rfl | exact trivial | assumption | (refine decide_eq_true ?_ <;> omega) | (refine decide_eq_false ?_ <;> omega) | (refine head_ints1 ?_ <;> omega) | (refine bne_false ?_ <;> omega) | (refine bne_true ?_ <;> omega) | (refine beq_false' ?_ <;> omega) | (refine beq_true' ?_ <;> omega) | (refine wr6' ?_ ?_ ?_ <;> omega) | (refine rem6 ?_ <;> omega) | (refine quo6 ?_ ?_ ?_ <;> omega) | exact HfL_ints _ | omega) | ((with_reducible show (_ : V) = _); rfl) | (intro hk_; exfalso; revert hk_; simp; done) | (intros; simp_all; done) | (split <;> omega) | ((with_reducible show decide _ = true); exact decide_eq_true (by omega)) | ((with_reducible show decide _ = false); exact decide_eq_false (by omega)) | skip

theorem parts_true (L M C D : List Int) (i w k : Int) (hC : u8s C) (hk0 : 0 ≤ k) (hk1 : k ≤ 65535) : FnOk Pg .e 3 [sl L, sl M, i6 i, drV C D w, .int .u16 k] (.bool true) := by
  have hw := works_ok
  have hcut := cut_ok L
  have hcut2 := cut_ok M
  have hcards := cards_fn C D w hC
  have hpl := places2_fn C D w hC
  have hpl5 := placesD_len C w
  have hl := pouter (L.take 14) (M.take 14) (cardsD C) (M.take 14) (cardsD C) (placesD C w) i k hk0 hk1 (by simp; omega) (by simp; omega) (by simp [cardsD]; omega) (by simp; omega) (by simp [cardsD]; omega) (by omega) 0 (Nat.zero_le _)
  refine FnOk.of_vc vE_ok mixed sp0_ok (n := 1000) (r := []) (S := boE 10 true) (hs := [fn 25 (.bool true), fn 28 (sl (L.take 14)), fn 30 (sl (M.take 14)), fn 33 (sl (cardsD C)), fn 35 (sl (M.take 14)), fn 38 (sl (cardsD C)), fn 40 (sl (placesD C w)), (0, .loop [] (poS (six (L.take 14) (M.take 14) (cardsD C) (M.take 14) (cardsD C) (placesD C w)) i k 0) [(True, .exit 0, { sl := [] })])]) ?_
  refine Eq.mp (by kernel_rfl : (V.bool true = V.bool true ∧
        True ∧
          FnOk Try.prog T.e (15 : Nat) [] (V.bool true) ∧
            True ∧
              (True ∧ True) ∧
                FnOk Try.prog T.e (16 : Nat) [V.im (List.length L) (ints L)] (sl (List.take (14 : Nat) L)) ∧
                  True ∧
                    (True ∧ True) ∧
                      FnOk Try.prog T.e (16 : Nat) [V.im (List.length M) (ints M)] (sl (List.take (14 : Nat) M)) ∧
                        ((V.fn (16 : Nat) [] = V.fn (16 : Nat) [] →
                              [sl L] = [sl M] →
                                pt T.e (0 : Nat) (O.row (26 : Nat) none [sl8 C, V.int IntKind.u16 w, sl8 D]) =
                                    pt T.e (0 : Nat) (O.row (26 : Nat) none [sl8 C, V.int IntKind.u16 w, sl8 D]) →
                                  (0 : Nat) + (1 : Nat) = (0 : Nat) + (1 : Nat) →
                                    CR.mk (sl (List.take (14 : Nat) L))
                                        (pt T.e (0 : Nat) (O.row (26 : Nat) none [sl8 C, V.int IntKind.u16 w, sl8 D]))
                                        ((0 : Nat) + (1 : Nat)) [] =
                                      CR.mk (sl (List.take (14 : Nat) M))
                                        (pt T.e (0 : Nat) (O.row (26 : Nat) none [sl8 C, V.int IntKind.u16 w, sl8 D]))
                                        ((0 : Nat) + (1 : Nat)) []) ∧
                            True) ∧
                          ((True ∧ True ∧ True ∧ True) ∧ True) ∧
                            FnOk Try.prog T.e (17 : Nat)
                                [V.agg
                                    [V.im (List.length C) (List.map (V.int IntKind.u8) C), V.int IntKind.u16 w,
                                      V.im (List.length D) (List.map (V.int IntKind.u8) D)]]
                                (sl (cardsD C)) ∧
                              ((V.fn (16 : Nat) [] = V.fn (17 : Nat) [] →
                                    [sl M] = [V.agg [sl8 C, V.int IntKind.u16 w, sl8 D]] →
                                      pt T.e (0 : Nat) (O.row (26 : Nat) none [sl8 C, V.int IntKind.u16 w, sl8 D]) =
                                          pt T.e (0 : Nat) (O.row (26 : Nat) none [sl8 C, V.int IntKind.u16 w, sl8 D]) →
                                        (0 : Nat) + (1 : Nat) = (0 : Nat) + (1 : Nat) →
                                          CR.mk (sl (List.take (14 : Nat) M))
                                              (pt T.e (0 : Nat) (O.row (26 : Nat) none [sl8 C, V.int IntKind.u16 w, sl8 D]))
                                              ((0 : Nat) + (1 : Nat)) [] =
                                            CR.mk (sl (cardsD C))
                                              (pt T.e (0 : Nat) (O.row (26 : Nat) none [sl8 C, V.int IntKind.u16 w, sl8 D]))
                                              ((0 : Nat) + (1 : Nat)) []) ∧
                                  (V.fn (16 : Nat) [] = V.fn (17 : Nat) [] →
                                      [sl L] = [V.agg [sl8 C, V.int IntKind.u16 w, sl8 D]] →
                                        pt T.e (0 : Nat) (O.row (26 : Nat) none [sl8 C, V.int IntKind.u16 w, sl8 D]) =
                                            pt T.e (0 : Nat) (O.row (26 : Nat) none [sl8 C, V.int IntKind.u16 w, sl8 D]) →
                                          (0 : Nat) + (1 : Nat) = (0 : Nat) + (1 : Nat) →
                                            CR.mk (sl (List.take (14 : Nat) L))
                                                (pt T.e (0 : Nat) (O.row (26 : Nat) none [sl8 C, V.int IntKind.u16 w, sl8 D]))
                                                ((0 : Nat) + (1 : Nat)) [] =
                                              CR.mk (sl (cardsD C))
                                                (pt T.e (0 : Nat) (O.row (26 : Nat) none [sl8 C, V.int IntKind.u16 w, sl8 D]))
                                                ((0 : Nat) + (1 : Nat)) []) ∧
                                    True) ∧
                                (True ∧ True) ∧
                                  FnOk Try.prog T.e (16 : Nat) [V.im (List.length M) (ints M)] (sl (List.take (14 : Nat) M)) ∧
                                    ((V.fn (17 : Nat) [] = V.fn (16 : Nat) [] →
                                          [V.agg [sl8 C, V.int IntKind.u16 w, sl8 D]] = [sl M] →
                                            pt T.e (0 : Nat) (O.row (26 : Nat) none [sl8 C, V.int IntKind.u16 w, sl8 D]) =
                                                pt T.e (0 : Nat) (O.row (26 : Nat) none [sl8 C, V.int IntKind.u16 w, sl8 D]) →
                                              (0 : Nat) + (1 : Nat) = (0 : Nat) + (1 : Nat) →
                                                CR.mk (sl (cardsD C))
                                                    (pt T.e (0 : Nat)
                                                      (O.row (26 : Nat) none [sl8 C, V.int IntKind.u16 w, sl8 D]))
                                                    ((0 : Nat) + (1 : Nat)) [] =
                                                  CR.mk (sl (List.take (14 : Nat) M))
                                                    (pt T.e (0 : Nat)
                                                      (O.row (26 : Nat) none [sl8 C, V.int IntKind.u16 w, sl8 D]))
                                                    ((0 : Nat) + (1 : Nat)) []) ∧
                                        (V.fn (16 : Nat) [] = V.fn (16 : Nat) [] →
                                            [sl M] = [sl M] →
                                              pt T.e (0 : Nat) (O.row (26 : Nat) none [sl8 C, V.int IntKind.u16 w, sl8 D]) =
                                                  pt T.e (0 : Nat)
                                                    (O.row (26 : Nat) none [sl8 C, V.int IntKind.u16 w, sl8 D]) →
                                                (0 : Nat) + (1 : Nat) = (0 : Nat) + (1 : Nat) →
                                                  CR.mk (sl (List.take (14 : Nat) M))
                                                      (pt T.e (0 : Nat)
                                                        (O.row (26 : Nat) none [sl8 C, V.int IntKind.u16 w, sl8 D]))
                                                      ((0 : Nat) + (1 : Nat)) [] =
                                                    CR.mk (sl (List.take (14 : Nat) M))
                                                      (pt T.e (0 : Nat)
                                                        (O.row (26 : Nat) none [sl8 C, V.int IntKind.u16 w, sl8 D]))
                                                      ((0 : Nat) + (1 : Nat)) []) ∧
                                          (V.fn (16 : Nat) [] = V.fn (16 : Nat) [] →
                                              [sl L] = [sl M] →
                                                pt T.e (0 : Nat) (O.row (26 : Nat) none [sl8 C, V.int IntKind.u16 w, sl8 D]) =
                                                    pt T.e (0 : Nat)
                                                      (O.row (26 : Nat) none [sl8 C, V.int IntKind.u16 w, sl8 D]) →
                                                  (0 : Nat) + (1 : Nat) = (0 : Nat) + (1 : Nat) →
                                                    CR.mk (sl (List.take (14 : Nat) L))
                                                        (pt T.e (0 : Nat)
                                                          (O.row (26 : Nat) none [sl8 C, V.int IntKind.u16 w, sl8 D]))
                                                        ((0 : Nat) + (1 : Nat)) [] =
                                                      CR.mk (sl (List.take (14 : Nat) M))
                                                        (pt T.e (0 : Nat)
                                                          (O.row (26 : Nat) none [sl8 C, V.int IntKind.u16 w, sl8 D]))
                                                        ((0 : Nat) + (1 : Nat)) []) ∧
                                            True) ∧
                                      ((True ∧ True ∧ True ∧ True) ∧ True) ∧
                                        FnOk Try.prog T.e (17 : Nat)
                                            [V.agg
                                                [V.im (List.length C) (List.map (V.int IntKind.u8) C), V.int IntKind.u16 w,
                                                  V.im (List.length D) (List.map (V.int IntKind.u8) D)]]
                                            (sl (cardsD C)) ∧
                                          ((V.fn (16 : Nat) [] = V.fn (17 : Nat) [] →
                                                [sl M] = [V.agg [sl8 C, V.int IntKind.u16 w, sl8 D]] →
                                                  pt T.e (0 : Nat)
                                                        (O.row (26 : Nat) none [sl8 C, V.int IntKind.u16 w, sl8 D]) =
                                                      pt T.e (0 : Nat)
                                                        (O.row (26 : Nat) none [sl8 C, V.int IntKind.u16 w, sl8 D]) →
                                                    (0 : Nat) + (1 : Nat) = (0 : Nat) + (1 : Nat) →
                                                      CR.mk (sl (List.take (14 : Nat) M))
                                                          (pt T.e (0 : Nat)
                                                            (O.row (26 : Nat) none [sl8 C, V.int IntKind.u16 w, sl8 D]))
                                                          ((0 : Nat) + (1 : Nat)) [] =
                                                        CR.mk (sl (cardsD C))
                                                          (pt T.e (0 : Nat)
                                                            (O.row (26 : Nat) none [sl8 C, V.int IntKind.u16 w, sl8 D]))
                                                          ((0 : Nat) + (1 : Nat)) []) ∧
                                              (V.fn (17 : Nat) [] = V.fn (17 : Nat) [] →
                                                  [V.agg [sl8 C, V.int IntKind.u16 w, sl8 D]] =
                                                      [V.agg [sl8 C, V.int IntKind.u16 w, sl8 D]] →
                                                    pt T.e (0 : Nat)
                                                          (O.row (26 : Nat) none [sl8 C, V.int IntKind.u16 w, sl8 D]) =
                                                        pt T.e (0 : Nat)
                                                          (O.row (26 : Nat) none [sl8 C, V.int IntKind.u16 w, sl8 D]) →
                                                      (0 : Nat) + (1 : Nat) = (0 : Nat) + (1 : Nat) →
                                                        CR.mk (sl (cardsD C))
                                                            (pt T.e (0 : Nat)
                                                              (O.row (26 : Nat) none [sl8 C, V.int IntKind.u16 w, sl8 D]))
                                                            ((0 : Nat) + (1 : Nat)) [] =
                                                          CR.mk (sl (cardsD C))
                                                            (pt T.e (0 : Nat)
                                                              (O.row (26 : Nat) none [sl8 C, V.int IntKind.u16 w, sl8 D]))
                                                            ((0 : Nat) + (1 : Nat)) []) ∧
                                                (V.fn (16 : Nat) [] = V.fn (17 : Nat) [] →
                                                    [sl M] = [V.agg [sl8 C, V.int IntKind.u16 w, sl8 D]] →
                                                      pt T.e (0 : Nat)
                                                            (O.row (26 : Nat) none [sl8 C, V.int IntKind.u16 w, sl8 D]) =
                                                          pt T.e (0 : Nat)
                                                            (O.row (26 : Nat) none [sl8 C, V.int IntKind.u16 w, sl8 D]) →
                                                        (0 : Nat) + (1 : Nat) = (0 : Nat) + (1 : Nat) →
                                                          CR.mk (sl (List.take (14 : Nat) M))
                                                              (pt T.e (0 : Nat)
                                                                (O.row (26 : Nat) none [sl8 C, V.int IntKind.u16 w, sl8 D]))
                                                              ((0 : Nat) + (1 : Nat)) [] =
                                                            CR.mk (sl (cardsD C))
                                                              (pt T.e (0 : Nat)
                                                                (O.row (26 : Nat) none [sl8 C, V.int IntKind.u16 w, sl8 D]))
                                                              ((0 : Nat) + (1 : Nat)) []) ∧
                                                  (V.fn (16 : Nat) [] = V.fn (17 : Nat) [] →
                                                      [sl L] = [V.agg [sl8 C, V.int IntKind.u16 w, sl8 D]] →
                                                        pt T.e (0 : Nat)
                                                              (O.row (26 : Nat) none [sl8 C, V.int IntKind.u16 w, sl8 D]) =
                                                            pt T.e (0 : Nat)
                                                              (O.row (26 : Nat) none [sl8 C, V.int IntKind.u16 w, sl8 D]) →
                                                          (0 : Nat) + (1 : Nat) = (0 : Nat) + (1 : Nat) →
                                                            CR.mk (sl (List.take (14 : Nat) L))
                                                                (pt T.e (0 : Nat)
                                                                  (O.row (26 : Nat) none [sl8 C, V.int IntKind.u16 w, sl8 D]))
                                                                ((0 : Nat) + (1 : Nat)) [] =
                                                              CR.mk (sl (cardsD C))
                                                                (pt T.e (0 : Nat)
                                                                  (O.row (26 : Nat) none [sl8 C, V.int IntKind.u16 w, sl8 D]))
                                                                ((0 : Nat) + (1 : Nat)) []) ∧
                                                    True) ∧
                                            ((True ∧ True ∧ True ∧ True) ∧ True) ∧
                                              FnOk Try.prog T.e (18 : Nat)
                                                  [V.agg
                                                      [V.im (List.length C) (List.map (V.int IntKind.u8) C),
                                                        V.int IntKind.u16 w,
                                                        V.im (List.length D) (List.map (V.int IntKind.u8) D)]]
                                                  (sl (placesD C w)) ∧
                                                ((V.fn (17 : Nat) [] = V.fn (18 : Nat) [] →
                                                      [V.agg [sl8 C, V.int IntKind.u16 w, sl8 D]] =
                                                          [V.agg [sl8 C, V.int IntKind.u16 w, sl8 D]] →
                                                        pt T.e (0 : Nat)
                                                              (O.row (26 : Nat) none [sl8 C, V.int IntKind.u16 w, sl8 D]) =
                                                            pt T.e (0 : Nat)
                                                              (O.row (26 : Nat) none [sl8 C, V.int IntKind.u16 w, sl8 D]) →
                                                          (0 : Nat) + (1 : Nat) = (0 : Nat) + (1 : Nat) →
                                                            CR.mk (sl (cardsD C))
                                                                (pt T.e (0 : Nat)
                                                                  (O.row (26 : Nat) none [sl8 C, V.int IntKind.u16 w, sl8 D]))
                                                                ((0 : Nat) + (1 : Nat)) [] =
                                                              CR.mk (sl (placesD C w))
                                                                (pt T.e (0 : Nat)
                                                                  (O.row (26 : Nat) none [sl8 C, V.int IntKind.u16 w, sl8 D]))
                                                                ((0 : Nat) + (1 : Nat)) []) ∧
                                                    (V.fn (16 : Nat) [] = V.fn (18 : Nat) [] →
                                                        [sl M] = [V.agg [sl8 C, V.int IntKind.u16 w, sl8 D]] →
                                                          pt T.e (0 : Nat)
                                                                (O.row (26 : Nat) none [sl8 C, V.int IntKind.u16 w, sl8 D]) =
                                                              pt T.e (0 : Nat)
                                                                (O.row (26 : Nat) none [sl8 C, V.int IntKind.u16 w, sl8 D]) →
                                                            (0 : Nat) + (1 : Nat) = (0 : Nat) + (1 : Nat) →
                                                              CR.mk (sl (List.take (14 : Nat) M))
                                                                  (pt T.e (0 : Nat)
                                                                    (O.row (26 : Nat) none
                                                                      [sl8 C, V.int IntKind.u16 w, sl8 D]))
                                                                  ((0 : Nat) + (1 : Nat)) [] =
                                                                CR.mk (sl (placesD C w))
                                                                  (pt T.e (0 : Nat)
                                                                    (O.row (26 : Nat) none
                                                                      [sl8 C, V.int IntKind.u16 w, sl8 D]))
                                                                  ((0 : Nat) + (1 : Nat)) []) ∧
                                                      (V.fn (17 : Nat) [] = V.fn (18 : Nat) [] →
                                                          [V.agg [sl8 C, V.int IntKind.u16 w, sl8 D]] =
                                                              [V.agg [sl8 C, V.int IntKind.u16 w, sl8 D]] →
                                                            pt T.e (0 : Nat)
                                                                  (O.row (26 : Nat) none
                                                                    [sl8 C, V.int IntKind.u16 w, sl8 D]) =
                                                                pt T.e (0 : Nat)
                                                                  (O.row (26 : Nat) none
                                                                    [sl8 C, V.int IntKind.u16 w, sl8 D]) →
                                                              (0 : Nat) + (1 : Nat) = (0 : Nat) + (1 : Nat) →
                                                                CR.mk (sl (cardsD C))
                                                                    (pt T.e (0 : Nat)
                                                                      (O.row (26 : Nat) none
                                                                        [sl8 C, V.int IntKind.u16 w, sl8 D]))
                                                                    ((0 : Nat) + (1 : Nat)) [] =
                                                                  CR.mk (sl (placesD C w))
                                                                    (pt T.e (0 : Nat)
                                                                      (O.row (26 : Nat) none
                                                                        [sl8 C, V.int IntKind.u16 w, sl8 D]))
                                                                    ((0 : Nat) + (1 : Nat)) []) ∧
                                                        (V.fn (16 : Nat) [] = V.fn (18 : Nat) [] →
                                                            [sl M] = [V.agg [sl8 C, V.int IntKind.u16 w, sl8 D]] →
                                                              pt T.e (0 : Nat)
                                                                    (O.row (26 : Nat) none
                                                                      [sl8 C, V.int IntKind.u16 w, sl8 D]) =
                                                                  pt T.e (0 : Nat)
                                                                    (O.row (26 : Nat) none
                                                                      [sl8 C, V.int IntKind.u16 w, sl8 D]) →
                                                                (0 : Nat) + (1 : Nat) = (0 : Nat) + (1 : Nat) →
                                                                  CR.mk (sl (List.take (14 : Nat) M))
                                                                      (pt T.e (0 : Nat)
                                                                        (O.row (26 : Nat) none
                                                                          [sl8 C, V.int IntKind.u16 w, sl8 D]))
                                                                      ((0 : Nat) + (1 : Nat)) [] =
                                                                    CR.mk (sl (placesD C w))
                                                                      (pt T.e (0 : Nat)
                                                                        (O.row (26 : Nat) none
                                                                          [sl8 C, V.int IntKind.u16 w, sl8 D]))
                                                                      ((0 : Nat) + (1 : Nat)) []) ∧
                                                          (V.fn (16 : Nat) [] = V.fn (18 : Nat) [] →
                                                              [sl L] = [V.agg [sl8 C, V.int IntKind.u16 w, sl8 D]] →
                                                                pt T.e (0 : Nat)
                                                                      (O.row (26 : Nat) none
                                                                        [sl8 C, V.int IntKind.u16 w, sl8 D]) =
                                                                    pt T.e (0 : Nat)
                                                                      (O.row (26 : Nat) none
                                                                        [sl8 C, V.int IntKind.u16 w, sl8 D]) →
                                                                  (0 : Nat) + (1 : Nat) = (0 : Nat) + (1 : Nat) →
                                                                    CR.mk (sl (List.take (14 : Nat) L))
                                                                        (pt T.e (0 : Nat)
                                                                          (O.row (26 : Nat) none
                                                                            [sl8 C, V.int IntKind.u16 w, sl8 D]))
                                                                        ((0 : Nat) + (1 : Nat)) [] =
                                                                      CR.mk (sl (placesD C w))
                                                                        (pt T.e (0 : Nat)
                                                                          (O.row (26 : Nat) none
                                                                            [sl8 C, V.int IntKind.u16 w, sl8 D]))
                                                                        ((0 : Nat) + (1 : Nat)) []) ∧
                                                            True) ∧
                                                  ((i = i ∧
                                                        k = k ∧
                                                          ((List.length (List.take (14 : Nat) L) =
                                                                  List.length (List.take (14 : Nat) L) ∧
                                                                ints (List.take (14 : Nat) L) =
                                                                  ints (List.take (14 : Nat) L)) ∧
                                                              (List.length (List.take (14 : Nat) M) =
                                                                    List.length (List.take (14 : Nat) M) ∧
                                                                  ints (List.take (14 : Nat) M) =
                                                                    ints (List.take (14 : Nat) M)) ∧
                                                                (List.length (cardsD C) = List.length (cardsD C) ∧
                                                                    ints (cardsD C) = ints (cardsD C)) ∧
                                                                  (List.length (List.take (14 : Nat) M) =
                                                                        List.length (List.take (14 : Nat) M) ∧
                                                                      ints (List.take (14 : Nat) M) =
                                                                        ints (List.take (14 : Nat) M)) ∧
                                                                    (List.length (cardsD C) = List.length (cardsD C) ∧
                                                                        ints (cardsD C) = ints (cardsD C)) ∧
                                                                      (List.length (placesD C w) = List.length (placesD C w) ∧
                                                                          ints (placesD C w) = ints (placesD C w)) ∧
                                                                        True) ∧
                                                            (↑(0 : Nat) : Int) = (0 : Int) ∧ True) ∧
                                                      True) ∧
                                                    Sat Try.prog none (0 : Nat)
                                                        (at' (3 : Nat)
                                                          [(1 : Nat), (1 : Nat), (0 : Nat), (1 : Nat), (0 : Nat)])
                                                        (mkSt T.e (171 : Nat)
                                                          (poS
                                                            (six (List.take (14 : Nat) L) (List.take (14 : Nat) M) (cardsD C)
                                                              (List.take (14 : Nat) M) (cardsD C) (placesD C w))
                                                            i k (0 : Nat)))
                                                        (outsP T.e (171 : Nat)
                                                          [(True, Ex.exit (0 : Nat), SL.mk [] [] [] [])]) ∧
                                                      (True → (true = true ∧ True) ∧ True) ∧ True) = _) ?_
  (repeat' (first | (with_reducible apply And.intro) | (refine fun (_ : True) => ?_))) <;> first | with_reducible (first | rfl | exact trivial | assumption | (refine decide_eq_true ?_ <;> omega) | (refine decide_eq_false ?_ <;> omega) | (refine head_ints1 ?_ <;> omega) | (refine bne_false ?_ <;> omega) | (refine bne_true ?_ <;> omega) | (refine beq_false' ?_ <;> omega) | (refine beq_true' ?_ <;> omega) | (refine wr6' ?_ ?_ ?_ <;> omega) | (refine rem6 ?_ <;> omega) | (refine quo6 ?_ ?_ ?_ <;> omega) | exact HfL_ints _ | omega) | ((with_reducible show (_ : V) = _); rfl) | (intro hk_; exfalso; revert hk_; simp; done) | (intros; simp_all; done) | (split <;> omega) | ((with_reducible show decide _ = true); exact decide_eq_true (by omega)) | ((with_reducible show decide _ = false); exact decide_eq_false (by omega)) | skip
  all_goals (intro _ h _ _; rw [sl_inj (List.cons.inj h).1])

end Go.Proofs.Ytmnaidemihcfaaa.Am
