/- Chapter 28: Add, Plus, powers; ScoreNumbers. Printed by wip/gend5.py. -/
import Derived.Test.YtglpoiaedkoecaaDoorD4
import Derived.Test.YtglpoiaedkoecaaDoorD2
namespace Go.Proofs.YtglpoiaedkoecaaDoor.Am
open Go.RowKit
set_option linter.unusedVariables false
set_option maxHeartbeats 1000000
set_option maxRecDepth 100000

theorem ar_inj {f g : Nat → Int} (h : ar f = ar g) {k : Nat} (hk : k < 18) : f k = g k := by
  have h' : arF f = arF g := by injection h
  have h1 := @head_ar f k hk
  rw [h', head_ar hk] at h1
  injection h1 with h1
  injection h1 with _ h1
  exact h1.symm
theorem inA_congr {f g : Nat → Int} (h : ∀ k, k < 18 → f k = g k) : inA f = inA g := by
  unfold inA okA
  rw [Bool.eq_iff_iff, List.all_eq_true, List.all_eq_true]
  constructor
  · intro hh x hx; rw [← h x (List.mem_range.1 hx)]; exact hh x hx
  · intro hh x hx; rw [h x (List.mem_range.1 hx)]; exact hh x hx
theorem inA_ar {f g : Nat → Int} (h : ar f = ar g) : inA f = inA g := inA_congr fun k hk => ar_inj h hk

/-! ### Plus, Add -/
abbrev sumF (a b : Nat → Int) : Nat → Int := mixF a b 1 18
abbrev puS (a b : Nat → Int) (k : Nat) : SL := { sl := [(2, .ptr 0 0), (3, .ptr 1 0), (4, .ptr 2 0), (5, i6 k)], os := [.row 41 none (arF (mixF a b 1 k)), .row 41 none (arF b), .row 41 none (arF zeroF)] }
abbrev puX (f : Nat → Int) : SL := { sl := [(2, .ptr 0 0), (4, .ptr 1 0)], os := [.row 41 none (arF f), .row 41 none (arF zeroF)] }
theorem plus_loop (a b : Nat → Int) (ha : inA a = true) (hb : inA b = true) (k : Nat) (hk : k ≤ 18) :
    Sat Pg none 0 (at' 36 [1, 0, 1, 0]) (mkSt g0 20 (puS a b k)) (outsP g0 20 [(True, .exit 0, puX (sumF a b))]) := by
  refine loopC vE_ok mixed sp0_ok (b := at' 36 [1, 0, 1, 0, 0]) (by kernel_rfl) (fun k => k ≤ 18) (puS a b) (fun k => 18 - k) (fun k hk => ?_) k hk
  by_cases hlt : k < 18
  · have p0 := @place41 0 k hlt
    have p1 := @place41 1 k hlt
    have h0 : headF (dropF k (arF (mixF a b 1 k))) = some (i6 (a k)) := by rw [head_ar hlt, mixF_at, if_neg (by omega)]
    have h1 := @head_ar b k hlt
    have hst : layE k (arF (mixF a b 1 k)) [i6 (a k + 1 * b k)] = some (arF (mixF a b 1 (k + 1))) := lay_ar hlt
    have ha := inA_bd ha hlt
    have hb := inA_bd hb hlt
    have hsum : a k + 1 * b k = a k + b k := by omega
    refine .inl ⟨k + 1, [0, 1, 2], [yes 7, va 12 (.ptr 0 k), ld 13 (i6 (a k)), va 15 (.ptr 1 k), ld 16 (i6 (b k)), nu 17 (a k + 1 * b k), va 18 (.ptr 0 k), st (arF (mixF a b 1 (k + 1))), nu 9 (k + 1 : Nat)], 1000, hlt, by omega, ?_⟩
    refine Eq.mp (by kernel_rfl : (decide ((↑k : Int) < (18 : Int)) = true ∧
          placeV (ctxOf Tryd.prog) (41 : Nat) (V.ptr (0 : Nat) (0 : Nat)) (↑k : Int) = some (V.ptr (0 : Nat) k) ∧
            headF (dropF k (arF (mixF a b (1 : Int) k))) = some (i6 (a k)) ∧
              placeV (ctxOf Tryd.prog) (41 : Nat) (V.ptr (1 : Nat) (0 : Nat)) (↑k : Int) = some (V.ptr (1 : Nat) k) ∧
                headF (dropF k (arF b)) = some (i6 (b k)) ∧
                  wr IntKind.i64 (a k + b k) = a k + (1 : Int) * b k ∧
                    placeV (ctxOf Tryd.prog) (41 : Nat) (V.ptr (0 : Nat) (0 : Nat)) (↑k : Int) = some (V.ptr (0 : Nat) k) ∧
                      layE k (arF (mixF a b (1 : Int) k)) [V.int IntKind.i64 (a k + (1 : Int) * b k)] =
                          some (arF (mixF a b (1 : Int) (k + (1 : Nat)))) ∧
                        wr IntKind.i64 ((↑k : Int) + (1 : Int)) = (↑(k + (1 : Nat)) : Int) ∧
                          ((0 : Nat) = (0 : Nat) ∧
                              (0 : Nat) = (0 : Nat) ∧
                                (0 : Nat) = (0 : Nat) ∧ (↑(k + (1 : Nat)) : Int) = (↑(k + (1 : Nat)) : Int) ∧ True) ∧
                            (arF (mixF a b (1 : Int) (k + (1 : Nat))) = arF (mixF a b (1 : Int) (k + (1 : Nat))) ∧
                                True ∧
                                  True ∧
                                    True ∧
                                      True ∧
                                        True ∧
                                          True ∧
                                            True ∧
                                              True ∧
                                                True ∧ True ∧ True ∧ True ∧ True ∧ True ∧ True ∧ True ∧ True ∧ True ∧ True) ∧
                              (arF b = arF b ∧
                                  True ∧
                                    True ∧
                                      True ∧
                                        True ∧
                                          True ∧
                                            True ∧
                                              True ∧
                                                True ∧
                                                  True ∧ True ∧ True ∧ True ∧ True ∧ True ∧ True ∧ True ∧ True ∧ True ∧ True) ∧
                                (arF zeroF = arF zeroF ∧
                                    True ∧
                                      True ∧
                                        True ∧
                                          True ∧
                                            True ∧
                                              True ∧
                                                True ∧
                                                  True ∧
                                                    True ∧
                                                      True ∧ True ∧ True ∧ True ∧ True ∧ True ∧ True ∧ True ∧ True ∧ True) ∧
                                  True) = _) ?_
    (repeat' (first | (with_reducible apply And.intro) | (refine fun (_ : True) => ?_))) <;> first | with_reducible (first | rfl | exact trivial | assumption | (refine decide_eq_true ?_ <;> omega) | (refine decide_eq_false ?_ <;> omega) | (refine head_ints1 ?_ <;> omega) | (refine bne_false ?_ <;> omega) | (refine bne_true ?_ <;> omega) | (refine beq_false' ?_ <;> omega) | (refine beq_true' ?_ <;> omega) | (refine wr6' ?_ ?_ ?_ <;> omega) | (refine rem6 ?_ <;> omega) | (refine quo6 ?_ ?_ ?_ <;> omega) | exact HfL_ints _ | omega) | ((with_reducible show (_ : V) = _); rfl) | (intro hk_; exfalso; revert hk_; simp; done) | (intros; simp_all; done) | (split <;> omega) | ((with_reducible show decide _ = true); exact decide_eq_true (by omega)) | ((with_reducible show decide _ = false); exact decide_eq_false (by omega)) | skip
  · have : k = 18 := by omega
    subst this
    refine .inr ⟨.exit 0, [0, 2], puX (sumF a b), [], 1000, .inl ⟨trivial, rfl, rfl⟩, ?_⟩
    refine Eq.mp (by kernel_rfl : (((0 : Nat) = (0 : Nat) ∧ (0 : Nat) = (0 : Nat) ∧ True) ∧
          (arF (sumF a b) = arF (mixF a b (1 : Int) (18 : Nat)) ∧
              True ∧
                True ∧
                  True ∧
                    True ∧
                      True ∧ True ∧ True ∧ True ∧ True ∧ True ∧ True ∧ True ∧ True ∧ True ∧ True ∧ True ∧ True ∧ True ∧ True) ∧
            (arF zeroF = arF zeroF ∧
                True ∧
                  True ∧
                    True ∧
                      True ∧
                        True ∧
                          True ∧ True ∧ True ∧ True ∧ True ∧ True ∧ True ∧ True ∧ True ∧ True ∧ True ∧ True ∧ True ∧ True) ∧
              True) = _) ?_
    (repeat' (first | (with_reducible apply And.intro) | (refine fun (_ : True) => ?_))) <;> first | with_reducible (first | rfl | exact trivial | assumption | (refine decide_eq_true ?_ <;> omega) | (refine decide_eq_false ?_ <;> omega) | (refine head_ints1 ?_ <;> omega) | (refine bne_false ?_ <;> omega) | (refine bne_true ?_ <;> omega) | (refine beq_false' ?_ <;> omega) | (refine beq_true' ?_ <;> omega) | (refine wr6' ?_ ?_ ?_ <;> omega) | (refine rem6 ?_ <;> omega) | (refine quo6 ?_ ?_ ?_ <;> omega) | exact HfL_ints _ | omega) | ((with_reducible show (_ : V) = _); rfl) | (intro hk_; exfalso; revert hk_; simp; done) | (intros; simp_all; done) | (split <;> omega) | ((with_reducible show decide _ = true); exact decide_eq_true (by omega)) | ((with_reducible show decide _ = false); exact decide_eq_false (by omega)) | skip
theorem plus_fn (a b : Nat → Int) (ha : inA a = true) (hb : inA b = true) : FnOk Pg g0 36 [ar a, ar b] (ar (sumF a b)) := by
  have l := plus_loop a b ha hb 0 (Nat.zero_le _)
  generalize sumF a b = f at *
  refine FnOk.of_vc vE_ok mixed sp0_ok (n := 1000) (r := [1]) (S := { sl := [(4, .ptr 0 0)], os := [.row 41 none (arF f)] }) (hs := [(0, .loop [0, 1, 2] (puS a b 0) [(True, .exit 0, puX f)])]) ?_
  refine Eq.mp (by kernel_rfl : (V.agg
            (i6 (f (0 : Nat)) ::
              List.take._f (Nat.succ (16 : Nat))
                (Nat.rec ⟨List.take._f Nat.zero PUnit.unit, PUnit.unit⟩ (fun n n_ih => ⟨List.take._f (Nat.succ n) n_ih, n_ih⟩)
                  (16 : Nat))
                [i6 (f (1 : Nat)), i6 (f (2 : Nat)), i6 (f (3 : Nat)), i6 (f (4 : Nat)), i6 (f (5 : Nat)), i6 (f (6 : Nat)),
                  i6 (f (7 : Nat)), i6 (f (8 : Nat)), i6 (f (9 : Nat)), i6 (f (10 : Nat)), i6 (f (11 : Nat)),
                  i6 (f (12 : Nat)), i6 (f (13 : Nat)), i6 (f (14 : Nat)), i6 (f (15 : Nat)), i6 (f (16 : Nat)),
                  i6 (f (17 : Nat))]) =
          ar f ∧
        (((0 : Nat) = (0 : Nat) ∧ (0 : Nat) = (0 : Nat) ∧ (0 : Nat) = (0 : Nat) ∧ (↑(0 : Nat) : Int) = (0 : Int) ∧ True) ∧
            (arF (mixF a b (1 : Int) (0 : Nat)) =
                  [i6 (a (0 : Nat)), i6 (a (1 : Nat)), i6 (a (2 : Nat)), i6 (a (3 : Nat)), i6 (a (4 : Nat)), i6 (a (5 : Nat)),
                    i6 (a (6 : Nat)), i6 (a (7 : Nat)), i6 (a (8 : Nat)), i6 (a (9 : Nat)), i6 (a (10 : Nat)),
                    i6 (a (11 : Nat)), i6 (a (12 : Nat)), i6 (a (13 : Nat)), i6 (a (14 : Nat)), i6 (a (15 : Nat)),
                    i6 (a (16 : Nat)), i6 (a (17 : Nat))] ∧
                True ∧
                  True ∧
                    True ∧
                      True ∧
                        True ∧
                          True ∧ True ∧ True ∧ True ∧ True ∧ True ∧ True ∧ True ∧ True ∧ True ∧ True ∧ True ∧ True ∧ True) ∧
              (arF b =
                    [i6 (b (0 : Nat)), i6 (b (1 : Nat)), i6 (b (2 : Nat)), i6 (b (3 : Nat)), i6 (b (4 : Nat)),
                      i6 (b (5 : Nat)), i6 (b (6 : Nat)), i6 (b (7 : Nat)), i6 (b (8 : Nat)), i6 (b (9 : Nat)),
                      i6 (b (10 : Nat)), i6 (b (11 : Nat)), i6 (b (12 : Nat)), i6 (b (13 : Nat)), i6 (b (14 : Nat)),
                      i6 (b (15 : Nat)), i6 (b (16 : Nat)), i6 (b (17 : Nat))] ∧
                  True ∧
                    True ∧
                      True ∧
                        True ∧
                          True ∧
                            True ∧ True ∧ True ∧ True ∧ True ∧ True ∧ True ∧ True ∧ True ∧ True ∧ True ∧ True ∧ True ∧ True) ∧
                (arF zeroF =
                      [V.int IntKind.i64 (0 : Int), V.int IntKind.i64 (0 : Int), V.int IntKind.i64 (0 : Int),
                        V.int IntKind.i64 (0 : Int), V.int IntKind.i64 (0 : Int), V.int IntKind.i64 (0 : Int),
                        V.int IntKind.i64 (0 : Int), V.int IntKind.i64 (0 : Int), V.int IntKind.i64 (0 : Int),
                        V.int IntKind.i64 (0 : Int), V.int IntKind.i64 (0 : Int), V.int IntKind.i64 (0 : Int),
                        V.int IntKind.i64 (0 : Int), V.int IntKind.i64 (0 : Int), V.int IntKind.i64 (0 : Int),
                        V.int IntKind.i64 (0 : Int), V.int IntKind.i64 (0 : Int), V.int IntKind.i64 (0 : Int)] ∧
                    True ∧
                      True ∧
                        True ∧
                          True ∧
                            True ∧
                              True ∧
                                True ∧ True ∧ True ∧ True ∧ True ∧ True ∧ True ∧ True ∧ True ∧ True ∧ True ∧ True ∧ True) ∧
                  True) ∧
          Sat Tryd.prog none (0 : Nat) (at' (36 : Nat) [(1 : Nat), (0 : Nat), (1 : Nat), (0 : Nat)])
              (mkSt g0 (20 : Nat) (puS a b (0 : Nat))) (outsP g0 (20 : Nat) [(True, Ex.exit (0 : Nat), puX f)]) ∧
            (True →
                ((0 : Nat) = (0 : Nat) ∧ True) ∧
                  (arF f =
                        [i6 (f (0 : Nat)), i6 (f (1 : Nat)), i6 (f (2 : Nat)), i6 (f (3 : Nat)), i6 (f (4 : Nat)),
                          i6 (f (5 : Nat)), i6 (f (6 : Nat)), i6 (f (7 : Nat)), i6 (f (8 : Nat)), i6 (f (9 : Nat)),
                          i6 (f (10 : Nat)), i6 (f (11 : Nat)), i6 (f (12 : Nat)), i6 (f (13 : Nat)), i6 (f (14 : Nat)),
                          i6 (f (15 : Nat)), i6 (f (16 : Nat)), i6 (f (17 : Nat))] ∧
                      True ∧
                        True ∧
                          True ∧
                            True ∧
                              True ∧
                                True ∧
                                  True ∧ True ∧ True ∧ True ∧ True ∧ True ∧ True ∧ True ∧ True ∧ True ∧ True ∧ True ∧ True) ∧
                    True) ∧
              True) = _) ?_
  (repeat' (first | (with_reducible apply And.intro) | (refine fun (_ : True) => ?_))) <;> first | with_reducible (first | rfl | exact trivial | assumption | (refine decide_eq_true ?_ <;> omega) | (refine decide_eq_false ?_ <;> omega) | (refine head_ints1 ?_ <;> omega) | (refine bne_false ?_ <;> omega) | (refine bne_true ?_ <;> omega) | (refine beq_false' ?_ <;> omega) | (refine beq_true' ?_ <;> omega) | (refine wr6' ?_ ?_ ?_ <;> omega) | (refine rem6 ?_ <;> omega) | (refine quo6 ?_ ?_ ?_ <;> omega) | exact HfL_ints _ | omega) | ((with_reducible show (_ : V) = _); rfl) | (intro hk_; exfalso; revert hk_; simp; done) | (intros; simp_all; done) | (split <;> omega) | ((with_reducible show decide _ = true); exact decide_eq_true (by omega)) | ((with_reducible show decide _ = false); exact decide_eq_false (by omega)) | skip
  all_goals rfl

abbrev adS (f : Nat → Int) (e : Int) : SL := { sl := [(4, .ptr 0 0), (5, i6 e)], os := [.row 41 none (arF f)] }
theorem add_left (a b : Nat → Int) (ha : inA a = false) : FnOk Pg g0 34 [ar a, ar b] (.tup [ar zeroF, i6 2]) := by
  have h := inrange_fn a
  rw [ha] at h
  refine FnOk.of_vc vE_ok mixed sp0_ok (n := 1000) (r := [2]) (S := adS zeroF 2) (hs := [fn 8 (.bool false)]) ?_
  refine Eq.mp (by kernel_rfl : (V.tup
            [V.agg
                (i6 (zeroF (0 : Nat)) ::
                  List.take._f (Nat.succ (16 : Nat))
                    (Nat.rec ⟨List.take._f Nat.zero PUnit.unit, PUnit.unit⟩
                      (fun n n_ih => ⟨List.take._f (Nat.succ n) n_ih, n_ih⟩) (16 : Nat))
                    [i6 (zeroF (1 : Nat)), i6 (zeroF (2 : Nat)), i6 (zeroF (3 : Nat)), i6 (zeroF (4 : Nat)),
                      i6 (zeroF (5 : Nat)), i6 (zeroF (6 : Nat)), i6 (zeroF (7 : Nat)), i6 (zeroF (8 : Nat)),
                      i6 (zeroF (9 : Nat)), i6 (zeroF (10 : Nat)), i6 (zeroF (11 : Nat)), i6 (zeroF (12 : Nat)),
                      i6 (zeroF (13 : Nat)), i6 (zeroF (14 : Nat)), i6 (zeroF (15 : Nat)), i6 (zeroF (16 : Nat)),
                      i6 (zeroF (17 : Nat))]),
              i6 (2 : Int)] =
          V.tup [ar zeroF, i6 (2 : Int)] ∧
        ((True ∧
              True ∧
                True ∧
                  True ∧
                    True ∧ True ∧ True ∧ True ∧ True ∧ True ∧ True ∧ True ∧ True ∧ True ∧ True ∧ True ∧ True ∧ True ∧ True) ∧
            True) ∧
          FnOk Tryd.prog g0 (82 : Nat)
              [V.agg
                  [V.int IntKind.i64 (a (0 : Nat)), V.int IntKind.i64 (a (1 : Nat)), V.int IntKind.i64 (a (2 : Nat)),
                    V.int IntKind.i64 (a (3 : Nat)), V.int IntKind.i64 (a (4 : Nat)), V.int IntKind.i64 (a (5 : Nat)),
                    V.int IntKind.i64 (a (6 : Nat)), V.int IntKind.i64 (a (7 : Nat)), V.int IntKind.i64 (a (8 : Nat)),
                    V.int IntKind.i64 (a (9 : Nat)), V.int IntKind.i64 (a (10 : Nat)), V.int IntKind.i64 (a (11 : Nat)),
                    V.int IntKind.i64 (a (12 : Nat)), V.int IntKind.i64 (a (13 : Nat)), V.int IntKind.i64 (a (14 : Nat)),
                    V.int IntKind.i64 (a (15 : Nat)), V.int IntKind.i64 (a (16 : Nat)), V.int IntKind.i64 (a (17 : Nat))]]
              (V.bool false) ∧
            True ∧
              ((0 : Nat) = (0 : Nat) ∧ (2 : Int) = (2 : Int) ∧ True) ∧
                (arF zeroF =
                      [V.int IntKind.i64 (0 : Int), V.int IntKind.i64 (0 : Int), V.int IntKind.i64 (0 : Int),
                        V.int IntKind.i64 (0 : Int), V.int IntKind.i64 (0 : Int), V.int IntKind.i64 (0 : Int),
                        V.int IntKind.i64 (0 : Int), V.int IntKind.i64 (0 : Int), V.int IntKind.i64 (0 : Int),
                        V.int IntKind.i64 (0 : Int), V.int IntKind.i64 (0 : Int), V.int IntKind.i64 (0 : Int),
                        V.int IntKind.i64 (0 : Int), V.int IntKind.i64 (0 : Int), V.int IntKind.i64 (0 : Int),
                        V.int IntKind.i64 (0 : Int), V.int IntKind.i64 (0 : Int), V.int IntKind.i64 (0 : Int)] ∧
                    True ∧
                      True ∧
                        True ∧
                          True ∧
                            True ∧
                              True ∧
                                True ∧ True ∧ True ∧ True ∧ True ∧ True ∧ True ∧ True ∧ True ∧ True ∧ True ∧ True ∧ True) ∧
                  True) = _) ?_
  (repeat' (first | (with_reducible apply And.intro) | (refine fun (_ : True) => ?_))) <;> first | with_reducible (first | rfl | exact trivial | assumption | (refine decide_eq_true ?_ <;> omega) | (refine decide_eq_false ?_ <;> omega) | (refine head_ints1 ?_ <;> omega) | (refine bne_false ?_ <;> omega) | (refine bne_true ?_ <;> omega) | (refine beq_false' ?_ <;> omega) | (refine beq_true' ?_ <;> omega) | (refine wr6' ?_ ?_ ?_ <;> omega) | (refine rem6 ?_ <;> omega) | (refine quo6 ?_ ?_ ?_ <;> omega) | exact HfL_ints _ | omega) | ((with_reducible show (_ : V) = _); rfl) | (intro hk_; exfalso; revert hk_; simp; done) | (intros; simp_all; done) | (split <;> omega) | ((with_reducible show decide _ = true); exact decide_eq_true (by omega)) | ((with_reducible show decide _ = false); exact decide_eq_false (by omega)) | skip
  all_goals rfl
theorem add_right (a b : Nat → Int) (ha : inA a = true) (hb : inA b = false) : FnOk Pg g0 34 [ar a, ar b] (.tup [ar zeroF, i6 2]) := by
  have h := inrange_fn a
  have h2 := inrange_fn b
  rw [ha] at h
  rw [hb] at h2
  refine FnOk.of_vc vE_ok mixed sp0_ok (n := 1000) (r := [2]) (S := adS zeroF 2) (hs := [fn 8 (.bool true), fn 12 (.bool false)]) ?_
  refine Eq.mp (by kernel_rfl : (V.tup
            [V.agg
                (i6 (zeroF (0 : Nat)) ::
                  List.take._f (Nat.succ (16 : Nat))
                    (Nat.rec ⟨List.take._f Nat.zero PUnit.unit, PUnit.unit⟩
                      (fun n n_ih => ⟨List.take._f (Nat.succ n) n_ih, n_ih⟩) (16 : Nat))
                    [i6 (zeroF (1 : Nat)), i6 (zeroF (2 : Nat)), i6 (zeroF (3 : Nat)), i6 (zeroF (4 : Nat)),
                      i6 (zeroF (5 : Nat)), i6 (zeroF (6 : Nat)), i6 (zeroF (7 : Nat)), i6 (zeroF (8 : Nat)),
                      i6 (zeroF (9 : Nat)), i6 (zeroF (10 : Nat)), i6 (zeroF (11 : Nat)), i6 (zeroF (12 : Nat)),
                      i6 (zeroF (13 : Nat)), i6 (zeroF (14 : Nat)), i6 (zeroF (15 : Nat)), i6 (zeroF (16 : Nat)),
                      i6 (zeroF (17 : Nat))]),
              i6 (2 : Int)] =
          V.tup [ar zeroF, i6 (2 : Int)] ∧
        ((True ∧
              True ∧
                True ∧
                  True ∧
                    True ∧ True ∧ True ∧ True ∧ True ∧ True ∧ True ∧ True ∧ True ∧ True ∧ True ∧ True ∧ True ∧ True ∧ True) ∧
            True) ∧
          FnOk Tryd.prog g0 (82 : Nat)
              [V.agg
                  [V.int IntKind.i64 (a (0 : Nat)), V.int IntKind.i64 (a (1 : Nat)), V.int IntKind.i64 (a (2 : Nat)),
                    V.int IntKind.i64 (a (3 : Nat)), V.int IntKind.i64 (a (4 : Nat)), V.int IntKind.i64 (a (5 : Nat)),
                    V.int IntKind.i64 (a (6 : Nat)), V.int IntKind.i64 (a (7 : Nat)), V.int IntKind.i64 (a (8 : Nat)),
                    V.int IntKind.i64 (a (9 : Nat)), V.int IntKind.i64 (a (10 : Nat)), V.int IntKind.i64 (a (11 : Nat)),
                    V.int IntKind.i64 (a (12 : Nat)), V.int IntKind.i64 (a (13 : Nat)), V.int IntKind.i64 (a (14 : Nat)),
                    V.int IntKind.i64 (a (15 : Nat)), V.int IntKind.i64 (a (16 : Nat)), V.int IntKind.i64 (a (17 : Nat))]]
              (V.bool true) ∧
            True ∧
              ((True ∧
                    True ∧
                      True ∧
                        True ∧
                          True ∧
                            True ∧ True ∧ True ∧ True ∧ True ∧ True ∧ True ∧ True ∧ True ∧ True ∧ True ∧ True ∧ True ∧ True) ∧
                  True) ∧
                FnOk Tryd.prog g0 (82 : Nat)
                    [V.agg
                        [V.int IntKind.i64 (b (0 : Nat)), V.int IntKind.i64 (b (1 : Nat)), V.int IntKind.i64 (b (2 : Nat)),
                          V.int IntKind.i64 (b (3 : Nat)), V.int IntKind.i64 (b (4 : Nat)), V.int IntKind.i64 (b (5 : Nat)),
                          V.int IntKind.i64 (b (6 : Nat)), V.int IntKind.i64 (b (7 : Nat)), V.int IntKind.i64 (b (8 : Nat)),
                          V.int IntKind.i64 (b (9 : Nat)), V.int IntKind.i64 (b (10 : Nat)), V.int IntKind.i64 (b (11 : Nat)),
                          V.int IntKind.i64 (b (12 : Nat)), V.int IntKind.i64 (b (13 : Nat)),
                          V.int IntKind.i64 (b (14 : Nat)), V.int IntKind.i64 (b (15 : Nat)),
                          V.int IntKind.i64 (b (16 : Nat)), V.int IntKind.i64 (b (17 : Nat))]]
                    (V.bool false) ∧
                  ((V.fn (82 : Nat) [] = V.fn (82 : Nat) [] →
                        [V.agg
                                [i6 (a (0 : Nat)), i6 (a (1 : Nat)), i6 (a (2 : Nat)), i6 (a (3 : Nat)), i6 (a (4 : Nat)),
                                  i6 (a (5 : Nat)), i6 (a (6 : Nat)), i6 (a (7 : Nat)), i6 (a (8 : Nat)), i6 (a (9 : Nat)),
                                  i6 (a (10 : Nat)), i6 (a (11 : Nat)), i6 (a (12 : Nat)), i6 (a (13 : Nat)),
                                  i6 (a (14 : Nat)), i6 (a (15 : Nat)), i6 (a (16 : Nat)), i6 (a (17 : Nat))]] =
                            [V.agg
                                [i6 (b (0 : Nat)), i6 (b (1 : Nat)), i6 (b (2 : Nat)), i6 (b (3 : Nat)), i6 (b (4 : Nat)),
                                  i6 (b (5 : Nat)), i6 (b (6 : Nat)), i6 (b (7 : Nat)), i6 (b (8 : Nat)), i6 (b (9 : Nat)),
                                  i6 (b (10 : Nat)), i6 (b (11 : Nat)), i6 (b (12 : Nat)), i6 (b (13 : Nat)),
                                  i6 (b (14 : Nat)), i6 (b (15 : Nat)), i6 (b (16 : Nat)), i6 (b (17 : Nat))]] →
                          pt
                                (pt
                                  (pt T.e (0 : Nat)
                                    (O.row (41 : Nat) none
                                      [i6 (a (0 : Nat)), i6 (a (1 : Nat)), i6 (a (2 : Nat)), i6 (a (3 : Nat)),
                                        i6 (a (4 : Nat)), i6 (a (5 : Nat)), i6 (a (6 : Nat)), i6 (a (7 : Nat)),
                                        i6 (a (8 : Nat)), i6 (a (9 : Nat)), i6 (a (10 : Nat)), i6 (a (11 : Nat)),
                                        i6 (a (12 : Nat)), i6 (a (13 : Nat)), i6 (a (14 : Nat)), i6 (a (15 : Nat)),
                                        i6 (a (16 : Nat)), i6 (a (17 : Nat))]))
                                  ((0 : Nat) + (1 : Nat))
                                  (O.row (41 : Nat) none
                                    [i6 (b (0 : Nat)), i6 (b (1 : Nat)), i6 (b (2 : Nat)), i6 (b (3 : Nat)), i6 (b (4 : Nat)),
                                      i6 (b (5 : Nat)), i6 (b (6 : Nat)), i6 (b (7 : Nat)), i6 (b (8 : Nat)),
                                      i6 (b (9 : Nat)), i6 (b (10 : Nat)), i6 (b (11 : Nat)), i6 (b (12 : Nat)),
                                      i6 (b (13 : Nat)), i6 (b (14 : Nat)), i6 (b (15 : Nat)), i6 (b (16 : Nat)),
                                      i6 (b (17 : Nat))]))
                                ((0 : Nat) + (1 : Nat) + (1 : Nat))
                                (O.row (41 : Nat) none
                                  [V.int IntKind.i64 (0 : Int), V.int IntKind.i64 (0 : Int), V.int IntKind.i64 (0 : Int),
                                    V.int IntKind.i64 (0 : Int), V.int IntKind.i64 (0 : Int), V.int IntKind.i64 (0 : Int),
                                    V.int IntKind.i64 (0 : Int), V.int IntKind.i64 (0 : Int), V.int IntKind.i64 (0 : Int),
                                    V.int IntKind.i64 (0 : Int), V.int IntKind.i64 (0 : Int), V.int IntKind.i64 (0 : Int),
                                    V.int IntKind.i64 (0 : Int), V.int IntKind.i64 (0 : Int), V.int IntKind.i64 (0 : Int),
                                    V.int IntKind.i64 (0 : Int), V.int IntKind.i64 (0 : Int), V.int IntKind.i64 (0 : Int)]) =
                              pt
                                (pt
                                  (pt T.e (0 : Nat)
                                    (O.row (41 : Nat) none
                                      [i6 (a (0 : Nat)), i6 (a (1 : Nat)), i6 (a (2 : Nat)), i6 (a (3 : Nat)),
                                        i6 (a (4 : Nat)), i6 (a (5 : Nat)), i6 (a (6 : Nat)), i6 (a (7 : Nat)),
                                        i6 (a (8 : Nat)), i6 (a (9 : Nat)), i6 (a (10 : Nat)), i6 (a (11 : Nat)),
                                        i6 (a (12 : Nat)), i6 (a (13 : Nat)), i6 (a (14 : Nat)), i6 (a (15 : Nat)),
                                        i6 (a (16 : Nat)), i6 (a (17 : Nat))]))
                                  ((0 : Nat) + (1 : Nat))
                                  (O.row (41 : Nat) none
                                    [i6 (b (0 : Nat)), i6 (b (1 : Nat)), i6 (b (2 : Nat)), i6 (b (3 : Nat)), i6 (b (4 : Nat)),
                                      i6 (b (5 : Nat)), i6 (b (6 : Nat)), i6 (b (7 : Nat)), i6 (b (8 : Nat)),
                                      i6 (b (9 : Nat)), i6 (b (10 : Nat)), i6 (b (11 : Nat)), i6 (b (12 : Nat)),
                                      i6 (b (13 : Nat)), i6 (b (14 : Nat)), i6 (b (15 : Nat)), i6 (b (16 : Nat)),
                                      i6 (b (17 : Nat))]))
                                ((0 : Nat) + (1 : Nat) + (1 : Nat))
                                (O.row (41 : Nat) none
                                  [V.int IntKind.i64 (0 : Int), V.int IntKind.i64 (0 : Int), V.int IntKind.i64 (0 : Int),
                                    V.int IntKind.i64 (0 : Int), V.int IntKind.i64 (0 : Int), V.int IntKind.i64 (0 : Int),
                                    V.int IntKind.i64 (0 : Int), V.int IntKind.i64 (0 : Int), V.int IntKind.i64 (0 : Int),
                                    V.int IntKind.i64 (0 : Int), V.int IntKind.i64 (0 : Int), V.int IntKind.i64 (0 : Int),
                                    V.int IntKind.i64 (0 : Int), V.int IntKind.i64 (0 : Int), V.int IntKind.i64 (0 : Int),
                                    V.int IntKind.i64 (0 : Int), V.int IntKind.i64 (0 : Int), V.int IntKind.i64 (0 : Int)]) →
                            (0 : Nat) + (1 : Nat) + (1 : Nat) + (1 : Nat) = (0 : Nat) + (1 : Nat) + (1 : Nat) + (1 : Nat) →
                              CR.mk (V.bool true)
                                  (pt
                                    (pt
                                      (pt T.e (0 : Nat)
                                        (O.row (41 : Nat) none
                                          [i6 (a (0 : Nat)), i6 (a (1 : Nat)), i6 (a (2 : Nat)), i6 (a (3 : Nat)),
                                            i6 (a (4 : Nat)), i6 (a (5 : Nat)), i6 (a (6 : Nat)), i6 (a (7 : Nat)),
                                            i6 (a (8 : Nat)), i6 (a (9 : Nat)), i6 (a (10 : Nat)), i6 (a (11 : Nat)),
                                            i6 (a (12 : Nat)), i6 (a (13 : Nat)), i6 (a (14 : Nat)), i6 (a (15 : Nat)),
                                            i6 (a (16 : Nat)), i6 (a (17 : Nat))]))
                                      ((0 : Nat) + (1 : Nat))
                                      (O.row (41 : Nat) none
                                        [i6 (b (0 : Nat)), i6 (b (1 : Nat)), i6 (b (2 : Nat)), i6 (b (3 : Nat)),
                                          i6 (b (4 : Nat)), i6 (b (5 : Nat)), i6 (b (6 : Nat)), i6 (b (7 : Nat)),
                                          i6 (b (8 : Nat)), i6 (b (9 : Nat)), i6 (b (10 : Nat)), i6 (b (11 : Nat)),
                                          i6 (b (12 : Nat)), i6 (b (13 : Nat)), i6 (b (14 : Nat)), i6 (b (15 : Nat)),
                                          i6 (b (16 : Nat)), i6 (b (17 : Nat))]))
                                    ((0 : Nat) + (1 : Nat) + (1 : Nat))
                                    (O.row (41 : Nat) none
                                      [V.int IntKind.i64 (0 : Int), V.int IntKind.i64 (0 : Int), V.int IntKind.i64 (0 : Int),
                                        V.int IntKind.i64 (0 : Int), V.int IntKind.i64 (0 : Int), V.int IntKind.i64 (0 : Int),
                                        V.int IntKind.i64 (0 : Int), V.int IntKind.i64 (0 : Int), V.int IntKind.i64 (0 : Int),
                                        V.int IntKind.i64 (0 : Int), V.int IntKind.i64 (0 : Int), V.int IntKind.i64 (0 : Int),
                                        V.int IntKind.i64 (0 : Int), V.int IntKind.i64 (0 : Int), V.int IntKind.i64 (0 : Int),
                                        V.int IntKind.i64 (0 : Int), V.int IntKind.i64 (0 : Int),
                                        V.int IntKind.i64 (0 : Int)]))
                                  ((0 : Nat) + (1 : Nat) + (1 : Nat) + (1 : Nat)) [] =
                                CR.mk (V.bool false)
                                  (pt
                                    (pt
                                      (pt T.e (0 : Nat)
                                        (O.row (41 : Nat) none
                                          [i6 (a (0 : Nat)), i6 (a (1 : Nat)), i6 (a (2 : Nat)), i6 (a (3 : Nat)),
                                            i6 (a (4 : Nat)), i6 (a (5 : Nat)), i6 (a (6 : Nat)), i6 (a (7 : Nat)),
                                            i6 (a (8 : Nat)), i6 (a (9 : Nat)), i6 (a (10 : Nat)), i6 (a (11 : Nat)),
                                            i6 (a (12 : Nat)), i6 (a (13 : Nat)), i6 (a (14 : Nat)), i6 (a (15 : Nat)),
                                            i6 (a (16 : Nat)), i6 (a (17 : Nat))]))
                                      ((0 : Nat) + (1 : Nat))
                                      (O.row (41 : Nat) none
                                        [i6 (b (0 : Nat)), i6 (b (1 : Nat)), i6 (b (2 : Nat)), i6 (b (3 : Nat)),
                                          i6 (b (4 : Nat)), i6 (b (5 : Nat)), i6 (b (6 : Nat)), i6 (b (7 : Nat)),
                                          i6 (b (8 : Nat)), i6 (b (9 : Nat)), i6 (b (10 : Nat)), i6 (b (11 : Nat)),
                                          i6 (b (12 : Nat)), i6 (b (13 : Nat)), i6 (b (14 : Nat)), i6 (b (15 : Nat)),
                                          i6 (b (16 : Nat)), i6 (b (17 : Nat))]))
                                    ((0 : Nat) + (1 : Nat) + (1 : Nat))
                                    (O.row (41 : Nat) none
                                      [V.int IntKind.i64 (0 : Int), V.int IntKind.i64 (0 : Int), V.int IntKind.i64 (0 : Int),
                                        V.int IntKind.i64 (0 : Int), V.int IntKind.i64 (0 : Int), V.int IntKind.i64 (0 : Int),
                                        V.int IntKind.i64 (0 : Int), V.int IntKind.i64 (0 : Int), V.int IntKind.i64 (0 : Int),
                                        V.int IntKind.i64 (0 : Int), V.int IntKind.i64 (0 : Int), V.int IntKind.i64 (0 : Int),
                                        V.int IntKind.i64 (0 : Int), V.int IntKind.i64 (0 : Int), V.int IntKind.i64 (0 : Int),
                                        V.int IntKind.i64 (0 : Int), V.int IntKind.i64 (0 : Int),
                                        V.int IntKind.i64 (0 : Int)]))
                                  ((0 : Nat) + (1 : Nat) + (1 : Nat) + (1 : Nat)) []) ∧
                      True) ∧
                    ((0 : Nat) = (0 : Nat) ∧ (2 : Int) = (2 : Int) ∧ True) ∧
                      (arF zeroF =
                            [V.int IntKind.i64 (0 : Int), V.int IntKind.i64 (0 : Int), V.int IntKind.i64 (0 : Int),
                              V.int IntKind.i64 (0 : Int), V.int IntKind.i64 (0 : Int), V.int IntKind.i64 (0 : Int),
                              V.int IntKind.i64 (0 : Int), V.int IntKind.i64 (0 : Int), V.int IntKind.i64 (0 : Int),
                              V.int IntKind.i64 (0 : Int), V.int IntKind.i64 (0 : Int), V.int IntKind.i64 (0 : Int),
                              V.int IntKind.i64 (0 : Int), V.int IntKind.i64 (0 : Int), V.int IntKind.i64 (0 : Int),
                              V.int IntKind.i64 (0 : Int), V.int IntKind.i64 (0 : Int), V.int IntKind.i64 (0 : Int)] ∧
                          True ∧
                            True ∧
                              True ∧
                                True ∧
                                  True ∧
                                    True ∧
                                      True ∧
                                        True ∧ True ∧ True ∧ True ∧ True ∧ True ∧ True ∧ True ∧ True ∧ True ∧ True ∧ True) ∧
                        True) = _) ?_
  (repeat' (first | (with_reducible apply And.intro) | (refine fun (_ : True) => ?_))) <;> first | with_reducible (first | rfl | exact trivial | assumption | (refine decide_eq_true ?_ <;> omega) | (refine decide_eq_false ?_ <;> omega) | (refine head_ints1 ?_ <;> omega) | (refine bne_false ?_ <;> omega) | (refine bne_true ?_ <;> omega) | (refine beq_false' ?_ <;> omega) | (refine beq_true' ?_ <;> omega) | (refine wr6' ?_ ?_ ?_ <;> omega) | (refine rem6 ?_ <;> omega) | (refine quo6 ?_ ?_ ?_ <;> omega) | exact HfL_ints _ | omega) | ((with_reducible show (_ : V) = _); rfl) | (intro hk_; exfalso; revert hk_; simp; done) | (intros; simp_all; done) | (split <;> omega) | ((with_reducible show decide _ = true); exact decide_eq_true (by omega)) | ((with_reducible show decide _ = false); exact decide_eq_false (by omega)) | skip
  all_goals first | rfl | (intro _ hh _ _; have := inA_ar (List.cons.inj hh).1; rw [ha, hb] at this; cases this)
theorem add_big (a b : Nat → Int) (ha : inA a = true) (hb : inA b = true) (hs : inA (sumF a b) = false) : FnOk Pg g0 34 [ar a, ar b] (.tup [ar zeroF, i6 6]) := by
  have h := inrange_fn a
  have h2 := inrange_fn b
  have h3 := inrange_fn (sumF a b)
  have h4 := combine_fn a b 1 (fun k hk => by have := inA_bd ha hk; omega) (fun k hk => by have := inA_bd hb hk; omega)
  rw [ha] at h
  rw [hb] at h2
  rw [hs] at h3
  change FnOk Pg g0 _ _ (ar (sumF a b)) at h4
  generalize hf : sumF a b = f at *
  refine FnOk.of_vc vE_ok mixed sp0_ok (n := 1000) (r := [2]) (S := adS zeroF 6) (hs := [fn 8 (.bool true), fn 12 (.bool true), fn 18 (ar f), fn 20 (.bool false)]) ?_
  refine Eq.mp (by kernel_rfl : (V.tup
            [V.agg
                (i6 (zeroF (0 : Nat)) ::
                  List.take._f (Nat.succ (16 : Nat))
                    (Nat.rec ⟨List.take._f Nat.zero PUnit.unit, PUnit.unit⟩
                      (fun n n_ih => ⟨List.take._f (Nat.succ n) n_ih, n_ih⟩) (16 : Nat))
                    [i6 (zeroF (1 : Nat)), i6 (zeroF (2 : Nat)), i6 (zeroF (3 : Nat)), i6 (zeroF (4 : Nat)),
                      i6 (zeroF (5 : Nat)), i6 (zeroF (6 : Nat)), i6 (zeroF (7 : Nat)), i6 (zeroF (8 : Nat)),
                      i6 (zeroF (9 : Nat)), i6 (zeroF (10 : Nat)), i6 (zeroF (11 : Nat)), i6 (zeroF (12 : Nat)),
                      i6 (zeroF (13 : Nat)), i6 (zeroF (14 : Nat)), i6 (zeroF (15 : Nat)), i6 (zeroF (16 : Nat)),
                      i6 (zeroF (17 : Nat))]),
              i6 (6 : Int)] =
          V.tup [ar zeroF, i6 (6 : Int)] ∧
        ((True ∧
              True ∧
                True ∧
                  True ∧
                    True ∧ True ∧ True ∧ True ∧ True ∧ True ∧ True ∧ True ∧ True ∧ True ∧ True ∧ True ∧ True ∧ True ∧ True) ∧
            True) ∧
          FnOk Tryd.prog g0 (82 : Nat)
              [V.agg
                  [V.int IntKind.i64 (a (0 : Nat)), V.int IntKind.i64 (a (1 : Nat)), V.int IntKind.i64 (a (2 : Nat)),
                    V.int IntKind.i64 (a (3 : Nat)), V.int IntKind.i64 (a (4 : Nat)), V.int IntKind.i64 (a (5 : Nat)),
                    V.int IntKind.i64 (a (6 : Nat)), V.int IntKind.i64 (a (7 : Nat)), V.int IntKind.i64 (a (8 : Nat)),
                    V.int IntKind.i64 (a (9 : Nat)), V.int IntKind.i64 (a (10 : Nat)), V.int IntKind.i64 (a (11 : Nat)),
                    V.int IntKind.i64 (a (12 : Nat)), V.int IntKind.i64 (a (13 : Nat)), V.int IntKind.i64 (a (14 : Nat)),
                    V.int IntKind.i64 (a (15 : Nat)), V.int IntKind.i64 (a (16 : Nat)), V.int IntKind.i64 (a (17 : Nat))]]
              (V.bool true) ∧
            True ∧
              ((True ∧
                    True ∧
                      True ∧
                        True ∧
                          True ∧
                            True ∧ True ∧ True ∧ True ∧ True ∧ True ∧ True ∧ True ∧ True ∧ True ∧ True ∧ True ∧ True ∧ True) ∧
                  True) ∧
                FnOk Tryd.prog g0 (82 : Nat)
                    [V.agg
                        [V.int IntKind.i64 (b (0 : Nat)), V.int IntKind.i64 (b (1 : Nat)), V.int IntKind.i64 (b (2 : Nat)),
                          V.int IntKind.i64 (b (3 : Nat)), V.int IntKind.i64 (b (4 : Nat)), V.int IntKind.i64 (b (5 : Nat)),
                          V.int IntKind.i64 (b (6 : Nat)), V.int IntKind.i64 (b (7 : Nat)), V.int IntKind.i64 (b (8 : Nat)),
                          V.int IntKind.i64 (b (9 : Nat)), V.int IntKind.i64 (b (10 : Nat)), V.int IntKind.i64 (b (11 : Nat)),
                          V.int IntKind.i64 (b (12 : Nat)), V.int IntKind.i64 (b (13 : Nat)),
                          V.int IntKind.i64 (b (14 : Nat)), V.int IntKind.i64 (b (15 : Nat)),
                          V.int IntKind.i64 (b (16 : Nat)), V.int IntKind.i64 (b (17 : Nat))]]
                    (V.bool true) ∧
                  ((V.fn (82 : Nat) [] = V.fn (82 : Nat) [] →
                        [V.agg
                                [i6 (a (0 : Nat)), i6 (a (1 : Nat)), i6 (a (2 : Nat)), i6 (a (3 : Nat)), i6 (a (4 : Nat)),
                                  i6 (a (5 : Nat)), i6 (a (6 : Nat)), i6 (a (7 : Nat)), i6 (a (8 : Nat)), i6 (a (9 : Nat)),
                                  i6 (a (10 : Nat)), i6 (a (11 : Nat)), i6 (a (12 : Nat)), i6 (a (13 : Nat)),
                                  i6 (a (14 : Nat)), i6 (a (15 : Nat)), i6 (a (16 : Nat)), i6 (a (17 : Nat))]] =
                            [V.agg
                                [i6 (b (0 : Nat)), i6 (b (1 : Nat)), i6 (b (2 : Nat)), i6 (b (3 : Nat)), i6 (b (4 : Nat)),
                                  i6 (b (5 : Nat)), i6 (b (6 : Nat)), i6 (b (7 : Nat)), i6 (b (8 : Nat)), i6 (b (9 : Nat)),
                                  i6 (b (10 : Nat)), i6 (b (11 : Nat)), i6 (b (12 : Nat)), i6 (b (13 : Nat)),
                                  i6 (b (14 : Nat)), i6 (b (15 : Nat)), i6 (b (16 : Nat)), i6 (b (17 : Nat))]] →
                          pt
                                (pt
                                  (pt T.e (0 : Nat)
                                    (O.row (41 : Nat) none
                                      [i6 (a (0 : Nat)), i6 (a (1 : Nat)), i6 (a (2 : Nat)), i6 (a (3 : Nat)),
                                        i6 (a (4 : Nat)), i6 (a (5 : Nat)), i6 (a (6 : Nat)), i6 (a (7 : Nat)),
                                        i6 (a (8 : Nat)), i6 (a (9 : Nat)), i6 (a (10 : Nat)), i6 (a (11 : Nat)),
                                        i6 (a (12 : Nat)), i6 (a (13 : Nat)), i6 (a (14 : Nat)), i6 (a (15 : Nat)),
                                        i6 (a (16 : Nat)), i6 (a (17 : Nat))]))
                                  ((0 : Nat) + (1 : Nat))
                                  (O.row (41 : Nat) none
                                    [i6 (b (0 : Nat)), i6 (b (1 : Nat)), i6 (b (2 : Nat)), i6 (b (3 : Nat)), i6 (b (4 : Nat)),
                                      i6 (b (5 : Nat)), i6 (b (6 : Nat)), i6 (b (7 : Nat)), i6 (b (8 : Nat)),
                                      i6 (b (9 : Nat)), i6 (b (10 : Nat)), i6 (b (11 : Nat)), i6 (b (12 : Nat)),
                                      i6 (b (13 : Nat)), i6 (b (14 : Nat)), i6 (b (15 : Nat)), i6 (b (16 : Nat)),
                                      i6 (b (17 : Nat))]))
                                ((0 : Nat) + (1 : Nat) + (1 : Nat))
                                (O.row (41 : Nat) none
                                  [V.int IntKind.i64 (0 : Int), V.int IntKind.i64 (0 : Int), V.int IntKind.i64 (0 : Int),
                                    V.int IntKind.i64 (0 : Int), V.int IntKind.i64 (0 : Int), V.int IntKind.i64 (0 : Int),
                                    V.int IntKind.i64 (0 : Int), V.int IntKind.i64 (0 : Int), V.int IntKind.i64 (0 : Int),
                                    V.int IntKind.i64 (0 : Int), V.int IntKind.i64 (0 : Int), V.int IntKind.i64 (0 : Int),
                                    V.int IntKind.i64 (0 : Int), V.int IntKind.i64 (0 : Int), V.int IntKind.i64 (0 : Int),
                                    V.int IntKind.i64 (0 : Int), V.int IntKind.i64 (0 : Int), V.int IntKind.i64 (0 : Int)]) =
                              pt
                                (pt
                                  (pt T.e (0 : Nat)
                                    (O.row (41 : Nat) none
                                      [i6 (a (0 : Nat)), i6 (a (1 : Nat)), i6 (a (2 : Nat)), i6 (a (3 : Nat)),
                                        i6 (a (4 : Nat)), i6 (a (5 : Nat)), i6 (a (6 : Nat)), i6 (a (7 : Nat)),
                                        i6 (a (8 : Nat)), i6 (a (9 : Nat)), i6 (a (10 : Nat)), i6 (a (11 : Nat)),
                                        i6 (a (12 : Nat)), i6 (a (13 : Nat)), i6 (a (14 : Nat)), i6 (a (15 : Nat)),
                                        i6 (a (16 : Nat)), i6 (a (17 : Nat))]))
                                  ((0 : Nat) + (1 : Nat))
                                  (O.row (41 : Nat) none
                                    [i6 (b (0 : Nat)), i6 (b (1 : Nat)), i6 (b (2 : Nat)), i6 (b (3 : Nat)), i6 (b (4 : Nat)),
                                      i6 (b (5 : Nat)), i6 (b (6 : Nat)), i6 (b (7 : Nat)), i6 (b (8 : Nat)),
                                      i6 (b (9 : Nat)), i6 (b (10 : Nat)), i6 (b (11 : Nat)), i6 (b (12 : Nat)),
                                      i6 (b (13 : Nat)), i6 (b (14 : Nat)), i6 (b (15 : Nat)), i6 (b (16 : Nat)),
                                      i6 (b (17 : Nat))]))
                                ((0 : Nat) + (1 : Nat) + (1 : Nat))
                                (O.row (41 : Nat) none
                                  [V.int IntKind.i64 (0 : Int), V.int IntKind.i64 (0 : Int), V.int IntKind.i64 (0 : Int),
                                    V.int IntKind.i64 (0 : Int), V.int IntKind.i64 (0 : Int), V.int IntKind.i64 (0 : Int),
                                    V.int IntKind.i64 (0 : Int), V.int IntKind.i64 (0 : Int), V.int IntKind.i64 (0 : Int),
                                    V.int IntKind.i64 (0 : Int), V.int IntKind.i64 (0 : Int), V.int IntKind.i64 (0 : Int),
                                    V.int IntKind.i64 (0 : Int), V.int IntKind.i64 (0 : Int), V.int IntKind.i64 (0 : Int),
                                    V.int IntKind.i64 (0 : Int), V.int IntKind.i64 (0 : Int), V.int IntKind.i64 (0 : Int)]) →
                            (0 : Nat) + (1 : Nat) + (1 : Nat) + (1 : Nat) = (0 : Nat) + (1 : Nat) + (1 : Nat) + (1 : Nat) →
                              CR.mk (V.bool true)
                                  (pt
                                    (pt
                                      (pt T.e (0 : Nat)
                                        (O.row (41 : Nat) none
                                          [i6 (a (0 : Nat)), i6 (a (1 : Nat)), i6 (a (2 : Nat)), i6 (a (3 : Nat)),
                                            i6 (a (4 : Nat)), i6 (a (5 : Nat)), i6 (a (6 : Nat)), i6 (a (7 : Nat)),
                                            i6 (a (8 : Nat)), i6 (a (9 : Nat)), i6 (a (10 : Nat)), i6 (a (11 : Nat)),
                                            i6 (a (12 : Nat)), i6 (a (13 : Nat)), i6 (a (14 : Nat)), i6 (a (15 : Nat)),
                                            i6 (a (16 : Nat)), i6 (a (17 : Nat))]))
                                      ((0 : Nat) + (1 : Nat))
                                      (O.row (41 : Nat) none
                                        [i6 (b (0 : Nat)), i6 (b (1 : Nat)), i6 (b (2 : Nat)), i6 (b (3 : Nat)),
                                          i6 (b (4 : Nat)), i6 (b (5 : Nat)), i6 (b (6 : Nat)), i6 (b (7 : Nat)),
                                          i6 (b (8 : Nat)), i6 (b (9 : Nat)), i6 (b (10 : Nat)), i6 (b (11 : Nat)),
                                          i6 (b (12 : Nat)), i6 (b (13 : Nat)), i6 (b (14 : Nat)), i6 (b (15 : Nat)),
                                          i6 (b (16 : Nat)), i6 (b (17 : Nat))]))
                                    ((0 : Nat) + (1 : Nat) + (1 : Nat))
                                    (O.row (41 : Nat) none
                                      [V.int IntKind.i64 (0 : Int), V.int IntKind.i64 (0 : Int), V.int IntKind.i64 (0 : Int),
                                        V.int IntKind.i64 (0 : Int), V.int IntKind.i64 (0 : Int), V.int IntKind.i64 (0 : Int),
                                        V.int IntKind.i64 (0 : Int), V.int IntKind.i64 (0 : Int), V.int IntKind.i64 (0 : Int),
                                        V.int IntKind.i64 (0 : Int), V.int IntKind.i64 (0 : Int), V.int IntKind.i64 (0 : Int),
                                        V.int IntKind.i64 (0 : Int), V.int IntKind.i64 (0 : Int), V.int IntKind.i64 (0 : Int),
                                        V.int IntKind.i64 (0 : Int), V.int IntKind.i64 (0 : Int),
                                        V.int IntKind.i64 (0 : Int)]))
                                  ((0 : Nat) + (1 : Nat) + (1 : Nat) + (1 : Nat)) [] =
                                CR.mk (V.bool true)
                                  (pt
                                    (pt
                                      (pt T.e (0 : Nat)
                                        (O.row (41 : Nat) none
                                          [i6 (a (0 : Nat)), i6 (a (1 : Nat)), i6 (a (2 : Nat)), i6 (a (3 : Nat)),
                                            i6 (a (4 : Nat)), i6 (a (5 : Nat)), i6 (a (6 : Nat)), i6 (a (7 : Nat)),
                                            i6 (a (8 : Nat)), i6 (a (9 : Nat)), i6 (a (10 : Nat)), i6 (a (11 : Nat)),
                                            i6 (a (12 : Nat)), i6 (a (13 : Nat)), i6 (a (14 : Nat)), i6 (a (15 : Nat)),
                                            i6 (a (16 : Nat)), i6 (a (17 : Nat))]))
                                      ((0 : Nat) + (1 : Nat))
                                      (O.row (41 : Nat) none
                                        [i6 (b (0 : Nat)), i6 (b (1 : Nat)), i6 (b (2 : Nat)), i6 (b (3 : Nat)),
                                          i6 (b (4 : Nat)), i6 (b (5 : Nat)), i6 (b (6 : Nat)), i6 (b (7 : Nat)),
                                          i6 (b (8 : Nat)), i6 (b (9 : Nat)), i6 (b (10 : Nat)), i6 (b (11 : Nat)),
                                          i6 (b (12 : Nat)), i6 (b (13 : Nat)), i6 (b (14 : Nat)), i6 (b (15 : Nat)),
                                          i6 (b (16 : Nat)), i6 (b (17 : Nat))]))
                                    ((0 : Nat) + (1 : Nat) + (1 : Nat))
                                    (O.row (41 : Nat) none
                                      [V.int IntKind.i64 (0 : Int), V.int IntKind.i64 (0 : Int), V.int IntKind.i64 (0 : Int),
                                        V.int IntKind.i64 (0 : Int), V.int IntKind.i64 (0 : Int), V.int IntKind.i64 (0 : Int),
                                        V.int IntKind.i64 (0 : Int), V.int IntKind.i64 (0 : Int), V.int IntKind.i64 (0 : Int),
                                        V.int IntKind.i64 (0 : Int), V.int IntKind.i64 (0 : Int), V.int IntKind.i64 (0 : Int),
                                        V.int IntKind.i64 (0 : Int), V.int IntKind.i64 (0 : Int), V.int IntKind.i64 (0 : Int),
                                        V.int IntKind.i64 (0 : Int), V.int IntKind.i64 (0 : Int),
                                        V.int IntKind.i64 (0 : Int)]))
                                  ((0 : Nat) + (1 : Nat) + (1 : Nat) + (1 : Nat)) []) ∧
                      True) ∧
                    ((True ∧
                          True ∧
                            True ∧
                              True ∧
                                True ∧
                                  True ∧
                                    True ∧
                                      True ∧ True ∧ True ∧ True ∧ True ∧ True ∧ True ∧ True ∧ True ∧ True ∧ True ∧ True) ∧
                        (True ∧
                            True ∧
                              True ∧
                                True ∧
                                  True ∧
                                    True ∧
                                      True ∧
                                        True ∧ True ∧ True ∧ True ∧ True ∧ True ∧ True ∧ True ∧ True ∧ True ∧ True ∧ True) ∧
                          True ∧ True) ∧
                      FnOk Tryd.prog g0 (79 : Nat)
                          [V.agg
                              [V.int IntKind.i64 (a (0 : Nat)), V.int IntKind.i64 (a (1 : Nat)),
                                V.int IntKind.i64 (a (2 : Nat)), V.int IntKind.i64 (a (3 : Nat)),
                                V.int IntKind.i64 (a (4 : Nat)), V.int IntKind.i64 (a (5 : Nat)),
                                V.int IntKind.i64 (a (6 : Nat)), V.int IntKind.i64 (a (7 : Nat)),
                                V.int IntKind.i64 (a (8 : Nat)), V.int IntKind.i64 (a (9 : Nat)),
                                V.int IntKind.i64 (a (10 : Nat)), V.int IntKind.i64 (a (11 : Nat)),
                                V.int IntKind.i64 (a (12 : Nat)), V.int IntKind.i64 (a (13 : Nat)),
                                V.int IntKind.i64 (a (14 : Nat)), V.int IntKind.i64 (a (15 : Nat)),
                                V.int IntKind.i64 (a (16 : Nat)), V.int IntKind.i64 (a (17 : Nat))],
                            V.agg
                              [V.int IntKind.i64 (b (0 : Nat)), V.int IntKind.i64 (b (1 : Nat)),
                                V.int IntKind.i64 (b (2 : Nat)), V.int IntKind.i64 (b (3 : Nat)),
                                V.int IntKind.i64 (b (4 : Nat)), V.int IntKind.i64 (b (5 : Nat)),
                                V.int IntKind.i64 (b (6 : Nat)), V.int IntKind.i64 (b (7 : Nat)),
                                V.int IntKind.i64 (b (8 : Nat)), V.int IntKind.i64 (b (9 : Nat)),
                                V.int IntKind.i64 (b (10 : Nat)), V.int IntKind.i64 (b (11 : Nat)),
                                V.int IntKind.i64 (b (12 : Nat)), V.int IntKind.i64 (b (13 : Nat)),
                                V.int IntKind.i64 (b (14 : Nat)), V.int IntKind.i64 (b (15 : Nat)),
                                V.int IntKind.i64 (b (16 : Nat)), V.int IntKind.i64 (b (17 : Nat))],
                            V.int IntKind.i64 (1 : Int)]
                          (ar f) ∧
                        True ∧
                          ((True ∧
                                True ∧
                                  True ∧
                                    True ∧
                                      True ∧
                                        True ∧
                                          True ∧
                                            True ∧
                                              True ∧ True ∧ True ∧ True ∧ True ∧ True ∧ True ∧ True ∧ True ∧ True ∧ True) ∧
                              True) ∧
                            FnOk Tryd.prog g0 (82 : Nat)
                                [V.agg
                                    [V.int IntKind.i64 (f (0 : Nat)), V.int IntKind.i64 (f (1 : Nat)),
                                      V.int IntKind.i64 (f (2 : Nat)), V.int IntKind.i64 (f (3 : Nat)),
                                      V.int IntKind.i64 (f (4 : Nat)), V.int IntKind.i64 (f (5 : Nat)),
                                      V.int IntKind.i64 (f (6 : Nat)), V.int IntKind.i64 (f (7 : Nat)),
                                      V.int IntKind.i64 (f (8 : Nat)), V.int IntKind.i64 (f (9 : Nat)),
                                      V.int IntKind.i64 (f (10 : Nat)), V.int IntKind.i64 (f (11 : Nat)),
                                      V.int IntKind.i64 (f (12 : Nat)), V.int IntKind.i64 (f (13 : Nat)),
                                      V.int IntKind.i64 (f (14 : Nat)), V.int IntKind.i64 (f (15 : Nat)),
                                      V.int IntKind.i64 (f (16 : Nat)), V.int IntKind.i64 (f (17 : Nat))]]
                                (V.bool false) ∧
                              True ∧
                                ((0 : Nat) = (0 : Nat) ∧ (6 : Int) = (6 : Int) ∧ True) ∧
                                  (arF zeroF =
                                        [V.int IntKind.i64 (0 : Int), V.int IntKind.i64 (0 : Int),
                                          V.int IntKind.i64 (0 : Int), V.int IntKind.i64 (0 : Int),
                                          V.int IntKind.i64 (0 : Int), V.int IntKind.i64 (0 : Int),
                                          V.int IntKind.i64 (0 : Int), V.int IntKind.i64 (0 : Int),
                                          V.int IntKind.i64 (0 : Int), V.int IntKind.i64 (0 : Int),
                                          V.int IntKind.i64 (0 : Int), V.int IntKind.i64 (0 : Int),
                                          V.int IntKind.i64 (0 : Int), V.int IntKind.i64 (0 : Int),
                                          V.int IntKind.i64 (0 : Int), V.int IntKind.i64 (0 : Int),
                                          V.int IntKind.i64 (0 : Int), V.int IntKind.i64 (0 : Int)] ∧
                                      True ∧
                                        True ∧
                                          True ∧
                                            True ∧
                                              True ∧
                                                True ∧
                                                  True ∧
                                                    True ∧
                                                      True ∧
                                                        True ∧ True ∧ True ∧ True ∧ True ∧ True ∧ True ∧ True ∧ True ∧ True) ∧
                                    True) = _) ?_
  (repeat' (first | (with_reducible apply And.intro) | (refine fun (_ : True) => ?_))) <;> first | with_reducible (first | rfl | exact trivial | assumption | (refine decide_eq_true ?_ <;> omega) | (refine decide_eq_false ?_ <;> omega) | (refine head_ints1 ?_ <;> omega) | (refine bne_false ?_ <;> omega) | (refine bne_true ?_ <;> omega) | (refine beq_false' ?_ <;> omega) | (refine beq_true' ?_ <;> omega) | (refine wr6' ?_ ?_ ?_ <;> omega) | (refine rem6 ?_ <;> omega) | (refine quo6 ?_ ?_ ?_ <;> omega) | exact HfL_ints _ | omega) | ((with_reducible show (_ : V) = _); rfl) | (intro hk_; exfalso; revert hk_; simp; done) | (intros; simp_all; done) | (split <;> omega) | ((with_reducible show decide _ = true); exact decide_eq_true (by omega)) | ((with_reducible show decide _ = false); exact decide_eq_false (by omega)) | skip
  all_goals first | rfl | (intro _ hh _ _; have := inA_ar (List.cons.inj hh).1; simp only [ha, hb, hs] at this; cases this)
theorem add_ok (a b : Nat → Int) (ha : inA a = true) (hb : inA b = true) (hs : inA (sumF a b) = true) : FnOk Pg g0 34 [ar a, ar b] (.tup [ar (sumF a b), i6 0]) := by
  have h := inrange_fn a
  have h2 := inrange_fn b
  have h3 := inrange_fn (sumF a b)
  have h4 := combine_fn a b 1 (fun k hk => by have := inA_bd ha hk; omega) (fun k hk => by have := inA_bd hb hk; omega)
  rw [ha] at h
  rw [hb] at h2
  rw [hs] at h3
  change FnOk Pg g0 _ _ (ar (sumF a b)) at h4
  generalize hf : sumF a b = f at *
  refine FnOk.of_vc vE_ok mixed sp0_ok (n := 1000) (r := [2]) (S := adS f 0) (hs := [fn 8 (.bool true), fn 12 (.bool true), fn 18 (ar f), fn 20 (.bool true)]) ?_
  refine Eq.mp (by kernel_rfl : (V.tup
            [V.agg
                (i6 (f (0 : Nat)) ::
                  List.take._f (Nat.succ (16 : Nat))
                    (Nat.rec ⟨List.take._f Nat.zero PUnit.unit, PUnit.unit⟩
                      (fun n n_ih => ⟨List.take._f (Nat.succ n) n_ih, n_ih⟩) (16 : Nat))
                    [i6 (f (1 : Nat)), i6 (f (2 : Nat)), i6 (f (3 : Nat)), i6 (f (4 : Nat)), i6 (f (5 : Nat)),
                      i6 (f (6 : Nat)), i6 (f (7 : Nat)), i6 (f (8 : Nat)), i6 (f (9 : Nat)), i6 (f (10 : Nat)),
                      i6 (f (11 : Nat)), i6 (f (12 : Nat)), i6 (f (13 : Nat)), i6 (f (14 : Nat)), i6 (f (15 : Nat)),
                      i6 (f (16 : Nat)), i6 (f (17 : Nat))]),
              i6 (0 : Int)] =
          V.tup [ar f, i6 (0 : Int)] ∧
        ((True ∧
              True ∧
                True ∧
                  True ∧
                    True ∧ True ∧ True ∧ True ∧ True ∧ True ∧ True ∧ True ∧ True ∧ True ∧ True ∧ True ∧ True ∧ True ∧ True) ∧
            True) ∧
          FnOk Tryd.prog g0 (82 : Nat)
              [V.agg
                  [V.int IntKind.i64 (a (0 : Nat)), V.int IntKind.i64 (a (1 : Nat)), V.int IntKind.i64 (a (2 : Nat)),
                    V.int IntKind.i64 (a (3 : Nat)), V.int IntKind.i64 (a (4 : Nat)), V.int IntKind.i64 (a (5 : Nat)),
                    V.int IntKind.i64 (a (6 : Nat)), V.int IntKind.i64 (a (7 : Nat)), V.int IntKind.i64 (a (8 : Nat)),
                    V.int IntKind.i64 (a (9 : Nat)), V.int IntKind.i64 (a (10 : Nat)), V.int IntKind.i64 (a (11 : Nat)),
                    V.int IntKind.i64 (a (12 : Nat)), V.int IntKind.i64 (a (13 : Nat)), V.int IntKind.i64 (a (14 : Nat)),
                    V.int IntKind.i64 (a (15 : Nat)), V.int IntKind.i64 (a (16 : Nat)), V.int IntKind.i64 (a (17 : Nat))]]
              (V.bool true) ∧
            True ∧
              ((True ∧
                    True ∧
                      True ∧
                        True ∧
                          True ∧
                            True ∧ True ∧ True ∧ True ∧ True ∧ True ∧ True ∧ True ∧ True ∧ True ∧ True ∧ True ∧ True ∧ True) ∧
                  True) ∧
                FnOk Tryd.prog g0 (82 : Nat)
                    [V.agg
                        [V.int IntKind.i64 (b (0 : Nat)), V.int IntKind.i64 (b (1 : Nat)), V.int IntKind.i64 (b (2 : Nat)),
                          V.int IntKind.i64 (b (3 : Nat)), V.int IntKind.i64 (b (4 : Nat)), V.int IntKind.i64 (b (5 : Nat)),
                          V.int IntKind.i64 (b (6 : Nat)), V.int IntKind.i64 (b (7 : Nat)), V.int IntKind.i64 (b (8 : Nat)),
                          V.int IntKind.i64 (b (9 : Nat)), V.int IntKind.i64 (b (10 : Nat)), V.int IntKind.i64 (b (11 : Nat)),
                          V.int IntKind.i64 (b (12 : Nat)), V.int IntKind.i64 (b (13 : Nat)),
                          V.int IntKind.i64 (b (14 : Nat)), V.int IntKind.i64 (b (15 : Nat)),
                          V.int IntKind.i64 (b (16 : Nat)), V.int IntKind.i64 (b (17 : Nat))]]
                    (V.bool true) ∧
                  ((V.fn (82 : Nat) [] = V.fn (82 : Nat) [] →
                        [V.agg
                                [i6 (a (0 : Nat)), i6 (a (1 : Nat)), i6 (a (2 : Nat)), i6 (a (3 : Nat)), i6 (a (4 : Nat)),
                                  i6 (a (5 : Nat)), i6 (a (6 : Nat)), i6 (a (7 : Nat)), i6 (a (8 : Nat)), i6 (a (9 : Nat)),
                                  i6 (a (10 : Nat)), i6 (a (11 : Nat)), i6 (a (12 : Nat)), i6 (a (13 : Nat)),
                                  i6 (a (14 : Nat)), i6 (a (15 : Nat)), i6 (a (16 : Nat)), i6 (a (17 : Nat))]] =
                            [V.agg
                                [i6 (b (0 : Nat)), i6 (b (1 : Nat)), i6 (b (2 : Nat)), i6 (b (3 : Nat)), i6 (b (4 : Nat)),
                                  i6 (b (5 : Nat)), i6 (b (6 : Nat)), i6 (b (7 : Nat)), i6 (b (8 : Nat)), i6 (b (9 : Nat)),
                                  i6 (b (10 : Nat)), i6 (b (11 : Nat)), i6 (b (12 : Nat)), i6 (b (13 : Nat)),
                                  i6 (b (14 : Nat)), i6 (b (15 : Nat)), i6 (b (16 : Nat)), i6 (b (17 : Nat))]] →
                          pt
                                (pt
                                  (pt T.e (0 : Nat)
                                    (O.row (41 : Nat) none
                                      [i6 (a (0 : Nat)), i6 (a (1 : Nat)), i6 (a (2 : Nat)), i6 (a (3 : Nat)),
                                        i6 (a (4 : Nat)), i6 (a (5 : Nat)), i6 (a (6 : Nat)), i6 (a (7 : Nat)),
                                        i6 (a (8 : Nat)), i6 (a (9 : Nat)), i6 (a (10 : Nat)), i6 (a (11 : Nat)),
                                        i6 (a (12 : Nat)), i6 (a (13 : Nat)), i6 (a (14 : Nat)), i6 (a (15 : Nat)),
                                        i6 (a (16 : Nat)), i6 (a (17 : Nat))]))
                                  ((0 : Nat) + (1 : Nat))
                                  (O.row (41 : Nat) none
                                    [i6 (b (0 : Nat)), i6 (b (1 : Nat)), i6 (b (2 : Nat)), i6 (b (3 : Nat)), i6 (b (4 : Nat)),
                                      i6 (b (5 : Nat)), i6 (b (6 : Nat)), i6 (b (7 : Nat)), i6 (b (8 : Nat)),
                                      i6 (b (9 : Nat)), i6 (b (10 : Nat)), i6 (b (11 : Nat)), i6 (b (12 : Nat)),
                                      i6 (b (13 : Nat)), i6 (b (14 : Nat)), i6 (b (15 : Nat)), i6 (b (16 : Nat)),
                                      i6 (b (17 : Nat))]))
                                ((0 : Nat) + (1 : Nat) + (1 : Nat))
                                (O.row (41 : Nat) none
                                  [V.int IntKind.i64 (0 : Int), V.int IntKind.i64 (0 : Int), V.int IntKind.i64 (0 : Int),
                                    V.int IntKind.i64 (0 : Int), V.int IntKind.i64 (0 : Int), V.int IntKind.i64 (0 : Int),
                                    V.int IntKind.i64 (0 : Int), V.int IntKind.i64 (0 : Int), V.int IntKind.i64 (0 : Int),
                                    V.int IntKind.i64 (0 : Int), V.int IntKind.i64 (0 : Int), V.int IntKind.i64 (0 : Int),
                                    V.int IntKind.i64 (0 : Int), V.int IntKind.i64 (0 : Int), V.int IntKind.i64 (0 : Int),
                                    V.int IntKind.i64 (0 : Int), V.int IntKind.i64 (0 : Int), V.int IntKind.i64 (0 : Int)]) =
                              pt
                                (pt
                                  (pt T.e (0 : Nat)
                                    (O.row (41 : Nat) none
                                      [i6 (a (0 : Nat)), i6 (a (1 : Nat)), i6 (a (2 : Nat)), i6 (a (3 : Nat)),
                                        i6 (a (4 : Nat)), i6 (a (5 : Nat)), i6 (a (6 : Nat)), i6 (a (7 : Nat)),
                                        i6 (a (8 : Nat)), i6 (a (9 : Nat)), i6 (a (10 : Nat)), i6 (a (11 : Nat)),
                                        i6 (a (12 : Nat)), i6 (a (13 : Nat)), i6 (a (14 : Nat)), i6 (a (15 : Nat)),
                                        i6 (a (16 : Nat)), i6 (a (17 : Nat))]))
                                  ((0 : Nat) + (1 : Nat))
                                  (O.row (41 : Nat) none
                                    [i6 (b (0 : Nat)), i6 (b (1 : Nat)), i6 (b (2 : Nat)), i6 (b (3 : Nat)), i6 (b (4 : Nat)),
                                      i6 (b (5 : Nat)), i6 (b (6 : Nat)), i6 (b (7 : Nat)), i6 (b (8 : Nat)),
                                      i6 (b (9 : Nat)), i6 (b (10 : Nat)), i6 (b (11 : Nat)), i6 (b (12 : Nat)),
                                      i6 (b (13 : Nat)), i6 (b (14 : Nat)), i6 (b (15 : Nat)), i6 (b (16 : Nat)),
                                      i6 (b (17 : Nat))]))
                                ((0 : Nat) + (1 : Nat) + (1 : Nat))
                                (O.row (41 : Nat) none
                                  [V.int IntKind.i64 (0 : Int), V.int IntKind.i64 (0 : Int), V.int IntKind.i64 (0 : Int),
                                    V.int IntKind.i64 (0 : Int), V.int IntKind.i64 (0 : Int), V.int IntKind.i64 (0 : Int),
                                    V.int IntKind.i64 (0 : Int), V.int IntKind.i64 (0 : Int), V.int IntKind.i64 (0 : Int),
                                    V.int IntKind.i64 (0 : Int), V.int IntKind.i64 (0 : Int), V.int IntKind.i64 (0 : Int),
                                    V.int IntKind.i64 (0 : Int), V.int IntKind.i64 (0 : Int), V.int IntKind.i64 (0 : Int),
                                    V.int IntKind.i64 (0 : Int), V.int IntKind.i64 (0 : Int), V.int IntKind.i64 (0 : Int)]) →
                            (0 : Nat) + (1 : Nat) + (1 : Nat) + (1 : Nat) = (0 : Nat) + (1 : Nat) + (1 : Nat) + (1 : Nat) →
                              CR.mk (V.bool true)
                                  (pt
                                    (pt
                                      (pt T.e (0 : Nat)
                                        (O.row (41 : Nat) none
                                          [i6 (a (0 : Nat)), i6 (a (1 : Nat)), i6 (a (2 : Nat)), i6 (a (3 : Nat)),
                                            i6 (a (4 : Nat)), i6 (a (5 : Nat)), i6 (a (6 : Nat)), i6 (a (7 : Nat)),
                                            i6 (a (8 : Nat)), i6 (a (9 : Nat)), i6 (a (10 : Nat)), i6 (a (11 : Nat)),
                                            i6 (a (12 : Nat)), i6 (a (13 : Nat)), i6 (a (14 : Nat)), i6 (a (15 : Nat)),
                                            i6 (a (16 : Nat)), i6 (a (17 : Nat))]))
                                      ((0 : Nat) + (1 : Nat))
                                      (O.row (41 : Nat) none
                                        [i6 (b (0 : Nat)), i6 (b (1 : Nat)), i6 (b (2 : Nat)), i6 (b (3 : Nat)),
                                          i6 (b (4 : Nat)), i6 (b (5 : Nat)), i6 (b (6 : Nat)), i6 (b (7 : Nat)),
                                          i6 (b (8 : Nat)), i6 (b (9 : Nat)), i6 (b (10 : Nat)), i6 (b (11 : Nat)),
                                          i6 (b (12 : Nat)), i6 (b (13 : Nat)), i6 (b (14 : Nat)), i6 (b (15 : Nat)),
                                          i6 (b (16 : Nat)), i6 (b (17 : Nat))]))
                                    ((0 : Nat) + (1 : Nat) + (1 : Nat))
                                    (O.row (41 : Nat) none
                                      [V.int IntKind.i64 (0 : Int), V.int IntKind.i64 (0 : Int), V.int IntKind.i64 (0 : Int),
                                        V.int IntKind.i64 (0 : Int), V.int IntKind.i64 (0 : Int), V.int IntKind.i64 (0 : Int),
                                        V.int IntKind.i64 (0 : Int), V.int IntKind.i64 (0 : Int), V.int IntKind.i64 (0 : Int),
                                        V.int IntKind.i64 (0 : Int), V.int IntKind.i64 (0 : Int), V.int IntKind.i64 (0 : Int),
                                        V.int IntKind.i64 (0 : Int), V.int IntKind.i64 (0 : Int), V.int IntKind.i64 (0 : Int),
                                        V.int IntKind.i64 (0 : Int), V.int IntKind.i64 (0 : Int),
                                        V.int IntKind.i64 (0 : Int)]))
                                  ((0 : Nat) + (1 : Nat) + (1 : Nat) + (1 : Nat)) [] =
                                CR.mk (V.bool true)
                                  (pt
                                    (pt
                                      (pt T.e (0 : Nat)
                                        (O.row (41 : Nat) none
                                          [i6 (a (0 : Nat)), i6 (a (1 : Nat)), i6 (a (2 : Nat)), i6 (a (3 : Nat)),
                                            i6 (a (4 : Nat)), i6 (a (5 : Nat)), i6 (a (6 : Nat)), i6 (a (7 : Nat)),
                                            i6 (a (8 : Nat)), i6 (a (9 : Nat)), i6 (a (10 : Nat)), i6 (a (11 : Nat)),
                                            i6 (a (12 : Nat)), i6 (a (13 : Nat)), i6 (a (14 : Nat)), i6 (a (15 : Nat)),
                                            i6 (a (16 : Nat)), i6 (a (17 : Nat))]))
                                      ((0 : Nat) + (1 : Nat))
                                      (O.row (41 : Nat) none
                                        [i6 (b (0 : Nat)), i6 (b (1 : Nat)), i6 (b (2 : Nat)), i6 (b (3 : Nat)),
                                          i6 (b (4 : Nat)), i6 (b (5 : Nat)), i6 (b (6 : Nat)), i6 (b (7 : Nat)),
                                          i6 (b (8 : Nat)), i6 (b (9 : Nat)), i6 (b (10 : Nat)), i6 (b (11 : Nat)),
                                          i6 (b (12 : Nat)), i6 (b (13 : Nat)), i6 (b (14 : Nat)), i6 (b (15 : Nat)),
                                          i6 (b (16 : Nat)), i6 (b (17 : Nat))]))
                                    ((0 : Nat) + (1 : Nat) + (1 : Nat))
                                    (O.row (41 : Nat) none
                                      [V.int IntKind.i64 (0 : Int), V.int IntKind.i64 (0 : Int), V.int IntKind.i64 (0 : Int),
                                        V.int IntKind.i64 (0 : Int), V.int IntKind.i64 (0 : Int), V.int IntKind.i64 (0 : Int),
                                        V.int IntKind.i64 (0 : Int), V.int IntKind.i64 (0 : Int), V.int IntKind.i64 (0 : Int),
                                        V.int IntKind.i64 (0 : Int), V.int IntKind.i64 (0 : Int), V.int IntKind.i64 (0 : Int),
                                        V.int IntKind.i64 (0 : Int), V.int IntKind.i64 (0 : Int), V.int IntKind.i64 (0 : Int),
                                        V.int IntKind.i64 (0 : Int), V.int IntKind.i64 (0 : Int),
                                        V.int IntKind.i64 (0 : Int)]))
                                  ((0 : Nat) + (1 : Nat) + (1 : Nat) + (1 : Nat)) []) ∧
                      True) ∧
                    ((True ∧
                          True ∧
                            True ∧
                              True ∧
                                True ∧
                                  True ∧
                                    True ∧
                                      True ∧ True ∧ True ∧ True ∧ True ∧ True ∧ True ∧ True ∧ True ∧ True ∧ True ∧ True) ∧
                        (True ∧
                            True ∧
                              True ∧
                                True ∧
                                  True ∧
                                    True ∧
                                      True ∧
                                        True ∧ True ∧ True ∧ True ∧ True ∧ True ∧ True ∧ True ∧ True ∧ True ∧ True ∧ True) ∧
                          True ∧ True) ∧
                      FnOk Tryd.prog g0 (79 : Nat)
                          [V.agg
                              [V.int IntKind.i64 (a (0 : Nat)), V.int IntKind.i64 (a (1 : Nat)),
                                V.int IntKind.i64 (a (2 : Nat)), V.int IntKind.i64 (a (3 : Nat)),
                                V.int IntKind.i64 (a (4 : Nat)), V.int IntKind.i64 (a (5 : Nat)),
                                V.int IntKind.i64 (a (6 : Nat)), V.int IntKind.i64 (a (7 : Nat)),
                                V.int IntKind.i64 (a (8 : Nat)), V.int IntKind.i64 (a (9 : Nat)),
                                V.int IntKind.i64 (a (10 : Nat)), V.int IntKind.i64 (a (11 : Nat)),
                                V.int IntKind.i64 (a (12 : Nat)), V.int IntKind.i64 (a (13 : Nat)),
                                V.int IntKind.i64 (a (14 : Nat)), V.int IntKind.i64 (a (15 : Nat)),
                                V.int IntKind.i64 (a (16 : Nat)), V.int IntKind.i64 (a (17 : Nat))],
                            V.agg
                              [V.int IntKind.i64 (b (0 : Nat)), V.int IntKind.i64 (b (1 : Nat)),
                                V.int IntKind.i64 (b (2 : Nat)), V.int IntKind.i64 (b (3 : Nat)),
                                V.int IntKind.i64 (b (4 : Nat)), V.int IntKind.i64 (b (5 : Nat)),
                                V.int IntKind.i64 (b (6 : Nat)), V.int IntKind.i64 (b (7 : Nat)),
                                V.int IntKind.i64 (b (8 : Nat)), V.int IntKind.i64 (b (9 : Nat)),
                                V.int IntKind.i64 (b (10 : Nat)), V.int IntKind.i64 (b (11 : Nat)),
                                V.int IntKind.i64 (b (12 : Nat)), V.int IntKind.i64 (b (13 : Nat)),
                                V.int IntKind.i64 (b (14 : Nat)), V.int IntKind.i64 (b (15 : Nat)),
                                V.int IntKind.i64 (b (16 : Nat)), V.int IntKind.i64 (b (17 : Nat))],
                            V.int IntKind.i64 (1 : Int)]
                          (ar f) ∧
                        True ∧
                          ((True ∧
                                True ∧
                                  True ∧
                                    True ∧
                                      True ∧
                                        True ∧
                                          True ∧
                                            True ∧
                                              True ∧ True ∧ True ∧ True ∧ True ∧ True ∧ True ∧ True ∧ True ∧ True ∧ True) ∧
                              True) ∧
                            FnOk Tryd.prog g0 (82 : Nat)
                                [V.agg
                                    [V.int IntKind.i64 (f (0 : Nat)), V.int IntKind.i64 (f (1 : Nat)),
                                      V.int IntKind.i64 (f (2 : Nat)), V.int IntKind.i64 (f (3 : Nat)),
                                      V.int IntKind.i64 (f (4 : Nat)), V.int IntKind.i64 (f (5 : Nat)),
                                      V.int IntKind.i64 (f (6 : Nat)), V.int IntKind.i64 (f (7 : Nat)),
                                      V.int IntKind.i64 (f (8 : Nat)), V.int IntKind.i64 (f (9 : Nat)),
                                      V.int IntKind.i64 (f (10 : Nat)), V.int IntKind.i64 (f (11 : Nat)),
                                      V.int IntKind.i64 (f (12 : Nat)), V.int IntKind.i64 (f (13 : Nat)),
                                      V.int IntKind.i64 (f (14 : Nat)), V.int IntKind.i64 (f (15 : Nat)),
                                      V.int IntKind.i64 (f (16 : Nat)), V.int IntKind.i64 (f (17 : Nat))]]
                                (V.bool true) ∧
                              True ∧
                                ((0 : Nat) = (0 : Nat) ∧ (0 : Int) = (0 : Int) ∧ True) ∧
                                  (arF f =
                                        [i6 (f (0 : Nat)), i6 (f (1 : Nat)), i6 (f (2 : Nat)), i6 (f (3 : Nat)),
                                          i6 (f (4 : Nat)), i6 (f (5 : Nat)), i6 (f (6 : Nat)), i6 (f (7 : Nat)),
                                          i6 (f (8 : Nat)), i6 (f (9 : Nat)), i6 (f (10 : Nat)), i6 (f (11 : Nat)),
                                          i6 (f (12 : Nat)), i6 (f (13 : Nat)), i6 (f (14 : Nat)), i6 (f (15 : Nat)),
                                          i6 (f (16 : Nat)), i6 (f (17 : Nat))] ∧
                                      True ∧
                                        True ∧
                                          True ∧
                                            True ∧
                                              True ∧
                                                True ∧
                                                  True ∧
                                                    True ∧
                                                      True ∧
                                                        True ∧ True ∧ True ∧ True ∧ True ∧ True ∧ True ∧ True ∧ True ∧ True) ∧
                                    True) = _) ?_
  (repeat' (first | (with_reducible apply And.intro) | (refine fun (_ : True) => ?_))) <;> first | with_reducible (first | rfl | exact trivial | assumption | (refine decide_eq_true ?_ <;> omega) | (refine decide_eq_false ?_ <;> omega) | (refine head_ints1 ?_ <;> omega) | (refine bne_false ?_ <;> omega) | (refine bne_true ?_ <;> omega) | (refine beq_false' ?_ <;> omega) | (refine beq_true' ?_ <;> omega) | (refine wr6' ?_ ?_ ?_ <;> omega) | (refine rem6 ?_ <;> omega) | (refine quo6 ?_ ?_ ?_ <;> omega) | exact HfL_ints _ | omega) | ((with_reducible show (_ : V) = _); rfl) | (intro hk_; exfalso; revert hk_; simp; done) | (intros; simp_all; done) | (split <;> omega) | ((with_reducible show decide _ = true); exact decide_eq_true (by omega)) | ((with_reducible show decide _ = false); exact decide_eq_false (by omega)) | skip
  all_goals rfl

/-! ### powers -/
abbrev ar8F (f : Nat → Int) : List V := [.int .i8 (f 0), .int .i8 (f 1), .int .i8 (f 2), .int .i8 (f 3), .int .i8 (f 4), .int .i8 (f 5), .int .i8 (f 6), .int .i8 (f 7), .int .i8 (f 8), .int .i8 (f 9), .int .i8 (f 10), .int .i8 (f 11), .int .i8 (f 12), .int .i8 (f 13), .int .i8 (f 14), .int .i8 (f 15), .int .i8 (f 16), .int .i8 (f 17)]
abbrev ar8 (f : Nat → Int) : V := .agg (ar8F f)
theorem idx61 {f : Nat → Int} {k : Nat} (h : k < 18) : idxV (ctxOf Pg) 61 (ar8 f) (k : Int) = some (.int .i8 (f k)) := by
  rcases lt18 h with rfl | rfl | rfl | rfl | rfl | rfl | rfl | rfl | rfl | rfl | rfl | rfl | rfl | rfl | rfl | rfl | rfl | rfl <;> kernel_rfl
abbrev pwS (f : Nat → Int) (k : Nat) : SL := { sl := [(2, .ptr 0 0), (3, .ptr 1 0), (6, ar8 f), (7, i6 k)], os := [.row 41 none (arF zeroF), .row 41 none (arF (mixF zeroF f 1 k))] }
abbrev pwX (f : Nat → Int) : SL := { sl := [(2, .ptr 0 0), (3, .ptr 1 0)], os := [.row 41 none (arF zeroF), .row 41 none (arF f)] }
theorem mixF_zero (f : Nat → Int) : arF (mixF zeroF f 1 18) = arF f := ar_congr fun k hk => by
  rw [mixF_at, if_pos hk]; unfold zeroF; omega
theorem powers_loop (f : Nat → Int) (hf : ∀ k, k < 18 → -128 ≤ f k ∧ f k ≤ 127) (k : Nat) (hk : k ≤ 18) :
    Sat Pg none 0 (at' 33 [1, 1, 0, 1, 0]) (mkSt g0 17 (pwS f k)) (outsP g0 17 [(True, .exit 0, pwX (mixF zeroF f 1 18))]) := by
  refine loopC vE_ok mixed sp0_ok (b := at' 33 [1, 1, 0, 1, 0, 0]) (by kernel_rfl) (fun k => k ≤ 18) (pwS f) (fun k => 18 - k) (fun k hk => ?_) k hk
  by_cases hlt : k < 18
  · have p1 := @place41 1 k hlt
    have hx := @idx61 f k hlt
    have hst : layE k (arF (mixF zeroF f 1 k)) [i6 (f k)] = some (arF (mixF zeroF f 1 (k + 1))) := by
      rw [lay_ar hlt, show mixF zeroF f 1 (k + 1) = upA (mixF zeroF f 1 k) k (zeroF k + 1 * f k) from rfl, show zeroF k + 1 * f k = f k by unfold zeroF; omega]
    have hf := hf k hlt
    refine .inl ⟨k + 1, [0, 1], [yes 8, va 10 (.int .i8 (f k)), nu 13 (f k), va 14 (.ptr 1 k), st (arF (mixF zeroF f 1 (k + 1))), nu 15 (k + 1 : Nat)], 1000, hlt, by omega, ?_⟩
    refine Eq.mp (by kernel_rfl : (decide ((↑k : Int) < (18 : Int)) = true ∧
          idxV (ctxOf Tryd.prog) (61 : Nat) (ar8 f) (↑k : Int) = some (V.int IntKind.i8 (f k)) ∧
            wr IntKind.i64 (f k) = f k ∧
              placeV (ctxOf Tryd.prog) (41 : Nat) (V.ptr (1 : Nat) (0 : Nat)) (↑k : Int) = some (V.ptr (1 : Nat) k) ∧
                layE k (arF (mixF zeroF f (1 : Int) k)) [V.int IntKind.i64 (f k)] =
                    some (arF (mixF zeroF f (1 : Int) (k + (1 : Nat)))) ∧
                  wr IntKind.i64 ((↑k : Int) + (1 : Int)) = (↑(k + (1 : Nat)) : Int) ∧
                    ((0 : Nat) = (0 : Nat) ∧
                        (0 : Nat) = (0 : Nat) ∧
                          (f (0 : Nat) = f (0 : Nat) ∧
                              f (1 : Nat) = f (1 : Nat) ∧
                                f (2 : Nat) = f (2 : Nat) ∧
                                  f (3 : Nat) = f (3 : Nat) ∧
                                    f (4 : Nat) = f (4 : Nat) ∧
                                      f (5 : Nat) = f (5 : Nat) ∧
                                        f (6 : Nat) = f (6 : Nat) ∧
                                          f (7 : Nat) = f (7 : Nat) ∧
                                            f (8 : Nat) = f (8 : Nat) ∧
                                              f (9 : Nat) = f (9 : Nat) ∧
                                                f (10 : Nat) = f (10 : Nat) ∧
                                                  f (11 : Nat) = f (11 : Nat) ∧
                                                    f (12 : Nat) = f (12 : Nat) ∧
                                                      f (13 : Nat) = f (13 : Nat) ∧
                                                        f (14 : Nat) = f (14 : Nat) ∧
                                                          f (15 : Nat) = f (15 : Nat) ∧
                                                            f (16 : Nat) = f (16 : Nat) ∧ f (17 : Nat) = f (17 : Nat) ∧ True) ∧
                            (↑(k + (1 : Nat)) : Int) = (↑(k + (1 : Nat)) : Int) ∧ True) ∧
                      (arF zeroF = arF zeroF ∧
                          True ∧
                            True ∧
                              True ∧
                                True ∧
                                  True ∧
                                    True ∧
                                      True ∧
                                        True ∧ True ∧ True ∧ True ∧ True ∧ True ∧ True ∧ True ∧ True ∧ True ∧ True ∧ True) ∧
                        (arF (mixF zeroF f (1 : Int) (k + (1 : Nat))) = arF (mixF zeroF f (1 : Int) (k + (1 : Nat))) ∧
                            True ∧
                              True ∧
                                True ∧
                                  True ∧
                                    True ∧
                                      True ∧
                                        True ∧
                                          True ∧ True ∧ True ∧ True ∧ True ∧ True ∧ True ∧ True ∧ True ∧ True ∧ True ∧ True) ∧
                          True) = _) ?_
    (repeat' (first | (with_reducible apply And.intro) | (refine fun (_ : True) => ?_))) <;> first | with_reducible (first | rfl | exact trivial | assumption | (refine decide_eq_true ?_ <;> omega) | (refine decide_eq_false ?_ <;> omega) | (refine head_ints1 ?_ <;> omega) | (refine bne_false ?_ <;> omega) | (refine bne_true ?_ <;> omega) | (refine beq_false' ?_ <;> omega) | (refine beq_true' ?_ <;> omega) | (refine wr6' ?_ ?_ ?_ <;> omega) | (refine rem6 ?_ <;> omega) | (refine quo6 ?_ ?_ ?_ <;> omega) | exact HfL_ints _ | omega) | ((with_reducible show (_ : V) = _); rfl) | (intro hk_; exfalso; revert hk_; simp; done) | (intros; simp_all; done) | (split <;> omega) | ((with_reducible show decide _ = true); exact decide_eq_true (by omega)) | ((with_reducible show decide _ = false); exact decide_eq_false (by omega)) | skip
  · have : k = 18 := by omega
    subst this
    refine .inr ⟨.exit 0, [0, 1], pwX (mixF zeroF f 1 18), [], 1000, .inl ⟨trivial, rfl, rfl⟩, ?_⟩
    refine Eq.mp (by kernel_rfl : (((0 : Nat) = (0 : Nat) ∧ (0 : Nat) = (0 : Nat) ∧ True) ∧
          (arF zeroF = arF zeroF ∧
              True ∧
                True ∧
                  True ∧
                    True ∧
                      True ∧ True ∧ True ∧ True ∧ True ∧ True ∧ True ∧ True ∧ True ∧ True ∧ True ∧ True ∧ True ∧ True ∧ True) ∧
            (arF (mixF zeroF f (1 : Int) (18 : Nat)) = arF (mixF zeroF f (1 : Int) (18 : Nat)) ∧
                True ∧
                  True ∧
                    True ∧
                      True ∧
                        True ∧
                          True ∧ True ∧ True ∧ True ∧ True ∧ True ∧ True ∧ True ∧ True ∧ True ∧ True ∧ True ∧ True ∧ True) ∧
              True) = _) ?_
    (repeat' (first | (with_reducible apply And.intro) | (refine fun (_ : True) => ?_))) <;> first | with_reducible (first | rfl | exact trivial | assumption | (refine decide_eq_true ?_ <;> omega) | (refine decide_eq_false ?_ <;> omega) | (refine head_ints1 ?_ <;> omega) | (refine bne_false ?_ <;> omega) | (refine bne_true ?_ <;> omega) | (refine beq_false' ?_ <;> omega) | (refine beq_true' ?_ <;> omega) | (refine wr6' ?_ ?_ ?_ <;> omega) | (refine rem6 ?_ <;> omega) | (refine quo6 ?_ ?_ ?_ <;> omega) | exact HfL_ints _ | omega) | ((with_reducible show (_ : V) = _); rfl) | (intro hk_; exfalso; revert hk_; simp; done) | (intros; simp_all; done) | (split <;> omega) | ((with_reducible show decide _ = true); exact decide_eq_true (by omega)) | ((with_reducible show decide _ = false); exact decide_eq_false (by omega)) | skip
theorem powers_fn (f : Nat → Int) (hf : ∀ k, k < 18 → -128 ≤ f k ∧ f k ≤ 127) : FnOk Pg g0 33 [ar8 f] (ar f) := by
  have l := powers_loop f hf 0 (Nat.zero_le _)
  have hz := mixF_zero f
  rw [show ar f = ar (mixF zeroF f 1 18) by rw [ar, ar, hz]]
  generalize mixF zeroF f 1 18 = g at *
  refine FnOk.of_vc vE_ok mixed sp0_ok (n := 1000) (r := [0]) (S := { sl := [(2, .ptr 0 0)], os := [.row 41 none (arF g)] }) (hs := [(0, .loop [1, 2] (pwS f 0) [(True, .exit 0, pwX g)])]) ?_
  refine Eq.mp (by kernel_rfl : (V.agg
            (i6 (g (0 : Nat)) ::
              List.take._f (Nat.succ (16 : Nat))
                (Nat.rec ⟨List.take._f Nat.zero PUnit.unit, PUnit.unit⟩ (fun n n_ih => ⟨List.take._f (Nat.succ n) n_ih, n_ih⟩)
                  (16 : Nat))
                [i6 (g (1 : Nat)), i6 (g (2 : Nat)), i6 (g (3 : Nat)), i6 (g (4 : Nat)), i6 (g (5 : Nat)), i6 (g (6 : Nat)),
                  i6 (g (7 : Nat)), i6 (g (8 : Nat)), i6 (g (9 : Nat)), i6 (g (10 : Nat)), i6 (g (11 : Nat)),
                  i6 (g (12 : Nat)), i6 (g (13 : Nat)), i6 (g (14 : Nat)), i6 (g (15 : Nat)), i6 (g (16 : Nat)),
                  i6 (g (17 : Nat))]) =
          ar g ∧
        (((0 : Nat) = (0 : Nat) ∧
              (0 : Nat) = (0 : Nat) ∧
                (f (0 : Nat) = f (0 : Nat) ∧
                    f (1 : Nat) = f (1 : Nat) ∧
                      f (2 : Nat) = f (2 : Nat) ∧
                        f (3 : Nat) = f (3 : Nat) ∧
                          f (4 : Nat) = f (4 : Nat) ∧
                            f (5 : Nat) = f (5 : Nat) ∧
                              f (6 : Nat) = f (6 : Nat) ∧
                                f (7 : Nat) = f (7 : Nat) ∧
                                  f (8 : Nat) = f (8 : Nat) ∧
                                    f (9 : Nat) = f (9 : Nat) ∧
                                      f (10 : Nat) = f (10 : Nat) ∧
                                        f (11 : Nat) = f (11 : Nat) ∧
                                          f (12 : Nat) = f (12 : Nat) ∧
                                            f (13 : Nat) = f (13 : Nat) ∧
                                              f (14 : Nat) = f (14 : Nat) ∧
                                                f (15 : Nat) = f (15 : Nat) ∧
                                                  f (16 : Nat) = f (16 : Nat) ∧ f (17 : Nat) = f (17 : Nat) ∧ True) ∧
                  (↑(0 : Nat) : Int) = (0 : Int) ∧ True) ∧
            (arF zeroF =
                  [V.int IntKind.i64 (0 : Int), V.int IntKind.i64 (0 : Int), V.int IntKind.i64 (0 : Int),
                    V.int IntKind.i64 (0 : Int), V.int IntKind.i64 (0 : Int), V.int IntKind.i64 (0 : Int),
                    V.int IntKind.i64 (0 : Int), V.int IntKind.i64 (0 : Int), V.int IntKind.i64 (0 : Int),
                    V.int IntKind.i64 (0 : Int), V.int IntKind.i64 (0 : Int), V.int IntKind.i64 (0 : Int),
                    V.int IntKind.i64 (0 : Int), V.int IntKind.i64 (0 : Int), V.int IntKind.i64 (0 : Int),
                    V.int IntKind.i64 (0 : Int), V.int IntKind.i64 (0 : Int), V.int IntKind.i64 (0 : Int)] ∧
                True ∧
                  True ∧
                    True ∧
                      True ∧
                        True ∧
                          True ∧ True ∧ True ∧ True ∧ True ∧ True ∧ True ∧ True ∧ True ∧ True ∧ True ∧ True ∧ True ∧ True) ∧
              (arF (mixF zeroF f (1 : Int) (0 : Nat)) =
                    [V.int IntKind.i64 (0 : Int), V.int IntKind.i64 (0 : Int), V.int IntKind.i64 (0 : Int),
                      V.int IntKind.i64 (0 : Int), V.int IntKind.i64 (0 : Int), V.int IntKind.i64 (0 : Int),
                      V.int IntKind.i64 (0 : Int), V.int IntKind.i64 (0 : Int), V.int IntKind.i64 (0 : Int),
                      V.int IntKind.i64 (0 : Int), V.int IntKind.i64 (0 : Int), V.int IntKind.i64 (0 : Int),
                      V.int IntKind.i64 (0 : Int), V.int IntKind.i64 (0 : Int), V.int IntKind.i64 (0 : Int),
                      V.int IntKind.i64 (0 : Int), V.int IntKind.i64 (0 : Int), V.int IntKind.i64 (0 : Int)] ∧
                  True ∧
                    True ∧
                      True ∧
                        True ∧
                          True ∧
                            True ∧ True ∧ True ∧ True ∧ True ∧ True ∧ True ∧ True ∧ True ∧ True ∧ True ∧ True ∧ True ∧ True) ∧
                True) ∧
          Sat Tryd.prog none (0 : Nat) (at' (33 : Nat) [(1 : Nat), (1 : Nat), (0 : Nat), (1 : Nat), (0 : Nat)])
              (mkSt g0 (17 : Nat) (pwS f (0 : Nat))) (outsP g0 (17 : Nat) [(True, Ex.exit (0 : Nat), pwX g)]) ∧
            (True →
                ((0 : Nat) = (0 : Nat) ∧ True) ∧
                  (arF g =
                        [i6 (g (0 : Nat)), i6 (g (1 : Nat)), i6 (g (2 : Nat)), i6 (g (3 : Nat)), i6 (g (4 : Nat)),
                          i6 (g (5 : Nat)), i6 (g (6 : Nat)), i6 (g (7 : Nat)), i6 (g (8 : Nat)), i6 (g (9 : Nat)),
                          i6 (g (10 : Nat)), i6 (g (11 : Nat)), i6 (g (12 : Nat)), i6 (g (13 : Nat)), i6 (g (14 : Nat)),
                          i6 (g (15 : Nat)), i6 (g (16 : Nat)), i6 (g (17 : Nat))] ∧
                      True ∧
                        True ∧
                          True ∧
                            True ∧
                              True ∧
                                True ∧
                                  True ∧ True ∧ True ∧ True ∧ True ∧ True ∧ True ∧ True ∧ True ∧ True ∧ True ∧ True ∧ True) ∧
                    True) ∧
              True) = _) ?_
  (repeat' (first | (with_reducible apply And.intro) | (refine fun (_ : True) => ?_))) <;> first | with_reducible (first | rfl | exact trivial | assumption | (refine decide_eq_true ?_ <;> omega) | (refine decide_eq_false ?_ <;> omega) | (refine head_ints1 ?_ <;> omega) | (refine bne_false ?_ <;> omega) | (refine bne_true ?_ <;> omega) | (refine beq_false' ?_ <;> omega) | (refine beq_true' ?_ <;> omega) | (refine wr6' ?_ ?_ ?_ <;> omega) | (refine rem6 ?_ <;> omega) | (refine quo6 ?_ ?_ ?_ <;> omega) | exact HfL_ints _ | omega) | ((with_reducible show (_ : V) = _); rfl) | (intro hk_; exfalso; revert hk_; simp; done) | (intros; simp_all; done) | (split <;> omega) | ((with_reducible show decide _ = true); exact decide_eq_true (by omega)) | ((with_reducible show decide _ = false); exact decide_eq_false (by omega)) | skip
  all_goals rfl

end Go.Proofs.YtglpoiaedkoecaaDoor.Am
