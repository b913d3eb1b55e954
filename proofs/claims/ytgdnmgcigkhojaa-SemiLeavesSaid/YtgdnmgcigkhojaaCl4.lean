/- The texts behind the claim: Chapter 04: semi.read, whole. Lists of blocks of cells (a slice of structures, as cells). Rules for loops and calls in memory that the kernel does not see. Chapter 04: semi.number, semi.product; elements that may be too big. Chapter 04: semi.together. Chapter 04: semi.Combine: the tables are read. Chapter 04: semi.Combine: variables and cards, steps, zeros. Chapter 04: all combinations: semi.combinations, in any memory. Rules for loops over functions: their rounds, and the whole. Chapter 04: semi.Combine: the combinations are gone through. Chapter 04: semi.Combine, whole. Chapter 04: semi.Combine, whole: the result. Chapter 04: what Combine reckons, plain: numbers of combinations. -/
import Derived.Test.YtgdnmgcigkhojaaCl3

namespace Go.Proofs.Ytgdnmgcigkhojaa.Am
open Go.RowKit
set_option linter.unusedVariables false
set_option maxHeartbeats 1000000
set_option maxRecDepth 100000
theorem read_bad (k : Int) (z o u : Int) (fv fp ft : Nat) (hv : ∀ a b, FnOk Pg g0 fv [el a b] (.bool (okE k a b))) (vs cs : List Int) (A B : Nat → Int) (n : Nat) (hn : n ≤ 1000000) (h : okC cs = false) : FnOk Pg g0 38 [.agg (opL z o u fv fp ft), .agg [sl vs, sl cs, .im n (elF A B n)]] (.tup [.agg zT, i6 41]) := by
  have hz := isize_bad cs h
  have hL := HfL_elF A B n
  have h5 := h
  refine FnOk.of_vc vE_ok mixed sp0_ok (n := 1000) (r := [2]) (S := { sl := [(4, .ptr 0 0), (5, i6 41)], os := [.row 85 none zT] }) (hs := [fn 17 (.tup [i6 0, i6 20])]) ?_
  refine Eq.mp (by kernel_rfl : (V.tup [V.agg zT, i6 41] = V.tup [V.agg zT, i6 41] ∧ (True ∧ True) ∧ FnOk Try.prog g0 70 [V.im (List.length cs) (ints cs)] (V.tup [i6 0, i6 20]) ∧ True ∧ (0 = 0 ∧ (41 : Int) = (41 : Int) ∧ True) ∧ (zT = zT ∧ TT 67) ∧ True) = _) ?_
  (repeat' (first | (with_reducible apply And.intro) | (refine fun (_ : True) => ?_))) <;> first | exact aq | skip
  all_goals first | rfl | exact HfL_a64 _ | (intro h; exact absurd h (by simp [h5])) | skip
theorem read_bad2 (k : Int) (z o u : Int) (fv fp ft : Nat) (hv : ∀ a b, FnOk Pg g0 fv [el a b] (.bool (okE k a b))) (vs cs : List Int) (A B : Nat → Int) (n : Nat) (hn : n ≤ 1000000) (h : okC cs = true) (h2 : vs.length ≠ cs.length) : FnOk Pg g0 38 [.agg (opL z o u fv fp ft), .agg [sl vs, sl cs, .im n (elF A B n)]] (.tup [.agg zT, i6 41]) := by
  have hz := isize_good cs h
  have hL := HfL_elF A B n
  have h5 := h
  refine FnOk.of_vc vE_ok mixed sp0_ok (n := 1000) (r := [2]) (S := { sl := [(4, .ptr 0 0), (5, i6 41)], os := [.row 85 none zT] }) (hs := [fn 17 (.tup [i6 (prodT cs cs.length), i6 0]), yes 29]) ?_
  refine Eq.mp (by kernel_rfl : (V.tup [V.agg zT, i6 41] = V.tup [V.agg zT, i6 41] ∧ (True ∧ True) ∧ FnOk Try.prog g0 70 [V.im (List.length cs) (ints cs)] (V.tup [i6 (prodT cs (List.length cs)), i6 0]) ∧ True ∧ ((↑(List.length vs) : Int) != (↑(List.length cs) : Int)) = true ∧ (0 = 0 ∧ (41 : Int) = (41 : Int) ∧ True) ∧ (zT = zT ∧ TT 67) ∧ True) = _) ?_
  (repeat' (first | (with_reducible apply And.intro) | (refine fun (_ : True) => ?_))) <;> first | exact aq | skip
  all_goals first | rfl | exact HfL_a64 _ | (intro h; exact absurd h (by simp [h5])) | skip
theorem read_bad3 (k : Int) (z o u : Int) (fv fp ft : Nat) (hv : ∀ a b, FnOk Pg g0 fv [el a b] (.bool (okE k a b))) (vs cs : List Int) (A B : Nat → Int) (n : Nat) (hn : n ≤ 1000000) (h : okC cs = true) (h2 : vs.length = cs.length) (h3 : (n : Int) ≠ prodT cs cs.length) : FnOk Pg g0 38 [.agg (opL z o u fv fp ft), .agg [sl vs, sl cs, .im n (elF A B n)]] (.tup [.agg zT, i6 41]) := by
  have hz := isize_good cs h
  have hL := HfL_elF A B n
  have h5 := h
  refine FnOk.of_vc vE_ok mixed sp0_ok (n := 1000) (r := [2]) (S := { sl := [(4, .ptr 0 0), (5, i6 41)], os := [.row 85 none zT] }) (hs := [fn 17 (.tup [i6 (prodT cs cs.length), i6 0]), no 29, yes 36]) ?_
  refine Eq.mp (by kernel_rfl : (V.tup [V.agg zT, i6 41] = V.tup [V.agg zT, i6 41] ∧ (True ∧ True) ∧ FnOk Try.prog g0 70 [V.im (List.length cs) (ints cs)] (V.tup [i6 (prodT cs (List.length cs)), i6 0]) ∧ True ∧ ((↑(List.length vs) : Int) != (↑(List.length cs) : Int)) = false ∧ ((↑n : Int) != prodT cs (List.length cs)) = true ∧ (0 = 0 ∧ (41 : Int) = (41 : Int) ∧ True) ∧ (zT = zT ∧ TT 67) ∧ True) = _) ?_
  (repeat' (first | (with_reducible apply And.intro) | (refine fun (_ : True) => ?_))) <;> first | exact aq | skip
  all_goals first | rfl | exact HfL_a64 _ | (intro h; exact absurd h (by simp [h5])) | skip
abbrev tabL (vs cs : List Int) (A B : Nat → Int) (n : Nat) : List V := sl vs :: sl cs :: .im n (elF A B n) :: a64 (stT vs cs cs.length cs.length)
abbrev rdH (z o u : Int) (fv fp ft : Nat) (k : Int) (vs cs : List Int) (A B : Nat → Int) (n m : Nat) (p : Int) : Hs := [fn 17 (.tup [i6 p, i6 0]), no 29, no 36, (0, .loop [0, 1, 2, 3] (r1S z o u fv fp ft vs cs m (.im n (elF A B n)) 0) [(varsT vs m = true, .exit 0, r1X z o u fv fp ft vs cs m (.im n (elF A B n))), (varsT vs m = false, .ret, { sl := [(4, .ptr 0 0), (5, i6 41)], os := [.row 85 none zT] })]), (0, .loop [0, 2, 3] (rdS z o u fv fp ft vs cs m A B n (stT vs cs m m) 0) [(rightT k A B n = true, .exit 2, { sl := [(4, .ptr 0 0), (8, .ptr 1 0)], os := [.row 85 none zT, .row 85 none (.im m (ints vs) :: .im m (ints cs) :: .im n (elF A B n) :: a64 (stT vs cs m m))] }), (rightT k A B n = false, .ret, { sl := [(4, .ptr 0 0), (5, i6 41)], os := [.row 85 none zT] })])]
theorem read_good (k : Int) (z o u : Int) (fv fp ft : Nat) (hv : ∀ a b, FnOk Pg g0 fv [el a b] (.bool (okE k a b))) (vs cs : List Int) (A B : Nat → Int) (n m : Nat) (hn : n ≤ 1000000) (h : okC cs = true) (h1 : m = vs.length) (h2 : m = cs.length) (h3 : (n : Int) = prodT cs m) (h5 : varsT vs m = true) (h6 : rightT k A B n = true) : FnOk Pg g0 38 [.agg (opL z o u fv fp ft), .agg [.im m (ints vs), .im m (ints cs), .im n (elF A B n)]] (.tup [.agg (.im m (ints vs) :: .im m (ints cs) :: .im n (elF A B n) :: a64 (stT vs cs m m)), i6 0]) := by
  have hz : FnOk Pg g0 70 [.im m (ints cs)] (.tup [i6 (prodT cs m), i6 0]) := by rw [h2]; exact isize_good cs h
  have hL := HfL_elF A B n
  unfold okC at h
  rw [Bool.and_eq_true, decide_eq_true_eq, ← h2] at h
  have l1 := read_loop1 z o u fv fp ft vs cs m h1 h2 A B n h.1 h.2
  have l2 := read_loop2 k z o u fv fp ft hv vs cs m A B n (stT vs cs m m) hn
  have hS := HfL_a64 (stT vs cs m m)
  have hp := goodT_bd h.2
  clear hv
  refine FnOk.of_vc vE_ok mixed sp0_ok (n := 1000) (r := [0]) (S := { sl := [(4, .ptr 0 0), (5, i6 0)], os := [.row 85 none (.im m (ints vs) :: .im m (ints cs) :: .im n (elF A B n) :: a64 (stT vs cs m m))] }) (hs := rdH z o u fv fp ft k vs cs A B n m (prodT cs m)) ?_
  refine Eq.mp (by kernel_rfl : (V.tup [V.agg (V.im m (ints vs) :: V.im m (ints cs) :: V.im n (elF A B n) :: a64 (stT vs cs m m)), i6 0] = V.tup [V.agg (V.im m (ints vs) :: V.im m (ints cs) :: V.im n (elF A B n) :: a64 (stT vs cs m m)), i6 0] ∧ (True ∧ True) ∧ FnOk Try.prog g0 70 [V.im m (ints cs)] (V.tup [i6 (prodT cs m), i6 0]) ∧ True ∧ ((↑m : Int) != (↑m : Int)) = false ∧ ((↑n : Int) != prodT cs m) = false ∧ ((0 = 0 ∧ 0 = 0 ∧ 0 = 0 ∧ remT cs m 0 = prodT cs m ∧ 0 = 0 ∧ lastT vs 0 = (-1 : Int) ∧ (m = m ∧ ints vs = ints vs) ∧ (↑m : Int) = (↑m : Int) ∧ (↑(0 : Nat) : Int) = (0 : Int) ∧ True) ∧ (opL z o u fv fp ft = [i6 z, i6 0, i6 o, i6 u, V.fn fv [], V.fn fp [], V.fn ft []] ∧ TT 7) ∧ ([V.im m (ints vs), V.im m (ints cs), V.im n (elF A B n)] = [V.im m (ints vs), V.im m (ints cs), V.im n (elF A B n)] ∧ TT 3) ∧ (zT = zT ∧ TT 67) ∧ (V.im m (ints vs) :: V.im m (ints cs) :: V.im n (elF A B n) :: a64 (stT vs cs m 0) = [V.im m (ints vs), V.im m (ints cs), V.im n (elF A B n), i6 0, i6 0, i6 0, i6 0, i6 0, i6 0, i6 0, i6 0, i6 0, i6 0, i6 0, i6 0, i6 0, i6 0, i6 0, i6 0, i6 0, i6 0, i6 0, i6 0, i6 0, i6 0, i6 0, i6 0, i6 0, i6 0, i6 0, i6 0, i6 0, i6 0, i6 0, i6 0, i6 0, i6 0, i6 0, i6 0, i6 0, i6 0, i6 0, i6 0, i6 0, i6 0, i6 0, i6 0, i6 0, i6 0, i6 0, i6 0, i6 0, i6 0, i6 0, i6 0, i6 0, i6 0, i6 0, i6 0, i6 0, i6 0, i6 0, i6 0, i6 0, i6 0, i6 0, i6 0] ∧ TT 67) ∧ True) ∧ Sat Try.prog none 0 (at' 38 [1, 1, 1, 1, 0, 1, 0]) (mkSt g0 85 (r1S z o u fv fp ft vs cs m (V.im n (elF A B n)) 0)) (outsP g0 85 [(varsT vs m = true, Ex.exit 0, r1X z o u fv fp ft vs cs m (V.im n (elF A B n))), (varsT vs m = false, Ex.ret, SL.mk [(4, V.ptr 0 0), (5, i6 41)] [O.row 85 none zT] [] [])]) ∧ (varsT vs m = true → ((0 = 0 ∧ 0 = 0 ∧ 0 = 0 ∧ (n = n ∧ elF A B n = elF A B n) ∧ (↑n : Int) = (↑n : Int) ∧ (↑(0 : Nat) : Int) = (0 : Int) ∧ True) ∧ (opL z o u fv fp ft = opL z o u fv fp ft ∧ TT 7) ∧ ((V.nils :: V.nils :: V.nils :: a64 fun x => (0 : Int)) = zT ∧ TT 67) ∧ (V.im m (ints vs) :: V.im m (ints cs) :: V.im n (elF A B n) :: a64 (stT vs cs m m) = V.im m (ints vs) :: V.im m (ints cs) :: V.im n (elF A B n) :: a64 (stT vs cs m m) ∧ TT 67) ∧ True) ∧ Sat Try.prog none 0 (at' 38 [1, 1, 1, 1, 1, 0, 1, 0]) (mkSt g0 85 (rdS z o u fv fp ft vs cs m A B n (stT vs cs m m) 0)) (outsP g0 85 [(rightT k A B n = true, Ex.exit 2, SL.mk [(4, V.ptr 0 0), (8, V.ptr 1 0)] [O.row 85 none zT, O.row 85 none (V.im m (ints vs) :: V.im m (ints cs) :: V.im n (elF A B n) :: a64 (stT vs cs m m))] [] []), (rightT k A B n = false, Ex.ret, SL.mk [(4, V.ptr 0 0), (5, i6 41)] [O.row 85 none zT] [] [])]) ∧ (rightT k A B n = true → (0 = 0 ∧ (0 : Int) = (0 : Int) ∧ True) ∧ (V.im m (ints vs) :: V.im m (ints cs) :: V.im n (elF A B n) :: a64 (stT vs cs m m) = (V.im m (ints vs) :: V.im m (ints cs) :: V.im n (elF A B n) :: a64 (stT vs cs m m)) ∧ TT 67) ∧ True) ∧ (rightT k A B n = false → (0 = 0 ∧ (0 : Int) = (41 : Int) ∧ True) ∧ (V.im m (ints vs) :: V.im m (ints cs) :: V.im n (elF A B n) :: a64 (stT vs cs m m) = zT ∧ TT 67) ∧ True) ∧ True) ∧ (varsT vs m = false → (0 = 0 ∧ (0 : Int) = (41 : Int) ∧ True) ∧ (V.im m (ints vs) :: V.im m (ints cs) :: V.im n (elF A B n) :: a64 (stT vs cs m m) = zT ∧ TT 67) ∧ True) ∧ True) = _) ?_
  (repeat' (first | (with_reducible apply And.intro) | (refine fun (_ : True) => ?_))) <;> first | exact aq | skip
  all_goals first | rfl | exact HfL_a64 _ | (intro h9; rw [h9] at h5; exact absurd h5 (by decide)) | skip
  all_goals (intro h9; (repeat' (first | (with_reducible apply And.intro) | (refine fun (_ : True) => ?_))); all_goals first | assumption | rfl | trivial | exact aq | exact HfL_a64 _ | (intro h8; rw [h8] at h6; exact absurd h6 (by decide)) | (intro h8; (repeat' (first | (with_reducible apply And.intro) | (refine fun (_ : True) => ?_))); all_goals first | rfl | trivial | exact HfL_a64 _ | kernel_rfl | exact aq | skip))
theorem read_bad4 (k : Int) (z o u : Int) (fv fp ft : Nat) (hv : ∀ a b, FnOk Pg g0 fv [el a b] (.bool (okE k a b))) (vs cs : List Int) (A B : Nat → Int) (n m : Nat) (hn : n ≤ 1000000) (h : okC cs = true) (h1 : m = vs.length) (h2 : m = cs.length) (h3 : (n : Int) = prodT cs m) (h5 : varsT vs m = true → rightT k A B n = false) : FnOk Pg g0 38 [.agg (opL z o u fv fp ft), .agg [.im m (ints vs), .im m (ints cs), .im n (elF A B n)]] (.tup [.agg zT, i6 41]) := by
  have hz : FnOk Pg g0 70 [.im m (ints cs)] (.tup [i6 (prodT cs m), i6 0]) := by rw [h2]; exact isize_good cs h
  have hL := HfL_elF A B n
  unfold okC at h
  rw [Bool.and_eq_true, decide_eq_true_eq, ← h2] at h
  have l1 := read_loop1 z o u fv fp ft vs cs m h1 h2 A B n h.1 h.2
  have l2 := read_loop2 k z o u fv fp ft hv vs cs m A B n (stT vs cs m m) hn
  have hS := HfL_a64 (stT vs cs m m)
  have hp := goodT_bd h.2
  clear hv
  refine FnOk.of_vc vE_ok mixed sp0_ok (n := 1000) (r := [0]) (S := { sl := [(4, .ptr 0 0), (5, i6 41)], os := [.row 85 none zT] }) (hs := rdH z o u fv fp ft k vs cs A B n m (prodT cs m)) ?_
  refine Eq.mp (by kernel_rfl : (V.tup [V.agg zT, i6 41] = V.tup [V.agg zT, i6 41] ∧ (True ∧ True) ∧ FnOk Try.prog g0 70 [V.im m (ints cs)] (V.tup [i6 (prodT cs m), i6 0]) ∧ True ∧ ((↑m : Int) != (↑m : Int)) = false ∧ ((↑n : Int) != prodT cs m) = false ∧ ((0 = 0 ∧ 0 = 0 ∧ 0 = 0 ∧ remT cs m 0 = prodT cs m ∧ 0 = 0 ∧ lastT vs 0 = (-1 : Int) ∧ (m = m ∧ ints vs = ints vs) ∧ (↑m : Int) = (↑m : Int) ∧ (↑(0 : Nat) : Int) = (0 : Int) ∧ True) ∧ (opL z o u fv fp ft = [i6 z, i6 0, i6 o, i6 u, V.fn fv [], V.fn fp [], V.fn ft []] ∧ TT 7) ∧ ([V.im m (ints vs), V.im m (ints cs), V.im n (elF A B n)] = [V.im m (ints vs), V.im m (ints cs), V.im n (elF A B n)] ∧ TT 3) ∧ (zT = zT ∧ TT 67) ∧ (V.im m (ints vs) :: V.im m (ints cs) :: V.im n (elF A B n) :: a64 (stT vs cs m 0) = [V.im m (ints vs), V.im m (ints cs), V.im n (elF A B n), i6 0, i6 0, i6 0, i6 0, i6 0, i6 0, i6 0, i6 0, i6 0, i6 0, i6 0, i6 0, i6 0, i6 0, i6 0, i6 0, i6 0, i6 0, i6 0, i6 0, i6 0, i6 0, i6 0, i6 0, i6 0, i6 0, i6 0, i6 0, i6 0, i6 0, i6 0, i6 0, i6 0, i6 0, i6 0, i6 0, i6 0, i6 0, i6 0, i6 0, i6 0, i6 0, i6 0, i6 0, i6 0, i6 0, i6 0, i6 0, i6 0, i6 0, i6 0, i6 0, i6 0, i6 0, i6 0, i6 0, i6 0, i6 0, i6 0, i6 0, i6 0, i6 0, i6 0, i6 0] ∧ TT 67) ∧ True) ∧ Sat Try.prog none 0 (at' 38 [1, 1, 1, 1, 0, 1, 0]) (mkSt g0 85 (r1S z o u fv fp ft vs cs m (V.im n (elF A B n)) 0)) (outsP g0 85 [(varsT vs m = true, Ex.exit 0, r1X z o u fv fp ft vs cs m (V.im n (elF A B n))), (varsT vs m = false, Ex.ret, SL.mk [(4, V.ptr 0 0), (5, i6 41)] [O.row 85 none zT] [] [])]) ∧ (varsT vs m = true → ((0 = 0 ∧ 0 = 0 ∧ 0 = 0 ∧ (n = n ∧ elF A B n = elF A B n) ∧ (↑n : Int) = (↑n : Int) ∧ (↑(0 : Nat) : Int) = (0 : Int) ∧ True) ∧ (opL z o u fv fp ft = opL z o u fv fp ft ∧ TT 7) ∧ ((V.nils :: V.nils :: V.nils :: a64 fun x => (0 : Int)) = zT ∧ TT 67) ∧ (V.im m (ints vs) :: V.im m (ints cs) :: V.im n (elF A B n) :: a64 (stT vs cs m m) = V.im m (ints vs) :: V.im m (ints cs) :: V.im n (elF A B n) :: a64 (stT vs cs m m) ∧ TT 67) ∧ True) ∧ Sat Try.prog none 0 (at' 38 [1, 1, 1, 1, 1, 0, 1, 0]) (mkSt g0 85 (rdS z o u fv fp ft vs cs m A B n (stT vs cs m m) 0)) (outsP g0 85 [(rightT k A B n = true, Ex.exit 2, SL.mk [(4, V.ptr 0 0), (8, V.ptr 1 0)] [O.row 85 none zT, O.row 85 none (V.im m (ints vs) :: V.im m (ints cs) :: V.im n (elF A B n) :: a64 (stT vs cs m m))] [] []), (rightT k A B n = false, Ex.ret, SL.mk [(4, V.ptr 0 0), (5, i6 41)] [O.row 85 none zT] [] [])]) ∧ (rightT k A B n = true → (0 = 0 ∧ (41 : Int) = (0 : Int) ∧ True) ∧ (zT = (V.im m (ints vs) :: V.im m (ints cs) :: V.im n (elF A B n) :: a64 (stT vs cs m m)) ∧ TT 67) ∧ True) ∧ (rightT k A B n = false → (0 = 0 ∧ (41 : Int) = (41 : Int) ∧ True) ∧ (zT = zT ∧ TT 67) ∧ True) ∧ True) ∧ (varsT vs m = false → (0 = 0 ∧ (41 : Int) = (41 : Int) ∧ True) ∧ (zT = zT ∧ TT 67) ∧ True) ∧ True) = _) ?_
  (repeat' (first | (with_reducible apply And.intro) | (refine fun (_ : True) => ?_))) <;> first | exact aq | skip
  all_goals first | rfl | exact HfL_a64 _ | (intro h9; (repeat' (first | (with_reducible apply And.intro) | (refine fun (_ : True) => ?_))); all_goals first | rfl | trivial | exact HfL_a64 _ | exact aq) | skip
  all_goals (intro h9; (repeat' (first | (with_reducible apply And.intro) | (refine fun (_ : True) => ?_))); all_goals first | assumption | rfl | trivial | exact aq | exact HfL_a64 _ | (intro h8; rw [h5 h9] at h8; exact absurd h8 (by decide)) | (intro h8; (repeat' (first | (with_reducible apply And.intro) | (refine fun (_ : True) => ?_))); all_goals first | rfl | trivial | exact HfL_a64 _ | kernel_rfl | exact aq | skip))
theorem goodB_iff {k : Int} {vs cs : List Int} {A B : Nat → Int} {n : Nat} (h : goodB k vs cs A B n = true) : okC cs = true ∧ vs.length = cs.length ∧ (n : Int) = prodT cs cs.length ∧ varsT vs vs.length = true ∧ rightT k A B n = true := by
  unfold goodB at h
  simp only [Bool.and_eq_true, decide_eq_true_eq] at h
  exact ⟨h.1, h.2.1, h.2.2.1, h.2.2.2.1, h.2.2.2.2⟩
theorem read_in (k : Int) (z o u : Int) (fv fp ft : Nat) (hv : ∀ a b, FnOk Pg g0 fv [el a b] (.bool (okE k a b))) (vs cs : List Int) (A B : Nat → Int) (n : Nat) (hn : n ≤ 1000000) (h : goodB k vs cs A B n = true) : FnOk Pg g0 38 [.agg (opL z o u fv fp ft), .agg (tbL vs cs A B n)] (.tup [.agg (tabL vs cs A B n), i6 0]) := by
  obtain ⟨h1, h2, h3, h4, h5⟩ := goodB_iff h
  have := read_good k z o u fv fp ft hv vs cs A B n cs.length hn h1 h2.symm rfl h3 (by rw [← h2]; exact h4) h5
  rw [show tbL vs cs A B n = [.im cs.length (ints vs), .im cs.length (ints cs), .im n (elF A B n)] from by show [V.im vs.length (ints vs), V.im cs.length (ints cs), V.im n (elF A B n)] = _; rw [h2], show tabL vs cs A B n = .im cs.length (ints vs) :: .im cs.length (ints cs) :: .im n (elF A B n) :: a64 (stT vs cs cs.length cs.length) from by show V.im vs.length (ints vs) :: V.im cs.length (ints cs) :: V.im n (elF A B n) :: a64 (stT vs cs cs.length cs.length) = _; rw [h2]]
  exact this
theorem read_out (k : Int) (z o u : Int) (fv fp ft : Nat) (hv : ∀ a b, FnOk Pg g0 fv [el a b] (.bool (okE k a b))) (vs cs : List Int) (A B : Nat → Int) (n : Nat) (hn : n ≤ 1000000) (h : goodB k vs cs A B n = false) : FnOk Pg g0 38 [.agg (opL z o u fv fp ft), .agg (tbL vs cs A B n)] (.tup [.agg zT, i6 41]) := by
  cases h1 : okC cs with
  | false => exact read_bad k z o u fv fp ft hv vs cs A B n hn h1
  | true =>
    by_cases h2 : vs.length = cs.length
    · by_cases h3 : (n : Int) = prodT cs cs.length
      · have := read_bad4 k z o u fv fp ft hv vs cs A B n cs.length hn h1 h2.symm rfl h3 (fun h4 => by
          unfold goodB at h
          rw [h1, h2, h4] at h
          simpa [← h3] using h)
        rw [show tbL vs cs A B n = [.im cs.length (ints vs), .im cs.length (ints cs), .im n (elF A B n)] from by show [V.im vs.length (ints vs), V.im cs.length (ints cs), V.im n (elF A B n)] = _; rw [h2]]
        exact this
      · exact read_bad3 k z o u fv fp ft hv vs cs A B n hn h1 h2 h3
    · exact read_bad2 k z o u fv fp ft hv vs cs A B n hn h1 h2
end Go.Proofs.Ytgdnmgcigkhojaa.Am

namespace Go.Proofs.Ytgdnmgcigkhojaa.Am
open Go.RowKit
set_option linter.unusedVariables false
set_option maxHeartbeats 1000000
def blF (f : Nat → List V) (n : Nat) : List V := (List.range n).flatMap f
theorem blF_zero (f : Nat → List V) : blF f 0 = [] := rfl
theorem blF_succ (f : Nat → List V) (n : Nat) : blF f (n + 1) = blF f n ++ f n := by
  unfold blF; rw [List.range_succ, List.flatMap_append]; simp
theorem blF_add (f : Nat → List V) (n : Nat) : ∀ m, blF f (n + m) = blF f n ++ blF (fun i => f (n + i)) m
  | 0 => by rw [blF_zero]; simp
  | m + 1 => by rw [show n + (m + 1) = (n + m) + 1 from rfl, blF_succ, blF_add f n m, blF_succ, List.append_assoc]
theorem blF_cons (f : Nat → List V) (n : Nat) : blF f (n + 1) = f 0 ++ blF (fun i => f (i + 1)) n := by
  rw [Nat.add_comm, blF_add, show blF f 1 = f 0 by unfold blF; simp]
  congr 1
  congr 1
  funext i
  rw [Nat.add_comm]
theorem blF_congr {f g : Nat → List V} : ∀ {n : Nat}, (∀ i, i < n → f i = g i) → blF f n = blF g n
  | 0, _ => rfl
  | n + 1, h => by rw [blF_succ, blF_succ, blF_congr (fun i hi => h i (by omega)), h n (by omega)]
theorem blF_len {f : Nat → List V} {s : Nat} (hs : ∀ k, (f k).length = s) : ∀ n, (blF f n).length = n * s
  | 0 => by rw [blF_zero]; simp
  | n + 1 => by rw [blF_succ, List.length_append, blF_len hs n, hs, Nat.succ_mul]
theorem HfL_app : ∀ {a b : List V}, HfL a → HfL b → HfL (a ++ b)
  | [], _, _, h => h
  | _ :: _, _, ⟨h1, h2⟩, h => ⟨h1, HfL_app h2 h⟩
theorem HfL_blF {f : Nat → List V} (h : ∀ k, HfL (f k)) : ∀ n, HfL (blF f n)
  | 0 => trivial
  | n + 1 => by rw [blF_succ]; exact HfL_app (HfL_blF h n) (h n)
theorem blF_split (f : Nat → List V) {k n : Nat} (h : k < n) : blF f n = blF f k ++ (f k ++ blF (fun i => f (k + 1 + i)) (n - (k + 1))) := by
  have e : n = (k + 1) + (n - (k + 1)) := by omega
  rw [e, blF_add, blF_succ, List.append_assoc]
  rw [show k + 1 + (n - (k + 1)) - (k + 1) = n - (k + 1) by omega]
theorem drop_blF {f : Nat → List V} {s : Nat} (hs : ∀ k, (f k).length = s) {k n : Nat} (h : k < n) : (blF f n).drop (k * s) = f k ++ blF (fun i => f (k + 1 + i)) (n - (k + 1)) := by
  rw [blF_split f h, List.drop_append, blF_len hs, Nat.sub_self, List.drop_eq_nil_of_le (by rw [blF_len hs]; omega)]
  simp
theorem take_blF {f : Nat → List V} {s : Nat} (hs : ∀ k, (f k).length = s) {k n : Nat} (h : k < n) : takeE s ((blF f n).drop (k * s)) = some (f k) := by
  rw [drop_blF hs h, takeE_eq]
  have : Nat.ble s (f k ++ blF (fun i => f (k + 1 + i)) (n - (k + 1))).length = true := Nat.ble_eq_true_of_le (by rw [List.length_append, hs]; omega)
  rw [this, cond_true, List.take_append_of_le_length (by rw [hs]; omega), List.take_of_length_le (by rw [hs]; omega)]
def upB (f : Nat → List V) (k : Nat) (x : List V) : Nat → List V := fun i => if i = k then x else f i
theorem lay_blF {f : Nat → List V} {s : Nat} (hs : ∀ k, (f k).length = s) {k n : Nat} (h : k < n) {x : List V} (hx : x.length = s) : layE (k * s) (blF f n) x = some (blF (upB f k x) n) := by
  have hle : k * s + s ≤ n * s := by rw [← Nat.succ_mul]; exact Nat.mul_le_mul_right _ h
  rw [layE_eq', blF_len hs]
  have : Nat.ble (k * s + x.length) (n * s) = true := Nat.ble_eq_true_of_le (by rw [hx]; exact hle)
  rw [this, cond_true, hx, ← Nat.succ_mul]
  congr 1
  rw [blF_split (upB f k x) h]
  have e1 : blF (upB f k x) k = blF f k := blF_congr fun i hi => by unfold upB; rw [if_neg (by omega)]
  have e2 : (fun i => upB f k x (k + 1 + i)) = fun i => f (k + 1 + i) := by funext i; unfold upB; rw [if_neg (by omega)]
  have e3 : upB f k x k = x := by unfold upB; rw [if_pos rfl]
  rw [e1, e2, e3, List.append_assoc]
  have t1 : (blF f n).take (k * s) = blF f k := by
    rw [blF_split f h, List.take_append_of_le_length (by rw [blF_len hs]; omega), List.take_of_length_le (by rw [blF_len hs]; omega)]
  have t2 : (blF f n).drop (k.succ * s) = blF (fun i => f (k + 1 + i)) (n - (k + 1)) := by
    rw [Nat.succ_mul, ← List.drop_drop, drop_blF hs h, List.drop_append, hs, Nat.sub_self, List.drop_eq_nil_of_le (by rw [hs]; omega)]
    simp
  rw [t1, t2]
theorem rep_blF {z : List V} : ∀ n, rep n z = blF (fun _ => z) n
  | 0 => rfl
  | n + 1 => by rw [rep, rep_blF n, blF_cons]
end Go.Proofs.Ytgdnmgcigkhojaa.Am

namespace Go.Proofs.Ytgdnmgcigkhojaa.Am
open Go.RowKit
set_option linter.unusedVariables false
set_option maxHeartbeats 1000000
set_option maxRecDepth 100000
abbrev lk (d : Nat) (es : List (V × V × Nat)) (ck : Nat) (r0 : Option (Nat × V)) : Nat × Hint := (d, .lk es ck r0)
abbrev up (es : List (V × V × Nat)) (ck : Nat) (o' : O) : Nat × Hint := (999999, .up es ck o')
abbrev lo_ (d : Nat) (o : O) (v : V) : Nat × Hint := (d, .lo o v)
abbrev so (o : O) (c : List V) : Nat × Hint := (999999, .so o c)
abbrev toO (sl : List (Nat × V)) : Nat × Hint := (0, .toO sl)
abbrev lpF (sl : List (Nat × V)) (e : Ex) (sl' : List (Nat × V)) : Nat × Hint := (0, .loopF sl [(True, e, sl')])
def outF : List (Prop × Ex × List (Nat × V)) → Ex → List (Nat × V) → Prop
  | [], _, _ => False
  | (p, e', sl') :: l, e, sl => (p ∧ e = e' ∧ sl = sl') ∨ outF l e sl
theorem outF_F {gl : T (List V)} {n : Nat} {M : Mem} : ∀ {l : List (Prop × Ex × List (Nat × V))} {e : Ex} {sl : List (Nat × V)}, outF l e sl → outsF gl n M.H M.nx M.lg l e (mkSo gl n sl M.H M.nx M.lg)
  | (p, e', sl') :: l, e, sl, h => by
    rcases h with ⟨h1, h2, rfl⟩ | h
    · exact .inl ⟨h1, h2, rfl⟩
    · exact .inr (outF_F h)
theorem loopOG {gl : T (List V)} {c b : Code} (hc : c = .loop b) {rd : Option Nat} {k nx0 : Nat} {α : Type} (I : α → Mem → Prop) (S : α → List (Nat × V)) (m : α → Nat) (out : Ex → List (Nat × V) → Mem → Prop)
    (h : ∀ x (H : T O) (nx : Nat) (lg : List Nat) (G : Ex → List (Nat × V) → T O → Nat → List Nat → Prop), I x ⟨H, nx, lg⟩ → (∀ y H nx lg, I y ⟨H, nx, lg⟩ → m y < m x → G .normal (S y) H nx lg) → (∀ i sl H nx lg, out (.exit i) sl ⟨H, nx, lg⟩ → G (.exit i) sl H nx lg) → (∀ sl H nx lg, out .ret sl ⟨H, nx, lg⟩ → G .ret sl H nx lg) → ∃ hs n, vc Pg vE sp0 rd nx0 n b hs (mkSo gl k (S x) H nx lg) (kEndO k G))
    (x : α) (M : Mem) (hx : I x M) : Sat Pg rd nx0 c (mkSo gl k (S x) M.H M.nx M.lg) (fun e st => ∃ sl M', st = mkSo gl k sl M'.H M'.nx M'.lg ∧ out e sl M') :=
  loopO vE_ok mixed sp0_ok hc I S m out (fun x H nx lg hI => h x H nx lg _ hI (fun y H nx lg h1 h2 => ⟨y, h1, h2, rfl⟩) (fun i sl H nx lg h => h) (fun sl H nx lg h => h)) x M hx
theorem loopFr {gl : T (List V)} {c b : Code} (hc : c = .loop b) {rd : Option Nat} {k nx0 : Nat} {α : Type} (I : α → Prop) (S : α → List (Nat × V)) (m : α → Nat) (outs : List (Prop × Ex × List (Nat × V))) (H : T O) (nx : Nat) (lg : List Nat)
    (h : ∀ x (G : Ex → List (Nat × V) → T O → Nat → List Nat → Prop), I x → (∀ y, I y → m y < m x → G .normal (S y) H nx lg) → (∀ i sl, outF outs (.exit i) sl → G (.exit i) sl H nx lg) → ∃ hs n, vc Pg vE sp0 rd nx0 n b hs (mkSo gl k (S x) H nx lg) (kEndO k G)) (x : α) (hx : I x) : Sat Pg rd nx0 c (mkSo gl k (S x) H nx lg) (outsF gl k H nx lg outs) := by
  refine (loopOG hc (fun y M' => I y ∧ M' = ⟨H, nx, lg⟩) S m (fun e sl M' => M' = ⟨H, nx, lg⟩ ∧ outF outs e sl) (fun x H' nx' lg' G hI hN hE _ => ?_) x ⟨H, nx, lg⟩ ⟨hx, rfl⟩).mono ?_
  · obtain ⟨hI, e⟩ := hI
    cases e
    exact h x G hI (fun y h1 h2 => hN y _ _ _ ⟨h1, rfl⟩ h2) (fun i sl h => hE i sl _ _ _ ⟨rfl, h⟩)
  · rintro e st ⟨sl, M', rfl, rfl, ho⟩
    exact outF_F (M := ⟨H, nx, lg⟩) ho
theorem gt_pt {α : Type} (t : T α) (i j : Nat) (x : α) : gt (pt t i x) j = if j = i then some x else gt t j := by rw [gt_eq, pt_eq, T.get_put, gt_eq]
theorem T.set_set {α : Type} : ∀ (f : Nat) (t : T α) (i : Nat) (x y : Option α), i < f → T.set f (T.set f t i x) i y = T.set f t i y
  | 0, _, _, _, _, h => absurd h (Nat.not_lt_zero _)
  | f + 1, t, i, x, y, h => by
    have ih : i ≠ 0 → ∀ t : T α, T.set f (T.set f t (i / 2) x) (i / 2) y = T.set f t (i / 2) y := fun _ t => T.set_set f t (i / 2) x y (by omega)
    have ih2 : i ≠ 0 → ∀ t : T α, T.set f (T.set f t (i / 2 - 1) x) (i / 2 - 1) y = T.set f t (i / 2 - 1) y := fun _ t => T.set_set f t (i / 2 - 1) x y (by omega)
    by_cases h0 : i = 0
    · subst h0; cases t <;> simp [T.set]
    · have hb : Nat.beq i 0 = false := by
        cases hb : Nat.beq i 0 with
        | false => rfl
        | true => exact absurd (Nat.eq_of_beq_eq_true hb) h0
      cases h1 : Nat.beq (i % 2) 1 <;> cases t <;> simp only [T.set, hb, h1, cond_true, cond_false, ih h0, ih2 h0]
theorem T.set_same {α : Type} : ∀ (f : Nat) (t : T α) (i : Nat) (x : α), i < f → t.get i = some x → T.set f t i (some x) = t
  | 0, _, _, _, h, _ => absurd h (Nat.not_lt_zero _)
  | f + 1, .e, _, _, _, h => by simp at h
  | f + 1, .n l v r, i, x, hf, h => by
    unfold T.get at h
    unfold T.set
    cases h0 : Nat.beq i 0 with
    | true => rw [h0, cond_true] at h; rw [cond_true, h]
    | false =>
      have hi : i ≠ 0 := by rintro rfl; cases h0
      rw [h0, cond_false] at h
      rw [cond_false]
      cases h1 : Nat.beq (i % 2) 1 with
      | true => rw [h1, cond_true] at h; rw [cond_true, T.set_same f l (i / 2) x (by omega) h]
      | false => rw [h1, cond_false] at h; rw [cond_false, T.set_same f r (i / 2 - 1) x (by omega) h]
theorem pt_pt {α : Type} (t : T α) (i : Nat) (x y : α) : pt (pt t i x) i y = pt t i y := by
  rw [pt_eq, pt_eq, pt_eq]; exact T.set_set _ _ _ _ _ (Nat.lt_succ_self _)
theorem pt_same {α : Type} {t : T α} {i : Nat} {x : α} (h : gt t i = some x) : pt t i x = t := by
  rw [gt_eq] at h; rw [pt_eq]; exact T.set_same _ _ _ _ (Nat.lt_succ_self _) h
noncomputable def kEq (E : Env) (res : List ResultVar) (r : CR) : KF := fun e _ st => match e with
  | .exit _ => False
  | _ => retP r.v (retV E.G st.tm st.H res) ∧ st.H = r.H ∧ st.nx = r.nx ∧ st.lg = r.lg
noncomputable def vcFiA (P : Program) (E : Env) (sp : SpecT) (gl : T (List V)) (n : Nat) (ars : List V) (H : T O) (nx : Nat) (hs : Hs) (r : CR) : Option FI → Prop
  | some fi => bif Nat.ble ars.length fi.ntmps then vc P E sp none nx n fi.body hs ⟨⟨putAllF (blank fi.ntmps) 0 ars, gl, fi.ntmps⟩, H, nx, []⟩ (kEq E fi.res r) else False
  | none => False
def SubL (a b : List Nat) : Prop := ∀ g, g ∈ a → g ∈ b
noncomputable def kSub (E : Env) (res : List ResultVar) (r : CR) : KF := fun e _ st => match e with
  | .exit _ => False
  | _ => retP r.v (retV E.G st.tm st.H res) ∧ st.H = r.H ∧ st.nx = r.nx ∧ SubL st.lg r.lg
noncomputable def vcFiS (P : Program) (E : Env) (sp : SpecT) (gl : T (List V)) (n : Nat) (ars : List V) (H : T O) (nx : Nat) (hs : Hs) (r : CR) : Option FI → Prop
  | some fi => bif Nat.ble ars.length fi.ntmps then vc P E sp none nx n fi.body hs ⟨⟨putAllF (blank fi.ntmps) 0 ars, gl, fi.ntmps⟩, H, nx, []⟩ (kSub E fi.res r) else False
  | none => False
theorem CallSpec.of_vcS {P : Program} {E : Env} {sp : SpecT} (hE : E.Ok P) (hm : P.follows .mixedOrders = true) {gl : T (List V)} (hsp : SpecOk P gl sp) {n f : Nat} {ars : List V} {H : T O} {nx : Nat} {hs : Hs} {r : CR} (hlog : Log H.get nx r.H.get r.nx r.lg) (h : vcFiS P E sp gl n ars H nx hs r (E.code f)) : CallSpec P gl (.fn f []) ars H nx r := by
  unfold vcFiS at h
  split at h
  · rename_i fi hfi
    obtain ⟨hb, hv⟩ := bif_false h
    rw [putAllF_eq] at hv
    refine CallSpec.fnC hE hfi (by rw [List.append_nil]; exact hb) hlog (R := fun e st => (e = .normal ∨ e = .ret) ∧ retV E.G st.tm st.H fi.res = some r.v ∧ st.H = r.H ∧ st.nx = r.nx ∧ SubL st.lg r.lg) ?_ ?_
    · rw [List.append_nil]
      refine Sat.of_vc hE hm hsp rfl hv fun e hs' st' hg hk => ?_
      have fin : (retP r.v (retV E.G st'.tm st'.H fi.res) ∧ st'.H = r.H ∧ st'.nx = r.nx ∧ SubL st'.lg r.lg) → retV E.G st'.tm st'.H fi.res = some r.v ∧ st'.H = r.H ∧ st'.nx = r.nx ∧ SubL st'.lg r.lg := by
        rintro ⟨hret, k⟩
        refine ⟨?_, k⟩
        unfold retP at hret
        split at hret
        · rename_i u e; rw [e, hret]
        · exact hret.elim
      unfold kSub at hk
      cases e with
      | exit => exact hk.elim
      | normal => exact ⟨.inl rfl, fin hk⟩
      | ret => exact ⟨.inr rfl, fin hk⟩
    · rintro e st ⟨he, hret, h1, h2, h3⟩
      refine ⟨he, r.v, hret, fun s w ee w' _ _ ⟨u, s', k1, g1, g2, g3, g4, g5⟩ => ?_⟩
      dsimp only at g1 g2 g3 g4 g5
      rw [h1] at g2
      rw [h2] at g4 g5
      exact ⟨u, s', k1, g1, g2, g3.more h3, g4, g5⟩
  · exact h.elim
end Go.Proofs.Ytgdnmgcigkhojaa.Am

namespace Go.Proofs.Ytgdnmgcigkhojaa.Am
open Go.RowKit
set_option linter.unusedVariables false
set_option maxHeartbeats 1000000
set_option maxRecDepth 100000
theorem w1 {a b : Int} : wideE 1 a b = true ↔ 0 ≤ a ∧ a ≤ 4611686018427387904 ∧ b = 0 := by simp [wideE]
theorem w2 {a b : Int} : wideE 2 a b = true ↔ 0 ≤ a ∧ a ≤ 4611686018427387904 ∧ b = 0 := by simp [wideE]
theorem w3 {a b : Int} : wideE 3 a b = true ↔ -1 ≤ a ∧ a ≤ 4611686018427387904 ∧ b = 0 := by simp [wideE]
theorem w4 {a b : Int} : wideE 4 a b = true ↔ (a = 0 ∨ a = 1) ∧ b = 0 := by simp [wideE]
theorem w5 {a b : Int} : wideE 5 a b = true ↔ 0 ≤ a ∧ a ≤ 4611686018427387904 ∧ 0 ≤ b ∧ b ≤ 4611686018427387904 ∧ (a = 0 ↔ b = 0) := by simp [wideE]
theorem tE_1 {a b c d : Int} : timesE 1 a b c d = (mulI a c, 0) := by unfold timesE; rw [if_neg (by decide), if_neg (by decide)]
theorem tE_2 {a b c d : Int} : timesE 2 a b c d = (mulI a c, 0) := by unfold timesE; rw [if_neg (by decide), if_neg (by decide)]
theorem tE_4 {a b c d : Int} : timesE 4 a b c d = (mulI a c, 0) := by unfold timesE; rw [if_neg (by decide), if_neg (by decide)]
theorem pE_1 {a b c d : Int} : plusE 1 a b c d = (addI a c, 0) := by unfold plusE; rw [if_pos rfl]
theorem pE_2 {a b c d : Int} : plusE 2 a b c d = (maxI a c, 0) := by unfold plusE; rw [if_neg (by decide), if_neg (by decide), if_neg (by decide)]
theorem pE_4 {a b c d : Int} : plusE 4 a b c d = (maxI a c, 0) := by unfold plusE; rw [if_neg (by decide), if_neg (by decide), if_neg (by decide)]
theorem mulI_zero {a b : Int} (h1 : 0 ≤ a) (h2 : 0 ≤ b) : mulI a b = 0 ↔ a = 0 ∨ b = 0 := by
  unfold mulI big
  split
  · constructor
    · intro h; omega
    · rintro (rfl | rfl) <;> simp at *
  · exact Int.mul_eq_zero
theorem maxI_cases (a b : Int) : maxI a b = a ∧ b ≤ a ∨ maxI a b = b ∧ a < b := by
  unfold maxI; split <;> omega
theorem wide_times {k a b c d p q : Int} (hk : 1 ≤ k ∧ k ≤ 5) (h1 : wideE k a b = true) (h2 : wideE k c d = true) (h : timesE k a b c d = (p, q)) : wideE k p q = true := by
  rcases five_kinds hk with rfl | rfl | rfl | rfl | rfl
  · rw [w1] at *; rw [tE_1] at h; cases h
    have := mulI_bd h1.1 h2.1; unfold big at this; omega
  · rw [w2] at *; rw [tE_2] at h; cases h
    have := mulI_bd h1.1 h2.1; unfold big at this; omega
  · rw [w3] at *; rw [timesE_3] at h
    split at h
    · cases h; omega
    · cases h
      have := @addI_bd a c (by omega) (by omega); unfold big at this; omega
  · rw [w4] at *; rw [tE_4] at h; cases h
    rcases h1.1 with rfl | rfl <;> rcases h2.1 with rfl | rfl <;> simp [mulI, big]
  · rw [w5] at *; rw [timesE_5] at h; cases h
    have e1 := mulI_bd h1.1 h2.1
    have e2 := mulI_bd h1.2.2.1 h2.2.2.1
    have e3 := mulI_zero h1.1 h2.1
    have e4 := mulI_zero h1.2.2.1 h2.2.2.1
    unfold big at e1 e2
    refine ⟨e1.1, e1.2, e2.1, e2.2, ?_⟩
    rw [e3, e4, h1.2.2.2.2, h2.2.2.2.2]
theorem wide_plus {k a b c d p q : Int} (hk : 1 ≤ k ∧ k ≤ 5) (h1 : wideE k a b = true) (h2 : wideE k c d = true) (h : plusE k a b c d = (p, q)) : wideE k p q = true := by
  rcases five_kinds hk with rfl | rfl | rfl | rfl | rfl
  · rw [w1] at *; rw [pE_1] at h; cases h
    have := addI_bd h1.1 h2.1; unfold big at this; omega
  · rw [w2] at *; rw [pE_2] at h; cases h
    have := maxI_cases a c; omega
  · rw [w3] at *; rw [plusE_3] at h
    split at h <;> cases h <;> omega
  · rw [w4] at *; rw [pE_4] at h; cases h
    have := maxI_cases a c; omega
  · rw [w5] at *; rw [plusE_5] at h
    split at h
    · cases h; exact h1
    · split at h
      · cases h; exact h2
      · cases h
        have := addI_bd h1.2.2.1 h2.2.2.1
        have e : addI b d = 0 ↔ b = 0 ∧ d = 0 := by unfold addI big; split <;> omega
        unfold big at this
        refine ⟨h1.1, h1.2.1, this.1, this.2, ?_⟩
        rw [e]; omega
theorem wide_zero {k : Int} (hk : 1 ≤ k ∧ k ≤ 5) : wideE k (zeroA k) 0 = true := by
  rcases five_kinds hk with rfl | rfl | rfl | rfl | rfl <;> decide
theorem wide_one {k : Int} (hk : 1 ≤ k ∧ k ≤ 5) : wideE k (oneA k) (oneB k) = true := by
  rcases five_kinds hk with rfl | rfl | rfl | rfl | rfl <;> decide
theorem times_zl {k c d : Int} (hk : 1 ≤ k ∧ k ≤ 5) (h : wideE k c d = true) : timesE k (zeroA k) 0 c d = (zeroA k, 0) := by
  rcases five_kinds hk with rfl | rfl | rfl | rfl | rfl <;> simp [timesE, zeroA, mulI, big]
def numT (st : Nat → Int) (vars vals : List Int) : Nat → Int
  | 0 => 0
  | k + 1 => numT st vars vals k + vals.getD k 0 * st (vars.getD k 0).toNat
structure NumOk (st : Nat → Int) (vars vals : List Int) (n : Nat) : Prop where
  m : n ≤ 12
  lv : n = vars.length
  lx : n = vals.length
  v : ∀ k, k < n → 0 ≤ vars.getD k 0 ∧ vars.getD k 0 ≤ 63
  x : ∀ k, k < n → 0 ≤ vals.getD k 0 ∧ vals.getD k 0 ≤ 8
  s : ∀ i, 0 ≤ st i ∧ st i ≤ 4096
theorem NumOk.bd {st : Nat → Int} {vars vals : List Int} {n : Nat} (h : NumOk st vars vals n) : ∀ k, k ≤ n → 0 ≤ numT st vars vals k ∧ numT st vars vals k ≤ k * 32768
  | 0, _ => ⟨Int.le_refl _, by show (0 : Int) ≤ _; omega⟩
  | k + 1, hk => by
    have ih := h.bd k (by omega)
    have h1 := h.x k (by omega)
    have h2 := h.s (vars.getD k 0).toNat
    have h3 := Int.mul_nonneg h1.1 h2.1
    have h4 := Int.mul_le_mul h1.2 h2.2 h2.1 (by omega)
    unfold numT
    omega
theorem head64r {f : Nat → Int} {r : List V} {k : Nat} (h : k < 64) : headF ((a64 f ++ r).drop k) = some (i6 (f k)) := by
  have := @head64 f k h
  rw [dropF_eq] at this
  rw [List.drop_append_of_le_length (by rw [a64_len]; omega)]
  cases e : (a64 f).drop k with
  | nil => rw [e] at this; cases this
  | cons x l => rw [e] at this; exact this
theorem placeI {l : List V} {k : Nat} (h : k < 64) : placeV (ctxOf Pg) 83 (.imp l) (k : Int) = some (.imp (l.drop k)) := by
  have e : placeV (ctxOf Pg) 83 (.imp l) (k : Int) = (if 0 ≤ (k : Int) ∧ (k : Int) < ((64 : Nat) : Int) then addOff (.imp l) ((k : Int).toNat * 1) else none) := by kernel_rfl
  rw [e, if_pos (by omega)]
  simp [addOff]
abbrev nbS (a b d : V) (st : Nat → Int) (r : List V) (vars vals : List Int) (n k : Nat) : SL := { sl := [(0, .imp (a :: b :: d :: (a64 st ++ r))), (2, .im n (ints vals)), (7, i6 (numT st vars vals k)), (10, .im n (ints vars)), (11, i6 n), (12, i6 k)] }
theorem number_loop (a b d : V) (st : Nat → Int) (r : List V) (vars vals : List Int) (n : Nat) (h : NumOk st vars vals n) :
    Sat Pg none 0 (at' 43 [1, 1, 0, 1, 0]) (mkSt g0 32 (nbS a b d st r vars vals n 0)) (outsP g0 32 [(True, .exit 0, { sl := [(7, i6 (numT st vars vals n))] })]) := by
  refine loopC vE_ok mixed sp0_ok (b := at' 43 [1, 1, 0, 1, 0, 0]) (by kernel_rfl) (fun k => k ≤ n) (nbS a b d st r vars vals n) (fun k => n - k) (fun k hk => ?_) 0 (Nat.zero_le _)
  have hn := h.m
  by_cases hlt : k < n
  · have h1 := @head_intsD vars k (by have := h.lv; omega)
    have h2 := @head_intsD vals k (by have := h.lx; omega)
    have hx := h.x k hlt
    have hb := h.bd k hk
    have hb1 := h.bd (k + 1) hlt
    obtain ⟨v, hv⟩ : ∃ v : Nat, vars.getD k 0 = v := ⟨(vars.getD k 0).toNat, by have := h.v k hlt; omega⟩
    have hv2 := h.v k hlt
    have hs := h.s v
    have h3 := Int.mul_nonneg hx.1 hs.1
    have h4 := Int.mul_le_mul hx.2 hs.2 hs.1 (by omega)
    have e : numT st vars vals (k + 1) = numT st vars vals k + vals.getD k 0 * st v := by show _ + _ * st (vars.getD k 0).toNat = _; rw [hv]; rfl
    have hp := @placeI (a64 st ++ r) v (by omega)
    have hh := @head64r st r v (by omega)
    rw [← hv] at hp
    refine .inl ⟨k + 1, [], [yes 13, pl 15, ld 16 (i6 (vars.getD k 0)), pl 20, ld 21 (i6 (vals.getD k 0)), va 26 (.imp ((a64 st ++ r).drop v)), ld 27 (i6 (st v)), nu 28 (vals.getD k 0 * st v), nu 29 (numT st vars vals (k + 1)), nu 30 (k + 1 : Nat)], 1000, by omega, by omega, ?_⟩
    clear h
    refine Eq.mp (by kernel_rfl : (decide ((↑k : Int) < (↑n : Int)) = true ∧ ((0 : Int) ≤ (↑k : Int) ∧ (↑k : Int) < (↑n : Int)) ∧ headF (List.drop (k * 1) (ints vars)) = some (i6 (List.getD vars k (0 : Int))) ∧ ((0 : Int) ≤ (↑k : Int) ∧ (↑k : Int) < (↑n : Int)) ∧ headF (List.drop (k * 1) (ints vals)) = some (i6 (List.getD vals k (0 : Int))) ∧ placeV (ctxOf Try.prog) 83 (V.imp (i6 (st 0) :: i6 (st 1) :: i6 (st 2) :: i6 (st 3) :: i6 (st 4) :: i6 (st 5) :: i6 (st 6) :: i6 (st 7) :: i6 (st 8) :: i6 (st 9) :: i6 (st 10) :: i6 (st 11) :: i6 (st 12) :: i6 (st 13) :: i6 (st 14) :: i6 (st 15) :: i6 (st 16) :: i6 (st 17) :: i6 (st 18) :: i6 (st 19) :: i6 (st 20) :: i6 (st 21) :: i6 (st 22) :: i6 (st 23) :: i6 (st 24) :: i6 (st 25) :: i6 (st 26) :: i6 (st 27) :: i6 (st 28) :: i6 (st 29) :: i6 (st 30) :: i6 (st 31) :: i6 (st 32) :: i6 (st 33) :: i6 (st 34) :: i6 (st 35) :: i6 (st 36) :: i6 (st 37) :: i6 (st 38) :: i6 (st 39) :: i6 (st 40) :: i6 (st 41) :: i6 (st 42) :: i6 (st 43) :: i6 (st 44) :: i6 (st 45) :: i6 (st 46) :: i6 (st 47) :: i6 (st 48) :: i6 (st 49) :: i6 (st 50) :: i6 (st 51) :: i6 (st 52) :: i6 (st 53) :: i6 (st 54) :: i6 (st 55) :: i6 (st 56) :: i6 (st 57) :: i6 (st 58) :: i6 (st 59) :: i6 (st 60) :: i6 (st 61) :: i6 (st 62) :: i6 (st 63) :: List.append._f [] PUnit.unit r)) (List.getD vars k (0 : Int)) = some (V.imp (List.drop v (a64 st ++ r))) ∧ headF (List.drop v (a64 st ++ r)) = some (i6 (st v)) ∧ wr IntKind.i64 (List.getD vals k (0 : Int) * st v) = List.getD vals k (0 : Int) * st v ∧ wr IntKind.i64 (numT st vars vals k + List.getD vals k (0 : Int) * st v) = numT st vars vals (k + 1) ∧ wr IntKind.i64 ((↑k : Int) + (1 : Int)) = (↑(k + 1) : Int) ∧ (a :: b :: d :: (a64 st ++ r) = a :: b :: d :: (a64 st ++ r) ∧ (n = n ∧ ints vals = ints vals) ∧ numT st vars vals (k + 1) = numT st vars vals (k + 1) ∧ (n = n ∧ ints vars = ints vars) ∧ (↑n : Int) = (↑n : Int) ∧ (↑(k + 1) : Int) = (↑(k + 1) : Int) ∧ True) ∧ True) = _) ?_
    (repeat' (first | (with_reducible apply And.intro) | (refine fun (_ : True) => ?_))) <;> first | exact aq | skip
    all_goals first | exact hp | skip
  · have : k = n := by omega
    subst this
    refine .inr ⟨.exit 0, [], { sl := [(7, i6 (numT st vars vals k))] }, [no 13], 1000, .inl ⟨trivial, rfl, rfl⟩, ?_⟩
    refine Eq.mp (by kernel_rfl : (decide ((↑k : Int) < (↑k : Int)) = false ∧ (numT st vars vals k = numT st vars vals k ∧ True) ∧ True) = _) ?_
    (repeat' (first | (with_reducible apply And.intro) | (refine fun (_ : True) => ?_))) <;> first | exact aq | skip
theorem number_fn (a b d : V) (st : Nat → Int) (r : List V) (vars vals : List Int) (n : Nat) (h : NumOk st vars vals n) : FnOk Pg g0 43 [.imp (a :: b :: d :: (a64 st ++ r)), .im n (ints vars), .im n (ints vals)] (i6 (numT st vars vals n)) := by
  have l := number_loop a b d st r vars vals n h
  refine FnOk.of_vc vE_ok mixed sp0_ok (n := 1000) (r := []) (S := { sl := [(6, i6 (numT st vars vals n))] }) (hs := [(0, .loop [] (nbS a b d st r vars vals n 0) [(True, .exit 0, { sl := [(7, i6 (numT st vars vals n))] })])]) ?_
  refine Eq.mp (by kernel_rfl : (i6 (numT st vars vals n) = i6 (numT st vars vals n) ∧ ((a :: b :: d :: (a64 st ++ r) = a :: b :: d :: (a64 st ++ r) ∧ (n = n ∧ ints vals = ints vals) ∧ numT st vars vals 0 = (0 : Int) ∧ (n = n ∧ ints vars = ints vars) ∧ (↑n : Int) = (↑n : Int) ∧ (↑(0 : Nat) : Int) = (0 : Int) ∧ True) ∧ True) ∧ Sat Try.prog none 0 (at' 43 [1, 1, 0, 1, 0]) (mkSt g0 32 (nbS a b d st r vars vals n 0)) (outsP g0 32 [(True, Ex.exit 0, SL.mk [(7, i6 (numT st vars vals n))] [] [] [])]) ∧ (True → (numT st vars vals n = numT st vars vals n ∧ True) ∧ True) ∧ True) = _) ?_
  (repeat' (first | (with_reducible apply And.intro) | (refine fun (_ : True) => ?_))) <;> first | exact aq | skip
  all_goals first | rfl | skip
section
variable (VS CS : Nat → List Int) (A B : Nat → Nat → Int) (N : Nat → Nat)
def tbF (i : Nat) : List V := tbL (VS i) (CS i) (A i) (B i) (N i)
def tab (i : Nat) : List V := tabL (VS i) (CS i) (A i) (B i) (N i)
theorem tbF_len (i : Nat) : (tbF VS CS A B N i).length = 3 := rfl
theorem tab_len (i : Nat) : (tab VS CS A B N i).length = 67 := by
  show (_ :: _ :: _ :: a64 _).length = 67
  simp [a64_len]
theorem HfL_tbF (i : Nat) : HfL (tbF VS CS A B N i) := ⟨trivial, trivial, trivial, trivial⟩
theorem HfL_tab (i : Nat) : HfL (tab VS CS A B N i) := ⟨trivial, trivial, trivial, HfL_a64 _⟩
end
abbrev pdS (z o u : Int) (fv fp ft : Nat) (c : List V) (m : Nat) (vars vals : List Int) (n : Nat) (PA PB : Nat → Int) (k : Nat) : SL := { sl := [(1, .im m c), (2, .im n (ints vars)), (3, .im n (ints vals)), (4, .ptr 0 0), (8, .ptr 1 0), (9, .ptr 2 0), (13, .im m c), (14, i6 m), (15, i6 k)], os := [.row 79 none (opL z o u fv fp ft), .row 23 none [i6 0, i6 0], .row 23 none [i6 (PA k), i6 (PB k)]] }
structure ProdOk (kd : Int) (a b : Nat → Int) (PA PB : Nat → Int) (m : Nat) : Prop where
  k : 1 ≤ kd ∧ kd ≤ 5
  a0 : PA 0 = oneA kd
  b0 : PB 0 = oneB kd
  s : ∀ i, i < m → timesE kd (PA i) (PB i) (a i) (b i) = (PA (i + 1), PB (i + 1))
  w : ∀ i, i < m → wideE kd (a i) (b i) = true
theorem ProdOk.wide {kd : Int} {a b PA PB : Nat → Int} {m : Nat} (h : ProdOk kd a b PA PB m) : ∀ i, i ≤ m → wideE kd (PA i) (PB i) = true
  | 0, _ => by rw [h.a0, h.b0]; exact wide_one h.k
  | i + 1, hi => wide_times h.k (h.wide i (by omega)) (h.w i (by omega)) (h.s i (by omega))
theorem ProdOk.stop {kd : Int} {a b PA PB : Nat → Int} {m : Nat} (h : ProdOk kd a b PA PB m) {i : Nat} (h1 : PA i = zeroA kd) (h2 : PB i = 0) : ∀ j, i + j ≤ m → PA (i + j) = zeroA kd ∧ PB (i + j) = 0
  | 0, _ => ⟨h1, h2⟩
  | j + 1, hj => by
    have ih := h.stop h1 h2 j (by omega)
    have e := h.s (i + j) (by omega)
    rw [ih.1, ih.2, times_zl h.k (h.w _ (by omega))] at e
    exact ⟨(Prod.mk.inj e).1.symm, (Prod.mk.inj e).2.symm⟩
theorem product_loop (kd z o u : Int) (hz : z = zeroA kd) (fv fp ft : Nat) (ho : OpOk kd fv fp ft) (VS CS : Nat → List Int) (A B : Nat → Nat → Int) (N : Nat → Nat) (m : Nat) (hm : m ≤ 12) (vars vals : List Int) (n : Nat) (ix : Nat → Nat) (PA PB : Nat → Int)
    (hN : ∀ i, i < m → NumOk (stT (VS i) (CS i) (CS i).length (CS i).length) vars vals n) (hi : ∀ i, i < m → numT (stT (VS i) (CS i) (CS i).length (CS i).length) vars vals n = ix i ∧ ix i < N i) (hP : ProdOk kd (fun i => A i (ix i)) (fun i => B i (ix i)) PA PB m) :
    Sat Pg none 0 (at' 44 [1, 0, 1, 1, 0, 1, 0]) (mkSt g0 43 (pdS z o u fv fp ft (blF (tab VS CS A B N) m) m vars vals n PA PB 0)) (outsP g0 43 [(True, .exit 0, { sl := [(8, .ptr 0 0), (9, .ptr 1 0)], os := [.row 23 none [i6 0, i6 0], .row 23 none [i6 (PA m), i6 (PB m)]] })]) := by
  refine loopC vE_ok mixed sp0_ok (b := at' 44 [1, 0, 1, 1, 0, 1, 0, 0]) (by kernel_rfl) (fun k => k ≤ m) (pdS z o u fv fp ft (blF (tab VS CS A B N) m) m vars vals n PA PB) (fun k => m - k) (fun k hk => ?_) 0 (Nat.zero_le _)
  have hL := HfL_blF (HfL_tab VS CS A B N) m
  by_cases hlt : k < m
  · have hd := drop_blF (tab_len VS CS A B N) hlt
    have hnum := number_fn (sl (VS k)) (sl (CS k)) (.im (N k) (elF (A k) (B k) (N k))) (stT (VS k) (CS k) (CS k).length (CS k).length) (blF (fun i => tab VS CS A B N (k + 1 + i)) (m - (k + 1))) vars vals n (hN k hlt)
    rw [(hi k hlt).1, show (sl (VS k) :: sl (CS k) :: .im (N k) (elF (A k) (B k) (N k)) :: (a64 (stT (VS k) (CS k) (CS k).length (CS k).length) ++ blF (fun i => tab VS CS A B N (k + 1 + i)) (m - (k + 1)))) = (blF (tab VS CS A B N) m).drop (k * 67) from hd.symm] at hnum
    have hld : headF (((blF (tab VS CS A B N) m).drop (k * 67)).drop 2) = some (.im (N k) (elF (A k) (B k) (N k))) := by rw [hd]; rfl
    have hix := (hi k hlt).2
    have hel := @head_elF (A k) (B k) (N k) (ix k) hix
    have ht := ho.t (PA k) (PB k) (A k (ix k)) (B k (ix k)) _ _ (hP.wide k hk) (hP.w k hlt) (hP.s k hlt)
    have hstop := fun h1 h2 => hP.stop (i := k + 1) h1 h2 (m - (k + 1)) (by omega)
    rw [show k + 1 + (m - (k + 1)) = m by omega, ← hz] at hstop
    have hw := hP.wide (k + 1) hlt
    clear ho hP hN hi hd
    generalize blF (tab VS CS A B N) m = c at *
    generalize ix k = x at *
    generalize N k = nk at *
    generalize A k = Ak at *
    generalize B k = Bk at *
    by_cases hs : PA (k + 1) = z ∧ PB (k + 1) = 0
    · obtain ⟨e1, e2⟩ := hstop hs.1 hs.2
      rw [hs.1, hs.2] at ht
      rw [e1, e2]
      refine .inr ⟨.exit 0, [1, 2], { sl := [(8, .ptr 0 0), (9, .ptr 1 0)], os := [.row 23 none [i6 0, i6 0], .row 23 none [i6 z, i6 0]] }, [yes 16, pl 29, fn 32 (i6 (x : Int)), pl 23, ld 26 (.im nk (elF Ak Bk nk)), pl 33, ld 34 (el (Ak x) (Bk x)), fn 35 (el z 0), yes 40], 1000, .inl ⟨trivial, rfl, rfl⟩, ?_⟩
      clear hstop
      refine Eq.mp (by kernel_rfl : (decide ((↑k : Int) < (↑m : Int)) = true ∧ ((0 : Int) ≤ (↑k : Int) ∧ (↑k : Int) < (↑m : Int)) ∧ (TT 3) ∧ FnOk Try.prog g0 43 [V.imp (List.drop (k * 67) c), V.im n (ints vars), V.im n (ints vals)] (i6 (↑x : Int)) ∧ True ∧ ((0 : Int) ≤ (↑k : Int) ∧ (↑k : Int) < (↑m : Int)) ∧ headF (List.drop 2 (List.drop 0 (List.drop (k * 67) c))) = some (V.im nk (elF Ak Bk nk)) ∧ ((0 : Int) ≤ (↑x : Int) ∧ (↑x : Int) < (↑nk : Int)) ∧ takeE 2 (List.drop (x * 2) (elF Ak Bk nk)) = some [i6 (Ak x), i6 (Bk x)] ∧ ((True ∧ True ∧ True) ∧ (True ∧ True ∧ True) ∧ True) ∧ FnOk Try.prog g0 ft [V.agg [i6 (PA k), i6 (PB k)], V.agg [i6 (Ak x), i6 (Bk x)]] (el z (0 : Int)) ∧ ((V.fn 43 [] = V.fn ft [] → [V.imp (List.drop (k * 67) c), V.im n (ints vars), V.im n (ints vals)] = [V.agg [i6 (PA k), i6 (PB k)], V.agg [i6 (Ak x), i6 (Bk x)]] → ofOs T.e 0 [O.row 79 none (opL z o u fv fp ft), O.row 23 none [i6 0, i6 0], O.row 23 none [i6 (PA k), i6 (PB k)]] = ofOs T.e 0 [O.row 79 none (opL z o u fv fp ft), O.row 23 none [i6 0, i6 0], O.row 23 none [i6 (PA k), i6 (PB k)]] → 3 = 3 → CR.mk (i6 (↑x : Int)) (ofOs T.e 0 [O.row 79 none (opL z o u fv fp ft), O.row 23 none [i6 0, i6 0], O.row 23 none [i6 (PA k), i6 (PB k)]]) 3 [] = CR.mk (el z (0 : Int)) (ofOs T.e 0 [O.row 79 none (opL z o u fv fp ft), O.row 23 none [i6 0, i6 0], O.row 23 none [i6 (PA k), i6 (PB k)]]) 3 []) ∧ True) ∧ (z == z && ((0 : Int) == (0 : Int) && true)) = true ∧ (0 = 0 ∧ 0 = 0 ∧ True) ∧ ([i6 0, i6 0] = [i6 0, i6 0] ∧ True ∧ True ∧ True) ∧ ([i6 z, i6 0] = [i6 z, i6 0] ∧ True ∧ True ∧ True) ∧ True) = _) ?_
      (repeat' (first | (with_reducible apply And.intro) | (refine fun (_ : True) => ?_))) <;> first | exact aq | skip
      all_goals first | exact hld | simp | skip
    · refine .inl ⟨k + 1, [0, 1, 2], [yes 16, pl 29, fn 32 (i6 (x : Int)), pl 23, ld 26 (.im nk (elF Ak Bk nk)), pl 33, ld 34 (el (Ak x) (Bk x)), fn 35 (el (PA (k + 1)) (PB (k + 1))), no 40, nu 41 (k + 1 : Nat)], 1000, by omega, by omega, ?_⟩
      clear hstop
      refine Eq.mp (by kernel_rfl : (decide ((↑k : Int) < (↑m : Int)) = true ∧ ((0 : Int) ≤ (↑k : Int) ∧ (↑k : Int) < (↑m : Int)) ∧ (TT 3) ∧ FnOk Try.prog g0 43 [V.imp (List.drop (k * 67) c), V.im n (ints vars), V.im n (ints vals)] (i6 (↑x : Int)) ∧ True ∧ ((0 : Int) ≤ (↑k : Int) ∧ (↑k : Int) < (↑m : Int)) ∧ headF (List.drop 2 (List.drop 0 (List.drop (k * 67) c))) = some (V.im nk (elF Ak Bk nk)) ∧ ((0 : Int) ≤ (↑x : Int) ∧ (↑x : Int) < (↑nk : Int)) ∧ takeE 2 (List.drop (x * 2) (elF Ak Bk nk)) = some [i6 (Ak x), i6 (Bk x)] ∧ ((True ∧ True ∧ True) ∧ (True ∧ True ∧ True) ∧ True) ∧ FnOk Try.prog g0 ft [V.agg [i6 (PA k), i6 (PB k)], V.agg [i6 (Ak x), i6 (Bk x)]] (el (PA (k + 1)) (PB (k + 1))) ∧ ((V.fn 43 [] = V.fn ft [] → [V.imp (List.drop (k * 67) c), V.im n (ints vars), V.im n (ints vals)] = [V.agg [i6 (PA k), i6 (PB k)], V.agg [i6 (Ak x), i6 (Bk x)]] → ofOs T.e 0 [O.row 79 none (opL z o u fv fp ft), O.row 23 none [i6 0, i6 0], O.row 23 none [i6 (PA k), i6 (PB k)]] = ofOs T.e 0 [O.row 79 none (opL z o u fv fp ft), O.row 23 none [i6 0, i6 0], O.row 23 none [i6 (PA k), i6 (PB k)]] → 3 = 3 → CR.mk (i6 (↑x : Int)) (ofOs T.e 0 [O.row 79 none (opL z o u fv fp ft), O.row 23 none [i6 0, i6 0], O.row 23 none [i6 (PA k), i6 (PB k)]]) 3 [] = CR.mk (el (PA (k + 1)) (PB (k + 1))) (ofOs T.e 0 [O.row 79 none (opL z o u fv fp ft), O.row 23 none [i6 0, i6 0], O.row 23 none [i6 (PA k), i6 (PB k)]]) 3 []) ∧ True) ∧ (PA (k + 1) == z && (PB (k + 1) == (0 : Int) && true)) = false ∧ wr IntKind.i64 ((↑k : Int) + (1 : Int)) = (↑(k + 1) : Int) ∧ ((m = m ∧ c = c) ∧ (n = n ∧ ints vars = ints vars) ∧ (n = n ∧ ints vals = ints vals) ∧ 0 = 0 ∧ 0 = 0 ∧ 0 = 0 ∧ (m = m ∧ c = c) ∧ (↑m : Int) = (↑m : Int) ∧ (↑(k + 1) : Int) = (↑(k + 1) : Int) ∧ True) ∧ (opL z o u fv fp ft = opL z o u fv fp ft ∧ TT 7) ∧ ([i6 0, i6 0] = [i6 0, i6 0] ∧ True ∧ True ∧ True) ∧ ([i6 (PA (k + 1)), i6 (PB (k + 1))] = [i6 (PA (k + 1)), i6 (PB (k + 1))] ∧ True ∧ True ∧ True) ∧ True) = _) ?_
      (repeat' (first | (with_reducible apply And.intro) | (refine fun (_ : True) => ?_))) <;> first | exact aq | skip
      all_goals first | exact hld | simp | skip
  · have : k = m := by omega
    subst this
    clear hN hi ho hP
    refine .inr ⟨.exit 0, [1, 2], { sl := [(8, .ptr 0 0), (9, .ptr 1 0)], os := [.row 23 none [i6 0, i6 0], .row 23 none [i6 (PA k), i6 (PB k)]] }, [no 16], 1000, .inl ⟨trivial, rfl, rfl⟩, ?_⟩
    refine Eq.mp (by kernel_rfl : (decide ((↑k : Int) < (↑k : Int)) = false ∧ (0 = 0 ∧ 0 = 0 ∧ True) ∧ ([i6 0, i6 0] = [i6 0, i6 0] ∧ True ∧ True ∧ True) ∧ ([i6 (PA k), i6 (PB k)] = [i6 (PA k), i6 (PB k)] ∧ True ∧ True ∧ True) ∧ True) = _) ?_
    (repeat' (first | (with_reducible apply And.intro) | (refine fun (_ : True) => ?_))) <;> first | exact aq | skip
theorem prods_fn (kd z o u : Int) (hz : z = zeroA kd) (h0 : o = oneA kd) (hu : u = oneB kd) (fv fp ft : Nat) (ho : OpOk kd fv fp ft) (VS CS : Nat → List Int) (A B : Nat → Nat → Int) (N : Nat → Nat) (m : Nat) (hm : m ≤ 12) (vars vals : List Int) (n : Nat) (ix : Nat → Nat) (PA PB : Nat → Int)
    (hN : ∀ i, i < m → NumOk (stT (VS i) (CS i) (CS i).length (CS i).length) vars vals n) (hi : ∀ i, i < m → numT (stT (VS i) (CS i) (CS i).length (CS i).length) vars vals n = ix i ∧ ix i < N i) (hP : ProdOk kd (fun i => A i (ix i)) (fun i => B i (ix i)) PA PB m) :
    FnOk Pg g0 44 [.agg (opL z o u fv fp ft), .im m (blF (tab VS CS A B N) m), .im n (ints vars), .im n (ints vals)] (el (PA m) (PB m)) := by
  have l := product_loop kd z o u hz fv fp ft ho VS CS A B N m hm vars vals n ix PA PB hN hi hP
  have hL := HfL_blF (HfL_tab VS CS A B N) m
  have e1 := h0.trans hP.a0.symm
  have e2 := hu.trans hP.b0.symm
  subst e1 e2
  clear hi hN hP ho hz
  generalize blF (tab VS CS A B N) m = c at *
  refine FnOk.of_vc vE_ok mixed sp0_ok (n := 1000) (r := [0]) (S := { sl := [(8, .ptr 0 0)], os := [.row 23 none [i6 (PA m), i6 (PB m)]] }) (hs := [(0, .loop [0, 1, 2] (pdS z (PA 0) (PB 0) fv fp ft c m vars vals n PA PB 0) [(True, .exit 0, { sl := [(8, .ptr 0 0), (9, .ptr 1 0)], os := [.row 23 none [i6 0, i6 0], .row 23 none [i6 (PA m), i6 (PB m)]] })])]) ?_
  refine Eq.mp (by kernel_rfl : (V.agg [i6 (PA m), i6 (PB m)] = el (PA m) (PB m) ∧ (((m = m ∧ c = c) ∧ (n = n ∧ ints vars = ints vars) ∧ (n = n ∧ ints vals = ints vals) ∧ 0 = 0 ∧ 0 = 0 ∧ 0 = 0 ∧ (m = m ∧ c = c) ∧ (↑m : Int) = (↑m : Int) ∧ (↑(0 : Nat) : Int) = (0 : Int) ∧ True) ∧ (opL z (PA 0) (PB 0) fv fp ft = [i6 z, i6 0, i6 (PA 0), i6 (PB 0), V.fn fv [], V.fn fp [], V.fn ft []] ∧ TT 7) ∧ ([i6 0, i6 0] = [i6 0, i6 0] ∧ True ∧ True ∧ True) ∧ ([i6 (PA 0), i6 (PB 0)] = [i6 (PA 0), i6 (PB 0)] ∧ True ∧ True ∧ True) ∧ True) ∧ Sat Try.prog none 0 (at' 44 [1, 0, 1, 1, 0, 1, 0]) (mkSt g0 43 (pdS z (PA 0) (PB 0) fv fp ft c m vars vals n PA PB 0)) (outsP g0 43 [(True, Ex.exit 0, SL.mk [(8, V.ptr 0 0), (9, V.ptr 1 0)] [O.row 23 none [i6 0, i6 0], O.row 23 none [i6 (PA m), i6 (PB m)]] [] [])]) ∧ (True → (0 = 0 ∧ True) ∧ ([i6 (PA m), i6 (PB m)] = [i6 (PA m), i6 (PB m)] ∧ True ∧ True ∧ True) ∧ True) ∧ True) = _) ?_
  (repeat' (first | (with_reducible apply And.intro) | (refine fun (_ : True) => ?_))) <;> first | exact aq | skip
  all_goals first | rfl | skip
end Go.Proofs.Ytgdnmgcigkhojaa.Am

namespace Go.Proofs.Ytgdnmgcigkhojaa.Am
open Go.RowKit
set_option linter.unusedVariables false
set_option maxHeartbeats 1000000
set_option maxRecDepth 100000
def okD (f : Nat → Int) (vs cs : List Int) (j : Nat) : Bool := decide (f (vs.getD j 0).toNat = 0) || decide (f (vs.getD j 0).toNat = cs.getD j 0)
def cFG (f : Nat → Int) (vs cs : List Int) : Nat → (Nat → Int) × Bool
  | 0 => (f, true)
  | j + 1 => if ((cFG f vs cs j).2 && okD (cFG f vs cs j).1 vs cs j) = true then (up64 (cFG f vs cs j).1 (vs.getD j 0).toNat (cs.getD j 0), true) else ((cFG f vs cs j).1, false)
def cF (f : Nat → Int) (vs cs : List Int) (j : Nat) : Nat → Int := (cFG f vs cs j).1
def cG (f : Nat → Int) (vs cs : List Int) (j : Nat) : Bool := (cFG f vs cs j).2
theorem cG_succ (f : Nat → Int) (vs cs : List Int) (j : Nat) : cG f vs cs (j + 1) = (cG f vs cs j && okD (cF f vs cs j) vs cs j) := by
  unfold cG cF
  rw [cFG]
  split
  · rename_i h; exact h.symm
  · rename_i h; simpa using h
theorem cF_succ (f : Nat → Int) (vs cs : List Int) (j : Nat) : cF f vs cs (j + 1) = if cG f vs cs (j + 1) = true then up64 (cF f vs cs j) (vs.getD j 0).toNat (cs.getD j 0) else cF f vs cs j := by
  rw [cG_succ]
  unfold cG cF
  rw [cFG]
  split <;> rfl
theorem cG_stop {f : Nat → Int} {vs cs : List Int} {j : Nat} (h : cG f vs cs j = false) : ∀ n, cG f vs cs (j + n) = false ∧ cF f vs cs (j + n) = cF f vs cs j
  | 0 => ⟨h, rfl⟩
  | n + 1 => by
    have ih := cG_stop h n
    have e : cG f vs cs (j + n + 1) = false := by rw [cG_succ, ih.1, Bool.false_and]
    exact ⟨e, by show cF f vs cs (j + n + 1) = _; rw [cF_succ, e, if_neg (by decide), ih.2]⟩
def aFG (VS CS : Nat → List Int) : Nat → (Nat → Int) × Bool
  | 0 => (fun _ => 0, true)
  | k + 1 => if (aFG VS CS k).2 = true then (cF (aFG VS CS k).1 (VS k) (CS k) (CS k).length, cG (aFG VS CS k).1 (VS k) (CS k) (CS k).length) else aFG VS CS k
def aF (VS CS : Nat → List Int) (k : Nat) : Nat → Int := (aFG VS CS k).1
def aG (VS CS : Nat → List Int) (k : Nat) : Bool := (aFG VS CS k).2
theorem aG_succ {VS CS : Nat → List Int} {k : Nat} (h : aG VS CS k = true) : aG VS CS (k + 1) = cG (aF VS CS k) (VS k) (CS k) (CS k).length := by
  unfold aG aF at *
  rw [aFG, if_pos h]
theorem aF_succ {VS CS : Nat → List Int} {k : Nat} (h : aG VS CS k = true) : aF VS CS (k + 1) = cF (aF VS CS k) (VS k) (CS k) (CS k).length := by
  unfold aG aF at *
  rw [aFG, if_pos h]
theorem aG_stop {VS CS : Nat → List Int} {k : Nat} (h : aG VS CS k = false) : ∀ n, aG VS CS (k + n) = false ∧ aF VS CS (k + n) = aF VS CS k
  | 0 => ⟨h, rfl⟩
  | n + 1 => by
    have ih := aG_stop h n
    unfold aG aF at *
    show (aFG VS CS (k + n + 1)).2 = _ ∧ (aFG VS CS (k + n + 1)).1 = _
    rw [aFG, if_neg (by rw [ih.1]; decide)]
    exact ih
abbrev tvS (f : Nat → Int) (c : List V) (m k : Nat) (vs cs : List Int) (q : Nat) (W : V) (sT : Nat → Int) (j : Nat) : SL := { sl := [(2, .ptr 0 0), (5, .ptr 1 0), (8, .im m c), (9, i6 m), (10, i6 k), (16, .im q (ints vs)), (17, i6 q), (18, i6 j)], os := [.row 83 none (a64 (cF f vs cs j)), .row 85 none (.im q (ints vs) :: .im q (ints cs) :: W :: a64 sT)] }
abbrev tvX (f : Nat → Int) (c : List V) (m k : Nat) : SL := { sl := [(2, .ptr 0 0), (8, .im m c), (9, i6 m), (10, i6 k)], os := [.row 83 none (a64 f)] }
abbrev tvR (f : Nat → Int) : SL := { sl := [(2, .ptr 0 0), (3, .bool false)], os := [.row 83 none (a64 f)] }
theorem tog_loop1 (f : Nat → Int) (c : List V) (m k : Nat) (vs cs : List Int) (q : Nat) (h1 : q = vs.length) (h2 : q = cs.length) (hq : q ≤ 12) (hL : HfL c) (hv : ∀ j, j < q → 0 ≤ vs.getD j 0 ∧ vs.getD j 0 ≤ 63) (A B : Nat → Int) (n : Nat) (sT : Nat → Int) :
    Sat Pg none 0 (at' 39 [1, 0, 1, 0, 0, 1, 1, 0, 0, 1, 1, 0]) (mkSt g0 51 (tvS f c m k vs cs q (.im n (elF A B n)) sT 0)) (outsP g0 51 [(cG f vs cs q = true, .exit 2, tvX (cF f vs cs q) c m k), (cG f vs cs q = false, .ret, tvR (cF f vs cs q))]) := by
  refine loopC vE_ok mixed sp0_ok (b := at' 39 [1, 0, 1, 0, 0, 1, 1, 0, 0, 1, 1, 0, 0]) (by kernel_rfl) (fun j => j ≤ q ∧ cG f vs cs j = true) (tvS f c m k vs cs q (.im n (elF A B n)) sT) (fun j => q - j) (fun j hj => ?_) 0 ⟨Nat.zero_le _, rfl⟩
  obtain ⟨hj, hg⟩ := hj
  have hE := HfL_elF A B n
  have hS := HfL_a64 sT
  have hS2 := HfL_a64 (cF f vs cs j)
  by_cases hlt : j < q
  · have l1 := @head_intsD vs j (by omega)
    have l2 := @head_intsD cs j (by omega)
    obtain ⟨v, hvv⟩ : ∃ v : Nat, vs.getD j 0 = v := ⟨(vs.getD j 0).toNat, by have := hv j hlt; omega⟩
    have hb := hv j hlt
    have hp := @place83 0 v (by omega)
    have hh := @head64 (cF f vs cs j) v (by omega)
    have hl := @lay64 (cF f vs cs j) v (cs.getD j 0) (by omega)
    have e1 := cG_succ f vs cs j
    have e2 := cF_succ f vs cs j
    have hstop := fun h => cG_stop (f := f) (vs := vs) (cs := cs) (j := j + 1) h (q - (j + 1))
    rw [show j + 1 + (q - (j + 1)) = q by omega] at hstop
    have ev : (vs.getD j 0).toNat = v := by omega
    rw [hg, Bool.true_and] at e1
    unfold okD at e1
    rw [ev] at e1 e2
    rw [← hvv] at hp
    by_cases g1 : cF f vs cs j v = 0
    · have et : cG f vs cs (j + 1) = true := by rw [e1, decide_eq_true g1, Bool.true_or]
      rw [et, if_pos rfl] at e2
      rw [← e2] at hl
      refine .inl ⟨j + 1, [0, 1], [yes 19, pl 21, ld 22 (i6 (vs.getD j 0)), va 24 (.ptr 0 v), ld 25 (i6 (cF f vs cs j v)), no 26, pl 45, ld 46 (i6 (cs.getD j 0)), va 47 (.ptr 0 v), st (a64 (cF f vs cs (j + 1))), nu 48 (j + 1 : Nat)], 1000, ⟨by omega, et⟩, by omega, ?_⟩
      clear hstop e1 e2 et hv
      refine Eq.mp (by kernel_rfl : (decide ((↑j : Int) < (↑q : Int)) = true ∧ ((0 : Int) ≤ (↑j : Int) ∧ (↑j : Int) < (↑q : Int)) ∧ headF (List.drop (j * 1) (ints vs)) = some (i6 (List.getD vs j (0 : Int))) ∧ placeV (ctxOf Try.prog) 83 (V.ptr 0 0) (List.getD vs j (0 : Int)) = some (V.ptr 0 v) ∧ headF (dropF v (a64 (cF f vs cs j))) = some (i6 (cF f vs cs j v)) ∧ (cF f vs cs j v != (0 : Int)) = false ∧ ((0 : Int) ≤ (↑j : Int) ∧ (↑j : Int) < (↑q : Int)) ∧ headF (List.drop (j * 1) (ints cs)) = some (i6 (List.getD cs j (0 : Int))) ∧ placeV (ctxOf Try.prog) 83 (V.ptr 0 0) (List.getD vs j (0 : Int)) = some (V.ptr 0 v) ∧ layE v (a64 (cF f vs cs j)) [i6 (List.getD cs j (0 : Int))] = some (a64 (cF f vs cs (j + 1))) ∧ wr IntKind.i64 ((↑j : Int) + (1 : Int)) = (↑(j + 1) : Int) ∧ (0 = 0 ∧ 0 = 0 ∧ (m = m ∧ c = c) ∧ (↑m : Int) = (↑m : Int) ∧ (↑k : Int) = (↑k : Int) ∧ (q = q ∧ ints vs = ints vs) ∧ (↑q : Int) = (↑q : Int) ∧ (↑(j + 1) : Int) = (↑(j + 1) : Int) ∧ True) ∧ (a64 (cF f vs cs (j + 1)) = a64 (cF f vs cs (j + 1)) ∧ TT 64) ∧ (V.im q (ints vs) :: V.im q (ints cs) :: V.im n (elF A B n) :: a64 sT = V.im q (ints vs) :: V.im q (ints cs) :: V.im n (elF A B n) :: a64 sT ∧ TT 67) ∧ True) = _) ?_
      (repeat' (first | (with_reducible apply And.intro) | (refine fun (_ : True) => ?_))) <;> first | exact aq | skip
      all_goals first | exact hp | exact hl | rfl | exact HfL_a64 _ | skip
    · by_cases g2 : cF f vs cs j v = cs.getD j 0
      · have et : cG f vs cs (j + 1) = true := by rw [e1, decide_eq_true g2, Bool.or_true]
        rw [et, if_pos rfl] at e2
        rw [← e2] at hl
        refine .inl ⟨j + 1, [0, 1], [yes 19, pl 21, ld 22 (i6 (vs.getD j 0)), va 24 (.ptr 0 v), ld 25 (i6 (cF f vs cs j v)), yes 26, va 29 (.ptr 0 v), ld 30 (i6 (cF f vs cs j v)), pl 35, ld 36 (i6 (cs.getD j 0)), no 37, pl 45, ld 46 (i6 (cs.getD j 0)), va 47 (.ptr 0 v), st (a64 (cF f vs cs (j + 1))), nu 48 (j + 1 : Nat)], 1000, ⟨by omega, et⟩, by omega, ?_⟩
        clear hstop e1 e2 et hv
        refine Eq.mp (by kernel_rfl : (decide ((↑j : Int) < (↑q : Int)) = true ∧ ((0 : Int) ≤ (↑j : Int) ∧ (↑j : Int) < (↑q : Int)) ∧ headF (List.drop (j * 1) (ints vs)) = some (i6 (List.getD vs j (0 : Int))) ∧ placeV (ctxOf Try.prog) 83 (V.ptr 0 0) (List.getD vs j (0 : Int)) = some (V.ptr 0 v) ∧ headF (dropF v (a64 (cF f vs cs j))) = some (i6 (cF f vs cs j v)) ∧ (cF f vs cs j v != (0 : Int)) = true ∧ placeV (ctxOf Try.prog) 83 (V.ptr 0 0) (List.getD vs j (0 : Int)) = some (V.ptr 0 v) ∧ headF (dropF v (a64 (cF f vs cs j))) = some (i6 (cF f vs cs j v)) ∧ ((0 : Int) ≤ (↑j : Int) ∧ (↑j : Int) < (↑q : Int)) ∧ headF (List.drop (j * 1) (ints cs)) = some (i6 (List.getD cs j (0 : Int))) ∧ (cF f vs cs j v != List.getD cs j (0 : Int)) = false ∧ ((0 : Int) ≤ (↑j : Int) ∧ (↑j : Int) < (↑q : Int)) ∧ headF (List.drop (j * 1) (ints cs)) = some (i6 (List.getD cs j (0 : Int))) ∧ placeV (ctxOf Try.prog) 83 (V.ptr 0 0) (List.getD vs j (0 : Int)) = some (V.ptr 0 v) ∧ layE v (a64 (cF f vs cs j)) [i6 (List.getD cs j (0 : Int))] = some (a64 (cF f vs cs (j + 1))) ∧ wr IntKind.i64 ((↑j : Int) + (1 : Int)) = (↑(j + 1) : Int) ∧ (0 = 0 ∧ 0 = 0 ∧ (m = m ∧ c = c) ∧ (↑m : Int) = (↑m : Int) ∧ (↑k : Int) = (↑k : Int) ∧ (q = q ∧ ints vs = ints vs) ∧ (↑q : Int) = (↑q : Int) ∧ (↑(j + 1) : Int) = (↑(j + 1) : Int) ∧ True) ∧ (a64 (cF f vs cs (j + 1)) = a64 (cF f vs cs (j + 1)) ∧ TT 64) ∧ (V.im q (ints vs) :: V.im q (ints cs) :: V.im n (elF A B n) :: a64 sT = V.im q (ints vs) :: V.im q (ints cs) :: V.im n (elF A B n) :: a64 sT ∧ TT 67) ∧ True) = _) ?_
        (repeat' (first | (with_reducible apply And.intro) | (refine fun (_ : True) => ?_))) <;> first | exact aq | skip
        all_goals first | exact hp | exact hl | rfl | exact HfL_a64 _ | skip
      · have et : cG f vs cs (j + 1) = false := by rw [e1, decide_eq_false g1, decide_eq_false g2]; rfl
        rw [et, if_neg (by decide)] at e2
        obtain ⟨f1, f2⟩ := hstop et
        rw [e2] at f2
        rw [f2]
        refine .inr ⟨.ret, [0], tvR (cF f vs cs j), [yes 19, pl 21, ld 22 (i6 (vs.getD j 0)), va 24 (.ptr 0 v), ld 25 (i6 (cF f vs cs j v)), yes 26, va 29 (.ptr 0 v), ld 30 (i6 (cF f vs cs j v)), pl 35, ld 36 (i6 (cs.getD j 0)), yes 37], 1000, .inr (.inl ⟨f1, rfl, rfl⟩), ?_⟩
        clear hstop e1 e2 et hv f1 f2
        refine Eq.mp (by kernel_rfl : (decide ((↑j : Int) < (↑q : Int)) = true ∧ ((0 : Int) ≤ (↑j : Int) ∧ (↑j : Int) < (↑q : Int)) ∧ headF (List.drop (j * 1) (ints vs)) = some (i6 (List.getD vs j (0 : Int))) ∧ placeV (ctxOf Try.prog) 83 (V.ptr 0 0) (List.getD vs j (0 : Int)) = some (V.ptr 0 v) ∧ headF (dropF v (a64 (cF f vs cs j))) = some (i6 (cF f vs cs j v)) ∧ (cF f vs cs j v != (0 : Int)) = true ∧ placeV (ctxOf Try.prog) 83 (V.ptr 0 0) (List.getD vs j (0 : Int)) = some (V.ptr 0 v) ∧ headF (dropF v (a64 (cF f vs cs j))) = some (i6 (cF f vs cs j v)) ∧ ((0 : Int) ≤ (↑j : Int) ∧ (↑j : Int) < (↑q : Int)) ∧ headF (List.drop (j * 1) (ints cs)) = some (i6 (List.getD cs j (0 : Int))) ∧ (cF f vs cs j v != List.getD cs j (0 : Int)) = true ∧ (0 = 0 ∧ false = false ∧ True) ∧ (a64 (cF f vs cs j) = (a64 (cF f vs cs j)) ∧ TT 64) ∧ True) = _) ?_
        (repeat' (first | (with_reducible apply And.intro) | (refine fun (_ : True) => ?_))) <;> first | exact aq | skip
        all_goals first | exact hp | exact hl | rfl | exact HfL_a64 _ | skip
  · have : j = q := by omega
    subst this
    refine .inr ⟨.exit 2, [0], tvX (cF f vs cs j) c m k, [no 19], 1000, .inl ⟨hg, rfl, rfl⟩, ?_⟩
    clear hv
    refine Eq.mp (by kernel_rfl : (decide ((↑j : Int) < (↑j : Int)) = false ∧ (0 = 0 ∧ (m = m ∧ c = c) ∧ (↑m : Int) = (↑m : Int) ∧ (↑k : Int) = (↑k : Int) ∧ True) ∧ (a64 (cF f vs cs j) = a64 (cF f vs cs j) ∧ TT 64) ∧ True) = _) ?_
    (repeat' (first | (with_reducible apply And.intro) | (refine fun (_ : True) => ?_))) <;> first | exact aq | skip
    all_goals first | rfl | exact HfL_a64 _ | skip
structure TabOk (vs cs : List Int) : Prop where
  len : vs.length = cs.length
  m : cs.length ≤ 12
  v : ∀ j, j < cs.length → 0 ≤ vs.getD j 0 ∧ vs.getD j 0 ≤ 63
abbrev toS (VS CS : Nat → List Int) (c : List V) (m k : Nat) : SL := { sl := [(2, .ptr 0 0), (8, .im m c), (9, i6 m), (10, i6 k)], os := [.row 83 none (a64 (aF VS CS k))] }
theorem tog_loop (VS CS : Nat → List Int) (A B : Nat → Nat → Int) (N : Nat → Nat) (m : Nat) (hm : m ≤ 12) (hT : ∀ i, i < m → TabOk (VS i) (CS i)) :
    Sat Pg none 0 (at' 39 [1, 0, 1, 0]) (mkSt g0 51 (toS VS CS (blF (tab VS CS A B N) m) m 0)) (outsP g0 51 [(aG VS CS m = true, .exit 0, { sl := [(2, .ptr 0 0)], os := [.row 83 none (a64 (aF VS CS m))] }), (aG VS CS m = false, .ret, tvR (aF VS CS m))]) := by
  refine loopC vE_ok mixed sp0_ok (b := at' 39 [1, 0, 1, 0, 0]) (by kernel_rfl) (fun k => k ≤ m ∧ aG VS CS k = true) (toS VS CS (blF (tab VS CS A B N) m) m) (fun k => m - k) (fun k hk => ?_) 0 ⟨Nat.zero_le _, rfl⟩
  obtain ⟨hk, hg⟩ := hk
  have hL := HfL_blF (HfL_tab VS CS A B N) m
  by_cases hlt : k < m
  · have ht := take_blF (tab_len VS CS A B N) hlt
    have hO := hT k hlt
    have e1 := aG_succ hg
    have e2 := aF_succ hg
    have hstop := fun h => aG_stop (VS := VS) (CS := CS) (k := k + 1) h (m - (k + 1))
    rw [show k + 1 + (m - (k + 1)) = m by omega] at hstop
 
    rw [show tab VS CS A B N k = .im (VS k).length (ints (VS k)) :: .im (CS k).length (ints (CS k)) :: .im (N k) (elF (A k) (B k) (N k)) :: a64 (stT (VS k) (CS k) (CS k).length (CS k).length) from rfl] at ht
    rw [hO.len] at ht
    have h1 := hO.len
    have h2 := hO.m
    have h3 := hO.v
    have hF := HfL_a64 (aF VS CS (k + 1))
    clear hO hT
    generalize blF (tab VS CS A B N) m = c at *
    generalize stT (VS k) (CS k) (CS k).length (CS k).length = sT at *
    generalize VS k = vs at *
    generalize CS k = cs at *
    generalize N k = nk at *
    generalize A k = Ak at *
    generalize B k = Bk at *
    generalize hq : cs.length = q at *
    have l := tog_loop1 (aF VS CS k) c m k vs cs q h1.symm hq.symm h2 hL h3 Ak Bk nk sT
    rw [← e1, ← e2] at l
    have hE := HfL_elF Ak Bk nk
    cases hb : aG VS CS (k + 1) with
    | true =>
      rw [hb] at e1
      refine .inl ⟨k + 1, [0], [yes 11, pl 12, ld 13 (.agg (.im q (ints vs) :: .im q (ints cs) :: .im nk (elF Ak Bk nk) :: a64 sT)), (0, .loop [0, 1] (tvS (aF VS CS k) c m k vs cs q (.im nk (elF Ak Bk nk)) sT 0) [(aG VS CS (k + 1) = true, .exit 2, tvX (aF VS CS (k + 1)) c m k), (aG VS CS (k + 1) = false, .ret, tvR (aF VS CS (k + 1)))]), nu 49 (k + 1 : Nat)], 1000, ⟨by omega, hb⟩, by omega, ?_⟩
      clear hstop e1 e2 h3
      refine Eq.mp (by kernel_rfl : (decide ((↑k : Int) < (↑m : Int)) = true ∧ ((0 : Int) ≤ (↑k : Int) ∧ (↑k : Int) < (↑m : Int)) ∧ takeE 67 (List.drop (k * 67) c) = some (V.im q (ints vs) :: V.im q (ints cs) :: V.im nk (elF Ak Bk nk) :: a64 sT) ∧ ((0 = 0 ∧ 0 = 0 ∧ (m = m ∧ c = c) ∧ (↑m : Int) = (↑m : Int) ∧ (↑k : Int) = (↑k : Int) ∧ (q = q ∧ ints vs = ints vs) ∧ (↑q : Int) = (↑q : Int) ∧ (↑(0 : Nat) : Int) = (0 : Int) ∧ True) ∧ (a64 (cF (aF VS CS k) vs cs 0) = a64 (aF VS CS k) ∧ TT 64) ∧ (V.im q (ints vs) :: V.im q (ints cs) :: V.im nk (elF Ak Bk nk) :: a64 sT = (V.im q (ints vs) :: V.im q (ints cs) :: V.im nk (elF Ak Bk nk) :: a64 (sT)) ∧ TT 67) ∧ True) ∧ Sat Try.prog none 0 (at' 39 [1, 0, 1, 0, 0, 1, 1, 0, 0, 1, 1, 0]) (mkSt g0 51 (tvS (aF VS CS k) c m k vs cs q (V.im nk (elF Ak Bk nk)) sT 0)) (outsP g0 51 [(aG VS CS (k + 1) = true, Ex.exit 2, tvX (aF VS CS (k + 1)) c m k), (aG VS CS (k + 1) = false, Ex.ret, tvR (aF VS CS (k + 1)))]) ∧ (aG VS CS (k + 1) = true → wr IntKind.i64 ((↑k : Int) + (1 : Int)) = (↑(k + 1) : Int) ∧ (0 = 0 ∧ (m = m ∧ c = c) ∧ (↑m : Int) = (↑m : Int) ∧ (↑(k + 1) : Int) = (↑(k + 1) : Int) ∧ True) ∧ (a64 (aF VS CS (k + 1)) = a64 (aF VS CS (k + 1)) ∧ TT 64) ∧ True) ∧ (aG VS CS (k + 1) = false → False) ∧ True) = _) ?_
      (repeat' (first | (with_reducible apply And.intro) | (refine fun (_ : True) => ?_))) <;> first | exact aq | skip
      all_goals first | exact ht | rfl | exact HfL_a64 _ | (intro h9; rw [hb] at h9; exact absurd h9 (by decide)) | (intro h9; (repeat' (first | (with_reducible apply And.intro) | (refine fun (_ : True) => ?_))); all_goals first | exact aq | rfl | exact HfL_a64 _ | skip) | skip
    | false =>
      rw [hb] at e1
      obtain ⟨f1, f2⟩ := hstop hb
      rw [f2]
      refine .inr ⟨.ret, [0], tvR (aF VS CS (k + 1)), [yes 11, pl 12, ld 13 (.agg (.im q (ints vs) :: .im q (ints cs) :: .im nk (elF Ak Bk nk) :: a64 sT)), (0, .loop [0, 1] (tvS (aF VS CS k) c m k vs cs q (.im nk (elF Ak Bk nk)) sT 0) [(aG VS CS (k + 1) = true, .exit 2, tvX (aF VS CS (k + 1)) c m k), (aG VS CS (k + 1) = false, .ret, tvR (aF VS CS (k + 1)))])], 1000, .inr (.inl ⟨f1, rfl, rfl⟩), ?_⟩
      clear hstop e1 e2 h3 f1 f2
      refine Eq.mp (by kernel_rfl : (decide ((↑k : Int) < (↑m : Int)) = true ∧ ((0 : Int) ≤ (↑k : Int) ∧ (↑k : Int) < (↑m : Int)) ∧ takeE 67 (List.drop (k * 67) c) = some (V.im q (ints vs) :: V.im q (ints cs) :: V.im nk (elF Ak Bk nk) :: a64 sT) ∧ ((0 = 0 ∧ 0 = 0 ∧ (m = m ∧ c = c) ∧ (↑m : Int) = (↑m : Int) ∧ (↑k : Int) = (↑k : Int) ∧ (q = q ∧ ints vs = ints vs) ∧ (↑q : Int) = (↑q : Int) ∧ (↑(0 : Nat) : Int) = (0 : Int) ∧ True) ∧ (a64 (cF (aF VS CS k) vs cs 0) = a64 (aF VS CS k) ∧ TT 64) ∧ (V.im q (ints vs) :: V.im q (ints cs) :: V.im nk (elF Ak Bk nk) :: a64 sT = (V.im q (ints vs) :: V.im q (ints cs) :: V.im nk (elF Ak Bk nk) :: a64 (sT)) ∧ TT 67) ∧ True) ∧ Sat Try.prog none 0 (at' 39 [1, 0, 1, 0, 0, 1, 1, 0, 0, 1, 1, 0]) (mkSt g0 51 (tvS (aF VS CS k) c m k vs cs q (V.im nk (elF Ak Bk nk)) sT 0)) (outsP g0 51 [(aG VS CS (k + 1) = true, Ex.exit 2, tvX (aF VS CS (k + 1)) c m k), (aG VS CS (k + 1) = false, Ex.ret, tvR (aF VS CS (k + 1)))]) ∧ (aG VS CS (k + 1) = true → False) ∧ (aG VS CS (k + 1) = false → (0 = 0 ∧ false = false ∧ True) ∧ (a64 (aF VS CS (k + 1)) = a64 (aF VS CS (k + 1)) ∧ TT 64) ∧ True) ∧ True) = _) ?_
      (repeat' (first | (with_reducible apply And.intro) | (refine fun (_ : True) => ?_))) <;> first | exact aq | skip
      all_goals first | exact ht | rfl | exact HfL_a64 _ | (intro h9; rw [hb] at h9; exact absurd h9 (by decide)) | (intro h9; (repeat' (first | (with_reducible apply And.intro) | (refine fun (_ : True) => ?_))); all_goals first | exact aq | rfl | exact HfL_a64 _ | skip) | skip
  · have : k = m := by omega
    subst this
    refine .inr ⟨.exit 0, [0], { sl := [(2, .ptr 0 0)], os := [.row 83 none (a64 (aF VS CS k))] }, [no 11], 1000, .inl ⟨hg, rfl, rfl⟩, ?_⟩
    refine Eq.mp (by kernel_rfl : (decide ((↑k : Int) < (↑k : Int)) = false ∧ (0 = 0 ∧ True) ∧ (a64 (aF VS CS k) = a64 (aF VS CS k) ∧ TT 64) ∧ True) = _) ?_
    (repeat' (first | (with_reducible apply And.intro) | (refine fun (_ : True) => ?_))) <;> first | exact aq | skip
    all_goals first | rfl | exact HfL_a64 _ | skip
theorem together_fn (VS CS : Nat → List Int) (A B : Nat → Nat → Int) (N : Nat → Nat) (m : Nat) (hm : m ≤ 12) (hT : ∀ i, i < m → TabOk (VS i) (CS i)) :
    FnOk Pg g0 39 [.im m (blF (tab VS CS A B N) m)] (.tup [.agg (a64 (aF VS CS m)), .bool (aG VS CS m)]) := by
  have l := tog_loop VS CS A B N m hm hT
  have hL := HfL_blF (HfL_tab VS CS A B N) m
  clear hT
  generalize blF (tab VS CS A B N) m = c at *
  have hF := HfL_a64 (aF VS CS m)
  refine FnOk.of_vc vE_ok mixed sp0_ok (n := 1000) (r := [0]) (S := { sl := [(2, .ptr 0 0), (3, .bool (aG VS CS m))], os := [.row 83 none (a64 (aF VS CS m))] }) (hs := [(0, .loop [0] (toS VS CS c m 0) [(aG VS CS m = true, .exit 0, { sl := [(2, .ptr 0 0)], os := [.row 83 none (a64 (aF VS CS m))] }), (aG VS CS m = false, .ret, tvR (aF VS CS m))])]) ?_
  refine Eq.mp (by kernel_rfl : (V.tup [V.agg (a64 (aF VS CS m)), V.bool (aG VS CS m)] = V.tup [V.agg (a64 (aF VS CS m)), V.bool (aG VS CS m)] ∧ ((0 = 0 ∧ (m = m ∧ c = c) ∧ (↑m : Int) = (↑m : Int) ∧ (↑(0 : Nat) : Int) = (0 : Int) ∧ True) ∧ (a64 (aF VS CS 0) = [i6 0, i6 0, i6 0, i6 0, i6 0, i6 0, i6 0, i6 0, i6 0, i6 0, i6 0, i6 0, i6 0, i6 0, i6 0, i6 0, i6 0, i6 0, i6 0, i6 0, i6 0, i6 0, i6 0, i6 0, i6 0, i6 0, i6 0, i6 0, i6 0, i6 0, i6 0, i6 0, i6 0, i6 0, i6 0, i6 0, i6 0, i6 0, i6 0, i6 0, i6 0, i6 0, i6 0, i6 0, i6 0, i6 0, i6 0, i6 0, i6 0, i6 0, i6 0, i6 0, i6 0, i6 0, i6 0, i6 0, i6 0, i6 0, i6 0, i6 0, i6 0, i6 0, i6 0, i6 0] ∧ TT 64) ∧ True) ∧ Sat Try.prog none 0 (at' 39 [1, 0, 1, 0]) (mkSt g0 51 (toS VS CS c m 0)) (outsP g0 51 [(aG VS CS m = true, Ex.exit 0, SL.mk [(2, V.ptr 0 0)] [O.row 83 none (a64 (aF VS CS m))] [] []), (aG VS CS m = false, Ex.ret, tvR (aF VS CS m))]) ∧ (aG VS CS m = true → (0 = 0 ∧ aG VS CS m = true ∧ True) ∧ (a64 (aF VS CS m) = (a64 (aF VS CS m)) ∧ TT 64) ∧ True) ∧ (aG VS CS m = false → (0 = 0 ∧ aG VS CS m = false ∧ True) ∧ (a64 (aF VS CS m) = a64 (aF VS CS m) ∧ TT 64) ∧ True) ∧ True) = _) ?_
  (repeat' (first | (with_reducible apply And.intro) | (refine fun (_ : True) => ?_))) <;> first | exact aq | skip
  all_goals first | rfl | (intro h9; rw [h9]; (repeat' (first | (with_reducible apply And.intro) | (refine fun (_ : True) => ?_))); all_goals first | exact aq | rfl | exact HfL_a64 _ | skip) | skip
end Go.Proofs.Ytgdnmgcigkhojaa.Am

namespace Go.Proofs.Ytgdnmgcigkhojaa.Am
open Go.RowKit
set_option linter.unusedVariables false
set_option maxHeartbeats 1000000
set_option maxRecDepth 100000
theorem lay_blF0 {f : Nat → List V} {s : Nat} (hs : ∀ k, (f k).length = s) {k n : Nat} (h : k < n) {x : List V} (hx : x.length = s) : layE (0 + k * s) (blF f n) x = some (blF (upB f k x) n) := by rw [Nat.zero_add]; exact lay_blF hs h hx
section
variable (kd : Int) (VS CS : Nat → List Int) (A B : Nat → Nat → Int) (N : Nat → Nat)
def goodA : Nat → Bool
  | 0 => true
  | k + 1 => goodA k && goodB kd (VS k) (CS k) (A k) (B k) (N k)
theorem goodA_stop {k : Nat} (h : goodA kd VS CS A B N k = false) : ∀ n, goodA kd VS CS A B N (k + n) = false
  | 0 => h
  | n + 1 => by show (goodA kd VS CS A B N (k + n) && _) = false; rw [goodA_stop h n, Bool.false_and]
theorem goodA_at {m : Nat} (h : goodA kd VS CS A B N m = true) : ∀ k, k < m → goodB kd (VS k) (CS k) (A k) (B k) (N k) = true := by
  induction m with
  | zero => intro k hk; omega
  | succ m ih =>
    intro k hk
    unfold goodA at h
    rw [Bool.and_eq_true] at h
    by_cases e : k = m
    · rw [e]; exact h.2
    · exact ih h.1 k (by omega)
def rdF (k i : Nat) : List V := if i < k then tab VS CS A B N i else zT
theorem zT_len : zT.length = 67 := by
  show (_ :: _ :: _ :: a64 _).length = 67
  simp [a64_len]
theorem rdF_len (k i : Nat) : (rdF VS CS A B N k i).length = 67 := by
  unfold rdF; split
  · exact tab_len VS CS A B N i
  · exact zT_len
theorem HfL_rdF (k i : Nat) : HfL (rdF VS CS A B N k i) := by
  unfold rdF; split
  · exact HfL_tab VS CS A B N i
  · exact ⟨trivial, trivial, trivial, HfL_a64 _⟩
theorem rdF_zero : rdF VS CS A B N 0 = fun _ => zT := by funext i; unfold rdF; rw [if_neg (by omega)]
theorem rdF_up (k : Nat) : upB (rdF VS CS A B N k) k (tab VS CS A B N k) = rdF VS CS A B N (k + 1) := by
  funext i
  unfold upB rdF
  by_cases h : i = k
  · subst h; rw [if_pos rfl, if_pos (by omega)]
  · rw [if_neg h]
    by_cases h2 : i < k
    · rw [if_pos h2, if_pos (by omega)]
    · rw [if_neg h2, if_neg (by omega)]
theorem rdF_done (m : Nat) : blF (rdF VS CS A B N m) m = blF (tab VS CS A B N) m := blF_congr fun i hi => by unfold rdF; rw [if_pos hi]
end
abbrev r3 : O := .row 32 none [.nils, .nils, .nils]
abbrev c0S (keep : List Int) (n0 : Nat) (z o u : Int) (fv fp ft : Nat) (cT : List V) (c : Nat → List V) (m k : Nat) : SL := { sl := [(2, .im n0 (ints keep)), (6, .ptr 0 0), (8, .ptr 1 0), (10, .ptr 3 0), (47, .im m cT), (48, i6 m), (49, i6 k)], os := [r3, .row 79 none (opL z o u fv fp ft), .row 85 none (c k), .row 82 none [.sl 2 0 m (some (m - m))]], md := [0, 0, 0, 1] }
abbrev c0X (keep : List Int) (n0 : Nat) (z o u : Int) (fv fp ft : Nat) (c : List V) (m : Nat) : SL := { sl := [(2, .im n0 (ints keep)), (6, .ptr 0 0), (8, .ptr 1 0), (10, .ptr 2 0)], os := [r3, .row 79 none (opL z o u fv fp ft), .row 82 none [.im m c]], md := [0, 0, 1] }
abbrev cBad (e : Int) : SL := { sl := [(6, .ptr 0 0), (7, i6 e)], os := [r3] }
theorem com_read (kd : Int) (keep : List Int) (n0 : Nat) (z o u : Int) (fv fp ft : Nat) (ho : ∀ a b, FnOk Pg g0 fv [el a b] (.bool (okE kd a b))) (VS CS : Nat → List Int) (A B : Nat → Nat → Int) (N : Nat → Nat) (m : Nat) (hm : m ≤ 12) (hN : ∀ i, i < m → N i ≤ 1000000) :
    Sat Pg none 0 (at' 15 [1, 1, 1, 1, 1, 0, 1, 0]) (mkSt g0 209 (c0S keep n0 z o u fv fp ft (blF (tbF VS CS A B N) m) (fun k => blF (rdF VS CS A B N k) m) m 0)) (outsP g0 209 [(goodA kd VS CS A B N m = true, .exit 0, c0X keep n0 z o u fv fp ft (blF (tab VS CS A B N) m) m), (goodA kd VS CS A B N m = false, .ret, cBad 41)]) := by
  refine loopC vE_ok mixed sp0_ok (b := at' 15 [1, 1, 1, 1, 1, 0, 1, 0, 0]) (by kernel_rfl) (fun k => k ≤ m ∧ goodA kd VS CS A B N k = true) (c0S keep n0 z o u fv fp ft (blF (tbF VS CS A B N) m) (fun k => blF (rdF VS CS A B N k) m) m) (fun k => m - k) (fun k hk => ?_) 0 ⟨Nat.zero_le _, rfl⟩
  obtain ⟨hk, hg⟩ := hk
  have hL := HfL_blF (HfL_tbF VS CS A B N) m
  have hR := HfL_blF (HfL_rdF VS CS A B N k) m
  have hR1 := HfL_blF (HfL_rdF VS CS A B N (k + 1)) m
  by_cases hlt : k < m
  · have ht := take_blF (tbF_len VS CS A B N) hlt
    have e1 : goodA kd VS CS A B N (k + 1) = goodB kd (VS k) (CS k) (A k) (B k) (N k) := by show (_ && _) = _; rw [hg, Bool.true_and]
    have hstop := fun h => goodA_stop kd VS CS A B N (k := k + 1) h (m - (k + 1))
    rw [show k + 1 + (m - (k + 1)) = m by omega] at hstop
    rw [show tbF VS CS A B N k = [.im (VS k).length (ints (VS k)), .im (CS k).length (ints (CS k)), .im (N k) (elF (A k) (B k) (N k))] from rfl] at ht
    have hNk := hN k hlt
    cases hb : goodB kd (VS k) (CS k) (A k) (B k) (N k) with
    | true =>
      have hrd := read_in kd z o u fv fp ft ho (VS k) (CS k) (A k) (B k) (N k) hNk hb
      have hl := lay_blF0 (rdF_len VS CS A B N k) hlt (x := tab VS CS A B N k) (tab_len VS CS A B N k)
      rw [rdF_up] at hl
      rw [show tab VS CS A B N k = tabL (VS k) (CS k) (A k) (B k) (N k) from rfl] at hl
      have hE := HfL_elF (A k) (B k) (N k)
      rw [hb] at e1
      refine .inl ⟨k + 1, [0, 1, 2, 3], [yes 50, pl 52, ld 53 (.agg [.im (VS k).length (ints (VS k)), .im (CS k).length (ints (CS k)), .im (N k) (elF (A k) (B k) (N k))]), fn 59 (.tup [.agg (tabL (VS k) (CS k) (A k) (B k) (N k)), i6 0]), pl 62, st (blF (rdF VS CS A B N (k + 1)) m), nu 67 (k + 1 : Nat)], 1000, ⟨by omega, e1⟩, by omega, ?_⟩
      clear hstop ho hN
      refine Eq.mp (by kernel_rfl : (decide ((↑k : Int) < (↑m : Int)) = true ∧ ((0 : Int) ≤ (↑k : Int) ∧ (↑k : Int) < (↑m : Int)) ∧ takeE 3 (List.drop (k * 3) (blF (tbF VS CS A B N) m)) = some [V.im (List.length (VS k)) (ints (VS k)), V.im (List.length (CS k)) (ints (CS k)), V.im (N k) (elF (A k) (B k) (N k))] ∧ ((TT 7) ∧ (TT 3) ∧ True) ∧ FnOk Try.prog g0 38 [V.agg [i6 z, i6 0, i6 o, i6 u, V.fn fv [], V.fn fp [], V.fn ft []], V.agg [V.im (List.length (VS k)) (ints (VS k)), V.im (List.length (CS k)) (ints (CS k)), V.im (N k) (elF (A k) (B k) (N k))]] (V.tup [V.agg (tabL (VS k) (CS k) (A k) (B k) (N k)), i6 0]) ∧ True ∧ ((0 : Int) ≤ (↑k : Int) ∧ (↑k : Int) < (↑m : Int)) ∧ layE (0 + k * 67) (blF (rdF VS CS A B N k) m) (sl (VS k) :: sl (CS k) :: V.im (N k) (elF (A k) (B k) (N k)) :: a64 (stT (VS k) (CS k) (List.length (CS k)) (List.length (CS k)))) = some (blF (rdF VS CS A B N (k + 1)) m) ∧ wr IntKind.i64 ((↑k : Int) + (1 : Int)) = (↑(k + 1) : Int) ∧ ((n0 = n0 ∧ ints keep = ints keep) ∧ 0 = 0 ∧ 0 = 0 ∧ 0 = 0 ∧ (m = m ∧ blF (tbF VS CS A B N) m = blF (tbF VS CS A B N) m) ∧ (↑m : Int) = (↑m : Int) ∧ (↑(k + 1) : Int) = (↑(k + 1) : Int) ∧ True) ∧ ([V.nils, V.nils, V.nils] = [V.nils, V.nils, V.nils] ∧ TT 3) ∧ (opL z o u fv fp ft = opL z o u fv fp ft ∧ TT 7) ∧ (blF (rdF VS CS A B N (k + 1)) m = blF (rdF VS CS A B N (k + 1)) m ∧ HfL (blF (rdF VS CS A B N (k + 1)) m)) ∧ ((0 = 0 ∧ m = m ∧ m - m = m - m) ∧ True) ∧ True) = _) ?_
      (repeat' (first | (with_reducible apply And.intro) | (refine fun (_ : True) => ?_))) <;> first | exact aq | skip
      all_goals first | exact ht | exact hrd | exact hl | rfl | skip
    | false =>
      have hrd := read_out kd z o u fv fp ft ho (VS k) (CS k) (A k) (B k) (N k) hNk hb
      have hl := lay_blF0 (rdF_len VS CS A B N k) hlt (x := zT) zT_len
      have hE := HfL_elF (A k) (B k) (N k)
      rw [hb] at e1
      have hf := hstop e1
      refine .inr ⟨.ret, [0], cBad 41, [yes 50, pl 52, ld 53 (.agg [.im (VS k).length (ints (VS k)), .im (CS k).length (ints (CS k)), .im (N k) (elF (A k) (B k) (N k))]), fn 59 (.tup [.agg zT, i6 41]), pl 62, st (blF (upB (rdF VS CS A B N k) k zT) m)], 1000, .inr (.inl ⟨hf, rfl, rfl⟩), ?_⟩
      clear hstop ho hN
      refine Eq.mp (by kernel_rfl : (decide ((↑k : Int) < (↑m : Int)) = true ∧ ((0 : Int) ≤ (↑k : Int) ∧ (↑k : Int) < (↑m : Int)) ∧ takeE 3 (List.drop (k * 3) (blF (tbF VS CS A B N) m)) = some [V.im (List.length (VS k)) (ints (VS k)), V.im (List.length (CS k)) (ints (CS k)), V.im (N k) (elF (A k) (B k) (N k))] ∧ ((TT 7) ∧ (TT 3) ∧ True) ∧ FnOk Try.prog g0 38 [V.agg [i6 z, i6 0, i6 o, i6 u, V.fn fv [], V.fn fp [], V.fn ft []], V.agg [V.im (List.length (VS k)) (ints (VS k)), V.im (List.length (CS k)) (ints (CS k)), V.im (N k) (elF (A k) (B k) (N k))]] (V.tup [V.agg zT, i6 41]) ∧ True ∧ ((0 : Int) ≤ (↑k : Int) ∧ (↑k : Int) < (↑m : Int)) ∧ layE (0 + k * 67) (blF (rdF VS CS A B N k) m) (V.nils :: V.nils :: V.nils :: a64 fun x => (0 : Int)) = some (blF (upB (rdF VS CS A B N k) k zT) m) ∧ (0 = 0 ∧ (41 : Int) = (41 : Int) ∧ True) ∧ ([V.nils, V.nils, V.nils] = [V.nils, V.nils, V.nils] ∧ TT 3) ∧ True) = _) ?_
      (repeat' (first | (with_reducible apply And.intro) | (refine fun (_ : True) => ?_))) <;> first | exact aq | skip
      all_goals first | exact ht | exact hrd | exact hl | rfl | skip
  · have : k = m := by omega
    subst this
    have hd := rdF_done VS CS A B N k
    have hT := HfL_blF (HfL_tab VS CS A B N) k
    refine .inr ⟨.exit 0, [0, 1, 3], c0X keep n0 z o u fv fp ft (blF (tab VS CS A B N) k) k, [no 50], 1000, .inl ⟨hg, rfl, rfl⟩, ?_⟩
    clear ho hN
    refine Eq.mp (by kernel_rfl : (decide ((↑k : Int) < (↑k : Int)) = false ∧ ((n0 = n0 ∧ ints keep = ints keep) ∧ 0 = 0 ∧ 0 = 0 ∧ 0 = 0 ∧ True) ∧ ([V.nils, V.nils, V.nils] = [V.nils, V.nils, V.nils] ∧ TT 3) ∧ (opL z o u fv fp ft = opL z o u fv fp ft ∧ TT 7) ∧ ((k = k ∧ blF (tab VS CS A B N) k = blF (rdF VS CS A B N k) k ∧ HfL (blF (rdF VS CS A B N k) k)) ∧ True) ∧ True) = _) ?_
    (repeat' (first | (with_reducible apply And.intro) | (refine fun (_ : True) => ?_))) <;> first | exact aq | skip
    all_goals first | rfl | skip
end Go.Proofs.Ytgdnmgcigkhojaa.Am

namespace Go.Proofs.Ytgdnmgcigkhojaa.Am
open Go.RowKit
set_option linter.unusedVariables false
set_option maxHeartbeats 1000000
set_option maxRecDepth 100000
def owV (h : Nat) : Nat → V
  | 0 => .nils
  | n + 1 => .sl h 0 (n + 1) none
def owO (l : List Int) : Nat → List O
  | 0 => []
  | _ + 1 => [.row 3 (some 1) (ints l)]
theorem ints_app (l : List Int) (x : Int) : ints (l ++ [x]) = ints l ++ [i6 x] := by simp [ints]
def qF (F : Nat → Int) : Nat → Nat
  | 0 => 0
  | i + 1 => if 0 < F i then qF F i + 1 else qF F i
def vF (F : Nat → Int) : Nat → List Int
  | 0 => []
  | i + 1 => if 0 < F i then vF F i ++ [(i : Int)] else vF F i
def sF (F : Nat → Int) : Nat → List Int
  | 0 => []
  | i + 1 => if 0 < F i then sF F i ++ [F i] else sF F i
theorem vF_len (F : Nat → Int) : ∀ i, (vF F i).length = qF F i
  | 0 => rfl
  | i + 1 => by
    unfold vF qF; split
    · simp [vF_len F i]
    · exact vF_len F i
theorem sF_len (F : Nat → Int) : ∀ i, (sF F i).length = qF F i
  | 0 => rfl
  | i + 1 => by
    unfold sF qF; split
    · simp [sF_len F i]
    · exact sF_len F i
theorem qF_le (F : Nat → Int) : ∀ i, qF F i ≤ i
  | 0 => Nat.le_refl _
  | i + 1 => by have := qF_le F i; unfold qF; split <;> omega
abbrev c2S (keep : List Int) (n0 : Nat) (op : List V) (c : List V) (m : Nat) (F : Nat → Int) (p : Nat × Nat × List Int × List Int) : SL := { sl := [(2, .im n0 (ints keep)), (6, .ptr 0 0), (8, .ptr 1 0), (10, .ptr 2 0), (13, .ptr 3 0), (15, .ptr 4 0), (16, owV 6 p.2.1), (82, .agg (a64 F)), (83, i6 p.1)], os := r3 :: .row 79 none op :: .row 82 none [.im m c] :: .row 83 none (a64 F) :: .row 29 none [owV 5 p.2.1] :: (owO p.2.2.1 p.2.1 ++ owO p.2.2.2 p.2.1), md := [0, 0, 0, 0, 1] }
abbrev c2X (keep : List Int) (n0 : Nat) (op : List V) (c : List V) (m : Nat) (F : Nat → Int) (q : Nat) (lv ls : List Int) : SL := { sl := [(2, .im n0 (ints keep)), (6, .ptr 0 0), (8, .ptr 1 0), (10, .ptr 2 0), (13, .ptr 3 0), (15, .ptr 4 0), (16, .im q (ints ls))], os := [r3, .row 79 none op, .row 82 none [.im m c], .row 83 none (a64 F), .row 29 none [.im q (ints lv)]], md := [0, 0, 0, 0, 1] }
theorem com_vars (keep : List Int) (n0 : Nat) (op : List V) (hop : HfL op) (c : List V) (hc : HfL c) (m : Nat) (F : Nat → Int) :
    Sat Pg none 0 (at' 15 [1, 1, 1, 1, 1, 1, 1, 1, 1, 0, 1, 0]) (mkSt g0 209 (c2S keep n0 op c m F (0, 0, [], []))) (outsP g0 209 [(True, .exit 2, c2X keep n0 op c m F (qF F 64) (vF F 64) (sF F 64))]) := by
  refine loopC vE_ok mixed sp0_ok (b := at' 15 [1, 1, 1, 1, 1, 1, 1, 1, 1, 0, 1, 0, 0]) (by kernel_rfl) (fun p => p.1 ≤ 64 ∧ p.2.1 = qF F p.1 ∧ p.2.2.1 = vF F p.1 ∧ p.2.2.2 = sF F p.1) (c2S keep n0 op c m F) (fun p => 64 - p.1) (fun p hp => ?_) (0, 0, [], []) ⟨Nat.zero_le _, rfl, rfl, rfl⟩
  obtain ⟨i, q, lv, ls⟩ := p
  obtain ⟨hi, hq, hv, hs⟩ := hp
  dsimp only at hi hq hv hs
  have hF := HfL_a64 F
  have l1 := vF_len F i
  have l2 := sF_len F i
  rw [← hv, ← hq] at l1
  rw [← hs, ← hq] at l2
  have hle := qF_le F i
  rw [← hq] at hle
  by_cases hlt : i < 64
  · have hx := @idx83 F i hlt
    by_cases hpos : 0 < F i
    · have e1 : qF F (i + 1) = q + 1 := by rw [qF, if_pos hpos, hq]
      have e2 : vF F (i + 1) = lv ++ [(i : Int)] := by rw [vF, if_pos hpos, hv]
      have e3 : sF F (i + 1) = ls ++ [F i] := by rw [sF, if_pos hpos, hs]
      have a1 := ints_app lv (i : Int)
      have a2 := ints_app ls (F i)
      have hH1 := HfL_ints (lv ++ [(i : Int)])
      have hH2 := HfL_ints (ls ++ [F i])
      cases q with
      | zero =>
        have z1 : lv = [] := List.eq_nil_of_length_eq_zero l1
        have z2 : ls = [] := List.eq_nil_of_length_eq_zero l2
        refine .inl ⟨(i + 1, 1, lv ++ [(i : Int)], ls ++ [F i]), [0, 1, 2, 3, 4, 6, 8], [yes 84, va 86 (i6 (F i)), yes 88, nu 97 (i + 1 : Nat)], 1000, ⟨by dsimp only; omega, e1.symm, e2.symm, e3.symm⟩, by dsimp only; omega, ?_⟩
        subst z1 z2
        clear hv hs hq e1 e2 e3
        refine Eq.mp (by kernel_rfl : (decide ((↑i : Int) < (64 : Int)) = true ∧ idxV (ctxOf Try.prog) 83 (V.agg (a64 F)) (↑i : Int) = some (i6 (F i)) ∧ decide (F i > (0 : Int)) = true ∧ wr IntKind.i64 ((↑i : Int) + (1 : Int)) = (↑(i + 1) : Int) ∧ ((n0 = n0 ∧ ints keep = ints keep) ∧ 0 = 0 ∧ 0 = 0 ∧ 0 = 0 ∧ 0 = 0 ∧ 0 = 0 ∧ (0 = 0 ∧ 0 + 1 = 1 ∧ True) ∧ (EQn (F) 0 64) ∧ (↑(i + 1) : Int) = (↑(i + 1) : Int) ∧ True) ∧ ([V.nils, V.nils, V.nils] = [V.nils, V.nils, V.nils] ∧ TT 3) ∧ (op = op ∧ HfL op) ∧ ([V.im m c] = [V.im m c] ∧ True ∧ True) ∧ (a64 F = a64 F ∧ TT 64) ∧ ((0 = 0 ∧ 0 + 1 = 1 ∧ True) ∧ True) ∧ (ints ([] ++ [(↑i : Int)]) = [i6 (↑i : Int)] ∧ True ∧ True) ∧ (ints ([] ++ [F i]) = [i6 (F i)] ∧ True ∧ True) ∧ True) = _) ?_
        (repeat' (first | (with_reducible apply And.intro) | (refine fun (_ : True) => ?_))) <;> first | exact aq | skip
        all_goals first | exact hx | rfl | skip
      | succ q =>
        refine .inl ⟨(i + 1, q + 1 + 1, lv ++ [(i : Int)], ls ++ [F i]), [0, 1, 2, 3, 4, 8, 10], [yes 84, va 86 (i6 (F i)), yes 88, ap 92, ap 96, nu 97 (i + 1 : Nat)], 1000, ⟨by dsimp only; omega, e1.symm, e2.symm, e3.symm⟩, by dsimp only; omega, ?_⟩
        clear hv hs hq e1 e2 e3
        refine Eq.mp (by kernel_rfl : (decide ((↑i : Int) < (64 : Int)) = true ∧ idxV (ctxOf Try.prog) 83 (V.agg (a64 F)) (↑i : Int) = some (i6 (F i)) ∧ decide (F i > (0 : Int)) = true ∧ List.length (ints lv) = (q + 1) * 1 ∧ q + 1 + 1 ≤ 9223372036854775807 ∧ (q + 1 + 1) * 8 ≤ 140737488355328 ∧ List.length (ints ls) = (q + 1) * 1 ∧ q + 1 + 1 ≤ 9223372036854775807 ∧ (q + 1 + 1) * 8 ≤ 140737488355328 ∧ wr IntKind.i64 ((↑i : Int) + (1 : Int)) = (↑(i + 1) : Int) ∧ ((n0 = n0 ∧ ints keep = ints keep) ∧ 0 = 0 ∧ 0 = 0 ∧ 0 = 0 ∧ 0 = 0 ∧ 0 = 0 ∧ (0 = 0 ∧ Nat.succ q + 1 = q + 1 + 1 ∧ True) ∧ (EQn (F) 0 64) ∧ (↑(i + 1) : Int) = (↑(i + 1) : Int) ∧ True) ∧ ([V.nils, V.nils, V.nils] = [V.nils, V.nils, V.nils] ∧ TT 3) ∧ (op = op ∧ HfL op) ∧ ([V.im m c] = [V.im m c] ∧ True ∧ True) ∧ (a64 F = a64 F ∧ TT 64) ∧ ((0 = 0 ∧ Nat.succ q + 1 = q + 1 + 1 ∧ True) ∧ True) ∧ (ints (lv ++ [(↑i : Int)]) = ints lv ++ [i6 (↑i : Int)] ∧ HfL (ints (lv ++ [(↑i : Int)]))) ∧ (ints (ls ++ [F i]) = ints ls ++ [i6 (F i)] ∧ HfL (ints (ls ++ [F i]))) ∧ True) = _) ?_
        (repeat' (first | (with_reducible apply And.intro) | (refine fun (_ : True) => ?_))) <;> first | exact aq | skip
        all_goals first | exact hx | rfl | exact a1 | exact a2 | (rw [ints_length]; omega) | skip
    · have e1 : qF F (i + 1) = q := by rw [qF, if_neg hpos, hq]
      have e2 : vF F (i + 1) = lv := by rw [vF, if_neg hpos, hv]
      have e3 : sF F (i + 1) = ls := by rw [sF, if_neg hpos, hs]
      have hH1 := HfL_ints lv
      have hH2 := HfL_ints ls
      cases q with
      | zero =>
        refine .inl ⟨(i + 1, 0, lv, ls), [0, 1, 2, 3, 4], [yes 84, va 86 (i6 (F i)), no 88, nu 97 (i + 1 : Nat)], 1000, ⟨by dsimp only; omega, e1.symm, e2.symm, e3.symm⟩, by dsimp only; omega, ?_⟩
        clear hv hs hq e1 e2 e3
        refine Eq.mp (by kernel_rfl : (decide ((↑i : Int) < (64 : Int)) = true ∧ idxV (ctxOf Try.prog) 83 (V.agg (a64 F)) (↑i : Int) = some (i6 (F i)) ∧ decide (F i > (0 : Int)) = false ∧ wr IntKind.i64 ((↑i : Int) + (1 : Int)) = (↑(i + 1) : Int) ∧ ((n0 = n0 ∧ ints keep = ints keep) ∧ 0 = 0 ∧ 0 = 0 ∧ 0 = 0 ∧ 0 = 0 ∧ 0 = 0 ∧ True ∧ (EQn (F) 0 64) ∧ (↑(i + 1) : Int) = (↑(i + 1) : Int) ∧ True) ∧ ([V.nils, V.nils, V.nils] = [V.nils, V.nils, V.nils] ∧ TT 3) ∧ (op = op ∧ HfL op) ∧ ([V.im m c] = [V.im m c] ∧ True ∧ True) ∧ (a64 F = a64 F ∧ TT 64) ∧ (True ∧ True) ∧ True) = _) ?_
        (repeat' (first | (with_reducible apply And.intro) | (refine fun (_ : True) => ?_))) <;> first | exact aq | skip
        all_goals first | exact hx | rfl | skip
      | succ q =>
        refine .inl ⟨(i + 1, q + 1, lv, ls), [0, 1, 2, 3, 4, 5, 6], [yes 84, va 86 (i6 (F i)), no 88, nu 97 (i + 1 : Nat)], 1000, ⟨by dsimp only; omega, e1.symm, e2.symm, e3.symm⟩, by dsimp only; omega, ?_⟩
        clear hv hs hq e1 e2 e3
        refine Eq.mp (by kernel_rfl : (decide ((↑i : Int) < (64 : Int)) = true ∧ idxV (ctxOf Try.prog) 83 (V.agg (a64 F)) (↑i : Int) = some (i6 (F i)) ∧ decide (F i > (0 : Int)) = false ∧ wr IntKind.i64 ((↑i : Int) + (1 : Int)) = (↑(i + 1) : Int) ∧ ((n0 = n0 ∧ ints keep = ints keep) ∧ 0 = 0 ∧ 0 = 0 ∧ 0 = 0 ∧ 0 = 0 ∧ 0 = 0 ∧ (0 = 0 ∧ q + 1 = q + 1 ∧ True) ∧ (EQn (F) 0 64) ∧ (↑(i + 1) : Int) = (↑(i + 1) : Int) ∧ True) ∧ ([V.nils, V.nils, V.nils] = [V.nils, V.nils, V.nils] ∧ TT 3) ∧ (op = op ∧ HfL op) ∧ ([V.im m c] = [V.im m c] ∧ True ∧ True) ∧ (a64 F = a64 F ∧ TT 64) ∧ ((0 = 0 ∧ q + 1 = q + 1 ∧ True) ∧ True) ∧ (ints lv = ints lv ∧ HfL (ints lv)) ∧ (ints ls = ints ls ∧ HfL (ints ls)) ∧ True) = _) ?_
        (repeat' (first | (with_reducible apply And.intro) | (refine fun (_ : True) => ?_))) <;> first | exact aq | skip
        all_goals first | exact hx | rfl | skip
  · have : i = 64 := by omega
    subst this
    rw [← hq, ← hv, ← hs]
    have hH1 := HfL_ints lv
    have hH2 := HfL_ints ls
    cases q with
    | zero =>
      have z1 : lv = [] := List.eq_nil_of_length_eq_zero l1
      have z2 : ls = [] := List.eq_nil_of_length_eq_zero l2
      refine .inr ⟨.exit 2, [0, 1, 2, 3, 4], c2X keep n0 op c m F 0 lv ls, [], 1000, .inl ⟨trivial, rfl, rfl⟩, ?_⟩
      subst z1 z2
      refine Eq.mp (by kernel_rfl : (((n0 = n0 ∧ ints keep = ints keep) ∧ 0 = 0 ∧ 0 = 0 ∧ 0 = 0 ∧ 0 = 0 ∧ 0 = 0 ∧ 0 = 0 ∧ True) ∧ ([V.nils, V.nils, V.nils] = [V.nils, V.nils, V.nils] ∧ TT 3) ∧ (op = op ∧ HfL op) ∧ ([V.im m c] = [V.im m c] ∧ True ∧ True) ∧ (a64 F = a64 F ∧ TT 64) ∧ (0 = 0 ∧ True) ∧ True) = _) ?_
      (repeat' (first | (with_reducible apply And.intro) | (refine fun (_ : True) => ?_))) <;> first | exact aq | skip
      all_goals first | rfl | skip
    | succ q =>
      refine .inr ⟨.exit 2, [0, 1, 2, 3, 4], c2X keep n0 op c m F (q + 1) lv ls, [], 1000, .inl ⟨trivial, rfl, rfl⟩, ?_⟩
      refine Eq.mp (by kernel_rfl : (((n0 = n0 ∧ ints keep = ints keep) ∧ 0 = 0 ∧ 0 = 0 ∧ 0 = 0 ∧ 0 = 0 ∧ 0 = 0 ∧ (q + 1 = q + 1 ∧ ints ls = ints ls ∧ HfL (ints ls)) ∧ True) ∧ ([V.nils, V.nils, V.nils] = [V.nils, V.nils, V.nils] ∧ TT 3) ∧ (op = op ∧ HfL op) ∧ ([V.im m c] = [V.im m c] ∧ True ∧ True) ∧ (a64 F = a64 F ∧ TT 64) ∧ ((q + 1 = q + 1 ∧ ints lv = ints lv ∧ HfL (ints lv)) ∧ True) ∧ True) = _) ?_
      (repeat' (first | (with_reducible apply And.intro) | (refine fun (_ : True) => ?_))) <;> first | exact aq | skip
      all_goals first | rfl | skip
def sufK (F : Nat → Int) (keep : List Int) (n : Nat) : Nat → Int
  | 0 => 1
  | j + 1 => sufK F keep n j * F (keep.getD (n - 1 - j) 0).toNat
def stK (F : Nat → Int) (keep : List Int) (n : Nat) : Nat → (Nat → Int)
  | 0 => fun _ => 0
  | j + 1 => up64 (stK F keep n j) (keep.getD (n - 1 - j) 0).toNat (sufK F keep n j)
abbrev c5 (op c : List V) (m : Nat) (F : Nat → Int) (q : Nat) (lv : List Int) : List O := [r3, .row 79 none op, .row 82 none [.im m c], .row 83 none (a64 F), .row 29 none [.im q (ints lv)]]
abbrev c4S (keep : List Int) (n : Nat) (op : List V) (c : List V) (m : Nat) (F : Nat → Int) (q : Nat) (lv ls : List Int) (j : Nat) : SL := { sl := [(2, .im n (ints keep)), (6, .ptr 0 0), (8, .ptr 1 0), (10, .ptr 2 0), (13, .ptr 3 0), (15, .ptr 4 0), (16, .im q (ints ls)), (19, .ptr 5 0), (20, i6 (sufK F keep n j)), (21, i6 (((n - j : Nat) : Int) - 1))], os := c5 op c m F q lv ++ [.row 85 none (.im n (ints keep) :: .nils :: .nils :: a64 (stK F keep n j))] }
abbrev c4X (keep : List Int) (n : Nat) (op : List V) (c : List V) (m : Nat) (F : Nat → Int) (q : Nat) (lv ls : List Int) (sz : Int) (sK : Nat → Int) : SL := { sl := [(2, .im n (ints keep)), (6, .ptr 0 0), (8, .ptr 1 0), (10, .ptr 2 0), (13, .ptr 3 0), (15, .ptr 4 0), (16, .im q (ints ls)), (19, .ptr 5 0), (20, i6 sz)], os := c5 op c m F q lv ++ [.row 85 none (.im n (ints keep) :: .nils :: .nils :: a64 sK)] }
theorem com_steps (keep : List Int) (n : Nat) (hn : n = keep.length) (hn5 : n ≤ 1000) (op : List V) (hop : HfL op) (c : List V) (hc : HfL c) (m : Nat) (F : Nat → Int) (q : Nat) (lv ls : List Int) (hk : ∀ i, i < n → 0 ≤ keep.getD i 0 ∧ keep.getD i 0 ≤ 63) (hb : ∀ j, j ≤ n → 1 ≤ sufK F keep n j ∧ sufK F keep n j ≤ 4096) :
    Sat Pg none 0 (at' 15 [1, 1, 1, 1, 1, 1, 1, 1, 1, 1, 1, 1, 1, 0, 1, 0]) (mkSt g0 209 (c4S keep n op c m F q lv ls 0)) (outsP g0 209 [(True, .exit 4, c4X keep n op c m F q lv ls (sufK F keep n n) (stK F keep n n))]) := by
  refine loopC vE_ok mixed sp0_ok (b := at' 15 [1, 1, 1, 1, 1, 1, 1, 1, 1, 1, 1, 1, 1, 0, 1, 0, 0]) (by kernel_rfl) (fun j => j ≤ n) (c4S keep n op c m F q lv ls) (fun j => n - j) (fun j hj => ?_) 0 (Nat.zero_le _)
  have hF := HfL_a64 F
  have hS := HfL_a64 (stK F keep n j)
  have hS1 := HfL_a64 (stK F keep n (j + 1))
  have hlv := HfL_ints lv
  by_cases hlt : j < n
  · obtain ⟨k, hk1⟩ : ∃ k, n - j = k + 1 := ⟨n - j - 1, by omega⟩
    have hk2 : n - 1 - j = k := by omega
    have hk3 : n - (j + 1) = k := by omega
    have h1 := @head_intsD keep k (by omega)
    have hkb := hk k (by omega)
    obtain ⟨v, hv⟩ : ∃ v : Nat, keep.getD k 0 = v := ⟨(keep.getD k 0).toNat, by omega⟩
    have ev : (keep.getD k 0).toNat = v := by omega
    have e1 : sufK F keep n (j + 1) = sufK F keep n j * F v := by rw [sufK, hk2, ev]
    have e2 : stK F keep n (j + 1) = up64 (stK F keep n j) v (sufK F keep n j) := by rw [stK, hk2, ev]
    have b0 := hb j (by omega)
    have b1 := hb (j + 1) (by omega)
    have hp := @place85 5 v (by omega)
    have hp2 := @place83 3 v (by omega)
    have hh := @head64 F v (by omega)
    have hl := @lay85 (.im n (ints keep)) .nils .nils (stK F keep n j) v (sufK F keep n j) (by omega)
    rw [← e2] at hl
    rw [← hv] at hp hp2
    have hw : wr .i64 (sufK F keep n j * F v) = sufK F keep n (j + 1) := by rw [← e1]; exact wr6 (by omega) (by omega)
    have hz : ((k + 1 : Nat) : Int) - 1 = (k : Nat) := by omega
    refine .inl ⟨j + 1, [0, 1, 2, 3, 4, 5], [yes 110, pl 115, ld 116 (i6 (keep.getD k 0)), va 119 (.ptr 5 (v + 3)), st (.im n (ints keep) :: .nils :: .nils :: a64 (stK F keep n (j + 1))), pl 123, ld 124 (i6 (keep.getD k 0)), va 125 (.ptr 3 v), ld 126 (i6 (F v)), nu 127 (sufK F keep n (j + 1)), nu 112 ((k : Int) - 1)], 1000, by omega, by omega, ?_⟩
    show vc _ _ _ _ _ _ _ _ (mkSt g0 209 { sl := [(2, .im n (ints keep)), (6, .ptr 0 0), (8, .ptr 1 0), (10, .ptr 2 0), (13, .ptr 3 0), (15, .ptr 4 0), (16, .im q (ints ls)), (19, .ptr 5 0), (20, i6 (sufK F keep n j)), (21, i6 (((n - j : Nat) : Int) - 1))], os := _ }) (kNext 0 209 _ { sl := [(2, .im n (ints keep)), (6, .ptr 0 0), (8, .ptr 1 0), (10, .ptr 2 0), (13, .ptr 3 0), (15, .ptr 4 0), (16, .im q (ints ls)), (19, .ptr 5 0), (20, i6 (sufK F keep n (j + 1))), (21, i6 (((n - (j + 1) : Nat) : Int) - 1))], os := _ })
    rw [hk1, hk3, hz]
    clear hk hb e1 e2
    refine Eq.mp (by kernel_rfl : (decide ((↑k : Int) ≥ (0 : Int)) = true ∧ ((0 : Int) ≤ (↑k : Int) ∧ (↑k : Int) < (↑n : Int)) ∧ headF (List.drop (k * 1) (ints keep)) = some (i6 (List.getD keep k (0 : Int))) ∧ placeV (ctxOf Try.prog) 83 (V.ptr 5 (0 + 3)) (List.getD keep k (0 : Int)) = some (V.ptr 5 (v + 3)) ∧ layE (v + 3) (V.im n (ints keep) :: V.nils :: V.nils :: a64 (stK F keep n j)) [i6 (sufK F keep n j)] = some (V.im n (ints keep) :: V.nils :: V.nils :: a64 (stK F keep n (j + 1))) ∧ ((0 : Int) ≤ (↑k : Int) ∧ (↑k : Int) < (↑n : Int)) ∧ headF (List.drop (k * 1) (ints keep)) = some (i6 (List.getD keep k (0 : Int))) ∧ placeV (ctxOf Try.prog) 83 (V.ptr 3 0) (List.getD keep k (0 : Int)) = some (V.ptr 3 v) ∧ headF (dropF v (a64 F)) = some (i6 (F v)) ∧ wr IntKind.i64 (sufK F keep n j * F v) = sufK F keep n (j + 1) ∧ wr IntKind.i64 ((↑k : Int) - (1 : Int)) = (↑k : Int) - (1 : Int) ∧ ((n = n ∧ ints keep = ints keep) ∧ 0 = 0 ∧ 0 = 0 ∧ 0 = 0 ∧ 0 = 0 ∧ 0 = 0 ∧ (q = q ∧ ints ls = ints ls) ∧ 0 = 0 ∧ sufK F keep n (j + 1) = sufK F keep n (j + 1) ∧ (↑k : Int) - (1 : Int) = (↑k : Int) - (1 : Int) ∧ True) ∧ ([V.nils, V.nils, V.nils] = [V.nils, V.nils, V.nils] ∧ TT 3) ∧ (op = op ∧ HfL op) ∧ ([V.im m c] = [V.im m c] ∧ True ∧ True) ∧ (a64 F = a64 F ∧ TT 64) ∧ ([V.im q (ints lv)] = [V.im q (ints lv)] ∧ True ∧ True) ∧ (V.im n (ints keep) :: V.nils :: V.nils :: a64 (stK F keep n (j + 1)) = V.im n (ints keep) :: V.nils :: V.nils :: a64 (stK F keep n (j + 1)) ∧ TT 67) ∧ True) = _) ?_
    (repeat' (first | (with_reducible apply And.intro) | (refine fun (_ : True) => ?_))) <;> first | exact aq | skip
    all_goals first | exact hp | exact hp2 | exact hl | exact hh | rfl | skip
  · have : j = n := by omega
    subst this
    have hz : ((j - j : Nat) : Int) - 1 = -1 := by omega
    refine .inr ⟨.exit 4, [0, 1, 2, 3, 4, 5], c4X keep j op c m F q lv ls (sufK F keep j j) (stK F keep j j), [], 1000, .inl ⟨trivial, rfl, rfl⟩, ?_⟩
    show vc _ _ _ _ _ _ _ _ (mkSt g0 209 { sl := [(2, .im j (ints keep)), (6, .ptr 0 0), (8, .ptr 1 0), (10, .ptr 2 0), (13, .ptr 3 0), (15, .ptr 4 0), (16, .im q (ints ls)), (19, .ptr 5 0), (20, i6 (sufK F keep j j)), (21, i6 (((j - j : Nat) : Int) - 1))], os := _ }) _
    rw [hz]
    clear hk hb
    refine Eq.mp (by kernel_rfl : (((j = j ∧ ints keep = ints keep) ∧ 0 = 0 ∧ 0 = 0 ∧ 0 = 0 ∧ 0 = 0 ∧ 0 = 0 ∧ (q = q ∧ ints ls = ints ls) ∧ 0 = 0 ∧ sufK F keep j j = sufK F keep j j ∧ True) ∧ ([V.nils, V.nils, V.nils] = [V.nils, V.nils, V.nils] ∧ TT 3) ∧ (op = op ∧ HfL op) ∧ ([V.im m c] = [V.im m c] ∧ True ∧ True) ∧ (a64 F = a64 F ∧ TT 64) ∧ ([V.im q (ints lv)] = [V.im q (ints lv)] ∧ True ∧ True) ∧ (V.im j (ints keep) :: V.nils :: V.nils :: a64 (stK F keep j j) = V.im j (ints keep) :: V.nils :: V.nils :: a64 (stK F keep j j) ∧ TT 67) ∧ True) = _) ?_
    (repeat' (first | (with_reducible apply And.intro) | (refine fun (_ : True) => ?_))) <;> first | exact aq | skip
    all_goals first | rfl | skip
def clF (F : Nat → Int) (keep : List Int) : Nat → List Int
  | 0 => []
  | k + 1 => clF F keep k ++ [F (keep.getD k 0).toNat]
theorem clF_len (F : Nat → Int) (keep : List Int) : ∀ k, (clF F keep k).length = k
  | 0 => rfl
  | k + 1 => by rw [clF, List.length_append, clF_len F keep k]; rfl
abbrev c6S (keep : List Int) (n : Nat) (op : List V) (c : List V) (m : Nat) (F : Nat → Int) (q : Nat) (lv ls : List Int) (sz : Int) (sK : Nat → Int) (p : Nat × List Int) : SL := { sl := [(2, .im n (ints keep)), (6, .ptr 0 0), (8, .ptr 1 0), (10, .ptr 2 0), (13, .ptr 3 0), (15, .ptr 4 0), (16, .im q (ints ls)), (19, .ptr 5 0), (20, i6 sz), (128, .im n (ints keep)), (129, i6 n), (130, i6 p.1)], os := r3 :: .row 79 none op :: .row 82 none [.im m c] :: .row 83 none (a64 F) :: .row 29 none [.im q (ints lv)] :: .row 85 none (.im n (ints keep) :: owV 6 p.1 :: .nils :: a64 sK) :: owO p.2 p.1, md := [0, 0, 0, 0, 0, 1] }
abbrev c6X (keep : List Int) (n : Nat) (op : List V) (c : List V) (m : Nat) (F : Nat → Int) (q : Nat) (lv ls : List Int) (sz : Int) (sK : Nat → Int) (cl : List Int) : SL := { sl := [(2, .im n (ints keep)), (6, .ptr 0 0), (8, .ptr 1 0), (10, .ptr 2 0), (13, .ptr 3 0), (15, .ptr 4 0), (16, .im q (ints ls)), (19, .ptr 5 0), (20, i6 sz)], os := c5 op c m F q lv ++ [.row 85 none (.im n (ints keep) :: .im n (ints cl) :: .nils :: a64 sK)], md := [0, 0, 0, 0, 0, 1] }
theorem com_cards (keep : List Int) (n : Nat) (hn : n = keep.length) (hn5 : n ≤ 1000) (op : List V) (hop : HfL op) (c : List V) (hc : HfL c) (m : Nat) (F : Nat → Int) (q : Nat) (lv ls : List Int) (sz : Int) (sK : Nat → Int) (hk : ∀ i, i < n → 0 ≤ keep.getD i 0 ∧ keep.getD i 0 ≤ 63) :
    Sat Pg none 0 (at' 15 [1, 1, 1, 1, 1, 1, 1, 1, 1, 1, 1, 1, 1, 1, 0, 1, 0]) (mkSt g0 209 (c6S keep n op c m F q lv ls sz sK (0, []))) (outsP g0 209 [(True, .exit 6, c6X keep n op c m F q lv ls sz sK (clF F keep n))]) := by
  refine loopC vE_ok mixed sp0_ok (b := at' 15 [1, 1, 1, 1, 1, 1, 1, 1, 1, 1, 1, 1, 1, 1, 0, 1, 0, 0]) (by kernel_rfl) (fun p => p.1 ≤ n ∧ p.2 = clF F keep p.1) (c6S keep n op c m F q lv ls sz sK) (fun p => n - p.1) (fun p hp => ?_) (0, []) ⟨Nat.zero_le _, rfl⟩
  obtain ⟨k, cl⟩ := p
  obtain ⟨hj, hcl⟩ := hp
  dsimp only at hj hcl
  have hF := HfL_a64 F
  have hS := HfL_a64 sK
  have hlv := HfL_ints lv
  have l1 := clF_len F keep k
  rw [← hcl] at l1
  by_cases hlt : k < n
  · have h1 := @head_intsD keep k (by omega)
    have hkb := hk k (by omega)
    obtain ⟨v, hv⟩ : ∃ v : Nat, keep.getD k 0 = v := ⟨(keep.getD k 0).toNat, by omega⟩
    have ev : (keep.getD k 0).toNat = v := by omega
    have hp2 := @place83 3 v (by omega)
    have hh := @head64 F v (by omega)
    have e1 : clF F keep (k + 1) = cl ++ [F v] := by rw [clF, ev, hcl]
    have a1 := ints_app cl (F v)
    have hH1 := HfL_ints (cl ++ [F v])
    rw [← hv] at hp2
    cases k with
    | zero =>
      have z1 : cl = [] := List.eq_nil_of_length_eq_zero l1
      refine .inl ⟨(1, cl ++ [F v]), [0, 1, 2, 3, 4, 5, 7], [yes 131, pl 132, ld 133 (i6 (keep.getD 0 0)), va 138 (.ptr 3 v), ld 139 (i6 (F v)), nu 144 (0 + 1 : Nat)], 1000, ⟨by dsimp only; omega, e1.symm⟩, by dsimp only; omega, ?_⟩
      subst z1
      clear hk e1 hcl
      refine Eq.mp (by kernel_rfl : (decide ((↑(0 : Nat) : Int) < (↑n : Int)) = true ∧ ((0 : Int) ≤ (↑(0 : Nat) : Int) ∧ (↑(0 : Nat) : Int) < (↑n : Int)) ∧ headF (List.drop (0 * 1) (ints keep)) = some (i6 (List.getD keep 0 (0 : Int))) ∧ placeV (ctxOf Try.prog) 83 (V.ptr 3 0) (List.getD keep 0 (0 : Int)) = some (V.ptr 3 v) ∧ headF (dropF v (a64 F)) = some (i6 (F v)) ∧ wr IntKind.i64 ((↑(0 : Nat) : Int) + (1 : Int)) = (↑(0 + 1) : Int) ∧ ((n = n ∧ ints keep = ints keep) ∧ 0 = 0 ∧ 0 = 0 ∧ 0 = 0 ∧ 0 = 0 ∧ 0 = 0 ∧ (q = q ∧ ints ls = ints ls) ∧ 0 = 0 ∧ sz = sz ∧ (n = n ∧ ints keep = ints keep) ∧ (↑n : Int) = (↑n : Int) ∧ (↑(1 : Nat) : Int) = (↑(0 + 1) : Int) ∧ True) ∧ ([V.nils, V.nils, V.nils] = [V.nils, V.nils, V.nils] ∧ TT 3) ∧ (op = op ∧ HfL op) ∧ ([V.im m c] = [V.im m c] ∧ True ∧ True) ∧ (a64 F = a64 F ∧ TT 64) ∧ ([V.im q (ints lv)] = [V.im q (ints lv)] ∧ True ∧ True) ∧ ((n = n ∧ ints keep = ints keep) ∧ (0 = 0 ∧ 0 + 1 = 1 ∧ True) ∧ True ∧ EQn (sK) 0 64) ∧ (ints ([] ++ [F v]) = [i6 (F v)] ∧ True ∧ True) ∧ True) = _) ?_
      (repeat' (first | (with_reducible apply And.intro) | (refine fun (_ : True) => ?_))) <;> first | exact aq | skip
      all_goals first | exact hp2 | exact hh | rfl | skip
    | succ k =>
      refine .inl ⟨(k + 1 + 1, cl ++ [F v]), [0, 1, 2, 3, 4, 5, 8], [yes 131, pl 132, ld 133 (i6 (keep.getD (k + 1) 0)), va 138 (.ptr 3 v), ld 139 (i6 (F v)), ap 141, nu 144 (k + 1 + 1 : Nat)], 1000, ⟨by dsimp only; omega, e1.symm⟩, by dsimp only; omega, ?_⟩
      clear hk e1 hcl
      refine Eq.mp (by kernel_rfl : (decide ((↑(k + 1) : Int) < (↑n : Int)) = true ∧ ((0 : Int) ≤ (↑(k + 1) : Int) ∧ (↑(k + 1) : Int) < (↑n : Int)) ∧ headF (List.drop ((k + 1) * 1) (ints keep)) = some (i6 (List.getD keep (k + 1) (0 : Int))) ∧ placeV (ctxOf Try.prog) 83 (V.ptr 3 0) (List.getD keep (k + 1) (0 : Int)) = some (V.ptr 3 v) ∧ headF (dropF v (a64 F)) = some (i6 (F v)) ∧ List.length (ints cl) = (k + 1) * 1 ∧ k + 1 + 1 ≤ 9223372036854775807 ∧ (k + 1 + 1) * 8 ≤ 140737488355328 ∧ wr IntKind.i64 ((↑(k + 1) : Int) + (1 : Int)) = (↑(k + 1 + 1) : Int) ∧ ((n = n ∧ ints keep = ints keep) ∧ 0 = 0 ∧ 0 = 0 ∧ 0 = 0 ∧ 0 = 0 ∧ 0 = 0 ∧ (q = q ∧ ints ls = ints ls) ∧ 0 = 0 ∧ sz = sz ∧ (n = n ∧ ints keep = ints keep) ∧ (↑n : Int) = (↑n : Int) ∧ (↑(k + 1 + 1) : Int) = (↑(k + 1 + 1) : Int) ∧ True) ∧ ([V.nils, V.nils, V.nils] = [V.nils, V.nils, V.nils] ∧ TT 3) ∧ (op = op ∧ HfL op) ∧ ([V.im m c] = [V.im m c] ∧ True ∧ True) ∧ (a64 F = a64 F ∧ TT 64) ∧ ([V.im q (ints lv)] = [V.im q (ints lv)] ∧ True ∧ True) ∧ ((n = n ∧ ints keep = ints keep) ∧ (0 = 0 ∧ Nat.succ k + 1 = k + 1 + 1 ∧ True) ∧ True ∧ EQn (sK) 0 64) ∧ (ints (cl ++ [F v]) = ints cl ++ [i6 (F v)] ∧ HfL (ints (cl ++ [F v]))) ∧ True) = _) ?_
      (repeat' (first | (with_reducible apply And.intro) | (refine fun (_ : True) => ?_))) <;> first | exact aq | skip
      all_goals first | exact hp2 | exact hh | rfl | exact a1 | (rw [ints_length]; omega) | skip
  · have : k = n := by omega
    rw [this] at hcl l1
    rw [← hcl]
    have hH1 := HfL_ints cl
    clear hk
    cases k with
    | zero =>
      have z1 : cl = [] := List.eq_nil_of_length_eq_zero (by omega)
      refine .inr ⟨.exit 6, [0, 1, 2, 3, 4, 5], c6X keep n op c m F q lv ls sz sK cl, [no 131], 1000, .inl ⟨trivial, rfl, rfl⟩, ?_⟩
      subst z1
      refine Eq.mp (by kernel_rfl : (decide ((↑(0 : Nat) : Int) < (↑n : Int)) = false ∧ ((n = n ∧ ints keep = ints keep) ∧ 0 = 0 ∧ 0 = 0 ∧ 0 = 0 ∧ 0 = 0 ∧ 0 = 0 ∧ (q = q ∧ ints ls = ints ls) ∧ 0 = 0 ∧ sz = sz ∧ True) ∧ ([V.nils, V.nils, V.nils] = [V.nils, V.nils, V.nils] ∧ TT 3) ∧ (op = op ∧ HfL op) ∧ ([V.im m c] = [V.im m c] ∧ True ∧ True) ∧ (a64 F = a64 F ∧ TT 64) ∧ ([V.im q (ints lv)] = [V.im q (ints lv)] ∧ True ∧ True) ∧ ((n = n ∧ ints keep = ints keep) ∧ n = 0 ∧ True ∧ EQn (sK) 0 64) ∧ True) = _) ?_
      (repeat' (first | (with_reducible apply And.intro) | (refine fun (_ : True) => ?_))) <;> first | exact aq | skip
      all_goals first | rfl | omega | skip
    | succ k =>
      refine .inr ⟨.exit 6, [0, 1, 2, 3, 4, 5], c6X keep n op c m F q lv ls sz sK cl, [no 131], 1000, .inl ⟨trivial, rfl, rfl⟩, ?_⟩
      refine Eq.mp (by kernel_rfl : (decide ((↑(k + 1) : Int) < (↑n : Int)) = false ∧ ((n = n ∧ ints keep = ints keep) ∧ 0 = 0 ∧ 0 = 0 ∧ 0 = 0 ∧ 0 = 0 ∧ 0 = 0 ∧ (q = q ∧ ints ls = ints ls) ∧ 0 = 0 ∧ sz = sz ∧ True) ∧ ([V.nils, V.nils, V.nils] = [V.nils, V.nils, V.nils] ∧ TT 3) ∧ (op = op ∧ HfL op) ∧ ([V.im m c] = [V.im m c] ∧ True ∧ True) ∧ (a64 F = a64 F ∧ TT 64) ∧ ([V.im q (ints lv)] = [V.im q (ints lv)] ∧ True ∧ True) ∧ ((n = n ∧ ints keep = ints keep) ∧ (n = k + 1 ∧ ints cl = ints cl ∧ HfL (ints cl)) ∧ True ∧ EQn (sK) 0 64) ∧ True) = _) ?_
      (repeat' (first | (with_reducible apply And.intro) | (refine fun (_ : True) => ?_))) <;> first | exact aq | skip
      all_goals first | rfl | omega | skip
theorem elF_bl (A B : Nat → Int) (n : Nat) : elF A B n = blF (fun k => [i6 (A k), i6 (B k)]) n := rfl
theorem lay_elF {A B : Nat → Int} {n k : Nat} {x y : Int} (h : k < n) : layE (0 + k * 2) (elF A B n) [i6 x, i6 y] = some (elF (up64 A k x) (up64 B k y) n) := by
  rw [elF_bl, elF_bl, lay_blF0 (s := 2) (f := fun k => [i6 (A k), i6 (B k)]) (x := [i6 x, i6 y]) (fun _ => rfl) h rfl]
  congr 1
  congr 1
  funext i
  unfold upB up64
  split <;> rfl
theorem elF_congr {A B A' B' : Nat → Int} {n : Nat} (h : ∀ i, i < n → A i = A' i ∧ B i = B' i) : elF A B n = elF A' B' n := by
  rw [elF_bl, elF_bl]
  exact blF_congr fun i hi => by rw [(h i hi).1, (h i hi).2]
theorem rep_elF (n : Nat) : rep n [i6 0, i6 0] = elF (fun _ => 0) (fun _ => 0) n := by rw [rep_blF, elF_bl]
def zF (z : Int) (k i : Nat) : Int := if i < k then z else 0
abbrev c8S (keep : List Int) (n : Nat) (z o u : Int) (fv fp ft : Nat) (c : List V) (m : Nat) (F : Nat → Int) (q : Nat) (lv ls : List Int) (sK : Nat → Int) (cl : List Int) (sz k : Nat) : SL := { sl := [(6, .ptr 0 0), (8, .ptr 1 0), (10, .ptr 2 0), (15, .ptr 4 0), (16, .im q (ints ls)), (19, .ptr 5 0), (152, i6 sz), (153, i6 k)], os := c5 (opL z o u fv fp ft) c m F q lv ++ [.row 85 none (.im n (ints keep) :: .im n (ints cl) :: .sl 6 0 sz (some (sz - sz)) :: a64 sK), .row 23 none (elF (zF z k) (fun _ => 0) sz)], md := [0, 0, 0, 0, 0, 1] }
abbrev c8X (keep : List Int) (n : Nat) (z o u : Int) (fv fp ft : Nat) (c : List V) (m : Nat) (F : Nat → Int) (q : Nat) (lv ls : List Int) (sK : Nat → Int) (cl : List Int) (sz : Nat) (W : List V) : SL := { sl := [(6, .ptr 0 0), (8, .ptr 1 0), (10, .ptr 2 0), (15, .ptr 4 0), (16, .im q (ints ls)), (19, .ptr 5 0)], os := c5 (opL z o u fv fp ft) c m F q lv ++ [.row 85 none (.im n (ints keep) :: .im n (ints cl) :: .sl 6 0 sz (some (sz - sz)) :: a64 sK), .row 23 none W], md := [0, 0, 0, 0, 0, 1] }
theorem com_zeros (keep : List Int) (n : Nat) (z o u : Int) (fv fp ft : Nat) (c : List V) (hc : HfL c) (m : Nat) (F : Nat → Int) (q : Nat) (lv ls : List Int) (sK : Nat → Int) (cl : List Int) (sz : Nat) (hz : sz ≤ 4096) :
    Sat Pg none 0 (at' 15 [1, 1, 1, 1, 1, 1, 1, 1, 1, 1, 1, 1, 1, 1, 1, 1, 0, 1, 0]) (mkSt g0 209 (c8S keep n z o u fv fp ft c m F q lv ls sK cl sz 0)) (outsP g0 209 [(True, .exit 8, c8X keep n z o u fv fp ft c m F q lv ls sK cl sz (elF (fun _ => z) (fun _ => 0) sz))]) := by
  refine loopC vE_ok mixed sp0_ok (b := at' 15 [1, 1, 1, 1, 1, 1, 1, 1, 1, 1, 1, 1, 1, 1, 1, 1, 0, 1, 0, 0]) (by kernel_rfl) (fun k => k ≤ sz) (c8S keep n z o u fv fp ft c m F q lv ls sK cl sz) (fun k => sz - k) (fun k hk => ?_) 0 (Nat.zero_le _)
  have hF := HfL_a64 F
  have hS := HfL_a64 sK
  have hlv := HfL_ints lv
  have hcl := HfL_ints cl
  have hE := HfL_elF (zF z k) (fun _ => 0) sz
  have hE1 := HfL_elF (zF z (k + 1)) (fun _ => 0) sz
  by_cases hlt : k < sz
  · have hl := @lay_elF (zF z k) (fun _ => 0) sz k z 0 hlt
    have e1 : elF (up64 (zF z k) k z) (up64 (fun _ => 0) k 0) sz = elF (zF z (k + 1)) (fun _ => 0) sz := elF_congr fun i hi => by
      unfold up64 zF
      refine ⟨?_, by split <;> rfl⟩
      by_cases h : i = k
      · rw [if_pos h, if_pos (by omega)]
      · rw [if_neg h]
        by_cases h2 : i < k
        · rw [if_pos h2, if_pos (by omega)]
        · rw [if_neg h2, if_neg (by omega)]
    rw [e1] at hl
    refine .inl ⟨k + 1, [0, 1, 2, 3, 4, 5, 6], [yes 154, pl 162, st (elF (zF z (k + 1)) (fun _ => 0) sz), nu 163 (k + 1 : Nat)], 1000, by omega, by omega, ?_⟩
    clear e1
    refine Eq.mp (by kernel_rfl : (decide ((↑k : Int) < (↑sz : Int)) = true ∧ ((0 : Int) ≤ (↑k : Int) ∧ (↑k : Int) < (↑sz : Int)) ∧ layE (0 + k * 2) (elF (zF z k) (fun x => (0 : Int)) sz) [i6 z, i6 0] = some (elF (zF z (k + 1)) (fun x => (0 : Int)) sz) ∧ wr IntKind.i64 ((↑k : Int) + (1 : Int)) = (↑(k + 1) : Int) ∧ (0 = 0 ∧ 0 = 0 ∧ 0 = 0 ∧ 0 = 0 ∧ (q = q ∧ ints ls = ints ls) ∧ 0 = 0 ∧ (↑sz : Int) = (↑sz : Int) ∧ (↑(k + 1) : Int) = (↑(k + 1) : Int) ∧ True) ∧ ([V.nils, V.nils, V.nils] = [V.nils, V.nils, V.nils] ∧ TT 3) ∧ (opL z o u fv fp ft = opL z o u fv fp ft ∧ TT 7) ∧ ([V.im m c] = [V.im m c] ∧ True ∧ True) ∧ (a64 F = a64 F ∧ TT 64) ∧ ([V.im q (ints lv)] = [V.im q (ints lv)] ∧ True ∧ True) ∧ ((n = n ∧ ints keep = ints keep) ∧ (n = n ∧ ints cl = ints cl) ∧ (0 = 0 ∧ sz = sz ∧ sz - sz = sz - sz) ∧ EQn (sK) 0 64) ∧ (elF (zF z (k + 1)) (fun x => (0 : Int)) sz = elF (zF z (k + 1)) (fun x => (0 : Int)) sz ∧ HfL (elF (zF z (k + 1)) (fun x => (0 : Int)) sz)) ∧ True) = _) ?_
    (repeat' (first | (with_reducible apply And.intro) | (refine fun (_ : True) => ?_))) <;> first | exact aq | skip
    all_goals first | exact hl | rfl | skip
  · have : k = sz := by omega
    subst this
    have e1 : elF (zF z k) (fun _ => 0) k = elF (fun _ => z) (fun _ => 0) k := elF_congr fun i hi => ⟨by unfold zF; rw [if_pos hi], rfl⟩
    have hE2 := HfL_elF (fun _ => z) (fun _ => 0) k
    refine .inr ⟨.exit 8, [0, 1, 2, 3, 4, 5, 6], c8X keep n z o u fv fp ft c m F q lv ls sK cl k (elF (fun _ => z) (fun _ => 0) k), [no 154], 1000, .inl ⟨trivial, rfl, rfl⟩, ?_⟩
    refine Eq.mp (by kernel_rfl : (decide ((↑k : Int) < (↑k : Int)) = false ∧ (0 = 0 ∧ 0 = 0 ∧ 0 = 0 ∧ 0 = 0 ∧ (q = q ∧ ints ls = ints ls) ∧ 0 = 0 ∧ True) ∧ ([V.nils, V.nils, V.nils] = [V.nils, V.nils, V.nils] ∧ TT 3) ∧ (opL z o u fv fp ft = opL z o u fv fp ft ∧ TT 7) ∧ ([V.im m c] = [V.im m c] ∧ True ∧ True) ∧ (a64 F = a64 F ∧ TT 64) ∧ ([V.im q (ints lv)] = [V.im q (ints lv)] ∧ True ∧ True) ∧ ((n = n ∧ ints keep = ints keep) ∧ (n = n ∧ ints cl = ints cl) ∧ (0 = 0 ∧ k = k ∧ k - k = k - k) ∧ EQn (sK) 0 64) ∧ (elF (fun x => z) (fun x => (0 : Int)) k = elF (zF z k) (fun x => (0 : Int)) k ∧ HfL (elF (fun x => z) (fun x => (0 : Int)) k)) ∧ True) = _) ?_
    (repeat' (first | (with_reducible apply And.intro) | (refine fun (_ : True) => ?_))) <;> first | exact aq | skip
    all_goals first | rfl | skip
end Go.Proofs.Ytgdnmgcigkhojaa.Am

namespace Go.Proofs.Ytgdnmgcigkhojaa.Am
open Go.RowKit
set_option linter.unusedVariables false
set_option maxHeartbeats 1000000
set_option maxRecDepth 100000
theorem getD_set_self {l : List Int} {k : Nat} {x : Int} (h : k < l.length) : (l.set k x).getD k 0 = x := by
  rw [List.getD_eq_getElem?_getD, List.getElem?_set_self h]; rfl
theorem getD_set_ne {l : List Int} {k j : Nat} {x : Int} (h : k ≠ j) : (l.set k x).getD j 0 = l.getD j 0 := by
  rw [List.getD_eq_getElem?_getD, List.getElem?_set_ne h, ← List.getD_eq_getElem?_getD]
def nxV (cs : List Int) : List Int → Nat → List Int
  | vs, 0 => vs
  | vs, k + 1 => if vs.getD k 0 = cs.getD k 0 - 1 then nxV cs (vs.set k 0) k else vs.set k (vs.getD k 0 + 1)
def nxB (cs : List Int) : List Int → Nat → Bool
  | _, 0 => false
  | vs, k + 1 => if vs.getD k 0 = cs.getD k 0 - 1 then nxB cs (vs.set k 0) k else true
theorem nxV_len (cs : List Int) : ∀ (k : Nat) (vs : List Int), (nxV cs vs k).length = vs.length
  | 0, _ => rfl
  | k + 1, vs => by
    unfold nxV
    split
    · rw [nxV_len cs k]; simp
    · simp
def valT (cs vs : List Int) (k : Nat) : Prop := ∀ i, i < k → 0 ≤ vs.getD i 0 ∧ vs.getD i 0 < cs.getD i 0
def idxT (cs vs : List Int) : Nat → Int
  | 0 => 0
  | k + 1 => idxT cs vs k * cs.getD k 0 + vs.getD k 0
theorem idxT_set {cs : List Int} : ∀ {k j : Nat} {vs : List Int} {x : Int}, k ≤ j → idxT cs (vs.set j x) k = idxT cs vs k
  | 0, _, _, _, _ => rfl
  | k + 1, j, vs, x, h => by
    unfold idxT
    rw [idxT_set (by omega), getD_set_ne (by omega)]
theorem idxT_bd {cs : List Int} : ∀ {k : Nat} {vs : List Int}, valT cs vs k → 0 ≤ idxT cs vs k ∧ idxT cs vs k < prodT cs k
  | 0, _, _ => ⟨Int.le_refl _, by show (0 : Int) < 1; decide⟩
  | k + 1, vs, h => by
    have ih := @idxT_bd cs k vs (fun i hi => h i (by omega))
    have hk := h k (by omega)
    have h1 := Int.mul_nonneg ih.1 (show 0 ≤ cs.getD k 0 by omega)
    have h2 := Int.mul_le_mul_of_nonneg_right (show idxT cs vs k + 1 ≤ prodT cs k by omega) (show 0 ≤ cs.getD k 0 by omega)
    rw [Int.add_mul] at h2
    unfold idxT prodT
    omega
theorem nx_step {cs : List Int} : ∀ {k : Nat} {vs : List Int}, valT cs vs k → k ≤ vs.length → (nxB cs vs k = true → valT cs (nxV cs vs k) k ∧ idxT cs (nxV cs vs k) k = idxT cs vs k + 1) ∧ (nxB cs vs k = false → idxT cs vs k + 1 = prodT cs k)
  | 0, vs, _, _ => ⟨fun h => (by cases h), fun _ => rfl⟩
  | k + 1, vs, h, hl => by
    have hk := h k (by omega)
    have hr : valT cs vs k := fun i hi => h i (by omega)
    unfold nxB nxV
    by_cases he : vs.getD k 0 = cs.getD k 0 - 1
    · rw [if_pos he, if_pos he]
      have hs : valT cs (vs.set k 0) k := fun i hi => by rw [getD_set_ne (by omega)]; exact hr i hi
      have ih := @nx_step cs k (vs.set k 0) hs (by simp; omega)
      rw [idxT_set (Nat.le_refl _)] at ih
      have hg : ∀ (k' : Nat) (w : List Int), k' ≤ k → (nxV cs w k').getD k 0 = w.getD k 0 := by
        intro k'
        induction k' with
        | zero => intro w _; rfl
        | succ k' ihk =>
          intro w hw
          unfold nxV
          split
          · rw [ihk _ (by omega), getD_set_ne (by omega)]
          · rw [getD_set_ne (by omega)]
      have hz : (nxV cs (vs.set k 0) k).getD k 0 = 0 := by rw [hg k _ (Nat.le_refl _), getD_set_self (by omega)]
      refine ⟨fun hb => ?_, fun hb => ?_⟩
      · obtain ⟨h1, h2⟩ := ih.1 hb
        refine ⟨fun i hi => ?_, ?_⟩
        · by_cases hik : i = k
          · subst hik; rw [hz]; omega
          · exact h1 i (by omega)
        · unfold idxT
          rw [h2, hz, he, Int.add_mul]
          omega
      · have h2 := ih.2 hb
        unfold idxT prodT
        rw [← h2, he, Int.add_mul]
        omega
    · rw [if_neg he, if_neg he]
      refine ⟨fun _ => ⟨fun i hi => ?_, ?_⟩, fun hb => by cases hb⟩
      · by_cases hik : i = k
        · subst hik; rw [getD_set_self (by omega)]; omega
        · rw [getD_set_ne (by omega)]; exact h i hi
      · unfold idxT
        rw [idxT_set (Nat.le_refl _), getD_set_self (by omega)]
        omega
def cmb (cs : List Int) : Nat → List Int
  | 0 => List.replicate cs.length 0
  | j + 1 => nxV cs (cmb cs j) cs.length
theorem cmb_len (cs : List Int) : ∀ j, (cmb cs j).length = cs.length
  | 0 => by simp [cmb]
  | j + 1 => by rw [cmb, nxV_len, cmb_len cs j]
theorem getD_rep (n k : Nat) : (List.replicate n (0 : Int)).getD k 0 = 0 := by
  rw [List.getD_eq_getElem?_getD, List.getElem?_replicate]; split <;> rfl
theorem idxT_zero (cs : List Int) : ∀ k, idxT cs (List.replicate cs.length 0) k = 0
  | 0 => rfl
  | k + 1 => by unfold idxT; rw [idxT_zero cs k, getD_rep]; simp
theorem cmb_ok {cs : List Int} (hc : ∀ i, i < cs.length → 1 ≤ cs.getD i 0) : ∀ {j : Nat}, (j : Int) < prodT cs cs.length → valT cs (cmb cs j) cs.length ∧ idxT cs (cmb cs j) cs.length = j
  | 0, _ => ⟨fun i hi => by rw [cmb, getD_rep]; have := hc i hi; omega, by rw [cmb, idxT_zero]; rfl⟩
  | j + 1, h => by
    obtain ⟨h1, h2⟩ := @cmb_ok cs hc j (by omega)
    have hs := nx_step h1 (by rw [cmb_len]; exact Nat.le_refl _)
    cases hb : nxB cs (cmb cs j) cs.length with
    | true => obtain ⟨a, b⟩ := hs.1 hb; exact ⟨a, by rw [cmb, b, h2]; omega⟩
    | false => have := hs.2 hb; omega
theorem cmb_more {cs : List Int} (hc : ∀ i, i < cs.length → 1 ≤ cs.getD i 0) {j : Nat} (h : (j : Int) < prodT cs cs.length) : nxB cs (cmb cs j) cs.length = decide ((j : Int) + 1 < prodT cs cs.length) := by
  obtain ⟨h1, h2⟩ := cmb_ok hc h
  have hs := nx_step h1 (by rw [cmb_len]; exact Nat.le_refl _)
  cases hb : nxB cs (cmb cs j) cs.length with
  | true =>
    obtain ⟨a, b⟩ := hs.1 hb
    have := idxT_bd a
    rw [decide_eq_true (by omega)]
  | false =>
    have := hs.2 hb
    rw [decide_eq_false (by omega)]
def nxR (cs : List Int) : List Int → Nat → List Int
  | vs, 0 => vs
  | vs, k + 1 => if vs.getD k 0 = cs.getD k 0 - 1 then nxR cs (vs.set k 0) k else vs
def nxK (cs : List Int) : List Int → Nat → Nat
  | _, 0 => 0
  | vs, k + 1 => if vs.getD k 0 = cs.getD k 0 - 1 then nxK cs (vs.set k 0) k else k + 1
theorem nxR_len (cs : List Int) : ∀ (k : Nat) (vs : List Int), (nxR cs vs k).length = vs.length
  | 0, _ => rfl
  | k + 1, vs => by
    unfold nxR
    split
    · rw [nxR_len cs k]; simp
    · rfl
theorem nx_RK {cs : List Int} : ∀ {k : Nat} {vs : List Int}, valT cs vs k → (nxB cs vs k = true → 1 ≤ nxK cs vs k ∧ nxK cs vs k ≤ k ∧ nxV cs vs k = (nxR cs vs k).set (nxK cs vs k - 1) ((nxR cs vs k).getD (nxK cs vs k - 1) 0 + 1) ∧ 0 ≤ (nxR cs vs k).getD (nxK cs vs k - 1) 0 ∧ (nxR cs vs k).getD (nxK cs vs k - 1) 0 < cs.getD (nxK cs vs k - 1) 0) ∧ (nxB cs vs k = false → nxK cs vs k = 0 ∧ nxV cs vs k = nxR cs vs k)
  | 0, vs, _ => ⟨fun h => (by cases h), fun _ => ⟨rfl, rfl⟩⟩
  | k + 1, vs, h => by
    have hk := h k (by omega)
    unfold nxB nxV nxR nxK
    by_cases he : vs.getD k 0 = cs.getD k 0 - 1
    · rw [if_pos he, if_pos he, if_pos he, if_pos he]
      have ih := @nx_RK cs k (vs.set k 0) (fun i hi => by rw [getD_set_ne (by omega)]; exact h i (by omega))
      exact ⟨fun hb => ⟨(ih.1 hb).1, by have := (ih.1 hb).2.1; omega, (ih.1 hb).2.2⟩, ih.2⟩
    · rw [if_neg he, if_neg he, if_neg he, if_neg he]
      exact ⟨fun _ => ⟨by omega, by omega, rfl, hk.1, hk.2⟩, fun hb => by cases hb⟩
theorem head_row {l : List Int} {k : Nat} (h : k < l.length) : headF (dropF (0 + k * 1) (ints l)) = some (i6 (l.getD k 0)) := by
  rw [Nat.zero_add, dropF_eq]; exact head_intsD h
abbrev rw3 (l : List Int) : O := .row 3 none (ints l)
abbrev caS (hd hv : Nat) (cs : List Int) (q : Nat) (k : Nat) : List (Nat × V) := [(0, .yld hd), (1, .imp [.im q (ints cs)]), (3, .sl hv 0 q (some (q - q))), (4, i6 ((k : Int) - 1))]
def CaQ (H0 : T O) (hv nx0 : Nat) (cs : List Int) (vs : List Int) (q : Nat) (L : List Nat) (k : Nat) (H : T O) (nx : Nat) (lg : List Nat) : Prop := k = nxK cs vs q ∧ H = pt H0 hv (rw3 (nxR cs vs q)) ∧ nx = nx0 ∧ SubL lg L
theorem carry_loop (nx0 hd hv nx : Nat) (cs vs : List Int) (q : Nat) (hq : cs.length = q) (hv2 : vs.length = q) (h12 : q ≤ 12) (hc : ∀ i, i < q → 1 ≤ cs.getD i 0 ∧ cs.getD i 0 ≤ 8) (hval : valT cs vs q) (H0 : T O) (L lg0 : List Nat) (hL : hv ∈ L) (hlg : SubL lg0 L) :
    Sat Pg none nx0 (at' 72 [1, 0, 0, 1, 0, 1, 0, 0]) (mkSo g0 41 (caS hd hv cs q q) (pt H0 hv (rw3 vs)) nx lg0) (outsM g0 41 (.exit 2) (caS hd hv cs q) (CaQ H0 hv nx cs vs q L)) := by
  refine (loopOG (b := at' 72 [1, 0, 0, 1, 0, 1, 0, 0, 0]) (by kernel_rfl) (fun (p : Nat × List Int) M => p.1 ≤ q ∧ p.2.length = q ∧ valT cs p.2 q ∧ nxR cs p.2 p.1 = nxR cs vs q ∧ nxK cs p.2 p.1 = nxK cs vs q ∧ M.H = pt H0 hv (rw3 p.2) ∧ M.nx = nx ∧ SubL M.lg L) (fun p => caS hd hv cs q p.1) (fun p => p.1) (fun e sl M => e = .exit 2 ∧ ∃ k, sl = caS hd hv cs q k ∧ CaQ H0 hv nx cs vs q L k M.H M.nx M.lg) (fun p H nx1 lg G hI hN hE hR => ?_) (q, vs) ⟨_, _, _⟩ ⟨Nat.le_refl _, hv2, hval, rfl, rfl, rfl, rfl, hlg⟩).mono ?_
  · obtain ⟨k, row⟩ := p
    obtain ⟨hk, hl, hvr, e1, e2, rfl, rfl, hs⟩ := hI
    dsimp only at hk hl hvr e1 e2 hs hN
    cases k with
    | zero =>
      have hex := hE 2 (caS hd hv cs q 0) (pt H0 hv (rw3 row)) nx1 lg ⟨rfl, 0, rfl, e2, by rw [← e1]; rfl, rfl, hs⟩
      refine ⟨[no 15, toO (caS hd hv cs q 0)], 1000, ?_⟩
      clear hN hE hR
      refine Eq.mp (by kernel_rfl : (decide ((↑(0 : Nat) : Int) - (1 : Int) ≥ (0 : Int)) = false ∧ G (Ex.exit 2) (caS hd hv cs q 0) (pt H0 hv (rw3 row)) nx1 lg ∧ V.yld hd = V.yld hd ∧ V.imp [V.im q (ints cs)] = V.imp [V.im q (ints cs)] ∧ V.sl hv 0 q (some (q - q)) = V.sl hv 0 q (some (q - q)) ∧ i6 ((↑(0 : Nat) : Int) - (1 : Int)) = i6 ((↑(0 : Nat) : Int) - (1 : Int)) ∧ True) = _) ?_
      (repeat' (first | (with_reducible apply And.intro) | (refine fun (_ : True) => ?_))) <;> first | exact aq | skip
    | succ k =>
      have hb := hvr k (by omega)
      have hcb := hc k (by omega)
      have h1 := @head_row row k (by omega)
      have h2 := @head_intsD cs k (by omega)
      have g1 : gt (pt H0 hv (rw3 row)) hv = some (rw3 row) := by rw [gt_pt, if_pos rfl]
      have hl1 := @lay_ints row k 0 (by omega)
      by_cases he : row.getD k 0 = cs.getD k 0 - 1
      · have e3 : nxR cs row (k + 1) = nxR cs (row.set k 0) k := by conv => lhs; unfold nxR; rw [if_pos he]
        have e4 : nxK cs row (k + 1) = nxK cs (row.set k 0) k := by conv => lhs; unfold nxK; rw [if_pos he]
        have hnext := hN (k, row.set k 0) (pt (pt H0 hv (rw3 row)) hv (rw3 (row.set k 0))) nx1 ([hv] ++ lg) ⟨by dsimp only; omega, by simpa using hl, fun i hi => by
          by_cases hik : k = i
          · subst hik; dsimp only; rw [getD_set_self (by omega)]; omega
          · dsimp only; rw [getD_set_ne hik]; exact hvr i hi, by dsimp only; rw [← e3, e1], by dsimp only; rw [← e4, e2], pt_pt _ _ _ _, rfl, fun g hg => by
          rcases List.mem_cons.1 hg with rfl | hg
          · exact hL
          · exact hs g hg⟩ (by dsimp only; omega)
        refine ⟨[yes 15, pl 19, lo_ 20 (rw3 row) (i6 (row.getD k 0)), pl 23, ld 24 (i6 (cs.getD k 0)), nu 25 (cs.getD k 0 - 1), yes 26, pl 30, so (rw3 row) (ints (row.set k 0)), nu 32 ((k : Int) - 1), toO (caS hd hv cs q k)], 1000, ?_⟩
        clear hN hE hR e1 e2 e3 e4 hvr hc
        refine Eq.mp (by kernel_rfl : (decide ((↑(k + 1) : Int) - (1 : Int) ≥ (0 : Int)) = true ∧ ((0 : Int) ≤ (↑(k + 1) : Int) - (1 : Int) ∧ (↑(k + 1) : Int) - (1 : Int) < (↑q : Int)) ∧ gt (pt H0 hv (rw3 row)) hv = some (rw3 row) ∧ headF (dropF (0 + Int.toNat ((↑(k + 1) : Int) - (1 : Int)) * 1) (ints row)) = some (i6 (List.getD row k (0 : Int))) ∧ ((0 : Int) ≤ (↑(k + 1) : Int) - (1 : Int) ∧ (↑(k + 1) : Int) - (1 : Int) < (↑q : Int)) ∧ headF (List.drop (Int.toNat ((↑(k + 1) : Int) - (1 : Int)) * 1) (ints cs)) = some (i6 (List.getD cs k (0 : Int))) ∧ wr IntKind.i64 (List.getD cs k (0 : Int) - (1 : Int)) = List.getD cs k (0 : Int) - (1 : Int) ∧ (List.getD row k (0 : Int) == List.getD cs k (0 : Int) - (1 : Int)) = true ∧ ((0 : Int) ≤ (↑(k + 1) : Int) - (1 : Int) ∧ (↑(k + 1) : Int) - (1 : Int) < (↑q : Int)) ∧ (gt (pt H0 hv (rw3 row)) hv = some (rw3 row) ∧ layE (0 + Int.toNat ((↑(k + 1) : Int) - (1 : Int)) * 1) (ints row) [i6 0] = some (ints (List.set row k (0 : Int)))) ∧ wr IntKind.i64 ((↑(k + 1) : Int) - (1 : Int) - (1 : Int)) = (↑k : Int) - (1 : Int) ∧ G Ex.normal (caS hd hv cs q k) (pt (pt H0 hv (rw3 row)) hv (O.row 3 none (ints (List.set row k (0 : Int))))) nx1 ([hv] ++ lg) ∧ V.yld hd = V.yld hd ∧ V.imp [V.im q (ints cs)] = V.imp [V.im q (ints cs)] ∧ V.sl hv 0 q (some (q - q)) = V.sl hv 0 q (some (q - q)) ∧ i6 ((↑k : Int) - (1 : Int)) = i6 ((↑k : Int) - (1 : Int)) ∧ True) = _) ?_
        (repeat' (first | (with_reducible apply And.intro) | (refine fun (_ : True) => ?_))) <;> first | exact aq | skip
        all_goals first | exact g1 | exact h1 | exact h2 | exact hl1 | exact hnext | skip
      · have e3 : nxR cs row (k + 1) = row := by conv => lhs; unfold nxR; rw [if_neg he]
        have e4 : nxK cs row (k + 1) = k + 1 := by conv => lhs; unfold nxK; rw [if_neg he]
        have hex := hE 2 (caS hd hv cs q (k + 1)) (pt H0 hv (rw3 row)) nx1 lg ⟨rfl, k + 1, rfl, by rw [← e2, e4], by rw [← e1, e3], rfl, hs⟩
        refine ⟨[yes 15, pl 19, lo_ 20 (rw3 row) (i6 (row.getD k 0)), pl 23, ld 24 (i6 (cs.getD k 0)), nu 25 (cs.getD k 0 - 1), no 26, toO (caS hd hv cs q (k + 1))], 1000, ?_⟩
        clear hN hE hR e1 e2 e3 e4 hvr hc
        refine Eq.mp (by kernel_rfl : (decide ((↑(k + 1) : Int) - (1 : Int) ≥ (0 : Int)) = true ∧ ((0 : Int) ≤ (↑(k + 1) : Int) - (1 : Int) ∧ (↑(k + 1) : Int) - (1 : Int) < (↑q : Int)) ∧ gt (pt H0 hv (rw3 row)) hv = some (rw3 row) ∧ headF (dropF (0 + Int.toNat ((↑(k + 1) : Int) - (1 : Int)) * 1) (ints row)) = some (i6 (List.getD row k (0 : Int))) ∧ ((0 : Int) ≤ (↑(k + 1) : Int) - (1 : Int) ∧ (↑(k + 1) : Int) - (1 : Int) < (↑q : Int)) ∧ headF (List.drop (Int.toNat ((↑(k + 1) : Int) - (1 : Int)) * 1) (ints cs)) = some (i6 (List.getD cs k (0 : Int))) ∧ wr IntKind.i64 (List.getD cs k (0 : Int) - (1 : Int)) = List.getD cs k (0 : Int) - (1 : Int) ∧ (List.getD row k (0 : Int) == List.getD cs k (0 : Int) - (1 : Int)) = false ∧ G (Ex.exit 2) (caS hd hv cs q (k + 1)) (pt H0 hv (rw3 row)) nx1 lg ∧ V.yld hd = V.yld hd ∧ V.imp [V.im q (ints cs)] = V.imp [V.im q (ints cs)] ∧ V.sl hv 0 q (some (q - q)) = V.sl hv 0 q (some (q - q)) ∧ i6 ((↑(k + 1) : Int) - (1 : Int)) = i6 ((↑(k + 1) : Int) - (1 : Int)) ∧ True) = _) ?_
        (repeat' (first | (with_reducible apply And.intro) | (refine fun (_ : True) => ?_))) <;> first | exact aq | skip
        all_goals first | exact g1 | exact h1 | exact h2 | exact hex | skip
  · rintro e st ⟨sl', M', rfl, rfl, k, rfl, hQ⟩
    exact ⟨k, _, _, _, rfl, rfl, hQ⟩
abbrev coS (hd hv : Nat) (cs : List Int) (q : Nat) (_ : Nat) : List (Nat × V) := [(0, .yld hd), (1, .imp [.im q (ints cs)]), (3, .sl hv 0 q (some (q - q)))]
abbrev coQ (HP : T O) (hv nx0 : Nat) (fin : List Int) (L : List Nat) (_ : Nat) (H : T O) (nx : Nat) (lg : List Nat) : Prop := H = pt HP hv (rw3 fin) ∧ nx = nx0 ∧ SubL lg L
theorem comb_loop (nx0 hd hv nx : Nat) (cs : List Int) (q : Nat) (hq : cs.length = q) (h12 : q ≤ 12) (hc : ∀ i, i < q → 1 ≤ cs.getD i 0 ∧ cs.getD i 0 ≤ 8) (P : Nat) (hP : (P : Int) = prodT cs q) (HH : Nat → T O) (L LY : List Nat) (hL : hv ∈ L) (hLY : SubL LY L)
    (hy : ∀ j, j < P → CallSpec Pg g0 (.yld hd) [.sl hv 0 q (some (q - q))] (pt (HH j) hv (rw3 (cmb cs j))) nx ⟨.bool true, pt (HH (j + 1)) hv (rw3 (cmb cs j)), nx, LY⟩) (hP0 : 1 ≤ P) :
    Sat Pg none nx0 (at' 72 [1, 0]) (mkSo g0 41 (coS hd hv cs q 0) (pt (HH 0) hv (rw3 (cmb cs 0))) nx []) (outsM g0 41 .ret (fun _ => []) (coQ (HH P) hv nx (cmb cs P) L)) := by
  subst hq
  refine (loopOG (b := at' 72 [1, 0, 0]) (by kernel_rfl) (fun (j : Nat) M => j < P ∧ M.H = pt (HH j) hv (rw3 (cmb cs j)) ∧ M.nx = nx ∧ SubL M.lg L) (coS hd hv cs cs.length) (fun j => P - j) (fun e sl M => e = .ret ∧ sl = [] ∧ coQ (HH P) hv nx (cmb cs P) L 0 M.H M.nx M.lg) (fun j H nx1 lg G hI hN hE hR => ?_) 0 ⟨_, _, _⟩ ⟨by omega, rfl, rfl, fun g hg => by cases hg⟩).mono ?_
  · obtain ⟨hj, rfl, rfl, hs⟩ := hI
    dsimp only at hj hs
    have hcall := hy j hj
    obtain ⟨hval, _⟩ := @cmb_ok cs (fun i hi => (hc i hi).1) j (by omega)
    have hmore := @cmb_more cs (fun i hi => (hc i hi).1) j (by omega)
    have hl := cmb_len cs j
    have hcar := carry_loop nx0 hd hv nx1 cs (cmb cs j) cs.length rfl hl h12 hc hval (HH (j + 1)) L (LY ++ lg) hL (fun g hg => by
      rcases List.mem_append.1 hg with hg | hg
      · exact hLY g hg
      · exact hs g hg)
    have hRK := nx_RK hval
    have hRl := nxR_len cs cs.length (cmb cs j)
    rw [hl] at hRl
    have e1 : cmb cs (j + 1) = nxV cs (cmb cs j) cs.length := rfl
    generalize hR' : nxR cs (cmb cs j) cs.length = R at *
    generalize hK' : nxK cs (cmb cs j) cs.length = K at *
    cases hb : nxB cs (cmb cs j) cs.length with
    | true =>
      obtain ⟨k1, k2, k3, k4, k5⟩ := hRK.1 hb
      rw [← e1] at k3
      rw [hb] at hmore
      have hj2 : j + 1 < P := by have := of_decide_eq_true hmore.symm; omega
      have h8 := (hc (K - 1) (by omega)).2
      obtain ⟨k, rfl⟩ : ∃ k, K = k + 1 := ⟨K - 1, by omega⟩
      rw [show k + 1 - 1 = k by omega] at *
      have hh := @head_row R k (by omega)
      have hlay := @lay_ints R k (R.getD k 0 + 1) (by omega)
      rw [← k3] at hlay
      have g1 : gt (pt (HH (j + 1)) hv (rw3 R)) hv = some (rw3 R) := by rw [gt_pt, if_pos rfl]
      have hnext := fun lg' h => hN (j + 1) (pt (pt (HH (j + 1)) hv (rw3 R)) hv (rw3 (cmb cs (j + 1)))) nx1 lg' ⟨hj2, pt_pt _ _ _ _, rfl, h⟩ (by omega)
      refine ⟨[(10, .call ⟨.bool true, pt (HH (j + 1)) hv (rw3 (cmb cs j)), nx1, LY⟩), nu 13 ((cs.length : Int) - 1), (0, .loopM (caS hd hv cs cs.length cs.length) (.exit 2) (fun _ => caS hd hv cs cs.length (k + 1)) (CaQ (HH (j + 1)) hv nx1 cs (cmb cs j) cs.length L) (fun _ _ _ _ => [no 34, pl 37, lo_ 38 (rw3 R) (i6 (R.getD k 0)), nu 39 (R.getD k 0 + 1), pl 40, so (rw3 R) (ints (cmb cs (j + 1))), toO (coS hd hv cs cs.length (j + 1))]))], 1000, ?_⟩
      clear hN hE hR e1 hRK hc hy
      have hcar' : Sat Pg none nx0 (at' 72 [1, 0, 0, 1, 0, 1, 0, 0]) (mkSo g0 41 (caS hd hv cs cs.length cs.length) (pt (HH (j + 1)) hv (rw3 (cmb cs j))) nx1 (LY ++ lg)) (outsM g0 41 (Ex.exit 2) (fun x => caS hd hv cs cs.length (k + 1)) (CaQ (HH (j + 1)) hv nx1 cs (cmb cs j) cs.length L)) := hcar.mono (fun e st ⟨h, H, nx, lg, he, hst, hQ⟩ => ⟨h, H, nx, lg, he, by rw [hst, hQ.1, hK'], hQ⟩)
      have hz : ((k + 1 : Nat) : Int) - 1 = (k : Nat) := by omega
      refine Eq.mp (by kernel_rfl : (CallSpec Pg g0 (V.yld hd) [V.sl hv 0 (List.length cs) (some (List.length cs - List.length cs))] (pt (HH j) hv (rw3 (cmb cs j))) nx1 (CR.mk (V.bool true) (pt (HH (j + 1)) hv (rw3 (cmb cs j))) nx1 LY) ∧ True ∧ wr IntKind.i64 ((↑(List.length cs) : Int) - (1 : Int)) = (↑(List.length cs) : Int) - (1 : Int) ∧ (V.yld hd = V.yld hd ∧ V.imp [V.im (List.length cs) (ints cs)] = V.imp [V.im (List.length cs) (ints cs)] ∧ V.sl hv 0 (List.length cs) (some (List.length cs - List.length cs)) = V.sl hv 0 (List.length cs) (some (List.length cs - List.length cs)) ∧ i6 ((↑(List.length cs) : Int) - (1 : Int)) = i6 ((↑(List.length cs) : Int) - (1 : Int)) ∧ True) ∧ Sat Pg none nx0 (at' 72 [1, 0, 0, 1, 0, 1, 0, 0]) (mkSo g0 41 (caS hd hv cs (List.length cs) (List.length cs)) (pt (HH (j + 1)) hv (rw3 (cmb cs j))) nx1 (LY ++ lg)) (outsM g0 41 (Ex.exit 2) (fun x => caS hd hv cs (List.length cs) (k + 1)) (CaQ (HH (j + 1)) hv nx1 cs (cmb cs j) (List.length cs) L)) ∧ ∀ (h : Nat) (H : T O) (nx : Nat) (lg : List Nat), (h = nxK cs (cmb cs j) (List.length cs) ∧ H = pt (HH (j + 1)) hv (rw3 (nxR cs (cmb cs j) (List.length cs))) ∧ nx = nx1 ∧ ∀ (g : Nat), List.Mem g lg → List.Mem g L) → decide ((↑(k + 1) : Int) - (1 : Int) < (0 : Int)) = false ∧ ((0 : Int) ≤ (↑(k + 1) : Int) - (1 : Int) ∧ (↑(k + 1) : Int) - (1 : Int) < (↑(List.length cs) : Int)) ∧ gt H hv = some (rw3 R) ∧ headF (dropF (0 + Int.toNat ((↑(k + 1) : Int) - (1 : Int)) * 1) (ints R)) = some (i6 (List.getD R k (0 : Int))) ∧ wr IntKind.i64 (List.getD R k (0 : Int) + (1 : Int)) = List.getD R k (0 : Int) + (1 : Int) ∧ ((0 : Int) ≤ (↑(k + 1) : Int) - (1 : Int) ∧ (↑(k + 1) : Int) - (1 : Int) < (↑(List.length cs) : Int)) ∧ (gt H hv = some (rw3 R) ∧ layE (0 + Int.toNat ((↑(k + 1) : Int) - (1 : Int)) * 1) (ints R) [i6 (List.getD R k (0 : Int) + (1 : Int))] = some (ints (cmb cs (j + 1)))) ∧ G Ex.normal (coS hd hv cs (List.length cs) (j + 1)) (pt H hv (O.row 3 none (ints (cmb cs (j + 1))))) nx ([hv] ++ lg) ∧ V.yld hd = V.yld hd ∧ V.imp [V.im (List.length cs) (ints cs)] = V.imp [V.im (List.length cs) (ints cs)] ∧ V.sl hv 0 (List.length cs) (some (List.length cs - List.length cs)) = V.sl hv 0 (List.length cs) (some (List.length cs - List.length cs)) ∧ True) = _) ?_
      (repeat' (first | (with_reducible apply And.intro) | (refine fun (_ : True) => ?_))) <;> first | exact aq | skip
      all_goals first | exact hcar' | skip
      all_goals (rintro h H nx' lg' ⟨rfl, rfl, rfl, hs'⟩; rw [hR']; simp only [hz]; (repeat' (first | (with_reducible apply And.intro) | (refine fun (_ : True) => ?_))); all_goals first | exact aq | exact g1 | exact hh | exact hlay | (refine hnext _ (fun g hg => ?_); rcases List.mem_cons.1 hg with rfl | hg; exact hL; exact hs' g hg) | skip)
    | false =>
      obtain ⟨k1, k2⟩ := hRK.2 hb
      rw [← e1] at k2
      rw [hb] at hmore
      have hj2 : j + 1 = P := by have := of_decide_eq_false hmore.symm; omega
      have hout := fun lg' h => hR [] (pt (HH (j + 1)) hv (rw3 R)) nx1 lg' ⟨rfl, rfl, by rw [← k2, hj2], rfl, h⟩
      have hcar' : Sat Pg none nx0 (at' 72 [1, 0, 0, 1, 0, 1, 0, 0]) (mkSo g0 41 (caS hd hv cs cs.length cs.length) (pt (HH (j + 1)) hv (rw3 (cmb cs j))) nx1 (LY ++ lg)) (outsM g0 41 (Ex.exit 2) (fun x => caS hd hv cs cs.length 0) (CaQ (HH (j + 1)) hv nx1 cs (cmb cs j) cs.length L)) := hcar.mono (fun e st ⟨h, H, nx, lg, he, hst, hQ⟩ => ⟨h, H, nx, lg, he, by rw [hst, hQ.1, hK', k1], hQ⟩)
      refine ⟨[(10, .call ⟨.bool true, pt (HH (j + 1)) hv (rw3 (cmb cs j)), nx1, LY⟩), nu 13 ((cs.length : Int) - 1), (0, .loopM (caS hd hv cs cs.length cs.length) (.exit 2) (fun _ => caS hd hv cs cs.length 0) (CaQ (HH (j + 1)) hv nx1 cs (cmb cs j) cs.length L) (fun _ _ _ _ => [yes 34, toO []]))], 1000, ?_⟩
      clear hN hE hR e1 hRK hc hy
      refine Eq.mp (by kernel_rfl : (CallSpec Pg g0 (V.yld hd) [V.sl hv 0 (List.length cs) (some (List.length cs - List.length cs))] (pt (HH j) hv (rw3 (cmb cs j))) nx1 (CR.mk (V.bool true) (pt (HH (j + 1)) hv (rw3 (cmb cs j))) nx1 LY) ∧ True ∧ wr IntKind.i64 ((↑(List.length cs) : Int) - (1 : Int)) = (↑(List.length cs) : Int) - (1 : Int) ∧ (V.yld hd = V.yld hd ∧ V.imp [V.im (List.length cs) (ints cs)] = V.imp [V.im (List.length cs) (ints cs)] ∧ V.sl hv 0 (List.length cs) (some (List.length cs - List.length cs)) = V.sl hv 0 (List.length cs) (some (List.length cs - List.length cs)) ∧ i6 ((↑(List.length cs) : Int) - (1 : Int)) = i6 ((↑(List.length cs) : Int) - (1 : Int)) ∧ True) ∧ Sat Pg none nx0 (at' 72 [1, 0, 0, 1, 0, 1, 0, 0]) (mkSo g0 41 (caS hd hv cs (List.length cs) (List.length cs)) (pt (HH (j + 1)) hv (rw3 (cmb cs j))) nx1 (LY ++ lg)) (outsM g0 41 (Ex.exit 2) (fun x => caS hd hv cs (List.length cs) 0) (CaQ (HH (j + 1)) hv nx1 cs (cmb cs j) (List.length cs) L)) ∧ ∀ (h : Nat) (H : T O) (nx : Nat) (lg : List Nat), (h = nxK cs (cmb cs j) (List.length cs) ∧ H = pt (HH (j + 1)) hv (rw3 (nxR cs (cmb cs j) (List.length cs))) ∧ nx = nx1 ∧ ∀ (g : Nat), List.Mem g lg → List.Mem g L) → decide ((↑(0 : Nat) : Int) - (1 : Int) < (0 : Int)) = true ∧ G Ex.ret [] H nx lg ∧ True) = _) ?_
      (repeat' (first | (with_reducible apply And.intro) | (refine fun (_ : True) => ?_))) <;> first | exact aq | skip
      all_goals first | exact hcar' | skip
      all_goals (rintro h H nx' lg' ⟨rfl, rfl, rfl, hs'⟩; rw [hR']; (repeat' (first | (with_reducible apply And.intro) | (refine fun (_ : True) => ?_))); all_goals first | exact aq | (exact hout _ hs') | skip)
  · rintro e st ⟨sl', M', rfl, rfl, rfl, hQ⟩
    exact ⟨0, _, _, _, rfl, rfl, hQ⟩
theorem comb_any (hd nx : Nat) (cs : List Int) (q : Nat) (hq : cs.length = q) (h12 : q ≤ 12) (hc : ∀ i, i < q → 1 ≤ cs.getD i 0 ∧ cs.getD i 0 ≤ 8) (P : Nat) (hP : (P : Int) = prodT cs q) (hP0 : 1 ≤ P) (HH : Nat → T O) (LY : List Nat)
    (hy : ∀ j, j < P → CallSpec Pg g0 (.yld hd) [.sl nx 0 q (some (q - q))] (pt (HH j) nx (rw3 (cmb cs j))) (nx + 1) ⟨.bool true, pt (HH (j + 1)) nx (rw3 (cmb cs j)), nx + 1, LY⟩)
    (hlog : ∀ i, i ∉ LY → (HH P).get i = (HH 0).get i) :
    CallSpec Pg g0 (.fn 72 [.imp [.im q (ints cs)]]) [.yld hd] (HH 0) nx ⟨.tup [], pt (HH P) nx (rw3 (cmb cs P)), nx + 1, nx :: LY⟩ := by
  refine CallSpec.caps ?_
  have l := comb_loop nx hd nx (nx + 1) cs q hq h12 hc P hP HH (nx :: LY) LY (by simp) (fun g hg => List.mem_cons_of_mem _ hg) hy hP0
  have hz : rep q [i6 0] = ints (cmb cs 0) := by rw [rep_ints, cmb, hq]
  refine CallSpec.of_vcS vE_ok mixed sp0_ok (n := 1000) (hs := [mk 7, (0, .loopM (coS hd nx cs q 0) .ret (fun _ => []) (coQ (HH P) nx (nx + 1) (cmb cs P) (nx :: LY)) (fun _ _ _ _ => []))]) ?_ ?_
  · refine ⟨Nat.le_succ _, fun i hi hn => ?_⟩
    simp only [List.mem_cons, not_or] at hi
    dsimp only
    rw [pt_eq, T.get_put, if_neg hi.1]
    exact hlog i hi.2
  · clear hy hlog
    refine Eq.mp (by kernel_rfl : (((0 : Int) ≤ (↑q : Int) ∧ (↑q : Int) ≤ (↑q : Int) ∧ (↑(8 : Nat) : Int) * (↑q : Int) ≤ (281474976710656 : Int) ∧ (↑q : Int) ≤ (9223372036854775807 : Int)) ∧ (V.yld hd = V.yld hd ∧ V.imp [V.im q (ints cs)] = V.imp [V.im q (ints cs)] ∧ V.sl nx 0 q (some (q - q)) = V.sl nx 0 q (some (q - q)) ∧ True) ∧ Sat Try.prog none nx (at' 72 [1, 0]) (mkSo g0 41 (coS hd nx cs q 0) (pt (HH 0) nx (O.row 3 none (rep q [i6 0]))) (nx + 1) []) (outsM g0 41 Ex.ret (fun x => []) (coQ (HH P) nx (nx + 1) (cmb cs P) (nx :: LY))) ∧ ∀ (h : Nat) (H : T O) (nx_1 : Nat) (lg : List Nat), (H = pt (HH P) nx (rw3 (cmb cs P)) ∧ nx_1 = nx + 1 ∧ ∀ (g : Nat), List.Mem g lg → List.Mem g (nx :: LY)) → V.tup [] = V.tup [] ∧ H = pt (HH P) nx (rw3 (cmb cs P)) ∧ nx_1 = nx + 1 ∧ ∀ (g : Nat), List.Mem g lg → List.Mem g (nx :: LY)) = _) ?_
    (repeat' (first | (with_reducible apply And.intro) | (refine fun (_ : True) => ?_))) <;> first | exact aq | skip
    all_goals skip
end Go.Proofs.Ytgdnmgcigkhojaa.Am

namespace Go.Proofs.Ytgdnmgcigkhojaa.Am
open Go.RowKit
set_option linter.unusedVariables false
set_option maxHeartbeats 1000000
set_option maxRecDepth 100000
noncomputable def rfBody : Code → Code
  | .rangeFunc _ _ _ b => b
  | c => c
noncomputable def rfAsg : Code → Code
  | .rangeFunc _ _ a _ => a
  | c => c
noncomputable def kAsg (n : Nat) (sl1 : List (Nat × V)) (H : T O) (nx : Nat) : KF := fun e _ st => match e with
  | .normal => bif Nat.beq st.tm.n n then slotsQ st.tm sl1 ∧ st.H = H ∧ st.nx = nx ∧ st.lg = [] else False
  | _ => False
noncomputable def kBdy (H : T O) (nx : Nat) (L : List Nat) : KF := fun e _ st => match e with
  | .normal => st.H = H ∧ st.nx = nx ∧ SubL st.lg L
  | _ => False
theorem CallSpec.yldC {P : Program} {E : Env} {sp : SpecT} (hE : E.Ok P) (hm : P.follows .mixedOrders = true) {gl : T (List V)} (hsp : SpecOk P gl sp) {n hd : Nat} {ars : List V} {H H2 : T O} {nx : Nat} {tm tm1 : TM} {ps : List Nat} {assign body : Code} {fn0 : Nat} {sl0 sl1 : List (Nat × V)} {L : List Nat} {hs0 : Hs} {hs1 : O → Hs} {m0 m1 : Nat}
    (ho : gt H hd = some (.loop .ready none fn0 tm ps assign body)) (htm1 : putPs tm ps ars = some tm1) (hn : tm1.n = n) (hg : tm1.gl = gl) (h0 : slotsQ tm1 sl0)
    (ha : ∀ (H : T O) (nx : Nat), vc P E sp (some hd) nx m0 assign hs0 (mkSo gl n sl0 H nx []) (kAsg n sl1 H nx))
    (hb : ∀ Lb : O, vc P E sp (some hd) nx m1 body (hs1 Lb) (mkSo gl n sl1 (pt H hd Lb) nx [hd]) (kBdy (pt H2 hd Lb) nx L))
    (hL : hd ∈ L) (hlog : ∀ i, i ∉ L → H2.get i = H.get i) (h2 : gt H2 hd = some (.loop .ready none fn0 tm ps assign body)) : CallSpec P gl (.yld hd) ars H nx ⟨.bool true, H2, nx, L⟩ := by
  rw [gt_eq] at ho h2
  refine CallSpec.yld ho htm1 ⟨Nat.le_refl _, fun i hi _ => hlog i hi⟩ ?_
  have hst : (⟨tm1, H, nx, []⟩ : St) = ⟨⟨tm1.sl, gl, n⟩, H, nx, []⟩ := by cases tm1; subst hn hg; rfl
  rw [hst]
  refine Sat.fewer (sl := sl0) (by obtain ⟨a, b, c⟩ := tm1; cases hn; cases hg; exact h0) ?_
  refine Sat.fewer_post ?_
  refine Sat.of_vc hE hm hsp rfl (ha H nx) fun e hs' st' hgl hk => ?_
  unfold kAsg at hk
  split at hk
  · obtain ⟨hb1, k1, k2, k3, k4⟩ := bif_false hk
    have hn' := Nat.eq_of_beq_eq_true hb1
    refine ⟨sl1, k1, rfl, none, fn0, tm, ps, assign, body, by show st'.H.get hd = _; rw [k2]; exact ho, ?_⟩
    show Sat P (some hd) nx body ⟨_, st'.H.put hd _, st'.nx, hd :: st'.lg⟩ _
    rw [k2, k3, k4]
    have e0 : (mkSo st'.tm.gl st'.tm.n sl1 H nx []).tm = (mkSo gl n sl1 H nx []).tm := by rw [hgl, hn']
    rw [e0]
    have hb' := hb (.loop .busy none fn0 tm ps assign body)
    rw [pt_eq] at hb'
    refine Sat.of_vc hE hm hsp rfl hb' fun e hs2 st2 hgl2 hk2 => ?_
    unfold kBdy at hk2
    split at hk2
    · obtain ⟨q1, q2, q3⟩ := hk2
      refine ⟨.busy, none, fn0, tm, ps, assign, body, by rw [q1, pt_eq, T.get_put, if_pos rfl], rfl, ?_, q2.symm, fun x hx => ?_⟩
      · show H2 = _
        rw [q1]
        have : ∀ x : O, (pt H2 hd x).put hd (.loop .ready none fn0 tm ps assign body) = H2 := fun x => by
          rw [← pt_eq, pt_pt, pt_same (by rw [gt_eq]; exact h2)]
        exact (this _).symm
      · rcases List.mem_cons.1 hx with rfl | hx
        · exact hL
        · exact q3 x hx
    · exact hk2.elim
  · exact hk.elim
theorem Sat.rangeC {P : Program} {gl : T (List V)} {rd : Option Nat} {nx0 : Nat} {g : Operand} {ps : Array Tmp} {asg body : Code} {f : Nat} {caps : List V} {n : Nat} {S S' : SL} {H1 : T O} {nx1 : Nat} {r L : List Nat} {v : V}
    (hg : ev (mkSt gl n S).tm g = some (.fn f caps)) (hlb : rdOk rd (mkSt gl n S).H = true)
    (hc : CallSpec P gl (.fn f caps) [.yld S.os.length] (pt (ofOs .e 0 S.os) S.os.length (.loop .ready none 0 (mkSt gl n S).tm ps.toList asg body)) (S.os.length + 1) ⟨v, H1, nx1, L⟩)
    (h1 : gt H1 S.os.length = some (.loop .ready none 0 (mkSt gl n S).tm ps.toList asg body))
    (hr : gcP nx0 r ⟨(mkSt gl n S).tm, pt H1 S.os.length .dead, nx1, L ++ S.lg⟩ S') :
    Sat P rd nx0 (.rangeFunc g ps asg body) (mkSt gl n S) (outsP gl n [(True, .normal, S')]) := by
  rw [pt_eq] at hc
  rw [gt_eq] at h1
  rw [pt_eq] at hr
  refine Sat.gc_post (Sat.rangeFunc' hg hlb hc (.inl ⟨0, _, _, _, _, h1, r, mkSt gl n S', gcP_gc hr, .inl ⟨trivial, rfl, rfl⟩⟩))
end Go.Proofs.Ytgdnmgcigkhojaa.Am

namespace Go.Proofs.Ytgdnmgcigkhojaa.Am
open Go.RowKit
set_option linter.unusedVariables false
set_option maxHeartbeats 1000000
set_option maxRecDepth 100000
theorem head85 {x y w : V} {f : Nat → Int} {k : Nat} (h : k < 64) : headF (dropF (k + 3) (x :: y :: w :: a64 f)) = some (i6 (f k)) := @head64 f k h
abbrev naS (h hv : Nat) (vars : List Int) (room : Option Nat) (st : Nat → Int) (vals : List Int) (n k : Nat) : List (Nat × V) := [(0, .ptr h 0), (2, .sl hv 0 n room), (7, i6 (numT st vars vals k)), (10, .im n (ints vars)), (11, i6 n), (12, i6 k)]
theorem number_any (h hv : Nat) (x y w : V) (st : Nat → Int) (vars vals : List Int) (n : Nat) (room : Option Nat) (hN : NumOk st vars vals n) (H : T O) (nx : Nat) (rd : Option Nat) (h1 : gt H h = some (.row 85 none (x :: y :: w :: a64 st))) (h2 : gt H hv = some (rw3 vals)) :
    CallSpec Pg g0 (.fn 43 []) [.ptr h 0, .im n (ints vars), .sl hv 0 n room] H nx ⟨i6 (numT st vars vals n), H, nx, []⟩ := by
  have l : Sat Pg none nx (at' 43 [1, 1, 0, 1, 0]) (mkSo g0 32 (naS h hv vars room st vals n 0) H nx []) (outsF g0 32 H nx [] [(True, .exit 0, [(7, i6 (numT st vars vals n))])]) := by
    refine loopFr (b := at' 43 [1, 1, 0, 1, 0, 0]) (by kernel_rfl) (fun k => k ≤ n) (naS h hv vars room st vals n) (fun k => n - k) _ H nx [] (fun k G hk hX hE => ?_) 0 (Nat.zero_le _)
    have hn := hN.m
    by_cases hlt : k < n
    · have g1 := @head_intsD vars k (by have := hN.lv; omega)
      have g2 := @head_row vals k (by have := hN.lx; omega)
      have hx := hN.x k hlt
      have hb := hN.bd k hk
      have hb1 := hN.bd (k + 1) hlt
      obtain ⟨v, hv'⟩ : ∃ v : Nat, vars.getD k 0 = v := ⟨(vars.getD k 0).toNat, by have := hN.v k hlt; omega⟩
      have hv2 := hN.v k hlt
      have hs := hN.s v
      have h3 := Int.mul_nonneg hx.1 hs.1
      have h4 := Int.mul_le_mul hx.2 hs.2 hs.1 (by omega)
      have e : numT st vars vals (k + 1) = numT st vars vals k + vals.getD k 0 * st v := by show _ + _ * st (vars.getD k 0).toNat = _; rw [hv']; rfl
      have hp := @place85 h v (by omega)
      have hh := @head85 x y w st v (by omega)
      rw [← hv'] at hp
      have hnext := hX (k + 1) (by omega) (by omega)
      refine ⟨[yes 13, pl 15, ld 16 (i6 (vars.getD k 0)), pl 20, lo_ 21 (rw3 vals) (i6 (vals.getD k 0)), va 26 (.ptr h (v + 3)), lo_ 27 (.row 85 none (x :: y :: w :: a64 st)) (i6 (st v)), nu 28 (vals.getD k 0 * st v), nu 29 (numT st vars vals (k + 1)), nu 30 (k + 1 : Nat), toO (naS h hv vars room st vals n (k + 1))], 1000, ?_⟩
      clear hN hX hE
      refine Eq.mp (by kernel_rfl : (decide ((↑k : Int) < (↑n : Int)) = true ∧ ((0 : Int) ≤ (↑k : Int) ∧ (↑k : Int) < (↑n : Int)) ∧ headF (List.drop (k * 1) (ints vars)) = some (i6 (List.getD vars k (0 : Int))) ∧ ((0 : Int) ≤ (↑k : Int) ∧ (↑k : Int) < (↑n : Int)) ∧ gt H hv = some (rw3 vals) ∧ headF (dropF (0 + k * 1) (ints vals)) = some (i6 (List.getD vals k (0 : Int))) ∧ placeV (ctxOf Try.prog) 83 (V.ptr h (0 + 3)) (List.getD vars k (0 : Int)) = some (V.ptr h (v + 3)) ∧ gt H h = some (O.row 85 none (x :: y :: w :: a64 st)) ∧ headF (dropF (v + 3) (x :: y :: w :: a64 st)) = some (i6 (st v)) ∧ wr IntKind.i64 (List.getD vals k (0 : Int) * st v) = List.getD vals k (0 : Int) * st v ∧ wr IntKind.i64 (numT st vars vals k + List.getD vals k (0 : Int) * st v) = numT st vars vals (k + 1) ∧ wr IntKind.i64 ((↑k : Int) + (1 : Int)) = (↑(k + 1) : Int) ∧ G Ex.normal (naS h hv vars room st vals n (k + 1)) H nx [] ∧ V.ptr h 0 = V.ptr h 0 ∧ V.sl hv 0 n room = V.sl hv 0 n room ∧ i6 (numT st vars vals (k + 1)) = i6 (numT st vars vals (k + 1)) ∧ V.im n (ints vars) = V.im n (ints vars) ∧ i6 (↑n : Int) = i6 (↑n : Int) ∧ i6 (↑(k + 1) : Int) = i6 (↑(k + 1) : Int) ∧ True) = _) ?_
      (repeat' (first | (with_reducible apply And.intro) | (refine fun (_ : True) => ?_))) <;> first | exact aq | skip
      all_goals first | exact hp | exact h1 | exact h2 | exact g1 | exact g2 | exact hh | exact hnext | skip
    · have : k = n := by omega
      subst this
      have hex := hE 0 _ (.inl ⟨trivial, rfl, rfl⟩)
      refine ⟨[no 13, toO [(7, i6 (numT st vars vals k))]], 1000, ?_⟩
      clear hN hX hE
      refine Eq.mp (by kernel_rfl : (decide ((↑k : Int) < (↑k : Int)) = false ∧ G (Ex.exit 0) [(7, i6 (numT st vars vals k))] H nx [] ∧ i6 (numT st vars vals k) = i6 (numT st vars vals k) ∧ True) = _) ?_
      (repeat' (first | (with_reducible apply And.intro) | (refine fun (_ : True) => ?_))) <;> first | exact aq | skip
  refine CallSpec.of_vcS vE_ok mixed sp0_ok (n := 1000) (hs := [lpF (naS h hv vars room st vals n 0) (.exit 0) [(7, i6 (numT st vars vals n))]]) (Log.refl _ _ _) ?_
  clear hN
  refine Eq.mp (by kernel_rfl : ((V.ptr h 0 = V.ptr h 0 ∧ V.sl hv 0 n room = V.sl hv 0 n room ∧ i6 0 = i6 (numT st vars vals 0) ∧ V.im n (ints vars) = V.im n (ints vars) ∧ i6 (↑n : Int) = i6 (↑n : Int) ∧ i6 0 = i6 (↑(0 : Nat) : Int) ∧ True) ∧ Sat Try.prog none nx (at' 43 [1, 1, 0, 1, 0]) (mkSo g0 32 (naS h hv vars room st vals n 0) H nx []) (outsF g0 32 H nx [] [(True, Ex.exit 0, [(7, i6 (numT st vars vals n))])]) ∧ (True → i6 (numT st vars vals n) = i6 (numT st vars vals n) ∧ H = H ∧ nx = nx ∧ ∀ (g : Nat), List.Mem g [] → List.Mem g []) ∧ True) = _) ?_
  (repeat' (first | (with_reducible apply And.intro) | (refine fun (_ : True) => ?_))) <;> first | exact aq | skip
  all_goals first | rfl | skip
abbrev rgS (q : Nat) (ls : List Int) : List (Nat × V) := [(6, .ptr 0 0), (8, .ptr 1 0), (10, .ptr 2 0), (15, .ptr 4 0), (19, .ptr 5 0), (165, .fn 72 [.imp [.im q (ints ls)]])]
abbrev rgO (keep : List Int) (n : Nat) (op : List V) (c : List V) (m : Nat) (F : Nat → Int) (q : Nat) (lv : List Int) (sK : Nat → Int) (cl : List Int) (sz : Nat) (W : List V) : List O := [r3, .row 79 none op, .row 82 none [.im m c], .row 83 none (a64 F), .row 29 none [.im q (ints lv)], .row 85 none (.im n (ints keep) :: .im n (ints cl) :: .sl 6 0 sz (some (sz - sz)) :: a64 sK), .row 23 none W]
noncomputable abbrev rgC : Code := at' 15 [1, 1, 1, 1, 1, 1, 1, 1, 1, 1, 1, 1, 1, 1, 1, 1, 1, 0, 1, 0]
theorem rg_eq : rgC = .rangeFunc (.tmp 165) #[166] (rfAsg rgC) (rfBody rgC) := by kernel_rfl
noncomputable def rgB : Code := rfBody rgC
noncomputable def rgA : Code := rfAsg rgC
theorem rg_asg (q : Nat) (H : T O) (nx : Nat) : vc Pg vE sp0 (some 7) nx 1000 rgA [] (mkSo g0 209 [(8, .ptr 1 0), (10, .ptr 2 0), (15, .ptr 4 0), (19, .ptr 5 0), (166, .sl 8 0 q (some (q - q)))] H nx []) (kAsg 209 [(8, .ptr 1 0), (10, .ptr 2 0), (15, .ptr 4 0), (19, .ptr 5 0), (25, .sl 8 0 q (some (q - q)))] H nx) := by
  refine Eq.mp (by kernel_rfl : ((V.ptr 1 0 = V.ptr 1 0 ∧ V.ptr 2 0 = V.ptr 2 0 ∧ V.ptr 4 0 = V.ptr 4 0 ∧ V.ptr 5 0 = V.ptr 5 0 ∧ V.sl 8 0 q (some (q - q)) = V.sl 8 0 q (some (q - q)) ∧ True) ∧ H = H ∧ nx = nx ∧ ([] : List Nat) = []) = _) ?_
  (repeat' (first | (with_reducible apply And.intro) | (refine fun (_ : True) => ?_))) <;> first | exact aq | skip
  all_goals skip
theorem rg_body (keep : List Int) (n : Nat) (z o u : Int) (fv fp ft : Nat) (c : List V) (hc : HfL c) (m : Nat) (F : Nat → Int) (q : Nat) (lv vals : List Int) (sK : Nat → Int) (cl : List Int) (sz : Nat) (A B : Nat → Int) (x : Nat) (a b p r : Int) (hx : x < sz) (hz : sz ≤ 4096)
    (hN : NumOk sK lv vals q) (hat : numT sK lv vals q = x)
    (hprod : FnOk Pg g0 44 [.agg (opL z o u fv fp ft), .im m c, .im q (ints lv), .im q (ints vals)] (el a b))
    (hplus : FnOk Pg g0 fp [el (A x) (B x), el a b] (el p r)) (Lb : O) :
    vc Pg vE sp0 (some 7) 9 1000 rgB [(169, .call ⟨i6 (x : Int), ofOs .e 0 (rgO keep n (opL z o u fv fp ft) c m F q lv sK cl sz (elF A B sz) ++ [Lb, rw3 vals]), 9, []⟩), fn 186 (el a b), pl 180, ld 181 (el (A x) (B x)), fn 187 (el p r), pl 188, st (elF (up64 A x p) (up64 B x r) sz)] (mkSo g0 209 [(8, .ptr 1 0), (10, .ptr 2 0), (15, .ptr 4 0), (19, .ptr 5 0), (25, .sl 8 0 q (some (q - q)))] (ofOs .e 0 (rgO keep n (opL z o u fv fp ft) c m F q lv sK cl sz (elF A B sz) ++ [Lb, rw3 vals])) 9 [7]) (kBdy (ofOs .e 0 (rgO keep n (opL z o u fv fp ft) c m F q lv sK cl sz (elF (up64 A x p) (up64 B x r) sz) ++ [Lb, rw3 vals])) 9 [7, 6]) := by
  have hl := @lay_elF A B sz x p r hx
  have hel := @head_elF A B sz x hx
  have hH := HfL_ints vals
  have hnum := fun H h1 h2 => number_any 5 8 (.im n (ints keep)) (.im n (ints cl)) (.sl 6 0 sz (some (sz - sz))) sK lv vals q (some (q - q)) hN H 9 (some 7) h1 h2
  rw [hat] at hnum
  clear hN hat
  refine Eq.mp (by kernel_rfl : (CallSpec Pg g0 (V.fn 43 []) [V.ptr 5 0, V.im q (ints lv), V.sl 8 0 q (some (q - q))] (ofOs T.e 0 (rgO keep n (opL z o u fv fp ft) c m F q lv sK cl sz (elF A B sz) ++ [Lb, rw3 vals])) 9 (CR.mk (i6 (↑x : Int)) (ofOs T.e 0 (rgO keep n (opL z o u fv fp ft) c m F q lv sK cl sz (elF A B sz) ++ [Lb, rw3 vals])) 9 []) ∧ True ∧ ((TT 7) ∧ True ∧ True ∧ HfL (ints vals) ∧ True) ∧ FnOk Pg g0 44 [V.agg [i6 z, i6 0, i6 o, i6 u, V.fn fv [], V.fn fp [], V.fn ft []], V.im m c, V.im q (ints lv), V.im q (ints vals)] (el a b) ∧ True ∧ ((0 : Int) ≤ (↑x : Int) ∧ (↑x : Int) < (↑sz : Int)) ∧ takeE 2 (dropF (0 + x * 2) (elF A B sz)) = some [i6 (A x), i6 (B x)] ∧ ((True ∧ True ∧ True) ∧ (True ∧ True ∧ True) ∧ True) ∧ FnOk Pg g0 fp [V.agg [i6 (A x), i6 (B x)], V.agg [i6 a, i6 b]] (el p r) ∧ ((V.fn 44 [] = V.fn fp [] → [V.agg [i6 z, i6 0, i6 o, i6 u, V.fn fv [], V.fn fp [], V.fn ft []], V.im m c, V.im q (ints lv), V.sl 8 0 q (some (q - q))] = [V.agg [i6 (A x), i6 (B x)], el a b] → ofOs T.e 0 (rgO keep n (opL z o u fv fp ft) c m F q lv sK cl sz (elF A B sz) ++ [Lb, rw3 vals]) = ofOs T.e 0 (rgO keep n (opL z o u fv fp ft) c m F q lv sK cl sz (elF A B sz) ++ [Lb, rw3 vals]) → 9 = 9 → CR.mk (el a b) (ofOs T.e 0 (rgO keep n (opL z o u fv fp ft) c m F q lv sK cl sz (elF A B sz) ++ [Lb, rw3 vals])) 9 [] = CR.mk (el p r) (ofOs T.e 0 (rgO keep n (opL z o u fv fp ft) c m F q lv sK cl sz (elF A B sz) ++ [Lb, rw3 vals])) 9 []) ∧ True) ∧ ((0 : Int) ≤ (↑x : Int) ∧ (↑x : Int) < (↑sz : Int)) ∧ layE (0 + x * 2) (elF A B sz) [i6 p, i6 r] = some (elF (up64 A x p) (up64 B x r) sz) ∧ pt (ofOs T.e 0 (rgO keep n (opL z o u fv fp ft) c m F q lv sK cl sz (elF A B sz) ++ [Lb, rw3 vals])) 6 (O.row 23 none (elF (up64 A x p) (up64 B x r) sz)) = ofOs T.e 0 (rgO keep n (opL z o u fv fp ft) c m F q lv sK cl sz (elF (up64 A x p) (up64 B x r) sz) ++ [Lb, rw3 vals]) ∧ 9 = 9 ∧ ∀ (g : Nat), List.Mem g ([6] ++ ([] ++ ([] ++ ([] ++ [7])))) → List.Mem g [7, 6]) = _) ?_
  (repeat' (first | (with_reducible apply And.intro) | (refine fun (_ : True) => ?_))) <;> first | exact aq | skip
  all_goals first | exact hl | (rw [Nat.zero_add, dropF_eq]; exact hel) | (exact hnum _ rfl rfl) | rfl | (intro g (hg : g ∈ [6, 7]); show g ∈ [7, 6]; simp only [List.mem_cons, List.not_mem_nil, or_false] at hg ⊢; omega) | skip
structure RndOk (kd : Int) (op : List V) (fp : Nat) (c : List V) (m : Nat) (lv ls : List Int) (q : Nat) (sK : Nat → Int) (sz P : Nat) (at_ : Nat → Nat) (pA pB : Nat → Int) (WA WB : Nat → Nat → Int) (wp wq : Nat → Int) : Prop where
  num : ∀ j, j < P → NumOk sK lv (cmb ls j) q ∧ numT sK lv (cmb ls j) q = at_ j ∧ at_ j < sz
  prod : ∀ j, j < P → FnOk Pg g0 44 [.agg op, .im m c, .im q (ints lv), .im q (ints (cmb ls j))] (el (pA j) (pB j))
  plus : ∀ j, j < P → FnOk Pg g0 fp [el (WA j (at_ j)) (WB j (at_ j)), el (pA j) (pB j)] (el (wp j) (wq j))
  next : ∀ j, j < P → WA (j + 1) = up64 (WA j) (at_ j) (wp j) ∧ WB (j + 1) = up64 (WB j) (at_ j) (wq j)
section
variable (keep : List Int) (n : Nat) (z o u : Int) (fv fp ft : Nat) (c : List V) (m : Nat) (F : Nat → Int) (q : Nat) (lv ls : List Int) (sK : Nat → Int) (cl : List Int) (sz : Nat)
abbrev rgSt (W : List V) : SL := { sl := rgS q ls, os := rgO keep n (opL z o u fv fp ft) c m F q lv sK cl sz W, md := [0, 0, 0, 0, 0, 1] }
noncomputable def rgL (W : List V) : O := .loop .ready none 0 (mkSt g0 209 (rgSt keep n z o u fv fp ft c m F q lv ls sK cl sz W)).tm [166] rgA rgB
abbrev rgX (W : List V) : SL := { sl := [(6, .ptr 0 0), (19, .ptr 1 0)], os := [r3, .row 85 none (.im n (ints keep) :: .im n (ints cl) :: .im sz W :: a64 sK)], md := [0, 1] }
end
theorem pt_get_congr {A B : T O} {i k : Nat} {x : O} (h : A.get i = B.get i) : (pt A k x).get i = (pt B k x).get i := by
  rw [pt_eq, pt_eq, T.get_put, T.get_put, h]
theorem rg_same (keep : List Int) (n : Nat) (op : List V) (c : List V) (m : Nat) (F : Nat → Int) (q : Nat) (lv : List Int) (sK : Nat → Int) (cl : List Int) (sz : Nat) (W W' : List V) (L : O) (i : Nat) (hi : i ∉ [7, 6]) : (pt (ofOs .e 0 (rgO keep n op c m F q lv sK cl sz W)) 7 L).get i = (pt (ofOs .e 0 (rgO keep n op c m F q lv sK cl sz W')) 7 L).get i := by
  simp only [List.mem_cons, List.not_mem_nil, or_false, not_or] at hi
  show (pt (pt (ofOs .e 0 [r3, .row 79 none op, .row 82 none [.im m c], .row 83 none (a64 F), .row 29 none [.im q (ints lv)], .row 85 none (.im n (ints keep) :: .im n (ints cl) :: .sl 6 0 sz (some (sz - sz)) :: a64 sK)]) 6 (.row 23 none W)) 7 L).get i = (pt (pt (ofOs .e 0 [r3, .row 79 none op, .row 82 none [.im m c], .row 83 none (a64 F), .row 29 none [.im q (ints lv)], .row 85 none (.im n (ints keep) :: .im n (ints cl) :: .sl 6 0 sz (some (sz - sz)) :: a64 sK)]) 6 (.row 23 none W')) 7 L).get i
  rw [pt_eq, T.get_put, pt_eq, T.get_put, pt_eq, T.get_put, pt_eq, T.get_put, if_neg hi.1, if_neg hi.1, if_neg hi.2, if_neg hi.2]
theorem com_range (kd : Int) (keep : List Int) (n : Nat) (z o u : Int) (fv fp ft : Nat) (c : List V) (hc : HfL c) (m : Nat) (F : Nat → Int) (q : Nat) (lv ls : List Int) (sK : Nat → Int) (cl : List Int) (sz P : Nat) (hz : sz ≤ 4096) (at_ : Nat → Nat) (pA pB : Nat → Int) (WA WB : Nat → Nat → Int) (wp wq : Nat → Int)
    (hq : ls.length = q) (h12 : q ≤ 12) (hls : ∀ i, i < q → 1 ≤ ls.getD i 0 ∧ ls.getD i 0 ≤ 8) (hP : (P : Int) = prodT ls q) (hP0 : 1 ≤ P)
    (hR : RndOk kd (opL z o u fv fp ft) fp c m lv ls q sK sz P at_ pA pB WA WB wp wq) :
    Sat Pg none 0 rgC (mkSt g0 209 (rgSt keep n z o u fv fp ft c m F q lv ls sK cl sz (elF (WA 0) (WB 0) sz))) (outsP g0 209 [(True, .normal, rgX keep n sK cl sz (elF (WA P) (WB P) sz))]) := by
  have hl := HfL_ints lv
  have hk := HfL_ints keep
  have hcl := HfL_ints cl
  have hE := HfL_elF (WA P) (WB P) sz
  have hS := HfL_a64 sK
  rw [rg_eq]
  obtain ⟨L, hL⟩ : ∃ L, L = rgL keep n z o u fv fp ft c m F q lv ls sK cl sz [] := ⟨_, rfl⟩
  have hcall := comb_any 7 8 ls q hq h12 hls P hP hP0 (fun j => pt (ofOs .e 0 (rgO keep n (opL z o u fv fp ft) c m F q lv sK cl sz (elF (WA j) (WB j) sz))) 7 L) [7, 6] (fun j hj => by
    obtain ⟨n1, n2, n3⟩ := hR.num j hj
    obtain ⟨e1, e2⟩ := hR.next j hj
    have hb := rg_body keep n z o u fv fp ft c hc m F q lv (cmb ls j) sK cl sz (WA j) (WB j) (at_ j) (pA j) (pB j) (wp j) (wq j) n3 hz n1 n2 (hR.prod j hj) (hR.plus j hj)
    rw [← e1, ← e2] at hb
    refine CallSpec.yldC vE_ok mixed sp0_ok (n := 209) (fn0 := 0) (tm := (mkSt g0 209 (rgSt keep n z o u fv fp ft c m F q lv ls sK cl sz [])).tm) (ps := [166]) (assign := rgA) (body := rgB) (hs0 := []) (m0 := 1000) (m1 := 1000) (sl0 := [(8, .ptr 1 0), (10, .ptr 2 0), (15, .ptr 4 0), (19, .ptr 5 0), (166, .sl 8 0 q (some (q - q)))]) (sl1 := [(8, .ptr 1 0), (10, .ptr 2 0), (15, .ptr 4 0), (19, .ptr 5 0), (25, .sl 8 0 q (some (q - q)))]) ?_ rfl rfl rfl ⟨rfl, rfl, rfl, rfl, rfl, trivial⟩ (rg_asg q) hb (by decide) (fun i hi => ?_) ?_
    · rw [gt_pt, if_neg (by decide), gt_pt, if_pos rfl, hL]; rfl
    · show (pt (pt (ofOs .e 0 _) 7 L) 8 _).get i = (pt (pt (ofOs .e 0 _) 7 L) 8 _).get i
      exact pt_get_congr (rg_same _ _ _ _ _ _ _ _ _ _ _ _ _ _ i hi)
    · rw [gt_pt, if_neg (by decide), gt_pt, if_pos rfl, hL]; rfl) (fun i hi => rg_same _ _ _ _ _ _ _ _ _ _ _ _ _ _ i hi)
  refine Sat.rangeC (r := [0, 5]) (S := rgSt keep n z o u fv fp ft c m F q lv ls sK cl sz (elF (WA 0) (WB 0) sz)) (f := 72) (caps := [.imp [.im q (ints ls)]]) rfl rfl (by rw [hL] at hcall; exact hcall) ?_ ?_
  · exact (by rw [gt_pt, if_neg (by decide), gt_pt, if_pos rfl] : gt (pt (pt (ofOs .e 0 (rgO keep n (opL z o u fv fp ft) c m F q lv sK cl sz (elF (WA P) (WB P) sz))) 7 (rgL keep n z o u fv fp ft c m F q lv ls sK cl sz [])) 8 (rw3 (cmb ls P))) 7 = some (rgL keep n z o u fv fp ft c m F q lv ls sK cl sz []))
  · clear hcall hR
    generalize elF (WA P) (WB P) sz = W at *
    generalize cmb ls P = fin at *
    clear hL
    refine Eq.mp (by kernel_rfl : ((0 = 0 ∧ 0 = 0 ∧ True) ∧ ([V.nils, V.nils, V.nils] = [V.nils, V.nils, V.nils] ∧ TT 3) ∧ ((n = n ∧ ints keep = ints keep) ∧ (n = n ∧ ints cl = ints cl) ∧ (sz = sz ∧ W = W ∧ HfL W) ∧ EQn (sK) 0 64) ∧ True) = _) ?_
    (repeat' (first | (with_reducible apply And.intro) | (refine fun (_ : True) => ?_))) <;> first | exact aq | skip
    all_goals first | rfl | skip
end Go.Proofs.Ytgdnmgcigkhojaa.Am

namespace Go.Proofs.Ytgdnmgcigkhojaa.Am
open Go.RowKit
set_option linter.unusedVariables false
set_option maxHeartbeats 1000000
set_option maxRecDepth 100000
def fitB (a b : Int) : Bool := decide (a ≤ 4611686018427387903 ∧ b ≤ 4611686018427387903)
def fitA (A B : Nat → Int) : Nat → Bool
  | 0 => true
  | k + 1 => fitA A B k && fitB (A k) (B k)
theorem fitA_stop {A B : Nat → Int} {k : Nat} (h : fitA A B k = false) : ∀ n, fitA A B (k + n) = false
  | 0 => h
  | n + 1 => by show (fitA A B (k + n) && _) = false; rw [fitA_stop h n, Bool.false_and]
section
variable (keep : List Int) (n : Nat) (cl : List Int) (sz : Nat) (A B : Nat → Int) (sK : Nat → Int)
abbrev seO : List O := [r3, .row 85 none (.im n (ints keep) :: .im n (ints cl) :: .im sz (elF A B sz) :: a64 sK)]
abbrev seS (k : Nat) : SL := { sl := [(6, .ptr 0 0), (19, .ptr 1 0), (191, .im sz (elF A B sz)), (192, i6 sz), (193, i6 k)], os := seO keep n cl sz A B sK }
abbrev seX : SL := { sl := [(6, .ptr 0 0), (19, .ptr 1 0)], os := seO keep n cl sz A B sK }
end
theorem com_settle (keep : List Int) (n : Nat) (cl : List Int) (sz : Nat) (A B : Nat → Int) (sK : Nat → Int) (hz : sz ≤ 4096) :
    Sat Pg none 0 (at' 15 [1, 1, 1, 1, 1, 1, 1, 1, 1, 1, 1, 1, 1, 1, 1, 1, 1, 1, 0, 1, 0]) (mkSt g0 209 (seS keep n cl sz A B sK 0)) (outsP g0 209 [(fitA A B sz = true, .exit 12, seX keep n cl sz A B sK), (fitA A B sz = false, .ret, cBad 6)]) := by
  refine loopC vE_ok mixed sp0_ok (b := at' 15 [1, 1, 1, 1, 1, 1, 1, 1, 1, 1, 1, 1, 1, 1, 1, 1, 1, 1, 0, 1, 0, 0]) (by kernel_rfl) (fun k => k ≤ sz ∧ fitA A B k = true) (seS keep n cl sz A B sK) (fun k => sz - k) (fun k hk => ?_) 0 ⟨Nat.zero_le _, rfl⟩
  obtain ⟨hk, hg⟩ := hk
  have hS := HfL_a64 sK
  have hk1 := HfL_ints keep
  have hcl := HfL_ints cl
  have hE := HfL_elF A B sz
  by_cases hlt : k < sz
  · have hel := @head_elF A B sz k hlt
    have hs := settle_fn (A k) (B k)
    have e1 : fitA A B (k + 1) = fitB (A k) (B k) := by show (_ && _) = _; rw [hg, Bool.true_and]
    have hstop := fun h => fitA_stop (A := A) (B := B) (k := k + 1) h (sz - (k + 1))
    rw [show k + 1 + (sz - (k + 1)) = sz by omega] at hstop
    rcases setV_cases (A k) (B k) with ⟨g1, g2, e⟩ | ⟨g, e⟩
    · rw [e] at hs
      have et : fitA A B (k + 1) = true := by rw [e1]; exact decide_eq_true ⟨g1, g2⟩
      refine .inl ⟨k + 1, [0, 1], [yes 194, pl 195, ld 196 (el (A k) (B k)), fn 199 (.tup [el (A k) (B k), i6 0]), nu 206 (k + 1 : Nat)], 1000, ⟨by omega, et⟩, by omega, ?_⟩
      clear hstop e1
      refine Eq.mp (by kernel_rfl : (decide ((↑k : Int) < (↑sz : Int)) = true ∧ ((0 : Int) ≤ (↑k : Int) ∧ (↑k : Int) < (↑sz : Int)) ∧ takeE 2 (List.drop (k * 2) (elF A B sz)) = some [i6 (A k), i6 (B k)] ∧ ((True ∧ True ∧ True) ∧ True) ∧ FnOk Try.prog g0 45 [V.agg [i6 (A k), i6 (B k)]] (V.tup [el (A k) (B k), i6 0]) ∧ True ∧ wr IntKind.i64 ((↑k : Int) + (1 : Int)) = (↑(k + 1) : Int) ∧ (0 = 0 ∧ 0 = 0 ∧ (sz = sz ∧ elF A B sz = elF A B sz) ∧ (↑sz : Int) = (↑sz : Int) ∧ (↑(k + 1) : Int) = (↑(k + 1) : Int) ∧ True) ∧ ([V.nils, V.nils, V.nils] = [V.nils, V.nils, V.nils] ∧ TT 3) ∧ (V.im n (ints keep) :: V.im n (ints cl) :: V.im sz (elF A B sz) :: a64 sK = V.im n (ints keep) :: V.im n (ints cl) :: V.im sz (elF A B sz) :: a64 sK ∧ TT 67) ∧ True) = _) ?_
      (repeat' (first | (with_reducible apply And.intro) | (refine fun (_ : True) => ?_))) <;> first | exact aq | skip
      all_goals first | rfl | skip
    · rw [e] at hs
      have et : fitA A B (k + 1) = false := by rw [e1]; exact decide_eq_false g
      have hf := hstop et
      refine .inr ⟨.ret, [0], cBad 6, [yes 194, pl 195, ld 196 (el (A k) (B k)), fn 199 (.tup [el 0 0, i6 6])], 1000, .inr (.inl ⟨hf, rfl, rfl⟩), ?_⟩
      clear hstop e1
      refine Eq.mp (by kernel_rfl : (decide ((↑k : Int) < (↑sz : Int)) = true ∧ ((0 : Int) ≤ (↑k : Int) ∧ (↑k : Int) < (↑sz : Int)) ∧ takeE 2 (List.drop (k * 2) (elF A B sz)) = some [i6 (A k), i6 (B k)] ∧ ((True ∧ True ∧ True) ∧ True) ∧ FnOk Try.prog g0 45 [V.agg [i6 (A k), i6 (B k)]] (V.tup [el (0 : Int) (0 : Int), i6 6]) ∧ True ∧ (0 = 0 ∧ (6 : Int) = (6 : Int) ∧ True) ∧ ([V.nils, V.nils, V.nils] = [V.nils, V.nils, V.nils] ∧ TT 3) ∧ True) = _) ?_
      (repeat' (first | (with_reducible apply And.intro) | (refine fun (_ : True) => ?_))) <;> first | exact aq | skip
      all_goals first | rfl | skip
  · have : k = sz := by omega
    subst this
    refine .inr ⟨.exit 12, [0, 1], seX keep n cl k A B sK, [no 194], 1000, .inl ⟨hg, rfl, rfl⟩, ?_⟩
    refine Eq.mp (by kernel_rfl : (decide ((↑k : Int) < (↑k : Int)) = false ∧ (0 = 0 ∧ 0 = 0 ∧ True) ∧ ([V.nils, V.nils, V.nils] = [V.nils, V.nils, V.nils] ∧ TT 3) ∧ (V.im n (ints keep) :: V.im n (ints cl) :: V.im k (elF A B k) :: a64 sK = V.im n (ints keep) :: V.im n (ints cl) :: V.im k (elF A B k) :: a64 sK ∧ TT 67) ∧ True) = _) ?_
    (repeat' (first | (with_reducible apply And.intro) | (refine fun (_ : True) => ?_))) <;> first | exact aq | skip
    all_goals first | rfl | skip
theorem combs_fn (ls : List Int) (q : Nat) : FnOk Pg g0 42 [.im q (ints ls)] (.fn 72 [.imp [.im q (ints ls)]]) := by
  refine FnOk.of_vc vE_ok mixed sp0_ok (n := 1000) (r := []) (S := { sl := [(2, .fn 72 [.imp [.im q (ints ls)]])] }) (hs := []) ?_
  refine Eq.mp (by kernel_rfl : (V.fn 72 [V.imp [V.im q (ints ls)]] = V.fn 72 [V.imp [V.im q (ints ls)]] ∧ ((([V.im q (ints ls)] = [V.im q (ints ls)] ∧ True ∧ True) ∧ True) ∧ True) ∧ True) = _) ?_
  (repeat' (first | (with_reducible apply And.intro) | (refine fun (_ : True) => ?_))) <;> first | exact aq | skip
  all_goals first | rfl | skip
abbrev t0V : V := .agg [.im 0 [], .im 0 [], .im 0 []]
abbrev S0 (e : Int) : SL := { sl := [(6, .ptr 0 0), (7, i6 e)], os := [.row 32 none [.im 0 [], .im 0 [], .im 0 []]], md := [1] }
theorem com_none (kd : Int) (h : ¬ (1 ≤ kd ∧ kd ≤ 5)) (c : List V) (hc : HfL c) (m n : Nat) (keep : List Int) : FnOk Pg g0 15 [i6 kd, .im m c, .im n (ints keep)] (.tup [t0V, i6 40]) := by
  have hch := choose_none kd h
  refine FnOk.of_vc vE_ok mixed sp0_ok (n := 1000) (r := [0]) (S := S0 40) (hs := [fn 33 (.tup [nopV, i6 40])]) ?_
  refine Eq.mp (by kernel_rfl : (V.tup [V.agg [V.im 0 [], V.im 0 [], V.im 0 []], i6 40] = V.tup [t0V, i6 40] ∧ (True ∧ True) ∧ FnOk Try.prog g0 37 [i6 kd] (V.tup [nopV, i6 40]) ∧ True ∧ (0 = 0 ∧ (40 : Int) = (40 : Int) ∧ True) ∧ (0 = 0 ∧ 0 = 0 ∧ 0 = 0 ∧ True) ∧ True) = _) ?_
  (repeat' (first | (with_reducible apply And.intro) | (refine fun (_ : True) => ?_))) <;> first | exact aq | skip
  all_goals first | rfl | skip
section
variable (kd : Int) (keep : List Int) (n : Nat) (z o u : Int) (fv fp ft : Nat) (VS CS : Nat → List Int) (A B : Nat → Nat → Int) (N : Nat → Nat) (m : Nat)
abbrev h0 : Hs := [fn 33 (.tup [opV z o u fv fp ft, i6 0]), no 42, mk 46, (0, .loop [0, 1, 2, 3] (c0S keep n z o u fv fp ft (blF (tbF VS CS A B N) m) (fun k => blF (rdF VS CS A B N k) m) m 0) [(goodA kd VS CS A B N m = true, .exit 0, c0X keep n z o u fv fp ft (blF (tab VS CS A B N) m) m), (goodA kd VS CS A B N m = false, .ret, cBad 41)])]
end
theorem rdF_rep (VS CS : Nat → List Int) (A B : Nat → Nat → Int) (N : Nat → Nat) (m : Nat) : rep m zT = blF (rdF VS CS A B N 0) m := by rw [rep_blF, rdF_zero]
theorem com_tables (kd : Int) (keep : List Int) (n : Nat) (fv fp ft : Nat) (ho : OpOk kd fv fp ft) (VS CS : Nat → List Int) (A B : Nat → Nat → Int) (N : Nat → Nat) (m : Nat) (hm : m ≤ 12) (hN : ∀ i, i < m → N i ≤ 1000000) (hg : goodA kd VS CS A B N m = false) :
    FnOk Pg g0 15 [i6 kd, .im m (blF (tbF VS CS A B N) m), .im n (ints keep)] (.tup [t0V, i6 41]) := by
  have hch := ho.c
  have l0 := com_read kd keep n (zeroA kd) (oneA kd) (oneB kd) fv fp ft ho.v VS CS A B N m hm hN
  have hL := HfL_blF (HfL_tbF VS CS A B N) m
  have hR := HfL_blF (HfL_rdF VS CS A B N 0) m
  have hr := rdF_rep VS CS A B N m
  clear ho hN
  generalize zeroA kd = z at *
  generalize oneA kd = o at *
  generalize oneB kd = u at *
  refine FnOk.of_vc vE_ok mixed sp0_ok (n := 1000) (r := [0]) (S := S0 41) (hs := h0 kd keep n z o u fv fp ft VS CS A B N m) ?_
  refine Eq.mp (by kernel_rfl : (V.tup [V.agg [V.im 0 [], V.im 0 [], V.im 0 []], i6 41] = V.tup [t0V, i6 41] ∧ (True ∧ True) ∧ FnOk Try.prog g0 37 [i6 kd] (V.tup [opV z o u fv fp ft, i6 0]) ∧ True ∧ decide ((↑m : Int) > (12 : Int)) = false ∧ ((0 : Int) ≤ (↑m : Int) ∧ (↑m : Int) ≤ (↑m : Int) ∧ (↑(584 : Nat) : Int) * (↑m : Int) ≤ (281474976710656 : Int) ∧ (↑m : Int) ≤ (9223372036854775807 : Int)) ∧ (((n = n ∧ ints keep = ints keep) ∧ 0 = 0 ∧ 0 = 0 ∧ 0 = 0 ∧ (m = m ∧ blF (tbF VS CS A B N) m = blF (tbF VS CS A B N) m) ∧ (↑m : Int) = (↑m : Int) ∧ (↑(0 : Nat) : Int) = (0 : Int) ∧ True) ∧ ([V.nils, V.nils, V.nils] = [V.nils, V.nils, V.nils] ∧ TT 3) ∧ (opL z o u fv fp ft = [i6 z, i6 0, i6 o, i6 u, V.fn fv [], V.fn fp [], V.fn ft []] ∧ TT 7) ∧ (blF (rdF VS CS A B N 0) m = rep m zT ∧ HfL (blF (rdF VS CS A B N 0) m)) ∧ ((0 = 0 ∧ m = m ∧ m - m = m - m) ∧ True) ∧ True) ∧ Sat Try.prog none 0 (at' 15 [1, 1, 1, 1, 1, 0, 1, 0]) (mkSt g0 209 (c0S keep n z o u fv fp ft (blF (tbF VS CS A B N) m) (fun k => blF (rdF VS CS A B N k) m) m 0)) (outsP g0 209 [(goodA kd VS CS A B N m = true, Ex.exit 0, c0X keep n z o u fv fp ft (blF (tab VS CS A B N) m) m), (goodA kd VS CS A B N m = false, Ex.ret, cBad (41 : Int))]) ∧ (goodA kd VS CS A B N m = true → False) ∧ (goodA kd VS CS A B N m = false → (0 = 0 ∧ (41 : Int) = (41 : Int) ∧ True) ∧ (0 = 0 ∧ 0 = 0 ∧ 0 = 0 ∧ True) ∧ True) ∧ True) = _) ?_
  (repeat' (first | (with_reducible apply And.intro) | (refine fun (_ : True) => ?_))) <;> first | exact aq | skip
  all_goals first | exact hr.symm | rfl | (intro h9; rw [hg] at h9; exact absurd h9 (by decide)) | (intro h9; (repeat' (first | (with_reducible apply And.intro) | (refine fun (_ : True) => ?_))); all_goals first | exact aq | rfl | skip) | skip
theorem com_arg1 (kd : Int) (keep : List Int) (n : Nat) (fv fp ft : Nat) (ho : OpOk kd fv fp ft) (VS CS : Nat → List Int) (A B : Nat → Nat → Int) (N : Nat → Nat) (m : Nat) (hm : m ≤ 12) (hN : ∀ i, i < m → N i ≤ 1000000) (hg : goodA kd VS CS A B N m = true) (hT : ∀ i, i < m → TabOk (VS i) (CS i)) (ha : aG VS CS m = false) :
    FnOk Pg g0 15 [i6 kd, .im m (blF (tbF VS CS A B N) m), .im n (ints keep)] (.tup [t0V, i6 2]) := by
  have hch := ho.c
  have l0 := com_read kd keep n (zeroA kd) (oneA kd) (oneB kd) fv fp ft ho.v VS CS A B N m hm hN
  have htg := together_fn VS CS A B N m hm hT
  rw [ha] at htg
  have hL := HfL_blF (HfL_tbF VS CS A B N) m
  have hL2 := HfL_blF (HfL_tab VS CS A B N) m
  have hR := HfL_blF (HfL_rdF VS CS A B N 0) m
  have hr := rdF_rep VS CS A B N m
  have hF := HfL_a64 (aF VS CS m)
  clear ho hN hT
  generalize zeroA kd = z at *
  generalize oneA kd = o at *
  generalize oneB kd = u at *
  generalize aF VS CS m = F at *
  refine FnOk.of_vc vE_ok mixed sp0_ok (n := 1000) (r := [0]) (S := S0 2) (hs := h0 kd keep n z o u fv fp ft VS CS A B N m ++ [fn 70 (.tup [.agg (a64 F), .bool false])]) ?_
  refine Eq.mp (by kernel_rfl : (V.tup [V.agg [V.im 0 [], V.im 0 [], V.im 0 []], i6 2] = V.tup [t0V, i6 2] ∧ (True ∧ True) ∧ FnOk Try.prog g0 37 [i6 kd] (V.tup [opV z o u fv fp ft, i6 0]) ∧ True ∧ decide ((↑m : Int) > (12 : Int)) = false ∧ ((0 : Int) ≤ (↑m : Int) ∧ (↑m : Int) ≤ (↑m : Int) ∧ (↑(584 : Nat) : Int) * (↑m : Int) ≤ (281474976710656 : Int) ∧ (↑m : Int) ≤ (9223372036854775807 : Int)) ∧ (((n = n ∧ ints keep = ints keep) ∧ 0 = 0 ∧ 0 = 0 ∧ 0 = 0 ∧ (m = m ∧ blF (tbF VS CS A B N) m = blF (tbF VS CS A B N) m) ∧ (↑m : Int) = (↑m : Int) ∧ (↑(0 : Nat) : Int) = (0 : Int) ∧ True) ∧ ([V.nils, V.nils, V.nils] = [V.nils, V.nils, V.nils] ∧ TT 3) ∧ (opL z o u fv fp ft = [i6 z, i6 0, i6 o, i6 u, V.fn fv [], V.fn fp [], V.fn ft []] ∧ TT 7) ∧ (blF (rdF VS CS A B N 0) m = rep m zT ∧ HfL (blF (rdF VS CS A B N 0) m)) ∧ ((0 = 0 ∧ m = m ∧ m - m = m - m) ∧ True) ∧ True) ∧ Sat Try.prog none 0 (at' 15 [1, 1, 1, 1, 1, 0, 1, 0]) (mkSt g0 209 (c0S keep n z o u fv fp ft (blF (tbF VS CS A B N) m) (fun k => blF (rdF VS CS A B N k) m) m 0)) (outsP g0 209 [(goodA kd VS CS A B N m = true, Ex.exit 0, c0X keep n z o u fv fp ft (blF (tab VS CS A B N) m) m), (goodA kd VS CS A B N m = false, Ex.ret, cBad (41 : Int))]) ∧ (goodA kd VS CS A B N m = true → (True ∧ True) ∧ FnOk Try.prog g0 39 [V.im m (blF (tab VS CS A B N) m)] (V.tup [V.agg (a64 F), V.bool false]) ∧ True ∧ (0 = 0 ∧ (2 : Int) = (2 : Int) ∧ True) ∧ (0 = 0 ∧ 0 = 0 ∧ 0 = 0 ∧ True) ∧ True) ∧ (goodA kd VS CS A B N m = false → (0 = 0 ∧ (2 : Int) = (41 : Int) ∧ True) ∧ (0 = 0 ∧ 0 = 0 ∧ 0 = 0 ∧ True) ∧ True) ∧ True) = _) ?_
  (repeat' (first | (with_reducible apply And.intro) | (refine fun (_ : True) => ?_))) <;> first | exact aq | skip
  all_goals first | exact hr.symm | rfl | (intro h9; rw [hg] at h9; exact absurd h9 (by decide)) | (intro h9; (repeat' (first | (with_reducible apply And.intro) | (refine fun (_ : True) => ?_))); all_goals first | exact aq | rfl | skip) | skip
theorem com_arg2 (kd : Int) (keep : List Int) (n : Nat) (hn : n = keep.length) (hn5 : n ≤ 1000) (fv fp ft : Nat) (ho : OpOk kd fv fp ft) (VS CS : Nat → List Int) (A B : Nat → Nat → Int) (N : Nat → Nat) (m : Nat) (hm : m ≤ 12) (hN : ∀ i, i < m → N i ≤ 1000000) (hg : goodA kd VS CS A B N m = true) (hT : ∀ i, i < m → TabOk (VS i) (CS i)) (ha : aG VS CS m = true) (hw : withT (aF VS CS m) keep n = false) :
    FnOk Pg g0 15 [i6 kd, .im m (blF (tbF VS CS A B N) m), .im n (ints keep)] (.tup [t0V, i6 2]) := by
  have hch := ho.c
  have l0 := com_read kd keep n (zeroA kd) (oneA kd) (oneB kd) fv fp ft ho.v VS CS A B N m hm hN
  have htg := together_fn VS CS A B N m hm hT
  rw [ha] at htg
  have hwi : FnOk Pg g0 40 [.agg (a64 (aF VS CS m)), .im n (ints keep)] (.bool (withT (aF VS CS m) keep n)) := by
    have := within_fn (aF VS CS m) keep (by omega)
    rw [hn]; exact this
  rw [hw] at hwi
  have hL := HfL_blF (HfL_tbF VS CS A B N) m
  have hL2 := HfL_blF (HfL_tab VS CS A B N) m
  have hR := HfL_blF (HfL_rdF VS CS A B N 0) m
  have hr := rdF_rep VS CS A B N m
  have hF := HfL_a64 (aF VS CS m)
  clear ho hN hT
  generalize zeroA kd = z at *
  generalize oneA kd = o at *
  generalize oneB kd = u at *
  generalize aF VS CS m = F at *
  refine FnOk.of_vc vE_ok mixed sp0_ok (n := 1000) (r := [0]) (S := S0 2) (hs := h0 kd keep n z o u fv fp ft VS CS A B N m ++ [fn 70 (.tup [.agg (a64 F), .bool true]), fn 78 (.bool false)]) ?_
  refine Eq.mp (by kernel_rfl : (V.tup [V.agg [V.im 0 [], V.im 0 [], V.im 0 []], i6 2] = V.tup [t0V, i6 2] ∧ (True ∧ True) ∧ FnOk Try.prog g0 37 [i6 kd] (V.tup [opV z o u fv fp ft, i6 0]) ∧ True ∧ decide ((↑m : Int) > (12 : Int)) = false ∧ ((0 : Int) ≤ (↑m : Int) ∧ (↑m : Int) ≤ (↑m : Int) ∧ (↑(584 : Nat) : Int) * (↑m : Int) ≤ (281474976710656 : Int) ∧ (↑m : Int) ≤ (9223372036854775807 : Int)) ∧ (((n = n ∧ ints keep = ints keep) ∧ 0 = 0 ∧ 0 = 0 ∧ 0 = 0 ∧ (m = m ∧ blF (tbF VS CS A B N) m = blF (tbF VS CS A B N) m) ∧ (↑m : Int) = (↑m : Int) ∧ (↑(0 : Nat) : Int) = (0 : Int) ∧ True) ∧ ([V.nils, V.nils, V.nils] = [V.nils, V.nils, V.nils] ∧ TT 3) ∧ (opL z o u fv fp ft = [i6 z, i6 0, i6 o, i6 u, V.fn fv [], V.fn fp [], V.fn ft []] ∧ TT 7) ∧ (blF (rdF VS CS A B N 0) m = rep m zT ∧ HfL (blF (rdF VS CS A B N 0) m)) ∧ ((0 = 0 ∧ m = m ∧ m - m = m - m) ∧ True) ∧ True) ∧ Sat Try.prog none 0 (at' 15 [1, 1, 1, 1, 1, 0, 1, 0]) (mkSt g0 209 (c0S keep n z o u fv fp ft (blF (tbF VS CS A B N) m) (fun k => blF (rdF VS CS A B N k) m) m 0)) (outsP g0 209 [(goodA kd VS CS A B N m = true, Ex.exit 0, c0X keep n z o u fv fp ft (blF (tab VS CS A B N) m) m), (goodA kd VS CS A B N m = false, Ex.ret, cBad (41 : Int))]) ∧ (goodA kd VS CS A B N m = true → (True ∧ True) ∧ FnOk Try.prog g0 39 [V.im m (blF (tab VS CS A B N) m)] (V.tup [V.agg (a64 F), V.bool true]) ∧ True ∧ ((TT 64) ∧ True ∧ True) ∧ FnOk Try.prog g0 40 [V.agg (a64 (F)), V.im n (ints keep)] (V.bool false) ∧ True ∧ (0 = 0 ∧ (2 : Int) = (2 : Int) ∧ True) ∧ (0 = 0 ∧ 0 = 0 ∧ 0 = 0 ∧ True) ∧ True) ∧ (goodA kd VS CS A B N m = false → (0 = 0 ∧ (2 : Int) = (41 : Int) ∧ True) ∧ (0 = 0 ∧ 0 = 0 ∧ 0 = 0 ∧ True) ∧ True) ∧ True) = _) ?_
  (repeat' (first | (with_reducible apply And.intro) | (refine fun (_ : True) => ?_))) <;> first | exact aq | skip
  all_goals first | exact hr.symm | rfl | (intro h9; rw [hg] at h9; exact absurd h9 (by decide)) | (intro h9; (repeat' (first | (with_reducible apply And.intro) | (refine fun (_ : True) => ?_))); all_goals first | exact aq | exact hwi | rfl | skip) | skip
theorem com_long (kd : Int) (keep : List Int) (n : Nat) (hn : n = keep.length) (hn5 : n ≤ 1000) (fv fp ft : Nat) (ho : OpOk kd fv fp ft) (VS CS : Nat → List Int) (A B : Nat → Nat → Int) (N : Nat → Nat) (m : Nat) (hm : m ≤ 12) (hN : ∀ i, i < m → N i ≤ 1000000) (hg : goodA kd VS CS A B N m = true) (hT : ∀ i, i < m → TabOk (VS i) (CS i)) (ha : aG VS CS m = true) (hw : withT (aF VS CS m) keep n = true) (F : Nat → Int) (hF' : F = aF VS CS m) (hC : okC (sF F 64) = false) :
    FnOk Pg g0 15 [i6 kd, .im m (blF (tbF VS CS A B N) m), .im n (ints keep)] (.tup [t0V, i6 3]) := by
  have hch := ho.c
  have l0 := com_read kd keep n (zeroA kd) (oneA kd) (oneB kd) fv fp ft ho.v VS CS A B N m hm hN
  have htg := together_fn VS CS A B N m hm hT
  rw [ha] at htg
  have hwi : FnOk Pg g0 40 [.agg (a64 (aF VS CS m)), .im n (ints keep)] (.bool (withT (aF VS CS m) keep n)) := by
    have := within_fn (aF VS CS m) keep (by omega)
    rw [hn]; exact this
  rw [hw] at hwi
  have hL := HfL_blF (HfL_tbF VS CS A B N) m
  have hL2 := HfL_blF (HfL_tab VS CS A B N) m
  have hR := HfL_blF (HfL_rdF VS CS A B N 0) m
  have hr := rdF_rep VS CS A B N m
  rw [← hF'] at htg hwi
  have hF := HfL_a64 F
  clear ho hN hT
  have hl := sF_len F 64
  have hic : FnOk Pg g0 41 [.im (qF F 64) (ints (sF F 64))] (i6 20) := by
    have := icheck_fn (sF F 64)
    rw [hC, if_neg (by decide)] at this
    rw [← hl]; exact this
  have hls := HfL_ints (sF F 64)
  have hlv := HfL_ints (vF F 64)
  generalize zeroA kd = z at *
  generalize oneA kd = o at *
  generalize oneB kd = u at *
  have l2 := com_vars keep n (opL z o u fv fp ft) ⟨trivial, trivial, trivial, trivial, trivial, trivial, trivial, trivial⟩ (blF (tab VS CS A B N) m) hL2 m F
  generalize qF F 64 = q at *
  generalize sF F 64 = ls at *
  generalize vF F 64 = lv at *
  refine FnOk.of_vc vE_ok mixed sp0_ok (n := 1000) (r := [0]) (S := S0 3) (hs := h0 kd keep n z o u fv fp ft VS CS A B N m ++ [fn 70 (.tup [.agg (a64 F), .bool true]), fn 78 (.bool true), (0, .loop [0, 1, 2, 3, 4] (c2S keep n (opL z o u fv fp ft) (blF (tab VS CS A B N) m) m F (0, 0, [], [])) [(True, .exit 2, c2X keep n (opL z o u fv fp ft) (blF (tab VS CS A B N) m) m F q lv ls)]), fn 99 (i6 20)]) ?_
  refine Eq.mp (by kernel_rfl : (V.tup [V.agg [V.im 0 [], V.im 0 [], V.im 0 []], i6 3] = V.tup [t0V, i6 3] ∧ (True ∧ True) ∧ FnOk Try.prog g0 37 [i6 kd] (V.tup [opV z o u fv fp ft, i6 0]) ∧ True ∧ decide ((↑m : Int) > (12 : Int)) = false ∧ ((0 : Int) ≤ (↑m : Int) ∧ (↑m : Int) ≤ (↑m : Int) ∧ (↑(584 : Nat) : Int) * (↑m : Int) ≤ (281474976710656 : Int) ∧ (↑m : Int) ≤ (9223372036854775807 : Int)) ∧ (((n = n ∧ ints keep = ints keep) ∧ 0 = 0 ∧ 0 = 0 ∧ 0 = 0 ∧ (m = m ∧ blF (tbF VS CS A B N) m = blF (tbF VS CS A B N) m) ∧ (↑m : Int) = (↑m : Int) ∧ (↑(0 : Nat) : Int) = (0 : Int) ∧ True) ∧ ([V.nils, V.nils, V.nils] = [V.nils, V.nils, V.nils] ∧ TT 3) ∧ (opL z o u fv fp ft = [i6 z, i6 0, i6 o, i6 u, V.fn fv [], V.fn fp [], V.fn ft []] ∧ TT 7) ∧ (blF (rdF VS CS A B N 0) m = rep m zT ∧ HfL (blF (rdF VS CS A B N 0) m)) ∧ ((0 = 0 ∧ m = m ∧ m - m = m - m) ∧ True) ∧ True) ∧ Sat Try.prog none 0 (at' 15 [1, 1, 1, 1, 1, 0, 1, 0]) (mkSt g0 209 (c0S keep n z o u fv fp ft (blF (tbF VS CS A B N) m) (fun k => blF (rdF VS CS A B N k) m) m 0)) (outsP g0 209 [(goodA kd VS CS A B N m = true, Ex.exit 0, c0X keep n z o u fv fp ft (blF (tab VS CS A B N) m) m), (goodA kd VS CS A B N m = false, Ex.ret, cBad (41 : Int))]) ∧ (goodA kd VS CS A B N m = true → (True ∧ True) ∧ FnOk Try.prog g0 39 [V.im m (blF (tab VS CS A B N) m)] (V.tup [V.agg (a64 F), V.bool true]) ∧ True ∧ ((TT 64) ∧ True ∧ True) ∧ FnOk Try.prog g0 40 [V.agg (a64 (F)), V.im n (ints keep)] (V.bool true) ∧ True ∧ (((n = n ∧ ints keep = ints keep) ∧ 0 = 0 ∧ 0 = 0 ∧ 0 = 0 ∧ 0 = 0 ∧ 0 = 0 ∧ True ∧ (EQn (F) 0 64) ∧ (↑(0 : Nat) : Int) = (0 : Int) ∧ True) ∧ ([V.nils, V.nils, V.nils] = [V.nils, V.nils, V.nils] ∧ TT 3) ∧ (opL z o u fv fp ft = opL z o u fv fp ft ∧ TT 7) ∧ ([V.im m (blF (tab VS CS A B N) m)] = [V.im m (blF (tab VS CS A B N) m)] ∧ True ∧ True) ∧ (a64 F = (a64 (F)) ∧ TT 64) ∧ (True ∧ True) ∧ True) ∧ Sat Try.prog none 0 (at' 15 [1, 1, 1, 1, 1, 1, 1, 1, 1, 0, 1, 0]) (mkSt g0 209 (c2S keep n (opL z o u fv fp ft) (blF (tab VS CS A B N) m) m F (0, 0, [], []))) (outsP g0 209 [(True, Ex.exit 2, c2X keep n (opL z o u fv fp ft) (blF (tab VS CS A B N) m) m F q lv ls)]) ∧ (True → (True ∧ True) ∧ FnOk Try.prog g0 41 [V.im q (ints ls)] (i6 20) ∧ True ∧ (0 = 0 ∧ (3 : Int) = (3 : Int) ∧ True) ∧ (0 = 0 ∧ 0 = 0 ∧ 0 = 0 ∧ True) ∧ True) ∧ True) ∧ (goodA kd VS CS A B N m = false → (0 = 0 ∧ (3 : Int) = (41 : Int) ∧ True) ∧ (0 = 0 ∧ 0 = 0 ∧ 0 = 0 ∧ True) ∧ True) ∧ True) = _) ?_
  (repeat' (first | (with_reducible apply And.intro) | (refine fun (_ : True) => ?_))) <;> first | exact aq | skip
  all_goals first | exact hr.symm | rfl | (intro h9; rw [hg] at h9; exact absurd h9 (by decide)) | (intro h9; (repeat' (first | (with_reducible apply And.intro) | (refine fun (_ : True) => ?_))); all_goals first | exact aq | exact hwi | rfl | skip) | skip
end Go.Proofs.Ytgdnmgcigkhojaa.Am

namespace Go.Proofs.Ytgdnmgcigkhojaa.Am
open Go.RowKit
set_option linter.unusedVariables false
set_option maxHeartbeats 4000000
set_option maxRecDepth 100000
structure EndOk (kd : Int) (keep : List Int) (n : Nat) (z o u : Int) (fv fp ft : Nat) (VS CS : Nat → List Int) (A B : Nat → Nat → Int) (N : Nat → Nat) (m : Nat) (F : Nat → Int) (q : Nat) (lv ls cl : List Int) (sK : Nat → Int) (sz P : Nat) (at_ : Nat → Nat) (pA pB : Nat → Int) (WA WB : Nat → Nat → Int) (wp wq : Nat → Int) : Prop where
  n5 : n ≤ 1000
  m12 : m ≤ 12
  szb : sz ≤ 4096
  q12 : q ≤ 12
  lsl : ls.length = q
  lsb : ∀ i, i < q → 1 ≤ ls.getD i 0 ∧ ls.getD i 0 ≤ 8
  Pe : (P : Int) = prodT ls q
  P0 : 1 ≤ P
  good : goodA kd VS CS A B N m = true
  W0 : WA 0 = (fun _ => z) ∧ WB 0 = (fun _ => 0)
  rnd : RndOk kd (opL z o u fv fp ft) fp (blF (tab VS CS A B N) m) m lv ls q sK sz P at_ pA pB WA WB wp wq
  ch : FnOk Pg g0 37 [i6 kd] (.tup [opV z o u fv fp ft, i6 0])
  l0 : Sat Pg none 0 (at' 15 [1, 1, 1, 1, 1, 0, 1, 0]) (mkSt g0 209 (c0S keep n z o u fv fp ft (blF (tbF VS CS A B N) m) (fun k => blF (rdF VS CS A B N k) m) m 0)) (outsP g0 209 [(goodA kd VS CS A B N m = true, .exit 0, c0X keep n z o u fv fp ft (blF (tab VS CS A B N) m) m), (goodA kd VS CS A B N m = false, .ret, cBad 41)])
  tg : FnOk Pg g0 39 [.im m (blF (tab VS CS A B N) m)] (.tup [.agg (a64 F), .bool true])
  wi : FnOk Pg g0 40 [.agg (a64 F), .im n (ints keep)] (.bool true)
  l2 : Sat Pg none 0 (at' 15 [1, 1, 1, 1, 1, 1, 1, 1, 1, 0, 1, 0]) (mkSt g0 209 (c2S keep n (opL z o u fv fp ft) (blF (tab VS CS A B N) m) m F (0, 0, [], []))) (outsP g0 209 [(True, .exit 2, c2X keep n (opL z o u fv fp ft) (blF (tab VS CS A B N) m) m F q lv ls)])
  ic : FnOk Pg g0 41 [.im q (ints ls)] (i6 0)
  l4 : Sat Pg none 0 (at' 15 [1, 1, 1, 1, 1, 1, 1, 1, 1, 1, 1, 1, 1, 0, 1, 0]) (mkSt g0 209 (c4S keep n (opL z o u fv fp ft) (blF (tab VS CS A B N) m) m F q lv ls 0)) (outsP g0 209 [(True, .exit 4, c4X keep n (opL z o u fv fp ft) (blF (tab VS CS A B N) m) m F q lv ls (sz : Int) sK)])
  l6 : Sat Pg none 0 (at' 15 [1, 1, 1, 1, 1, 1, 1, 1, 1, 1, 1, 1, 1, 1, 0, 1, 0]) (mkSt g0 209 (c6S keep n (opL z o u fv fp ft) (blF (tab VS CS A B N) m) m F q lv ls (sz : Int) sK (0, []))) (outsP g0 209 [(True, .exit 6, c6X keep n (opL z o u fv fp ft) (blF (tab VS CS A B N) m) m F q lv ls (sz : Int) sK cl)])
section
variable (kd : Int) (keep : List Int) (n : Nat) (z o u : Int) (fv fp ft : Nat) (cT : List V) (cR : Nat → List V) (c : List V) (gd : Bool) (m : Nat) (F : Nat → Int) (q : Nat) (lv ls cl : List Int) (sK : Nat → Int) (sz : Nat) (W0 W1 : List V) (A B : Nat → Int)
abbrev h1 : Hs := [fn 33 (.tup [opV z o u fv fp ft, i6 0]), no 42, mk 46, (0, .loop [0, 1, 2, 3] (c0S keep n z o u fv fp ft cT cR m 0) [(gd = true, .exit 0, c0X keep n z o u fv fp ft c m), (gd = false, .ret, cBad 41)]), fn 70 (.tup [.agg (a64 F), .bool true]), fn 78 (.bool true), (0, .loop [0, 1, 2, 3, 4] (c2S keep n (opL z o u fv fp ft) c m F (0, 0, [], [])) [(True, .exit 2, c2X keep n (opL z o u fv fp ft) c m F q lv ls)]), fn 99 (i6 0)]
abbrev c4M : SL := { c4S keep n (opL z o u fv fp ft) c m F q lv ls 0 with md := [0, 0, 0, 0, 0, 1] }
abbrev h2 (b : Bool) : Hs := [(0, .loop [0, 1, 2, 3, 4, 5] (c6S keep n (opL z o u fv fp ft) c m F q lv ls (sz : Int) sK (0, [])) [(True, .exit 6, c6X keep n (opL z o u fv fp ft) c m F q lv ls (sz : Int) sK cl)]), mk 146, (0, .loop [0, 1, 2, 3, 4, 5, 6] (c8S keep n z o u fv fp ft c m F q lv ls sK cl sz 0) [(True, .exit 8, c8X keep n z o u fv fp ft c m F q lv ls sK cl sz (elF (fun _ => z) (fun _ => 0) sz))]), fn 165 (.fn 72 [.imp [.im q (ints ls)]]), (0, .loop [0, 1, 2, 3, 4, 5, 6] (rgSt keep n z o u fv fp ft c m F q lv ls sK cl sz (elF (fun _ => z) (fun _ => 0) sz)) [(True, .normal, rgX keep n sK cl sz (elF A B sz))]), (0, .loop [0, 1] (seS keep n cl sz A B sK 0) [(b = true, .exit 12, seX keep n cl sz A B sK), (b = false, .ret, cBad 6)])]
end
theorem com_ok1 (kd : Int) (keep : List Int) (n : Nat) (hn : n + 1 = keep.length) (z o u : Int) (fv fp ft : Nat) (VS CS : Nat → List Int) (A B : Nat → Nat → Int) (N : Nat → Nat) (m : Nat) (F : Nat → Int) (q : Nat) (lv ls cl : List Int) (hcl : cl.length = n + 1) (sK : Nat → Int) (sz P : Nat) (at_ : Nat → Nat) (pA pB : Nat → Int) (WA WB : Nat → Nat → Int) (wp wq : Nat → Int)
    (hE : EndOk kd keep (n + 1) z o u fv fp ft VS CS A B N m F q lv ls cl sK sz P at_ pA pB WA WB wp wq) (hf : fitA (WA P) (WB P) sz = true) : FnOk Pg g0 15 [i6 kd, .im m (blF (tbF VS CS A B N) m), .im (n + 1) (ints keep)] (.tup [.agg [.im (n + 1) (ints keep), .im (n + 1) (ints cl), .im sz (elF (WA P) (WB P) sz)], i6 0]) := by
  have hch := hE.ch
  have l0 := hE.l0
  have htg := hE.tg
  have hwi := hE.wi
  have l2 := hE.l2
  have hic := hE.ic
  have l4 := hE.l4
  have l6 := hE.l6
  have hm := hE.m12
  have hn5 := hE.n5
  have hz := hE.szb
  have hL := HfL_blF (HfL_tbF VS CS A B N) m
  have hL2 := HfL_blF (HfL_tab VS CS A B N) m
  have hR := HfL_blF (HfL_rdF VS CS A B N 0) m
  have hr := rdF_rep VS CS A B N m
  have hF := HfL_a64 F
  have hS := HfL_a64 sK
  have hls := HfL_ints ls
  have hlv := HfL_ints lv
  have hkp := HfL_ints keep
  have hcl2 := HfL_ints cl
  have hcb := combs_fn ls q
  have l9 := com_range kd keep (n + 1) z o u fv fp ft (blF (tab VS CS A B N) m) hL2 m F q lv ls sK cl sz P hE.szb at_ pA pB WA WB wp wq hE.lsl hE.q12 hE.lsb hE.Pe hE.P0 hE.rnd
  rw [hE.W0.1, hE.W0.2] at l9
  have l8 := com_zeros keep (n + 1) z o u fv fp ft (blF (tab VS CS A B N) m) hL2 m F q lv ls sK cl sz hE.szb
  have l10 := com_settle keep (n + 1) cl sz (WA P) (WB P) sK hE.szb
  have hz0 := rep_elF sz
  have hz1 : elF (zF z 0) (fun _ => 0) sz = elF (fun _ => 0) (fun _ => 0) sz := rfl
  have hW := HfL_elF (WA P) (WB P) sz
  have hWz := HfL_elF (fun _ => z) (fun _ => 0) sz
  have hW0 := HfL_elF (zF z 0) (fun _ => 0) sz
  have hsrc : ∀ H' : T O, srcV H' 1 (.im keep.length (ints keep)) = some (keep.length, ints keep) := fun H' => by
    unfold srcV
    dsimp only
    rw [ints_length, Nat.mul_one, show Nat.ble keep.length keep.length = true from Nat.ble_eq_true_of_le (Nat.le_refl _), cond_true, List.take_of_length_le (by rw [ints_length]; omega)]
  have hgd := hE.good
  clear hE
  rw [← hn] at hsrc
  rw [hf] at l10
  generalize goodA kd VS CS A B N m = gd at *
  generalize blF (tbF VS CS A B N) m = cT at *
  generalize hcc : blF (tab VS CS A B N) m = c at *
  generalize hcr : (fun k => blF (rdF VS CS A B N k) m) = cR at *
  have hcr0 : cR 0 = blF (rdF VS CS A B N 0) m := by rw [← hcr]
  generalize WA P = wA at *
  generalize WB P = wB at *
  refine FnOk.of_vc vE_ok mixed sp0_ok (n := 1000) (r := [0]) (S := { sl := [(6, .ptr 0 0), (7, i6 0)], os := [.row 32 none [.im (n + 1) (ints keep), .im (n + 1) (ints cl), .im sz (elF wA wB sz)]] }) (hs := h1 keep (n + 1) z o u fv fp ft cT cR c gd m F q lv ls ++ [(103, .an (n + 1) (ints keep)), nu 108 (n : Nat), (0, .loop [0, 1, 2, 3, 4, 6] (c4M keep (n + 1) z o u fv fp ft c m F q lv ls) [(True, .exit 4, c4X keep (n + 1) (opL z o u fv fp ft) c m F q lv ls (sz : Int) sK)])] ++ h2 keep (n + 1) z o u fv fp ft c m F q lv ls cl sK sz wA wB true) ?_
  refine Eq.mp (by kernel_rfl : (V.tup [V.agg [V.im (n + 1) (ints keep), V.im (n + 1) (ints cl), V.im sz (elF wA wB sz)], i6 0] = V.tup [V.agg [V.im (n + 1) (ints keep), V.im (n + 1) (ints cl), V.im sz (elF wA wB sz)], i6 0] ∧ (True ∧ True) ∧ FnOk Try.prog g0 37 [i6 kd] (V.tup [opV z o u fv fp ft, i6 0]) ∧ True ∧ decide ((↑m : Int) > (12 : Int)) = false ∧ ((0 : Int) ≤ (↑m : Int) ∧ (↑m : Int) ≤ (↑m : Int) ∧ (↑(584 : Nat) : Int) * (↑m : Int) ≤ (281474976710656 : Int) ∧ (↑m : Int) ≤ (9223372036854775807 : Int)) ∧ (((n + 1 = n + 1 ∧ ints keep = ints keep) ∧ 0 = 0 ∧ 0 = 0 ∧ 0 = 0 ∧ (m = m ∧ cT = cT) ∧ (↑m : Int) = (↑m : Int) ∧ (↑(0 : Nat) : Int) = (0 : Int) ∧ True) ∧ ([V.nils, V.nils, V.nils] = [V.nils, V.nils, V.nils] ∧ TT 3) ∧ (opL z o u fv fp ft = [i6 z, i6 0, i6 o, i6 u, V.fn fv [], V.fn fp [], V.fn ft []] ∧ TT 7) ∧ (cR 0 = rep m zT ∧ HfL (cR 0)) ∧ ((0 = 0 ∧ m = m ∧ m - m = m - m) ∧ True) ∧ True) ∧ Sat Try.prog none 0 (at' 15 [1, 1, 1, 1, 1, 0, 1, 0]) (mkSt g0 209 (c0S keep (n + 1) z o u fv fp ft cT cR m 0)) (outsP g0 209 [(gd = true, Ex.exit 0, c0X keep (n + 1) z o u fv fp ft c m), (gd = false, Ex.ret, cBad (41 : Int))]) ∧ (gd = true → (True ∧ True) ∧ FnOk Try.prog g0 39 [V.im m c] (V.tup [V.agg (a64 F), V.bool true]) ∧ True ∧ ((TT 64) ∧ True ∧ True) ∧ FnOk Try.prog g0 40 [V.agg (a64 (F)), V.im (n + 1) (ints keep)] (V.bool true) ∧ True ∧ (((n + 1 = n + 1 ∧ ints keep = ints keep) ∧ 0 = 0 ∧ 0 = 0 ∧ 0 = 0 ∧ 0 = 0 ∧ 0 = 0 ∧ True ∧ (EQn (F) 0 64) ∧ (↑(0 : Nat) : Int) = (0 : Int) ∧ True) ∧ ([V.nils, V.nils, V.nils] = [V.nils, V.nils, V.nils] ∧ TT 3) ∧ (opL z o u fv fp ft = opL z o u fv fp ft ∧ TT 7) ∧ ([V.im m c] = [V.im m c] ∧ True ∧ True) ∧ (a64 F = (a64 (F)) ∧ TT 64) ∧ (True ∧ True) ∧ True) ∧ Sat Try.prog none 0 (at' 15 [1, 1, 1, 1, 1, 1, 1, 1, 1, 0, 1, 0]) (mkSt g0 209 (c2S keep (n + 1) (opL z o u fv fp ft) c m F (0, 0, [], []))) (outsP g0 209 [(True, Ex.exit 2, c2X keep (n + 1) (opL z o u fv fp ft) c m F q lv ls)]) ∧ (True → (True ∧ True) ∧ FnOk Try.prog g0 41 [V.im q (ints ls)] (i6 0) ∧ True ∧ (srcV (ofOs T.e 0 [r3, O.row 79 none (opL z o u fv fp ft), O.row 82 none [V.im m c], O.row 83 none (a64 F), O.row 29 none [V.im q (ints lv)]]) 1 (V.im (n + 1) (ints keep)) = some (n + 1, ints keep) ∧ n + 1 ≤ 9223372036854775807 ∧ (n + 1) * 8 ≤ 140737488355328) ∧ wr IntKind.i64 ((↑(n + 1) : Int) - (1 : Int)) = (↑n : Int) ∧ (((n + 1 = n + 1 ∧ ints keep = ints keep) ∧ 0 = 0 ∧ 0 = 0 ∧ 0 = 0 ∧ 0 = 0 ∧ 0 = 0 ∧ (q = q ∧ ints ls = ints ls) ∧ 0 = 0 ∧ sufK F keep (n + 1) 0 = (1 : Int) ∧ (↑(n + 1 - 0) : Int) - (1 : Int) = (↑n : Int) ∧ True) ∧ ([V.nils, V.nils, V.nils] = [V.nils, V.nils, V.nils] ∧ TT 3) ∧ (opL z o u fv fp ft = opL z o u fv fp ft ∧ TT 7) ∧ ([V.im m c] = [V.im m c] ∧ True ∧ True) ∧ (a64 F = a64 F ∧ TT 64) ∧ ([V.im q (ints lv)] = [V.im q (ints lv)] ∧ True ∧ True) ∧ ((n + 1 = n + 1 ∧ ints keep = ints keep ∧ HfL (ints keep)) ∧ True ∧ True ∧ stK F keep (n + 1) 0 0 = (0 : Int) ∧ stK F keep (n + 1) 0 1 = (0 : Int) ∧ stK F keep (n + 1) 0 2 = (0 : Int) ∧ stK F keep (n + 1) 0 3 = (0 : Int) ∧ stK F keep (n + 1) 0 4 = (0 : Int) ∧ stK F keep (n + 1) 0 5 = (0 : Int) ∧ stK F keep (n + 1) 0 6 = (0 : Int) ∧ stK F keep (n + 1) 0 7 = (0 : Int) ∧ stK F keep (n + 1) 0 8 = (0 : Int) ∧ stK F keep (n + 1) 0 9 = (0 : Int) ∧ stK F keep (n + 1) 0 10 = (0 : Int) ∧ stK F keep (n + 1) 0 11 = (0 : Int) ∧ stK F keep (n + 1) 0 12 = (0 : Int) ∧ stK F keep (n + 1) 0 13 = (0 : Int) ∧ stK F keep (n + 1) 0 14 = (0 : Int) ∧ stK F keep (n + 1) 0 15 = (0 : Int) ∧ stK F keep (n + 1) 0 16 = (0 : Int) ∧ stK F keep (n + 1) 0 17 = (0 : Int) ∧ stK F keep (n + 1) 0 18 = (0 : Int) ∧ stK F keep (n + 1) 0 19 = (0 : Int) ∧ stK F keep (n + 1) 0 20 = (0 : Int) ∧ stK F keep (n + 1) 0 21 = (0 : Int) ∧ stK F keep (n + 1) 0 22 = (0 : Int) ∧ stK F keep (n + 1) 0 23 = (0 : Int) ∧ stK F keep (n + 1) 0 24 = (0 : Int) ∧ stK F keep (n + 1) 0 25 = (0 : Int) ∧ stK F keep (n + 1) 0 26 = (0 : Int) ∧ stK F keep (n + 1) 0 27 = (0 : Int) ∧ stK F keep (n + 1) 0 28 = (0 : Int) ∧ stK F keep (n + 1) 0 29 = (0 : Int) ∧ stK F keep (n + 1) 0 30 = (0 : Int) ∧ stK F keep (n + 1) 0 31 = (0 : Int) ∧ stK F keep (n + 1) 0 32 = (0 : Int) ∧ stK F keep (n + 1) 0 33 = (0 : Int) ∧ stK F keep (n + 1) 0 34 = (0 : Int) ∧ stK F keep (n + 1) 0 35 = (0 : Int) ∧ stK F keep (n + 1) 0 36 = (0 : Int) ∧ stK F keep (n + 1) 0 37 = (0 : Int) ∧ stK F keep (n + 1) 0 38 = (0 : Int) ∧ stK F keep (n + 1) 0 39 = (0 : Int) ∧ stK F keep (n + 1) 0 40 = (0 : Int) ∧ stK F keep (n + 1) 0 41 = (0 : Int) ∧ stK F keep (n + 1) 0 42 = (0 : Int) ∧ stK F keep (n + 1) 0 43 = (0 : Int) ∧ stK F keep (n + 1) 0 44 = (0 : Int) ∧ stK F keep (n + 1) 0 45 = (0 : Int) ∧ stK F keep (n + 1) 0 46 = (0 : Int) ∧ stK F keep (n + 1) 0 47 = (0 : Int) ∧ stK F keep (n + 1) 0 48 = (0 : Int) ∧ stK F keep (n + 1) 0 49 = (0 : Int) ∧ stK F keep (n + 1) 0 50 = (0 : Int) ∧ stK F keep (n + 1) 0 51 = (0 : Int) ∧ stK F keep (n + 1) 0 52 = (0 : Int) ∧ stK F keep (n + 1) 0 53 = (0 : Int) ∧ stK F keep (n + 1) 0 54 = (0 : Int) ∧ stK F keep (n + 1) 0 55 = (0 : Int) ∧ stK F keep (n + 1) 0 56 = (0 : Int) ∧ stK F keep (n + 1) 0 57 = (0 : Int) ∧ stK F keep (n + 1) 0 58 = (0 : Int) ∧ stK F keep (n + 1) 0 59 = (0 : Int) ∧ stK F keep (n + 1) 0 60 = (0 : Int) ∧ stK F keep (n + 1) 0 61 = (0 : Int) ∧ stK F keep (n + 1) 0 62 = (0 : Int) ∧ stK F keep (n + 1) 0 63 = (0 : Int) ∧ True) ∧ True) ∧ Sat Try.prog none 0 (at' 15 [1, 1, 1, 1, 1, 1, 1, 1, 1, 1, 1, 1, 1, 0, 1, 0]) (mkSt g0 209 (c4M keep (n + 1) z o u fv fp ft c m F q lv ls)) (outsP g0 209 [(True, Ex.exit 4, c4X keep (n + 1) (opL z o u fv fp ft) c m F q lv ls (↑sz : Int) sK)]) ∧ (True → (((n + 1 = n + 1 ∧ ints keep = ints keep) ∧ 0 = 0 ∧ 0 = 0 ∧ 0 = 0 ∧ 0 = 0 ∧ 0 = 0 ∧ (q = q ∧ ints ls = ints ls) ∧ 0 = 0 ∧ (↑sz : Int) = (↑sz : Int) ∧ (n + 1 = n + 1 ∧ ints keep = ints keep) ∧ (↑(n + 1) : Int) = (↑(n + 1) : Int) ∧ (↑(0 : Nat) : Int) = (0 : Int) ∧ True) ∧ ([V.nils, V.nils, V.nils] = [V.nils, V.nils, V.nils] ∧ TT 3) ∧ (opL z o u fv fp ft = opL z o u fv fp ft ∧ TT 7) ∧ ([V.im m c] = [V.im m c] ∧ True ∧ True) ∧ (a64 F = a64 F ∧ TT 64) ∧ ([V.im q (ints lv)] = [V.im q (ints lv)] ∧ True ∧ True) ∧ ((n + 1 = n + 1 ∧ ints keep = ints keep) ∧ True ∧ True ∧ EQn (sK) 0 64) ∧ True) ∧ Sat Try.prog none 0 (at' 15 [1, 1, 1, 1, 1, 1, 1, 1, 1, 1, 1, 1, 1, 1, 0, 1, 0]) (mkSt g0 209 (c6S keep (n + 1) (opL z o u fv fp ft) c m F q lv ls (↑sz : Int) sK (0, []))) (outsP g0 209 [(True, Ex.exit 6, c6X keep (n + 1) (opL z o u fv fp ft) c m F q lv ls (↑sz : Int) sK cl)]) ∧ (True → ((0 : Int) ≤ (↑sz : Int) ∧ (↑sz : Int) ≤ (↑sz : Int) ∧ (↑(16 : Nat) : Int) * (↑sz : Int) ≤ (281474976710656 : Int) ∧ (↑sz : Int) ≤ (9223372036854775807 : Int)) ∧ ((0 = 0 ∧ 0 = 0 ∧ 0 = 0 ∧ 0 = 0 ∧ (q = q ∧ ints ls = ints ls) ∧ 0 = 0 ∧ (↑sz : Int) = (↑sz : Int) ∧ (↑(0 : Nat) : Int) = (0 : Int) ∧ True) ∧ ([V.nils, V.nils, V.nils] = [V.nils, V.nils, V.nils] ∧ TT 3) ∧ (opL z o u fv fp ft = opL z o u fv fp ft ∧ TT 7) ∧ ([V.im m c] = [V.im m c] ∧ True ∧ True) ∧ (a64 F = a64 F ∧ TT 64) ∧ ([V.im q (ints lv)] = [V.im q (ints lv)] ∧ True ∧ True) ∧ ((n + 1 = n + 1 ∧ ints keep = ints keep) ∧ (n + 1 = n + 1 ∧ ints cl = ints cl) ∧ (0 = 0 ∧ sz = sz ∧ sz - sz = sz - sz) ∧ EQn (sK) 0 64) ∧ (elF (zF z 0) (fun x => (0 : Int)) sz = rep sz [i6 0, i6 0] ∧ HfL (elF (zF z 0) (fun x => (0 : Int)) sz)) ∧ True) ∧ Sat Try.prog none 0 (at' 15 [1, 1, 1, 1, 1, 1, 1, 1, 1, 1, 1, 1, 1, 1, 1, 1, 0, 1, 0]) (mkSt g0 209 (c8S keep (n + 1) z o u fv fp ft c m F q lv ls sK cl sz 0)) (outsP g0 209 [(True, Ex.exit 8, c8X keep (n + 1) z o u fv fp ft c m F q lv ls sK cl sz (elF (fun x => z) (fun x => (0 : Int)) sz))]) ∧ (True → (True ∧ True) ∧ FnOk Try.prog g0 42 [V.im q (ints ls)] (V.fn 72 [V.imp [V.im q (ints ls)]]) ∧ True ∧ ((0 = 0 ∧ 0 = 0 ∧ 0 = 0 ∧ 0 = 0 ∧ 0 = 0 ∧ ([V.im q (ints ls)] = [V.im q (ints ls)] ∧ True) ∧ True) ∧ ([V.nils, V.nils, V.nils] = [V.nils, V.nils, V.nils] ∧ TT 3) ∧ (opL z o u fv fp ft = opL z o u fv fp ft ∧ TT 7) ∧ ([V.im m c] = [V.im m c] ∧ True ∧ True) ∧ (a64 F = a64 F ∧ TT 64) ∧ ([V.im q (ints lv)] = [V.im q (ints lv)] ∧ True ∧ True) ∧ ((n + 1 = n + 1 ∧ ints keep = ints keep) ∧ (n + 1 = n + 1 ∧ ints cl = ints cl) ∧ (0 = 0 ∧ sz = sz ∧ sz - sz = sz - sz) ∧ EQn (sK) 0 64) ∧ (elF (fun x => z) (fun x => (0 : Int)) sz = elF (fun x => z) (fun x => (0 : Int)) sz ∧ HfL (elF (fun x => z) (fun x => (0 : Int)) sz)) ∧ True) ∧ Sat Try.prog none 0 (at' 15 [1, 1, 1, 1, 1, 1, 1, 1, 1, 1, 1, 1, 1, 1, 1, 1, 1, 0, 1, 0]) (mkSt g0 209 (rgSt keep (n + 1) z o u fv fp ft c m F q lv ls sK cl sz (elF (fun x => z) (fun x => (0 : Int)) sz))) (outsP g0 209 [(True, Ex.normal, rgX keep (n + 1) sK cl sz (elF wA wB sz))]) ∧ (True → ((0 = 0 ∧ 0 = 0 ∧ (sz = sz ∧ elF wA wB sz = elF wA wB sz) ∧ (↑sz : Int) = (↑sz : Int) ∧ (↑(0 : Nat) : Int) = (0 : Int) ∧ True) ∧ ([V.nils, V.nils, V.nils] = [V.nils, V.nils, V.nils] ∧ TT 3) ∧ (V.im (n + 1) (ints keep) :: V.im (n + 1) (ints cl) :: V.im sz (elF wA wB sz) :: a64 sK = V.im (n + 1) (ints keep) :: V.im (n + 1) (ints cl) :: V.im sz (elF wA wB sz) :: a64 sK ∧ TT 67) ∧ True) ∧ Sat Try.prog none 0 (at' 15 [1, 1, 1, 1, 1, 1, 1, 1, 1, 1, 1, 1, 1, 1, 1, 1, 1, 1, 0, 1, 0]) (mkSt g0 209 (seS keep (n + 1) cl sz wA wB sK 0)) (outsP g0 209 [(true = true, Ex.exit 12, seX keep (n + 1) cl sz wA wB sK), (true = false, Ex.ret, cBad (6 : Int))]) ∧ (true = true → (0 = 0 ∧ (0 : Int) = (0 : Int) ∧ True) ∧ ([V.im (n + 1) (ints keep), V.im (n + 1) (ints cl), V.im sz (elF wA wB sz)] = [V.im (n + 1) (ints keep), V.im (n + 1) (ints cl), V.im sz (elF wA wB sz)] ∧ TT 3) ∧ True) ∧ (true = false → (0 = 0 ∧ (0 : Int) = (6 : Int) ∧ True) ∧ ([V.im (n + 1) (ints keep), V.im (n + 1) (ints cl), V.im sz (elF wA wB sz)] = [V.nils, V.nils, V.nils] ∧ TT 3) ∧ True) ∧ True) ∧ True) ∧ True) ∧ True) ∧ True) ∧ True) ∧ (gd = false → (0 = 0 ∧ (0 : Int) = (41 : Int) ∧ True) ∧ ([V.im (n + 1) (ints keep), V.im (n + 1) (ints cl), V.im sz (elF wA wB sz)] = [V.nils, V.nils, V.nils] ∧ TT 3) ∧ True) ∧ True) = _) ?_
  (repeat' (first | (with_reducible apply And.intro) | (refine fun (_ : True) => ?_))) <;> first | exact aq | skip
  all_goals first | exact hcr0.trans hr.symm | (intro h9; rw [hgd] at h9; exact absurd h9 (by decide)) | (intro h9; (repeat' (first | (with_reducible apply And.intro) | (refine fun (_ : True) => ?_))); all_goals first | exact aq | exact hwi | exact hsrc _ | exact l4 | exact l6 | exact l8 | exact l9 | exact l10 | exact hz0 | exact hz0.symm | rfl | (intro h8; exact absurd h8 (by decide)) | (intro h8; (repeat' (first | (with_reducible apply And.intro) | (refine fun (_ : True) => ?_))); all_goals first | exact aq | rfl | skip) | skip) | skip
theorem com_ok0 (kd : Int) (keep : List Int) (hn : 0 = keep.length) (z o u : Int) (fv fp ft : Nat) (VS CS : Nat → List Int) (A B : Nat → Nat → Int) (N : Nat → Nat) (m : Nat) (F : Nat → Int) (q : Nat) (lv ls cl : List Int) (hcl : cl.length = 0) (sK : Nat → Int) (sz P : Nat) (at_ : Nat → Nat) (pA pB : Nat → Int) (WA WB : Nat → Nat → Int) (wp wq : Nat → Int)
    (hE : EndOk kd keep 0 z o u fv fp ft VS CS A B N m F q lv ls cl sK sz P at_ pA pB WA WB wp wq) (hf : fitA (WA P) (WB P) sz = true) : FnOk Pg g0 15 [i6 kd, .im m (blF (tbF VS CS A B N) m), .im 0 (ints keep)] (.tup [.agg [.im 0 (ints keep), .im 0 (ints cl), .im sz (elF (WA P) (WB P) sz)], i6 0]) := by
  have hch := hE.ch
  have l0 := hE.l0
  have htg := hE.tg
  have hwi := hE.wi
  have l2 := hE.l2
  have hic := hE.ic
  have l4 := hE.l4
  have l6 := hE.l6
  have hm := hE.m12
  have hn5 := hE.n5
  have hz := hE.szb
  have hL := HfL_blF (HfL_tbF VS CS A B N) m
  have hL2 := HfL_blF (HfL_tab VS CS A B N) m
  have hR := HfL_blF (HfL_rdF VS CS A B N 0) m
  have hr := rdF_rep VS CS A B N m
  have hF := HfL_a64 F
  have hS := HfL_a64 sK
  have hls := HfL_ints ls
  have hlv := HfL_ints lv
  have hkp := HfL_ints keep
  have hcl2 := HfL_ints cl
  have hcb := combs_fn ls q
  have l9 := com_range kd keep 0 z o u fv fp ft (blF (tab VS CS A B N) m) hL2 m F q lv ls sK cl sz P hE.szb at_ pA pB WA WB wp wq hE.lsl hE.q12 hE.lsb hE.Pe hE.P0 hE.rnd
  rw [hE.W0.1, hE.W0.2] at l9
  have l8 := com_zeros keep 0 z o u fv fp ft (blF (tab VS CS A B N) m) hL2 m F q lv ls sK cl sz hE.szb
  have l10 := com_settle keep 0 cl sz (WA P) (WB P) sK hE.szb
  have hz0 := rep_elF sz
  have hz1 : elF (zF z 0) (fun _ => 0) sz = elF (fun _ => 0) (fun _ => 0) sz := rfl
  have hW := HfL_elF (WA P) (WB P) sz
  have hWz := HfL_elF (fun _ => z) (fun _ => 0) sz
  have hW0 := HfL_elF (zF z 0) (fun _ => 0) sz
  have hsrc : ∀ H' : T O, srcV H' 1 (.im keep.length (ints keep)) = some (keep.length, ints keep) := fun H' => by
    unfold srcV
    dsimp only
    rw [ints_length, Nat.mul_one, show Nat.ble keep.length keep.length = true from Nat.ble_eq_true_of_le (Nat.le_refl _), cond_true, List.take_of_length_le (by rw [ints_length]; omega)]
  have hgd := hE.good
  clear hE
  rw [← hn] at hsrc
  rw [hf] at l10
  generalize goodA kd VS CS A B N m = gd at *
  generalize blF (tbF VS CS A B N) m = cT at *
  generalize hcc : blF (tab VS CS A B N) m = c at *
  generalize hcr : (fun k => blF (rdF VS CS A B N k) m) = cR at *
  have hcr0 : cR 0 = blF (rdF VS CS A B N 0) m := by rw [← hcr]
  generalize WA P = wA at *
  generalize WB P = wB at *
  refine FnOk.of_vc vE_ok mixed sp0_ok (n := 1000) (r := [0]) (S := { sl := [(6, .ptr 0 0), (7, i6 0)], os := [.row 32 none [.im 0 (ints keep), .im 0 (ints cl), .im sz (elF wA wB sz)]] }) (hs := h1 keep 0 z o u fv fp ft cT cR c gd m F q lv ls ++ [(0, .loop [0, 1, 2, 3, 4, 5] (c4M keep 0 z o u fv fp ft c m F q lv ls) [(True, .exit 4, c4X keep 0 (opL z o u fv fp ft) c m F q lv ls (sz : Int) sK)])] ++ h2 keep 0 z o u fv fp ft c m F q lv ls cl sK sz wA wB true) ?_
  refine Eq.mp (by kernel_rfl : (V.tup [V.agg [V.im 0 (ints keep), V.im 0 (ints cl), V.im sz (elF wA wB sz)], i6 0] = V.tup [V.agg [V.im 0 (ints keep), V.im 0 (ints cl), V.im sz (elF wA wB sz)], i6 0] ∧ (True ∧ True) ∧ FnOk Try.prog g0 37 [i6 kd] (V.tup [opV z o u fv fp ft, i6 0]) ∧ True ∧ decide ((↑m : Int) > (12 : Int)) = false ∧ ((0 : Int) ≤ (↑m : Int) ∧ (↑m : Int) ≤ (↑m : Int) ∧ (↑(584 : Nat) : Int) * (↑m : Int) ≤ (281474976710656 : Int) ∧ (↑m : Int) ≤ (9223372036854775807 : Int)) ∧ (((0 = 0 ∧ ints keep = ints keep) ∧ 0 = 0 ∧ 0 = 0 ∧ 0 = 0 ∧ (m = m ∧ cT = cT) ∧ (↑m : Int) = (↑m : Int) ∧ (↑(0 : Nat) : Int) = (0 : Int) ∧ True) ∧ ([V.nils, V.nils, V.nils] = [V.nils, V.nils, V.nils] ∧ TT 3) ∧ (opL z o u fv fp ft = [i6 z, i6 0, i6 o, i6 u, V.fn fv [], V.fn fp [], V.fn ft []] ∧ TT 7) ∧ (cR 0 = rep m zT ∧ HfL (cR 0)) ∧ ((0 = 0 ∧ m = m ∧ m - m = m - m) ∧ True) ∧ True) ∧ Sat Try.prog none 0 (at' 15 [1, 1, 1, 1, 1, 0, 1, 0]) (mkSt g0 209 (c0S keep 0 z o u fv fp ft cT cR m 0)) (outsP g0 209 [(gd = true, Ex.exit 0, c0X keep 0 z o u fv fp ft c m), (gd = false, Ex.ret, cBad (41 : Int))]) ∧ (gd = true → (True ∧ True) ∧ FnOk Try.prog g0 39 [V.im m c] (V.tup [V.agg (a64 F), V.bool true]) ∧ True ∧ ((TT 64) ∧ True ∧ True) ∧ FnOk Try.prog g0 40 [V.agg (a64 (F)), V.im 0 (ints keep)] (V.bool true) ∧ True ∧ (((0 = 0 ∧ ints keep = ints keep) ∧ 0 = 0 ∧ 0 = 0 ∧ 0 = 0 ∧ 0 = 0 ∧ 0 = 0 ∧ True ∧ (EQn (F) 0 64) ∧ (↑(0 : Nat) : Int) = (0 : Int) ∧ True) ∧ ([V.nils, V.nils, V.nils] = [V.nils, V.nils, V.nils] ∧ TT 3) ∧ (opL z o u fv fp ft = opL z o u fv fp ft ∧ TT 7) ∧ ([V.im m c] = [V.im m c] ∧ True ∧ True) ∧ (a64 F = (a64 (F)) ∧ TT 64) ∧ (True ∧ True) ∧ True) ∧ Sat Try.prog none 0 (at' 15 [1, 1, 1, 1, 1, 1, 1, 1, 1, 0, 1, 0]) (mkSt g0 209 (c2S keep 0 (opL z o u fv fp ft) c m F (0, 0, [], []))) (outsP g0 209 [(True, Ex.exit 2, c2X keep 0 (opL z o u fv fp ft) c m F q lv ls)]) ∧ (True → (True ∧ True) ∧ FnOk Try.prog g0 41 [V.im q (ints ls)] (i6 0) ∧ True ∧ (((0 = 0 ∧ ints keep = ints keep) ∧ 0 = 0 ∧ 0 = 0 ∧ 0 = 0 ∧ 0 = 0 ∧ 0 = 0 ∧ (q = q ∧ ints ls = ints ls) ∧ 0 = 0 ∧ sufK F keep 0 0 = (1 : Int) ∧ (↑(0 - 0) : Int) - (1 : Int) = wr IntKind.i64 ((↑(0 : Nat) : Int) - (1 : Int)) ∧ True) ∧ ([V.nils, V.nils, V.nils] = [V.nils, V.nils, V.nils] ∧ TT 3) ∧ (opL z o u fv fp ft = opL z o u fv fp ft ∧ TT 7) ∧ ([V.im m c] = [V.im m c] ∧ True ∧ True) ∧ (a64 F = a64 F ∧ TT 64) ∧ ([V.im q (ints lv)] = [V.im q (ints lv)] ∧ True ∧ True) ∧ (0 = 0 ∧ True ∧ True ∧ stK F keep 0 0 0 = (0 : Int) ∧ stK F keep 0 0 1 = (0 : Int) ∧ stK F keep 0 0 2 = (0 : Int) ∧ stK F keep 0 0 3 = (0 : Int) ∧ stK F keep 0 0 4 = (0 : Int) ∧ stK F keep 0 0 5 = (0 : Int) ∧ stK F keep 0 0 6 = (0 : Int) ∧ stK F keep 0 0 7 = (0 : Int) ∧ stK F keep 0 0 8 = (0 : Int) ∧ stK F keep 0 0 9 = (0 : Int) ∧ stK F keep 0 0 10 = (0 : Int) ∧ stK F keep 0 0 11 = (0 : Int) ∧ stK F keep 0 0 12 = (0 : Int) ∧ stK F keep 0 0 13 = (0 : Int) ∧ stK F keep 0 0 14 = (0 : Int) ∧ stK F keep 0 0 15 = (0 : Int) ∧ stK F keep 0 0 16 = (0 : Int) ∧ stK F keep 0 0 17 = (0 : Int) ∧ stK F keep 0 0 18 = (0 : Int) ∧ stK F keep 0 0 19 = (0 : Int) ∧ stK F keep 0 0 20 = (0 : Int) ∧ stK F keep 0 0 21 = (0 : Int) ∧ stK F keep 0 0 22 = (0 : Int) ∧ stK F keep 0 0 23 = (0 : Int) ∧ stK F keep 0 0 24 = (0 : Int) ∧ stK F keep 0 0 25 = (0 : Int) ∧ stK F keep 0 0 26 = (0 : Int) ∧ stK F keep 0 0 27 = (0 : Int) ∧ stK F keep 0 0 28 = (0 : Int) ∧ stK F keep 0 0 29 = (0 : Int) ∧ stK F keep 0 0 30 = (0 : Int) ∧ stK F keep 0 0 31 = (0 : Int) ∧ stK F keep 0 0 32 = (0 : Int) ∧ stK F keep 0 0 33 = (0 : Int) ∧ stK F keep 0 0 34 = (0 : Int) ∧ stK F keep 0 0 35 = (0 : Int) ∧ stK F keep 0 0 36 = (0 : Int) ∧ stK F keep 0 0 37 = (0 : Int) ∧ stK F keep 0 0 38 = (0 : Int) ∧ stK F keep 0 0 39 = (0 : Int) ∧ stK F keep 0 0 40 = (0 : Int) ∧ stK F keep 0 0 41 = (0 : Int) ∧ stK F keep 0 0 42 = (0 : Int) ∧ stK F keep 0 0 43 = (0 : Int) ∧ stK F keep 0 0 44 = (0 : Int) ∧ stK F keep 0 0 45 = (0 : Int) ∧ stK F keep 0 0 46 = (0 : Int) ∧ stK F keep 0 0 47 = (0 : Int) ∧ stK F keep 0 0 48 = (0 : Int) ∧ stK F keep 0 0 49 = (0 : Int) ∧ stK F keep 0 0 50 = (0 : Int) ∧ stK F keep 0 0 51 = (0 : Int) ∧ stK F keep 0 0 52 = (0 : Int) ∧ stK F keep 0 0 53 = (0 : Int) ∧ stK F keep 0 0 54 = (0 : Int) ∧ stK F keep 0 0 55 = (0 : Int) ∧ stK F keep 0 0 56 = (0 : Int) ∧ stK F keep 0 0 57 = (0 : Int) ∧ stK F keep 0 0 58 = (0 : Int) ∧ stK F keep 0 0 59 = (0 : Int) ∧ stK F keep 0 0 60 = (0 : Int) ∧ stK F keep 0 0 61 = (0 : Int) ∧ stK F keep 0 0 62 = (0 : Int) ∧ stK F keep 0 0 63 = (0 : Int) ∧ True) ∧ True) ∧ Sat Try.prog none 0 (at' 15 [1, 1, 1, 1, 1, 1, 1, 1, 1, 1, 1, 1, 1, 0, 1, 0]) (mkSt g0 209 (c4M keep 0 z o u fv fp ft c m F q lv ls)) (outsP g0 209 [(True, Ex.exit 4, c4X keep 0 (opL z o u fv fp ft) c m F q lv ls (↑sz : Int) sK)]) ∧ (True → (((0 = 0 ∧ ints keep = ints keep) ∧ 0 = 0 ∧ 0 = 0 ∧ 0 = 0 ∧ 0 = 0 ∧ 0 = 0 ∧ (q = q ∧ ints ls = ints ls) ∧ 0 = 0 ∧ (↑sz : Int) = (↑sz : Int) ∧ (0 = 0 ∧ ints keep = ints keep) ∧ (↑(0 : Nat) : Int) = (↑(0 : Nat) : Int) ∧ (↑(0 : Nat) : Int) = (0 : Int) ∧ True) ∧ ([V.nils, V.nils, V.nils] = [V.nils, V.nils, V.nils] ∧ TT 3) ∧ (opL z o u fv fp ft = opL z o u fv fp ft ∧ TT 7) ∧ ([V.im m c] = [V.im m c] ∧ True ∧ True) ∧ (a64 F = a64 F ∧ TT 64) ∧ ([V.im q (ints lv)] = [V.im q (ints lv)] ∧ True ∧ True) ∧ ((0 = 0 ∧ ints keep = ints keep) ∧ True ∧ True ∧ EQn (sK) 0 64) ∧ True) ∧ Sat Try.prog none 0 (at' 15 [1, 1, 1, 1, 1, 1, 1, 1, 1, 1, 1, 1, 1, 1, 0, 1, 0]) (mkSt g0 209 (c6S keep 0 (opL z o u fv fp ft) c m F q lv ls (↑sz : Int) sK (0, []))) (outsP g0 209 [(True, Ex.exit 6, c6X keep 0 (opL z o u fv fp ft) c m F q lv ls (↑sz : Int) sK cl)]) ∧ (True → ((0 : Int) ≤ (↑sz : Int) ∧ (↑sz : Int) ≤ (↑sz : Int) ∧ (↑(16 : Nat) : Int) * (↑sz : Int) ≤ (281474976710656 : Int) ∧ (↑sz : Int) ≤ (9223372036854775807 : Int)) ∧ ((0 = 0 ∧ 0 = 0 ∧ 0 = 0 ∧ 0 = 0 ∧ (q = q ∧ ints ls = ints ls) ∧ 0 = 0 ∧ (↑sz : Int) = (↑sz : Int) ∧ (↑(0 : Nat) : Int) = (0 : Int) ∧ True) ∧ ([V.nils, V.nils, V.nils] = [V.nils, V.nils, V.nils] ∧ TT 3) ∧ (opL z o u fv fp ft = opL z o u fv fp ft ∧ TT 7) ∧ ([V.im m c] = [V.im m c] ∧ True ∧ True) ∧ (a64 F = a64 F ∧ TT 64) ∧ ([V.im q (ints lv)] = [V.im q (ints lv)] ∧ True ∧ True) ∧ ((0 = 0 ∧ ints keep = ints keep) ∧ (0 = 0 ∧ ints cl = ints cl) ∧ (0 = 0 ∧ sz = sz ∧ sz - sz = sz - sz) ∧ EQn (sK) 0 64) ∧ (elF (zF z 0) (fun x => (0 : Int)) sz = rep sz [i6 0, i6 0] ∧ HfL (elF (zF z 0) (fun x => (0 : Int)) sz)) ∧ True) ∧ Sat Try.prog none 0 (at' 15 [1, 1, 1, 1, 1, 1, 1, 1, 1, 1, 1, 1, 1, 1, 1, 1, 0, 1, 0]) (mkSt g0 209 (c8S keep 0 z o u fv fp ft c m F q lv ls sK cl sz 0)) (outsP g0 209 [(True, Ex.exit 8, c8X keep 0 z o u fv fp ft c m F q lv ls sK cl sz (elF (fun x => z) (fun x => (0 : Int)) sz))]) ∧ (True → (True ∧ True) ∧ FnOk Try.prog g0 42 [V.im q (ints ls)] (V.fn 72 [V.imp [V.im q (ints ls)]]) ∧ True ∧ ((0 = 0 ∧ 0 = 0 ∧ 0 = 0 ∧ 0 = 0 ∧ 0 = 0 ∧ ([V.im q (ints ls)] = [V.im q (ints ls)] ∧ True) ∧ True) ∧ ([V.nils, V.nils, V.nils] = [V.nils, V.nils, V.nils] ∧ TT 3) ∧ (opL z o u fv fp ft = opL z o u fv fp ft ∧ TT 7) ∧ ([V.im m c] = [V.im m c] ∧ True ∧ True) ∧ (a64 F = a64 F ∧ TT 64) ∧ ([V.im q (ints lv)] = [V.im q (ints lv)] ∧ True ∧ True) ∧ ((0 = 0 ∧ ints keep = ints keep) ∧ (0 = 0 ∧ ints cl = ints cl) ∧ (0 = 0 ∧ sz = sz ∧ sz - sz = sz - sz) ∧ EQn (sK) 0 64) ∧ (elF (fun x => z) (fun x => (0 : Int)) sz = elF (fun x => z) (fun x => (0 : Int)) sz ∧ HfL (elF (fun x => z) (fun x => (0 : Int)) sz)) ∧ True) ∧ Sat Try.prog none 0 (at' 15 [1, 1, 1, 1, 1, 1, 1, 1, 1, 1, 1, 1, 1, 1, 1, 1, 1, 0, 1, 0]) (mkSt g0 209 (rgSt keep 0 z o u fv fp ft c m F q lv ls sK cl sz (elF (fun x => z) (fun x => (0 : Int)) sz))) (outsP g0 209 [(True, Ex.normal, rgX keep 0 sK cl sz (elF wA wB sz))]) ∧ (True → ((0 = 0 ∧ 0 = 0 ∧ (sz = sz ∧ elF wA wB sz = elF wA wB sz) ∧ (↑sz : Int) = (↑sz : Int) ∧ (↑(0 : Nat) : Int) = (0 : Int) ∧ True) ∧ ([V.nils, V.nils, V.nils] = [V.nils, V.nils, V.nils] ∧ TT 3) ∧ (V.im 0 (ints keep) :: V.im 0 (ints cl) :: V.im sz (elF wA wB sz) :: a64 sK = V.im 0 (ints keep) :: V.im 0 (ints cl) :: V.im sz (elF wA wB sz) :: a64 sK ∧ TT 67) ∧ True) ∧ Sat Try.prog none 0 (at' 15 [1, 1, 1, 1, 1, 1, 1, 1, 1, 1, 1, 1, 1, 1, 1, 1, 1, 1, 0, 1, 0]) (mkSt g0 209 (seS keep 0 cl sz wA wB sK 0)) (outsP g0 209 [(true = true, Ex.exit 12, seX keep 0 cl sz wA wB sK), (true = false, Ex.ret, cBad (6 : Int))]) ∧ (true = true → (0 = 0 ∧ (0 : Int) = (0 : Int) ∧ True) ∧ ([V.im 0 (ints keep), V.im 0 (ints cl), V.im sz (elF wA wB sz)] = [V.im 0 (ints keep), V.im 0 (ints cl), V.im sz (elF wA wB sz)] ∧ TT 3) ∧ True) ∧ (true = false → (0 = 0 ∧ (0 : Int) = (6 : Int) ∧ True) ∧ ([V.im 0 (ints keep), V.im 0 (ints cl), V.im sz (elF wA wB sz)] = [V.nils, V.nils, V.nils] ∧ TT 3) ∧ True) ∧ True) ∧ True) ∧ True) ∧ True) ∧ True) ∧ True) ∧ (gd = false → (0 = 0 ∧ (0 : Int) = (41 : Int) ∧ True) ∧ ([V.im 0 (ints keep), V.im 0 (ints cl), V.im sz (elF wA wB sz)] = [V.nils, V.nils, V.nils] ∧ TT 3) ∧ True) ∧ True) = _) ?_
  (repeat' (first | (with_reducible apply And.intro) | (refine fun (_ : True) => ?_))) <;> first | exact aq | skip
  all_goals first | exact hcr0.trans hr.symm | (intro h9; rw [hgd] at h9; exact absurd h9 (by decide)) | (intro h9; (repeat' (first | (with_reducible apply And.intro) | (refine fun (_ : True) => ?_))); all_goals first | exact aq | exact hwi | exact hsrc _ | exact l4 | exact l6 | exact l8 | exact l9 | exact l10 | exact hz0 | exact hz0.symm | rfl | (intro h8; exact absurd h8 (by decide)) | (intro h8; (repeat' (first | (with_reducible apply And.intro) | (refine fun (_ : True) => ?_))); all_goals first | exact aq | rfl | skip) | skip) | skip
theorem com_big1 (kd : Int) (keep : List Int) (n : Nat) (hn : n + 1 = keep.length) (z o u : Int) (fv fp ft : Nat) (VS CS : Nat → List Int) (A B : Nat → Nat → Int) (N : Nat → Nat) (m : Nat) (F : Nat → Int) (q : Nat) (lv ls cl : List Int) (hcl : cl.length = n + 1) (sK : Nat → Int) (sz P : Nat) (at_ : Nat → Nat) (pA pB : Nat → Int) (WA WB : Nat → Nat → Int) (wp wq : Nat → Int)
    (hE : EndOk kd keep (n + 1) z o u fv fp ft VS CS A B N m F q lv ls cl sK sz P at_ pA pB WA WB wp wq) (hf : fitA (WA P) (WB P) sz = false) : FnOk Pg g0 15 [i6 kd, .im m (blF (tbF VS CS A B N) m), .im (n + 1) (ints keep)] (.tup [t0V, i6 6]) := by
  have hch := hE.ch
  have l0 := hE.l0
  have htg := hE.tg
  have hwi := hE.wi
  have l2 := hE.l2
  have hic := hE.ic
  have l4 := hE.l4
  have l6 := hE.l6
  have hm := hE.m12
  have hn5 := hE.n5
  have hz := hE.szb
  have hL := HfL_blF (HfL_tbF VS CS A B N) m
  have hL2 := HfL_blF (HfL_tab VS CS A B N) m
  have hR := HfL_blF (HfL_rdF VS CS A B N 0) m
  have hr := rdF_rep VS CS A B N m
  have hF := HfL_a64 F
  have hS := HfL_a64 sK
  have hls := HfL_ints ls
  have hlv := HfL_ints lv
  have hkp := HfL_ints keep
  have hcl2 := HfL_ints cl
  have hcb := combs_fn ls q
  have l9 := com_range kd keep (n + 1) z o u fv fp ft (blF (tab VS CS A B N) m) hL2 m F q lv ls sK cl sz P hE.szb at_ pA pB WA WB wp wq hE.lsl hE.q12 hE.lsb hE.Pe hE.P0 hE.rnd
  rw [hE.W0.1, hE.W0.2] at l9
  have l8 := com_zeros keep (n + 1) z o u fv fp ft (blF (tab VS CS A B N) m) hL2 m F q lv ls sK cl sz hE.szb
  have l10 := com_settle keep (n + 1) cl sz (WA P) (WB P) sK hE.szb
  have hz0 := rep_elF sz
  have hz1 : elF (zF z 0) (fun _ => 0) sz = elF (fun _ => 0) (fun _ => 0) sz := rfl
  have hW := HfL_elF (WA P) (WB P) sz
  have hWz := HfL_elF (fun _ => z) (fun _ => 0) sz
  have hW0 := HfL_elF (zF z 0) (fun _ => 0) sz
  have hsrc : ∀ H' : T O, srcV H' 1 (.im keep.length (ints keep)) = some (keep.length, ints keep) := fun H' => by
    unfold srcV
    dsimp only
    rw [ints_length, Nat.mul_one, show Nat.ble keep.length keep.length = true from Nat.ble_eq_true_of_le (Nat.le_refl _), cond_true, List.take_of_length_le (by rw [ints_length]; omega)]
  have hgd := hE.good
  clear hE
  rw [← hn] at hsrc
  rw [hf] at l10
  generalize goodA kd VS CS A B N m = gd at *
  generalize blF (tbF VS CS A B N) m = cT at *
  generalize hcc : blF (tab VS CS A B N) m = c at *
  generalize hcr : (fun k => blF (rdF VS CS A B N k) m) = cR at *
  have hcr0 : cR 0 = blF (rdF VS CS A B N 0) m := by rw [← hcr]
  generalize WA P = wA at *
  generalize WB P = wB at *
  refine FnOk.of_vc vE_ok mixed sp0_ok (n := 1000) (r := [0]) (S := S0 6) (hs := h1 keep (n + 1) z o u fv fp ft cT cR c gd m F q lv ls ++ [(103, .an (n + 1) (ints keep)), nu 108 (n : Nat), (0, .loop [0, 1, 2, 3, 4, 6] (c4M keep (n + 1) z o u fv fp ft c m F q lv ls) [(True, .exit 4, c4X keep (n + 1) (opL z o u fv fp ft) c m F q lv ls (sz : Int) sK)])] ++ h2 keep (n + 1) z o u fv fp ft c m F q lv ls cl sK sz wA wB false) ?_
  refine Eq.mp (by kernel_rfl : (V.tup [V.agg [V.im 0 [], V.im 0 [], V.im 0 []], i6 6] = V.tup [t0V, i6 6] ∧ (True ∧ True) ∧ FnOk Try.prog g0 37 [i6 kd] (V.tup [opV z o u fv fp ft, i6 0]) ∧ True ∧ decide ((↑m : Int) > (12 : Int)) = false ∧ ((0 : Int) ≤ (↑m : Int) ∧ (↑m : Int) ≤ (↑m : Int) ∧ (↑(584 : Nat) : Int) * (↑m : Int) ≤ (281474976710656 : Int) ∧ (↑m : Int) ≤ (9223372036854775807 : Int)) ∧ (((n + 1 = n + 1 ∧ ints keep = ints keep) ∧ 0 = 0 ∧ 0 = 0 ∧ 0 = 0 ∧ (m = m ∧ cT = cT) ∧ (↑m : Int) = (↑m : Int) ∧ (↑(0 : Nat) : Int) = (0 : Int) ∧ True) ∧ ([V.nils, V.nils, V.nils] = [V.nils, V.nils, V.nils] ∧ TT 3) ∧ (opL z o u fv fp ft = [i6 z, i6 0, i6 o, i6 u, V.fn fv [], V.fn fp [], V.fn ft []] ∧ TT 7) ∧ (cR 0 = rep m zT ∧ HfL (cR 0)) ∧ ((0 = 0 ∧ m = m ∧ m - m = m - m) ∧ True) ∧ True) ∧ Sat Try.prog none 0 (at' 15 [1, 1, 1, 1, 1, 0, 1, 0]) (mkSt g0 209 (c0S keep (n + 1) z o u fv fp ft cT cR m 0)) (outsP g0 209 [(gd = true, Ex.exit 0, c0X keep (n + 1) z o u fv fp ft c m), (gd = false, Ex.ret, cBad (41 : Int))]) ∧ (gd = true → (True ∧ True) ∧ FnOk Try.prog g0 39 [V.im m c] (V.tup [V.agg (a64 F), V.bool true]) ∧ True ∧ ((TT 64) ∧ True ∧ True) ∧ FnOk Try.prog g0 40 [V.agg (a64 (F)), V.im (n + 1) (ints keep)] (V.bool true) ∧ True ∧ (((n + 1 = n + 1 ∧ ints keep = ints keep) ∧ 0 = 0 ∧ 0 = 0 ∧ 0 = 0 ∧ 0 = 0 ∧ 0 = 0 ∧ True ∧ (EQn (F) 0 64) ∧ (↑(0 : Nat) : Int) = (0 : Int) ∧ True) ∧ ([V.nils, V.nils, V.nils] = [V.nils, V.nils, V.nils] ∧ TT 3) ∧ (opL z o u fv fp ft = opL z o u fv fp ft ∧ TT 7) ∧ ([V.im m c] = [V.im m c] ∧ True ∧ True) ∧ (a64 F = (a64 (F)) ∧ TT 64) ∧ (True ∧ True) ∧ True) ∧ Sat Try.prog none 0 (at' 15 [1, 1, 1, 1, 1, 1, 1, 1, 1, 0, 1, 0]) (mkSt g0 209 (c2S keep (n + 1) (opL z o u fv fp ft) c m F (0, 0, [], []))) (outsP g0 209 [(True, Ex.exit 2, c2X keep (n + 1) (opL z o u fv fp ft) c m F q lv ls)]) ∧ (True → (True ∧ True) ∧ FnOk Try.prog g0 41 [V.im q (ints ls)] (i6 0) ∧ True ∧ (srcV (ofOs T.e 0 [r3, O.row 79 none (opL z o u fv fp ft), O.row 82 none [V.im m c], O.row 83 none (a64 F), O.row 29 none [V.im q (ints lv)]]) 1 (V.im (n + 1) (ints keep)) = some (n + 1, ints keep) ∧ n + 1 ≤ 9223372036854775807 ∧ (n + 1) * 8 ≤ 140737488355328) ∧ wr IntKind.i64 ((↑(n + 1) : Int) - (1 : Int)) = (↑n : Int) ∧ (((n + 1 = n + 1 ∧ ints keep = ints keep) ∧ 0 = 0 ∧ 0 = 0 ∧ 0 = 0 ∧ 0 = 0 ∧ 0 = 0 ∧ (q = q ∧ ints ls = ints ls) ∧ 0 = 0 ∧ sufK F keep (n + 1) 0 = (1 : Int) ∧ (↑(n + 1 - 0) : Int) - (1 : Int) = (↑n : Int) ∧ True) ∧ ([V.nils, V.nils, V.nils] = [V.nils, V.nils, V.nils] ∧ TT 3) ∧ (opL z o u fv fp ft = opL z o u fv fp ft ∧ TT 7) ∧ ([V.im m c] = [V.im m c] ∧ True ∧ True) ∧ (a64 F = a64 F ∧ TT 64) ∧ ([V.im q (ints lv)] = [V.im q (ints lv)] ∧ True ∧ True) ∧ ((n + 1 = n + 1 ∧ ints keep = ints keep ∧ HfL (ints keep)) ∧ True ∧ True ∧ stK F keep (n + 1) 0 0 = (0 : Int) ∧ stK F keep (n + 1) 0 1 = (0 : Int) ∧ stK F keep (n + 1) 0 2 = (0 : Int) ∧ stK F keep (n + 1) 0 3 = (0 : Int) ∧ stK F keep (n + 1) 0 4 = (0 : Int) ∧ stK F keep (n + 1) 0 5 = (0 : Int) ∧ stK F keep (n + 1) 0 6 = (0 : Int) ∧ stK F keep (n + 1) 0 7 = (0 : Int) ∧ stK F keep (n + 1) 0 8 = (0 : Int) ∧ stK F keep (n + 1) 0 9 = (0 : Int) ∧ stK F keep (n + 1) 0 10 = (0 : Int) ∧ stK F keep (n + 1) 0 11 = (0 : Int) ∧ stK F keep (n + 1) 0 12 = (0 : Int) ∧ stK F keep (n + 1) 0 13 = (0 : Int) ∧ stK F keep (n + 1) 0 14 = (0 : Int) ∧ stK F keep (n + 1) 0 15 = (0 : Int) ∧ stK F keep (n + 1) 0 16 = (0 : Int) ∧ stK F keep (n + 1) 0 17 = (0 : Int) ∧ stK F keep (n + 1) 0 18 = (0 : Int) ∧ stK F keep (n + 1) 0 19 = (0 : Int) ∧ stK F keep (n + 1) 0 20 = (0 : Int) ∧ stK F keep (n + 1) 0 21 = (0 : Int) ∧ stK F keep (n + 1) 0 22 = (0 : Int) ∧ stK F keep (n + 1) 0 23 = (0 : Int) ∧ stK F keep (n + 1) 0 24 = (0 : Int) ∧ stK F keep (n + 1) 0 25 = (0 : Int) ∧ stK F keep (n + 1) 0 26 = (0 : Int) ∧ stK F keep (n + 1) 0 27 = (0 : Int) ∧ stK F keep (n + 1) 0 28 = (0 : Int) ∧ stK F keep (n + 1) 0 29 = (0 : Int) ∧ stK F keep (n + 1) 0 30 = (0 : Int) ∧ stK F keep (n + 1) 0 31 = (0 : Int) ∧ stK F keep (n + 1) 0 32 = (0 : Int) ∧ stK F keep (n + 1) 0 33 = (0 : Int) ∧ stK F keep (n + 1) 0 34 = (0 : Int) ∧ stK F keep (n + 1) 0 35 = (0 : Int) ∧ stK F keep (n + 1) 0 36 = (0 : Int) ∧ stK F keep (n + 1) 0 37 = (0 : Int) ∧ stK F keep (n + 1) 0 38 = (0 : Int) ∧ stK F keep (n + 1) 0 39 = (0 : Int) ∧ stK F keep (n + 1) 0 40 = (0 : Int) ∧ stK F keep (n + 1) 0 41 = (0 : Int) ∧ stK F keep (n + 1) 0 42 = (0 : Int) ∧ stK F keep (n + 1) 0 43 = (0 : Int) ∧ stK F keep (n + 1) 0 44 = (0 : Int) ∧ stK F keep (n + 1) 0 45 = (0 : Int) ∧ stK F keep (n + 1) 0 46 = (0 : Int) ∧ stK F keep (n + 1) 0 47 = (0 : Int) ∧ stK F keep (n + 1) 0 48 = (0 : Int) ∧ stK F keep (n + 1) 0 49 = (0 : Int) ∧ stK F keep (n + 1) 0 50 = (0 : Int) ∧ stK F keep (n + 1) 0 51 = (0 : Int) ∧ stK F keep (n + 1) 0 52 = (0 : Int) ∧ stK F keep (n + 1) 0 53 = (0 : Int) ∧ stK F keep (n + 1) 0 54 = (0 : Int) ∧ stK F keep (n + 1) 0 55 = (0 : Int) ∧ stK F keep (n + 1) 0 56 = (0 : Int) ∧ stK F keep (n + 1) 0 57 = (0 : Int) ∧ stK F keep (n + 1) 0 58 = (0 : Int) ∧ stK F keep (n + 1) 0 59 = (0 : Int) ∧ stK F keep (n + 1) 0 60 = (0 : Int) ∧ stK F keep (n + 1) 0 61 = (0 : Int) ∧ stK F keep (n + 1) 0 62 = (0 : Int) ∧ stK F keep (n + 1) 0 63 = (0 : Int) ∧ True) ∧ True) ∧ Sat Try.prog none 0 (at' 15 [1, 1, 1, 1, 1, 1, 1, 1, 1, 1, 1, 1, 1, 0, 1, 0]) (mkSt g0 209 (c4M keep (n + 1) z o u fv fp ft c m F q lv ls)) (outsP g0 209 [(True, Ex.exit 4, c4X keep (n + 1) (opL z o u fv fp ft) c m F q lv ls (↑sz : Int) sK)]) ∧ (True → (((n + 1 = n + 1 ∧ ints keep = ints keep) ∧ 0 = 0 ∧ 0 = 0 ∧ 0 = 0 ∧ 0 = 0 ∧ 0 = 0 ∧ (q = q ∧ ints ls = ints ls) ∧ 0 = 0 ∧ (↑sz : Int) = (↑sz : Int) ∧ (n + 1 = n + 1 ∧ ints keep = ints keep) ∧ (↑(n + 1) : Int) = (↑(n + 1) : Int) ∧ (↑(0 : Nat) : Int) = (0 : Int) ∧ True) ∧ ([V.nils, V.nils, V.nils] = [V.nils, V.nils, V.nils] ∧ TT 3) ∧ (opL z o u fv fp ft = opL z o u fv fp ft ∧ TT 7) ∧ ([V.im m c] = [V.im m c] ∧ True ∧ True) ∧ (a64 F = a64 F ∧ TT 64) ∧ ([V.im q (ints lv)] = [V.im q (ints lv)] ∧ True ∧ True) ∧ ((n + 1 = n + 1 ∧ ints keep = ints keep) ∧ True ∧ True ∧ EQn (sK) 0 64) ∧ True) ∧ Sat Try.prog none 0 (at' 15 [1, 1, 1, 1, 1, 1, 1, 1, 1, 1, 1, 1, 1, 1, 0, 1, 0]) (mkSt g0 209 (c6S keep (n + 1) (opL z o u fv fp ft) c m F q lv ls (↑sz : Int) sK (0, []))) (outsP g0 209 [(True, Ex.exit 6, c6X keep (n + 1) (opL z o u fv fp ft) c m F q lv ls (↑sz : Int) sK cl)]) ∧ (True → ((0 : Int) ≤ (↑sz : Int) ∧ (↑sz : Int) ≤ (↑sz : Int) ∧ (↑(16 : Nat) : Int) * (↑sz : Int) ≤ (281474976710656 : Int) ∧ (↑sz : Int) ≤ (9223372036854775807 : Int)) ∧ ((0 = 0 ∧ 0 = 0 ∧ 0 = 0 ∧ 0 = 0 ∧ (q = q ∧ ints ls = ints ls) ∧ 0 = 0 ∧ (↑sz : Int) = (↑sz : Int) ∧ (↑(0 : Nat) : Int) = (0 : Int) ∧ True) ∧ ([V.nils, V.nils, V.nils] = [V.nils, V.nils, V.nils] ∧ TT 3) ∧ (opL z o u fv fp ft = opL z o u fv fp ft ∧ TT 7) ∧ ([V.im m c] = [V.im m c] ∧ True ∧ True) ∧ (a64 F = a64 F ∧ TT 64) ∧ ([V.im q (ints lv)] = [V.im q (ints lv)] ∧ True ∧ True) ∧ ((n + 1 = n + 1 ∧ ints keep = ints keep) ∧ (n + 1 = n + 1 ∧ ints cl = ints cl) ∧ (0 = 0 ∧ sz = sz ∧ sz - sz = sz - sz) ∧ EQn (sK) 0 64) ∧ (elF (zF z 0) (fun x => (0 : Int)) sz = rep sz [i6 0, i6 0] ∧ HfL (elF (zF z 0) (fun x => (0 : Int)) sz)) ∧ True) ∧ Sat Try.prog none 0 (at' 15 [1, 1, 1, 1, 1, 1, 1, 1, 1, 1, 1, 1, 1, 1, 1, 1, 0, 1, 0]) (mkSt g0 209 (c8S keep (n + 1) z o u fv fp ft c m F q lv ls sK cl sz 0)) (outsP g0 209 [(True, Ex.exit 8, c8X keep (n + 1) z o u fv fp ft c m F q lv ls sK cl sz (elF (fun x => z) (fun x => (0 : Int)) sz))]) ∧ (True → (True ∧ True) ∧ FnOk Try.prog g0 42 [V.im q (ints ls)] (V.fn 72 [V.imp [V.im q (ints ls)]]) ∧ True ∧ ((0 = 0 ∧ 0 = 0 ∧ 0 = 0 ∧ 0 = 0 ∧ 0 = 0 ∧ ([V.im q (ints ls)] = [V.im q (ints ls)] ∧ True) ∧ True) ∧ ([V.nils, V.nils, V.nils] = [V.nils, V.nils, V.nils] ∧ TT 3) ∧ (opL z o u fv fp ft = opL z o u fv fp ft ∧ TT 7) ∧ ([V.im m c] = [V.im m c] ∧ True ∧ True) ∧ (a64 F = a64 F ∧ TT 64) ∧ ([V.im q (ints lv)] = [V.im q (ints lv)] ∧ True ∧ True) ∧ ((n + 1 = n + 1 ∧ ints keep = ints keep) ∧ (n + 1 = n + 1 ∧ ints cl = ints cl) ∧ (0 = 0 ∧ sz = sz ∧ sz - sz = sz - sz) ∧ EQn (sK) 0 64) ∧ (elF (fun x => z) (fun x => (0 : Int)) sz = elF (fun x => z) (fun x => (0 : Int)) sz ∧ HfL (elF (fun x => z) (fun x => (0 : Int)) sz)) ∧ True) ∧ Sat Try.prog none 0 (at' 15 [1, 1, 1, 1, 1, 1, 1, 1, 1, 1, 1, 1, 1, 1, 1, 1, 1, 0, 1, 0]) (mkSt g0 209 (rgSt keep (n + 1) z o u fv fp ft c m F q lv ls sK cl sz (elF (fun x => z) (fun x => (0 : Int)) sz))) (outsP g0 209 [(True, Ex.normal, rgX keep (n + 1) sK cl sz (elF wA wB sz))]) ∧ (True → ((0 = 0 ∧ 0 = 0 ∧ (sz = sz ∧ elF wA wB sz = elF wA wB sz) ∧ (↑sz : Int) = (↑sz : Int) ∧ (↑(0 : Nat) : Int) = (0 : Int) ∧ True) ∧ ([V.nils, V.nils, V.nils] = [V.nils, V.nils, V.nils] ∧ TT 3) ∧ (V.im (n + 1) (ints keep) :: V.im (n + 1) (ints cl) :: V.im sz (elF wA wB sz) :: a64 sK = V.im (n + 1) (ints keep) :: V.im (n + 1) (ints cl) :: V.im sz (elF wA wB sz) :: a64 sK ∧ TT 67) ∧ True) ∧ Sat Try.prog none 0 (at' 15 [1, 1, 1, 1, 1, 1, 1, 1, 1, 1, 1, 1, 1, 1, 1, 1, 1, 1, 0, 1, 0]) (mkSt g0 209 (seS keep (n + 1) cl sz wA wB sK 0)) (outsP g0 209 [(false = true, Ex.exit 12, seX keep (n + 1) cl sz wA wB sK), (false = false, Ex.ret, cBad (6 : Int))]) ∧ (false = true → (0 = 0 ∧ (6 : Int) = (0 : Int) ∧ True) ∧ ((0 = n + 1 ∧ [] = ints keep) ∧ (0 = n + 1 ∧ [] = ints cl) ∧ (0 = sz ∧ [] = elF wA wB sz) ∧ True) ∧ True) ∧ (false = false → (0 = 0 ∧ (6 : Int) = (6 : Int) ∧ True) ∧ (0 = 0 ∧ 0 = 0 ∧ 0 = 0 ∧ True) ∧ True) ∧ True) ∧ True) ∧ True) ∧ True) ∧ True) ∧ True) ∧ (gd = false → (0 = 0 ∧ (6 : Int) = (41 : Int) ∧ True) ∧ (0 = 0 ∧ 0 = 0 ∧ 0 = 0 ∧ True) ∧ True) ∧ True) = _) ?_
  (repeat' (first | (with_reducible apply And.intro) | (refine fun (_ : True) => ?_))) <;> first | exact aq | skip
  all_goals first | exact hcr0.trans hr.symm | (intro h9; rw [hgd] at h9; exact absurd h9 (by decide)) | (intro h9; (repeat' (first | (with_reducible apply And.intro) | (refine fun (_ : True) => ?_))); all_goals first | exact aq | exact hwi | exact hsrc _ | exact l4 | exact l6 | exact l8 | exact l9 | exact l10 | exact hz0 | exact hz0.symm | rfl | (intro h8; exact absurd h8 (by decide)) | (intro h8; (repeat' (first | (with_reducible apply And.intro) | (refine fun (_ : True) => ?_))); all_goals first | exact aq | rfl | skip) | skip) | skip
theorem com_big0 (kd : Int) (keep : List Int) (hn : 0 = keep.length) (z o u : Int) (fv fp ft : Nat) (VS CS : Nat → List Int) (A B : Nat → Nat → Int) (N : Nat → Nat) (m : Nat) (F : Nat → Int) (q : Nat) (lv ls cl : List Int) (hcl : cl.length = 0) (sK : Nat → Int) (sz P : Nat) (at_ : Nat → Nat) (pA pB : Nat → Int) (WA WB : Nat → Nat → Int) (wp wq : Nat → Int)
    (hE : EndOk kd keep 0 z o u fv fp ft VS CS A B N m F q lv ls cl sK sz P at_ pA pB WA WB wp wq) (hf : fitA (WA P) (WB P) sz = false) : FnOk Pg g0 15 [i6 kd, .im m (blF (tbF VS CS A B N) m), .im 0 (ints keep)] (.tup [t0V, i6 6]) := by
  have hch := hE.ch
  have l0 := hE.l0
  have htg := hE.tg
  have hwi := hE.wi
  have l2 := hE.l2
  have hic := hE.ic
  have l4 := hE.l4
  have l6 := hE.l6
  have hm := hE.m12
  have hn5 := hE.n5
  have hz := hE.szb
  have hL := HfL_blF (HfL_tbF VS CS A B N) m
  have hL2 := HfL_blF (HfL_tab VS CS A B N) m
  have hR := HfL_blF (HfL_rdF VS CS A B N 0) m
  have hr := rdF_rep VS CS A B N m
  have hF := HfL_a64 F
  have hS := HfL_a64 sK
  have hls := HfL_ints ls
  have hlv := HfL_ints lv
  have hkp := HfL_ints keep
  have hcl2 := HfL_ints cl
  have hcb := combs_fn ls q
  have l9 := com_range kd keep 0 z o u fv fp ft (blF (tab VS CS A B N) m) hL2 m F q lv ls sK cl sz P hE.szb at_ pA pB WA WB wp wq hE.lsl hE.q12 hE.lsb hE.Pe hE.P0 hE.rnd
  rw [hE.W0.1, hE.W0.2] at l9
  have l8 := com_zeros keep 0 z o u fv fp ft (blF (tab VS CS A B N) m) hL2 m F q lv ls sK cl sz hE.szb
  have l10 := com_settle keep 0 cl sz (WA P) (WB P) sK hE.szb
  have hz0 := rep_elF sz
  have hz1 : elF (zF z 0) (fun _ => 0) sz = elF (fun _ => 0) (fun _ => 0) sz := rfl
  have hW := HfL_elF (WA P) (WB P) sz
  have hWz := HfL_elF (fun _ => z) (fun _ => 0) sz
  have hW0 := HfL_elF (zF z 0) (fun _ => 0) sz
  have hsrc : ∀ H' : T O, srcV H' 1 (.im keep.length (ints keep)) = some (keep.length, ints keep) := fun H' => by
    unfold srcV
    dsimp only
    rw [ints_length, Nat.mul_one, show Nat.ble keep.length keep.length = true from Nat.ble_eq_true_of_le (Nat.le_refl _), cond_true, List.take_of_length_le (by rw [ints_length]; omega)]
  have hgd := hE.good
  clear hE
  rw [← hn] at hsrc
  rw [hf] at l10
  generalize goodA kd VS CS A B N m = gd at *
  generalize blF (tbF VS CS A B N) m = cT at *
  generalize hcc : blF (tab VS CS A B N) m = c at *
  generalize hcr : (fun k => blF (rdF VS CS A B N k) m) = cR at *
  have hcr0 : cR 0 = blF (rdF VS CS A B N 0) m := by rw [← hcr]
  generalize WA P = wA at *
  generalize WB P = wB at *
  refine FnOk.of_vc vE_ok mixed sp0_ok (n := 1000) (r := [0]) (S := S0 6) (hs := h1 keep 0 z o u fv fp ft cT cR c gd m F q lv ls ++ [(0, .loop [0, 1, 2, 3, 4, 5] (c4M keep 0 z o u fv fp ft c m F q lv ls) [(True, .exit 4, c4X keep 0 (opL z o u fv fp ft) c m F q lv ls (sz : Int) sK)])] ++ h2 keep 0 z o u fv fp ft c m F q lv ls cl sK sz wA wB false) ?_
  refine Eq.mp (by kernel_rfl : (V.tup [V.agg [V.im 0 [], V.im 0 [], V.im 0 []], i6 6] = V.tup [t0V, i6 6] ∧ (True ∧ True) ∧ FnOk Try.prog g0 37 [i6 kd] (V.tup [opV z o u fv fp ft, i6 0]) ∧ True ∧ decide ((↑m : Int) > (12 : Int)) = false ∧ ((0 : Int) ≤ (↑m : Int) ∧ (↑m : Int) ≤ (↑m : Int) ∧ (↑(584 : Nat) : Int) * (↑m : Int) ≤ (281474976710656 : Int) ∧ (↑m : Int) ≤ (9223372036854775807 : Int)) ∧ (((0 = 0 ∧ ints keep = ints keep) ∧ 0 = 0 ∧ 0 = 0 ∧ 0 = 0 ∧ (m = m ∧ cT = cT) ∧ (↑m : Int) = (↑m : Int) ∧ (↑(0 : Nat) : Int) = (0 : Int) ∧ True) ∧ ([V.nils, V.nils, V.nils] = [V.nils, V.nils, V.nils] ∧ TT 3) ∧ (opL z o u fv fp ft = [i6 z, i6 0, i6 o, i6 u, V.fn fv [], V.fn fp [], V.fn ft []] ∧ TT 7) ∧ (cR 0 = rep m zT ∧ HfL (cR 0)) ∧ ((0 = 0 ∧ m = m ∧ m - m = m - m) ∧ True) ∧ True) ∧ Sat Try.prog none 0 (at' 15 [1, 1, 1, 1, 1, 0, 1, 0]) (mkSt g0 209 (c0S keep 0 z o u fv fp ft cT cR m 0)) (outsP g0 209 [(gd = true, Ex.exit 0, c0X keep 0 z o u fv fp ft c m), (gd = false, Ex.ret, cBad (41 : Int))]) ∧ (gd = true → (True ∧ True) ∧ FnOk Try.prog g0 39 [V.im m c] (V.tup [V.agg (a64 F), V.bool true]) ∧ True ∧ ((TT 64) ∧ True ∧ True) ∧ FnOk Try.prog g0 40 [V.agg (a64 (F)), V.im 0 (ints keep)] (V.bool true) ∧ True ∧ (((0 = 0 ∧ ints keep = ints keep) ∧ 0 = 0 ∧ 0 = 0 ∧ 0 = 0 ∧ 0 = 0 ∧ 0 = 0 ∧ True ∧ (EQn (F) 0 64) ∧ (↑(0 : Nat) : Int) = (0 : Int) ∧ True) ∧ ([V.nils, V.nils, V.nils] = [V.nils, V.nils, V.nils] ∧ TT 3) ∧ (opL z o u fv fp ft = opL z o u fv fp ft ∧ TT 7) ∧ ([V.im m c] = [V.im m c] ∧ True ∧ True) ∧ (a64 F = (a64 (F)) ∧ TT 64) ∧ (True ∧ True) ∧ True) ∧ Sat Try.prog none 0 (at' 15 [1, 1, 1, 1, 1, 1, 1, 1, 1, 0, 1, 0]) (mkSt g0 209 (c2S keep 0 (opL z o u fv fp ft) c m F (0, 0, [], []))) (outsP g0 209 [(True, Ex.exit 2, c2X keep 0 (opL z o u fv fp ft) c m F q lv ls)]) ∧ (True → (True ∧ True) ∧ FnOk Try.prog g0 41 [V.im q (ints ls)] (i6 0) ∧ True ∧ (((0 = 0 ∧ ints keep = ints keep) ∧ 0 = 0 ∧ 0 = 0 ∧ 0 = 0 ∧ 0 = 0 ∧ 0 = 0 ∧ (q = q ∧ ints ls = ints ls) ∧ 0 = 0 ∧ sufK F keep 0 0 = (1 : Int) ∧ (↑(0 - 0) : Int) - (1 : Int) = wr IntKind.i64 ((↑(0 : Nat) : Int) - (1 : Int)) ∧ True) ∧ ([V.nils, V.nils, V.nils] = [V.nils, V.nils, V.nils] ∧ TT 3) ∧ (opL z o u fv fp ft = opL z o u fv fp ft ∧ TT 7) ∧ ([V.im m c] = [V.im m c] ∧ True ∧ True) ∧ (a64 F = a64 F ∧ TT 64) ∧ ([V.im q (ints lv)] = [V.im q (ints lv)] ∧ True ∧ True) ∧ (0 = 0 ∧ True ∧ True ∧ stK F keep 0 0 0 = (0 : Int) ∧ stK F keep 0 0 1 = (0 : Int) ∧ stK F keep 0 0 2 = (0 : Int) ∧ stK F keep 0 0 3 = (0 : Int) ∧ stK F keep 0 0 4 = (0 : Int) ∧ stK F keep 0 0 5 = (0 : Int) ∧ stK F keep 0 0 6 = (0 : Int) ∧ stK F keep 0 0 7 = (0 : Int) ∧ stK F keep 0 0 8 = (0 : Int) ∧ stK F keep 0 0 9 = (0 : Int) ∧ stK F keep 0 0 10 = (0 : Int) ∧ stK F keep 0 0 11 = (0 : Int) ∧ stK F keep 0 0 12 = (0 : Int) ∧ stK F keep 0 0 13 = (0 : Int) ∧ stK F keep 0 0 14 = (0 : Int) ∧ stK F keep 0 0 15 = (0 : Int) ∧ stK F keep 0 0 16 = (0 : Int) ∧ stK F keep 0 0 17 = (0 : Int) ∧ stK F keep 0 0 18 = (0 : Int) ∧ stK F keep 0 0 19 = (0 : Int) ∧ stK F keep 0 0 20 = (0 : Int) ∧ stK F keep 0 0 21 = (0 : Int) ∧ stK F keep 0 0 22 = (0 : Int) ∧ stK F keep 0 0 23 = (0 : Int) ∧ stK F keep 0 0 24 = (0 : Int) ∧ stK F keep 0 0 25 = (0 : Int) ∧ stK F keep 0 0 26 = (0 : Int) ∧ stK F keep 0 0 27 = (0 : Int) ∧ stK F keep 0 0 28 = (0 : Int) ∧ stK F keep 0 0 29 = (0 : Int) ∧ stK F keep 0 0 30 = (0 : Int) ∧ stK F keep 0 0 31 = (0 : Int) ∧ stK F keep 0 0 32 = (0 : Int) ∧ stK F keep 0 0 33 = (0 : Int) ∧ stK F keep 0 0 34 = (0 : Int) ∧ stK F keep 0 0 35 = (0 : Int) ∧ stK F keep 0 0 36 = (0 : Int) ∧ stK F keep 0 0 37 = (0 : Int) ∧ stK F keep 0 0 38 = (0 : Int) ∧ stK F keep 0 0 39 = (0 : Int) ∧ stK F keep 0 0 40 = (0 : Int) ∧ stK F keep 0 0 41 = (0 : Int) ∧ stK F keep 0 0 42 = (0 : Int) ∧ stK F keep 0 0 43 = (0 : Int) ∧ stK F keep 0 0 44 = (0 : Int) ∧ stK F keep 0 0 45 = (0 : Int) ∧ stK F keep 0 0 46 = (0 : Int) ∧ stK F keep 0 0 47 = (0 : Int) ∧ stK F keep 0 0 48 = (0 : Int) ∧ stK F keep 0 0 49 = (0 : Int) ∧ stK F keep 0 0 50 = (0 : Int) ∧ stK F keep 0 0 51 = (0 : Int) ∧ stK F keep 0 0 52 = (0 : Int) ∧ stK F keep 0 0 53 = (0 : Int) ∧ stK F keep 0 0 54 = (0 : Int) ∧ stK F keep 0 0 55 = (0 : Int) ∧ stK F keep 0 0 56 = (0 : Int) ∧ stK F keep 0 0 57 = (0 : Int) ∧ stK F keep 0 0 58 = (0 : Int) ∧ stK F keep 0 0 59 = (0 : Int) ∧ stK F keep 0 0 60 = (0 : Int) ∧ stK F keep 0 0 61 = (0 : Int) ∧ stK F keep 0 0 62 = (0 : Int) ∧ stK F keep 0 0 63 = (0 : Int) ∧ True) ∧ True) ∧ Sat Try.prog none 0 (at' 15 [1, 1, 1, 1, 1, 1, 1, 1, 1, 1, 1, 1, 1, 0, 1, 0]) (mkSt g0 209 (c4M keep 0 z o u fv fp ft c m F q lv ls)) (outsP g0 209 [(True, Ex.exit 4, c4X keep 0 (opL z o u fv fp ft) c m F q lv ls (↑sz : Int) sK)]) ∧ (True → (((0 = 0 ∧ ints keep = ints keep) ∧ 0 = 0 ∧ 0 = 0 ∧ 0 = 0 ∧ 0 = 0 ∧ 0 = 0 ∧ (q = q ∧ ints ls = ints ls) ∧ 0 = 0 ∧ (↑sz : Int) = (↑sz : Int) ∧ (0 = 0 ∧ ints keep = ints keep) ∧ (↑(0 : Nat) : Int) = (↑(0 : Nat) : Int) ∧ (↑(0 : Nat) : Int) = (0 : Int) ∧ True) ∧ ([V.nils, V.nils, V.nils] = [V.nils, V.nils, V.nils] ∧ TT 3) ∧ (opL z o u fv fp ft = opL z o u fv fp ft ∧ TT 7) ∧ ([V.im m c] = [V.im m c] ∧ True ∧ True) ∧ (a64 F = a64 F ∧ TT 64) ∧ ([V.im q (ints lv)] = [V.im q (ints lv)] ∧ True ∧ True) ∧ ((0 = 0 ∧ ints keep = ints keep) ∧ True ∧ True ∧ EQn (sK) 0 64) ∧ True) ∧ Sat Try.prog none 0 (at' 15 [1, 1, 1, 1, 1, 1, 1, 1, 1, 1, 1, 1, 1, 1, 0, 1, 0]) (mkSt g0 209 (c6S keep 0 (opL z o u fv fp ft) c m F q lv ls (↑sz : Int) sK (0, []))) (outsP g0 209 [(True, Ex.exit 6, c6X keep 0 (opL z o u fv fp ft) c m F q lv ls (↑sz : Int) sK cl)]) ∧ (True → ((0 : Int) ≤ (↑sz : Int) ∧ (↑sz : Int) ≤ (↑sz : Int) ∧ (↑(16 : Nat) : Int) * (↑sz : Int) ≤ (281474976710656 : Int) ∧ (↑sz : Int) ≤ (9223372036854775807 : Int)) ∧ ((0 = 0 ∧ 0 = 0 ∧ 0 = 0 ∧ 0 = 0 ∧ (q = q ∧ ints ls = ints ls) ∧ 0 = 0 ∧ (↑sz : Int) = (↑sz : Int) ∧ (↑(0 : Nat) : Int) = (0 : Int) ∧ True) ∧ ([V.nils, V.nils, V.nils] = [V.nils, V.nils, V.nils] ∧ TT 3) ∧ (opL z o u fv fp ft = opL z o u fv fp ft ∧ TT 7) ∧ ([V.im m c] = [V.im m c] ∧ True ∧ True) ∧ (a64 F = a64 F ∧ TT 64) ∧ ([V.im q (ints lv)] = [V.im q (ints lv)] ∧ True ∧ True) ∧ ((0 = 0 ∧ ints keep = ints keep) ∧ (0 = 0 ∧ ints cl = ints cl) ∧ (0 = 0 ∧ sz = sz ∧ sz - sz = sz - sz) ∧ EQn (sK) 0 64) ∧ (elF (zF z 0) (fun x => (0 : Int)) sz = rep sz [i6 0, i6 0] ∧ HfL (elF (zF z 0) (fun x => (0 : Int)) sz)) ∧ True) ∧ Sat Try.prog none 0 (at' 15 [1, 1, 1, 1, 1, 1, 1, 1, 1, 1, 1, 1, 1, 1, 1, 1, 0, 1, 0]) (mkSt g0 209 (c8S keep 0 z o u fv fp ft c m F q lv ls sK cl sz 0)) (outsP g0 209 [(True, Ex.exit 8, c8X keep 0 z o u fv fp ft c m F q lv ls sK cl sz (elF (fun x => z) (fun x => (0 : Int)) sz))]) ∧ (True → (True ∧ True) ∧ FnOk Try.prog g0 42 [V.im q (ints ls)] (V.fn 72 [V.imp [V.im q (ints ls)]]) ∧ True ∧ ((0 = 0 ∧ 0 = 0 ∧ 0 = 0 ∧ 0 = 0 ∧ 0 = 0 ∧ ([V.im q (ints ls)] = [V.im q (ints ls)] ∧ True) ∧ True) ∧ ([V.nils, V.nils, V.nils] = [V.nils, V.nils, V.nils] ∧ TT 3) ∧ (opL z o u fv fp ft = opL z o u fv fp ft ∧ TT 7) ∧ ([V.im m c] = [V.im m c] ∧ True ∧ True) ∧ (a64 F = a64 F ∧ TT 64) ∧ ([V.im q (ints lv)] = [V.im q (ints lv)] ∧ True ∧ True) ∧ ((0 = 0 ∧ ints keep = ints keep) ∧ (0 = 0 ∧ ints cl = ints cl) ∧ (0 = 0 ∧ sz = sz ∧ sz - sz = sz - sz) ∧ EQn (sK) 0 64) ∧ (elF (fun x => z) (fun x => (0 : Int)) sz = elF (fun x => z) (fun x => (0 : Int)) sz ∧ HfL (elF (fun x => z) (fun x => (0 : Int)) sz)) ∧ True) ∧ Sat Try.prog none 0 (at' 15 [1, 1, 1, 1, 1, 1, 1, 1, 1, 1, 1, 1, 1, 1, 1, 1, 1, 0, 1, 0]) (mkSt g0 209 (rgSt keep 0 z o u fv fp ft c m F q lv ls sK cl sz (elF (fun x => z) (fun x => (0 : Int)) sz))) (outsP g0 209 [(True, Ex.normal, rgX keep 0 sK cl sz (elF wA wB sz))]) ∧ (True → ((0 = 0 ∧ 0 = 0 ∧ (sz = sz ∧ elF wA wB sz = elF wA wB sz) ∧ (↑sz : Int) = (↑sz : Int) ∧ (↑(0 : Nat) : Int) = (0 : Int) ∧ True) ∧ ([V.nils, V.nils, V.nils] = [V.nils, V.nils, V.nils] ∧ TT 3) ∧ (V.im 0 (ints keep) :: V.im 0 (ints cl) :: V.im sz (elF wA wB sz) :: a64 sK = V.im 0 (ints keep) :: V.im 0 (ints cl) :: V.im sz (elF wA wB sz) :: a64 sK ∧ TT 67) ∧ True) ∧ Sat Try.prog none 0 (at' 15 [1, 1, 1, 1, 1, 1, 1, 1, 1, 1, 1, 1, 1, 1, 1, 1, 1, 1, 0, 1, 0]) (mkSt g0 209 (seS keep 0 cl sz wA wB sK 0)) (outsP g0 209 [(false = true, Ex.exit 12, seX keep 0 cl sz wA wB sK), (false = false, Ex.ret, cBad (6 : Int))]) ∧ (false = true → (0 = 0 ∧ (6 : Int) = (0 : Int) ∧ True) ∧ ((0 = 0 ∧ [] = ints keep) ∧ (0 = 0 ∧ [] = ints cl) ∧ (0 = sz ∧ [] = elF wA wB sz) ∧ True) ∧ True) ∧ (false = false → (0 = 0 ∧ (6 : Int) = (6 : Int) ∧ True) ∧ (0 = 0 ∧ 0 = 0 ∧ 0 = 0 ∧ True) ∧ True) ∧ True) ∧ True) ∧ True) ∧ True) ∧ True) ∧ True) ∧ (gd = false → (0 = 0 ∧ (6 : Int) = (41 : Int) ∧ True) ∧ (0 = 0 ∧ 0 = 0 ∧ 0 = 0 ∧ True) ∧ True) ∧ True) = _) ?_
  (repeat' (first | (with_reducible apply And.intro) | (refine fun (_ : True) => ?_))) <;> first | exact aq | skip
  all_goals first | exact hcr0.trans hr.symm | (intro h9; rw [hgd] at h9; exact absurd h9 (by decide)) | (intro h9; (repeat' (first | (with_reducible apply And.intro) | (refine fun (_ : True) => ?_))); all_goals first | exact aq | exact hwi | exact hsrc _ | exact l4 | exact l6 | exact l8 | exact l9 | exact l10 | exact hz0 | exact hz0.symm | rfl | (intro h8; exact absurd h8 (by decide)) | (intro h8; (repeat' (first | (with_reducible apply And.intro) | (refine fun (_ : True) => ?_))); all_goals first | exact aq | rfl | skip) | skip) | skip
end Go.Proofs.Ytgdnmgcigkhojaa.Am

namespace Go.Proofs.Ytgdnmgcigkhojaa.Am
open Go.RowKit
set_option linter.unusedVariables false
set_option maxHeartbeats 1000000
def s64 (g : Nat → Int) : Nat → Int
  | 0 => 0
  | i + 1 => s64 g i + g i
theorem s64_congr {f g : Nat → Int} : ∀ {n : Nat}, (∀ i, i < n → f i = g i) → s64 f n = s64 g n
  | 0, _ => rfl
  | n + 1, h => by rw [s64, s64, s64_congr (fun i hi => h i (by omega)), h n (by omega)]
theorem s64_up {g f : Nat → Int} {k : Nat} {x : Int} (hf : f k = 0) : ∀ {n : Nat}, s64 (fun v => g v * up64 f k x v) n = s64 (fun v => g v * f v) n + if k < n then g k * x else 0
  | 0 => by simp [s64]
  | n + 1 => by
    rw [s64, s64, s64_up hf]
    by_cases h : n = k
    · subst h
      rw [if_neg (by omega), if_pos (by omega)]
      simp only [up64, if_pos]
      rw [hf]; simp
    · have e : up64 f k x n = f n := by unfold up64; rw [if_neg h]
      rw [e]
      by_cases h2 : k < n
      · rw [if_pos h2, if_pos (by omega)]; omega
      · rw [if_neg h2, if_neg (by omega)]; omega
theorem s64_zero (g : Nat → Int) : ∀ n, s64 (fun v => g v * 0) n = 0
  | 0 => rfl
  | n + 1 => by rw [s64, s64_zero g n]; simp
def sufT (cs : List Int) (n : Nat) : Nat → Int
  | 0 => 1
  | j + 1 => sufT cs n j * cs.getD (n - 1 - j) 0
theorem prod_suf {cs : List Int} {n : Nat} : ∀ j, j ≤ n → prodT cs (n - j) * sufT cs n j = prodT cs n
  | 0, _ => by show prodT cs n * 1 = _; rw [Int.mul_one]
  | j + 1, h => by
    have ih := @prod_suf cs n j (by omega)
    rw [show n - j = (n - (j + 1)) + 1 by omega, prodT] at ih
    rw [sufT, show n - 1 - j = n - (j + 1) by omega, Int.mul_comm (sufT cs n j), ← Int.mul_assoc]
    exact ih
theorem suf_all {cs : List Int} {n : Nat} : sufT cs n n = prodT cs n := by
  have := @prod_suf cs n n (Nat.le_refl _)
  rw [Nat.sub_self, prodT, Int.one_mul] at this
  exact this
theorem rem_suf {cs : List Int} {n : Nat} (h : ∀ i, i < n → 1 ≤ cs.getD i 0) : ∀ k, k ≤ n → remT cs n k = sufT cs n (n - k)
  | 0, _ => by rw [remT, Nat.sub_zero, suf_all]
  | k + 1, hk => by
    have ih := rem_suf h k (by omega)
    have hc := h k (by omega)
    rw [remT, ih, show n - k = (n - (k + 1)) + 1 by omega, sufT, show n - 1 - (n - (k + 1)) = k by omega]
    exact Int.mul_tdiv_cancel _ (by omega)
theorem suf_pos {cs : List Int} {n : Nat} (h : ∀ i, i < n → 1 ≤ cs.getD i 0) : ∀ j, j ≤ n → 1 ≤ sufT cs n j
  | 0, _ => Int.le_refl _
  | j + 1, hj => by
    have := Int.mul_le_mul (suf_pos h j (by omega)) (h (n - 1 - j) (by omega)) (by decide) (by have := suf_pos h j (by omega); omega)
    rw [sufT]; omega
def mineF (g : Nat → Int) (ks : List Int) (n : Nat) : List Int := (List.range n).map fun i => g (ks.getD i 0).toNat
theorem mineF_getD {g : Nat → Int} {ks : List Int} {n i : Nat} (h : i < n) : (mineF g ks n).getD i 0 = g (ks.getD i 0).toNat := by
  unfold mineF
  rw [List.getD_eq_getElem?_getD, List.getElem?_map, List.getElem?_range h]; rfl
def incT (ks : List Int) (n : Nat) : Prop := (∀ i, i < n → 0 ≤ ks.getD i 0 ∧ ks.getD i 0 ≤ 63) ∧ ∀ i j, i < j → j < n → ks.getD i 0 < ks.getD j 0
theorem stT_off {vs cs : List Int} {n : Nat} : ∀ {k : Nat} {v : Nat}, (∀ i, i < k → (vs.getD i 0).toNat ≠ v) → stT vs cs n k v = 0
  | 0, _, _ => rfl
  | k + 1, v, h => by
    rw [stT, up64, if_neg (fun e => h k (by omega) e.symm)]
    exact stT_off fun i hi => h i (by omega)
theorem sum_stT {g : Nat → Int} {vs cs : List Int} {n : Nat} (hi : incT vs n) (hc : ∀ i, i < n → 1 ≤ cs.getD i 0) : ∀ k, k ≤ n → s64 (fun v => g v * stT vs cs n k v) 64 = idxT cs (mineF g vs n) k * remT cs n k
  | 0, _ => by
    show s64 (fun v => g v * 0) 64 = 0 * _
    rw [s64_zero, Int.zero_mul]
  | k + 1, hk => by
    have hv := hi.1 k (by omega)
    have ih := sum_stT (g := g) hi hc k (by omega)
    have hoff : stT vs cs n k (vs.getD k 0).toNat = 0 := stT_off fun i h => by
      have := hi.2 i k h (by omega)
      have := hi.1 i (by omega)
      omega
    show s64 (fun v => g v * up64 (stT vs cs n k) (vs.getD k 0).toNat (remT cs n (k + 1)) v) 64 = _
    rw [s64_up hoff, ih, if_pos (by omega), idxT, mineF_getD (by omega)]
    have e : remT cs n k = cs.getD k 0 * remT cs n (k + 1) := by
      rw [rem_suf hc k (by omega), rem_suf hc (k + 1) (by omega), show n - k = (n - (k + 1)) + 1 by omega, sufT, show n - 1 - (n - (k + 1)) = k by omega, Int.mul_comm]
    rw [e, Int.add_mul, Int.mul_assoc]
theorem num_stT {g : Nat → Int} {vs cs : List Int} {n : Nat} (hi : incT vs n) (hc : ∀ i, i < n → 1 ≤ cs.getD i 0) : s64 (fun v => g v * stT vs cs n n v) 64 = idxT cs (mineF g vs n) n := by
  rw [sum_stT hi hc n (Nat.le_refl _), rem_suf hc n (Nat.le_refl _), Nat.sub_self, sufT, Int.mul_one]
theorem sufK_suf {F : Nat → Int} {keep cl : List Int} {n : Nat} (h : ∀ i, i < n → cl.getD i 0 = F (keep.getD i 0).toNat) : ∀ j, j ≤ n → sufK F keep n j = sufT cl n j
  | 0, _ => rfl
  | j + 1, hj => by rw [sufK, sufT, sufK_suf h j (by omega), h (n - 1 - j) (by omega)]
theorem stK_off {F : Nat → Int} {keep : List Int} {n : Nat} : ∀ {j : Nat} {v : Nat}, j ≤ n → (∀ i, n - j ≤ i → i < n → (keep.getD i 0).toNat ≠ v) → stK F keep n j v = 0
  | 0, _, _, _ => rfl
  | j + 1, v, hj, h => by
    rw [stK, up64, if_neg (fun e => h (n - 1 - j) (by omega) (by omega) e.symm)]
    exact stK_off (by omega) fun i h1 h2 => h i (by omega) h2
theorem sum_stK {g F : Nat → Int} {keep cl : List Int} {n : Nat} (hi : incT keep n) (hcl : ∀ i, i < n → cl.getD i 0 = F (keep.getD i 0).toNat) : ∀ j, j ≤ n → idxT cl (mineF g keep n) n = idxT cl (mineF g keep n) (n - j) * sufT cl n j + s64 (fun v => g v * stK F keep n j v) 64
  | 0, _ => by
    show _ = idxT cl (mineF g keep n) n * 1 + s64 (fun v => g v * 0) 64
    rw [s64_zero, Int.mul_one, Int.add_zero]
  | j + 1, hj => by
    have ih := sum_stK (g := g) hi hcl j (by omega)
    have hv := hi.1 (n - 1 - j) (by omega)
    have hoff : stK F keep n j (keep.getD (n - 1 - j) 0).toNat = 0 := stK_off (by omega) fun i h1 h2 => by
      have := hi.2 (n - 1 - j) i (by omega) h2
      have := hi.1 i h2
      omega
    rw [ih]
    show _ = _ + s64 (fun v => g v * up64 (stK F keep n j) (keep.getD (n - 1 - j) 0).toNat (sufK F keep n j) v) 64
    rw [s64_up hoff, if_pos (by omega), sufK_suf hcl j (by omega), show n - j = (n - (j + 1)) + 1 by omega, idxT, mineF_getD (by omega), sufT, show n - 1 - j = n - (j + 1) by omega, Int.add_mul, Int.mul_assoc, Int.mul_comm (cl.getD (n - (j + 1)) 0)]
    omega
theorem num_stK {g F : Nat → Int} {keep cl : List Int} {n : Nat} (hi : incT keep n) (hcl : ∀ i, i < n → cl.getD i 0 = F (keep.getD i 0).toNat) : s64 (fun v => g v * stK F keep n n v) 64 = idxT cl (mineF g keep n) n := by
  rw [sum_stK (g := g) hi hcl n (Nat.le_refl _), Nat.sub_self, idxT, Int.zero_mul, Int.zero_add]
def valF (F : Nat → Int) (vals : List Int) (v : Nat) : Int := vals.getD (qF F v) 0
theorem numT_congr {st : Nat → Int} {vars vars' vals : List Int} : ∀ {k : Nat}, (∀ i, i < k → vars.getD i 0 = vars'.getD i 0) → numT st vars vals k = numT st vars' vals k
  | 0, _ => rfl
  | k + 1, h => by rw [numT, numT, numT_congr (fun i hi => h i (by omega)), h k (by omega)]
theorem getD_app {l : List Int} {x : Int} {i : Nat} (h : i < l.length) : (l ++ [x]).getD i 0 = l.getD i 0 := by
  rw [List.getD_eq_getElem?_getD, List.getElem?_append_left h, ← List.getD_eq_getElem?_getD]
theorem getD_last {l : List Int} {x : Int} : (l ++ [x]).getD l.length 0 = x := by
  rw [List.getD_eq_getElem?_getD]; simp
theorem numT_vF {F st : Nat → Int} {vals : List Int} (h : ∀ v, F v ≤ 0 → st v = 0) : ∀ i, numT st (vF F i) vals (qF F i) = s64 (fun v => valF F vals v * st v) i
  | 0 => rfl
  | i + 1 => by
    have ih := numT_vF (vals := vals) h i
    have hl := vF_len F i
    by_cases hp : 0 < F i
    · rw [qF, if_pos hp, vF, if_pos hp, numT, s64, ← ih, ← hl, getD_last]
      rw [numT_congr (vars := vF F i ++ [(i : Int)]) (vars' := vF F i) (fun j hj => getD_app hj)]
      unfold valF
      rw [hl]; rfl
    · rw [qF, if_neg hp, vF, if_neg hp, s64, ← ih, h i (by omega)]; simp
theorem vF_at {F : Nat → Int} : ∀ {i v : Nat}, v < i → 0 < F v → (vF F i).getD (qF F v) 0 = v ∧ (sF F i).getD (qF F v) 0 = F v ∧ qF F v < qF F i
  | 0, _, h, _ => absurd h (Nat.not_lt_zero _)
  | i + 1, v, h, hp => by
    have l1 := vF_len F i
    have l2 := sF_len F i
    by_cases e : v = i
    · subst e
      rw [vF, if_pos hp, sF, if_pos hp, qF, if_pos hp]
      refine ⟨?_, ?_, by omega⟩
      · rw [← l1]; exact getD_last
      · rw [← l2]; exact getD_last
    · obtain ⟨a, b, c⟩ := @vF_at F i v (by omega) hp
      by_cases hi : 0 < F i
      · rw [vF, if_pos hi, sF, if_pos hi, qF, if_pos hi]
        exact ⟨by rw [getD_app (by omega)]; exact a, by rw [getD_app (by omega)]; exact b, by omega⟩
      · rw [vF, if_neg hi, sF, if_neg hi, qF, if_neg hi]
        exact ⟨a, b, c⟩
theorem vF_mem {F : Nat → Int} : ∀ {i k : Nat}, k < qF F i → ∃ v, v < i ∧ 0 < F v ∧ qF F v = k
  | 0, _, h => absurd h (Nat.not_lt_zero _)
  | i + 1, k, h => by
    by_cases hi : 0 < F i
    · rw [qF, if_pos hi] at h
      by_cases e : k = qF F i
      · exact ⟨i, by omega, hi, e.symm⟩
      · obtain ⟨v, a, b, c⟩ := @vF_mem F i k (by omega)
        exact ⟨v, by omega, b, c⟩
    · rw [qF, if_neg hi] at h
      obtain ⟨v, a, b, c⟩ := @vF_mem F i k h
      exact ⟨v, by omega, b, c⟩
theorem vF_bd {F : Nat → Int} {k : Nat} (h : k < qF F 64) : 0 ≤ (vF F 64).getD k 0 ∧ (vF F 64).getD k 0 ≤ 63 := by
  obtain ⟨v, a, b, rfl⟩ := vF_mem h
  have := vF_at a b
  omega
def pF (F : Nat → Int) : Nat → Int
  | 0 => 1
  | i + 1 => if 0 < F i then pF F i * F i else pF F i
theorem prodT_app {l : List Int} {x : Int} : ∀ {k : Nat}, k ≤ l.length → prodT (l ++ [x]) k = prodT l k
  | 0, _ => rfl
  | k + 1, h => by rw [prodT, prodT, prodT_app (by omega), getD_app (by omega)]
theorem prod_sF (F : Nat → Int) : ∀ i, prodT (sF F i) (qF F i) = pF F i
  | 0 => rfl
  | i + 1 => by
    have l := sF_len F i
    by_cases hi : 0 < F i
    · rw [sF, if_pos hi, qF, if_pos hi, pF, if_pos hi, prodT, ← l, prodT_app (Nat.le_refl _), getD_last, l, prod_sF F i]
    · rw [sF, if_neg hi, qF, if_neg hi, pF, if_neg hi, prod_sF F i]
theorem pF_pos (F : Nat → Int) : ∀ i, 1 ≤ pF F i
  | 0 => Int.le_refl _
  | i + 1 => by
    unfold pF; split
    · rename_i h
      have := Int.mul_le_mul (pF_pos F i) (show 1 ≤ F i by omega) (by decide) (by have := pF_pos F i; omega)
      omega
    · exact pF_pos F i
theorem pF_mono (F : Nat → Int) {i : Nat} : ∀ j, pF F i ≤ pF F (i + j)
  | 0 => Int.le_refl _
  | j + 1 => by
    have ih := pF_mono F (i := i) j
    show _ ≤ pF F (i + j + 1)
    rw [pF]; split
    · rename_i h
      have h1 := pF_pos F (i + j)
      have := Int.mul_le_mul_of_nonneg_left (show 1 ≤ F (i + j) by omega) (show 0 ≤ pF F (i + j) by omega)
      omega
    · exact ih
theorem sufK_le {F : Nat → Int} {keep : List Int} {n : Nat} (hi : incT keep n) (hF : ∀ i, i < n → 0 < F (keep.getD i 0).toNat) : ∀ j, j ≤ n → ∀ x : Nat, (n - j < n → x = (keep.getD (n - j) 0).toNat) → x ≤ 64 → 1 ≤ sufK F keep n j ∧ sufK F keep n j * pF F x ≤ pF F 64
  | 0, _, x, _, hx => ⟨Int.le_refl _, by
      show 1 * pF F x ≤ _
      rw [Int.one_mul]
      have := pF_mono F (i := x) (64 - x)
      rwa [show x + (64 - x) = 64 by omega] at this⟩
  | j + 1, hj, x, hxe, hx => by
    have hv := hi.1 (n - 1 - j) (by omega)
    have hp := hF (n - 1 - j) (by omega)
    have ex : x = (keep.getD (n - 1 - j) 0).toNat := by rw [hxe (by omega), show n - (j + 1) = n - 1 - j by omega]
    obtain ⟨y, hy⟩ : ∃ y : Nat, (n - j < n → y = (keep.getD (n - j) 0).toNat) ∧ (¬ n - j < n → y = 64) := by
      by_cases h : n - j < n
      · exact ⟨(keep.getD (n - j) 0).toNat, fun _ => rfl, fun h' => absurd h h'⟩
      · exact ⟨64, fun h' => absurd h' h, fun _ => rfl⟩
    have hxy : x + 1 ≤ y ∧ y ≤ 64 := by
      by_cases h : n - j < n
      · have e := hy.1 h
        have h2 := hi.2 (n - 1 - j) (n - j) (by omega) h
        have h3 := hi.1 (n - j) h
        omega
      · have e := hy.2 h
        omega
    obtain ⟨i1, i2⟩ := sufK_le hi hF j (by omega) y hy.1 hxy.2
    have hm := pF_mono F (i := x + 1) (y - (x + 1))
    rw [show x + 1 + (y - (x + 1)) = y by omega] at hm
    have hpx : pF F (x + 1) = pF F x * F x := by rw [pF, if_pos (by rw [ex]; exact hp)]
    have e1 : sufK F keep n (j + 1) = sufK F keep n j * F x := by rw [sufK, ← ex]
    rw [← ex] at hp
    have p1 := Int.mul_le_mul i1 (show 1 ≤ F x by omega) (by decide) (by omega)
    have p2 := Int.mul_le_mul_of_nonneg_left hm (show 0 ≤ sufK F keep n j by omega)
    rw [e1]
    refine ⟨by omega, ?_⟩
    rw [Int.mul_assoc, Int.mul_comm (F x), ← hpx]
    omega
end Go.Proofs.Ytgdnmgcigkhojaa.Am
