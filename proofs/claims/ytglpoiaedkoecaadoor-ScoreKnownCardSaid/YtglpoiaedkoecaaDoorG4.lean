/- score.above, score.compare: what they return. -/
import Derived.Test.YtglpoiaedkoecaaDoorG3
import Derived.Test.YtglpoiaedkoecaaDoorD4
namespace Go.Proofs.YtglpoiaedkoecaaDoor.Am
open Go.RowKit
set_option linter.unusedVariables false
set_option maxHeartbeats 1000000
set_option maxRecDepth 100000

abbrev azX (f : Nat → Int) (w : Nat) (md : Bool) (ws : List Nat) : SL := { sl := [(5, .ptr 1 0), (6, .fn 112 [.ptr 1 0]), (7, u6 w)], os := aoL f md ws, md := [0, 1, 0] }
theorem av_out (f : Nat → Int) (s : Int) (hs : s = 1 ∨ s = -1) (hf : ∀ i, i < 18 → -4000 ≤ f i ∧ f i ≤ 4000) (w' : Nat) (md' : Bool) (ws' : List Nat) (hx : outQ (posF f s) 18 = (w', md', ws')) :
    Sat Pg none 0 (at' 93 [1, 1, 1, 1, 0, 1, 0]) (mkSt g0 40 (aoS f s 0 1 false [1])) (outsP g0 40 [(True, .exit 0, azX f w' md' ws')]) := by
  have he : ∀ i, i < 18 → posF f s i ≤ 4000 := fun i hi => by
    have := hf i hi
    unfold posF
    rcases hs with rfl | rfl <;> omega
  refine loopC vN_ok mixed sp0_ok (b := at' 93 [1, 1, 1, 1, 0, 1, 0, 0]) (by kernel_rfl) (fun q : Nat × Nat × Bool × List Nat => q.1 ≤ 18 ∧ q.2 = outQ (posF f s) q.1) (fun q => aoS f s q.1 q.2.1 q.2.2.1 q.2.2.2) (fun q => 18 - q.1) (fun q hq => ?_) (0, 1, false, [1]) ⟨Nat.zero_le _, rfl⟩
  obtain ⟨i, w, md, ws⟩ := q
  obtain ⟨hi, hq⟩ := hq
  dsimp only at hi hq
  by_cases hlt : i < 18
  · have hok := outQ_ok he i hi
    obtain ⟨w2, md2, ws2, h2⟩ : ∃ w2 md2 ws2, outQ (posF f s) (i + 1) = (w2, md2, ws2) := ⟨_, _, _, rfl⟩
    have h2' := h2
    rw [outQ, ← hq] at h2'
    rw [← hq] at hok
    have hin := av_in f s (posF f s) i (posF f s i) hlt rfl (he i hlt) (w, md, ws) hok w2 md2 ws2 h2' w md ws rfl
    have hpr := idx40 hlt
    have hpl := @place41 0 i hlt
    have hhd := @head_ar f i hlt
    have hfi := hf i hlt
    have hpos : ((posF f s i : Nat) : Int) = if (0 : Int) < s * f i then s * f i else 0 := by
      unfold posF
      rcases hs with rfl | rfl <;> (split <;> omega)
    have hmul : -4000 ≤ s * f i ∧ s * f i ≤ 4000 := by rcases hs with rfl | rfl <;> omega
    generalize primeN i = p at *
    generalize posF f s i = e at *
    generalize hxe : s * f i = x at *
    cases md with
    | false =>
      cases md2 with
      | false =>
        refine .inl ⟨(i + 1, w2, false, ws2), [0, 1, 2], [yes 14, va 16 (i6 p), va 19 (.ptr 0 i), ld 20 (i6 (f i)), nu 21 x, nu 22 (e : Nat), (0, .loop [0, 1, 2] (aiS f s i e p (0, w, false, ws)) [(True, .exit 2, aoS f s i w2 false ws2)]), nu 35 (i + 1 : Nat)], 1000, ⟨hlt, h2.symm⟩, by dsimp only; omega, ?_⟩
        clear hq hok h2 h2' hf he
        refine Eq.mp (by kernel_rfl : (decide ((↑i : Int) < (18 : Int)) = true ∧ idxV (ctxOf Tryd.prog) 40 prV (↑i : Int) = some (i6 (↑p : Int)) ∧ placeV (ctxOf Tryd.prog) 41 (V.ptr 0 0) (↑i : Int) = some (V.ptr 0 i) ∧ headF (dropF i (arF f)) = some (i6 (f i)) ∧ wr IntKind.i64 (s * f i) = x ∧ (if x > (0 : Int) then x else (0 : Int)) = (↑e : Int) ∧ ((s = s ∧ 0 = 0 ∧ 0 = 0 ∧ (0 = 0 ∧ True) ∧ (↑w : Int) = (↑w : Int) ∧ ((2 : Int) = (2 : Int) ∧ (3 : Int) = (3 : Int) ∧ (5 : Int) = (5 : Int) ∧ (7 : Int) = (7 : Int) ∧ (11 : Int) = (11 : Int) ∧ (13 : Int) = (13 : Int) ∧ (17 : Int) = (17 : Int) ∧ (19 : Int) = (19 : Int) ∧ (23 : Int) = (23 : Int) ∧ (29 : Int) = (29 : Int) ∧ (31 : Int) = (31 : Int) ∧ (37 : Int) = (37 : Int) ∧ (41 : Int) = (41 : Int) ∧ (43 : Int) = (43 : Int) ∧ (47 : Int) = (47 : Int) ∧ (53 : Int) = (53 : Int) ∧ (59 : Int) = (59 : Int) ∧ (61 : Int) = (61 : Int) ∧ True) ∧ (↑i : Int) = (↑i : Int) ∧ (↑p : Int) = (↑p : Int) ∧ (↑e : Int) = (↑e : Int) ∧ (↑(0 : Nat) : Int) = (0 : Int) ∧ True) ∧ (arF f = arF f ∧ True ∧ True ∧ True ∧ True ∧ True ∧ True ∧ True ∧ True ∧ True ∧ True ∧ True ∧ True ∧ True ∧ True ∧ True ∧ True ∧ True ∧ True ∧ True) ∧ ((0 = 0 ∧ 1 = 1 ∧ 0 = 0) ∧ True) ∧ (wt ws = wt ws ∧ HfL (wt ws)) ∧ True) ∧ Sat Tryd.prog none 0 (at' 93 [1, 1, 1, 1, 0, 1, 0, 0, 1, 1, 0, 0, 1, 1, 0]) (mkSt g0 40 (aiS f s i e p (0, w, false, ws))) (outsP g0 40 [(True, Ex.exit 2, aoS f s i w2 false ws2)]) ∧ (True → wr IntKind.i64 ((↑i : Int) + (1 : Int)) = (↑(i + 1) : Int) ∧ (s = s ∧ 0 = 0 ∧ 0 = 0 ∧ (0 = 0 ∧ True) ∧ (↑w2 : Int) = (↑w2 : Int) ∧ ((2 : Int) = (2 : Int) ∧ (3 : Int) = (3 : Int) ∧ (5 : Int) = (5 : Int) ∧ (7 : Int) = (7 : Int) ∧ (11 : Int) = (11 : Int) ∧ (13 : Int) = (13 : Int) ∧ (17 : Int) = (17 : Int) ∧ (19 : Int) = (19 : Int) ∧ (23 : Int) = (23 : Int) ∧ (29 : Int) = (29 : Int) ∧ (31 : Int) = (31 : Int) ∧ (37 : Int) = (37 : Int) ∧ (41 : Int) = (41 : Int) ∧ (43 : Int) = (43 : Int) ∧ (47 : Int) = (47 : Int) ∧ (53 : Int) = (53 : Int) ∧ (59 : Int) = (59 : Int) ∧ (61 : Int) = (61 : Int) ∧ True) ∧ (↑(i + 1) : Int) = (↑(i + 1) : Int) ∧ True) ∧ (arF f = arF f ∧ True ∧ True ∧ True ∧ True ∧ True ∧ True ∧ True ∧ True ∧ True ∧ True ∧ True ∧ True ∧ True ∧ True ∧ True ∧ True ∧ True ∧ True ∧ True) ∧ ((0 = 0 ∧ 1 = 1 ∧ 0 = 0) ∧ True) ∧ (wt ws2 = wt ws2 ∧ HfL (wt ws2)) ∧ True) ∧ True) = _) ?_
        (repeat' (first | (with_reducible apply And.intro) | (refine fun (_ : True) => ?_))) <;> first | exact aq | skip
        all_goals first | exact HfL_wt _ | (rw [hxe]; exact wr6 (by omega) (by omega)) | exact hpos.symm | skip
      | true =>
        refine .inl ⟨(i + 1, w2, true, ws2), [0, 1, 2], [yes 14, va 16 (i6 p), va 19 (.ptr 0 i), ld 20 (i6 (f i)), nu 21 x, nu 22 (e : Nat), (0, .loop [0, 1, 2] (aiS f s i e p (0, w, false, ws)) [(True, .exit 2, aoS f s i w2 true ws2)]), nu 35 (i + 1 : Nat)], 1000, ⟨hlt, h2.symm⟩, by dsimp only; omega, ?_⟩
        clear hq hok h2 h2' hf he
        refine Eq.mp (by kernel_rfl : (decide ((↑i : Int) < (18 : Int)) = true ∧ idxV (ctxOf Tryd.prog) 40 prV (↑i : Int) = some (i6 (↑p : Int)) ∧ placeV (ctxOf Tryd.prog) 41 (V.ptr 0 0) (↑i : Int) = some (V.ptr 0 i) ∧ headF (dropF i (arF f)) = some (i6 (f i)) ∧ wr IntKind.i64 (s * f i) = x ∧ (if x > (0 : Int) then x else (0 : Int)) = (↑e : Int) ∧ ((s = s ∧ 0 = 0 ∧ 0 = 0 ∧ (0 = 0 ∧ True) ∧ (↑w : Int) = (↑w : Int) ∧ ((2 : Int) = (2 : Int) ∧ (3 : Int) = (3 : Int) ∧ (5 : Int) = (5 : Int) ∧ (7 : Int) = (7 : Int) ∧ (11 : Int) = (11 : Int) ∧ (13 : Int) = (13 : Int) ∧ (17 : Int) = (17 : Int) ∧ (19 : Int) = (19 : Int) ∧ (23 : Int) = (23 : Int) ∧ (29 : Int) = (29 : Int) ∧ (31 : Int) = (31 : Int) ∧ (37 : Int) = (37 : Int) ∧ (41 : Int) = (41 : Int) ∧ (43 : Int) = (43 : Int) ∧ (47 : Int) = (47 : Int) ∧ (53 : Int) = (53 : Int) ∧ (59 : Int) = (59 : Int) ∧ (61 : Int) = (61 : Int) ∧ True) ∧ (↑i : Int) = (↑i : Int) ∧ (↑p : Int) = (↑p : Int) ∧ (↑e : Int) = (↑e : Int) ∧ (↑(0 : Nat) : Int) = (0 : Int) ∧ True) ∧ (arF f = arF f ∧ True ∧ True ∧ True ∧ True ∧ True ∧ True ∧ True ∧ True ∧ True ∧ True ∧ True ∧ True ∧ True ∧ True ∧ True ∧ True ∧ True ∧ True ∧ True) ∧ ((0 = 0 ∧ 1 = 1 ∧ 0 = 0) ∧ True) ∧ (wt ws = wt ws ∧ HfL (wt ws)) ∧ True) ∧ Sat Tryd.prog none 0 (at' 93 [1, 1, 1, 1, 0, 1, 0, 0, 1, 1, 0, 0, 1, 1, 0]) (mkSt g0 40 (aiS f s i e p (0, w, false, ws))) (outsP g0 40 [(True, Ex.exit 2, aoS f s i w2 true ws2)]) ∧ (True → wr IntKind.i64 ((↑i : Int) + (1 : Int)) = (↑(i + 1) : Int) ∧ (s = s ∧ 0 = 0 ∧ 0 = 0 ∧ (0 = 0 ∧ True) ∧ (↑w2 : Int) = (↑w2 : Int) ∧ ((2 : Int) = (2 : Int) ∧ (3 : Int) = (3 : Int) ∧ (5 : Int) = (5 : Int) ∧ (7 : Int) = (7 : Int) ∧ (11 : Int) = (11 : Int) ∧ (13 : Int) = (13 : Int) ∧ (17 : Int) = (17 : Int) ∧ (19 : Int) = (19 : Int) ∧ (23 : Int) = (23 : Int) ∧ (29 : Int) = (29 : Int) ∧ (31 : Int) = (31 : Int) ∧ (37 : Int) = (37 : Int) ∧ (41 : Int) = (41 : Int) ∧ (43 : Int) = (43 : Int) ∧ (47 : Int) = (47 : Int) ∧ (53 : Int) = (53 : Int) ∧ (59 : Int) = (59 : Int) ∧ (61 : Int) = (61 : Int) ∧ True) ∧ (↑(i + 1) : Int) = (↑(i + 1) : Int) ∧ True) ∧ (arF f = arF f ∧ True ∧ True ∧ True ∧ True ∧ True ∧ True ∧ True ∧ True ∧ True ∧ True ∧ True ∧ True ∧ True ∧ True ∧ True ∧ True ∧ True ∧ True ∧ True) ∧ ((0 = 0 ∧ List.length ws2 = List.length ws2 ∧ True) ∧ True) ∧ (wt ws2 = wt ws2 ∧ HfL (wt ws2)) ∧ True) ∧ True) = _) ?_
        (repeat' (first | (with_reducible apply And.intro) | (refine fun (_ : True) => ?_))) <;> first | exact aq | skip
        all_goals first | exact HfL_wt _ | (rw [hxe]; exact wr6 (by omega) (by omega)) | exact hpos.symm | skip
    | true =>
      cases md2 with
      | false =>
        refine .inl ⟨(i + 1, w2, false, ws2), [0, 1, 2], [yes 14, va 16 (i6 p), va 19 (.ptr 0 i), ld 20 (i6 (f i)), nu 21 x, nu 22 (e : Nat), (0, .loop [0, 1, 2] (aiS f s i e p (0, w, true, ws)) [(True, .exit 2, aoS f s i w2 false ws2)]), nu 35 (i + 1 : Nat)], 1000, ⟨hlt, h2.symm⟩, by dsimp only; omega, ?_⟩
        clear hq hok h2 h2' hf he
        refine Eq.mp (by kernel_rfl : (decide ((↑i : Int) < (18 : Int)) = true ∧ idxV (ctxOf Tryd.prog) 40 prV (↑i : Int) = some (i6 (↑p : Int)) ∧ placeV (ctxOf Tryd.prog) 41 (V.ptr 0 0) (↑i : Int) = some (V.ptr 0 i) ∧ headF (dropF i (arF f)) = some (i6 (f i)) ∧ wr IntKind.i64 (s * f i) = x ∧ (if x > (0 : Int) then x else (0 : Int)) = (↑e : Int) ∧ ((s = s ∧ 0 = 0 ∧ 0 = 0 ∧ (0 = 0 ∧ True) ∧ (↑w : Int) = (↑w : Int) ∧ ((2 : Int) = (2 : Int) ∧ (3 : Int) = (3 : Int) ∧ (5 : Int) = (5 : Int) ∧ (7 : Int) = (7 : Int) ∧ (11 : Int) = (11 : Int) ∧ (13 : Int) = (13 : Int) ∧ (17 : Int) = (17 : Int) ∧ (19 : Int) = (19 : Int) ∧ (23 : Int) = (23 : Int) ∧ (29 : Int) = (29 : Int) ∧ (31 : Int) = (31 : Int) ∧ (37 : Int) = (37 : Int) ∧ (41 : Int) = (41 : Int) ∧ (43 : Int) = (43 : Int) ∧ (47 : Int) = (47 : Int) ∧ (53 : Int) = (53 : Int) ∧ (59 : Int) = (59 : Int) ∧ (61 : Int) = (61 : Int) ∧ True) ∧ (↑i : Int) = (↑i : Int) ∧ (↑p : Int) = (↑p : Int) ∧ (↑e : Int) = (↑e : Int) ∧ (↑(0 : Nat) : Int) = (0 : Int) ∧ True) ∧ (arF f = arF f ∧ True ∧ True ∧ True ∧ True ∧ True ∧ True ∧ True ∧ True ∧ True ∧ True ∧ True ∧ True ∧ True ∧ True ∧ True ∧ True ∧ True ∧ True ∧ True) ∧ ((0 = 0 ∧ List.length ws = List.length ws ∧ True) ∧ True) ∧ (wt ws = wt ws ∧ HfL (wt ws)) ∧ True) ∧ Sat Tryd.prog none 0 (at' 93 [1, 1, 1, 1, 0, 1, 0, 0, 1, 1, 0, 0, 1, 1, 0]) (mkSt g0 40 (aiS f s i e p (0, w, true, ws))) (outsP g0 40 [(True, Ex.exit 2, aoS f s i w2 false ws2)]) ∧ (True → wr IntKind.i64 ((↑i : Int) + (1 : Int)) = (↑(i + 1) : Int) ∧ (s = s ∧ 0 = 0 ∧ 0 = 0 ∧ (0 = 0 ∧ True) ∧ (↑w2 : Int) = (↑w2 : Int) ∧ ((2 : Int) = (2 : Int) ∧ (3 : Int) = (3 : Int) ∧ (5 : Int) = (5 : Int) ∧ (7 : Int) = (7 : Int) ∧ (11 : Int) = (11 : Int) ∧ (13 : Int) = (13 : Int) ∧ (17 : Int) = (17 : Int) ∧ (19 : Int) = (19 : Int) ∧ (23 : Int) = (23 : Int) ∧ (29 : Int) = (29 : Int) ∧ (31 : Int) = (31 : Int) ∧ (37 : Int) = (37 : Int) ∧ (41 : Int) = (41 : Int) ∧ (43 : Int) = (43 : Int) ∧ (47 : Int) = (47 : Int) ∧ (53 : Int) = (53 : Int) ∧ (59 : Int) = (59 : Int) ∧ (61 : Int) = (61 : Int) ∧ True) ∧ (↑(i + 1) : Int) = (↑(i + 1) : Int) ∧ True) ∧ (arF f = arF f ∧ True ∧ True ∧ True ∧ True ∧ True ∧ True ∧ True ∧ True ∧ True ∧ True ∧ True ∧ True ∧ True ∧ True ∧ True ∧ True ∧ True ∧ True ∧ True) ∧ ((0 = 0 ∧ 1 = 1 ∧ 0 = 0) ∧ True) ∧ (wt ws2 = wt ws2 ∧ HfL (wt ws2)) ∧ True) ∧ True) = _) ?_
        (repeat' (first | (with_reducible apply And.intro) | (refine fun (_ : True) => ?_))) <;> first | exact aq | skip
        all_goals first | exact HfL_wt _ | (rw [hxe]; exact wr6 (by omega) (by omega)) | exact hpos.symm | skip
      | true =>
        refine .inl ⟨(i + 1, w2, true, ws2), [0, 1, 2], [yes 14, va 16 (i6 p), va 19 (.ptr 0 i), ld 20 (i6 (f i)), nu 21 x, nu 22 (e : Nat), (0, .loop [0, 1, 2] (aiS f s i e p (0, w, true, ws)) [(True, .exit 2, aoS f s i w2 true ws2)]), nu 35 (i + 1 : Nat)], 1000, ⟨hlt, h2.symm⟩, by dsimp only; omega, ?_⟩
        clear hq hok h2 h2' hf he
        refine Eq.mp (by kernel_rfl : (decide ((↑i : Int) < (18 : Int)) = true ∧ idxV (ctxOf Tryd.prog) 40 prV (↑i : Int) = some (i6 (↑p : Int)) ∧ placeV (ctxOf Tryd.prog) 41 (V.ptr 0 0) (↑i : Int) = some (V.ptr 0 i) ∧ headF (dropF i (arF f)) = some (i6 (f i)) ∧ wr IntKind.i64 (s * f i) = x ∧ (if x > (0 : Int) then x else (0 : Int)) = (↑e : Int) ∧ ((s = s ∧ 0 = 0 ∧ 0 = 0 ∧ (0 = 0 ∧ True) ∧ (↑w : Int) = (↑w : Int) ∧ ((2 : Int) = (2 : Int) ∧ (3 : Int) = (3 : Int) ∧ (5 : Int) = (5 : Int) ∧ (7 : Int) = (7 : Int) ∧ (11 : Int) = (11 : Int) ∧ (13 : Int) = (13 : Int) ∧ (17 : Int) = (17 : Int) ∧ (19 : Int) = (19 : Int) ∧ (23 : Int) = (23 : Int) ∧ (29 : Int) = (29 : Int) ∧ (31 : Int) = (31 : Int) ∧ (37 : Int) = (37 : Int) ∧ (41 : Int) = (41 : Int) ∧ (43 : Int) = (43 : Int) ∧ (47 : Int) = (47 : Int) ∧ (53 : Int) = (53 : Int) ∧ (59 : Int) = (59 : Int) ∧ (61 : Int) = (61 : Int) ∧ True) ∧ (↑i : Int) = (↑i : Int) ∧ (↑p : Int) = (↑p : Int) ∧ (↑e : Int) = (↑e : Int) ∧ (↑(0 : Nat) : Int) = (0 : Int) ∧ True) ∧ (arF f = arF f ∧ True ∧ True ∧ True ∧ True ∧ True ∧ True ∧ True ∧ True ∧ True ∧ True ∧ True ∧ True ∧ True ∧ True ∧ True ∧ True ∧ True ∧ True ∧ True) ∧ ((0 = 0 ∧ List.length ws = List.length ws ∧ True) ∧ True) ∧ (wt ws = wt ws ∧ HfL (wt ws)) ∧ True) ∧ Sat Tryd.prog none 0 (at' 93 [1, 1, 1, 1, 0, 1, 0, 0, 1, 1, 0, 0, 1, 1, 0]) (mkSt g0 40 (aiS f s i e p (0, w, true, ws))) (outsP g0 40 [(True, Ex.exit 2, aoS f s i w2 true ws2)]) ∧ (True → wr IntKind.i64 ((↑i : Int) + (1 : Int)) = (↑(i + 1) : Int) ∧ (s = s ∧ 0 = 0 ∧ 0 = 0 ∧ (0 = 0 ∧ True) ∧ (↑w2 : Int) = (↑w2 : Int) ∧ ((2 : Int) = (2 : Int) ∧ (3 : Int) = (3 : Int) ∧ (5 : Int) = (5 : Int) ∧ (7 : Int) = (7 : Int) ∧ (11 : Int) = (11 : Int) ∧ (13 : Int) = (13 : Int) ∧ (17 : Int) = (17 : Int) ∧ (19 : Int) = (19 : Int) ∧ (23 : Int) = (23 : Int) ∧ (29 : Int) = (29 : Int) ∧ (31 : Int) = (31 : Int) ∧ (37 : Int) = (37 : Int) ∧ (41 : Int) = (41 : Int) ∧ (43 : Int) = (43 : Int) ∧ (47 : Int) = (47 : Int) ∧ (53 : Int) = (53 : Int) ∧ (59 : Int) = (59 : Int) ∧ (61 : Int) = (61 : Int) ∧ True) ∧ (↑(i + 1) : Int) = (↑(i + 1) : Int) ∧ True) ∧ (arF f = arF f ∧ True ∧ True ∧ True ∧ True ∧ True ∧ True ∧ True ∧ True ∧ True ∧ True ∧ True ∧ True ∧ True ∧ True ∧ True ∧ True ∧ True ∧ True ∧ True) ∧ ((0 = 0 ∧ List.length ws2 = List.length ws2 ∧ True) ∧ True) ∧ (wt ws2 = wt ws2 ∧ HfL (wt ws2)) ∧ True) ∧ True) = _) ?_
        (repeat' (first | (with_reducible apply And.intro) | (refine fun (_ : True) => ?_))) <;> first | exact aq | skip
        all_goals first | exact HfL_wt _ | (rw [hxe]; exact wr6 (by omega) (by omega)) | exact hpos.symm | skip
  · have : i = 18 := by omega
    subst this
    rw [hx] at hq
    obtain ⟨x1, x2, x3⟩ : w' = w ∧ md' = md ∧ ws' = ws := by
      simp only [Prod.mk.injEq] at hq
      exact ⟨hq.1.symm, hq.2.1.symm, hq.2.2.symm⟩
    rw [x1, x2, x3]
    clear hx hq
    cases md with
    | false =>
      refine .inr ⟨.exit 0, [0, 1, 2], azX f w false ws, [], 1000, .inl ⟨trivial, rfl, rfl⟩, ?_⟩
      refine Eq.mp (by kernel_rfl : ((0 = 0 ∧ (0 = 0 ∧ True) ∧ (↑w : Int) = (↑w : Int) ∧ True) ∧ (arF f = arF f ∧ True ∧ True ∧ True ∧ True ∧ True ∧ True ∧ True ∧ True ∧ True ∧ True ∧ True ∧ True ∧ True ∧ True ∧ True ∧ True ∧ True ∧ True ∧ True) ∧ ((0 = 0 ∧ 1 = 1 ∧ 0 = 0) ∧ True) ∧ (wt ws = wt ws ∧ HfL (wt ws)) ∧ True) = _) ?_
      (repeat' (first | (with_reducible apply And.intro) | (refine fun (_ : True) => ?_))) <;> first | exact aq | skip
      all_goals first | exact HfL_wt _ | skip
    | true =>
      refine .inr ⟨.exit 0, [0, 1, 2], azX f w true ws, [], 1000, .inl ⟨trivial, rfl, rfl⟩, ?_⟩
      refine Eq.mp (by kernel_rfl : ((0 = 0 ∧ (0 = 0 ∧ True) ∧ (↑w : Int) = (↑w : Int) ∧ True) ∧ (arF f = arF f ∧ True ∧ True ∧ True ∧ True ∧ True ∧ True ∧ True ∧ True ∧ True ∧ True ∧ True ∧ True ∧ True ∧ True ∧ True ∧ True ∧ True ∧ True ∧ True) ∧ ((0 = 0 ∧ List.length ws = List.length ws ∧ True) ∧ True) ∧ (wt ws = wt ws ∧ HfL (wt ws)) ∧ True) = _) ?_
      (repeat' (first | (with_reducible apply And.intro) | (refine fun (_ : True) => ?_))) <;> first | exact aq | skip
      all_goals first | exact HfL_wt _ | skip

/-- a long number as a value -/
abbrev lnV (l : List Nat) : V := .im l.length (wt l)
theorem above_fn (f : Nat → Int) (s : Int) (hs : s = 1 ∨ s = -1) (hf : ∀ i, i < 18 → -4000 ≤ f i ∧ f i ≤ 4000) : ∃ ws, Norm ws ∧ valW ws = prodP (posF f s) 18 ∧ ws.length ≤ 100000 ∧ FnOk Pg g0 93 [ar f, i6 s] (lnV ws) := by
  have he : ∀ i, i < 18 → posF f s i ≤ 4000 := fun i hi => by
    have := hf i hi
    unfold posF
    rcases hs with rfl | rfl <;> omega
  have hok := outQ_ok he 18 (Nat.le_refl _)
  obtain ⟨w, md, ws, hx⟩ : ∃ w md ws, outQ (posF f s) 18 = (w, md, ws) := ⟨_, _, _, rfl⟩
  have l := av_out f s hs hf w md ws hx
  rw [hx] at hok
  have hw1 := hok.w1
  have hwb := hok.wb
  have hlen := hok.len
  have hone := hok.one
  have hnorm := hok.norm
  have hval := hok.val
  dsimp only at hw1 hwb hlen hone hnorm hval
  rw [Nat.pow_zero, Nat.mul_one] at hval
  obtain ⟨m1, m2, m3⟩ := mulW_ok hnorm (w := w) (by omega) hw1
  refine ⟨mulW w ws, m1, by rw [m2, Nat.mul_comm, hval], by omega, ?_⟩
  clear hok hx hval m1 m2 m3 he hf
  cases md with
  | false =>
    obtain ⟨x, rfl⟩ : ∃ x, ws = [x] := List.length_eq_one_iff.1 (hone rfl)
    have hxb : x < 18446744073709551616 := by simpa using hnorm.ok 0
    by_cases hc0 : x * w / 18446744073709551616 = 0
    · have hcs := mul_one0 f x w hxb (by omega) _ rfl hc0
      rw [mulW_one0 hc0]
      generalize x * w % 18446744073709551616 = y at *
      refine FnOk.of_vc vN_ok mixed sp0_ok (n := 1000) (r := []) (S := { sl := [(4, .im 1 [u6 (y : Int)])] }) (hs := [(0, .loop [0, 2, 1] (aoS f s 0 1 false [1]) [(True, .exit 0, azX f w false [x])]), (38, .call ⟨.tup [], ofOs .e 0 (n1 f y), 3, [2]⟩)]) ?_
      refine Eq.mp (by kernel_rfl : (V.im 1 [u6 (↑y : Int)] = lnV [y] ∧ ((s = s ∧ 0 = 0 ∧ 0 = 0 ∧ (0 = 0 ∧ True) ∧ (↑(1 : Nat) : Int) = (1 : Int) ∧ ((2 : Int) = (2 : Int) ∧ (3 : Int) = (3 : Int) ∧ (5 : Int) = (5 : Int) ∧ (7 : Int) = (7 : Int) ∧ (11 : Int) = (11 : Int) ∧ (13 : Int) = (13 : Int) ∧ (17 : Int) = (17 : Int) ∧ (19 : Int) = (19 : Int) ∧ (23 : Int) = (23 : Int) ∧ (29 : Int) = (29 : Int) ∧ (31 : Int) = (31 : Int) ∧ (37 : Int) = (37 : Int) ∧ (41 : Int) = (41 : Int) ∧ (43 : Int) = (43 : Int) ∧ (47 : Int) = (47 : Int) ∧ (53 : Int) = (53 : Int) ∧ (59 : Int) = (59 : Int) ∧ (61 : Int) = (61 : Int) ∧ True) ∧ (↑(0 : Nat) : Int) = (0 : Int) ∧ True) ∧ (arF f = [i6 (f 0), i6 (f 1), i6 (f 2), i6 (f 3), i6 (f 4), i6 (f 5), i6 (f 6), i6 (f 7), i6 (f 8), i6 (f 9), i6 (f 10), i6 (f 11), i6 (f 12), i6 (f 13), i6 (f 14), i6 (f 15), i6 (f 16), i6 (f 17)] ∧ True ∧ True ∧ True ∧ True ∧ True ∧ True ∧ True ∧ True ∧ True ∧ True ∧ True ∧ True ∧ True ∧ True ∧ True ∧ True ∧ True ∧ True ∧ True) ∧ ((0 = 0 ∧ 1 = 1 ∧ 0 = 0) ∧ True) ∧ (wt [1] = [V.int IntKind.u64 (1 : Int)] ∧ True ∧ True) ∧ True) ∧ Sat Tryd.prog none 0 (at' 93 [1, 1, 1, 1, 0, 1, 0]) (mkSt g0 40 (aoS f s 0 1 false [1])) (outsP g0 40 [(True, Ex.exit 0, azX f w false [x])]) ∧ (True → CallSpec Tryd.prog g0 (V.fn 112 [V.ptr 1 0]) [u6 (↑w : Int)] (ofOs T.e 0 (aoL f false [x])) 3 (CR.mk (V.tup []) (ofOs T.e 0 (n1 f y)) 3 [2]) ∧ True ∧ ((1 = 1 ∧ [u6 (↑y : Int)] = [u6 (↑y : Int)] ∧ True ∧ True) ∧ True) ∧ True) ∧ True) = _) ?_
      (repeat' (first | (with_reducible apply And.intro) | (refine fun (_ : True) => ?_))) <;> first | exact aq | skip
      all_goals first | exact hcs | exact rfl | skip
    · have hcs := mul_one1 f x w hxb (by omega) _ _ rfl rfl hc0
      rw [mulW_one1 hc0]
      generalize x * w % 18446744073709551616 = y at *
      generalize x * w / 18446744073709551616 = c at *
      refine FnOk.of_vc vN_ok mixed sp0_ok (n := 1000) (r := []) (S := { sl := [(4, .im 2 [u6 (y : Int), u6 (c : Int)])] }) (hs := [(0, .loop [0, 2, 1] (aoS f s 0 1 false [1]) [(True, .exit 0, azX f w false [x])]), (38, .call ⟨.tup [], ofOs .e 0 [.row 41 none (arF f), .row 162 none [.sl 3 0 2 none], .dead, .row 170 (some 1) [u6 (y : Int), u6 (c : Int)]], 4, [2, 1]⟩)]) ?_
      refine Eq.mp (by kernel_rfl : (V.im 2 [u6 (↑y : Int), u6 (↑c : Int)] = lnV [y, c] ∧ ((s = s ∧ 0 = 0 ∧ 0 = 0 ∧ (0 = 0 ∧ True) ∧ (↑(1 : Nat) : Int) = (1 : Int) ∧ ((2 : Int) = (2 : Int) ∧ (3 : Int) = (3 : Int) ∧ (5 : Int) = (5 : Int) ∧ (7 : Int) = (7 : Int) ∧ (11 : Int) = (11 : Int) ∧ (13 : Int) = (13 : Int) ∧ (17 : Int) = (17 : Int) ∧ (19 : Int) = (19 : Int) ∧ (23 : Int) = (23 : Int) ∧ (29 : Int) = (29 : Int) ∧ (31 : Int) = (31 : Int) ∧ (37 : Int) = (37 : Int) ∧ (41 : Int) = (41 : Int) ∧ (43 : Int) = (43 : Int) ∧ (47 : Int) = (47 : Int) ∧ (53 : Int) = (53 : Int) ∧ (59 : Int) = (59 : Int) ∧ (61 : Int) = (61 : Int) ∧ True) ∧ (↑(0 : Nat) : Int) = (0 : Int) ∧ True) ∧ (arF f = [i6 (f 0), i6 (f 1), i6 (f 2), i6 (f 3), i6 (f 4), i6 (f 5), i6 (f 6), i6 (f 7), i6 (f 8), i6 (f 9), i6 (f 10), i6 (f 11), i6 (f 12), i6 (f 13), i6 (f 14), i6 (f 15), i6 (f 16), i6 (f 17)] ∧ True ∧ True ∧ True ∧ True ∧ True ∧ True ∧ True ∧ True ∧ True ∧ True ∧ True ∧ True ∧ True ∧ True ∧ True ∧ True ∧ True ∧ True ∧ True) ∧ ((0 = 0 ∧ 1 = 1 ∧ 0 = 0) ∧ True) ∧ (wt [1] = [V.int IntKind.u64 (1 : Int)] ∧ True ∧ True) ∧ True) ∧ Sat Tryd.prog none 0 (at' 93 [1, 1, 1, 1, 0, 1, 0]) (mkSt g0 40 (aoS f s 0 1 false [1])) (outsP g0 40 [(True, Ex.exit 0, azX f w false [x])]) ∧ (True → CallSpec Tryd.prog g0 (V.fn 112 [V.ptr 1 0]) [u6 (↑w : Int)] (ofOs T.e 0 (aoL f false [x])) 3 (CR.mk (V.tup []) (ofOs T.e 0 [O.row 41 none (arF f), O.row 162 none [V.sl 3 0 2 none], O.dead, O.row 170 (some 1) [u6 (↑y : Int), u6 (↑c : Int)]]) 4 [2, 1]) ∧ True ∧ ((2 = 2 ∧ [u6 (↑y : Int), u6 (↑c : Int)] = [u6 (↑y : Int), u6 (↑c : Int)] ∧ True ∧ True ∧ True) ∧ True) ∧ True) ∧ True) = _) ?_
      (repeat' (first | (with_reducible apply And.intro) | (refine fun (_ : True) => ?_))) <;> first | exact aq | skip
      all_goals first | exact hcs | exact rfl | skip
  | true =>
    obtain ⟨n, hn⟩ : ∃ n, n = ws.length := ⟨_, rfl⟩
    by_cases hc0 : (mulS w ws n).2 = 0
    · have hcs := mul_M0 f ws w n hn (by omega) hnorm.ok (by omega) _ rfl hc0
      have hml := mulS_len w ws n
      rw [show mulW w ws = (mulS w ws n).1 by unfold mulW; rw [← hn, if_pos hc0]]
      generalize (mulS w ws n).1 = m at *
      clear hc0
      subst hn
      refine FnOk.of_vc vN_ok mixed sp0_ok (n := 1000) (r := []) (S := { sl := [(4, lnV m)] }) (hs := [(0, .loop [0, 2, 1] (aoS f s 0 1 false [1]) [(True, .exit 0, azX f w true ws)]), (38, .call ⟨.tup [], ofOs .e 0 [.row 41 none (arF f), .row 162 none [.sl 2 0 ws.length none], .row 170 (some 1) (wt m)], 3, [2]⟩)]) ?_
      refine Eq.mp (by kernel_rfl : (lnV m = lnV m ∧ ((s = s ∧ 0 = 0 ∧ 0 = 0 ∧ (0 = 0 ∧ True) ∧ (↑(1 : Nat) : Int) = (1 : Int) ∧ ((2 : Int) = (2 : Int) ∧ (3 : Int) = (3 : Int) ∧ (5 : Int) = (5 : Int) ∧ (7 : Int) = (7 : Int) ∧ (11 : Int) = (11 : Int) ∧ (13 : Int) = (13 : Int) ∧ (17 : Int) = (17 : Int) ∧ (19 : Int) = (19 : Int) ∧ (23 : Int) = (23 : Int) ∧ (29 : Int) = (29 : Int) ∧ (31 : Int) = (31 : Int) ∧ (37 : Int) = (37 : Int) ∧ (41 : Int) = (41 : Int) ∧ (43 : Int) = (43 : Int) ∧ (47 : Int) = (47 : Int) ∧ (53 : Int) = (53 : Int) ∧ (59 : Int) = (59 : Int) ∧ (61 : Int) = (61 : Int) ∧ True) ∧ (↑(0 : Nat) : Int) = (0 : Int) ∧ True) ∧ (arF f = [i6 (f 0), i6 (f 1), i6 (f 2), i6 (f 3), i6 (f 4), i6 (f 5), i6 (f 6), i6 (f 7), i6 (f 8), i6 (f 9), i6 (f 10), i6 (f 11), i6 (f 12), i6 (f 13), i6 (f 14), i6 (f 15), i6 (f 16), i6 (f 17)] ∧ True ∧ True ∧ True ∧ True ∧ True ∧ True ∧ True ∧ True ∧ True ∧ True ∧ True ∧ True ∧ True ∧ True ∧ True ∧ True ∧ True ∧ True ∧ True) ∧ ((0 = 0 ∧ 1 = 1 ∧ 0 = 0) ∧ True) ∧ (wt [1] = [V.int IntKind.u64 (1 : Int)] ∧ True ∧ True) ∧ True) ∧ Sat Tryd.prog none 0 (at' 93 [1, 1, 1, 1, 0, 1, 0]) (mkSt g0 40 (aoS f s 0 1 false [1])) (outsP g0 40 [(True, Ex.exit 0, azX f w true ws)]) ∧ (True → CallSpec Tryd.prog g0 (V.fn 112 [V.ptr 1 0]) [u6 (↑w : Int)] (ofOs T.e 0 (aoL f true ws)) 3 (CR.mk (V.tup []) (ofOs T.e 0 [O.row 41 none (arF f), O.row 162 none [V.sl 2 0 (List.length ws) none], O.row 170 (some 1) (wt m)]) 3 [2]) ∧ True ∧ ((List.length m = List.length ws ∧ wt m = wt m ∧ HfL (wt m)) ∧ True) ∧ True) ∧ True) = _) ?_
      (repeat' (first | (with_reducible apply And.intro) | (refine fun (_ : True) => ?_))) <;> first | exact aq | skip
      all_goals first | exact hcs | exact HfL_wt _ | exact rfl | skip
    · have hcs := mul_M1 f ws w n hn (by omega) hnorm.ok (by omega) _ _ rfl rfl hc0
      have hml := mulS_len w ws n
      rw [show mulW w ws = (mulS w ws n).1 ++ [(mulS w ws n).2] by unfold mulW; rw [← hn, if_neg hc0]]
      generalize (mulS w ws n).1 = m at *
      generalize (mulS w ws n).2 = c at *
      rw [← wt_app] at hcs
      have hl2 : (m ++ [c]).length = n + 1 := by simp; omega
      generalize m ++ [c] = m' at *
      clear hc0
      subst hn
      refine FnOk.of_vc vN_ok mixed sp0_ok (n := 1000) (r := []) (S := { sl := [(4, lnV m')] }) (hs := [(0, .loop [0, 2, 1] (aoS f s 0 1 false [1]) [(True, .exit 0, azX f w true ws)]), (38, .call ⟨.tup [], ofOs .e 0 [.row 41 none (arF f), .row 162 none [.sl 3 0 (ws.length + 1) none], .dead, .row 170 (some 1) (wt m')], 4, [2, 1]⟩)]) ?_
      refine Eq.mp (by kernel_rfl : (lnV m' = lnV m' ∧ ((s = s ∧ 0 = 0 ∧ 0 = 0 ∧ (0 = 0 ∧ True) ∧ (↑(1 : Nat) : Int) = (1 : Int) ∧ ((2 : Int) = (2 : Int) ∧ (3 : Int) = (3 : Int) ∧ (5 : Int) = (5 : Int) ∧ (7 : Int) = (7 : Int) ∧ (11 : Int) = (11 : Int) ∧ (13 : Int) = (13 : Int) ∧ (17 : Int) = (17 : Int) ∧ (19 : Int) = (19 : Int) ∧ (23 : Int) = (23 : Int) ∧ (29 : Int) = (29 : Int) ∧ (31 : Int) = (31 : Int) ∧ (37 : Int) = (37 : Int) ∧ (41 : Int) = (41 : Int) ∧ (43 : Int) = (43 : Int) ∧ (47 : Int) = (47 : Int) ∧ (53 : Int) = (53 : Int) ∧ (59 : Int) = (59 : Int) ∧ (61 : Int) = (61 : Int) ∧ True) ∧ (↑(0 : Nat) : Int) = (0 : Int) ∧ True) ∧ (arF f = [i6 (f 0), i6 (f 1), i6 (f 2), i6 (f 3), i6 (f 4), i6 (f 5), i6 (f 6), i6 (f 7), i6 (f 8), i6 (f 9), i6 (f 10), i6 (f 11), i6 (f 12), i6 (f 13), i6 (f 14), i6 (f 15), i6 (f 16), i6 (f 17)] ∧ True ∧ True ∧ True ∧ True ∧ True ∧ True ∧ True ∧ True ∧ True ∧ True ∧ True ∧ True ∧ True ∧ True ∧ True ∧ True ∧ True ∧ True ∧ True) ∧ ((0 = 0 ∧ 1 = 1 ∧ 0 = 0) ∧ True) ∧ (wt [1] = [V.int IntKind.u64 (1 : Int)] ∧ True ∧ True) ∧ True) ∧ Sat Tryd.prog none 0 (at' 93 [1, 1, 1, 1, 0, 1, 0]) (mkSt g0 40 (aoS f s 0 1 false [1])) (outsP g0 40 [(True, Ex.exit 0, azX f w true ws)]) ∧ (True → CallSpec Tryd.prog g0 (V.fn 112 [V.ptr 1 0]) [u6 (↑w : Int)] (ofOs T.e 0 (aoL f true ws)) 3 (CR.mk (V.tup []) (ofOs T.e 0 [O.row 41 none (arF f), O.row 162 none [V.sl 3 0 (List.length ws + 1) none], O.dead, O.row 170 (some 1) (wt m')]) 4 [2, 1]) ∧ True ∧ ((List.length m' = List.length ws + 1 ∧ wt m' = wt m' ∧ HfL (wt m')) ∧ True) ∧ True) ∧ True) = _) ?_
      (repeat' (first | (with_reducible apply And.intro) | (refine fun (_ : True) => ?_))) <;> first | exact aq | skip
      all_goals first | exact hcs | exact HfL_wt _ | exact rfl | skip
end Go.Proofs.YtglpoiaedkoecaaDoor.Am
