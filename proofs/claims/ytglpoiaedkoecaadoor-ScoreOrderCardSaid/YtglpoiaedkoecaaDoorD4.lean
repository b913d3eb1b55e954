/- Chapter 28: Of, Add, and the reference's. -/
import Derived.Test.YtglpoiaedkoecaaDoorD8
namespace Go.Proofs.YtglpoiaedkoecaaDoor.Am
open Go.RowKit
set_option linter.unusedVariables false
set_option maxHeartbeats 1000000
set_option maxRecDepth 100000

/-! ### score.split -/
abbrev soS (q : Nat × Nat × (Nat → Int)) : SL := { sl := [(0, i6 q.2.1), (2, .ptr 0 0), (6, prV), (7, i6 q.1)], os := [.row 41 none (arF q.2.2)] }
abbrev soX (m : Nat) (f : Nat → Int) : SL := { sl := [(0, i6 m), (2, .ptr 0 0)], os := [.row 41 none (arF f)] }
theorem split_out (n : Nat) (h1 : 1 ≤ n) (h2 : n ≤ 4611686018427387903) (q : Nat × Nat × (Nat → Int)) (hq : TrI n q) :
    Sat Pg none 0 (at' 80 [1, 0, 1, 0]) (mkSt g0 26 (soS q)) (outsP g0 26 [(True, .exit 0, soX (ofN n 18) (ofF n 18))]) := by
  refine loopC vE_ok mixed sp0_ok (b := at' 80 [1, 0, 1, 0, 0]) (by kernel_rfl) (TrI n) soS (fun q => 18 - q.1) (fun q hq => ?_) q hq
  obtain ⟨k, m, f⟩ := q
  obtain ⟨hk, hm, hf⟩ := hq
  dsimp only at hk hm hf
  by_cases hlt : k < 18
  · have hx := @idx40 k hlt
    obtain ⟨E, M, hE, hsp, hm2, hnx, hz⟩ := tr_next h1 h2 hlt hm hf
    have l := split_in f k hlt E M (63, m, 0) hE ⟨hsp, hm2⟩
    refine .inl ⟨(k + 1, M, upA f k E), [0], [yes 8, va 10 (i6 (primeN k)), (0, .loop [0] (spS f k (63, m, 0)) [(True, .exit 2, spX f k M E)]), nu 23 (k + 1 : Nat)], 1000, hnx, by dsimp only; omega, ?_⟩
    refine Eq.mp (by kernel_rfl : (decide ((↑k : Int) < (18 : Int)) = true ∧ idxV (ctxOf Tryd.prog) 40 prV (↑k : Int) = some (i6 (↑(primeN k) : Int)) ∧ (((↑m : Int) = (↑m : Int) ∧ 0 = 0 ∧ (↑k : Int) = (↑k : Int) ∧ (↑(primeN k) : Int) = (↑(primeN k) : Int) ∧ ((2 : Int) = (2 : Int) ∧ (3 : Int) = (3 : Int) ∧ (5 : Int) = (5 : Int) ∧ (7 : Int) = (7 : Int) ∧ (11 : Int) = (11 : Int) ∧ (13 : Int) = (13 : Int) ∧ (17 : Int) = (17 : Int) ∧ (19 : Int) = (19 : Int) ∧ (23 : Int) = (23 : Int) ∧ (29 : Int) = (29 : Int) ∧ (31 : Int) = (31 : Int) ∧ (37 : Int) = (37 : Int) ∧ (41 : Int) = (41 : Int) ∧ (43 : Int) = (43 : Int) ∧ (47 : Int) = (47 : Int) ∧ (53 : Int) = (53 : Int) ∧ (59 : Int) = (59 : Int) ∧ (61 : Int) = (61 : Int) ∧ True) ∧ (↑k : Int) = (↑k : Int) ∧ True) ∧ (arF (upA f k (↑(0 : Nat) : Int)) = arF f ∧ True ∧ True ∧ True ∧ True ∧ True ∧ True ∧ True ∧ True ∧ True ∧ True ∧ True ∧ True ∧ True ∧ True ∧ True ∧ True ∧ True ∧ True ∧ True) ∧ True) ∧ Sat Tryd.prog none 0 (at' 80 [1, 0, 1, 0, 0, 1, 1, 0, 0, 1, 0]) (mkSt g0 26 (spS f k (63, m, 0))) (outsP g0 26 [(True, Ex.exit 2, spX f k M E)]) ∧ (True → wr IntKind.i64 ((↑k : Int) + (1 : Int)) = (↑(k + 1) : Int) ∧ ((↑M : Int) = (↑M : Int) ∧ 0 = 0 ∧ ((2 : Int) = (2 : Int) ∧ (3 : Int) = (3 : Int) ∧ (5 : Int) = (5 : Int) ∧ (7 : Int) = (7 : Int) ∧ (11 : Int) = (11 : Int) ∧ (13 : Int) = (13 : Int) ∧ (17 : Int) = (17 : Int) ∧ (19 : Int) = (19 : Int) ∧ (23 : Int) = (23 : Int) ∧ (29 : Int) = (29 : Int) ∧ (31 : Int) = (31 : Int) ∧ (37 : Int) = (37 : Int) ∧ (41 : Int) = (41 : Int) ∧ (43 : Int) = (43 : Int) ∧ (47 : Int) = (47 : Int) ∧ (53 : Int) = (53 : Int) ∧ (59 : Int) = (59 : Int) ∧ (61 : Int) = (61 : Int) ∧ True) ∧ (↑(k + 1) : Int) = (↑(k + 1) : Int) ∧ True) ∧ (arF (upA f k (↑E : Int)) = arF (upA f k (↑E : Int)) ∧ True ∧ True ∧ True ∧ True ∧ True ∧ True ∧ True ∧ True ∧ True ∧ True ∧ True ∧ True ∧ True ∧ True ∧ True ∧ True ∧ True ∧ True ∧ True) ∧ True) ∧ True) = _) ?_
    exact au
  · have : k = 18 := by omega
    subst this
    rw [← hm, ← hf]
    refine .inr ⟨.exit 0, [0], soX m f, [], 1000, .inl ⟨trivial, rfl, rfl⟩, ?_⟩
    refine Eq.mp (by kernel_rfl : (((↑m : Int) = (↑m : Int) ∧ 0 = 0 ∧ True) ∧ (arF f = arF f ∧ True ∧ True ∧ True ∧ True ∧ True ∧ True ∧ True ∧ True ∧ True ∧ True ∧ True ∧ True ∧ True ∧ True ∧ True ∧ True ∧ True ∧ True ∧ True) ∧ True) = _) ?_
    exact au
theorem split_fn (n : Nat) (h1 : 1 ≤ n) (h2 : n ≤ 4611686018427387903) : FnOk Pg g0 80 [i6 n] (.tup [ar (ofF n 18), i6 (ofN n 18)]) := by
  have l := split_out n h1 h2 (0, n, zeroF) ⟨Nat.zero_le _, rfl, rfl⟩
  generalize ofN n 18 = m at *
  generalize ofF n 18 = f at *
  refine FnOk.of_vc vE_ok mixed sp0_ok (n := 1000) (r := [0]) (S := { sl := [(2, .ptr 0 0), (3, i6 m)], os := [.row 41 none (arF f)] }) (hs := [(0, .loop [0] (soS (0, n, zeroF)) [(True, .exit 0, soX m f)])]) ?_
  refine Eq.mp (by kernel_rfl : (V.tup [V.agg [i6 (f 0), i6 (f 1), i6 (f 2), i6 (f 3), i6 (f 4), i6 (f 5), i6 (f 6), i6 (f 7), i6 (f 8), i6 (f 9), i6 (f 10), i6 (f 11), i6 (f 12), i6 (f 13), i6 (f 14), i6 (f 15), i6 (f 16), i6 (f 17)], i6 (↑m : Int)] = V.tup [ar f, i6 (↑m : Int)] ∧ (((↑n : Int) = (↑n : Int) ∧ 0 = 0 ∧ ((2 : Int) = (2 : Int) ∧ (3 : Int) = (3 : Int) ∧ (5 : Int) = (5 : Int) ∧ (7 : Int) = (7 : Int) ∧ (11 : Int) = (11 : Int) ∧ (13 : Int) = (13 : Int) ∧ (17 : Int) = (17 : Int) ∧ (19 : Int) = (19 : Int) ∧ (23 : Int) = (23 : Int) ∧ (29 : Int) = (29 : Int) ∧ (31 : Int) = (31 : Int) ∧ (37 : Int) = (37 : Int) ∧ (41 : Int) = (41 : Int) ∧ (43 : Int) = (43 : Int) ∧ (47 : Int) = (47 : Int) ∧ (53 : Int) = (53 : Int) ∧ (59 : Int) = (59 : Int) ∧ (61 : Int) = (61 : Int) ∧ True) ∧ (↑(0 : Nat) : Int) = (0 : Int) ∧ True) ∧ (arF zeroF = [V.int IntKind.i64 (0 : Int), V.int IntKind.i64 (0 : Int), V.int IntKind.i64 (0 : Int), V.int IntKind.i64 (0 : Int), V.int IntKind.i64 (0 : Int), V.int IntKind.i64 (0 : Int), V.int IntKind.i64 (0 : Int), V.int IntKind.i64 (0 : Int), V.int IntKind.i64 (0 : Int), V.int IntKind.i64 (0 : Int), V.int IntKind.i64 (0 : Int), V.int IntKind.i64 (0 : Int), V.int IntKind.i64 (0 : Int), V.int IntKind.i64 (0 : Int), V.int IntKind.i64 (0 : Int), V.int IntKind.i64 (0 : Int), V.int IntKind.i64 (0 : Int), V.int IntKind.i64 (0 : Int)] ∧ True ∧ True ∧ True ∧ True ∧ True ∧ True ∧ True ∧ True ∧ True ∧ True ∧ True ∧ True ∧ True ∧ True ∧ True ∧ True ∧ True ∧ True ∧ True) ∧ True) ∧ Sat Tryd.prog none 0 (at' 80 [1, 0, 1, 0]) (mkSt g0 26 (soS (0, n, zeroF))) (outsP g0 26 [(True, Ex.exit 0, soX m f)]) ∧ (True → (0 = 0 ∧ (↑m : Int) = (↑m : Int) ∧ True) ∧ (arF f = [i6 (f 0), i6 (f 1), i6 (f 2), i6 (f 3), i6 (f 4), i6 (f 5), i6 (f 6), i6 (f 7), i6 (f 8), i6 (f 9), i6 (f 10), i6 (f 11), i6 (f 12), i6 (f 13), i6 (f 14), i6 (f 15), i6 (f 16), i6 (f 17)] ∧ True ∧ True ∧ True ∧ True ∧ True ∧ True ∧ True ∧ True ∧ True ∧ True ∧ True ∧ True ∧ True ∧ True ∧ True ∧ True ∧ True ∧ True ∧ True) ∧ True) ∧ True) = _) ?_
  exact au

/-! ### score.Of -/
abbrev twoS (f : Nat → Int) (e : Int) : SL := { sl := [(2, .ptr 0 0), (3, i6 e)], os := [.row 41 none (arF f)] }
theorem of_out (n : Int) (h : n < 1 ∨ 4611686018427387903 < n) : FnOk Pg g0 31 [i6 n] (.tup [ar zeroF, i6 2]) := by
  by_cases h1 : n < 1
  · refine FnOk.of_vc vE_ok mixed sp0_ok (n := 1000) (r := [0]) (S := twoS zeroF 2) (hs := [yes 7]) ?_
    refine Eq.mp (by kernel_rfl : (V.tup [V.agg [i6 (zeroF 0), i6 (zeroF 1), i6 (zeroF 2), i6 (zeroF 3), i6 (zeroF 4), i6 (zeroF 5), i6 (zeroF 6), i6 (zeroF 7), i6 (zeroF 8), i6 (zeroF 9), i6 (zeroF 10), i6 (zeroF 11), i6 (zeroF 12), i6 (zeroF 13), i6 (zeroF 14), i6 (zeroF 15), i6 (zeroF 16), i6 (zeroF 17)], i6 (2 : Int)] = V.tup [ar zeroF, i6 (2 : Int)] ∧ decide (n < (1 : Int)) = true ∧ (0 = 0 ∧ (2 : Int) = (2 : Int) ∧ True) ∧ (arF zeroF = [V.int IntKind.i64 (0 : Int), V.int IntKind.i64 (0 : Int), V.int IntKind.i64 (0 : Int), V.int IntKind.i64 (0 : Int), V.int IntKind.i64 (0 : Int), V.int IntKind.i64 (0 : Int), V.int IntKind.i64 (0 : Int), V.int IntKind.i64 (0 : Int), V.int IntKind.i64 (0 : Int), V.int IntKind.i64 (0 : Int), V.int IntKind.i64 (0 : Int), V.int IntKind.i64 (0 : Int), V.int IntKind.i64 (0 : Int), V.int IntKind.i64 (0 : Int), V.int IntKind.i64 (0 : Int), V.int IntKind.i64 (0 : Int), V.int IntKind.i64 (0 : Int), V.int IntKind.i64 (0 : Int)] ∧ True ∧ True ∧ True ∧ True ∧ True ∧ True ∧ True ∧ True ∧ True ∧ True ∧ True ∧ True ∧ True ∧ True ∧ True ∧ True ∧ True ∧ True ∧ True) ∧ True) = _) ?_
    exact au
  · refine FnOk.of_vc vE_ok mixed sp0_ok (n := 1000) (r := [0]) (S := twoS zeroF 2) (hs := [no 7, yes 10]) ?_
    refine Eq.mp (by kernel_rfl : (V.tup [V.agg [i6 (zeroF 0), i6 (zeroF 1), i6 (zeroF 2), i6 (zeroF 3), i6 (zeroF 4), i6 (zeroF 5), i6 (zeroF 6), i6 (zeroF 7), i6 (zeroF 8), i6 (zeroF 9), i6 (zeroF 10), i6 (zeroF 11), i6 (zeroF 12), i6 (zeroF 13), i6 (zeroF 14), i6 (zeroF 15), i6 (zeroF 16), i6 (zeroF 17)], i6 (2 : Int)] = V.tup [ar zeroF, i6 (2 : Int)] ∧ decide (n < (1 : Int)) = false ∧ decide (n > (4611686018427387903 : Int)) = true ∧ (0 = 0 ∧ (2 : Int) = (2 : Int) ∧ True) ∧ (arF zeroF = [V.int IntKind.i64 (0 : Int), V.int IntKind.i64 (0 : Int), V.int IntKind.i64 (0 : Int), V.int IntKind.i64 (0 : Int), V.int IntKind.i64 (0 : Int), V.int IntKind.i64 (0 : Int), V.int IntKind.i64 (0 : Int), V.int IntKind.i64 (0 : Int), V.int IntKind.i64 (0 : Int), V.int IntKind.i64 (0 : Int), V.int IntKind.i64 (0 : Int), V.int IntKind.i64 (0 : Int), V.int IntKind.i64 (0 : Int), V.int IntKind.i64 (0 : Int), V.int IntKind.i64 (0 : Int), V.int IntKind.i64 (0 : Int), V.int IntKind.i64 (0 : Int), V.int IntKind.i64 (0 : Int)] ∧ True ∧ True ∧ True ∧ True ∧ True ∧ True ∧ True ∧ True ∧ True ∧ True ∧ True ∧ True ∧ True ∧ True ∧ True ∧ True ∧ True ∧ True ∧ True) ∧ True) = _) ?_
    exact au
theorem of_big (n : Nat) (h1 : 1 ≤ n) (h2 : n ≤ 4611686018427387903) (h : ofN n 18 ≠ 1) : FnOk Pg g0 31 [i6 n] (.tup [ar zeroF, i6 4]) := by
  have l := split_fn n h1 h2
  generalize ofN n 18 = m at *
  generalize ofF n 18 = f at *
  refine FnOk.of_vc vE_ok mixed sp0_ok (n := 1000) (r := [0]) (S := twoS zeroF 4) (hs := [no 7, no 10, fn 15 (.tup [ar f, i6 m]), yes 19]) ?_
  refine Eq.mp (by kernel_rfl : (V.tup [V.agg [i6 (zeroF 0), i6 (zeroF 1), i6 (zeroF 2), i6 (zeroF 3), i6 (zeroF 4), i6 (zeroF 5), i6 (zeroF 6), i6 (zeroF 7), i6 (zeroF 8), i6 (zeroF 9), i6 (zeroF 10), i6 (zeroF 11), i6 (zeroF 12), i6 (zeroF 13), i6 (zeroF 14), i6 (zeroF 15), i6 (zeroF 16), i6 (zeroF 17)], i6 (4 : Int)] = V.tup [ar zeroF, i6 (4 : Int)] ∧ decide ((↑n : Int) < (1 : Int)) = false ∧ decide ((↑n : Int) > (4611686018427387903 : Int)) = false ∧ (True ∧ True) ∧ FnOk Tryd.prog g0 80 [V.int IntKind.i64 (↑n : Int)] (V.tup [ar f, i6 (↑m : Int)]) ∧ True ∧ ((↑m : Int) != (1 : Int)) = true ∧ (0 = 0 ∧ (4 : Int) = (4 : Int) ∧ True) ∧ (arF zeroF = [V.int IntKind.i64 (0 : Int), V.int IntKind.i64 (0 : Int), V.int IntKind.i64 (0 : Int), V.int IntKind.i64 (0 : Int), V.int IntKind.i64 (0 : Int), V.int IntKind.i64 (0 : Int), V.int IntKind.i64 (0 : Int), V.int IntKind.i64 (0 : Int), V.int IntKind.i64 (0 : Int), V.int IntKind.i64 (0 : Int), V.int IntKind.i64 (0 : Int), V.int IntKind.i64 (0 : Int), V.int IntKind.i64 (0 : Int), V.int IntKind.i64 (0 : Int), V.int IntKind.i64 (0 : Int), V.int IntKind.i64 (0 : Int), V.int IntKind.i64 (0 : Int), V.int IntKind.i64 (0 : Int)] ∧ True ∧ True ∧ True ∧ True ∧ True ∧ True ∧ True ∧ True ∧ True ∧ True ∧ True ∧ True ∧ True ∧ True ∧ True ∧ True ∧ True ∧ True ∧ True) ∧ True) = _) ?_
  exact au
theorem of_one (n : Nat) (h1 : 1 ≤ n) (h2 : n ≤ 4611686018427387903) (h : ofN n 18 = 1) : FnOk Pg g0 31 [i6 n] (.tup [ar (ofF n 18), i6 0]) := by
  have l := split_fn n h1 h2
  generalize ofN n 18 = m at *
  generalize ofF n 18 = f at *
  refine FnOk.of_vc vE_ok mixed sp0_ok (n := 1000) (r := [0]) (S := twoS f 0) (hs := [no 7, no 10, fn 15 (.tup [ar f, i6 m]), no 19]) ?_
  refine Eq.mp (by kernel_rfl : (V.tup [V.agg [i6 (f 0), i6 (f 1), i6 (f 2), i6 (f 3), i6 (f 4), i6 (f 5), i6 (f 6), i6 (f 7), i6 (f 8), i6 (f 9), i6 (f 10), i6 (f 11), i6 (f 12), i6 (f 13), i6 (f 14), i6 (f 15), i6 (f 16), i6 (f 17)], i6 (0 : Int)] = V.tup [ar f, i6 (0 : Int)] ∧ decide ((↑n : Int) < (1 : Int)) = false ∧ decide ((↑n : Int) > (4611686018427387903 : Int)) = false ∧ (True ∧ True) ∧ FnOk Tryd.prog g0 80 [V.int IntKind.i64 (↑n : Int)] (V.tup [ar f, i6 (↑m : Int)]) ∧ True ∧ ((↑m : Int) != (1 : Int)) = false ∧ (0 = 0 ∧ (0 : Int) = (0 : Int) ∧ True) ∧ (arF f = [i6 (f 0), i6 (f 1), i6 (f 2), i6 (f 3), i6 (f 4), i6 (f 5), i6 (f 6), i6 (f 7), i6 (f 8), i6 (f 9), i6 (f 10), i6 (f 11), i6 (f 12), i6 (f 13), i6 (f 14), i6 (f 15), i6 (f 16), i6 (f 17)] ∧ True ∧ True ∧ True ∧ True ∧ True ∧ True ∧ True ∧ True ∧ True ∧ True ∧ True ∧ True ∧ True ∧ True ∧ True ∧ True ∧ True ∧ True ∧ True) ∧ True) = _) ?_
  exact au

/-! ### in the range -/
def okA (f : Nat → Int) (l : List Nat) : Bool := l.all fun i => decide (-2000 ≤ f i) && decide (f i ≤ 2000)
def inA (f : Nat → Int) : Bool := okA f (List.range 18)
theorem okA_drop (f : Nat → Int) {k : Nat} (h : k < 18) : okA f ((List.range 18).drop k) = ((decide (-2000 ≤ f k) && decide (f k ≤ 2000)) && okA f ((List.range 18).drop (k + 1))) := by
  rw [List.drop_eq_getElem_cons (by simpa using h)]; simp [okA]
theorem inA_bd {f : Nat → Int} (h : inA f = true) {k : Nat} (hk : k < 18) : -2000 ≤ f k ∧ f k ≤ 2000 := by
  unfold inA okA at h
  have := List.all_eq_true.1 h k (List.mem_range.2 hk)
  simpa using this
abbrev irS (f : Nat → Int) (k : Nat) : SL := { sl := [(5, ar f), (6, i6 k)] }
theorem inrange_loop (f : Nat → Int) (b : Bool) (k : Nat) (hk : k ≤ 18 ∧ okA f ((List.range 18).drop k) = b) :
    Sat Pg none 0 (at' 82 [1, 0, 1, 0]) (mkSt g0 16 (irS f k)) (outsP g0 16 [(b = true, .exit 0, arE), (b = false, .ret, bE 2 false)]) := by
  refine loopC vE_ok mixed sp0_ok (b := at' 82 [1, 0, 1, 0, 0]) (by kernel_rfl) (fun k => k ≤ 18 ∧ okA f ((List.range 18).drop k) = b) (irS f) (fun k => 18 - k) (fun k hk => ?_) k hk
  obtain ⟨hk, hb⟩ := hk
  by_cases hlt : k < 18
  · rw [okA_drop f hlt] at hb
    have hx := @idx41 f k hlt
    by_cases h1 : f k < -2000
    · rw [decide_eq_false (show ¬ -2000 ≤ f k by omega)] at hb
      refine .inr ⟨.ret, [], bE 2 false, [yes 7, va 8 (i6 (f k)), yes 10], 1000, .inr (.inl ⟨hb.symm, rfl, rfl⟩), ?_⟩
      refine Eq.mp (by kernel_rfl : (decide ((↑k : Int) < (18 : Int)) = true ∧ idxV (ctxOf Tryd.prog) 41 (ar f) (↑k : Int) = some (i6 (f k)) ∧ decide (f k < (-2000 : Int)) = true ∧ (false = false ∧ True) ∧ True) = _) ?_
      exact au
    · by_cases h2 : 2000 < f k
      · rw [decide_eq_false (show ¬ f k ≤ 2000 by omega), Bool.and_false] at hb
        refine .inr ⟨.ret, [], bE 2 false, [yes 7, va 8 (i6 (f k)), no 10, yes 13], 1000, .inr (.inl ⟨hb.symm, rfl, rfl⟩), ?_⟩
        refine Eq.mp (by kernel_rfl : (decide ((↑k : Int) < (18 : Int)) = true ∧ idxV (ctxOf Tryd.prog) 41 (ar f) (↑k : Int) = some (i6 (f k)) ∧ decide (f k < (-2000 : Int)) = false ∧ decide (f k > (2000 : Int)) = true ∧ (false = false ∧ True) ∧ True) = _) ?_
        exact au
      · rw [decide_eq_true (show -2000 ≤ f k by omega), decide_eq_true (show f k ≤ 2000 by omega)] at hb
        refine .inl ⟨k + 1, [], [yes 7, va 8 (i6 (f k)), no 10, no 13, nu 15 (k + 1 : Nat)], 1000, ⟨hlt, hb⟩, by omega, ?_⟩
        refine Eq.mp (by kernel_rfl : (decide ((↑k : Int) < (18 : Int)) = true ∧ idxV (ctxOf Tryd.prog) 41 (ar f) (↑k : Int) = some (i6 (f k)) ∧ decide (f k < (-2000 : Int)) = false ∧ decide (f k > (2000 : Int)) = false ∧ wr IntKind.i64 ((↑k : Int) + (1 : Int)) = (↑(k + 1) : Int) ∧ ((f 0 = f 0 ∧ f 1 = f 1 ∧ f 2 = f 2 ∧ f 3 = f 3 ∧ f 4 = f 4 ∧ f 5 = f 5 ∧ f 6 = f 6 ∧ f 7 = f 7 ∧ f 8 = f 8 ∧ f 9 = f 9 ∧ f 10 = f 10 ∧ f 11 = f 11 ∧ f 12 = f 12 ∧ f 13 = f 13 ∧ f 14 = f 14 ∧ f 15 = f 15 ∧ f 16 = f 16 ∧ f 17 = f 17 ∧ True) ∧ (↑(k + 1) : Int) = (↑(k + 1) : Int) ∧ True) ∧ True) = _) ?_
        exact au
  · have : k = 18 := by omega
    subst this
    refine .inr ⟨.exit 0, [], arE, [], 1000, .inl ⟨hb.symm, rfl, rfl⟩, ?_⟩
    refine Eq.mp (by kernel_rfl : (True ∧ True) = _) ?_
    exact au
theorem inrange_fn (f : Nat → Int) : FnOk Pg g0 82 [ar f] (.bool (inA f)) := by
  have l := inrange_loop f (inA f) 0 ⟨Nat.zero_le _, rfl⟩
  refine FnOk.of_vc vE_ok mixed sp0_ok (n := 1000) (r := []) (S := bE 2 (inA f)) (hs := [(0, .loop [] (irS f 0) [(inA f = true, .exit 0, arE), (inA f = false, .ret, bE 2 false)])]) ?_
  refine Eq.mp (by kernel_rfl : (V.bool (inA f) = V.bool (inA f) ∧ (((f 0 = f 0 ∧ f 1 = f 1 ∧ f 2 = f 2 ∧ f 3 = f 3 ∧ f 4 = f 4 ∧ f 5 = f 5 ∧ f 6 = f 6 ∧ f 7 = f 7 ∧ f 8 = f 8 ∧ f 9 = f 9 ∧ f 10 = f 10 ∧ f 11 = f 11 ∧ f 12 = f 12 ∧ f 13 = f 13 ∧ f 14 = f 14 ∧ f 15 = f 15 ∧ f 16 = f 16 ∧ f 17 = f 17 ∧ True) ∧ (↑(0 : Nat) : Int) = (0 : Int) ∧ True) ∧ True) ∧ Sat Tryd.prog none 0 (at' 82 [1, 0, 1, 0]) (mkSt g0 16 (irS f 0)) (outsP g0 16 [(inA f = true, Ex.exit 0, arE), (inA f = false, Ex.ret, bE 2 false)]) ∧ (inA f = true → (inA f = true ∧ True) ∧ True) ∧ (inA f = false → (inA f = false ∧ True) ∧ True) ∧ True) = _) ?_
  exact au
abbrev inS (f : Nat → Int) (k : Nat) : SL := { sl := [(1, .ptr 0 0), (3, i6 k)], os := [.row 41 none (arF f)] }
theorem in_loop (f : Nat → Int) (b : Bool) (k : Nat) (hk : k ≤ 18 ∧ okA f ((List.range 18).drop k) = b) :
    Sat Pg none 0 (at' 35 [1, 0, 1, 0]) (mkSt g0 18 (inS f k)) (outsP g0 18 [(b = true, .exit 0, arE), (b = false, .ret, bE 2 false)]) := by
  refine loopC vE_ok mixed sp0_ok (b := at' 35 [1, 0, 1, 0, 0]) (by kernel_rfl) (fun k => k ≤ 18 ∧ okA f ((List.range 18).drop k) = b) (inS f) (fun k => 18 - k) (fun k hk => ?_) k hk
  obtain ⟨hk, hb⟩ := hk
  by_cases hlt : k < 18
  · rw [okA_drop f hlt] at hb
    have hx := @place41 0 k hlt
    have hh := @head_ar f k hlt
    by_cases h1 : f k < -2000
    · rw [decide_eq_false (show ¬ -2000 ≤ f k by omega)] at hb
      refine .inr ⟨.ret, [], bE 2 false, [yes 5, va 9 (.ptr 0 k), ld 10 (i6 (f k)), yes 11], 1000, .inr (.inl ⟨hb.symm, rfl, rfl⟩), ?_⟩
      refine Eq.mp (by kernel_rfl : (decide ((↑k : Int) < (18 : Int)) = true ∧ placeV (ctxOf Tryd.prog) 41 (V.ptr 0 0) (↑k : Int) = some (V.ptr 0 k) ∧ headF (dropF k (arF f)) = some (i6 (f k)) ∧ decide (f k < (-2000 : Int)) = true ∧ (false = false ∧ True) ∧ True) = _) ?_
      exact au
    · by_cases h2 : 2000 < f k
      · rw [decide_eq_false (show ¬ f k ≤ 2000 by omega), Bool.and_false] at hb
        refine .inr ⟨.ret, [], bE 2 false, [yes 5, va 9 (.ptr 0 k), ld 10 (i6 (f k)), no 11, va 14 (.ptr 0 k), ld 15 (i6 (f k)), yes 16], 1000, .inr (.inl ⟨hb.symm, rfl, rfl⟩), ?_⟩
        refine Eq.mp (by kernel_rfl : (decide ((↑k : Int) < (18 : Int)) = true ∧ placeV (ctxOf Tryd.prog) 41 (V.ptr 0 0) (↑k : Int) = some (V.ptr 0 k) ∧ headF (dropF k (arF f)) = some (i6 (f k)) ∧ decide (f k < (-2000 : Int)) = false ∧ placeV (ctxOf Tryd.prog) 41 (V.ptr 0 0) (↑k : Int) = some (V.ptr 0 k) ∧ headF (dropF k (arF f)) = some (i6 (f k)) ∧ decide (f k > (2000 : Int)) = true ∧ (false = false ∧ True) ∧ True) = _) ?_
        exact au
      · rw [decide_eq_true (show -2000 ≤ f k by omega), decide_eq_true (show f k ≤ 2000 by omega)] at hb
        refine .inl ⟨k + 1, [0], [yes 5, va 9 (.ptr 0 k), ld 10 (i6 (f k)), no 11, va 14 (.ptr 0 k), ld 15 (i6 (f k)), no 16, nu 7 (k + 1 : Nat)], 1000, ⟨hlt, hb⟩, by omega, ?_⟩
        refine Eq.mp (by kernel_rfl : (decide ((↑k : Int) < (18 : Int)) = true ∧ placeV (ctxOf Tryd.prog) 41 (V.ptr 0 0) (↑k : Int) = some (V.ptr 0 k) ∧ headF (dropF k (arF f)) = some (i6 (f k)) ∧ decide (f k < (-2000 : Int)) = false ∧ placeV (ctxOf Tryd.prog) 41 (V.ptr 0 0) (↑k : Int) = some (V.ptr 0 k) ∧ headF (dropF k (arF f)) = some (i6 (f k)) ∧ decide (f k > (2000 : Int)) = false ∧ wr IntKind.i64 ((↑k : Int) + (1 : Int)) = (↑(k + 1) : Int) ∧ (0 = 0 ∧ (↑(k + 1) : Int) = (↑(k + 1) : Int) ∧ True) ∧ (arF f = arF f ∧ True ∧ True ∧ True ∧ True ∧ True ∧ True ∧ True ∧ True ∧ True ∧ True ∧ True ∧ True ∧ True ∧ True ∧ True ∧ True ∧ True ∧ True ∧ True) ∧ True) = _) ?_
        exact au
  · have : k = 18 := by omega
    subst this
    refine .inr ⟨.exit 0, [], arE, [], 1000, .inl ⟨hb.symm, rfl, rfl⟩, ?_⟩
    refine Eq.mp (by kernel_rfl : (True ∧ True) = _) ?_
    exact au
theorem in_fn (f : Nat → Int) : FnOk Pg g0 35 [ar f] (.bool (inA f)) := by
  have l := in_loop f (inA f) 0 ⟨Nat.zero_le _, rfl⟩
  refine FnOk.of_vc vE_ok mixed sp0_ok (n := 1000) (r := []) (S := bE 2 (inA f)) (hs := [(0, .loop [0] (inS f 0) [(inA f = true, .exit 0, arE), (inA f = false, .ret, bE 2 false)])]) ?_
  refine Eq.mp (by kernel_rfl : (V.bool (inA f) = V.bool (inA f) ∧ ((0 = 0 ∧ (↑(0 : Nat) : Int) = (0 : Int) ∧ True) ∧ (arF f = [i6 (f 0), i6 (f 1), i6 (f 2), i6 (f 3), i6 (f 4), i6 (f 5), i6 (f 6), i6 (f 7), i6 (f 8), i6 (f 9), i6 (f 10), i6 (f 11), i6 (f 12), i6 (f 13), i6 (f 14), i6 (f 15), i6 (f 16), i6 (f 17)] ∧ True ∧ True ∧ True ∧ True ∧ True ∧ True ∧ True ∧ True ∧ True ∧ True ∧ True ∧ True ∧ True ∧ True ∧ True ∧ True ∧ True ∧ True ∧ True) ∧ True) ∧ Sat Tryd.prog none 0 (at' 35 [1, 0, 1, 0]) (mkSt g0 18 (inS f 0)) (outsP g0 18 [(inA f = true, Ex.exit 0, arE), (inA f = false, Ex.ret, bE 2 false)]) ∧ (inA f = true → (inA f = true ∧ True) ∧ True) ∧ (inA f = false → (inA f = false ∧ True) ∧ True) ∧ True) = _) ?_
  exact au

end Go.Proofs.YtglpoiaedkoecaaDoor.Am
