/- Chapter 04: tables, math/bits.Mul64, sums and products that are cut. -/
import Derived.Test.YtgdnmgcigkhojaaV0
import Derived.Lib.Mul64
namespace Go.Proofs.Ytgdnmgcigkhojaa.Am
open Go.RowKit
set_option linter.unusedVariables false
set_option maxHeartbeats 1000000
set_option maxRecDepth 100000

noncomputable abbrev Pg : Program := Try.prog
abbrev g0 : T (List V) := .e
abbrev u6 (n : Int) : V := .int .u64 n

/-! ### Mul64 -/
theorem wru {z : Nat} (h : z < 18446744073709551616) : wr .u64 ((z : Nat) : Int) = (z : Int) := wr_in (by simp [lo]) (by simp [hi]; omega)
theorem wru_mod (z : Nat) : wr .u64 ((z : Nat) : Int) = ((z % 18446744073709551616 : Nat) : Int) := by
  rw [wr_eq, IntKind.wrap_u64]; omega
theorem and32_u {G : Ctx} {t : Nat} {x : Nat} : binV G .and t (u6 (x : Int)) (u6 4294967295) = some (u6 ((x % 4294967296 : Nat) : Int)) := by
  have h : (BitVec.ofInt 64 (x : Int) &&& BitVec.ofInt 64 4294967295).toNat = x % 4294967296 := by
    rw [BitVec.toNat_and]
    have h1 : (BitVec.ofInt 64 4294967295).toNat = 2 ^ 32 - 1 := by decide
    rw [h1, Nat.and_two_pow_sub_one_eq_mod]
    have h2 : (BitVec.ofInt 64 (x : Int)).toNat = x % 2 ^ 64 := by
      rw [BitVec.toNat_ofInt]; omega
    rw [h2]; omega
  have hw : IntKind.u64.wrap ((x % 4294967296 : Nat) : Int) = ((x % 4294967296 : Nat) : Int) := by
    rw [← wr_eq]; exact wru (by omega)
  have e : binV G .and t (u6 (x : Int)) (u6 4294967295) = some (.int .u64 (IntKind.u64.wrap ((BitVec.ofInt 64 (x : Int) &&& BitVec.ofInt 64 4294967295).toNat : Int))) := rfl
  rw [e, h, hw]
theorem shr32_u {G : Ctx} {t : Nat} {x : Nat} : binV G .shr t (u6 (x : Int)) (u6 32) = some (u6 ((x / 4294967296 : Nat) : Int)) := by
  have h1 : ((32 : Int) < 0) = False := by simp
  have h2 : 2 ^ min (Int.toNat 32) IntKind.u64.bits = 4294967296 := by decide
  simp only [binV, intV, h1, if_false, h2]
  rw [Int.fdiv_eq_ediv_of_nonneg _ (by omega)]
  rfl
theorem wru' {n : Int} {z : Nat} (e : n = (z : Int)) (h : z < 18446744073709551616) : wr .u64 n = (z : Int) := by rw [e]; exact wru h
abbrev mulV (x y : Nat) : V := .tup [u6 ((x * y / 18446744073709551616 : Nat) : Int), u6 ((x * y % 18446744073709551616 : Nat) : Int)]
theorem mul64_fn (x y : Nat) (hx : x < 18446744073709551616) (hy : y < 18446744073709551616) : FnOk Pg g0 76 [u6 x, u6 y] (mulV x y) := by
  show FnOk Pg g0 76 [u6 x, u6 y] (.tup [u6 ((x * y / 18446744073709551616 : Nat) : Int), u6 ((x * y % 18446744073709551616 : Nat) : Int)])
  obtain ⟨h1, h2, h3, h4⟩ := Go.Lib.mul64_hi x y hx hy
  have x1 := @and32_u (ctxOf Pg) 112 x
  have y1 := @and32_u (ctxOf Pg) 112 y
  have x2 := @shr32_u (ctxOf Pg) 112 x
  have y2 := @shr32_u (ctxOf Pg) 112 y
  have hlo := wru_mod (x * y)
  have hbh : x * y / 18446744073709551616 < 18446744073709551616 := by
    rw [Nat.div_lt_iff_lt_mul (by omega)]
    have := Nat.mul_le_mul (show x ≤ 18446744073709551615 by omega) (show y ≤ 18446744073709551615 by omega)
    omega
  generalize x * y / 18446744073709551616 = H at *
  have e0 : ((x * y : Nat) : Int) = (x : Int) * (y : Int) := Int.natCast_mul x y
  rw [e0] at hlo
  generalize x * y % 18446744073709551616 = L at *
  have ha0 : x % 4294967296 < 4294967296 := Nat.mod_lt _ (by omega)
  have hb0 : y % 4294967296 < 4294967296 := Nat.mod_lt _ (by omega)
  have ha1 : x / 4294967296 < 4294967296 := by omega
  have hb1 : y / 4294967296 < 4294967296 := by omega
  generalize x % 4294967296 = a0 at *
  generalize x / 4294967296 = a1 at *
  generalize y % 4294967296 = b0 at *
  generalize y / 4294967296 = b1 at *
  have m00 : (a0 : Int) * (b0 : Int) = ((a0 * b0 : Nat) : Int) := (Int.natCast_mul a0 b0).symm
  have m10 : (a1 : Int) * (b0 : Int) = ((a1 * b0 : Nat) : Int) := (Int.natCast_mul a1 b0).symm
  have m01 : (a0 : Int) * (b1 : Int) = ((a0 * b1 : Nat) : Int) := (Int.natCast_mul a0 b1).symm
  have m11 : (a1 : Int) * (b1 : Int) = ((a1 * b1 : Nat) : Int) := (Int.natCast_mul a1 b1).symm
  have l00 := Go.Lib.half_mul_le (a := a0) (b := b0) (by omega) (by omega)
  have l10 := Go.Lib.half_mul_le (a := a1) (b := b0) (by omega) (by omega)
  have l01 := Go.Lib.half_mul_le (a := a0) (b := b1) (by omega) (by omega)
  have l11 := Go.Lib.half_mul_le (a := a1) (b := b1) (by omega) (by omega)
  generalize a0 * b0 = p at *
  generalize a1 * b0 = q at *
  generalize a0 * b1 = u at *
  generalize a1 * b1 = v at *
  have s1 := @shr32_u (ctxOf Pg) 112 p
  obtain ⟨t, ht⟩ : ∃ t, t = q + p / 4294967296 := ⟨_, rfl⟩
  have s2 := @and32_u (ctxOf Pg) 112 t
  have s3 := @shr32_u (ctxOf Pg) 112 t
  obtain ⟨w1, hw1⟩ : ∃ w1, w1 = t % 4294967296 + u := ⟨_, rfl⟩
  have s4 := @shr32_u (ctxOf Pg) 112 w1
  refine FnOk.of_vc vE_ok mixed sp0_ok (n := 1000) (r := []) (S := { sl := [(4, u6 (H : Int)), (5, u6 (L : Int))] }) (hs := [va 15 (u6 (a0 : Int)), va 17 (u6 (a1 : Int)), va 19 (u6 (b0 : Int)), va 21 (u6 (b1 : Int)), nu 24 (p : Int), nu 27 (q : Int), va 29 (u6 ((p / 4294967296 : Nat) : Int)), nu 30 (t : Int), va 32 (u6 ((t % 4294967296 : Nat) : Int)), va 34 (u6 ((t / 4294967296 : Nat) : Int)), nu 38 (u : Int), nu 39 (w1 : Int), nu 42 (v : Int), nu 44 ((v + t / 4294967296 : Nat) : Int), va 46 (u6 ((w1 / 4294967296 : Nat) : Int)), nu 47 (H : Int), nu 50 (L : Int)]) ?_
  refine Eq.mp (by kernel_rfl : (V.tup [u6 (↑H : Int), u6 (↑L : Int)] = V.tup [u6 (↑H : Int), u6 (↑L : Int)] ∧ binV (ctxOf Try.prog) BinOp.and 112 (u6 (↑x : Int)) (V.int IntKind.u64 (4294967295 : Int)) = some (u6 (↑a0 : Int)) ∧ binV (ctxOf Try.prog) BinOp.shr 112 (u6 (↑x : Int)) (V.int IntKind.u64 (32 : Int)) = some (u6 (↑a1 : Int)) ∧ binV (ctxOf Try.prog) BinOp.and 112 (u6 (↑y : Int)) (V.int IntKind.u64 (4294967295 : Int)) = some (u6 (↑b0 : Int)) ∧ binV (ctxOf Try.prog) BinOp.shr 112 (u6 (↑y : Int)) (V.int IntKind.u64 (32 : Int)) = some (u6 (↑b1 : Int)) ∧ wr IntKind.u64 ((↑a0 : Int) * (↑b0 : Int)) = (↑p : Int) ∧ wr IntKind.u64 ((↑a1 : Int) * (↑b0 : Int)) = (↑q : Int) ∧ binV (ctxOf Try.prog) BinOp.shr 112 (V.int IntKind.u64 (↑p : Int)) (V.int IntKind.u64 (32 : Int)) = some (u6 (↑(p / 4294967296) : Int)) ∧ wr IntKind.u64 ((↑q : Int) + (↑(p / 4294967296) : Int)) = (↑t : Int) ∧ binV (ctxOf Try.prog) BinOp.and 112 (V.int IntKind.u64 (↑t : Int)) (V.int IntKind.u64 (4294967295 : Int)) = some (u6 (↑(t % 4294967296) : Int)) ∧ binV (ctxOf Try.prog) BinOp.shr 112 (V.int IntKind.u64 (↑t : Int)) (V.int IntKind.u64 (32 : Int)) = some (u6 (↑(t / 4294967296) : Int)) ∧ wr IntKind.u64 ((↑a0 : Int) * (↑b1 : Int)) = (↑u : Int) ∧ wr IntKind.u64 ((↑(t % 4294967296) : Int) + (↑u : Int)) = (↑w1 : Int) ∧ wr IntKind.u64 ((↑a1 : Int) * (↑b1 : Int)) = (↑v : Int) ∧ wr IntKind.u64 ((↑v : Int) + (↑(t / 4294967296) : Int)) = (↑(v + t / 4294967296) : Int) ∧ binV (ctxOf Try.prog) BinOp.shr 112 (V.int IntKind.u64 (↑w1 : Int)) (V.int IntKind.u64 (32 : Int)) = some (u6 (↑(w1 / 4294967296) : Int)) ∧ wr IntKind.u64 ((↑(v + t / 4294967296) : Int) + (↑(w1 / 4294967296) : Int)) = (↑H : Int) ∧ wr IntKind.u64 ((↑x : Int) * (↑y : Int)) = (↑L : Int) ∧ ((↑H : Int) = (↑H : Int) ∧ (↑L : Int) = (↑L : Int) ∧ True) ∧ True) = _) ?_
  (repeat' (first | (with_reducible apply And.intro) | (refine fun (_ : True) => ?_)))
  all_goals first | assumption | rfl | trivial | exact wru' (by omega) (by omega) | (rw [m00]; exact wru (by omega)) | (rw [m10]; exact wru (by omega)) | (rw [m01]; exact wru (by omega)) | (rw [m11]; exact wru (by omega)) | skip

/-! ### plain -/
/-- more than all numbers -/
def big : Int := 4611686018427387904
def addI (a b : Int) : Int := if big ≤ a + b then big else a + b
def mulI (a b : Int) : Int := if big ≤ a * b then big else a * b
abbrev el (a b : Int) : V := .agg [i6 a, i6 b]
theorem conv6 {n : Int} (h1 : 0 ≤ n) (h2 : n ≤ 4611686018427387904) : wr .u64 n = n := wr_in (by simp [lo]; omega) (by simp [hi]; omega)
theorem conv6' {n : Int} (h1 : 0 ≤ n) (h2 : n ≤ 4611686018427387904) : wr .i64 n = n := wr6 (by omega) (by omega)
theorem addI_bd {a b : Int} (h1 : 0 ≤ a) (h2 : 0 ≤ b) : 0 ≤ addI a b ∧ addI a b ≤ big := by
  unfold addI big; split <;> omega
theorem mulI_bd {a b : Int} (h1 : 0 ≤ a) (h2 : 0 ≤ b) : 0 ≤ mulI a b ∧ mulI a b ≤ big := by
  have := Int.mul_nonneg h1 h2
  unfold mulI big; split <;> omega

/-! ### semi.add, ref04.sum, ref04.cut -/
theorem add_fn (a b : Int) (h1 : 0 ≤ a) (h2 : a ≤ 4611686018427387904) (h3 : 0 ≤ b) (h4 : b ≤ 4611686018427387904) : FnOk Pg g0 58 [i6 a, i6 b] (i6 (addI a b)) := by
  obtain ⟨r, hr⟩ : ∃ r, r = addI a b := ⟨_, rfl⟩
  rw [← hr]
  unfold addI big at hr
  by_cases h : a + b ≤ 4611686018427387903
  · rw [if_neg (by omega)] at hr
    refine FnOk.of_vc vE_ok mixed sp0_ok (n := 1000) (r := []) (S := { sl := [(4, i6 r)] }) (hs := [nu 7 (4611686018427387903 - b), no 8, nu 11 r]) ?_
    refine Eq.mp (by kernel_rfl : (i6 r = i6 r ∧ wr IntKind.i64 ((4611686018427387903 : Int) - b) = (4611686018427387903 : Int) - b ∧ decide (a > (4611686018427387903 : Int) - b) = false ∧ wr IntKind.i64 (a + b) = r ∧ (r = r ∧ True) ∧ True) = _) ?_
    (repeat' (first | (with_reducible apply And.intro) | (refine fun (_ : True) => ?_))) <;> first | exact aq | skip
  · rw [if_pos (by omega)] at hr
    subst hr
    refine FnOk.of_vc vE_ok mixed sp0_ok (n := 1000) (r := []) (S := { sl := [(4, i6 4611686018427387904)] }) (hs := [nu 7 (4611686018427387903 - b), yes 8]) ?_
    refine Eq.mp (by kernel_rfl : (i6 (4611686018427387904 : Int) = i6 (4611686018427387904 : Int) ∧ wr IntKind.i64 ((4611686018427387903 : Int) - b) = (4611686018427387903 : Int) - b ∧ decide (a > (4611686018427387903 : Int) - b) = true ∧ ((4611686018427387904 : Int) = (4611686018427387904 : Int) ∧ True) ∧ True) = _) ?_
    (repeat' (first | (with_reducible apply And.intro) | (refine fun (_ : True) => ?_))) <;> first | exact aq | skip
theorem cut_fn (a : Int) : FnOk Pg g0 75 [i6 a] (i6 (if 4611686018427387904 < a then 4611686018427387904 else a)) := by
  refine FnOk.of_vc vE_ok mixed sp0_ok (n := 1000) (r := []) (S := { sl := [(2, i6 (if 4611686018427387904 < a then 4611686018427387904 else a))] }) (hs := []) ?_
  refine Eq.mp (by kernel_rfl : (i6 (if (4611686018427387904 : Int) < a then (4611686018427387904 : Int) else a) = i6 (if (4611686018427387904 : Int) < a then (4611686018427387904 : Int) else a) ∧ (((if (4611686018427387904 : Int) < a then (4611686018427387904 : Int) else a) = if (4611686018427387904 : Int) < a then (4611686018427387904 : Int) else a) ∧ True) ∧ True) = _) ?_
  (repeat' (first | (with_reducible apply And.intro) | (refine fun (_ : True) => ?_))) <;> first | exact aq | skip
theorem sum_fn (a b : Int) (h1 : 0 ≤ a) (h2 : a ≤ 4611686018427387904) (h3 : 0 ≤ b) (h4 : b ≤ 4611686018427387904) : FnOk Pg g0 53 [i6 a, i6 b] (i6 (addI a b)) := by
  have hc := cut_fn (a + b)
  obtain ⟨r, hr⟩ : ∃ r, r = addI a b := ⟨_, rfl⟩
  rw [← hr]
  unfold addI big at hr
  rw [show (if (4611686018427387904 : Int) < a + b then (4611686018427387904 : Int) else a + b) = r by rw [hr]; split <;> split <;> omega] at hc
  by_cases h5 : 4611686018427387903 < a
  · rw [if_pos (by omega)] at hr
    subst hr
    refine FnOk.of_vc vE_ok mixed sp0_ok (n := 1000) (r := []) (S := { sl := [(4, i6 4611686018427387904)] }) (hs := [yes 6]) ?_
    refine Eq.mp (by kernel_rfl : (i6 (4611686018427387904 : Int) = i6 (4611686018427387904 : Int) ∧ decide (a > (4611686018427387903 : Int)) = true ∧ ((4611686018427387904 : Int) = (4611686018427387904 : Int) ∧ True) ∧ True) = _) ?_
    (repeat' (first | (with_reducible apply And.intro) | (refine fun (_ : True) => ?_))) <;> first | exact aq | skip
  · by_cases h6 : 4611686018427387903 < b
    · rw [if_pos (by omega)] at hr
      subst hr
      refine FnOk.of_vc vE_ok mixed sp0_ok (n := 1000) (r := []) (S := { sl := [(4, i6 4611686018427387904)] }) (hs := [no 6, yes 9]) ?_
      refine Eq.mp (by kernel_rfl : (i6 (4611686018427387904 : Int) = i6 (4611686018427387904 : Int) ∧ decide (a > (4611686018427387903 : Int)) = false ∧ decide (b > (4611686018427387903 : Int)) = true ∧ ((4611686018427387904 : Int) = (4611686018427387904 : Int) ∧ True) ∧ True) = _) ?_
      (repeat' (first | (with_reducible apply And.intro) | (refine fun (_ : True) => ?_))) <;> first | exact aq | skip
    · clear hr
      refine FnOk.of_vc vE_ok mixed sp0_ok (n := 1000) (r := []) (S := { sl := [(4, i6 r)] }) (hs := [no 6, no 9, nu 13 (a + b), fn 14 (i6 r)]) ?_
      refine Eq.mp (by kernel_rfl : (i6 r = i6 r ∧ decide (a > (4611686018427387903 : Int)) = false ∧ decide (b > (4611686018427387903 : Int)) = false ∧ wr IntKind.i64 (a + b) = a + b ∧ (True ∧ True) ∧ FnOk Try.prog g0 75 [V.int IntKind.i64 (a + b)] (i6 r) ∧ True ∧ (r = r ∧ True) ∧ True) = _) ?_
      (repeat' (first | (with_reducible apply And.intro) | (refine fun (_ : True) => ?_))) <;> first | exact aq | skip

/-! ### semi.mul, ref04.product -/
theorem mul_split (x y : Nat) : (x * y / 18446744073709551616 = 0 ∧ x * y % 18446744073709551616 ≤ 4611686018427387903 ∧ mulI x y = ((x * y % 18446744073709551616 : Nat) : Int)) ∨ (0 < x * y / 18446744073709551616 ∨ x * y / 18446744073709551616 = 0 ∧ 4611686018427387903 < x * y % 18446744073709551616) ∧ mulI x y = 4611686018427387904 := by
  unfold mulI big
  rw [← Int.natCast_mul]
  generalize x * y = z
  by_cases h : z ≤ 4611686018427387903
  · left
    rw [if_neg (by omega)]
    omega
  · right
    rw [if_pos (by omega)]
    omega
theorem mul_fn (a b : Int) (h1 : 0 ≤ a) (h2 : a ≤ 4611686018427387904) (h3 : 0 ≤ b) (h4 : b ≤ 4611686018427387904) : FnOk Pg g0 69 [i6 a, i6 b] (i6 (mulI a b)) := by
  obtain ⟨x, rfl⟩ : ∃ k : Nat, a = k := ⟨a.toNat, by omega⟩
  obtain ⟨y, rfl⟩ : ∃ k : Nat, b = k := ⟨b.toNat, by omega⟩
  have hm : FnOk Pg g0 76 [u6 x, u6 y] (.tup [u6 ((x * y / 18446744073709551616 : Nat) : Int), u6 ((x * y % 18446744073709551616 : Nat) : Int)]) := mul64_fn x y (by omega) (by omega)
  have c1 := conv6 h1 h2
  have c2 := conv6 h3 h4
  have hs := mul_split x y
  have hz : x * y % 18446744073709551616 < 18446744073709551616 := Nat.mod_lt _ (by omega)
  generalize mulI (x : Int) (y : Int) = r at *
  generalize x * y / 18446744073709551616 = H at *
  generalize x * y % 18446744073709551616 = L at *
  rcases hs with ⟨e1, e2, rfl⟩ | ⟨e1 | ⟨e1, e2⟩, rfl⟩
  · subst e1
    refine FnOk.of_vc vE_ok mixed sp0_ok (n := 1000) (r := []) (S := { sl := [(4, i6 (L : Int))] }) (hs := [nu 9 (x : Int), nu 11 (y : Int), fn 12 (.tup [u6 ((0 : Nat) : Int), u6 (L : Int)]), no 16, no 19, nu 22 (L : Int)]) ?_
    refine Eq.mp (by kernel_rfl : (i6 (↑L : Int) = i6 (↑L : Int) ∧ wr IntKind.u64 (↑x : Int) = (↑x : Int) ∧ wr IntKind.u64 (↑y : Int) = (↑y : Int) ∧ (True ∧ True ∧ True) ∧ FnOk Try.prog g0 76 [V.int IntKind.u64 (↑x : Int), V.int IntKind.u64 (↑y : Int)] (V.tup [u6 (↑(0 : Nat) : Int), u6 (↑L : Int)]) ∧ True ∧ ((↑(0 : Nat) : Int) != (0 : Int)) = false ∧ decide ((↑L : Int) > (4611686018427387903 : Int)) = false ∧ wr IntKind.i64 (↑L : Int) = (↑L : Int) ∧ ((↑L : Int) = (↑L : Int) ∧ True) ∧ True) = _) ?_
    (repeat' (first | (with_reducible apply And.intro) | (refine fun (_ : True) => ?_))) <;> first | exact aq | skip
  · refine FnOk.of_vc vE_ok mixed sp0_ok (n := 1000) (r := []) (S := { sl := [(4, i6 4611686018427387904)] }) (hs := [nu 9 (x : Int), nu 11 (y : Int), fn 12 (.tup [u6 (H : Int), u6 (L : Int)]), yes 16]) ?_
    refine Eq.mp (by kernel_rfl : (i6 (4611686018427387904 : Int) = i6 (4611686018427387904 : Int) ∧ wr IntKind.u64 (↑x : Int) = (↑x : Int) ∧ wr IntKind.u64 (↑y : Int) = (↑y : Int) ∧ (True ∧ True ∧ True) ∧ FnOk Try.prog g0 76 [V.int IntKind.u64 (↑x : Int), V.int IntKind.u64 (↑y : Int)] (V.tup [u6 (↑H : Int), u6 (↑L : Int)]) ∧ True ∧ ((↑H : Int) != (0 : Int)) = true ∧ ((4611686018427387904 : Int) = (4611686018427387904 : Int) ∧ True) ∧ True) = _) ?_
    (repeat' (first | (with_reducible apply And.intro) | (refine fun (_ : True) => ?_))) <;> first | exact aq | skip
  · subst e1
    refine FnOk.of_vc vE_ok mixed sp0_ok (n := 1000) (r := []) (S := { sl := [(4, i6 4611686018427387904)] }) (hs := [nu 9 (x : Int), nu 11 (y : Int), fn 12 (.tup [u6 ((0 : Nat) : Int), u6 (L : Int)]), no 16, yes 19]) ?_
    refine Eq.mp (by kernel_rfl : (i6 (4611686018427387904 : Int) = i6 (4611686018427387904 : Int) ∧ wr IntKind.u64 (↑x : Int) = (↑x : Int) ∧ wr IntKind.u64 (↑y : Int) = (↑y : Int) ∧ (True ∧ True ∧ True) ∧ FnOk Try.prog g0 76 [V.int IntKind.u64 (↑x : Int), V.int IntKind.u64 (↑y : Int)] (V.tup [u6 (↑(0 : Nat) : Int), u6 (↑L : Int)]) ∧ True ∧ ((↑(0 : Nat) : Int) != (0 : Int)) = false ∧ decide ((↑L : Int) > (4611686018427387903 : Int)) = true ∧ ((4611686018427387904 : Int) = (4611686018427387904 : Int) ∧ True) ∧ True) = _) ?_
    (repeat' (first | (with_reducible apply And.intro) | (refine fun (_ : True) => ?_))) <;> first | exact aq | skip
theorem product_fn (a b : Int) (h1 : 0 ≤ a) (h2 : a ≤ 4611686018427387904) (h3 : 0 ≤ b) (h4 : b ≤ 4611686018427387904) : FnOk Pg g0 54 [i6 a, i6 b] (i6 (mulI a b)) := by
  obtain ⟨x, rfl⟩ : ∃ k : Nat, a = k := ⟨a.toNat, by omega⟩
  obtain ⟨y, rfl⟩ : ∃ k : Nat, b = k := ⟨b.toNat, by omega⟩
  have hm : FnOk Pg g0 76 [u6 x, u6 y] (.tup [u6 ((x * y / 18446744073709551616 : Nat) : Int), u6 ((x * y % 18446744073709551616 : Nat) : Int)]) := mul64_fn x y (by omega) (by omega)
  have c1 := conv6 h1 h2
  have c2 := conv6 h3 h4
  have hs := mul_split x y
  have hz : x * y % 18446744073709551616 < 18446744073709551616 := Nat.mod_lt _ (by omega)
  generalize mulI (x : Int) (y : Int) = r at *
  generalize x * y / 18446744073709551616 = H at *
  generalize x * y % 18446744073709551616 = L at *
  rcases hs with ⟨e1, e2, rfl⟩ | ⟨e1 | ⟨e1, e2⟩, rfl⟩
  · subst e1
    refine FnOk.of_vc vE_ok mixed sp0_ok (n := 1000) (r := []) (S := { sl := [(4, i6 (L : Int))] }) (hs := [nu 9 (x : Int), nu 11 (y : Int), fn 12 (.tup [u6 ((0 : Nat) : Int), u6 (L : Int)]), no 16, no 19, nu 22 (L : Int)]) ?_
    refine Eq.mp (by kernel_rfl : (i6 (↑L : Int) = i6 (↑L : Int) ∧ wr IntKind.u64 (↑x : Int) = (↑x : Int) ∧ wr IntKind.u64 (↑y : Int) = (↑y : Int) ∧ (True ∧ True ∧ True) ∧ FnOk Try.prog g0 76 [V.int IntKind.u64 (↑x : Int), V.int IntKind.u64 (↑y : Int)] (V.tup [u6 (↑(0 : Nat) : Int), u6 (↑L : Int)]) ∧ True ∧ decide ((↑(0 : Nat) : Int) > (0 : Int)) = false ∧ decide ((↑L : Int) > (4611686018427387903 : Int)) = false ∧ wr IntKind.i64 (↑L : Int) = (↑L : Int) ∧ ((↑L : Int) = (↑L : Int) ∧ True) ∧ True) = _) ?_
    (repeat' (first | (with_reducible apply And.intro) | (refine fun (_ : True) => ?_))) <;> first | exact aq | skip
  · refine FnOk.of_vc vE_ok mixed sp0_ok (n := 1000) (r := []) (S := { sl := [(4, i6 4611686018427387904)] }) (hs := [nu 9 (x : Int), nu 11 (y : Int), fn 12 (.tup [u6 (H : Int), u6 (L : Int)]), yes 16]) ?_
    refine Eq.mp (by kernel_rfl : (i6 (4611686018427387904 : Int) = i6 (4611686018427387904 : Int) ∧ wr IntKind.u64 (↑x : Int) = (↑x : Int) ∧ wr IntKind.u64 (↑y : Int) = (↑y : Int) ∧ (True ∧ True ∧ True) ∧ FnOk Try.prog g0 76 [V.int IntKind.u64 (↑x : Int), V.int IntKind.u64 (↑y : Int)] (V.tup [u6 (↑H : Int), u6 (↑L : Int)]) ∧ True ∧ decide ((↑H : Int) > (0 : Int)) = true ∧ ((4611686018427387904 : Int) = (4611686018427387904 : Int) ∧ True) ∧ True) = _) ?_
    (repeat' (first | (with_reducible apply And.intro) | (refine fun (_ : True) => ?_))) <;> first | exact aq | skip
  · subst e1
    refine FnOk.of_vc vE_ok mixed sp0_ok (n := 1000) (r := []) (S := { sl := [(4, i6 4611686018427387904)] }) (hs := [nu 9 (x : Int), nu 11 (y : Int), fn 12 (.tup [u6 ((0 : Nat) : Int), u6 (L : Int)]), no 16, yes 19]) ?_
    refine Eq.mp (by kernel_rfl : (i6 (4611686018427387904 : Int) = i6 (4611686018427387904 : Int) ∧ wr IntKind.u64 (↑x : Int) = (↑x : Int) ∧ wr IntKind.u64 (↑y : Int) = (↑y : Int) ∧ (True ∧ True ∧ True) ∧ FnOk Try.prog g0 76 [V.int IntKind.u64 (↑x : Int), V.int IntKind.u64 (↑y : Int)] (V.tup [u6 (↑(0 : Nat) : Int), u6 (↑L : Int)]) ∧ True ∧ decide ((↑(0 : Nat) : Int) > (0 : Int)) = false ∧ decide ((↑L : Int) > (4611686018427387903 : Int)) = true ∧ ((4611686018427387904 : Int) = (4611686018427387904 : Int) ∧ True) ∧ True) = _) ?_
    (repeat' (first | (with_reducible apply And.intro) | (refine fun (_ : True) => ?_))) <;> first | exact aq | skip
end Go.Proofs.Ytgdnmgcigkhojaa.Am
