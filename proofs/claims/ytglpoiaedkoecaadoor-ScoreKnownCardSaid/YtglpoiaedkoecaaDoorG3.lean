/- score.above: the product of the primes to their powers, as a long number. -/
import Derived.Test.YtglpoiaedkoecaaDoorG2
namespace Go.Proofs.YtglpoiaedkoecaaDoor.Am
open Go.RowKit
set_option linter.unusedVariables false
set_option maxHeartbeats 1000000
set_option maxRecDepth 100000

/-! ### what happens, as functions: the word, whether number has grown, number -/
def stepQ (p w : Nat) (md : Bool) (ws : List Nat) : Nat × Bool × List Nat := if 144115188075855872 < w then (p, md || decide ((mulS w ws ws.length).2 ≠ 0), mulW w ws) else (w * p, md, ws)
def itQ (p : Nat) : Nat → Nat × Bool × List Nat → Nat × Bool × List Nat
  | 0, s => s
  | t + 1, s => stepQ p (itQ p t s).1 (itQ p t s).2.1 (itQ p t s).2.2
def outQ (e : Nat → Nat) : Nat → Nat × Bool × List Nat
  | 0 => (1, false, [1])
  | i + 1 => itQ (primeN i) (e i) (outQ e i)
structure QOk (e : Nat → Nat) (i t : Nat) (s : Nat × Bool × List Nat) : Prop where
  norm : Norm s.2.2
  val : valW s.2.2 * s.1 = prodP e i * primeN i ^ t
  w1 : 1 ≤ s.1
  wb : s.1 ≤ 8791026472627208192
  len : s.2.2.length ≤ 1 + 4000 * i + t
  one : s.2.1 = false → s.2.2.length = 1
theorem mulW_len0 {w : Nat} {l : List Nat} (h : (mulS w l l.length).2 = 0) : (mulW w l).length = l.length := by
  unfold mulW; rw [if_pos h, mulS_len]
theorem QOk.step {e : Nat → Nat} {i t : Nat} {s : Nat × Bool × List Nat} (h : QOk e i t s) : QOk e i (t + 1) (stepQ (primeN i) s.1 s.2.1 s.2.2) := by
  obtain ⟨w, md, ws⟩ := s
  have hp := primeN_bd i
  have hv := h.val
  have hw := h.w1
  have hb := h.wb
  have hl := h.len
  dsimp only at hv hw hb hl
  unfold stepQ
  dsimp only
  by_cases hc : 144115188075855872 < w
  · rw [if_pos hc]
    obtain ⟨m1, m2, m3⟩ := mulW_ok h.norm (w := w) (by omega) hw
    dsimp only at m1 m2 m3
    refine ⟨m1, ?_, by dsimp only; omega, by dsimp only; omega, by dsimp only; omega, fun ho => ?_⟩
    · dsimp only
      rw [m2, Nat.mul_comm w, hv, Nat.pow_succ, Nat.mul_assoc]
    · dsimp only at ho ⊢
      rw [Bool.or_eq_false_iff] at ho
      have h0 : (mulS w ws ws.length).2 = 0 := by
        have := of_decide_eq_false ho.2
        omega
      rw [mulW_len0 h0]
      exact h.one ho.1
  · rw [if_neg hc]
    have hle : w * primeN i ≤ 144115188075855872 * 61 := Nat.mul_le_mul (by omega) hp.2
    refine ⟨h.norm, ?_, Nat.mul_pos (by omega) (by omega), by dsimp only; omega, by dsimp only; omega, h.one⟩
    dsimp only
    rw [← Nat.mul_assoc, hv, Nat.pow_succ, Nat.mul_assoc]
theorem QOk.it {e : Nat → Nat} {i : Nat} {s : Nat × Bool × List Nat} (h : QOk e i 0 s) : ∀ t, QOk e i t (itQ (primeN i) t s)
  | 0 => h
  | t + 1 => (QOk.it h t).step
theorem QOk.next {e : Nat → Nat} {i : Nat} {s : Nat × Bool × List Nat} (he : e i ≤ 4000) (h : QOk e i (e i) s) : QOk e (i + 1) 0 s := by
  refine ⟨h.norm, ?_, h.w1, h.wb, ?_, h.one⟩
  · rw [h.val, prodP, Nat.pow_zero, Nat.mul_one]
  · have := h.len; omega
theorem outQ_ok {e : Nat → Nat} (he : ∀ i, i < 18 → e i ≤ 4000) : ∀ i, i ≤ 18 → QOk e i 0 (outQ e i)
  | 0, _ => ⟨norm_one, by simp [outQ, valW, prodP], by simp [outQ], by simp [outQ], by simp [outQ], fun _ => rfl⟩
  | i + 1, h => ((outQ_ok he i (by omega)).it (e i)).next (he i (by omega))

/-! ### the walk -/
def bxV : Bool → Nat → V
  | false, _ => .sl 2 0 1 (some 0)
  | true, n => .sl 2 0 n none
def bxO : Bool → List Nat → O
  | false, l => .row 170 none (wt l)
  | true, l => .row 170 (some 1) (wt l)
theorem mulS_one (w x : Nat) : mulS w [x] 1 = ([x * w % 18446744073709551616], x * w / 18446744073709551616) := by simp [mulS]
theorem mulW_one0 {w x : Nat} (h : x * w / 18446744073709551616 = 0) : mulW w [x] = [x * w % 18446744073709551616] := by
  unfold mulW
  simp only [List.length_singleton, mulS_one]
  rw [if_pos h]
theorem mulW_one1 {w x : Nat} (h : x * w / 18446744073709551616 ≠ 0) : mulW w [x] = [x * w % 18446744073709551616, x * w / 18446744073709551616] := by
  unfold mulW
  simp only [List.length_singleton, mulS_one]
  rw [if_neg h]; rfl
abbrev aoL (f : Nat → Int) (md : Bool) (ws : List Nat) : List O := [.row 41 none (arF f), .row 162 none [bxV md ws.length], bxO md ws]
abbrev aiS (f : Nat → Int) (s : Int) (i e p : Nat) (q : Nat × Nat × Bool × List Nat) : SL := { sl := [(1, i6 s), (2, .ptr 0 0), (5, .ptr 1 0), (6, .fn 112 [.ptr 1 0]), (7, u6 q.2.1), (12, prV), (13, i6 i), (9, i6 p), (22, i6 e), (23, i6 q.1)], os := aoL f q.2.2.1 q.2.2.2, md := [0, 1, 0] }
abbrev aoS (f : Nat → Int) (s : Int) (i : Nat) (w : Nat) (md : Bool) (ws : List Nat) : SL := { sl := [(1, i6 s), (2, .ptr 0 0), (5, .ptr 1 0), (6, .fn 112 [.ptr 1 0]), (7, u6 w), (12, prV), (13, i6 i)], os := aoL f md ws, md := [0, 1, 0] }
theorem wtw {x p : Nat} (h : x * p < 18446744073709551616) : wr .u64 ((x : Int) * (p : Int)) = ((x * p : Nat) : Int) := wru' (by rw [Int.natCast_mul]) h

theorem av_in (f : Nat → Int) (s : Int) (E : Nat → Nat) (i e : Nat) (hi : i < 18) (he : e = E i) (he4 : e ≤ 4000) (s0 : Nat × Bool × List Nat) (h0 : QOk E i 0 s0) (w' : Nat) (md' : Bool) (ws' : List Nat) (hx : itQ (primeN i) e s0 = (w', md', ws')) (w0 : Nat) (md0 : Bool) (ws0 : List Nat) (hs0 : s0 = (w0, md0, ws0)) :
    Sat Pg none 0 (at' 93 [1, 1, 1, 1, 0, 1, 0, 0, 1, 1, 0, 0, 1, 1, 0]) (mkSt g0 40 (aiS f s i e (primeN i) (0, w0, md0, ws0))) (outsP g0 40 [(True, .exit 2, aoS f s i w' md' ws')]) := by
  refine loopC vN_ok mixed sp0_ok (b := at' 93 [1, 1, 1, 1, 0, 1, 0, 0, 1, 1, 0, 0, 1, 1, 0, 0]) (by kernel_rfl) (fun q => q.1 ≤ e ∧ q.2 = itQ (primeN i) q.1 s0) (aiS f s i e (primeN i)) (fun q => e - q.1) (fun q hq => ?_) (0, w0, md0, ws0) ⟨Nat.zero_le _, hs0.symm⟩
  obtain ⟨t, w, md, ws⟩ := q
  obtain ⟨ht, hq⟩ := hq
  dsimp only at ht hq
  have hok := h0.it t
  rw [← hq] at hok
  have hw1 := hok.w1
  have hwb := hok.wb
  have hlen := hok.len
  have hone := hok.one
  have hnorm := hok.norm
  dsimp only at hw1 hwb hlen hone hnorm
  have hp := primeN_bd i
  by_cases hlt : t < e
  · have hnx : itQ (primeN i) (t + 1) s0 = stepQ (primeN i) w md ws := by rw [itQ, ← hq]
    unfold stepQ at hnx
    generalize primeN i = p at *
    by_cases hc : 144115188075855872 < w
    · rw [if_pos hc] at hnx
      have h1p := wtw (x := 1) (p := p) (by omega)
      cases md with
      | false =>
        obtain ⟨x, rfl⟩ : ∃ x, ws = [x] := List.length_eq_one_iff.1 (hone rfl)
        have hxb : x < 18446744073709551616 := by simpa using hnorm.ok 0
        simp only [List.length_singleton, mulS_one, Bool.false_or] at hnx
        by_cases hc0 : x * w / 18446744073709551616 = 0
        · rw [mulW_one0 hc0, decide_eq_false (by omega)] at hnx
          have hcs := mul_one0 f x w hxb (by omega) _ rfl hc0
          generalize x * w % 18446744073709551616 = y at *
          refine .inl ⟨(t + 1, p, false, [y]), [0, 1, 2], [yes 24, yes 26, (29, .call ⟨.tup [], ofOs .e 0 (n1 f y), 3, [2]⟩), nu 32 (p : Nat), nu 33 ((1 * p : Nat) : Int), nu 34 (t + 1 : Nat)], 1000, ⟨hlt, hnx.symm⟩, by dsimp only; omega, ?_⟩
          clear hq hnx hok
          refine Eq.mp (by kernel_rfl : (decide ((↑t : Int) < (↑e : Int)) = true ∧ decide ((↑w : Int) > (144115188075855872 : Int)) = true ∧ CallSpec Tryd.prog g0 (V.fn 112 [V.ptr 1 0]) [u6 (↑w : Int)] (ofOs T.e 0 (aoL f false [x])) 3 (CR.mk (V.tup []) (ofOs T.e 0 (n1 f y)) 3 [2]) ∧ True ∧ wr IntKind.u64 (↑p : Int) = (↑p : Int) ∧ wr IntKind.u64 ((1 : Int) * (↑p : Int)) = (↑(1 * p) : Int) ∧ wr IntKind.i64 ((↑t : Int) + (1 : Int)) = (↑(t + 1) : Int) ∧ (s = s ∧ 0 = 0 ∧ 0 = 0 ∧ (0 = 0 ∧ True) ∧ (↑p : Int) = (↑(1 * p) : Int) ∧ ((2 : Int) = (2 : Int) ∧ (3 : Int) = (3 : Int) ∧ (5 : Int) = (5 : Int) ∧ (7 : Int) = (7 : Int) ∧ (11 : Int) = (11 : Int) ∧ (13 : Int) = (13 : Int) ∧ (17 : Int) = (17 : Int) ∧ (19 : Int) = (19 : Int) ∧ (23 : Int) = (23 : Int) ∧ (29 : Int) = (29 : Int) ∧ (31 : Int) = (31 : Int) ∧ (37 : Int) = (37 : Int) ∧ (41 : Int) = (41 : Int) ∧ (43 : Int) = (43 : Int) ∧ (47 : Int) = (47 : Int) ∧ (53 : Int) = (53 : Int) ∧ (59 : Int) = (59 : Int) ∧ (61 : Int) = (61 : Int) ∧ True) ∧ (↑i : Int) = (↑i : Int) ∧ (↑p : Int) = (↑p : Int) ∧ (↑e : Int) = (↑e : Int) ∧ (↑(t + 1) : Int) = (↑(t + 1) : Int) ∧ True) ∧ (arF f = arF f ∧ True ∧ True ∧ True ∧ True ∧ True ∧ True ∧ True ∧ True ∧ True ∧ True ∧ True ∧ True ∧ True ∧ True ∧ True ∧ True ∧ True ∧ True ∧ True) ∧ ((0 = 0 ∧ 1 = 1 ∧ 0 = 0) ∧ True) ∧ (wt [y] = [u6 (↑y : Int)] ∧ True ∧ True) ∧ True) = _) ?_
          (repeat' (first | (with_reducible apply And.intro) | (refine fun (_ : True) => ?_))) <;> first | exact aq | skip
          all_goals first | exact hcs | exact rfl | exact wru (by omega) | exact h1p | skip
        · rw [mulW_one1 hc0, decide_eq_true hc0] at hnx
          have hcs := mul_one1 f x w hxb (by omega) _ _ rfl rfl hc0
          generalize x * w % 18446744073709551616 = y at *
          generalize x * w / 18446744073709551616 = c at *
          refine .inl ⟨(t + 1, p, true, [y, c]), [0, 1, 3], [yes 24, yes 26, (29, .call ⟨.tup [], ofOs .e 0 [.row 41 none (arF f), .row 162 none [.sl 3 0 2 none], .dead, .row 170 (some 1) [u6 (y : Int), u6 (c : Int)]], 4, [2, 1]⟩), nu 32 (p : Nat), nu 33 ((1 * p : Nat) : Int), nu 34 (t + 1 : Nat)], 1000, ⟨hlt, hnx.symm⟩, by dsimp only; omega, ?_⟩
          clear hq hnx hok
          refine Eq.mp (by kernel_rfl : (decide ((↑t : Int) < (↑e : Int)) = true ∧ decide ((↑w : Int) > (144115188075855872 : Int)) = true ∧ CallSpec Tryd.prog g0 (V.fn 112 [V.ptr 1 0]) [u6 (↑w : Int)] (ofOs T.e 0 (aoL f false [x])) 3 (CR.mk (V.tup []) (ofOs T.e 0 [O.row 41 none (arF f), O.row 162 none [V.sl 3 0 2 none], O.dead, O.row 170 (some 1) [u6 (↑y : Int), u6 (↑c : Int)]]) 4 [2, 1]) ∧ True ∧ wr IntKind.u64 (↑p : Int) = (↑p : Int) ∧ wr IntKind.u64 ((1 : Int) * (↑p : Int)) = (↑(1 * p) : Int) ∧ wr IntKind.i64 ((↑t : Int) + (1 : Int)) = (↑(t + 1) : Int) ∧ (s = s ∧ 0 = 0 ∧ 0 = 0 ∧ (0 = 0 ∧ True) ∧ (↑p : Int) = (↑(1 * p) : Int) ∧ ((2 : Int) = (2 : Int) ∧ (3 : Int) = (3 : Int) ∧ (5 : Int) = (5 : Int) ∧ (7 : Int) = (7 : Int) ∧ (11 : Int) = (11 : Int) ∧ (13 : Int) = (13 : Int) ∧ (17 : Int) = (17 : Int) ∧ (19 : Int) = (19 : Int) ∧ (23 : Int) = (23 : Int) ∧ (29 : Int) = (29 : Int) ∧ (31 : Int) = (31 : Int) ∧ (37 : Int) = (37 : Int) ∧ (41 : Int) = (41 : Int) ∧ (43 : Int) = (43 : Int) ∧ (47 : Int) = (47 : Int) ∧ (53 : Int) = (53 : Int) ∧ (59 : Int) = (59 : Int) ∧ (61 : Int) = (61 : Int) ∧ True) ∧ (↑i : Int) = (↑i : Int) ∧ (↑p : Int) = (↑p : Int) ∧ (↑e : Int) = (↑e : Int) ∧ (↑(t + 1) : Int) = (↑(t + 1) : Int) ∧ True) ∧ (arF f = arF f ∧ True ∧ True ∧ True ∧ True ∧ True ∧ True ∧ True ∧ True ∧ True ∧ True ∧ True ∧ True ∧ True ∧ True ∧ True ∧ True ∧ True ∧ True ∧ True) ∧ ((0 = 0 ∧ 2 = 2 ∧ True) ∧ True) ∧ (wt [y, c] = [u6 (↑y : Int), u6 (↑c : Int)] ∧ True ∧ True ∧ True) ∧ True) = _) ?_
          (repeat' (first | (with_reducible apply And.intro) | (refine fun (_ : True) => ?_))) <;> first | exact aq | skip
          all_goals first | exact hcs | exact rfl | exact wru (by omega) | exact h1p | skip
      | true =>
        simp only [Bool.true_or] at hnx
        obtain ⟨n, hn⟩ : ∃ n, n = ws.length := ⟨_, rfl⟩
        have hwl := wt_len
        by_cases hc0 : (mulS w ws n).2 = 0
        · have hcs := mul_M0 f ws w n hn (by omega) hnorm.ok (by omega) _ rfl hc0
          have hml := mulS_len w ws n
          rw [show mulW w ws = (mulS w ws n).1 by unfold mulW; rw [← hn, if_pos hc0]] at hnx
          generalize (mulS w ws n).1 = m at *
          refine .inl ⟨(t + 1, p, true, m), [0, 1, 2], [yes 24, yes 26, (29, .call ⟨.tup [], ofOs .e 0 [.row 41 none (arF f), .row 162 none [.sl 2 0 n none], .row 170 (some 1) (wt m)], 3, [2]⟩), nu 32 (p : Nat), nu 33 ((1 * p : Nat) : Int), nu 34 (t + 1 : Nat)], 1000, ⟨hlt, hnx.symm⟩, by dsimp only; omega, ?_⟩
          clear hq hnx hok
          subst hn
          refine Eq.mp (by kernel_rfl : (decide ((↑t : Int) < (↑e : Int)) = true ∧ decide ((↑w : Int) > (144115188075855872 : Int)) = true ∧ CallSpec Tryd.prog g0 (V.fn 112 [V.ptr 1 0]) [u6 (↑w : Int)] (ofOs T.e 0 (aoL f true ws)) 3 (CR.mk (V.tup []) (ofOs T.e 0 [O.row 41 none (arF f), O.row 162 none [V.sl 2 0 (List.length ws) none], O.row 170 (some 1) (wt m)]) 3 [2]) ∧ True ∧ wr IntKind.u64 (↑p : Int) = (↑p : Int) ∧ wr IntKind.u64 ((1 : Int) * (↑p : Int)) = (↑(1 * p) : Int) ∧ wr IntKind.i64 ((↑t : Int) + (1 : Int)) = (↑(t + 1) : Int) ∧ (s = s ∧ 0 = 0 ∧ 0 = 0 ∧ (0 = 0 ∧ True) ∧ (↑p : Int) = (↑(1 * p) : Int) ∧ ((2 : Int) = (2 : Int) ∧ (3 : Int) = (3 : Int) ∧ (5 : Int) = (5 : Int) ∧ (7 : Int) = (7 : Int) ∧ (11 : Int) = (11 : Int) ∧ (13 : Int) = (13 : Int) ∧ (17 : Int) = (17 : Int) ∧ (19 : Int) = (19 : Int) ∧ (23 : Int) = (23 : Int) ∧ (29 : Int) = (29 : Int) ∧ (31 : Int) = (31 : Int) ∧ (37 : Int) = (37 : Int) ∧ (41 : Int) = (41 : Int) ∧ (43 : Int) = (43 : Int) ∧ (47 : Int) = (47 : Int) ∧ (53 : Int) = (53 : Int) ∧ (59 : Int) = (59 : Int) ∧ (61 : Int) = (61 : Int) ∧ True) ∧ (↑i : Int) = (↑i : Int) ∧ (↑p : Int) = (↑p : Int) ∧ (↑e : Int) = (↑e : Int) ∧ (↑(t + 1) : Int) = (↑(t + 1) : Int) ∧ True) ∧ (arF f = arF f ∧ True ∧ True ∧ True ∧ True ∧ True ∧ True ∧ True ∧ True ∧ True ∧ True ∧ True ∧ True ∧ True ∧ True ∧ True ∧ True ∧ True ∧ True ∧ True) ∧ ((0 = 0 ∧ List.length m = List.length ws ∧ True) ∧ True) ∧ (wt m = wt m ∧ HfL (wt m)) ∧ True) = _) ?_
          (repeat' (first | (with_reducible apply And.intro) | (refine fun (_ : True) => ?_))) <;> first | exact aq | skip
          all_goals first | exact hcs | exact HfL_wt _ | exact wru (by omega) | exact h1p | skip
        · have hcs := mul_M1 f ws w n hn (by omega) hnorm.ok (by omega) _ _ rfl rfl hc0
          have hml := mulS_len w ws n
          rw [show mulW w ws = (mulS w ws n).1 ++ [(mulS w ws n).2] by unfold mulW; rw [← hn, if_neg hc0]] at hnx
          generalize (mulS w ws n).1 = m at *
          generalize (mulS w ws n).2 = c at *
          rw [← wt_app] at hcs
          have hl2 : (m ++ [c]).length = n + 1 := by simp; omega
          generalize m ++ [c] = m' at *
          refine .inl ⟨(t + 1, p, true, m'), [0, 1, 3], [yes 24, yes 26, (29, .call ⟨.tup [], ofOs .e 0 [.row 41 none (arF f), .row 162 none [.sl 3 0 (n + 1) none], .dead, .row 170 (some 1) (wt m')], 4, [2, 1]⟩), nu 32 (p : Nat), nu 33 ((1 * p : Nat) : Int), nu 34 (t + 1 : Nat)], 1000, ⟨hlt, hnx.symm⟩, by dsimp only; omega, ?_⟩
          clear hq hnx hok
          subst hn
          refine Eq.mp (by kernel_rfl : (decide ((↑t : Int) < (↑e : Int)) = true ∧ decide ((↑w : Int) > (144115188075855872 : Int)) = true ∧ CallSpec Tryd.prog g0 (V.fn 112 [V.ptr 1 0]) [u6 (↑w : Int)] (ofOs T.e 0 (aoL f true ws)) 3 (CR.mk (V.tup []) (ofOs T.e 0 [O.row 41 none (arF f), O.row 162 none [V.sl 3 0 (List.length ws + 1) none], O.dead, O.row 170 (some 1) (wt m')]) 4 [2, 1]) ∧ True ∧ wr IntKind.u64 (↑p : Int) = (↑p : Int) ∧ wr IntKind.u64 ((1 : Int) * (↑p : Int)) = (↑(1 * p) : Int) ∧ wr IntKind.i64 ((↑t : Int) + (1 : Int)) = (↑(t + 1) : Int) ∧ (s = s ∧ 0 = 0 ∧ 0 = 0 ∧ (0 = 0 ∧ True) ∧ (↑p : Int) = (↑(1 * p) : Int) ∧ ((2 : Int) = (2 : Int) ∧ (3 : Int) = (3 : Int) ∧ (5 : Int) = (5 : Int) ∧ (7 : Int) = (7 : Int) ∧ (11 : Int) = (11 : Int) ∧ (13 : Int) = (13 : Int) ∧ (17 : Int) = (17 : Int) ∧ (19 : Int) = (19 : Int) ∧ (23 : Int) = (23 : Int) ∧ (29 : Int) = (29 : Int) ∧ (31 : Int) = (31 : Int) ∧ (37 : Int) = (37 : Int) ∧ (41 : Int) = (41 : Int) ∧ (43 : Int) = (43 : Int) ∧ (47 : Int) = (47 : Int) ∧ (53 : Int) = (53 : Int) ∧ (59 : Int) = (59 : Int) ∧ (61 : Int) = (61 : Int) ∧ True) ∧ (↑i : Int) = (↑i : Int) ∧ (↑p : Int) = (↑p : Int) ∧ (↑e : Int) = (↑e : Int) ∧ (↑(t + 1) : Int) = (↑(t + 1) : Int) ∧ True) ∧ (arF f = arF f ∧ True ∧ True ∧ True ∧ True ∧ True ∧ True ∧ True ∧ True ∧ True ∧ True ∧ True ∧ True ∧ True ∧ True ∧ True ∧ True ∧ True ∧ True ∧ True) ∧ ((0 = 0 ∧ List.length m' = List.length ws + 1 ∧ True) ∧ True) ∧ (wt m' = wt m' ∧ HfL (wt m')) ∧ True) = _) ?_
          (repeat' (first | (with_reducible apply And.intro) | (refine fun (_ : True) => ?_))) <;> first | exact aq | skip
          all_goals first | exact hcs | exact HfL_wt _ | exact wru (by omega) | exact h1p | skip
    · rw [if_neg hc] at hnx
      have hle : w * p ≤ 144115188075855872 * 61 := Nat.mul_le_mul (by omega) hp.2
      have h1p := wtw (x := w) (p := p) (by omega)
      generalize w * p = wp at *
      cases md with
      | false =>
        obtain ⟨x, rfl⟩ : ∃ x, ws = [x] := List.length_eq_one_iff.1 (hone rfl)
        refine .inl ⟨(t + 1, wp, false, [x]), [0, 1, 2], [yes 24, no 26, nu 32 (p : Nat), nu 33 (wp : Nat), nu 34 (t + 1 : Nat)], 1000, ⟨hlt, hnx.symm⟩, by dsimp only; omega, ?_⟩
        clear hq hnx hok
        refine Eq.mp (by kernel_rfl : (decide ((↑t : Int) < (↑e : Int)) = true ∧ decide ((↑w : Int) > (144115188075855872 : Int)) = false ∧ wr IntKind.u64 (↑p : Int) = (↑p : Int) ∧ wr IntKind.u64 ((↑w : Int) * (↑p : Int)) = (↑wp : Int) ∧ wr IntKind.i64 ((↑t : Int) + (1 : Int)) = (↑(t + 1) : Int) ∧ (s = s ∧ 0 = 0 ∧ 0 = 0 ∧ (0 = 0 ∧ True) ∧ (↑wp : Int) = (↑wp : Int) ∧ ((2 : Int) = (2 : Int) ∧ (3 : Int) = (3 : Int) ∧ (5 : Int) = (5 : Int) ∧ (7 : Int) = (7 : Int) ∧ (11 : Int) = (11 : Int) ∧ (13 : Int) = (13 : Int) ∧ (17 : Int) = (17 : Int) ∧ (19 : Int) = (19 : Int) ∧ (23 : Int) = (23 : Int) ∧ (29 : Int) = (29 : Int) ∧ (31 : Int) = (31 : Int) ∧ (37 : Int) = (37 : Int) ∧ (41 : Int) = (41 : Int) ∧ (43 : Int) = (43 : Int) ∧ (47 : Int) = (47 : Int) ∧ (53 : Int) = (53 : Int) ∧ (59 : Int) = (59 : Int) ∧ (61 : Int) = (61 : Int) ∧ True) ∧ (↑i : Int) = (↑i : Int) ∧ (↑p : Int) = (↑p : Int) ∧ (↑e : Int) = (↑e : Int) ∧ (↑(t + 1) : Int) = (↑(t + 1) : Int) ∧ True) ∧ (arF f = arF f ∧ True ∧ True ∧ True ∧ True ∧ True ∧ True ∧ True ∧ True ∧ True ∧ True ∧ True ∧ True ∧ True ∧ True ∧ True ∧ True ∧ True ∧ True ∧ True) ∧ ((0 = 0 ∧ 1 = 1 ∧ 0 = 0) ∧ True) ∧ (wt [x] = wt [x] ∧ True ∧ True) ∧ True) = _) ?_
        (repeat' (first | (with_reducible apply And.intro) | (refine fun (_ : True) => ?_))) <;> first | exact aq | skip
        all_goals first | exact rfl | exact wru (by omega) | skip
      | true =>
        refine .inl ⟨(t + 1, wp, true, ws), [0, 1, 2], [yes 24, no 26, nu 32 (p : Nat), nu 33 (wp : Nat), nu 34 (t + 1 : Nat)], 1000, ⟨hlt, hnx.symm⟩, by dsimp only; omega, ?_⟩
        clear hq hnx hok
        refine Eq.mp (by kernel_rfl : (decide ((↑t : Int) < (↑e : Int)) = true ∧ decide ((↑w : Int) > (144115188075855872 : Int)) = false ∧ wr IntKind.u64 (↑p : Int) = (↑p : Int) ∧ wr IntKind.u64 ((↑w : Int) * (↑p : Int)) = (↑wp : Int) ∧ wr IntKind.i64 ((↑t : Int) + (1 : Int)) = (↑(t + 1) : Int) ∧ (s = s ∧ 0 = 0 ∧ 0 = 0 ∧ (0 = 0 ∧ True) ∧ (↑wp : Int) = (↑wp : Int) ∧ ((2 : Int) = (2 : Int) ∧ (3 : Int) = (3 : Int) ∧ (5 : Int) = (5 : Int) ∧ (7 : Int) = (7 : Int) ∧ (11 : Int) = (11 : Int) ∧ (13 : Int) = (13 : Int) ∧ (17 : Int) = (17 : Int) ∧ (19 : Int) = (19 : Int) ∧ (23 : Int) = (23 : Int) ∧ (29 : Int) = (29 : Int) ∧ (31 : Int) = (31 : Int) ∧ (37 : Int) = (37 : Int) ∧ (41 : Int) = (41 : Int) ∧ (43 : Int) = (43 : Int) ∧ (47 : Int) = (47 : Int) ∧ (53 : Int) = (53 : Int) ∧ (59 : Int) = (59 : Int) ∧ (61 : Int) = (61 : Int) ∧ True) ∧ (↑i : Int) = (↑i : Int) ∧ (↑p : Int) = (↑p : Int) ∧ (↑e : Int) = (↑e : Int) ∧ (↑(t + 1) : Int) = (↑(t + 1) : Int) ∧ True) ∧ (arF f = arF f ∧ True ∧ True ∧ True ∧ True ∧ True ∧ True ∧ True ∧ True ∧ True ∧ True ∧ True ∧ True ∧ True ∧ True ∧ True ∧ True ∧ True ∧ True ∧ True) ∧ ((0 = 0 ∧ List.length ws = List.length ws ∧ True) ∧ True) ∧ (wt ws = wt ws ∧ HfL (wt ws)) ∧ True) = _) ?_
        (repeat' (first | (with_reducible apply And.intro) | (refine fun (_ : True) => ?_))) <;> first | exact aq | skip
        all_goals first | exact HfL_wt _ | exact wru (by omega) | skip
  · have : t = e := by omega
    subst this
    rw [hx] at hq
    obtain ⟨x1, x2, x3⟩ : w' = w ∧ md' = md ∧ ws' = ws := by
      simp only [Prod.mk.injEq] at hq
      exact ⟨hq.1.symm, hq.2.1.symm, hq.2.2.symm⟩
    rw [x1, x2, x3]
    clear hx hq
    cases md with
    | false =>
      refine .inr ⟨.exit 2, [0, 1, 2], aoS f s i w false ws, [no 24], 1000, .inl ⟨trivial, rfl, rfl⟩, ?_⟩
      refine Eq.mp (by kernel_rfl : (decide ((↑t : Int) < (↑t : Int)) = false ∧ (s = s ∧ 0 = 0 ∧ 0 = 0 ∧ (0 = 0 ∧ True) ∧ (↑w : Int) = (↑w : Int) ∧ ((2 : Int) = (2 : Int) ∧ (3 : Int) = (3 : Int) ∧ (5 : Int) = (5 : Int) ∧ (7 : Int) = (7 : Int) ∧ (11 : Int) = (11 : Int) ∧ (13 : Int) = (13 : Int) ∧ (17 : Int) = (17 : Int) ∧ (19 : Int) = (19 : Int) ∧ (23 : Int) = (23 : Int) ∧ (29 : Int) = (29 : Int) ∧ (31 : Int) = (31 : Int) ∧ (37 : Int) = (37 : Int) ∧ (41 : Int) = (41 : Int) ∧ (43 : Int) = (43 : Int) ∧ (47 : Int) = (47 : Int) ∧ (53 : Int) = (53 : Int) ∧ (59 : Int) = (59 : Int) ∧ (61 : Int) = (61 : Int) ∧ True) ∧ (↑i : Int) = (↑i : Int) ∧ True) ∧ (arF f = arF f ∧ True ∧ True ∧ True ∧ True ∧ True ∧ True ∧ True ∧ True ∧ True ∧ True ∧ True ∧ True ∧ True ∧ True ∧ True ∧ True ∧ True ∧ True ∧ True) ∧ ((0 = 0 ∧ 1 = 1 ∧ 0 = 0) ∧ True) ∧ (wt ws = wt ws ∧ HfL (wt ws)) ∧ True) = _) ?_
      (repeat' (first | (with_reducible apply And.intro) | (refine fun (_ : True) => ?_))) <;> first | exact aq | skip
      all_goals first | exact HfL_wt _ | skip
    | true =>
      refine .inr ⟨.exit 2, [0, 1, 2], aoS f s i w true ws, [no 24], 1000, .inl ⟨trivial, rfl, rfl⟩, ?_⟩
      refine Eq.mp (by kernel_rfl : (decide ((↑t : Int) < (↑t : Int)) = false ∧ (s = s ∧ 0 = 0 ∧ 0 = 0 ∧ (0 = 0 ∧ True) ∧ (↑w : Int) = (↑w : Int) ∧ ((2 : Int) = (2 : Int) ∧ (3 : Int) = (3 : Int) ∧ (5 : Int) = (5 : Int) ∧ (7 : Int) = (7 : Int) ∧ (11 : Int) = (11 : Int) ∧ (13 : Int) = (13 : Int) ∧ (17 : Int) = (17 : Int) ∧ (19 : Int) = (19 : Int) ∧ (23 : Int) = (23 : Int) ∧ (29 : Int) = (29 : Int) ∧ (31 : Int) = (31 : Int) ∧ (37 : Int) = (37 : Int) ∧ (41 : Int) = (41 : Int) ∧ (43 : Int) = (43 : Int) ∧ (47 : Int) = (47 : Int) ∧ (53 : Int) = (53 : Int) ∧ (59 : Int) = (59 : Int) ∧ (61 : Int) = (61 : Int) ∧ True) ∧ (↑i : Int) = (↑i : Int) ∧ True) ∧ (arF f = arF f ∧ True ∧ True ∧ True ∧ True ∧ True ∧ True ∧ True ∧ True ∧ True ∧ True ∧ True ∧ True ∧ True ∧ True ∧ True ∧ True ∧ True ∧ True ∧ True) ∧ ((0 = 0 ∧ List.length ws = List.length ws ∧ True) ∧ True) ∧ (wt ws = wt ws ∧ HfL (wt ws)) ∧ True) = _) ?_
      (repeat' (first | (with_reducible apply And.intro) | (refine fun (_ : True) => ?_))) <;> first | exact aq | skip
      all_goals first | exact HfL_wt _ | skip
end Go.Proofs.YtglpoiaedkoecaaDoor.Am
