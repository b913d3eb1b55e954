/- Chapter 28: arrays of 18 powers; how a number is taken apart. -/
import Derived.Test.YtglpoiaedkoecaaDoorD0
namespace Go.Proofs.YtglpoiaedkoecaaDoor.Am
open Go.RowKit
set_option linter.unusedVariables false
set_option maxHeartbeats 1000000
set_option maxRecDepth 100000

/-! ### arrays of 18 numbers -/
abbrev arF (f : Nat → Int) : List V := [i6 (f 0), i6 (f 1), i6 (f 2), i6 (f 3), i6 (f 4), i6 (f 5), i6 (f 6), i6 (f 7), i6 (f 8), i6 (f 9), i6 (f 10), i6 (f 11), i6 (f 12), i6 (f 13), i6 (f 14), i6 (f 15), i6 (f 16), i6 (f 17)]
abbrev ar (f : Nat → Int) : V := .agg (arF f)
def upA (f : Nat → Int) (k : Nat) (v : Int) : Nat → Int := fun i => if i = k then v else f i
def zeroF : Nat → Int := fun _ => 0
theorem lt18 {k : Nat} (h : k < 18) : k = 0 ∨ k = 1 ∨ k = 2 ∨ k = 3 ∨ k = 4 ∨ k = 5 ∨ k = 6 ∨ k = 7 ∨ k = 8 ∨ k = 9 ∨ k = 10 ∨ k = 11 ∨ k = 12 ∨ k = 13 ∨ k = 14 ∨ k = 15 ∨ k = 16 ∨ k = 17 := by omega
theorem idx41 {f : Nat → Int} {k : Nat} (h : k < 18) : idxV (ctxOf Pg) 41 (ar f) (k : Int) = some (i6 (f k)) := by
  rcases lt18 h with rfl | rfl | rfl | rfl | rfl | rfl | rfl | rfl | rfl | rfl | rfl | rfl | rfl | rfl | rfl | rfl | rfl | rfl <;> kernel_rfl
theorem place41 {g : Nat} {k : Nat} (h : k < 18) : placeV (ctxOf Pg) 41 (.ptr g 0) (k : Int) = some (.ptr g k) := by
  rcases lt18 h with rfl | rfl | rfl | rfl | rfl | rfl | rfl | rfl | rfl | rfl | rfl | rfl | rfl | rfl | rfl | rfl | rfl | rfl <;> kernel_rfl
theorem head_ar {f : Nat → Int} {k : Nat} (h : k < 18) : headF (dropF k (arF f)) = some (i6 (f k)) := by
  rcases lt18 h with rfl | rfl | rfl | rfl | rfl | rfl | rfl | rfl | rfl | rfl | rfl | rfl | rfl | rfl | rfl | rfl | rfl | rfl <;> rfl
theorem lay_ar {f : Nat → Int} {k : Nat} {v : Int} (h : k < 18) : layE k (arF f) [i6 v] = some (arF (upA f k v)) := by
  rcases lt18 h with rfl | rfl | rfl | rfl | rfl | rfl | rfl | rfl | rfl | rfl | rfl | rfl | rfl | rfl | rfl | rfl | rfl | rfl <;> rfl
theorem ar_congr {f g : Nat → Int} (h : ∀ k, k < 18 → f k = g k) : arF f = arF g := by
  simp only [arF, h 0 (by omega), h 1 (by omega), h 2 (by omega), h 3 (by omega), h 4 (by omega), h 5 (by omega), h 6 (by omega), h 7 (by omega), h 8 (by omega), h 9 (by omega), h 10 (by omega), h 11 (by omega), h 12 (by omega), h 13 (by omega), h 14 (by omega), h 15 (by omega), h 16 (by omega), h 17 (by omega)]

/-! ### primes -/
def primeL : List Nat := [2, 3, 5, 7, 11, 13, 17, 19, 23, 29, 31, 37, 41, 43, 47, 53, 59, 61]
def primeN (k : Nat) : Nat := primeL.getD k 2
theorem primeN_bd (k : Nat) : 2 ≤ primeN k ∧ primeN k ≤ 61 := by
  by_cases h : k < 18
  · rcases lt18 h with rfl | rfl | rfl | rfl | rfl | rfl | rfl | rfl | rfl | rfl | rfl | rfl | rfl | rfl | rfl | rfl | rfl | rfl <;> decide
  · have : primeL.getD k 2 = 2 := by
      rw [List.getD_eq_getElem?_getD, List.getElem?_eq_none (by simp [primeL]; omega)]; rfl
    unfold primeN; omega
abbrev prV : V := .agg (primesL.map (V.int .i64))
theorem idx40 {k : Nat} (h : k < 18) : idxV (ctxOf Pg) 40 prV (k : Int) = some (i6 (primeN k)) := by
  rcases lt18 h with rfl | rfl | rfl | rfl | rfl | rfl | rfl | rfl | rfl | rfl | rfl | rfl | rfl | rfl | rfl | rfl | rfl | rfl <;> kernel_rfl
theorem prime_fn (k : Nat) (h : k < 18) : FnOk Pg g0 81 [i6 k] (i6 (primeN k)) := by
  rcases lt18 h with rfl | rfl | rfl | rfl | rfl | rfl | rfl | rfl | rfl | rfl | rfl | rfl | rfl | rfl | rfl | rfl | rfl | rfl <;> exact FnOk.of_run vE_ok mixed (n := 1000) rfl (by kernel_rfl)

/-! ### a number without its powers of p -/
def strip (p : Nat) : Nat → Nat → Nat × Nat
  | 0, n => (0, n)
  | t + 1, n => if n % p = 0 then ((strip p t (n / p)).1 + 1, (strip p t (n / p)).2) else (0, n)
theorem strip_bd {p : Nat} (hp : 2 ≤ p) : ∀ (t n : Nat), 1 ≤ n → 1 ≤ (strip p t n).2 ∧ (strip p t n).2 ≤ n ∧ (strip p t n).1 ≤ t
  | 0, n, h => by simp [strip]; omega
  | t + 1, n, h => by
    unfold strip
    split
    · rename_i hm
      have h1 : n / p < n := Nat.div_lt_self (by omega) (by omega)
      have h2 : 1 ≤ n / p := by
        have := Nat.div_add_mod n p
        rcases Nat.eq_zero_or_pos (n / p) with h0 | h0
        · rw [h0, hm] at this; simp at this; omega
        · exact h0
      have := strip_bd hp t (n / p) h2
      dsimp only
      omega
    · dsimp only; omega
def ofN (n : Nat) : Nat → Nat
  | 0 => n
  | k + 1 => (strip (primeN k) 63 (ofN n k)).2
def ofF (n : Nat) : Nat → Nat → Int
  | 0 => zeroF
  | k + 1 => upA (ofF n k) k ((strip (primeN k) 63 (ofN n k)).1 : Nat)
theorem ofN_bd {n : Nat} (h : 1 ≤ n) : ∀ k, 1 ≤ ofN n k ∧ ofN n k ≤ n
  | 0 => ⟨h, Nat.le_refl _⟩
  | k + 1 => by
    have h1 := ofN_bd h k
    have h2 := strip_bd (primeN_bd k).1 63 (ofN n k) h1.1
    unfold ofN; omega
theorem ofF_out (n : Nat) : ∀ k i, k ≤ i → ofF n k i = 0
  | 0, _, _ => rfl
  | k + 1, i, h => by
    unfold ofF upA
    rw [if_neg (by omega)]
    exact ofF_out n k i (by omega)

/-- in the loop: n is what is left, e powers are taken; fuel t -/
structure SpI (p : Nat) (E M : Nat) (t n e : Nat) : Prop where
  pos : 1 ≤ n
  fuel : n < 2 ^ t
  e1 : (strip p t n).1 + e = E
  e2 : (strip p t n).2 = M
theorem SpI.step {p E M t n e : Nat} (hp : 2 ≤ p) (h : SpI p E M t n e) (hm : n % p = 0) : ∃ t', t = t' + 1 ∧ SpI p E M t' (n / p) (e + 1) := by
  cases t with
  | zero => have := h.fuel; have := h.pos; omega
  | succ t =>
    refine ⟨t, rfl, ?_⟩
    have h1 := h.e1
    have h2 := h.e2
    unfold strip at h1 h2
    rw [if_pos hm] at h1 h2
    have hpos := h.pos
    have hd := Nat.div_add_mod n p
    have h3 : 1 ≤ n / p := by
      rcases Nat.eq_zero_or_pos (n / p) with h0 | h0
      · rw [h0, hm] at hd; simp at hd; omega
      · exact h0
    refine ⟨h3, ?_, by dsimp only at h1; omega, h2⟩
    have hf := h.fuel
    rw [Nat.pow_succ] at hf
    have h4 : 2 * (n / p) ≤ p * (n / p) := Nat.mul_le_mul_right _ hp
    omega
theorem SpI.stop {p E M t n e : Nat} (hp : 2 ≤ p) (h : SpI p E M t n e) (hm : n % p ≠ 0) : n = M ∧ e = E := by
  have h1 := h.e1
  have h2 := h.e2
  cases t with
  | zero => have := h.fuel; have := h.pos; omega
  | succ t =>
    unfold strip at h1 h2
    rw [if_neg hm] at h1 h2
    dsimp only at h1 h2
    omega
theorem tmod_nat (n p : Nat) : ((n : Int)).tmod (p : Int) = ((n % p : Nat) : Int) := by
  rw [Int.tmod_eq_emod_of_nonneg (by omega)]; simp
theorem tdiv_nat (n p : Nat) : ((n : Int)).tdiv (p : Int) = ((n / p : Nat) : Int) := by
  rw [Int.tdiv_eq_ediv_of_nonneg (by omega)]; simp
theorem upd_upd (f : Nat → Int) (k : Nat) (a b : Int) : upA (upA f k a) k b = upA f k b := by
  funext i; unfold upA; split <;> rfl
theorem upd_at (f : Nat → Int) (k : Nat) (a : Int) : upA f k a k = a := by simp [upA]
theorem upd_same (f : Nat → Int) (k : Nat) : upA f k (f k) = f := by
  funext i; unfold upA; split
  · rename_i h; rw [h]
  · rfl

/-! ### score.split -/
abbrev spS (f : Nat → Int) (k : Nat) (q : Nat × Nat × Nat) : SL := { sl := [(0, i6 q.2.1), (2, .ptr 0 0), (4, i6 k), (5, i6 (primeN k)), (6, prV), (7, i6 k)], os := [.row 41 none (arF (upA f k q.2.2))] }
abbrev spX (f : Nat → Int) (k : Nat) (n e : Nat) : SL := { sl := [(0, i6 n), (2, .ptr 0 0), (6, prV), (7, i6 k)], os := [.row 41 none (arF (upA f k e))] }
theorem split_in (f : Nat → Int) (k : Nat) (hk : k < 18) (E M : Nat) (q : Nat × Nat × Nat) (hE : E ≤ 63) (hq : SpI (primeN k) E M q.1 q.2.1 q.2.2 ∧ q.2.1 ≤ 4611686018427387903) :
    Sat Pg none 0 (at' 80 [1, 0, 1, 0, 0, 1, 1, 0, 0, 1, 0]) (mkSt g0 26 (spS f k q)) (outsP g0 26 [(True, .exit 2, spX f k M E)]) := by
  refine loopC vE_ok mixed sp0_ok (b := at' 80 [1, 0, 1, 0, 0, 1, 1, 0, 0, 1, 0, 0]) (by kernel_rfl) (fun q => SpI (primeN k) E M q.1 q.2.1 q.2.2 ∧ q.2.1 ≤ 4611686018427387903) (spS f k) (fun q => q.1) (fun q hq => ?_) q hq
  obtain ⟨t, n, e⟩ := q
  obtain ⟨hq, hn⟩ := hq
  dsimp only at hq hn
  have hp := primeN_bd k
  have hrem : binV (ctxOf Pg) .rem 3 (i6 n) (i6 (primeN k)) = some (i6 ((n % primeN k : Nat) : Int)) := by rw [rem6 (by omega), tmod_nat]
  by_cases hm : n % primeN k = 0
  · obtain ⟨t', rfl, hq'⟩ := hq.step hp.1 hm
    have hdl := Nat.div_le_self n (primeN k)
    have htd := tdiv_nat n (primeN k)
    generalize n / primeN k = m at *
    have hquo : binV (ctxOf Pg) .quo 3 (i6 n) (i6 (primeN k)) = some (i6 ((m : Nat) : Int)) := by rw [quo6 (by omega) (by rw [htd]; omega) (by rw [htd]; omega), htd]
    have hpl := @place41 0 k hk
    have hhd : headF (dropF k (arF (upA f k e))) = some (i6 (e : Int)) := by rw [head_ar hk, upd_at]
    have hst : layE k (arF (upA f k e)) [i6 ((e + 1 : Nat) : Int)] = some (arF (upA f k ((e + 1 : Nat) : Int))) := by rw [lay_ar hk, upd_upd]
    have he := hq'.e1
    refine .inl ⟨(t', m, e + 1), [0], [va 13 (i6 ((n % primeN k : Nat) : Int)), yes 14, va 17 (i6 ((m : Nat) : Int)), va 19 (.ptr 0 k), ld 20 (i6 e), nu 21 (e + 1 : Nat), va 22 (.ptr 0 k), st (arF (upA f k ((e + 1 : Nat) : Int)))], 1000, ⟨hq', by dsimp only; omega⟩, by dsimp only; omega, ?_⟩
    refine Eq.mp (by kernel_rfl : (binV (ctxOf Tryd.prog) BinOp.rem 3 (i6 (↑n : Int)) (i6 (↑(primeN k) : Int)) = some (i6 (↑(n % primeN k) : Int)) ∧ ((↑(n % primeN k) : Int) == (0 : Int)) = true ∧ binV (ctxOf Tryd.prog) BinOp.quo 3 (i6 (↑n : Int)) (i6 (↑(primeN k) : Int)) = some (i6 (↑m : Int)) ∧ placeV (ctxOf Tryd.prog) 41 (V.ptr 0 0) (↑k : Int) = some (V.ptr 0 k) ∧ headF (dropF k (arF (upA f k (↑e : Int)))) = some (i6 (↑e : Int)) ∧ wr IntKind.i64 ((↑e : Int) + (1 : Int)) = (↑(e + 1) : Int) ∧ placeV (ctxOf Tryd.prog) 41 (V.ptr 0 0) (↑k : Int) = some (V.ptr 0 k) ∧ layE k (arF (upA f k (↑e : Int))) [V.int IntKind.i64 (↑(e + 1) : Int)] = some (arF (upA f k (↑(e + 1) : Int))) ∧ ((↑m : Int) = (↑m : Int) ∧ 0 = 0 ∧ (↑k : Int) = (↑k : Int) ∧ (↑(primeN k) : Int) = (↑(primeN k) : Int) ∧ ((2 : Int) = (2 : Int) ∧ (3 : Int) = (3 : Int) ∧ (5 : Int) = (5 : Int) ∧ (7 : Int) = (7 : Int) ∧ (11 : Int) = (11 : Int) ∧ (13 : Int) = (13 : Int) ∧ (17 : Int) = (17 : Int) ∧ (19 : Int) = (19 : Int) ∧ (23 : Int) = (23 : Int) ∧ (29 : Int) = (29 : Int) ∧ (31 : Int) = (31 : Int) ∧ (37 : Int) = (37 : Int) ∧ (41 : Int) = (41 : Int) ∧ (43 : Int) = (43 : Int) ∧ (47 : Int) = (47 : Int) ∧ (53 : Int) = (53 : Int) ∧ (59 : Int) = (59 : Int) ∧ (61 : Int) = (61 : Int) ∧ True) ∧ (↑k : Int) = (↑k : Int) ∧ True) ∧ (arF (upA f k (↑(e + 1) : Int)) = arF (upA f k (↑(e + 1) : Int)) ∧ True ∧ True ∧ True ∧ True ∧ True ∧ True ∧ True ∧ True ∧ True ∧ True ∧ True ∧ True ∧ True ∧ True ∧ True ∧ True ∧ True ∧ True ∧ True) ∧ True) = _) ?_
    exact au
  · obtain ⟨rfl, rfl⟩ := hq.stop hp.1 hm
    refine .inr ⟨.exit 2, [0], spX f k n e, [va 13 (i6 ((n % primeN k : Nat) : Int)), no 14], 1000, .inl ⟨trivial, rfl, rfl⟩, ?_⟩
    refine Eq.mp (by kernel_rfl : (binV (ctxOf Tryd.prog) BinOp.rem 3 (i6 (↑n : Int)) (i6 (↑(primeN k) : Int)) = some (i6 (↑(n % primeN k) : Int)) ∧ ((↑(n % primeN k) : Int) == (0 : Int)) = false ∧ ((↑n : Int) = (↑n : Int) ∧ 0 = 0 ∧ ((2 : Int) = (2 : Int) ∧ (3 : Int) = (3 : Int) ∧ (5 : Int) = (5 : Int) ∧ (7 : Int) = (7 : Int) ∧ (11 : Int) = (11 : Int) ∧ (13 : Int) = (13 : Int) ∧ (17 : Int) = (17 : Int) ∧ (19 : Int) = (19 : Int) ∧ (23 : Int) = (23 : Int) ∧ (29 : Int) = (29 : Int) ∧ (31 : Int) = (31 : Int) ∧ (37 : Int) = (37 : Int) ∧ (41 : Int) = (41 : Int) ∧ (43 : Int) = (43 : Int) ∧ (47 : Int) = (47 : Int) ∧ (53 : Int) = (53 : Int) ∧ (59 : Int) = (59 : Int) ∧ (61 : Int) = (61 : Int) ∧ True) ∧ (↑k : Int) = (↑k : Int) ∧ True) ∧ (arF (upA f k (↑e : Int)) = arF (upA f k (↑e : Int)) ∧ True ∧ True ∧ True ∧ True ∧ True ∧ True ∧ True ∧ True ∧ True ∧ True ∧ True ∧ True ∧ True ∧ True ∧ True ∧ True ∧ True ∧ True ∧ True) ∧ True) = _) ?_
    exact au

abbrev ar8F (f : Nat → Int) : List V := [.int .i8 (f 0), .int .i8 (f 1), .int .i8 (f 2), .int .i8 (f 3), .int .i8 (f 4), .int .i8 (f 5), .int .i8 (f 6), .int .i8 (f 7), .int .i8 (f 8), .int .i8 (f 9), .int .i8 (f 10), .int .i8 (f 11), .int .i8 (f 12), .int .i8 (f 13), .int .i8 (f 14), .int .i8 (f 15), .int .i8 (f 16), .int .i8 (f 17)]
abbrev ar8 (f : Nat → Int) : V := .agg (ar8F f)

end Go.Proofs.YtglpoiaedkoecaaDoor.Am
