/- Long numbers by their words; products of powers of primes (no program in sight). -/
import Derived.Test.YtglpoiaedkoecaaDoorD3
namespace Go.Proofs.YtglpoiaedkoecaaDoor.Am
set_option linter.unusedVariables false
set_option maxRecDepth 100000

/-! ### words -/
abbrev BW : Nat := 18446744073709551616
/-- the number of the words, the lowest first -/
def valW : List Nat → Nat
  | [] => 0
  | x :: l => x + 18446744073709551616 * valW l
def WOk (l : List Nat) : Prop := ∀ k, l.getD k 0 < 18446744073709551616
theorem valW_append (a b : List Nat) : valW (a ++ b) = valW a + 18446744073709551616 ^ a.length * valW b := by
  induction a with
  | nil => simp [valW]
  | cons x a ih =>
    simp only [List.cons_append, valW, ih, List.length_cons, Nat.pow_succ, Nat.mul_add]
    rw [Nat.mul_comm (18446744073709551616 ^ a.length) 18446744073709551616, Nat.mul_assoc]
    omega
theorem WOk.tail {x : Nat} {l : List Nat} (h : WOk (x :: l)) : x < 18446744073709551616 ∧ WOk l :=
  ⟨by simpa using h 0, fun k => by simpa using h (k + 1)⟩
theorem WOk.cons {x : Nat} {l : List Nat} (h1 : x < 18446744073709551616) (h2 : WOk l) : WOk (x :: l)
  | 0 => by simpa using h1
  | k + 1 => by simpa using h2 k
theorem WOk.take {l : List Nat} (h : WOk l) (n : Nat) : WOk (l.take n) := fun k => by
  rw [List.getD_eq_getElem?_getD, List.getElem?_take]
  split
  · rw [← List.getD_eq_getElem?_getD]; exact h k
  · simp
theorem valW_lt : ∀ {l : List Nat}, WOk l → valW l < 18446744073709551616 ^ l.length
  | [], _ => by simp [valW]
  | x :: l, h => by
    have h1 := h.tail
    have h2 := valW_lt h1.2
    simp only [valW, List.length_cons, Nat.pow_succ]
    have h3 := h1.1
    generalize 18446744073709551616 ^ l.length = P at *
    omega
theorem take_succ_get {l : List Nat} {i : Nat} (h : i < l.length) : l.take (i + 1) = l.take i ++ [l.getD i 0] := by
  rw [List.take_succ_eq_append_getElem h, List.getD_eq_getElem?_getD, List.getElem?_eq_getElem h]; rfl
theorem drop_get {l : List Nat} {i : Nat} (h : i < l.length) : l.drop i = l.getD i 0 :: l.drop (i + 1) := by
  rw [List.drop_eq_getElem_cons h, List.getD_eq_getElem?_getD, List.getElem?_eq_getElem h]; rfl
theorem valW_take {l : List Nat} {i : Nat} (h : i < l.length) : valW (l.take (i + 1)) = valW (l.take i) + 18446744073709551616 ^ i * l.getD i 0 := by
  rw [take_succ_get h, valW_append, List.length_take, Nat.min_eq_left (by omega)]
  simp [valW]

/-- the words times w, as far as the word i; the carry -/
def mulS (w : Nat) (l : List Nat) : Nat → List Nat × Nat
  | 0 => (l, 0)
  | i + 1 => ((mulS w l i).1.set i ((l.getD i 0 * w + (mulS w l i).2) % 18446744073709551616), (l.getD i 0 * w + (mulS w l i).2) / 18446744073709551616)
theorem mulS_len (w : Nat) (l : List Nat) : ∀ i, (mulS w l i).1.length = l.length
  | 0 => rfl
  | i + 1 => by rw [mulS, List.length_set, mulS_len w l i]
theorem mulS_drop (w : Nat) (l : List Nat) : ∀ i, (mulS w l i).1.drop i = l.drop i
  | 0 => rfl
  | i + 1 => by
    have h := mulS_drop w l i
    rw [mulS, List.drop_set_of_lt (by omega)]
    have := congrArg (List.drop 1) h
    simpa [List.drop_drop] using this
theorem mulS_at (w : Nat) (l : List Nat) (i : Nat) : (mulS w l i).1.getD i 0 = l.getD i 0 := by
  have h := congrArg (fun x => x.getD 0 0) (mulS_drop w l i)
  simpa [List.getD_eq_getElem?_getD, List.getElem?_drop] using h
theorem set_take {l : List Nat} {i x : Nat} (h : i < l.length) : (l.set i x).take (i + 1) = l.take i ++ [x] := by
  rw [take_succ_get (by simpa using h), List.take_set_of_le (by omega)]
  congr 2
  rw [List.getD_eq_getElem?_getD, List.getElem?_set_self h]; rfl
theorem mul_lt_sq {a w c : Nat} (ha : a < 18446744073709551616) (hw : w < 18446744073709551616) (hc : c < 18446744073709551616) : a * w + c < 340282366920938463463374607431768211456 := by
  have : a * w ≤ 18446744073709551615 * 18446744073709551615 := Nat.mul_le_mul (by omega) (by omega)
  omega
structure MulOk (w : Nat) (l : List Nat) (i : Nat) (m : List Nat) (c : Nat) : Prop where
  len : m.length = l.length
  words : WOk m
  carry : c < 18446744073709551616
  val : valW (m.take i) + 18446744073709551616 ^ i * c = w * valW (l.take i)
theorem mulS_ok {w : Nat} {l : List Nat} (hl : WOk l) (hw : w < 18446744073709551616) : ∀ i, i ≤ l.length → MulOk w l i (mulS w l i).1 (mulS w l i).2
  | 0, _ => ⟨rfl, hl, by show 0 < _; omega, by simp [mulS, valW]⟩
  | i + 1, h => by
    have ih := mulS_ok hl hw i (by omega)
    have hlen := mulS_len w l i
    have ha := hl i
    have hcc := ih.carry
    have hb := mul_lt_sq ha hw hcc
    refine ⟨by rw [mulS_len], fun k => ?_, ?_, ?_⟩
    · simp only [mulS]
      rw [List.getD_eq_getElem?_getD, List.getElem?_set]
      split
      · split
        · simp only [Option.getD_some]; omega
        · simp
      · rw [← List.getD_eq_getElem?_getD]; exact ih.words k
    · simp only [mulS]; omega
    · have hv := ih.val
      simp only [mulS]
      rw [set_take (by omega), valW_append, valW_take (by omega), List.length_take, hlen, Nat.min_eq_left (by omega), Nat.mul_add, ← hv]
      generalize (mulS w l i).2 = c at *
      generalize (mulS w l i).1 = m at *
      simp only [valW, Nat.mul_zero, Nat.add_zero]
      have hd := Nat.mod_add_div (l.getD i 0 * w + c) 18446744073709551616
      generalize (l.getD i 0 * w + c) % 18446744073709551616 = r at *
      generalize (l.getD i 0 * w + c) / 18446744073709551616 = q at *
      rw [Nat.pow_succ, Nat.mul_assoc (18446744073709551616 ^ i), Nat.add_assoc (valW (m.take i)), ← Nat.mul_add, hd, Nat.mul_add, Nat.mul_left_comm w, Nat.mul_comm w]
      omega

/-- words without zeros behind the highest one -/
structure Norm (l : List Nat) : Prop where
  ok : WOk l
  pos : 1 ≤ l.length
  top : 18446744073709551616 ^ (l.length - 1) ≤ valW l
/-- what the words become when w is multiplied in -/
def mulW (w : Nat) (l : List Nat) : List Nat := if (mulS w l l.length).2 = 0 then (mulS w l l.length).1 else (mulS w l l.length).1 ++ [(mulS w l l.length).2]
theorem mulW_ok {w : Nat} {l : List Nat} (h : Norm l) (hw : w < 18446744073709551616) (hp : 1 ≤ w) : Norm (mulW w l) ∧ valW (mulW w l) = w * valW l ∧ (mulW w l).length ≤ l.length + 1 := by
  have ho := mulS_ok h.ok hw l.length (Nat.le_refl _)
  have hv := ho.val
  have hlen := ho.len
  unfold mulW
  generalize (mulS w l l.length).1 = m at *
  generalize (mulS w l l.length).2 = c at *
  rw [List.take_of_length_le (by omega), List.take_of_length_le (by omega)] at hv
  have hge : valW l ≤ w * valW l := Nat.le_mul_of_pos_left _ hp
  have htop := h.top
  have hpos := h.pos
  by_cases hc : c = 0
  · subst hc
    rw [if_pos rfl]
    simp only [Nat.mul_zero, Nat.add_zero] at hv
    exact ⟨⟨ho.words, by omega, by rw [hlen]; omega⟩, hv, by omega⟩
  · rw [if_neg hc]
    have hval : valW (m ++ [c]) = w * valW l := by
      rw [valW_append, hlen]; simpa [valW] using hv
    refine ⟨⟨fun k => ?_, by simp, ?_⟩, hval, by simp; omega⟩
    · rw [List.getD_eq_getElem?_getD, List.getElem?_append]
      split
      · rw [← List.getD_eq_getElem?_getD]; exact ho.words k
      · cases hk : k - m.length with
        | zero => simpa using ho.carry
        | succ j => simp
    · rw [valW_append]
      simp only [List.length_append, List.length_singleton, Nat.add_sub_cancel, valW, Nat.mul_zero, Nat.add_zero]
      have : 18446744073709551616 ^ m.length * 1 ≤ 18446744073709551616 ^ m.length * c := Nat.mul_le_mul_left _ (by omega)
      omega
theorem norm_one : Norm [1] := ⟨WOk.cons (by omega) (fun k => by simp), by simp, by simp [valW]⟩

/-- how long numbers compare -/
theorem norm_len {a b : List Nat} (ha : Norm a) (hb : Norm b) (h : a.length < b.length) : valW a < valW b := by
  have h1 := valW_lt ha.ok
  have h2 := hb.top
  have h3 : 18446744073709551616 ^ a.length ≤ 18446744073709551616 ^ (b.length - 1) := Nat.pow_le_pow_right (by omega) (by omega)
  omega
theorem words_lt {a b : List Nat} (ha : WOk a) {i : Nat} (hl : a.length = b.length) (hi : i < a.length) (hd : a.drop (i + 1) = b.drop (i + 1)) (h : a.getD i 0 < b.getD i 0) : valW a < valW b := by
  have e1 : valW a = valW (a.take (i + 1)) + 18446744073709551616 ^ (i + 1) * valW (a.drop (i + 1)) := by
    conv => lhs; rw [← List.take_append_drop (i + 1) a]
    rw [valW_append, List.length_take, Nat.min_eq_left (by omega)]
  have e2 : valW b = valW (b.take (i + 1)) + 18446744073709551616 ^ (i + 1) * valW (b.drop (i + 1)) := by
    conv => lhs; rw [← List.take_append_drop (i + 1) b]
    rw [valW_append, List.length_take, Nat.min_eq_left (by omega)]
  rw [e1, e2, hd, valW_take hi, valW_take (by omega)]
  have h1 := valW_lt (ha.take i)
  rw [List.length_take, Nat.min_eq_left (by omega)] at h1
  have h2 : 18446744073709551616 ^ i * (a.getD i 0 + 1) ≤ 18446744073709551616 ^ i * b.getD i 0 := Nat.mul_le_mul_left _ h
  rw [Nat.mul_add, Nat.mul_one] at h2
  omega
theorem drop_eq_step {a b : List Nat} {i : Nat} (hl : a.length = b.length) (hi : i < a.length) (hd : a.drop (i + 1) = b.drop (i + 1)) (h : a.getD i 0 = b.getD i 0) : a.drop i = b.drop i := by
  have hi' : i < b.length := by omega
  rw [drop_get hi, drop_get hi', h, hd]
/-- -1, 0, 1 -/
def sgn (x y : Nat) : Int := if x < y then -1 else if y < x then 1 else 0

/-! ### products of powers -/
def prodP (e : Nat → Nat) : Nat → Nat
  | 0 => 1
  | k + 1 => prodP e k * primeN k ^ e k
theorem primeN_pos (k : Nat) : 0 < primeN k := by have := (primeN_bd k).1; omega
theorem prodP_pos (e : Nat → Nat) : ∀ k, 0 < prodP e k
  | 0 => by simp [prodP]
  | k + 1 => Nat.mul_pos (prodP_pos e k) (Nat.pow_pos (primeN_pos k))
theorem prodP_congr {e f : Nat → Nat} : ∀ k, (∀ j, j < k → e j = f j) → prodP e k = prodP f k
  | 0, _ => rfl
  | k + 1, h => by rw [prodP, prodP, prodP_congr k (fun j hj => h j (by omega)), h k (by omega)]
theorem prodP_add (e f : Nat → Nat) : ∀ k, prodP (fun j => e j + f j) k = prodP e k * prodP f k
  | 0 => rfl
  | k + 1 => by
    rw [prodP, prodP, prodP, prodP_add e f k, Nat.pow_add]
    simp only [Nat.mul_assoc, Nat.mul_left_comm, Nat.mul_comm]
theorem primes_coprime : ((List.range 18).all fun i => (List.range 18).all fun j => decide (i = j) || decide (Nat.gcd (primeN i) (primeN j) = 1)) = true := by decide +kernel
theorem prime_coprime {i j : Nat} (hi : i < 18) (hj : j < 18) (h : i ≠ j) : Nat.Coprime (primeN i) (primeN j) := by
  have h1 := List.all_eq_true.1 (List.all_eq_true.1 primes_coprime i (List.mem_range.2 hi)) j (List.mem_range.2 hj)
  rcases Bool.or_eq_true _ _ ▸ h1 with h2 | h2
  · exact absurd (of_decide_eq_true h2) h
  · exact of_decide_eq_true h2
theorem prodP_coprime {e : Nat → Nat} {i : Nat} (hi : i < 18) (h0 : e i = 0) : ∀ k, k ≤ 18 → Nat.Coprime (primeN i) (prodP e k)
  | 0, _ => by simp [prodP, Nat.Coprime]
  | k + 1, hk => by
    rw [prodP]
    refine Nat.Coprime.mul_right (prodP_coprime hi h0 k (by omega)) ?_
    by_cases h : i = k
    · subst h; rw [h0]; simp [Nat.Coprime]
    · exact Nat.Coprime.pow_right _ (prime_coprime hi (by omega) h)
theorem prodP_dvd {e : Nat → Nat} {i : Nat} (h1 : 1 ≤ e i) : ∀ k, i < k → primeN i ∣ prodP e k
  | k + 1, h => by
    rw [prodP]
    by_cases hk : i = k
    · subst hk
      exact Nat.dvd_mul_left_of_dvd (Nat.dvd_trans (by rw [Nat.pow_one]; exact Nat.dvd_refl _) (Nat.pow_dvd_pow _ h1)) _
    · exact Nat.dvd_mul_right_of_dvd (prodP_dvd h1 k (by omega)) _
/-- exponents above and below 0 -/
def posF (f : Nat → Int) (s : Int) (j : Nat) : Nat := (s * f j).toNat
theorem prod_ne {e f : Nat → Nat} {i : Nat} (hi : i < 18) (h1 : 1 ≤ e i) (h0 : f i = 0) : prodP e 18 ≠ prodP f 18 := by
  intro h
  have hd := prodP_dvd h1 18 hi
  rw [h] at hd
  have hc := prodP_coprime hi h0 18 (Nat.le_refl _)
  have := Nat.Coprime.eq_one_of_dvd hc hd
  have := (primeN_bd i).1
  omega
/-- products are equal only where there is nothing -/
theorem prod_eq_zero {f : Nat → Int} (h : prodP (posF f 1) 18 = prodP (posF f (-1)) 18) : ∀ i, i < 18 → f i = 0 := by
  intro i hi
  rcases Int.lt_trichotomy (f i) 0 with h1 | h1 | h1
  · exact absurd h.symm (prod_ne hi (by unfold posF; omega) (by unfold posF; omega))
  · exact h1
  · exact absurd h (prod_ne hi (by unfold posF; omega) (by unfold posF; omega))

/-! ### a number and its powers -/
theorem strip_prod {p : Nat} (hp : 2 ≤ p) : ∀ (t n : Nat), n = p ^ (strip p t n).1 * (strip p t n).2
  | 0, n => by simp [strip]
  | t + 1, n => by
    unfold strip
    split
    · rename_i hm
      have ih := strip_prod hp t (n / p)
      have hd := Nat.div_add_mod n p
      rw [hm, Nat.add_zero] at hd
      dsimp only
      rw [Nat.pow_succ, Nat.mul_comm (p ^ _) p, Nat.mul_assoc, ← ih, hd]
    · simp
theorem ofF_prod (n : Nat) : ∀ k, n = prodP (fun j => (ofF n k j).toNat) k * ofN n k
  | 0 => by simp [prodP, ofN]
  | k + 1 => by
    have ih := ofF_prod n k
    have hs := strip_prod (primeN_bd k).1 63 (ofN n k)
    have e1 : prodP (fun j => (ofF n (k + 1) j).toNat) k = prodP (fun j => (ofF n k j).toNat) k := prodP_congr k fun j hj => by
      simp only [ofF, upA, if_neg (show ¬ j = k by omega)]
    rw [prodP, e1, ofN]
    have e2 : (ofF n (k + 1) k).toNat = (strip (primeN k) 63 (ofN n k)).1 := by simp [ofF, upA]
    rw [e2, Nat.mul_assoc, ← hs, ← ih]
theorem ofF_nonneg (n : Nat) : ∀ k i, 0 ≤ ofF n k i
  | 0, _ => by simp [ofF, zeroF]
  | k + 1, i => by
    unfold ofF upA
    split
    · omega
    · exact ofF_nonneg n k i
/-- the quotient of two numbers compares like these -/
theorem quot_cmp {a b : Nat → Nat} {n m : Nat} (hn : n = prodP a 18) (hm : m = prodP b 18) (f : Nat → Int) (hf : ∀ i, i < 18 → f i = (a i : Int) - (b i : Int)) : sgn (prodP (posF f 1) 18) (prodP (posF f (-1)) 18) = sgn n m := by
  have h1 : n = prodP (posF f 1) 18 * prodP (fun i => min (a i) (b i)) 18 := by
    rw [hn, ← prodP_add]
    exact prodP_congr 18 fun j hj => by
      have := hf j hj
      unfold posF; omega
  have h2 : m = prodP (posF f (-1)) 18 * prodP (fun i => min (a i) (b i)) 18 := by
    rw [hm, ← prodP_add]
    exact prodP_congr 18 fun j hj => by
      have := hf j hj
      unfold posF; omega
  have h3 := prodP_pos (fun i => min (a i) (b i)) 18
  generalize prodP (posF f 1) 18 = x at *
  generalize prodP (posF f (-1)) 18 = y at *
  generalize prodP (fun i => min (a i) (b i)) 18 = z at *
  subst h1 h2
  unfold sgn
  by_cases hxy : x < y
  · rw [if_pos hxy, if_pos (Nat.mul_lt_mul_of_pos_right hxy h3)]
  · have hle := Nat.mul_le_mul_right z (Nat.le_of_not_lt hxy)
    have hn1 : ¬ x * z < y * z := Nat.not_lt.2 hle
    rw [if_neg hxy, if_neg hn1]
    by_cases hyx : y < x
    · rw [if_pos hyx, if_pos (Nat.mul_lt_mul_of_pos_right hyx h3)]
    · have hn2 : ¬ y * z < x * z := Nat.not_lt.2 (Nat.mul_le_mul_right z (Nat.le_of_not_lt hyx))
      rw [if_neg hyx, if_neg hn2]
end Go.Proofs.YtglpoiaedkoecaaDoor.Am
