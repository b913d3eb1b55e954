/- Chapter 02, plain: each part is met equally often. -/
import Derived.Test.YtmnaidemihcfaaaIxSp
namespace Go.Proofs.Ytmnaidemihcfaaa

def sumTo (f : Nat → Int) : Nat → Int
  | 0 => 0
  | n + 1 => sumTo f n + f n

def cntP (P : Nat → Bool) (n : Nat) : Int := ((List.range n).countP P : Nat)

theorem cntP_split (P : Nat → Bool) (M : Nat) : ∀ c : Nat, cntP P (c * M) = sumTo (fun v => cntP (fun i => P (v * M + i)) M) c
  | 0 => by simp [cntP, sumTo]
  | c + 1 => by
    have ih := cntP_split P M c
    simp only [sumTo, ← ih]
    unfold cntP
    rw [Nat.add_mul, Nat.one_mul, List.range_add, List.countP_append, List.countP_map]
    simp [Function.comp_def]

theorem cntP_congr {P P' : Nat → Bool} {n : Nat} (h : ∀ i, i < n → P i = P' i) : cntP P n = cntP P' n := by
  unfold cntP
  rw [List.countP_congr (fun x hx => by rw [h x (by simpa using hx)])]

theorem sumTo_congr {f f' : Nat → Int} : ∀ {n : Nat}, (∀ i, i < n → f i = f' i) → sumTo f n = sumTo f' n
  | 0, _ => rfl
  | n + 1, h => by simp only [sumTo]; rw [sumTo_congr (fun i hi => h i (by omega)), h n (by omega)]

theorem sumTo_const (x : Int) : ∀ n : Nat, sumTo (fun _ => x) n = n * x
  | 0 => by simp [sumTo]
  | n + 1 => by
    simp only [sumTo]; rw [sumTo_const x n]
    have : ((n + 1 : Nat) : Int) * x = n * x + x := by rw [Int.natCast_add, Int.add_mul]; simp
    omega

/-- the product of the cards at the places -/
def ppG : Nat → List Int → List Int → Int
  | k, c :: cs, p :: ps => if p = k then c * ppG (k + 1) cs ps else ppG (k + 1) cs (p :: ps)
  | _, _, _ => 1

theorem ppG_nil (k : Nat) (cs : List Int) : ppG k cs [] = 1 := by cases cs <;> rfl

theorem ppG_pos : ∀ (cs ps : List Int) (k : Nat), (∀ c ∈ cs, 1 ≤ c) → 1 ≤ ppG k cs ps
  | [], _, _, _ => by simp [ppG]
  | c :: cs, [], k, _ => by simp [ppG]
  | c :: cs, p :: ps, k, h => by
    have h1 := h c List.mem_cons_self
    have h2 := ppG_pos cs ps (k + 1) (fun x hx => h x (List.mem_cons_of_mem _ hx))
    have h3 := ppG_pos cs (p :: ps) (k + 1) (fun x hx => h x (List.mem_cons_of_mem _ hx))
    unfold ppG
    split
    · have : 1 * 1 ≤ c * ppG (k + 1) cs ps := Int.mul_le_mul h1 h2 (by omega) (by omega)
      omega
    · exact h3

theorem valL_cons {c : Int} {cs : List Int} (hc : 1 ≤ c) (i : Int) : valL (c :: cs) i = (i / prodL cs) :: valL cs (i % prodL cs) := by
  unfold valL
  simp only [valsG, prodL]
  rw [Int.mul_ediv_cancel_left _ (by omega)]

theorem split_div {M : Int} (v i : Int) (h0 : 0 ≤ i) (h1 : i < M) : (v * M + i) / M = v ∧ (v * M + i) % M = i := by
  have hM : 0 < M := by omega
  constructor
  · rw [Int.add_comm, Int.add_mul_ediv_right _ _ (by omega), Int.ediv_eq_zero_of_lt h0 h1]; omega
  · rw [Int.add_comm, Int.add_mul_emod_self_right, Int.emod_eq_of_lt h0 h1]

theorem cnt_windows (X PP M : Int) (hPP : 1 ≤ PP) (j : Int) (f : Nat → Int) (hf : ∀ v : Nat, f v * PP = if X + v * PP ≤ j ∧ j < X + v * PP + PP then M else 0) :
    ∀ u : Nat, sumTo f u * PP = if X ≤ j ∧ j < X + u * PP then M else 0
  | 0 => by
    simp only [sumTo, Int.zero_mul]
    rw [if_neg (by simp)]
  | u + 1 => by
    have ih := cnt_windows X PP M hPP j f hf u
    have hu := hf u
    simp only [sumTo, Int.add_mul, ih, hu]
    have e : ((u + 1 : Nat) : Int) * PP = u * PP + PP := by rw [Int.natCast_add, Int.add_mul]; simp
    have hnn : 0 ≤ (u : Int) * PP := Int.mul_nonneg (by omega) (by omega)
    rw [e]
    generalize (u : Int) * PP = Y at *
    by_cases h1 : X ≤ j ∧ j < X + Y
    · rw [if_pos h1, if_neg (by omega), if_pos (by omega)]; omega
    · by_cases h2 : X + Y ≤ j ∧ j < X + Y + PP
      · rw [if_neg h1, if_pos h2, if_pos (by omega)]; omega
      · rw [if_neg h1, if_neg h2, if_neg (by omega)]; omega

theorem cnt_part : ∀ (cs ps : List Int) (k : Nat) (n j : Int), (∀ c ∈ cs, 1 ≤ c) →
    cntP (fun i => decide (partG k cs (valL cs i) ps n = j)) (prodL cs).toNat * ppG k cs ps = if n * ppG k cs ps ≤ j ∧ j < n * ppG k cs ps + ppG k cs ps then prodL cs else 0
  | [], ps, k, n, j, _ => by
    simp only [partG_end, prodL, ppG, Int.mul_one]
    by_cases h : n = j
    · subst h
      rw [if_pos (by omega)]; simp [cntP]
    · rw [if_neg (by omega)]; simp [cntP, h]
  | c :: cs, [], k, n, j, hp => by
    simp only [partG_nil, ppG_nil, Int.mul_one]
    have hpos := prodL_pos (c :: cs) hp
    by_cases h : n = j
    · subst h
      rw [if_pos (by omega)]; simp [cntP]; omega
    · rw [if_neg (by omega)]; simp [cntP, h]
  | c :: cs, p :: ps, k, n, j, hp => by
    have hc := hp c List.mem_cons_self
    have hp' : ∀ x ∈ cs, 1 ≤ x := fun x hx => hp x (List.mem_cons_of_mem _ hx)
    have hM := prodL_pos cs hp'
    obtain ⟨C, hC⟩ : ∃ C : Nat, c = C := ⟨c.toNat, by omega⟩
    obtain ⟨M, hMM⟩ : ∃ M : Nat, prodL cs = M := ⟨(prodL cs).toNat, by omega⟩
    have hsz : (prodL (c :: cs)).toNat = C * M := by
      simp only [prodL, hC, hMM]; rw [← Int.natCast_mul, Int.toNat_natCast]
    rw [hsz, cntP_split]
    have hval : ∀ (v i : Nat), i < M → valL (c :: cs) ((v * M + i : Nat) : Int) = (v : Int) :: valL cs i := by
      intro v i hi
      rw [valL_cons hc, hMM]
      have := split_div (M := (M : Int)) v i (by omega) (by omega)
      rw [show ((v * M + i : Nat) : Int) = (v : Int) * M + i by simp]
      rw [this.1, this.2]
    by_cases hpk : p = k
    · have hpp : ppG k (c :: cs) (p :: ps) = c * ppG (k + 1) cs ps := by simp [ppG, hpk]
      have hf : ∀ v : Nat, cntP (fun i => decide (partG k (c :: cs) (valL (c :: cs) ((v * M + i : Nat) : Int)) (p :: ps) n = j)) M * ppG (k + 1) cs ps =
          if (n * c) * ppG (k + 1) cs ps + v * ppG (k + 1) cs ps ≤ j ∧ j < (n * c) * ppG (k + 1) cs ps + v * ppG (k + 1) cs ps + ppG (k + 1) cs ps then prodL cs else 0 := by
        intro v
        have ih := cnt_part cs ps (k + 1) (n * c + v) j hp'
        rw [hMM, Int.toNat_natCast] at ih
        rw [cntP_congr (P' := fun i => decide (partG (k + 1) cs (valL cs i) ps (n * c + v) = j)) (fun i hi => by rw [hval v i hi]; simp [partG, hpk]), ih, Int.add_mul, hMM]
      have := cnt_windows ((n * c) * ppG (k + 1) cs ps) (ppG (k + 1) cs ps) (prodL cs) (ppG_pos cs ps (k + 1) hp') j _ hf C
      rw [hpp, ← Int.mul_assoc, Int.mul_comm _ c, Int.mul_assoc, this]
      have e1 : n * (c * ppG (k + 1) cs ps) = n * c * ppG (k + 1) cs ps := by rw [Int.mul_assoc]
      rw [e1, ← hC]
      simp only [prodL]
      split
      · rfl
      · simp
    · have hpp : ppG k (c :: cs) (p :: ps) = ppG (k + 1) cs (p :: ps) := by simp [ppG, hpk]
      have ih := cnt_part cs (p :: ps) (k + 1) n j hp'
      rw [hMM, Int.toNat_natCast] at ih
      rw [hpp, sumTo_congr (f' := fun _ => cntP (fun i => decide (partG (k + 1) cs (valL cs i) (p :: ps) n = j)) M)
        (fun v _ => cntP_congr (fun i hi => by rw [hval v i hi]; simp [partG, hpk])), sumTo_const, Int.mul_assoc, ih, ← hC]
      simp only [prodL, hMM]
      split
      · rfl
      · simp

theorem hits_count {cs ps : List Int} (hg : Good cs) {j : Int} (h0 : 0 ≤ j) (h1 : j < ppG 0 cs ps) : ((hits cs ps j).length : Int) * ppG 0 cs ps = prodL cs := by
  have := cnt_part cs ps 0 0 j (fun c hc => (hg.card c hc).1)
  rw [if_pos (by omega)] at this
  rw [← this]
  unfold cntP hits hitsTo
  rw [List.countP_eq_length_filter]
  rfl

end Go.Proofs.Ytmnaidemihcfaaa
