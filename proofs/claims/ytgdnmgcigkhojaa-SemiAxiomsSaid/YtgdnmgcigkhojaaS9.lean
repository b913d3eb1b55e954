/- Chapter 04: the axioms of the kinds, for small elements: plain. -/
import Derived.Test.YtgdnmgcigkhojaaS1
namespace Go.Proofs.Ytgdnmgcigkhojaa.Am
open Go.RowKit
set_option linter.unusedVariables false

/-- elements of a kind, with numbers up to n -/
def upE (n k a b : Int) : Prop := okE k a b = true ∧ a ≤ n ∧ b ≤ n
theorem addI_lt {a b : Int} (h : a + b < 4611686018427387904) : addI a b = a + b := by unfold addI big; rw [if_neg (by omega)]
theorem mulI_lt {a b : Int} (h : a * b < 4611686018427387904) : mulI a b = a * b := by unfold mulI big; rw [if_neg (by omega)]
theorem mul_le2 {a b n : Int} (h1 : 0 ≤ a) (h2 : a ≤ n) (h3 : 0 ≤ b) (h4 : b ≤ n) : 0 ≤ a * b ∧ a * b ≤ n * n := ⟨Int.mul_nonneg h1 h3, Int.mul_le_mul h2 h4 h3 (by omega)⟩
theorem kinds5 {n k a b : Int} (h : upE n k a b) : k = 1 ∨ k = 2 ∨ k = 3 ∨ k = 4 ∨ k = 5 := by
  have h1 := h.1
  by_cases h : k = 1 ∨ k = 2 ∨ k = 3 ∨ k = 4 ∨ k = 5
  · exact h
  · unfold okE at h1
    rw [if_neg (by omega), if_neg (by omega), if_neg (by omega), if_neg (by omega)] at h1
    cases h1
theorem ok1 {a b : Int} : okE 1 a b = true ↔ 0 ≤ a ∧ a ≤ 4611686018427387903 ∧ b = 0 := by simp [okE]
theorem ok2 {a b : Int} : okE 2 a b = true ↔ 0 ≤ a ∧ a ≤ 4611686018427387903 ∧ b = 0 := by simp [okE]
theorem ok3 {a b : Int} : okE 3 a b = true ↔ -1 ≤ a ∧ a ≤ 4611686018427387903 ∧ b = 0 := by simp [okE]
theorem ok4 {a b : Int} : okE 4 a b = true ↔ (a = 0 ∨ a = 1) ∧ b = 0 := by simp [okE]
theorem ok5 {a b : Int} : okE 5 a b = true ↔ 0 ≤ a ∧ a ≤ 4611686018427387903 ∧ 0 ≤ b ∧ b ≤ 4611686018427387903 ∧ (a = 0 ↔ b = 0) := by simp [okE]
theorem plusE_1 {a b c d : Int} : plusE 1 a b c d = (addI a c, 0) := by unfold plusE; rw [if_pos rfl]
theorem plusE_2 {a b c d : Int} : plusE 2 a b c d = (maxI a c, 0) := by unfold plusE; rw [if_neg (by decide), if_neg (by decide), if_neg (by decide)]
theorem plusE_4 {a b c d : Int} : plusE 4 a b c d = (maxI a c, 0) := by unfold plusE; rw [if_neg (by decide), if_neg (by decide), if_neg (by decide)]
theorem timesE_1 {a b c d : Int} : timesE 1 a b c d = (mulI a c, 0) := by unfold timesE; rw [if_neg (by decide), if_neg (by decide)]
theorem timesE_2 {a b c d : Int} : timesE 2 a b c d = (mulI a c, 0) := by unfold timesE; rw [if_neg (by decide), if_neg (by decide)]
theorem timesE_4 {a b c d : Int} : timesE 4 a b c d = (mulI a c, 0) := by unfold timesE; rw [if_neg (by decide), if_neg (by decide)]

/-- sums of small elements are small -/
theorem plus_up {n k a b c d p q : Int} (hn : n ≤ 1000000000) (h1 : upE n k a b) (h2 : upE n k c d) (h : plusE k a b c d = (p, q)) : upE (n + n) k p q := by
  rcases kinds5 h1 with rfl | rfl | rfl | rfl | rfl <;> obtain ⟨h1, h3, h4⟩ := h1 <;> obtain ⟨h2, h5, h6⟩ := h2
  · rw [ok1] at h1 h2
    rw [plusE_1, addI_lt (by omega)] at h
    cases h
    exact ⟨ok1.2 (by omega), by omega, by omega⟩
  · rw [ok2] at h1 h2
    rw [plusE_2] at h
    unfold maxI at h
    split at h <;> cases h <;> exact ⟨ok2.2 (by omega), by omega, by omega⟩
  · rw [ok3] at h1 h2
    rw [plusE_3] at h
    split at h <;> cases h <;> refine ⟨ok3.2 (by omega), ?_, ?_⟩ <;> omega
  · rw [ok4] at h1 h2
    rw [plusE_4] at h
    unfold maxI at h
    split at h <;> cases h <;> exact ⟨ok4.2 (by omega), by omega, by omega⟩
  · rw [ok5] at h1 h2
    rw [plusE_5, addI_lt (by omega)] at h
    split at h
    · cases h; exact ⟨ok5.2 (by omega), by omega, by omega⟩
    · split at h <;> cases h <;> exact ⟨ok5.2 (by omega), by omega, by omega⟩
theorem mul_zero_iff {a c : Int} : a * c = 0 ↔ a = 0 ∨ c = 0 := Int.mul_eq_zero
/-- and products -/
theorem times_up {n k a b c d p q : Int} (hn0 : 1 ≤ n) (hn : n * n ≤ 1000000000) (h1 : upE n k a b) (h2 : upE n k c d) (h : timesE k a b c d = (p, q)) : upE (n * n + n) k p q := by
  have hnn : 0 ≤ n * n := Int.mul_nonneg (by omega) (by omega)
  have hn2 : n ≤ n * n := by
    have := Int.mul_le_mul (show (1 : Int) ≤ n by omega) (Int.le_refl n) (by omega) (by omega)
    rwa [Int.one_mul] at this
  rcases kinds5 h1 with rfl | rfl | rfl | rfl | rfl <;> obtain ⟨h1, h3, h4⟩ := h1 <;> obtain ⟨h2, h5, h6⟩ := h2
  · rw [ok1] at h1 h2
    have := mul_le2 h1.1 h3 h2.1 h5
    rw [timesE_1, mulI_lt (by omega)] at h
    cases h
    exact ⟨ok1.2 (by omega), by omega, by omega⟩
  · rw [ok2] at h1 h2
    have := mul_le2 h1.1 h3 h2.1 h5
    rw [timesE_2, mulI_lt (by omega)] at h
    cases h
    exact ⟨ok2.2 (by omega), by omega, by omega⟩
  · rw [ok3] at h1 h2
    rw [timesE_3, addI_lt (by omega)] at h
    split at h <;> cases h <;> refine ⟨ok3.2 (by omega), ?_, ?_⟩ <;> omega
  · rw [ok4] at h1 h2
    have e : mulI a c = 0 ∨ mulI a c = 1 := by rcases h1.1 with rfl | rfl <;> rcases h2.1 with rfl | rfl <;> decide
    rw [timesE_4] at h
    cases h
    exact ⟨ok4.2 ⟨e, rfl⟩, by omega, by omega⟩
  · rw [ok5] at h1 h2
    have g1 := mul_le2 h1.1 h3 h2.1 h5
    have g2 := mul_le2 h1.2.2.1 h4 h2.2.2.1 h6
    rw [timesE_5, mulI_lt (by omega), mulI_lt (by omega)] at h
    cases h
    refine ⟨ok5.2 ⟨by omega, by omega, by omega, by omega, ?_⟩, by omega, by omega⟩
    rw [mul_zero_iff, mul_zero_iff, h1.2.2.2.2, h2.2.2.2.2]
theorem up_mono {n m k a b : Int} (h : upE n k a b) (hm : n ≤ m) : upE m k a b := ⟨h.1, by have := h.2.1; omega, by have := h.2.2; omega⟩

theorem plus_comm {n k a b c d : Int} (h1 : upE n k a b) (h2 : upE n k c d) : plusE k a b c d = plusE k c d a b := by
  rcases kinds5 h1 with rfl | rfl | rfl | rfl | rfl <;> obtain ⟨h1, h3, h4⟩ := h1 <;> obtain ⟨h2, h5, h6⟩ := h2
  · rw [plusE_1, plusE_1]; unfold addI; rw [Int.add_comm]
  · rw [plusE_2, plusE_2]; unfold maxI; congr 1; split <;> split <;> omega
  · rw [ok3] at h1 h2
    rw [plusE_3, plusE_3]
    split <;> split <;> first | rfl | (rw [Prod.mk.injEq]; omega)
  · rw [plusE_4, plusE_4]; unfold maxI; congr 1; split <;> split <;> omega
  · rw [plusE_5, plusE_5, show addI b d = addI d b by unfold addI; rw [Int.add_comm]]
    by_cases g : c < a
    · rw [if_pos g, if_neg (by omega), if_pos g]
    · rw [if_neg g]
      by_cases g2 : a < c
      · rw [if_pos g2, if_pos g2]
      · rw [if_neg g2, if_neg g2, if_neg g, show a = c by omega]
theorem times_comm {k a b c d : Int} : timesE k a b c d = timesE k c d a b := by
  unfold timesE
  have e1 : addI a c = addI c a := by unfold addI; rw [Int.add_comm]
  have e2 : mulI a c = mulI c a := by unfold mulI; rw [Int.mul_comm]
  have e3 : mulI b d = mulI d b := by unfold mulI; rw [Int.mul_comm]
  rw [e1, e2, e3]
  split
  · split <;> split <;> first | rfl | omega
  · rfl

/-- plus does not depend on the grouping -/
theorem plus_assoc {n k a b c d e f p q r s : Int} (hn : n ≤ 1000000000) (h1 : upE n k a b) (h2 : upE n k c d) (h3 : upE n k e f) (hp : plusE k a b c d = (p, q)) (hr : plusE k c d e f = (r, s)) : plusE k p q e f = plusE k a b r s := by
  rcases kinds5 h1 with rfl | rfl | rfl | rfl | rfl <;> obtain ⟨h1, h4, h5⟩ := h1 <;> obtain ⟨h2, h6, h7⟩ := h2 <;> obtain ⟨h3, h8, h9⟩ := h3
  · rw [ok1] at h1 h2 h3
    rw [plusE_1, addI_lt (by omega)] at hp hr
    cases hp; cases hr
    rw [plusE_1, plusE_1, addI_lt (by omega), addI_lt (by omega), Int.add_assoc]
  · rw [plusE_2] at hp hr
    cases hp; cases hr
    rw [plusE_2, plusE_2]; unfold maxI; congr 1; (repeat' split) <;> omega
  · rw [ok3] at h1 h2 h3
    rw [plusE_3] at hp hr
    rw [plusE_3, plusE_3]
    split at hp <;> cases hp <;> split at hr <;> cases hr <;> (repeat' split) <;> first | rfl | omega | (rw [Prod.mk.injEq]; omega)
  · rw [plusE_4] at hp hr
    cases hp; cases hr
    rw [plusE_4, plusE_4]; unfold maxI; congr 1; (repeat' split) <;> omega
  · rw [ok5] at h1 h2 h3
    rw [plusE_5, addI_lt (by omega)] at hp hr
    have hq : q ≤ n + n := by
      split at hp
      · cases hp; omega
      · split at hp <;> cases hp <;> omega
    have hs : s ≤ n + n := by
      split at hr
      · cases hr; omega
      · split at hr <;> cases hr <;> omega
    rw [plusE_5, plusE_5, addI_lt (by omega), addI_lt (by omega)]
    split at hp
    · cases hp
      split at hr
      · cases hr
        (repeat' split) <;> first | rfl | omega | (rw [Prod.mk.injEq]; omega)
      · split at hr <;> cases hr <;> (repeat' split) <;> first | rfl | omega | (rw [Prod.mk.injEq]; omega)
    · split at hp
      · cases hp
        split at hr
        · cases hr
          (repeat' split) <;> first | rfl | omega | (rw [Prod.mk.injEq]; omega)
        · split at hr <;> cases hr <;> (repeat' split) <;> first | rfl | omega | (rw [Prod.mk.injEq]; omega)
      · cases hp
        split at hr
        · cases hr
          (repeat' split) <;> first | rfl | omega | (rw [Prod.mk.injEq]; omega)
        · split at hr <;> cases hr <;> (repeat' split) <;> first | rfl | omega | (rw [Prod.mk.injEq]; omega)
theorem mul3 {a b c n : Int} (h1 : 0 ≤ a) (h2 : a ≤ n) (h3 : 0 ≤ b) (h4 : b ≤ n) (h5 : 0 ≤ c) (h6 : c ≤ n) (hn : n ≤ 10000) : a * b * c ≤ 1000000000000 ∧ a * (b * c) ≤ 1000000000000 ∧ a * b ≤ 100000000 ∧ b * c ≤ 100000000 := by
  have g1 := (mul_le2 h1 (show a ≤ 10000 by omega) h3 (show b ≤ 10000 by omega))
  have g2 := (mul_le2 h3 (show b ≤ 10000 by omega) h5 (show c ≤ 10000 by omega))
  have g3 := Int.mul_le_mul g1.2 (show c ≤ 10000 by omega) h5 (by decide)
  rw [Int.mul_assoc] at g3 ⊢
  omega
theorem times_assoc {n k a b c d e f p q r s : Int} (hn : n ≤ 10000) (h1 : upE n k a b) (h2 : upE n k c d) (h3 : upE n k e f) (hp : timesE k a b c d = (p, q)) (hr : timesE k c d e f = (r, s)) : timesE k p q e f = timesE k a b r s := by
  rcases kinds5 h1 with rfl | rfl | rfl | rfl | rfl <;> obtain ⟨h1, h4, h5⟩ := h1 <;> obtain ⟨h2, h6, h7⟩ := h2 <;> obtain ⟨h3, h8, h9⟩ := h3
  · rw [ok1] at h1 h2 h3
    have g := mul3 h1.1 h4 h2.1 h6 h3.1 h8 hn
    rw [timesE_1, mulI_lt (by omega)] at hp hr
    cases hp; cases hr
    rw [timesE_1, timesE_1, mulI_lt (by omega), mulI_lt (by omega), Int.mul_assoc]
  · rw [ok2] at h1 h2 h3
    have g := mul3 h1.1 h4 h2.1 h6 h3.1 h8 hn
    rw [timesE_2, mulI_lt (by omega)] at hp hr
    cases hp; cases hr
    rw [timesE_2, timesE_2, mulI_lt (by omega), mulI_lt (by omega), Int.mul_assoc]
  · rw [ok3] at h1 h2 h3
    rw [timesE_3, addI_lt (by omega)] at hp hr
    rw [timesE_3, timesE_3]
    split at hp <;> cases hp <;> split at hr <;> cases hr
    · rw [if_pos (by omega), if_pos (by omega)]
    · rw [if_pos (by omega), if_pos (by omega)]
    · rw [if_pos (by omega), if_pos (by omega)]
    · rw [addI_lt (by omega), addI_lt (by omega)]
      rw [if_neg (by omega), if_neg (by omega), Int.add_assoc]
  · rw [ok4] at h1 h2 h3
    rw [timesE_4] at hp hr
    cases hp; cases hr
    rw [timesE_4, timesE_4]
    rcases h1.1 with rfl | rfl <;> rcases h2.1 with rfl | rfl <;> rcases h3.1 with rfl | rfl <;> decide
  · rw [ok5] at h1 h2 h3
    have g := mul3 h1.1 h4 h2.1 h6 h3.1 h8 hn
    have g' := mul3 h1.2.2.1 h5 h2.2.2.1 h7 h3.2.2.1 h9 hn
    rw [timesE_5, mulI_lt (by omega), mulI_lt (by omega)] at hp hr
    cases hp; cases hr
    rw [timesE_5, timesE_5, mulI_lt (by omega), mulI_lt (by omega), mulI_lt (by omega), mulI_lt (by omega), Int.mul_assoc, Int.mul_assoc]
def zeA (k : Int) : Int := if k = 3 then -1 else 0
def onA (k : Int) : Int := if k = 3 then 0 else 1
def onB (k : Int) : Int := if k = 5 then 1 else 0
theorem zero_up {n k a b : Int} (h1 : upE n k a b) (hn : 1 ≤ n) : upE n k (zeA k) 0 := by
  rcases kinds5 h1 with rfl | rfl | rfl | rfl | rfl
  · exact ⟨ok1.2 (by decide), by show (0 : Int) ≤ n; omega, by omega⟩
  · exact ⟨ok2.2 (by decide), by show (0 : Int) ≤ n; omega, by omega⟩
  · exact ⟨ok3.2 (by decide), by show (-1 : Int) ≤ n; omega, by omega⟩
  · exact ⟨ok4.2 (by decide), by show (0 : Int) ≤ n; omega, by omega⟩
  · exact ⟨ok5.2 (by decide), by show (0 : Int) ≤ n; omega, by omega⟩
theorem one_up {n k a b : Int} (h1 : upE n k a b) (hn : 1 ≤ n) : upE n k (onA k) (onB k) := by
  rcases kinds5 h1 with rfl | rfl | rfl | rfl | rfl
  · exact ⟨ok1.2 (by decide), by show (1 : Int) ≤ n; omega, by show (0 : Int) ≤ n; omega⟩
  · exact ⟨ok2.2 (by decide), by show (1 : Int) ≤ n; omega, by show (0 : Int) ≤ n; omega⟩
  · exact ⟨ok3.2 (by decide), by show (0 : Int) ≤ n; omega, by show (0 : Int) ≤ n; omega⟩
  · exact ⟨ok4.2 (by decide), by show (1 : Int) ≤ n; omega, by show (0 : Int) ≤ n; omega⟩
  · exact ⟨ok5.2 (by decide), by show (1 : Int) ≤ n; omega, by show (1 : Int) ≤ n; omega⟩
/-- zero changes nothing -/
theorem plus_zero {n k a b : Int} (hn : n ≤ 1000000000) (h1 : upE n k a b) : plusE k a b (zeA k) 0 = (a, b) := by
  rcases kinds5 h1 with rfl | rfl | rfl | rfl | rfl <;> obtain ⟨h1, h4, h5⟩ := h1
  · rw [ok1] at h1
    rw [show zeA 1 = 0 from rfl, plusE_1, addI_lt (by omega), Int.add_zero, h1.2.2]
  · rw [ok2] at h1
    rw [show zeA 2 = 0 from rfl, plusE_2, h1.2.2]; unfold maxI; rw [if_neg (by omega)]
  · rw [ok3] at h1
    rw [show zeA 3 = -1 from rfl, plusE_3]
    split
    · rw [Prod.mk.injEq]; omega
    · rfl
  · rw [ok4] at h1
    rw [show zeA 4 = 0 from rfl, plusE_4, h1.2]; unfold maxI; rw [if_neg (by omega)]
  · rw [ok5] at h1
    rw [show zeA 5 = 0 from rfl, plusE_5, addI_lt (by omega), Int.add_zero]
    split
    · rfl
    · rw [if_neg (by omega)]
/-- one changes nothing -/
theorem times_one {n k a b : Int} (hn : n ≤ 1000000000) (h1 : upE n k a b) : timesE k a b (onA k) (onB k) = (a, b) := by
  rcases kinds5 h1 with rfl | rfl | rfl | rfl | rfl <;> obtain ⟨h1, h4, h5⟩ := h1
  · rw [ok1] at h1
    rw [show onA 1 = 1 from rfl, timesE_1, mulI_lt (by omega), Int.mul_one, h1.2.2]
  · rw [ok2] at h1
    rw [show onA 2 = 1 from rfl, timesE_2, mulI_lt (by omega), Int.mul_one, h1.2.2]
  · rw [ok3] at h1
    rw [show onA 3 = 0 from rfl, timesE_3]
    split
    · rw [Prod.mk.injEq]; omega
    · rw [addI_lt (by omega), Int.add_zero, h1.2.2]
  · rw [ok4] at h1
    rw [show onA 4 = 1 from rfl, timesE_4, h1.2]
    rcases h1.1 with rfl | rfl <;> decide
  · rw [ok5] at h1
    rw [show onA 5 = 1 from rfl, show onB 5 = 1 from rfl, timesE_5, mulI_lt (by omega), mulI_lt (by omega), Int.mul_one, Int.mul_one]
/-- times zero is zero -/
theorem times_zero {n k a b : Int} (h1 : upE n k a b) : timesE k a b (zeA k) 0 = (zeA k, 0) := by
  rcases kinds5 h1 with rfl | rfl | rfl | rfl | rfl
  · rw [show zeA 1 = 0 from rfl, timesE_1, mulI_lt (by omega), Int.mul_zero]
  · rw [show zeA 2 = 0 from rfl, timesE_2, mulI_lt (by omega), Int.mul_zero]
  · rw [show zeA 3 = -1 from rfl, timesE_3, if_pos (by omega)]
  · rw [show zeA 4 = 0 from rfl, timesE_4, mulI_lt (by omega), Int.mul_zero]
  · rw [show zeA 5 = 0 from rfl, timesE_5, mulI_lt (by omega), mulI_lt (by omega), Int.mul_zero, Int.mul_zero]
theorem mul_cmp {a c e : Int} (ha : 0 < a) : (a * c < a * e ↔ c < e) ∧ (a * e < a * c ↔ e < c) :=
  ⟨⟨fun h => Int.lt_of_mul_lt_mul_left h (by omega), fun h => Int.mul_lt_mul_of_pos_left h ha⟩, ⟨fun h => Int.lt_of_mul_lt_mul_left h (by omega), fun h => Int.mul_lt_mul_of_pos_left h ha⟩⟩
/-- times distributes over plus -/
theorem times_plus {n k a b c d e f p q r s t u : Int} (hn : n ≤ 10000) (h1 : upE n k a b) (h2 : upE n k c d) (h3 : upE n k e f) (hp : plusE k c d e f = (p, q)) (hr : timesE k a b c d = (r, s)) (ht : timesE k a b e f = (t, u)) : timesE k a b p q = plusE k r s t u := by
  rcases kinds5 h1 with rfl | rfl | rfl | rfl | rfl <;> obtain ⟨h1, h4, h5⟩ := h1 <;> obtain ⟨h2, h6, h7⟩ := h2 <;> obtain ⟨h3, h8, h9⟩ := h3
  · rw [ok1] at h1 h2 h3
    have g1 := mul3 h1.1 h4 h2.1 h6 h3.1 h8 hn
    have g2 := mul3 h1.1 h4 h3.1 h8 h2.1 h6 hn
    rw [plusE_1, addI_lt (by omega)] at hp
    rw [timesE_1, mulI_lt (by omega)] at hr ht
    cases hp; cases hr; cases ht
    rw [timesE_1, plusE_1, addI_lt (by omega), mulI_lt (by rw [Int.mul_add]; omega), Int.mul_add]
  · rw [ok2] at h1 h2 h3
    have g1 := mul3 h1.1 h4 h2.1 h6 h3.1 h8 hn
    have g2 := mul3 h1.1 h4 h3.1 h8 h2.1 h6 hn
    rw [timesE_2, mulI_lt (by omega)] at hr ht
    rw [plusE_2] at hp
    cases hp; cases hr; cases ht
    rw [timesE_2, plusE_2]
    unfold maxI
    by_cases ha : a = 0
    · subst ha; rw [mulI_lt (by omega)]; simp
    · have hm := @mul_cmp a c e (by omega)
      by_cases hce : c < e
      · rw [if_pos hce, if_pos (hm.1.2 hce), mulI_lt (by omega)]
      · rw [if_neg hce, if_neg (fun h => hce (hm.1.1 h)), mulI_lt (by omega)]
  · rw [ok3] at h1 h2 h3
    rw [timesE_3, addI_lt (by omega)] at hr ht
    rw [plusE_3] at hp
    rw [timesE_3, plusE_3]
    split at hp <;> cases hp <;> split at hr <;> cases hr <;> split at ht <;> cases ht
    all_goals rw [addI_lt (by omega)]
    all_goals (repeat' split) <;> first | rfl | omega | (rw [Prod.mk.injEq]; omega)
  · rw [ok4] at h1 h2 h3
    rw [timesE_4] at hr ht
    rw [plusE_4] at hp
    cases hp; cases hr; cases ht
    rw [timesE_4, plusE_4]
    rcases h1.1 with rfl | rfl <;> rcases h2.1 with rfl | rfl <;> rcases h3.1 with rfl | rfl <;> decide
  · rw [ok5] at h1 h2 h3
    have g1 := mul3 h1.1 h4 h2.1 h6 h3.1 h8 hn
    have g2 := mul3 h1.1 h4 h3.1 h8 h2.1 h6 hn
    have g1' := mul3 h1.2.2.1 h5 h2.2.2.1 h7 h3.2.2.1 h9 hn
    have g2' := mul3 h1.2.2.1 h5 h3.2.2.1 h9 h2.2.2.1 h7 hn
    rw [timesE_5, mulI_lt (by omega), mulI_lt (by omega)] at hr ht
    rw [plusE_5, addI_lt (by omega)] at hp
    cases hr; cases ht
    rw [timesE_5, plusE_5, addI_lt (by omega)]
    by_cases ha : a = 0
    · have hb : b = 0 := by omega
      subst ha hb
      simp only [Int.zero_mul]
      rw [if_neg (by omega), if_neg (by omega), mulI_lt (by omega), mulI_lt (by omega)]
      simp
    · have hm := @mul_cmp a c e (by omega)
      by_cases h10 : e < c
      · rw [if_pos h10] at hp
        cases hp
        rw [if_pos (hm.2.2 h10), mulI_lt (by omega), mulI_lt (by omega)]
      · rw [if_neg h10] at hp
        rw [if_neg (fun h => h10 (hm.2.1 h))]
        by_cases h11 : c < e
        · rw [if_pos h11] at hp
          cases hp
          rw [if_pos (hm.1.2 h11), mulI_lt (by omega), mulI_lt (by omega)]
        · rw [if_neg h11] at hp
          cases hp
          rw [if_neg (fun h => h11 (hm.1.1 h)), mulI_lt (by omega), mulI_lt (by rw [Int.mul_add]; omega), Int.mul_add]
end Go.Proofs.Ytgdnmgcigkhojaa.Am
