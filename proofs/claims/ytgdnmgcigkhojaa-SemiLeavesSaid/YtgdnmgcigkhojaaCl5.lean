/- The texts behind the claim: Chapter 04: what Combine reckons, plain: tables that agree; the whole result. Chapter 04: the reference's Index, Size, Next, All. Chapter 04: the reference's All, Cards. Chapter 04: the reference's Cards, place, Same. Chapter 04: the reference's Combine: its loops. Chapter 04: the reference's Combine: the sums. Chapter 04: the reference's Combine, whole. Chapter 04: the reference's Combine answers what the program's does. Chapter 04: Element; elements. Chapter 04: Same, cut, drafted tables. Chapter 04: drafted tables. SemiCombines: the walk: one comparison. SemiCombines: the walk: two lists to keep. Chapter 04: the examples hold (run by the machine). SemiCombines: the walk: the lists of tables. Chapter 04: the frame's lemmas: tables, drafts. Chapter 04: Combine of drafted tables, plain. SemiAgrees, plain: two drafted tables, combined in the kinds OrAnd, MaxProduct, MostMany. SemiAgrees, plain: what Combine answers for the law's tables. Chapter 04: the axioms of the kinds, for small elements: plain. SemiLeaves, plain: the number of a valuation; what Combine reckons at a place. SemiCombines: the walk, whole. SemiLeaves, plain: what Combine answers for the law's tables. SemiAgrees: the walk: its closure and its loops. -/
import Derived.Test.YtgdnmgcigkhojaaCl4

namespace Go.Proofs.Ytgdnmgcigkhojaa.Am
open Go.RowKit
set_option linter.unusedVariables false
set_option maxHeartbeats 1000000
theorem varsT_inc {vs : List Int} : ∀ {n : Nat}, varsT vs n = true → incT vs n ∧ ∀ i, i < n → vs.getD i 0 ≤ lastT vs n
  | 0, _ => ⟨⟨fun i h => absurd h (Nat.not_lt_zero _), fun i j _ h => absurd h (Nat.not_lt_zero _)⟩, fun i h => absurd h (Nat.not_lt_zero _)⟩
  | n + 1, h => by
    rw [varsT, Bool.and_eq_true, decide_eq_true_eq] at h
    obtain ⟨ih1, ih2⟩ := varsT_inc h.1
    have hl := varsT_last h.1
    refine ⟨⟨fun i hi => ?_, fun i j h1 h2 => ?_⟩, fun i hi => ?_⟩
    · by_cases e : i = n
      · subst e; omega
      · exact ih1.1 i (by omega)
    · by_cases e : j = n
      · subst e; have := ih2 i h1; omega
      · exact ih1.2 i j h1 (by omega)
    · show _ ≤ vs.getD n 0
      by_cases e : i = n
      · subst e; exact Int.le_refl _
      · have := ih2 i (by omega); omega
theorem withT_inc {f : Nat → Int} {ks : List Int} : ∀ {n : Nat}, withT f ks n = true → incT ks n ∧ (∀ i, i < n → f (ks.getD i 0).toNat ≠ 0) ∧ ∀ i, i < n → ks.getD i 0 ≤ lastT ks n
  | 0, _ => ⟨⟨fun i h => absurd h (Nat.not_lt_zero _), fun i j _ h => absurd h (Nat.not_lt_zero _)⟩, fun i h => absurd h (Nat.not_lt_zero _), fun i h => absurd h (Nat.not_lt_zero _)⟩
  | n + 1, h => by
    rw [withT, Bool.and_eq_true, decide_eq_true_eq] at h
    obtain ⟨ih1, ih3, ih2⟩ := withT_inc h.1
    have hl := lastT_bd h.1
    refine ⟨⟨fun i hi => ?_, fun i j h1 h2 => ?_⟩, fun i hi => ?_, fun i hi => ?_⟩
    · by_cases e : i = n
      · subst e; omega
      · exact ih1.1 i (by omega)
    · by_cases e : j = n
      · subst e; have := ih2 i h1; omega
      · exact ih1.2 i j h1 (by omega)
    · by_cases e : i = n
      · subst e; exact h.2.2.2
      · exact ih3 i (by omega)
    · show _ ≤ ks.getD n 0
      by_cases e : i = n
      · subst e; exact Int.le_refl _
      · have := ih2 i (by omega); omega
theorem cG_pre {f : Nat → Int} {vs cs : List Int} {k : Nat} (h : cG f vs cs (k + 1) = true) : cG f vs cs k = true ∧ okD (cF f vs cs k) vs cs k = true := by
  rw [cG_succ, Bool.and_eq_true] at h; exact h
theorem cF_keep {f : Nat → Int} {vs cs : List Int} {v : Nat} (hv : f v ≠ 0) : ∀ {k : Nat}, cG f vs cs k = true → cF f vs cs k v = f v
  | 0, _ => rfl
  | k + 1, h => by
    obtain ⟨h1, h2⟩ := cG_pre h
    have ih := cF_keep hv h1
    rw [cF_succ, if_pos h, up64]
    split
    · rename_i e
      unfold okD at h2
      rw [← e, ih] at h2
      simp only [Bool.or_eq_true, decide_eq_true_eq] at h2
      rcases h2 with h2 | h2
      · exact absurd h2 hv
      · exact h2.symm
    · exact ih
theorem cF_at {f : Nat → Int} {vs cs : List Int} (hi : ∀ n, incT vs n → True) {n : Nat} (hinc : incT vs n) : ∀ {k : Nat}, k ≤ n → cG f vs cs k = true → ∀ j, j < k → cF f vs cs k (vs.getD j 0).toNat = cs.getD j 0
  | 0, _, _, j, hj => absurd hj (Nat.not_lt_zero _)
  | k + 1, hk, h, j, hj => by
    obtain ⟨h1, h2⟩ := cG_pre h
    rw [cF_succ, if_pos h, up64]
    by_cases e : j = k
    · subst e; rw [if_pos rfl]
    · have a := hinc.2 j k (by omega) (by omega)
      have b := hinc.1 j (by omega)
      rw [if_neg (by omega)]
      exact cF_at hi hinc (by omega) h1 j (by omega)
theorem cF_cases {f : Nat → Int} {vs cs : List Int} {v : Nat} : ∀ k, cF f vs cs k v = f v ∨ ∃ j, j < k ∧ (vs.getD j 0).toNat = v ∧ cF f vs cs k v = cs.getD j 0
  | 0 => .inl rfl
  | k + 1 => by
    rw [cF_succ]
    have ih := cF_cases (f := f) (vs := vs) (cs := cs) (v := v) k
    split
    · rw [up64]
      split
      · rename_i e; exact .inr ⟨k, by omega, e.symm, rfl⟩
      · rcases ih with ih | ⟨j, a, b, c⟩
        · exact .inl ih
        · exact .inr ⟨j, by omega, b, c⟩
    · rcases ih with ih | ⟨j, a, b, c⟩
      · exact .inl ih
      · exact .inr ⟨j, by omega, b, c⟩
theorem aG_pre {VS CS : Nat → List Int} {k : Nat} (h : aG VS CS (k + 1) = true) : aG VS CS k = true := by
  cases h0 : aG VS CS k with
  | true => rfl
  | false => rw [(aG_stop h0 1).1] at h; exact absurd h (by decide)
section
variable {VS CS : Nat → List Int} {m : Nat}
theorem aF_keep {v : Nat} {k : Nat} (hv : aF VS CS k v ≠ 0) : ∀ n, aG VS CS (k + n) = true → aF VS CS (k + n) v = aF VS CS k v
  | 0, _ => rfl
  | n + 1, h => by
    have h0 := aG_pre (k := k + n) h
    have ih := aF_keep hv n h0
    show aF VS CS (k + n + 1) v = _
    rw [aF_succ h0, ← ih]
    refine cF_keep (by rw [ih]; exact hv) ?_
    rw [← aG_succ h0]; exact h
theorem aG_le {k : Nat} (h : aG VS CS m = true) (hk : k ≤ m) : aG VS CS k = true := by
  cases h0 : aG VS CS k with
  | true => rfl
  | false =>
    have := (aG_stop h0 (m - k)).1
    rw [show k + (m - k) = m by omega, h] at this
    exact absurd this (by decide)
theorem aF_at (h : aG VS CS m = true) (hT : ∀ i, i < m → incT (VS i) (CS i).length ∧ ∀ j, j < (CS i).length → 1 ≤ (CS i).getD j 0) {i j : Nat} (hi : i < m) (hj : j < (CS i).length) : aF VS CS m ((VS i).getD j 0).toNat = (CS i).getD j 0 := by
  obtain ⟨t1, t2⟩ := hT i hi
  have hg := aG_le h (show i ≤ m by omega)
  have hg1 := aG_le h (show i + 1 ≤ m by omega)
  have e : aF VS CS (i + 1) ((VS i).getD j 0).toNat = (CS i).getD j 0 := by
    rw [aF_succ hg]
    exact cF_at (fun _ _ => trivial) t1 (Nat.le_refl _) (by rw [← aG_succ hg]; exact hg1) j hj
  have := aF_keep (v := ((VS i).getD j 0).toNat) (k := i + 1) (by rw [e]; have := t2 j hj; omega) (m - (i + 1)) (by rw [show i + 1 + (m - (i + 1)) = m by omega]; exact h)
  rw [show i + 1 + (m - (i + 1)) = m by omega] at this
  rw [this, e]
theorem aF_bd (hT : ∀ i, i < m → ∀ j, j < (CS i).length → 1 ≤ (CS i).getD j 0 ∧ (CS i).getD j 0 ≤ 8) : ∀ k, k ≤ m → ∀ v, aF VS CS k v = 0 ∨ 1 ≤ aF VS CS k v ∧ aF VS CS k v ≤ 8
  | 0, _, v => .inl rfl
  | k + 1, hk, v => by
    have ih := aF_bd hT k (by omega) v
    cases h0 : aG VS CS k with
    | true =>
      rw [aF_succ h0]
      rcases cF_cases (f := aF VS CS k) (vs := VS k) (cs := CS k) (v := v) (CS k).length with e | ⟨j, a, b, c⟩
      · rw [e]; exact ih
      · rw [c]; exact .inr (hT k (by omega) j a)
    | false => rw [(aG_stop h0 1).2]; exact ih
end
theorem stT_bd {vs cs : List Int} {n : Nat} (h : goodT cs n = true) : ∀ k, k ≤ n → ∀ v, 0 ≤ stT vs cs n k v ∧ stT vs cs n k v ≤ 4096
  | 0, _, v => ⟨Int.le_refl _, by show (0 : Int) ≤ 4096; decide⟩
  | k + 1, hk, v => by
    have ih := stT_bd h k (by omega) v (vs := vs)
    have hr := remT_bd h (k + 1) hk
    rw [stT, up64]
    split
    · exact hr
    · exact ih
theorem stK_bd {F : Nat → Int} {keep : List Int} {n : Nat} (h : ∀ j, j ≤ n → 1 ≤ sufK F keep n j ∧ sufK F keep n j ≤ 4096) : ∀ j, j ≤ n → ∀ v, 0 ≤ stK F keep n j v ∧ stK F keep n j v ≤ 4096
  | 0, _, v => ⟨Int.le_refl _, by show (0 : Int) ≤ 4096; decide⟩
  | j + 1, hj, v => by
    have ih := stK_bd h j (by omega) v
    have hr := h j (by omega)
    rw [stK, up64]
    split
    · exact ⟨by omega, hr.2⟩
    · exact ih
section
variable (kd : Int) (VS CS : Nat → List Int) (A B : Nat → Nat → Int) (m : Nat) (keep : List Int)
abbrev rF : Nat → Int := aF VS CS m
abbrev rQ : Nat := qF (aF VS CS m) 64
abbrev rV : List Int := vF (aF VS CS m) 64
abbrev rS : List Int := sF (aF VS CS m) 64
def rI (i j : Nat) : Nat := (numT (stT (VS i) (CS i) (CS i).length (CS i).length) (rV VS CS m) (cmb (rS VS CS m) j) (rQ VS CS m)).toNat
def rAt (j : Nat) : Nat := (numT (stK (aF VS CS m) keep keep.length keep.length) (rV VS CS m) (cmb (rS VS CS m) j) (rQ VS CS m)).toNat
def prE (kd : Int) (a b : Nat → Int) : Nat → Int × Int
  | 0 => (oneA kd, oneB kd)
  | i + 1 => timesE kd (prE kd a b i).1 (prE kd a b i).2 (a i) (b i)
def rPr (j i : Nat) : Int × Int := prE kd (fun i => A i (rI VS CS m i j)) (fun i => B i (rI VS CS m i j)) i
def rW : Nat → (Nat → Int) × (Nat → Int)
  | 0 => (fun _ => zeroA kd, fun _ => 0)
  | j + 1 => (up64 (rW j).1 (rAt VS CS m keep j) (plusE kd ((rW j).1 (rAt VS CS m keep j)) ((rW j).2 (rAt VS CS m keep j)) (rPr kd VS CS A B m j m).1 (rPr kd VS CS A B m j m).2).1,
    up64 (rW j).2 (rAt VS CS m keep j) (plusE kd ((rW j).1 (rAt VS CS m keep j)) ((rW j).2 (rAt VS CS m keep j)) (rPr kd VS CS A B m j m).1 (rPr kd VS CS A B m j m).2).2)
def rSz : Nat := (sufK (aF VS CS m) keep keep.length keep.length).toNat
def rP : Nat := (prodT (rS VS CS m) (rQ VS CS m)).toNat
def rA : Nat → Int := (rW kd VS CS A B m keep (rP VS CS m)).1
def rB : Nat → Int := (rW kd VS CS A B m keep (rP VS CS m)).2
end
theorem rightT_at {kd : Int} {A B : Nat → Int} : ∀ {n : Nat}, rightT kd A B n = true → ∀ i, i < n → okE kd (A i) (B i) = true
  | 0, _, i, hi => absurd hi (Nat.not_lt_zero _)
  | n + 1, hr, i, hi => by
    rw [rightT, Bool.and_eq_true] at hr
    by_cases e : i = n
    · subst e; exact hr.2
    · exact rightT_at hr.1 i (by omega)
structure InOk (kd : Int) (VS CS : Nat → List Int) (A B : Nat → Nat → Int) (N : Nat → Nat) (m : Nat) (keep : List Int) : Prop where
  k : 1 ≤ kd ∧ kd ≤ 5
  m12 : m ≤ 12
  good : goodA kd VS CS A B N m = true
  ag : aG VS CS m = true
  wi : withT (aF VS CS m) keep keep.length = true
  ok : okC (sF (aF VS CS m) 64) = true
section
variable {kd : Int} {VS CS : Nat → List Int} {A B : Nat → Nat → Int} {N : Nat → Nat} {m : Nat} {keep : List Int}
theorem goodA_tab (h : goodA kd VS CS A B N m = true) {i : Nat} (hi : i < m) : TabOk (VS i) (CS i) ∧ incT (VS i) (CS i).length ∧ goodT (CS i) (CS i).length = true ∧ (N i : Int) = prodT (CS i) (CS i).length ∧ rightT kd (A i) (B i) (N i) = true := by
  have hb := goodA_at kd VS CS A B N h i hi
  obtain ⟨h1, h2, h3, h4, h5⟩ := goodB_iff hb
  unfold okC at h1
  rw [Bool.and_eq_true, decide_eq_true_eq] at h1
  rw [h2] at h4
  have hv := (varsT_inc h4).1
  exact ⟨⟨h2, h1.1, hv.1⟩, hv, h1.2, h3, h5⟩
variable (h : InOk kd VS CS A B N m keep)
include h
theorem InOk.sizes : rQ VS CS m ≤ 12 ∧ (rS VS CS m).length = rQ VS CS m ∧ (∀ i, i < rQ VS CS m → 1 ≤ (rS VS CS m).getD i 0 ∧ (rS VS CS m).getD i 0 ≤ 8) ∧ 1 ≤ prodT (rS VS CS m) (rQ VS CS m) ∧ prodT (rS VS CS m) (rQ VS CS m) ≤ 4096 := by
  have ho := h.ok
  unfold okC at ho
  rw [Bool.and_eq_true, decide_eq_true_eq, sF_len] at ho
  exact ⟨ho.1, sF_len _ _, fun i hi => goodT_card ho.2 hi, goodT_bd ho.2⟩
theorem InOk.kept : incT keep keep.length ∧ ∀ i, i < keep.length → 0 < aF VS CS m (keep.getD i 0).toNat := by
  obtain ⟨a, b, _⟩ := withT_inc h.wi
  refine ⟨a, fun i hi => ?_⟩
  rcases aF_bd (VS := VS) (CS := CS) (m := m) (fun i hi j hj => goodT_card (goodA_tab h.good hi).2.2.1 hj) m (Nat.le_refl _) (keep.getD i 0).toNat with e | e
  · exact absurd e (b i hi)
  · omega
theorem InOk.suf : ∀ j, j ≤ keep.length → 1 ≤ sufK (aF VS CS m) keep keep.length j ∧ sufK (aF VS CS m) keep keep.length j ≤ 4096 := by
  intro j hj
  obtain ⟨a, b⟩ := h.kept
  have hs := h.sizes
  rw [prod_sF] at hs
  by_cases hlt : keep.length - j < keep.length
  · have hv := a.1 (keep.length - j) hlt
    obtain ⟨h1, h2⟩ := sufK_le a b j hj (keep.getD (keep.length - j) 0).toNat (fun _ => rfl) (by omega)
    have hp := pF_pos (aF VS CS m) (keep.getD (keep.length - j) 0).toNat
    have := Int.mul_le_mul_of_nonneg_left hp (show 0 ≤ sufK (aF VS CS m) keep keep.length j by omega)
    omega
  · obtain ⟨h1, h2⟩ := sufK_le a b j hj 64 (fun h' => absurd h' hlt) (Nat.le_refl _)
    have hp := pF_pos (aF VS CS m) 64
    have := Int.mul_le_mul_of_nonneg_left hp (show 0 ≤ sufK (aF VS CS m) keep keep.length j by omega)
    omega
theorem InOk.comb {j : Nat} (hj : j < rP VS CS m) : valT (rS VS CS m) (cmb (rS VS CS m) j) (rQ VS CS m) ∧ (cmb (rS VS CS m) j).length = rQ VS CS m ∧ idxT (rS VS CS m) (cmb (rS VS CS m) j) (rQ VS CS m) = j := by
  obtain ⟨h1, h2, h3, h4, h5⟩ := h.sizes
  unfold rP at hj
  have := @cmb_ok (rS VS CS m) (fun i hi => (h3 i (by omega)).1) j (by rw [h2]; omega)
  rw [h2] at this
  exact ⟨this.1, by rw [cmb_len, h2], this.2⟩
theorem InOk.val {j v : Nat} (hj : j < rP VS CS m) (hv : v < 64) (hp : 0 < aF VS CS m v) : 0 ≤ valF (aF VS CS m) (cmb (rS VS CS m) j) v ∧ valF (aF VS CS m) (cmb (rS VS CS m) j) v < aF VS CS m v := by
  obtain ⟨a, b, c⟩ := vF_at (F := aF VS CS m) hv hp
  have := (h.comb hj).1 (qF (aF VS CS m) v) c
  rw [b] at this
  exact this
theorem InOk.numOk {st : Nat → Int} (hs : ∀ v, 0 ≤ st v ∧ st v ≤ 4096) {j : Nat} (hj : j < rP VS CS m) : NumOk st (rV VS CS m) (cmb (rS VS CS m) j) (rQ VS CS m) := by
  obtain ⟨h1, h2, h3, h4, h5⟩ := h.sizes
  obtain ⟨c1, c2, _⟩ := h.comb hj
  exact ⟨h1, (vF_len _ _).symm, c2.symm, fun k hk => vF_bd hk, fun k hk => by have := c1 k hk; have := h3 k hk; omega, hs⟩
theorem InOk.table {i j : Nat} (hi : i < m) (hj : j < rP VS CS m) : NumOk (stT (VS i) (CS i) (CS i).length (CS i).length) (rV VS CS m) (cmb (rS VS CS m) j) (rQ VS CS m) ∧ numT (stT (VS i) (CS i) (CS i).length (CS i).length) (rV VS CS m) (cmb (rS VS CS m) j) (rQ VS CS m) = idxT (CS i) (mineF (valF (aF VS CS m) (cmb (rS VS CS m) j)) (VS i) (CS i).length) (CS i).length ∧ valT (CS i) (mineF (valF (aF VS CS m) (cmb (rS VS CS m) j)) (VS i) (CS i).length) (CS i).length ∧ numT (stT (VS i) (CS i) (CS i).length (CS i).length) (rV VS CS m) (cmb (rS VS CS m) j) (rQ VS CS m) = rI VS CS m i j ∧ rI VS CS m i j < N i := by
  obtain ⟨t1, t2, t3, t4, t5⟩ := goodA_tab h.good hi
  have hc : ∀ k, k < (CS i).length → 1 ≤ (CS i).getD k 0 := fun k hk => (goodT_card t3 hk).1
  have hat := fun k (hk : k < (CS i).length) => aF_at (VS := VS) (CS := CS) h.ag (fun i hi => ⟨(goodA_tab h.good hi).2.1, fun j hj => (goodT_card (goodA_tab h.good hi).2.2.1 hj).1⟩) hi hk
  have hz : ∀ v, aF VS CS m v ≤ 0 → stT (VS i) (CS i) (CS i).length (CS i).length v = 0 := fun v hv => stT_off fun k hk e => by
    have := hat k hk
    rw [e] at this
    have := hc k hk
    omega
  have e1 : numT (stT (VS i) (CS i) (CS i).length (CS i).length) (rV VS CS m) (cmb (rS VS CS m) j) (rQ VS CS m) = idxT (CS i) (mineF (valF (aF VS CS m) (cmb (rS VS CS m) j)) (VS i) (CS i).length) (CS i).length := by
    rw [numT_vF hz, num_stT t2 hc]
  have hval : valT (CS i) (mineF (valF (aF VS CS m) (cmb (rS VS CS m) j)) (VS i) (CS i).length) (CS i).length := fun k hk => by
    rw [mineF_getD hk]
    have := h.val hj (v := ((VS i).getD k 0).toNat) (by have := t2.1 k hk; omega) (by rw [hat k hk]; have := hc k hk; omega)
    rw [hat k hk] at this
    exact this
  have hb := idxT_bd hval
  refine ⟨h.numOk (stT_bd t3 _ (Nat.le_refl _)) hj, e1, hval, ?_, ?_⟩
  · unfold rI; omega
  · unfold rI; omega
theorem InOk.place {j : Nat} (hj : j < rP VS CS m) : NumOk (stK (aF VS CS m) keep keep.length keep.length) (rV VS CS m) (cmb (rS VS CS m) j) (rQ VS CS m) ∧ numT (stK (aF VS CS m) keep keep.length keep.length) (rV VS CS m) (cmb (rS VS CS m) j) (rQ VS CS m) = idxT (clF (aF VS CS m) keep keep.length) (mineF (valF (aF VS CS m) (cmb (rS VS CS m) j)) keep keep.length) keep.length ∧ valT (clF (aF VS CS m) keep keep.length) (mineF (valF (aF VS CS m) (cmb (rS VS CS m) j)) keep keep.length) keep.length ∧ numT (stK (aF VS CS m) keep keep.length keep.length) (rV VS CS m) (cmb (rS VS CS m) j) (rQ VS CS m) = rAt VS CS m keep j ∧ rAt VS CS m keep j < rSz VS CS m keep := by
  obtain ⟨k1, k2⟩ := h.kept
  have hcl : ∀ n i, i < n → (clF (aF VS CS m) keep n).getD i 0 = aF VS CS m (keep.getD i 0).toNat := by
    intro n
    induction n with
    | zero => intro i hi; omega
    | succ n ih =>
      intro i hi
      rw [clF]
      by_cases e : i = n
      · subst e
        have := getD_last (l := clF (aF VS CS m) keep i) (x := aF VS CS m (keep.getD i 0).toNat)
        rwa [clF_len] at this
      · rw [getD_app (by rw [clF_len]; omega)]; exact ih i (by omega)
  have hc2 := hcl keep.length
  have hz : ∀ v, aF VS CS m v ≤ 0 → stK (aF VS CS m) keep keep.length keep.length v = 0 := fun v hv => stK_off (Nat.le_refl _) fun k _ hk e => by
    have := k2 k hk
    rw [e] at this
    omega
  have e1 : numT (stK (aF VS CS m) keep keep.length keep.length) (rV VS CS m) (cmb (rS VS CS m) j) (rQ VS CS m) = idxT (clF (aF VS CS m) keep keep.length) (mineF (valF (aF VS CS m) (cmb (rS VS CS m) j)) keep keep.length) keep.length := by
    rw [numT_vF hz, num_stK k1 hc2]
  have hval : valT (clF (aF VS CS m) keep keep.length) (mineF (valF (aF VS CS m) (cmb (rS VS CS m) j)) keep keep.length) keep.length := fun k hk => by
    rw [mineF_getD hk, hc2 k hk]
    exact h.val hj (v := (keep.getD k 0).toNat) (by have := k1.1 k hk; omega) (k2 k hk)
  have hb := idxT_bd hval
  have hsz : prodT (clF (aF VS CS m) keep keep.length) keep.length = sufK (aF VS CS m) keep keep.length keep.length := by
    rw [← suf_all, sufK_suf hc2 _ (Nat.le_refl _)]
  rw [hsz] at hb
  refine ⟨h.numOk (stK_bd h.suf _ (Nat.le_refl _)) hj, e1, hval, ?_, ?_⟩
  · unfold rAt; omega
  · unfold rAt rSz; omega
theorem InOk.prod {j : Nat} (hj : j < rP VS CS m) : ProdOk kd (fun i => A i (rI VS CS m i j)) (fun i => B i (rI VS CS m i j)) (fun i => (rPr kd VS CS A B m j i).1) (fun i => (rPr kd VS CS A B m j i).2) m :=
  ⟨h.k, rfl, rfl, fun i _ => rfl, fun i hi => wideE_of (rightT_at (goodA_tab h.good hi).2.2.2.2 _ (h.table hi hj).2.2.2.2)⟩
theorem InOk.sums : ∀ j, j ≤ rP VS CS m → ∀ x, wideE kd ((rW kd VS CS A B m keep j).1 x) ((rW kd VS CS A B m keep j).2 x) = true
  | 0, _, x => wide_zero h.k
  | j + 1, hj, x => by
    have ih := InOk.sums j (by omega)
    have hp := (h.prod (show j < rP VS CS m by omega)).wide m (Nat.le_refl _)
    rw [rW]
    dsimp only [up64]
    by_cases e : x = rAt VS CS m keep j
    · rw [if_pos e, if_pos e]
      exact wide_plus h.k (ih _) hp rfl
    · rw [if_neg e, if_neg e]; exact ih x
end
noncomputable def comV (kd : Int) (VS CS : Nat → List Int) (A B : Nat → Nat → Int) (N : Nat → Nat) (m : Nat) (keep : List Int) : V :=
  if ¬ (1 ≤ kd ∧ kd ≤ 5) then .tup [t0V, i6 40]
  else if goodA kd VS CS A B N m = false then .tup [t0V, i6 41]
  else if aG VS CS m = false ∨ withT (aF VS CS m) keep keep.length = false then .tup [t0V, i6 2]
  else if okC (sF (aF VS CS m) 64) = false then .tup [t0V, i6 3]
  else if fitA (rA kd VS CS A B m keep) (rB kd VS CS A B m keep) (rSz VS CS m keep) = false then .tup [t0V, i6 6]
  else .tup [.agg [sl keep, .im keep.length (ints (clF (aF VS CS m) keep keep.length)), .im (rSz VS CS m keep) (elF (rA kd VS CS A B m keep) (rB kd VS CS A B m keep) (rSz VS CS m keep))], i6 0]
theorem end_ok {kd : Int} {VS CS : Nat → List Int} {A B : Nat → Nat → Int} {N : Nat → Nat} {m : Nat} {keep : List Int} (h : InOk kd VS CS A B N m keep) (hN : ∀ i, i < m → N i ≤ 1000000) (hk5 : keep.length ≤ 1000) {fv fp ft : Nat} (ho : OpOk kd fv fp ft) (n : Nat) (hn : n = keep.length) :
    EndOk kd keep n (zeroA kd) (oneA kd) (oneB kd) fv fp ft VS CS A B N m (aF VS CS m) (rQ VS CS m) (rV VS CS m) (rS VS CS m) (clF (aF VS CS m) keep n) (stK (aF VS CS m) keep n n) (rSz VS CS m keep) (rP VS CS m) (rAt VS CS m keep) (fun j => (rPr kd VS CS A B m j m).1) (fun j => (rPr kd VS CS A B m j m).2) (fun j => (rW kd VS CS A B m keep j).1) (fun j => (rW kd VS CS A B m keep j).2)
      (fun j => (plusE kd ((rW kd VS CS A B m keep j).1 (rAt VS CS m keep j)) ((rW kd VS CS A B m keep j).2 (rAt VS CS m keep j)) (rPr kd VS CS A B m j m).1 (rPr kd VS CS A B m j m).2).1)
      (fun j => (plusE kd ((rW kd VS CS A B m keep j).1 (rAt VS CS m keep j)) ((rW kd VS CS A B m keep j).2 (rAt VS CS m keep j)) (rPr kd VS CS A B m j m).1 (rPr kd VS CS A B m j m).2).2) := by
  subst hn
  obtain ⟨s1, s2, s3, s4, s5⟩ := h.sizes
  have hop : HfL (opL (zeroA kd) (oneA kd) (oneB kd) fv fp ft) := ⟨trivial, trivial, trivial, trivial, trivial, trivial, trivial, trivial⟩
  have hL2 := HfL_blF (HfL_tab VS CS A B N) m
  have hT := fun i hi => (goodA_tab h.good (i := i) hi).1
  obtain ⟨k1, k2⟩ := h.kept
  have hsf := h.suf
  have hsz : ((rSz VS CS m keep : Nat) : Int) = sufK (aF VS CS m) keep keep.length keep.length := by
    have := hsf keep.length (Nat.le_refl _)
    unfold rSz; omega
  have htg := together_fn VS CS A B N m h.m12 hT
  rw [h.ag] at htg
  have hwi := within_fn (aF VS CS m) keep (by omega)
  rw [h.wi] at hwi
  have l4 := com_steps keep keep.length rfl hk5 (opL (zeroA kd) (oneA kd) (oneB kd) fv fp ft) hop (blF (tab VS CS A B N) m) hL2 m (aF VS CS m) (rQ VS CS m) (rV VS CS m) (rS VS CS m) k1.1 hsf
  rw [← hsz] at l4
  have hic := icheck_fn (rS VS CS m)
  rw [h.ok, if_pos rfl] at hic
  refine ⟨hk5, h.m12, ?_, s1, s2, s3, ?_, ?_, h.good, ⟨rfl, rfl⟩, ⟨fun j hj => ?_, fun j hj => ?_, fun j hj => ?_, fun j hj => ⟨rfl, rfl⟩⟩, ho.c, com_read kd keep keep.length _ _ _ fv fp ft ho.v VS CS A B N m h.m12 hN, htg, hwi, com_vars keep keep.length _ hop _ hL2 m _, ?_, l4, com_cards keep keep.length rfl hk5 _ hop _ hL2 m _ _ _ _ _ _ k1.1⟩
  · have := hsf keep.length (Nat.le_refl _)
    omega
  · unfold rP; omega
  · unfold rP; omega
  · obtain ⟨a, _, _, b, c⟩ := h.place hj
    exact ⟨a, b, c⟩
  · exact prods_fn kd _ _ _ rfl rfl rfl fv fp ft ho VS CS A B N m h.m12 (rV VS CS m) (cmb (rS VS CS m) j) (rQ VS CS m) (fun i => rI VS CS m i j) _ _ (fun i hi => (h.table hi hj).1) (fun i hi => (h.table hi hj).2.2.2) (h.prod hj)
  · exact ho.p _ _ _ _ _ _ (h.sums j (by omega) _) ((h.prod hj).wide m (Nat.le_refl _)) rfl
  · rw [← s2]; exact hic
theorem combine_fn (kd : Int) (VS CS : Nat → List Int) (A B : Nat → Nat → Int) (N : Nat → Nat) (m : Nat) (hm : m ≤ 12) (hN : ∀ i, i < m → N i ≤ 1000000) (keep : List Int) (hk5 : keep.length ≤ 1000) :
    FnOk Pg g0 15 [i6 kd, .im m (blF (tbF VS CS A B N) m), sl keep] (comV kd VS CS A B N m keep) := by
  unfold comV
  by_cases hkd : 1 ≤ kd ∧ kd ≤ 5
  · rw [if_neg (fun h => h hkd)]
    obtain ⟨fv, fp, ft, ho⟩ := choose_ok kd hkd
    cases hg : goodA kd VS CS A B N m with
    | false => rw [if_pos rfl]; exact com_tables kd keep _ fv fp ft ho VS CS A B N m hm hN hg
    | true =>
      rw [if_neg (by decide)]
      have hT := fun i hi => (goodA_tab hg (i := i) hi).1
      cases ha : aG VS CS m with
      | false => rw [if_pos (.inl rfl)]; exact com_arg1 kd keep _ fv fp ft ho VS CS A B N m hm hN hg hT ha
      | true =>
        cases hw : withT (aF VS CS m) keep keep.length with
        | false => rw [if_pos (.inr rfl)]; exact com_arg2 kd keep _ rfl hk5 fv fp ft ho VS CS A B N m hm hN hg hT ha hw
        | true =>
          rw [if_neg (by simp)]
          cases hC : okC (sF (aF VS CS m) 64) with
          | false => rw [if_pos rfl]; exact com_long kd keep _ rfl hk5 fv fp ft ho VS CS A B N m hm hN hg hT ha hw _ rfl hC
          | true =>
            rw [if_neg (by decide)]
            have hI : InOk kd VS CS A B N m keep := ⟨hkd, hm, hg, ha, hw, hC⟩
            cases hl : keep.length with
            | zero =>
              have e : sl keep = .im 0 (ints keep) := by show V.im keep.length _ = _; rw [hl]
              have hE := end_ok hI hN hk5 ho 0 hl.symm
              cases hf : fitA (rA kd VS CS A B m keep) (rB kd VS CS A B m keep) (rSz VS CS m keep) with
              | false => rw [if_pos rfl]; have := com_big0 kd keep hl.symm _ _ _ fv fp ft VS CS A B N m _ _ _ _ _ (clF_len _ _ _) _ _ _ _ _ _ _ _ _ _ hE hf; rw [e]; exact this
              | true => rw [if_neg (by decide)]; have := com_ok0 kd keep hl.symm _ _ _ fv fp ft VS CS A B N m _ _ _ _ _ (clF_len _ _ _) _ _ _ _ _ _ _ _ _ _ hE hf; rw [e]; exact this
            | succ n =>
              have e : sl keep = .im (n + 1) (ints keep) := by show V.im keep.length _ = _; rw [hl]
              have hE := end_ok hI hN hk5 ho (n + 1) hl.symm
              cases hf : fitA (rA kd VS CS A B m keep) (rB kd VS CS A B m keep) (rSz VS CS m keep) with
              | false => rw [if_pos rfl]; have := com_big1 kd keep n hl.symm _ _ _ fv fp ft VS CS A B N m _ _ _ _ _ (clF_len _ _ _) _ _ _ _ _ _ _ _ _ _ hE hf; rw [e]; exact this
              | true => rw [if_neg (by decide)]; have := com_ok1 kd keep n hl.symm _ _ _ fv fp ft VS CS A B N m _ _ _ _ _ (clF_len _ _ _) _ _ _ _ _ _ _ _ _ _ hE hf; rw [e]; exact this
  · rw [if_pos hkd]
    exact com_none kd hkd _ (HfL_blF (HfL_tbF VS CS A B N) m) m _ keep
end Go.Proofs.Ytgdnmgcigkhojaa.Am

namespace Go.Proofs.Ytgdnmgcigkhojaa.Am
open Go.RowKit
set_option linter.unusedVariables false
set_option maxHeartbeats 1000000
set_option maxRecDepth 100000
def dT (cs vs : List Int) (n : Nat) : Nat → Int
  | 0 => 0
  | j + 1 => dT cs vs n j + vs.getD (n - 1 - j) 0 * sufT cs n j
abbrev ixS (cs vs : List Int) (n j : Nat) : SL := { sl := [(0, .im n (ints cs)), (1, .im n (ints vs)), (5, i6 (dT cs vs n j)), (6, i6 (sufT cs n j)), (7, i6 (((n - j : Nat) : Int) - 1))] }
abbrev rzS (cs : List Int) (n k : Nat) : SL := { sl := [(0, .im n (ints cs)), (3, i6 (prodT cs k)), (4, i6 k)] }
theorem rsize_fn (cs : List Int) (n : Nat) (hn : n = cs.length) (h1000 : n ≤ 1000) (hp : ∀ k, k ≤ n → 0 ≤ prodT cs k ∧ prodT cs k ≤ 4096) : FnOk Pg g0 36 [.im n (ints cs)] (i6 (prodT cs n)) := by
  have l : Sat Pg none 0 (at' 36 [1, 1, 0, 1, 0]) (mkSt g0 18 (rzS cs n 0)) (outsP g0 18 [(True, .exit 0, { sl := [(3, i6 (prodT cs n))] })]) := by
    refine loopC vE_ok mixed sp0_ok (b := at' 36 [1, 1, 0, 1, 0, 0]) (by kernel_rfl) (fun k => k ≤ n) (rzS cs n) (fun k => n - k) (fun k hk => ?_) 0 (Nat.zero_le _)
    by_cases hlt : k < n
    · have g1 := @head_intsD cs k (by omega)
      have b1 := hp (k + 1) (by omega)
      have w1 : wr .i64 (prodT cs k * cs.getD k 0) = prodT cs (k + 1) := wr6 (by show _ ≤ prodT cs (k + 1); omega) (by show prodT cs (k + 1) ≤ _; omega)
      refine .inl ⟨k + 1, [], [yes 8, pl 14, ld 15 (i6 (cs.getD k 0)), nu 16 (prodT cs (k + 1)), nu 10 (k + 1 : Nat)], 1000, by omega, by omega, ?_⟩
      clear hp
      refine Eq.mp (by kernel_rfl : (decide ((↑k : Int) < (↑n : Int)) = true ∧ ((0 : Int) ≤ (↑k : Int) ∧ (↑k : Int) < (↑n : Int)) ∧ headF (List.drop (k * 1) (ints cs)) = some (i6 (List.getD cs k (0 : Int))) ∧ wr IntKind.i64 (prodT cs k * List.getD cs k (0 : Int)) = prodT cs (k + 1) ∧ wr IntKind.i64 ((↑k : Int) + (1 : Int)) = (↑(k + 1) : Int) ∧ ((n = n ∧ ints cs = ints cs) ∧ prodT cs (k + 1) = prodT cs (k + 1) ∧ (↑(k + 1) : Int) = (↑(k + 1) : Int) ∧ True) ∧ True) = _) ?_
      (repeat' (first | (with_reducible apply And.intro) | (refine fun (_ : True) => ?_))) <;> first | exact aq | skip
      all_goals first | exact w1 | skip
    · have : k = n := by omega
      subst this
      refine .inr ⟨.exit 0, [], { sl := [(3, i6 (prodT cs k))] }, [no 8], 1000, .inl ⟨trivial, rfl, rfl⟩, ?_⟩
      clear hp
      refine Eq.mp (by kernel_rfl : (decide ((↑k : Int) < (↑k : Int)) = false ∧ (prodT cs k = prodT cs k ∧ True) ∧ True) = _) ?_
      (repeat' (first | (with_reducible apply And.intro) | (refine fun (_ : True) => ?_))) <;> first | exact aq | skip
  clear hp
  refine FnOk.of_vc vE_ok mixed sp0_ok (n := 1000) (r := []) (S := { sl := [(2, i6 (prodT cs n))] }) (hs := [(0, .loop [] (rzS cs n 0) [(True, .exit 0, { sl := [(3, i6 (prodT cs n))] })])]) ?_
  refine Eq.mp (by kernel_rfl : (i6 (prodT cs n) = i6 (prodT cs n) ∧ (((n = n ∧ ints cs = ints cs) ∧ prodT cs 0 = (1 : Int) ∧ (↑(0 : Nat) : Int) = (0 : Int) ∧ True) ∧ True) ∧ Sat Try.prog none 0 (at' 36 [1, 1, 0, 1, 0]) (mkSt g0 18 (rzS cs n 0)) (outsP g0 18 [(True, Ex.exit 0, SL.mk [(3, i6 (prodT cs n))] [] [] [])]) ∧ (True → (prodT cs n = prodT cs n ∧ True) ∧ True) ∧ True) = _) ?_
  (repeat' (first | (with_reducible apply And.intro) | (refine fun (_ : True) => ?_))) <;> first | exact aq | skip
  all_goals first | rfl | skip
abbrev nrO (l : List Int) : List O := [.row 3 (some 1) (ints l)]
abbrev neS (cs : List Int) (q : Nat) (p : Nat × List Int) : SL := { sl := [(0, .im q (ints cs)), (6, .sl 0 0 q none), (7, i6 ((p.1 : Int) - 1))], os := nrO p.2 }
end Go.Proofs.Ytgdnmgcigkhojaa.Am

namespace Go.Proofs.Ytgdnmgcigkhojaa.Am
open Go.RowKit
set_option linter.unusedVariables false
set_option maxHeartbeats 1000000
set_option maxRecDepth 100000
def allF (cs : List Int) (q j : Nat) : List V := [.im q (ints (cmb cs j))]
def owL (cs : List Int) (q : Nat) : Nat → List O
  | 0 => []
  | j + 1 => [.row 29 (some 1) (blF (allF cs q) (j + 1))]
abbrev alS (cs : List Int) (q : Nat) (p : Nat × Bool) : SL := { sl := [(0, .im q (ints cs)), (3, owV 0 p.1), (4, .im q (ints (cmb cs p.1))), (5, .bool p.2)], os := owL cs q p.1 }
def rcF (f : Nat → Int) (vs cs : List Int) : Nat → (Nat → Int)
  | 0 => f
  | j + 1 => if rcF f vs cs j (vs.getD j 0).toNat = 0 then up64 (rcF f vs cs j) (vs.getD j 0).toNat (cs.getD j 0) else rcF f vs cs j
def rcG (f : Nat → Int) (g : Bool) (vs cs : List Int) : Nat → Bool
  | 0 => g
  | j + 1 => rcG f g vs cs j && decide (rcF f vs cs (j + 1) (vs.getD j 0).toNat = cs.getD j 0)
def raF (VS CS : Nat → List Int) : Nat → (Nat → Int)
  | 0 => fun _ => 0
  | k + 1 => rcF (raF VS CS k) (VS k) (CS k) (CS k).length
def raG (VS CS : Nat → List Int) : Nat → Bool
  | 0 => true
  | k + 1 => rcG (raF VS CS k) (raG VS CS k) (VS k) (CS k) (CS k).length
abbrev riS' (c : List V) (m k : Nat) (f : Nat → Int) (g : Bool) (vs cs : List Int) (p : Nat × Bool) : SL := { sl := [(0, .im m c), (4, .sl 0 0 64 (some 0)), (5, .bool p.2), (6, i6 k), (7, i6 p.1)], os := [.row 3 none (a64 (rcF f vs cs p.1))] }
abbrev riX (c : List V) (m k : Nat) (f : Nat → Int) (g : Bool) : SL := { sl := [(0, .im m c), (4, .sl 0 0 64 (some 0)), (5, .bool g), (6, i6 k)], os := [.row 3 none (a64 f)] }
end Go.Proofs.Ytgdnmgcigkhojaa.Am

namespace Go.Proofs.Ytgdnmgcigkhojaa.Am
open Go.RowKit
set_option linter.unusedVariables false
set_option maxHeartbeats 1000000
set_option maxRecDepth 100000
section
variable (some_ cs vars vals : List Int) (n q : Nat)
abbrev piS (i : Nat) (p : Nat × Nat × List Int) : SL := { sl := [(0, .im n (ints some_)), (1, .im n (ints cs)), (2, .im q (ints vars)), (3, .im q (ints vals)), (9, owV 0 p.2.1), (10, i6 i), (11, i6 p.1)], os := owO p.2.2 p.2.1 }
abbrev poS (p : Nat × List Int) : SL := { sl := [(0, .im n (ints some_)), (1, .im n (ints cs)), (2, .im q (ints vars)), (3, .im q (ints vals)), (9, owV 0 p.1), (10, i6 p.1)], os := owO p.2 p.1 }
abbrev poT (i cnt : Nat) (l : List Int) : SL := { sl := [(0, .im n (ints some_)), (1, .im n (ints cs)), (2, .im q (ints vars)), (3, .im q (ints vals)), (9, owV 0 cnt), (10, i6 i)], os := owO l cnt }
end
end Go.Proofs.Ytgdnmgcigkhojaa.Am

namespace Go.Proofs.Ytgdnmgcigkhojaa.Am
open Go.RowKit
set_option linter.unusedVariables false
set_option maxHeartbeats 1000000
set_option maxRecDepth 100000
def tkF (keep : List Int) : Nat → List Int
  | 0 => []
  | k + 1 => tkF keep k ++ [keep.getD k 0]
section
variable (kd : Int) (cT : List V) (m : Nat) (keep : List Int) (n : Nat) (F : Nat → Int) (g : Bool)
abbrev k0S (p : Nat × List Int × List Int) : SL := { sl := [(0, i6 kd), (1, .im m cT), (2, .im n (ints keep)), (6, .ptr 0 0), (8, .im 64 (a64 F)), (9, .bool g), (10, .ptr 1 0), (11, i6 p.1)], os := r3 :: .row 32 none [owV 2 p.1, owV 3 p.1, .nils] :: (owO p.2.1 p.1 ++ owO p.2.2 p.1), md := [0, 1] }
abbrev k0X (lv cl : List Int) : SL := { sl := [(0, i6 kd), (1, .im m cT), (6, .ptr 0 0), (8, .im 64 (a64 F)), (9, .bool g), (10, .ptr 1 0)], os := [r3, .row 32 none [.im n (ints lv), .im n (ints cl), .nils]], md := [0, 1] }
end
section
variable (kd : Int) (cT : List V) (m : Nat) (F : Nat → Int) (n : Nat) (kl cl : List Int)
abbrev k2S (p : Nat × Nat × List Int × List Int) : SL := { sl := [(0, i6 kd), (1, .im m cT), (6, .ptr 0 0), (8, .im 64 (a64 F)), (10, .ptr 1 0), (12, owV 2 p.2.1), (13, owV 3 p.2.1), (14, i6 p.1)], os := r3 :: .row 32 none [.im n (ints kl), .im n (ints cl), .nils] :: (owO p.2.2.1 p.2.1 ++ owO p.2.2.2 p.2.1) }
abbrev k2X (q : Nat) (lv ls : List Int) : SL := { sl := [(0, i6 kd), (1, .im m cT), (6, .ptr 0 0), (10, .ptr 1 0), (12, .im q (ints lv)), (13, .im q (ints ls))], os := [r3, .row 32 none [.im n (ints kl), .im n (ints cl), .nils]] }
end
end Go.Proofs.Ytgdnmgcigkhojaa.Am

namespace Go.Proofs.Ytgdnmgcigkhojaa.Am
open Go.RowKit
set_option linter.unusedVariables false
set_option maxHeartbeats 1000000
set_option maxRecDepth 100000
section
variable (kd : Int) (cT : List V) (m n : Nat) (kl cl : List Int) (q : Nat) (lv ls : List Int) (sz : Nat)
abbrev rO (W : List V) : List O := [r3, .row 32 none [.im n (ints kl), .im n (ints cl), .sl 2 0 sz (some (sz - sz))], .row 23 none W]
abbrev k4S (z : Int) (k : Nat) : SL := { sl := [(0, i6 kd), (1, .im m cT), (6, .ptr 0 0), (10, .ptr 1 0), (12, .im q (ints lv)), (13, .im q (ints ls)), (15, i6 k)], os := rO n kl cl sz (elF (zF z k) (fun _ => 0) sz), md := [0, 1] }
abbrev k4X (W : List V) : SL := { sl := [(0, i6 kd), (1, .im m cT), (6, .ptr 0 0), (10, .ptr 1 0), (12, .im q (ints lv)), (13, .im q (ints ls))], os := rO n kl cl sz W, md := [0, 1] }
end
def zeE (z : Int) (a b : Nat → Int) : Nat → Bool
  | 0 => false
  | i + 1 => zeE z a b i || decide (a i = z ∧ b i = 0)
section
variable (kd : Int) (cT : List V) (m n : Nat) (kl cl : List Int) (q : Nat) (lv : List Int) (sz : Nat) (W : List V) (P : Nat) (al : List V) (j : Nat) (PA PB : Nat → Int)
abbrev k8S (p : Nat × Bool) : SL := { sl := [(0, i6 kd), (1, .im m cT), (6, .ptr 0 0), (10, .ptr 1 0), (12, .im q (ints lv)), (16, .im P al), (17, i6 j), (18, .ptr 3 0), (19, .bool p.2), (20, i6 p.1)], os := rO n kl cl sz W ++ [.row 23 none [i6 (PA p.1), i6 (PB p.1)]], md := [0, 1] }
abbrev k8X (z : Bool) (a b : Int) : SL := { sl := [(0, i6 kd), (1, .im m cT), (6, .ptr 0 0), (10, .ptr 1 0), (12, .im q (ints lv)), (16, .im P al), (17, i6 j), (18, .ptr 3 0), (19, .bool z)], os := rO n kl cl sz W ++ [.row 23 none [i6 a, i6 b]], md := [0, 1] }
end
structure OneOk (kd : Int) (c : List V) (q : Nat) (lv vals : List Int) (i : Nat) (x : Nat) (a b : Int) : Prop where
  ex : ∃ (vs cs : List Int) (k : Nat) (nk : Nat) (Ak Bk : Nat → Int) (rest : List V), c.drop (i * 3) = .im k (ints vs) :: .im k (ints cs) :: .im nk (elF Ak Bk nk) :: rest ∧ x < nk ∧ Ak x = a ∧ Bk x = b ∧ FnOk Pg g0 48 [.im k (ints vs), .im k (ints cs), .im q (ints lv), .im q (ints vals)] (i6 (x : Int))
section
variable (kd : Int) (cT : List V) (m n : Nat) (kl cl : List Int) (q : Nat) (lv : List Int) (sz : Nat) (P : Nat) (al : List V) (WA WB : Nat → Nat → Int)
abbrev k6S (j : Nat) : SL := { sl := [(0, i6 kd), (1, .im m cT), (6, .ptr 0 0), (10, .ptr 1 0), (12, .im q (ints lv)), (16, .im P al), (17, i6 j)], os := rO n kl cl sz (elF (WA j) (WB j) sz), md := [0, 1] }
end
abbrev k6X (n : Nat) (kl cl : List Int) (sz : Nat) (W : List V) : SL := { sl := [(6, .ptr 0 0), (10, .ptr 1 0)], os := [r3, .row 32 none [.im n (ints kl), .im n (ints cl), .im sz W]], md := [0, 1] }
structure RrOk (kd z o u : Int) (cT : List V) (m n : Nat) (kl cl : List Int) (q : Nat) (lv ls : List Int) (sz P : Nat) (ix : Nat → Nat → Nat) (a b PA PB : Nat → Nat → Int) (at_ : Nat → Nat) (WA WB : Nat → Nat → Int) (wp wq : Nat → Int) : Prop where
  zk : FnOk Pg g0 31 [i6 kd] (el z 0)
  ok : FnOk Pg g0 32 [i6 kd] (el o u)
  one : ∀ j, j < P → PA j 0 = o ∧ PB j 0 = u
  tab : ∀ j, j < P → ∀ i, i < m → OneOk kd cT q lv (cmb ls j) i (ix j i) (a j i) (b j i)
  tim : ∀ j, j < P → ∀ i, i < m → FnOk Pg g0 35 [i6 kd, el (PA j i) (PB j i), el (a j i) (b j i)] (el (PA j (i + 1)) (PB j (i + 1)))
  zer : ∀ j, j < P → zeE z (a j) (b j) m = true → PA j m = z ∧ PB j m = 0
  at' : ∀ j, j < P → FnOk Pg g0 48 [.im n (ints kl), .im n (ints cl), .im q (ints lv), .im q (ints (cmb ls j))] (i6 (at_ j : Int)) ∧ at_ j < sz
  plus : ∀ j, j < P → FnOk Pg g0 34 [i6 kd, el (WA j (at_ j)) (WB j (at_ j)), el (PA j m) (PB j m)] (el (wp j) (wq j))
  next : ∀ j, j < P → WA (j + 1) = up64 (WA j) (at_ j) (wp j) ∧ WB (j + 1) = up64 (WB j) (at_ j) (wq j)
abbrev k9S (n : Nat) (kl cl : List Int) (sz : Nat) (W : List V) (k : Nat) : SL := { sl := [(6, .ptr 0 0), (10, .ptr 1 0), (23, i6 k)], os := [r3, .row 32 none [.im n (ints kl), .im n (ints cl), .im sz W]] }
end Go.Proofs.Ytgdnmgcigkhojaa.Am

namespace Go.Proofs.Ytgdnmgcigkhojaa.Am
open Go.RowKit
set_option linter.unusedVariables false
set_option maxHeartbeats 1000000
set_option maxRecDepth 100000
section
variable (kd : Int) (cT : List V) (m : Nat) (keep : List Int) (n : Nat) (F : Nat → Int) (g : Bool)
abbrev i0 (w : Bool) (kl cl : List Int) : Hs := [fn 26 (.tup [.im 64 (a64 F), .bool g]), (0, .loop [0, 1] (k0S kd cT m keep n F g (0, [], [])) [(w = true, .exit 0, k0X kd cT m n F g kl cl), (w = false, .ret, cBad 2)])]
end
section
variable (kd : Int) (cT : List V) (m : Nat) (n : Nat) (F : Nat → Int) (kl cl : List Int) (q : Nat) (lv ls : List Int)
abbrev i2 (ok : Bool) : Hs := [(0, .loop [0, 1] (k2S kd cT m F n kl cl (0, 0, [], [])) [(True, .exit 2, k2X kd cT m n kl cl q lv ls)]), fn 119 (.bool ok)]
end
section
variable (kd : Int) (cT : List V) (m : Nat) (n : Nat) (kl cl : List Int) (q : Nat) (lv ls : List Int) (z : Int) (sz P : Nat) (al : List V) (WA WB : Nat → Nat → Int)
abbrev i4 (b : Bool) : Hs := [fn 124 (i6 sz), mk 125, (0, .loop [0, 1, 2] (k4S kd cT m n kl cl q lv ls sz z 0) [(True, .exit 4, k4X kd cT m n kl cl q lv ls sz (elF (fun _ => z) (fun _ => 0) sz))]), fn 141 (.im P al), (0, .loop [0, 1, 2] (k6S kd cT m n kl cl q lv sz P al WA WB 0) [(True, .exit 6, k6X n kl cl sz (elF (WA P) (WB P) sz))]), (0, .loop [0, 1] (k9S n kl cl sz (elF (WA P) (WB P) sz) 0) [(b = true, .exit 10, k6X n kl cl sz (elF (WA P) (WB P) sz)), (b = false, .ret, cBad 6)])]
end
end Go.Proofs.Ytgdnmgcigkhojaa.Am

namespace Go.Proofs.Ytgdnmgcigkhojaa.Am
open Go.RowKit
set_option linter.unusedVariables false
set_option maxHeartbeats 1000000
set_option maxRecDepth 100000
theorem clF_at {F : Nat → Int} {keep : List Int} : ∀ {n i : Nat}, i < n → (clF F keep n).getD i 0 = F (keep.getD i 0).toNat
  | 0, _, h => absurd h (Nat.not_lt_zero _)
  | n + 1, i, hi => by
    rw [clF]
    by_cases e : i = n
    · subst e
      have := getD_last (l := clF F keep i) (x := F (keep.getD i 0).toNat)
      rwa [clF_len] at this
    · rw [getD_app (by rw [clF_len]; omega)]; exact clF_at (by omega)
section
variable {kd : Int} {VS CS : Nat → List Int} {A B : Nat → Nat → Int} {N : Nat → Nat} {m : Nat} {keep : List Int}
end
end Go.Proofs.Ytgdnmgcigkhojaa.Am

namespace Go.Proofs.Ytgdnmgcigkhojaa.Am
open Go.RowKit
set_option linter.unusedVariables false
set_option maxHeartbeats 1000000
set_option maxRecDepth 100000
abbrev b8 (n : Nat) : V := .int .u8 (n : Int)
def elemA (k : Int) (a : Nat) : Int := if k = 3 then ((a % 12 : Nat) : Int) - 1 else if k = 4 then ((a % 12 % 2 : Nat) : Int) else ((a % 12 : Nat) : Int)
def elemB (k : Int) (a b : Nat) : Int := if k = 5 ∧ 0 < a % 12 then 1 + ((b % 4 : Nat) : Int) else 0
theorem rem_u8 {G : Ctx} {t : Nat} {x : Nat} {m : Nat} (h : 0 < m) : binV G .rem t (b8 x) (b8 m) = some (b8 (x % m)) := by
  have h0 : (m : Int) ≠ 0 := by omega
  have e : (x : Int).tmod (m : Int) = ((x % m : Nat) : Int) := by rw [Int.tmod_eq_emod_of_nonneg (by omega)]; omega
  simp [binV, intV, e]
  omega
theorem elem_fn (k : Int) (a b : Nat) (ha : a < 256) (hb : b < 256) : FnOk Pg g0 10 [i6 k, b8 a, b8 b] (el (elemA k a) (elemB k a b)) := by
  have r1 : ∀ G t, binV G .rem t (b8 a) (b8 12) = some (b8 (a % 12)) := fun G t => rem_u8 (by omega)
  have r2 : ∀ G t, binV G .rem t (b8 b) (b8 4) = some (b8 (b % 4)) := fun G t => rem_u8 (by omega)
  have : a % 12 < 12 := Nat.mod_lt _ (by omega)
  have : b % 4 < 4 := Nat.mod_lt _ (by omega)
  obtain ⟨p, hp⟩ : ∃ p, p = elemA k a := ⟨_, rfl⟩
  obtain ⟨q, hq⟩ : ∃ q, q = elemB k a b := ⟨_, rfl⟩
  rw [← hp, ← hq]
  unfold elemA at hp
  unfold elemB at hq
  generalize a % 12 = x at *
  generalize b % 4 = y at *
  by_cases h1 : k = 3
  · rw [if_pos h1] at hp
    rw [if_neg (by omega)] at hq
    subst hq
    refine FnOk.of_vc vE_ok mixed sp0_ok (n := 1000) (r := [0]) (S := { sl := [(6, .ptr 0 0)], os := [.row 23 none [i6 p, i6 0]] }) (hs := [va 9 (b8 x), nu 10 (x : Int), yes 14, nu 17 p]) ?_
    refine Eq.mp (by kernel_rfl : (V.agg [i6 p, i6 0] = el p (0 : Int) ∧ binV (ctxOf Try.prog) BinOp.rem 5 (b8 a) (V.int IntKind.u8 (12 : Int)) = some (b8 x) ∧ wr IntKind.i64 (↑x : Int) = (↑x : Int) ∧ (k == (3 : Int)) = true ∧ wr IntKind.i64 ((↑x : Int) - (1 : Int)) = p ∧ (0 = 0 ∧ True) ∧ ([i6 p, i6 0] = [i6 p, i6 0] ∧ True ∧ True ∧ True) ∧ True) = _) ?_
    (repeat' (first | (with_reducible apply And.intro) | (refine fun (_ : True) => ?_))) <;> first | exact aq | skip
    all_goals first | exact r1 _ _ | skip
  · rw [if_neg h1] at hp
    by_cases h2 : k = 4
    · rw [if_pos h2] at hp
      rw [if_neg (by omega)] at hq
      subst hq
      have r3 : ∀ G t, binV G .rem t (i6 (x : Int)) (i6 2) = some (i6 p) := fun G t => by
        rw [rem6 (by decide), hp, Int.tmod_eq_emod_of_nonneg (by omega)]; rfl
      refine FnOk.of_vc vE_ok mixed sp0_ok (n := 1000) (r := [0]) (S := { sl := [(6, .ptr 0 0)], os := [.row 23 none [i6 p, i6 0]] }) (hs := [va 9 (b8 x), nu 10 (x : Int), no 14, yes 20, va 23 (i6 p)]) ?_
      refine Eq.mp (by kernel_rfl : (V.agg [i6 p, i6 0] = el p (0 : Int) ∧ binV (ctxOf Try.prog) BinOp.rem 5 (b8 a) (V.int IntKind.u8 (12 : Int)) = some (b8 x) ∧ wr IntKind.i64 (↑x : Int) = (↑x : Int) ∧ (k == (3 : Int)) = false ∧ (k == (4 : Int)) = true ∧ binV (ctxOf Try.prog) BinOp.rem 3 (i6 (↑x : Int)) (i6 2) = some (i6 p) ∧ (0 = 0 ∧ True) ∧ ([i6 p, i6 0] = [i6 p, i6 0] ∧ True ∧ True ∧ True) ∧ True) = _) ?_
      (repeat' (first | (with_reducible apply And.intro) | (refine fun (_ : True) => ?_))) <;> first | exact aq | skip
      all_goals first | exact r1 _ _ | exact r3 _ _ | skip
    · rw [if_neg h2] at hp
      by_cases h3 : k = 5
      · by_cases h4 : 0 < x
        · rw [if_pos ⟨h3, h4⟩] at hq
          refine FnOk.of_vc vE_ok mixed sp0_ok (n := 1000) (r := [0]) (S := { sl := [(6, .ptr 0 0)], os := [.row 23 none [i6 p, i6 q]] }) (hs := [va 9 (b8 x), nu 10 (x : Int), no 14, no 20, yes 26, yes 29, va 31 (b8 y), nu 32 (y : Int), nu 33 q]) ?_
          refine Eq.mp (by kernel_rfl : (V.agg [i6 p, i6 q] = el p q ∧ binV (ctxOf Try.prog) BinOp.rem 5 (b8 a) (V.int IntKind.u8 (12 : Int)) = some (b8 x) ∧ wr IntKind.i64 (↑x : Int) = (↑x : Int) ∧ (k == (3 : Int)) = false ∧ (k == (4 : Int)) = false ∧ (k == (5 : Int)) = true ∧ decide ((↑x : Int) > (0 : Int)) = true ∧ binV (ctxOf Try.prog) BinOp.rem 5 (b8 b) (V.int IntKind.u8 (4 : Int)) = some (b8 y) ∧ wr IntKind.i64 (↑y : Int) = (↑y : Int) ∧ wr IntKind.i64 ((1 : Int) + (↑y : Int)) = q ∧ (0 = 0 ∧ True) ∧ ([i6 p, i6 q] = [i6 (↑x : Int), i6 q] ∧ True ∧ True ∧ True) ∧ True) = _) ?_
          (repeat' (first | (with_reducible apply And.intro) | (refine fun (_ : True) => ?_))) <;> first | exact aq | skip
          all_goals first | exact r1 _ _ | exact r2 _ _ | skip
        · rw [if_neg (by omega)] at hq
          subst hq
          refine FnOk.of_vc vE_ok mixed sp0_ok (n := 1000) (r := [0]) (S := { sl := [(6, .ptr 0 0)], os := [.row 23 none [i6 p, i6 0]] }) (hs := [va 9 (b8 x), nu 10 (x : Int), no 14, no 20, yes 26, no 29]) ?_
          refine Eq.mp (by kernel_rfl : (V.agg [i6 p, i6 0] = el p (0 : Int) ∧ binV (ctxOf Try.prog) BinOp.rem 5 (b8 a) (V.int IntKind.u8 (12 : Int)) = some (b8 x) ∧ wr IntKind.i64 (↑x : Int) = (↑x : Int) ∧ (k == (3 : Int)) = false ∧ (k == (4 : Int)) = false ∧ (k == (5 : Int)) = true ∧ decide ((↑x : Int) > (0 : Int)) = false ∧ (0 = 0 ∧ True) ∧ ([i6 p, i6 0] = [i6 (↑x : Int), i6 0] ∧ True ∧ True ∧ True) ∧ True) = _) ?_
          (repeat' (first | (with_reducible apply And.intro) | (refine fun (_ : True) => ?_))) <;> first | exact aq | skip
          all_goals first | exact r1 _ _ | skip
      · rw [if_neg (by omega)] at hq
        subst hq
        refine FnOk.of_vc vE_ok mixed sp0_ok (n := 1000) (r := [0]) (S := { sl := [(6, .ptr 0 0)], os := [.row 23 none [i6 p, i6 0]] }) (hs := [va 9 (b8 x), nu 10 (x : Int), no 14, no 20, no 26]) ?_
        refine Eq.mp (by kernel_rfl : (V.agg [i6 p, i6 0] = el p (0 : Int) ∧ binV (ctxOf Try.prog) BinOp.rem 5 (b8 a) (V.int IntKind.u8 (12 : Int)) = some (b8 x) ∧ wr IntKind.i64 (↑x : Int) = (↑x : Int) ∧ (k == (3 : Int)) = false ∧ (k == (4 : Int)) = false ∧ (k == (5 : Int)) = false ∧ (0 = 0 ∧ True) ∧ ([i6 p, i6 0] = [i6 (↑x : Int), i6 0] ∧ True ∧ True ∧ True) ∧ True) = _) ?_
        (repeat' (first | (with_reducible apply And.intro) | (refine fun (_ : True) => ?_))) <;> first | exact aq | skip
        all_goals first | exact r1 _ _ | skip
end Go.Proofs.Ytgdnmgcigkhojaa.Am

namespace Go.Proofs.Ytgdnmgcigkhojaa.Am
open Go.RowKit
set_option linter.unusedVariables false
set_option maxHeartbeats 1000000
set_option maxRecDepth 100000
abbrev smS (l : List Int) (k : Nat) : SL := { sl := [(0, sl l), (1, sl l), (5, i6 k)] }
theorem same2_fn (l : List Int) (hl : l.length ≤ 1000000) : FnOk Pg g0 50 [sl l, sl l] (.bool true) := by
  have lp : Sat Pg none 0 (at' 50 [1, 1, 0, 1, 0]) (mkSt g0 26 (smS l 0)) (outsP g0 26 [(True, .exit 0, { sl := [] })]) := by
    refine loopC vE_ok mixed sp0_ok (b := at' 50 [1, 1, 0, 1, 0, 0]) (by kernel_rfl) (fun k => k ≤ l.length) (smS l) (fun k => l.length - k) (fun k hk => ?_) 0 (Nat.zero_le _)
    by_cases hlt : k < l.length
    · have g1 := @head_intsD l k hlt
      refine .inl ⟨k + 1, [], [yes 14, pl 19, ld 20 (i6 (l.getD k 0)), pl 23, ld 24 (i6 (l.getD k 0)), no 25, nu 16 (k + 1 : Nat)], 1000, by omega, by omega, ?_⟩
      refine Eq.mp (by kernel_rfl : (decide ((↑k : Int) < (↑(List.length l) : Int)) = true ∧ ((0 : Int) ≤ (↑k : Int) ∧ (↑k : Int) < (↑(List.length l) : Int)) ∧ headF (List.drop (k * 1) (ints l)) = some (i6 (List.getD l k (0 : Int))) ∧ ((0 : Int) ≤ (↑k : Int) ∧ (↑k : Int) < (↑(List.length l) : Int)) ∧ headF (List.drop (k * 1) (ints l)) = some (i6 (List.getD l k (0 : Int))) ∧ (List.getD l k (0 : Int) != List.getD l k (0 : Int)) = false ∧ wr IntKind.i64 ((↑k : Int) + (1 : Int)) = (↑(k + 1) : Int) ∧ ((List.length l = List.length l ∧ ints l = ints l) ∧ (List.length l = List.length l ∧ ints l = ints l) ∧ (↑(k + 1) : Int) = (↑(k + 1) : Int) ∧ True) ∧ True) = _) ?_
      (repeat' (first | (with_reducible apply And.intro) | (refine fun (_ : True) => ?_))) <;> first | exact aq | skip
    · refine .inr ⟨.exit 0, [], { sl := [] }, [no 14], 1000, .inl ⟨trivial, rfl, rfl⟩, ?_⟩
      refine Eq.mp (by kernel_rfl : (decide ((↑k : Int) < (↑(List.length l) : Int)) = false ∧ True ∧ True) = _) ?_
      (repeat' (first | (with_reducible apply And.intro) | (refine fun (_ : True) => ?_))) <;> first | exact aq | skip
  refine FnOk.of_vc vE_ok mixed sp0_ok (n := 1000) (r := []) (S := { sl := [(4, .bool true)] }) (hs := [no 10, (0, .loop [] (smS l 0) [(True, .exit 0, { sl := [] })])]) ?_
  refine Eq.mp (by kernel_rfl : (V.bool true = V.bool true ∧ ((↑(List.length l) : Int) != (↑(List.length l) : Int)) = false ∧ (((List.length l = List.length l ∧ ints l = ints l) ∧ (List.length l = List.length l ∧ ints l = ints l) ∧ (↑(0 : Nat) : Int) = (0 : Int) ∧ True) ∧ True) ∧ Sat Try.prog none 0 (at' 50 [1, 1, 0, 1, 0]) (mkSt g0 26 (smS l 0)) (outsP g0 26 [(True, Ex.exit 0, SL.mk [] [] [] [])]) ∧ (True → (true = true ∧ True) ∧ True) ∧ True) = _) ?_
  (repeat' (first | (with_reducible apply And.intro) | (refine fun (_ : True) => ?_))) <;> first | exact aq | skip
abbrev sfS (vs cs : List Int) (A B : Nat → Int) (n k : Nat) : SL := { sl := [(2, .ptr 0 0), (3, .ptr 1 0), (5, i6 k)], os := [.row 32 none [sl vs, sl cs, .im n (elF A B n)], .row 32 none [sl vs, sl cs, .im n (elF A B n)]] }
theorem same4_fn (vs cs : List Int) (A B : Nat → Int) (n : Nat) (h1 : vs.length ≤ 1000000) (h2 : cs.length ≤ 1000000) (h3 : n ≤ 1000000) : FnOk Pg g0 18 [.agg [sl vs, sl cs, .im n (elF A B n)], .agg [sl vs, sl cs, .im n (elF A B n)]] (.bool true) := by
  have s1 := same2_fn vs h1
  have s2 := same2_fn cs h2
  have hv := HfL_ints vs
  have hc := HfL_ints cs
  have hE := HfL_elF A B n
  have lp : Sat Pg none 0 (at' 18 [1, 1, 0, 1, 0]) (mkSt g0 47 (sfS vs cs A B n 0)) (outsP g0 47 [(True, .exit 0, { sl := [] })]) := by
    refine loopC vE_ok mixed sp0_ok (b := at' 18 [1, 1, 0, 1, 0, 0]) (by kernel_rfl) (fun k => k ≤ n) (sfS vs cs A B n) (fun k => n - k) (fun k hk => ?_) 0 (Nat.zero_le _)
    by_cases hlt : k < n
    · have hel := @head_elF A B n k hlt
      refine .inl ⟨k + 1, [0, 1], [yes 33, pl 39, ld 40 (el (A k) (B k)), pl 44, ld 45 (el (A k) (B k)), no 46, nu 35 (k + 1 : Nat)], 1000, by omega, by omega, ?_⟩
      refine Eq.mp (by kernel_rfl : (decide ((↑k : Int) < (↑n : Int)) = true ∧ ((0 : Int) ≤ (↑k : Int) ∧ (↑k : Int) < (↑n : Int)) ∧ takeE 2 (List.drop (k * 2) (elF A B n)) = some [i6 (A k), i6 (B k)] ∧ ((0 : Int) ≤ (↑k : Int) ∧ (↑k : Int) < (↑n : Int)) ∧ takeE 2 (List.drop (k * 2) (elF A B n)) = some [i6 (A k), i6 (B k)] ∧ (!(A k == A k && (B k == B k && true))) = false ∧ wr IntKind.i64 ((↑k : Int) + (1 : Int)) = (↑(k + 1) : Int) ∧ (0 = 0 ∧ 0 = 0 ∧ (↑(k + 1) : Int) = (↑(k + 1) : Int) ∧ True) ∧ ([sl vs, sl cs, V.im n (elF A B n)] = [sl vs, sl cs, V.im n (elF A B n)] ∧ TT 3) ∧ ([sl vs, sl cs, V.im n (elF A B n)] = [sl vs, sl cs, V.im n (elF A B n)] ∧ TT 3) ∧ True) = _) ?_
      (repeat' (first | (with_reducible apply And.intro) | (refine fun (_ : True) => ?_))) <;> first | exact aq | skip
      all_goals first | (simp; done) | skip
    · refine .inr ⟨.exit 0, [], { sl := [] }, [no 33], 1000, .inl ⟨trivial, rfl, rfl⟩, ?_⟩
      refine Eq.mp (by kernel_rfl : (decide ((↑k : Int) < (↑n : Int)) = false ∧ True ∧ True) = _) ?_
      (repeat' (first | (with_reducible apply And.intro) | (refine fun (_ : True) => ?_))) <;> first | exact aq | skip
  refine FnOk.of_vc vE_ok mixed sp0_ok (n := 1000) (r := []) (S := { sl := [(4, .bool true)] }) (hs := [fn 10 (.bool true), fn 17 (.bool true), no 27, (0, .loop [0, 1] (sfS vs cs A B n 0) [(True, .exit 0, { sl := [] })])]) ?_
  refine Eq.mp (by kernel_rfl : (V.bool true = V.bool true ∧ (True ∧ True ∧ True) ∧ FnOk Try.prog g0 50 [V.im (List.length vs) (ints vs), V.im (List.length vs) (ints vs)] (V.bool true) ∧ True ∧ (True ∧ True ∧ True) ∧ FnOk Try.prog g0 50 [V.im (List.length cs) (ints cs), V.im (List.length cs) (ints cs)] (V.bool true) ∧ ((V.fn 50 [] = V.fn 50 [] → [sl vs, sl vs] = [sl cs, sl cs] → pt (pt T.e 0 (O.row 32 none [sl vs, sl cs, V.im n (elF A B n)])) (0 + 1) (O.row 32 none [sl vs, sl cs, V.im n (elF A B n)]) = pt (pt T.e 0 (O.row 32 none [sl vs, sl cs, V.im n (elF A B n)])) (0 + 1) (O.row 32 none [sl vs, sl cs, V.im n (elF A B n)]) → 0 + 1 + 1 = 0 + 1 + 1 → CR.mk (V.bool true) (pt (pt T.e 0 (O.row 32 none [sl vs, sl cs, V.im n (elF A B n)])) (0 + 1) (O.row 32 none [sl vs, sl cs, V.im n (elF A B n)])) (0 + 1 + 1) [] = CR.mk (V.bool true) (pt (pt T.e 0 (O.row 32 none [sl vs, sl cs, V.im n (elF A B n)])) (0 + 1) (O.row 32 none [sl vs, sl cs, V.im n (elF A B n)])) (0 + 1 + 1) []) ∧ True) ∧ ((↑n : Int) != (↑n : Int)) = false ∧ ((0 = 0 ∧ 0 = 0 ∧ (↑(0 : Nat) : Int) = (0 : Int) ∧ True) ∧ ([sl vs, sl cs, V.im n (elF A B n)] = [sl vs, sl cs, V.im n (elF A B n)] ∧ TT 3) ∧ ([sl vs, sl cs, V.im n (elF A B n)] = [sl vs, sl cs, V.im n (elF A B n)] ∧ TT 3) ∧ True) ∧ Sat Try.prog none 0 (at' 18 [1, 1, 0, 1, 0]) (mkSt g0 47 (sfS vs cs A B n 0)) (outsP g0 47 [(True, Ex.exit 0, SL.mk [] [] [] [])]) ∧ (True → (true = true ∧ True) ∧ True) ∧ True) = _) ?_
  (repeat' (first | (with_reducible apply And.intro) | (refine fun (_ : True) => ?_))) <;> first | exact aq | skip
  all_goals first | rfl | (intro h _; rw [sl_inj (List.cons.inj h).1]) | (intro _ h _ _; rw [sl_inj (List.cons.inj h).1]) | skip
end Go.Proofs.Ytgdnmgcigkhojaa.Am

namespace Go.Proofs.Ytgdnmgcigkhojaa.Am
open Go.RowKit
set_option linter.unusedVariables false
set_option maxHeartbeats 1000000
set_option maxRecDepth 100000
theorem shr_8 {G : Ctx} {t : Nat} {x k : Nat} {K : IntKind} (hk : k ≤ 8) : binV G .shr t (b8 x) (.int K (k : Int)) = some (b8 (x / 2 ^ k)) := by
  have h1 : ((k : Int) < 0) = False := by simp
  have h2 : min k 8 = k := by omega
  simp only [binV, intV, h1, if_false, Int.toNat_natCast, IntKind.bits, h2]
  rw [Int.fdiv_eq_ediv_of_nonneg _ (Int.natCast_nonneg _)]
  rfl
theorem and1_8 {G : Ctx} {t : Nat} {x : Nat} : binV G .and t (b8 x) (b8 1) = some (b8 (x % 2)) := by
  have h : (BitVec.ofInt 8 (x : Int) &&& BitVec.ofInt 8 1).toNat = x % 2 := by
    rw [BitVec.toNat_and]
    have h1 : (BitVec.ofInt 8 1).toNat = 1 := by decide
    rw [h1, Nat.and_one_is_mod]
    have h2 : (BitVec.ofInt 8 (x : Int)).toNat = x % 2 ^ 8 := by
      rw [BitVec.toNat_ofInt]; omega
    rw [h2]; omega
  have hw : IntKind.u8.wrap ((x % 2 : Nat) : Int) = ((x % 2 : Nat) : Int) := by
    rw [← wr_eq]; exact wr_in (by simp [lo]; omega) (by simp [hi]; omega)
  have e : binV G .and t (b8 x) (b8 1) = some (.int .u8 (IntKind.u8.wrap ((BitVec.ofInt 8 (x : Int) &&& BitVec.ofInt 8 1).toNat : Int))) := rfl
  rw [e, h, hw]
theorem quo_u8 {G : Ctx} {t : Nat} {x m : Nat} (h : 0 < m) (hx : x < 256) : binV G .quo t (b8 x) (b8 m) = some (b8 (x / m)) := by
  have h0 : (m : Int) ≠ 0 := by omega
  have hy : x / m < 256 := by have := Nat.div_le_self x m; omega
  have e : (x : Int).tdiv (m : Int) = ((x / m : Nat) : Int) := by rw [Int.tdiv_eq_ediv_of_nonneg (by omega)]; omega
  generalize x / m = y at *
  have hw : wr .u8 (y : Int) = (y : Int) := wr_in (by simp [lo]) (by simp [hi]; omega)
  simp [binV, intV, e, hw]
  omega
def cdN : Nat → Int
  | 0 => 2
  | 1 => 3
  | 2 => 1
  | 3 => 2
  | 4 => 2
  | _ => 0
def dQ (w : Nat) : Nat → Nat
  | 0 => 0
  | v + 1 => if w / 2 ^ v % 2 = 1 then dQ w v + 1 else dQ w v
def dV (w : Nat) : Nat → List Int
  | 0 => []
  | v + 1 => if w / 2 ^ v % 2 = 1 then dV w v ++ [(v : Int)] else dV w v
def dC (w : Nat) : Nat → List Int
  | 0 => []
  | v + 1 => if w / 2 ^ v % 2 = 1 then dC w v ++ [cdN v] else dC w v
theorem dV_len (w : Nat) : ∀ v, (dV w v).length = dQ w v
  | 0 => rfl
  | v + 1 => by unfold dV dQ; split <;> simp [dV_len w v]
theorem dC_len (w : Nat) : ∀ v, (dC w v).length = dQ w v
  | 0 => rfl
  | v + 1 => by unfold dC dQ; split <;> simp [dC_len w v]
theorem dQ_le (w : Nat) : ∀ v, dQ w v ≤ v
  | 0 => Nat.le_refl _
  | v + 1 => by have := dQ_le w v; unfold dQ; split <;> omega
theorem place73 {g k : Nat} (h : k < 5) : placeV (ctxOf Pg) 73 (.ptr g 0) (k : Int) = some (.ptr g k) := by
  have e : placeV (ctxOf Pg) 73 (.ptr g 0) (k : Int) = (if 0 ≤ (k : Int) ∧ (k : Int) < ((5 : Nat) : Int) then addOff (.ptr g 0) ((k : Int).toNat * 1) else none) := by kernel_rfl
  rw [e, if_pos (by omega)]
  simp [addOff]
theorem head73 : ∀ {k : Nat}, k < 5 → headF (dropF k [i6 2, i6 3, i6 1, i6 2, i6 2]) = some (i6 (cdN k))
  | 0, _ => rfl
  | 1, _ => rfl
  | 2, _ => rfl
  | 3, _ => rfl
  | 4, _ => rfl
  | k + 5, h => by omega
abbrev bL (L : List Nat) : V := .im L.length (L.map b8)
theorem HfL_b8 (L : List Nat) : HfL (L.map b8) := by
  induction L with
  | nil => trivial
  | cons x l ih => exact ⟨trivial, ih⟩
theorem head_b8 {L : List Nat} {k : Nat} (h : k < L.length) : headF ((L.map b8).drop (k * 1)) = some (b8 (L.getD k 0)) := by
  rw [Nat.mul_one, ← List.map_drop, List.drop_eq_getElem_cons h, List.getD_eq_getElem?_getD, List.getElem?_eq_getElem h]; rfl
abbrev dtL (w : Nat) (L : List Nat) : List V := [b8 w, bL L]
abbrev d73 : List V := [i6 2, i6 3, i6 1, i6 2, i6 2]
abbrev d1S (kd : Int) (w : Nat) (L : List Nat) (p : Nat × Nat × List Int × List Int) : SL := { sl := [(1, i6 kd), (2, .ptr 0 0), (4, .ptr 1 0), (5, .ptr 2 0), (6, .ptr 3 0), (7, i6 p.1)], os := .row 39 none (dtL w L) :: r3 :: .row 73 none d73 :: .row 32 none [owV 4 p.2.1, owV 5 p.2.1, .nils] :: (owO p.2.2.1 p.2.1 ++ owO p.2.2.2 p.2.1), md := [0, 0, 0, 1] }
abbrev d1X (kd : Int) (w : Nat) (L : List Nat) (q : Nat) (vs cs : List Int) : SL := { sl := [(1, i6 kd), (2, .ptr 0 0), (4, .ptr 1 0), (6, .ptr 2 0)], os := [.row 39 none (dtL w L), r3, .row 32 none [.im q (ints vs), .im q (ints cs), .nils]], md := [0, 0, 1] }
theorem dr_vars (kd : Int) (w : Nat) (hw : w < 256) (L : List Nat) :
    Sat Pg none 0 (at' 12 [1, 1, 1, 0, 1, 0]) (mkSt g0 67 (d1S kd w L (0, 0, [], []))) (outsP g0 67 [(True, .exit 0, d1X kd w L (dQ w 5) (dV w 5) (dC w 5))]) := by
  refine loopC vE_ok mixed sp0_ok (b := at' 12 [1, 1, 1, 0, 1, 0, 0]) (by kernel_rfl) (fun p => p.1 ≤ 5 ∧ p.2.1 = dQ w p.1 ∧ p.2.2.1 = dV w p.1 ∧ p.2.2.2 = dC w p.1) (d1S kd w L) (fun p => 5 - p.1) (fun p hp => ?_) (0, 0, [], []) ⟨Nat.zero_le _, rfl, rfl, rfl⟩
  obtain ⟨i, q, vs, cs⟩ := p
  obtain ⟨hi, hq, hv, hs⟩ := hp
  dsimp only at hi hq hv hs
  have hB := HfL_b8 L
  have l1 := dV_len w i
  have l2 := dC_len w i
  rw [← hv, ← hq] at l1
  rw [← hs, ← hq] at l2
  have hle := dQ_le w i
  rw [← hq] at hle
  by_cases hlt : i < 5
  · have hsh := @shr_8 (ctxOf Pg) 5 w i .u64 (by omega)
    have han := @and1_8 (ctxOf Pg) 5 (w / 2 ^ i)
    have hp := @place73 2 i hlt
    have hh := @head73 i hlt
    have hc : wr .u64 (i : Int) = (i : Int) := conv6 (by omega) (by omega)
    by_cases hpos : w / 2 ^ i % 2 = 1
    · have e1 : dQ w (i + 1) = q + 1 := by rw [dQ, if_pos hpos, hq]
      have e2 : dV w (i + 1) = vs ++ [(i : Int)] := by rw [dV, if_pos hpos, hv]
      have e3 : dC w (i + 1) = cs ++ [cdN i] := by rw [dC, if_pos hpos, hs]
      have a1 := ints_app vs (i : Int)
      have a2 := ints_app cs (cdN i)
      have hH1 := HfL_ints (vs ++ [(i : Int)])
      have hH2 := HfL_ints (cs ++ [cdN i])
      rw [hpos] at han
      cases q with
      | zero =>
        have z1 : vs = [] := List.eq_nil_of_length_eq_zero l1
        have z2 : cs = [] := List.eq_nil_of_length_eq_zero l2
        refine .inl ⟨(i + 1, 1, vs ++ [(i : Int)], cs ++ [cdN i]), [0, 1, 2, 3, 5, 7], [yes 12, nu 18 (i : Nat), va 19 (b8 (w / 2 ^ i)), va 20 (b8 1), va 31 (.ptr 2 i), ld 32 (i6 (cdN i)), nu 14 (i + 1 : Nat)], 1000, ⟨by dsimp only; omega, e1.symm, e2.symm, e3.symm⟩, by dsimp only; omega, ?_⟩
        subst z1 z2
        clear hv hs hq e1 e2 e3
        refine Eq.mp (by kernel_rfl : (decide ((↑i : Int) < (5 : Int)) = true ∧ wr IntKind.u64 (↑i : Int) = (↑i : Int) ∧ binV (ctxOf Try.prog) BinOp.shr 5 (b8 w) (V.int IntKind.u64 (↑i : Int)) = some (b8 (w / 2 ^ i)) ∧ binV (ctxOf Try.prog) BinOp.and 5 (b8 (w / 2 ^ i)) (V.int IntKind.u8 (1 : Int)) = some (b8 1) ∧ placeV (ctxOf Try.prog) 73 (V.ptr 2 0) (↑i : Int) = some (V.ptr 2 i) ∧ headF (dropF i d73) = some (i6 (cdN i)) ∧ wr IntKind.i64 ((↑i : Int) + (1 : Int)) = (↑(i + 1) : Int) ∧ (kd = kd ∧ 0 = 0 ∧ 0 = 0 ∧ 0 = 0 ∧ 0 = 0 ∧ (↑(i + 1) : Int) = (↑(i + 1) : Int) ∧ True) ∧ (dtL w L = dtL w L ∧ True ∧ True ∧ True) ∧ ([V.nils, V.nils, V.nils] = [V.nils, V.nils, V.nils] ∧ TT 3) ∧ (d73 = d73 ∧ TT 5) ∧ ((0 = 0 ∧ 0 + 1 = 1 ∧ True) ∧ (0 = 0 ∧ 0 + 1 = 1 ∧ True) ∧ True ∧ True) ∧ (ints ([] ++ [(↑i : Int)]) = [i6 (↑i : Int)] ∧ True ∧ True) ∧ (ints ([] ++ [cdN i]) = [i6 (cdN i)] ∧ True ∧ True) ∧ True) = _) ?_
        (repeat' (first | (with_reducible apply And.intro) | (refine fun (_ : True) => ?_))) <;> first | exact aq | skip
        all_goals first | exact hc | exact hsh | exact han | exact hp | exact hh | rfl | skip
      | succ q =>
        refine .inl ⟨(i + 1, q + 1 + 1, vs ++ [(i : Int)], cs ++ [cdN i]), [0, 1, 2, 3, 7, 9], [yes 12, nu 18 (i : Nat), va 19 (b8 (w / 2 ^ i)), va 20 (b8 1), ap 26, va 31 (.ptr 2 i), ld 32 (i6 (cdN i)), ap 34, nu 14 (i + 1 : Nat)], 1000, ⟨by dsimp only; omega, e1.symm, e2.symm, e3.symm⟩, by dsimp only; omega, ?_⟩
        clear hv hs hq e1 e2 e3
        refine Eq.mp (by kernel_rfl : (decide ((↑i : Int) < (5 : Int)) = true ∧ wr IntKind.u64 (↑i : Int) = (↑i : Int) ∧ binV (ctxOf Try.prog) BinOp.shr 5 (b8 w) (V.int IntKind.u64 (↑i : Int)) = some (b8 (w / 2 ^ i)) ∧ binV (ctxOf Try.prog) BinOp.and 5 (b8 (w / 2 ^ i)) (V.int IntKind.u8 (1 : Int)) = some (b8 1) ∧ List.length (ints vs) = (q + 1) * 1 ∧ q + 1 + 1 ≤ 9223372036854775807 ∧ (q + 1 + 1) * 8 ≤ 140737488355328 ∧ placeV (ctxOf Try.prog) 73 (V.ptr 2 0) (↑i : Int) = some (V.ptr 2 i) ∧ headF (dropF i d73) = some (i6 (cdN i)) ∧ List.length (ints cs) = (q + 1) * 1 ∧ q + 1 + 1 ≤ 9223372036854775807 ∧ (q + 1 + 1) * 8 ≤ 140737488355328 ∧ wr IntKind.i64 ((↑i : Int) + (1 : Int)) = (↑(i + 1) : Int) ∧ (kd = kd ∧ 0 = 0 ∧ 0 = 0 ∧ 0 = 0 ∧ 0 = 0 ∧ (↑(i + 1) : Int) = (↑(i + 1) : Int) ∧ True) ∧ (dtL w L = dtL w L ∧ True ∧ True ∧ True) ∧ ([V.nils, V.nils, V.nils] = [V.nils, V.nils, V.nils] ∧ TT 3) ∧ (d73 = d73 ∧ TT 5) ∧ ((0 = 0 ∧ Nat.succ q + 1 = q + 1 + 1 ∧ True) ∧ (0 = 0 ∧ Nat.succ q + 1 = q + 1 + 1 ∧ True) ∧ True ∧ True) ∧ (ints (vs ++ [(↑i : Int)]) = ints vs ++ [i6 (↑i : Int)] ∧ HfL (ints (vs ++ [(↑i : Int)]))) ∧ (ints (cs ++ [cdN i]) = ints cs ++ [i6 (cdN i)] ∧ HfL (ints (cs ++ [cdN i]))) ∧ True) = _) ?_
        (repeat' (first | (with_reducible apply And.intro) | (refine fun (_ : True) => ?_))) <;> first | exact aq | skip
        all_goals first | exact hc | exact hsh | exact han | exact hp | exact hh | rfl | exact a1 | exact a2 | (rw [ints_length]; omega) | skip
    · have e1 : dQ w (i + 1) = q := by rw [dQ, if_neg hpos, hq]
      have e2 : dV w (i + 1) = vs := by rw [dV, if_neg hpos, hv]
      have e3 : dC w (i + 1) = cs := by rw [dC, if_neg hpos, hs]
      have hH1 := HfL_ints vs
      have hH2 := HfL_ints cs
      have h0 : w / 2 ^ i % 2 = 0 := by omega
      rw [h0] at han
      cases q with
      | zero =>
        refine .inl ⟨(i + 1, 0, vs, cs), [0, 1, 2, 3], [yes 12, nu 18 (i : Nat), va 19 (b8 (w / 2 ^ i)), va 20 (b8 0), nu 14 (i + 1 : Nat)], 1000, ⟨by dsimp only; omega, e1.symm, e2.symm, e3.symm⟩, by dsimp only; omega, ?_⟩
        clear hv hs hq e1 e2 e3
        refine Eq.mp (by kernel_rfl : (decide ((↑i : Int) < (5 : Int)) = true ∧ wr IntKind.u64 (↑i : Int) = (↑i : Int) ∧ binV (ctxOf Try.prog) BinOp.shr 5 (b8 w) (V.int IntKind.u64 (↑i : Int)) = some (b8 (w / 2 ^ i)) ∧ binV (ctxOf Try.prog) BinOp.and 5 (b8 (w / 2 ^ i)) (V.int IntKind.u8 (1 : Int)) = some (b8 0) ∧ wr IntKind.i64 ((↑i : Int) + (1 : Int)) = (↑(i + 1) : Int) ∧ (kd = kd ∧ 0 = 0 ∧ 0 = 0 ∧ 0 = 0 ∧ 0 = 0 ∧ (↑(i + 1) : Int) = (↑(i + 1) : Int) ∧ True) ∧ (dtL w L = dtL w L ∧ True ∧ True ∧ True) ∧ ([V.nils, V.nils, V.nils] = [V.nils, V.nils, V.nils] ∧ TT 3) ∧ (d73 = d73 ∧ TT 5) ∧ (TT 3) ∧ True) = _) ?_
        (repeat' (first | (with_reducible apply And.intro) | (refine fun (_ : True) => ?_))) <;> first | exact aq | skip
        all_goals first | exact hc | exact hsh | exact han | rfl | skip
      | succ q =>
        refine .inl ⟨(i + 1, q + 1, vs, cs), [0, 1, 2, 3, 4, 5], [yes 12, nu 18 (i : Nat), va 19 (b8 (w / 2 ^ i)), va 20 (b8 0), nu 14 (i + 1 : Nat)], 1000, ⟨by dsimp only; omega, e1.symm, e2.symm, e3.symm⟩, by dsimp only; omega, ?_⟩
        clear hv hs hq e1 e2 e3
        refine Eq.mp (by kernel_rfl : (decide ((↑i : Int) < (5 : Int)) = true ∧ wr IntKind.u64 (↑i : Int) = (↑i : Int) ∧ binV (ctxOf Try.prog) BinOp.shr 5 (b8 w) (V.int IntKind.u64 (↑i : Int)) = some (b8 (w / 2 ^ i)) ∧ binV (ctxOf Try.prog) BinOp.and 5 (b8 (w / 2 ^ i)) (V.int IntKind.u8 (1 : Int)) = some (b8 0) ∧ wr IntKind.i64 ((↑i : Int) + (1 : Int)) = (↑(i + 1) : Int) ∧ (kd = kd ∧ 0 = 0 ∧ 0 = 0 ∧ 0 = 0 ∧ 0 = 0 ∧ (↑(i + 1) : Int) = (↑(i + 1) : Int) ∧ True) ∧ (dtL w L = dtL w L ∧ True ∧ True ∧ True) ∧ ([V.nils, V.nils, V.nils] = [V.nils, V.nils, V.nils] ∧ TT 3) ∧ (d73 = d73 ∧ TT 5) ∧ ((0 = 0 ∧ q + 1 = q + 1 ∧ True) ∧ (0 = 0 ∧ q + 1 = q + 1 ∧ True) ∧ True ∧ True) ∧ (ints vs = ints vs ∧ HfL (ints vs)) ∧ (ints cs = ints cs ∧ HfL (ints cs)) ∧ True) = _) ?_
        (repeat' (first | (with_reducible apply And.intro) | (refine fun (_ : True) => ?_))) <;> first | exact aq | skip
        all_goals first | exact hc | exact hsh | exact han | rfl | skip
  · have : i = 5 := by omega
    subst this
    rw [← hq, ← hv, ← hs]
    have hH1 := HfL_ints vs
    have hH2 := HfL_ints cs
    cases q with
    | zero =>
      have z1 : vs = [] := List.eq_nil_of_length_eq_zero l1
      have z2 : cs = [] := List.eq_nil_of_length_eq_zero l2
      refine .inr ⟨.exit 0, [0, 1, 3], d1X kd w L 0 vs cs, [], 1000, .inl ⟨trivial, rfl, rfl⟩, ?_⟩
      subst z1 z2
      refine Eq.mp (by kernel_rfl : ((kd = kd ∧ 0 = 0 ∧ 0 = 0 ∧ 0 = 0 ∧ True) ∧ (dtL w L = dtL w L ∧ True ∧ True ∧ True) ∧ ([V.nils, V.nils, V.nils] = [V.nils, V.nils, V.nils] ∧ TT 3) ∧ (0 = 0 ∧ 0 = 0 ∧ True ∧ True) ∧ True) = _) ?_
      (repeat' (first | (with_reducible apply And.intro) | (refine fun (_ : True) => ?_))) <;> first | exact aq | skip
      all_goals first | rfl | skip
    | succ q =>
      refine .inr ⟨.exit 0, [0, 1, 3], d1X kd w L (q + 1) vs cs, [], 1000, .inl ⟨trivial, rfl, rfl⟩, ?_⟩
      refine Eq.mp (by kernel_rfl : ((kd = kd ∧ 0 = 0 ∧ 0 = 0 ∧ 0 = 0 ∧ True) ∧ (dtL w L = dtL w L ∧ True ∧ True ∧ True) ∧ ([V.nils, V.nils, V.nils] = [V.nils, V.nils, V.nils] ∧ TT 3) ∧ ((q + 1 = q + 1 ∧ ints vs = ints vs ∧ HfL (ints vs)) ∧ (q + 1 = q + 1 ∧ ints cs = ints cs ∧ HfL (ints cs)) ∧ True ∧ True) ∧ True) = _) ?_
      (repeat' (first | (with_reducible apply And.intro) | (refine fun (_ : True) => ?_))) <;> first | exact aq | skip
      all_goals first | rfl | skip
def dE (L : List Nat) (i : Nat) : Nat := if L.length = 0 then 1 else L.getD (i % L.length) 0
def dA (kd : Int) (L : List Nat) (i : Nat) : Int := elemA kd (dE L i)
def dB (kd : Int) (L : List Nat) (i : Nat) : Int := elemB kd (dE L i) (dE L i / 12)
def owE (A B : Nat → Int) : Nat → List O
  | 0 => []
  | n + 1 => [.row 23 (some 2) (elF A B (n + 1))]
abbrev d2S (kd : Int) (w : Nat) (L : List Nat) (q : Nat) (vs cs : List Int) (A B : Nat → Int) (i : Nat) : SL := { sl := [(1, i6 kd), (2, .ptr 0 0), (4, .ptr 1 0), (6, .ptr 2 0), (8, i6 i)], os := .row 39 none (dtL w L) :: r3 :: .row 32 none [.im q (ints vs), .im q (ints cs), owV 3 i] :: owE A B i, md := [0, 0, 1] }
abbrev d2X (q : Nat) (vs cs : List Int) (A B : Nat → Int) (n : Nat) : SL := { sl := [(4, .ptr 0 0), (6, .ptr 1 0)], os := [r3, .row 32 none [.im q (ints vs), .im q (ints cs), .im n (elF A B n)]], md := [0, 1] }
theorem dr_elems (kd : Int) (w : Nat) (L : List Nat) (hL : ∀ k, k < L.length → L.getD k 0 < 256) (hL2 : L.length ≤ 9223372036854775807) (q : Nat) (vs cs : List Int) (n : Nat) (hn : n ≤ 4096) (hsz : FnOk Pg g0 36 [.im q (ints cs)] (i6 n)) :
    Sat Pg none 0 (at' 12 [1, 1, 1, 1, 0, 1, 0]) (mkSt g0 67 (d2S kd w L q vs cs (dA kd L) (dB kd L) 0)) (outsP g0 67 [(True, .exit 2, d2X q vs cs (dA kd L) (dB kd L) n)]) := by
  refine loopC vE_ok mixed sp0_ok (b := at' 12 [1, 1, 1, 1, 0, 1, 0, 0]) (by kernel_rfl) (fun i => i ≤ n) (d2S kd w L q vs cs (dA kd L) (dB kd L)) (fun i => n - i) (fun i hi => ?_) 0 (Nat.zero_le _)
  have hB := HfL_b8 L
  have hH1 := HfL_ints vs
  have hH2 := HfL_ints cs
  have hE := HfL_elF (dA kd L) (dB kd L) i
  have hE1 := HfL_elF (dA kd L) (dB kd L) (i + 1)
  have hsu := elF_succ (dA kd L) (dB kd L) i
  have hln := elF_len (dA kd L) (dB kd L) i
  by_cases hlt : i < n
  · obtain ⟨e, he⟩ : ∃ e, e = dE L i := ⟨_, rfl⟩
    have heb : e < 256 := by
      rw [he]; unfold dE
      split
      · omega
      · exact hL _ (Nat.mod_lt _ (by omega))
    have hel := elem_fn kd e (e / 12) heb (by omega)
    have ea : dA kd L i = elemA kd e := by rw [he]; rfl
    have eb : dB kd L i = elemB kd e (e / 12) := by rw [he]; rfl
    rw [← ea, ← eb] at hel
    have hqu := @quo_u8 (ctxOf Pg) 5 e 12 (by omega) heb
    by_cases h0 : L.length = 0
    · have e1 : e = 1 := by rw [he]; unfold dE; rw [if_pos h0]
      subst e1
      clear he hL
      cases i with
      | zero =>
        refine .inl ⟨0 + 1, [0, 1, 2, 4], [fn 39 (i6 n), yes 40, no 46, fn 62 (el (dA kd L 0) (dB kd L 0)), nu 42 (0 + 1 : Nat)], 1000, by omega, by omega, ?_⟩
        generalize dA kd L = A at *
        generalize dB kd L = B at *
        refine Eq.mp (by kernel_rfl : ((True ∧ True) ∧ FnOk Try.prog g0 36 [V.im q (ints cs)] (i6 (↑n : Int)) ∧ True ∧ decide ((↑(0 : Nat) : Int) < (↑n : Int)) = true ∧ decide ((↑(List.length L) : Int) > (0 : Int)) = false ∧ (TT 3) ∧ FnOk Try.prog g0 10 [i6 kd, V.int IntKind.u8 (1 : Int), V.int IntKind.u8 (wr IntKind.u8 (Int.tdiv (1 : Int) (12 : Int)))] (el (A 0) (B 0)) ∧ True ∧ wr IntKind.i64 ((↑(0 : Nat) : Int) + (1 : Int)) = (↑(0 + 1) : Int) ∧ (kd = kd ∧ 0 = 0 ∧ 0 = 0 ∧ 0 = 0 ∧ (↑(0 + 1) : Int) = (↑(0 + 1) : Int) ∧ True) ∧ (dtL w L = dtL w L ∧ True ∧ True ∧ True) ∧ ([V.nils, V.nils, V.nils] = [V.nils, V.nils, V.nils] ∧ TT 3) ∧ ((q = q ∧ ints vs = ints vs) ∧ (q = q ∧ ints cs = ints cs) ∧ (0 = 0 ∧ 0 + 1 = 1 ∧ True) ∧ True) ∧ (elF A B (0 + 1) = [i6 (A 0), i6 (B 0)] ∧ True ∧ True ∧ True) ∧ True) = _) ?_
        (repeat' (first | (with_reducible apply And.intro) | (refine fun (_ : True) => ?_))) <;> first | exact aq | skip
        all_goals first | exact hel | exact hsu | exact hsu.symm | exact hln | rfl | skip
      | succ i =>
        refine .inl ⟨i + 1 + 1, [0, 1, 2, 5], [fn 39 (i6 n), yes 40, no 46, fn 62 (el (dA kd L (i + 1)) (dB kd L (i + 1))), ap 64, nu 42 (i + 1 + 1 : Nat)], 1000, by omega, by omega, ?_⟩
        generalize dA kd L = A at *
        generalize dB kd L = B at *
        refine Eq.mp (by kernel_rfl : ((True ∧ True) ∧ FnOk Try.prog g0 36 [V.im q (ints cs)] (i6 (↑n : Int)) ∧ True ∧ decide ((↑(i + 1) : Int) < (↑n : Int)) = true ∧ decide ((↑(List.length L) : Int) > (0 : Int)) = false ∧ (TT 3) ∧ FnOk Try.prog g0 10 [i6 kd, V.int IntKind.u8 (1 : Int), V.int IntKind.u8 (wr IntKind.u8 (Int.tdiv (1 : Int) (12 : Int)))] (el (A (i + 1)) (B (i + 1))) ∧ True ∧ List.length (elF A B (i + 1)) = (i + 1) * 2 ∧ i + 1 + 1 ≤ 9223372036854775807 ∧ (i + 1 + 1) * 16 ≤ 140737488355328 ∧ wr IntKind.i64 ((↑(i + 1) : Int) + (1 : Int)) = (↑(i + 1 + 1) : Int) ∧ (kd = kd ∧ 0 = 0 ∧ 0 = 0 ∧ 0 = 0 ∧ (↑(i + 1 + 1) : Int) = (↑(i + 1 + 1) : Int) ∧ True) ∧ (dtL w L = dtL w L ∧ True ∧ True ∧ True) ∧ ([V.nils, V.nils, V.nils] = [V.nils, V.nils, V.nils] ∧ TT 3) ∧ ((q = q ∧ ints vs = ints vs) ∧ (q = q ∧ ints cs = ints cs) ∧ (0 = 0 ∧ Nat.succ i + 1 = i + 1 + 1 ∧ True) ∧ True) ∧ (elF A B (Nat.succ i + 1) = elF A B (i + 1) ++ [i6 (A (i + 1)), i6 (B (i + 1))] ∧ HfL (elF A B (Nat.succ i + 1))) ∧ True) = _) ?_
        (repeat' (first | (with_reducible apply And.intro) | (refine fun (_ : True) => ?_))) <;> first | exact aq | skip
        all_goals first | exact hel | exact hsu | exact hsu.symm | exact hln | rfl | skip
    · have e1 : e = L.getD (i % L.length) 0 := by rw [he]; unfold dE; rw [if_neg h0]
      have hld := @head_b8 L (i % L.length) (Nat.mod_lt _ (by omega))
      rw [← e1] at hld
      have hrm : ∀ G t, binV G .rem t (i6 i) (i6 L.length) = some (i6 ((i % L.length : Nat) : Int)) := fun G t => by
        have e : (i : Int).tmod (L.length : Int) = ((i % L.length : Nat) : Int) := by rw [Int.tmod_eq_emod_of_nonneg (by omega)]; omega
        rw [rem6 (by omega), e]
      have hml := Nat.mod_lt i (show 0 < L.length by omega)
      clear he hL e1
      generalize i % L.length = r at *
      cases i with
      | zero =>
        refine .inl ⟨0 + 1, [0, 1, 2, 4], [fn 39 (i6 n), yes 40, yes 46, va 53 (i6 (r : Int)), pl 54, ld 55 (b8 e), va 61 (b8 (e / 12)), fn 62 (el (dA kd L 0) (dB kd L 0)), nu 42 (0 + 1 : Nat)], 1000, by omega, by omega, ?_⟩
        generalize dA kd L = A at *
        generalize dB kd L = B at *
        refine Eq.mp (by kernel_rfl : ((True ∧ True) ∧ FnOk Try.prog g0 36 [V.im q (ints cs)] (i6 (↑n : Int)) ∧ True ∧ decide ((↑(0 : Nat) : Int) < (↑n : Int)) = true ∧ decide ((↑(List.length L) : Int) > (0 : Int)) = true ∧ binV (ctxOf Try.prog) BinOp.rem 3 (i6 (↑(0 : Nat) : Int)) (i6 (↑(List.length L) : Int)) = some (i6 (↑r : Int)) ∧ ((0 : Int) ≤ (↑r : Int) ∧ (↑r : Int) < (↑(List.length L) : Int)) ∧ headF (List.drop (r * 1) (List.map b8 L)) = some (b8 e) ∧ binV (ctxOf Try.prog) BinOp.quo 5 (b8 e) (V.int IntKind.u8 (12 : Int)) = some (b8 (e / 12)) ∧ (TT 3) ∧ FnOk Try.prog g0 10 [i6 kd, V.int IntKind.u8 (↑e : Int), V.int IntKind.u8 (↑(e / 12) : Int)] (el (A 0) (B 0)) ∧ True ∧ wr IntKind.i64 ((↑(0 : Nat) : Int) + (1 : Int)) = (↑(0 + 1) : Int) ∧ (kd = kd ∧ 0 = 0 ∧ 0 = 0 ∧ 0 = 0 ∧ (↑(0 + 1) : Int) = (↑(0 + 1) : Int) ∧ True) ∧ (dtL w L = dtL w L ∧ True ∧ True ∧ True) ∧ ([V.nils, V.nils, V.nils] = [V.nils, V.nils, V.nils] ∧ TT 3) ∧ ((q = q ∧ ints vs = ints vs) ∧ (q = q ∧ ints cs = ints cs) ∧ (0 = 0 ∧ 0 + 1 = 1 ∧ True) ∧ True) ∧ (elF A B (0 + 1) = [i6 (A 0), i6 (B 0)] ∧ True ∧ True ∧ True) ∧ True) = _) ?_
        (repeat' (first | (with_reducible apply And.intro) | (refine fun (_ : True) => ?_))) <;> first | exact aq | skip
        all_goals first | exact hrm _ _ | exact hld | exact hqu | exact hsu | exact hsu.symm | exact hln | rfl | skip
      | succ i =>
        refine .inl ⟨i + 1 + 1, [0, 1, 2, 5], [fn 39 (i6 n), yes 40, yes 46, va 53 (i6 (r : Int)), pl 54, ld 55 (b8 e), va 61 (b8 (e / 12)), fn 62 (el (dA kd L (i + 1)) (dB kd L (i + 1))), ap 64, nu 42 (i + 1 + 1 : Nat)], 1000, by omega, by omega, ?_⟩
        generalize dA kd L = A at *
        generalize dB kd L = B at *
        refine Eq.mp (by kernel_rfl : ((True ∧ True) ∧ FnOk Try.prog g0 36 [V.im q (ints cs)] (i6 (↑n : Int)) ∧ True ∧ decide ((↑(i + 1) : Int) < (↑n : Int)) = true ∧ decide ((↑(List.length L) : Int) > (0 : Int)) = true ∧ binV (ctxOf Try.prog) BinOp.rem 3 (i6 (↑(i + 1) : Int)) (i6 (↑(List.length L) : Int)) = some (i6 (↑r : Int)) ∧ ((0 : Int) ≤ (↑r : Int) ∧ (↑r : Int) < (↑(List.length L) : Int)) ∧ headF (List.drop (r * 1) (List.map b8 L)) = some (b8 e) ∧ binV (ctxOf Try.prog) BinOp.quo 5 (b8 e) (V.int IntKind.u8 (12 : Int)) = some (b8 (e / 12)) ∧ (TT 3) ∧ FnOk Try.prog g0 10 [i6 kd, V.int IntKind.u8 (↑e : Int), V.int IntKind.u8 (↑(e / 12) : Int)] (el (A (i + 1)) (B (i + 1))) ∧ True ∧ List.length (elF A B (i + 1)) = (i + 1) * 2 ∧ i + 1 + 1 ≤ 9223372036854775807 ∧ (i + 1 + 1) * 16 ≤ 140737488355328 ∧ wr IntKind.i64 ((↑(i + 1) : Int) + (1 : Int)) = (↑(i + 1 + 1) : Int) ∧ (kd = kd ∧ 0 = 0 ∧ 0 = 0 ∧ 0 = 0 ∧ (↑(i + 1 + 1) : Int) = (↑(i + 1 + 1) : Int) ∧ True) ∧ (dtL w L = dtL w L ∧ True ∧ True ∧ True) ∧ ([V.nils, V.nils, V.nils] = [V.nils, V.nils, V.nils] ∧ TT 3) ∧ ((q = q ∧ ints vs = ints vs) ∧ (q = q ∧ ints cs = ints cs) ∧ (0 = 0 ∧ Nat.succ i + 1 = i + 1 + 1 ∧ True) ∧ True) ∧ (elF A B (Nat.succ i + 1) = elF A B (i + 1) ++ [i6 (A (i + 1)), i6 (B (i + 1))] ∧ HfL (elF A B (Nat.succ i + 1))) ∧ True) = _) ?_
        (repeat' (first | (with_reducible apply And.intro) | (refine fun (_ : True) => ?_))) <;> first | exact aq | skip
        all_goals first | exact hrm _ _ | exact hld | exact hqu | exact hsu | exact hsu.symm | exact hln | rfl | skip
  · have : i = n := by omega
    subst this
    clear hL
    generalize dA kd L = A at *
    generalize dB kd L = B at *
    cases i with
    | zero =>
      refine .inr ⟨.exit 2, [1, 2], d2X q vs cs A B 0, [fn 39 (i6 0), no 40], 1000, .inl ⟨trivial, rfl, rfl⟩, ?_⟩
      refine Eq.mp (by kernel_rfl : ((True ∧ True) ∧ FnOk Try.prog g0 36 [V.im q (ints cs)] (i6 0) ∧ True ∧ decide ((↑(0 : Nat) : Int) < (0 : Int)) = false ∧ (0 = 0 ∧ 0 = 0 ∧ True) ∧ ([V.nils, V.nils, V.nils] = [V.nils, V.nils, V.nils] ∧ TT 3) ∧ ((q = q ∧ ints vs = ints vs) ∧ (q = q ∧ ints cs = ints cs) ∧ 0 = 0 ∧ True) ∧ True) = _) ?_
      (repeat' (first | (with_reducible apply And.intro) | (refine fun (_ : True) => ?_))) <;> first | exact aq | skip
      all_goals first | rfl | exact hsz | skip
    | succ i =>
      refine .inr ⟨.exit 2, [1, 2], d2X q vs cs A B (i + 1), [fn 39 (i6 ((i + 1 : Nat) : Int)), no 40], 1000, .inl ⟨trivial, rfl, rfl⟩, ?_⟩
      refine Eq.mp (by kernel_rfl : ((True ∧ True) ∧ FnOk Try.prog g0 36 [V.im q (ints cs)] (i6 (↑(i + 1) : Int)) ∧ True ∧ decide ((↑(i + 1) : Int) < (↑(i + 1) : Int)) = false ∧ (0 = 0 ∧ 0 = 0 ∧ True) ∧ ([V.nils, V.nils, V.nils] = [V.nils, V.nils, V.nils] ∧ TT 3) ∧ ((q = q ∧ ints vs = ints vs) ∧ (q = q ∧ ints cs = ints cs) ∧ (i + 1 = i + 1 ∧ elF A B (i + 1) = elF A B (i + 1) ∧ HfL (elF A B (i + 1))) ∧ True) ∧ True) = _) ?_
      (repeat' (first | (with_reducible apply And.intro) | (refine fun (_ : True) => ?_))) <;> first | exact aq | skip
      all_goals first | rfl | exact hsz | skip
def dN (w : Nat) : Nat := (prodT (dC w 5) (dQ w 5)).toNat
theorem dC_card (w : Nat) : ∀ v, v ≤ 5 → ∀ i, i < dQ w v → 1 ≤ (dC w v).getD i 0 ∧ (dC w v).getD i 0 ≤ 3
  | 0, _, i, h => absurd h (Nat.not_lt_zero _)
  | v + 1, hv, i, h => by
    have l := dC_len w v
    have ih := dC_card w v (by omega) i
    have hc : 1 ≤ cdN v ∧ cdN v ≤ 3 := by
      rcases (show v = 0 ∨ v = 1 ∨ v = 2 ∨ v = 3 ∨ v = 4 by omega) with rfl | rfl | rfl | rfl | rfl <;> decide
    rw [dQ] at h
    rw [dC]
    split
    · rename_i hb
      rw [if_pos hb] at h
      by_cases e : i = dQ w v
      · rw [e, ← l, getD_last]; exact hc
      · rw [getD_app (by omega)]; exact ih (by omega)
    · rename_i hb
      rw [if_neg hb] at h
      exact ih h
theorem d_good (w : Nat) : goodT (dC w 5) (dQ w 5) = true := by
  have key : ∀ k, k ≤ dQ w 5 → goodT (dC w 5) k = true ∧ prodT (dC w 5) k ≤ 3 ^ k := by
    intro k
    induction k with
    | zero => intro _; exact ⟨rfl, Int.le_refl _⟩
    | succ k ih =>
      intro hk
      obtain ⟨i1, i2⟩ := ih (by omega)
      have hc := dC_card w 5 (Nat.le_refl _) k (by omega)
      have hb := goodT_bd i1
      have hm := Int.mul_le_mul i2 hc.2 (by omega) (by have : (1 : Int) ≤ 3 ^ k := Int.le_trans hb.1 i2; omega)
      have hp : prodT (dC w 5) (k + 1) ≤ 3 ^ (k + 1) := by rw [prodT, Int.pow_succ]; exact hm
      have h5 : (3 : Int) ^ (k + 1) ≤ 243 := by
        have := dQ_le w 5
        rcases (show k = 0 ∨ k = 1 ∨ k = 2 ∨ k = 3 ∨ k = 4 by omega) with rfl | rfl | rfl | rfl | rfl <;> decide
      refine ⟨?_, hp⟩
      rw [goodT, i1, Bool.true_and, decide_eq_true_eq]
      omega
  exact (key _ (Nat.le_refl _)).1
theorem table_fn (kd : Int) (w : Nat) (hw : w < 256) (L : List Nat) (hL : ∀ k, k < L.length → L.getD k 0 < 256) (hL2 : L.length ≤ 9223372036854775807) : FnOk Pg g0 12 [.agg (dtL w L), i6 kd] (.agg (tbL (dV w 5) (dC w 5) (dA kd L) (dB kd L) (dN w))) := by
  have hg := d_good w
  have hgb := goodT_bd hg
  have hln := dC_len w 5
  have hlv := dV_len w 5
  have h5 := dQ_le w 5
  have hN : ((dN w : Nat) : Int) = prodT (dC w 5) (dQ w 5) := by unfold dN; omega
  have hsz := rsize_fn (dC w 5) (dQ w 5) hln.symm (by omega) (fun k hk => by have := goodT_bd (goodT_pre hg hk); omega)
  rw [← hN] at hsz
  have l1 := dr_vars kd w hw L
  have l2 := dr_elems kd w L hL hL2 (dQ w 5) (dV w 5) (dC w 5) (dN w) (by omega) hsz
  have hB := HfL_b8 L
  have hH1 := HfL_ints (dV w 5)
  have hH2 := HfL_ints (dC w 5)
  have hE := HfL_elF (dA kd L) (dB kd L) (dN w)
  rw [show tbL (dV w 5) (dC w 5) (dA kd L) (dB kd L) (dN w) = [.im (dQ w 5) (ints (dV w 5)), .im (dQ w 5) (ints (dC w 5)), .im (dN w) (elF (dA kd L) (dB kd L) (dN w))] from by
    show [V.im (dV w 5).length _, V.im (dC w 5).length _, _] = _
    rw [hlv, hln]]
  clear hg hgb hL hN hsz
  generalize dQ w 5 = q at *
  generalize dV w 5 = vs at *
  generalize dC w 5 = cs at *
  generalize dA kd L = A at *
  generalize dB kd L = B at *
  generalize dN w = n at *
  refine FnOk.of_vc vE_ok mixed sp0_ok (n := 1000) (r := [0]) (S := { sl := [(4, .ptr 0 0)], os := [.row 32 none [.im q (ints vs), .im q (ints cs), .im n (elF A B n)]] }) (hs := [(0, .loop [0, 1, 2, 3] (d1S kd w L (0, 0, [], [])) [(True, .exit 0, d1X kd w L q vs cs)]), (0, .loop [0, 1, 2] (d2S kd w L q vs cs A B 0) [(True, .exit 2, d2X q vs cs A B n)])]) ?_
  refine Eq.mp (by kernel_rfl : (V.agg [V.im q (ints vs), V.im q (ints cs), V.im n (elF A B n)] = V.agg [V.im q (ints vs), V.im q (ints cs), V.im n (elF A B n)] ∧ ((kd = kd ∧ 0 = 0 ∧ 0 = 0 ∧ 0 = 0 ∧ 0 = 0 ∧ (↑(0 : Nat) : Int) = (0 : Int) ∧ True) ∧ (dtL w L = [b8 w, bL L] ∧ True ∧ True ∧ True) ∧ ([V.nils, V.nils, V.nils] = [V.nils, V.nils, V.nils] ∧ TT 3) ∧ (d73 = [i6 2, i6 3, i6 1, i6 2, i6 2] ∧ TT 5) ∧ (TT 3) ∧ True) ∧ Sat Try.prog none 0 (at' 12 [1, 1, 1, 0, 1, 0]) (mkSt g0 67 (d1S kd w L (0, 0, [], []))) (outsP g0 67 [(True, Ex.exit 0, d1X kd w L q vs cs)]) ∧ (True → ((kd = kd ∧ 0 = 0 ∧ 0 = 0 ∧ 0 = 0 ∧ (↑(0 : Nat) : Int) = (0 : Int) ∧ True) ∧ (dtL w L = dtL w L ∧ True ∧ True ∧ True) ∧ ([V.nils, V.nils, V.nils] = [V.nils, V.nils, V.nils] ∧ TT 3) ∧ ((q = q ∧ ints vs = ints vs) ∧ (q = q ∧ ints cs = ints cs) ∧ True ∧ True) ∧ True) ∧ Sat Try.prog none 0 (at' 12 [1, 1, 1, 1, 0, 1, 0]) (mkSt g0 67 (d2S kd w L q vs cs A B 0)) (outsP g0 67 [(True, Ex.exit 2, d2X q vs cs A B n)]) ∧ (True → (0 = 0 ∧ True) ∧ ([V.im q (ints vs), V.im q (ints cs), V.im n (elF A B n)] = [V.im q (ints vs), V.im q (ints cs), V.im n (elF A B n)] ∧ TT 3) ∧ True) ∧ True) ∧ True) = _) ?_
  (repeat' (first | (with_reducible apply And.intro) | (refine fun (_ : True) => ?_))) <;> first | exact aq | skip
  all_goals first | rfl | skip
end Go.Proofs.Ytgdnmgcigkhojaa.Am

namespace Go.Proofs.Ytgdnmgcigkhojaa.Am
open Go.RowKit
set_option linter.unusedVariables false
set_option maxHeartbeats 1000000
set_option maxRecDepth 100000
def noF (kd : Int) (VS CS : Nat → List Int) (A B : Nat → Nat → Int) (N : Nat → Nat) (i : Nat) : Int := if 1 ≤ kd ∧ kd ≤ 5 then (if goodA kd VS CS A B N i = true then 0 else 41) else 40
section
variable (kn : Nat) (kc : List V) (dn : Nat) (dc : List V) (w : Nat) (kk : Int) (sn : Nat) (sc : List V) (k0 k1 ia : Int) (p1 : Nat) (c1 : List V) (p2 : Nat) (c2 c3 : List V) (ib : Int) (m : Nat) (c : List V) (rw : List V) (tn : Nat) (tc : List V)
abbrev bS : List (Nat × V) := [(2, .im kn kc), (3, .im dn dc), (4, b8 w), (6, .ptr 0 0), (12, i6 kk), (18, .im sn sc), (42, .agg [i6 k0, i6 k1]), (43, i6 ia), (105, .agg [.im p1 c1, .im p2 c2, .im 2 c3]), (106, i6 ib), (21, .im m c), (111, .agg [.im kn kc, .im sn sc])]
abbrev btS (ic : Int) (e : Int) (T : List V) (nn i : Int) : SL := { sl := bS kn kc dn dc w kk sn sc k0 k1 ia p1 c1 p2 c2 c3 ib m c ++ [(112, i6 ic), (23, .im tn tc), (24, .ptr 1 0), (25, i6 e), (26, .ptr 2 0), (27, i6 nn), (125, .im m c), (126, i6 m), (127, i6 i)], os := [.row 33 none rw, .row 32 none T, r3] }
abbrev btX (ic : Int) (e : Int) (T : List V) (nn : Int) : SL := { sl := bS kn kc dn dc w kk sn sc k0 k1 ia p1 c1 p2 c2 c3 ib m c ++ [(112, i6 ic), (23, .im tn tc), (24, .ptr 1 0), (25, i6 e), (26, .ptr 2 0), (27, i6 nn)], os := [.row 33 none rw, .row 32 none T, r3] }
end
end Go.Proofs.Ytgdnmgcigkhojaa.Am

namespace Go.Proofs.Ytgdnmgcigkhojaa.Am
open Go.RowKit
set_option linter.unusedVariables false
set_option maxHeartbeats 1000000
set_option maxRecDepth 100000
section
variable (kn : Nat) (kc : List V) (dn : Nat) (dc : List V) (w : Nat) (kk : Int) (sn : Nat) (sc : List V) (k0 k1 ia : Int) (p1 : Nat) (c1 : List V) (p2 : Nat) (c2 c3 : List V) (ib : Int) (m : Nat) (c : List V) (rw : List V)
abbrev l8S (ic : Int) : SL := { sl := bS kn kc dn dc w kk sn sc k0 k1 ia p1 c1 p2 c2 c3 ib m c ++ [(112, i6 ic)], os := [.row 33 none rw] }
abbrev l8X : SL := { sl := [(2, .im kn kc), (3, .im dn dc), (4, b8 w), (6, .ptr 0 0), (12, i6 kk), (18, .im sn sc), (42, .agg [i6 k0, i6 k1]), (43, i6 ia), (105, .agg [.im p1 c1, .im p2 c2, .im 2 c3]), (106, i6 ib)], os := [.row 33 none rw] }
end
end Go.Proofs.Ytgdnmgcigkhojaa.Am

namespace Go.Proofs.Ytgdnmgcigkhojaa.Am
open Go.RowKit
set_option linter.unusedVariables false
set_option maxHeartbeats 1000000
set_option maxRecDepth 100000
theorem works_ok : FnOk Pg g0 8 [] (.bool true) := FnOk.of_run vE_ok mixed (n := 100000) rfl (by kernel_rfl)
end Go.Proofs.Ytgdnmgcigkhojaa.Am

namespace Go.Proofs.Ytgdnmgcigkhojaa.Am
open Go.RowKit
set_option linter.unusedVariables false
set_option maxHeartbeats 1000000
set_option maxRecDepth 100000
section
variable (W : Nat → Nat) (Ls : Nat → List Nat) (kk : Int)
def dtF (i : Nat) : List V := dtL (W i) (Ls i)
abbrev mV (i : Nat) : List Int := dV (W i) 5
abbrev mC (i : Nat) : List Int := dC (W i) 5
abbrev mA (i : Nat) : Nat → Int := dA kk (Ls i)
abbrev mB (i : Nat) : Nat → Int := dB kk (Ls i)
abbrev mN (i : Nat) : Nat := dN (W i)
abbrev mT : Nat → List V := tbF (mV W) (mC W) (mA Ls kk) (mB Ls kk) (mN W)
def owM : Nat → List O
  | 0 => []
  | n + 1 => [.row 32 (some 3) (blF (mT W Ls kk) (n + 1))]
end
section
variable (kn : Nat) (kc : List V) (dn : Nat) (dc : List V) (w : Nat) (kk : Int) (k0 k1 ia : Int) (rw : List V)
abbrev cS : List (Nat × V) := [(2, .im kn kc), (3, .im dn dc), (4, b8 w), (6, .ptr 0 0), (12, i6 kk), (42, .agg [i6 k0, i6 k1]), (43, i6 ia)]
abbrev l2S (W : Nat → Nat) (Ls : Nat → List Nat) (dm : Nat) (p : Nat × Nat) : SL := { sl := cS kn kc dn dc w kk k0 k1 ia ++ [(13, owV 1 p.2), (50, .im dm (blF (dtF W Ls) dm)), (51, i6 dm), (52, i6 p.1)], os := .row 33 none rw :: owM W Ls kk p.2 }
abbrev l2X (mm : Nat) (c : List V) : SL := { sl := cS kn kc dn dc w kk k0 k1 ia ++ [(13, .im mm c)], os := [.row 33 none rw] }
end
def smQ (F : Nat → Int) (w : Nat) : Nat → Nat
  | 0 => 0
  | v + 1 => if 0 < F v ∧ w / 2 ^ (3 + v) % 2 = 1 then smQ F w v + 1 else smQ F w v
def smF (F : Nat → Int) (w : Nat) : Nat → List Int
  | 0 => []
  | v + 1 => if 0 < F v ∧ w / 2 ^ (3 + v) % 2 = 1 then smF F w v ++ [(v : Int)] else smF F w v
section
variable (kn : Nat) (kc : List V) (dn : Nat) (dc : List V) (w : Nat) (kk : Int) (k0 k1 ia : Int) (rw : List V) (mm : Nat) (c : List V)
abbrev l4S (F : Nat → Int) (p : Nat × Nat × List Int) : SL := { sl := cS kn kc dn dc w kk k0 k1 ia ++ [(13, .im mm c), (16, .im 64 (a64 F)), (18, owV 1 p.2.1), (70, i6 p.1)], os := .row 33 none rw :: owO p.2.2 p.2.1 }
abbrev l4X (q : Nat) (l : List Int) : SL := { sl := cS kn kc dn dc w kk k0 k1 ia ++ [(13, .im mm c), (18, .im q (ints l))], os := [.row 33 none rw] }
end
end Go.Proofs.Ytgdnmgcigkhojaa.Am

namespace Go.Proofs.Ytgdnmgcigkhojaa.Am
open Go.RowKit Go.ChangeShapes Go.WideShapes
set_option linter.unusedVariables false
set_option maxRecDepth 100000
theorem no_spot {w : World} {a : Addr} {v : Value} (h : w.cell? a = some v) : a = ⟨a.block, a.off, none⟩ ∧ a.block < w.heap.size := by
  unfold World.cell? at h
  split at h
  · rename_i c e f hb
    refine ⟨?_, (Array.getElem?_eq_some_iff.1 hb).1⟩
    cases a with
    | mk b o s =>
      cases s with
      | none => rfl
      | some x => simp at h
  · cases h
theorem wf8 {n : Int} (h : (Lit.int .u8 n).wf = true) : 0 ≤ n ∧ n ≤ 255 := by
  simp only [Lit.wf, Bool.and_eq_true, decide_eq_true_eq] at h
  exact h
section
variable {H : Type} {enc : TypeId × Value → H} {w : World}
theorem trod_i {t : TypeId} {k : IntKind} {fuel : Nat} {cs : List Value} {x : DataW H × List MemPlace} (ht : Pg.underlying t = some (.int k)) (h : DataW.trod enc Pg w 0 (fun _ => true) true fuel t cs = some x) : ∃ n, cs = [.int k n] ∧ (Lit.int k n).wf = true := by
  cases fuel with
  | zero => simp [DataW.trod] at h
  | succ m =>
    obtain ⟨n, rfl, _, hw⟩ := DataW.trod_int ht h
    exact ⟨n, rfl, hw⟩
theorem RL_get : ∀ {l : List V} {cs : List Value} {s : Sig}, RL s w l cs → l.length = cs.length ∧ ∀ (j : Nat) (v : Value), cs[j]? = some v → ∃ x : V, l[j]? = some x ∧ RV s w x v
  | [], _, _, h => by subst h; exact ⟨rfl, fun j v h => (by simp at h)⟩
  | x :: l, _, s, ⟨v, vs, rfl, h1, h2⟩ => by
    obtain ⟨e, k⟩ := RL_get h2
    refine ⟨by simp [e], fun j u hu => ?_⟩
    cases j with
    | zero => exact ⟨x, rfl, by simp at hu; exact hu ▸ h1⟩
    | succ j => exact k j u (by simpa using hu)
theorem RC_of {b : Nat} (hb : b < w.heap.size) : ∀ {l : List V} {off : Nat}, (∀ j x, l[j]? = some x → ∃ v, w.cell? ⟨b, off + j, none⟩ = some v ∧ RV (sg (allB w)) w x v) → RC (sg (allB w)) w l b off
  | [], _, _ => trivial
  | x :: l, off, h => by
    obtain ⟨v, h1, h2⟩ := h 0 x rfl
    exact ⟨⟨hb, v, h1, h2⟩, RC_of hb fun j y hy => by
      obtain ⟨u, k1, k2⟩ := h (j + 1) y (by simpa using hy)
      exact ⟨u, by rw [show off + 1 + j = off + (j + 1) by omega]; exact k1, k2⟩⟩
theorem blF_get {f : Nat → List V} {s : Nat} (hs : 0 < s) : ∀ {n j : Nat} {x : V}, (∀ i, i < n → (f i).length = s) → (blF f n)[j]? = some x → j / s < n ∧ (f (j / s))[j % s]? = some x
  | 0, j, x, _, h => by rw [blF_zero] at h; simp at h
  | n + 1, j, x, hl, h => by
    have hlen : ∀ m, m ≤ n → (blF f m).length = m * s := by
      intro m
      induction m with
      | zero => intro _; rw [blF_zero]; simp
      | succ m ih => intro hm; rw [blF_succ, List.length_append, ih (by omega), hl m (by omega), Nat.succ_mul]
    rw [blF_succ] at h
    by_cases hj : j < n * s
    · rw [List.getElem?_append_left (by rw [hlen n (Nat.le_refl _)]; exact hj)] at h
      obtain ⟨a, b⟩ := blF_get hs (fun i hi => hl i (by omega)) h
      exact ⟨by omega, b⟩
    · rw [List.getElem?_append_right (by rw [hlen n (Nat.le_refl _)]; omega), hlen n (Nat.le_refl _)] at h
      have hlt : j - n * s < s := by
        have := (List.getElem?_eq_some_iff.1 h).1
        rw [hl n (by omega)] at this; exact this
      have e1 : j / s = n := by
        rw [Nat.div_eq_iff hs]; constructor
        · rw [Nat.mul_comm] at *; omega
        · have : (n + 1) * s = n * s + s := Nat.succ_mul n s
          omega
      have e2 : j % s = j - n * s := by rw [Nat.mod_eq_sub_div_mul, e1]
      rw [e1, e2]
      exact ⟨by omega, h⟩
theorem trod_blocks {t e : TypeId} {s : Nat} (hs : 0 < s) (ht : Pg.underlying t = some (.slice e)) (hce : Pg.cellsOf e = s) (Q : List V → Prop) (hQ : ∀ (fuel : Nat) (cs : List Value) (x : DataW H × List MemPlace), DataW.trod enc Pg w 0 (fun _ => true) true fuel e cs = some x → ∃ l : List V, l.length = s ∧ RL (sg (allB w)) w l cs ∧ Q l)
    {fuel : Nat} {cs : List Value} {x : DataW H × List MemPlace} (h : DataW.trod enc Pg w 0 (fun _ => true) true fuel t cs = some x) :
    ∃ (v : Value) (f : Nat → List V) (n : Nat), cs = [v] ∧ RV (sg (allB w)) w (.im n (blF f n)) v ∧ (∀ i, i < n → (f i).length = s ∧ Q (f i)) ∧ n ≤ 9223372036854775807 := by
  rcases DataW.trod_slice ht h with ⟨rfl, _⟩ | ⟨a, len, cap, elems, rest, m, _, rfl, _, _, hl, hmx, hlen, hel, _, _⟩
  · exact ⟨_, fun _ => [], 0, rfl, ⟨none, 0, rfl, Nat.le_refl _, fun h => absurd rfl h⟩, fun i hi => absurd hi (Nat.not_lt_zero _), Nat.zero_le _⟩
  · rw [hce] at hel
    have each : ∀ i : Nat, ∃ l : List V, i < len → (l.length = s ∧ Q l ∧ ∀ j x, l[j]? = some x → ∃ v, w.cell? ((a.add (i * s)).add j) = some v ∧ RV (sg (allB w)) w x v) := by
      intro i
      by_cases hi : i < len
      · have h1 := hel i hi
        rw [List.getElem?_eq_getElem (by omega)] at h1
        obtain ⟨cs', hcs, hy⟩ := Option.bind_eq_some_iff.1 h1
        obtain ⟨l, k1, k2, k3⟩ := hQ _ _ _ hy
        obtain ⟨e1, e2⟩ := RL_get k2
        refine ⟨l, fun _ => ⟨k1, k3, fun j x hx => ?_⟩⟩
        have hj : j < s := by rw [← k1]; exact (List.getElem?_eq_some_iff.1 hx).1
        have hc := (World.cells?_some hcs).2.2 j hj
        have hjl : j < cs'.length := by omega
        rw [List.getElem?_eq_getElem hjl] at hc
        obtain ⟨y, y1, y2⟩ := e2 j _ (List.getElem?_eq_getElem hjl)
        rw [hx] at y1
        cases y1
        exact ⟨_, hc, y2⟩
      · exact ⟨[], fun h => absurd h hi⟩
    obtain ⟨f, hf⟩ := Classical.axiomOfChoice each
    have hmx' : cap ≤ 9223372036854775807 := hmx
    refine ⟨_, f, len, rfl, ?_, fun i hi => ⟨(hf i hi).1, (hf i hi).2.1⟩, by omega⟩
    refine ⟨some a, cap, by simp, hl, fun hn => ?_⟩
    have h0 : 0 < len := by omega
    obtain ⟨k1, _, k3⟩ := hf 0 h0
    obtain ⟨x0, hx0⟩ : ∃ x0, (f 0)[0]? = some x0 := ⟨_, List.getElem?_eq_getElem (by omega)⟩
    obtain ⟨v0, c0, _⟩ := k3 0 x0 hx0
    obtain ⟨h1, h2⟩ := no_spot (by simpa [Addr.add] using c0)
    refine ⟨a.block, a.off, by rw [← h1], RC_of h2 fun j x hx => ?_⟩
    obtain ⟨q1, q2⟩ := blF_get hs (fun i hi => (hf i hi).1) hx
    obtain ⟨v, c1, c2⟩ := (hf _ q1).2.2 _ _ q2
    refine ⟨v, ?_, c2⟩
    rw [h1, addr_add, addr_add, Nat.add_assoc] at c1
    have e : j / s * s + j % s = j := by rw [Nat.mul_comm]; exact Nat.div_add_mod j s
    rw [e] at c1
    exact c1
theorem trod_sl {t e : TypeId} {k : IntKind} {fuel : Nat} {cs : List Value} {x : DataW H × List MemPlace} (ht : Pg.underlying t = some (.slice e)) (he : Pg.underlying e = some (.int k)) (hc : Pg.cellsOf e = 1)
    (h : DataW.trod enc Pg w 0 (fun _ => true) true fuel t cs = some x) : ∃ (v : Value) (L : List Int), cs = [v] ∧ RV (sg (allB w)) w (.im L.length (L.map (V.int k))) v ∧ (∀ n ∈ L, (Lit.int k n).wf = true) ∧ L.length ≤ 9223372036854775807 := by
  obtain ⟨v, f, n, rfl, h1, h2, h3⟩ := trod_blocks (s := 1) (by omega) ht hc (fun l => ∃ m, l = [.int k m] ∧ (Lit.int k m).wf = true) (fun fuel cs x hx => by
    obtain ⟨m, rfl, hw⟩ := trod_i he hx
    exact ⟨[.int k m], rfl, ⟨_, _, rfl, rfl, rfl⟩, m, rfl, hw⟩) h
  have : ∀ i : Nat, ∃ m : Int, i < n → f i = [.int k m] ∧ (Lit.int k m).wf = true := fun i => by
    by_cases hi : i < n
    · obtain ⟨m, e1, e2⟩ := (h2 i hi).2
      exact ⟨m, fun _ => ⟨e1, e2⟩⟩
    · exact ⟨0, fun h => absurd h hi⟩
  obtain ⟨g, hg⟩ := Classical.axiomOfChoice this
  have e : blF f n = ((List.range n).map g).map (V.int k) := by
    have : ∀ m, m ≤ n → blF f m = ((List.range m).map g).map (V.int k) := by
      intro m
      induction m with
      | zero => intro _; rfl
      | succ m ih => intro hm; rw [blF_succ, ih (by omega), (hg m (by omega)).1, List.range_succ, List.map_append, List.map_append]; rfl
    exact this n (Nat.le_refl _)
  refine ⟨v, (List.range n).map g, rfl, by rw [← e]; simpa using h1, fun m hm => ?_, by simpa using h3⟩
  obtain ⟨i, hi, rfl⟩ := List.mem_map.1 hm
  exact (hg i (List.mem_range.1 hi)).2
theorem trod_dr {fuel : Nat} {cs : List Value} {x : DataW H × List MemPlace} (h : DataW.trod enc Pg w 0 (fun _ => true) true fuel 39 cs = some x) : ∃ (m : Nat) (L : List Nat), RL (sg (allB w)) w [b8 m, bL L] cs ∧ m < 256 ∧ (∀ k, k < L.length → L.getD k 0 < 256) ∧ L.length ≤ 9223372036854775807 := by
  obtain ⟨xs, n, _, _, hl, hlen, hfd⟩ := DataW.trod_struct Try.underlying39 h
  have hc : Pg.cellsOf 39 = 2 := by kernel_rfl
  rw [hc] at hl
  obtain ⟨c0, c1, rfl⟩ : ∃ c0 c1, cs = [c0, c1] := by
    match cs, hl with
    | [c0, c1], _ => exact ⟨c0, c1, rfl⟩
  have hlen' : xs.length = 2 := hlen
  obtain ⟨y0, y1, rfl⟩ : ∃ y0 y1, xs = [y0, y1] := by
    match xs, hlen' with
    | [y0, y1], _ => exact ⟨y0, y1, rfl⟩
  have h5 : Pg.cellsOf 5 = 1 := by kernel_rfl
  have h37 : Pg.cellsOf 37 = 1 := by kernel_rfl
  have f0 : DataW.trod enc Pg w 0 (fun _ => true) true n 5 (List.take (Pg.cellsOf 5) (List.drop 0 [c0, c1])) = some y0 := hfd 0 _ rfl
  have f1 : DataW.trod enc Pg w 0 (fun _ => true) true n 37 (List.take (Pg.cellsOf 37) (List.drop 1 [c0, c1])) = some y1 := hfd 1 _ rfl
  rw [h5] at f0
  rw [h37] at f1
  obtain ⟨k0, e0, w0⟩ := trod_i Try.underlying5 (x := y0) f0
  obtain ⟨v1, L, e1, r1, w1, l1⟩ := trod_sl Try.underlying37 Try.underlying5 (by kernel_rfl) (x := y1) f1
  simp at e0 e1
  subst e0 e1
  have hw0 := wf8 w0
  have eL : L.map (V.int .u8) = (L.map Int.toNat).map b8 := by
    rw [List.map_map]
    refine List.map_congr_left fun z hz => ?_
    have := wf8 (w1 z hz)
    show V.int .u8 z = V.int .u8 ((z.toNat : Nat) : Int)
    rw [Int.toNat_of_nonneg this.1]
  refine ⟨k0.toNat, L.map Int.toNat, ⟨_, _, rfl, ?_, _, _, rfl, ?_, rfl⟩, by omega, fun k hk => ?_, by simpa using l1⟩
  · show Value.int .u8 k0 = Value.int .u8 ((k0.toNat : Nat) : Int)
    rw [Int.toNat_of_nonneg hw0.1]
  · show RV _ _ (.im (L.map Int.toNat).length ((L.map Int.toNat).map b8)) _
    rw [← eL, List.length_map]
    exact r1
  · rw [List.length_map] at hk
    rw [List.getD_eq_getElem?_getD, List.getElem?_map, List.getElem?_eq_getElem hk]
    have := wf8 (w1 _ (List.getElem_mem hk))
    simp
    omega
theorem arg_dr1 {v : Value} {d : DataW H} {p : List MemPlace} (hv : ∃ cs, v = .agg cs ∧ cs.size = Pg.cellsOf 39) (h : DataW.Trod enc Pg w 0 (fun _ => true) true 39 v d p) :
    ∃ (m : Nat) (L : List Nat), RV (sg (allB w)) w (.agg (dtL m L)) v ∧ m < 256 ∧ (∀ k, k < L.length → L.getD k 0 < 256) ∧ L.length ≤ 9223372036854775807 := by
  obtain ⟨arr, rfl, hsz⟩ := hv
  obtain ⟨fuel, hf⟩ := h
  have hcells : (Value.agg arr).cells.toList = arr.toList := rfl
  rw [hcells] at hf
  obtain ⟨m, L, h1, h2⟩ := trod_dr hf
  exact ⟨m, L, ⟨arr, rfl, h1⟩, h2⟩
end
end Go.Proofs.Ytgdnmgcigkhojaa.Am

namespace Go.Proofs.Ytgdnmgcigkhojaa.Am
open Go.RowKit
set_option linter.unusedVariables false
set_option maxHeartbeats 1000000
def drF (w v : Nat) : Int := if v < 5 ∧ w / 2 ^ v % 2 = 1 then cdN v else 0
theorem cdN_bd {v : Nat} (h : v < 5) : 1 ≤ cdN v ∧ cdN v ≤ 3 := by
  rcases (show v = 0 ∨ v = 1 ∨ v = 2 ∨ v = 3 ∨ v = 4 by omega) with rfl | rfl | rfl | rfl | rfl <;> decide
theorem drF_pos {w v : Nat} : 0 < drF w v ↔ v < 5 ∧ w / 2 ^ v % 2 = 1 := by
  unfold drF
  constructor
  · intro h
    split at h
    · assumption
    · omega
  · intro h; rw [if_pos h]; have := cdN_bd h.1; omega
theorem drF_lists (w : Nat) : ∀ i, i ≤ 5 → qF (drF w) i = dQ w i ∧ vF (drF w) i = dV w i ∧ sF (drF w) i = dC w i
  | 0, _ => ⟨rfl, rfl, rfl⟩
  | i + 1, hi => by
    obtain ⟨a, b, c⟩ := drF_lists w i (by omega)
    rw [qF, vF, sF, dQ, dV, dC, a, b, c]
    by_cases h : w / 2 ^ i % 2 = 1
    · have hp : 0 < drF w i := drF_pos.2 ⟨by omega, h⟩
      have he : drF w i = cdN i := if_pos ⟨by omega, h⟩
      rw [if_pos hp, if_pos hp, if_pos hp, if_pos h, if_pos h, if_pos h, he]
      exact ⟨rfl, rfl, rfl⟩
    · have hp : ¬ 0 < drF w i := fun h' => h (drF_pos.1 h').2
      rw [if_neg hp, if_neg hp, if_neg hp, if_neg h, if_neg h, if_neg h]
      exact ⟨rfl, rfl, rfl⟩
theorem drF_all (w : Nat) : ∀ i, qF (drF w) (5 + i) = dQ w 5 ∧ vF (drF w) (5 + i) = dV w 5 ∧ sF (drF w) (5 + i) = dC w 5
  | 0 => drF_lists w 5 (Nat.le_refl _)
  | i + 1 => by
    obtain ⟨a, b, c⟩ := drF_all w i
    have hp : ¬ 0 < drF w (5 + i) := fun h' => by have := (drF_pos.1 h').1; omega
    show qF (drF w) (5 + i + 1) = _ ∧ vF (drF w) (5 + i + 1) = _ ∧ sF (drF w) (5 + i + 1) = _
    rw [qF, vF, sF, if_neg hp, if_neg hp, if_neg hp]
    exact ⟨a, b, c⟩
theorem drF_64 (w : Nat) : qF (drF w) 64 = dQ w 5 ∧ vF (drF w) 64 = dV w 5 ∧ sF (drF w) 64 = dC w 5 := drF_all w 59
theorem dV_at {w v : Nat} (h : v < 5) (hb : w / 2 ^ v % 2 = 1) : (dV w 5).getD (dQ w v) 0 = v ∧ (dC w 5).getD (dQ w v) 0 = cdN v ∧ dQ w v < dQ w 5 := by
  have hp : 0 < drF w v := drF_pos.2 ⟨h, hb⟩
  have := vF_at (F := drF w) (i := 5) h hp
  obtain ⟨a, b, c⟩ := drF_lists w 5 (Nat.le_refl _)
  obtain ⟨a', _, _⟩ := drF_lists w v (by omega)
  rw [a, b, c, a'] at this
  exact ⟨this.1, by rw [this.2.1]; exact if_pos ⟨h, hb⟩, this.2.2⟩
theorem dV_mem {w k : Nat} (h : k < dQ w 5) : ∃ v, v < 5 ∧ w / 2 ^ v % 2 = 1 ∧ dQ w v = k := by
  obtain ⟨a, b, c⟩ := drF_lists w 5 (Nat.le_refl _)
  rw [← a] at h
  obtain ⟨v, h1, h2, h3⟩ := vF_mem (F := drF w) h
  obtain ⟨a', _, _⟩ := drF_lists w v (by omega)
  exact ⟨v, h1, (drF_pos.1 h2).2, by rw [← a', h3]⟩
theorem cF_draft {f : Nat → Int} {w : Nat} (hf : ∀ v, v < 5 → f v = 0 ∨ f v = cdN v) : ∀ k, k ≤ dQ w 5 → cG f (dV w 5) (dC w 5) k = true ∧ ∀ v, cF f (dV w 5) (dC w 5) k v = if v < 5 ∧ w / 2 ^ v % 2 = 1 ∧ dQ w v < k then cdN v else f v
  | 0, _ => ⟨rfl, fun v => by rw [if_neg (by omega)]; rfl⟩
  | k + 1, hk => by
    obtain ⟨i1, i2⟩ := cF_draft (w := w) hf k (by omega)
    obtain ⟨u, u1, u2, u3⟩ := dV_mem (w := w) (k := k) (by omega)
    obtain ⟨a1, a2, _⟩ := dV_at u1 u2
    rw [u3] at a1 a2
    have hu := i2 u
    rw [if_neg (by omega)] at hu
    have hg : cG f (dV w 5) (dC w 5) (k + 1) = true := by
      rw [cG_succ, i1, Bool.true_and]
      unfold okD
      rw [a1, a2, Int.toNat_natCast, hu]
      rcases hf u u1 with h | h
      · rw [decide_eq_true h, Bool.true_or]
      · rw [decide_eq_true h, Bool.or_true]
    refine ⟨hg, fun v => ?_⟩
    rw [cF_succ, if_pos hg, a1, a2, Int.toNat_natCast, up64]
    by_cases e : v = u
    · subst e
      rw [if_pos rfl, if_pos ⟨u1, u2, by omega⟩]
    · rw [if_neg e, i2 v]
      by_cases hc : v < 5 ∧ w / 2 ^ v % 2 = 1 ∧ dQ w v < k
      · rw [if_pos hc, if_pos ⟨hc.1, hc.2.1, by omega⟩]
      · have : ¬ (v < 5 ∧ w / 2 ^ v % 2 = 1 ∧ dQ w v < k + 1) := fun ⟨h1, h2, h3⟩ => by
          have : dQ w v = k := by
            rcases Nat.lt_or_ge (dQ w v) k with h' | h'
            · exact absurd ⟨h1, h2, h'⟩ hc
            · omega
          obtain ⟨b1, _, _⟩ := dV_at h1 h2
          rw [this, a1] at b1
          omega
        rw [if_neg hc, if_neg this]
theorem or_bit (u w v : Nat) : (u ||| w) / 2 ^ v % 2 = 1 ↔ u / 2 ^ v % 2 = 1 ∨ w / 2 ^ v % 2 = 1 := by
  have h := Nat.testBit_or u w v
  rw [Nat.testBit_eq_decide_div_mod_eq, Nat.testBit_eq_decide_div_mod_eq, Nat.testBit_eq_decide_div_mod_eq] at h
  rw [← Bool.decide_or] at h
  exact decide_eq_decide.1 h
def orW (W : Nat → Nat) : Nat → Nat
  | 0 => 0
  | k + 1 => orW W k ||| W k
theorem aF_draft (W : Nat → Nat) : ∀ k, aG (fun i => dV (W i) 5) (fun i => dC (W i) 5) k = true ∧ aF (fun i => dV (W i) 5) (fun i => dC (W i) 5) k = drF (orW W k)
  | 0 => ⟨rfl, by funext v; show (0 : Int) = _; unfold drF; rw [if_neg (by show ¬ (_ ∧ 0 / _ % 2 = 1); simp)]⟩
  | k + 1 => by
    obtain ⟨i1, i2⟩ := aF_draft W k
    have hc := cF_draft (f := drF (orW W k)) (w := W k) (fun v hv => by unfold drF; split <;> simp) (dQ (W k) 5) (Nat.le_refl _)
    rw [aG_succ i1, aF_succ i1, i2]
    show cG _ _ _ (dC (W k) 5).length = true ∧ cF _ _ _ (dC (W k) 5).length = _
    rw [dC_len]
    refine ⟨hc.1, ?_⟩
    funext v
    rw [hc.2 v]
    show _ = drF (orW W k ||| W k) v
    unfold drF
    have hor := or_bit (orW W k) (W k) v
    by_cases h5 : v < 5
    · by_cases hb : W k / 2 ^ v % 2 = 1
      · rw [if_pos ⟨h5, hb, (dV_at h5 hb).2.2⟩, if_pos ⟨h5, hor.2 (.inr hb)⟩]
      · rw [if_neg (fun h => hb h.2.1)]
        by_cases ho : orW W k / 2 ^ v % 2 = 1
        · rw [if_pos ⟨h5, ho⟩, if_pos ⟨h5, hor.2 (.inl ho)⟩]
        · rw [if_neg (fun h => ho h.2), if_neg (fun h => by rcases hor.1 h.2 with h' | h'; exact ho h'; exact hb h')]
    · rw [if_neg (fun h => h5 h.1), if_neg (fun h => h5 h.1), if_neg (fun h => h5 h.1)]
theorem dV_varsT (w : Nat) : ∀ k, k ≤ dQ w 5 → varsT (dV w 5) k = true ∧ ∀ v, v < 5 → w / 2 ^ v % 2 = 1 → k ≤ dQ w v → lastT (dV w 5) k < v
  | 0, _ => ⟨rfl, fun v _ _ _ => by show (-1 : Int) < v; omega⟩
  | k + 1, hk => by
    obtain ⟨i1, i2⟩ := dV_varsT w k (by omega)
    obtain ⟨u, u1, u2, u3⟩ := dV_mem (w := w) (k := k) (by omega)
    obtain ⟨a1, _, _⟩ := dV_at u1 u2
    rw [u3] at a1
    refine ⟨?_, fun v h1 h2 h3 => ?_⟩
    · rw [varsT, i1, Bool.true_and, decide_eq_true_eq, a1]
      exact ⟨i2 u u1 u2 (by omega), by omega⟩
    · show (dV w 5).getD k 0 < v
      rw [a1]
      have hmono : ∀ a b, a ≤ b → dQ w a ≤ dQ w b := by
        intro a b hab
        induction b with
        | zero => rw [show a = 0 by omega]; exact Nat.le_refl _
        | succ b ih =>
          by_cases e : a = b + 1
          · rw [e]; exact Nat.le_refl _
          · have := ih (by omega)
            rw [dQ]; split <;> omega
      rcases Nat.lt_or_ge u v with h | h
      · omega
      · have := hmono v u h
        omega
theorem d_goodB {kd : Int} {w : Nat} {A B : Nat → Int} (h : ∀ i, okE kd (A i) (B i) = true) : goodB kd (dV w 5) (dC w 5) A B (dN w) = true := by
  have hg := d_good w
  have hb := goodT_bd hg
  have l1 := dV_len w 5
  have l2 := dC_len w 5
  have h5 := dQ_le w 5
  unfold goodB okC
  simp only [Bool.and_eq_true, decide_eq_true_eq]
  rw [l1, l2]
  refine ⟨⟨by omega, hg⟩, rfl, by unfold dN; omega, (dV_varsT w _ (Nat.le_refl _)).1, ?_⟩
  have : ∀ n, rightT kd A B n = true := by
    intro n
    induction n with
    | zero => rfl
    | succ n ih => rw [rightT, ih, h n]; rfl
  exact this _
theorem d_goodA {kd : Int} (W : Nat → Nat) {A B : Nat → Nat → Int} (h : ∀ i x, okE kd (A i x) (B i x) = true) : ∀ m, goodA kd (fun i => dV (W i) 5) (fun i => dC (W i) 5) A B (fun i => dN (W i)) m = true
  | 0 => rfl
  | m + 1 => by rw [goodA, d_goodA W h m, d_goodB (h m)]; rfl
theorem d_InOk {kd : Int} (hk : 1 ≤ kd ∧ kd ≤ 5) (W : Nat → Nat) {A B : Nat → Nat → Int} (h : ∀ i x, okE kd (A i x) (B i x) = true) {m : Nat} (hm : m ≤ 12) {keep : List Int} (hw : withT (drF (orW W m)) keep keep.length = true) :
    InOk kd (fun i => dV (W i) 5) (fun i => dC (W i) 5) A B (fun i => dN (W i)) m keep := by
  obtain ⟨a, b⟩ := aF_draft W m
  refine ⟨hk, hm, d_goodA W h m, a, by rw [b]; exact hw, ?_⟩
  rw [b, (drF_64 _).2.2]
  have h5 := dQ_le (orW W m) 5
  unfold okC
  rw [dC_len, Bool.and_eq_true, decide_eq_true_eq]
  exact ⟨by omega, d_good _⟩
def mxP (P : Nat → Int) : Nat → Int
  | 0 => 0
  | j + 1 => maxI (mxP P j) (P j)
def ctP (P : Nat → Int) (m : Int) : Nat → Int
  | 0 => 0
  | j + 1 => ctP P m j + if P j = m ∧ 0 < P j then 1 else 0
def kkP (P : Nat → Int) : Nat → Int × Int
  | 0 => (0, 0)
  | j + 1 => plusE 5 (kkP P j).1 (kkP P j).2 (P j) (if 0 < P j then 1 else 0)
end Go.Proofs.Ytgdnmgcigkhojaa.Am

namespace Go.Proofs.Ytgdnmgcigkhojaa.Am
open Go.RowKit
set_option linter.unusedVariables false
set_option maxHeartbeats 1000000
theorem comV_ok {kd : Int} {VS CS : Nat → List Int} {A B : Nat → Nat → Int} {N : Nat → Nat} {m : Nat} {keep : List Int} (hI : InOk kd VS CS A B N m keep) (hf : fitA (rA kd VS CS A B m keep) (rB kd VS CS A B m keep) (rSz VS CS m keep) = true) :
    comV kd VS CS A B N m keep = .tup [.agg [sl keep, .im keep.length (ints (clF (aF VS CS m) keep keep.length)), .im (rSz VS CS m keep) (elF (rA kd VS CS A B m keep) (rB kd VS CS A B m keep) (rSz VS CS m keep))], i6 0] := by
  unfold comV
  rw [if_neg (fun h => h hI.k), if_neg (by rw [hI.good]; decide), if_neg (by rw [hI.ag, hI.wi]; simp), if_neg (by rw [hI.ok]; decide), if_neg (by rw [hf]; decide)]
theorem fitA_all {A B : Nat → Int} (h : ∀ x, A x ≤ 4611686018427387903 ∧ B x ≤ 4611686018427387903) : ∀ n, fitA A B n = true
  | 0 => rfl
  | n + 1 => by rw [fitA, fitA_all h n, Bool.true_and]; exact decide_eq_true (h n)
section
variable {kd : Int} {VS CS : Nat → List Int} {A B : Nat → Nat → Int} {N : Nat → Nat} {m : Nat}
end
theorem idxT_congr {cs a b : List Int} : ∀ {n : Nat}, (∀ i, i < n → a.getD i 0 = b.getD i 0) → idxT cs a n = idxT cs b n
  | 0, _ => rfl
  | n + 1, h => by rw [idxT, idxT, idxT_congr (fun i hi => h i (by omega)), h n (by omega)]
section
variable {kd : Int} {W : Nat → Nat} {A B : Nat → Nat → Int} {m : Nat}
end
end Go.Proofs.Ytgdnmgcigkhojaa.Am

namespace Go.Proofs.Ytgdnmgcigkhojaa.Am
open Go.RowKit
set_option linter.unusedVariables false
set_option maxHeartbeats 1000000
set_option maxRecDepth 100000
section
variable (W : Nat → Nat) (Ls : Nat → List Nat)
abbrev agV (i : Nat) : List Int := dV (W i) 5
abbrev agC (i : Nat) : List Int := dC (W i) 5
abbrev agN (i : Nat) : Nat := dN (W i)
abbrev agA (k : Int) (i : Nat) : Nat → Int := dA k (Ls i)
abbrev agB (k : Int) (i : Nat) : Nat → Int := dB k (Ls i)
def agM (i x : Nat) : Int := if 0 < dA 2 (Ls i) x then 1 else 0
def agP (j : Nat) : Int := agA Ls 2 0 (rI (agV W) (agC W) 2 0 j) * agA Ls 2 1 (rI (agV W) (agC W) 2 1 j)
def agn : Nat := rP (agV W) (agC W) 2
end
end Go.Proofs.Ytgdnmgcigkhojaa.Am

namespace Go.Proofs.Ytgdnmgcigkhojaa.Am
open Go.RowKit
set_option linter.unusedVariables false
def upE (n k a b : Int) : Prop := okE k a b = true ∧ a ≤ n ∧ b ≤ n
theorem addI_lt {a b : Int} (h : a + b < 4611686018427387904) : addI a b = a + b := by unfold addI big; rw [if_neg (by omega)]
theorem mulI_lt {a b : Int} (h : a * b < 4611686018427387904) : mulI a b = a * b := by unfold mulI big; rw [if_neg (by omega)]
theorem mul_le2 {a b n : Int} (h1 : 0 ≤ a) (h2 : a ≤ n) (h3 : 0 ≤ b) (h4 : b ≤ n) : 0 ≤ a * b ∧ a * b ≤ n * n := ⟨Int.mul_nonneg h1 h3, Int.mul_le_mul h2 h4 h3 (by omega)⟩
theorem kinds5 {n k a b : Int} (h : upE n k a b) : k = 1 ∨ k = 2 ∨ k = 3 ∨ k = 4 ∨ k = 5 := by
  have h1 := h.1
  by_cases h : k = 1 ∨ k = 2 ∨ k = 3 ∨ k = 4 ∨ k = 5
  · exact h
  · unfold okE at h1
    rw [if_neg (by omega), if_neg (by omega), if_neg (by omega), if_neg (by omega)] at h1
    cases h1
theorem ok1 {a b : Int} : okE 1 a b = true ↔ 0 ≤ a ∧ a ≤ 4611686018427387903 ∧ b = 0 := by simp [okE]
theorem ok2 {a b : Int} : okE 2 a b = true ↔ 0 ≤ a ∧ a ≤ 4611686018427387903 ∧ b = 0 := by simp [okE]
theorem ok3 {a b : Int} : okE 3 a b = true ↔ -1 ≤ a ∧ a ≤ 4611686018427387903 ∧ b = 0 := by simp [okE]
theorem ok4 {a b : Int} : okE 4 a b = true ↔ (a = 0 ∨ a = 1) ∧ b = 0 := by simp [okE]
theorem ok5 {a b : Int} : okE 5 a b = true ↔ 0 ≤ a ∧ a ≤ 4611686018427387903 ∧ 0 ≤ b ∧ b ≤ 4611686018427387903 ∧ (a = 0 ↔ b = 0) := by simp [okE]
theorem plusE_1 {a b c d : Int} : plusE 1 a b c d = (addI a c, 0) := by unfold plusE; rw [if_pos rfl]
theorem plusE_2 {a b c d : Int} : plusE 2 a b c d = (maxI a c, 0) := by unfold plusE; rw [if_neg (by decide), if_neg (by decide), if_neg (by decide)]
theorem plusE_4 {a b c d : Int} : plusE 4 a b c d = (maxI a c, 0) := by unfold plusE; rw [if_neg (by decide), if_neg (by decide), if_neg (by decide)]
theorem timesE_1 {a b c d : Int} : timesE 1 a b c d = (mulI a c, 0) := by unfold timesE; rw [if_neg (by decide), if_neg (by decide)]
theorem timesE_2 {a b c d : Int} : timesE 2 a b c d = (mulI a c, 0) := by unfold timesE; rw [if_neg (by decide), if_neg (by decide)]
theorem timesE_4 {a b c d : Int} : timesE 4 a b c d = (mulI a c, 0) := by unfold timesE; rw [if_neg (by decide), if_neg (by decide)]
theorem mul_zero_iff {a c : Int} : a * c = 0 ↔ a = 0 ∨ c = 0 := Int.mul_eq_zero
theorem times_up {n k a b c d p q : Int} (hn0 : 1 ≤ n) (hn : n * n ≤ 1000000000) (h1 : upE n k a b) (h2 : upE n k c d) (h : timesE k a b c d = (p, q)) : upE (n * n + n) k p q := by
  have hnn : 0 ≤ n * n := Int.mul_nonneg (by omega) (by omega)
  have hn2 : n ≤ n * n := by
    have := Int.mul_le_mul (show (1 : Int) ≤ n by omega) (Int.le_refl n) (by omega) (by omega)
    rwa [Int.one_mul] at this
  rcases kinds5 h1 with rfl | rfl | rfl | rfl | rfl <;> obtain ⟨h1, h3, h4⟩ := h1 <;> obtain ⟨h2, h5, h6⟩ := h2
  · rw [ok1] at h1 h2
    have := mul_le2 h1.1 h3 h2.1 h5
    rw [timesE_1, mulI_lt (by omega)] at h
    cases h
    exact ⟨ok1.2 (by omega), by omega, by omega⟩
  · rw [ok2] at h1 h2
    have := mul_le2 h1.1 h3 h2.1 h5
    rw [timesE_2, mulI_lt (by omega)] at h
    cases h
    exact ⟨ok2.2 (by omega), by omega, by omega⟩
  · rw [ok3] at h1 h2
    rw [timesE_3, addI_lt (by omega)] at h
    split at h <;> cases h <;> refine ⟨ok3.2 (by omega), ?_, ?_⟩ <;> omega
  · rw [ok4] at h1 h2
    have e : mulI a c = 0 ∨ mulI a c = 1 := by rcases h1.1 with rfl | rfl <;> rcases h2.1 with rfl | rfl <;> decide
    rw [timesE_4] at h
    cases h
    exact ⟨ok4.2 ⟨e, rfl⟩, by omega, by omega⟩
  · rw [ok5] at h1 h2
    have g1 := mul_le2 h1.1 h3 h2.1 h5
    have g2 := mul_le2 h1.2.2.1 h4 h2.2.2.1 h6
    rw [timesE_5, mulI_lt (by omega), mulI_lt (by omega)] at h
    cases h
    refine ⟨ok5.2 ⟨by omega, by omega, by omega, by omega, ?_⟩, by omega, by omega⟩
    rw [mul_zero_iff, mul_zero_iff, h1.2.2.2.2, h2.2.2.2.2]
theorem up_mono {n m k a b : Int} (h : upE n k a b) (hm : n ≤ m) : upE m k a b := ⟨h.1, by have := h.2.1; omega, by have := h.2.2; omega⟩
theorem plus_comm {n k a b c d : Int} (h1 : upE n k a b) (h2 : upE n k c d) : plusE k a b c d = plusE k c d a b := by
  rcases kinds5 h1 with rfl | rfl | rfl | rfl | rfl <;> obtain ⟨h1, h3, h4⟩ := h1 <;> obtain ⟨h2, h5, h6⟩ := h2
  · rw [plusE_1, plusE_1]; unfold addI; rw [Int.add_comm]
  · rw [plusE_2, plusE_2]; unfold maxI; congr 1; split <;> split <;> omega
  · rw [ok3] at h1 h2
    rw [plusE_3, plusE_3]
    split <;> split <;> first | rfl | (rw [Prod.mk.injEq]; omega)
  · rw [plusE_4, plusE_4]; unfold maxI; congr 1; split <;> split <;> omega
  · rw [plusE_5, plusE_5, show addI b d = addI d b by unfold addI; rw [Int.add_comm]]
    by_cases g : c < a
    · rw [if_pos g, if_neg (by omega), if_pos g]
    · rw [if_neg g]
      by_cases g2 : a < c
      · rw [if_pos g2, if_pos g2]
      · rw [if_neg g2, if_neg g2, if_neg g, show a = c by omega]
theorem times_comm {k a b c d : Int} : timesE k a b c d = timesE k c d a b := by
  unfold timesE
  have e1 : addI a c = addI c a := by unfold addI; rw [Int.add_comm]
  have e2 : mulI a c = mulI c a := by unfold mulI; rw [Int.mul_comm]
  have e3 : mulI b d = mulI d b := by unfold mulI; rw [Int.mul_comm]
  rw [e1, e2, e3]
  split
  · split <;> split <;> first | rfl | omega
  · rfl
theorem mul3 {a b c n : Int} (h1 : 0 ≤ a) (h2 : a ≤ n) (h3 : 0 ≤ b) (h4 : b ≤ n) (h5 : 0 ≤ c) (h6 : c ≤ n) (hn : n ≤ 10000) : a * b * c ≤ 1000000000000 ∧ a * (b * c) ≤ 1000000000000 ∧ a * b ≤ 100000000 ∧ b * c ≤ 100000000 := by
  have g1 := (mul_le2 h1 (show a ≤ 10000 by omega) h3 (show b ≤ 10000 by omega))
  have g2 := (mul_le2 h3 (show b ≤ 10000 by omega) h5 (show c ≤ 10000 by omega))
  have g3 := Int.mul_le_mul g1.2 (show c ≤ 10000 by omega) h5 (by decide)
  rw [Int.mul_assoc] at g3 ⊢
  omega
theorem times_assoc {n k a b c d e f p q r s : Int} (hn : n ≤ 10000) (h1 : upE n k a b) (h2 : upE n k c d) (h3 : upE n k e f) (hp : timesE k a b c d = (p, q)) (hr : timesE k c d e f = (r, s)) : timesE k p q e f = timesE k a b r s := by
  rcases kinds5 h1 with rfl | rfl | rfl | rfl | rfl <;> obtain ⟨h1, h4, h5⟩ := h1 <;> obtain ⟨h2, h6, h7⟩ := h2 <;> obtain ⟨h3, h8, h9⟩ := h3
  · rw [ok1] at h1 h2 h3
    have g := mul3 h1.1 h4 h2.1 h6 h3.1 h8 hn
    rw [timesE_1, mulI_lt (by omega)] at hp hr
    cases hp; cases hr
    rw [timesE_1, timesE_1, mulI_lt (by omega), mulI_lt (by omega), Int.mul_assoc]
  · rw [ok2] at h1 h2 h3
    have g := mul3 h1.1 h4 h2.1 h6 h3.1 h8 hn
    rw [timesE_2, mulI_lt (by omega)] at hp hr
    cases hp; cases hr
    rw [timesE_2, timesE_2, mulI_lt (by omega), mulI_lt (by omega), Int.mul_assoc]
  · rw [ok3] at h1 h2 h3
    rw [timesE_3, addI_lt (by omega)] at hp hr
    rw [timesE_3, timesE_3]
    split at hp <;> cases hp <;> split at hr <;> cases hr
    · rw [if_pos (by omega), if_pos (by omega)]
    · rw [if_pos (by omega), if_pos (by omega)]
    · rw [if_pos (by omega), if_pos (by omega)]
    · rw [addI_lt (by omega), addI_lt (by omega)]
      rw [if_neg (by omega), if_neg (by omega), Int.add_assoc]
  · rw [ok4] at h1 h2 h3
    rw [timesE_4] at hp hr
    cases hp; cases hr
    rw [timesE_4, timesE_4]
    rcases h1.1 with rfl | rfl <;> rcases h2.1 with rfl | rfl <;> rcases h3.1 with rfl | rfl <;> decide
  · rw [ok5] at h1 h2 h3
    have g := mul3 h1.1 h4 h2.1 h6 h3.1 h8 hn
    have g' := mul3 h1.2.2.1 h5 h2.2.2.1 h7 h3.2.2.1 h9 hn
    rw [timesE_5, mulI_lt (by omega), mulI_lt (by omega)] at hp hr
    cases hp; cases hr
    rw [timesE_5, timesE_5, mulI_lt (by omega), mulI_lt (by omega), mulI_lt (by omega), mulI_lt (by omega), Int.mul_assoc, Int.mul_assoc]
def zeA (k : Int) : Int := if k = 3 then -1 else 0
def onA (k : Int) : Int := if k = 3 then 0 else 1
def onB (k : Int) : Int := if k = 5 then 1 else 0
theorem zero_up {n k a b : Int} (h1 : upE n k a b) (hn : 1 ≤ n) : upE n k (zeA k) 0 := by
  rcases kinds5 h1 with rfl | rfl | rfl | rfl | rfl
  · exact ⟨ok1.2 (by decide), by show (0 : Int) ≤ n; omega, by omega⟩
  · exact ⟨ok2.2 (by decide), by show (0 : Int) ≤ n; omega, by omega⟩
  · exact ⟨ok3.2 (by decide), by show (-1 : Int) ≤ n; omega, by omega⟩
  · exact ⟨ok4.2 (by decide), by show (0 : Int) ≤ n; omega, by omega⟩
  · exact ⟨ok5.2 (by decide), by show (0 : Int) ≤ n; omega, by omega⟩
theorem plus_zero {n k a b : Int} (hn : n ≤ 1000000000) (h1 : upE n k a b) : plusE k a b (zeA k) 0 = (a, b) := by
  rcases kinds5 h1 with rfl | rfl | rfl | rfl | rfl <;> obtain ⟨h1, h4, h5⟩ := h1
  · rw [ok1] at h1
    rw [show zeA 1 = 0 from rfl, plusE_1, addI_lt (by omega), Int.add_zero, h1.2.2]
  · rw [ok2] at h1
    rw [show zeA 2 = 0 from rfl, plusE_2, h1.2.2]; unfold maxI; rw [if_neg (by omega)]
  · rw [ok3] at h1
    rw [show zeA 3 = -1 from rfl, plusE_3]
    split
    · rw [Prod.mk.injEq]; omega
    · rfl
  · rw [ok4] at h1
    rw [show zeA 4 = 0 from rfl, plusE_4, h1.2]; unfold maxI; rw [if_neg (by omega)]
  · rw [ok5] at h1
    rw [show zeA 5 = 0 from rfl, plusE_5, addI_lt (by omega), Int.add_zero]
    split
    · rfl
    · rw [if_neg (by omega)]
theorem times_one {n k a b : Int} (hn : n ≤ 1000000000) (h1 : upE n k a b) : timesE k a b (onA k) (onB k) = (a, b) := by
  rcases kinds5 h1 with rfl | rfl | rfl | rfl | rfl <;> obtain ⟨h1, h4, h5⟩ := h1
  · rw [ok1] at h1
    rw [show onA 1 = 1 from rfl, timesE_1, mulI_lt (by omega), Int.mul_one, h1.2.2]
  · rw [ok2] at h1
    rw [show onA 2 = 1 from rfl, timesE_2, mulI_lt (by omega), Int.mul_one, h1.2.2]
  · rw [ok3] at h1
    rw [show onA 3 = 0 from rfl, timesE_3]
    split
    · rw [Prod.mk.injEq]; omega
    · rw [addI_lt (by omega), Int.add_zero, h1.2.2]
  · rw [ok4] at h1
    rw [show onA 4 = 1 from rfl, timesE_4, h1.2]
    rcases h1.1 with rfl | rfl <;> decide
  · rw [ok5] at h1
    rw [show onA 5 = 1 from rfl, show onB 5 = 1 from rfl, timesE_5, mulI_lt (by omega), mulI_lt (by omega), Int.mul_one, Int.mul_one]
theorem times_zero {n k a b : Int} (h1 : upE n k a b) : timesE k a b (zeA k) 0 = (zeA k, 0) := by
  rcases kinds5 h1 with rfl | rfl | rfl | rfl | rfl
  · rw [show zeA 1 = 0 from rfl, timesE_1, mulI_lt (by omega), Int.mul_zero]
  · rw [show zeA 2 = 0 from rfl, timesE_2, mulI_lt (by omega), Int.mul_zero]
  · rw [show zeA 3 = -1 from rfl, timesE_3, if_pos (by omega)]
  · rw [show zeA 4 = 0 from rfl, timesE_4, mulI_lt (by omega), Int.mul_zero]
  · rw [show zeA 5 = 0 from rfl, timesE_5, mulI_lt (by omega), mulI_lt (by omega), Int.mul_zero, Int.mul_zero]
theorem mul_cmp {a c e : Int} (ha : 0 < a) : (a * c < a * e ↔ c < e) ∧ (a * e < a * c ↔ e < c) :=
  ⟨⟨fun h => Int.lt_of_mul_lt_mul_left h (by omega), fun h => Int.mul_lt_mul_of_pos_left h ha⟩, ⟨fun h => Int.lt_of_mul_lt_mul_left h (by omega), fun h => Int.mul_lt_mul_of_pos_left h ha⟩⟩
theorem times_plus {n k a b c d e f p q r s t u : Int} (hn : n ≤ 10000) (h1 : upE n k a b) (h2 : upE n k c d) (h3 : upE n k e f) (hp : plusE k c d e f = (p, q)) (hr : timesE k a b c d = (r, s)) (ht : timesE k a b e f = (t, u)) : timesE k a b p q = plusE k r s t u := by
  rcases kinds5 h1 with rfl | rfl | rfl | rfl | rfl <;> obtain ⟨h1, h4, h5⟩ := h1 <;> obtain ⟨h2, h6, h7⟩ := h2 <;> obtain ⟨h3, h8, h9⟩ := h3
  · rw [ok1] at h1 h2 h3
    have g1 := mul3 h1.1 h4 h2.1 h6 h3.1 h8 hn
    have g2 := mul3 h1.1 h4 h3.1 h8 h2.1 h6 hn
    rw [plusE_1, addI_lt (by omega)] at hp
    rw [timesE_1, mulI_lt (by omega)] at hr ht
    cases hp; cases hr; cases ht
    rw [timesE_1, plusE_1, addI_lt (by omega), mulI_lt (by rw [Int.mul_add]; omega), Int.mul_add]
  · rw [ok2] at h1 h2 h3
    have g1 := mul3 h1.1 h4 h2.1 h6 h3.1 h8 hn
    have g2 := mul3 h1.1 h4 h3.1 h8 h2.1 h6 hn
    rw [timesE_2, mulI_lt (by omega)] at hr ht
    rw [plusE_2] at hp
    cases hp; cases hr; cases ht
    rw [timesE_2, plusE_2]
    unfold maxI
    by_cases ha : a = 0
    · subst ha; rw [mulI_lt (by omega)]; simp
    · have hm := @mul_cmp a c e (by omega)
      by_cases hce : c < e
      · rw [if_pos hce, if_pos (hm.1.2 hce), mulI_lt (by omega)]
      · rw [if_neg hce, if_neg (fun h => hce (hm.1.1 h)), mulI_lt (by omega)]
  · rw [ok3] at h1 h2 h3
    rw [timesE_3, addI_lt (by omega)] at hr ht
    rw [plusE_3] at hp
    rw [timesE_3, plusE_3]
    split at hp <;> cases hp <;> split at hr <;> cases hr <;> split at ht <;> cases ht
    all_goals rw [addI_lt (by omega)]
    all_goals (repeat' split) <;> first | rfl | omega | (rw [Prod.mk.injEq]; omega)
  · rw [ok4] at h1 h2 h3
    rw [timesE_4] at hr ht
    rw [plusE_4] at hp
    cases hp; cases hr; cases ht
    rw [timesE_4, plusE_4]
    rcases h1.1 with rfl | rfl <;> rcases h2.1 with rfl | rfl <;> rcases h3.1 with rfl | rfl <;> decide
  · rw [ok5] at h1 h2 h3
    have g1 := mul3 h1.1 h4 h2.1 h6 h3.1 h8 hn
    have g2 := mul3 h1.1 h4 h3.1 h8 h2.1 h6 hn
    have g1' := mul3 h1.2.2.1 h5 h2.2.2.1 h7 h3.2.2.1 h9 hn
    have g2' := mul3 h1.2.2.1 h5 h3.2.2.1 h9 h2.2.2.1 h7 hn
    rw [timesE_5, mulI_lt (by omega), mulI_lt (by omega)] at hr ht
    rw [plusE_5, addI_lt (by omega)] at hp
    cases hr; cases ht
    rw [timesE_5, plusE_5, addI_lt (by omega)]
    by_cases ha : a = 0
    · have hb : b = 0 := by omega
      subst ha hb
      simp only [Int.zero_mul]
      rw [if_neg (by omega), if_neg (by omega), mulI_lt (by omega), mulI_lt (by omega)]
      simp
    · have hm := @mul_cmp a c e (by omega)
      by_cases h10 : e < c
      · rw [if_pos h10] at hp
        cases hp
        rw [if_pos (hm.2.2 h10), mulI_lt (by omega), mulI_lt (by omega)]
      · rw [if_neg h10] at hp
        rw [if_neg (fun h => h10 (hm.2.1 h))]
        by_cases h11 : c < e
        · rw [if_pos h11] at hp
          cases hp
          rw [if_pos (hm.1.2 h11), mulI_lt (by omega), mulI_lt (by omega)]
        · rw [if_neg h11] at hp
          cases hp
          rw [if_neg (fun h => h11 (hm.1.1 h)), mulI_lt (by omega), mulI_lt (by rw [Int.mul_add]; omega), Int.mul_add]
end Go.Proofs.Ytgdnmgcigkhojaa.Am

namespace Go.Proofs.Ytgdnmgcigkhojaa.Am
open Go.RowKit
set_option linter.unusedVariables false
set_option maxHeartbeats 1000000
def plF (w : Nat) (g : Nat → Int) : Nat → Int
  | 0 => 0
  | i + 1 => if w / 2 ^ i % 2 = 1 then plF w g i * cdN i + g i else plF w g i
def szF (w : Nat) : Nat → Int
  | 0 => 1
  | i + 1 => if w / 2 ^ i % 2 = 1 then szF w i * cdN i else szF w i
def VL (w : Nat) (g : Nat → Int) : Prop := ∀ v, v < 5 → w / 2 ^ v % 2 = 1 → 0 ≤ g v ∧ g v < cdN v
def Wi (k u : Nat) : Prop := ∀ v, v < 5 → k / 2 ^ v % 2 = 1 → u / 2 ^ v % 2 = 1
theorem pl_bd {w : Nat} {g : Nat → Int} (h : VL w g) : ∀ i, i ≤ 5 → 0 ≤ plF w g i ∧ plF w g i < szF w i
  | 0, _ => ⟨Int.le_refl _, by show (0 : Int) < 1; decide⟩
  | i + 1, hi => by
    have ih := pl_bd h i (by omega)
    rw [plF, szF]
    split
    · rename_i hb
      have hv := h i (by omega) hb
      have h1 := Int.mul_nonneg ih.1 (show 0 ≤ cdN i by omega)
      have h2 := Int.mul_le_mul_of_nonneg_right (show plF w g i + 1 ≤ szF w i by omega) (show 0 ≤ cdN i by omega)
      rw [Int.add_mul] at h2
      omega
    · exact ih
theorem pl_congr {w : Nat} {g h : Nat → Int} : ∀ {i : Nat}, (∀ v, v < i → w / 2 ^ v % 2 = 1 → g v = h v) → plF w g i = plF w h i
  | 0, _ => rfl
  | i + 1, e => by
    rw [plF, plF, pl_congr (i := i) (fun v hv => e v (by omega))]
    split
    · rename_i hb; rw [e i (by omega) hb]
    · rfl
theorem pl_mask {w u : Nat} {g : Nat → Int} : ∀ {i : Nat}, (∀ v, v < i → (w / 2 ^ v % 2 = 1 ↔ u / 2 ^ v % 2 = 1)) → plF w g i = plF u g i
  | 0, _ => rfl
  | i + 1, e => by
    rw [plF, plF, pl_mask (i := i) (fun v hv => e v (by omega))]
    have := e i (by omega)
    by_cases hb : w / 2 ^ i % 2 = 1
    · rw [if_pos hb, if_pos (this.1 hb)]
    · rw [if_neg hb, if_neg (fun h => hb (this.2 h))]
theorem dig_eq {a b c x y : Int} (hx : 0 ≤ x ∧ x < c) (hy : 0 ≤ y ∧ y < c) (h : a * c + x = b * c + y) : a = b ∧ x = y := by
  rcases Int.lt_trichotomy a b with h1 | h1 | h1
  · have := Int.mul_le_mul_of_nonneg_right (show a + 1 ≤ b by omega) (show 0 ≤ c by omega)
    rw [Int.add_mul, Int.one_mul] at this
    omega
  · subst h1; exact ⟨rfl, by omega⟩
  · have := Int.mul_le_mul_of_nonneg_right (show b + 1 ≤ a by omega) (show 0 ≤ c by omega)
    rw [Int.add_mul, Int.one_mul] at this
    omega
theorem pl_inj {w : Nat} {g h : Nat → Int} (hg : VL w g) (hh : VL w h) : ∀ i, i ≤ 5 → plF w g i = plF w h i → ∀ v, v < i → w / 2 ^ v % 2 = 1 → g v = h v
  | 0, _, _, v, hv, _ => absurd hv (Nat.not_lt_zero _)
  | i + 1, hi, e, v, hv, hb => by
    rw [plF, plF] at e
    by_cases hbi : w / 2 ^ i % 2 = 1
    · rw [if_pos hbi, if_pos hbi] at e
      obtain ⟨e1, e2⟩ := dig_eq (hg i (by omega) hbi) (hh i (by omega) hbi) e
      by_cases hvi : v = i
      · subst hvi; exact e2
      · exact pl_inj hg hh i (by omega) e1 v (by omega) hb
    · rw [if_neg hbi, if_neg hbi] at e
      by_cases hvi : v = i
      · subst hvi; exact absurd hb hbi
      · exact pl_inj hg hh i (by omega) e v (by omega) hb
theorem pl_mono {w o : Nat} {g : Nat → Int} {x y : Int} (hw : w / 2 ^ o % 2 = 1) (hxy : x < y) : ∀ i, o < i → i ≤ 5 → plF w (up64 g o x) i < plF w (up64 g o y) i
  | 0, h, _ => absurd h (Nat.not_lt_zero _)
  | i + 1, h, hi => by
    rw [plF, plF]
    by_cases e : i = o
    · subst e
      have e1 : plF w (up64 g i x) i = plF w (up64 g i y) i := pl_congr fun v hv _ => by unfold up64; rw [if_neg (by omega), if_neg (by omega)]
      rw [if_pos hw, if_pos hw, e1]
      unfold up64
      rw [if_pos rfl, if_pos rfl]
      omega
    · have ih := pl_mono (g := g) hw hxy i (by omega) (by omega)
      have hc := cdN_bd (v := i) (by omega)
      split
      · have h2 := Int.mul_le_mul_of_nonneg_right (show plF w (up64 g o x) i + 1 ≤ plF w (up64 g o y) i by omega) (show 0 ≤ cdN i by omega)
        rw [Int.add_mul] at h2
        have e2 : up64 g o x i = up64 g o y i := by unfold up64; rw [if_neg e, if_neg e]
        rw [e2]
        omega
      · exact ih
theorem idxT_congr2 {cs ds a b : List Int} : ∀ {n : Nat}, (∀ i, i < n → cs.getD i 0 = ds.getD i 0 ∧ a.getD i 0 = b.getD i 0) → idxT cs a n = idxT ds b n
  | 0, _ => rfl
  | n + 1, h => by rw [idxT, idxT, idxT_congr2 (fun i hi => h i (by omega)), (h n (by omega)).1, (h n (by omega)).2]
theorem pl_idx (w : Nat) (g : Nat → Int) : ∀ i, idxT (dC w i) (mineF g (dV w i) (dQ w i)) (dQ w i) = plF w g i
  | 0 => rfl
  | i + 1 => by
    have ih := pl_idx w g i
    have l1 := dV_len w i
    have l2 := dC_len w i
    rw [plF, dC, dV, dQ]
    split
    · rw [idxT, ← ih]
      have e1 : (dC w i ++ [cdN i]).getD (dQ w i) 0 = cdN i := by rw [← l2]; exact getD_last
      have e2 : (mineF g (dV w i ++ [(i : Int)]) (dQ w i + 1)).getD (dQ w i) 0 = g i := by
        rw [mineF_getD (by omega), ← l1, getD_last, Int.toNat_natCast]
      rw [e1, e2, idxT_congr2 (ds := dC w i) (b := mineF g (dV w i) (dQ w i)) (fun j hj => ⟨getD_app (by omega), by
        rw [mineF_getD (by omega), mineF_getD hj, getD_app (by omega)]⟩)]
    · exact ih
theorem sz_prod (w : Nat) : ∀ i, prodT (dC w i) (dQ w i) = szF w i
  | 0 => rfl
  | i + 1 => by
    have ih := sz_prod w i
    have l2 := dC_len w i
    rw [szF, dC, dQ]
    split
    · have e1 : (dC w i ++ [cdN i]).getD (dQ w i) 0 = cdN i := by rw [← l2]; exact getD_last
      rw [prodT, e1, prodT_app (by omega), ih]
    · exact ih
theorem dV_congr {w u : Nat} : ∀ {i : Nat}, (∀ v, v < i → (w / 2 ^ v % 2 = 1 ↔ u / 2 ^ v % 2 = 1)) → dV w i = dV u i ∧ dC w i = dC u i ∧ dQ w i = dQ u i ∧ szF w i = szF u i
  | 0, _ => ⟨rfl, rfl, rfl, rfl⟩
  | i + 1, e => by
    obtain ⟨a, b, c, d⟩ := dV_congr (i := i) (fun v hv => e v (by omega))
    have := e i (by omega)
    rw [dV, dV, dC, dC, dQ, dQ, szF, szF, a, b, c, d]
    by_cases hb : w / 2 ^ i % 2 = 1
    · have hb' := this.1 hb
      rw [if_pos hb, if_pos hb, if_pos hb, if_pos hb, if_pos hb', if_pos hb', if_pos hb', if_pos hb']; exact ⟨rfl, rfl, rfl, rfl⟩
    · have hb' := fun h => hb (this.2 h)
      rw [if_neg hb, if_neg hb, if_neg hb, if_neg hb, if_neg hb', if_neg hb', if_neg hb', if_neg hb']; exact ⟨rfl, rfl, rfl, rfl⟩
theorem withT_part {k u : Nat} (h : Wi k u) : ∀ n, n ≤ dQ k 5 → withT (drF u) (dV k 5) n = true
  | 0, _ => rfl
  | n + 1, hk => by
    have hv := (dV_varsT k (n + 1) hk).1
    rw [varsT, Bool.and_eq_true, decide_eq_true_eq] at hv
    obtain ⟨v, u1, u2, u3⟩ := dV_mem (w := k) (k := n) (by omega)
    obtain ⟨a1, _, _⟩ := dV_at u1 u2
    rw [u3] at a1
    rw [withT, withT_part h n (by omega), Bool.true_and, decide_eq_true_eq]
    refine ⟨hv.2.1, hv.2.2, ?_⟩
    rw [a1, Int.toNat_natCast]
    have := drF_pos.2 ⟨u1, h v u1 u2⟩
    omega
theorem clF_part {k u : Nat} (h : Wi k u) : clF (drF u) (dV k 5) (dQ k 5) = dC k 5 := by
  have l1 := clF_len (drF u) (dV k 5) (dQ k 5)
  have l2 := dC_len k 5
  refine List.ext_getElem (by omega) fun i h1 h2 => ?_
  have e1 : (clF (drF u) (dV k 5) (dQ k 5)).getD i 0 = (clF (drF u) (dV k 5) (dQ k 5))[i] := by rw [List.getD_eq_getElem?_getD, List.getElem?_eq_getElem h1]; rfl
  have e2 : (dC k 5).getD i 0 = (dC k 5)[i] := by rw [List.getD_eq_getElem?_getD, List.getElem?_eq_getElem h2]; rfl
  rw [← e1, ← e2, clF_at (by omega)]
  obtain ⟨v, u1, u2, u3⟩ := dV_mem (w := k) (k := i) (by omega)
  obtain ⟨a1, a2, _⟩ := dV_at u1 u2
  rw [u3] at a1 a2
  rw [a1, a2, Int.toNat_natCast]
  exact if_pos ⟨u1, h v u1 u2⟩
section
variable {kd : Int} {W : Nat → Nat} {A B : Nat → Nat → Int} {m K : Nat}
noncomputable def vlF (u j : Nat) : Nat → Int := valF (drF u) (cmb (dC u 5) j)
theorem combs (h : InOk kd (agV W) (agC W) A B (agN W) m (dV K 5)) (hK : Wi K (orW W m)) {j : Nat} (hj : j < rP (agV W) (agC W) m) :
    VL (orW W m) (vlF (orW W m) j) ∧ plF (orW W m) (vlF (orW W m) j) 5 = j ∧ (∀ i, i < m → (rI (agV W) (agC W) m i j : Int) = plF (W i) (vlF (orW W m) j) 5) ∧ (rAt (agV W) (agC W) m (dV K 5) j : Int) = plF K (vlF (orW W m) j) 5 := by
  have hF := (aF_draft W m).2
  obtain ⟨f1, f2, f3⟩ := drF_64 (orW W m)
  obtain ⟨_, c2, _, c4, _⟩ := h.place hj
  obtain ⟨d1, d2, d3⟩ := h.comb hj
  have ht := fun i (hi : i < m) => h.table hi hj
  have hv := fun v (h1 : v < 64) => h.val hj (v := v) h1
  rw [c4] at c2
  dsimp only [rS, rQ, agV, agC] at d1 d2 d3 c2 hv ht
  rw [hF] at d1 d2 d3 c2 hv
  rw [f3] at hv d1 d2 d3 c2
  rw [f1] at d3
  rw [dV_len, clF_part hK] at c2
  refine ⟨fun v h5 hb => ?_, ?_, fun i hi => ?_, ?_⟩
  · have := hv v (by omega) (drF_pos.2 ⟨h5, hb⟩)
    rw [show drF (orW W m) v = cdN v from if_pos ⟨h5, hb⟩] at this
    exact this
  · rw [← pl_idx]
    refine Eq.trans (idxT_congr fun i hi => ?_) d3
    rw [mineF_getD hi]
    obtain ⟨v, u1, u2, u3⟩ := dV_mem (w := orW W m) (k := i) hi
    obtain ⟨a1, _, _⟩ := dV_at u1 u2
    rw [u3] at a1
    rw [a1, Int.toNat_natCast, vlF, valF, (drF_lists (orW W m) v (by omega)).1, u3]
  · obtain ⟨_, t2, _, t4, _⟩ := ht i hi
    rw [t4, hF, f3, dC_len, pl_idx] at t2
    exact t2
  · rw [pl_idx] at c2
    exact c2
theorem rP_sz : (rP (agV W) (agC W) m : Int) = szF (orW W m) 5 := by
  have hF := (aF_draft W m).2
  obtain ⟨f1, f2, f3⟩ := drF_64 (orW W m)
  have hb := goodT_bd (d_good (orW W m))
  unfold rP
  dsimp only [rS, rQ, agV, agC]
  rw [hF, f1, f3]
  rw [← sz_prod]
  omega
theorem rSz_sz (hK : Wi K (orW W m)) : rSz (agV W) (agC W) m (dV K 5) = dN K := by
  have hF := (aF_draft W m).2
  unfold rSz dN
  try dsimp only [agV, agC]
  rw [hF, dV_len, ← suf_all, sufK_suf (cl := dC K 5) (fun i hi => by rw [← clF_part hK]; exact clF_at hi) _ (Nat.le_refl _)]
theorem in_part (hk : 1 ≤ kd ∧ kd ≤ 5) (h : ∀ i x, okE kd (A i x) (B i x) = true) (hm : m ≤ 12) (hK : Wi K (orW W m)) : InOk kd (agV W) (agC W) A B (agN W) m (dV K 5) :=
  d_InOk hk W h hm (by rw [dV_len]; exact withT_part hK _ (Nat.le_refl _))
def fldE (kd : Int) (F : Nat → Int × Int) : Nat → Int × Int
  | 0 => (zeroA kd, 0)
  | o + 1 => plusE kd (fldE kd F o).1 (fldE kd F o).2 (F o).1 (F o).2
theorem fldE_congr {F G : Nat → Int × Int} : ∀ {c : Nat}, (∀ o, o < c → F o = G o) → fldE kd F c = fldE kd G c
  | 0, _ => rfl
  | c + 1, h => by rw [fldE, fldE, fldE_congr (fun o ho => h o (by omega)), h c (by omega)]
theorem fold_at {VS CS : Nat → List Int} {keep : List Int} {p c P : Nat} {ι : Nat → Nat} (h2 : ∀ o, o < c → rAt VS CS m keep (ι o) = p) (h3 : ∀ j, j < P → rAt VS CS m keep j = p → ∃ o, o < c ∧ ι o = j) (h4 : ∀ a b, a < b → b < c → ι a < ι b) :
    ∀ j, j ≤ P → ∃ k, k ≤ c ∧ (∀ o, o < c → (ι o < j ↔ o < k)) ∧ ((rW kd VS CS A B m keep j).1 p, (rW kd VS CS A B m keep j).2 p) = fldE kd (fun o => rPr kd VS CS A B m (ι o) m) k
  | 0, _ => ⟨0, Nat.zero_le _, fun o _ => ⟨fun h => absurd h (Nat.not_lt_zero _), fun h => absurd h (Nat.not_lt_zero _)⟩, rfl⟩
  | j + 1, hj => by
    obtain ⟨k, k1, k2, k3⟩ := fold_at h2 h3 h4 j (by omega)
    have e1 : (rW kd VS CS A B m keep j).1 p = _ := congrArg Prod.fst k3
    have e2 : (rW kd VS CS A B m keep j).2 p = _ := congrArg Prod.snd k3
    by_cases hp : rAt VS CS m keep j = p
    · obtain ⟨o, o1, o2⟩ := h3 j (by omega) hp
      have hok : o = k := by
        have h5 := (k2 o o1)
        rw [o2] at h5
        rcases Nat.lt_trichotomy o k with h | h | h
        · have := h5.2 h; omega
        · exact h
        · have h6 := h4 k o h o1
          rw [o2] at h6
          have := (k2 k (by omega)).1 h6
          omega
      subst hok
      refine ⟨o + 1, by omega, fun a ha => ?_, ?_⟩
      · have := k2 a ha
        constructor
        · intro h
          rcases Nat.lt_trichotomy a o with h' | h' | h'
          · omega
          · omega
          · have := h4 o a h' ha; omega
        · intro h
          by_cases e : a = o
          · rw [e, o2]; omega
          · have := this.2 (by omega); omega
      · rw [rW, hp]
        dsimp only [up64]
        rw [if_pos rfl, if_pos rfl, e1, e2, fldE, o2]
    · refine ⟨k, k1, fun a ha => ?_, ?_⟩
      · have := k2 a ha
        constructor
        · intro h
          by_cases e : ι a = j
          · exact absurd (e ▸ h2 a ha) hp
          · exact this.1 (by omega)
        · intro h; have := this.2 h; omega
      · rw [rW]
        dsimp only [up64]
        rw [if_neg (fun e => hp e.symm), if_neg (fun e => hp e.symm), e1, e2]
theorem fold_all {VS CS : Nat → List Int} {keep : List Int} {p c P : Nat} {ι : Nat → Nat} (h1 : ∀ o, o < c → ι o < P) (h2 : ∀ o, o < c → rAt VS CS m keep (ι o) = p) (h3 : ∀ j, j < P → rAt VS CS m keep j = p → ∃ o, o < c ∧ ι o = j) (h4 : ∀ a b, a < b → b < c → ι a < ι b) :
    ((rW kd VS CS A B m keep P).1 p, (rW kd VS CS A B m keep P).2 p) = fldE kd (fun o => rPr kd VS CS A B m (ι o) m) c := by
  obtain ⟨k, k1, k2, k3⟩ := fold_at (kd := kd) (A := A) (B := B) h2 h3 h4 P (Nat.le_refl _)
  have : k = c := by
    rcases Nat.lt_or_ge k c with h | h
    · have := (k2 k h).1 (h1 k h); omega
    · omega
  rw [this] at k3
  exact k3
theorem prE_congr {a b a' b' : Nat → Int} : ∀ {i : Nat}, (∀ x, x < i → a x = a' x ∧ b x = b' x) → prE kd a b i = prE kd a' b' i
  | 0, _ => rfl
  | i + 1, h => by rw [prE, prE, prE_congr (fun x hx => h x (by omega)), (h i (by omega)).1, (h i (by omega)).2]
def atV (W : Nat → Nat) (A : Nat → Nat → Int) (g : Nat → Int) (i : Nat) : Int := A i (plF (W i) g 5).toNat
theorem orW_in (W : Nat → Nat) : ∀ {m i : Nat}, i < m → Wi (W i) (orW W m)
  | 0, _, h, _, _, _ => absurd h (Nat.not_lt_zero _)
  | m + 1, i, h, v, h5, hb => by
    rw [orW]
    refine (or_bit _ _ v).2 ?_
    by_cases e : i = m
    · subst e; exact .inr hb
    · exact .inl (orW_in W (by omega) v h5 hb)
theorem rPr_at (h : InOk kd (agV W) (agC W) A B (agN W) m (dV K 5)) (hK : Wi K (orW W m)) {j : Nat} (hj : j < rP (agV W) (agC W) m) {g : Nat → Int} (hg : VL (orW W m) g) (e : plF (orW W m) g 5 = j) :
    rPr kd (agV W) (agC W) A B m j m = prE kd (atV W A g) (atV W B g) m := by
  obtain ⟨c1, c2, c3, _⟩ := combs h hK hj
  have hi := pl_inj c1 hg 5 (Nat.le_refl _) (c2.trans e.symm)
  refine prE_congr fun x hx => ?_
  have e1 : plF (W x) (vlF (orW W m) j) 5 = plF (W x) g 5 := pl_congr fun v hv hb => hi v hv (orW_in W hx v hv hb)
  have e2 := c3 x hx
  rw [e1] at e2
  have e3 : rI (agV W) (agC W) m x j = (plF (W x) g 5).toNat := by omega
  unfold atV
  rw [e3]
  exact ⟨rfl, rfl⟩
theorem place_fold (h : InOk kd (agV W) (agC W) A B (agN W) m (dV K 5)) {out : Nat} (ho : out < 5) (hU : orW W m / 2 ^ out % 2 = 1) (hK : ∀ v, v < 5 → (K / 2 ^ v % 2 = 1 ↔ orW W m / 2 ^ v % 2 = 1 ∧ v ≠ out)) {g : Nat → Int} (hg : VL K g) :
    (rA kd (agV W) (agC W) A B m (dV K 5) (plF K g 5).toNat, rB kd (agV W) (agC W) A B m (dV K 5) (plF K g 5).toNat) = fldE kd (fun o => prE kd (atV W A (up64 g out (o : Int))) (atV W B (up64 g out (o : Int))) m) (cdN out).toNat := by
  have hW : Wi K (orW W m) := fun v h5 hb => ((hK v h5).1 hb).1
  have hP := rP_sz (W := W) (m := m)
  have hc := cdN_bd ho
  have hvl : ∀ x : Int, 0 ≤ x → x < cdN out → VL (orW W m) (up64 g out x) := fun x hx hx' v h5 hb => by
    unfold up64
    by_cases e : v = out
    · rw [if_pos e, e]; exact ⟨hx, hx'⟩
    · rw [if_neg e]; exact hg v h5 ((hK v h5).2 ⟨hb, e⟩)
  have hlt : ∀ o : Nat, o < (cdN out).toNat → (plF (orW W m) (up64 g out (o : Int)) 5).toNat < rP (agV W) (agC W) m ∧ ((plF (orW W m) (up64 g out (o : Int)) 5).toNat : Int) = plF (orW W m) (up64 g out (o : Int)) 5 := fun o h' => by
    have := pl_bd (hvl o (by omega) (by omega)) 5 (Nat.le_refl _)
    omega
  have hKg : ∀ x : Int, plF K (up64 g out x) 5 = plF K g 5 := fun x => pl_congr fun v hv hb => by
    unfold up64; rw [if_neg ((hK v hv).1 hb).2]
  have hpg := pl_bd hg 5 (Nat.le_refl _)
  refine Eq.trans (fold_all (P := rP (agV W) (agC W) m) (ι := fun o => (plF (orW W m) (up64 g out (o : Int)) 5).toNat) (fun o h' => (hlt o h').1) (fun o h' => ?_) (fun j hj e => ?_) (fun a b hab hb => ?_)) (fldE_congr fun o h' => rPr_at h hW (hlt o h').1 (hvl o (by omega) (by omega)) (hlt o h').2.symm)
  · obtain ⟨c1, c2, _, c4⟩ := combs h hW (hlt o h').1
    have hi := pl_inj c1 (hvl o (by omega) (by omega)) 5 (Nat.le_refl _) (c2.trans (hlt o h').2)
    rw [pl_congr (h := up64 g out (o : Int)) (fun v hv hb => hi v hv (hW v hv hb)), hKg] at c4
    omega
  · obtain ⟨c1, c2, _, c4⟩ := combs h hW hj
    have hv := c1 out ho hU
    refine ⟨(vlF (orW W m) j out).toNat, by omega, ?_⟩
    have hi := pl_inj (w := K) (fun v h5 hb => c1 v h5 (hW v h5 hb)) hg 5 (Nat.le_refl _) (by omega)
    have : plF (orW W m) (up64 g out (((vlF (orW W m) j out).toNat : Nat) : Int)) 5 = plF (orW W m) (vlF (orW W m) j) 5 := pl_congr fun v hv' hb => by
      unfold up64
      by_cases e' : v = out
      · rw [if_pos e', e']; omega
      · rw [if_neg e']; exact (hi v hv' ((hK v hv').2 ⟨hb, e'⟩)).symm
    omega
  · have := pl_mono (w := orW W m) (g := g) hU (show (a : Int) < (b : Int) by omega) 5 ho (Nat.le_refl _)
    have h1 := (hlt a (by omega)).2
    have h2 := (hlt b hb).2
    omega
theorem place_all (h : InOk kd (agV W) (agC W) A B (agN W) m (dV K 5)) (hK : ∀ v, v < 5 → (K / 2 ^ v % 2 = 1 ↔ orW W m / 2 ^ v % 2 = 1)) {g : Nat → Int} (hg : VL K g) :
    (rA kd (agV W) (agC W) A B m (dV K 5) (plF K g 5).toNat, rB kd (agV W) (agC W) A B m (dV K 5) (plF K g 5).toNat) = fldE kd (fun _ => prE kd (atV W A g) (atV W B g) m) 1 := by
  have hW : Wi K (orW W m) := fun v h5 hb => (hK v h5).1 hb
  have hg' : VL (orW W m) g := fun v h5 hb => hg v h5 ((hK v h5).2 hb)
  have hP := rP_sz (W := W) (m := m)
  have e0 : plF K g 5 = plF (orW W m) g 5 := pl_mask fun v hv => hK v hv
  have hpg := pl_bd hg' 5 (Nat.le_refl _)
  rw [e0]
  have hat : ∀ j, j < rP (agV W) (agC W) m → rAt (agV W) (agC W) m (dV K 5) j = j := fun j hj => by
    obtain ⟨c1, c2, _, c4⟩ := combs h hW hj
    rw [pl_mask (fun v hv => hK v hv), c2] at c4
    omega
  refine Eq.trans (fold_all (P := rP (agV W) (agC W) m) (ι := fun _ => (plF (orW W m) g 5).toNat) (fun o _ => by omega) (fun o _ => hat _ (by omega)) (fun j hj e => ⟨0, by omega, by rw [hat j hj] at e; exact e.symm⟩) (fun a b _ _ => by omega)) (fldE_congr fun o _ => rPr_at h hW (by omega) hg' (by omega))
theorem vl_all (h : InOk kd (agV W) (agC W) A B (agN W) m (dV K 5)) (hK : ∀ v, v < 5 → (K / 2 ^ v % 2 = 1 ↔ orW W m / 2 ^ v % 2 = 1)) {x : Nat} (hx : x < dN K) : ∃ g, VL K g ∧ (plF K g 5).toNat = x := by
  have hP := rP_sz (W := W) (m := m)
  have e0 := (dV_congr (i := 5) (fun v hv => hK v hv)).2.2.2
  have hb := goodT_bd (d_good K)
  have e1 := sz_prod K 5
  unfold dN at hx
  obtain ⟨c1, c2, _, c4⟩ := combs h (fun v h5 hb => (hK v h5).1 hb) (j := x) (by omega)
  refine ⟨vlF (orW W m) x, fun v h5 hb => c1 v h5 ((hK v h5).1 hb), ?_⟩
  rw [pl_mask (fun v hv => hK v hv), c2]
  omega
end
end Go.Proofs.Ytgdnmgcigkhojaa.Am

namespace Go.Proofs.Ytgdnmgcigkhojaa.Am
open Go.RowKit
set_option linter.unusedVariables false
set_option maxHeartbeats 1000000
set_option maxRecDepth 100000
def conF {α : Type} (x : α) (f : Nat → α) : Nat → α
  | 0 => x
  | i + 1 => f i
section
variable (kn : Nat) (kc : List V) (dn : Nat) (dc : List V) (w : Nat) (k0 k1 : Int) (rw : List V)
abbrev l6X (ia : Int) : SL := { sl := [(2, .im kn kc), (3, .im dn dc), (4, b8 w), (6, .ptr 0 0), (42, .agg [i6 k0, i6 k1]), (43, i6 ia)], os := [.row 33 none rw] }
end
abbrev rwL (v0 c0 : List Int) (n0 : Nat) (a0 b0 : Nat → Int) (v1 c1 : List Int) (n1 : Nat) (a1 b1 : Nat → Int) : List V := [sl v0, sl c0, .im n0 (elF a0 b0 n0), sl v1, sl c1, .im n1 (elF a1 b1 n1)]
end Go.Proofs.Ytgdnmgcigkhojaa.Am

namespace Go.Proofs.Ytgdnmgcigkhojaa.Am
open Go.RowKit
set_option linter.unusedVariables false
set_option maxHeartbeats 1000000
set_option maxRecDepth 100000
theorem plus_up2 {n m k a b c d p q : Int} (hn : n + m ≤ 1000000000000000) (h0 : 0 ≤ n) (h0' : 0 ≤ m) (h1 : upE n k a b) (h2 : upE m k c d) (h : plusE k a b c d = (p, q)) : upE (n + m) k p q := by
  rcases kinds5 h1 with rfl | rfl | rfl | rfl | rfl <;> obtain ⟨h1, h3, h4⟩ := h1 <;> obtain ⟨h2, h5, h6⟩ := h2
  · rw [ok1] at h1 h2
    rw [plusE_1, addI_lt (by omega)] at h
    cases h
    exact ⟨ok1.2 (by omega), by omega, by omega⟩
  · rw [ok2] at h1 h2
    rw [plusE_2] at h
    unfold maxI at h
    split at h <;> cases h <;> exact ⟨ok2.2 (by omega), by omega, by omega⟩
  · rw [ok3] at h1 h2
    rw [plusE_3] at h
    split at h <;> cases h <;> refine ⟨ok3.2 (by omega), ?_, ?_⟩ <;> omega
  · rw [ok4] at h1 h2
    rw [plusE_4] at h
    unfold maxI at h
    split at h <;> cases h <;> exact ⟨ok4.2 (by omega), by omega, by omega⟩
  · rw [ok5] at h1 h2
    rw [plusE_5, addI_lt (by omega)] at h
    split at h
    · cases h; exact ⟨ok5.2 (by omega), by omega, by omega⟩
    · split at h <;> cases h <;> exact ⟨ok5.2 (by omega), by omega, by omega⟩
theorem one_times {n kd a b : Int} (hn : n ≤ 1000000000) (h : upE n kd a b) : timesE kd (oneA kd) (oneB kd) a b = (a, b) := by
  rw [times_comm]; exact times_one hn h
theorem zero_1 {kd a b : Int} (h : upE 100 kd a b) : upE (1 + ((0 : Nat) : Int) * 100) kd (zeroA kd) 0 := by
  have := (zero_up h (by decide)).1
  refine ⟨this, ?_, by decide⟩
  show (if kd = 3 then (-1 : Int) else 0) ≤ _
  split <;> decide
theorem zero_plus {n kd a b : Int} (hn : n ≤ 1000000000) (hn1 : 1 ≤ n) (h : upE n kd a b) : plusE kd (zeroA kd) 0 a b = (a, b) := by
  rw [plus_comm (n := n) (k := kd) (a := zeroA kd) (b := 0) (zero_up h hn1) h]; exact plus_zero hn h
section
variable {kd : Int} {a b : Nat → Int}
theorem prE_1 (h : upE 100 kd (a 0) (b 0)) : prE kd a b 1 = (a 0, b 0) := one_times (by decide) h
theorem prE_2 (h : upE 100 kd (a 0) (b 0)) : prE kd a b 2 = timesE kd (a 0) (b 0) (a 1) (b 1) := by
  rw [prE, prE_1 h]
theorem prE_up (h : ∀ i, upE 100 kd (a i) (b i)) {m : Nat} (hm : 1 ≤ m ∧ m ≤ 3) : upE 102020100 kd (prE kd a b m).1 (prE kd a b m).2 := by
  have e1 : prE kd a b 1 = (a 0, b 0) := prE_1 (h 0)
  have u2 : upE 10100 kd (prE kd a b 2).1 (prE kd a b 2).2 := times_up (n := 100) (by decide) (by decide) (h 0) (h 1) (prE_2 (h 0)).symm
  rcases (show m = 1 ∨ m = 2 ∨ m = 3 by omega) with rfl | rfl | rfl
  · rw [e1]; exact up_mono (h 0) (by decide)
  · exact up_mono u2 (by decide)
  · exact times_up (n := 10100) (by decide) (by decide) u2 (up_mono (h 2) (by decide)) rfl
end
section
variable {kd : Int} {VS CS : Nat → List Int} {A B : Nat → Nat → Int} {m : Nat} {keep : List Int}
theorem rW_up (h : ∀ i x, upE 100 kd (A i x) (B i x)) (hm : 1 ≤ m ∧ m ≤ 3) : ∀ j : Nat, j ≤ 4096 → ∀ x, upE (1 + (j : Int) * 102020100) kd ((rW kd VS CS A B m keep j).1 x) ((rW kd VS CS A B m keep j).2 x)
  | 0, _, x => up_mono (zero_1 (h 0 0)) (by decide)
  | j + 1, hj, x => by
    have ih := rW_up h hm j (by omega)
    have hp : upE 102020100 kd (rPr kd VS CS A B m j m).1 (rPr kd VS CS A B m j m).2 := prE_up (fun i => h i _) hm
    rw [rW]
    dsimp only [up64]
    by_cases e : x = rAt VS CS m keep j
    · rw [if_pos e, if_pos e]
      exact up_mono (plus_up2 (n := 1 + (j : Int) * 102020100) (m := 102020100) (by omega) (by omega) (by omega) (ih _) hp rfl) (by omega)
    · rw [if_neg e, if_neg e]
      exact up_mono (ih x) (by omega)
end
section
variable {kd : Int} {W : Nat → Nat} {A B : Nat → Nat → Int} {m K : Nat}
theorem com_part (hk : 1 ≤ kd ∧ kd ≤ 5) (h : ∀ i x, upE 100 kd (A i x) (B i x)) (hm : 1 ≤ m ∧ m ≤ 3) (hK : Wi K (orW W m)) :
    comV kd (agV W) (agC W) A B (agN W) m (dV K 5) = .tup [.agg [sl (dV K 5), sl (dC K 5), .im (dN K) (elF (rA kd (agV W) (agC W) A B m (dV K 5)) (rB kd (agV W) (agC W) A B m (dV K 5)) (dN K))], i6 0] := by
  have hI : InOk kd (agV W) (agC W) A B (agN W) m (dV K 5) := in_part hk (fun i x => (h i x).1) (by omega) hK
  have hP : rP (agV W) (agC W) m ≤ 4096 := by have := hI.sizes; unfold rP; omega
  have hz : rSz (agV W) (agC W) m (dV K 5) = dN K := rSz_sz hK
  rw [comV_ok hI, hz]
  · rw [show clF (aF (agV W) (agC W) m) (dV K 5) (dV K 5).length = dC K 5 by rw [(aF_draft W m).2, dV_len, clF_part hK]]
    rw [show (dV K 5).length = (dC K 5).length by rw [dV_len, dC_len]]
  · rw [hz]
    refine fitA_all (fun x => ?_) _
    have := rW_up (VS := agV W) (CS := agC W) (keep := dV K 5) h hm _ hP x
    obtain ⟨_, g2, g3⟩ := this
    exact ⟨by show (rW kd (agV W) (agC W) A B m (dV K 5) (rP (agV W) (agC W) m)).1 x ≤ _; omega, by show (rW kd (agV W) (agC W) A B m (dV K 5) (rP (agV W) (agC W) m)).2 x ≤ _; omega⟩
end
section
variable {kd : Int} {W W' : Nat → Nat} {A B A' B' : Nat → Nat → Int} {keep : List Int}
theorem swap_two (h : ∀ i x, upE 100 kd (A i x) (B i x)) (h0 : W' 0 = W 1) (h1 : W' 1 = W 0) (a0 : A' 0 = A 1) (a1 : A' 1 = A 0) (b0 : B' 0 = B 1) (b1 : B' 1 = B 0) :
    rA kd (agV W) (agC W) A B 2 keep = rA kd (agV W') (agC W') A' B' 2 keep ∧ rB kd (agV W) (agC W) A B 2 keep = rB kd (agV W') (agC W') A' B' 2 keep := by
  have hu : orW W 2 = orW W' 2 := by
    show (0 ||| W 0) ||| W 1 = (0 ||| W' 0) ||| W' 1
    rw [h0, h1, Nat.zero_or, Nat.zero_or, Nat.or_comm]
  have hF : aF (agV W) (agC W) 2 = aF (agV W') (agC W') 2 := ((aF_draft W 2).2.trans (by rw [hu])).trans (aF_draft W' 2).2.symm
  have hat : ∀ j, rAt (agV W) (agC W) 2 keep j = rAt (agV W') (agC W') 2 keep j := fun j => by
    unfold rAt; dsimp only [rV, rS, rQ]; rw [hF]
  have hi0 : ∀ j, rI (agV W) (agC W) 2 0 j = rI (agV W') (agC W') 2 1 j := fun j => by
    have e1 : agV W 0 = agV W' 1 := by show dV (W 0) 5 = dV (W' 1) 5; rw [h1]
    have e2 : agC W 0 = agC W' 1 := by show dC (W 0) 5 = dC (W' 1) 5; rw [h1]
    unfold rI; unfold rV rS rQ; rw [hF, e1, e2]
  have hi1 : ∀ j, rI (agV W) (agC W) 2 1 j = rI (agV W') (agC W') 2 0 j := fun j => by
    have e1 : agV W 1 = agV W' 0 := by show dV (W 1) 5 = dV (W' 0) 5; rw [h0]
    have e2 : agC W 1 = agC W' 0 := by show dC (W 1) 5 = dC (W' 0) 5; rw [h0]
    unfold rI; unfold rV rS rQ; rw [hF, e1, e2]
  have hp : ∀ j, rPr kd (agV W) (agC W) A B 2 j 2 = rPr kd (agV W') (agC W') A' B' 2 j 2 := fun j => by
    unfold rPr
    refine (prE_2 (a := fun i => A i (rI (agV W) (agC W) 2 i j)) (b := fun i => B i (rI (agV W) (agC W) 2 i j)) (h 0 _)).trans (times_comm.trans (Eq.symm ((prE_2 (a := fun i => A' i (rI (agV W') (agC W') 2 i j)) (b := fun i => B' i (rI (agV W') (agC W') 2 i j)) (by rw [a0, b0]; exact h 1 _)).trans ?_)))
    rw [a0, a1, b0, b1, hi0, hi1]
  have hw : ∀ j, rW kd (agV W) (agC W) A B 2 keep j = rW kd (agV W') (agC W') A' B' 2 keep j := by
    intro j
    induction j with
    | zero => rfl
    | succ j ih => rw [rW, rW, ih, hat, hp]
  have hP : rP (agV W) (agC W) 2 = rP (agV W') (agC W') 2 := by unfold rP; dsimp only [rS, rQ]; rw [hF]
  unfold rA rB
  rw [hP, hw]
  exact ⟨rfl, rfl⟩
end
theorem fld_up {kd : Int} {F : Nat → Int × Int} (h0 : upE 100 kd (zeA kd) 0) (hF : ∀ o, upE 100 kd (F o).1 (F o).2) : ∀ c : Nat, c ≤ 50 → upE (1 + (c : Int) * 100) kd (fldE kd F c).1 (fldE kd F c).2
  | 0, _ => zero_1 h0
  | c + 1, hc => up_mono (plus_up2 (n := 1 + (c : Int) * 100) (m := 100) (by omega) (by omega) (by omega) (fld_up h0 hF c (by omega)) (hF c) rfl) (by omega)
theorem fld_times {kd x y : Int} {F : Nat → Int × Int} (hx : upE 100 kd x y) (hF : ∀ o, upE 100 kd (F o).1 (F o).2) : ∀ c : Nat, c ≤ 50 → timesE kd x y (fldE kd F c).1 (fldE kd F c).2 = fldE kd (fun o => timesE kd x y (F o).1 (F o).2) c
  | 0, _ => times_zero hx
  | c + 1, hc => by
    have hz : upE 100 kd (zeA kd) 0 := zero_up hx (by decide)
    have u1 := fld_up hz hF c (by omega)
    have ih := fld_times hx hF c (by omega)
    rw [fldE, fldE, ← ih]
    exact times_plus (n := 10000) (by decide) (up_mono hx (by decide)) (up_mono u1 (by omega)) (up_mono (hF c) (by decide)) rfl rfl rfl
theorem leave_two {kd : Int} (hk : 1 ≤ kd ∧ kd ≤ 5) {wa wb K L out : Nat} (ho : out < 5) (ha : ¬ wa / 2 ^ out % 2 = 1) (hb : wb / 2 ^ out % 2 = 1)
    (hK : ∀ v, v < 5 → (K / 2 ^ v % 2 = 1 ↔ (wa / 2 ^ v % 2 = 1 ∨ wb / 2 ^ v % 2 = 1) ∧ v ≠ out)) (hL : ∀ v, v < 5 → (L / 2 ^ v % 2 = 1 ↔ wb / 2 ^ v % 2 = 1 ∧ v ≠ out))
    {A B : Nat → Nat → Int} (hA : ∀ i x, upE 12 kd (A i x) (B i x)) {LA LB : Nat → Int}
    (eL : ∀ x, x < dN L → LA x = rA kd (agV (fun _ => wb)) (agC (fun _ => wb)) (fun _ => A 1) (fun _ => B 1) 1 (dV L 5) x ∧ LB x = rB kd (agV (fun _ => wb)) (agC (fun _ => wb)) (fun _ => A 1) (fun _ => B 1) 1 (dV L 5) x) (hLo : ∀ x, okE kd (LA x) (LB x) = true) :
    ∀ x, x < dN K → rA kd (agV (conF wa (fun _ => wb))) (agC (conF wa (fun _ => wb))) A B 2 (dV K 5) x = rA kd (agV (conF wa (fun _ => L))) (agC (conF wa (fun _ => L))) (conF (A 0) (fun _ => LA)) (conF (B 0) (fun _ => LB)) 2 (dV K 5) x ∧
      rB kd (agV (conF wa (fun _ => wb))) (agC (conF wa (fun _ => wb))) A B 2 (dV K 5) x = rB kd (agV (conF wa (fun _ => L))) (agC (conF wa (fun _ => L))) (conF (A 0) (fun _ => LA)) (conF (B 0) (fun _ => LB)) 2 (dV K 5) x := by
  intro x hx
  have hor : ∀ u w : Nat, orW (conF u (fun _ => w)) 2 = u ||| w := fun u w => by show (0 ||| u) ||| w = _; rw [Nat.zero_or]
  have u100 : ∀ i x, upE 100 kd (A i x) (B i x) := fun i x => up_mono (hA i x) (by decide)
  have hc := cdN_bd ho
  -- the three
  have hK1 : ∀ v, v < 5 → (K / 2 ^ v % 2 = 1 ↔ orW (conF wa (fun _ => wb)) 2 / 2 ^ v % 2 = 1 ∧ v ≠ out) := fun v hv => by rw [hor, or_bit]; exact hK v hv
  have hU1 : orW (conF wa (fun _ => wb)) 2 / 2 ^ out % 2 = 1 := by rw [hor, or_bit]; exact .inr hb
  have hK3 : ∀ v, v < 5 → (K / 2 ^ v % 2 = 1 ↔ orW (conF wa (fun _ => L)) 2 / 2 ^ v % 2 = 1) := fun v hv => by
    rw [hor, or_bit, hK v hv, hL v hv]
    constructor
    · rintro ⟨h1 | h1, h2⟩
      · exact .inl h1
      · exact .inr ⟨h1, h2⟩
    · rintro (h1 | ⟨h1, h2⟩)
      · exact ⟨.inl h1, fun e => ha (e ▸ h1)⟩
      · exact ⟨.inr h1, h2⟩
  have hw1 : orW (fun _ => wb) 1 = wb := by show 0 ||| wb = _; rw [Nat.zero_or]
  have hL1 : ∀ v, v < 5 → (L / 2 ^ v % 2 = 1 ↔ orW (fun _ => wb) 1 / 2 ^ v % 2 = 1 ∧ v ≠ out) := fun v hv => by rw [hw1]; exact hL v hv
  have I1 : InOk kd (agV (conF wa (fun _ => wb))) (agC (conF wa (fun _ => wb))) A B (agN (conF wa (fun _ => wb))) 2 (dV K 5) := in_part hk (fun i x => (hA i x).1) (by omega) (fun v hv h => ((hK1 v hv).1 h).1)
  have I2 : InOk kd (agV (fun _ => wb)) (agC (fun _ => wb)) (fun _ => A 1) (fun _ => B 1) (agN (fun _ => wb)) 1 (dV L 5) := in_part hk (fun i x => (hA 1 x).1) (by omega) (fun v hv h => ((hL1 v hv).1 h).1)
  have I3 : InOk kd (agV (conF wa (fun _ => L))) (agC (conF wa (fun _ => L))) (conF (A 0) (fun _ => LA)) (conF (B 0) (fun _ => LB)) (agN (conF wa (fun _ => L))) 2 (dV K 5) := in_part hk (fun i x => by
    cases i with
    | zero => exact (hA 0 x).1
    | succ i => exact hLo x) (by omega) (fun v hv h => (hK3 v hv).1 h)
  obtain ⟨g, hg, hgx⟩ := vl_all I3 hK3 hx
  have hgL : VL L g := fun v hv h => hg v hv ((hK v hv).2 ⟨.inr ((hL v hv).1 h).1, ((hL v hv).1 h).2⟩)
  have f1 := place_fold I1 ho hU1 hK1 hg
  have f2 := place_fold I2 ho (by rw [hw1]; exact hb) hL1 hgL
  have f3 := place_all I3 hK3 hg
  rw [hgx] at f1 f3
  have hdl : (plF L g 5).toNat < dN L := by
    have := pl_bd hgL 5 (Nat.le_refl _)
    unfold dN; rw [sz_prod]; omega
  rw [← (eL _ hdl).1, ← (eL _ hdl).2] at f2
  -- the elements
  have hwa : ∀ o : Int, plF wa (up64 g out o) 5 = plF wa g 5 := fun o => pl_congr fun v hv h => by
    unfold up64; rw [if_neg (fun e => ha (by rw [← e]; exact h))]
  have e2 : ∀ o : Nat, prE kd (atV (fun _ => wb) (fun _ => A 1) (up64 g out (o : Int))) (atV (fun _ => wb) (fun _ => B 1) (up64 g out (o : Int))) 1 = (A 1 (plF wb (up64 g out (o : Int)) 5).toNat, B 1 (plF wb (up64 g out (o : Int)) 5).toNat) := fun o => prE_1 (u100 1 _)
  have e1 : ∀ o : Nat, prE kd (atV (conF wa (fun _ => wb)) A (up64 g out (o : Int))) (atV (conF wa (fun _ => wb)) B (up64 g out (o : Int))) 2 = timesE kd (A 0 (plF wa g 5).toNat) (B 0 (plF wa g 5).toNat) (A 1 (plF wb (up64 g out (o : Int)) 5).toNat) (B 1 (plF wb (up64 g out (o : Int)) 5).toNat) := fun o => by
    refine (prE_2 (a := atV (conF wa (fun _ => wb)) A (up64 g out (o : Int))) (b := atV (conF wa (fun _ => wb)) B (up64 g out (o : Int))) (u100 0 _)).trans ?_
    show timesE kd (A 0 (plF wa (up64 g out (o : Int)) 5).toNat) (B 0 (plF wa (up64 g out (o : Int)) 5).toNat) _ _ = _
    rw [hwa]
    rfl
  rw [fldE_congr (fun o _ => e2 o)] at f2
  rw [fldE_congr (fun o _ => e1 o)] at f1
  have hz : upE 100 kd (zeA kd) 0 := zero_up (u100 0 0) (by decide)
  have hlu := fld_up (F := fun o => (A 1 (plF wb (up64 g out (o : Int)) 5).toNat, B 1 (plF wb (up64 g out (o : Int)) 5).toNat)) hz (fun o => u100 1 _) (cdN out).toNat (by omega)
  have hft := fld_times (F := fun o => (A 1 (plF wb (up64 g out (o : Int)) 5).toNat, B 1 (plF wb (up64 g out (o : Int)) 5).toNat)) (u100 0 (plF wa g 5).toNat) (fun o => u100 1 _) (cdN out).toNat (by omega)
  rw [← f2] at hft hlu
  dsimp only at hft hlu
  have e3 : prE kd (atV (conF wa (fun _ => L)) (conF (A 0) (fun _ => LA)) g) (atV (conF wa (fun _ => L)) (conF (B 0) (fun _ => LB)) g) 2 = timesE kd (A 0 (plF wa g 5).toNat) (B 0 (plF wa g 5).toNat) (LA (plF L g 5).toNat) (LB (plF L g 5).toNat) := prE_2 (u100 0 _)
  rw [fldE_congr (fun o _ => e3), fldE, fldE] at f3
  dsimp only at f3
  have hup : upE 100000001 kd (timesE kd (A 0 (plF wa g 5).toNat) (B 0 (plF wa g 5).toNat) (LA (plF L g 5).toNat) (LB (plF L g 5).toNat)).1 (timesE kd (A 0 (plF wa g 5).toNat) (B 0 (plF wa g 5).toNat) (LA (plF L g 5).toNat) (LB (plF L g 5).toNat)).2 :=
    up_mono (times_up (n := 1000) (by decide) (by decide) (up_mono (u100 0 _) (by decide)) (up_mono hlu (by omega)) rfl) (by decide)
  rw [zero_plus (by decide) (by decide) hup] at f3
  have hfin := f1.trans (hft.symm.trans f3.symm)
  exact ⟨congrArg Prod.fst hfin, congrArg Prod.snd hfin⟩
theorem pl_surj (w : Nat) : ∀ i, i ≤ 5 → ∀ x : Int, 0 ≤ x → x < szF w i → ∃ g : Nat → Int, (∀ v, v < i → w / 2 ^ v % 2 = 1 → 0 ≤ g v ∧ g v < cdN v) ∧ plF w g i = x
  | 0, _, x, h0, h1 => ⟨fun _ => 0, fun v hv => absurd hv (Nat.not_lt_zero _), by
      have h1 : x < 1 := h1
      show (0 : Int) = x; omega⟩
  | i + 1, hi, x, h0, h1 => by
    have hc := cdN_bd (v := i) (by omega)
    rw [szF] at h1
    by_cases hb : w / 2 ^ i % 2 = 1
    · rw [if_pos hb] at h1
      have e := Int.mul_ediv_add_emod x (cdN i)
      have m0 := Int.emod_nonneg x (show cdN i ≠ 0 by omega)
      have m1 := Int.emod_lt_of_pos x (show 0 < cdN i by omega)
      have q0 : 0 ≤ x / cdN i := Int.ediv_nonneg h0 (by omega)
      have q1 : x / cdN i < szF w i := Int.ediv_lt_of_lt_mul (by omega) h1
      obtain ⟨g, g1, g2⟩ := pl_surj w i (by omega) (x / cdN i) q0 q1
      refine ⟨up64 g i (x % cdN i), fun v hv hbv => ?_, ?_⟩
      · unfold up64
        by_cases e' : v = i
        · rw [if_pos e', e']; exact ⟨m0, m1⟩
        · rw [if_neg e']; exact g1 v (by omega) hbv
      · rw [plF, if_pos hb, pl_congr (h := g) (fun v hv _ => by unfold up64; rw [if_neg (by omega)]), g2]
        unfold up64
        rw [if_pos rfl, Int.mul_comm]
        exact e
    · rw [if_neg hb] at h1
      obtain ⟨g, g1, g2⟩ := pl_surj w i (by omega) x h0 h1
      refine ⟨g, fun v hv hbv => ?_, by rw [plF, if_neg hb, g2]⟩
      by_cases e' : v = i
      · exact absurd (e' ▸ hbv) hb
      · exact g1 v (by omega) hbv
theorem fld_up12 {kd : Int} {F : Nat → Int × Int} (h0 : upE 100 kd (zeA kd) 0) (hF : ∀ o, upE 12 kd (F o).1 (F o).2) : ∀ c : Nat, c ≤ 5 → upE (1 + (c : Int) * 12) kd (fldE kd F c).1 (fldE kd F c).2
  | 0, _ => up_mono (zero_1 h0) (by decide)
  | c + 1, hc => up_mono (plus_up2 (n := 1 + (c : Int) * 12) (m := 12) (by omega) (by omega) (by omega) (fld_up12 h0 hF c (by omega)) (hF c) rfl) (by omega)
theorem less_up {kd : Int} (hk : 1 ≤ kd ∧ kd ≤ 5) {wb L out : Nat} (ho : out < 5) (hb : wb / 2 ^ out % 2 = 1) (hL : ∀ v, v < 5 → (L / 2 ^ v % 2 = 1 ↔ wb / 2 ^ v % 2 = 1 ∧ v ≠ out)) {A B : Nat → Int} (hA : ∀ x, upE 12 kd (A x) (B x)) {x : Nat} (hx : x < dN L) :
    upE 100 kd (rA kd (agV (fun _ => wb)) (agC (fun _ => wb)) (fun _ => A) (fun _ => B) 1 (dV L 5) x) (rB kd (agV (fun _ => wb)) (agC (fun _ => wb)) (fun _ => A) (fun _ => B) 1 (dV L 5) x) := by
  have hw1 : orW (fun _ => wb) 1 = wb := by show 0 ||| wb = _; rw [Nat.zero_or]
  have hL1 : ∀ v, v < 5 → (L / 2 ^ v % 2 = 1 ↔ orW (fun _ => wb) 1 / 2 ^ v % 2 = 1 ∧ v ≠ out) := fun v hv => by rw [hw1]; exact hL v hv
  have I2 : InOk kd (agV (fun _ => wb)) (agC (fun _ => wb)) (fun _ => A) (fun _ => B) (agN (fun _ => wb)) 1 (dV L 5) := in_part hk (fun i x => (hA x).1) (by omega) (fun v hv h => ((hL1 v hv).1 h).1)
  have hc := cdN_bd ho
  have hs := sz_prod L 5
  have hgd := goodT_bd (d_good L)
  unfold dN at hx
  obtain ⟨g, g1, g2⟩ := pl_surj L 5 (Nat.le_refl _) (x : Int) (by omega) (by omega)
  have f2 := place_fold I2 ho (by rw [hw1]; exact hb) hL1 (g := g) g1
  rw [g2, Int.toNat_natCast] at f2
  have u : ∀ i x, upE 100 kd ((fun _ : Nat => A) i x) ((fun _ : Nat => B) i x) := fun i x => up_mono (hA x) (by decide)
  have e2 : ∀ o : Nat, prE kd (atV (fun _ => wb) (fun _ => A) (up64 g out (o : Int))) (atV (fun _ => wb) (fun _ => B) (up64 g out (o : Int))) 1 = (A (plF wb (up64 g out (o : Int)) 5).toNat, B (plF wb (up64 g out (o : Int)) 5).toNat) := fun o => prE_1 (u 0 _)
  rw [fldE_congr (fun o _ => e2 o)] at f2
  have := fld_up12 (F := fun o => (A (plF wb (up64 g out (o : Int)) 5).toNat, B (plF wb (up64 g out (o : Int)) 5).toNat)) (zero_up (u 0 0) (by decide)) (fun o => hA _) (cdN out).toNat (by omega)
  rw [← f2] at this
  exact up_mono this (by omega)
end Go.Proofs.Ytgdnmgcigkhojaa.Am

namespace Go.Proofs.Ytgdnmgcigkhojaa.Am
open Go.RowKit
set_option linter.unusedVariables false
set_option maxHeartbeats 1000000
set_option maxRecDepth 100000
abbrev onS (vs cs : List Int) (A B B' : Nat → Int) (n k : Nat) : SL := { sl := [(2, .ptr 0 0), (3, .ptr 1 0), (12, .im n (elF A B n)), (13, i6 n), (14, i6 k)], os := r3 :: .row 32 none [sl vs, sl cs, owV 2 k] :: owE A B' k, md := [0, 1] }
abbrev onX (vs cs : List Int) (A B' : Nat → Int) (n : Nat) : SL := { sl := [(2, .ptr 0 0), (3, .ptr 1 0)], os := [r3, .row 32 none [sl vs, sl cs, .im n (elF A B' n)]], md := [0, 1] }
section
variable (w0 w1 : Nat) (L0 L1 : List Nat) (R1 R2 R3 R4 : List V)
abbrev avS (p : Nat × Nat × List Int) : SL := { sl := [(2, .ptr 0 0), (3, .ptr 1 0), (11, .ptr 2 0), (12, .ptr 3 0), (14, .ptr 4 0), (15, i6 0), (16, .ptr 5 0), (17, i6 0), (18, owV 6 p.2.1), (79, i6 p.1)], os := .row 39 none (dtL w0 L0) :: .row 39 none (dtL w1 L1) :: .row 32 none R1 :: .row 32 none R2 :: .row 32 none R3 :: .row 32 none R4 :: owO p.2.2 p.2.1 }
abbrev avX (q : Nat) (l : List Int) : SL := { sl := [(11, .ptr 0 0), (12, .ptr 1 0), (14, .ptr 2 0), (15, i6 0), (16, .ptr 3 0), (17, i6 0), (18, .im q (ints l))], os := [.row 32 none R1, .row 32 none R2, .row 32 none R3, .row 32 none R4] }
end
abbrev agS (M1 M2 : List V) (M : Int) (P : Nat → Int) (W : List V) (n k : Nat) : SL := { sl := [(14, .ptr 0 0), (16, .ptr 1 0), (22, i6 (ctP P M k)), (140, .im n W), (141, i6 n), (142, i6 k)], os := [.row 32 none M1, .row 32 none (M2 ++ [.im 1 [i6 M, i6 0]])] }
abbrev agX (M1 M2 : List V) (M : Int) (c : Int) : SL := { sl := [(14, .ptr 0 0), (22, i6 c)], os := [.row 32 none M1] }
end Go.Proofs.Ytgdnmgcigkhojaa.Am
