/- Chapter 28: what the score of a family is: how great it can be; that the order of the cases does not matter; what one more case does (plain). -/
import Derived.Test.YtglpoiaedkoecaaDoorE10
namespace Go.Proofs.YtglpoiaedkoecaaDoor.Am
open Go.RowKit
set_option linter.unusedVariables false
set_option maxHeartbeats 1000000
set_option maxRecDepth 100000

/-! ### bounds -/
theorem fac_les : ((List.range 44).all fun c => (List.range 18).all fun i => decide (0 ≤ facF c i ∧ facF c i ≤ c)) = true := by kernel_rfl
theorem fac_le {c i : Nat} (hc : c < 44) (hi : i < 18) : 0 ≤ facF c i ∧ facF c i ≤ c := of_decide_eq_true (all_range.1 (all_range.1 fac_les c hc) i hi)
theorem sumI_le {α : Type} {f : α → Int} {g : α → Nat} : ∀ l : List α, (∀ x ∈ l, -(g x : Int) ≤ f x ∧ f x ≤ g x) → -((sumN (l.map g) : Nat) : Int) ≤ sumI (l.map f) ∧ sumI (l.map f) ≤ (sumN (l.map g) : Nat)
  | [], _ => by simp [sumI, sumN]
  | x :: l, h => by
    have h1 := sumI_le l (fun y hy => h y (List.mem_cons_of_mem _ hy))
    have h2 := h x List.mem_cons_self
    simp only [List.map_cons, sumI, sumN]; omega
theorem sumN_ge {l : List Nat} {x : Nat} (h : x ∈ l) : x ≤ sumN l := sumN_mem h
theorem con_bd2 {l : List Nat} {r i : Nat} (hi : i < 18) (h1 : 1 ≤ r) (h : sumN l + (r - 1) < 44) : -((sumN l + (r - 1) : Nat) : Int) ≤ conF facF r l i ∧ conF facF r l i ≤ (sumN l + (r - 1) : Nat) := by
  have h2 := sumI_le (f := fun c => facF c i) (g := fun c => c) l (fun c hc => by
    have := sumN_ge hc
    have := fac_le (c := c) (by omega) hi
    omega)
  have h2' : 0 ≤ sumI (l.map fun c => facF c i) := by
    have : ∀ l : List Nat, (∀ c ∈ l, c < 44) → 0 ≤ sumI (l.map fun c => facF c i) := by
      intro l
      induction l with
      | nil => intro _; simp [sumI]
      | cons x l ih =>
        intro h
        have := ih (fun y hy => h y (List.mem_cons_of_mem _ hy))
        have := fac_le (h x List.mem_cons_self) hi
        simp only [List.map_cons, sumI]; omega
    exact this l fun c hc => by have := sumN_ge hc; omega
  have h3 := fac_le (c := r - 1) (by omega) hi
  have h4 := fac_le (c := sumN l + (r - 1)) h hi
  rw [show List.map (fun c => c) l = l from List.map_id l] at h2
  unfold conF
  omega
theorem sumN_set_inc : ∀ (l : List Nat) (k : Nat), k < l.length → sumN (l.set k (l.getD k 0 + 1)) = sumN l + 1
  | [], _, h => by cases h
  | x :: l, 0, _ => by simp [sumN]; omega
  | x :: l, k + 1, h => by
    have := sumN_set_inc l k (by simpa using h)
    simp only [List.set_cons_succ, List.getD_cons_succ, sumN, this]; omega
def totE (es : List (Nat × List Nat)) : Nat := sumN (es.map fun e => sumN e.2)
theorem bump_tot {r q k : Nat} (hk : k < r) : ∀ {es : List (Nat × List Nat)}, (∀ e ∈ es, e.2.length = r) → totE (bump r q k es) = totE es + 1 ∧ ∀ e ∈ bump r q k es, e.2.length = r
  | [], _ => by
    have h := sumN_set_inc (List.replicate r 0) k (by simpa using hk)
    rw [sumN_rep] at h
    have h0 : (List.replicate r 0).getD k 0 = 0 := by rw [List.getD_eq_getElem?_getD, List.getElem?_replicate]; split <;> rfl
    rw [h0] at h
    refine ⟨by simp only [bump, totE, List.map_cons, List.map_nil, sumN]; rw [h], fun e he => ?_⟩
    obtain rfl := List.mem_singleton.1 he
    simp
  | (p, l) :: es, h => by
    have hl : l.length = r := h (p, l) List.mem_cons_self
    unfold bump
    by_cases hp : p = q
    · rw [if_pos hp]
      refine ⟨?_, fun e he => ?_⟩
      · simp only [totE, List.map_cons, sumN, sumN_set_inc l k (by omega)]; omega
      · rcases List.mem_cons.1 he with rfl | he
        · simpa using hl
        · exact h e (List.mem_cons_of_mem _ he)
    · rw [if_neg hp]
      have ih := bump_tot (q := q) hk (es := es) (fun e he => h e (List.mem_cons_of_mem _ he))
      refine ⟨?_, fun e he => ?_⟩
      · have := ih.1
        simp only [totE, List.map_cons, sumN] at this ⊢
        omega
      · rcases List.mem_cons.1 he with rfl | he
        · exact hl
        · exact ih.2 e he
theorem entries_tot {r : Nat} (P : List (Nat × Nat)) (h : ∀ p ∈ P, p.2 < r) : totE (entries r P) = P.length := by
  have key : ∀ (P Q : List (Nat × Nat)), (∀ p ∈ Q, p.2 < r) → (totE (entries r P) = P.length ∧ ∀ e ∈ entries r P, e.2.length = r) → totE (entries r (P ++ Q)) = (P ++ Q).length ∧ ∀ e ∈ entries r (P ++ Q), e.2.length = r := by
    intro P Q
    induction Q generalizing P with
    | nil => intro _ h; rw [List.append_nil]; exact h
    | cons p Q ih =>
      intro hq h
      rw [show P ++ p :: Q = (P ++ [p]) ++ Q by simp]
      refine ih _ (fun x hx => hq x (List.mem_cons_of_mem _ hx)) ?_
      rw [entries_snoc]
      have := bump_tot (q := p.1) (hq p List.mem_cons_self) h.2
      exact ⟨by rw [this.1, h.1]; simp, this.2⟩
  have := key [] P h ⟨rfl, by simp [entries]⟩
  rw [List.nil_append] at this
  exact this.1
theorem sumN_add_const {α : Type} (g : α → Nat) (c : Nat) : ∀ l : List α, sumN (l.map fun x => g x + c) = sumN (l.map g) + l.length * c
  | [] => by simp [sumN]
  | x :: l => by
    simp only [List.map_cons, sumN, sumN_add_const g c l, List.length_cons, Nat.add_mul]; omega
theorem fam_le {cards : List Nat} {cs : List (List Nat)} {v ps : Nat} (hc : CardsOk cards) (hcs : ∀ c ∈ cs, CaseOk cards c) (hv : v < cards.length) (hm : cs.length ≤ 40) {i : Nat} (hi : i < 18) : -160 ≤ famF cards cs v ps i ∧ famF cards cs v ps i ≤ 160 := by
  have hpo := pairs_ok (ps := ps) hc hcs hv
  have hr := hc.each v hv
  have hlt := fun p hp => (hpo p hp).2
  have hel := entries_len hlt
  have hpl : (pairsN cards v ps cs).length = cs.length := by simp [pairsN]
  have hE := entries_ok _ hlt
  have htot := entries_tot _ hlt
  unfold famF
  rw [← entries_sum (fac_zero i hi) hpo]
  have := sumI_le (f := fun e => conF facF (cards.getD v 0) e.2 i) (g := fun e => sumN e.2 + (cards.getD v 0 - 1)) (entries (cards.getD v 0) (pairsN cards v ps cs)) (fun e he => by
    refine con_bd2 hi (by omega) ?_
    rw [hE.row e he]
    have := sum_row_le (pairsN cards v ps cs) e.1 hlt
    omega)
  rw [sumN_add_const] at this
  unfold totE at htot
  rw [htot] at this
  have h3 : (entries (cards.getD v 0) (pairsN cards v ps cs)).length * (cards.getD v 0 - 1) ≤ 40 * 3 := Nat.mul_le_mul (by omega) (by omega)
  omega

/-! ### the order of the cases -/
theorem rowL_perm {P Q : List (Nat × Nat)} (h : P.Perm Q) (r j : Nat) : rowL P r j = rowL Q r j := by
  unfold rowL
  exact List.map_congr_left fun k _ => h.count_eq _
theorem fam_perm {cards : List Nat} {cs ds : List (List Nat)} (h : cs.Perm ds) (v ps : Nat) : famF cards cs v ps = famF cards ds v ps := by
  have hp : (pairsN cards v ps cs).Perm (pairsN cards v ps ds) := h.map _
  funext i
  unfold famF famZ
  exact sumI_congr _ fun j _ => by rw [rowL_perm hp]

/-! ### one more case -/
theorem sumI_one {f g : Nat → Int} {q : Nat} : ∀ n, q < n → (∀ j, j ≠ q → f j = g j) → sumI ((List.range n).map f) = sumI ((List.range n).map g) + (f q - g q)
  | n + 1, h, he => by
    rw [List.range_succ, List.map_append, List.map_append, sumI_append, sumI_append]
    simp only [List.map_cons, List.map_nil, sumI]
    by_cases hq : q = n
    · subst hq
      have : sumI ((List.range q).map f) = sumI ((List.range q).map g) := sumI_congr _ fun j hj => he j (by have := List.mem_range.1 hj; omega)
      rw [this]; omega
    · rw [sumI_one n (by omega) he, he n (fun h => hq h.symm)]; omega
theorem sumI_set {f : Nat → Int} {x : Nat} : ∀ (l : List Nat) (k : Nat), k < l.length → sumI ((l.set k x).map f) = sumI (l.map f) + (f x - f (l.getD k 0))
  | [], _, h => by cases h
  | y :: l, 0, _ => by simp [sumI]; omega
  | y :: l, k + 1, h => by
    have := sumI_set (f := f) (x := x) l k (by simpa using h)
    simp only [List.set_cons_succ, List.map_cons, List.getD_cons_succ, sumI, this]; omega
/-- cases in the row q; with the value k -/
def inRow (P : List (Nat × Nat)) (q : Nat) : Nat := P.countP fun p => decide (p.1 = q)
theorem sum_row {r : Nat} (j : Nat) : ∀ (P : List (Nat × Nat)), (∀ p ∈ P, p.2 < r) → sumN (rowL P r j) = inRow P j := by
  have key : ∀ (P Q : List (Nat × Nat)), (∀ p ∈ Q, p.2 < r) → sumN (rowL P r j) = inRow P j → sumN (rowL (P ++ Q) r j) = inRow (P ++ Q) j := by
    intro P Q
    induction Q generalizing P with
    | nil => intro _ h; rw [List.append_nil]; exact h
    | cons p Q ih =>
      intro hq h
      rw [show P ++ p :: Q = (P ++ [p]) ++ Q by simp]
      refine ih _ (fun x hx => hq x (List.mem_cons_of_mem _ hx)) ?_
      obtain ⟨q, k⟩ := p
      have hk : k < r := hq _ List.mem_cons_self
      unfold inRow at h ⊢
      rw [List.countP_append, ← h]
      by_cases hqj : q = j
      · subst hqj
        rw [rowL_same hk, sumN_set_inc _ _ (by rw [rowL_length]; exact hk)]
        simp
      · rw [rowL_other hqj]
        simp [hqj]
  intro P h
  have := key [] P h (by rw [rowL_none (by simp), sumN_rep]; rfl)
  rwa [List.nil_append] at this
theorem inRow_le (P : List (Nat × Nat)) (q : Nat) : inRow P q ≤ P.length := List.countP_le_length
theorem cntJ_le {P : List (Nat × Nat)} (q k : Nat) : cntJ P q k ≤ inRow P q := by
  unfold cntJ inRow
  rw [List.count_eq_countP]
  refine List.countP_mono_left fun p _ h => ?_
  have := eq_of_beq h
  rw [this]; exact decide_eq_true rfl
theorem famZ_more {P : List (Nat × Nat)} {r size q k i : Nat} (hi : i < 18) (hP : ∀ p ∈ P, p.2 < r) (hq : q < size) (hk : k < r) (hr : r ≤ 4) (h : P.length ≤ 39) :
    famZ facF (P ++ [(q, k)]) r size i = famZ facF P r size i + (ofF (cntJ P q k + 1) 18 i - ofF (inRow P q + r) 18 i) := by
  unfold famZ
  rw [sumI_one (q := q) (g := fun j => conF facF r (rowL P r j) i) size hq (fun j hj => by rw [rowL_other (fun e => hj e.symm)])]
  congr 1
  rw [rowL_same hk]
  unfold conF
  have hlen := rowL_length P r q
  rw [sumI_set _ _ (by omega), sumN_set_inc _ _ (by omega), rowL_get hk, sum_row q P hP]
  have h1 := inRow_le P q
  have h2 := cntJ_le (P := P) q k
  have s1 := (fac_step (k := cntJ P q k) (by omega) hi).1
  have s2 := (fac_step (k := inRow P q + (r - 1)) (by omega) hi).1
  rw [show inRow P q + (r - 1) + 1 = inRow P q + r by omega] at s2
  rw [show inRow P q + 1 + (r - 1) = inRow P q + r by omega]
  omega
theorem rowN_inj {cards a b : List Nat} (hc : CardsOk cards) (ha : CaseOk cards a) (hb : CaseOk cards b) (ps : Nat) : ∀ n, n ≤ cards.length → (rowN cards ps a n = rowN cards ps b n ↔ ∀ k, k < n → ps / 2 ^ k % 2 = 1 → a.getD k 0 = b.getD k 0)
  | 0, _ => ⟨fun _ k h => by omega, fun _ => rfl⟩
  | n + 1, h => by
    have ih := rowN_inj hc ha hb ps n (by omega)
    have h1 := ha.lt n (by omega)
    have h2 := hb.lt n (by omega)
    unfold rowN
    by_cases hp : ps / 2 ^ n % 2 = 1
    · rw [if_pos hp, if_pos hp]
      generalize cards.getD n 0 = C at *
      generalize rowN cards ps a n = x at *
      generalize rowN cards ps b n = y at *
      constructor
      · intro e
        have e1 : x = y ∧ a.getD n 0 = b.getD n 0 := by
          rcases Nat.lt_trichotomy x y with hl | hl | hl
          · have : (x + 1) * C ≤ y * C := Nat.mul_le_mul_right _ hl
            rw [Nat.add_mul] at this; omega
          · subst hl; exact ⟨rfl, by omega⟩
          · have : (y + 1) * C ≤ x * C := Nat.mul_le_mul_right _ hl
            rw [Nat.add_mul] at this; omega
        intro k hk hpk
        by_cases hkn : k = n
        · subst hkn; exact e1.2
        · exact ih.1 e1.1 k (by omega) hpk
      · intro hh
        rw [ih.2 (fun k hk => hh k (by omega)), hh n (by omega) hp]
    · rw [if_neg hp, if_neg hp]
      exact ih.trans ⟨fun hh k hk hpk => by
        by_cases hkn : k = n
        · subst hkn; exact absurd hpk hp
        · exact hh k (by omega) hpk, fun hh k hk => hh k (by omega)⟩
/-- one more case -/
theorem fam_more {cards : List Nat} {cs : List (List Nat)} {c : List Nat} {v ps : Nat} (hc : CardsOk cards) (hcs : ∀ x ∈ cs, CaseOk cards x) (hcc : CaseOk cards c) (hv : v < cards.length) (hm : cs.length ≤ 39) {i : Nat} (hi : i < 18) :
    famF cards (cs ++ [c]) v ps i = famF cards cs v ps i + (ofF (cntJ (pairsN cards v ps cs) (rowN cards ps c cards.length) (c.getD v 0) + 1) 18 i - ofF (inRow (pairsN cards v ps cs) (rowN cards ps c cards.length) + cards.getD v 0) 18 i) := by
  have hpo := pairs_ok (ps := ps) hc hcs hv
  have hr := hc.each v hv
  have e : pairsN cards v ps (cs ++ [c]) = pairsN cards v ps cs ++ [(rowN cards ps c cards.length, c.getD v 0)] := by simp [pairsN]
  unfold famF
  rw [e]
  exact famZ_more hi (fun p hp => (hpo p hp).2) (rowN_lt hc hcc ps _ (Nat.le_refl _)) (hcc.lt v hv) hr.2 (by simpa [pairsN] using hm)
end Go.Proofs.YtglpoiaedkoecaaDoor.Am
