/- Chapter 28: how cases are counted, and what the counts add up to (no program in sight). -/
namespace Go.Proofs.YtglpoiaedkoecaaDoor.Am
set_option linter.unusedVariables false

def sumI : List Int → Int
  | [] => 0
  | x :: l => x + sumI l
def sumN : List Nat → Nat
  | [] => 0
  | x :: l => x + sumN l
theorem sumI_append (a b : List Int) : sumI (a ++ b) = sumI a + sumI b := by
  induction a with
  | nil => simp [sumI]
  | cons x a ih => simp only [List.cons_append, sumI, ih]; omega
theorem sumN_append (a b : List Nat) : sumN (a ++ b) = sumN a + sumN b := by
  induction a with
  | nil => simp [sumN]
  | cons x a ih => simp only [List.cons_append, sumN, ih]; omega
theorem sumN_cast (l : List Nat) : ((sumN l : Nat) : Int) = sumI (l.map fun (x : Nat) => (x : Int)) := by
  induction l with
  | nil => rfl
  | cons x l ih => simp only [sumN, sumI, List.map_cons, ← ih]; omega
theorem sumI_zero {α : Type} (f : α → Int) : ∀ l : List α, (∀ x ∈ l, f x = 0) → sumI (l.map f) = 0
  | [], _ => rfl
  | x :: l, h => by
    simp only [List.map_cons, sumI, h x List.mem_cons_self, sumI_zero f l (fun y hy => h y (List.mem_cons_of_mem _ hy))]; omega
theorem sumI_congr {α : Type} {f g : α → Int} : ∀ l : List α, (∀ x ∈ l, f x = g x) → sumI (l.map f) = sumI (l.map g)
  | [], _ => rfl
  | x :: l, h => by
    simp only [List.map_cons, sumI, h x List.mem_cons_self, sumI_congr l (fun y hy => h y (List.mem_cons_of_mem _ hy))]
theorem sumI_perm {a b : List Int} (h : a.Perm b) : sumI a = sumI b := by
  induction h with
  | nil => rfl
  | cons x _ ih => simp only [sumI, ih]
  | swap x y l => simp only [sumI]; omega
  | trans _ _ h1 h2 => exact h1.trans h2
theorem sumI_add {α : Type} (f g : α → Int) (l : List α) : sumI (l.map fun x => f x + g x) = sumI (l.map f) + sumI (l.map g) := by
  induction l with
  | nil => rfl
  | cons x l ih => simp only [List.map_cons, sumI, ih]; omega

/-- a sum over numbers below n, of which only those in ks count -/
theorem sum_range_keys {ks : List Nat} (f : Nat → Int) (n : Nat) (hn : ks.Nodup) (hk : ∀ k ∈ ks, k < n) (h0 : ∀ j, j < n → j ∉ ks → f j = 0) : sumI ((List.range n).map f) = sumI (ks.map f) := by
  have hp : ((List.range n).filter (fun j => decide (j ∈ ks))).Perm ks := by
    refine (List.perm_ext_iff_of_nodup (List.Nodup.sublist List.filter_sublist List.nodup_range) hn).2 fun a => ?_
    simp only [List.mem_filter, List.mem_range, decide_eq_true_eq]
    exact ⟨fun h => h.2, fun h => ⟨hk a h, h⟩⟩
  rw [← sumI_perm (hp.map f)]
  have : ∀ l : List Nat, (∀ j ∈ l, j ∉ ks → f j = 0) → sumI (l.map f) = sumI ((l.filter (fun j => decide (j ∈ ks))).map f) := by
    intro l
    induction l with
    | nil => intro _; rfl
    | cons x l ih =>
      intro h
      have h1 := ih (fun j hj => h j (List.mem_cons_of_mem _ hj))
      by_cases hx : x ∈ ks
      · rw [List.filter_cons_of_pos (by simpa using hx)]
        simp only [List.map_cons, sumI, h1]
      · rw [List.filter_cons_of_neg (by simpa using hx)]
        simp only [List.map_cons, sumI, h1, h x List.mem_cons_self hx]; omega
  exact this _ (fun j hj => h0 j (List.mem_range.1 hj))

/-! ### counting -/
/-- one more case of the row q with the value k -/
def bump (r q k : Nat) : List (Nat × List Nat) → List (Nat × List Nat)
  | [] => [(q, (List.replicate r 0).set k 1)]
  | (p, l) :: es => if p = q then (p, l.set k (l.getD k 0 + 1)) :: es else (p, l) :: bump r q k es
def entries (r : Nat) (P : List (Nat × Nat)) : List (Nat × List Nat) := P.foldl (fun es p => bump r p.1 p.2 es) []
def cntJ (P : List (Nat × Nat)) (j k : Nat) : Nat := P.count (j, k)
def rowL (P : List (Nat × Nat)) (r j : Nat) : List Nat := (List.range r).map (cntJ P j)
/-- what a row adds to the powers of the score -/
def conF (F : Nat → Nat → Int) (r : Nat) (l : List Nat) (i : Nat) : Int := sumI (l.map fun c => F c i) + F (r - 1) i - F (sumN l + (r - 1)) i
/-- the powers of the score of a family -/
def famZ (F : Nat → Nat → Int) (P : List (Nat × Nat)) (r size : Nat) (i : Nat) : Int := sumI ((List.range size).map fun j => conF F r (rowL P r j) i)

theorem entries_snoc (r : Nat) (P : List (Nat × Nat)) (p : Nat × Nat) : entries r (P ++ [p]) = bump r p.1 p.2 (entries r P) := by simp [entries, List.foldl_append]

structure EntOk (r : Nat) (P : List (Nat × Nat)) (es : List (Nat × List Nat)) : Prop where
  nodup : (es.map (·.1)).Nodup
  row : ∀ e ∈ es, e.2 = rowL P r e.1
  keys : ∀ q, q ∈ es.map (·.1) ↔ ∃ k, (q, k) ∈ P

theorem cntJ_snoc (P : List (Nat × Nat)) (q k j m : Nat) : cntJ (P ++ [(q, k)]) j m = cntJ P j m + if q = j ∧ k = m then 1 else 0 := by
  unfold cntJ
  rw [List.count_append, List.count_singleton]
  by_cases h : q = j ∧ k = m
  · rw [if_pos h]; simp [h.1, h.2]
  · rw [if_neg h]
    have : ((q, k) == (j, m)) = false := by
      rw [beq_eq_false_iff_ne]; intro e; cases e; exact h ⟨rfl, rfl⟩
    rw [this]; rfl
theorem rowL_other {P : List (Nat × Nat)} {r q k j : Nat} (h : q ≠ j) : rowL (P ++ [(q, k)]) r j = rowL P r j := by
  unfold rowL
  refine List.map_congr_left fun m _ => ?_
  rw [cntJ_snoc, if_neg (fun h' => h h'.1)]; omega
theorem rowL_get {P : List (Nat × Nat)} {r j k : Nat} (h : k < r) : (rowL P r j).getD k 0 = cntJ P j k := by
  unfold rowL
  rw [List.getD_eq_getElem?_getD, List.getElem?_map, List.getElem?_range h]; rfl
theorem rowL_length (P : List (Nat × Nat)) (r j : Nat) : (rowL P r j).length = r := by simp [rowL]
theorem rowL_same {P : List (Nat × Nat)} {r q k : Nat} (h : k < r) : rowL (P ++ [(q, k)]) r q = (rowL P r q).set k ((rowL P r q).getD k 0 + 1) := by
  rw [rowL_get h]
  apply List.ext_getElem
  · simp [rowL]
  · intro m h1 h2
    rw [rowL_length] at h1
    rw [List.getElem_set]
    simp only [rowL, List.getElem_map, List.getElem_range, cntJ_snoc]
    by_cases hm : k = m
    · subst hm; simp
    · simp [hm]
theorem rowL_none {P : List (Nat × Nat)} {r j : Nat} (h : ¬ ∃ k, (j, k) ∈ P) : rowL P r j = List.replicate r 0 := by
  unfold rowL
  rw [List.eq_replicate_iff]
  refine ⟨by simp, fun b hb => ?_⟩
  obtain ⟨k, _, rfl⟩ := List.mem_map.1 hb
  exact List.count_eq_zero.2 fun hm => h ⟨k, hm⟩

theorem bump_keys (r q k : Nat) : ∀ es : List (Nat × List Nat), (bump r q k es).map (·.1) = if q ∈ es.map (·.1) then es.map (·.1) else es.map (·.1) ++ [q]
  | [] => by simp [bump]
  | (p, l) :: es => by
    unfold bump
    by_cases hp : p = q
    · subst hp; simp
    · rw [if_neg hp]
      simp only [List.map_cons, bump_keys r q k es, List.mem_cons]
      by_cases hm : q ∈ es.map (·.1)
      · rw [if_pos hm, if_pos (.inr hm)]
      · rw [if_neg hm, if_neg (by rintro (h | h); exact hp h.symm; exact hm h)]; rfl
theorem bump_mem {r q k : Nat} : ∀ {es : List (Nat × List Nat)}, (es.map (·.1)).Nodup → ∀ e ∈ bump r q k es, (e.1 ≠ q ∧ e ∈ es) ∨ (e.1 = q ∧ ((∃ l, (q, l) ∈ es ∧ e.2 = l.set k (l.getD k 0 + 1)) ∨ (q ∉ es.map (·.1) ∧ e.2 = (List.replicate r 0).set k 1)))
  | [], _, e, he => by
    unfold bump at he
    obtain rfl := List.mem_singleton.1 he
    exact .inr ⟨rfl, .inr ⟨by simp, rfl⟩⟩
  | (p, l) :: es, hn, e, he => by
    unfold bump at he
    rw [List.map_cons, List.nodup_cons] at hn
    by_cases hp : p = q
    · subst hp
      rw [if_pos rfl] at he
      rcases List.mem_cons.1 he with rfl | he
      · exact .inr ⟨rfl, .inl ⟨l, List.mem_cons_self, rfl⟩⟩
      · refine .inl ⟨fun h => hn.1 (h ▸ List.mem_map.2 ⟨e, he, rfl⟩), List.mem_cons_of_mem _ he⟩
    · rw [if_neg hp] at he
      rcases List.mem_cons.1 he with rfl | he
      · exact .inl ⟨hp, List.mem_cons_self⟩
      · rcases bump_mem hn.2 e he with ⟨h1, h2⟩ | ⟨h1, ⟨l', h2, h3⟩ | ⟨h2, h3⟩⟩
        · exact .inl ⟨h1, List.mem_cons_of_mem _ h2⟩
        · exact .inr ⟨h1, .inl ⟨l', List.mem_cons_of_mem _ h2, h3⟩⟩
        · refine .inr ⟨h1, .inr ⟨?_, h3⟩⟩
          rw [List.map_cons, List.mem_cons]
          rintro (h | h)
          · exact hp h.symm
          · exact h2 h

theorem EntOk.bump {r : Nat} {P : List (Nat × Nat)} {es : List (Nat × List Nat)} (h : EntOk r P es) {q k : Nat} (hk : k < r) : EntOk r (P ++ [(q, k)]) (bump r q k es) := by
  have hk' := bump_keys r q k es
  refine ⟨?_, fun e he => ?_, fun a => ?_⟩
  · rw [hk']
    split
    · exact h.nodup
    · rename_i hm
      rw [List.nodup_append]
      refine ⟨h.nodup, by simp, fun a ha b hb => ?_⟩
      obtain rfl := List.mem_singleton.1 hb
      rintro rfl; exact hm ha
  · rcases bump_mem h.nodup e he with ⟨h1, h2⟩ | ⟨h1, ⟨l, h2, h3⟩ | ⟨h2, h3⟩⟩
    · rw [rowL_other (Ne.symm h1)]; exact h.row e h2
    · rw [h1, rowL_same hk, h3]
      have := h.row _ h2
      dsimp only at this
      rw [this]
    · rw [h1, rowL_same hk, h3, rowL_none (fun hx => h2 ((h.keys q).2 hx))]
      congr 1
      rw [List.getD_eq_getElem?_getD, List.getElem?_replicate]; simp [hk]
  · rw [hk']
    have := h.keys a
    split
    · rename_i hm
      rw [this]
      constructor
      · rintro ⟨m, hm⟩; exact ⟨m, List.mem_append_left _ hm⟩
      · rintro ⟨m, hm2⟩
        rcases List.mem_append.1 hm2 with h2 | h2
        · exact ⟨m, h2⟩
        · cases List.mem_singleton.1 h2; exact (h.keys _).1 hm
    · rw [List.mem_append, this]
      constructor
      · rintro (⟨m, hm⟩ | ha)
        · exact ⟨m, List.mem_append_left _ hm⟩
        · obtain rfl := List.mem_singleton.1 ha; exact ⟨k, List.mem_append_right _ (List.mem_singleton.2 rfl)⟩
      · rintro ⟨m, hm2⟩
        rcases List.mem_append.1 hm2 with h2 | h2
        · exact .inl ⟨m, h2⟩
        · cases List.mem_singleton.1 h2; exact .inr (List.mem_singleton.2 rfl)

theorem entries_ok {r : Nat} (P : List (Nat × Nat)) (h : ∀ p ∈ P, p.2 < r) : EntOk r P (entries r P) := by
  have key : ∀ (P Q : List (Nat × Nat)), (∀ p ∈ Q, p.2 < r) → EntOk r P (entries r P) → EntOk r (P ++ Q) (entries r (P ++ Q)) := by
    intro P Q
    induction Q generalizing P with
    | nil => intro _ h; rw [List.append_nil]; exact h
    | cons p Q ih =>
      intro hq h
      rw [show P ++ p :: Q = (P ++ [p]) ++ Q by simp]
      refine ih _ (fun x hx => hq x (List.mem_cons_of_mem _ hx)) ?_
      rw [entries_snoc]
      exact h.bump (hq p List.mem_cons_self)
  have := key [] P h ⟨by simp [entries], by simp [entries], by simp [entries]⟩
  rwa [List.nil_append] at this

theorem sumN_rep (r : Nat) : sumN (List.replicate r 0) = 0 := by
  induction r with
  | zero => rfl
  | succ r ih => rw [List.replicate_succ, sumN, ih]
theorem con_zero {F : Nat → Nat → Int} {r i : Nat} (h0 : F 0 i = 0) : conF F r (List.replicate r 0) i = 0 := by
  unfold conF
  rw [sumN_rep, sumI_zero _ _ (fun x hx => by rw [(List.mem_replicate.1 hx).2]; exact h0)]
  simp only [Nat.zero_add]; omega

/-- the entries of the map add up to the rows -/
theorem entries_sum {F : Nat → Nat → Int} {r size i : Nat} {P : List (Nat × Nat)} (h0 : F 0 i = 0) (h : ∀ p ∈ P, p.1 < size ∧ p.2 < r) : sumI ((entries r P).map fun e => conF F r e.2 i) = famZ F P r size i := by
  have hE := entries_ok P (fun p hp => (h p hp).2)
  unfold famZ
  rw [sum_range_keys (ks := (entries r P).map (·.1)) _ size hE.nodup ?_ ?_, List.map_map]
  · refine sumI_congr _ fun e he => ?_
    simp only [Function.comp]
    rw [hE.row e he]
  · intro k hk
    obtain ⟨m, hm⟩ := (hE.keys k).1 hk
    exact (h _ hm).1
  · intro j _ hj
    rw [rowL_none (fun hx => hj ((hE.keys j).2 hx))]
    exact con_zero h0

/-- every row counts at most all cases -/
theorem sum_row_le {r : Nat} (P : List (Nat × Nat)) (j : Nat) (h : ∀ p ∈ P, p.2 < r) : sumN (rowL P r j) ≤ P.length := by
  have key : ∀ (P Q : List (Nat × Nat)), (∀ p ∈ Q, p.2 < r) → sumN (rowL P r j) ≤ P.length → sumN (rowL (P ++ Q) r j) ≤ (P ++ Q).length := by
    intro P Q
    induction Q generalizing P with
    | nil => intro _ h; rw [List.append_nil]; exact h
    | cons p Q ih =>
      intro hq h
      rw [show P ++ p :: Q = (P ++ [p]) ++ Q by simp]
      refine ih _ (fun x hx => hq x (List.mem_cons_of_mem _ hx)) ?_
      obtain ⟨q, k⟩ := p
      have hk : k < r := hq _ List.mem_cons_self
      by_cases hqj : q = j
      · subst hqj
        rw [rowL_same hk]
        have hs : ∀ (l : List Nat) (k : Nat), k < l.length → sumN (l.set k (l.getD k 0 + 1)) = sumN l + 1 := by
          intro l
          induction l with
          | nil => intro k h; cases h
          | cons x l ih =>
            intro k h
            cases k with
            | zero => simp [sumN]; omega
            | succ k =>
              have := ih k (by simpa using h)
              simp only [List.set_cons_succ, List.getD_cons_succ, sumN, this]; omega
        rw [hs _ _ (by rw [rowL_length]; exact hk)]
        simp; omega
      · rw [rowL_other hqj]; simp; omega
  have := key [] P h (by rw [rowL_none (by simp), sumN_rep]; exact Nat.zero_le _)
  rwa [List.nil_append] at this

theorem sumN_mem {l : List Nat} {x : Nat} (h : x ∈ l) : x ≤ sumN l := by
  induction l with
  | nil => cases h
  | cons y l ih =>
    simp only [sumN]
    rcases List.mem_cons.1 h with rfl | h
    · omega
    · have := ih h; omega

end Go.Proofs.YtglpoiaedkoecaaDoor.Am
