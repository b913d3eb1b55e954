/- Graphs, plain: passes that place what has no unplaced parent, and closures: both find just the graphs without a cycle. -/
namespace Go.Proofs.YtglpoiaedkoecaaDoor.Am.GG
set_option linter.unusedVariables false

/-- g v p: p is a parent of v -/
abbrev Rel := Nat → Nat → Bool

/-! ### placing -/
/-- one pass: v after v, each is placed if all its parents are -/
def place1 (n : Nat) (g : Rel) (out : Nat → Bool) (P : Nat → Bool) (v : Nat) : Nat → Bool := fun u => P u || (decide (u = v) && (!out v && (List.range n).all fun p => !g v p || P p))
def pass (n : Nat) (g : Rel) (out : Nat → Bool) (P : Nat → Bool) : Nat → (Nat → Bool)
  | 0 => P
  | v + 1 => place1 n g out (pass n g out P v) v
def passes (n : Nat) (g : Rel) (out : Nat → Bool) : Nat → (Nat → Bool)
  | 0 => fun _ => false
  | t + 1 => pass n g out (passes n g out t) n
/-- all are placed -/
def placedAll (n : Nat) (g : Rel) (out : Nat → Bool) : Bool := (List.range n).all (passes n g out n)

/-! ### closures -/
def clo1 (g : Rel) (A : Nat → Bool) (j : Nat) : Nat → Bool := fun u => A u || (A j && g j u)
def cloR (g : Rel) (A : Nat → Bool) : Nat → (Nat → Bool)
  | 0 => A
  | j + 1 => clo1 g (cloR g A j) j
def clo (n : Nat) (g : Rel) (i : Nat) : Nat → (Nat → Bool)
  | 0 => g i
  | k + 1 => cloR g (clo n g i k) n
def acyclic (n : Nat) (g : Rel) : Bool := (List.range n).all fun i => !clo n g i n i

theorem all_range {n : Nat} {p : Nat → Bool} : (List.range n).all p = true ↔ ∀ j, j < n → p j = true := by
  rw [List.all_eq_true]
  exact ⟨fun h j hj => h j (List.mem_range.2 hj), fun h j hj => h j (List.mem_range.1 hj)⟩

/-! #### what is placed has a rank -/
structure Ranked (n : Nat) (g : Rel) (out : Nat → Bool) (P : Nat → Bool) (r : Nat → Nat) (m : Nat) : Prop where
  lt : ∀ u, P u = true → r u < m
  dn : ∀ u, P u = true → out u = false ∧ ∀ p, p < n → g u p = true → P p = true ∧ r p < r u
theorem place1_ranked {n : Nat} {g : Rel} {out : Nat → Bool} {P : Nat → Bool} {r : Nat → Nat} {m v : Nat} (h : Ranked n g out P r m) : ∃ r', Ranked n g out (place1 n g out P v) r' (m + 1) := by
  by_cases hv : P v = true
  · refine ⟨r, fun u hu => ?_, fun u hu => ?_⟩
    · have : P u = true := by
        unfold place1 at hu
        simp only [Bool.or_eq_true, Bool.and_eq_true, decide_eq_true_eq] at hu
        rcases hu with hu | ⟨rfl, _⟩
        · exact hu
        · exact hv
      have := h.lt u this; omega
    · have hPu : P u = true := by
        unfold place1 at hu
        simp only [Bool.or_eq_true, Bool.and_eq_true, decide_eq_true_eq] at hu
        rcases hu with hu | ⟨rfl, _⟩
        · exact hu
        · exact hv
      obtain ⟨a, b⟩ := h.dn u hPu
      refine ⟨a, fun p hp hg => ?_⟩
      obtain ⟨c, d⟩ := b p hp hg
      exact ⟨by unfold place1; rw [c]; rfl, d⟩
  · refine ⟨fun u => if u = v then m else r u, fun u hu => ?_, fun u hu => ?_⟩
    · split
      · omega
      · rename_i hne
        unfold place1 at hu
        simp only [Bool.or_eq_true, Bool.and_eq_true, decide_eq_true_eq] at hu
        have := h.lt u (hu.resolve_right (fun h' => hne h'.1)); omega
    · unfold place1 at hu
      simp only [Bool.or_eq_true, Bool.and_eq_true, decide_eq_true_eq] at hu
      by_cases hne : u = v
      · subst hne
        rcases hu with hu | ⟨_, ho, ha⟩
        · exact absurd hu hv
        · refine ⟨by simpa using ho, fun p hp hg => ?_⟩
          have := all_range.1 ha p hp
          rw [hg] at this
          have hpp : P p = true := by simpa using this
          refine ⟨by unfold place1; rw [hpp]; rfl, ?_⟩
          rw [if_neg (fun e => hv (by rw [← e]; exact hpp)), if_pos rfl]
          exact h.lt p hpp
      · have hPu := hu.resolve_right (fun h' => hne h'.1)
        obtain ⟨a, b⟩ := h.dn u hPu
        refine ⟨a, fun p hp hg => ?_⟩
        obtain ⟨c, d⟩ := b p hp hg
        refine ⟨by unfold place1; rw [c]; rfl, ?_⟩
        rw [if_neg (fun e => hv (by rw [← e]; exact c)), if_neg hne]; exact d
theorem pass_ranked {n : Nat} {g : Rel} {out : Nat → Bool} {P : Nat → Bool} : ∀ (v : Nat), (∃ r m, Ranked n g out P r m) → ∃ r m, Ranked n g out (pass n g out P v) r m
  | 0, h => h
  | v + 1, h => by
    obtain ⟨r, m, h1⟩ := pass_ranked v h
    obtain ⟨r', h2⟩ := place1_ranked (v := v) h1
    exact ⟨r', m + 1, h2⟩
theorem passes_ranked {n : Nat} {g : Rel} {out : Nat → Bool} : ∀ t, ∃ r m, Ranked n g out (passes n g out t) r m
  | 0 => ⟨fun _ => 0, 0, ⟨fun _ h => (by cases h), fun _ h => (by cases h)⟩⟩
  | t + 1 => pass_ranked n (passes_ranked t)

/-! #### closures stay below a rank -/
theorem cloR_below {n : Nat} {g : Rel} {r : Nat → Nat} (hr : ∀ u, u < n → ∀ p, g u p = true → p < n ∧ r p < r u) {A : Nat → Bool} {b : Nat} (hA : ∀ u, A u = true → u < n ∧ r u < b) : ∀ j, j ≤ n → ∀ u, cloR g A j u = true → u < n ∧ r u < b
  | 0, _, u, h => hA u h
  | j + 1, hj, u, h => by
    unfold cloR clo1 at h
    simp only [Bool.or_eq_true, Bool.and_eq_true] at h
    rcases h with h | ⟨h1, h2⟩
    · exact cloR_below hr hA j (by omega) u h
    · have h3 := cloR_below hr hA j (by omega) j h1
      have h4 := hr j h3.1 u h2
      exact ⟨h4.1, by omega⟩
theorem clo_below {n : Nat} {g : Rel} {r : Nat → Nat} (hr : ∀ u, u < n → ∀ p, g u p = true → p < n ∧ r p < r u) {i : Nat} (hi : i < n) : ∀ k u, clo n g i k u = true → u < n ∧ r u < r i
  | 0, u, h => hr i hi u h
  | k + 1, u, h => cloR_below hr (clo_below hr hi k) n (Nat.le_refl _) u h

/-- all placed: no cycle -/
theorem placed_acyclic {n : Nat} {g : Rel} {out : Nat → Bool} (hin : ∀ u, u < n → out u = false → ∀ p, g u p = true → p < n) (h : placedAll n g out = true) : acyclic n g = true ∧ ∀ u, u < n → out u = false := by
  obtain ⟨r, m, hR⟩ := passes_ranked (n := n) (g := g) (out := out) n
  have hall := all_range.1 h
  have ho : ∀ u, u < n → out u = false := fun u hu => (hR.dn u (hall u hu)).1
  refine ⟨all_range.2 fun i hi => ?_, ho⟩
  have hr : ∀ u, u < n → ∀ p, g u p = true → p < n ∧ r p < r u := fun u hu p hp => by
    have hpn := hin u hu (ho u hu) p hp
    exact ⟨hpn, ((hR.dn u (hall u hu)).2 p hpn hp).2⟩
  cases hc : clo n g i n i with
  | false => rfl
  | true => have := (clo_below hr hi n i hc).2; omega

/-! #### what is not placed lies on a cycle -/
theorem pass_mono {n : Nat} {g : Rel} {out : Nat → Bool} {P : Nat → Bool} {u : Nat} (h : P u = true) : ∀ v, pass n g out P v u = true
  | 0 => h
  | v + 1 => by
    unfold pass place1
    rw [pass_mono h v]; rfl
/-- a pass that changes nothing: whatever is not placed has a parent that is not -/
theorem pass_fix {n : Nat} {g : Rel} {out : Nat → Bool} {P : Nat → Bool} (h : ∀ u, u < n → pass n g out P n u = true → P u = true) (ho : ∀ u, u < n → out u = false) : ∀ u, u < n → P u = false → ∃ p, p < n ∧ g u p = true ∧ P p = false := by
  have hsame : ∀ v, v ≤ n → ∀ u, pass n g out P v u = true → P u = true := by
    intro v hv u hu
    have hn : ∀ k, pass n g out P (v + k) u = true := by
      intro k
      induction k with
      | zero => exact hu
      | succ k ih => rw [← Nat.add_assoc]; unfold pass place1; rw [ih]; rfl
    by_cases hun : u < n
    · have := hn (n - v)
      rw [show v + (n - v) = n by omega] at this
      exact h u hun this
    · have key : ∀ k, k ≤ n → pass n g out P k u = true → P u = true := by
        intro k
        induction k with
        | zero => intro _ h; exact h
        | succ k ih =>
          intro hk h'
          unfold pass place1 at h'
          simp only [Bool.or_eq_true, Bool.and_eq_true, decide_eq_true_eq] at h'
          rcases h' with h' | ⟨h1, _⟩
          · exact ih (by omega) h'
          · omega
      exact key v hv hu
  intro u hu hP
  have h1 : pass n g out P (u + 1) u = false := by
    cases hc : pass n g out P (u + 1) u with
    | false => rfl
    | true => rw [hsame (u + 1) (by omega) u hc] at hP; cases hP
  unfold pass place1 at h1
  simp only [Bool.or_eq_false_iff, decide_true, Bool.true_and] at h1
  have h2 := h1.2
  rw [ho u hu] at h2
  simp only [Bool.not_false, Bool.true_and] at h2
  have h3 : ∃ p, p < n ∧ (!g u p || pass n g out P u p) = false := by
    apply Classical.byContradiction
    intro hne
    have : (List.range n).all (fun p => !g u p || pass n g out P u p) = true := all_range.2 fun p hp => by
      cases hc : (!g u p || pass n g out P u p) with
      | true => rfl
      | false => exact absurd ⟨p, hp, hc⟩ hne
    rw [this] at h2; cases h2
  obtain ⟨p, hp, h4⟩ := h3
  simp only [Bool.or_eq_false_iff, Bool.not_eq_false'] at h4
  refine ⟨p, hp, h4.1, ?_⟩
  cases hc : P p with
  | false => rfl
  | true => rw [pass_mono hc u] at h4; cases h4.2

/-- how many of the first n -/
def cntB (P : Nat → Bool) : Nat → Nat
  | 0 => 0
  | n + 1 => cntB P n + if P n then 1 else 0
theorem cntB_le (P : Nat → Bool) : ∀ n, cntB P n ≤ n
  | 0 => Nat.le_refl _
  | n + 1 => by have := cntB_le P n; unfold cntB; split <;> omega
theorem cntB_mono {P Q : Nat → Bool} (h : ∀ u, P u = true → Q u = true) : ∀ n, cntB P n ≤ cntB Q n
  | 0 => Nat.le_refl _
  | n + 1 => by
    have h1 := cntB_mono h n
    unfold cntB
    by_cases hp : P n = true
    · rw [if_pos hp, if_pos (h n hp)]; omega
    · rw [if_neg hp]; omega
theorem cntB_lt {P Q : Nat → Bool} (h : ∀ u, P u = true → Q u = true) : ∀ n u, u < n → P u = false → Q u = true → cntB P n < cntB Q n
  | n + 1, u, hu, h1, h2 => by
    have hm := cntB_mono h n
    unfold cntB
    by_cases he : u = n
    · subst he
      rw [if_pos h2, h1, if_neg (by simp)]; omega
    · have := cntB_lt h n u (by omega) h1 h2
      by_cases hp : P n = true
      · rw [if_pos hp, if_pos (h n hp)]; omega
      · rw [if_neg hp]; omega
theorem cntB_full {P : Nat → Bool} : ∀ n, cntB P n = n → ∀ u, u < n → P u = true
  | n + 1, h, u, hu => by
    have h1 := cntB_le P n
    unfold cntB at h
    by_cases hp : P n = true
    · rw [if_pos hp] at h
      by_cases he : u = n
      · subst he; exact hp
      · exact cntB_full n (by omega) u (by omega)
    · rw [if_neg hp] at h; omega
/-- if not all are placed, some pass changed nothing -/
theorem some_fix {n : Nat} {g : Rel} {out : Nat → Bool} (h : ¬ ∀ u, u < n → passes n g out n u = true) : ∃ t, (∀ u, u < n → pass n g out (passes n g out t) n u = true → passes n g out t u = true) ∧ ∃ u, u < n ∧ passes n g out t u = false := by
  apply Classical.byContradiction
  intro hne
  have hstep : ∀ t, t ≤ n → t ≤ cntB (passes n g out t) n ∨ ∀ u, u < n → passes n g out t u = true := by
    intro t
    induction t with
    | zero => intro _; exact .inl (Nat.zero_le _)
    | succ t ih =>
      intro ht
      have hm : ∀ u, passes n g out t u = true → passes n g out (t + 1) u = true := fun u hu => pass_mono hu n
      rcases ih (by omega) with h1 | h1
      · by_cases hall : ∀ u, u < n → passes n g out t u = true
        · exact .inr fun u hu => hm u (hall u hu)
        · refine .inl ?_
          have h2 : ∃ u, u < n ∧ passes n g out t u = false := by
            apply Classical.byContradiction
            intro h3
            exact hall fun u hu => by
              cases hc : passes n g out t u with
              | true => rfl
              | false => exact absurd ⟨u, hu, hc⟩ h3
          have h4 : ∃ u, u < n ∧ pass n g out (passes n g out t) n u = true ∧ passes n g out t u = false := by
            apply Classical.byContradiction
            intro h5
            refine hne ⟨t, fun u hu hp => ?_, h2⟩
            cases hc : passes n g out t u with
            | true => rfl
            | false => exact absurd ⟨u, hu, hp, hc⟩ h5
          obtain ⟨u, hu, h6, h7⟩ := h4
          have := cntB_lt hm n u hu h7 h6
          omega
      · exact .inr fun u hu => hm u (h1 u hu)
  rcases hstep n (Nat.le_refl _) with h1 | h1
  · exact h (cntB_full n (by have := cntB_le (passes n g out n) n; omega))
  · exact h h1

/-! #### a walk that never ends meets itself -/
theorem cloR_mono {g : Rel} {A : Nat → Bool} {u : Nat} (h : A u = true) : ∀ j, cloR g A j u = true
  | 0 => h
  | j + 1 => by unfold cloR clo1; rw [cloR_mono h j]; rfl
theorem cloR_step {n : Nat} {g : Rel} {A : Nat → Bool} {j u : Nat} (hj : j < n) (h : A j = true) (hg : g j u = true) : cloR g A n u = true := by
  have : ∀ k, j < k → cloR g A k u = true := by
    intro k
    induction k with
    | zero => intro h; omega
    | succ k ih =>
      intro hk
      unfold cloR clo1
      by_cases he : j = k
      · subst he
        rw [cloR_mono h j, hg]; simp
      · rw [ih (by omega)]; rfl
  exact this n hj
theorem clo_mono {n : Nat} {g : Rel} {i k u : Nat} (h : clo n g i k u = true) : clo n g i (k + 1) u = true := cloR_mono h n
theorem clo_le {n : Nat} {g : Rel} {i u : Nat} : ∀ k m, k ≤ m → clo n g i k u = true → clo n g i m u = true := by
  intro k m h hc
  induction m with
  | zero => rw [show k = 0 by omega] at hc; exact hc
  | succ m ih =>
    by_cases he : k = m + 1
    · rw [← he]; exact hc
    · exact clo_mono (ih (by omega))
def walk (f : Nat → Nat) (u : Nat) : Nat → Nat
  | 0 => u
  | k + 1 => f (walk f u k)
theorem walk_clo {n : Nat} {g : Rel} {f : Nat → Nat} {u : Nat} (hw : ∀ k, walk f u k < n) (hg : ∀ k, g (walk f u k) (walk f u (k + 1)) = true) (a : Nat) : ∀ d, clo n g (walk f u a) d (walk f u (a + d + 1)) = true
  | 0 => hg a
  | d + 1 => by
    have h1 := walk_clo hw hg a d
    have h2 := hg (a + d + 1)
    exact cloR_step (hw _) h1 h2
theorem pigeon {n : Nat} (f : Nat → Nat) (h : ∀ k, f k < n) : ∃ a d, f a = f (a + d + 1) ∧ a + d + 1 ≤ n := by
  apply Classical.byContradiction
  intro hne
  have hinj : ∀ i j, i < j → j ≤ n → f i ≠ f j := fun i j hij hj e => hne ⟨i, j - i - 1, by rw [show i + (j - i - 1) + 1 = j by omega]; exact e, by omega⟩
  have key : ∀ m, m ≤ n + 1 → cntB (fun x => (List.range m).any fun k => f k == x) n = m := by
    intro m
    induction m with
    | zero =>
      intro _
      have : ∀ n, cntB (fun x => (List.range 0).any fun k => f k == x) n = 0 := by
        intro n
        induction n with
        | zero => rfl
        | succ n ih => unfold cntB; rw [ih]; rfl
      exact this n
    | succ m ih =>
      intro hm
      have h1 := ih (by omega)
      have hadd : ∀ (P : Nat → Bool) (y : Nat), P y = false → ∀ n, cntB (fun x => P x || y == x) n = cntB P n + if y < n then 1 else 0 := by
        intro P y hy n
        induction n with
        | zero => simp [cntB]
        | succ n ih =>
          unfold cntB
          rw [ih]
          by_cases hyn : y = n
          · subst hyn
            simp [hy]
          · have : (y == n) = false := by simpa using hyn
            rw [this, Bool.or_false]
            by_cases hlt : y < n
            · rw [if_pos hlt, if_pos (show y < n + 1 by omega)]; omega
            · rw [if_neg hlt, if_neg (show ¬ y < n + 1 by omega)]; omega
      have e : (fun x => (List.range (m + 1)).any fun k => f k == x) = fun x => ((List.range m).any fun k => f k == x) || f m == x := by
        funext x
        rw [List.range_succ, List.any_append]; simp
      rw [e, hadd _ (f m) ?_ n, h1, if_pos (h m)]
      rw [List.any_eq_false]
      intro k hk
      have := hinj k m (List.mem_range.1 hk) (by omega)
      simpa using this
  have h1 := key (n + 1) (Nat.le_refl _)
  have h2 := cntB_le (fun x => (List.range (n + 1)).any fun k => f k == x) n
  omega
/-- not all placed, and no parent outside: a cycle -/
theorem unplaced_cycle {n : Nat} {g : Rel} {out : Nat → Bool} (ho : ∀ u, u < n → out u = false) (h : placedAll n g out = false) : acyclic n g = false := by
  have h1 : ¬ ∀ u, u < n → passes n g out n u = true := fun h' => by rw [show placedAll n g out = true from all_range.2 h'] at h; cases h
  obtain ⟨t, hfix, u0, hu0, hP0⟩ := some_fix h1
  have hp := pass_fix hfix ho
  generalize passes n g out t = P at *
  have : ∀ u, ∃ p, u < n → P u = false → p < n ∧ g u p = true ∧ P p = false := fun u => by
    by_cases hu : u < n ∧ P u = false
    · obtain ⟨p, hp⟩ := hp u hu.1 hu.2
      exact ⟨p, fun _ _ => hp⟩
    · exact ⟨0, fun a b => absurd ⟨a, b⟩ hu⟩
  obtain ⟨f, hf⟩ := Classical.axiomOfChoice this
  have hw : ∀ k, walk f u0 k < n ∧ P (walk f u0 k) = false := by
    intro k
    induction k with
    | zero => exact ⟨hu0, hP0⟩
    | succ k ih => have := hf _ ih.1 ih.2; exact ⟨this.1, this.2.2⟩
  have hg : ∀ k, g (walk f u0 k) (walk f u0 (k + 1)) = true := fun k => (hf _ (hw k).1 (hw k).2).2.1
  obtain ⟨a, d, e, hd⟩ := pigeon (walk f u0) (fun k => (hw k).1)
  have hc := walk_clo (fun k => (hw k).1) hg a d
  rw [← e] at hc
  have hc2 := clo_le d n (by omega) hc
  cases hac : acyclic n g with
  | false => rfl
  | true =>
    have := all_range.1 hac _ (hw a).1
    rw [hc2] at this; cases this

theorem graph_same {n : Nat} {g : Rel} {out : Nat → Bool} (hin : ∀ u, u < n → out u = false → ∀ p, g u p = true → p < n) : placedAll n g out = ((List.range n).all (fun u => !out u) && acyclic n g) := by
  cases h : placedAll n g out with
  | true =>
    obtain ⟨h1, h2⟩ := placed_acyclic hin h
    rw [h1, show (List.range n).all (fun u => !out u) = true from all_range.2 fun u hu => by rw [h2 u hu]; rfl]; rfl
  | false =>
    cases ho : (List.range n).all (fun u => !out u) with
    | false => rfl
    | true =>
      have := all_range.1 ho
      rw [unplaced_cycle (fun u hu => by have := this u hu; simpa using this) h]; rfl
end Go.Proofs.YtglpoiaedkoecaaDoor.Am.GG
