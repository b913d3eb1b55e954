/- Package index: the contracts proved by hand, as answers for the machine. -/
import Derived.Test.YtmnaidemihcfaaaV0
import Derived.Test.YtmnaidemihcfaaaMi
namespace Go.Proofs.Ytmnaidemihcfaaa.Am
open Go.RowKit

noncomputable abbrev Pg : Program := Try.prog

theorem ints_cells {s : Sig} {w : World} : ∀ {l : List Int} {b off : Nat}, RC s w (ints l) b off → ∀ (j : Nat) (h : j < l.length), w.cell? ⟨b, off + j, none⟩ = some (.int .i64 l[j]) ∧ s.fz b
  | [], _, _, _, _, h => absurd h (by simp)
  | x :: l, b, off, ⟨⟨hb, u, hu, hx⟩, _⟩, 0, _ => ⟨hu.trans (congrArg some hx), hb⟩
  | x :: l, b, off, ⟨_, hl⟩, j + 1, h => by
    have := ints_cells (l := l) hl j (by simpa using h)
    rw [show off + (j + 1) = off + 1 + j by omega]
    exact this

theorem cells_ints {s : Sig} {w : World} {b : Nat} (hb : s.fz b) : ∀ {l : List Int} {off : Nat}, (∀ (j : Nat) (h : j < l.length), w.cell? ⟨b, off + j, none⟩ = some (.int .i64 l[j])) → RC s w (ints l) b off
  | [], _, _ => trivial
  | x :: l, off, h => ⟨⟨hb, _, h 0 (by simp), rfl⟩, cells_ints hb fun j hj => by
    have := h (j + 1) (by simpa using hj)
    rw [show off + 1 + j = off + (j + 1) by omega]
    exact this⟩

/-- a slice of numbers that nobody writes -/
theorem sl_val {fz : Nat → Prop} {w : World} {l : List Int} {v : Value} (hf : ∀ b, fz b → b < w.heap.size) (h : RV (sg fz) w (sl l) v) : ∃ A c, v = .slice A l.length c ∧ Ints w w.heap.size A l := by
  obtain ⟨a, cap, rfl, _, hl⟩ := h
  refine ⟨a, cap, rfl, fun j hj => ?_⟩
  obtain ⟨b, off, rfl, hc⟩ := hl (by omega)
  obtain ⟨h1, h2⟩ := ints_cells hc j hj
  exact ⟨b, off, rfl, hf b h2, h1⟩

theorem FnOk.of_calls {gl : T (List V)} {f : Nat} {ars : List V} {v : V} (henter : ∀ (vals : Array Value) (w : World), (callFunc f vals).run Pg w = .ok (.enter f vals) w)
    (h : ∀ (fz : Nat → Prop) (w : World) (vals : Array Value), RL (sg fz) w ars vals.toList → (∀ b, fz b → b < w.heap.size) → Calls Pg f vals w fun e w' => ∃ u, e = .returned u ∧ Below w.heap.size w w' ∧ ∃ fz' : Nat → Prop, (∀ b, fz b → fz' b) ∧ (∀ b, fz' b → fz b ∨ w.heap.size ≤ b) ∧ (∀ b, fz' b → b < w'.heap.size) ∧ RV (sg fz') w' v u) : FnOk Pg gl f ars v := by
  refine ⟨fun s w fv vals hc hargs hH hgl hn => ?_, Log.refl _ _ _⟩
  obtain ⟨vs, rfl, hcaps⟩ := hc
  have hvs : vs = #[] := by
    have : vs.toList = [] := hcaps
    rw [← Array.toArray_toList (xs := vs), this]
  subst hvs
  have hno : ∀ i, ¬ s.dom i := fun i => hn i (Nat.zero_le _)
  have hrun : ((do let d ← Deferred.ofValue (.func (.func f) #[] #[]) vals; invoke d.target d.args) : Sem Next).run Pg w = .ok (.enter f vals) w := by
    have := henter vals w
    simp [Deferred.ofValue, invoke, this]
  refine ⟨_, hrun, ?_, fun _ => ⟨_, _, rfl⟩⟩
  refine callsIn_wide.2 ((h s.fz w vals (RL.mono' (s' := sg s.fz) ⟨fun h hd => absurd hd (hno h), fun h hd => absurd hd (hno h), fun h hd => absurd hd (hno h), fun _ h => h⟩ (fun _ _ => rfl) _ _ hargs) (fun b hb => hH.old b (.inl hb))).mono fun e w' he => ?_)
  obtain ⟨u, rfl, hb, fz', h1, h2, h3, h4⟩ := he
  refine ⟨u, { s with fz := fz' }, rfl, RV.mono' (s := sg fz') (s' := { s with fz := fz' }) ⟨fun _ h => h.elim, fun _ h => h.elim, fun _ h => h.elim, fun _ h => h⟩ (fun _ _ => rfl) _ _ h4, ⟨fun _ _ h => by simp at h, fun _ _ _ _ h => by simp at h, fun b hb' => ?_⟩, ⟨⟨⟨fun _ _ => rfl, fun _ _ => rfl, fun _ h => h, h1⟩, fun _ h => h⟩, h2, fun b hb' => hb.block b (hH.old b hb'), Mod.of_below hb, fun i hi hno => absurd hi hno⟩, fun i => dom_same s 0 i, Nat.le_refl _⟩
  rcases hb' with hb' | hb'
  · exact h3 b hb'
  · exact Nat.lt_of_lt_of_le (hH.old b (.inr hb')) hb.size

theorem enter_of {f : Nat} {fi : FI} (h : codeOf Pg f = some fi) (vals : Array Value) (w : World) : (callFunc f vals).run Pg w = .ok (.enter f vals) w := by
  obtain ⟨_, _, _, _, _, h5⟩ := code_ok plain h
  exact h5 vals w
theorem code_is {f : Nat} (h : (codeOf Pg f).isSome = true) : ∃ fi, codeOf Pg f = some fi := Option.isSome_iff_exists.1 h
theorem enters (f : Nat) (h : (codeOf Pg f).isSome = true) (vals : Array Value) (w : World) : (callFunc f vals).run Pg w = .ok (.enter f vals) w := let ⟨_, hfi⟩ := code_is h; enter_of hfi vals w

/-- a result without slices -/
theorem gnd_res {fz : Nat → Prop} {w w' : World} {v : V} {u : Value} (hf : ∀ b, fz b → b < w.heap.size) (hb : Below w.heap.size w w') (hv : ∀ s w, RV s w v u) : ∃ u', (Ending.returned u) = .returned u' ∧ Below w.heap.size w w' ∧ ∃ fz' : Nat → Prop, (∀ b, fz b → fz' b) ∧ (∀ b, fz' b → fz b ∨ w.heap.size ≤ b) ∧ (∀ b, fz' b → b < w'.heap.size) ∧ RV (sg fz') w' v u' :=
  ⟨u, rfl, hb, fz, fun _ h => h, fun _ h => .inl h, fun b h => Nat.lt_of_lt_of_le (hf b h) hb.size, hv _ _⟩

/-- two results: numbers -/
abbrev numA (p : Int × Int) : V := .tup [i6 p.1, i6 p.2]
theorem numA_rv (p : Int × Int) (s : Sig) (w : World) : RV s w (numA p) (numV p) := ⟨_, rfl, _, _, rfl, rfl, _, _, rfl, rfl, rfl⟩

theorem RL1 {s : Sig} {w : World} {x : V} {vals : Array Value} (h : RL s w [x] vals.toList) : ∃ v, vals = #[v] ∧ RV s w x v := by
  obtain ⟨v, r, e, hv, rfl⟩ := h
  exact ⟨v, by rw [← Array.toArray_toList (xs := vals), e], hv⟩
theorem RL2 {s : Sig} {w : World} {x y : V} {vals : Array Value} (h : RL s w [x, y] vals.toList) : ∃ v u, vals = #[v, u] ∧ RV s w x v ∧ RV s w y u := by
  obtain ⟨v, r, e, hv, u, r2, rfl, hu, rfl⟩ := h
  exact ⟨v, u, by rw [← Array.toArray_toList (xs := vals), e], hv, hu⟩
theorem RL3 {s : Sig} {w : World} {x y z : V} {vals : Array Value} (h : RL s w [x, y, z] vals.toList) : ∃ v u t, vals = #[v, u, t] ∧ RV s w x v ∧ RV s w y u ∧ RV s w z t := by
  obtain ⟨v, r, e, hv, u, r2, rfl, hu, t, r3, rfl, ht, rfl⟩ := h
  exact ⟨v, u, t, by rw [← Array.toArray_toList (xs := vals), e], hv, hu, ht⟩

theorem check_ok {gl : T (List V)} (L : List Int) : FnOk Pg gl 42 [sl L] (i6 (errOf (count L))) := by
  refine FnOk.of_calls (enters _ (by kernel_rfl)) fun fz w vals hv hf => ?_
  obtain ⟨v, rfl, h1⟩ := RL1 hv
  obtain ⟨A, c, rfl, hi⟩ := sl_val hf h1
  refine (Check_any A L c w _ hi).mono ?_
  rintro e w' ⟨rfl, rfl⟩
  exact gnd_res hf (Below.refl _ _) (fun _ _ => rfl)
theorem size_ok {gl : T (List V)} (L : List Int) : FnOk Pg gl 38 [sl L] (numA (sizeG L)) := by
  refine FnOk.of_calls (enters _ (by kernel_rfl)) fun fz w vals hv hf => ?_
  obtain ⟨v, rfl, h1⟩ := RL1 hv
  obtain ⟨A, c, rfl, hi⟩ := sl_val hf h1
  refine (Size_any A L c w _ hi).mono ?_
  rintro e w' ⟨rfl, rfl⟩
  exact gnd_res hf (Below.refl _ _) (numA_rv _)
theorem index_ok {gl : T (List V)} (L M : List Int) (hl : M.length ≤ 9223372036854775807) : FnOk Pg gl 41 [sl L, sl M] (numA (indexG L M)) := by
  refine FnOk.of_calls (enters _ (by kernel_rfl)) fun fz w vals hv hf => ?_
  obtain ⟨v, u, rfl, h1, h2⟩ := RL2 hv
  obtain ⟨A, c, rfl, hi⟩ := sl_val hf h1
  obtain ⟨A', c', rfl, hi'⟩ := sl_val hf h2
  refine (Index_any A A' L M c c' w hl _ hi hi').mono ?_
  rintro e w' ⟨rfl, rfl⟩
  exact gnd_res hf (Below.refl _ _) (numA_rv _)
theorem part_ok {gl : T (List V)} (L M : List Int) (i : Int) (hl : M.length ≤ 65536) : FnOk Pg gl 23 [sl L, sl M, i6 i] (numA (PartS L M i)) := by
  refine FnOk.of_calls (enters _ (by kernel_rfl)) fun fz w vals hv hf => ?_
  obtain ⟨v, u, t, rfl, h1, h2, rfl⟩ := RL3 hv
  obtain ⟨A, c, rfl, hi⟩ := sl_val hf h1
  obtain ⟨A', c', rfl, hi'⟩ := sl_val hf h2
  refine (Part_any A A' L M c c' i w hi hi' hl).mono ?_
  rintro e w' ⟨rfl, hb⟩
  exact gnd_res hf hb (numA_rv _)
theorem permute_ok {gl : T (List V)} (L M : List Int) (i : Int) (hl : M.length ≤ 65536) : FnOk Pg gl 31 [sl L, sl M, i6 i] (numA (PermuteS L M i)) := by
  refine FnOk.of_calls (enters _ (by kernel_rfl)) fun fz w vals hv hf => ?_
  obtain ⟨v, u, t, rfl, h1, h2, rfl⟩ := RL3 hv
  obtain ⟨A, c, rfl, hi⟩ := sl_val hf h1
  obtain ⟨A', c', rfl, hi'⟩ := sl_val hf h2
  refine (Permute_any A A' L M c c' i w hi hi' hl).mono ?_
  rintro e w' ⟨rfl, hb⟩
  exact gnd_res hf hb (numA_rv _)

/-- a list of numbers in new memory, or none, and an error -/
abbrev listA (p : List Int × Int) : V := .tup [sl p.1, i6 p.2]
def listN (w w' : World) (e : Ending) (r : List Int × Int) : Prop :=
  ∃ A c, e = .returned (.tuple #[.slice A r.1.length c, .int .i64 r.2]) ∧ r.1.length ≤ c ∧ Ints w' w'.heap.size A r.1 ∧ (∀ a, A = some a → w.heap.size ≤ a.block) ∧ Below w.heap.size w w'

theorem listN_res {fz : Nat → Prop} {w w' : World} {e : Ending} {r : List Int × Int} (hf : ∀ b, fz b → b < w.heap.size) (h : listN w w' e r) : ∃ u', e = .returned u' ∧ Below w.heap.size w w' ∧ ∃ fz' : Nat → Prop, (∀ b, fz b → fz' b) ∧ (∀ b, fz' b → fz b ∨ w.heap.size ≤ b) ∧ (∀ b, fz' b → b < w'.heap.size) ∧ RV (sg fz') w' (listA r) u' := by
  obtain ⟨A, c, rfl, hc, hi, hn, hb⟩ := h
  refine ⟨_, rfl, hb, fun b => fz b ∨ (r.1 ≠ [] ∧ ∃ a, A = some a ∧ a.block = b), fun _ h => .inl h, ?_, ?_, _, rfl, _, _, rfl, ⟨A, c, rfl, hc, fun hne => ?_⟩, _, _, rfl, rfl, rfl⟩
  · rintro b (h | ⟨_, a, h, rfl⟩)
    · exact .inl h
    · exact .inr (hn a h)
  · rintro b (h | ⟨hne, a, h, rfl⟩)
    · exact Nat.lt_of_lt_of_le (hf b h) hb.size
    · obtain ⟨b, off, e, hlt, _⟩ := hi 0 (List.length_pos_iff.2 hne)
      rw [h] at e; cases e; exact hlt
  · have hne' : r.1 ≠ [] := fun e => hne (by rw [e]; rfl)
    obtain ⟨b, off, e, hlt, _⟩ := hi 0 (List.length_pos_iff.2 hne')
    subst e
    exact ⟨b, off, rfl, cells_ints (s := sg _) (.inr ⟨hne', _, rfl, rfl⟩) fun j hj => by
      obtain ⟨b2, off2, e2, _, h2⟩ := hi j hj
      cases e2; exact h2⟩

theorem values_ok {gl : T (List V)} (L : List Int) (i : Int) : FnOk Pg gl 36 [sl L, i6 i] (listA (ValuesS L i)) := by
  refine FnOk.of_calls (enters _ (by kernel_rfl)) fun fz w vals hv hf => ?_
  obtain ⟨v, u, rfl, h1, rfl⟩ := RL2 hv
  obtain ⟨A, c, rfl, hc⟩ := sl_val hf h1
  refine Calls.mono ?_ (fun e w' (he : listN w w' e (ValuesS L i)) => listN_res hf he)
  cases h : count L with
  | none =>
    refine (Values_none A L c i w _ hc h).mono ?_
    rintro e w' ⟨rfl, rfl⟩
    have : ValuesS L i = ([], 20) := by simp [ValuesS, h]
    rw [this]
    exact ⟨none, 0, rfl, Nat.le_refl _, Ints.nil _ _ _, fun _ h => (by cases h), Below.refl _ _⟩
  | some t =>
    by_cases hi : i < 0 ∨ t ≤ i
    · refine (Values_arg A L c i w _ hc h hi).mono ?_
      rintro e w' ⟨rfl, rfl⟩
      have : ValuesS L i = ([], 2) := by simp only [ValuesS, h]; rw [if_pos hi]
      rw [this]
      exact ⟨none, 0, rfl, Nat.le_refl _, Ints.nil _ _ _, fun _ h => (by cases h), Below.refl _ _⟩
    · obtain ⟨hg, rfl⟩ := good_of h
      have : ValuesS L i = (valL L i, 0) := by simp only [ValuesS, h]; rw [if_neg hi]
      rw [this]
      refine (Values_ok A L c i w hc hg (by omega) (by omega)).mono ?_
      rintro e w' ⟨g, rfl, h1, h2, h3⟩
      exact ⟨some ⟨g, 0, none⟩, L.length, by simp only [valL_length], by simp only [valL_length]; exact Nat.le_refl _, Ints.of_row h2 (by simp only [valL_length]; exact Nat.le_refl _) (fun k hk => by simp only [valL_get]), fun a h => by cases h; exact h1, h3⟩

theorem spread_ok {gl : T (List V)} (L M : List Int) (j : Int) (hl : M.length ≤ 65536) : FnOk Pg gl 27 [sl L, sl M, i6 j] (listA (SpreadS L M j)) := by
  refine FnOk.of_calls (enters _ (by kernel_rfl)) fun fz w vals hv hf => ?_
  obtain ⟨v, u, t, rfl, h1, h2, rfl⟩ := RL3 hv
  obtain ⟨A, c, rfl, hc⟩ := sl_val hf h1
  obtain ⟨A', c', rfl, hp⟩ := sl_val hf h2
  refine Calls.mono ?_ (fun e w' (he : listN w w' e (SpreadS L M j)) => listN_res hf he)
  cases h : count L with
  | none =>
    refine (Spread_none A A' L M c c' j w hc h).mono ?_
    rintro e w' ⟨rfl, hb⟩
    have : SpreadS L M j = ([], 20) := by simp [SpreadS, h]
    rw [this]
    exact ⟨none, 0, rfl, Nat.le_refl _, Ints.nil _ _ _, fun _ h => (by cases h), hb⟩
  | some t =>
    cases hin : incr L.length (-1) M with
    | false =>
      refine (Spread_places A A' L M c c' j w hc hp hl h hin).mono ?_
      rintro e w' ⟨rfl, hb⟩
      have : SpreadS L M j = ([], 2) := by simp only [SpreadS, h]; rw [if_pos hin]
      rw [this]
      exact ⟨none, 0, rfl, Nat.le_refl _, Ints.nil _ _ _, fun _ h => (by cases h), hb⟩
    | true =>
      obtain ⟨hg, rfl⟩ := good_of h
      by_cases hj : j < 0 ∨ ppG 0 L M ≤ j
      · refine ((Spread_loop A A' L M c c' j w hc hp hl hg hin).1 (by omega)).mono ?_
        rintro e w' ⟨rfl, hb⟩
        have : SpreadS L M j = ([], 2) := by simp only [SpreadS, h]; rw [if_neg (by rw [hin]; simp), if_pos hj]
        rw [this]
        exact ⟨none, 0, rfl, Nat.le_refl _, Ints.nil _ _ _, fun _ h => (by cases h), hb⟩
      · refine ((Spread_loop A A' L M c c' j w hc hp hl hg hin).2 (by omega)).mono ?_
        rintro e w' ⟨g, rfl, h1, h2, h3⟩
        have : SpreadS L M j = (hitL L M j, 0) := by simp only [SpreadS, h]; rw [if_neg (by rw [hin]; simp), if_neg hj]
        rw [this]
        exact ⟨some ⟨g, 0, none⟩, _, by simp only [hitL_length]; rfl, by simp only [hitL_length]; exact Nat.le_refl _, Ints.of_row h2 (by simp only [hitL_length]; exact Nat.le_refl _) (fun k hk => by simp only [hitL_get]), fun a h => (by cases h; exact h1), h3⟩

end Go.Proofs.Ytmnaidemihcfaaa.Am
