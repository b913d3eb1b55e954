/- Chapter 25: changed data: Bend.Of. -/
import Derived.Test.YtglpoiaedkoecaaDoorE17
namespace Go.Proofs.YtglpoiaedkoecaaDoor.Am
open Go.RowKit
set_option linter.unusedVariables false
set_option maxHeartbeats 1000000
set_option maxRecDepth 100000

theorem Rows.mono {n lo : Nat} {rows : List (List Int)} {hl : Nat} {hs : List Nat} {H H' : T O} {nx nx' : Nat} (h : Rows n lo rows hl hs H nx) (hg : ∀ g, lo ≤ g → gt H' g = gt H g) (hn : nx ≤ nx') : Rows n lo rows hl hs H' nx' := by
  refine ⟨h.len, fun hp => ?_, h.nodup, fun i g hi => ?_⟩
  · obtain ⟨a, b, c, d⟩ := h.list hp
    exact ⟨a, by omega, c, by rw [hg hl a]; exact d⟩
  · obtain ⟨a, b, c, d, e, f⟩ := h.row i g hi
    exact ⟨a, by omega, c, d, e, by rw [hg g a]; exact f⟩
theorem rows_set {n lo : Nat} {rows : List (List Int)} {hl : Nat} {hs : List Nat} {H H' : T O} {nx g ri : Nat} {c : List Int} (h : Rows n lo rows hl hs H nx) (hp : 0 < rows.length) (hgi : hs[ri]? = some g) (hc : c.length = n) (hg : gt H' g = some (.row 3 (some 1) (ints c))) (ho : ∀ j, j ≠ g → lo ≤ j → gt H' j = gt H j) : Rows n lo (rows.set ri c) hl hs H' nx := by
  obtain ⟨l1, l2, l3, l4⟩ := h.list hp
  have hri : ri < rows.length := by rw [← h.len]; exact (List.getElem?_eq_some_iff.1 hgi).1
  have hgm := List.mem_of_getElem? hgi
  refine ⟨by rw [List.length_set]; exact h.len, fun _ => ⟨l1, l2, l3, ?_⟩, h.nodup, fun i k hi => ?_⟩
  · rw [ho hl (fun e => l3 (e ▸ hgm)) l1]; exact l4
  · obtain ⟨q1, q2, d, q3, q4, q5⟩ := h.row i k hi
    by_cases hir : i = ri
    · subst hir
      rw [hgi] at hi
      cases hi
      exact ⟨q1, q2, c, by rw [List.getElem?_set_self hri], hc, hg⟩
    · have hne : k ≠ g := by
        rintro rfl
        have h1 := (List.getElem?_eq_some_iff.1 hi)
        have h2 := (List.getElem?_eq_some_iff.1 hgi)
        exact hir ((List.getElem_inj h.nodup).1 (h1.2.trans h2.2.symm))
      exact ⟨q1, q2, d, by rw [List.getElem?_set_ne (Ne.symm hir)]; exact q3, q4, by rw [ho k hne q1]; exact q5⟩

/-! ### what a value is when all that it names is written no more (but for block 2) -/
def Sees1 (H : T O) (cv : V) (l : List Int) : Prop := cv = sl l ∨ (cv = .nils ∧ l = []) ∨ ∃ h off room t sp c, cv = .sl h off l.length room ∧ h ≠ 2 ∧ gt H h = some (.row t sp c) ∧ c.drop off = ints l
def Sees2 (H : T O) (lv : V) (rows : List (List Int)) : Prop := (lv = .nils ∧ rows = []) ∨ ∃ h room t sp cells, lv = .sl h 0 rows.length room ∧ h ≠ 2 ∧ gt H h = some (.row t sp cells) ∧ cells.length = rows.length ∧ ∀ (i : Nat) (cell : V), cells[i]? = some cell → ∃ c, rows[i]? = some c ∧ Sees1 H cell c
theorem Sees1.view {H : T O} {cv : V} {l : List Int} {lg : List Nat} {ρ : Nat → Option Nat} (h : Sees1 H cv l) : View H.get (Fr 0 [2] lg) ρ (sl l) cv := by
  rcases h with rfl | ⟨rfl, rfl⟩ | ⟨h, off, room, t, sp, c, rfl, hne, hg, hd⟩
  · exact .inl rfl
  · exact .inr (.inl ⟨rfl, rfl⟩)
  · rw [gt_eq] at hg
    refine .inr (.inr ⟨h, off, room, t, sp, c, rfl, ⟨Nat.zero_le _, by simpa using hne, fun _ _ => Nat.zero_le _⟩, hg, ?_⟩)
    rw [hd]; exact ViewP.of_hf _ (HfL_ints _)
theorem Sees2.view {H : T O} {lv : V} {rows : List (List Int)} {lg : List Nat} {ρ : Nat → Option Nat} (h : Sees2 H lv rows) : View H.get (Fr 0 [2] lg) ρ (gC rows) lv := by
  rcases h with ⟨rfl, rfl⟩ | ⟨h, room, t, sp, cells, rfl, hne, hg, hlen, hc⟩
  · exact .inr (.inl ⟨rfl, rfl⟩)
  · rw [gt_eq] at hg
    refine .inr (.inr ⟨h, 0, room, t, sp, cells, rfl, ⟨Nat.zero_le _, by simpa using hne, fun _ _ => Nat.zero_le _⟩, hg, ?_⟩)
    rw [List.drop_zero]
    have key : ∀ (rs : List (List Int)) (cl : List V), cl.length = rs.length → (∀ (i : Nat) (cell : V), cl[i]? = some cell → ∃ c, rs[i]? = some c ∧ Sees1 H cell c) → ViewP H.get (Fr 0 [2] lg) (rs.map sl) cl := by
      intro rs
      induction rs with
      | nil => intro cl _ _; trivial
      | cons r rs ih =>
        intro cl hlen hcl
        cases cl with
        | nil => simp at hlen
        | cons x cl =>
          obtain ⟨c, q2, q3⟩ := hcl 0 x rfl
          obtain rfl : r = c := by simpa using q2
          refine ⟨_, _, rfl, q3.view, ih cl (by simpa using hlen) (fun i cell hi => ?_)⟩
          have := hcl (i + 1) cell (by simpa using hi)
          simpa using this
    exact key rows cells hlen hc
theorem fin_gc {H : T O} {nx : Nat} {lg : List Nat} {cv lv : V} {cards : List Int} {rows : List (List Int)} (hn : 3 ≤ nx) (h2 : gt H 2 = some (.row 32 none [cv, lv])) (hc : Sees1 H cv cards) (hr : Sees2 H lv rows) :
    Gc 0 [2] (mkSo g0 138 [(4, .ptr 2 0)] H nx lg) (mkSt g0 138 { sl := [(4, .ptr 0 0)], os := [.row 32 none [sl cards, gC rows]] }) := by
  rw [gt_eq] at h2
  refine ⟨rfl, fun g hg => ?_, by decide, rfl, rfl, fun i x hx => ?_, fun h o ho hlive => ?_, fun h _ hlt => absurd hlt (Nat.not_lt_zero _)⟩
  · refine ⟨Nat.zero_le _, ?_⟩
    show g < nx
    simp at hg; omega
  · have c4 : gt (putL (blank 138) [(4, V.ptr 2 0)]) 4 = some (.ptr 2 0) := by kernel_rfl
    rw [gt_eq] at c4
    rcases putL_get _ _ _ _ hx with hmem | hmem
    · simp only [List.mem_cons, List.not_mem_nil, or_false] at hmem
      cases hmem
      exact ⟨_, c4, 2, rfl, rfl⟩
    · rw [blank_get] at hmem; cases hmem
  · rcases ofOs_get _ _ _ _ _ ho with ⟨_, hm⟩ | hm
    · rw [Nat.sub_zero] at hm
      rcases h with _ | h
      · cases hm
        exact ⟨2, _, rfl, h2, _, rfl, _, _, rfl, hc.view, _, _, rfl, hr.view, rfl⟩
      · simp at hm
    · simp at hm
theorem Rows.sees {n lo : Nat} {rows : List (List Int)} {hl : Nat} {hs : List Nat} {H : T O} {nx : Nat} (h : Rows n lo rows hl hs H nx) (hlo : 3 ≤ lo) : Sees2 H (owV hl rows.length) rows := by
  by_cases hp : 0 < rows.length
  · obtain ⟨l1, l2, l3, l4⟩ := h.list hp
    refine .inr ⟨hl, none, 29, some 1, _, ?_, by omega, l4, by rw [List.length_map]; exact h.len, fun i cell hi => ?_⟩
    · cases hn : rows.length with
      | zero => omega
      | succ m => rfl
    · rw [List.getElem?_map] at hi
      cases hg : hs[i]? with
      | none => rw [hg] at hi; cases hi
      | some g =>
        rw [hg] at hi
        cases hi
        obtain ⟨q1, q2, c, q3, q4, q5⟩ := h.row i g hg
        exact ⟨c, q3, .inr (.inr ⟨g, 0, none, 3, some 1, ints c, by rw [q4], by omega, q5, rfl⟩)⟩
  · have : rows = [] := List.eq_nil_of_length_eq_zero (by omega)
    subst this
    exact .inl ⟨rfl, rfl⟩

end Go.Proofs.YtglpoiaedkoecaaDoor.Am
