/- Walks of package index, the third part: Values, part. -/
import Derived.Test.YtmnaidemihcfaaaIxV
namespace Go.Proofs.Ytmnaidemihcfaaa
open Go.RowKit
attribute [local go_sem] Oper.semAt_some

theorem enters_values : ∀ args w, (callFunc 101 args).run Try.prog w = .ok (.enter 101 args) w := enters_of Try.func101 (by kernel_rfl) rfl

def valF (cs : List Int) (i : Int) (k : Nat) : Int := (valsG cs (prodL cs) i).getD k 0

theorem valF_get {cs : List Int} {i : Int} {k : Nat} (h : k < cs.length) : (valsG cs (prodL cs) i)[k]'(by rw [valsG_length]; exact h) = valF cs i k := by
  unfold valF
  rw [List.getD_eq_getElem?_getD, List.getElem?_eq_getElem (by rw [valsG_length]; exact h)]; rfl

theorem valF_bd {cs : List Int} (hg : Good cs) {i : Int} (h0 : 0 ≤ i) (h1 : i < prodL cs) {k : Nat} (hk : k < cs.length) : 0 ≤ valF cs i k ∧ valF cs i k < cs[k] := by
  rw [← valF_get hk]; exact valsG_bd hg h0 h1 hk

theorem Values_none (A : Option Addr) (cs : List Int) (c : Nat) (i : Int) (w : World) (B : Nat) (hc : Ints w B A cs) (h : count cs = none) :
    Calls Try.prog 36 #[.slice A cs.length c, .int .i64 i] w fun e w' => e = .returned (.tuple #[.slice none 0 0, .int .i64 20]) ∧ w = w' := by
  have H := Lib.hid (count_none A cs c w B hc h)
  clear h hc
  go_enter Try.func36, Try.ntmps36
  go_wp2_with (go_at_call 68; refine (H.out).mono ?_; rintro e w' ⟨rfl, rfl⟩)
  go_ret2
  exact ⟨rfl, rfl⟩

theorem Values_arg (A : Option Addr) (cs : List Int) (c : Nat) (i : Int) (w : World) (B : Nat) (hc : Ints w B A cs) {t : Int} (h : count cs = some t) (hi : i < 0 ∨ t ≤ i) :
    Calls Try.prog 36 #[.slice A cs.length c, .int .i64 i] w fun e w' => e = .returned (.tuple #[.slice none 0 0, .int .i64 2]) ∧ w = w' := by
  have H := Lib.hid (count_some A cs c w B hc h)
  clear h hc
  by_cases h0 : i < 0
  · clear hi
    go_enter Try.func36, Try.ntmps36
    go_wp2_with (go_at_call 68; refine (H.out).mono ?_; rintro e w' ⟨rfl, rfl⟩)
    go_ret2
    exact ⟨rfl, rfl⟩
  · have h1 : t ≤ i := by omega
    clear hi
    go_enter Try.func36, Try.ntmps36
    go_wp2_with (go_at_call 68; refine (H.out).mono ?_; rintro e w' ⟨rfl, rfl⟩)
    go_ret2
    exact ⟨rfl, rfl⟩

set_option maxHeartbeats 1000000 in
theorem Values_ok (A : Option Addr) (cs : List Int) (c : Nat) (i : Int) (w : World) (hc : Ints w w.heap.size A cs) (hg : Good cs) (h0 : 0 ≤ i) (h1 : i < prodL cs) :
    Calls Try.prog 36 #[.slice A cs.length c, .int .i64 i] w fun e w' =>
      ∃ g, e = .returned (.tuple #[.slice (some ⟨g, 0, none⟩) cs.length cs.length, .int .i64 0]) ∧ w.heap.size ≤ g ∧ w'.rowIs g 3 cs.length (fun j => .int .i64 (valF cs i j)) ∧ Below w.heap.size w w' := by
  have H := Lib.hid (count_some A cs c w _ hc hg.count)
  have hl := hg.len
  obtain ⟨W0, hW0⟩ : ∃ W0, ((w.alloc (.cells #[.slice A cs.length c] 22)).alloc (.cells #[.int .i64 (prodL cs)] 3)).alloc (.cells #[.int .i64 i] 3) = W0 := ⟨_, rfl⟩
  have hb0 : Below w.heap.size w W0 := by rw [← hW0]; exact (((Below.refl _ w).alloc (Nat.le_refl _) _).alloc (by simp) _).alloc (by simp; omega) _
  have hs0 : W0.heap.size = w.heap.size + 3 := by rw [← hW0]; simp
  have HC := Lib.hid (collect_it (valF cs i) cs.length (by omega) 101 _ enters_values w.heap.size W0 hb0.size
    (values_it hg h0 h1 A c w.heap.size (w.heap.size + 2) (w.heap.size + 1) w.heap.size W0 hb0.size (hc.below hb0)
      (by rw [← hW0]; exact (three_cells _ _ _ _ _ _ _).1) (by rw [← hW0]; exact (three_cells _ _ _ _ _ _ _).2.1) (by rw [← hW0]; exact (three_cells _ _ _ _ _ _ _).2.2)))
  have HW := Lib.hid hW0
  clear hW0 hc
  go_enter Try.func36, Try.ntmps36
  go_wp2_with (first
    | (go_at_call 68; refine (H.out).mono ?_; rintro e w' ⟨rfl, rfl⟩)
    | (go_at_call 73; refine (values_any _ _ _ _ _ _).mono ?_; rintro e w' ⟨rfl, hw'⟩; rw [HW.out] at hw'; subst hw')
    | (go_at_call 72; refine (HC.out).mono ?_; rintro e w' ⟨g, rfl, hg1, hg2, hg3⟩))
  go_ret2
  exact ⟨g, rfl, by omega, hg2, hb0.trans (hg3.mono hb0.size)⟩

/-- the number of the part: places are met one by one -/
def partG : Nat → List Int → List Int → List Int → Int → Int
  | k, c :: cs, v :: vs, p :: ps, n => if p = k then partG (k + 1) cs vs ps (n * c + v) else partG (k + 1) cs vs (p :: ps) n
  | _, _, _, _, n => n

theorem partG_nil (k : Nat) (cs vs : List Int) (n : Int) : partG k cs vs [] n = n := by cases cs <;> cases vs <;> rfl
theorem partG_end (k : Nat) (vs ps : List Int) (n : Int) : partG k [] vs ps n = n := by cases vs <;> rfl

theorem partG_drop {cs vs ps : List Int} {k j : Nat} (n : Int) (h : k < cs.length) (h' : k < vs.length) (hp : j < ps.length) :
    partG k (cs.drop k) (vs.drop k) (ps.drop j) n = if ps[j] = k then partG (k + 1) (cs.drop (k + 1)) (vs.drop (k + 1)) (ps.drop (j + 1)) (n * cs[k] + vs[k]) else partG (k + 1) (cs.drop (k + 1)) (vs.drop (k + 1)) (ps.drop j) n := by
  rw [List.drop_eq_getElem_cons h, List.drop_eq_getElem_cons h', List.drop_eq_getElem_cons hp]; rfl

end Go.Proofs.Ytmnaidemihcfaaa
