/- Package index: the contracts of the exported functions, whole. -/
import Derived.Test.YtmnaidemihcfaaaIxPm
namespace Go.Proofs.Ytmnaidemihcfaaa
open Go.RowKit

set_option maxHeartbeats 1000000 in
theorem Permute_any (A A' : Option Addr) (cs ps : List Int) (c c' : Nat) (i : Int) (w : World) (hc : Ints w w.heap.size A cs) (hp : Ints w w.heap.size A' ps) (hpl : ps.length ≤ 65536) :
    Calls Try.prog 31 #[.slice A cs.length c, .slice A' ps.length c', .int .i64 i] w fun e w' => e = .returned (numV (PermuteS cs ps i)) ∧ Below w.heap.size w w' := by
  cases h : count cs with
  | none =>
    have HG := Lib.hid (show PermuteS cs ps i = (0, 20) by simp [PermuteS, h])
    have H := Lib.hid (count_none A cs c w _ hc h)
    clear h hc hp
    go_enter Try.func31, Try.ntmps31
    go_wp2_with (go_at_call 68; refine (H.out).mono ?_; rintro e w' ⟨rfl, rfl⟩)
    go_ret2
    exact ⟨by rw [HG.out]; rfl, Below.refl _ _⟩
  | some t =>
    have H := Lib.hid (count_some A cs c w _ hc h)
    by_cases hl : ps.length = cs.length
    · have hll : ((ps.length : Int) != (cs.length : Int)) = false := by simp [hl]
      by_cases h0 : i < 0
      · have HG := Lib.hid (show PermuteS cs ps i = (0, 2) by simp [PermuteS, h, h0])
        clear h hc hp hl
        go_enter Try.func31, Try.ntmps31
        go_wp2_with (go_at_call 68; refine (H.out).mono ?_; rintro e w' ⟨rfl, rfl⟩)
        go_ret2
        exact ⟨by rw [HG.out]; rfl, Below.refl _ _⟩
      · by_cases h1 : t ≤ i
        · have HG := Lib.hid (show PermuteS cs ps i = (0, 2) by simp [PermuteS, h, h1])
          clear h hc hp hl
          go_enter Try.func31, Try.ntmps31
          go_wp2_with (go_at_call 68; refine (H.out).mono ?_; rintro e w' ⟨rfl, rfl⟩)
          go_ret2
          exact ⟨by rw [HG.out]; rfl, Below.refl _ _⟩
        · obtain ⟨hg, rfl⟩ := good_of h
          have hG : PermuteS cs ps i = (if permC cs.length 0 ps = false then (0, 2) else (permNum cs (valF cs i) ps 0, 0)) := by
            unfold PermuteS
            simp only [h]
            rw [if_neg (by rintro (h | h | h) <;> omega)]
          rw [hG]
          exact Permute_go A A' cs ps c c' i w hc hp hg hl (by omega) (by omega)
    · have hll : ((ps.length : Int) != (cs.length : Int)) = true := by simp; omega
      have HG := Lib.hid (show PermuteS cs ps i = (0, 2) by simp [PermuteS, h, hl])
      clear h hc hp hl
      go_enter Try.func31, Try.ntmps31
      go_wp2_with (go_at_call 68; refine (H.out).mono ?_; rintro e w' ⟨rfl, rfl⟩)
      go_ret2
      exact ⟨by rw [HG.out]; rfl, Below.refl _ _⟩

/-- a list of ints in new memory, or nil, and an error -/
def listR (w w' : World) (e : Ending) (r : List Int × Int) : Prop :=
  ∃ A c, e = .returned (.tuple #[.slice A r.1.length c, .int .i64 r.2]) ∧ Ints w' w'.heap.size A r.1 ∧ Below w.heap.size w w'

def ValuesS (cs : List Int) (i : Int) : List Int × Int :=
  match count cs with
  | none => ([], 20)
  | some t => if i < 0 ∨ t ≤ i then ([], 2) else (valL cs i, 0)

theorem Values_any (A : Option Addr) (cs : List Int) (c : Nat) (i : Int) (w : World) (hc : Ints w w.heap.size A cs) :
    Calls Try.prog 36 #[.slice A cs.length c, .int .i64 i] w fun e w' => listR w w' e (ValuesS cs i) := by
  cases h : count cs with
  | none =>
    refine (Values_none A cs c i w _ hc h).mono ?_
    rintro e w' ⟨rfl, rfl⟩
    exact ⟨none, 0, by simp [ValuesS, h], by simp [ValuesS, h]; exact Ints.nil _ _ _, Below.refl _ _⟩
  | some t =>
    by_cases hi : i < 0 ∨ t ≤ i
    · refine (Values_arg A cs c i w _ hc h hi).mono ?_
      rintro e w' ⟨rfl, rfl⟩
      have : ValuesS cs i = ([], 2) := by simp only [ValuesS, h]; rw [if_pos hi]
      rw [this]
      exact ⟨none, 0, rfl, Ints.nil _ _ _, Below.refl _ _⟩
    · obtain ⟨hg, rfl⟩ := good_of h
      have : ValuesS cs i = (valL cs i, 0) := by simp only [ValuesS, h]; rw [if_neg hi]
      rw [this]
      refine (Values_ok A cs c i w hc hg (by omega) (by omega)).mono ?_
      rintro e w' ⟨g, rfl, h1, h2, h3⟩
      exact ⟨some ⟨g, 0, none⟩, cs.length, by simp only [valL_length], Ints.of_row h2 (by simp only [valL_length]; exact Nat.le_refl _) (fun k hk => by simp only [valL_get]), h3⟩

def hitL (cs ps : List Int) (j : Int) : List Int := (hits cs ps j).map (fun n : Nat => (n : Int))

theorem hitL_length (cs ps : List Int) (j : Int) : (hitL cs ps j).length = (hits cs ps j).length := by simp [hitL]

theorem hitL_get {cs ps : List Int} {j : Int} {k : Nat} (h : k < (hitL cs ps j).length) : (hitL cs ps j)[k] = hitF cs ps j k := by
  have h' : k < (hits cs ps j).length := by rw [hitL_length] at h; exact h
  simp [hitL, hitF, List.getD_eq_getElem?_getD, List.getElem?_eq_getElem h']

def SpreadS (cs ps : List Int) (j : Int) : List Int × Int :=
  match count cs with
  | none => ([], 20)
  | some _ => if incr cs.length (-1) ps = false then ([], 2) else if j < 0 ∨ ppG 0 cs ps ≤ j then ([], 2) else (hitL cs ps j, 0)

theorem Spread_any (A A' : Option Addr) (cs ps : List Int) (c c' : Nat) (j : Int) (w : World) (hc : Ints w w.heap.size A cs) (hp : Ints w w.heap.size A' ps) (hpl : ps.length ≤ 65536) :
    Calls Try.prog 27 #[.slice A cs.length c, .slice A' ps.length c', .int .i64 j] w fun e w' => listR w w' e (SpreadS cs ps j) := by
  cases h : count cs with
  | none =>
    refine (Spread_none A A' cs ps c c' j w hc h).mono ?_
    rintro e w' ⟨rfl, hb⟩
    exact ⟨none, 0, by simp [SpreadS, h], by simp [SpreadS, h]; exact Ints.nil _ _ _, hb⟩
  | some t =>
    cases hin : incr cs.length (-1) ps with
    | false =>
      refine (Spread_places A A' cs ps c c' j w hc hp hpl h hin).mono ?_
      rintro e w' ⟨rfl, hb⟩
      have : SpreadS cs ps j = ([], 2) := by simp only [SpreadS, h]; rw [if_pos hin]
      rw [this]
      exact ⟨none, 0, rfl, Ints.nil _ _ _, hb⟩
    | true =>
      obtain ⟨hg, rfl⟩ := good_of h
      by_cases hj : j < 0 ∨ ppG 0 cs ps ≤ j
      · refine ((Spread_loop A A' cs ps c c' j w hc hp hpl hg hin).1 (by omega)).mono ?_
        rintro e w' ⟨rfl, hb⟩
        have : SpreadS cs ps j = ([], 2) := by simp only [SpreadS, h]; rw [if_neg (by rw [hin]; simp), if_pos hj]
        rw [this]
        exact ⟨none, 0, rfl, Ints.nil _ _ _, hb⟩
      · refine ((Spread_loop A A' cs ps c c' j w hc hp hpl hg hin).2 (by omega)).mono ?_
        rintro e w' ⟨g, rfl, h1, h2, h3⟩
        have : SpreadS cs ps j = (hitL cs ps j, 0) := by simp only [SpreadS, h]; rw [if_neg (by rw [hin]; simp), if_neg hj]
        rw [this]
        exact ⟨some ⟨g, 0, none⟩, _, by simp only [hitL_length]; rfl, Ints.of_row h2 (by simp only [hitL_length]; exact Nat.le_refl _) (fun k hk => by simp only [hitL_get]), h3⟩

end Go.Proofs.Ytmnaidemihcfaaa
