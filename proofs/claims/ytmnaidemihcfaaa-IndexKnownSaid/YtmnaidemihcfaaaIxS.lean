/- Walks of package index: Part, Spread. -/
import Derived.Test.YtmnaidemihcfaaaIxPu
namespace Go.Proofs.Ytmnaidemihcfaaa
open Go.RowKit
attribute [local go_sem] Oper.semAt_some

def PartS (cs ps : List Int) (i : Int) : Int × Int :=
  match count cs with
  | none => (0, 20)
  | some t => if incr cs.length (-1) ps = false ∨ i < 0 ∨ t ≤ i then (0, 2) else (partG 0 cs (valL cs i) ps 0, 0)

set_option maxHeartbeats 1000000 in
theorem Part_any (A A' : Option Addr) (cs ps : List Int) (c c' : Nat) (i : Int) (w : World) (hc : Ints w w.heap.size A cs) (hp : Ints w w.heap.size A' ps) (hpl : ps.length ≤ 65536) :
    Calls Try.prog 23 #[.slice A cs.length c, .slice A' ps.length c', .int .i64 i] w fun e w' => e = .returned (numV (PartS cs ps i)) ∧ Below w.heap.size w w' := by
  cases h : count cs with
  | none =>
    have HG := Lib.hid (show PartS cs ps i = (0, 20) by simp [PartS, h])
    have H := Lib.hid (count_none A cs c w _ hc h)
    clear h hc hp
    go_enter Try.func23, Try.ntmps23
    go_wp2_with (go_at_call 68; refine (H.out).mono ?_; rintro e w' ⟨rfl, rfl⟩)
    go_ret2
    exact ⟨by rw [HG.out]; rfl, Below.refl _ _⟩
  | some t =>
    have H := Lib.hid (count_some A cs c w _ hc h)
    have HI := Lib.hid (increasing_any cs.length A' ps c' w (by omega) _ hp)
    cases hin : incr cs.length (-1) ps with
    | false =>
      have HG := Lib.hid (show PartS cs ps i = (0, 2) by simp [PartS, h, hin])
      rw [hin] at HI
      clear h hc hp hin
      go_enter Try.func23, Try.ntmps23
      go_wp2_with (first
        | (go_at_call 68; refine (H.out).mono ?_; rintro e w' ⟨rfl, rfl⟩)
        | (go_at_call 69; refine (HI.out).mono ?_; rintro e w' ⟨rfl, rfl⟩))
      go_ret2
      exact ⟨by rw [HG.out]; rfl, Below.refl _ _⟩
    | true =>
      rw [hin] at HI
      by_cases h0 : i < 0
      · have HG := Lib.hid (show PartS cs ps i = (0, 2) by simp [PartS, h, h0])
        clear h hc hp hin
        go_enter Try.func23, Try.ntmps23
        go_wp2_with (first
          | (go_at_call 68; refine (H.out).mono ?_; rintro e w' ⟨rfl, rfl⟩)
          | (go_at_call 69; refine (HI.out).mono ?_; rintro e w' ⟨rfl, rfl⟩))
        go_ret2
        exact ⟨by rw [HG.out]; rfl, Below.refl _ _⟩
      · by_cases h1 : t ≤ i
        · have HG := Lib.hid (show PartS cs ps i = (0, 2) by simp [PartS, h, h1])
          clear h hc hp hin
          go_enter Try.func23, Try.ntmps23
          go_wp2_with (first
            | (go_at_call 68; refine (H.out).mono ?_; rintro e w' ⟨rfl, rfl⟩)
            | (go_at_call 69; refine (HI.out).mono ?_; rintro e w' ⟨rfl, rfl⟩))
          go_ret2
          exact ⟨by rw [HG.out]; rfl, Below.refl _ _⟩
        · have HG := Lib.hid (show PartS cs ps i = (partG 0 cs (valL cs i) ps 0, 0) by simp [PartS, h, hin, h0, h1])
          obtain ⟨hg, rfl⟩ := good_of h
          have HP := Lib.hid (part_any A A' cs ps c c' i w hc hp hpl hg (by omega) (by omega))
          clear h hc hp hin hg
          go_enter Try.func23, Try.ntmps23
          go_wp2_with (first
            | (go_at_call 68; refine (H.out).mono ?_; rintro e w' ⟨rfl, rfl⟩)
            | (go_at_call 69; refine (HI.out).mono ?_; rintro e w' ⟨rfl, rfl⟩)
            | (go_at_call 70; refine (HP.out).mono ?_; rintro e w' ⟨rfl, hb⟩))
          go_ret2
          exact ⟨by rw [HG.out]; rfl, hb⟩

end Go.Proofs.Ytmnaidemihcfaaa
