/- Walks of package index: Spread. -/
import Derived.Test.YtmnaidemihcfaaaIxSr
namespace Go.Proofs.Ytmnaidemihcfaaa
open Go.RowKit

theorem enters_spread : ∀ args w, (callFunc 71 args).run Try.prog w = .ok (.enter 71 args) w := enters_of Try.func71 (by kernel_rfl) rfl

theorem bel3 (w : World) (a b c : Obj) : Below w.heap.size w (((w.alloc a).alloc b).alloc c) := (((Below.refl _ w).alloc (Nat.le_refl _) _).alloc (by simp) _).alloc (by simp; omega) _
theorem bel4 (w : World) (a b c d : Obj) : Below w.heap.size w ((((w.alloc a).alloc b).alloc c).alloc d) := (bel3 w a b c).alloc (by simp; omega) _

set_option maxHeartbeats 1000000 in
theorem Spread_none (A A' : Option Addr) (cs ps : List Int) (c c' : Nat) (j : Int) (w : World) (hc : Ints w w.heap.size A cs) (h : count cs = none) :
    Calls Try.prog 27 #[.slice A cs.length c, .slice A' ps.length c', .int .i64 j] w fun e w' => e = .returned (.tuple #[.slice none 0 0, .int .i64 20]) ∧ Below w.heap.size w w' := by
  have H := fun a b d => Lib.hid (count_none A cs c _ _ (hc.below (bel3 w a b d)) h)
  clear hc h
  go_enter Try.func27, Try.ntmps27
  go_wp2_with (go_at_call 68; refine ((H _ _ _).out).mono ?_; rintro e w' ⟨rfl, rfl⟩)
  go_ret2
  exact ⟨rfl, bel4 _ _ _ _ _⟩

set_option maxHeartbeats 1000000 in
theorem Spread_places (A A' : Option Addr) (cs ps : List Int) (c c' : Nat) (j : Int) (w : World) (hc : Ints w w.heap.size A cs) (hp : Ints w w.heap.size A' ps) (hpl : ps.length ≤ 65536) {t : Int} (h : count cs = some t) (hin : incr cs.length (-1) ps = false) :
    Calls Try.prog 27 #[.slice A cs.length c, .slice A' ps.length c', .int .i64 j] w fun e w' => e = .returned (.tuple #[.slice none 0 0, .int .i64 2]) ∧ Below w.heap.size w w' := by
  have H := fun a b d => Lib.hid (count_some A cs c _ _ (hc.below (bel3 w a b d)) h)
  have HI := fun a b d e => Lib.hid (by have := increasing_any cs.length A' ps c' _ (by omega) _ (hp.below (bel4 w a b d e)); rw [hin] at this; exact this)
  clear hc hp h hin
  go_enter Try.func27, Try.ntmps27
  go_wp2_with (first
    | (go_at_call 68; refine ((H _ _ _).out).mono ?_; rintro e w' ⟨rfl, rfl⟩)
    | (go_at_call 69; refine ((HI _ _ _ _).out).mono ?_; rintro e w' ⟨rfl, rfl⟩))
  go_ret2
  exact ⟨rfl, bel4 _ _ _ _ _⟩

theorem take_mem_bd {cs ps : List Int} (hin : incr cs.length (-1) ps = true) (k : Nat) : ∀ p ∈ ps.take k, 0 ≤ p ∧ p < cs.length := fun p hp => by
  have := incr_mem hin p (List.mem_of_mem_take hp); omega

set_option maxRecDepth 100000 in
set_option maxHeartbeats 2000000 in
theorem Spread_loop (A A' : Option Addr) (cs ps : List Int) (c c' : Nat) (j : Int) (w : World) (hc : Ints w w.heap.size A cs) (hp : Ints w w.heap.size A' ps) (hpl : ps.length ≤ 65536) (hg : Good cs) (hin : incr cs.length (-1) ps = true) :
    (¬ (0 ≤ j ∧ j < ppG 0 cs ps) → Calls Try.prog 27 #[.slice A cs.length c, .slice A' ps.length c', .int .i64 j] w fun e w' => e = .returned (.tuple #[.slice none 0 0, .int .i64 2]) ∧ Below w.heap.size w w') ∧
    ((0 ≤ j ∧ j < ppG 0 cs ps) → Calls Try.prog 27 #[.slice A cs.length c, .slice A' ps.length c', .int .i64 j] w fun e w' =>
      ∃ g, e = .returned (.tuple #[.slice (some ⟨g, 0, none⟩) (hits cs ps j).length (hits cs ps j).length, .int .i64 0]) ∧ w.heap.size ≤ g ∧ w'.rowIs g 3 (hits cs ps j).length (fun k => .int .i64 (hitF cs ps j k)) ∧ Below w.heap.size w w') := by
  have H := fun a b d => Lib.hid (count_some A cs c _ _ (hc.below (bel3 w a b d)) hg.count)
  have HI := fun a b d e => Lib.hid (by have := increasing_any cs.length A' ps c' _ (by omega) _ (hp.below (bel4 w a b d e)); rw [hin] at this; exact this)
  have hl12 := hg.len
  have hle := incr_le hin
  have HPP := Lib.hid (ppG_zero hin)
  have h4096 := hg.le
  have hpos := hg.pos
  have HIN := Lib.hid hin
  clear hin
  constructor
  · intro hnot
    rw [HPP.out] at hnot
    go_enter Try.func27, Try.ntmps27
    go_wp2_with (first
      | (go_at_call 68; refine ((H _ _ _).out).mono ?_; rintro e w' ⟨rfl, rfl⟩)
      | (go_at_call 69; refine ((HI _ _ _ _).out).mono ?_; rintro e w' ⟨rfl, rfl⟩))
    obtain ⟨W0, hW0⟩ : ∃ W0, allocs w [.cells #[.slice A cs.length c] 22, .cells #[.slice A' ps.length c'] 22, .cells #[.int .i64 j] 3, .cells #[.int .i64 (prodL cs)] 3] = W0 := ⟨_, rfl⟩
    have hs0 : W0.heap.size = w.heap.size + 4 := by rw [← hW0]; exact allocs_size _ _
    have hb0 : Below w.heap.size w W0 := by rw [← hW0]; exact allocs_below _ _
    have x1 : Boxed W0 w.heap.size 22 (.slice A cs.length c) := by rw [← hW0]; exact allocs_at _ w 0 _ rfl
    have x2 : Boxed W0 (w.heap.size + 1) 22 (.slice A' ps.length c') := by rw [← hW0]; exact allocs_at _ w 1 _ rfl
    have x3 : Boxed W0 (w.heap.size + 2) 3 (.int .i64 j) := by rw [← hW0]; exact allocs_at _ w 2 _ rfl
    have x4 : Boxed W0 (w.heap.size + 3) 3 (.int .i64 (prodL cs)) := by rw [← hW0]; exact allocs_at _ w 3 _ rfl
    show Code.wp _ _ _ _ (allocs w [.cells #[.slice A cs.length c] 22, .cells #[.slice A' ps.length c'] 22, .cells #[.int .i64 j] 3, .cells #[.int .i64 (prodL cs)] 3])
    rw [hW0]
    clear hW0 H HI
    have hc0 := (hc.below hb0).more hb0.size
    have hp0 := (hp.below hb0).more hb0.size
    have d1 := x1.cell
    have d2 := x2.cell
    have d3 := x3.cell
    have d4 := x4.cell
    clear hc hp x1 x2 x3 x4
    go_loop [10, 28] (fun pr ic => ∃ (k : Nat) (p : Int), k ≤ ps.length ∧ ic = .int .i64 k ∧ pr = .int .i64 p ∧ 1 ≤ p ∧ p ≤ 68719476736 ∧ Hid (p = prodAt cs (ps.take k))) (fun _ ic => ps.length - (intOf ic).toNat)
    case atStart => exact ⟨0, 1, Nat.zero_le _, rfl, rfl, by omega, by omega, by show _ = _; simp [prodAt, prodL]⟩
    case round =>
      obtain ⟨k, p, hk, rfl, rfl, hp1, hp2, HP⟩ := hrel
      by_cases hlt : k < ps.length
      · obtain ⟨b, off, hA', hb, hcell⟩ := hp0 k hlt
        have hpk := incr_mem HIN.out ps[k] (List.getElem_mem hlt)
        have hk2 : ps[k].toNat < cs.length := by omega
        obtain ⟨b', off', hA, hb', hcell'⟩ := hc0 ps[k].toNat hk2
        subst hA hA'
        have hpk0 : 0 ≤ ps[k] := by omega
        have hpk1 : ps[k] < (cs.length : Int) := hpk.2
        have hcd := hg.at_ hk2
        have hn := prodAt_bd hg (ps.take (k + 1)) (take_mem_bd HIN.out (k + 1))
        have he := prodAt_take (cs := cs) hlt
        have hgd : cs.getD ps[k].toNat 0 = cs[ps[k].toNat] := by simp [List.getD_eq_getElem?_getD, List.getElem?_eq_getElem hk2]
        rw [hgd, ← HP.out] at he
        have h8 := pow8_le (k := (ps.take (k + 1)).length) (by simp; omega)
        rw [he] at hn
        have hn1 := hn.1
        have hn2 : p * cs[ps[k].toNat] ≤ 68719476736 := by omega
        have HE := Lib.hid he
        clear he hgd hn h8 hc0 hp0 hpk
        go_wp2
        go_round
        case rel => exact ⟨k + 1, p * cs[ps[k].toNat], by omega, by go_num, rfl, hn1, hn2, HE.out.symm⟩
        case measure => simp [intOf]; omega
      · obtain rfl : k = ps.length := by omega
        have hpp : p = prodAt cs ps := by rw [HP.out, List.take_length]
        subst hpp
        clear HP
        clear hc0 hp0
        by_cases h0 : j < 0
        · clear hnot
          go_wp2
          go_ret2
          exact ⟨rfl, hb0⟩
        · have h1 : prodAt cs ps ≤ j := by omega
          clear hnot
          go_wp2
          go_ret2
          exact ⟨rfl, hb0⟩
  · rintro ⟨hj0, hj1⟩
    rw [HPP.out] at hj1
    go_enter Try.func27, Try.ntmps27
    go_wp2_with (first
      | (go_at_call 68; refine ((H _ _ _).out).mono ?_; rintro e w' ⟨rfl, rfl⟩)
      | (go_at_call 69; refine ((HI _ _ _ _).out).mono ?_; rintro e w' ⟨rfl, rfl⟩))
    obtain ⟨W0, hW0⟩ : ∃ W0, allocs w [.cells #[.slice A cs.length c] 22, .cells #[.slice A' ps.length c'] 22, .cells #[.int .i64 j] 3, .cells #[.int .i64 (prodL cs)] 3] = W0 := ⟨_, rfl⟩
    have hs0 : W0.heap.size = w.heap.size + 4 := by rw [← hW0]; exact allocs_size _ _
    have hb0 : Below w.heap.size w W0 := by rw [← hW0]; exact allocs_below _ _
    have x1 : Boxed W0 w.heap.size 22 (.slice A cs.length c) := by rw [← hW0]; exact allocs_at _ w 0 _ rfl
    have x2 : Boxed W0 (w.heap.size + 1) 22 (.slice A' ps.length c') := by rw [← hW0]; exact allocs_at _ w 1 _ rfl
    have x3 : Boxed W0 (w.heap.size + 2) 3 (.int .i64 j) := by rw [← hW0]; exact allocs_at _ w 2 _ rfl
    have x4 : Boxed W0 (w.heap.size + 3) 3 (.int .i64 (prodL cs)) := by rw [← hW0]; exact allocs_at _ w 3 _ rfl
    show Code.wp _ _ _ _ (allocs w [.cells #[.slice A cs.length c] 22, .cells #[.slice A' ps.length c'] 22, .cells #[.int .i64 j] 3, .cells #[.int .i64 (prodL cs)] 3])
    rw [hW0]
    clear hW0 H HI
    have hc0 := (hc.below hb0).more hb0.size
    have hp0 := (hp.below hb0).more hb0.size
    have d1 := x1.cell
    have d2 := x2.cell
    have d3 := x3.cell
    have d4 := x4.cell
    clear hc hp x1 x2 x3 x4
    go_loop [10, 28] (fun pr ic => ∃ (k : Nat) (p : Int), k ≤ ps.length ∧ ic = .int .i64 k ∧ pr = .int .i64 p ∧ 1 ≤ p ∧ p ≤ 68719476736 ∧ Hid (p = prodAt cs (ps.take k))) (fun _ ic => ps.length - (intOf ic).toNat)
    case atStart => exact ⟨0, 1, Nat.zero_le _, rfl, rfl, by omega, by omega, by show _ = _; simp [prodAt, prodL]⟩
    case round =>
      obtain ⟨k, p, hk, rfl, rfl, hp1, hp2, HP⟩ := hrel
      by_cases hlt : k < ps.length
      · obtain ⟨b, off, hA', hb, hcell⟩ := hp0 k hlt
        have hpk := incr_mem HIN.out ps[k] (List.getElem_mem hlt)
        have hk2 : ps[k].toNat < cs.length := by omega
        obtain ⟨b', off', hA, hb', hcell'⟩ := hc0 ps[k].toNat hk2
        subst hA hA'
        have hpk0 : 0 ≤ ps[k] := by omega
        have hpk1 : ps[k] < (cs.length : Int) := hpk.2
        have hcd := hg.at_ hk2
        have hn := prodAt_bd hg (ps.take (k + 1)) (take_mem_bd HIN.out (k + 1))
        have he := prodAt_take (cs := cs) hlt
        have hgd : cs.getD ps[k].toNat 0 = cs[ps[k].toNat] := by simp [List.getD_eq_getElem?_getD, List.getElem?_eq_getElem hk2]
        rw [hgd, ← HP.out] at he
        have h8 := pow8_le (k := (ps.take (k + 1)).length) (by simp; omega)
        rw [he] at hn
        have hn1 := hn.1
        have hn2 : p * cs[ps[k].toNat] ≤ 68719476736 := by omega
        have HE := Lib.hid he
        clear he hgd hn h8 hc0 hp0 hpk
        go_wp2
        go_round
        case rel => exact ⟨k + 1, p * cs[ps[k].toNat], by omega, by go_num, rfl, hn1, hn2, HE.out.symm⟩
        case measure => simp [intOf]; omega
      · obtain rfl : k = ps.length := by omega
        have hpp : p = prodAt cs ps := by rw [HP.out, List.take_length]
        subst hpp
        clear HP
        have hcnt := hits_count hg hj0 (by rw [HPP.out]; exact hj1)
        rw [HPP.out] at hcnt
        have hquo : prodL cs / prodAt cs ps = ((hits cs ps j).length : Int) := by rw [← hcnt]; exact Int.mul_ediv_cancel _ (by omega)
        have hlen : (hits cs ps j).length ≤ 65536 := by
          have h1 : ((hits cs ps j).length : Int) * 1 ≤ ((hits cs ps j).length : Int) * prodAt cs ps := Int.mul_le_mul_of_nonneg_left hp1 (by omega)
          omega
        have HC := Lib.hid (collect_it (hitF cs ps j) (hits cs ps j).length hlen 71 _ enters_spread W0.heap.size W0 (Nat.le_refl _) (spread_it hg j A A' c c' (w.heap.size + 3) w.heap.size (w.heap.size + 1) (w.heap.size + 2) W0 hpl hc0 hp0 d4 d1 d2 d3))
        rw [← hquo] at HC
        clear hcnt hquo hlen hc0 hp0
        go_wp2_with (go_at_call 72; refine (HC.out).mono ?_; rintro e w' ⟨g, rfl, hg1, hg2, hg3⟩)
        go_ret2
        exact ⟨g, rfl, by omega, hg2, hb0.trans (hg3.mono hb0.size)⟩

end Go.Proofs.Ytmnaidemihcfaaa
