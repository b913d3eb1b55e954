/- Walks of package index, the first part: count, increasing, Check, Size, Index. -/
import Derived.Test.YtmnaidemihcfaaaKit
import Derived.Test.YtmnaidemihcfaaaIxM
namespace Go.Proofs.Ytmnaidemihcfaaa
open Go.RowKit

def cntV (o : Option Int) : Value := match o with | none => .tuple #[.int .i64 0, .bool false] | some s => .tuple #[.int .i64 s, .bool true]

theorem count_long (A : Option Addr) (n c : Nat) (w : World) (h : 12 < n) :
    Calls Try.prog 68 #[.slice A n c] w fun e w' => e = .returned (.tuple #[.int .i64 0, .bool false]) ∧ w = w' := by
  have h' : (12 : Int) < (n : Int) := by omega
  go_enter Try.func68, Try.ntmps68
  go_wp2
  go_step3
  go_wp2
  rw [Exit.noGoto_ret]
  go_ret2
  exact ⟨rfl, rfl⟩

set_option maxHeartbeats 400000 in
theorem count_short (A : Option Addr) (cs : List Int) (c : Nat) (w : World) (h : cs.length ≤ 12) (B : Nat) (hc : Ints w B A cs) :
    Calls Try.prog 68 #[.slice A cs.length c] w fun e w' => e = .returned (cntV (cnt 1 cs)) ∧ w = w' := by
  have h' : (cs.length : Int) ≤ 12 := by omega
  go_enter Try.func68, Try.ntmps68
  go_wp2
  go_step3
  go_wp2
  go_step3
  go_wp2
  go_loop [2, 3, 11] (fun s o i => ∃ (k : Nat) (t : Int), k ≤ cs.length ∧ i = .int .i64 k ∧ s = .int .i64 t ∧ o = .bool true ∧ 1 ≤ t ∧ t ≤ 4096 ∧ Hid (cnt 1 cs = cnt t (cs.drop k))) (fun _ _ i => cs.length - (intOf i).toNat)
  case atStart => exact ⟨0, 1, Nat.zero_le _, rfl, rfl, rfl, by omega, by omega, rfl⟩
  case round =>
    obtain ⟨k, t, hk, rfl, rfl, rfl, ht1, ht2, HC⟩ := hrel
    by_cases hlt : k < cs.length
    · obtain ⟨b, off, rfl, hb, hcell⟩ := hc k hlt
      clear hc
      have HD := Lib.hid (cnt_drop t hlt)
      by_cases hc1 : cs[k] < 1
      · go_wp2
        go_ret2
        exact ⟨by rw [HC.out, HD.out, if_pos (.inl hc1)]; rfl, rfl⟩
      · by_cases hc2 : 8 < cs[k]
        · go_wp2
          go_ret2
          exact ⟨by rw [HC.out, HD.out, if_pos (.inr (.inl hc2))]; rfl, rfl⟩
        · obtain ⟨hm1, hm2⟩ := mul_bd ht1 ht2 (by omega) (show cs[k] ≤ 8 by omega)
          by_cases hc3 : 4096 < t * cs[k]
          · go_wp2
            go_ret2
            exact ⟨by rw [HC.out, HD.out, if_pos (.inr (.inr hc3))]; rfl, rfl⟩
          · go_wp2
            go_round
            case rel => exact ⟨k + 1, t * cs[k], by omega, by go_num, rfl, rfl, by omega, by omega, by show _ = _; rw [HC.out, HD.out, if_neg (by omega)]⟩
            case measure => simp [intOf]; omega
    · go_wp2
      go_ret2
      have : k = cs.length := by omega
      subst this
      exact ⟨by rw [HC.out]; simp [cnt, cntV], rfl⟩

theorem count_any (A : Option Addr) (cs : List Int) (c : Nat) (w : World) (B : Nat) (hc : Ints w B A cs) :
    Calls Try.prog 68 #[.slice A cs.length c] w fun e w' => e = .returned (cntV (count cs)) ∧ w = w' := by
  unfold count
  by_cases h : 12 < cs.length
  · rw [if_pos h]; exact count_long _ _ _ _ h
  · rw [if_neg h]; exact count_short _ _ _ _ (by omega) B hc

theorem count_none (A : Option Addr) (cs : List Int) (c : Nat) (w : World) (B : Nat) (hc : Ints w B A cs) (h : count cs = none) :
    Calls Try.prog 68 #[.slice A cs.length c] w fun e w' => e = .returned (.tuple #[.int .i64 0, .bool false]) ∧ w = w' := by
  have := count_any A cs c w B hc; rw [h] at this; exact this

theorem count_some (A : Option Addr) (cs : List Int) (c : Nat) (w : World) (B : Nat) (hc : Ints w B A cs) {t : Int} (h : count cs = some t) :
    Calls Try.prog 68 #[.slice A cs.length c] w fun e w' => e = .returned (.tuple #[.int .i64 t, .bool true]) ∧ w = w' := by
  have := count_any A cs c w B hc; rw [h] at this; exact this

set_option maxHeartbeats 400000 in
theorem increasing_any (n : Int) (A : Option Addr) (ps : List Int) (c : Nat) (w : World) (h : ps.length ≤ 9223372036854775807) (B : Nat) (hc : Ints w B A ps) :
    Calls Try.prog 69 #[.int .i64 n, .slice A ps.length c] w fun e w' => e = .returned (.bool (incr n (-1) ps)) ∧ w = w' := by
  go_enter Try.func69, Try.ntmps69
  go_wp2
  go_loop [5, 10] (fun s i => ∃ (k : Nat) (t : Int), k ≤ ps.length ∧ i = .int .i64 k ∧ s = .int .i64 t ∧ Hid (incr n (-1) ps = incr n t (ps.drop k))) (fun _ i => ps.length - (intOf i).toNat)
  case atStart => exact ⟨0, -1, Nat.zero_le _, rfl, rfl, rfl⟩
  case round =>
    obtain ⟨k, t, hk, rfl, rfl, HC⟩ := hrel
    by_cases hlt : k < ps.length
    · obtain ⟨b, off, rfl, hb, hcell⟩ := hc k hlt
      clear hc
      have HD := Lib.hid (incr_drop n t hlt)
      by_cases hc1 : ps[k] ≤ t
      · go_wp2
        go_ret
        exact ⟨by rw [HC.out, HD.out, if_pos (.inl hc1)]; rfl, rfl⟩
      · by_cases hc2 : n ≤ ps[k]
        · go_wp2
          go_ret
          exact ⟨by rw [HC.out, HD.out, if_pos (.inr hc2)]; rfl, rfl⟩
        · go_wp2
          go_round
          case rel => exact ⟨k + 1, ps[k], by omega, by go_num, rfl, by show _ = _; rw [HC.out, HD.out, if_neg (by omega)]⟩
          case measure => simp [intOf]; omega
    · go_wp2
      go_ret
      have : k = ps.length := by omega
      subst this
      exact ⟨by rw [HC.out]; simp [incr], rfl⟩

def errOf (o : Option Int) : Int := match o with | none => 20 | some _ => 0

theorem Check_any (A : Option Addr) (cs : List Int) (c : Nat) (w : World) (B : Nat) (hc : Ints w B A cs) :
    Calls Try.prog 42 #[.slice A cs.length c] w fun e w' => e = .returned (.int .i64 (errOf (count cs))) ∧ w = w' := by
  cases h : count cs with
  | none =>
    have H := Lib.hid (count_none A cs c w B hc h)
    clear h hc
    go_enter Try.func42, Try.ntmps42
    go_wp2_with (go_at_call 68; refine (H.out).mono ?_; rintro e w' ⟨rfl, rfl⟩)
    go_ret
    exact ⟨rfl, rfl⟩
  | some t =>
    have H := Lib.hid (count_some A cs c w B hc h)
    clear h hc
    go_enter Try.func42, Try.ntmps42
    go_wp2_with (go_at_call 68; refine (H.out).mono ?_; rintro e w' ⟨rfl, rfl⟩)
    go_ret
    exact ⟨rfl, rfl⟩

/-- a number and an error -/
def numV (p : Int × Int) : Value := .tuple #[.int .i64 p.1, .int .i64 p.2]

def sizeG (cs : List Int) : Int × Int := match count cs with | none => (0, 20) | some t => (t, 0)

theorem Size_any (A : Option Addr) (cs : List Int) (c : Nat) (w : World) (B : Nat) (hc : Ints w B A cs) :
    Calls Try.prog 38 #[.slice A cs.length c] w fun e w' => e = .returned (numV (sizeG cs)) ∧ w = w' := by
  unfold sizeG
  cases h : count cs with
  | none =>
    have H := Lib.hid (count_none A cs c w B hc h)
    clear h hc
    go_enter Try.func38, Try.ntmps38
    go_wp2_with (go_at_call 68; refine (H.out).mono ?_; rintro e w' ⟨rfl, rfl⟩)
    go_ret2
    exact ⟨rfl, rfl⟩
  | some t =>
    have H := Lib.hid (count_some A cs c w B hc h)
    clear h hc
    go_enter Try.func38, Try.ntmps38
    go_wp2_with (go_at_call 68; refine (H.out).mono ?_; rintro e w' ⟨rfl, rfl⟩)
    go_ret2
    exact ⟨rfl, rfl⟩

def hornR : Option Int → Int × Int
  | none => (0, 2)
  | some n => (n, 0)

def indexG (cs vs : List Int) : Int × Int :=
  match count cs with
  | none => (0, 20)
  | some _ => if vs.length ≠ cs.length then (0, 2) else hornR (hornerQ 0 cs vs)

theorem indexG_none {cs vs : List Int} (h : count cs = none) : indexG cs vs = (0, 20) := by simp [indexG, h]
theorem indexG_len {cs vs : List Int} {t : Int} (h : count cs = some t) (hl : vs.length ≠ cs.length) : indexG cs vs = (0, 2) := by simp [indexG, h, hl]
theorem indexG_eq {cs vs : List Int} {t : Int} (h : count cs = some t) (hl : vs.length = cs.length) : indexG cs vs = hornR (hornerQ 0 cs vs) := by simp [indexG, h, hl]

theorem hornerQ_drop {cs vs : List Int} {k : Nat} (n : Int) (h : k < cs.length) (h' : k < vs.length) :
    hornerQ n (cs.drop k) (vs.drop k) = if vs[k] < 0 ∨ cs[k] ≤ vs[k] then none else hornerQ (n * cs[k] + vs[k]) (cs.drop (k + 1)) (vs.drop (k + 1)) := by
  rw [List.drop_eq_getElem_cons h, List.drop_eq_getElem_cons h']; rfl

theorem horner_step {n c v P M : Int} (hn : 0 ≤ n) (hc : 1 ≤ c) (hP : 1 ≤ P) (hv0 : 0 ≤ v) (hv : v < c) (h : (n + 1) * (c * P) ≤ M) : 0 ≤ n * c + v ∧ (n * c + v + 1) * P ≤ M := by
  have h0 : 0 ≤ n * c := Int.mul_nonneg hn (by omega)
  refine ⟨by omega, ?_⟩
  have h1 : (n * c + v + 1) * P ≤ (n * c + c) * P := Int.mul_le_mul_of_nonneg_right (by omega) (by omega)
  have h2 : (n * c + c) * P = (n + 1) * (c * P) := by rw [← Int.mul_assoc, Int.add_mul n 1 c, Int.one_mul]
  omega

theorem horner_le {n P M : Int} (hn : 0 ≤ n) (hP : 1 ≤ P) (h : (n + 1) * P ≤ M) : n < M := by
  have : (n + 1) * 1 ≤ (n + 1) * P := Int.mul_le_mul_of_nonneg_left hP (by omega)
  omega

set_option maxHeartbeats 1000000 in
theorem Index_any (A A' : Option Addr) (cs vs : List Int) (c c' : Nat) (w : World) (hl : vs.length ≤ 9223372036854775807) (B : Nat) (hc : Ints w B A cs) (hv : Ints w B A' vs) :
    Calls Try.prog 41 #[.slice A cs.length c, .slice A' vs.length c'] w fun e w' => e = .returned (numV (indexG cs vs)) ∧ w = w' := by
  cases h : count cs with
  | none =>
    have HG := Lib.hid (indexG_none (vs := vs) h)
    have H := Lib.hid (count_none A cs c w B hc h)
    clear h hc hv
    go_enter Try.func41, Try.ntmps41
    go_wp2_with (go_at_call 68; refine (H.out).mono ?_; rintro e w' ⟨rfl, rfl⟩)
    go_ret2
    exact ⟨by rw [HG.out]; rfl, rfl⟩
  | some t =>
    have H := Lib.hid (count_some A cs c w B hc h)
    obtain ⟨hg, rfl⟩ := good_of h
    by_cases hn : vs.length = cs.length
    · have HG := Lib.hid (indexG_eq h hn)
      clear h
      have hneq : ((vs.length : Int) != (cs.length : Int)) = false := by simp [hn]
      have hl12 := hg.len
      go_enter Try.func41, Try.ntmps41
      go_wp2_with (go_at_call 68; refine (H.out).mono ?_; rintro e w' ⟨rfl, rfl⟩)
      go_loop [8, 25] (fun s i => ∃ (k : Nat) (t : Int), k ≤ vs.length ∧ i = .int .i64 k ∧ s = .int .i64 t ∧ 0 ≤ t ∧ (t + 1) * prodL (cs.drop k) ≤ prodL cs ∧ Hid (hornerQ 0 cs vs = hornerQ t (cs.drop k) (vs.drop k))) (fun _ i => vs.length - (intOf i).toNat)
      case atStart => exact ⟨0, 0, Nat.zero_le _, rfl, rfl, by omega, by simp, rfl⟩
      case round =>
        obtain ⟨k, t, hk, rfl, rfl, ht0, ht1, HC⟩ := hrel
        by_cases hlt : k < vs.length
        · have hlt' : k < cs.length := by omega
          obtain ⟨b, off, rfl, hb, hcell⟩ := hv k hlt
          obtain ⟨b', off', rfl, hb', hcell'⟩ := hc k hlt'
          have hlt2 : (k : Int) < (cs.length : Int) := by omega
          have HD := Lib.hid (hornerQ_drop t hlt' hlt)
          by_cases hc1 : vs[k] < 0
          · clear hc hv hg hneq hn
            go_wp2
            go_ret2
            exact ⟨by rw [HG.out, HC.out, HD.out, if_pos (.inl hc1)]; rfl, rfl⟩
          · by_cases hc2 : cs[k] ≤ vs[k]
            · clear hc hv hg hneq hn
              go_wp2
              go_ret2
              exact ⟨by rw [HG.out, HC.out, HD.out, if_pos (.inr hc2)]; rfl, rfl⟩
            · have hcd := hg.at_ hlt'
              have hle0 := horner_le ht0 (prodL_drop_pos hg k) ht1
              rw [prodL_drop hlt'] at ht1
              have hst := horner_step (v := vs[k]) ht0 hcd.1 (prodL_drop_pos hg (k + 1)) (by omega) (by omega) ht1
              have hle := horner_le hst.1 (prodL_drop_pos hg (k + 1)) hst.2
              have h4096 := hg.le
              have hm := mul_bd (t := t + 1) (c := cs[k]) (by omega) (by omega) hcd.1 hcd.2
              have hexp : (t + 1) * cs[k] = t * cs[k] + cs[k] := by rw [Int.add_mul, Int.one_mul]
              have hm1 : t * cs[k] ≤ 40000 := by omega
              have hm0 : 0 ≤ t * cs[k] := Int.mul_nonneg ht0 (by omega)
              have HS := Lib.hid hst
              clear hc hv hneq hn ht1 hst hexp hm
              go_wp2
              go_round
              case rel => exact ⟨k + 1, t * cs[k] + vs[k], by omega, by go_num, rfl, HS.out.1, HS.out.2, by show _ = _; rw [HC.out, HD.out, if_neg (by omega)]⟩
              case measure => simp [intOf]; omega
        · clear hc hv hneq
          go_wp2
          go_ret2
          have : k = vs.length := by omega
          subst this
          exact ⟨by rw [HG.out, HC.out]; rw [List.drop_of_length_le (by omega)]; simp [hornerQ, numV, hornR], rfl⟩
    · have HG := Lib.hid (indexG_len h hn)
      clear h
      have hneq : ((vs.length : Int) != (cs.length : Int)) = true := by simp; omega
      clear hc hv hg
      go_enter Try.func41, Try.ntmps41
      go_wp2_with (go_at_call 68; refine (H.out).mono ?_; rintro e w' ⟨rfl, rfl⟩)
      go_ret2
      exact ⟨by rw [HG.out]; rfl, rfl⟩

end Go.Proofs.Ytmnaidemihcfaaa
