/- Walks of package index: Permute. -/
import Derived.Test.YtmnaidemihcfaaaIxSs
import Derived.WalkSmall
import Derived.Laws.BitsAllLaws
namespace Go.Proofs.Ytmnaidemihcfaaa
open Go.RowKit

/-- a permutation, as the program checks it -/
def permC (n : Int) : Nat → List Int → Bool
  | _, [] => true
  | s, p :: ps => if p < 0 ∨ n ≤ p ∨ s.testBit p.toNat = true then false else permC n (s ||| 2 ^ p.toNat) ps

def permNum (cs : List Int) (vs : Nat → Int) : List Int → Int → Int
  | [], n => n
  | p :: ps, n => permNum cs vs ps (n * cs.getD p.toNat 0 + vs p.toNat)

def PermuteS (cs ps : List Int) (i : Int) : Int × Int :=
  match count cs with
  | none => (0, 20)
  | some t => if ps.length ≠ cs.length ∨ i < 0 ∨ t ≤ i then (0, 2) else if permC cs.length 0 ps = false then (0, 2) else (permNum cs (valF cs i) ps 0, 0)

theorem permC_drop {ps : List Int} {k : Nat} (n : Int) (s : Nat) (h : k < ps.length) : permC n s (ps.drop k) = if ps[k] < 0 ∨ n ≤ ps[k] ∨ s.testBit ps[k].toNat = true then false else permC n (s ||| 2 ^ ps[k].toNat) (ps.drop (k + 1)) := by
  rw [List.drop_eq_getElem_cons h]; rfl

theorem permNum_drop {ps : List Int} {k : Nat} (cs : List Int) (vs : Nat → Int) (n : Int) (h : k < ps.length) : permNum cs vs (ps.drop k) n = permNum cs vs (ps.drop (k + 1)) (n * cs.getD ps[k].toNat 0 + vs ps[k].toNat) := by
  rw [List.drop_eq_getElem_cons h]; rfl

theorem permC_mem : ∀ {ps : List Int} {n : Int} {s : Nat}, permC n s ps = true → ∀ p ∈ ps, 0 ≤ p ∧ p < n
  | [], _, _, _ => by simp
  | q :: ps, n, s, h => by
    have e : permC n s (q :: ps) = if q < 0 ∨ n ≤ q ∨ s.testBit q.toNat = true then false else permC n (s ||| 2 ^ q.toNat) ps := rfl
    rw [e] at h
    split at h
    · cases h
    · rename_i hq
      intro p hp
      rcases List.mem_cons.1 hp with rfl | hp
      · omega
      · exact permC_mem h p hp

theorem bit_test {s q : Nat} (hs : s < 4096) : (bits BinOp.and IntKind.u64 ((s : Int) / 2 ^ q) 1 == 1) = s.testBit q := by
  have h2 : ((s : Int) / 2 ^ q) = ((s / 2 ^ q : Nat) : Int) := by simp
  have hle : s / 2 ^ q ≤ s := Nat.div_le_self _ _
  rw [h2, Nat.testBit_eq_decide_div_mod_eq]
  generalize s / 2 ^ q = t at *
  rw [and_one_u64 _ (by omega) (by omega), Bool.eq_iff_iff]
  simp
  omega

theorem bit_set {s q : Nat} (hs : s < 4096) (hq : q < 12) : bits BinOp.or IntKind.u64 (s : Int) (IntKind.u64.wrap (2 ^ q)) = ((s ||| 2 ^ q : Nat) : Int) ∧ s ||| 2 ^ q < 4096 := by
  have h2 : 2 ^ q < 2 ^ 12 := Nat.pow_lt_pow_right (by omega) hq
  have hw : IntKind.u64.wrap (2 ^ q) = ((2 ^ q : Nat) : Int) := by
    rw [IntKind.wrap_u64]
    have e : ((2 : Int) ^ q) = ((2 ^ q : Nat) : Int) := by simp
    rw [e]
    generalize 2 ^ q = t at *
    omega
  rw [hw]
  exact ⟨u64_or_nat _ _ (by omega) (by omega), Nat.or_lt_two_pow (n := 12) (by omega) h2⟩

theorem perm_step {n c v P : Int} (hn : 0 ≤ n) (h : n < P) (hc : 1 ≤ c) (hc8 : c ≤ 8) (hv0 : 0 ≤ v) (hv : v < c) : 0 ≤ n * c + v ∧ n * c + v < P * 8 ∧ 0 ≤ n * c ∧ n * c ≤ P * 8 := by
  have a : 0 ≤ n * c := Int.mul_nonneg hn (by omega)
  have b : n * c + c ≤ P * c := by
    have : (n + 1) * c ≤ P * c := Int.mul_le_mul_of_nonneg_right (by omega) (by omega)
    rw [Int.add_mul, Int.one_mul] at this; exact this
  have d : P * c ≤ P * 8 := Int.mul_le_mul_of_nonneg_left hc8 (by omega)
  omega

set_option maxRecDepth 100000 in
set_option maxHeartbeats 4000000 in
theorem Permute_go (A A' : Option Addr) (cs ps : List Int) (c c' : Nat) (i : Int) (w : World) (hc : Ints w w.heap.size A cs) (hp : Ints w w.heap.size A' ps) (hg : Good cs) (hl : ps.length = cs.length) (hi0 : 0 ≤ i) (hi1 : i < prodL cs) :
    Calls Try.prog 31 #[.slice A cs.length c, .slice A' ps.length c', .int .i64 i] w fun e w' => e = .returned (numV (if permC cs.length 0 ps = false then (0, 2) else (permNum cs (valF cs i) ps 0, 0))) ∧ Below w.heap.size w w' := by
  have H := Lib.hid (count_some A cs c _ _ hc hg.count)
  have hl12 := hg.len
  have hll : ((ps.length : Int) != (cs.length : Int)) = false := by simp [hl]
  have hpl : ps.length ≤ 12 := by omega
  have HL := Lib.hid hl
  clear hl
  obtain ⟨res, hres⟩ : ∃ res, (if permC cs.length 0 ps = false then ((0 : Int), (2 : Int)) else (permNum cs (valF cs i) ps 0, 0)) = res := ⟨_, rfl⟩
  rw [hres]
  have HR := Lib.hid hres
  clear hres
  go_enter Try.func31, Try.ntmps31
  go_wp2_with (first
      | (go_at_call 68; refine (H.out).mono ?_; rintro e w' ⟨rfl, rfl⟩))
  go_loop [10, 40] (fun sn ic => ∃ (k : Nat) (s : Nat), k ≤ ps.length ∧ ic = .int .i64 k ∧ sn = .int .u64 s ∧ s < 4096 ∧ Hid (permC cs.length 0 ps = permC cs.length s (ps.drop k))) (fun _ ic => ps.length - (intOf ic).toNat)
  case atStart => exact ⟨0, 0, Nat.zero_le _, rfl, rfl, by omega, rfl⟩
  case round =>
    obtain ⟨k, s, hk, rfl, rfl, hs, HC⟩ := hrel
    by_cases hlt : k < ps.length
    · obtain ⟨b, off, hA', hb, hcell⟩ := hp k hlt
      subst hA'
      clear hp hc
      have HD := Lib.hid (permC_drop cs.length s hlt)
      by_cases h0 : ps[k] < 0
      · go_wp2
        go_ret2
        exact ⟨by rw [← HR.out, if_pos (by rw [HC.out, HD.out, if_pos (.inl h0)])]; rfl, Below.refl _ _⟩
      · by_cases h1 : (cs.length : Int) ≤ ps[k]
        · go_wp2
          go_ret2
          exact ⟨by rw [← HR.out, if_pos (by rw [HC.out, HD.out, if_pos (.inr (.inl h1))])]; rfl, Below.refl _ _⟩
        · have hbt := bit_test (q := ps[k].toNat) hs
          have HB := Lib.hid (bit_set (q := ps[k].toNat) hs (by omega))
          cases ht : s.testBit ps[k].toNat with
          | true =>
            rw [ht] at hbt
            have HT := Lib.hid ht
            clear ht
            go_wp2
            go_ret2
            exact ⟨by rw [← HR.out, if_pos (by rw [HC.out, HD.out, if_pos (.inr (.inr HT.out))])]; rfl, Below.refl _ _⟩
          | false =>
            rw [ht] at hbt
            have HT := Lib.hid ht
            clear ht
            go_wp2
            go_round
            case rel => exact ⟨k + 1, s ||| 2 ^ ps[k].toNat, by omega, by go_num, by rw [HB.out.1], HB.out.2, by show _ = _; rw [HC.out, HD.out, if_neg (by rw [HT.out]; simp; omega)]⟩
            case measure => simp [intOf]; omega
    · obtain rfl : k = ps.length := by omega
      have hperm : permC cs.length 0 ps = true := by rw [HC.out, List.drop_length]; rfl
      have HRes : Hid (res = (permNum cs (valF cs i) ps 0, 0)) := by
        show _ = _
        rw [← HR.out, hperm]; simp
      have HM := Lib.hid (permC_mem hperm)
      clear HC hperm HR
      obtain ⟨W0, hW0⟩ : ∃ W0, ((w.alloc (.cells #[.slice A cs.length c] 22)).alloc (.cells #[.int .i64 (prodL cs)] 3)).alloc (.cells #[.int .i64 i] 3) = W0 := ⟨_, rfl⟩
      have hb0 : Below w.heap.size w W0 := by rw [← hW0]; exact bel3 _ _ _ _
      have hs0 : W0.heap.size = w.heap.size + 3 := by rw [← hW0]; simp
      have HC := Lib.hid (collect_it (valF cs i) cs.length (by omega) 101 _ enters_values w.heap.size W0 hb0.size
        (values_it hg hi0 hi1 A c w.heap.size (w.heap.size + 2) (w.heap.size + 1) w.heap.size W0 hb0.size (hc.below hb0)
          (by rw [← hW0]; exact (three_cells _ _ _ _ _ _ _).1) (by rw [← hW0]; exact (three_cells _ _ _ _ _ _ _).2.1) (by rw [← hW0]; exact (three_cells _ _ _ _ _ _ _).2.2)))
      have HW := Lib.hid hW0
      have hcb : ∀ W1, Below w.heap.size w W1 → Ints W1 w.heap.size A cs := fun W1 h => hc.below h
      have hpb : ∀ W1, Below w.heap.size w W1 → Ints W1 w.heap.size A' ps := fun W1 h => hp.below h
      have HCB := Lib.hid hcb
      have HPB := Lib.hid hpb
      clear hW0 hc hp hcb hpb
      go_wp2_with (first
        | (go_at_call 73; refine (values_any _ _ _ _ _ _).mono ?_; rintro e w' ⟨rfl, hw'⟩; rw [HW.out] at hw'; subst hw')
        | (go_at_call 72; refine (HC.out).mono ?_; rintro e w1 ⟨g, rfl, hg1, hg2, hg3⟩))
      have hb1 : Below w.heap.size w w1 := hb0.trans (hg3.mono hb0.size)
      have hc1 := HCB.out w1 hb1
      have hp1 := HPB.out w1 hb1
      clear HC HW HCB HPB hg3
      go_loopw [14, 73] (fun nv ic wr => ∃ (k : Nat) (n : Int) (d : Nat), k ≤ ps.length ∧ ic = .int .i64 k ∧ nv = .int .i64 n ∧ wr = w1.drewN d ∧ 0 ≤ n ∧ n < 8 ^ k ∧ Hid (permNum cs (valF cs i) ps 0 = permNum cs (valF cs i) (ps.drop k) n)) (fun _ ic _ => ps.length - (intOf ic).toNat)
      case atStart => exact ⟨0, 0, 0, Nat.zero_le _, rfl, rfl, rfl, by omega, by simp, rfl⟩
      case round =>
        obtain ⟨k, n, d, hk, rfl, rfl, rfl, hn0, hn1, HP⟩ := hrel
        by_cases hlt : k < ps.length
        · have hq := HM.out ps[k] (List.getElem_mem hlt)
          have hk2 : ps[k].toNat < cs.length := by omega
          obtain ⟨b, off, hA', hb, hcell⟩ := hp1 k hlt
          obtain ⟨b', off', hA, hb', hcell'⟩ := hc1 ps[k].toNat hk2
          subst hA hA'
          have hq0 := hq.1
          have hq1 := hq.2
          have hrow := hg2.cell hk2
          have hcd := hg.at_ hk2
          have hv := valF_bd hg hi0 hi1 hk2
          have hst := perm_step hn0 hn1 hcd.1 hcd.2 hv.1 hv.2
          have h8 := pow8_le (k := k + 1) (by omega)
          have hpw : (8 : Int) ^ (k + 1) = 8 ^ k * 8 := Int.pow_succ _ _
          rw [hpw] at h8
          have m1 := hst.2.2.1
          have m2 : n * cs[ps[k].toNat] ≤ 68719476736 := by omega
          have m3 := hst.1
          have m4 : n * cs[ps[k].toNat] + valF cs i ps[k].toNat ≤ 68719476736 := by omega
          have hgd : cs.getD ps[k].toNat 0 = cs[ps[k].toNat] := by simp [List.getD_eq_getElem?_getD, List.getElem?_eq_getElem hk2]
          have hd := permNum_drop cs (valF cs i) n hlt
          rw [hgd] at hd
          have HD := Lib.hid hd
          have HS := Lib.hid hst
          have HPW := Lib.hid hpw
          obtain ⟨vv, hvv⟩ : ∃ vv, valF cs i ps[k].toNat = vv := ⟨_, rfl⟩
          rw [hvv] at hrow m3 m4 HD HS hv
          clear hd hst hpw hgd h8 hn1 hq hp1 hc1 hvv
          go_wp2
          go_quiet (fail)
          go_wp2
          go_roundw
          case rel => exact ⟨k + 1, n * cs[ps[k].toNat] + vv, d + nq, by omega, by go_num, rfl, rfl, m3, by rw [HPW.out]; exact HS.out.2.1, by show _ = _; rw [HP.out, HD.out]⟩
          case measure => simp [intOf]; omega
        · obtain rfl : k = ps.length := by omega
          have hfin : permNum cs (valF cs i) ps 0 = n := by rw [HP.out, List.drop_length]; rfl
          have HF := Lib.hid hfin
          clear HP hfin hc1 hp1 hn1
          go_wp2
          go_ret2
          exact ⟨by rw [HRes.out, HF.out]; rfl, below_drewN hb1 d⟩

end Go.Proofs.Ytmnaidemihcfaaa
