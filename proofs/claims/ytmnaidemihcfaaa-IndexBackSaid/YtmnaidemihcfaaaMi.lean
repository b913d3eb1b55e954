/- Chapter 02, plain: cards, combinations and their numbers. No program in sight. And the texts behind it: Walks of package index, the first part: count, increasing, Check, Size, Index. Walks of package index, the second part: values, collect, Values. Walks of package index, the third part: Values, part. Walks of package index: part, Part. Walks of package index: Part, Spread. Walks of package index: Spread's iterator. Chapter 02, plain: each part is met equally often. Walks of package index: Spread. Walks of package index: Spread. Walks of package index: Permute. Package index: the contracts of the exported functions, whole. -/
import Derived.Below
import Derived.Test.YtmnaidemihcfaaaMa
import Derived.WalkSmall
import Derived.Laws.BitsAllLaws

namespace Go.Proofs.Ytmnaidemihcfaaa

def cnt : Int → List Int → Option Int
  | s, [] => some s
  | s, c :: cs => if c < 1 ∨ 8 < c ∨ 4096 < s * c then none else cnt (s * c) cs

def prodL : List Int → Int
  | [] => 1
  | c :: cs => c * prodL cs

theorem cnt_drop {cs : List Int} {k : Nat} (t : Int) (h : k < cs.length) : cnt t (cs.drop k) = if cs[k] < 1 ∨ 8 < cs[k] ∨ 4096 < t * cs[k] then none else cnt (t * cs[k]) (cs.drop (k + 1)) := by
  rw [List.drop_eq_getElem_cons h]; rfl

theorem mul_bd {t c : Int} (h1 : 1 ≤ t) (h2 : t ≤ 4096) (h3 : 1 ≤ c) (h4 : c ≤ 8) : 1 ≤ t * c ∧ t * c ≤ 32768 := by
  have a : 1 * 1 ≤ t * c := Int.mul_le_mul h1 h3 (by omega) (by omega)
  have b : t * c ≤ 4096 * 8 := Int.mul_le_mul h2 h4 (by omega) (by omega)
  omega

/-- cards: the product, or none -/
def count (cs : List Int) : Option Int := if 12 < cs.length then none else cnt 1 cs

theorem cnt_pos : ∀ (cs : List Int) (s t : Int), 1 ≤ s → cnt s cs = some t → (∀ c ∈ cs, 1 ≤ c ∧ c ≤ 8) ∧ t = s * prodL cs ∧ (s ≤ 4096 → t ≤ 4096)
  | [], s, t, hs, h => by
    simp only [cnt, Option.some.injEq] at h
    subst h
    exact ⟨by simp, by simp [prodL], fun h => h⟩
  | c :: cs, s, t, hs, h => by
    simp only [cnt] at h
    split at h
    · cases h
    · rename_i hc
      have hc1 : 1 ≤ c := by omega
      have hsc : 1 ≤ s * c := by
        have : 1 * 1 ≤ s * c := Int.mul_le_mul hs hc1 (by omega) (by omega)
        omega
      obtain ⟨h1, h2, h3⟩ := cnt_pos cs (s * c) t hsc h
      refine ⟨?_, ?_, ?_⟩
      · intro x hx
        rcases List.mem_cons.1 hx with rfl | hx
        · omega
        · exact h1 x hx
      · rw [h2, prodL, Int.mul_assoc]
      · intro _; exact h3 (by omega)

theorem prodL_pos : ∀ (cs : List Int), (∀ c ∈ cs, 1 ≤ c) → 1 ≤ prodL cs
  | [], _ => by simp [prodL]
  | c :: cs, h => by
    have h1 := h c (List.mem_cons_self)
    have h2 := prodL_pos cs (fun x hx => h x (List.mem_cons_of_mem _ hx))
    have : 1 * 1 ≤ c * prodL cs := Int.mul_le_mul h1 h2 (by omega) (by omega)
    simp only [prodL]; omega

structure Good (cs : List Int) : Prop where
  len : cs.length ≤ 12
  card : ∀ c ∈ cs, 1 ≤ c ∧ c ≤ 8
  pos : 1 ≤ prodL cs
  le : prodL cs ≤ 4096
  count : count cs = some (prodL cs)

theorem good_of {cs : List Int} {t : Int} (h : count cs = some t) : Good cs ∧ t = prodL cs := by
  have h0 := h
  unfold count at h
  split at h
  · cases h
  · obtain ⟨h1, h2, h3⟩ := cnt_pos cs 1 t (by omega) h
    have h4 : t = prodL cs := by omega
    refine ⟨⟨by omega, h1, prodL_pos cs (fun c hc => (h1 c hc).1), by rw [← h4]; exact h3 (by omega), by rw [h0, h4]⟩, h4⟩

theorem Good.at_ {cs : List Int} (h : Good cs) {k : Nat} (hk : k < cs.length) : 1 ≤ cs[k] ∧ cs[k] ≤ 8 := h.card _ (List.getElem_mem hk)

/-- strictly increasing, from 'last' on, below n -/
def incr (n : Int) : Int → List Int → Bool
  | _, [] => true
  | last, p :: ps => if p ≤ last ∨ n ≤ p then false else incr n p ps

theorem incr_drop {ps : List Int} {k : Nat} (n last : Int) (h : k < ps.length) : incr n last (ps.drop k) = if ps[k] ≤ last ∨ n ≤ ps[k] then false else incr n ps[k] (ps.drop (k + 1)) := by
  rw [List.drop_eq_getElem_cons h]; rfl

/-- Index, by Horner: none where an element does not fit -/
def hornerQ : Int → List Int → List Int → Option Int
  | n, c :: cs, v :: vs => if v < 0 ∨ c ≤ v then none else hornerQ (n * c + v) cs vs
  | n, _, _ => some n

/-- the program's Values -/
def valsG : List Int → Int → Int → List Int
  | [], _, _ => []
  | c :: cs, step, rest => (rest / (step / c)) :: valsG cs (step / c) (rest % (step / c))

theorem valsG_length : ∀ (cs : List Int) (s r : Int), (valsG cs s r).length = cs.length
  | [], _, _ => rfl
  | c :: cs, s, r => by simp [valsG, valsG_length cs]

/-- the state (step, rest) when k places are over -/
def stG : List Int → Nat → Int × Int → Int × Int
  | [], _, s => s
  | _ :: _, 0, s => s
  | c :: cs, k + 1, s => stG cs k (s.1 / c, s.2 % (s.1 / c))

theorem stG_zero (cs : List Int) (s : Int × Int) : stG cs 0 s = s := by cases cs <;> rfl

theorem stG_succ : ∀ (cs : List Int) (k : Nat) (h : k < cs.length) (s : Int × Int),
    stG cs (k + 1) s = ((stG cs k s).1 / cs[k], (stG cs k s).2 % ((stG cs k s).1 / cs[k]))
  | [], _, h, _ => absurd h (by simp)
  | c :: cs, 0, _, s => by simp [stG, stG_zero]
  | c :: cs, k + 1, h, s => by
    have h' : k < cs.length := by simpa using h
    have := stG_succ cs k h' (s.1 / c, s.2 % (s.1 / c))
    simpa [stG] using this

theorem valsG_get : ∀ (cs : List Int) (k : Nat) (h : k < cs.length) (s : Int × Int),
    (valsG cs s.1 s.2)[k]'(by rw [valsG_length]; exact h) = (stG cs k s).2 / ((stG cs k s).1 / cs[k])
  | [], _, h, _ => absurd h (by simp)
  | c :: cs, 0, _, s => by simp [valsG, stG]
  | c :: cs, k + 1, h, s => by
    have h' : k < cs.length := by simpa using h
    have := valsG_get cs k h' (s.1 / c, s.2 % (s.1 / c))
    simpa [stG, valsG] using this

theorem prodL_drop {cs : List Int} {k : Nat} (h : k < cs.length) : prodL (cs.drop k) = cs[k] * prodL (cs.drop (k + 1)) := by
  rw [List.drop_eq_getElem_cons h]; rfl

theorem prodL_drop_pos {cs : List Int} (hg : Good cs) (k : Nat) : 1 ≤ prodL (cs.drop k) :=
  prodL_pos _ fun c hc => (hg.card c (List.mem_of_mem_drop hc)).1

/-- the step is the product of what is left; the rest is below it -/
theorem stG_inv {cs : List Int} (hg : Good cs) (i : Int) (h0 : 0 ≤ i) (h1 : i < prodL cs) : ∀ k, k ≤ cs.length →
    (stG cs k (prodL cs, i)).1 = prodL (cs.drop k) ∧ 0 ≤ (stG cs k (prodL cs, i)).2 ∧ (stG cs k (prodL cs, i)).2 < prodL (cs.drop k)
  | 0, _ => by simp [stG_zero]; omega
  | k + 1, h => by
    obtain ⟨a, b, c⟩ := stG_inv hg i h0 h1 k (by omega)
    have hk : k < cs.length := by omega
    have hp := prodL_drop hk
    have hc := hg.at_ hk
    have hq := prodL_drop_pos hg (k + 1)
    have e : (stG cs k (prodL cs, i)).1 / cs[k] = prodL (cs.drop (k + 1)) := by
      rw [a, hp]; exact Int.mul_ediv_cancel_left _ (by omega)
    rw [stG_succ cs k hk, e]
    exact ⟨rfl, Int.emod_nonneg _ (by omega), Int.emod_lt_of_pos _ (by omega)⟩

theorem div_card {cs : List Int} (hg : Good cs) {k : Nat} (hk : k < cs.length) : prodL (cs.drop k) / cs[k] = prodL (cs.drop (k + 1)) := by
  rw [prodL_drop hk]; exact Int.mul_ediv_cancel_left _ (by have := hg.at_ hk; omega)

theorem prodL_drop_le {cs : List Int} (hg : Good cs) : ∀ k, prodL (cs.drop k) ≤ 4096
  | 0 => by simpa using hg.le
  | k + 1 => by
    have h := prodL_drop_le hg k
    by_cases hk : k < cs.length
    · rw [prodL_drop hk] at h
      have hc := (hg.at_ hk).1
      have hq := prodL_drop_pos hg (k + 1)
      have : 1 * prodL (cs.drop (k + 1)) ≤ cs[k] * prodL (cs.drop (k + 1)) := Int.mul_le_mul_of_nonneg_right hc (by omega)
      omega
    · rw [List.drop_of_length_le (by omega)]; simp [prodL]

theorem valsG_bd {cs : List Int} (hg : Good cs) {i : Int} (h0 : 0 ≤ i) (h1 : i < prodL cs) {k : Nat} (hk : k < cs.length) :
    0 ≤ (valsG cs (prodL cs) i)[k]'(by rw [valsG_length]; exact hk) ∧ (valsG cs (prodL cs) i)[k]'(by rw [valsG_length]; exact hk) < cs[k] := by
  have hv := valsG_get cs k hk (prodL cs, i)
  obtain ⟨a, b, c⟩ := stG_inv hg i h0 h1 k (by omega)
  simp only at hv
  rw [hv, a, div_card hg hk]
  have hq := prodL_drop_pos hg (k + 1)
  refine ⟨Int.ediv_nonneg b (by omega), ?_⟩
  rw [prodL_drop hk] at c
  exact Int.ediv_lt_of_lt_mul (by omega) c

end Go.Proofs.Ytmnaidemihcfaaa

namespace Go.Proofs.Ytmnaidemihcfaaa
open Go.RowKit

def cntV (o : Option Int) : Value := match o with | none => .tuple #[.int .i64 0, .bool false] | some s => .tuple #[.int .i64 s, .bool true]

theorem count_long (A : Option Addr) (n c : Nat) (w : World) (h : 12 < n) :
    Calls Try.prog 68 #[.slice A n c] w fun e w' => e = .returned (.tuple #[.int .i64 0, .bool false]) ∧ w = w' := by
  have h' : (12 : Int) < (n : Int) := by omega
  go_enter Try.func68, Try.ntmps68
  go_wp2
  go_step3
  go_wp2
  rw [Exit.noGoto_ret]
  go_ret2
  exact ⟨rfl, rfl⟩

set_option maxHeartbeats 400000 in
theorem count_short (A : Option Addr) (cs : List Int) (c : Nat) (w : World) (h : cs.length ≤ 12) (B : Nat) (hc : Ints w B A cs) :
    Calls Try.prog 68 #[.slice A cs.length c] w fun e w' => e = .returned (cntV (cnt 1 cs)) ∧ w = w' := by
  have h' : (cs.length : Int) ≤ 12 := by omega
  go_enter Try.func68, Try.ntmps68
  go_wp2
  go_step3
  go_wp2
  go_step3
  go_wp2
  go_loop [2, 3, 11] (fun s o i => ∃ (k : Nat) (t : Int), k ≤ cs.length ∧ i = .int .i64 k ∧ s = .int .i64 t ∧ o = .bool true ∧ 1 ≤ t ∧ t ≤ 4096 ∧ Hid (cnt 1 cs = cnt t (cs.drop k))) (fun _ _ i => cs.length - (intOf i).toNat)
  case atStart => exact ⟨0, 1, Nat.zero_le _, rfl, rfl, rfl, by omega, by omega, rfl⟩
  case round =>
    obtain ⟨k, t, hk, rfl, rfl, rfl, ht1, ht2, HC⟩ := hrel
    by_cases hlt : k < cs.length
    · obtain ⟨b, off, rfl, hb, hcell⟩ := hc k hlt
      clear hc
      have HD := Lib.hid (cnt_drop t hlt)
      by_cases hc1 : cs[k] < 1
      · go_wp2
        go_ret2
        exact ⟨by rw [HC.out, HD.out, if_pos (.inl hc1)]; rfl, rfl⟩
      · by_cases hc2 : 8 < cs[k]
        · go_wp2
          go_ret2
          exact ⟨by rw [HC.out, HD.out, if_pos (.inr (.inl hc2))]; rfl, rfl⟩
        · obtain ⟨hm1, hm2⟩ := mul_bd ht1 ht2 (by omega) (show cs[k] ≤ 8 by omega)
          by_cases hc3 : 4096 < t * cs[k]
          · go_wp2
            go_ret2
            exact ⟨by rw [HC.out, HD.out, if_pos (.inr (.inr hc3))]; rfl, rfl⟩
          · go_wp2
            go_round
            case rel => exact ⟨k + 1, t * cs[k], by omega, by go_num, rfl, rfl, by omega, by omega, by show _ = _; rw [HC.out, HD.out, if_neg (by omega)]⟩
            case measure => simp [intOf]; omega
    · go_wp2
      go_ret2
      have : k = cs.length := by omega
      subst this
      exact ⟨by rw [HC.out]; simp [cnt, cntV], rfl⟩

theorem count_any (A : Option Addr) (cs : List Int) (c : Nat) (w : World) (B : Nat) (hc : Ints w B A cs) :
    Calls Try.prog 68 #[.slice A cs.length c] w fun e w' => e = .returned (cntV (count cs)) ∧ w = w' := by
  unfold count
  by_cases h : 12 < cs.length
  · rw [if_pos h]; exact count_long _ _ _ _ h
  · rw [if_neg h]; exact count_short _ _ _ _ (by omega) B hc

theorem count_none (A : Option Addr) (cs : List Int) (c : Nat) (w : World) (B : Nat) (hc : Ints w B A cs) (h : count cs = none) :
    Calls Try.prog 68 #[.slice A cs.length c] w fun e w' => e = .returned (.tuple #[.int .i64 0, .bool false]) ∧ w = w' := by
  have := count_any A cs c w B hc; rw [h] at this; exact this

theorem count_some (A : Option Addr) (cs : List Int) (c : Nat) (w : World) (B : Nat) (hc : Ints w B A cs) {t : Int} (h : count cs = some t) :
    Calls Try.prog 68 #[.slice A cs.length c] w fun e w' => e = .returned (.tuple #[.int .i64 t, .bool true]) ∧ w = w' := by
  have := count_any A cs c w B hc; rw [h] at this; exact this

set_option maxHeartbeats 400000 in
theorem increasing_any (n : Int) (A : Option Addr) (ps : List Int) (c : Nat) (w : World) (h : ps.length ≤ 9223372036854775807) (B : Nat) (hc : Ints w B A ps) :
    Calls Try.prog 69 #[.int .i64 n, .slice A ps.length c] w fun e w' => e = .returned (.bool (incr n (-1) ps)) ∧ w = w' := by
  go_enter Try.func69, Try.ntmps69
  go_wp2
  go_loop [5, 10] (fun s i => ∃ (k : Nat) (t : Int), k ≤ ps.length ∧ i = .int .i64 k ∧ s = .int .i64 t ∧ Hid (incr n (-1) ps = incr n t (ps.drop k))) (fun _ i => ps.length - (intOf i).toNat)
  case atStart => exact ⟨0, -1, Nat.zero_le _, rfl, rfl, rfl⟩
  case round =>
    obtain ⟨k, t, hk, rfl, rfl, HC⟩ := hrel
    by_cases hlt : k < ps.length
    · obtain ⟨b, off, rfl, hb, hcell⟩ := hc k hlt
      clear hc
      have HD := Lib.hid (incr_drop n t hlt)
      by_cases hc1 : ps[k] ≤ t
      · go_wp2
        go_ret
        exact ⟨by rw [HC.out, HD.out, if_pos (.inl hc1)]; rfl, rfl⟩
      · by_cases hc2 : n ≤ ps[k]
        · go_wp2
          go_ret
          exact ⟨by rw [HC.out, HD.out, if_pos (.inr hc2)]; rfl, rfl⟩
        · go_wp2
          go_round
          case rel => exact ⟨k + 1, ps[k], by omega, by go_num, rfl, by show _ = _; rw [HC.out, HD.out, if_neg (by omega)]⟩
          case measure => simp [intOf]; omega
    · go_wp2
      go_ret
      have : k = ps.length := by omega
      subst this
      exact ⟨by rw [HC.out]; simp [incr], rfl⟩

def errOf (o : Option Int) : Int := match o with | none => 20 | some _ => 0

theorem Check_any (A : Option Addr) (cs : List Int) (c : Nat) (w : World) (B : Nat) (hc : Ints w B A cs) :
    Calls Try.prog 42 #[.slice A cs.length c] w fun e w' => e = .returned (.int .i64 (errOf (count cs))) ∧ w = w' := by
  cases h : count cs with
  | none =>
    have H := Lib.hid (count_none A cs c w B hc h)
    clear h hc
    go_enter Try.func42, Try.ntmps42
    go_wp2_with (go_at_call 68; refine (H.out).mono ?_; rintro e w' ⟨rfl, rfl⟩)
    go_ret
    exact ⟨rfl, rfl⟩
  | some t =>
    have H := Lib.hid (count_some A cs c w B hc h)
    clear h hc
    go_enter Try.func42, Try.ntmps42
    go_wp2_with (go_at_call 68; refine (H.out).mono ?_; rintro e w' ⟨rfl, rfl⟩)
    go_ret
    exact ⟨rfl, rfl⟩

/-- a number and an error -/
def numV (p : Int × Int) : Value := .tuple #[.int .i64 p.1, .int .i64 p.2]

def sizeG (cs : List Int) : Int × Int := match count cs with | none => (0, 20) | some t => (t, 0)

theorem Size_any (A : Option Addr) (cs : List Int) (c : Nat) (w : World) (B : Nat) (hc : Ints w B A cs) :
    Calls Try.prog 38 #[.slice A cs.length c] w fun e w' => e = .returned (numV (sizeG cs)) ∧ w = w' := by
  unfold sizeG
  cases h : count cs with
  | none =>
    have H := Lib.hid (count_none A cs c w B hc h)
    clear h hc
    go_enter Try.func38, Try.ntmps38
    go_wp2_with (go_at_call 68; refine (H.out).mono ?_; rintro e w' ⟨rfl, rfl⟩)
    go_ret2
    exact ⟨rfl, rfl⟩
  | some t =>
    have H := Lib.hid (count_some A cs c w B hc h)
    clear h hc
    go_enter Try.func38, Try.ntmps38
    go_wp2_with (go_at_call 68; refine (H.out).mono ?_; rintro e w' ⟨rfl, rfl⟩)
    go_ret2
    exact ⟨rfl, rfl⟩

def hornR : Option Int → Int × Int
  | none => (0, 2)
  | some n => (n, 0)

def indexG (cs vs : List Int) : Int × Int :=
  match count cs with
  | none => (0, 20)
  | some _ => if vs.length ≠ cs.length then (0, 2) else hornR (hornerQ 0 cs vs)

theorem indexG_none {cs vs : List Int} (h : count cs = none) : indexG cs vs = (0, 20) := by simp [indexG, h]
theorem indexG_len {cs vs : List Int} {t : Int} (h : count cs = some t) (hl : vs.length ≠ cs.length) : indexG cs vs = (0, 2) := by simp [indexG, h, hl]
theorem indexG_eq {cs vs : List Int} {t : Int} (h : count cs = some t) (hl : vs.length = cs.length) : indexG cs vs = hornR (hornerQ 0 cs vs) := by simp [indexG, h, hl]

theorem hornerQ_drop {cs vs : List Int} {k : Nat} (n : Int) (h : k < cs.length) (h' : k < vs.length) :
    hornerQ n (cs.drop k) (vs.drop k) = if vs[k] < 0 ∨ cs[k] ≤ vs[k] then none else hornerQ (n * cs[k] + vs[k]) (cs.drop (k + 1)) (vs.drop (k + 1)) := by
  rw [List.drop_eq_getElem_cons h, List.drop_eq_getElem_cons h']; rfl

theorem horner_step {n c v P M : Int} (hn : 0 ≤ n) (hc : 1 ≤ c) (hP : 1 ≤ P) (hv0 : 0 ≤ v) (hv : v < c) (h : (n + 1) * (c * P) ≤ M) : 0 ≤ n * c + v ∧ (n * c + v + 1) * P ≤ M := by
  have h0 : 0 ≤ n * c := Int.mul_nonneg hn (by omega)
  refine ⟨by omega, ?_⟩
  have h1 : (n * c + v + 1) * P ≤ (n * c + c) * P := Int.mul_le_mul_of_nonneg_right (by omega) (by omega)
  have h2 : (n * c + c) * P = (n + 1) * (c * P) := by rw [← Int.mul_assoc, Int.add_mul n 1 c, Int.one_mul]
  omega

theorem horner_le {n P M : Int} (hn : 0 ≤ n) (hP : 1 ≤ P) (h : (n + 1) * P ≤ M) : n < M := by
  have : (n + 1) * 1 ≤ (n + 1) * P := Int.mul_le_mul_of_nonneg_left hP (by omega)
  omega

set_option maxHeartbeats 1000000 in
theorem Index_any (A A' : Option Addr) (cs vs : List Int) (c c' : Nat) (w : World) (hl : vs.length ≤ 9223372036854775807) (B : Nat) (hc : Ints w B A cs) (hv : Ints w B A' vs) :
    Calls Try.prog 41 #[.slice A cs.length c, .slice A' vs.length c'] w fun e w' => e = .returned (numV (indexG cs vs)) ∧ w = w' := by
  cases h : count cs with
  | none =>
    have HG := Lib.hid (indexG_none (vs := vs) h)
    have H := Lib.hid (count_none A cs c w B hc h)
    clear h hc hv
    go_enter Try.func41, Try.ntmps41
    go_wp2_with (go_at_call 68; refine (H.out).mono ?_; rintro e w' ⟨rfl, rfl⟩)
    go_ret2
    exact ⟨by rw [HG.out]; rfl, rfl⟩
  | some t =>
    have H := Lib.hid (count_some A cs c w B hc h)
    obtain ⟨hg, rfl⟩ := good_of h
    by_cases hn : vs.length = cs.length
    · have HG := Lib.hid (indexG_eq h hn)
      clear h
      have hneq : ((vs.length : Int) != (cs.length : Int)) = false := by simp [hn]
      have hl12 := hg.len
      go_enter Try.func41, Try.ntmps41
      go_wp2_with (go_at_call 68; refine (H.out).mono ?_; rintro e w' ⟨rfl, rfl⟩)
      go_loop [8, 25] (fun s i => ∃ (k : Nat) (t : Int), k ≤ vs.length ∧ i = .int .i64 k ∧ s = .int .i64 t ∧ 0 ≤ t ∧ (t + 1) * prodL (cs.drop k) ≤ prodL cs ∧ Hid (hornerQ 0 cs vs = hornerQ t (cs.drop k) (vs.drop k))) (fun _ i => vs.length - (intOf i).toNat)
      case atStart => exact ⟨0, 0, Nat.zero_le _, rfl, rfl, by omega, by simp, rfl⟩
      case round =>
        obtain ⟨k, t, hk, rfl, rfl, ht0, ht1, HC⟩ := hrel
        by_cases hlt : k < vs.length
        · have hlt' : k < cs.length := by omega
          obtain ⟨b, off, rfl, hb, hcell⟩ := hv k hlt
          obtain ⟨b', off', rfl, hb', hcell'⟩ := hc k hlt'
          have hlt2 : (k : Int) < (cs.length : Int) := by omega
          have HD := Lib.hid (hornerQ_drop t hlt' hlt)
          by_cases hc1 : vs[k] < 0
          · clear hc hv hg hneq hn
            go_wp2
            go_ret2
            exact ⟨by rw [HG.out, HC.out, HD.out, if_pos (.inl hc1)]; rfl, rfl⟩
          · by_cases hc2 : cs[k] ≤ vs[k]
            · clear hc hv hg hneq hn
              go_wp2
              go_ret2
              exact ⟨by rw [HG.out, HC.out, HD.out, if_pos (.inr hc2)]; rfl, rfl⟩
            · have hcd := hg.at_ hlt'
              have hle0 := horner_le ht0 (prodL_drop_pos hg k) ht1
              rw [prodL_drop hlt'] at ht1
              have hst := horner_step (v := vs[k]) ht0 hcd.1 (prodL_drop_pos hg (k + 1)) (by omega) (by omega) ht1
              have hle := horner_le hst.1 (prodL_drop_pos hg (k + 1)) hst.2
              have h4096 := hg.le
              have hm := mul_bd (t := t + 1) (c := cs[k]) (by omega) (by omega) hcd.1 hcd.2
              have hexp : (t + 1) * cs[k] = t * cs[k] + cs[k] := by rw [Int.add_mul, Int.one_mul]
              have hm1 : t * cs[k] ≤ 40000 := by omega
              have hm0 : 0 ≤ t * cs[k] := Int.mul_nonneg ht0 (by omega)
              have HS := Lib.hid hst
              clear hc hv hneq hn ht1 hst hexp hm
              go_wp2
              go_round
              case rel => exact ⟨k + 1, t * cs[k] + vs[k], by omega, by go_num, rfl, HS.out.1, HS.out.2, by show _ = _; rw [HC.out, HD.out, if_neg (by omega)]⟩
              case measure => simp [intOf]; omega
        · clear hc hv hneq
          go_wp2
          go_ret2
          have : k = vs.length := by omega
          subst this
          exact ⟨by rw [HG.out, HC.out]; rw [List.drop_of_length_le (by omega)]; simp [hornerQ, numV, hornR], rfl⟩
    · have HG := Lib.hid (indexG_len h hn)
      clear h
      have hneq : ((vs.length : Int) != (cs.length : Int)) = true := by simp; omega
      clear hc hv hg
      go_enter Try.func41, Try.ntmps41
      go_wp2_with (go_at_call 68; refine (H.out).mono ?_; rintro e w' ⟨rfl, rfl⟩)
      go_ret2
      exact ⟨by rw [HG.out]; rfl, rfl⟩

end Go.Proofs.Ytmnaidemihcfaaa

namespace Go.Proofs.Ytmnaidemihcfaaa
open Go.RowKit
attribute [local go_sem] Oper.semAt_some

theorem values_any (A : Option Addr) (n c : Nat) (size i : Int) (w : World) :
    Calls Try.prog 73 #[.slice A n c, .int .i64 size, .int .i64 i] w fun e w' =>
      e = .returned (.func (.func 101) #[] #[.pointer (some ⟨w.heap.size + 2, 0, none⟩), .pointer (some ⟨w.heap.size + 1, 0, none⟩), .pointer (some ⟨w.heap.size, 0, none⟩)]) ∧
      w' = ((w.alloc (.cells #[.slice A n c] 22)).alloc (.cells #[.int .i64 size] 3)).alloc (.cells #[.int .i64 i] 3) := by
  go_enter Try.func73, Try.ntmps73
  go_wp2
  go_ret
  exact ⟨rfl, rfl⟩

/-- what 'values' hands out -/
def valEnc (cs : List Int) (i : Int) (k : Nat) : Array Value := #[.int .i64 k, .int .i64 ((valsG cs (prodL cs) i).getD k 0)]

theorem valEnc_eq {cs : List Int} {i : Int} {k : Nat} (h : k < cs.length) {s r : Int} (hs : stG cs k (prodL cs, i) = (s, r)) :
    valEnc cs i k = #[.int .i64 k, .int .i64 (r / (s / cs[k]))] := by
  have := valsG_get cs k h (prodL cs, i)
  rw [hs] at this
  unfold valEnc
  rw [List.getD_eq_getElem?_getD, List.getElem?_eq_getElem (by rw [valsG_length]; exact h)]
  simp only [Option.getD_some, this]

set_option maxRecDepth 100000 in
set_option maxHeartbeats 1000000 in
theorem values_it {cs : List Int} (hg : Good cs) {i' : Int} (hi0 : 0 ≤ i') (hi1 : i' < prodL cs) (A : Option Addr) (c n₀ b1 b2 b3 : Nat) (w : World) (hn₀ : n₀ ≤ w.heap.size) (hc : Ints w n₀ A cs)
    (h1 : w.cell? ⟨b1, 0, none⟩ = some (.int .i64 i')) (h2 : w.cell? ⟨b2, 0, none⟩ = some (.int .i64 (prodL cs))) (h3 : w.cell? ⟨b3, 0, none⟩ = some (.slice A cs.length c)) :
    It Try.prog 101 #[.pointer (some ⟨b1, 0, none⟩), .pointer (some ⟨b2, 0, none⟩), .pointer (some ⟨b3, 0, none⟩)] (valEnc cs i') cs.length n₀ w := by
  intro l J Jx W hW hJ hJx hY h0
  have hc' : Ints W n₀ A cs := hc.below (hW.mono hn₀)
  have g1 := (hW.cell (p := ⟨b1, 0, none⟩) (World.block_lt_of_cell? _ _ h1)).trans h1
  have g2 := (hW.cell (p := ⟨b2, 0, none⟩) (World.block_lt_of_cell? _ _ h2)).trans h2
  have g3 := (hW.cell (p := ⟨b3, 0, none⟩) (World.block_lt_of_cell? _ _ h3)).trans h3
  have hWs := hW.size
  clear h1 h2 h3 hc hW
  refine callsIn_of_wp Try.func101 rfl trivial ?_ rfl
  simp only [Try.ntmps101, List.size_toArray, List.length_cons, List.length_nil, Nat.reduceAdd, Nat.reduceSub, Array.replicate_succ, Array.replicate_zero, List.push_toArray, List.append_toArray, List.nil_append, List.cons_append]
  gi_wp2
  gi_region
  gi_wp2
  gi_loopw [5, 6, 13] (fun r s i wr => ∃ (k : Nat) (s0 r0 : Int), k ≤ cs.length ∧ i = .int .i64 k ∧ s = .int .i64 s0 ∧ r = .int .i64 r0 ∧ Hid (stG cs k (prodL cs, i') = (s0, r0)) ∧ Ints wr n₀ A cs ∧ W.heap.size ≤ wr.heap.size ∧ J k wr)
    (fun _ _ i _ => cs.length - (intOf i).toNat)
  case atStart => exact ⟨0, prodL cs, i', Nat.zero_le _, rfl, rfl, rfl, stG_zero _ _, hc', Nat.le_refl _, hJ _ _ _ h0 ((Below.refl _ _).drew)⟩
  case round =>
    obtain ⟨k, s0, r0, hk, rfl, rfl, rfl, HS, hcr, hwr, hJk⟩ := hrel
    by_cases hlt : k < cs.length
    · have hl12 := hg.len
      obtain ⟨e1, e2, e3⟩ := stG_inv hg i' hi0 hi1 k hk
      have hst := stG_succ cs k hlt (prodL cs, i')
      rw [HS.out] at e1 e2 e3 hst
      simp only at e1 e2 e3 hst
      have hcd := hg.at_ hlt
      have hsp : 1 ≤ s0 := by rw [e1]; exact prodL_drop_pos hg k
      have hs4 : s0 ≤ 4096 := by rw [e1]; exact prodL_drop_le hg k
      have hq : 1 ≤ s0 / cs[k] := by rw [e1, div_card hg hlt]; exact prodL_drop_pos hg (k + 1)
      have hq4 : s0 / cs[k] ≤ 4096 := by rw [e1, div_card hg hlt]; exact prodL_drop_le hg (k + 1)
      have HT := Lib.hid hst
      rw [← e1] at e3
      have hr4 : r0 < 4096 := by omega
      have hy := hY k wr hlt hwr hJk
      rw [valEnc_eq hlt HS.out] at hy
      obtain ⟨fn, tmps, assign, body, hy, hR⟩ := hy
      obtain ⟨b, off, rfl, hb, hcell⟩ := hcr k hlt
      clear hst e1 HS hi0 hi1 hY hc'
      gi_wp2
      refine hR.mono ?_
      rintro e W3 (⟨rfl, hJ3, hm3⟩ | ⟨rfl, hJx3, hm3⟩)
      · have hc3 := hcr.below (hm3.below (B := n₀) (by omega) (fun _ h => h.1))
        have hs3 := hm3.size
        clear hcr hm3
        gi_wp2
        go_roundw
        case rel => exact ⟨k + 1, s0 / cs[k], r0 % (s0 / cs[k]), by omega, by go_num, rfl, rfl, HT.out, hc3, by omega, hJ3⟩
        case measure => simp [intOf]; omega
      · gi_wp2
        refine bodyPost_ret (results_none rfl _ _ _) rfl ?_
        exact ⟨⟨_, rfl⟩, .inr hJx3⟩
    · gi_wp2
      go_end0
      obtain rfl : k = cs.length := by omega
      exact ⟨⟨_, rfl⟩, .inl hJk⟩


theorem info_int : (Try.prog.info? 3).map (fun i => (i.zero, i.size, i.bytes)) = some (some (.int .i64 0), 1, 8) := by kernel_rfl

set_option maxRecDepth 100000 in
set_option maxHeartbeats 1000000 in
theorem collect_it (f : Nat → Int) (n : Nat) (hl : n ≤ 65536) (gf : Nat) (lb : Array Value) (eg : ∀ args w, (callFunc gf args).run Try.prog w = .ok (.enter gf args) w) (n₀ : Nat) (w : World) (hn₀ : n₀ ≤ w.heap.size)
    (hit : It Try.prog gf lb (fun k => #[.int .i64 k, .int .i64 (f k)]) n n₀ w) :
    Calls Try.prog 72 #[.int .i64 n, .func (.func gf) #[] lb] w fun e w' =>
      ∃ g, e = .returned (.slice (some ⟨g, 0, none⟩) n n) ∧ w.heap.size ≤ g ∧ w'.rowIs g 3 n (fun j => .int .i64 (f j)) ∧ Below w.heap.size w w' := by
  have hmk := run_make_row' (P := Try.prog) 22 3 (.int .i64 0) 8 Try.underlying22 info_int rfl .i64 .i64 n (by omega) (by omega)
  refine (callsIn_wide (n := 5)).1 ?_
  refine callsIn_of_wp_marks Try.func72 rfl trivial ?_ rfl
  simp only [Try.ntmps72, List.size_toArray, List.length_cons, List.length_nil, Nat.reduceAdd, Nat.reduceSub, Array.replicate_succ, Array.replicate_zero, List.push_toArray, List.append_toArray, List.nil_append, List.cons_append]
  gi_wp2
  clear hmk
  obtain ⟨W0, hW0⟩ : ∃ W0, (w.alloc (Obj.cells (madeCells #[Value.int IntKind.i64 0] n) 3)).alloc (Obj.cells #[Value.slice (some { block := w.heap.size, off := 0 }) n n] 22) = W0 := ⟨_, rfl⟩
  rw [hW0]
  have hs0 : W0.heap.size = w.heap.size + 2 := by rw [← hW0]; simp
  have hb0 : Below w.heap.size w W0 := by rw [← hW0]; exact ((Below.refl _ w).alloc (Nat.le_refl _) _).alloc (by simp) _
  have hr0 : W0.rowIs w.heap.size 3 n (fun _ => .int .i64 0) := by rw [← hW0]; exact (World.rowIs_made w _ _ _).alloc _
  have hx0 : Boxed W0 (w.heap.size + 1) 22 (.slice (some ⟨w.heap.size, 0, none⟩) n n) := by
    rw [← hW0]; have := Boxed.new (w.alloc (Obj.cells (madeCells #[Value.int IntKind.i64 0] n) 3)) 22 (.slice (some ⟨w.heap.size, 0, none⟩) n n); rwa [World.size_alloc] at this
  clear hW0
  refine wp_range (gf := gf) (lb := lb) rfl eg hit hb0 (by omega) (fun _ => rfl) (fun b => b = w.heap.size) (by rintro k rfl; omega)
    (fun k W => W.rowIs w.heap.size 3 n (fun j => if j < k then .int .i64 (f j) else .int .i64 0) ∧ Boxed W (w.heap.size + 1) 22 (.slice (some ⟨w.heap.size, 0, none⟩) n n) ∧ Below w.heap.size w W)
    (fun _ _ => False)
    (fun k A B h hAB => ⟨h.1.of_block (hAB.block _ (by omega)), (hAB.block _ (by omega)).trans h.2.1, h.2.2.trans (hAB.mono (by omega))⟩)
    (fun _ _ _ h _ => h.elim)
    ⟨hr0.congr (fun i _ => by simp), hx0, hb0⟩
    (fun k => { tmps := #[Value.int IntKind.i64 ↑n, Value.func (Fn.func gf) #[] lb, undef, undef, Value.slice none 0 0,
          Value.pointer (some { block := w.heap.size + 1, off := 0 }), .int .i64 k, .int .i64 (f k), Value.int IntKind.i64 ↑n,
          Value.slice (some { block := w.heap.size, off := 0 }) n n, Value.func (Fn.func gf) #[] lb,
          .int .i64 k, .int .i64 (f k), undef, undef, undef, undef, undef], defers := [] }) ?assign ?body ?done (fun _ _ _ _ h _ => h.elim)
  case assign =>
    intro l k W K hk hK
    gi_wp2
    exact hK
  case body =>
    rintro l k W hk hWs ⟨hr, hx, hb⟩
    have hxc := hx.cell
    have hrc := hr.cell hk
    have hrf := hr.frozen k
    clear hit hr0 hx0 hb0
    gi_wp2
    refine ⟨(Mod.refl (fun b => b = w.heap.size) W).setCell (p := ⟨w.heap.size, k, none⟩) (.inl rfl) _, (hr.set k _).congr (fun j hj => ?_), ?_, hb.setCell (p := ⟨w.heap.size, k, none⟩) (Nat.le_refl _) _⟩
    · by_cases e : j = k
      · subst e; simp
      · by_cases e2 : j < k
        · simp [e, e2, show j < k + 1 by omega]
        · simp [e, e2, show ¬ j < k + 1 by omega]
    · exact (Below.heap_setCell _ _ _ _ (by simp)).trans hx
  case done =>
    rintro D W hD ⟨hr, hx, hb⟩ hd
    have hxc := hx.cell
    gi_wp2
    refine ⟨by simp, .inl ⟨_, _, rfl, run_takeDeferred hd, ?_⟩⟩
    refine ⟨_, results_tmp rfl _ _ _, w.heap.size, rfl, Nat.le_refl _, ?_, below_putObj hb (by omega) _⟩
    refine World.rowIs.congr (World.rowIs.of_block hr (World.putObj_heap_other (by omega))) (fun i hi => by simp [hi])

end Go.Proofs.Ytmnaidemihcfaaa

namespace Go.Proofs.Ytmnaidemihcfaaa
open Go.RowKit
attribute [local go_sem] Oper.semAt_some

theorem enters_values : ∀ args w, (callFunc 101 args).run Try.prog w = .ok (.enter 101 args) w := enters_of Try.func101 (by kernel_rfl) rfl

def valF (cs : List Int) (i : Int) (k : Nat) : Int := (valsG cs (prodL cs) i).getD k 0

theorem valF_get {cs : List Int} {i : Int} {k : Nat} (h : k < cs.length) : (valsG cs (prodL cs) i)[k]'(by rw [valsG_length]; exact h) = valF cs i k := by
  unfold valF
  rw [List.getD_eq_getElem?_getD, List.getElem?_eq_getElem (by rw [valsG_length]; exact h)]; rfl

theorem valF_bd {cs : List Int} (hg : Good cs) {i : Int} (h0 : 0 ≤ i) (h1 : i < prodL cs) {k : Nat} (hk : k < cs.length) : 0 ≤ valF cs i k ∧ valF cs i k < cs[k] := by
  rw [← valF_get hk]; exact valsG_bd hg h0 h1 hk

theorem Values_none (A : Option Addr) (cs : List Int) (c : Nat) (i : Int) (w : World) (B : Nat) (hc : Ints w B A cs) (h : count cs = none) :
    Calls Try.prog 36 #[.slice A cs.length c, .int .i64 i] w fun e w' => e = .returned (.tuple #[.slice none 0 0, .int .i64 20]) ∧ w = w' := by
  have H := Lib.hid (count_none A cs c w B hc h)
  clear h hc
  go_enter Try.func36, Try.ntmps36
  go_wp2_with (go_at_call 68; refine (H.out).mono ?_; rintro e w' ⟨rfl, rfl⟩)
  go_ret2
  exact ⟨rfl, rfl⟩

theorem Values_arg (A : Option Addr) (cs : List Int) (c : Nat) (i : Int) (w : World) (B : Nat) (hc : Ints w B A cs) {t : Int} (h : count cs = some t) (hi : i < 0 ∨ t ≤ i) :
    Calls Try.prog 36 #[.slice A cs.length c, .int .i64 i] w fun e w' => e = .returned (.tuple #[.slice none 0 0, .int .i64 2]) ∧ w = w' := by
  have H := Lib.hid (count_some A cs c w B hc h)
  clear h hc
  by_cases h0 : i < 0
  · clear hi
    go_enter Try.func36, Try.ntmps36
    go_wp2_with (go_at_call 68; refine (H.out).mono ?_; rintro e w' ⟨rfl, rfl⟩)
    go_ret2
    exact ⟨rfl, rfl⟩
  · have h1 : t ≤ i := by omega
    clear hi
    go_enter Try.func36, Try.ntmps36
    go_wp2_with (go_at_call 68; refine (H.out).mono ?_; rintro e w' ⟨rfl, rfl⟩)
    go_ret2
    exact ⟨rfl, rfl⟩

set_option maxHeartbeats 1000000 in
theorem Values_ok (A : Option Addr) (cs : List Int) (c : Nat) (i : Int) (w : World) (hc : Ints w w.heap.size A cs) (hg : Good cs) (h0 : 0 ≤ i) (h1 : i < prodL cs) :
    Calls Try.prog 36 #[.slice A cs.length c, .int .i64 i] w fun e w' =>
      ∃ g, e = .returned (.tuple #[.slice (some ⟨g, 0, none⟩) cs.length cs.length, .int .i64 0]) ∧ w.heap.size ≤ g ∧ w'.rowIs g 3 cs.length (fun j => .int .i64 (valF cs i j)) ∧ Below w.heap.size w w' := by
  have H := Lib.hid (count_some A cs c w _ hc hg.count)
  have hl := hg.len
  obtain ⟨W0, hW0⟩ : ∃ W0, ((w.alloc (.cells #[.slice A cs.length c] 22)).alloc (.cells #[.int .i64 (prodL cs)] 3)).alloc (.cells #[.int .i64 i] 3) = W0 := ⟨_, rfl⟩
  have hb0 : Below w.heap.size w W0 := by rw [← hW0]; exact (((Below.refl _ w).alloc (Nat.le_refl _) _).alloc (by simp) _).alloc (by simp; omega) _
  have hs0 : W0.heap.size = w.heap.size + 3 := by rw [← hW0]; simp
  have HC := Lib.hid (collect_it (valF cs i) cs.length (by omega) 101 _ enters_values w.heap.size W0 hb0.size
    (values_it hg h0 h1 A c w.heap.size (w.heap.size + 2) (w.heap.size + 1) w.heap.size W0 hb0.size (hc.below hb0)
      (by rw [← hW0]; exact (three_cells _ _ _ _ _ _ _).1) (by rw [← hW0]; exact (three_cells _ _ _ _ _ _ _).2.1) (by rw [← hW0]; exact (three_cells _ _ _ _ _ _ _).2.2)))
  have HW := Lib.hid hW0
  clear hW0 hc
  go_enter Try.func36, Try.ntmps36
  go_wp2_with (first
    | (go_at_call 68; refine (H.out).mono ?_; rintro e w' ⟨rfl, rfl⟩)
    | (go_at_call 73; refine (values_any _ _ _ _ _ _).mono ?_; rintro e w' ⟨rfl, hw'⟩; rw [HW.out] at hw'; subst hw')
    | (go_at_call 72; refine (HC.out).mono ?_; rintro e w' ⟨g, rfl, hg1, hg2, hg3⟩))
  go_ret2
  exact ⟨g, rfl, by omega, hg2, hb0.trans (hg3.mono hb0.size)⟩

/-- the number of the part: places are met one by one -/
def partG : Nat → List Int → List Int → List Int → Int → Int
  | k, c :: cs, v :: vs, p :: ps, n => if p = k then partG (k + 1) cs vs ps (n * c + v) else partG (k + 1) cs vs (p :: ps) n
  | _, _, _, _, n => n

theorem partG_nil (k : Nat) (cs vs : List Int) (n : Int) : partG k cs vs [] n = n := by cases cs <;> cases vs <;> rfl
theorem partG_end (k : Nat) (vs ps : List Int) (n : Int) : partG k [] vs ps n = n := by cases vs <;> rfl

theorem partG_drop {cs vs ps : List Int} {k j : Nat} (n : Int) (h : k < cs.length) (h' : k < vs.length) (hp : j < ps.length) :
    partG k (cs.drop k) (vs.drop k) (ps.drop j) n = if ps[j] = k then partG (k + 1) (cs.drop (k + 1)) (vs.drop (k + 1)) (ps.drop (j + 1)) (n * cs[k] + vs[k]) else partG (k + 1) (cs.drop (k + 1)) (vs.drop (k + 1)) (ps.drop j) n := by
  rw [List.drop_eq_getElem_cons h, List.drop_eq_getElem_cons h', List.drop_eq_getElem_cons hp]; rfl

end Go.Proofs.Ytmnaidemihcfaaa

namespace Go.Proofs.Ytmnaidemihcfaaa
open Go.RowKit
attribute [local go_sem] Oper.semAt_some

def valL (cs : List Int) (i : Int) : List Int := valsG cs (prodL cs) i
theorem valL_length (cs : List Int) (i : Int) : (valL cs i).length = cs.length := valsG_length _ _ _
theorem valL_get {cs : List Int} {i : Int} {k : Nat} (h : k < (valL cs i).length) : (valL cs i)[k] = valF cs i k := by
  have h' : k < cs.length := by rw [valL_length] at h; exact h
  exact valF_get h'

def PartI (cs ps : List Int) (i : Int) (b : Nat) (k : Nat) (W : World) : Prop :=
  ∃ (num : Int) (j : Nat), Boxed W b 3 (.int .i64 num) ∧ Boxed W (b + 1) 3 (.int .i64 j) ∧ j ≤ ps.length ∧ 0 ≤ num ∧ (num + 1) * prodL (cs.drop k) ≤ prodL cs ∧
    partG 0 cs (valL cs i) ps 0 = partG k (cs.drop k) ((valL cs i).drop k) (ps.drop j) num

set_option maxRecDepth 100000 in
set_option maxHeartbeats 2000000 in
theorem part_any (A A' : Option Addr) (cs ps : List Int) (c c' : Nat) (i : Int) (w : World) (hc : Ints w w.heap.size A cs) (hp : Ints w w.heap.size A' ps) (hpl : ps.length ≤ 65536) (hg : Good cs) (hi0 : 0 ≤ i) (hi1 : i < prodL cs) :
    Calls Try.prog 70 #[.slice A cs.length c, .slice A' ps.length c', .int .i64 (prodL cs), .int .i64 i] w fun e w' =>
      e = .returned (.int .i64 (partG 0 cs (valL cs i) ps 0)) ∧ Below w.heap.size w w' := by
  have hl12 := hg.len
  refine (callsIn_wide (n := 5)).1 ?_
  refine callsIn_of_wp_marks Try.func70 rfl trivial ?_ rfl
  simp only [Try.ntmps70, List.size_toArray, List.length_cons, List.length_nil, Nat.reduceAdd, Nat.reduceSub, Array.replicate_succ, Array.replicate_zero, List.push_toArray, List.append_toArray, List.nil_append, List.cons_append]
  gi_wp2_with (refine ⟨trivial, ?_⟩; gi_at_call 73; refine (callsIn_wide.2 (values_any _ _ _ _ _ _)).mono ?_; rintro e w' ⟨rfl, rfl⟩)
  obtain ⟨W0, hW0⟩ : ∃ W0, allocs w [.cells #[.slice A cs.length c] 22, .cells #[.slice A' ps.length c'] 22, .cells #[.int .i64 0] 3, .cells #[.int .i64 0] 3, .cells #[.slice A cs.length c] 22, .cells #[.int .i64 (prodL cs)] 3, .cells #[.int .i64 i] 3] = W0 := ⟨_, rfl⟩
  have hs0 : W0.heap.size = w.heap.size + 7 := by rw [← hW0]; exact allocs_size _ _
  have hb0 : Below w.heap.size w W0 := by rw [← hW0]; exact allocs_below _ _
  have x1 : Boxed W0 w.heap.size 22 (.slice A cs.length c) := by rw [← hW0]; exact allocs_at _ w 0 _ rfl
  have x2 : Boxed W0 (w.heap.size + 1) 22 (.slice A' ps.length c') := by rw [← hW0]; exact allocs_at _ w 1 _ rfl
  have x3 : Boxed W0 (w.heap.size + 2) 3 (.int .i64 0) := by rw [← hW0]; exact allocs_at _ w 2 _ rfl
  have x4 : Boxed W0 (w.heap.size + 3) 3 (.int .i64 0) := by rw [← hW0]; exact allocs_at _ w 3 _ rfl
  have x5 : Boxed W0 (w.heap.size + 4) 22 (.slice A cs.length c) := by rw [← hW0]; exact allocs_at _ w 4 _ rfl
  have x6 : Boxed W0 (w.heap.size + 5) 3 (.int .i64 (prodL cs)) := by rw [← hW0]; exact allocs_at _ w 5 _ rfl
  have x7 : Boxed W0 (w.heap.size + 6) 3 (.int .i64 i) := by rw [← hW0]; exact allocs_at _ w 6 _ rfl
  show Code.wpIn _ _ _ _ _ _ (allocs w [.cells #[.slice A cs.length c] 22, .cells #[.slice A' ps.length c'] 22, .cells #[.int .i64 0] 3, .cells #[.int .i64 0] 3, .cells #[.slice A cs.length c] 22, .cells #[.int .i64 (prodL cs)] 3, .cells #[.int .i64 i] 3])
  rw [hW0]
  clear hW0
  have hit : It Try.prog 101 #[.pointer (some ⟨w.heap.size + 6, 0, none⟩), .pointer (some ⟨w.heap.size + 5, 0, none⟩), .pointer (some ⟨w.heap.size + 4, 0, none⟩)] (fun k => #[.int .i64 k, .int .i64 (valF cs i k)]) cs.length w.heap.size W0 := values_it hg hi0 hi1 A c w.heap.size (w.heap.size + 6) (w.heap.size + 5) (w.heap.size + 4) W0 hb0.size (hc.below hb0) x7.cell x6.cell x5.cell
  refine wp_range (gf := 101) rfl enters_values hit (Below.refl _ _) hb0.size (fun _ => rfl) (fun b => b = w.heap.size + 2 ∨ b = w.heap.size + 3) (by rintro k (rfl | rfl) <;> omega)
    (fun k W => PartI cs ps i (w.heap.size + 2) k W ∧ Boxed W w.heap.size 22 (.slice A cs.length c) ∧ Boxed W (w.heap.size + 1) 22 (.slice A' ps.length c') ∧ Below w.heap.size w W)
    (fun c0 W => c0 = .exit 0 ∧ Boxed W (w.heap.size + 2) 3 (.int .i64 (partG 0 cs (valL cs i) ps 0)) ∧ Below w.heap.size w W)
    ?hI ?hIx ?h0
    (fun k => { tmps := #[Value.slice A cs.length c, Value.slice A' ps.length c', Value.int IntKind.i64 (prodL cs),
          Value.int IntKind.i64 i, Value.pointer (some { block := w.heap.size, off := 0 }),
          Value.pointer (some { block := w.heap.size + 1, off := 0 }), undef, undef, Value.int IntKind.i64 0,
          Value.pointer (some { block := w.heap.size + 1 + 1, off := 0 }),
          Value.pointer (some { block := w.heap.size + 1 + 1 + 1, off := 0 }), .int .i64 k, .int .i64 (valF cs i k), Value.slice A cs.length c,
          Value.int IntKind.i64 (prodL cs), Value.int IntKind.i64 i,
          Value.func (Fn.func 101) #[]
            #[Value.pointer (some { block := w.heap.size + 1 + 1 + 1 + 1 + 2, off := 0 }),
              Value.pointer (some { block := w.heap.size + 1 + 1 + 1 + 1 + 1, off := 0 }),
              Value.pointer (some { block := w.heap.size + 1 + 1 + 1 + 1, off := 0 })],
          .int .i64 k, .int .i64 (valF cs i k), undef, undef, undef, undef, undef, undef, undef, undef, undef, undef, undef, undef, undef,
          undef, undef, undef, undef, undef, undef, undef, undef], defers := [] }) ?assign ?body ?done ?stop
  case hI =>
    rintro k X Y ⟨⟨num, j, h1, h2, h3⟩, h4, h5, h6⟩ hXY
    exact ⟨⟨num, j, (hXY.block _ (by omega)).trans h1, (hXY.block _ (by omega)).trans h2, h3⟩, (hXY.block _ (by omega)).trans h4, (hXY.block _ (by omega)).trans h5, h6.trans (hXY.mono (by omega))⟩
  case hIx =>
    rintro c0 X Y ⟨h0, h4, h6⟩ hXY
    exact ⟨h0, (hXY.block _ (by omega)).trans h4, h6.trans (hXY.mono (by omega))⟩
  case h0 => exact ⟨⟨0, 0, x3, x4, Nat.zero_le _, by omega, by simp, rfl⟩, x1, x2, hb0⟩
  case assign =>
    intro l k W K hk hK
    gi_wp2
    exact hK
  case body =>
    rintro l k W hk hWs ⟨⟨num, j, y3, y4, hj, hn0, hn1, HP⟩, y1, y2, hb⟩
    have c1 := y1.cell
    have c2 := y2.cell
    have c3 := y3.cell
    have c4 := y4.cell
    have f3 := y3.frozen
    have f4 := y4.frozen
    have hcW := hc.below hb
    have hpW := hp.below hb
    clear hit x1 x2 x3 x4 x5 x6 x7 hb0 hc hp
    by_cases hj2 : j = ps.length
    · have t1 : ((j : Int) == (ps.length : Int)) = true := by simp [hj2]
      have HP' : partG 0 cs (valL cs i) ps 0 = num := by rw [HP, hj2, List.drop_length, partG_nil]
      have HH := Lib.hid HP'
      have Hy := Lib.hid y3
      clear HP HP' hj2 y3 hn0 hn1
      gi_wp2
      exact ⟨Mod.refl _ _, rfl, by rw [HH.out]; exact Hy.out, hb⟩
    · have t1 : ((j : Int) == (ps.length : Int)) = false := by simp; omega
      have hlt : j < ps.length := by omega
      have hlv : k < (valL cs i).length := by rw [valL_length]; exact hk
      have HD := Lib.hid (partG_drop num hk hlv hlt)
      have HP := Lib.hid HP
      obtain ⟨pb, poff, hA', hpb, hpc⟩ := hpW j hlt
      obtain ⟨cb, coff, hA, hcb, hcc⟩ := hcW k hk
      subst hA' hA
      have hv := valF_bd hg hi0 hi1 hk
      have hcd := hg.at_ hk
      have h4096 := hg.le
      have hle0 := horner_le hn0 (prodL_drop_pos hg k) hn1
      have hdr := prodL_drop hk
      have hdp := prodL_drop_pos hg (k + 1)
      by_cases ht2 : ps[j] = k
      · have t2 : (ps[j] == (k : Int)) = true := by simp [ht2]
        have hst := horner_step (n := num) (c := cs[k]) (v := valF cs i k) (P := prodL (cs.drop (k + 1))) (M := prodL cs) hn0 hcd.1 hdp hv.1 hv.2 (by rw [← hdr]; exact hn1)
        have hle := horner_le hst.1 hdp hst.2
        have hm := mul_bd (t := num + 1) (c := cs[k]) (by omega) (by omega) hcd.1 hcd.2
        have hexp : (num + 1) * cs[k] = num * cs[k] + cs[k] := by rw [Int.add_mul, Int.one_mul]
        have hm1 : num * cs[k] ≤ 40000 := by omega
        have hm0 : 0 ≤ num * cs[k] := Int.mul_nonneg hn0 (by omega)
        have hk12 : (k : Int) < (cs.length : Int) := by omega
        have HS := Lib.hid hst
        have H2 := Lib.hid ht2
        have hvg := valL_get hlv
        have HV := Lib.hid hvg
        have Y3 := Lib.hid y3
        have Y4 := Lib.hid y4
        clear hcW hpW hdr hdp hn1 ht2 hj2 hst hexp hm hvg y3 y4
        gi_wp2
        refine wp_region_hold (fun w' => w' = W.drew) rfl (fun _ => trivial) (by kernel_rfl) (by kernel_rfl) rfl ?_
        iterate 8
          apply wpH_calm rfl rfl
          · intro w' hS
            subst hS
            go_simp
            rfl
          simp only [Act.put, List.setIfInBounds_toArray, List.set_cons_zero, List.set_cons_succ]
        refine wpH_eff rfl rfl (fun K hK => ?_)
        go_simp
        refine hK _ _ (.inr rfl) (wpH_nil ?_)
        clear hK K
        gi_wp2
        exact ⟨(((Mod.refl (fun b => b = w.heap.size + 2 ∨ b = w.heap.size + 3) W).setCell (p := ⟨w.heap.size + 2, 0, none⟩) (.inl (.inl rfl)) _).setCell (p := ⟨w.heap.size + 3, 0, none⟩) (.inl (.inr rfl)) _).drew,
          ⟨_, j + 1, bx_drew (bx_far (Boxed.set _ Y3.out) (by simp) _), bx_drew (Boxed.set _ (bx_far Y4.out (by simp) _)), by omega, HS.out.1, HS.out.2, by rw [HP.out, HD.out, if_pos H2.out, HV.out]⟩,
          bx_drew (bx_far (bx_far y1 (by simp; omega) _) (by simp; omega) _), bx_drew (bx_far (bx_far y2 (by simp) _) (by simp) _),
          ((hb.setCell (p := ⟨w.heap.size + 2, 0, none⟩) (by simp) _).setCell (p := ⟨w.heap.size + 3, 0, none⟩) (by simp) _).drew⟩
      · have t2 : (ps[j] == (k : Int)) = false := by simp [ht2]
        have HN : Hid ((num + 1) * prodL (cs.drop (k + 1)) ≤ prodL cs) := by
          show _ ≤ _
          refine Int.le_trans (Int.mul_le_mul_of_nonneg_left ?_ (by omega)) hn1
          rw [hdr]
          have : 1 * prodL (cs.drop (k + 1)) ≤ cs[k] * prodL (cs.drop (k + 1)) := Int.mul_le_mul_of_nonneg_right hcd.1 (by omega)
          omega
        have H2 := Lib.hid ht2
        clear hcW hpW hdr hdp hn1 ht2 hj2
        gi_wp2
        exact ⟨Mod.refl _ _, ⟨num, j, y3, y4, by omega, hn0, HN.out, by rw [HP.out, HD.out, if_neg H2.out]⟩, y1, y2, hb⟩
  case done =>
    rintro D W hD ⟨⟨num, j, y3, y4, hj, hn0, hn1, HP⟩, y1, y2, hb⟩ hd
    have c3 := y3.cell
    rw [List.drop_of_length_le (Nat.le_refl _), partG_end] at HP
    have HH := Lib.hid HP
    clear HP hit x1 x2 x3 x4 x5 x6 x7 hb0 hc hp y1 y2 y3 y4
    gi_wp2
    refine ⟨by simp, .inl ⟨_, _, rfl, run_takeDeferred hd, ?_⟩⟩
    exact ⟨_, results_tmp rfl _ _ _, by rw [HH.out]; rfl, below_putObj hb (by omega) _⟩
  case stop =>
    rintro D c0 W hD ⟨rfl, y3, hb⟩ hd
    have c3 := y3.cell
    clear hit x1 x2 x3 x4 x5 x6 x7 hb0 hc hp y3
    gi_wp2
    refine ⟨by simp, .inl ⟨_, _, rfl, run_takeDeferred hd, ?_⟩⟩
    exact ⟨_, results_tmp rfl _ _ _, rfl, below_putObj hb (by omega) _⟩

end Go.Proofs.Ytmnaidemihcfaaa

namespace Go.Proofs.Ytmnaidemihcfaaa
open Go.RowKit
attribute [local go_sem] Oper.semAt_some

def PartS (cs ps : List Int) (i : Int) : Int × Int :=
  match count cs with
  | none => (0, 20)
  | some t => if incr cs.length (-1) ps = false ∨ i < 0 ∨ t ≤ i then (0, 2) else (partG 0 cs (valL cs i) ps 0, 0)

set_option maxHeartbeats 1000000 in
theorem Part_any (A A' : Option Addr) (cs ps : List Int) (c c' : Nat) (i : Int) (w : World) (hc : Ints w w.heap.size A cs) (hp : Ints w w.heap.size A' ps) (hpl : ps.length ≤ 65536) :
    Calls Try.prog 23 #[.slice A cs.length c, .slice A' ps.length c', .int .i64 i] w fun e w' => e = .returned (numV (PartS cs ps i)) ∧ Below w.heap.size w w' := by
  cases h : count cs with
  | none =>
    have HG := Lib.hid (show PartS cs ps i = (0, 20) by simp [PartS, h])
    have H := Lib.hid (count_none A cs c w _ hc h)
    clear h hc hp
    go_enter Try.func23, Try.ntmps23
    go_wp2_with (go_at_call 68; refine (H.out).mono ?_; rintro e w' ⟨rfl, rfl⟩)
    go_ret2
    exact ⟨by rw [HG.out]; rfl, Below.refl _ _⟩
  | some t =>
    have H := Lib.hid (count_some A cs c w _ hc h)
    have HI := Lib.hid (increasing_any cs.length A' ps c' w (by omega) _ hp)
    cases hin : incr cs.length (-1) ps with
    | false =>
      have HG := Lib.hid (show PartS cs ps i = (0, 2) by simp [PartS, h, hin])
      rw [hin] at HI
      clear h hc hp hin
      go_enter Try.func23, Try.ntmps23
      go_wp2_with (first
        | (go_at_call 68; refine (H.out).mono ?_; rintro e w' ⟨rfl, rfl⟩)
        | (go_at_call 69; refine (HI.out).mono ?_; rintro e w' ⟨rfl, rfl⟩))
      go_ret2
      exact ⟨by rw [HG.out]; rfl, Below.refl _ _⟩
    | true =>
      rw [hin] at HI
      by_cases h0 : i < 0
      · have HG := Lib.hid (show PartS cs ps i = (0, 2) by simp [PartS, h, h0])
        clear h hc hp hin
        go_enter Try.func23, Try.ntmps23
        go_wp2_with (first
          | (go_at_call 68; refine (H.out).mono ?_; rintro e w' ⟨rfl, rfl⟩)
          | (go_at_call 69; refine (HI.out).mono ?_; rintro e w' ⟨rfl, rfl⟩))
        go_ret2
        exact ⟨by rw [HG.out]; rfl, Below.refl _ _⟩
      · by_cases h1 : t ≤ i
        · have HG := Lib.hid (show PartS cs ps i = (0, 2) by simp [PartS, h, h1])
          clear h hc hp hin
          go_enter Try.func23, Try.ntmps23
          go_wp2_with (first
            | (go_at_call 68; refine (H.out).mono ?_; rintro e w' ⟨rfl, rfl⟩)
            | (go_at_call 69; refine (HI.out).mono ?_; rintro e w' ⟨rfl, rfl⟩))
          go_ret2
          exact ⟨by rw [HG.out]; rfl, Below.refl _ _⟩
        · have HG := Lib.hid (show PartS cs ps i = (partG 0 cs (valL cs i) ps 0, 0) by simp [PartS, h, hin, h0, h1])
          obtain ⟨hg, rfl⟩ := good_of h
          have HP := Lib.hid (part_any A A' cs ps c c' i w hc hp hpl hg (by omega) (by omega))
          clear h hc hp hin hg
          go_enter Try.func23, Try.ntmps23
          go_wp2_with (first
            | (go_at_call 68; refine (H.out).mono ?_; rintro e w' ⟨rfl, rfl⟩)
            | (go_at_call 69; refine (HI.out).mono ?_; rintro e w' ⟨rfl, rfl⟩)
            | (go_at_call 70; refine (HP.out).mono ?_; rintro e w' ⟨rfl, hb⟩))
          go_ret2
          exact ⟨by rw [HG.out]; rfl, hb⟩

end Go.Proofs.Ytmnaidemihcfaaa

namespace Go.Proofs.Ytmnaidemihcfaaa
open Go.RowKit
attribute [local go_sem] Oper.semAt_some

def hit (cs ps : List Int) (j : Int) (i : Nat) : Bool := decide (partG 0 cs (valL cs i) ps 0 = j)
def hitsTo (cs ps : List Int) (j : Int) (n : Nat) : List Nat := (List.range n).filter (hit cs ps j)
def hits (cs ps : List Int) (j : Int) : List Nat := hitsTo cs ps j (prodL cs).toNat
def hitF (cs ps : List Int) (j : Int) (k : Nat) : Int := ((hits cs ps j).getD k 0 : Nat)

theorem hitsTo_yes {cs ps : List Int} {j : Int} {i : Nat} (h : hit cs ps j i = true) : hitsTo cs ps j (i + 1) = hitsTo cs ps j i ++ [i] := by
  simp [hitsTo, List.range_succ, List.filter_append, h]
theorem hitsTo_no {cs ps : List Int} {j : Int} {i : Nat} (h : hit cs ps j i = false) : hitsTo cs ps j (i + 1) = hitsTo cs ps j i := by
  simp [hitsTo, List.range_succ, List.filter_append, h]
theorem hitsTo_pre (cs ps : List Int) (j : Int) : ∀ (d n : Nat), hitsTo cs ps j n <+: hitsTo cs ps j (n + d)
  | 0, n => List.prefix_refl _
  | d + 1, n => by
    refine (hitsTo_pre cs ps j d n).trans ?_
    rw [← Nat.add_assoc]
    cases h : hit cs ps j (n + d) with
    | true => rw [hitsTo_yes h]; exact List.prefix_append _ _
    | false => rw [hitsTo_no h]; exact List.prefix_refl _
theorem hits_at {cs ps : List Int} {j : Int} {i : Nat} (hi : i < (prodL cs).toNat) (h : hit cs ps j i = true) :
    (hitsTo cs ps j i).length < (hits cs ps j).length ∧ hitF cs ps j (hitsTo cs ps j i).length = i := by
  have hp := hitsTo_pre cs ps j ((prodL cs).toNat - (i + 1)) (i + 1)
  rw [show i + 1 + ((prodL cs).toNat - (i + 1)) = (prodL cs).toNat by omega, hitsTo_yes h] at hp
  obtain ⟨t, ht⟩ := hp
  have e : hits cs ps j = hitsTo cs ps j i ++ [i] ++ t := ht.symm
  refine ⟨by rw [e]; simp, ?_⟩
  unfold hitF
  rw [e]
  simp [List.getD_eq_getElem?_getD]

set_option maxRecDepth 100000 in
set_option maxHeartbeats 2000000 in
theorem spread_it {cs ps : List Int} (hg : Good cs) (j : Int) (A A' : Option Addr) (c c' b1 b2 b3 b4 : Nat) (w : World) (hpl : ps.length ≤ 65536) (hc : Ints w w.heap.size A cs) (hp : Ints w w.heap.size A' ps)
    (h1 : w.cell? ⟨b1, 0, none⟩ = some (.int .i64 (prodL cs))) (h2 : w.cell? ⟨b2, 0, none⟩ = some (.slice A cs.length c)) (h3 : w.cell? ⟨b3, 0, none⟩ = some (.slice A' ps.length c')) (h4 : w.cell? ⟨b4, 0, none⟩ = some (.int .i64 j)) :
    It Try.prog 71 #[.pointer (some ⟨b1, 0, none⟩), .pointer (some ⟨b2, 0, none⟩), .pointer (some ⟨b3, 0, none⟩), .pointer (some ⟨b4, 0, none⟩)] (fun k => #[.int .i64 k, .int .i64 (hitF cs ps j k)]) (hits cs ps j).length w.heap.size w := by
  intro l J Jx W hW hJ hJx hY h0
  have k1 := World.block_lt_of_cell? _ _ h1
  have k2 := World.block_lt_of_cell? _ _ h2
  have k3 := World.block_lt_of_cell? _ _ h3
  have k4 := World.block_lt_of_cell? _ _ h4
  dsimp only at k1 k2 k3 k4
  have hWs := hW.size
  have h4096 := hg.le
  have hpos := hg.pos
  refine callsIn_of_wp Try.func71 rfl trivial ?_ rfl
  simp only [Try.ntmps71, List.size_toArray, List.length_cons, List.length_nil, Nat.reduceAdd, Nat.reduceSub, Array.replicate_succ, Array.replicate_zero, List.push_toArray, List.append_toArray, List.nil_append, List.cons_append]
  have g1 := (hW.cell (p := ⟨b1, 0, none⟩) k1).trans h1
  gi_wp2
  gi_loopw [6, 9] (fun kc ic wr => ∃ (i : Nat), (i : Int) ≤ prodL cs ∧ ic = .int .i64 i ∧ kc = .int .i64 (hitsTo cs ps j i).length ∧ Below w.heap.size w wr ∧ W.heap.size ≤ wr.heap.size ∧ J (hitsTo cs ps j i).length wr)
    (fun _ ic _ => (prodL cs - intOf ic).toNat)
  case atStart => exact ⟨0, by omega, rfl, rfl, hW, Nat.le_refl _, h0⟩
  case round =>
    clear g1 h0 hW
    obtain ⟨i, hi, rfl, rfl, hb, hwr, hJk⟩ := hrel
    obtain ⟨nh, hnh⟩ : ∃ nh, (hitsTo cs ps j i).length = nh := ⟨_, rfl⟩
    rw [hnh] at hJk ⊢
    by_cases hlt : (i : Int) < prodL cs
    · have g1 := (hb.cell (p := ⟨b1, 0, none⟩) k1).trans h1
      have g2 := (hb.cell (p := ⟨b2, 0, none⟩) k2).trans h2
      have g3 := (hb.cell (p := ⟨b3, 0, none⟩) k3).trans h3
      have g4 := (hb.cell (p := ⟨b4, 0, none⟩) k4).trans h4
      have HP := fun W' => Lib.hid (fun hb' : Below w.heap.size w W' => part_any A A' cs ps c c' i W' ((hc.below hb').more hb'.size) ((hp.below hb').more hb'.size) hpl hg (by omega) (by omega))
      obtain ⟨pv, hpv⟩ : ∃ pv, partG 0 cs (valL cs i) ps 0 = pv := ⟨_, rfl⟩
      rw [hpv] at HP
      have g5 : ∀ w', Below wr.heap.size wr w' → w'.cell? ⟨b1, 0, none⟩ = some (.int .i64 (prodL cs)) ∧ w'.cell? ⟨b2, 0, none⟩ = some (.slice A cs.length c) ∧ w'.cell? ⟨b3, 0, none⟩ = some (.slice A' ps.length c') ∧ w'.cell? ⟨b4, 0, none⟩ = some (.int .i64 j) := fun w' h => by
        have hs := hb.size
        exact ⟨(h.cell (p := ⟨b1, 0, none⟩) (by dsimp only; omega)).trans g1, (h.cell (p := ⟨b2, 0, none⟩) (by dsimp only; omega)).trans g2, (h.cell (p := ⟨b3, 0, none⟩) (by dsimp only; omega)).trans g3, (h.cell (p := ⟨b4, 0, none⟩) (by dsimp only; omega)).trans g4⟩
      have G5 := Lib.hid g5
      have HN := Lib.hid hnh
      have HV := Lib.hid hpv
      clear g5 h1 h2 h3 h4 hnh hpv
      by_cases hj : pv = j
      · have tj : (pv != j) = false := by simp [hj]
        have HJ := Lib.hid hj
        clear hj
        gi_wp2
        refine wp_region_hold (fun w' => Below wr.heap.size wr w') rfl (fun _ => trivial) (by kernel_rfl) (by kernel_rfl) ((Below.refl _ _).drew) ?_
        iterate 4
          apply wpH_calm rfl rfl
          · intro w' hS
            obtain ⟨s1, s2, s3, s4⟩ := G5.out w' hS
            go_simp
            rfl
          simp only [Act.put, List.setIfInBounds_toArray, List.set_cons_zero, List.set_cons_succ]
        refine wpH_eff rfl rfl (fun K hK => ?_)
        go_simp
        refine ⟨trivial, (callsIn_wide.2 ((HP wr.drew).out hb.drew)).mono ?_⟩
        rintro e w3 ⟨rfl, hb3⟩
        have hb3' : Below wr.heap.size wr w3 := (Below.refl _ wr).drew.trans hb3
        refine hK _ _ (.inl hb3') ?_
        clear hK K
        iterate 2
          apply wpH_calm rfl rfl
          · intro w' hS
            obtain ⟨s1, s2, s3, s4⟩ := G5.out w' hS
            go_simp
            rfl
          simp only [Act.put, List.setIfInBounds_toArray, List.set_cons_zero, List.set_cons_succ]
        refine wpH_nil ?_
        have hhit : hit cs ps j i = true := by unfold hit; rw [HV.out, HJ.out]; simp
        have hat := hits_at (by omega) hhit
        rw [HN.out] at hat
        have hy := hY nh w3 hat.1 (by have := hb3'.size; omega) (hJ _ _ _ hJk (hb3'.mono (by omega)))
        rw [hat.2] at hy
        obtain ⟨fn, tmps, assign, body, hy, hR⟩ := hy
        have hs3 := hb3'.size
        have hbw3 := hb.trans (hb3'.mono hb.size)
        have HY := Lib.hid (hitsTo_yes hhit)
        have hn4 : nh ≤ 4096 := by
          have h1 : nh ≤ i := by rw [← HN.out]; unfold hitsTo; exact Nat.le_trans (List.length_filter_le _ _) (by simp)
          omega
        clear hhit hat hY g1 g2 g3 g4 HP hJk hb3 hb3'
        gi_wp2
        refine hR.mono ?_
        rintro e W3 (⟨rfl, hJ3, hm3⟩ | ⟨rfl, hJx3, hm3⟩)
        · have hs4 := hm3.size
          have hbW3 := hbw3.trans (hm3.below (B := w.heap.size) (by omega) (fun _ h => h.1))
          clear hm3 hbw3
          gi_wp2
          go_roundw
          case rel => exact ⟨i + 1, by omega, by go_num, by rw [HY.out, List.length_append, HN.out]; go_num, hbW3, by omega, by rw [HY.out, List.length_append, HN.out]; exact hJ3⟩
          case measure => simp [intOf]; omega
        · gi_wp2
          refine bodyPost_ret (results_none rfl _ _ _) rfl ?_
          exact ⟨⟨_, rfl⟩, .inr hJx3⟩
      · have tj : (pv != j) = true := by simp [hj]
        have HJ := Lib.hid hj
        clear hj
        gi_wp2
        refine wp_region_hold (fun w' => Below wr.heap.size wr w') rfl (fun _ => trivial) (by kernel_rfl) (by kernel_rfl) ((Below.refl _ _).drew) ?_
        iterate 4
          apply wpH_calm rfl rfl
          · intro w' hS
            obtain ⟨s1, s2, s3, s4⟩ := G5.out w' hS
            go_simp
            rfl
          simp only [Act.put, List.setIfInBounds_toArray, List.set_cons_zero, List.set_cons_succ]
        refine wpH_eff rfl rfl (fun K hK => ?_)
        go_simp
        refine ⟨trivial, (callsIn_wide.2 ((HP wr.drew).out hb.drew)).mono ?_⟩
        rintro e w3 ⟨rfl, hb3⟩
        have hb3' : Below wr.heap.size wr w3 := (Below.refl _ wr).drew.trans hb3
        refine hK _ _ (.inl hb3') ?_
        clear hK K
        iterate 2
          apply wpH_calm rfl rfl
          · intro w' hS
            obtain ⟨s1, s2, s3, s4⟩ := G5.out w' hS
            go_simp
            rfl
          simp only [Act.put, List.setIfInBounds_toArray, List.set_cons_zero, List.set_cons_succ]
        refine wpH_nil ?_
        have hhit : hit cs ps j i = false := by unfold hit; rw [HV.out]; simpa using HJ.out
        have HY := Lib.hid (hitsTo_no hhit)
        have hJ3 := hJ _ _ _ hJk (hb3'.mono (by omega))
        have hs3 := hb3'.size
        have hbw3 := hb.trans (hb3'.mono hb.size)
        clear hhit hY g1 g2 g3 g4 HP hJk hb3 hb3'
        gi_wp2
        go_roundw
        case rel => exact ⟨i + 1, by omega, by go_num, by rw [HY.out, HN.out], hbw3, by omega, by rw [HY.out, HN.out]; exact hJ3⟩
        case measure => simp [intOf]; omega
    · have hI : i = (prodL cs).toNat := by omega
      have HE := Lib.hid (show (hits cs ps j).length = nh by rw [← hnh, hI]; rfl)
      clear hI hnh h1 h2 h3 h4
      gi_wp2
      go_end0
      exact ⟨⟨_, rfl⟩, .inl (by rw [HE.out]; exact hJk)⟩

end Go.Proofs.Ytmnaidemihcfaaa

namespace Go.Proofs.Ytmnaidemihcfaaa

def sumTo (f : Nat → Int) : Nat → Int
  | 0 => 0
  | n + 1 => sumTo f n + f n

def cntP (P : Nat → Bool) (n : Nat) : Int := ((List.range n).countP P : Nat)

theorem cntP_split (P : Nat → Bool) (M : Nat) : ∀ c : Nat, cntP P (c * M) = sumTo (fun v => cntP (fun i => P (v * M + i)) M) c
  | 0 => by simp [cntP, sumTo]
  | c + 1 => by
    have ih := cntP_split P M c
    simp only [sumTo, ← ih]
    unfold cntP
    rw [Nat.add_mul, Nat.one_mul, List.range_add, List.countP_append, List.countP_map]
    simp [Function.comp_def]

theorem cntP_congr {P P' : Nat → Bool} {n : Nat} (h : ∀ i, i < n → P i = P' i) : cntP P n = cntP P' n := by
  unfold cntP
  rw [List.countP_congr (fun x hx => by rw [h x (by simpa using hx)])]

theorem sumTo_congr {f f' : Nat → Int} : ∀ {n : Nat}, (∀ i, i < n → f i = f' i) → sumTo f n = sumTo f' n
  | 0, _ => rfl
  | n + 1, h => by simp only [sumTo]; rw [sumTo_congr (fun i hi => h i (by omega)), h n (by omega)]

theorem sumTo_const (x : Int) : ∀ n : Nat, sumTo (fun _ => x) n = n * x
  | 0 => by simp [sumTo]
  | n + 1 => by
    simp only [sumTo]; rw [sumTo_const x n]
    have : ((n + 1 : Nat) : Int) * x = n * x + x := by rw [Int.natCast_add, Int.add_mul]; simp
    omega

/-- the product of the cards at the places -/
def ppG : Nat → List Int → List Int → Int
  | k, c :: cs, p :: ps => if p = k then c * ppG (k + 1) cs ps else ppG (k + 1) cs (p :: ps)
  | _, _, _ => 1

theorem ppG_nil (k : Nat) (cs : List Int) : ppG k cs [] = 1 := by cases cs <;> rfl

theorem ppG_pos : ∀ (cs ps : List Int) (k : Nat), (∀ c ∈ cs, 1 ≤ c) → 1 ≤ ppG k cs ps
  | [], _, _, _ => by simp [ppG]
  | c :: cs, [], k, _ => by simp [ppG]
  | c :: cs, p :: ps, k, h => by
    have h1 := h c List.mem_cons_self
    have h2 := ppG_pos cs ps (k + 1) (fun x hx => h x (List.mem_cons_of_mem _ hx))
    have h3 := ppG_pos cs (p :: ps) (k + 1) (fun x hx => h x (List.mem_cons_of_mem _ hx))
    unfold ppG
    split
    · have : 1 * 1 ≤ c * ppG (k + 1) cs ps := Int.mul_le_mul h1 h2 (by omega) (by omega)
      omega
    · exact h3

theorem valL_cons {c : Int} {cs : List Int} (hc : 1 ≤ c) (i : Int) : valL (c :: cs) i = (i / prodL cs) :: valL cs (i % prodL cs) := by
  unfold valL
  simp only [valsG, prodL]
  rw [Int.mul_ediv_cancel_left _ (by omega)]

theorem split_div {M : Int} (v i : Int) (h0 : 0 ≤ i) (h1 : i < M) : (v * M + i) / M = v ∧ (v * M + i) % M = i := by
  have hM : 0 < M := by omega
  constructor
  · rw [Int.add_comm, Int.add_mul_ediv_right _ _ (by omega), Int.ediv_eq_zero_of_lt h0 h1]; omega
  · rw [Int.add_comm, Int.add_mul_emod_self_right, Int.emod_eq_of_lt h0 h1]

theorem cnt_windows (X PP M : Int) (hPP : 1 ≤ PP) (j : Int) (f : Nat → Int) (hf : ∀ v : Nat, f v * PP = if X + v * PP ≤ j ∧ j < X + v * PP + PP then M else 0) :
    ∀ u : Nat, sumTo f u * PP = if X ≤ j ∧ j < X + u * PP then M else 0
  | 0 => by
    simp only [sumTo, Int.zero_mul]
    rw [if_neg (by simp)]
  | u + 1 => by
    have ih := cnt_windows X PP M hPP j f hf u
    have hu := hf u
    simp only [sumTo, Int.add_mul, ih, hu]
    have e : ((u + 1 : Nat) : Int) * PP = u * PP + PP := by rw [Int.natCast_add, Int.add_mul]; simp
    have hnn : 0 ≤ (u : Int) * PP := Int.mul_nonneg (by omega) (by omega)
    rw [e]
    generalize (u : Int) * PP = Y at *
    by_cases h1 : X ≤ j ∧ j < X + Y
    · rw [if_pos h1, if_neg (by omega), if_pos (by omega)]; omega
    · by_cases h2 : X + Y ≤ j ∧ j < X + Y + PP
      · rw [if_neg h1, if_pos h2, if_pos (by omega)]; omega
      · rw [if_neg h1, if_neg h2, if_neg (by omega)]; omega

theorem cnt_part : ∀ (cs ps : List Int) (k : Nat) (n j : Int), (∀ c ∈ cs, 1 ≤ c) →
    cntP (fun i => decide (partG k cs (valL cs i) ps n = j)) (prodL cs).toNat * ppG k cs ps = if n * ppG k cs ps ≤ j ∧ j < n * ppG k cs ps + ppG k cs ps then prodL cs else 0
  | [], ps, k, n, j, _ => by
    simp only [partG_end, prodL, ppG, Int.mul_one]
    by_cases h : n = j
    · subst h
      rw [if_pos (by omega)]; simp [cntP]
    · rw [if_neg (by omega)]; simp [cntP, h]
  | c :: cs, [], k, n, j, hp => by
    simp only [partG_nil, ppG_nil, Int.mul_one]
    have hpos := prodL_pos (c :: cs) hp
    by_cases h : n = j
    · subst h
      rw [if_pos (by omega)]; simp [cntP]; omega
    · rw [if_neg (by omega)]; simp [cntP, h]
  | c :: cs, p :: ps, k, n, j, hp => by
    have hc := hp c List.mem_cons_self
    have hp' : ∀ x ∈ cs, 1 ≤ x := fun x hx => hp x (List.mem_cons_of_mem _ hx)
    have hM := prodL_pos cs hp'
    obtain ⟨C, hC⟩ : ∃ C : Nat, c = C := ⟨c.toNat, by omega⟩
    obtain ⟨M, hMM⟩ : ∃ M : Nat, prodL cs = M := ⟨(prodL cs).toNat, by omega⟩
    have hsz : (prodL (c :: cs)).toNat = C * M := by
      simp only [prodL, hC, hMM]; rw [← Int.natCast_mul, Int.toNat_natCast]
    rw [hsz, cntP_split]
    have hval : ∀ (v i : Nat), i < M → valL (c :: cs) ((v * M + i : Nat) : Int) = (v : Int) :: valL cs i := by
      intro v i hi
      rw [valL_cons hc, hMM]
      have := split_div (M := (M : Int)) v i (by omega) (by omega)
      rw [show ((v * M + i : Nat) : Int) = (v : Int) * M + i by simp]
      rw [this.1, this.2]
    by_cases hpk : p = k
    · have hpp : ppG k (c :: cs) (p :: ps) = c * ppG (k + 1) cs ps := by simp [ppG, hpk]
      have hf : ∀ v : Nat, cntP (fun i => decide (partG k (c :: cs) (valL (c :: cs) ((v * M + i : Nat) : Int)) (p :: ps) n = j)) M * ppG (k + 1) cs ps =
          if (n * c) * ppG (k + 1) cs ps + v * ppG (k + 1) cs ps ≤ j ∧ j < (n * c) * ppG (k + 1) cs ps + v * ppG (k + 1) cs ps + ppG (k + 1) cs ps then prodL cs else 0 := by
        intro v
        have ih := cnt_part cs ps (k + 1) (n * c + v) j hp'
        rw [hMM, Int.toNat_natCast] at ih
        rw [cntP_congr (P' := fun i => decide (partG (k + 1) cs (valL cs i) ps (n * c + v) = j)) (fun i hi => by rw [hval v i hi]; simp [partG, hpk]), ih, Int.add_mul, hMM]
      have := cnt_windows ((n * c) * ppG (k + 1) cs ps) (ppG (k + 1) cs ps) (prodL cs) (ppG_pos cs ps (k + 1) hp') j _ hf C
      rw [hpp, ← Int.mul_assoc, Int.mul_comm _ c, Int.mul_assoc, this]
      have e1 : n * (c * ppG (k + 1) cs ps) = n * c * ppG (k + 1) cs ps := by rw [Int.mul_assoc]
      rw [e1, ← hC]
      simp only [prodL]
      split
      · rfl
      · simp
    · have hpp : ppG k (c :: cs) (p :: ps) = ppG (k + 1) cs (p :: ps) := by simp [ppG, hpk]
      have ih := cnt_part cs (p :: ps) (k + 1) n j hp'
      rw [hMM, Int.toNat_natCast] at ih
      rw [hpp, sumTo_congr (f' := fun _ => cntP (fun i => decide (partG (k + 1) cs (valL cs i) (p :: ps) n = j)) M)
        (fun v _ => cntP_congr (fun i hi => by rw [hval v i hi]; simp [partG, hpk])), sumTo_const, Int.mul_assoc, ih, ← hC]
      simp only [prodL, hMM]
      split
      · rfl
      · simp

theorem hits_count {cs ps : List Int} (hg : Good cs) {j : Int} (h0 : 0 ≤ j) (h1 : j < ppG 0 cs ps) : ((hits cs ps j).length : Int) * ppG 0 cs ps = prodL cs := by
  have := cnt_part cs ps 0 0 j (fun c hc => (hg.card c hc).1)
  rw [if_pos (by omega)] at this
  rw [← this]
  unfold cntP hits hitsTo
  rw [List.countP_eq_length_filter]
  rfl

end Go.Proofs.Ytmnaidemihcfaaa

namespace Go.Proofs.Ytmnaidemihcfaaa
open Go.RowKit

/-- the product of the cards at the places -/
def prodAt (cs ps : List Int) : Int := prodL (ps.map fun p => cs.getD p.toNat 0)

theorem incr_cons {n last p : Int} {ps : List Int} : incr n last (p :: ps) = true ↔ last < p ∧ p < n ∧ incr n p ps = true := by
  have e : incr n last (p :: ps) = if p ≤ last ∨ n ≤ p then false else incr n p ps := rfl
  rw [e]
  by_cases h : p ≤ last ∨ n ≤ p
  · rw [if_pos h]; simp; omega
  · rw [if_neg h]
    exact ⟨fun h' => ⟨by omega, by omega, h'⟩, fun h => h.2.2⟩

theorem incr_mem : ∀ {ps : List Int} {n last : Int}, incr n last ps = true → ∀ p ∈ ps, last < p ∧ p < n
  | [], _, _, _ => by simp
  | q :: ps, n, last, h => by
    rw [incr_cons] at h
    intro p hp
    rcases List.mem_cons.1 hp with rfl | hp
    · exact ⟨h.1, h.2.1⟩
    · have := incr_mem h.2.2 p hp
      exact ⟨by omega, this.2⟩

theorem incr_length : ∀ {ps : List Int} {n last : Int}, incr n last ps = true → last < n → (ps.length : Int) < n - last
  | [], _, _, _, h => by simp; omega
  | q :: ps, n, last, h, hl => by
    rw [incr_cons] at h
    have := incr_length h.2.2 h.2.1
    simp only [List.length_cons]; omega

theorem incr_le {ps : List Int} {n : Nat} (h : incr n (-1) ps = true) : ps.length ≤ n := by
  have := incr_length h (by omega); omega

theorem ppG_eq : ∀ (cs ps : List Int) (k : Nat), incr (k + cs.length) (k - 1) ps = true → ppG k cs ps = prodL (ps.map fun p => cs.getD (p.toNat - k) 0)
  | [], [], _, _ => rfl
  | [], p :: ps, k, h => by
    rw [incr_cons] at h; simp at h; omega
  | c :: cs, [], _, _ => rfl
  | c :: cs, p :: ps, k, h => by
    have h0 := h
    rw [incr_cons] at h
    obtain ⟨h1, h2, h3⟩ := h
    simp only [List.length_cons] at h2 h3
    have shift : ∀ l : List Int, (∀ q ∈ l, (k : Int) < q) → (l.map fun p => (c :: cs).getD (p.toNat - k) 0) = l.map fun p => cs.getD (p.toNat - (k + 1)) 0 := by
      intro l hl
      refine List.map_congr_left fun q hq => ?_
      have := hl q hq
      rw [show q.toNat - k = (q.toNat - (k + 1)) + 1 by omega, List.getD_cons_succ]
    by_cases hpk : p = k
    · subst hpk
      have h3' : incr (((k + 1 : Nat) : Int) + cs.length) (((k + 1 : Nat) : Int) - 1) ps = true := by
        rw [show ((k + 1 : Nat) : Int) + cs.length = k + ((cs.length + 1 : Nat) : Int) by omega, show ((k + 1 : Nat) : Int) - 1 = k by omega]; exact h3
      have ih := ppG_eq cs ps (k + 1) h3'
      simp only [ppG, if_pos, List.map_cons, prodL]
      rw [ih, shift ps (fun q hq => (incr_mem h3 q hq).1)]
      simp
    · have h4 : incr (((k + 1 : Nat) : Int) + cs.length) (((k + 1 : Nat) : Int) - 1) (p :: ps) = true := by
        rw [incr_cons]
        refine ⟨by omega, by omega, ?_⟩
        rw [show ((k + 1 : Nat) : Int) + cs.length = k + ((cs.length + 1 : Nat) : Int) by omega]; exact h3
      have ih := ppG_eq cs (p :: ps) (k + 1) h4
      simp only [ppG, if_neg hpk]
      rw [ih, shift (p :: ps) (fun q hq => by have := (incr_mem h4 q hq).1; omega)]

theorem ppG_zero {cs ps : List Int} (h : incr cs.length (-1) ps = true) : ppG 0 cs ps = prodAt cs ps := by
  have := ppG_eq cs ps 0 (by simpa using h)
  simpa [prodAt] using this

theorem prodL_append (a b : List Int) : prodL (a ++ b) = prodL a * prodL b := by
  induction a with
  | nil => simp [prodL]
  | cons x a ih => simp only [List.cons_append, prodL, ih, Int.mul_assoc]

theorem prodAt_take {cs ps : List Int} {k : Nat} (hk : k < ps.length) : prodAt cs (ps.take (k + 1)) = prodAt cs (ps.take k) * cs.getD ps[k].toNat 0 := by
  unfold prodAt
  rw [List.take_succ_eq_append_getElem hk, List.map_append, prodL_append]
  simp [prodL]

theorem prodAt_bd {cs : List Int} (hg : Good cs) : ∀ (ps : List Int), (∀ p ∈ ps, 0 ≤ p ∧ p < cs.length) → 1 ≤ prodAt cs ps ∧ prodAt cs ps ≤ 8 ^ ps.length
  | [], _ => by simp [prodAt, prodL]
  | p :: ps, h => by
    have ih := prodAt_bd hg ps (fun q hq => h q (List.mem_cons_of_mem _ hq))
    have hp := h p List.mem_cons_self
    have hlt : p.toNat < cs.length := by omega
    have hc := hg.at_ hlt
    have e : prodAt cs (p :: ps) = cs[p.toNat] * prodAt cs ps := by
      simp [prodAt, prodL, List.getD_eq_getElem?_getD, List.getElem?_eq_getElem hlt]
    rw [e]
    have a : 1 * 1 ≤ cs[p.toNat] * prodAt cs ps := Int.mul_le_mul hc.1 ih.1 (by omega) (by omega)
    have b : cs[p.toNat] * prodAt cs ps ≤ 8 * 8 ^ ps.length := Int.mul_le_mul hc.2 ih.2 (by omega) (by omega)
    refine ⟨by omega, ?_⟩
    rw [List.length_cons, Int.pow_succ]; rw [Int.mul_comm (8 ^ ps.length) 8]; exact b

theorem pow8_le {k : Nat} (h : k ≤ 12) : (8 : Int) ^ k ≤ 68719476736 := by
  have : k = 0 ∨ k = 1 ∨ k = 2 ∨ k = 3 ∨ k = 4 ∨ k = 5 ∨ k = 6 ∨ k = 7 ∨ k = 8 ∨ k = 9 ∨ k = 10 ∨ k = 11 ∨ k = 12 := by omega
  rcases this with rfl | rfl | rfl | rfl | rfl | rfl | rfl | rfl | rfl | rfl | rfl | rfl | rfl <;> decide

end Go.Proofs.Ytmnaidemihcfaaa

namespace Go.Proofs.Ytmnaidemihcfaaa
open Go.RowKit

theorem enters_spread : ∀ args w, (callFunc 71 args).run Try.prog w = .ok (.enter 71 args) w := enters_of Try.func71 (by kernel_rfl) rfl

theorem bel3 (w : World) (a b c : Obj) : Below w.heap.size w (((w.alloc a).alloc b).alloc c) := (((Below.refl _ w).alloc (Nat.le_refl _) _).alloc (by simp) _).alloc (by simp; omega) _
theorem bel4 (w : World) (a b c d : Obj) : Below w.heap.size w ((((w.alloc a).alloc b).alloc c).alloc d) := (bel3 w a b c).alloc (by simp; omega) _

set_option maxHeartbeats 1000000 in
theorem Spread_none (A A' : Option Addr) (cs ps : List Int) (c c' : Nat) (j : Int) (w : World) (hc : Ints w w.heap.size A cs) (h : count cs = none) :
    Calls Try.prog 27 #[.slice A cs.length c, .slice A' ps.length c', .int .i64 j] w fun e w' => e = .returned (.tuple #[.slice none 0 0, .int .i64 20]) ∧ Below w.heap.size w w' := by
  have H := fun a b d => Lib.hid (count_none A cs c _ _ (hc.below (bel3 w a b d)) h)
  clear hc h
  go_enter Try.func27, Try.ntmps27
  go_wp2_with (go_at_call 68; refine ((H _ _ _).out).mono ?_; rintro e w' ⟨rfl, rfl⟩)
  go_ret2
  exact ⟨rfl, bel4 _ _ _ _ _⟩

set_option maxHeartbeats 1000000 in
theorem Spread_places (A A' : Option Addr) (cs ps : List Int) (c c' : Nat) (j : Int) (w : World) (hc : Ints w w.heap.size A cs) (hp : Ints w w.heap.size A' ps) (hpl : ps.length ≤ 65536) {t : Int} (h : count cs = some t) (hin : incr cs.length (-1) ps = false) :
    Calls Try.prog 27 #[.slice A cs.length c, .slice A' ps.length c', .int .i64 j] w fun e w' => e = .returned (.tuple #[.slice none 0 0, .int .i64 2]) ∧ Below w.heap.size w w' := by
  have H := fun a b d => Lib.hid (count_some A cs c _ _ (hc.below (bel3 w a b d)) h)
  have HI := fun a b d e => Lib.hid (by have := increasing_any cs.length A' ps c' _ (by omega) _ (hp.below (bel4 w a b d e)); rw [hin] at this; exact this)
  clear hc hp h hin
  go_enter Try.func27, Try.ntmps27
  go_wp2_with (first
    | (go_at_call 68; refine ((H _ _ _).out).mono ?_; rintro e w' ⟨rfl, rfl⟩)
    | (go_at_call 69; refine ((HI _ _ _ _).out).mono ?_; rintro e w' ⟨rfl, rfl⟩))
  go_ret2
  exact ⟨rfl, bel4 _ _ _ _ _⟩

theorem take_mem_bd {cs ps : List Int} (hin : incr cs.length (-1) ps = true) (k : Nat) : ∀ p ∈ ps.take k, 0 ≤ p ∧ p < cs.length := fun p hp => by
  have := incr_mem hin p (List.mem_of_mem_take hp); omega

set_option maxRecDepth 100000 in
set_option maxHeartbeats 2000000 in
theorem Spread_loop (A A' : Option Addr) (cs ps : List Int) (c c' : Nat) (j : Int) (w : World) (hc : Ints w w.heap.size A cs) (hp : Ints w w.heap.size A' ps) (hpl : ps.length ≤ 65536) (hg : Good cs) (hin : incr cs.length (-1) ps = true) :
    (¬ (0 ≤ j ∧ j < ppG 0 cs ps) → Calls Try.prog 27 #[.slice A cs.length c, .slice A' ps.length c', .int .i64 j] w fun e w' => e = .returned (.tuple #[.slice none 0 0, .int .i64 2]) ∧ Below w.heap.size w w') ∧
    ((0 ≤ j ∧ j < ppG 0 cs ps) → Calls Try.prog 27 #[.slice A cs.length c, .slice A' ps.length c', .int .i64 j] w fun e w' =>
      ∃ g, e = .returned (.tuple #[.slice (some ⟨g, 0, none⟩) (hits cs ps j).length (hits cs ps j).length, .int .i64 0]) ∧ w.heap.size ≤ g ∧ w'.rowIs g 3 (hits cs ps j).length (fun k => .int .i64 (hitF cs ps j k)) ∧ Below w.heap.size w w') := by
  have H := fun a b d => Lib.hid (count_some A cs c _ _ (hc.below (bel3 w a b d)) hg.count)
  have HI := fun a b d e => Lib.hid (by have := increasing_any cs.length A' ps c' _ (by omega) _ (hp.below (bel4 w a b d e)); rw [hin] at this; exact this)
  have hl12 := hg.len
  have hle := incr_le hin
  have HPP := Lib.hid (ppG_zero hin)
  have h4096 := hg.le
  have hpos := hg.pos
  have HIN := Lib.hid hin
  clear hin
  constructor
  · intro hnot
    rw [HPP.out] at hnot
    go_enter Try.func27, Try.ntmps27
    go_wp2_with (first
      | (go_at_call 68; refine ((H _ _ _).out).mono ?_; rintro e w' ⟨rfl, rfl⟩)
      | (go_at_call 69; refine ((HI _ _ _ _).out).mono ?_; rintro e w' ⟨rfl, rfl⟩))
    obtain ⟨W0, hW0⟩ : ∃ W0, allocs w [.cells #[.slice A cs.length c] 22, .cells #[.slice A' ps.length c'] 22, .cells #[.int .i64 j] 3, .cells #[.int .i64 (prodL cs)] 3] = W0 := ⟨_, rfl⟩
    have hs0 : W0.heap.size = w.heap.size + 4 := by rw [← hW0]; exact allocs_size _ _
    have hb0 : Below w.heap.size w W0 := by rw [← hW0]; exact allocs_below _ _
    have x1 : Boxed W0 w.heap.size 22 (.slice A cs.length c) := by rw [← hW0]; exact allocs_at _ w 0 _ rfl
    have x2 : Boxed W0 (w.heap.size + 1) 22 (.slice A' ps.length c') := by rw [← hW0]; exact allocs_at _ w 1 _ rfl
    have x3 : Boxed W0 (w.heap.size + 2) 3 (.int .i64 j) := by rw [← hW0]; exact allocs_at _ w 2 _ rfl
    have x4 : Boxed W0 (w.heap.size + 3) 3 (.int .i64 (prodL cs)) := by rw [← hW0]; exact allocs_at _ w 3 _ rfl
    show Code.wp _ _ _ _ (allocs w [.cells #[.slice A cs.length c] 22, .cells #[.slice A' ps.length c'] 22, .cells #[.int .i64 j] 3, .cells #[.int .i64 (prodL cs)] 3])
    rw [hW0]
    clear hW0 H HI
    have hc0 := (hc.below hb0).more hb0.size
    have hp0 := (hp.below hb0).more hb0.size
    have d1 := x1.cell
    have d2 := x2.cell
    have d3 := x3.cell
    have d4 := x4.cell
    clear hc hp x1 x2 x3 x4
    go_loop [10, 28] (fun pr ic => ∃ (k : Nat) (p : Int), k ≤ ps.length ∧ ic = .int .i64 k ∧ pr = .int .i64 p ∧ 1 ≤ p ∧ p ≤ 68719476736 ∧ Hid (p = prodAt cs (ps.take k))) (fun _ ic => ps.length - (intOf ic).toNat)
    case atStart => exact ⟨0, 1, Nat.zero_le _, rfl, rfl, by omega, by omega, by show _ = _; simp [prodAt, prodL]⟩
    case round =>
      obtain ⟨k, p, hk, rfl, rfl, hp1, hp2, HP⟩ := hrel
      by_cases hlt : k < ps.length
      · obtain ⟨b, off, hA', hb, hcell⟩ := hp0 k hlt
        have hpk := incr_mem HIN.out ps[k] (List.getElem_mem hlt)
        have hk2 : ps[k].toNat < cs.length := by omega
        obtain ⟨b', off', hA, hb', hcell'⟩ := hc0 ps[k].toNat hk2
        subst hA hA'
        have hpk0 : 0 ≤ ps[k] := by omega
        have hpk1 : ps[k] < (cs.length : Int) := hpk.2
        have hcd := hg.at_ hk2
        have hn := prodAt_bd hg (ps.take (k + 1)) (take_mem_bd HIN.out (k + 1))
        have he := prodAt_take (cs := cs) hlt
        have hgd : cs.getD ps[k].toNat 0 = cs[ps[k].toNat] := by simp [List.getD_eq_getElem?_getD, List.getElem?_eq_getElem hk2]
        rw [hgd, ← HP.out] at he
        have h8 := pow8_le (k := (ps.take (k + 1)).length) (by simp; omega)
        rw [he] at hn
        have hn1 := hn.1
        have hn2 : p * cs[ps[k].toNat] ≤ 68719476736 := by omega
        have HE := Lib.hid he
        clear he hgd hn h8 hc0 hp0 hpk
        go_wp2
        go_round
        case rel => exact ⟨k + 1, p * cs[ps[k].toNat], by omega, by go_num, rfl, hn1, hn2, HE.out.symm⟩
        case measure => simp [intOf]; omega
      · obtain rfl : k = ps.length := by omega
        have hpp : p = prodAt cs ps := by rw [HP.out, List.take_length]
        subst hpp
        clear HP
        clear hc0 hp0
        by_cases h0 : j < 0
        · clear hnot
          go_wp2
          go_ret2
          exact ⟨rfl, hb0⟩
        · have h1 : prodAt cs ps ≤ j := by omega
          clear hnot
          go_wp2
          go_ret2
          exact ⟨rfl, hb0⟩
  · rintro ⟨hj0, hj1⟩
    rw [HPP.out] at hj1
    go_enter Try.func27, Try.ntmps27
    go_wp2_with (first
      | (go_at_call 68; refine ((H _ _ _).out).mono ?_; rintro e w' ⟨rfl, rfl⟩)
      | (go_at_call 69; refine ((HI _ _ _ _).out).mono ?_; rintro e w' ⟨rfl, rfl⟩))
    obtain ⟨W0, hW0⟩ : ∃ W0, allocs w [.cells #[.slice A cs.length c] 22, .cells #[.slice A' ps.length c'] 22, .cells #[.int .i64 j] 3, .cells #[.int .i64 (prodL cs)] 3] = W0 := ⟨_, rfl⟩
    have hs0 : W0.heap.size = w.heap.size + 4 := by rw [← hW0]; exact allocs_size _ _
    have hb0 : Below w.heap.size w W0 := by rw [← hW0]; exact allocs_below _ _
    have x1 : Boxed W0 w.heap.size 22 (.slice A cs.length c) := by rw [← hW0]; exact allocs_at _ w 0 _ rfl
    have x2 : Boxed W0 (w.heap.size + 1) 22 (.slice A' ps.length c') := by rw [← hW0]; exact allocs_at _ w 1 _ rfl
    have x3 : Boxed W0 (w.heap.size + 2) 3 (.int .i64 j) := by rw [← hW0]; exact allocs_at _ w 2 _ rfl
    have x4 : Boxed W0 (w.heap.size + 3) 3 (.int .i64 (prodL cs)) := by rw [← hW0]; exact allocs_at _ w 3 _ rfl
    show Code.wp _ _ _ _ (allocs w [.cells #[.slice A cs.length c] 22, .cells #[.slice A' ps.length c'] 22, .cells #[.int .i64 j] 3, .cells #[.int .i64 (prodL cs)] 3])
    rw [hW0]
    clear hW0 H HI
    have hc0 := (hc.below hb0).more hb0.size
    have hp0 := (hp.below hb0).more hb0.size
    have d1 := x1.cell
    have d2 := x2.cell
    have d3 := x3.cell
    have d4 := x4.cell
    clear hc hp x1 x2 x3 x4
    go_loop [10, 28] (fun pr ic => ∃ (k : Nat) (p : Int), k ≤ ps.length ∧ ic = .int .i64 k ∧ pr = .int .i64 p ∧ 1 ≤ p ∧ p ≤ 68719476736 ∧ Hid (p = prodAt cs (ps.take k))) (fun _ ic => ps.length - (intOf ic).toNat)
    case atStart => exact ⟨0, 1, Nat.zero_le _, rfl, rfl, by omega, by omega, by show _ = _; simp [prodAt, prodL]⟩
    case round =>
      obtain ⟨k, p, hk, rfl, rfl, hp1, hp2, HP⟩ := hrel
      by_cases hlt : k < ps.length
      · obtain ⟨b, off, hA', hb, hcell⟩ := hp0 k hlt
        have hpk := incr_mem HIN.out ps[k] (List.getElem_mem hlt)
        have hk2 : ps[k].toNat < cs.length := by omega
        obtain ⟨b', off', hA, hb', hcell'⟩ := hc0 ps[k].toNat hk2
        subst hA hA'
        have hpk0 : 0 ≤ ps[k] := by omega
        have hpk1 : ps[k] < (cs.length : Int) := hpk.2
        have hcd := hg.at_ hk2
        have hn := prodAt_bd hg (ps.take (k + 1)) (take_mem_bd HIN.out (k + 1))
        have he := prodAt_take (cs := cs) hlt
        have hgd : cs.getD ps[k].toNat 0 = cs[ps[k].toNat] := by simp [List.getD_eq_getElem?_getD, List.getElem?_eq_getElem hk2]
        rw [hgd, ← HP.out] at he
        have h8 := pow8_le (k := (ps.take (k + 1)).length) (by simp; omega)
        rw [he] at hn
        have hn1 := hn.1
        have hn2 : p * cs[ps[k].toNat] ≤ 68719476736 := by omega
        have HE := Lib.hid he
        clear he hgd hn h8 hc0 hp0 hpk
        go_wp2
        go_round
        case rel => exact ⟨k + 1, p * cs[ps[k].toNat], by omega, by go_num, rfl, hn1, hn2, HE.out.symm⟩
        case measure => simp [intOf]; omega
      · obtain rfl : k = ps.length := by omega
        have hpp : p = prodAt cs ps := by rw [HP.out, List.take_length]
        subst hpp
        clear HP
        have hcnt := hits_count hg hj0 (by rw [HPP.out]; exact hj1)
        rw [HPP.out] at hcnt
        have hquo : prodL cs / prodAt cs ps = ((hits cs ps j).length : Int) := by rw [← hcnt]; exact Int.mul_ediv_cancel _ (by omega)
        have hlen : (hits cs ps j).length ≤ 65536 := by
          have h1 : ((hits cs ps j).length : Int) * 1 ≤ ((hits cs ps j).length : Int) * prodAt cs ps := Int.mul_le_mul_of_nonneg_left hp1 (by omega)
          omega
        have HC := Lib.hid (collect_it (hitF cs ps j) (hits cs ps j).length hlen 71 _ enters_spread W0.heap.size W0 (Nat.le_refl _) (spread_it hg j A A' c c' (w.heap.size + 3) w.heap.size (w.heap.size + 1) (w.heap.size + 2) W0 hpl hc0 hp0 d4 d1 d2 d3))
        rw [← hquo] at HC
        clear hcnt hquo hlen hc0 hp0
        go_wp2_with (go_at_call 72; refine (HC.out).mono ?_; rintro e w' ⟨g, rfl, hg1, hg2, hg3⟩)
        go_ret2
        exact ⟨g, rfl, by omega, hg2, hb0.trans (hg3.mono hb0.size)⟩

end Go.Proofs.Ytmnaidemihcfaaa

namespace Go.Proofs.Ytmnaidemihcfaaa
open Go.RowKit

/-- a permutation, as the program checks it -/
def permC (n : Int) : Nat → List Int → Bool
  | _, [] => true
  | s, p :: ps => if p < 0 ∨ n ≤ p ∨ s.testBit p.toNat = true then false else permC n (s ||| 2 ^ p.toNat) ps

def permNum (cs : List Int) (vs : Nat → Int) : List Int → Int → Int
  | [], n => n
  | p :: ps, n => permNum cs vs ps (n * cs.getD p.toNat 0 + vs p.toNat)

def PermuteS (cs ps : List Int) (i : Int) : Int × Int :=
  match count cs with
  | none => (0, 20)
  | some t => if ps.length ≠ cs.length ∨ i < 0 ∨ t ≤ i then (0, 2) else if permC cs.length 0 ps = false then (0, 2) else (permNum cs (valF cs i) ps 0, 0)

theorem permC_drop {ps : List Int} {k : Nat} (n : Int) (s : Nat) (h : k < ps.length) : permC n s (ps.drop k) = if ps[k] < 0 ∨ n ≤ ps[k] ∨ s.testBit ps[k].toNat = true then false else permC n (s ||| 2 ^ ps[k].toNat) (ps.drop (k + 1)) := by
  rw [List.drop_eq_getElem_cons h]; rfl

theorem permNum_drop {ps : List Int} {k : Nat} (cs : List Int) (vs : Nat → Int) (n : Int) (h : k < ps.length) : permNum cs vs (ps.drop k) n = permNum cs vs (ps.drop (k + 1)) (n * cs.getD ps[k].toNat 0 + vs ps[k].toNat) := by
  rw [List.drop_eq_getElem_cons h]; rfl

theorem permC_mem : ∀ {ps : List Int} {n : Int} {s : Nat}, permC n s ps = true → ∀ p ∈ ps, 0 ≤ p ∧ p < n
  | [], _, _, _ => by simp
  | q :: ps, n, s, h => by
    have e : permC n s (q :: ps) = if q < 0 ∨ n ≤ q ∨ s.testBit q.toNat = true then false else permC n (s ||| 2 ^ q.toNat) ps := rfl
    rw [e] at h
    split at h
    · cases h
    · rename_i hq
      intro p hp
      rcases List.mem_cons.1 hp with rfl | hp
      · omega
      · exact permC_mem h p hp

theorem bit_test {s q : Nat} (hs : s < 4096) : (bits BinOp.and IntKind.u64 ((s : Int) / 2 ^ q) 1 == 1) = s.testBit q := by
  have h2 : ((s : Int) / 2 ^ q) = ((s / 2 ^ q : Nat) : Int) := by simp
  have hle : s / 2 ^ q ≤ s := Nat.div_le_self _ _
  rw [h2, Nat.testBit_eq_decide_div_mod_eq]
  generalize s / 2 ^ q = t at *
  rw [and_one_u64 _ (by omega) (by omega), Bool.eq_iff_iff]
  simp
  omega

theorem bit_set {s q : Nat} (hs : s < 4096) (hq : q < 12) : bits BinOp.or IntKind.u64 (s : Int) (IntKind.u64.wrap (2 ^ q)) = ((s ||| 2 ^ q : Nat) : Int) ∧ s ||| 2 ^ q < 4096 := by
  have h2 : 2 ^ q < 2 ^ 12 := Nat.pow_lt_pow_right (by omega) hq
  have hw : IntKind.u64.wrap (2 ^ q) = ((2 ^ q : Nat) : Int) := by
    rw [IntKind.wrap_u64]
    have e : ((2 : Int) ^ q) = ((2 ^ q : Nat) : Int) := by simp
    rw [e]
    generalize 2 ^ q = t at *
    omega
  rw [hw]
  exact ⟨u64_or_nat _ _ (by omega) (by omega), Nat.or_lt_two_pow (n := 12) (by omega) h2⟩

theorem perm_step {n c v P : Int} (hn : 0 ≤ n) (h : n < P) (hc : 1 ≤ c) (hc8 : c ≤ 8) (hv0 : 0 ≤ v) (hv : v < c) : 0 ≤ n * c + v ∧ n * c + v < P * 8 ∧ 0 ≤ n * c ∧ n * c ≤ P * 8 := by
  have a : 0 ≤ n * c := Int.mul_nonneg hn (by omega)
  have b : n * c + c ≤ P * c := by
    have : (n + 1) * c ≤ P * c := Int.mul_le_mul_of_nonneg_right (by omega) (by omega)
    rw [Int.add_mul, Int.one_mul] at this; exact this
  have d : P * c ≤ P * 8 := Int.mul_le_mul_of_nonneg_left hc8 (by omega)
  omega

set_option maxRecDepth 100000 in
set_option maxHeartbeats 4000000 in
theorem Permute_go (A A' : Option Addr) (cs ps : List Int) (c c' : Nat) (i : Int) (w : World) (hc : Ints w w.heap.size A cs) (hp : Ints w w.heap.size A' ps) (hg : Good cs) (hl : ps.length = cs.length) (hi0 : 0 ≤ i) (hi1 : i < prodL cs) :
    Calls Try.prog 31 #[.slice A cs.length c, .slice A' ps.length c', .int .i64 i] w fun e w' => e = .returned (numV (if permC cs.length 0 ps = false then (0, 2) else (permNum cs (valF cs i) ps 0, 0))) ∧ Below w.heap.size w w' := by
  have H := Lib.hid (count_some A cs c _ _ hc hg.count)
  have hl12 := hg.len
  have hll : ((ps.length : Int) != (cs.length : Int)) = false := by simp [hl]
  have hpl : ps.length ≤ 12 := by omega
  have HL := Lib.hid hl
  clear hl
  obtain ⟨res, hres⟩ : ∃ res, (if permC cs.length 0 ps = false then ((0 : Int), (2 : Int)) else (permNum cs (valF cs i) ps 0, 0)) = res := ⟨_, rfl⟩
  rw [hres]
  have HR := Lib.hid hres
  clear hres
  go_enter Try.func31, Try.ntmps31
  go_wp2_with (first
      | (go_at_call 68; refine (H.out).mono ?_; rintro e w' ⟨rfl, rfl⟩))
  go_loop [10, 40] (fun sn ic => ∃ (k : Nat) (s : Nat), k ≤ ps.length ∧ ic = .int .i64 k ∧ sn = .int .u64 s ∧ s < 4096 ∧ Hid (permC cs.length 0 ps = permC cs.length s (ps.drop k))) (fun _ ic => ps.length - (intOf ic).toNat)
  case atStart => exact ⟨0, 0, Nat.zero_le _, rfl, rfl, by omega, rfl⟩
  case round =>
    obtain ⟨k, s, hk, rfl, rfl, hs, HC⟩ := hrel
    by_cases hlt : k < ps.length
    · obtain ⟨b, off, hA', hb, hcell⟩ := hp k hlt
      subst hA'
      clear hp hc
      have HD := Lib.hid (permC_drop cs.length s hlt)
      by_cases h0 : ps[k] < 0
      · go_wp2
        go_ret2
        exact ⟨by rw [← HR.out, if_pos (by rw [HC.out, HD.out, if_pos (.inl h0)])]; rfl, Below.refl _ _⟩
      · by_cases h1 : (cs.length : Int) ≤ ps[k]
        · go_wp2
          go_ret2
          exact ⟨by rw [← HR.out, if_pos (by rw [HC.out, HD.out, if_pos (.inr (.inl h1))])]; rfl, Below.refl _ _⟩
        · have hbt := bit_test (q := ps[k].toNat) hs
          have HB := Lib.hid (bit_set (q := ps[k].toNat) hs (by omega))
          cases ht : s.testBit ps[k].toNat with
          | true =>
            rw [ht] at hbt
            have HT := Lib.hid ht
            clear ht
            go_wp2
            go_ret2
            exact ⟨by rw [← HR.out, if_pos (by rw [HC.out, HD.out, if_pos (.inr (.inr HT.out))])]; rfl, Below.refl _ _⟩
          | false =>
            rw [ht] at hbt
            have HT := Lib.hid ht
            clear ht
            go_wp2
            go_round
            case rel => exact ⟨k + 1, s ||| 2 ^ ps[k].toNat, by omega, by go_num, by rw [HB.out.1], HB.out.2, by show _ = _; rw [HC.out, HD.out, if_neg (by rw [HT.out]; simp; omega)]⟩
            case measure => simp [intOf]; omega
    · obtain rfl : k = ps.length := by omega
      have hperm : permC cs.length 0 ps = true := by rw [HC.out, List.drop_length]; rfl
      have HRes : Hid (res = (permNum cs (valF cs i) ps 0, 0)) := by
        show _ = _
        rw [← HR.out, hperm]; simp
      have HM := Lib.hid (permC_mem hperm)
      clear HC hperm HR
      obtain ⟨W0, hW0⟩ : ∃ W0, ((w.alloc (.cells #[.slice A cs.length c] 22)).alloc (.cells #[.int .i64 (prodL cs)] 3)).alloc (.cells #[.int .i64 i] 3) = W0 := ⟨_, rfl⟩
      have hb0 : Below w.heap.size w W0 := by rw [← hW0]; exact bel3 _ _ _ _
      have hs0 : W0.heap.size = w.heap.size + 3 := by rw [← hW0]; simp
      have HC := Lib.hid (collect_it (valF cs i) cs.length (by omega) 101 _ enters_values w.heap.size W0 hb0.size
        (values_it hg hi0 hi1 A c w.heap.size (w.heap.size + 2) (w.heap.size + 1) w.heap.size W0 hb0.size (hc.below hb0)
          (by rw [← hW0]; exact (three_cells _ _ _ _ _ _ _).1) (by rw [← hW0]; exact (three_cells _ _ _ _ _ _ _).2.1) (by rw [← hW0]; exact (three_cells _ _ _ _ _ _ _).2.2)))
      have HW := Lib.hid hW0
      have hcb : ∀ W1, Below w.heap.size w W1 → Ints W1 w.heap.size A cs := fun W1 h => hc.below h
      have hpb : ∀ W1, Below w.heap.size w W1 → Ints W1 w.heap.size A' ps := fun W1 h => hp.below h
      have HCB := Lib.hid hcb
      have HPB := Lib.hid hpb
      clear hW0 hc hp hcb hpb
      go_wp2_with (first
        | (go_at_call 73; refine (values_any _ _ _ _ _ _).mono ?_; rintro e w' ⟨rfl, hw'⟩; rw [HW.out] at hw'; subst hw')
        | (go_at_call 72; refine (HC.out).mono ?_; rintro e w1 ⟨g, rfl, hg1, hg2, hg3⟩))
      have hb1 : Below w.heap.size w w1 := hb0.trans (hg3.mono hb0.size)
      have hc1 := HCB.out w1 hb1
      have hp1 := HPB.out w1 hb1
      clear HC HW HCB HPB hg3
      go_loopw [14, 73] (fun nv ic wr => ∃ (k : Nat) (n : Int) (d : Nat), k ≤ ps.length ∧ ic = .int .i64 k ∧ nv = .int .i64 n ∧ wr = w1.drewN d ∧ 0 ≤ n ∧ n < 8 ^ k ∧ Hid (permNum cs (valF cs i) ps 0 = permNum cs (valF cs i) (ps.drop k) n)) (fun _ ic _ => ps.length - (intOf ic).toNat)
      case atStart => exact ⟨0, 0, 0, Nat.zero_le _, rfl, rfl, rfl, by omega, by simp, rfl⟩
      case round =>
        obtain ⟨k, n, d, hk, rfl, rfl, rfl, hn0, hn1, HP⟩ := hrel
        by_cases hlt : k < ps.length
        · have hq := HM.out ps[k] (List.getElem_mem hlt)
          have hk2 : ps[k].toNat < cs.length := by omega
          obtain ⟨b, off, hA', hb, hcell⟩ := hp1 k hlt
          obtain ⟨b', off', hA, hb', hcell'⟩ := hc1 ps[k].toNat hk2
          subst hA hA'
          have hq0 := hq.1
          have hq1 := hq.2
          have hrow := hg2.cell hk2
          have hcd := hg.at_ hk2
          have hv := valF_bd hg hi0 hi1 hk2
          have hst := perm_step hn0 hn1 hcd.1 hcd.2 hv.1 hv.2
          have h8 := pow8_le (k := k + 1) (by omega)
          have hpw : (8 : Int) ^ (k + 1) = 8 ^ k * 8 := Int.pow_succ _ _
          rw [hpw] at h8
          have m1 := hst.2.2.1
          have m2 : n * cs[ps[k].toNat] ≤ 68719476736 := by omega
          have m3 := hst.1
          have m4 : n * cs[ps[k].toNat] + valF cs i ps[k].toNat ≤ 68719476736 := by omega
          have hgd : cs.getD ps[k].toNat 0 = cs[ps[k].toNat] := by simp [List.getD_eq_getElem?_getD, List.getElem?_eq_getElem hk2]
          have hd := permNum_drop cs (valF cs i) n hlt
          rw [hgd] at hd
          have HD := Lib.hid hd
          have HS := Lib.hid hst
          have HPW := Lib.hid hpw
          obtain ⟨vv, hvv⟩ : ∃ vv, valF cs i ps[k].toNat = vv := ⟨_, rfl⟩
          rw [hvv] at hrow m3 m4 HD HS hv
          clear hd hst hpw hgd h8 hn1 hq hp1 hc1 hvv
          go_wp2
          go_quiet (fail)
          go_wp2
          go_roundw
          case rel => exact ⟨k + 1, n * cs[ps[k].toNat] + vv, d + nq, by omega, by go_num, rfl, rfl, m3, by rw [HPW.out]; exact HS.out.2.1, by show _ = _; rw [HP.out, HD.out]⟩
          case measure => simp [intOf]; omega
        · obtain rfl : k = ps.length := by omega
          have hfin : permNum cs (valF cs i) ps 0 = n := by rw [HP.out, List.drop_length]; rfl
          have HF := Lib.hid hfin
          clear HP hfin hc1 hp1 hn1
          go_wp2
          go_ret2
          exact ⟨by rw [HRes.out, HF.out]; rfl, below_drewN hb1 d⟩

end Go.Proofs.Ytmnaidemihcfaaa

namespace Go.Proofs.Ytmnaidemihcfaaa
open Go.RowKit

set_option maxHeartbeats 1000000 in
theorem Permute_any (A A' : Option Addr) (cs ps : List Int) (c c' : Nat) (i : Int) (w : World) (hc : Ints w w.heap.size A cs) (hp : Ints w w.heap.size A' ps) (hpl : ps.length ≤ 65536) :
    Calls Try.prog 31 #[.slice A cs.length c, .slice A' ps.length c', .int .i64 i] w fun e w' => e = .returned (numV (PermuteS cs ps i)) ∧ Below w.heap.size w w' := by
  cases h : count cs with
  | none =>
    have HG := Lib.hid (show PermuteS cs ps i = (0, 20) by simp [PermuteS, h])
    have H := Lib.hid (count_none A cs c w _ hc h)
    clear h hc hp
    go_enter Try.func31, Try.ntmps31
    go_wp2_with (go_at_call 68; refine (H.out).mono ?_; rintro e w' ⟨rfl, rfl⟩)
    go_ret2
    exact ⟨by rw [HG.out]; rfl, Below.refl _ _⟩
  | some t =>
    have H := Lib.hid (count_some A cs c w _ hc h)
    by_cases hl : ps.length = cs.length
    · have hll : ((ps.length : Int) != (cs.length : Int)) = false := by simp [hl]
      by_cases h0 : i < 0
      · have HG := Lib.hid (show PermuteS cs ps i = (0, 2) by simp [PermuteS, h, h0])
        clear h hc hp hl
        go_enter Try.func31, Try.ntmps31
        go_wp2_with (go_at_call 68; refine (H.out).mono ?_; rintro e w' ⟨rfl, rfl⟩)
        go_ret2
        exact ⟨by rw [HG.out]; rfl, Below.refl _ _⟩
      · by_cases h1 : t ≤ i
        · have HG := Lib.hid (show PermuteS cs ps i = (0, 2) by simp [PermuteS, h, h1])
          clear h hc hp hl
          go_enter Try.func31, Try.ntmps31
          go_wp2_with (go_at_call 68; refine (H.out).mono ?_; rintro e w' ⟨rfl, rfl⟩)
          go_ret2
          exact ⟨by rw [HG.out]; rfl, Below.refl _ _⟩
        · obtain ⟨hg, rfl⟩ := good_of h
          have hG : PermuteS cs ps i = (if permC cs.length 0 ps = false then (0, 2) else (permNum cs (valF cs i) ps 0, 0)) := by
            unfold PermuteS
            simp only [h]
            rw [if_neg (by rintro (h | h | h) <;> omega)]
          rw [hG]
          exact Permute_go A A' cs ps c c' i w hc hp hg hl (by omega) (by omega)
    · have hll : ((ps.length : Int) != (cs.length : Int)) = true := by simp; omega
      have HG := Lib.hid (show PermuteS cs ps i = (0, 2) by simp [PermuteS, h, hl])
      clear h hc hp hl
      go_enter Try.func31, Try.ntmps31
      go_wp2_with (go_at_call 68; refine (H.out).mono ?_; rintro e w' ⟨rfl, rfl⟩)
      go_ret2
      exact ⟨by rw [HG.out]; rfl, Below.refl _ _⟩

/-- a list of ints in new memory, or nil, and an error -/
def listR (w w' : World) (e : Ending) (r : List Int × Int) : Prop :=
  ∃ A c, e = .returned (.tuple #[.slice A r.1.length c, .int .i64 r.2]) ∧ Ints w' w'.heap.size A r.1 ∧ Below w.heap.size w w'

def ValuesS (cs : List Int) (i : Int) : List Int × Int :=
  match count cs with
  | none => ([], 20)
  | some t => if i < 0 ∨ t ≤ i then ([], 2) else (valL cs i, 0)

theorem Values_any (A : Option Addr) (cs : List Int) (c : Nat) (i : Int) (w : World) (hc : Ints w w.heap.size A cs) :
    Calls Try.prog 36 #[.slice A cs.length c, .int .i64 i] w fun e w' => listR w w' e (ValuesS cs i) := by
  cases h : count cs with
  | none =>
    refine (Values_none A cs c i w _ hc h).mono ?_
    rintro e w' ⟨rfl, rfl⟩
    exact ⟨none, 0, by simp [ValuesS, h], by simp [ValuesS, h]; exact Ints.nil _ _ _, Below.refl _ _⟩
  | some t =>
    by_cases hi : i < 0 ∨ t ≤ i
    · refine (Values_arg A cs c i w _ hc h hi).mono ?_
      rintro e w' ⟨rfl, rfl⟩
      have : ValuesS cs i = ([], 2) := by simp only [ValuesS, h]; rw [if_pos hi]
      rw [this]
      exact ⟨none, 0, rfl, Ints.nil _ _ _, Below.refl _ _⟩
    · obtain ⟨hg, rfl⟩ := good_of h
      have : ValuesS cs i = (valL cs i, 0) := by simp only [ValuesS, h]; rw [if_neg hi]
      rw [this]
      refine (Values_ok A cs c i w hc hg (by omega) (by omega)).mono ?_
      rintro e w' ⟨g, rfl, h1, h2, h3⟩
      exact ⟨some ⟨g, 0, none⟩, cs.length, by simp only [valL_length], Ints.of_row h2 (by simp only [valL_length]; exact Nat.le_refl _) (fun k hk => by simp only [valL_get]), h3⟩

def hitL (cs ps : List Int) (j : Int) : List Int := (hits cs ps j).map (fun n : Nat => (n : Int))

theorem hitL_length (cs ps : List Int) (j : Int) : (hitL cs ps j).length = (hits cs ps j).length := by simp [hitL]

theorem hitL_get {cs ps : List Int} {j : Int} {k : Nat} (h : k < (hitL cs ps j).length) : (hitL cs ps j)[k] = hitF cs ps j k := by
  have h' : k < (hits cs ps j).length := by rw [hitL_length] at h; exact h
  simp [hitL, hitF, List.getD_eq_getElem?_getD, List.getElem?_eq_getElem h']

def SpreadS (cs ps : List Int) (j : Int) : List Int × Int :=
  match count cs with
  | none => ([], 20)
  | some _ => if incr cs.length (-1) ps = false then ([], 2) else if j < 0 ∨ ppG 0 cs ps ≤ j then ([], 2) else (hitL cs ps j, 0)

theorem Spread_any (A A' : Option Addr) (cs ps : List Int) (c c' : Nat) (j : Int) (w : World) (hc : Ints w w.heap.size A cs) (hp : Ints w w.heap.size A' ps) (hpl : ps.length ≤ 65536) :
    Calls Try.prog 27 #[.slice A cs.length c, .slice A' ps.length c', .int .i64 j] w fun e w' => listR w w' e (SpreadS cs ps j) := by
  cases h : count cs with
  | none =>
    refine (Spread_none A A' cs ps c c' j w hc h).mono ?_
    rintro e w' ⟨rfl, hb⟩
    exact ⟨none, 0, by simp [SpreadS, h], by simp [SpreadS, h]; exact Ints.nil _ _ _, hb⟩
  | some t =>
    cases hin : incr cs.length (-1) ps with
    | false =>
      refine (Spread_places A A' cs ps c c' j w hc hp hpl h hin).mono ?_
      rintro e w' ⟨rfl, hb⟩
      have : SpreadS cs ps j = ([], 2) := by simp only [SpreadS, h]; rw [if_pos hin]
      rw [this]
      exact ⟨none, 0, rfl, Ints.nil _ _ _, hb⟩
    | true =>
      obtain ⟨hg, rfl⟩ := good_of h
      by_cases hj : j < 0 ∨ ppG 0 cs ps ≤ j
      · refine ((Spread_loop A A' cs ps c c' j w hc hp hpl hg hin).1 (by omega)).mono ?_
        rintro e w' ⟨rfl, hb⟩
        have : SpreadS cs ps j = ([], 2) := by simp only [SpreadS, h]; rw [if_neg (by rw [hin]; simp), if_pos hj]
        rw [this]
        exact ⟨none, 0, rfl, Ints.nil _ _ _, hb⟩
      · refine ((Spread_loop A A' cs ps c c' j w hc hp hpl hg hin).2 (by omega)).mono ?_
        rintro e w' ⟨g, rfl, h1, h2, h3⟩
        have : SpreadS cs ps j = (hitL cs ps j, 0) := by simp only [SpreadS, h]; rw [if_neg (by rw [hin]; simp), if_neg hj]
        rw [this]
        exact ⟨some ⟨g, 0, none⟩, _, by simp only [hitL_length]; rfl, Ints.of_row h2 (by simp only [hitL_length]; exact Nat.le_refl _) (fun k hk => by simp only [hitL_get]), h3⟩

end Go.Proofs.Ytmnaidemihcfaaa
