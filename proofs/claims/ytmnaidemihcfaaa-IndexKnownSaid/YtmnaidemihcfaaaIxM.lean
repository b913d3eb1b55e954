/- Chapter 02, plain: cards, combinations and their numbers. No program in sight. -/
import Derived.Below
namespace Go.Proofs.Ytmnaidemihcfaaa

def cnt : Int → List Int → Option Int
  | s, [] => some s
  | s, c :: cs => if c < 1 ∨ 8 < c ∨ 4096 < s * c then none else cnt (s * c) cs

def prodL : List Int → Int
  | [] => 1
  | c :: cs => c * prodL cs

theorem cnt_drop {cs : List Int} {k : Nat} (t : Int) (h : k < cs.length) : cnt t (cs.drop k) = if cs[k] < 1 ∨ 8 < cs[k] ∨ 4096 < t * cs[k] then none else cnt (t * cs[k]) (cs.drop (k + 1)) := by
  rw [List.drop_eq_getElem_cons h]; rfl

theorem mul_bd {t c : Int} (h1 : 1 ≤ t) (h2 : t ≤ 4096) (h3 : 1 ≤ c) (h4 : c ≤ 8) : 1 ≤ t * c ∧ t * c ≤ 32768 := by
  have a : 1 * 1 ≤ t * c := Int.mul_le_mul h1 h3 (by omega) (by omega)
  have b : t * c ≤ 4096 * 8 := Int.mul_le_mul h2 h4 (by omega) (by omega)
  omega

/-- cards: the product, or none -/
def count (cs : List Int) : Option Int := if 12 < cs.length then none else cnt 1 cs

theorem cnt_pos : ∀ (cs : List Int) (s t : Int), 1 ≤ s → cnt s cs = some t → (∀ c ∈ cs, 1 ≤ c ∧ c ≤ 8) ∧ t = s * prodL cs ∧ (s ≤ 4096 → t ≤ 4096)
  | [], s, t, hs, h => by
    simp only [cnt, Option.some.injEq] at h
    subst h
    exact ⟨by simp, by simp [prodL], fun h => h⟩
  | c :: cs, s, t, hs, h => by
    simp only [cnt] at h
    split at h
    · cases h
    · rename_i hc
      have hc1 : 1 ≤ c := by omega
      have hsc : 1 ≤ s * c := by
        have : 1 * 1 ≤ s * c := Int.mul_le_mul hs hc1 (by omega) (by omega)
        omega
      obtain ⟨h1, h2, h3⟩ := cnt_pos cs (s * c) t hsc h
      refine ⟨?_, ?_, ?_⟩
      · intro x hx
        rcases List.mem_cons.1 hx with rfl | hx
        · omega
        · exact h1 x hx
      · rw [h2, prodL, Int.mul_assoc]
      · intro _; exact h3 (by omega)

theorem prodL_pos : ∀ (cs : List Int), (∀ c ∈ cs, 1 ≤ c) → 1 ≤ prodL cs
  | [], _ => by simp [prodL]
  | c :: cs, h => by
    have h1 := h c (List.mem_cons_self)
    have h2 := prodL_pos cs (fun x hx => h x (List.mem_cons_of_mem _ hx))
    have : 1 * 1 ≤ c * prodL cs := Int.mul_le_mul h1 h2 (by omega) (by omega)
    simp only [prodL]; omega

structure Good (cs : List Int) : Prop where
  len : cs.length ≤ 12
  card : ∀ c ∈ cs, 1 ≤ c ∧ c ≤ 8
  pos : 1 ≤ prodL cs
  le : prodL cs ≤ 4096
  count : count cs = some (prodL cs)

theorem good_of {cs : List Int} {t : Int} (h : count cs = some t) : Good cs ∧ t = prodL cs := by
  have h0 := h
  unfold count at h
  split at h
  · cases h
  · obtain ⟨h1, h2, h3⟩ := cnt_pos cs 1 t (by omega) h
    have h4 : t = prodL cs := by omega
    refine ⟨⟨by omega, h1, prodL_pos cs (fun c hc => (h1 c hc).1), by rw [← h4]; exact h3 (by omega), by rw [h0, h4]⟩, h4⟩

theorem Good.at_ {cs : List Int} (h : Good cs) {k : Nat} (hk : k < cs.length) : 1 ≤ cs[k] ∧ cs[k] ≤ 8 := h.card _ (List.getElem_mem hk)

/-- strictly increasing, from 'last' on, below n -/
def incr (n : Int) : Int → List Int → Bool
  | _, [] => true
  | last, p :: ps => if p ≤ last ∨ n ≤ p then false else incr n p ps

theorem incr_drop {ps : List Int} {k : Nat} (n last : Int) (h : k < ps.length) : incr n last (ps.drop k) = if ps[k] ≤ last ∨ n ≤ ps[k] then false else incr n ps[k] (ps.drop (k + 1)) := by
  rw [List.drop_eq_getElem_cons h]; rfl

/-- Index, by Horner: none where an element does not fit -/
def hornerQ : Int → List Int → List Int → Option Int
  | n, c :: cs, v :: vs => if v < 0 ∨ c ≤ v then none else hornerQ (n * c + v) cs vs
  | n, _, _ => some n

/-- the program's Values -/
def valsG : List Int → Int → Int → List Int
  | [], _, _ => []
  | c :: cs, step, rest => (rest / (step / c)) :: valsG cs (step / c) (rest % (step / c))

theorem valsG_length : ∀ (cs : List Int) (s r : Int), (valsG cs s r).length = cs.length
  | [], _, _ => rfl
  | c :: cs, s, r => by simp [valsG, valsG_length cs]

/-- the state (step, rest) when k places are over -/
def stG : List Int → Nat → Int × Int → Int × Int
  | [], _, s => s
  | _ :: _, 0, s => s
  | c :: cs, k + 1, s => stG cs k (s.1 / c, s.2 % (s.1 / c))

theorem stG_zero (cs : List Int) (s : Int × Int) : stG cs 0 s = s := by cases cs <;> rfl

theorem stG_succ : ∀ (cs : List Int) (k : Nat) (h : k < cs.length) (s : Int × Int),
    stG cs (k + 1) s = ((stG cs k s).1 / cs[k], (stG cs k s).2 % ((stG cs k s).1 / cs[k]))
  | [], _, h, _ => absurd h (by simp)
  | c :: cs, 0, _, s => by simp [stG, stG_zero]
  | c :: cs, k + 1, h, s => by
    have h' : k < cs.length := by simpa using h
    have := stG_succ cs k h' (s.1 / c, s.2 % (s.1 / c))
    simpa [stG] using this

theorem valsG_get : ∀ (cs : List Int) (k : Nat) (h : k < cs.length) (s : Int × Int),
    (valsG cs s.1 s.2)[k]'(by rw [valsG_length]; exact h) = (stG cs k s).2 / ((stG cs k s).1 / cs[k])
  | [], _, h, _ => absurd h (by simp)
  | c :: cs, 0, _, s => by simp [valsG, stG]
  | c :: cs, k + 1, h, s => by
    have h' : k < cs.length := by simpa using h
    have := valsG_get cs k h' (s.1 / c, s.2 % (s.1 / c))
    simpa [stG, valsG] using this

theorem prodL_drop {cs : List Int} {k : Nat} (h : k < cs.length) : prodL (cs.drop k) = cs[k] * prodL (cs.drop (k + 1)) := by
  rw [List.drop_eq_getElem_cons h]; rfl

theorem prodL_drop_pos {cs : List Int} (hg : Good cs) (k : Nat) : 1 ≤ prodL (cs.drop k) :=
  prodL_pos _ fun c hc => (hg.card c (List.mem_of_mem_drop hc)).1

/-- the step is the product of what is left; the rest is below it -/
theorem stG_inv {cs : List Int} (hg : Good cs) (i : Int) (h0 : 0 ≤ i) (h1 : i < prodL cs) : ∀ k, k ≤ cs.length →
    (stG cs k (prodL cs, i)).1 = prodL (cs.drop k) ∧ 0 ≤ (stG cs k (prodL cs, i)).2 ∧ (stG cs k (prodL cs, i)).2 < prodL (cs.drop k)
  | 0, _ => by simp [stG_zero]; omega
  | k + 1, h => by
    obtain ⟨a, b, c⟩ := stG_inv hg i h0 h1 k (by omega)
    have hk : k < cs.length := by omega
    have hp := prodL_drop hk
    have hc := hg.at_ hk
    have hq := prodL_drop_pos hg (k + 1)
    have e : (stG cs k (prodL cs, i)).1 / cs[k] = prodL (cs.drop (k + 1)) := by
      rw [a, hp]; exact Int.mul_ediv_cancel_left _ (by omega)
    rw [stG_succ cs k hk, e]
    exact ⟨rfl, Int.emod_nonneg _ (by omega), Int.emod_lt_of_pos _ (by omega)⟩

theorem div_card {cs : List Int} (hg : Good cs) {k : Nat} (hk : k < cs.length) : prodL (cs.drop k) / cs[k] = prodL (cs.drop (k + 1)) := by
  rw [prodL_drop hk]; exact Int.mul_ediv_cancel_left _ (by have := hg.at_ hk; omega)

theorem prodL_drop_le {cs : List Int} (hg : Good cs) : ∀ k, prodL (cs.drop k) ≤ 4096
  | 0 => by simpa using hg.le
  | k + 1 => by
    have h := prodL_drop_le hg k
    by_cases hk : k < cs.length
    · rw [prodL_drop hk] at h
      have hc := (hg.at_ hk).1
      have hq := prodL_drop_pos hg (k + 1)
      have : 1 * prodL (cs.drop (k + 1)) ≤ cs[k] * prodL (cs.drop (k + 1)) := Int.mul_le_mul_of_nonneg_right hc (by omega)
      omega
    · rw [List.drop_of_length_le (by omega)]; simp [prodL]

theorem valsG_bd {cs : List Int} (hg : Good cs) {i : Int} (h0 : 0 ≤ i) (h1 : i < prodL cs) {k : Nat} (hk : k < cs.length) :
    0 ≤ (valsG cs (prodL cs) i)[k]'(by rw [valsG_length]; exact hk) ∧ (valsG cs (prodL cs) i)[k]'(by rw [valsG_length]; exact hk) < cs[k] := by
  have hv := valsG_get cs k hk (prodL cs, i)
  obtain ⟨a, b, c⟩ := stG_inv hg i h0 h1 k (by omega)
  simp only at hv
  rw [hv, a, div_card hg hk]
  have hq := prodL_drop_pos hg (k + 1)
  refine ⟨Int.ediv_nonneg b (by omega), ?_⟩
  rw [prodL_drop hk] at c
  exact Int.ediv_lt_of_lt_mul (by omega) c

end Go.Proofs.Ytmnaidemihcfaaa
