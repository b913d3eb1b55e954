/- ScoreGrows: what the scores are, with and without one more case. -/
import Derived.Test.YtglpoiaedkoecaaDoorH3
import Derived.Test.YtglpoiaedkoecaaDoorQ0
import Derived.Test.YtglpoiaedkoecaaDoorJ0
namespace Go.Proofs.YtglpoiaedkoecaaDoor.Am
open Go.RowKit
set_option linter.unusedVariables false
set_option maxHeartbeats 1000000
set_option maxRecDepth 100000

/-! ### the counts -/
theorem fit_row {cards y nx : List Int} {vars : List Nat} {S : Nat} (hc : CardsOk (toN cards)) (hy : CaseOk (toN cards) (toN y)) (hn : CaseOk (toN cards) (toN nx)) (hS : ∀ k, k < cards.length → (S / 2 ^ k % 2 = 1 ↔ k ∈ vars)) (hv : ∀ k ∈ vars, k < cards.length) (h0 : ∀ k, k < cards.length → 0 ≤ y.getD k 0) (h1 : ∀ k, k < cards.length → 0 ≤ nx.getD k 0) :
    fitV vars y nx = decide (rowN (toN cards) S (toN y) cards.length = rowN (toN cards) S (toN nx) cards.length) := by
  rw [Bool.eq_iff_iff, decide_eq_true_eq, rowN_inj hc hy hn S cards.length (by rw [toN_length]; exact Nat.le_refl _)]
  unfold fitV
  rw [List.all_eq_true]
  constructor
  · intro h k hk hb
    have := h k ((hS k hk).1 hb)
    rw [toN_get, toN_get, eq_of_beq this]
  · intro h k hk
    have h2 := hv k hk
    have := h k h2 ((hS k h2).2 hk)
    rw [toN_get, toN_get] at this
    have := h0 k h2
    have := h1 k h2
    rw [beq_iff_eq]; omega
theorem cntA_row {cards nx : List Int} {cs : List (List Int)} {vars : List Nat} {S own : Nat} (hf : ∀ y ∈ cs, fitV vars y nx = decide (rowN (toN cards) S (toN y) cards.length = rowN (toN cards) S (toN nx) cards.length)) :
    cntA vars nx cs = inRow (pairsN (toN cards) own S (cs.map toN)) (rowN (toN cards) S (toN nx) cards.length) := by
  unfold cntA inRow pairsN
  rw [List.map_map, List.countP_map]
  refine List.countP_congr fun y hy => ?_
  rw [hf y hy]
  simp only [Function.comp, toN_length]
theorem cntE_row {cards nx : List Int} {cs : List (List Int)} {vars : List Nat} {S own : Nat} (hf : ∀ y ∈ cs, fitV vars y nx = decide (rowN (toN cards) S (toN y) cards.length = rowN (toN cards) S (toN nx) cards.length)) (h0 : ∀ y ∈ cs, 0 ≤ y.getD own 0) (h1 : 0 ≤ nx.getD own 0) :
    cntE vars nx own cs = cntJ (pairsN (toN cards) own S (cs.map toN)) (rowN (toN cards) S (toN nx) cards.length) ((toN nx).getD own 0) := by
  unfold cntE cntJ pairsN
  rw [List.map_map, List.count_eq_countP, List.countP_map]
  refine List.countP_congr fun y hy => ?_
  rw [hf y hy]
  have := h0 y hy
  simp only [Function.comp, toN_length, toN_get, Bool.and_eq_true, decide_eq_true_eq, beq_iff_eq, Prod.mk.injEq]
  constructor
  · rintro ⟨a, b⟩; exact ⟨a, by rw [b]⟩
  · rintro ⟨a, b⟩; exact ⟨a, by omega⟩

/-! ### mustOf -/
theorem of44 : ((List.range 44).all fun k => decide (k = 0) || decide (ofN k 18 = 1)) = true := by kernel_rfl
theorem of_small {k : Nat} (h1 : 1 ≤ k) (h : k < 44) : ofN k 18 = 1 := by
  have := all_range.1 of44 k h
  rcases Bool.or_eq_true _ _ ▸ this with h2 | h2
  · have := of_decide_eq_true h2; omega
  · exact of_decide_eq_true h2
theorem must_fn (k : Nat) (h1 : 1 ≤ k) (h : k < 44) : FnOk Pg g0 50 [i6 k] (ar (ofF k 18)) := by
  have l := of_one k h1 (by omega) (of_small h1 h)
  generalize ofF k 18 = f at *
  refine FnOk.of_vc vE_ok mixed sp0_ok (n := 1000) (r := [0]) (S := { sl := [(2, .ptr 0 0)], os := [.row 41 none (arF f)] }) (hs := [fn 7 (.tup [ar f, i6 0])]) ?_
  refine Eq.mp (by kernel_rfl : (V.agg [i6 (f 0), i6 (f 1), i6 (f 2), i6 (f 3), i6 (f 4), i6 (f 5), i6 (f 6), i6 (f 7), i6 (f 8), i6 (f 9), i6 (f 10), i6 (f 11), i6 (f 12), i6 (f 13), i6 (f 14), i6 (f 15), i6 (f 16), i6 (f 17)] = ar f ∧ (True ∧ True) ∧ FnOk Tryd.prog g0 31 [V.int IntKind.i64 (↑k : Int)] (V.tup [ar f, i6 (0 : Int)]) ∧ True ∧ (0 = 0 ∧ True) ∧ (arF f = [i6 (f 0), i6 (f 1), i6 (f 2), i6 (f 3), i6 (f 4), i6 (f 5), i6 (f 6), i6 (f 7), i6 (f 8), i6 (f 9), i6 (f 10), i6 (f 11), i6 (f 12), i6 (f 13), i6 (f 14), i6 (f 15), i6 (f 16), i6 (f 17)] ∧ True ∧ True ∧ True ∧ True ∧ True ∧ True ∧ True ∧ True ∧ True ∧ True ∧ True ∧ True ∧ True ∧ True ∧ True ∧ True ∧ True ∧ True ∧ True) ∧ True) = _) ?_
  (repeat' (first | (with_reducible apply And.intro) | (refine fun (_ : True) => ?_))) <;> first | exact aq | skip

/-! ### all together -/
structure GrowF (cards : List Int) (cs : List (List Int)) (own S : Nat) (nx : List Int) (A E r : Nat) (fa fb up mo left : Nat → Int) : Prop where
  one : FnOk Pg g0 22 [gV cards cs, i6 own, u6 S] (.tup [ar fa, i6 0])
  two : FnOk Pg g0 22 [gV cards (cs ++ [nx]), i6 own, u6 S] (.tup [ar fb, i6 0])
  fup : FnOk Pg g0 31 [i6 (E + 1 : Nat)] (.tup [ar up, i6 0])
  fmo : FnOk Pg g0 50 [i6 (A + r : Nat)] (ar mo)
  fl : FnOk Pg g0 34 [ar fb, ar mo] (.tup [ar left, i6 0])
  fr : FnOk Pg g0 34 [ar fa, ar up] (.tup [ar left, i6 0])
  card : cards.getD own 0 = (r : Nat)
  bd : r ≤ 3 ∧ A ≤ 39 ∧ E ≤ 39
theorem grow_facts {cards : List Int} {cs : List (List Int)} {own z : Nat} {c : Nat → Int} (hcd : CdOk cards) (hl : cs.length ≤ 39) (hrow : ∀ r ∈ cs, r.length = cards.length ∧ ∀ k, k < cards.length → 0 ≤ r.getD k 0 ∧ r.getD k 0 < cards.getD k 0) (hown : own < cards.length) (hz : z.testBit own = false) (hc : ∀ i, i < 5 → 0 ≤ c i ∧ c i ≤ 255) :
    ∃ r fa fb up mo left, GrowF cards cs own (orL (varsN cards.length z)) (nextL c cards cards.length) (cntA (varsN cards.length z) (nextL c cards cards.length) cs) (cntE (varsN cards.length z) (nextL c cards cards.length) own cs) r fa fb up mo left := by
  have h5 := hcd.five
  obtain ⟨s1, s2, s3⟩ := set_bits (n := cards.length) hz
  have hv : ∀ k ∈ varsN cards.length z, k < cards.length := fun k hk => varsN_lt hk
  have hnl := nextL_len c cards cards.length
  have hnb : ∀ k, k < cards.length → 0 ≤ (nextL c cards cards.length).getD k 0 ∧ (nextL c cards cards.length).getD k 0 < cards.getD k 0 := fun k hk => by
    rw [nextL_at hk]
    have := hcd.each k hk
    exact ⟨Int.emod_nonneg _ (by omega), Int.emod_lt_of_pos _ (by omega)⟩
  generalize nextL c cards cards.length = nx at *
  generalize varsN cards.length z = vars at *
  generalize orL vars = S at *
  have g1 : goodE cards cs = 0 := good_of hcd (by omega) hrow
  have hrow2 : ∀ r ∈ cs ++ [nx], r.length = cards.length ∧ ∀ k, k < cards.length → 0 ≤ r.getD k 0 ∧ r.getD k 0 < cards.getD k 0 := fun r hr => by
    rcases List.mem_append.1 hr with hr | hr
    · exact hrow r hr
    · obtain rfl := List.mem_singleton.1 hr; exact ⟨hnl, hnb⟩
  have g2 : goodE cards (cs ++ [nx]) = 0 := good_of hcd (by simp; omega) hrow2
  have w1 := whole_ok g1
  have w2 := whole_ok g2
  have hm : memB cards.length (own : Int) S = true := by
    unfold memB
    simp only [Bool.and_eq_true, decide_eq_true_eq, Int.toNat_natCast]
    exact ⟨by omega, by omega, s1, s2⟩
  have hcl : ∀ c ∈ cs, c.length ≤ 1000 := fun c hc => by have := (hrow c hc).1; omega
  have hcl2 : ∀ c ∈ cs ++ [nx], c.length ≤ 1000 := fun c hc => by have := (hrow2 c hc).1; omega
  have f1 := sfam_ok cards cs own S (by omega) (by omega) hcl g1 hm
  have f2 := sfam_ok cards (cs ++ [nx]) own S (by omega) (by simp; omega) hcl2 g2 hm
  have hcn : CaseOk (toN cards) (toN nx) := w2.rok (toN nx) (by simp)
  have hown' : own < (toN cards).length := by rw [toN_length]; exact hown
  have hr := w1.cok.each own hown'
  have hrc : cards.getD own 0 = (((toN cards).getD own 0 : Nat) : Int) := by
    rw [toN_get]; have := hcd.each own hown; omega
  have hr3 : (toN cards).getD own 0 ≤ 3 := by have := hcd.each own hown; omega
  have hfit : ∀ y ∈ cs, fitV vars y nx = decide (rowN (toN cards) S (toN y) cards.length = rowN (toN cards) S (toN nx) cards.length) := fun y hy =>
    fit_row w1.cok (w1.rok _ (List.mem_map.2 ⟨y, hy, rfl⟩)) hcn s3 hv (fun k hk => ((hrow y hy).2 k hk).1) (fun k hk => (hnb k hk).1)
  have ea := cntA_row (own := own) hfit
  have ee := cntE_row (own := own) hfit (fun y hy => ((hrow y hy).2 own hown).1) (hnb own hown).1
  have hmore := fun i hi => fam_more (cards := toN cards) (cs := cs.map toN) (c := toN nx) (v := own) (ps := S) w1.cok w1.rok hcn hown' (by simpa using hl) (i := i) hi
  simp only [toN_length] at hmore
  rw [← ea, ← ee] at hmore
  have hb1 := fun i hi => fam_le (cards := toN cards) (cs := cs.map toN) (v := own) (ps := S) w1.cok w1.rok hown' (by simp; omega) (i := i) hi
  have hb2 : ∀ i, i < 18 → -160 ≤ famF (toN cards) (cs.map toN ++ [toN nx]) own S i ∧ famF (toN cards) (cs.map toN ++ [toN nx]) own S i ≤ 160 := fun i hi => by
    have := fam_le (cards := toN cards) (cs := (cs ++ [nx]).map toN) (v := own) (ps := S) w2.cok w2.rok hown' (by simp; omega) (i := i) hi
    rw [List.map_append] at this
    exact this
  have hA : cntA vars nx cs ≤ 39 := by have := List.countP_le_length (p := fun y => fitV vars y nx) (l := cs); unfold cntA; omega
  have hE : cntE vars nx own cs ≤ 39 := by have := List.countP_le_length (p := fun y => fitV vars y nx && y.getD own 0 == nx.getD own 0) (l := cs); unfold cntE; omega
  generalize cntA vars nx cs = A at *
  generalize cntE vars nx own cs = E at *
  generalize (toN cards).getD own 0 = r at *
  have eb : famG cards (cs ++ [nx]) own S = famF (toN cards) (cs.map toN ++ [toN nx]) own S := by
    unfold famG; rw [List.map_append]; rfl
  have eb1 : famG cards cs own S = famF (toN cards) (cs.map toN) own S := rfl
  rw [eb] at f2
  rw [eb1] at f1
  generalize famF (toN cards) (cs.map toN ++ [toN nx]) own S = fb at *
  generalize famF (toN cards) (cs.map toN) own S = fa at *
  have o1 := of_one (E + 1) (by omega) (by omega) (of_small (by omega) (by omega))
  have o2 := must_fn (A + r) (by omega) (by omega)
  have b1 := fun i => ofF_bd (n := E + 1) (by omega) 18 i
  have b2 := fun i => ofF_bd (n := A + r) (by omega) 18 i
  generalize ofF (E + 1) 18 = up at *
  generalize ofF (A + r) 18 = mo at *
  have i1 : inA fa = true := inA_of fun k hk => by have := hb1 k hk; omega
  have i2 : inA fb = true := inA_of fun k hk => by have := hb2 k hk; omega
  have i3 : inA up = true := inA_of fun k hk => by have := b1 k; omega
  have i4 : inA mo = true := inA_of fun k hk => by have := b2 k; omega
  have i5 : inA (sumF fb mo) = true := inA_of fun k hk => by have := hb2 k hk; have := b2 k; rw [sumF_at hk]; omega
  have i6' : inA (sumF fa up) = true := inA_of fun k hk => by have := hb1 k hk; have := b1 k; rw [sumF_at hk]; omega
  have a1 := add_ok fb mo i2 i4 i5
  have a2 := add_ok fa up i1 i3 i6'
  have hsame : ar (sumF fa up) = ar (sumF fb mo) := congrArg V.agg (ar_congr fun k hk => by
    rw [sumF_at hk, sumF_at hk, hmore k hk]; omega)
  rw [hsame] at a2
  exact ⟨r, fa, fb, up, mo, sumF fb mo, f1, f2, o1, o2, a1, a2, hrc, hr3, hA, hE⟩
end Go.Proofs.YtglpoiaedkoecaaDoor.Am
