/- Chapter 28: the score of a graph: score.Graph adds up the families' scores. -/
import Derived.Test.YtglpoiaedkoecaaDoorF2
import Derived.Test.YtglpoiaedkoecaaDoorE9
namespace Go.Proofs.YtglpoiaedkoecaaDoor.Am
open Go.RowKit
set_option linter.unusedVariables false
set_option maxHeartbeats 1000000
set_option maxRecDepth 100000

/-! ### bounds -/
theorem sumI_bd {α : Type} {f : α → Int} {b : Int} : ∀ l : List α, (∀ x ∈ l, -b ≤ f x ∧ f x ≤ b) → -(b * (l.length : Int)) ≤ sumI (l.map f) ∧ sumI (l.map f) ≤ b * (l.length : Int)
  | [], _ => by simp [sumI]
  | x :: l, h => by
    have h1 := sumI_bd l (fun y hy => h y (List.mem_cons_of_mem _ hy))
    have h2 := h x List.mem_cons_self
    have e : b * (((x :: l).length : Nat) : Int) = b * (l.length : Int) + b := by
      rw [List.length_cons, Int.natCast_add, Int.mul_add]; simp
    rw [List.map_cons, sumI, e]; omega
theorem rows_bdA {P : List (Nat × Nat)} {r : Nat} (hP : ∀ p ∈ P, p.2 < r) (h40 : P.length ≤ 40) (hr1 : 1 ≤ r) (hr4 : r ≤ 4) {i : Nat} (hi : i < 18) (j : Nat) : -250 ≤ conF facF r (rowL P r j) i ∧ conF facF r (rowL P r j) i ≤ 250 := by
  have h1 := sum_row_le (r := r) P j hP
  have h2 := rowL_length P r j
  have h3 := sum_bd fac_ok hi (rowL P r j) (fun c hc => by have := sumN_mem hc; omega)
  have h5 := fac_ok.bd (r - 1) i (by omega) hi
  have h6 := fac_ok.bd (sumN (rowL P r j) + (r - 1)) i (by omega) hi
  unfold conF; omega
theorem fam_bd {cards : List Nat} {cs : List (List Nat)} {v ps : Nat} (hc : CardsOk cards) (hcs : ∀ c ∈ cs, CaseOk cards c) (hv : v < cards.length) (hm : cs.length ≤ 40) {i : Nat} (hi : i < 18) : -10000 ≤ famF cards cs v ps i ∧ famF cards cs v ps i ≤ 10000 := by
  have hpo := pairs_ok (ps := ps) hc hcs hv
  have hr := hc.each v hv
  have hlt := fun p hp => (hpo p hp).2
  have hel := entries_len hlt
  have hpl : (pairsN cards v ps cs).length ≤ 40 := by simpa [pairsN] using hm
  have hE := entries_ok _ hlt
  unfold famF
  rw [← entries_sum (fac_zero i hi) hpo]
  have := sumI_bd (f := fun e => conF facF (cards.getD v 0) e.2 i) (b := 250) (entries (cards.getD v 0) (pairsN cards v ps cs)) (fun e he => by
    rw [hE.row e he]
    exact rows_bdA hlt hpl (by omega) hr.2 hi e.1)
  omega

theorem sum_add (f g : Nat → Int) : ar (mixF f g 1 18) = ar (addA f g 1) := congrArg V.agg (ar_congr fun k hk => by rw [mixF_at, if_pos hk]; rfl)
/-! ### the sums -/
/-- the powers of the score of a graph's first families -/
def graF (cards : List Nat) (cs : List (List Nat)) (l : List Nat) : Nat → Nat → Int
  | 0 => zeroF
  | k + 1 => addA (graF cards cs l k) (famF cards cs k (l.getD k 0)) 1
theorem gra_bd {cards : List Nat} {cs : List (List Nat)} {l : List Nat} (hc : CardsOk cards) (hcs : ∀ c ∈ cs, CaseOk cards c) (hm : cs.length ≤ 40) {i : Nat} (hi : i < 18) : ∀ k : Nat, k ≤ cards.length → -(10000 * (k : Int)) ≤ graF cards cs l k i ∧ graF cards cs l k i ≤ 10000 * (k : Int)
  | 0, _ => by simp [graF, zeroF]
  | k + 1, hk => by
    have h1 := gra_bd (l := l) hc hcs hm hi k (by omega)
    have h2 := fam_bd (ps := l.getD k 0) hc hcs (show k < cards.length by omega) hm hi
    have e : graF cards cs l (k + 1) i = graF cards cs l k i + 1 * famF cards cs k (l.getD k 0) i := rfl
    rw [e]; omega
abbrev grO (cards : List Nat) (cs : List (List Nat)) (f : Nat → Int) : List O := [dO cards cs, .row 41 none (arF zeroF), .row 41 none (arF f)]
abbrev sgS (cards : List Nat) (cs : List (List Nat)) (l : List Nat) (F : Nat → Nat → Int) (k : Nat) : SL := { sl := [(2, .ptr 0 0), (4, .ptr 1 0), (7, .ptr 2 0), (23, ul l), (24, i6 l.length), (25, i6 k)], os := grO cards cs (F k) }
abbrev sgX (f : Nat → Int) : SL := { sl := [(4, .ptr 0 0), (7, .ptr 1 0)], os := [.row 41 none (arF zeroF), .row 41 none (arF f)] }
theorem sg_loop (cards : List Nat) (cs : List (List Nat)) (l : List Nat) (hc : CardsOk cards) (hcs : ∀ c ∈ cs, CaseOk cards c) (hm : cs.length ≤ 40) (hl : l.length = cards.length) :
    Sat Pg none 0 (at' 28 [1, 1, 1, 1, 0, 1, 0]) (mkSt g0 38 (sgS cards cs l (graF cards cs l) 0)) (outsP g0 38 [(True, .exit 0, sgX (graF cards cs l l.length))]) := by
  have hstep : ∀ k, graF cards cs l (k + 1) = addA (graF cards cs l k) (famF cards cs k (l.getD k 0)) 1 := fun _ => rfl
  have hbd := fun i (hi : i < 18) k hk => gra_bd (l := l) hc hcs hm hi k hk
  generalize graF cards cs l = F at *
  refine loopC vE_ok mixed sp0_ok (b := at' 28 [1, 1, 1, 1, 0, 1, 0, 0]) (by kernel_rfl) (fun k => k ≤ l.length) (sgS cards cs l F) (fun k => l.length - k) (fun k hk => ?_) 0 (Nat.zero_le _)
  by_cases hlt : k < l.length
  · have hld := @head_ut l k hlt
    have hf := family_fn cards cs k (l.getD k 0) hc hcs (by omega) hm
    have h6 := hc.six
    have hcm := comb (F k) (famF cards cs k (l.getD k 0)) 1 (fun i hi => by
      have := hbd i hi k (by omega)
      omega) (fun i hi => by
      have := fam_bd (ps := l.getD k 0) hc hcs (show k < cards.length by omega) hm hi
      omega)
    refine .inl ⟨k + 1, [0, 1, 2], [yes 26, pl 28, ld 29 (u6 (l.getD k 0 : Nat)), fn 34 (ar (famF cards cs k (l.getD k 0))), fn 35 (ar (F (k + 1))), nu 36 (k + 1 : Nat)], 1000, hlt, by omega, ?_⟩
    rw [← hstep] at hcm
    clear hstep hbd
    generalize famF cards cs k (l.getD k 0) = f3 at *
    generalize l.getD k 0 = s at *
    refine Eq.mp (by kernel_rfl : (decide ((↑k : Int) < (↑(List.length l) : Int)) = true ∧ ((0 : Int) ≤ (↑k : Int) ∧ (↑k : Int) < (↑(List.length l) : Int)) ∧ headF (List.drop (k * 1) (ut l)) = some (u6 (↑s : Int)) ∧ ((True ∧ True ∧ True) ∧ True ∧ True ∧ True) ∧ FnOk Tryd.prog g0 73 [V.agg [V.im (List.length cards) (nt cards), V.im (List.length cs) (List.map nl cs)], V.int IntKind.i64 (↑k : Int), V.int IntKind.u64 (↑s : Int)] (ar f3) ∧ True ∧ ((True ∧ True ∧ True ∧ True ∧ True ∧ True ∧ True ∧ True ∧ True ∧ True ∧ True ∧ True ∧ True ∧ True ∧ True ∧ True ∧ True ∧ True ∧ True) ∧ (True ∧ True ∧ True ∧ True ∧ True ∧ True ∧ True ∧ True ∧ True ∧ True ∧ True ∧ True ∧ True ∧ True ∧ True ∧ True ∧ True ∧ True ∧ True) ∧ True ∧ True) ∧ FnOk Tryd.prog g0 79 [V.agg [V.int IntKind.i64 (F k 0), V.int IntKind.i64 (F k 1), V.int IntKind.i64 (F k 2), V.int IntKind.i64 (F k 3), V.int IntKind.i64 (F k 4), V.int IntKind.i64 (F k 5), V.int IntKind.i64 (F k 6), V.int IntKind.i64 (F k 7), V.int IntKind.i64 (F k 8), V.int IntKind.i64 (F k 9), V.int IntKind.i64 (F k 10), V.int IntKind.i64 (F k 11), V.int IntKind.i64 (F k 12), V.int IntKind.i64 (F k 13), V.int IntKind.i64 (F k 14), V.int IntKind.i64 (F k 15), V.int IntKind.i64 (F k 16), V.int IntKind.i64 (F k 17)], V.agg [V.int IntKind.i64 (f3 0), V.int IntKind.i64 (f3 1), V.int IntKind.i64 (f3 2), V.int IntKind.i64 (f3 3), V.int IntKind.i64 (f3 4), V.int IntKind.i64 (f3 5), V.int IntKind.i64 (f3 6), V.int IntKind.i64 (f3 7), V.int IntKind.i64 (f3 8), V.int IntKind.i64 (f3 9), V.int IntKind.i64 (f3 10), V.int IntKind.i64 (f3 11), V.int IntKind.i64 (f3 12), V.int IntKind.i64 (f3 13), V.int IntKind.i64 (f3 14), V.int IntKind.i64 (f3 15), V.int IntKind.i64 (f3 16), V.int IntKind.i64 (f3 17)], V.int IntKind.i64 (1 : Int)] (ar (F (k + 1))) ∧ ((V.fn 73 [] = V.fn 79 [] → [V.agg [nl cards, cV cs], i6 (↑k : Int), u6 (↑s : Int)] = [V.agg [i6 (F k 0), i6 (F k 1), i6 (F k 2), i6 (F k 3), i6 (F k 4), i6 (F k 5), i6 (F k 6), i6 (F k 7), i6 (F k 8), i6 (F k 9), i6 (F k 10), i6 (F k 11), i6 (F k 12), i6 (F k 13), i6 (F k 14), i6 (F k 15), i6 (F k 16), i6 (F k 17)], ar f3, V.int IntKind.i64 (1 : Int)] → ofOs T.e 0 (grO cards cs (F k)) = ofOs T.e 0 (grO cards cs (F k)) → 3 = 3 → CR.mk (ar f3) (ofOs T.e 0 (grO cards cs (F k))) 3 [] = CR.mk (ar (F (k + 1))) (ofOs T.e 0 (grO cards cs (F k))) 3 []) ∧ True) ∧ wr IntKind.i64 ((↑k : Int) + (1 : Int)) = (↑(k + 1) : Int) ∧ (0 = 0 ∧ 0 = 0 ∧ 0 = 0 ∧ (List.length l = List.length l ∧ ut l = ut l) ∧ (↑(List.length l) : Int) = (↑(List.length l) : Int) ∧ (↑(k + 1) : Int) = (↑(k + 1) : Int) ∧ True) ∧ ([nl cards, cV cs] = [nl cards, cV cs] ∧ True ∧ True ∧ True) ∧ (arF zeroF = arF zeroF ∧ True ∧ True ∧ True ∧ True ∧ True ∧ True ∧ True ∧ True ∧ True ∧ True ∧ True ∧ True ∧ True ∧ True ∧ True ∧ True ∧ True ∧ True ∧ True) ∧ (arF (F (k + 1)) = [i6 (F (k + 1) 0), i6 (F (k + 1) 1), i6 (F (k + 1) 2), i6 (F (k + 1) 3), i6 (F (k + 1) 4), i6 (F (k + 1) 5), i6 (F (k + 1) 6), i6 (F (k + 1) 7), i6 (F (k + 1) 8), i6 (F (k + 1) 9), i6 (F (k + 1) 10), i6 (F (k + 1) 11), i6 (F (k + 1) 12), i6 (F (k + 1) 13), i6 (F (k + 1) 14), i6 (F (k + 1) 15), i6 (F (k + 1) 16), i6 (F (k + 1) 17)] ∧ True ∧ True ∧ True ∧ True ∧ True ∧ True ∧ True ∧ True ∧ True ∧ True ∧ True ∧ True ∧ True ∧ True ∧ True ∧ True ∧ True ∧ True ∧ True) ∧ True) = _) ?_
    exact au
  · have : k = l.length := by omega
    subst this
    clear hstep hbd
    refine .inr ⟨.exit 0, [1, 2], sgX (F l.length), [no 26], 1000, .inl ⟨trivial, rfl, rfl⟩, ?_⟩
    refine Eq.mp (by kernel_rfl : (decide ((↑(List.length l) : Int) < (↑(List.length l) : Int)) = false ∧ (0 = 0 ∧ 0 = 0 ∧ True) ∧ (arF zeroF = arF zeroF ∧ True ∧ True ∧ True ∧ True ∧ True ∧ True ∧ True ∧ True ∧ True ∧ True ∧ True ∧ True ∧ True ∧ True ∧ True ∧ True ∧ True ∧ True ∧ True) ∧ (arF (F (List.length l)) = arF (F (List.length l)) ∧ True ∧ True ∧ True ∧ True ∧ True ∧ True ∧ True ∧ True ∧ True ∧ True ∧ True ∧ True ∧ True ∧ True ∧ True ∧ True ∧ True ∧ True ∧ True) ∧ True) = _) ?_
    exact au
/-! ### whole -/
theorem fits_out {n : Nat} {l : List Nat} (h : fitsB n l = true) : l.length = n ∧ ∀ k, l.getD k 0 < 2 ^ n := by
  unfold fitsB graphB at h
  simp only [Bool.and_eq_true, decide_eq_true_eq] at h
  obtain ⟨hl, h1, h2, h3, h4⟩ := h
  refine ⟨hl, fun k => ?_⟩
  by_cases hk : k < l.length
  · have := GG.all_range.1 h3 k hk
    unfold outL at this
    rw [hl] at this
    have h0 : l.getD k 0 / 2 ^ n = 0 := by simpa using this
    rcases Nat.lt_or_ge (l.getD k 0) (2 ^ n) with h' | h'
    · exact h'
    · have := Nat.div_pos h' (Nat.two_pow_pos _); omega
  · rw [List.getD_eq_getElem?_getD, List.getElem?_eq_none (by omega)]
    exact Nat.two_pow_pos _
/-- the powers of a graph's score -/
def graG (cards : List Int) (cs : List (List Int)) (l : List Nat) : Nat → Int := graF (toN cards) (cs.map toN) l l.length
abbrev gpS (f : Nat → Int) (e : Int) : SL := { sl := [(4, .ptr 0 0), (5, i6 e)], os := [.row 41 none (arF f)] }
theorem sgra_bad (cards : List Int) (cs : List (List Int)) (l : List Nat) (hl1 : cards.length ≤ 1000) (hl2 : cs.length ≤ 1000) (hcl : ∀ c ∈ cs, c.length ≤ 1000) (h : goodE cards cs ≠ 0) : FnOk Pg g0 28 [gV cards cs, ul l] (.tup [ar zeroF, i6 (goodE cards cs)]) := by
  have h1 := checkWhole_fn cards cs hl1 hl2 hcl
  generalize goodE cards cs = e at *
  refine FnOk.of_vc vE_ok mixed sp0_ok (n := 1000) (r := [1]) (S := gpS zeroF e) (hs := [fn 11 (i6 e), yes 13]) ?_
  refine Eq.mp (by kernel_rfl : (V.tup [V.agg [i6 (zeroF 0), i6 (zeroF 1), i6 (zeroF 2), i6 (zeroF 3), i6 (zeroF 4), i6 (zeroF 5), i6 (zeroF 6), i6 (zeroF 7), i6 (zeroF 8), i6 (zeroF 9), i6 (zeroF 10), i6 (zeroF 11), i6 (zeroF 12), i6 (zeroF 13), i6 (zeroF 14), i6 (zeroF 15), i6 (zeroF 16), i6 (zeroF 17)], i6 e] = V.tup [ar zeroF, i6 e] ∧ ((True ∧ True ∧ True) ∧ True) ∧ FnOk Tryd.prog g0 72 [V.agg [V.im (List.length cards) (ints cards), V.im (List.length cs) (List.map sl cs)]] (i6 e) ∧ True ∧ (e != (0 : Int)) = true ∧ (0 = 0 ∧ e = e ∧ True) ∧ (arF zeroF = [V.int IntKind.i64 (0 : Int), V.int IntKind.i64 (0 : Int), V.int IntKind.i64 (0 : Int), V.int IntKind.i64 (0 : Int), V.int IntKind.i64 (0 : Int), V.int IntKind.i64 (0 : Int), V.int IntKind.i64 (0 : Int), V.int IntKind.i64 (0 : Int), V.int IntKind.i64 (0 : Int), V.int IntKind.i64 (0 : Int), V.int IntKind.i64 (0 : Int), V.int IntKind.i64 (0 : Int), V.int IntKind.i64 (0 : Int), V.int IntKind.i64 (0 : Int), V.int IntKind.i64 (0 : Int), V.int IntKind.i64 (0 : Int), V.int IntKind.i64 (0 : Int), V.int IntKind.i64 (0 : Int)] ∧ True ∧ True ∧ True ∧ True ∧ True ∧ True ∧ True ∧ True ∧ True ∧ True ∧ True ∧ True ∧ True ∧ True ∧ True ∧ True ∧ True ∧ True ∧ True) ∧ True) = _) ?_
  exact au
theorem sgra_arg (cards : List Int) (cs : List (List Int)) (l : List Nat) (hl1 : cards.length ≤ 6) (hl2 : cs.length ≤ 1000) (hcl : ∀ c ∈ cs, c.length ≤ 1000) (h64 : S64 l) (h : goodE cards cs = 0) (hf : fitsB cards.length l = false) : FnOk Pg g0 28 [gV cards cs, ul l] (.tup [ar zeroF, i6 2]) := by
  have h1 := checkWhole_fn cards cs (by omega) hl2 hcl
  have hw := whole_ok h
  have hpos := hw.cok.pos
  rw [toN_length] at hpos
  rw [h] at h1
  have h2 := isgraph_fn l cards.length hl1 h64
  rw [fits_same _ l hpos hl1, hf] at h2
  refine FnOk.of_vc vE_ok mixed sp0_ok (n := 1000) (r := [1]) (S := gpS zeroF 2) (hs := [fn 11 (i6 0), no 13, fn 20 (.bool false)]) ?_
  refine Eq.mp (by kernel_rfl : (V.tup [V.agg [i6 (zeroF 0), i6 (zeroF 1), i6 (zeroF 2), i6 (zeroF 3), i6 (zeroF 4), i6 (zeroF 5), i6 (zeroF 6), i6 (zeroF 7), i6 (zeroF 8), i6 (zeroF 9), i6 (zeroF 10), i6 (zeroF 11), i6 (zeroF 12), i6 (zeroF 13), i6 (zeroF 14), i6 (zeroF 15), i6 (zeroF 16), i6 (zeroF 17)], i6 (2 : Int)] = V.tup [ar zeroF, i6 (2 : Int)] ∧ ((True ∧ True ∧ True) ∧ True) ∧ FnOk Tryd.prog g0 72 [V.agg [V.im (List.length cards) (ints cards), V.im (List.length cs) (List.map sl cs)]] (i6 (0 : Int)) ∧ True ∧ ((0 : Int) != (0 : Int)) = false ∧ (True ∧ True ∧ True) ∧ FnOk Tryd.prog g0 78 [V.im (List.length l) (ut l), V.int IntKind.i64 (↑(List.length cards) : Int)] (V.bool false) ∧ True ∧ (0 = 0 ∧ (2 : Int) = (2 : Int) ∧ True) ∧ (arF zeroF = [V.int IntKind.i64 (0 : Int), V.int IntKind.i64 (0 : Int), V.int IntKind.i64 (0 : Int), V.int IntKind.i64 (0 : Int), V.int IntKind.i64 (0 : Int), V.int IntKind.i64 (0 : Int), V.int IntKind.i64 (0 : Int), V.int IntKind.i64 (0 : Int), V.int IntKind.i64 (0 : Int), V.int IntKind.i64 (0 : Int), V.int IntKind.i64 (0 : Int), V.int IntKind.i64 (0 : Int), V.int IntKind.i64 (0 : Int), V.int IntKind.i64 (0 : Int), V.int IntKind.i64 (0 : Int), V.int IntKind.i64 (0 : Int), V.int IntKind.i64 (0 : Int), V.int IntKind.i64 (0 : Int)] ∧ True ∧ True ∧ True ∧ True ∧ True ∧ True ∧ True ∧ True ∧ True ∧ True ∧ True ∧ True ∧ True ∧ True ∧ True ∧ True ∧ True ∧ True ∧ True) ∧ True) = _) ?_
  exact au
theorem sgra_ok (cards : List Int) (cs : List (List Int)) (l : List Nat) (hl1 : cards.length ≤ 6) (hl2 : cs.length ≤ 1000) (hcl : ∀ c ∈ cs, c.length ≤ 1000) (h64 : S64 l) (h : goodE cards cs = 0) (hf : fitsB cards.length l = true) : FnOk Pg g0 28 [gV cards cs, ul l] (.tup [ar (graG cards cs l), i6 0]) := by
  have h1 := checkWhole_fn cards cs (by omega) hl2 hcl
  have hw := whole_ok h
  have hpos := hw.cok.pos
  rw [toN_length] at hpos
  rw [h] at h1
  have h2 := isgraph_fn l cards.length hl1 h64
  rw [fits_same _ l hpos hl1, hf] at h2
  have f1 := (fits_out hf).1
  have lo_ := sg_loop (toN cards) (cs.map toN) l hw.cok hw.rok (by rw [List.length_map]; exact hw.len) (by rw [toN_length]; exact f1)
  unfold graG
  rw [hw.eq] at h1 ⊢
  rw [← toN_length cards] at h2
  have h0 : arF (graF (toN cards) (cs.map toN) l 0) = arF zeroF := rfl
  generalize graF (toN cards) (cs.map toN) l = F at *
  clear h hf
  generalize toN cards = cards at *
  generalize cs.map toN = cs at *
  refine FnOk.of_vc vE_ok mixed sp0_ok (n := 1000) (r := [0]) (S := gpS (F l.length) 0) (hs := [fn 11 (i6 0), no 13, fn 20 (.bool true), (0, .loop [0, 1, 2] (sgS cards cs l F 0) [(True, .exit 0, sgX (F l.length))])]) ?_
  refine Eq.mp (by kernel_rfl : (V.tup [V.agg [i6 (F (List.length l) 0), i6 (F (List.length l) 1), i6 (F (List.length l) 2), i6 (F (List.length l) 3), i6 (F (List.length l) 4), i6 (F (List.length l) 5), i6 (F (List.length l) 6), i6 (F (List.length l) 7), i6 (F (List.length l) 8), i6 (F (List.length l) 9), i6 (F (List.length l) 10), i6 (F (List.length l) 11), i6 (F (List.length l) 12), i6 (F (List.length l) 13), i6 (F (List.length l) 14), i6 (F (List.length l) 15), i6 (F (List.length l) 16), i6 (F (List.length l) 17)], i6 (0 : Int)] = V.tup [ar (F (List.length l)), i6 (0 : Int)] ∧ ((True ∧ True ∧ True) ∧ True) ∧ FnOk Tryd.prog g0 72 [V.agg [V.im (List.length cards) (nt cards), V.im (List.length cs) (List.map nl cs)]] (i6 (0 : Int)) ∧ True ∧ ((0 : Int) != (0 : Int)) = false ∧ (True ∧ True ∧ True) ∧ FnOk Tryd.prog g0 78 [V.im (List.length l) (ut l), V.int IntKind.i64 (↑(List.length cards) : Int)] (V.bool true) ∧ True ∧ ((0 = 0 ∧ 0 = 0 ∧ 0 = 0 ∧ (List.length l = List.length l ∧ ut l = ut l) ∧ (↑(List.length l) : Int) = (↑(List.length l) : Int) ∧ (↑(0 : Nat) : Int) = (0 : Int) ∧ True) ∧ ([nl cards, cV cs] = [nl cards, cV cs] ∧ True ∧ True ∧ True) ∧ (arF zeroF = [V.int IntKind.i64 (0 : Int), V.int IntKind.i64 (0 : Int), V.int IntKind.i64 (0 : Int), V.int IntKind.i64 (0 : Int), V.int IntKind.i64 (0 : Int), V.int IntKind.i64 (0 : Int), V.int IntKind.i64 (0 : Int), V.int IntKind.i64 (0 : Int), V.int IntKind.i64 (0 : Int), V.int IntKind.i64 (0 : Int), V.int IntKind.i64 (0 : Int), V.int IntKind.i64 (0 : Int), V.int IntKind.i64 (0 : Int), V.int IntKind.i64 (0 : Int), V.int IntKind.i64 (0 : Int), V.int IntKind.i64 (0 : Int), V.int IntKind.i64 (0 : Int), V.int IntKind.i64 (0 : Int)] ∧ True ∧ True ∧ True ∧ True ∧ True ∧ True ∧ True ∧ True ∧ True ∧ True ∧ True ∧ True ∧ True ∧ True ∧ True ∧ True ∧ True ∧ True ∧ True) ∧ (arF (F 0) = [V.int IntKind.i64 (0 : Int), V.int IntKind.i64 (0 : Int), V.int IntKind.i64 (0 : Int), V.int IntKind.i64 (0 : Int), V.int IntKind.i64 (0 : Int), V.int IntKind.i64 (0 : Int), V.int IntKind.i64 (0 : Int), V.int IntKind.i64 (0 : Int), V.int IntKind.i64 (0 : Int), V.int IntKind.i64 (0 : Int), V.int IntKind.i64 (0 : Int), V.int IntKind.i64 (0 : Int), V.int IntKind.i64 (0 : Int), V.int IntKind.i64 (0 : Int), V.int IntKind.i64 (0 : Int), V.int IntKind.i64 (0 : Int), V.int IntKind.i64 (0 : Int), V.int IntKind.i64 (0 : Int)] ∧ True ∧ True ∧ True ∧ True ∧ True ∧ True ∧ True ∧ True ∧ True ∧ True ∧ True ∧ True ∧ True ∧ True ∧ True ∧ True ∧ True ∧ True ∧ True) ∧ True) ∧ Sat Tryd.prog none 0 (at' 28 [1, 1, 1, 1, 0, 1, 0]) (mkSt g0 38 (sgS cards cs l F 0)) (outsP g0 38 [(True, Ex.exit 0, sgX (F (List.length l)))]) ∧ (True → (0 = 0 ∧ (0 : Int) = (0 : Int) ∧ True) ∧ (arF (F (List.length l)) = [i6 (F (List.length l) 0), i6 (F (List.length l) 1), i6 (F (List.length l) 2), i6 (F (List.length l) 3), i6 (F (List.length l) 4), i6 (F (List.length l) 5), i6 (F (List.length l) 6), i6 (F (List.length l) 7), i6 (F (List.length l) 8), i6 (F (List.length l) 9), i6 (F (List.length l) 10), i6 (F (List.length l) 11), i6 (F (List.length l) 12), i6 (F (List.length l) 13), i6 (F (List.length l) 14), i6 (F (List.length l) 15), i6 (F (List.length l) 16), i6 (F (List.length l) 17)] ∧ True ∧ True ∧ True ∧ True ∧ True ∧ True ∧ True ∧ True ∧ True ∧ True ∧ True ∧ True ∧ True ∧ True ∧ True ∧ True ∧ True ∧ True ∧ True) ∧ True) ∧ True) = _) ?_
  exact au

end Go.Proofs.YtglpoiaedkoecaaDoor.Am
