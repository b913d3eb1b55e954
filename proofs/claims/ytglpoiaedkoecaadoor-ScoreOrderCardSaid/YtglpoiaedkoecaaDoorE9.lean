/- Chapter 28: Member, and score.Family. -/
import Derived.Test.YtglpoiaedkoecaaDoorE8
namespace Go.Proofs.YtglpoiaedkoecaaDoor.Am
open Go.RowKit
set_option linter.unusedVariables false
set_option maxHeartbeats 1000000
set_option maxRecDepth 100000

/-- is v a variable of n, and ps a set of others? -/
def memB (n : Nat) (v : Int) (ps : Nat) : Bool := decide (0 ≤ v) && (decide (v < n) && (decide (ps / 2 ^ n = 0) && decide (ps / 2 ^ v.toNat % 2 = 0)))
abbrev bR6 (b : Bool) : SL := { sl := [(6, .bool b)] }
theorem shr_v {G : Ctx} {t : Nat} {x : Nat} {v : Int} (h0 : 0 ≤ v) (hk : v ≤ 64) : binV G .shr t (u6 (x : Int)) (i6 v) = some (u6 ((x / 2 ^ v.toNat : Nat) : Int)) := by
  have := @shr_u G t x v.toNat (by omega)
  rwa [Int.toNat_of_nonneg h0] at this
theorem member_fn (n : Nat) (v : Int) (ps : Nat) (hn : n ≤ 64) : FnOk Pg g0 23 [i6 n, i6 v, u6 ps] (.bool (memB n v ps)) := by
  unfold memB
  by_cases h1 : 0 ≤ v
  · rw [decide_eq_true h1]
    by_cases h2 : v < n
    · rw [decide_eq_true h2]
      have s1 := @shr_u (ctxOf Pg) 28 ps n hn
      have s2 := @shr_v (ctxOf Pg) 28 ps v h1 (by omega)
      have s3 := @and1_u (ctxOf Pg) 28 (ps / 2 ^ v.toNat)
      generalize ps / 2 ^ n = a at *
      generalize ps / 2 ^ v.toNat = b at *
      by_cases h3 : a = 0
      · rw [decide_eq_true h3]
        generalize hb : b % 2 = b2 at *
        by_cases h4 : b2 = 0
        · rw [decide_eq_true h4]
          refine FnOk.of_vc vE_ok mixed sp0_ok (n := 1000) (r := []) (S := bR6 true) (hs := [yes 8, yes 12, va 17 (u6 a), yes 18, va 23 (u6 b), va 24 (u6 b2), yes 25]) ?_
          refine Eq.mp (by kernel_rfl : (V.bool true = V.bool (true && (true && (true && true))) ∧ decide (v ≥ (0 : Int)) = true ∧ decide (v < (↑n : Int)) = true ∧ binV (ctxOf Tryd.prog) BinOp.shr 28 (u6 (↑ps : Int)) (i6 (↑n : Int)) = some (u6 (↑a : Int)) ∧ ((↑a : Int) == (0 : Int)) = true ∧ binV (ctxOf Tryd.prog) BinOp.shr 28 (u6 (↑ps : Int)) (i6 v) = some (u6 (↑b : Int)) ∧ binV (ctxOf Tryd.prog) BinOp.and 28 (u6 (↑b : Int)) (V.int IntKind.u64 (1 : Int)) = some (u6 (↑b2 : Int)) ∧ ((↑b2 : Int) == (0 : Int)) = true ∧ (true = true ∧ True) ∧ True) = _) ?_
          exact au
        · rw [decide_eq_false h4]
          refine FnOk.of_vc vE_ok mixed sp0_ok (n := 1000) (r := []) (S := bR6 false) (hs := [yes 8, yes 12, va 17 (u6 a), yes 18, va 23 (u6 b), va 24 (u6 b2), no 25]) ?_
          refine Eq.mp (by kernel_rfl : (V.bool false = V.bool (true && (true && (true && false))) ∧ decide (v ≥ (0 : Int)) = true ∧ decide (v < (↑n : Int)) = true ∧ binV (ctxOf Tryd.prog) BinOp.shr 28 (u6 (↑ps : Int)) (i6 (↑n : Int)) = some (u6 (↑a : Int)) ∧ ((↑a : Int) == (0 : Int)) = true ∧ binV (ctxOf Tryd.prog) BinOp.shr 28 (u6 (↑ps : Int)) (i6 v) = some (u6 (↑b : Int)) ∧ binV (ctxOf Tryd.prog) BinOp.and 28 (u6 (↑b : Int)) (V.int IntKind.u64 (1 : Int)) = some (u6 (↑b2 : Int)) ∧ ((↑b2 : Int) == (0 : Int)) = false ∧ (false = false ∧ True) ∧ True) = _) ?_
          exact au
      · rw [decide_eq_false h3]
        refine FnOk.of_vc vE_ok mixed sp0_ok (n := 1000) (r := []) (S := bR6 false) (hs := [yes 8, yes 12, va 17 (u6 a), no 18]) ?_
        refine Eq.mp (by kernel_rfl : (V.bool false = V.bool (true && (true && (false && decide (b % 2 = 0)))) ∧ decide (v ≥ (0 : Int)) = true ∧ decide (v < (↑n : Int)) = true ∧ binV (ctxOf Tryd.prog) BinOp.shr 28 (u6 (↑ps : Int)) (i6 (↑n : Int)) = some (u6 (↑a : Int)) ∧ ((↑a : Int) == (0 : Int)) = false ∧ (false = false ∧ True) ∧ True) = _) ?_
        exact au
    · rw [decide_eq_false h2]
      refine FnOk.of_vc vE_ok mixed sp0_ok (n := 1000) (r := []) (S := bR6 false) (hs := [yes 8, no 12]) ?_
      refine Eq.mp (by kernel_rfl : (V.bool false = V.bool (true && (false && (decide (ps / 2 ^ n = 0) && decide (ps / 2 ^ Int.toNat v % 2 = 0)))) ∧ decide (v ≥ (0 : Int)) = true ∧ decide (v < (↑n : Int)) = false ∧ (false = false ∧ True) ∧ True) = _) ?_
      exact au
  · rw [decide_eq_false h1]
    refine FnOk.of_vc vE_ok mixed sp0_ok (n := 1000) (r := []) (S := bR6 false) (hs := [no 8]) ?_
    refine Eq.mp (by kernel_rfl : (V.bool false = V.bool (false && (decide (v < (↑n : Int)) && (decide (ps / 2 ^ n = 0) && decide (ps / 2 ^ Int.toNat v % 2 = 0)))) ∧ decide (v ≥ (0 : Int)) = false ∧ (false = false ∧ True) ∧ True) = _) ?_
    exact au

/-! ### data that are right and whole, as numbers from 0 -/
def toN (l : List Int) : List Nat := l.map Int.toNat
theorem toN_length (l : List Int) : (toN l).length = l.length := by simp [toN]
theorem toN_get (l : List Int) (k : Nat) : (toN l).getD k 0 = (l.getD k 0).toNat := by
  unfold toN
  rw [List.getD_eq_getElem?_getD, List.getD_eq_getElem?_getD, List.getElem?_map]
  cases l[k]? <;> rfl
theorem sl_nl {l : List Int} (h : ∀ x ∈ l, 0 ≤ x) : sl l = nl (toN l) := by
  show V.im l.length (ints l) = V.im (toN l).length (nt (toN l))
  rw [toN_length, nt_ints]
  congr 2
  unfold toN
  rw [List.map_map]
  conv => lhs; rw [← List.map_id l]
  refine List.map_congr_left fun x hx => ?_
  simp only [Function.comp, id]
  rw [Int.toNat_of_nonneg (h x hx)]
theorem good_whole {cards : List Int} {cs : List (List Int)} (h : goodE cards cs = 0) : okAll cards cs = true ∧ cs.any negB = false := by
  unfold goodE at h
  cases h1 : okAll cards cs with
  | false => rw [h1] at h; simp at h
  | true =>
    cases h2 : cs.any negB with
    | true => rw [h1, h2] at h; simp at h
    | false => exact ⟨rfl, rfl⟩
structure WholeOk (cards : List Int) (cs : List (List Int)) : Prop where
  cok : CardsOk (toN cards)
  rok : ∀ c ∈ cs.map toN, CaseOk (toN cards) c
  len : cs.length ≤ 40
  eq : gV cards cs = dN (toN cards) (cs.map toN)
  size : prodT cards cards.length ≤ 1024
theorem whole_ok {cards : List Int} {cs : List (List Int)} (h : goodE cards cs = 0) : WholeOk cards cs := by
  obtain ⟨h1, h2⟩ := good_whole h
  unfold okAll at h1
  simp only [Bool.and_eq_true, decide_eq_true_eq] at h1
  obtain ⟨a1, a2, a3, a4, a5, a6⟩ := h1
  have hc : ∀ k, k < cards.length → 2 ≤ cards.getD k 0 ∧ cards.getD k 0 ≤ 4 := fun k hk => of_decide_eq_true (all_range.1 a4 k hk)
  have hcm : ∀ x ∈ cards, 0 ≤ x := fun x hx => by
    obtain ⟨k, hk, rfl⟩ := List.getElem_of_mem hx
    have := hc k hk
    rw [List.getD_eq_getElem?_getD, List.getElem?_eq_getElem hk] at this
    simp only [Option.getD_some] at this; omega
  have hrow : ∀ c ∈ cs, c.length = cards.length ∧ ∀ k, k < cards.length → -1 ≤ c.getD k 0 ∧ c.getD k 0 < cards.getD k 0 := fun c hc => by
    have := List.all_eq_true.1 a6 c hc
    unfold okRow at this
    rw [Bool.and_eq_true, decide_eq_true_eq] at this
    exact ⟨this.1, fun k hk => of_decide_eq_true (all_range.1 this.2 k hk)⟩
  have hpos : ∀ c ∈ cs, ∀ x ∈ c, 0 ≤ x := fun c hc x hx => by
    have := List.any_eq_false.1 h2 c hc
    unfold negB at this
    have h3 := List.any_eq_false.1 (by simpa using this : (c.any fun x => decide (x < 0)) = false) x hx
    simpa using h3
  refine ⟨⟨by rw [toN_length]; exact a1, by rw [toN_length]; exact a2, fun k hk => ?_⟩, fun c hc' => ?_, a3, ?_, a5⟩
  · rw [toN_length] at hk
    have := hc k hk
    rw [toN_get]; omega
  · obtain ⟨d, hd, rfl⟩ := List.mem_map.1 hc'
    obtain ⟨r1, r2⟩ := hrow d hd
    refine ⟨by rw [toN_length, toN_length]; exact r1, fun k hk => ?_⟩
    rw [toN_length] at hk
    have := r2 k hk
    have := hc k hk
    rw [toN_get, toN_get]
    omega
  · have e2 : cs.map sl = (cs.map toN).map nl := by
      rw [List.map_map]
      exact List.map_congr_left fun c hc => sl_nl (hpos c hc)
    show V.agg [sl cards, .im cs.length (cs.map sl)] = V.agg [nl (toN cards), .im (cs.map toN).length ((cs.map toN).map nl)]
    rw [sl_nl hcm, e2, List.length_map]

/-! ### score.Family -/
abbrev fpS (f : Nat → Int) (e : Int) : SL := { sl := [(6, .ptr 0 0), (7, i6 e)], os := [.row 41 none (arF f)] }
theorem sfam_bad (cards : List Int) (cs : List (List Int)) (v : Int) (ps : Nat) (hl1 : cards.length ≤ 1000) (hl2 : cs.length ≤ 1000) (hcl : ∀ c ∈ cs, c.length ≤ 1000) (h : goodE cards cs ≠ 0) : FnOk Pg g0 22 [gV cards cs, i6 v, u6 ps] (.tup [ar zeroF, i6 (goodE cards cs)]) := by
  have h1 := checkWhole_fn cards cs hl1 hl2 hcl
  generalize goodE cards cs = e at *
  refine FnOk.of_vc vE_ok mixed sp0_ok (n := 1000) (r := [1]) (S := fpS zeroF e) (hs := [fn 10 (i6 e), yes 12]) ?_
  refine Eq.mp (by kernel_rfl : (V.tup [V.agg [i6 (zeroF 0), i6 (zeroF 1), i6 (zeroF 2), i6 (zeroF 3), i6 (zeroF 4), i6 (zeroF 5), i6 (zeroF 6), i6 (zeroF 7), i6 (zeroF 8), i6 (zeroF 9), i6 (zeroF 10), i6 (zeroF 11), i6 (zeroF 12), i6 (zeroF 13), i6 (zeroF 14), i6 (zeroF 15), i6 (zeroF 16), i6 (zeroF 17)], i6 e] = V.tup [ar zeroF, i6 e] ∧ ((True ∧ True ∧ True) ∧ True) ∧ FnOk Tryd.prog g0 72 [V.agg [V.im (List.length cards) (ints cards), V.im (List.length cs) (List.map sl cs)]] (i6 e) ∧ True ∧ (e != (0 : Int)) = true ∧ (0 = 0 ∧ e = e ∧ True) ∧ (arF zeroF = [V.int IntKind.i64 (0 : Int), V.int IntKind.i64 (0 : Int), V.int IntKind.i64 (0 : Int), V.int IntKind.i64 (0 : Int), V.int IntKind.i64 (0 : Int), V.int IntKind.i64 (0 : Int), V.int IntKind.i64 (0 : Int), V.int IntKind.i64 (0 : Int), V.int IntKind.i64 (0 : Int), V.int IntKind.i64 (0 : Int), V.int IntKind.i64 (0 : Int), V.int IntKind.i64 (0 : Int), V.int IntKind.i64 (0 : Int), V.int IntKind.i64 (0 : Int), V.int IntKind.i64 (0 : Int), V.int IntKind.i64 (0 : Int), V.int IntKind.i64 (0 : Int), V.int IntKind.i64 (0 : Int)] ∧ True ∧ True ∧ True ∧ True ∧ True ∧ True ∧ True ∧ True ∧ True ∧ True ∧ True ∧ True ∧ True ∧ True ∧ True ∧ True ∧ True ∧ True ∧ True) ∧ True) = _) ?_
  exact au
theorem sfam_arg (cards : List Int) (cs : List (List Int)) (v : Int) (ps : Nat) (hl1 : cards.length ≤ 64) (hl2 : cs.length ≤ 1000) (hcl : ∀ c ∈ cs, c.length ≤ 1000) (h : goodE cards cs = 0) (hm : memB cards.length v ps = false) : FnOk Pg g0 22 [gV cards cs, i6 v, u6 ps] (.tup [ar zeroF, i6 2]) := by
  have h1 := checkWhole_fn cards cs (by omega) hl2 hcl
  rw [h] at h1
  unfold memB at hm
  have s1 := @shr_u (ctxOf Pg) 28 ps cards.length hl1
  by_cases c1 : v < 0
  · refine FnOk.of_vc vE_ok mixed sp0_ok (n := 1000) (r := [1]) (S := fpS zeroF 2) (hs := [fn 10 (i6 0), yes 16]) ?_
    refine Eq.mp (by kernel_rfl : (V.tup [V.agg [i6 (zeroF 0), i6 (zeroF 1), i6 (zeroF 2), i6 (zeroF 3), i6 (zeroF 4), i6 (zeroF 5), i6 (zeroF 6), i6 (zeroF 7), i6 (zeroF 8), i6 (zeroF 9), i6 (zeroF 10), i6 (zeroF 11), i6 (zeroF 12), i6 (zeroF 13), i6 (zeroF 14), i6 (zeroF 15), i6 (zeroF 16), i6 (zeroF 17)], i6 (2 : Int)] = V.tup [ar zeroF, i6 (2 : Int)] ∧ ((True ∧ True ∧ True) ∧ True) ∧ FnOk Tryd.prog g0 72 [V.agg [V.im (List.length cards) (ints cards), V.im (List.length cs) (List.map sl cs)]] (i6 (0 : Int)) ∧ True ∧ decide (v < (0 : Int)) = true ∧ (0 = 0 ∧ (2 : Int) = (2 : Int) ∧ True) ∧ (arF zeroF = [V.int IntKind.i64 (0 : Int), V.int IntKind.i64 (0 : Int), V.int IntKind.i64 (0 : Int), V.int IntKind.i64 (0 : Int), V.int IntKind.i64 (0 : Int), V.int IntKind.i64 (0 : Int), V.int IntKind.i64 (0 : Int), V.int IntKind.i64 (0 : Int), V.int IntKind.i64 (0 : Int), V.int IntKind.i64 (0 : Int), V.int IntKind.i64 (0 : Int), V.int IntKind.i64 (0 : Int), V.int IntKind.i64 (0 : Int), V.int IntKind.i64 (0 : Int), V.int IntKind.i64 (0 : Int), V.int IntKind.i64 (0 : Int), V.int IntKind.i64 (0 : Int), V.int IntKind.i64 (0 : Int)] ∧ True ∧ True ∧ True ∧ True ∧ True ∧ True ∧ True ∧ True ∧ True ∧ True ∧ True ∧ True ∧ True ∧ True ∧ True ∧ True ∧ True ∧ True ∧ True) ∧ True) = _) ?_
    exact au
  · by_cases c2 : v ≥ cards.length
    · refine FnOk.of_vc vE_ok mixed sp0_ok (n := 1000) (r := [1]) (S := fpS zeroF 2) (hs := [fn 10 (i6 0), no 16, yes 22]) ?_
      refine Eq.mp (by kernel_rfl : (V.tup [V.agg [i6 (zeroF 0), i6 (zeroF 1), i6 (zeroF 2), i6 (zeroF 3), i6 (zeroF 4), i6 (zeroF 5), i6 (zeroF 6), i6 (zeroF 7), i6 (zeroF 8), i6 (zeroF 9), i6 (zeroF 10), i6 (zeroF 11), i6 (zeroF 12), i6 (zeroF 13), i6 (zeroF 14), i6 (zeroF 15), i6 (zeroF 16), i6 (zeroF 17)], i6 (2 : Int)] = V.tup [ar zeroF, i6 (2 : Int)] ∧ ((True ∧ True ∧ True) ∧ True) ∧ FnOk Tryd.prog g0 72 [V.agg [V.im (List.length cards) (ints cards), V.im (List.length cs) (List.map sl cs)]] (i6 (0 : Int)) ∧ True ∧ decide (v < (0 : Int)) = false ∧ decide (v ≥ (↑(List.length cards) : Int)) = true ∧ (0 = 0 ∧ (2 : Int) = (2 : Int) ∧ True) ∧ (arF zeroF = [V.int IntKind.i64 (0 : Int), V.int IntKind.i64 (0 : Int), V.int IntKind.i64 (0 : Int), V.int IntKind.i64 (0 : Int), V.int IntKind.i64 (0 : Int), V.int IntKind.i64 (0 : Int), V.int IntKind.i64 (0 : Int), V.int IntKind.i64 (0 : Int), V.int IntKind.i64 (0 : Int), V.int IntKind.i64 (0 : Int), V.int IntKind.i64 (0 : Int), V.int IntKind.i64 (0 : Int), V.int IntKind.i64 (0 : Int), V.int IntKind.i64 (0 : Int), V.int IntKind.i64 (0 : Int), V.int IntKind.i64 (0 : Int), V.int IntKind.i64 (0 : Int), V.int IntKind.i64 (0 : Int)] ∧ True ∧ True ∧ True ∧ True ∧ True ∧ True ∧ True ∧ True ∧ True ∧ True ∧ True ∧ True ∧ True ∧ True ∧ True ∧ True ∧ True ∧ True ∧ True) ∧ True) = _) ?_
      exact au
    · have s2 := @shr_v (ctxOf Pg) 28 ps v (by omega) (by omega)
      have s3 := @and1_u (ctxOf Pg) 28 (ps / 2 ^ v.toNat)
      rw [decide_eq_true (show 0 ≤ v by omega), decide_eq_true (show v < cards.length by omega)] at hm
      generalize ps / 2 ^ cards.length = a at *
      generalize ps / 2 ^ v.toNat = b at *
      by_cases c3 : a = 0
      · rw [decide_eq_true c3] at hm
        have hb1 : b % 2 = 1 := by
          have : ¬ b % 2 = 0 := by simpa using hm
          omega
        rw [hb1] at s3
        refine FnOk.of_vc vE_ok mixed sp0_ok (n := 1000) (r := [1]) (S := fpS zeroF 2) (hs := [fn 10 (i6 0), no 16, no 22, va 29 (u6 a), no 30, va 35 (u6 b), va 36 (u6 1), yes 37]) ?_
        refine Eq.mp (by kernel_rfl : (V.tup [V.agg [i6 (zeroF 0), i6 (zeroF 1), i6 (zeroF 2), i6 (zeroF 3), i6 (zeroF 4), i6 (zeroF 5), i6 (zeroF 6), i6 (zeroF 7), i6 (zeroF 8), i6 (zeroF 9), i6 (zeroF 10), i6 (zeroF 11), i6 (zeroF 12), i6 (zeroF 13), i6 (zeroF 14), i6 (zeroF 15), i6 (zeroF 16), i6 (zeroF 17)], i6 (2 : Int)] = V.tup [ar zeroF, i6 (2 : Int)] ∧ ((True ∧ True ∧ True) ∧ True) ∧ FnOk Tryd.prog g0 72 [V.agg [V.im (List.length cards) (ints cards), V.im (List.length cs) (List.map sl cs)]] (i6 (0 : Int)) ∧ True ∧ decide (v < (0 : Int)) = false ∧ decide (v ≥ (↑(List.length cards) : Int)) = false ∧ binV (ctxOf Tryd.prog) BinOp.shr 28 (u6 (↑ps : Int)) (V.int IntKind.i64 (↑(List.length cards) : Int)) = some (u6 (↑a : Int)) ∧ ((↑a : Int) != (0 : Int)) = false ∧ binV (ctxOf Tryd.prog) BinOp.shr 28 (u6 (↑ps : Int)) (i6 v) = some (u6 (↑b : Int)) ∧ binV (ctxOf Tryd.prog) BinOp.and 28 (u6 (↑b : Int)) (V.int IntKind.u64 (1 : Int)) = some (u6 (1 : Int)) ∧ ((1 : Int) == (1 : Int)) = true ∧ (0 = 0 ∧ (2 : Int) = (2 : Int) ∧ True) ∧ (arF zeroF = [V.int IntKind.i64 (0 : Int), V.int IntKind.i64 (0 : Int), V.int IntKind.i64 (0 : Int), V.int IntKind.i64 (0 : Int), V.int IntKind.i64 (0 : Int), V.int IntKind.i64 (0 : Int), V.int IntKind.i64 (0 : Int), V.int IntKind.i64 (0 : Int), V.int IntKind.i64 (0 : Int), V.int IntKind.i64 (0 : Int), V.int IntKind.i64 (0 : Int), V.int IntKind.i64 (0 : Int), V.int IntKind.i64 (0 : Int), V.int IntKind.i64 (0 : Int), V.int IntKind.i64 (0 : Int), V.int IntKind.i64 (0 : Int), V.int IntKind.i64 (0 : Int), V.int IntKind.i64 (0 : Int)] ∧ True ∧ True ∧ True ∧ True ∧ True ∧ True ∧ True ∧ True ∧ True ∧ True ∧ True ∧ True ∧ True ∧ True ∧ True ∧ True ∧ True ∧ True ∧ True) ∧ True) = _) ?_
        exact au
      · refine FnOk.of_vc vE_ok mixed sp0_ok (n := 1000) (r := [1]) (S := fpS zeroF 2) (hs := [fn 10 (i6 0), no 16, no 22, va 29 (u6 a), yes 30]) ?_
        refine Eq.mp (by kernel_rfl : (V.tup [V.agg [i6 (zeroF 0), i6 (zeroF 1), i6 (zeroF 2), i6 (zeroF 3), i6 (zeroF 4), i6 (zeroF 5), i6 (zeroF 6), i6 (zeroF 7), i6 (zeroF 8), i6 (zeroF 9), i6 (zeroF 10), i6 (zeroF 11), i6 (zeroF 12), i6 (zeroF 13), i6 (zeroF 14), i6 (zeroF 15), i6 (zeroF 16), i6 (zeroF 17)], i6 (2 : Int)] = V.tup [ar zeroF, i6 (2 : Int)] ∧ ((True ∧ True ∧ True) ∧ True) ∧ FnOk Tryd.prog g0 72 [V.agg [V.im (List.length cards) (ints cards), V.im (List.length cs) (List.map sl cs)]] (i6 (0 : Int)) ∧ True ∧ decide (v < (0 : Int)) = false ∧ decide (v ≥ (↑(List.length cards) : Int)) = false ∧ binV (ctxOf Tryd.prog) BinOp.shr 28 (u6 (↑ps : Int)) (V.int IntKind.i64 (↑(List.length cards) : Int)) = some (u6 (↑a : Int)) ∧ ((↑a : Int) != (0 : Int)) = true ∧ (0 = 0 ∧ (2 : Int) = (2 : Int) ∧ True) ∧ (arF zeroF = [V.int IntKind.i64 (0 : Int), V.int IntKind.i64 (0 : Int), V.int IntKind.i64 (0 : Int), V.int IntKind.i64 (0 : Int), V.int IntKind.i64 (0 : Int), V.int IntKind.i64 (0 : Int), V.int IntKind.i64 (0 : Int), V.int IntKind.i64 (0 : Int), V.int IntKind.i64 (0 : Int), V.int IntKind.i64 (0 : Int), V.int IntKind.i64 (0 : Int), V.int IntKind.i64 (0 : Int), V.int IntKind.i64 (0 : Int), V.int IntKind.i64 (0 : Int), V.int IntKind.i64 (0 : Int), V.int IntKind.i64 (0 : Int), V.int IntKind.i64 (0 : Int), V.int IntKind.i64 (0 : Int)] ∧ True ∧ True ∧ True ∧ True ∧ True ∧ True ∧ True ∧ True ∧ True ∧ True ∧ True ∧ True ∧ True ∧ True ∧ True ∧ True ∧ True ∧ True ∧ True) ∧ True) = _) ?_
        exact au
/-- the powers of a family's score -/
def famG (cards : List Int) (cs : List (List Int)) (v : Int) (ps : Nat) : Nat → Int := famF (toN cards) (cs.map toN) v.toNat ps
theorem sfam_ok (cards : List Int) (cs : List (List Int)) (v : Int) (ps : Nat) (hl1 : cards.length ≤ 64) (hl2 : cs.length ≤ 1000) (hcl : ∀ c ∈ cs, c.length ≤ 1000) (h : goodE cards cs = 0) (hm : memB cards.length v ps = true) : FnOk Pg g0 22 [gV cards cs, i6 v, u6 ps] (.tup [ar (famG cards cs v ps), i6 0]) := by
  have h1 := checkWhole_fn cards cs (by omega) hl2 hcl
  have hw := whole_ok h
  rw [h] at h1
  unfold memB at hm
  simp only [Bool.and_eq_true, decide_eq_true_eq] at hm
  obtain ⟨m1, m2, m3, m4⟩ := hm
  have hf := family_fn (toN cards) (cs.map toN) v.toNat ps hw.cok hw.rok (by rw [toN_length]; omega) (by rw [List.length_map]; exact hw.len)
  rw [← hw.eq, Int.toNat_of_nonneg m1] at hf
  have s1 := @shr_u (ctxOf Pg) 28 ps cards.length hl1
  have s2 := @shr_v (ctxOf Pg) 28 ps v m1 (by omega)
  have s3 := @and1_u (ctxOf Pg) 28 (ps / 2 ^ v.toNat)
  rw [m3] at s1
  rw [m4] at s3
  unfold famG
  generalize famF (toN cards) (cs.map toN) v.toNat ps = f at *
  generalize ps / 2 ^ v.toNat = b at *
  refine FnOk.of_vc vE_ok mixed sp0_ok (n := 1000) (r := [1]) (S := fpS f 0) (hs := [fn 10 (i6 0), no 16, no 22, va 29 (u6 (0 : Nat)), no 30, va 35 (u6 b), va 36 (u6 (0 : Nat)), no 37, fn 43 (ar f)]) ?_
  refine Eq.mp (by kernel_rfl : (V.tup [V.agg [i6 (f 0), i6 (f 1), i6 (f 2), i6 (f 3), i6 (f 4), i6 (f 5), i6 (f 6), i6 (f 7), i6 (f 8), i6 (f 9), i6 (f 10), i6 (f 11), i6 (f 12), i6 (f 13), i6 (f 14), i6 (f 15), i6 (f 16), i6 (f 17)], i6 (0 : Int)] = V.tup [ar f, i6 (0 : Int)] ∧ ((True ∧ True ∧ True) ∧ True) ∧ FnOk Tryd.prog g0 72 [V.agg [V.im (List.length cards) (ints cards), V.im (List.length cs) (List.map sl cs)]] (i6 (0 : Int)) ∧ True ∧ decide (v < (0 : Int)) = false ∧ decide (v ≥ (↑(List.length cards) : Int)) = false ∧ binV (ctxOf Tryd.prog) BinOp.shr 28 (u6 (↑ps : Int)) (V.int IntKind.i64 (↑(List.length cards) : Int)) = some (u6 (↑(0 : Nat) : Int)) ∧ ((↑(0 : Nat) : Int) != (0 : Int)) = false ∧ binV (ctxOf Tryd.prog) BinOp.shr 28 (u6 (↑ps : Int)) (i6 v) = some (u6 (↑b : Int)) ∧ binV (ctxOf Tryd.prog) BinOp.and 28 (u6 (↑b : Int)) (V.int IntKind.u64 (1 : Int)) = some (u6 (↑(0 : Nat) : Int)) ∧ ((↑(0 : Nat) : Int) == (1 : Int)) = false ∧ ((True ∧ True ∧ True) ∧ True ∧ True ∧ True) ∧ FnOk Tryd.prog g0 73 [V.agg [V.im (List.length cards) (ints cards), V.im (List.length cs) (List.map sl cs)], V.int IntKind.i64 v, V.int IntKind.u64 (↑ps : Int)] (ar f) ∧ True ∧ (0 = 0 ∧ (0 : Int) = (0 : Int) ∧ True) ∧ (arF f = [i6 (f 0), i6 (f 1), i6 (f 2), i6 (f 3), i6 (f 4), i6 (f 5), i6 (f 6), i6 (f 7), i6 (f 8), i6 (f 9), i6 (f 10), i6 (f 11), i6 (f 12), i6 (f 13), i6 (f 14), i6 (f 15), i6 (f 16), i6 (f 17)] ∧ True ∧ True ∧ True ∧ True ∧ True ∧ True ∧ True ∧ True ∧ True ∧ True ∧ True ∧ True ∧ True ∧ True ∧ True ∧ True ∧ True ∧ True ∧ True) ∧ True) = _) ?_
  exact au

end Go.Proofs.YtglpoiaedkoecaaDoor.Am
