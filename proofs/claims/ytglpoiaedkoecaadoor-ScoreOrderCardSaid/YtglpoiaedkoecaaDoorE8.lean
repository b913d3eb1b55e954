/- Chapters 25, 28: the reference's Right, Whole, Good, Member; score.Family. -/
import Derived.Test.YtglpoiaedkoecaaDoorE7
import Derived.Test.YtglpoiaedkoecaaDoorE5
namespace Go.Proofs.YtglpoiaedkoecaaDoor.Am
open Go.RowKit
set_option linter.unusedVariables false
set_option maxHeartbeats 1000000
set_option maxRecDepth 100000

theorem complete_fn (cards : List Int) (cs : List (List Int)) (h40 : cs.length ≤ 1000) (hcl : ∀ c ∈ cs, c.length ≤ 1000) : FnOk Pg g0 102 [gV cards cs] (gV cards (comp cs)) := by
  have hl := cp_loop cards cs h40 hcl _ rfl _ rfl
  generalize comp cs = l at *
  cases hm : l.length with
  | zero =>
    have : l = [] := List.eq_nil_of_length_eq_zero hm
    subst this
    refine FnOk.of_vc vE_ok mixed sp0_ok (n := 1000) (r := [0]) (S := { sl := [(2, .ptr 0 0)], os := [.row 32 none [sl cards, .im 0 []]], md := [1] }) (hs := [(0, .loop [0, 1, 2] (cpS cards cs (0, 0, [])) [(True, .exit 0, cpX cards 0 [])])]) ?_
    refine Eq.mp (by kernel_rfl : (V.agg [sl cards, V.im 0 []] = gV cards [] ∧ ((0 = 0 ∧ 0 = 0 ∧ 0 = 0 ∧ (↑(0 : Nat) : Int) = (0 : Int) ∧ True) ∧ ([sl cards, gC cs] = [sl cards, gC cs] ∧ True ∧ True ∧ True) ∧ ([V.nils, V.nils] = [V.nils, V.nils] ∧ True ∧ True ∧ True) ∧ ((List.length cards = List.length cards ∧ ints cards = ints cards) ∧ True ∧ True) ∧ True) ∧ Sat Tryd.prog none 0 (at' 102 [1, 1, 0, 1, 0]) (mkSt g0 32 (cpS cards cs (0, 0, []))) (outsP g0 32 [(True, Ex.exit 0, cpX cards 0 [])]) ∧ (True → (0 = 0 ∧ True) ∧ ((List.length cards = List.length cards ∧ ints cards = ints cards) ∧ 0 = 0 ∧ True) ∧ True) ∧ True) = _) ?_
    exact au
  | succ n =>
    rw [hm] at hl
    rw [show gV cards l = .agg [sl cards, .im (n + 1) (l.map sl)] by show V.agg [sl cards, .im l.length (l.map sl)] = _; rw [hm]]
    refine FnOk.of_vc vE_ok mixed sp0_ok (n := 1000) (r := [0]) (S := { sl := [(2, .ptr 0 0)], os := [.row 32 none [sl cards, .im (n + 1) (l.map sl)]], md := [1] }) (hs := [(0, .loop [0, 1, 2] (cpS cards cs (0, 0, [])) [(True, .exit 0, cpX cards (n + 1) l)])]) ?_
    refine Eq.mp (by kernel_rfl : (V.agg [sl cards, V.im (n + 1) (List.map sl l)] = V.agg [sl cards, V.im (n + 1) (List.map sl l)] ∧ ((0 = 0 ∧ 0 = 0 ∧ 0 = 0 ∧ (↑(0 : Nat) : Int) = (0 : Int) ∧ True) ∧ ([sl cards, gC cs] = [sl cards, gC cs] ∧ True ∧ True ∧ True) ∧ ([V.nils, V.nils] = [V.nils, V.nils] ∧ True ∧ True ∧ True) ∧ ((List.length cards = List.length cards ∧ ints cards = ints cards) ∧ True ∧ True) ∧ True) ∧ Sat Tryd.prog none 0 (at' 102 [1, 1, 0, 1, 0]) (mkSt g0 32 (cpS cards cs (0, 0, []))) (outsP g0 32 [(True, Ex.exit 0, cpX cards (n + 1) l)]) ∧ (True → (0 = 0 ∧ True) ∧ ((List.length cards = List.length cards ∧ ints cards = ints cards) ∧ (n + 1 = n + 1 ∧ List.map sl l = List.map sl l ∧ HfL (List.map sl l)) ∧ True) ∧ True) ∧ True) = _) ?_
    exact au

theorem comp_len (cs : List (List Int)) : ((comp cs).length = cs.length ↔ cs.any negB = false) := by
  unfold comp
  rw [← List.countP_eq_length_filter]
  constructor
  · intro h
    rw [List.countP_eq_length] at h
    rw [List.any_eq_false]
    intro c hc
    have := h c hc
    simpa using this
  · intro h
    rw [List.countP_eq_length]
    intro c hc
    rw [List.any_eq_false] at h
    simpa using h c hc
theorem rwhole_fn (cards : List Int) (cs : List (List Int)) (h40 : cs.length ≤ 1000) (hcl : ∀ c ∈ cs, c.length ≤ 1000) : FnOk Pg g0 71 [gV cards cs] (.bool (!cs.any negB)) := by
  have hc := complete_fn cards cs h40 hcl
  have hi := comp_len cs
  cases hn : cs.any negB with
  | false =>
    have hl := hi.2 hn
    generalize comp cs = l at *
    refine FnOk.of_vc vE_ok mixed sp0_ok (n := 1000) (r := []) (S := bR true) (hs := [fn 4 (gV cards l), yes 10]) ?_
    refine Eq.mp (by kernel_rfl : (V.bool true = V.bool !false ∧ ((True ∧ True ∧ True) ∧ True) ∧ FnOk Tryd.prog g0 102 [V.agg [V.im (List.length cards) (ints cards), V.im (List.length cs) (List.map sl cs)]] (gV cards l) ∧ True ∧ ((↑(List.length l) : Int) == (↑(List.length cs) : Int)) = true ∧ (true = true ∧ True) ∧ True) = _) ?_
    exact au
  | true =>
    have hl : (comp cs).length ≠ cs.length := fun h => by rw [hi.1 h] at hn; cases hn
    generalize comp cs = l at *
    refine FnOk.of_vc vE_ok mixed sp0_ok (n := 1000) (r := []) (S := bR false) (hs := [fn 4 (gV cards l), no 10]) ?_
    refine Eq.mp (by kernel_rfl : (V.bool false = V.bool !true ∧ ((True ∧ True ∧ True) ∧ True) ∧ FnOk Tryd.prog g0 102 [V.agg [V.im (List.length cards) (ints cards), V.im (List.length cs) (List.map sl cs)]] (gV cards l) ∧ True ∧ ((↑(List.length l) : Int) == (↑(List.length cs) : Int)) = false ∧ (false = false ∧ True) ∧ True) = _) ?_
    exact au

/-! ### Right -/
abbrev rtS (cards : List Int) (cs : List (List Int)) (k : Nat) : SL := { sl := [(1, .ptr 0 0), (3, i6 (prodT cards k)), (4, i6 k)], os := [gO cards cs] }
abbrev rtX (cards : List Int) (cs : List (List Int)) (w : Int) : SL := { sl := [(1, .ptr 0 0), (3, i6 w)], os := [gO cards cs] }
theorem rt_cards (cards : List Int) (cs : List (List Int)) (h6 : cards.length ≤ 6) :
    Sat Pg none 0 (at' 70 [1, 1, 1, 0, 1, 0]) (mkSt g0 102 (rtS cards cs 0)) (outsP g0 102 [(okCs cards = true, .exit 0, rtX cards cs (prodT cards cards.length)), (okCs cards = false, .ret, bR false)]) := by
  refine loopC vE_ok mixed sp0_ok (b := at' 70 [1, 1, 1, 0, 1, 0, 0]) (by kernel_rfl) (fun k => k ≤ cards.length ∧ ∀ j, j < k → okC (cards.getD j 0) = true) (rtS cards cs) (fun k => cards.length - k) (fun k hk => ?_) 0 ⟨Nat.zero_le _, fun j h => absurd h (Nat.not_lt_zero _)⟩
  obtain ⟨hk, hj⟩ := hk
  by_cases hlt : k < cards.length
  · have hld := @head_intsD cards k hlt
    have hpb := prodT_bd k hj
    have hp4 := pow4I (show k ≤ 6 by omega)
    have hbad : okC (cards.getD k 0) = false → okCs cards = false := fun h => all_range_f hlt h
    have hgood : okC (cards.getD k 0) = true → ∀ j, j < k + 1 → okC (cards.getD j 0) = true := fun h j hj1 => by
      rcases Nat.lt_succ_iff_lt_or_eq.1 hj1 with h2 | h2
      · exact hj j h2
      · subst h2; exact h
    have hS : rtS cards cs (k + 1) = { sl := [(1, .ptr 0 0), (3, i6 (prodT cards k * cards.getD k 0)), (4, i6 (k + 1 : Nat))], os := [gO cards cs] } := rfl
    by_cases h1 : cards.getD k 0 < 2
    · have hb := hbad (by unfold okC; exact decide_eq_false (by omega))
      refine .inr ⟨.ret, [], bR false, [yes 27, pl 33, ld 34 (i6 (cards.getD k 0)), yes 35], 1000, .inr (.inl ⟨hb, rfl, rfl⟩), ?_⟩
      refine Eq.mp (by kernel_rfl : (decide ((↑k : Int) < (↑(List.length cards) : Int)) = true ∧ ((0 : Int) ≤ (↑k : Int) ∧ (↑k : Int) < (↑(List.length cards) : Int)) ∧ headF (List.drop (k * 1) (ints cards)) = some (i6 (List.getD cards k (0 : Int))) ∧ decide (List.getD cards k (0 : Int) < (2 : Int)) = true ∧ (false = false ∧ True) ∧ True) = _) ?_
      exact au
    · by_cases h2 : cards.getD k 0 > 4
      · have hb := hbad (by unfold okC; exact decide_eq_false (by omega))
        refine .inr ⟨.ret, [], bR false, [yes 27, pl 33, ld 34 (i6 (cards.getD k 0)), no 35, pl 40, ld 41 (i6 (cards.getD k 0)), yes 42], 1000, .inr (.inl ⟨hb, rfl, rfl⟩), ?_⟩
        refine Eq.mp (by kernel_rfl : (decide ((↑k : Int) < (↑(List.length cards) : Int)) = true ∧ ((0 : Int) ≤ (↑k : Int) ∧ (↑k : Int) < (↑(List.length cards) : Int)) ∧ headF (List.drop (k * 1) (ints cards)) = some (i6 (List.getD cards k (0 : Int))) ∧ decide (List.getD cards k (0 : Int) < (2 : Int)) = false ∧ ((0 : Int) ≤ (↑k : Int) ∧ (↑k : Int) < (↑(List.length cards) : Int)) ∧ headF (List.drop (k * 1) (ints cards)) = some (i6 (List.getD cards k (0 : Int))) ∧ decide (List.getD cards k (0 : Int) > (4 : Int)) = true ∧ (false = false ∧ True) ∧ True) = _) ?_
        exact au
      · have hg := hgood (by unfold okC; exact decide_eq_true (by omega))
        have hm : prodT cards k * cards.getD k 0 ≤ 4096 * 4 := Int.mul_le_mul (by omega) (by omega) (by omega) (by omega)
        have hm0 : 0 ≤ prodT cards k * cards.getD k 0 := Int.mul_nonneg (by omega) (by omega)
        refine .inl ⟨k + 1, [0], [yes 27, pl 33, ld 34 (i6 (cards.getD k 0)), no 35, pl 40, ld 41 (i6 (cards.getD k 0)), no 42, pl 48, ld 49 (i6 (cards.getD k 0)), nu 50 (prodT cards k * cards.getD k 0), nu 29 (k + 1 : Nat)], 1000, ⟨hlt, hg⟩, by omega, ?_⟩
        rw [hS]
        generalize hy : prodT cards k * cards.getD k 0 = y at *
        refine Eq.mp (by kernel_rfl : (decide ((↑k : Int) < (↑(List.length cards) : Int)) = true ∧ ((0 : Int) ≤ (↑k : Int) ∧ (↑k : Int) < (↑(List.length cards) : Int)) ∧ headF (List.drop (k * 1) (ints cards)) = some (i6 (List.getD cards k (0 : Int))) ∧ decide (List.getD cards k (0 : Int) < (2 : Int)) = false ∧ ((0 : Int) ≤ (↑k : Int) ∧ (↑k : Int) < (↑(List.length cards) : Int)) ∧ headF (List.drop (k * 1) (ints cards)) = some (i6 (List.getD cards k (0 : Int))) ∧ decide (List.getD cards k (0 : Int) > (4 : Int)) = false ∧ ((0 : Int) ≤ (↑k : Int) ∧ (↑k : Int) < (↑(List.length cards) : Int)) ∧ headF (List.drop (k * 1) (ints cards)) = some (i6 (List.getD cards k (0 : Int))) ∧ wr IntKind.i64 (prodT cards k * List.getD cards k (0 : Int)) = y ∧ wr IntKind.i64 ((↑k : Int) + (1 : Int)) = (↑(k + 1) : Int) ∧ (0 = 0 ∧ y = y ∧ (↑(k + 1) : Int) = (↑(k + 1) : Int) ∧ True) ∧ ([sl cards, gC cs] = [sl cards, gC cs] ∧ True ∧ True ∧ True) ∧ True) = _) ?_
        (repeat' (first | (with_reducible apply And.intro) | (refine fun (_ : True) => ?_))) <;> first | exact aq | skip
        all_goals first | rfl | exact HfL_sls _ | (rw [hy]; exact wr6 (by omega) (by omega))
  · have : k = cards.length := by omega
    subst this
    refine .inr ⟨.exit 0, [0], rtX cards cs (prodT cards cards.length), [no 27], 1000, .inl ⟨all_range.2 hj, rfl, rfl⟩, ?_⟩
    show vc _ _ _ _ _ _ _ _ (mkSt g0 102 { sl := [(1, .ptr 0 0), (3, i6 (prodT cards cards.length)), (4, i6 (cards.length : Nat))], os := [gO cards cs] }) _
    generalize prodT cards cards.length = w at *
    refine Eq.mp (by kernel_rfl : (decide ((↑(List.length cards) : Int) < (↑(List.length cards) : Int)) = false ∧ (0 = 0 ∧ w = w ∧ True) ∧ ([sl cards, gC cs] = [sl cards, gC cs] ∧ True ∧ True ∧ True) ∧ True) = _) ?_
    exact au
abbrev rvS (cards : List Int) (cs : List (List Int)) (w : Int) (i : Nat) (j : Nat) : SL := { sl := [(1, .ptr 0 0), (3, i6 w), (5, i6 i), (6, i6 j)], os := [gO cards cs] }
abbrev rwS (cards : List Int) (cs : List (List Int)) (w : Int) (i : Nat) : SL := { sl := [(1, .ptr 0 0), (3, i6 w), (5, i6 i)], os := [gO cards cs] }
theorem rt_row (cards : List Int) (cs : List (List Int)) (w : Int) (i : Nat) (c : List Int) (hi : i < cs.length) (hc : cs[i]? = some c) (hlen : c.length = cards.length) (h6 : cards.length ≤ 6) :
    Sat Pg none 0 (at' 70 [1, 1, 1, 1, 0, 1, 0, 0, 1, 0, 0, 1, 1, 0]) (mkSt g0 102 (rvS cards cs w i 0)) (outsP g0 102 [(okRow cards c = true, .exit 4, rwS cards cs w i), (okRow cards c = false, .ret, bR false)]) := by
  refine loopC vE_ok mixed sp0_ok (b := at' 70 [1, 1, 1, 1, 0, 1, 0, 0, 1, 0, 0, 1, 1, 0, 0]) (by kernel_rfl) (fun k => k ≤ cards.length ∧ ∀ j, j < k → okX (cards.getD j 0) (c.getD j 0) = true) (rvS cards cs w i) (fun k => cards.length - k) (fun k hk => ?_) 0 ⟨Nat.zero_le _, fun j h => absurd h (Nat.not_lt_zero _)⟩
  obtain ⟨hk, hj⟩ := hk
  have hldc : headF ((cs.map sl).drop (i * 1)) = some (sl c) := head_map hc
  by_cases hlt : k < cards.length
  · have hld := @head_intsD cards k hlt
    have hld2 := @head_intsD c k (by omega)
    have hbad : okX (cards.getD k 0) (c.getD k 0) = false → okRow cards c = false := fun h => by
      unfold okRow; rw [all_range_f hlt h, Bool.and_false]
    have hgood : okX (cards.getD k 0) (c.getD k 0) = true → ∀ j, j < k + 1 → okX (cards.getD j 0) (c.getD j 0) = true := fun h j hj1 => by
      rcases Nat.lt_succ_iff_lt_or_eq.1 hj1 with h2 | h2
      · exact hj j h2
      · subst h2; exact h
    by_cases h1 : c.getD k 0 < -1
    · have hb := hbad (by unfold okX; exact decide_eq_false (by omega))
      refine .inr ⟨.ret, [], bR false, [yes 72, pl 78, ld 79 (sl c), pl 81, ld 82 (i6 (c.getD k 0)), yes 83], 1000, .inr (.inl ⟨hb, rfl, rfl⟩), ?_⟩
      refine Eq.mp (by kernel_rfl : (decide ((↑k : Int) < (↑(List.length cards) : Int)) = true ∧ ((0 : Int) ≤ (↑i : Int) ∧ (↑i : Int) < (↑(List.length cs) : Int)) ∧ headF (List.drop (i * 1) (List.map sl cs)) = some (sl c) ∧ ((0 : Int) ≤ (↑k : Int) ∧ (↑k : Int) < (↑(List.length c) : Int)) ∧ headF (List.drop (k * 1) (ints c)) = some (i6 (List.getD c k (0 : Int))) ∧ decide (List.getD c k (0 : Int) < (-1 : Int)) = true ∧ (false = false ∧ True) ∧ True) = _) ?_
      exact au
    · by_cases h2 : c.getD k 0 ≥ cards.getD k 0
      · have hb := hbad (by unfold okX; exact decide_eq_false (by omega))
        refine .inr ⟨.ret, [], bR false, [yes 72, pl 78, ld 79 (sl c), pl 81, ld 82 (i6 (c.getD k 0)), no 83, pl 88, ld 89 (sl c), pl 91, ld 92 (i6 (c.getD k 0)), pl 96, ld 97 (i6 (cards.getD k 0)), yes 98], 1000, .inr (.inl ⟨hb, rfl, rfl⟩), ?_⟩
        refine Eq.mp (by kernel_rfl : (decide ((↑k : Int) < (↑(List.length cards) : Int)) = true ∧ ((0 : Int) ≤ (↑i : Int) ∧ (↑i : Int) < (↑(List.length cs) : Int)) ∧ headF (List.drop (i * 1) (List.map sl cs)) = some (sl c) ∧ ((0 : Int) ≤ (↑k : Int) ∧ (↑k : Int) < (↑(List.length c) : Int)) ∧ headF (List.drop (k * 1) (ints c)) = some (i6 (List.getD c k (0 : Int))) ∧ decide (List.getD c k (0 : Int) < (-1 : Int)) = false ∧ ((0 : Int) ≤ (↑i : Int) ∧ (↑i : Int) < (↑(List.length cs) : Int)) ∧ headF (List.drop (i * 1) (List.map sl cs)) = some (sl c) ∧ ((0 : Int) ≤ (↑k : Int) ∧ (↑k : Int) < (↑(List.length c) : Int)) ∧ headF (List.drop (k * 1) (ints c)) = some (i6 (List.getD c k (0 : Int))) ∧ ((0 : Int) ≤ (↑k : Int) ∧ (↑k : Int) < (↑(List.length cards) : Int)) ∧ headF (List.drop (k * 1) (ints cards)) = some (i6 (List.getD cards k (0 : Int))) ∧ decide (List.getD c k (0 : Int) ≥ List.getD cards k (0 : Int)) = true ∧ (false = false ∧ True) ∧ True) = _) ?_
        exact au
      · have hg := hgood (by unfold okX; exact decide_eq_true (by omega))
        refine .inl ⟨k + 1, [0], [yes 72, pl 78, ld 79 (sl c), pl 81, ld 82 (i6 (c.getD k 0)), no 83, pl 88, ld 89 (sl c), pl 91, ld 92 (i6 (c.getD k 0)), pl 96, ld 97 (i6 (cards.getD k 0)), no 98, nu 74 (k + 1 : Nat)], 1000, ⟨hlt, hg⟩, by omega, ?_⟩
        refine Eq.mp (by kernel_rfl : (decide ((↑k : Int) < (↑(List.length cards) : Int)) = true ∧ ((0 : Int) ≤ (↑i : Int) ∧ (↑i : Int) < (↑(List.length cs) : Int)) ∧ headF (List.drop (i * 1) (List.map sl cs)) = some (sl c) ∧ ((0 : Int) ≤ (↑k : Int) ∧ (↑k : Int) < (↑(List.length c) : Int)) ∧ headF (List.drop (k * 1) (ints c)) = some (i6 (List.getD c k (0 : Int))) ∧ decide (List.getD c k (0 : Int) < (-1 : Int)) = false ∧ ((0 : Int) ≤ (↑i : Int) ∧ (↑i : Int) < (↑(List.length cs) : Int)) ∧ headF (List.drop (i * 1) (List.map sl cs)) = some (sl c) ∧ ((0 : Int) ≤ (↑k : Int) ∧ (↑k : Int) < (↑(List.length c) : Int)) ∧ headF (List.drop (k * 1) (ints c)) = some (i6 (List.getD c k (0 : Int))) ∧ ((0 : Int) ≤ (↑k : Int) ∧ (↑k : Int) < (↑(List.length cards) : Int)) ∧ headF (List.drop (k * 1) (ints cards)) = some (i6 (List.getD cards k (0 : Int))) ∧ decide (List.getD c k (0 : Int) ≥ List.getD cards k (0 : Int)) = false ∧ wr IntKind.i64 ((↑k : Int) + (1 : Int)) = (↑(k + 1) : Int) ∧ (0 = 0 ∧ w = w ∧ (↑i : Int) = (↑i : Int) ∧ (↑(k + 1) : Int) = (↑(k + 1) : Int) ∧ True) ∧ ([sl cards, gC cs] = [sl cards, gC cs] ∧ True ∧ True ∧ True) ∧ True) = _) ?_
        exact au
  · have : k = cards.length := by omega
    subst this
    have hg : okRow cards c = true := by unfold okRow; rw [all_range.2 hj, decide_eq_true hlen]; rfl
    refine .inr ⟨.exit 4, [0], rwS cards cs w i, [no 72], 1000, .inl ⟨hg, rfl, rfl⟩, ?_⟩
    refine Eq.mp (by kernel_rfl : (decide ((↑(List.length cards) : Int) < (↑(List.length cards) : Int)) = false ∧ (0 = 0 ∧ w = w ∧ (↑i : Int) = (↑i : Int) ∧ True) ∧ ([sl cards, gC cs] = [sl cards, gC cs] ∧ True ∧ True ∧ True) ∧ True) = _) ?_
    exact au
theorem rt_rows (cards : List Int) (cs : List (List Int)) (w : Int) (h6 : cards.length ≤ 6) (h40 : cs.length ≤ 40) :
    Sat Pg none 0 (at' 70 [1, 1, 1, 1, 0, 1, 0]) (mkSt g0 102 (rwS cards cs w 0)) (outsP g0 102 [(cs.all (okRow cards) = true, .exit 2, { sl := [(3, i6 w)] }), (cs.all (okRow cards) = false, .ret, bR false)]) := by
  refine loopC vE_ok mixed sp0_ok (b := at' 70 [1, 1, 1, 1, 0, 1, 0, 0]) (by kernel_rfl) (fun k => k ≤ cs.length ∧ (cs.take k).all (okRow cards) = true) (rwS cards cs w) (fun k => cs.length - k) (fun k hk => ?_) 0 ⟨Nat.zero_le _, rfl⟩
  obtain ⟨hk, hj⟩ := hk
  by_cases hlt : k < cs.length
  · have hck : cs[k]? = some cs[k] := List.getElem?_eq_getElem hlt
    have hmem := List.getElem_mem hlt
    generalize cs[k] = c at *
    have hld : headF ((cs.map sl).drop (k * 1)) = some (sl c) := head_map hck
    have hbad : okRow cards c = false → cs.all (okRow cards) = false := fun h => by
      cases ha : cs.all (okRow cards) with
      | false => rfl
      | true =>
        rw [List.all_eq_true] at ha
        rw [ha c hmem] at h; cases h
    have hgood : okRow cards c = true → (cs.take (k + 1)).all (okRow cards) = true := fun h => by
      rw [List.take_add_one, hck, List.all_append, hj]; simp [h]
    by_cases h1 : c.length = cards.length
    · have hrow := rt_row cards cs w k c hlt hck h1 h6
      cases hok : okRow cards c with
      | true =>
        have hr := hrow.mono (outs2_l hok (by rw [hok]; simp))
        refine .inl ⟨k + 1, [0], [yes 55, pl 61, ld 62 (sl c), no 67, (0, .loop [0] (rvS cards cs w k 0) [(True, .exit 4, rwS cards cs w k)]), nu 57 (k + 1 : Nat)], 1000, ⟨hlt, hgood hok⟩, by omega, ?_⟩
        refine Eq.mp (by kernel_rfl : (decide ((↑k : Int) < (↑(List.length cs) : Int)) = true ∧ ((0 : Int) ≤ (↑k : Int) ∧ (↑k : Int) < (↑(List.length cs) : Int)) ∧ headF (List.drop (k * 1) (List.map sl cs)) = some (sl c) ∧ ((↑(List.length c) : Int) != (↑(List.length cards) : Int)) = false ∧ ((0 = 0 ∧ w = w ∧ (↑k : Int) = (↑k : Int) ∧ (↑(0 : Nat) : Int) = (0 : Int) ∧ True) ∧ ([sl cards, gC cs] = [sl cards, gC cs] ∧ True ∧ True ∧ True) ∧ True) ∧ Sat Tryd.prog none 0 (at' 70 [1, 1, 1, 1, 0, 1, 0, 0, 1, 0, 0, 1, 1, 0]) (mkSt g0 102 (rvS cards cs w k 0)) (outsP g0 102 [(True, Ex.exit 4, rwS cards cs w k)]) ∧ (True → wr IntKind.i64 ((↑k : Int) + (1 : Int)) = (↑(k + 1) : Int) ∧ (0 = 0 ∧ w = w ∧ (↑(k + 1) : Int) = (↑(k + 1) : Int) ∧ True) ∧ ([sl cards, gC cs] = [sl cards, gC cs] ∧ True ∧ True ∧ True) ∧ True) ∧ True) = _) ?_
        exact au
      | false =>
        have hr := hrow.mono (outs2_r (by rw [hok]; simp) hok)
        refine .inr ⟨.ret, [], bR false, [yes 55, pl 61, ld 62 (sl c), no 67, (0, .loop [0] (rvS cards cs w k 0) [(True, .ret, bR false)])], 1000, .inr (.inl ⟨hbad hok, rfl, rfl⟩), ?_⟩
        refine Eq.mp (by kernel_rfl : (decide ((↑k : Int) < (↑(List.length cs) : Int)) = true ∧ ((0 : Int) ≤ (↑k : Int) ∧ (↑k : Int) < (↑(List.length cs) : Int)) ∧ headF (List.drop (k * 1) (List.map sl cs)) = some (sl c) ∧ ((↑(List.length c) : Int) != (↑(List.length cards) : Int)) = false ∧ ((0 = 0 ∧ w = w ∧ (↑k : Int) = (↑k : Int) ∧ (↑(0 : Nat) : Int) = (0 : Int) ∧ True) ∧ ([sl cards, gC cs] = [sl cards, gC cs] ∧ True ∧ True ∧ True) ∧ True) ∧ Sat Tryd.prog none 0 (at' 70 [1, 1, 1, 1, 0, 1, 0, 0, 1, 0, 0, 1, 1, 0]) (mkSt g0 102 (rvS cards cs w k 0)) (outsP g0 102 [(True, Ex.ret, bR false)]) ∧ (True → (false = false ∧ True) ∧ True) ∧ True) = _) ?_
        exact au
    · have := hbad (by unfold okRow; rw [decide_eq_false h1]; rfl)
      refine .inr ⟨.ret, [], bR false, [yes 55, pl 61, ld 62 (sl c), yes 67], 1000, .inr (.inl ⟨this, rfl, rfl⟩), ?_⟩
      refine Eq.mp (by kernel_rfl : (decide ((↑k : Int) < (↑(List.length cs) : Int)) = true ∧ ((0 : Int) ≤ (↑k : Int) ∧ (↑k : Int) < (↑(List.length cs) : Int)) ∧ headF (List.drop (k * 1) (List.map sl cs)) = some (sl c) ∧ ((↑(List.length c) : Int) != (↑(List.length cards) : Int)) = true ∧ (false = false ∧ True) ∧ True) = _) ?_
      exact au
  · have : k = cs.length := by omega
    subst this
    rw [List.take_length] at hj
    refine .inr ⟨.exit 2, [], { sl := [(3, i6 w)] }, [no 55], 1000, .inl ⟨hj, rfl, rfl⟩, ?_⟩
    refine Eq.mp (by kernel_rfl : (decide ((↑(List.length cs) : Int) < (↑(List.length cs) : Int)) = false ∧ (w = w ∧ True) ∧ True) = _) ?_
    exact au

theorem right_fn (cards : List Int) (cs : List (List Int)) (hl1 : cards.length ≤ 1000) (hl2 : cs.length ≤ 1000) : FnOk Pg g0 70 [gV cards cs] (.bool (okAll cards cs)) := by
  have hall : ∀ b1 b2 b3 b4 b5 b6 : Bool, decide (1 ≤ cards.length) = b1 → decide (cards.length ≤ 6) = b2 → decide (cs.length ≤ 40) = b3 → okCs cards = b4 → decide (prodT cards cards.length ≤ 1024) = b5 → cs.all (okRow cards) = b6 → okAll cards cs = (b1 && (b2 && (b3 && (b4 && (b5 && b6))))) := by
    intro b1 b2 b3 b4 b5 b6 h1 h2 h3 h4 h5 h6
    unfold okAll
    rw [h1, h2, h3, h4, h5, h6]
  by_cases h1 : 1 ≤ cards.length
  · by_cases h2 : cards.length ≤ 6
    · by_cases h3 : cs.length ≤ 40
      · have hl := rt_cards cards cs h2
        cases h4 : okCs cards with
        | false =>
          rw [show okAll cards cs = false by rw [hall _ _ _ _ _ _ rfl rfl rfl h4 rfl rfl]; simp]
          have hl' := hl.mono (outs2_r (by rw [h4]; simp) h4)
          refine FnOk.of_vc vE_ok mixed sp0_ok (n := 1000) (r := []) (S := bR false) (hs := [no 10, no 15, no 21, (0, .loop [0] (rtS cards cs 0) [(True, .ret, bR false)])]) ?_
          refine Eq.mp (by kernel_rfl : (V.bool false = V.bool false ∧ decide ((↑(List.length cards) : Int) < (1 : Int)) = false ∧ decide ((↑(List.length cards) : Int) > (6 : Int)) = false ∧ decide ((↑(List.length cs) : Int) > (40 : Int)) = false ∧ ((0 = 0 ∧ prodT cards 0 = (1 : Int) ∧ (↑(0 : Nat) : Int) = (0 : Int) ∧ True) ∧ ([sl cards, gC cs] = [sl cards, gC cs] ∧ True ∧ True ∧ True) ∧ True) ∧ Sat Tryd.prog none 0 (at' 70 [1, 1, 1, 0, 1, 0]) (mkSt g0 102 (rtS cards cs 0)) (outsP g0 102 [(True, Ex.ret, bR false)]) ∧ (True → (false = false ∧ True) ∧ True) ∧ True) = _) ?_
          exact au
        | true =>
          have hl' := hl.mono (outs2_l h4 (by rw [h4]; simp))
          have hrr := rt_rows cards cs (prodT cards cards.length) h2 h3
          cases h6 : cs.all (okRow cards) with
          | false =>
            rw [show okAll cards cs = false by rw [hall _ _ _ _ _ _ rfl rfl rfl rfl rfl h6]; simp]
            have hr := hrr.mono (outs2_r (by rw [h6]; simp) h6)
            refine FnOk.of_vc vE_ok mixed sp0_ok (n := 1000) (r := []) (S := bR false) (hs := [no 10, no 15, no 21, (0, .loop [0] (rtS cards cs 0) [(True, .exit 0, rtX cards cs (prodT cards cards.length))]), (0, .loop [0] (rwS cards cs (prodT cards cards.length) 0) [(True, .ret, bR false)])]) ?_
            refine Eq.mp (by kernel_rfl : (V.bool false = V.bool false ∧ decide ((↑(List.length cards) : Int) < (1 : Int)) = false ∧ decide ((↑(List.length cards) : Int) > (6 : Int)) = false ∧ decide ((↑(List.length cs) : Int) > (40 : Int)) = false ∧ ((0 = 0 ∧ prodT cards 0 = (1 : Int) ∧ (↑(0 : Nat) : Int) = (0 : Int) ∧ True) ∧ ([sl cards, gC cs] = [sl cards, gC cs] ∧ True ∧ True ∧ True) ∧ True) ∧ Sat Tryd.prog none 0 (at' 70 [1, 1, 1, 0, 1, 0]) (mkSt g0 102 (rtS cards cs 0)) (outsP g0 102 [(True, Ex.exit 0, rtX cards cs (prodT cards (List.length cards)))]) ∧ (True → ((0 = 0 ∧ prodT cards (List.length cards) = prodT cards (List.length cards) ∧ (↑(0 : Nat) : Int) = (0 : Int) ∧ True) ∧ ([sl cards, gC cs] = [sl cards, gC cs] ∧ True ∧ True ∧ True) ∧ True) ∧ Sat Tryd.prog none 0 (at' 70 [1, 1, 1, 1, 0, 1, 0]) (mkSt g0 102 (rwS cards cs (prodT cards (List.length cards)) 0)) (outsP g0 102 [(True, Ex.ret, bR false)]) ∧ (True → (false = false ∧ True) ∧ True) ∧ True) ∧ True) = _) ?_
            exact au
          | true =>
            have hr := hrr.mono (outs2_l h6 (by rw [h6]; simp))
            by_cases h5 : prodT cards cards.length ≤ 1024
            · rw [show okAll cards cs = true by rw [hall _ _ _ _ _ _ (decide_eq_true h1) (decide_eq_true h2) (decide_eq_true h3) h4 (decide_eq_true h5) h6]; rfl]
              refine FnOk.of_vc vE_ok mixed sp0_ok (n := 1000) (r := []) (S := bR true) (hs := [no 10, no 15, no 21, (0, .loop [0] (rtS cards cs 0) [(True, .exit 0, rtX cards cs (prodT cards cards.length))]), (0, .loop [0] (rwS cards cs (prodT cards cards.length) 0) [(True, .exit 2, { sl := [(3, i6 (prodT cards cards.length))] })]), yes 101]) ?_
              refine Eq.mp (by kernel_rfl : (V.bool true = V.bool true ∧ decide ((↑(List.length cards) : Int) < (1 : Int)) = false ∧ decide ((↑(List.length cards) : Int) > (6 : Int)) = false ∧ decide ((↑(List.length cs) : Int) > (40 : Int)) = false ∧ ((0 = 0 ∧ prodT cards 0 = (1 : Int) ∧ (↑(0 : Nat) : Int) = (0 : Int) ∧ True) ∧ ([sl cards, gC cs] = [sl cards, gC cs] ∧ True ∧ True ∧ True) ∧ True) ∧ Sat Tryd.prog none 0 (at' 70 [1, 1, 1, 0, 1, 0]) (mkSt g0 102 (rtS cards cs 0)) (outsP g0 102 [(True, Ex.exit 0, rtX cards cs (prodT cards (List.length cards)))]) ∧ (True → ((0 = 0 ∧ prodT cards (List.length cards) = prodT cards (List.length cards) ∧ (↑(0 : Nat) : Int) = (0 : Int) ∧ True) ∧ ([sl cards, gC cs] = [sl cards, gC cs] ∧ True ∧ True ∧ True) ∧ True) ∧ Sat Tryd.prog none 0 (at' 70 [1, 1, 1, 1, 0, 1, 0]) (mkSt g0 102 (rwS cards cs (prodT cards (List.length cards)) 0)) (outsP g0 102 [(True, Ex.exit 2, SL.mk [(3, i6 (prodT cards (List.length cards)))] [] [] [])]) ∧ (True → decide (prodT cards (List.length cards) ≤ (1024 : Int)) = true ∧ (true = true ∧ True) ∧ True) ∧ True) ∧ True) = _) ?_
              exact au
            · rw [show okAll cards cs = false by rw [hall _ _ _ _ _ _ rfl rfl rfl rfl (decide_eq_false h5) rfl]; simp]
              refine FnOk.of_vc vE_ok mixed sp0_ok (n := 1000) (r := []) (S := bR false) (hs := [no 10, no 15, no 21, (0, .loop [0] (rtS cards cs 0) [(True, .exit 0, rtX cards cs (prodT cards cards.length))]), (0, .loop [0] (rwS cards cs (prodT cards cards.length) 0) [(True, .exit 2, { sl := [(3, i6 (prodT cards cards.length))] })]), no 101]) ?_
              refine Eq.mp (by kernel_rfl : (V.bool false = V.bool false ∧ decide ((↑(List.length cards) : Int) < (1 : Int)) = false ∧ decide ((↑(List.length cards) : Int) > (6 : Int)) = false ∧ decide ((↑(List.length cs) : Int) > (40 : Int)) = false ∧ ((0 = 0 ∧ prodT cards 0 = (1 : Int) ∧ (↑(0 : Nat) : Int) = (0 : Int) ∧ True) ∧ ([sl cards, gC cs] = [sl cards, gC cs] ∧ True ∧ True ∧ True) ∧ True) ∧ Sat Tryd.prog none 0 (at' 70 [1, 1, 1, 0, 1, 0]) (mkSt g0 102 (rtS cards cs 0)) (outsP g0 102 [(True, Ex.exit 0, rtX cards cs (prodT cards (List.length cards)))]) ∧ (True → ((0 = 0 ∧ prodT cards (List.length cards) = prodT cards (List.length cards) ∧ (↑(0 : Nat) : Int) = (0 : Int) ∧ True) ∧ ([sl cards, gC cs] = [sl cards, gC cs] ∧ True ∧ True ∧ True) ∧ True) ∧ Sat Tryd.prog none 0 (at' 70 [1, 1, 1, 1, 0, 1, 0]) (mkSt g0 102 (rwS cards cs (prodT cards (List.length cards)) 0)) (outsP g0 102 [(True, Ex.exit 2, SL.mk [(3, i6 (prodT cards (List.length cards)))] [] [] [])]) ∧ (True → decide (prodT cards (List.length cards) ≤ (1024 : Int)) = false ∧ (false = false ∧ True) ∧ True) ∧ True) ∧ True) = _) ?_
              exact au
      · rw [show okAll cards cs = false by rw [hall _ _ _ _ _ _ rfl rfl (decide_eq_false h3) rfl rfl rfl]; simp]
        refine FnOk.of_vc vE_ok mixed sp0_ok (n := 1000) (r := []) (S := bR false) (hs := [no 10, no 15, yes 21]) ?_
        refine Eq.mp (by kernel_rfl : (V.bool false = V.bool false ∧ decide ((↑(List.length cards) : Int) < (1 : Int)) = false ∧ decide ((↑(List.length cards) : Int) > (6 : Int)) = false ∧ decide ((↑(List.length cs) : Int) > (40 : Int)) = true ∧ (false = false ∧ True) ∧ True) = _) ?_
        exact au
    · rw [show okAll cards cs = false by rw [hall _ _ _ _ _ _ rfl (decide_eq_false h2) rfl rfl rfl rfl]; simp]
      refine FnOk.of_vc vE_ok mixed sp0_ok (n := 1000) (r := []) (S := bR false) (hs := [no 10, yes 15]) ?_
      refine Eq.mp (by kernel_rfl : (V.bool false = V.bool false ∧ decide ((↑(List.length cards) : Int) < (1 : Int)) = false ∧ decide ((↑(List.length cards) : Int) > (6 : Int)) = true ∧ (false = false ∧ True) ∧ True) = _) ?_
      exact au
  · rw [show okAll cards cs = false by rw [hall _ _ _ _ _ _ (decide_eq_false h1) rfl rfl rfl rfl rfl]; simp]
    refine FnOk.of_vc vE_ok mixed sp0_ok (n := 1000) (r := []) (S := bR false) (hs := [yes 10]) ?_
    refine Eq.mp (by kernel_rfl : (V.bool false = V.bool false ∧ decide ((↑(List.length cards) : Int) < (1 : Int)) = true ∧ (false = false ∧ True) ∧ True) = _) ?_
    exact au

theorem good_fn (cards : List Int) (cs : List (List Int)) (hl1 : cards.length ≤ 1000) (hl2 : cs.length ≤ 1000) (hcl : ∀ c ∈ cs, c.length ≤ 1000) : FnOk Pg g0 21 [gV cards cs] (i6 (goodE cards cs)) := by
  have h1 := right_fn cards cs hl1 hl2
  have h2 := rwhole_fn cards cs hl2 hcl
  unfold goodE
  cases hok : okAll cards cs with
  | false =>
    rw [hok] at h1
    refine FnOk.of_vc vE_ok mixed sp0_ok (n := 1000) (r := []) (S := ckR 250) (hs := [fn 4 (.bool false)]) ?_
    refine Eq.mp (by kernel_rfl : (i6 (250 : Int) = i6 (if false = true then if List.any cs negB = true then (260 : Int) else (0 : Int) else (250 : Int)) ∧ ((True ∧ True ∧ True) ∧ True) ∧ FnOk Tryd.prog g0 70 [V.agg [V.im (List.length cards) (ints cards), V.im (List.length cs) (List.map sl cs)]] (V.bool false) ∧ True ∧ ((250 : Int) = (250 : Int) ∧ True) ∧ True) = _) ?_
    exact au
  | true =>
    rw [hok] at h1
    cases hn : cs.any negB with
    | false =>
      rw [hn] at h2
      refine FnOk.of_vc vE_ok mixed sp0_ok (n := 1000) (r := []) (S := ckR 0) (hs := [fn 4 (.bool true), fn 7 (.bool true)]) ?_
      refine Eq.mp (by kernel_rfl : (i6 (0 : Int) = i6 (if true = true then if false = true then (260 : Int) else (0 : Int) else (250 : Int)) ∧ ((True ∧ True ∧ True) ∧ True) ∧ FnOk Tryd.prog g0 70 [V.agg [V.im (List.length cards) (ints cards), V.im (List.length cs) (List.map sl cs)]] (V.bool true) ∧ True ∧ ((True ∧ True ∧ True) ∧ True) ∧ FnOk Tryd.prog g0 71 [V.agg [V.im (List.length cards) (ints cards), V.im (List.length cs) (List.map sl cs)]] (V.bool true) ∧ True ∧ ((0 : Int) = (0 : Int) ∧ True) ∧ True) = _) ?_
      exact au
    | true =>
      rw [hn] at h2
      refine FnOk.of_vc vE_ok mixed sp0_ok (n := 1000) (r := []) (S := ckR 260) (hs := [fn 4 (.bool true), fn 7 (.bool false)]) ?_
      refine Eq.mp (by kernel_rfl : (i6 (260 : Int) = i6 (if true = true then if true = true then (260 : Int) else (0 : Int) else (250 : Int)) ∧ ((True ∧ True ∧ True) ∧ True) ∧ FnOk Tryd.prog g0 70 [V.agg [V.im (List.length cards) (ints cards), V.im (List.length cs) (List.map sl cs)]] (V.bool true) ∧ True ∧ ((True ∧ True ∧ True) ∧ True) ∧ FnOk Tryd.prog g0 71 [V.agg [V.im (List.length cards) (ints cards), V.im (List.length cs) (List.map sl cs)]] (V.bool false) ∧ True ∧ ((260 : Int) = (260 : Int) ∧ True) ∧ True) = _) ?_
      exact au

end Go.Proofs.YtglpoiaedkoecaaDoor.Am
