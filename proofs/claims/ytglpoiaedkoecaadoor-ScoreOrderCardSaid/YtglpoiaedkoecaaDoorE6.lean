/- Chapter 25: whether data are valid: data.Check. -/
import Derived.Test.YtglpoiaedkoecaaDoorE1
namespace Go.Proofs.YtglpoiaedkoecaaDoor.Am
open Go.RowKit
set_option linter.unusedVariables false
set_option maxHeartbeats 1000000
set_option maxRecDepth 100000

/-- data of any kind -/
abbrev gC (cs : List (List Int)) : V := .im cs.length (cs.map sl)
abbrev gV (cards : List Int) (cs : List (List Int)) : V := .agg [sl cards, gC cs]
abbrev gO (cards : List Int) (cs : List (List Int)) : O := .row 32 none [sl cards, gC cs]
def okC (x : Int) : Bool := decide (2 ≤ x ∧ x ≤ 4)
def okX (c x : Int) : Bool := decide (-1 ≤ x ∧ x < c)
def okCs (cards : List Int) : Bool := (List.range cards.length).all fun j => okC (cards.getD j 0)
def okRow (cards c : List Int) : Bool := decide (c.length = cards.length) && (List.range cards.length).all fun j => okX (cards.getD j 0) (c.getD j 0)
def prodT (cards : List Int) : Nat → Int
  | 0 => 1
  | k + 1 => prodT cards k * cards.getD k 0
def okAll (cards : List Int) (cs : List (List Int)) : Bool :=
  decide (1 ≤ cards.length) && (decide (cards.length ≤ 6) && (decide (cs.length ≤ 40) && (okCs cards && (decide (prodT cards cards.length ≤ 1024) && cs.all (okRow cards)))))
theorem all_range {n : Nat} {p : Nat → Bool} : (List.range n).all p = true ↔ ∀ j, j < n → p j = true := by
  rw [List.all_eq_true]
  exact ⟨fun h j hj => h j (List.mem_range.2 hj), fun h j hj => h j (List.mem_range.1 hj)⟩
theorem all_range_f {n k : Nat} {p : Nat → Bool} (hk : k < n) (h : p k = false) : (List.range n).all p = false := by
  cases hb : (List.range n).all p with
  | false => rfl
  | true => rw [all_range.1 hb k hk] at h; cases h
theorem prodT_bd {cards : List Int} : ∀ k : Nat, (∀ j, j < k → okC (cards.getD j 0) = true) → 1 ≤ prodT cards k ∧ prodT cards k ≤ 4 ^ k
  | 0, _ => by simp [prodT]
  | k + 1, h => by
    have h1 := prodT_bd k (fun j hj => h j (by omega))
    have h2 := of_decide_eq_true (h k (by omega))
    unfold prodT
    have h3 : prodT cards k * 1 ≤ prodT cards k * cards.getD k 0 := Int.mul_le_mul_of_nonneg_left (by omega) (by omega)
    have h4 : prodT cards k * cards.getD k 0 ≤ 4 ^ k * 4 := Int.mul_le_mul h1.2 h2.2 (by omega) (by omega)
    rw [Int.pow_succ]
    omega
theorem pow4I {k : Nat} (h : k ≤ 6) : (4 : Int) ^ k ≤ 4096 := by
  have : k = 0 ∨ k = 1 ∨ k = 2 ∨ k = 3 ∨ k = 4 ∨ k = 5 ∨ k = 6 := by omega
  rcases this with rfl | rfl | rfl | rfl | rfl | rfl | rfl <;> decide
theorem HfL_sls (cs : List (List Int)) : HfL (cs.map sl) := HfL_map sl cs (fun _ => trivial)
theorem outs2_l {gl : T (List V)} {n : Nat} {p q : Prop} {e e' : Ex} {S S' : SL} (hp : p) (hq : ¬ q) : ∀ e1 st, outsP gl n [(p, e, S), (q, e', S')] e1 st → outsP gl n [(True, e, S)] e1 st := by
  rintro e1 st (⟨_, h⟩ | ⟨h, _⟩ | h)
  · exact .inl ⟨trivial, h⟩
  · exact absurd h hq
  · exact h.elim
theorem outs2_r {gl : T (List V)} {n : Nat} {p q : Prop} {e e' : Ex} {S S' : SL} (hp : ¬ p) (hq : q) : ∀ e1 st, outsP gl n [(p, e, S), (q, e', S')] e1 st → outsP gl n [(True, e', S')] e1 st := by
  rintro e1 st (⟨h, _⟩ | ⟨_, h⟩ | h)
  · exact absurd h hp
  · exact .inl ⟨trivial, h⟩
  · exact h.elim

/-! ### data.Check -/
abbrev ckS (cards : List Int) (cs : List (List Int)) (k : Nat) : SL := { sl := [(1, .ptr 0 0), (3, i6 (prodT cards k)), (28, sl cards), (29, i6 cards.length), (30, i6 k)], os := [gO cards cs] }
abbrev ckX (cards : List Int) (cs : List (List Int)) (w : Int) : SL := { sl := [(1, .ptr 0 0), (3, i6 w)], os := [gO cards cs] }
abbrev ckR (e : Int) : SL := { sl := [(2, i6 e)] }
theorem chk_cards (cards : List Int) (cs : List (List Int)) (h6 : cards.length ≤ 6) :
    Sat Pg none 0 (at' 84 [1, 0, 1, 1, 0, 1, 0]) (mkSt g0 80 (ckS cards cs 0)) (outsP g0 80 [(okCs cards = true, .exit 0, ckX cards cs (prodT cards cards.length)), (okCs cards = false, .ret, ckR 250)]) := by
  refine loopC vE_ok mixed sp0_ok (b := at' 84 [1, 0, 1, 1, 0, 1, 0, 0]) (by kernel_rfl) (fun k => k ≤ cards.length ∧ ∀ j, j < k → okC (cards.getD j 0) = true) (ckS cards cs) (fun k => cards.length - k) (fun k hk => ?_) 0 ⟨Nat.zero_le _, fun j h => absurd h (Nat.not_lt_zero _)⟩
  obtain ⟨hk, hj⟩ := hk
  by_cases hlt : k < cards.length
  · have hld := @head_intsD cards k hlt
    have hpb := prodT_bd k hj
    have hp4 := pow4I (show k ≤ 6 by omega)
    have hnext : prodT cards (k + 1) = prodT cards k * cards.getD k 0 := rfl
    have hbad : okC (cards.getD k 0) = false → okCs cards = false := fun h => all_range_f hlt h
    have hgood : okC (cards.getD k 0) = true → ∀ j, j < k + 1 → okC (cards.getD j 0) = true := fun h j hj1 => by
      rcases Nat.lt_succ_iff_lt_or_eq.1 hj1 with h2 | h2
      · exact hj j h2
      · subst h2; exact h
    have hS : ckS cards cs (k + 1) = { sl := [(1, .ptr 0 0), (3, i6 (prodT cards k * cards.getD k 0)), (28, sl cards), (29, i6 cards.length), (30, i6 (k + 1 : Nat))], os := [gO cards cs] } := rfl
    by_cases h1 : cards.getD k 0 < 2
    · have hb := hbad (by unfold okC; exact decide_eq_false (by omega))
      refine .inr ⟨.ret, [], ckR 250, [yes 31, pl 32, ld 33 (i6 (cards.getD k 0)), yes 35], 1000, .inr (.inl ⟨hb, rfl, rfl⟩), ?_⟩
      generalize cards.getD k 0 = x at *
      refine Eq.mp (by kernel_rfl : (decide ((↑k : Int) < (↑(List.length cards) : Int)) = true ∧ ((0 : Int) ≤ (↑k : Int) ∧ (↑k : Int) < (↑(List.length cards) : Int)) ∧ headF (List.drop (k * 1) (ints cards)) = some (i6 x) ∧ decide (x < (2 : Int)) = true ∧ ((250 : Int) = (250 : Int) ∧ True) ∧ True) = _) ?_
      exact au
    · by_cases h2 : cards.getD k 0 > 4
      · have hb := hbad (by unfold okC; exact decide_eq_false (by omega))
        refine .inr ⟨.ret, [], ckR 250, [yes 31, pl 32, ld 33 (i6 (cards.getD k 0)), no 35, yes 38], 1000, .inr (.inl ⟨hb, rfl, rfl⟩), ?_⟩
        generalize cards.getD k 0 = x at *
        refine Eq.mp (by kernel_rfl : (decide ((↑k : Int) < (↑(List.length cards) : Int)) = true ∧ ((0 : Int) ≤ (↑k : Int) ∧ (↑k : Int) < (↑(List.length cards) : Int)) ∧ headF (List.drop (k * 1) (ints cards)) = some (i6 x) ∧ decide (x < (2 : Int)) = false ∧ decide (x > (4 : Int)) = true ∧ ((250 : Int) = (250 : Int) ∧ True) ∧ True) = _) ?_
        exact au
      · have hg := hgood (by unfold okC; exact decide_eq_true (by omega))
        have hm : prodT cards k * cards.getD k 0 ≤ 4096 * 4 := Int.mul_le_mul (by omega) (by omega) (by omega) (by omega)
        have hm0 : 0 ≤ prodT cards k * cards.getD k 0 := Int.mul_nonneg (by omega) (by omega)
        refine .inl ⟨k + 1, [0], [yes 31, pl 32, ld 33 (i6 (cards.getD k 0)), no 35, no 38, nu 42 (prodT cards k * cards.getD k 0), nu 43 (k + 1 : Nat)], 1000, ⟨hlt, hg⟩, by omega, ?_⟩
        rw [hS]
        generalize hy : prodT cards k * cards.getD k 0 = y at *
        refine Eq.mp (by kernel_rfl : (decide ((↑k : Int) < (↑(List.length cards) : Int)) = true ∧ ((0 : Int) ≤ (↑k : Int) ∧ (↑k : Int) < (↑(List.length cards) : Int)) ∧ headF (List.drop (k * 1) (ints cards)) = some (i6 (List.getD cards k (0 : Int))) ∧ decide (List.getD cards k (0 : Int) < (2 : Int)) = false ∧ decide (List.getD cards k (0 : Int) > (4 : Int)) = false ∧ wr IntKind.i64 (prodT cards k * List.getD cards k (0 : Int)) = y ∧ wr IntKind.i64 ((↑k : Int) + (1 : Int)) = (↑(k + 1) : Int) ∧ (0 = 0 ∧ y = y ∧ (List.length cards = List.length cards ∧ ints cards = ints cards) ∧ (↑(List.length cards) : Int) = (↑(List.length cards) : Int) ∧ (↑(k + 1) : Int) = (↑(k + 1) : Int) ∧ True) ∧ ([sl cards, gC cs] = [sl cards, gC cs] ∧ True ∧ True ∧ True) ∧ True) = _) ?_
        (repeat' (first | (with_reducible apply And.intro) | (refine fun (_ : True) => ?_))) <;> first | exact aq | skip
        all_goals first | exact HfL_sls _ | (rw [hy]; exact wr6 (by omega) (by omega))
  · have : k = cards.length := by omega
    subst this
    refine .inr ⟨.exit 0, [0], ckX cards cs (prodT cards cards.length), [no 31], 1000, .inl ⟨all_range.2 hj, rfl, rfl⟩, ?_⟩
    show vc _ _ _ _ _ _ _ _ (mkSt g0 80 { sl := [(1, .ptr 0 0), (3, i6 (prodT cards cards.length)), (28, sl cards), (29, i6 cards.length), (30, i6 (cards.length : Nat))], os := [gO cards cs] }) _
    generalize prodT cards cards.length = w at *
    refine Eq.mp (by kernel_rfl : (decide ((↑(List.length cards) : Int) < (↑(List.length cards) : Int)) = false ∧ (0 = 0 ∧ w = w ∧ True) ∧ ([sl cards, gC cs] = [sl cards, gC cs] ∧ True ∧ True ∧ True) ∧ True) = _) ?_
    exact au

/-- the values of one case -/
abbrev cvS (cards : List Int) (cs : List (List Int)) (i : Nat) (c : List Int) (j : Nat) : SL := { sl := [(1, .ptr 0 0), (6, i6 0), (47, gC cs), (48, i6 cs.length), (49, i6 i), (59, sl c), (60, i6 c.length), (61, i6 j)], os := [gO cards cs] }
abbrev cwS (cards : List Int) (cs : List (List Int)) (i : Nat) : SL := { sl := [(1, .ptr 0 0), (6, i6 0), (47, gC cs), (48, i6 cs.length), (49, i6 i)], os := [gO cards cs] }
abbrev cwX (e : Int) : SL := { sl := [(6, i6 e)] }
theorem chk_row (cards : List Int) (cs : List (List Int)) (i : Nat) (c : List Int) (hlen : c.length = cards.length) (h6 : cards.length ≤ 6) :
    Sat Pg none 0 (at' 84 [1, 0, 1, 1, 1, 1, 1, 1, 0, 1, 0, 0, 1, 1, 0, 0, 1, 1, 1, 0]) (mkSt g0 80 (cvS cards cs i c 0)) (outsP g0 80 [(okRow cards c = true, .exit 4, cwS cards cs i), (okRow cards c = false, .exit 2, cwX 250)]) := by
  refine loopC vE_ok mixed sp0_ok (b := at' 84 [1, 0, 1, 1, 1, 1, 1, 1, 0, 1, 0, 0, 1, 1, 0, 0, 1, 1, 1, 0, 0]) (by kernel_rfl) (fun k => k ≤ cards.length ∧ ∀ j, j < k → okX (cards.getD j 0) (c.getD j 0) = true) (cvS cards cs i c) (fun k => cards.length - k) (fun k hk => ?_) 0 ⟨Nat.zero_le _, fun j h => absurd h (Nat.not_lt_zero _)⟩
  obtain ⟨hk, hj⟩ := hk
  by_cases hlt : k < cards.length
  · have hld := @head_intsD cards k hlt
    have hld2 := @head_intsD c k (by omega)
    have hbad : okX (cards.getD k 0) (c.getD k 0) = false → okRow cards c = false := fun h => by
      unfold okRow; rw [all_range_f hlt h, Bool.and_false]
    have hgood : okX (cards.getD k 0) (c.getD k 0) = true → ∀ j, j < k + 1 → okX (cards.getD j 0) (c.getD j 0) = true := fun h j hj1 => by
      rcases Nat.lt_succ_iff_lt_or_eq.1 hj1 with h2 | h2
      · exact hj j h2
      · subst h2; exact h
    by_cases h1 : c.getD k 0 < -1
    · have hb := hbad (by unfold okX; exact decide_eq_false (by omega))
      refine .inr ⟨.exit 2, [], cwX 250, [yes 62, pl 64, ld 65 (i6 (c.getD k 0)), yes 67], 1000, .inr (.inl ⟨hb, rfl, rfl⟩), ?_⟩
      refine Eq.mp (by kernel_rfl : (decide ((↑k : Int) < (↑(List.length c) : Int)) = true ∧ ((0 : Int) ≤ (↑k : Int) ∧ (↑k : Int) < (↑(List.length c) : Int)) ∧ headF (List.drop (k * 1) (ints c)) = some (i6 (List.getD c k (0 : Int))) ∧ decide (List.getD c k (0 : Int) < (-1 : Int)) = true ∧ ((250 : Int) = (250 : Int) ∧ True) ∧ True) = _) ?_
      exact au
    · by_cases h2 : c.getD k 0 ≥ cards.getD k 0
      · have hb := hbad (by unfold okX; exact decide_eq_false (by omega))
        refine .inr ⟨.exit 2, [], cwX 250, [yes 62, pl 64, ld 65 (i6 (c.getD k 0)), no 67, pl 73, ld 74 (i6 (cards.getD k 0)), yes 75], 1000, .inr (.inl ⟨hb, rfl, rfl⟩), ?_⟩
        refine Eq.mp (by kernel_rfl : (decide ((↑k : Int) < (↑(List.length c) : Int)) = true ∧ ((0 : Int) ≤ (↑k : Int) ∧ (↑k : Int) < (↑(List.length c) : Int)) ∧ headF (List.drop (k * 1) (ints c)) = some (i6 (List.getD c k (0 : Int))) ∧ decide (List.getD c k (0 : Int) < (-1 : Int)) = false ∧ ((0 : Int) ≤ (↑k : Int) ∧ (↑k : Int) < (↑(List.length cards) : Int)) ∧ headF (List.drop (k * 1) (ints cards)) = some (i6 (List.getD cards k (0 : Int))) ∧ decide (List.getD c k (0 : Int) ≥ List.getD cards k (0 : Int)) = true ∧ ((250 : Int) = (250 : Int) ∧ True) ∧ True) = _) ?_
        exact au
      · have hg := hgood (by unfold okX; exact decide_eq_true (by omega))
        refine .inl ⟨k + 1, [0], [yes 62, pl 64, ld 65 (i6 (c.getD k 0)), no 67, pl 73, ld 74 (i6 (cards.getD k 0)), no 75, nu 77 (k + 1 : Nat)], 1000, ⟨hlt, hg⟩, by omega, ?_⟩
        refine Eq.mp (by kernel_rfl : (decide ((↑k : Int) < (↑(List.length c) : Int)) = true ∧ ((0 : Int) ≤ (↑k : Int) ∧ (↑k : Int) < (↑(List.length c) : Int)) ∧ headF (List.drop (k * 1) (ints c)) = some (i6 (List.getD c k (0 : Int))) ∧ decide (List.getD c k (0 : Int) < (-1 : Int)) = false ∧ ((0 : Int) ≤ (↑k : Int) ∧ (↑k : Int) < (↑(List.length cards) : Int)) ∧ headF (List.drop (k * 1) (ints cards)) = some (i6 (List.getD cards k (0 : Int))) ∧ decide (List.getD c k (0 : Int) ≥ List.getD cards k (0 : Int)) = false ∧ wr IntKind.i64 ((↑k : Int) + (1 : Int)) = (↑(k + 1) : Int) ∧ (0 = 0 ∧ (0 : Int) = (0 : Int) ∧ (List.length cs = List.length cs ∧ List.map sl cs = List.map sl cs) ∧ (↑(List.length cs) : Int) = (↑(List.length cs) : Int) ∧ (↑i : Int) = (↑i : Int) ∧ (List.length c = List.length c ∧ ints c = ints c) ∧ (↑(List.length c) : Int) = (↑(List.length c) : Int) ∧ (↑(k + 1) : Int) = (↑(k + 1) : Int) ∧ True) ∧ ([sl cards, gC cs] = [sl cards, gC cs] ∧ True ∧ True ∧ True) ∧ True) = _) ?_
        exact au
  · have : k = cards.length := by omega
    subst this
    have hg : okRow cards c = true := by unfold okRow; rw [all_range.2 hj, decide_eq_true hlen]; rfl
    refine .inr ⟨.exit 4, [0], cwS cards cs i, [no 62], 1000, .inl ⟨hg, rfl, rfl⟩, ?_⟩
    refine Eq.mp (by kernel_rfl : (decide ((↑(List.length cards) : Int) < (↑(List.length c) : Int)) = false ∧ (0 = 0 ∧ (0 : Int) = (0 : Int) ∧ (List.length cs = List.length cs ∧ List.map sl cs = List.map sl cs) ∧ (↑(List.length cs) : Int) = (↑(List.length cs) : Int) ∧ (↑i : Int) = (↑i : Int) ∧ True) ∧ ([sl cards, gC cs] = [sl cards, gC cs] ∧ True ∧ True ∧ True) ∧ True) = _) ?_
    exact au

theorem chk_rows (cards : List Int) (cs : List (List Int)) (h6 : cards.length ≤ 6) (h40 : cs.length ≤ 40) (e : Int) (he : e = if cs.all (okRow cards) then 0 else 250) :
    Sat Pg none 0 (at' 84 [1, 0, 1, 1, 1, 1, 1, 1, 0, 1, 0]) (mkSt g0 80 (cwS cards cs 0)) (outsP g0 80 [(True, .exit 2, cwX e)]) := by
  refine loopC vE_ok mixed sp0_ok (b := at' 84 [1, 0, 1, 1, 1, 1, 1, 1, 0, 1, 0, 0]) (by kernel_rfl) (fun k => k ≤ cs.length ∧ (cs.take k).all (okRow cards) = true) (cwS cards cs) (fun k => cs.length - k) (fun k hk => ?_) 0 ⟨Nat.zero_le _, rfl⟩
  obtain ⟨hk, hj⟩ := hk
  by_cases hlt : k < cs.length
  · have hck : cs[k]? = some cs[k] := List.getElem?_eq_getElem hlt
    have hmem := List.getElem_mem hlt
    generalize cs[k] = c at *
    have hld : headF ((cs.map sl).drop (k * 1)) = some (sl c) := head_map hck
    have hbad : okRow cards c = false → e = 250 := fun h => by
      rw [he, if_neg (fun ha => ?_)]
      rw [List.all_eq_true] at ha
      rw [ha c hmem] at h; cases h
    have hgood : okRow cards c = true → (cs.take (k + 1)).all (okRow cards) = true := fun h => by
      rw [List.take_add_one, hck, List.all_append, hj]; simp [h]
    by_cases h1 : c.length = cards.length
    · have hrow := chk_row cards cs k c h1 h6
      cases hok : okRow cards c with
      | true =>
        have hr := hrow.mono (outs2_l hok (by rw [hok]; simp))
        refine .inl ⟨k + 1, [0], [yes 50, pl 51, ld 52 (sl c), no 58, (0, .loop [0] (cvS cards cs k c 0) [(True, .exit 4, cwS cards cs k)]), nu 78 (k + 1 : Nat)], 1000, ⟨hlt, hgood hok⟩, by omega, ?_⟩
        refine Eq.mp (by kernel_rfl : (decide ((↑k : Int) < (↑(List.length cs) : Int)) = true ∧ ((0 : Int) ≤ (↑k : Int) ∧ (↑k : Int) < (↑(List.length cs) : Int)) ∧ headF (List.drop (k * 1) (List.map sl cs)) = some (sl c) ∧ ((↑(List.length c) : Int) != (↑(List.length cards) : Int)) = false ∧ ((0 = 0 ∧ (0 : Int) = (0 : Int) ∧ (List.length cs = List.length cs ∧ List.map sl cs = List.map sl cs) ∧ (↑(List.length cs) : Int) = (↑(List.length cs) : Int) ∧ (↑k : Int) = (↑k : Int) ∧ (List.length c = List.length c ∧ ints c = ints c) ∧ (↑(List.length c) : Int) = (↑(List.length c) : Int) ∧ (↑(0 : Nat) : Int) = (0 : Int) ∧ True) ∧ ([sl cards, gC cs] = [sl cards, gC cs] ∧ True ∧ True ∧ True) ∧ True) ∧ Sat Tryd.prog none 0 (at' 84 [1, 0, 1, 1, 1, 1, 1, 1, 0, 1, 0, 0, 1, 1, 0, 0, 1, 1, 1, 0]) (mkSt g0 80 (cvS cards cs k c 0)) (outsP g0 80 [(True, Ex.exit 4, cwS cards cs k)]) ∧ (True → wr IntKind.i64 ((↑k : Int) + (1 : Int)) = (↑(k + 1) : Int) ∧ (0 = 0 ∧ (0 : Int) = (0 : Int) ∧ (List.length cs = List.length cs ∧ List.map sl cs = List.map sl cs) ∧ (↑(List.length cs) : Int) = (↑(List.length cs) : Int) ∧ (↑(k + 1) : Int) = (↑(k + 1) : Int) ∧ True) ∧ ([sl cards, gC cs] = [sl cards, gC cs] ∧ True ∧ True ∧ True) ∧ True) ∧ True) = _) ?_
        exact au
      | false =>
        have hr := hrow.mono (outs2_r (by rw [hok]; simp) hok)
        have := hbad hok
        subst this
        refine .inr ⟨.exit 2, [], cwX 250, [yes 50, pl 51, ld 52 (sl c), no 58, (0, .loop [0] (cvS cards cs k c 0) [(True, .exit 2, cwX 250)])], 1000, .inl ⟨trivial, rfl, rfl⟩, ?_⟩
        refine Eq.mp (by kernel_rfl : (decide ((↑k : Int) < (↑(List.length cs) : Int)) = true ∧ ((0 : Int) ≤ (↑k : Int) ∧ (↑k : Int) < (↑(List.length cs) : Int)) ∧ headF (List.drop (k * 1) (List.map sl cs)) = some (sl c) ∧ ((↑(List.length c) : Int) != (↑(List.length cards) : Int)) = false ∧ ((0 = 0 ∧ (0 : Int) = (0 : Int) ∧ (List.length cs = List.length cs ∧ List.map sl cs = List.map sl cs) ∧ (↑(List.length cs) : Int) = (↑(List.length cs) : Int) ∧ (↑k : Int) = (↑k : Int) ∧ (List.length c = List.length c ∧ ints c = ints c) ∧ (↑(List.length c) : Int) = (↑(List.length c) : Int) ∧ (↑(0 : Nat) : Int) = (0 : Int) ∧ True) ∧ ([sl cards, gC cs] = [sl cards, gC cs] ∧ True ∧ True ∧ True) ∧ True) ∧ Sat Tryd.prog none 0 (at' 84 [1, 0, 1, 1, 1, 1, 1, 1, 0, 1, 0, 0, 1, 1, 0, 0, 1, 1, 1, 0]) (mkSt g0 80 (cvS cards cs k c 0)) (outsP g0 80 [(True, Ex.exit 2, cwX (250 : Int))]) ∧ (True → ((250 : Int) = (250 : Int) ∧ True) ∧ True) ∧ True) = _) ?_
        exact au
    · have := hbad (by unfold okRow; rw [decide_eq_false h1]; rfl)
      subst this
      refine .inr ⟨.exit 2, [], cwX 250, [yes 50, pl 51, ld 52 (sl c), yes 58], 1000, .inl ⟨trivial, rfl, rfl⟩, ?_⟩
      refine Eq.mp (by kernel_rfl : (decide ((↑k : Int) < (↑(List.length cs) : Int)) = true ∧ ((0 : Int) ≤ (↑k : Int) ∧ (↑k : Int) < (↑(List.length cs) : Int)) ∧ headF (List.drop (k * 1) (List.map sl cs)) = some (sl c) ∧ ((↑(List.length c) : Int) != (↑(List.length cards) : Int)) = true ∧ ((250 : Int) = (250 : Int) ∧ True) ∧ True) = _) ?_
      exact au
  · have : k = cs.length := by omega
    subst this
    rw [List.take_length] at hj
    have : e = 0 := by rw [he, if_pos hj]
    subst this
    refine .inr ⟨.exit 2, [], cwX 0, [no 50], 1000, .inl ⟨trivial, rfl, rfl⟩, ?_⟩
    refine Eq.mp (by kernel_rfl : (decide ((↑(List.length cs) : Int) < (↑(List.length cs) : Int)) = false ∧ ((0 : Int) = (0 : Int) ∧ True) ∧ True) = _) ?_
    exact au

def chkE (cards : List Int) (cs : List (List Int)) : Int := if okAll cards cs then 0 else 250
theorem check_fn (cards : List Int) (cs : List (List Int)) (hl1 : cards.length ≤ 1000) (hl2 : cs.length ≤ 1000) : FnOk Pg g0 84 [gV cards cs] (i6 (chkE cards cs)) := by
  have hall : ∀ b1 b2 b3 b4 b5 b6 : Bool, decide (1 ≤ cards.length) = b1 → decide (cards.length ≤ 6) = b2 → decide (cs.length ≤ 40) = b3 → okCs cards = b4 → decide (prodT cards cards.length ≤ 1024) = b5 → cs.all (okRow cards) = b6 → chkE cards cs = if b1 && (b2 && (b3 && (b4 && (b5 && b6)))) then 0 else 250 := by
    intro b1 b2 b3 b4 b5 b6 h1 h2 h3 h4 h5 h6
    unfold chkE okAll
    rw [h1, h2, h3, h4, h5, h6]
  by_cases h1 : 1 ≤ cards.length
  · by_cases h2 : cards.length ≤ 6
    · by_cases h3 : cs.length ≤ 40
      · have hl := chk_cards cards cs h2
        cases h4 : okCs cards with
        | false =>
          rw [hall _ _ _ _ _ _ rfl rfl rfl h4 rfl rfl]
          have he : (if (decide (1 ≤ cards.length) && (decide (cards.length ≤ 6) && (decide (cs.length ≤ 40) && (false && (decide (prodT cards cards.length ≤ 1024) && cs.all (okRow cards))))) : Bool) then (0 : Int) else 250) = 250 := by simp
          rw [he]
          have hl' := hl.mono (outs2_r (by rw [h4]; simp) h4)
          refine FnOk.of_vc vE_ok mixed sp0_ok (n := 1000) (r := []) (S := ckR 250) (hs := [no 14, no 19, no 25, (0, .loop [0] (ckS cards cs 0) [(True, .ret, ckR 250)])]) ?_
          refine Eq.mp (by kernel_rfl : (i6 (250 : Int) = i6 (250 : Int) ∧ decide ((↑(List.length cards) : Int) < (1 : Int)) = false ∧ decide ((↑(List.length cards) : Int) > (6 : Int)) = false ∧ decide ((↑(List.length cs) : Int) > (40 : Int)) = false ∧ ((0 = 0 ∧ prodT cards 0 = (1 : Int) ∧ (List.length cards = List.length cards ∧ ints cards = ints cards) ∧ (↑(List.length cards) : Int) = (↑(List.length cards) : Int) ∧ (↑(0 : Nat) : Int) = (0 : Int) ∧ True) ∧ ([sl cards, gC cs] = [sl cards, gC cs] ∧ True ∧ True ∧ True) ∧ True) ∧ Sat Tryd.prog none 0 (at' 84 [1, 0, 1, 1, 0, 1, 0]) (mkSt g0 80 (ckS cards cs 0)) (outsP g0 80 [(True, Ex.ret, ckR (250 : Int))]) ∧ (True → ((250 : Int) = (250 : Int) ∧ True) ∧ True) ∧ True) = _) ?_
          exact au
        | true =>
          have hl' := hl.mono (outs2_l h4 (by rw [h4]; simp))
          have hpb := prodT_bd cards.length (all_range.1 h4)
          have hp4 := pow4I h2
          by_cases h5 : prodT cards cards.length ≤ 1024
          · have hr := chk_rows cards cs h2 h3 (chkE cards cs) (by rw [hall _ _ _ _ _ _ rfl rfl rfl h4 rfl rfl, decide_eq_true h1, decide_eq_true h2, decide_eq_true h3, decide_eq_true h5]; rfl)
            generalize chkE cards cs = e at *
            refine FnOk.of_vc vE_ok mixed sp0_ok (n := 1000) (r := []) (S := ckR e) (hs := [no 14, no 19, no 25, (0, .loop [0] (ckS cards cs 0) [(True, .exit 0, ckX cards cs (prodT cards cards.length))]), no 45, (0, .loop [0] (cwS cards cs 0) [(True, .exit 2, cwX e)])]) ?_
            refine Eq.mp (by kernel_rfl : (i6 e = i6 e ∧ decide ((↑(List.length cards) : Int) < (1 : Int)) = false ∧ decide ((↑(List.length cards) : Int) > (6 : Int)) = false ∧ decide ((↑(List.length cs) : Int) > (40 : Int)) = false ∧ ((0 = 0 ∧ prodT cards 0 = (1 : Int) ∧ (List.length cards = List.length cards ∧ ints cards = ints cards) ∧ (↑(List.length cards) : Int) = (↑(List.length cards) : Int) ∧ (↑(0 : Nat) : Int) = (0 : Int) ∧ True) ∧ ([sl cards, gC cs] = [sl cards, gC cs] ∧ True ∧ True ∧ True) ∧ True) ∧ Sat Tryd.prog none 0 (at' 84 [1, 0, 1, 1, 0, 1, 0]) (mkSt g0 80 (ckS cards cs 0)) (outsP g0 80 [(True, Ex.exit 0, ckX cards cs (prodT cards (List.length cards)))]) ∧ (True → decide (prodT cards (List.length cards) > (1024 : Int)) = false ∧ ((0 = 0 ∧ (0 : Int) = (0 : Int) ∧ (List.length cs = List.length cs ∧ List.map sl cs = List.map sl cs) ∧ (↑(List.length cs) : Int) = (↑(List.length cs) : Int) ∧ (↑(0 : Nat) : Int) = (0 : Int) ∧ True) ∧ ([sl cards, gC cs] = [sl cards, gC cs] ∧ True ∧ True ∧ True) ∧ True) ∧ Sat Tryd.prog none 0 (at' 84 [1, 0, 1, 1, 1, 1, 1, 1, 0, 1, 0]) (mkSt g0 80 (cwS cards cs 0)) (outsP g0 80 [(True, Ex.exit 2, cwX e)]) ∧ (True → (e = e ∧ True) ∧ True) ∧ True) ∧ True) = _) ?_
            exact au
          · have he : chkE cards cs = 250 := by rw [hall _ _ _ _ _ _ rfl rfl rfl h4 (decide_eq_false h5) rfl]; simp
            rw [he]
            refine FnOk.of_vc vE_ok mixed sp0_ok (n := 1000) (r := []) (S := ckR 250) (hs := [no 14, no 19, no 25, (0, .loop [0] (ckS cards cs 0) [(True, .exit 0, ckX cards cs (prodT cards cards.length))]), yes 45]) ?_
            refine Eq.mp (by kernel_rfl : (i6 (250 : Int) = i6 (250 : Int) ∧ decide ((↑(List.length cards) : Int) < (1 : Int)) = false ∧ decide ((↑(List.length cards) : Int) > (6 : Int)) = false ∧ decide ((↑(List.length cs) : Int) > (40 : Int)) = false ∧ ((0 = 0 ∧ prodT cards 0 = (1 : Int) ∧ (List.length cards = List.length cards ∧ ints cards = ints cards) ∧ (↑(List.length cards) : Int) = (↑(List.length cards) : Int) ∧ (↑(0 : Nat) : Int) = (0 : Int) ∧ True) ∧ ([sl cards, gC cs] = [sl cards, gC cs] ∧ True ∧ True ∧ True) ∧ True) ∧ Sat Tryd.prog none 0 (at' 84 [1, 0, 1, 1, 0, 1, 0]) (mkSt g0 80 (ckS cards cs 0)) (outsP g0 80 [(True, Ex.exit 0, ckX cards cs (prodT cards (List.length cards)))]) ∧ (True → decide (prodT cards (List.length cards) > (1024 : Int)) = true ∧ ((250 : Int) = (250 : Int) ∧ True) ∧ True) ∧ True) = _) ?_
            exact au
      · have he : chkE cards cs = 250 := by rw [hall _ _ _ _ _ _ rfl rfl (decide_eq_false h3) rfl rfl rfl]; simp
        rw [he]
        refine FnOk.of_vc vE_ok mixed sp0_ok (n := 1000) (r := []) (S := ckR 250) (hs := [no 14, no 19, yes 25]) ?_
        refine Eq.mp (by kernel_rfl : (i6 (250 : Int) = i6 (250 : Int) ∧ decide ((↑(List.length cards) : Int) < (1 : Int)) = false ∧ decide ((↑(List.length cards) : Int) > (6 : Int)) = false ∧ decide ((↑(List.length cs) : Int) > (40 : Int)) = true ∧ ((250 : Int) = (250 : Int) ∧ True) ∧ True) = _) ?_
        exact au
    · have he : chkE cards cs = 250 := by rw [hall _ _ _ _ _ _ rfl (decide_eq_false h2) rfl rfl rfl rfl]; simp
      rw [he]
      refine FnOk.of_vc vE_ok mixed sp0_ok (n := 1000) (r := []) (S := ckR 250) (hs := [no 14, yes 19]) ?_
      refine Eq.mp (by kernel_rfl : (i6 (250 : Int) = i6 (250 : Int) ∧ decide ((↑(List.length cards) : Int) < (1 : Int)) = false ∧ decide ((↑(List.length cards) : Int) > (6 : Int)) = true ∧ ((250 : Int) = (250 : Int) ∧ True) ∧ True) = _) ?_
      exact au
  · have he : chkE cards cs = 250 := by rw [hall _ _ _ _ _ _ (decide_eq_false h1) rfl rfl rfl rfl rfl]; simp
    rw [he]
    refine FnOk.of_vc vE_ok mixed sp0_ok (n := 1000) (r := []) (S := ckR 250) (hs := [yes 14]) ?_
    refine Eq.mp (by kernel_rfl : (i6 (250 : Int) = i6 (250 : Int) ∧ decide ((↑(List.length cards) : Int) < (1 : Int)) = true ∧ ((250 : Int) = (250 : Int) ∧ True) ∧ True) = _) ?_
    exact au

end Go.Proofs.YtglpoiaedkoecaaDoor.Am
