/- Chapter 28: drafted data are right and whole; a draft without cases has nil for them. -/
import Derived.Test.YtglpoiaedkoecaaDoorE16
import Derived.Test.YtglpoiaedkoecaaDoorE9
namespace Go.Proofs.YtglpoiaedkoecaaDoor.Am
open Go.RowKit
set_option linter.unusedVariables false
set_option maxHeartbeats 1000000
set_option maxRecDepth 100000

/-! ### drafted data are right -/
theorem prodT_3 {cards : List Int} (h : CdOk cards) : ∀ k : Nat, k ≤ cards.length → 1 ≤ prodT cards k ∧ prodT cards k ≤ 3 ^ k
  | 0, _ => by simp [prodT]
  | k + 1, hk => by
    have h1 := prodT_3 h k (by omega)
    have h2 := h.each k (by omega)
    unfold prodT
    rw [Int.pow_succ]
    generalize (3 : Int) ^ k = P at *
    generalize prodT cards k = a at *
    generalize cards.getD k 0 = c at *
    constructor
    · exact Int.mul_le_mul h1.1 (by omega : (1 : Int) ≤ c) (by omega) (by omega) |> fun h => by simpa using h
    · exact Int.mul_le_mul h1.2 h2.2 (by omega) (by omega)
theorem getD_mem' {l : List Int} {x : Int} (h : x ∈ l) : ∃ k, k < l.length ∧ x = l.getD k 0 := by
  obtain ⟨k, hk, rfl⟩ := List.getElem_of_mem h
  exact ⟨k, hk, by rw [List.getD_eq_getElem?_getD, List.getElem?_eq_getElem hk]; rfl⟩
theorem good_of {cards : List Int} {cs : List (List Int)} (hc : CdOk cards) (hl : cs.length ≤ 40) (hrow : ∀ r ∈ cs, r.length = cards.length ∧ ∀ k, k < cards.length → 0 ≤ r.getD k 0 ∧ r.getD k 0 < cards.getD k 0) : goodE cards cs = 0 := by
  have h1 : okAll cards cs = true := by
    unfold okAll
    have hp := hc.pos
    have h5 := hc.five
    have hpr : prodT cards cards.length ≤ 1024 := by
      have h3 := (prodT_3 hc cards.length (Nat.le_refl _)).2
      have h4 : (3 : Int) ^ cards.length ≤ 243 := by
        rcases (show cards.length = 1 ∨ cards.length = 2 ∨ cards.length = 3 ∨ cards.length = 4 ∨ cards.length = 5 by omega) with e | e | e | e | e <;> rw [e] <;> decide
      omega
    simp only [Bool.and_eq_true, decide_eq_true_eq]
    refine ⟨hp, by omega, hl, ?_, hpr, ?_⟩
    · unfold okCs
      exact all_range.2 fun j hj => by
        have := hc.each j hj
        exact decide_eq_true (by omega)
    · rw [List.all_eq_true]
      intro r hr
      obtain ⟨r1, r2⟩ := hrow r hr
      unfold okRow
      rw [Bool.and_eq_true]
      exact ⟨decide_eq_true r1, all_range.2 fun j hj => by
        have := r2 j hj
        exact decide_eq_true (by omega)⟩
  have h2 : cs.any negB = false := by
    rw [List.any_eq_false]
    intro r hr
    obtain ⟨r1, r2⟩ := hrow r hr
    unfold negB
    rw [Bool.not_eq_true, List.any_eq_false]
    intro x hx
    obtain ⟨k, hk, rfl⟩ := getD_mem' hx
    have := r2 k (by omega)
    simpa using this.1
  unfold goodE
  rw [h1, h2]; rfl
theorem draft_rows (C : List Int) (ks : List (Nat → Int)) (fo : Int) : ∀ r ∈ dataD C ks fo [], r.length = (cardsD C).length ∧ ∀ k, k < (cardsD C).length → 0 ≤ r.getD k 0 ∧ r.getD k 0 < (cardsD C).getD k 0 := by
  have hc := cardsD_ok C
  rw [show dataD C ks fo [] = drows ks fo (cardsD C) (min ks.length 40) from rfl]
  intro r hr
  obtain ⟨f, _, rfl⟩ := List.mem_map.1 hr
  exact ⟨rowD_length _ _ _ _, fun k hk => rowD_bd hc _ (Nat.le_refl _) k hk⟩
theorem good_draft (C : List Int) (ks : List (Nat → Int)) (fo : Int) : goodE (cardsD C) (dataD C ks fo []) = 0 := good_of (cardsD_ok C) (dataD_len C ks fo []).2 (draft_rows C ks fo)

/-! ### a draft without cases -/
abbrev nilC (cards : List Int) : V := .agg [sl cards, .nils]
theorem draft0 (C : List Int) (fo : Int) (hC : u8s C) : FnOk Pg g0 19 [dfV C [] fo []] (nilC (cardsD C)) := by
  obtain ⟨n, hn⟩ : ∃ n, n = min C.length 5 := ⟨_, rfl⟩
  have hl := dc_loop C [] fo [] hC n hn
  cases n with
  | zero =>
    have hC : C = [] := List.eq_nil_of_length_eq_zero (by omega)
    have hcs : cardsD C = [2] := by unfold cardsD; rw [if_pos hC]
    rw [hcs]
    refine FnOk.of_vc vE_ok mixed sp0_ok (n := 1000) (r := [1]) (S := { sl := [(2, .ptr 0 0)], os := [.row 32 none [sl [2], .nils]], md := [1] }) (hs := [(0, .loop [0, 1, 2] (dcS C [] fo [] 0) [(True, .exit 0, dcX C [] fo [] 0)]), yes 38, (0, .unroll 1), (0, .unroll 1)]) ?_
    refine Eq.mp (by kernel_rfl : (V.agg [sl [(2 : Int)], V.nils] = nilC [(2 : Int)] ∧ ((0 = 0 ∧ 0 = 0 ∧ 0 = 0 ∧ (↑(0 : Nat) : Int) = (0 : Int) ∧ True) ∧ (dfL C [] fo [] = [sl8 C, kV [], w8 fo, sl8 []] ∧ True ∧ True ∧ True ∧ True ∧ True) ∧ ([V.nils, V.nils] = [V.nils, V.nils] ∧ True ∧ True ∧ True) ∧ (True ∧ True ∧ True) ∧ True) ∧ Sat Tryd.prog none 0 (at' 19 [1, 1, 0, 1, 0]) (mkSt g0 139 (dcS C [] fo [] 0)) (outsP g0 139 [(True, Ex.exit 0, dcX C [] fo [] 0)]) ∧ (True → ((↑(0 : Nat) : Int) == (0 : Int)) = true ∧ (0 = 0 ∧ True) ∧ ((1 = 1 ∧ ints [(2 : Int)] = [V.int IntKind.i64 (2 : Int)] ∧ True ∧ True) ∧ True ∧ True) ∧ True) ∧ True) = _) ?_
    (repeat' (first | (with_reducible apply And.intro) | (refine fun (_ : True) => ?_))) <;> first | exact aq | skip
    all_goals rfl
  | succ n =>
    have hcs : cardsD C = (C.take (n + 1)).map cardF := by
      unfold cardsD
      rw [if_neg (by rintro rfl; simp at hn)]
      congr 1
      by_cases h5 : C.length ≤ 5
      · rw [List.take_of_length_le h5, List.take_of_length_le (by omega)]
      · rw [show n + 1 = 5 by omega]
    have hLl : ((C.take (n + 1)).map cardF).length = n + 1 := by rw [List.length_map, List.length_take]; omega
    rw [hcs]
    have hl2 : Sat Pg none 0 (at' 19 [1, 1, 0, 1, 0]) (mkSt g0 139 (dcS C [] fo [] 0)) (outsP g0 139 [(True, .exit 0, { sl := [(1, .ptr 0 0), (2, .ptr 1 0), (3, .ptr 2 0)], os := dfO C [] fo [] :: n2 :: .row 32 none [owV 3 (n + 1), .nils] :: owL 3 (ints ((C.take (n + 1)).map cardF)) (n + 1), md := [0, 0, 1] })]) := hl
    clear hcs hn hl
    generalize (C.take (n + 1)).map cardF = L at *
    refine FnOk.of_vc vE_ok mixed sp0_ok (n := 1000) (r := [1]) (S := { sl := [(2, .ptr 0 0)], os := [.row 32 none [sl L, .nils]], md := [1] }) (hs := [(0, .loop [0, 1, 2] (dcS C [] fo [] 0) [(True, .exit 0, { sl := [(1, .ptr 0 0), (2, .ptr 1 0), (3, .ptr 2 0)], os := dfO C [] fo [] :: n2 :: .row 32 none [owV 3 (n + 1), .nils] :: owL 3 (ints L) (n + 1), md := [0, 0, 1] })]), no 38, (0, .unroll 1), (0, .unroll 1)]) ?_
    refine Eq.mp (by kernel_rfl : (V.agg [sl L, V.nils] = nilC L ∧ ((0 = 0 ∧ 0 = 0 ∧ 0 = 0 ∧ (↑(0 : Nat) : Int) = (0 : Int) ∧ True) ∧ (dfL C [] fo [] = [sl8 C, kV [], w8 fo, sl8 []] ∧ True ∧ True ∧ True ∧ True ∧ True) ∧ ([V.nils, V.nils] = [V.nils, V.nils] ∧ True ∧ True ∧ True) ∧ (True ∧ True ∧ True) ∧ True) ∧ Sat Tryd.prog none 0 (at' 19 [1, 1, 0, 1, 0]) (mkSt g0 139 (dcS C [] fo [] 0)) (outsP g0 139 [(True, Ex.exit 0, SL.mk [(1, V.ptr 0 0), (2, V.ptr 1 0), (3, V.ptr 2 0)] (dfO C [] fo [] :: n2 :: O.row 32 none [owV 3 (n + 1), V.nils] :: owL 3 (ints L) (n + 1)) [] [0, 0, 1])]) ∧ (True → ((↑(n + 1) : Int) == (0 : Int)) = false ∧ (0 = 0 ∧ True) ∧ ((List.length L = n + 1 ∧ ints L = ints L ∧ HfL (ints L)) ∧ True ∧ True) ∧ True) ∧ True) = _) ?_
    (repeat' (first | (with_reducible apply And.intro) | (refine fun (_ : True) => ?_))) <;> first | exact aq | skip
    all_goals first | (refine beq_false' ?_; omega) | rfl | skip
theorem whole0 (C : List Int) (fo : Int) (M : List Int) (hC : u8s C) : FnOk Pg g0 18 [dfV C [] fo M] (nilC (cardsD C)) := by
  have hd := draft0 C fo hC
  generalize cardsD C = cards at *
  refine FnOk.of_vc vE_ok mixed sp0_ok (n := 1000) (r := [1]) (S := { sl := [(2, .ptr 0 0)], os := [.row 32 none [sl cards, .nils]] }) (hs := [fn 5 (nilC cards)]) ?_
  refine Eq.mp (by kernel_rfl : (V.agg [sl cards, V.nils] = nilC cards ∧ ((True ∧ True ∧ True ∧ True ∧ True) ∧ True) ∧ FnOk Tryd.prog g0 19 [V.agg [V.im (List.length C) (List.map w8 C), V.im 0 (flatK []), V.int IntKind.u8 fo, V.im 0 []]] (nilC cards) ∧ True ∧ (0 = 0 ∧ True) ∧ ([sl cards, V.nils] = [sl cards, V.nils] ∧ True ∧ True ∧ True) ∧ True) = _) ?_
  (repeat' (first | (with_reducible apply And.intro) | (refine fun (_ : True) => ?_)))
  all_goals first | with_reducible rfl | exact trivial | assumption | rfl | exact hd
end Go.Proofs.YtglpoiaedkoecaaDoor.Am
