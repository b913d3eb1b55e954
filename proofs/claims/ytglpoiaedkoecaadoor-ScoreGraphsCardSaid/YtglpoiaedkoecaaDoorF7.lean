/- ScoreGraphs: the law returns true, whatever it is called with: the walk. -/
import Derived.Test.YtglpoiaedkoecaaDoorF3
import Derived.Test.YtglpoiaedkoecaaDoorF6
namespace Go.Proofs.YtglpoiaedkoecaaDoor.Am
open Go.RowKit
set_option linter.unusedVariables false
set_option maxHeartbeats 1000000
set_option maxRecDepth 100000

theorem ty52 : (ctxOf Pg).ty 52 = some { desc := .slice 28, size := 1, bytes := 24, agg := false, zero := some [.nils] } := by kernel_rfl
theorem ty28 : (ctxOf Pg).ty 28 = some { desc := .int .u64, size := 1, bytes := 8, agg := false, zero := some [u6 0] } := by kernel_rfl
theorem cut_u (l : List Nat) (m : Nat) (hm : m = min l.length 7) : sliceV (ctxOf Pg) 52 (ul l) none (some (m : Int)) none = some (ul (l.take 7)) := by
  unfold sliceV
  simp only [ty52, ty28, Option.getD_none, Option.getD_some, Option.isNone_none, and_true]
  rw [if_pos (by omega)]
  by_cases h0 : (0 : Int) = m
  · rw [if_pos h0]
    have : l = [] := by
      cases l with
      | nil => rfl
      | cons _ _ => simp at hm; omega
    subst this; rfl
  · rw [if_neg h0]
    have : l.take 7 = l.take m := by
      by_cases h14 : l.length ≤ 7
      · rw [List.take_of_length_le h14, List.take_of_length_le (by omega)]
      · rw [show m = 7 by omega]
    rw [this]
    congr 1
    unfold ul
    congr 1
    · simp; omega
    · simp [ut, List.map_take]
theorem min_n {k : Nat} {m : Nat} (h : m = min k 7) : (if (7 : Int) < (k : Int) then (7 : Int) else (k : Int)) = (m : Int) := by
  split <;> omega
abbrev g3 (a b c : List Nat) : V := .agg [ul a, ul b, ul c]
theorem pick55 {a b c : List Nat} (ha : S64 a) (hb : S64 b) (hc : S64 c) (m : Nat) (hm : m < 3) : ∃ l, S64 l ∧ idxV (ctxOf Pg) 55 (g3 a b c) (m : Int) = some (ul l) := by
  have : m = 0 ∨ m = 1 ∨ m = 2 := by omega
  rcases this with rfl | rfl | rfl
  · exact ⟨a, ha, by kernel_rfl⟩
  · exact ⟨b, hb, by kernel_rfl⟩
  · exact ⟨c, hc, by kernel_rfl⟩

section
variable (x : Nat) (raw G : List Nat) (c0 : List Int) (s0 : List (List Int)) (c1 : List Int) (s1 : List (List Int)) (c2 : List Int) (s2 : List (List Int)) (i : Nat) (cards : List Int) (cs : List (List Int)) (G2 R : List Nat) (j : Nat)
abbrev lgO : SL := { sl := [(3, w8 x), (4, ul raw), (12, ul G), (37, y3 c0 s0 c1 s1 c2 s2), (38, i6 i)] }
abbrev lgS : SL := { sl := [(3, w8 x), (4, ul raw), (12, ul G), (37, y3 c0 s0 c1 s1 c2 s2), (38, i6 i), (14, .ptr 0 0), (50, g3 G G2 R), (51, i6 j)], os := [gO cards cs] }
end
theorem gra_in (x : Nat) (raw G : List Nat) (c0 : List Int) (s0 : List (List Int)) (c1 : List Int) (s1 : List (List Int)) (c2 : List Int) (s2 : List (List Int)) (i : Nat) (cards : List Int) (cs : List (List Int)) (hd : DatOk cards cs) (G2 R : List Nat) (hG : S64 G) (hG2 : S64 G2) (hR : S64 R) (e : Int) (he : goodE cards cs = e) :
    Sat Pg none 0 (at' 4 [1, 1, 1, 1, 0, 1, 0, 0, 1, 1, 0, 0, 1, 1, 0]) (mkSt g0 88 (lgS x raw G c0 s0 c1 s1 c2 s2 i cards cs G2 R 0)) (outsP g0 88 [(True, .exit 2, lgO x raw G c0 s0 c1 s1 c2 s2 i)]) := by
  have h6 := hd.c6
  have h41 := hd.s41
  have hr6 : ∀ c ∈ cs, c.length ≤ 1000 := fun c hc => by have := hd.r6 c hc; omega
  have hg := good_fn cards cs (by omega) (by omega) hr6
  rw [he] at hg
  refine loopC vE_ok mixed sp0_ok (b := at' 4 [1, 1, 1, 1, 0, 1, 0, 0, 1, 1, 0, 0, 1, 1, 0, 0]) (by kernel_rfl) (fun j => j ≤ 3) (lgS x raw G c0 s0 c1 s1 c2 s2 i cards cs G2 R) (fun j => 3 - j) (fun j hj => ?_) 0 (Nat.zero_le _)
  by_cases hlt : j < 3
  · obtain ⟨l, hl, hx⟩ := pick55 hG hG2 hR j hlt
    by_cases he0 : e = 0
    · subst he0
      have l2 := fits_fn cards.length l hl
      cases hm : fitsB cards.length l with
      | false =>
        have l1 := sgra_arg cards cs l h6 (by omega) hr6 hl he hm
        rw [hm] at l2
        refine .inl ⟨j + 1, [0], [yes 52, va 53 (ul l), fn 57 (.tup [ar zeroF, i6 2]), fn 61 (i6 0), yes 63, fn 69 (.bool false), no 79, nu 85 (j + 1 : Nat)], 1000, hlt, by omega, ?_⟩
        clear hm he hr6
        refine Eq.mp (by kernel_rfl : (decide ((↑j : Int) < (3 : Int)) = true ∧ idxV (ctxOf Tryd.prog) 55 (g3 G G2 R) (↑j : Int) = some (ul l) ∧ ((True ∧ True ∧ True) ∧ True ∧ True) ∧ FnOk Tryd.prog g0 28 [V.agg [V.im (List.length cards) (ints cards), V.im (List.length cs) (List.map sl cs)], V.im (List.length l) (ut l)] (V.tup [ar zeroF, i6 (2 : Int)]) ∧ True ∧ ((True ∧ True ∧ True) ∧ True) ∧ FnOk Tryd.prog g0 21 [V.agg [V.im (List.length cards) (ints cards), V.im (List.length cs) (List.map sl cs)]] (i6 (0 : Int)) ∧ True ∧ ((0 : Int) == (0 : Int)) = true ∧ (True ∧ True ∧ True) ∧ FnOk Tryd.prog g0 29 [V.int IntKind.i64 (↑(List.length cards) : Int), V.im (List.length l) (ut l)] (V.bool false) ∧ True ∧ (!(zeroF 0 == (0 : Int) && (zeroF 1 == (0 : Int) && (zeroF 2 == (0 : Int) && (zeroF 3 == (0 : Int) && (zeroF 4 == (0 : Int) && (zeroF 5 == (0 : Int) && (zeroF 6 == (0 : Int) && (zeroF 7 == (0 : Int) && (zeroF 8 == (0 : Int) && (zeroF 9 == (0 : Int) && (zeroF 10 == (0 : Int) && (zeroF 11 == (0 : Int) && (zeroF 12 == (0 : Int) && (zeroF 13 == (0 : Int) && (zeroF 14 == (0 : Int) && (zeroF 15 == (0 : Int) && (zeroF 16 == (0 : Int) && (zeroF 17 == (0 : Int) && true))))))))))))))))))) = false ∧ wr IntKind.i64 ((↑j : Int) + (1 : Int)) = (↑(j + 1) : Int) ∧ ((↑x : Int) = (↑x : Int) ∧ (List.length raw = List.length raw ∧ ut raw = ut raw) ∧ (List.length G = List.length G ∧ ut G = ut G) ∧ ((List.length c0 = List.length c0 ∧ ints c0 = ints c0) ∧ (List.length s0 = List.length s0 ∧ List.map sl s0 = List.map sl s0) ∧ (List.length c1 = List.length c1 ∧ ints c1 = ints c1) ∧ (List.length s1 = List.length s1 ∧ List.map sl s1 = List.map sl s1) ∧ (List.length c2 = List.length c2 ∧ ints c2 = ints c2) ∧ (List.length s2 = List.length s2 ∧ List.map sl s2 = List.map sl s2) ∧ True) ∧ (↑i : Int) = (↑i : Int) ∧ 0 = 0 ∧ ((List.length G = List.length G ∧ ut G = ut G) ∧ (List.length G2 = List.length G2 ∧ ut G2 = ut G2) ∧ (List.length R = List.length R ∧ ut R = ut R) ∧ True) ∧ (↑(j + 1) : Int) = (↑(j + 1) : Int) ∧ True) ∧ ([sl cards, gC cs] = [sl cards, gC cs] ∧ True ∧ True ∧ True) ∧ True) = _) ?_
        exact au
      | true =>
        have l1 := sgra_ok cards cs l h6 (by omega) hr6 hl he hm
        have l3 := rgra_ok cards cs l he hm
        rw [hm] at l2
        generalize graG cards cs l = f at *
        refine .inl ⟨j + 1, [0], [yes 52, va 53 (ul l), fn 57 (.tup [ar f, i6 0]), fn 61 (i6 0), yes 63, fn 69 (.bool true), fn 76 (ar f), no 79, nu 85 (j + 1 : Nat)], 1000, hlt, by omega, ?_⟩
        clear hm he hr6
        refine Eq.mp (by kernel_rfl : (decide ((↑j : Int) < (3 : Int)) = true ∧ idxV (ctxOf Tryd.prog) 55 (g3 G G2 R) (↑j : Int) = some (ul l) ∧ ((True ∧ True ∧ True) ∧ True ∧ True) ∧ FnOk Tryd.prog g0 28 [V.agg [V.im (List.length cards) (ints cards), V.im (List.length cs) (List.map sl cs)], V.im (List.length l) (ut l)] (V.tup [ar f, i6 (0 : Int)]) ∧ True ∧ ((True ∧ True ∧ True) ∧ True) ∧ FnOk Tryd.prog g0 21 [V.agg [V.im (List.length cards) (ints cards), V.im (List.length cs) (List.map sl cs)]] (i6 (0 : Int)) ∧ True ∧ ((0 : Int) == (0 : Int)) = true ∧ (True ∧ True ∧ True) ∧ FnOk Tryd.prog g0 29 [V.int IntKind.i64 (↑(List.length cards) : Int), V.im (List.length l) (ut l)] (V.bool true) ∧ True ∧ ((True ∧ True ∧ True) ∧ True ∧ True) ∧ FnOk Tryd.prog g0 30 [V.agg [V.im (List.length cards) (ints cards), V.im (List.length cs) (List.map sl cs)], V.im (List.length l) (ut l)] (ar f) ∧ True ∧ (!(f 0 == f 0 && (f 1 == f 1 && (f 2 == f 2 && (f 3 == f 3 && (f 4 == f 4 && (f 5 == f 5 && (f 6 == f 6 && (f 7 == f 7 && (f 8 == f 8 && (f 9 == f 9 && (f 10 == f 10 && (f 11 == f 11 && (f 12 == f 12 && (f 13 == f 13 && (f 14 == f 14 && (f 15 == f 15 && (f 16 == f 16 && (f 17 == f 17 && true))))))))))))))))))) = false ∧ wr IntKind.i64 ((↑j : Int) + (1 : Int)) = (↑(j + 1) : Int) ∧ ((↑x : Int) = (↑x : Int) ∧ (List.length raw = List.length raw ∧ ut raw = ut raw) ∧ (List.length G = List.length G ∧ ut G = ut G) ∧ ((List.length c0 = List.length c0 ∧ ints c0 = ints c0) ∧ (List.length s0 = List.length s0 ∧ List.map sl s0 = List.map sl s0) ∧ (List.length c1 = List.length c1 ∧ ints c1 = ints c1) ∧ (List.length s1 = List.length s1 ∧ List.map sl s1 = List.map sl s1) ∧ (List.length c2 = List.length c2 ∧ ints c2 = ints c2) ∧ (List.length s2 = List.length s2 ∧ List.map sl s2 = List.map sl s2) ∧ True) ∧ (↑i : Int) = (↑i : Int) ∧ 0 = 0 ∧ ((List.length G = List.length G ∧ ut G = ut G) ∧ (List.length G2 = List.length G2 ∧ ut G2 = ut G2) ∧ (List.length R = List.length R ∧ ut R = ut R) ∧ True) ∧ (↑(j + 1) : Int) = (↑(j + 1) : Int) ∧ True) ∧ ([sl cards, gC cs] = [sl cards, gC cs] ∧ True ∧ True ∧ True) ∧ True) = _) ?_
        exact au
    · have l1 := sgra_bad cards cs l (by omega) (by omega) hr6 (by rw [he]; exact he0)
      rw [he] at l1
      refine .inl ⟨j + 1, [0], [yes 52, va 53 (ul l), fn 57 (.tup [ar zeroF, i6 e]), fn 61 (i6 e), no 63, no 73, no 79, no 83, nu 85 (j + 1 : Nat)], 1000, hlt, by omega, ?_⟩
      clear he hr6
      refine Eq.mp (by kernel_rfl : (decide ((↑j : Int) < (3 : Int)) = true ∧ idxV (ctxOf Tryd.prog) 55 (g3 G G2 R) (↑j : Int) = some (ul l) ∧ ((True ∧ True ∧ True) ∧ True ∧ True) ∧ FnOk Tryd.prog g0 28 [V.agg [V.im (List.length cards) (ints cards), V.im (List.length cs) (List.map sl cs)], V.im (List.length l) (ut l)] (V.tup [ar zeroF, i6 e]) ∧ True ∧ ((True ∧ True ∧ True) ∧ True) ∧ FnOk Tryd.prog g0 21 [V.agg [V.im (List.length cards) (ints cards), V.im (List.length cs) (List.map sl cs)]] (i6 e) ∧ True ∧ (e == (0 : Int)) = false ∧ (e == (0 : Int)) = false ∧ (!(zeroF 0 == (0 : Int) && (zeroF 1 == (0 : Int) && (zeroF 2 == (0 : Int) && (zeroF 3 == (0 : Int) && (zeroF 4 == (0 : Int) && (zeroF 5 == (0 : Int) && (zeroF 6 == (0 : Int) && (zeroF 7 == (0 : Int) && (zeroF 8 == (0 : Int) && (zeroF 9 == (0 : Int) && (zeroF 10 == (0 : Int) && (zeroF 11 == (0 : Int) && (zeroF 12 == (0 : Int) && (zeroF 13 == (0 : Int) && (zeroF 14 == (0 : Int) && (zeroF 15 == (0 : Int) && (zeroF 16 == (0 : Int) && (zeroF 17 == (0 : Int) && true))))))))))))))))))) = false ∧ (e != e) = false ∧ wr IntKind.i64 ((↑j : Int) + (1 : Int)) = (↑(j + 1) : Int) ∧ ((↑x : Int) = (↑x : Int) ∧ (List.length raw = List.length raw ∧ ut raw = ut raw) ∧ (List.length G = List.length G ∧ ut G = ut G) ∧ ((List.length c0 = List.length c0 ∧ ints c0 = ints c0) ∧ (List.length s0 = List.length s0 ∧ List.map sl s0 = List.map sl s0) ∧ (List.length c1 = List.length c1 ∧ ints c1 = ints c1) ∧ (List.length s1 = List.length s1 ∧ List.map sl s1 = List.map sl s1) ∧ (List.length c2 = List.length c2 ∧ ints c2 = ints c2) ∧ (List.length s2 = List.length s2 ∧ List.map sl s2 = List.map sl s2) ∧ True) ∧ (↑i : Int) = (↑i : Int) ∧ 0 = 0 ∧ ((List.length G = List.length G ∧ ut G = ut G) ∧ (List.length G2 = List.length G2 ∧ ut G2 = ut G2) ∧ (List.length R = List.length R ∧ ut R = ut R) ∧ True) ∧ (↑(j + 1) : Int) = (↑(j + 1) : Int) ∧ True) ∧ ([sl cards, gC cs] = [sl cards, gC cs] ∧ True ∧ True ∧ True) ∧ True) = _) ?_
      exact au
  · have : j = 3 := by omega
    subst this
    refine .inr ⟨.exit 2, [], lgO x raw G c0 s0 c1 s1 c2 s2 i, [], 1000, .inl ⟨trivial, rfl, rfl⟩, ?_⟩
    refine Eq.mp (by kernel_rfl : (((↑x : Int) = (↑x : Int) ∧ (List.length raw = List.length raw ∧ ut raw = ut raw) ∧ (List.length G = List.length G ∧ ut G = ut G) ∧ ((List.length c0 = List.length c0 ∧ ints c0 = ints c0) ∧ (List.length s0 = List.length s0 ∧ List.map sl s0 = List.map sl s0) ∧ (List.length c1 = List.length c1 ∧ ints c1 = ints c1) ∧ (List.length s1 = List.length s1 ∧ List.map sl s1 = List.map sl s1) ∧ (List.length c2 = List.length c2 ∧ ints c2 = ints c2) ∧ (List.length s2 = List.length s2 ∧ List.map sl s2 = List.map sl s2) ∧ True) ∧ (↑i : Int) = (↑i : Int) ∧ True) ∧ True) = _) ?_
    exact au

theorem gra_out (x : Nat) (hx : x < 256) (raw G : List Nat) (hraw : S64 raw) (hn : raw.length ≤ 9223372036854775807) (hG : GrOk G.length G) (hG1 : 1 ≤ G.length) (hG6 : G.length ≤ 6) (c0 : List Int) (s0 : List (List Int)) (c1 : List Int) (s1 : List (List Int)) (c2 : List Int) (s2 : List (List Int)) (h0 : DatOk c0 s0) (h1 : DatOk c1 s1) (h2 : DatOk c2 s2) :
    Sat Pg none 0 (at' 4 [1, 1, 1, 1, 0, 1, 0]) (mkSt g0 88 (lgO x raw G c0 s0 c1 s1 c2 s2 0)) (outsP g0 88 [(True, .exit 0, {sl := []})]) := by
  obtain ⟨G2, hG2, hturn⟩ := turned_fn G x hG1 hG6 hG.u hx
  obtain ⟨m, hm⟩ : ∃ m, m = min raw.length 7 := ⟨_, rfl⟩
  have hcut := cut_u raw m hm
  have hmn := min_n hm
  have hR : S64 (raw.take 7) := fun y hy => hraw y (List.mem_of_mem_take hy)
  generalize raw.take 7 = R at *
  refine loopC vE_ok mixed sp0_ok (b := at' 4 [1, 1, 1, 1, 0, 1, 0, 0]) (by kernel_rfl) (fun i => i ≤ 3) (lgO x raw G c0 s0 c1 s1 c2 s2) (fun i => 3 - i) (fun i hi => ?_) 0 (Nat.zero_le _)
  by_cases hlt : i < 3
  · obtain ⟨cards, cs, hd, hxx⟩ := pick35 h0 h1 h2 i hlt
    have hin := gra_in x raw G c0 s0 c1 s1 c2 s2 i cards cs hd G2 R hG.u hG2.u hR _ rfl
    refine .inl ⟨i + 1, [], [yes 39, va 40 (gV cards cs), fn 44 (ul G2), nu 48 m, va 49 (ul R), (0, .loop [0] (lgS x raw G c0 s0 c1 s1 c2 s2 i cards cs G2 R 0) [(True, .exit 2, lgO x raw G c0 s0 c1 s1 c2 s2 i)]), nu 86 (i + 1 : Nat)], 1000, hlt, by omega, ?_⟩
    clear hd h0 h1 h2 hG hG2 hR hraw
    refine Eq.mp (by kernel_rfl : (decide ((↑i : Int) < (3 : Int)) = true ∧ idxV (ctxOf Tryd.prog) 35 (y3 c0 s0 c1 s1 c2 s2) (↑i : Int) = some (gV cards cs) ∧ (True ∧ True ∧ True) ∧ FnOk Tryd.prog g0 27 [V.im (List.length G) (ut G), V.int IntKind.u8 (↑x : Int)] (ul G2) ∧ True ∧ (if (7 : Int) < (↑(List.length raw) : Int) then (7 : Int) else (↑(List.length raw) : Int)) = (↑m : Int) ∧ sliceV (ctxOf Tryd.prog) 52 (ul raw) none (some (↑m : Int)) none = some (ul R) ∧ (((↑x : Int) = (↑x : Int) ∧ (List.length raw = List.length raw ∧ ut raw = ut raw) ∧ (List.length G = List.length G ∧ ut G = ut G) ∧ ((List.length c0 = List.length c0 ∧ ints c0 = ints c0) ∧ (List.length s0 = List.length s0 ∧ List.map sl s0 = List.map sl s0) ∧ (List.length c1 = List.length c1 ∧ ints c1 = ints c1) ∧ (List.length s1 = List.length s1 ∧ List.map sl s1 = List.map sl s1) ∧ (List.length c2 = List.length c2 ∧ ints c2 = ints c2) ∧ (List.length s2 = List.length s2 ∧ List.map sl s2 = List.map sl s2) ∧ True) ∧ (↑i : Int) = (↑i : Int) ∧ 0 = 0 ∧ ((List.length G = List.length G ∧ ut G = ut G) ∧ (List.length G2 = List.length G2 ∧ ut G2 = ut G2) ∧ (List.length R = List.length R ∧ ut R = ut R) ∧ True) ∧ (↑(0 : Nat) : Int) = (0 : Int) ∧ True) ∧ ([sl cards, gC cs] = [sl cards, gC cs] ∧ True ∧ True ∧ True) ∧ True) ∧ Sat Tryd.prog none 0 (at' 4 [1, 1, 1, 1, 0, 1, 0, 0, 1, 1, 0, 0, 1, 1, 0]) (mkSt g0 88 (lgS x raw G c0 s0 c1 s1 c2 s2 i cards cs G2 R 0)) (outsP g0 88 [(True, Ex.exit 2, lgO x raw G c0 s0 c1 s1 c2 s2 i)]) ∧ (True → wr IntKind.i64 ((↑i : Int) + (1 : Int)) = (↑(i + 1) : Int) ∧ ((↑x : Int) = (↑x : Int) ∧ (List.length raw = List.length raw ∧ ut raw = ut raw) ∧ (List.length G = List.length G ∧ ut G = ut G) ∧ ((List.length c0 = List.length c0 ∧ ints c0 = ints c0) ∧ (List.length s0 = List.length s0 ∧ List.map sl s0 = List.map sl s0) ∧ (List.length c1 = List.length c1 ∧ ints c1 = ints c1) ∧ (List.length s1 = List.length s1 ∧ List.map sl s1 = List.map sl s1) ∧ (List.length c2 = List.length c2 ∧ ints c2 = ints c2) ∧ (List.length s2 = List.length s2 ∧ List.map sl s2 = List.map sl s2) ∧ True) ∧ (↑(i + 1) : Int) = (↑(i + 1) : Int) ∧ True) ∧ True) ∧ True) = _) ?_
    exact au
  · have : i = 3 := by omega
    subst this
    refine .inr ⟨.exit 0, [], {sl := []}, [], 1000, .inl ⟨trivial, rfl, rfl⟩, ?_⟩
    refine Eq.mp (by kernel_rfl : (True ∧ True) = _) ?_
    exact au

theorem graphs_true (C : List Int) (ks : List (Nat → Int)) (fo : Int) (M : List Int) (b a N : Int) (pN : Int) (o : Nat → Nat) (E x : Nat) (raw : List Nat) (h : DrOk C ks fo M) (hb : 0 ≤ b ∧ b ≤ 255) (ha : 0 ≤ a ∧ a ≤ 255) (ho : ∀ k, k < 6 → o k < 256) (hE : E < 65536) (hx : x < 256) (hraw : S64 raw) (hrl : raw.length ≤ 9223372036854775807) : FnOk Pg g0 4 [dfV C ks fo M, beV b a N, .agg [w8 pN, w8 (o 0), w8 (o 1), w8 (o 2), w8 (o 3), w8 (o 4), w8 (o 5), v16 E], w8 x, ul raw] (.bool true) := by
  have hw := works_ok
  have hwd := whole_draft C ks fo M h
  have hdd := draft_fn C ks fo M h
  have hc := cardsD_ok C
  obtain ⟨x1, x2⟩ := dataD_len C ks fo []
  obtain ⟨y1, y2⟩ := dataD_len C ks fo M
  obtain ⟨cb, sb, hbf, b1, b2, b3⟩ := bend_fn b a N (cardsD C) (dataD C ks fo []) hb ha hc.pos (by have := hc.five; omega) x1 x2
  have hcp := hc.pos
  have hc5 := hc.five
  have hw8 : wr .u8 (((cardsD C).length - 1 : Nat) : Int) = (((cardsD C).length - 1 : Nat) : Int) := wr_in (by simp [lo]) (by simp [hi]; omega)
  obtain ⟨G, hG, hpl⟩ := plan_fn ((cardsD C).length - 1) o E (by omega) ho hE
  have hmod : ((cardsD C).length - 1) % 6 = (cardsD C).length - 1 := Nat.mod_eq_of_lt (by omega)
  have hGl := hG.len
  have l := gra_out x hx raw G hraw hrl ⟨rfl, hG.u⟩ (by omega) (by omega) (cardsD C) (dataD C ks fo []) (cardsD C) (dataD C ks fo M) cb sb ⟨by have := hc.five; omega, by omega, fun c hc' => by rw [x1 c hc']; have := hc.five; omega⟩ ⟨by have := hc.five; omega, by omega, fun c hc' => by rw [y1 c hc']; have := hc.five; omega⟩ ⟨b1, b2, b3⟩
  have hsub : ((cardsD C).length : Int) - 1 = (((cardsD C).length - 1 : Nat) : Int) := by omega
  generalize hcards : cardsD C = cards at *
  generalize dataD C ks fo [] = s0 at *
  generalize dataD C ks fo M = s1 at *
  generalize cards.length - 1 = n0 at *
  refine FnOk.of_vc vE_ok mixed sp0_ok (n := 1000) (r := []) (S := { sl := [(10, .bool true)] }) (hs := [fn 22 (gV cards s0), nu 26 (n0 : Nat), nu 27 (n0 : Nat), fn 30 (ul G), fn 33 (gV cards s1), fn 36 (gV cb sb), (0, .loop [] (lgO x raw G cards s0 cards s1 cb sb 0) [(True, .exit 0, {sl := []})]), fn 87 (.bool true)]) ?_
  clear hcards hG
  refine Eq.mp (by kernel_rfl : (V.bool true = V.bool true ∧ ((True ∧ True ∧ True ∧ True ∧ True) ∧ True) ∧ FnOk Tryd.prog g0 18 [V.agg [V.im (List.length C) (List.map w8 C), V.im (List.length ks) (flatK ks), V.int IntKind.u8 fo, V.im (List.length M) (List.map w8 M)]] (gV cards s0) ∧ True ∧ wr IntKind.i64 ((↑(List.length cards) : Int) - (1 : Int)) = (↑n0 : Int) ∧ wr IntKind.u8 (↑n0 : Int) = (↑n0 : Int) ∧ ((True ∧ True ∧ True ∧ True ∧ True ∧ True ∧ True ∧ True ∧ True) ∧ True ∧ True) ∧ FnOk Tryd.prog g0 26 [V.agg [V.int IntKind.u8 (↑n0 : Int), V.int IntKind.u8 (↑(o 0) : Int), V.int IntKind.u8 (↑(o 1) : Int), V.int IntKind.u8 (↑(o 2) : Int), V.int IntKind.u8 (↑(o 3) : Int), V.int IntKind.u8 (↑(o 4) : Int), V.int IntKind.u8 (↑(o 5) : Int), V.int IntKind.u16 (↑E : Int)], V.int IntKind.i64 (6 : Int)] (ul G) ∧ True ∧ ((True ∧ True ∧ True ∧ True ∧ True) ∧ True) ∧ FnOk Tryd.prog g0 19 [V.agg [V.im (List.length C) (List.map w8 C), V.im (List.length ks) (flatK ks), V.int IntKind.u8 fo, V.im (List.length M) (List.map w8 M)]] (gV cards s1) ∧ True ∧ ((True ∧ True ∧ True ∧ True) ∧ (True ∧ True ∧ True) ∧ True) ∧ FnOk Tryd.prog g0 20 [V.agg [V.int IntKind.u8 b, V.int IntKind.u8 a, V.int IntKind.i64 N], V.agg [V.im (List.length cards) (ints cards), V.im (List.length s0) (List.map sl s0)]] (gV cb sb) ∧ ((V.fn 19 [] = V.fn 20 [] → [V.agg [sl8 C, kV ks, w8 fo, sl8 M]] = [V.agg [w8 b, w8 a, i6 N], V.agg [sl cards, gC s0]] → pt (pt (pt (pt (pt (pt T.e 0 (O.row 25 none [sl8 C, kV ks, w8 fo, sl8 M])) (0 + 1) (O.row 27 none [w8 b, w8 a, i6 N])) (0 + 1 + 1) (O.row 51 none [w8 pN, w8 (↑(o 0) : Int), w8 (↑(o 1) : Int), w8 (↑(o 2) : Int), w8 (↑(o 3) : Int), w8 (↑(o 4) : Int), w8 (↑(o 5) : Int), v16 (↑E : Int)])) (0 + 1 + 1 + 1) (O.row 32 none [V.nils, V.nils])) (0 + 1 + 1 + 1) (O.row 32 none [sl cards, gC s0])) (0 + 1 + 1) (O.row 51 none [V.int IntKind.u8 (↑n0 : Int), w8 (↑(o 0) : Int), w8 (↑(o 1) : Int), w8 (↑(o 2) : Int), w8 (↑(o 3) : Int), w8 (↑(o 4) : Int), w8 (↑(o 5) : Int), v16 (↑E : Int)]) = pt (pt (pt (pt (pt (pt T.e 0 (O.row 25 none [sl8 C, kV ks, w8 fo, sl8 M])) (0 + 1) (O.row 27 none [w8 b, w8 a, i6 N])) (0 + 1 + 1) (O.row 51 none [w8 pN, w8 (↑(o 0) : Int), w8 (↑(o 1) : Int), w8 (↑(o 2) : Int), w8 (↑(o 3) : Int), w8 (↑(o 4) : Int), w8 (↑(o 5) : Int), v16 (↑E : Int)])) (0 + 1 + 1 + 1) (O.row 32 none [V.nils, V.nils])) (0 + 1 + 1 + 1) (O.row 32 none [sl cards, gC s0])) (0 + 1 + 1) (O.row 51 none [V.int IntKind.u8 (↑n0 : Int), w8 (↑(o 0) : Int), w8 (↑(o 1) : Int), w8 (↑(o 2) : Int), w8 (↑(o 3) : Int), w8 (↑(o 4) : Int), w8 (↑(o 5) : Int), v16 (↑E : Int)]) → 0 + 1 + 1 + 1 + 1 = 0 + 1 + 1 + 1 + 1 → CR.mk (gV cards s1) (pt (pt (pt (pt (pt (pt T.e 0 (O.row 25 none [sl8 C, kV ks, w8 fo, sl8 M])) (0 + 1) (O.row 27 none [w8 b, w8 a, i6 N])) (0 + 1 + 1) (O.row 51 none [w8 pN, w8 (↑(o 0) : Int), w8 (↑(o 1) : Int), w8 (↑(o 2) : Int), w8 (↑(o 3) : Int), w8 (↑(o 4) : Int), w8 (↑(o 5) : Int), v16 (↑E : Int)])) (0 + 1 + 1 + 1) (O.row 32 none [V.nils, V.nils])) (0 + 1 + 1 + 1) (O.row 32 none [sl cards, gC s0])) (0 + 1 + 1) (O.row 51 none [V.int IntKind.u8 (↑n0 : Int), w8 (↑(o 0) : Int), w8 (↑(o 1) : Int), w8 (↑(o 2) : Int), w8 (↑(o 3) : Int), w8 (↑(o 4) : Int), w8 (↑(o 5) : Int), v16 (↑E : Int)])) (0 + 1 + 1 + 1 + 1) [] = CR.mk (gV cb sb) (pt (pt (pt (pt (pt (pt T.e 0 (O.row 25 none [sl8 C, kV ks, w8 fo, sl8 M])) (0 + 1) (O.row 27 none [w8 b, w8 a, i6 N])) (0 + 1 + 1) (O.row 51 none [w8 pN, w8 (↑(o 0) : Int), w8 (↑(o 1) : Int), w8 (↑(o 2) : Int), w8 (↑(o 3) : Int), w8 (↑(o 4) : Int), w8 (↑(o 5) : Int), v16 (↑E : Int)])) (0 + 1 + 1 + 1) (O.row 32 none [V.nils, V.nils])) (0 + 1 + 1 + 1) (O.row 32 none [sl cards, gC s0])) (0 + 1 + 1) (O.row 51 none [V.int IntKind.u8 (↑n0 : Int), w8 (↑(o 0) : Int), w8 (↑(o 1) : Int), w8 (↑(o 2) : Int), w8 (↑(o 3) : Int), w8 (↑(o 4) : Int), w8 (↑(o 5) : Int), v16 (↑E : Int)])) (0 + 1 + 1 + 1 + 1) []) ∧ True) ∧ (((↑x : Int) = (↑x : Int) ∧ (List.length raw = List.length raw ∧ ut raw = ut raw) ∧ (List.length G = List.length G ∧ ut G = ut G) ∧ ((List.length cards = List.length cards ∧ ints cards = ints cards) ∧ (List.length s0 = List.length s0 ∧ List.map sl s0 = List.map sl s0) ∧ (List.length cards = List.length cards ∧ ints cards = ints cards) ∧ (List.length s1 = List.length s1 ∧ List.map sl s1 = List.map sl s1) ∧ (List.length cb = List.length cb ∧ ints cb = ints cb) ∧ (List.length sb = List.length sb ∧ List.map sl sb = List.map sl sb) ∧ True) ∧ (↑(0 : Nat) : Int) = (0 : Int) ∧ True) ∧ True) ∧ Sat Tryd.prog none 0 (at' 4 [1, 1, 1, 1, 0, 1, 0]) (mkSt g0 88 (lgO x raw G cards s0 cards s1 cb sb 0)) (outsP g0 88 [(True, Ex.exit 0, SL.mk [] [] [] [])]) ∧ (True → True ∧ FnOk Tryd.prog g0 25 [] (V.bool true) ∧ True ∧ (true = true ∧ True) ∧ True) ∧ True) = _) ?_
  exact au

end Go.Proofs.YtglpoiaedkoecaaDoor.Am
