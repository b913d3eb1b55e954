/- ScoreGrows: the values of one more case; how many cases agree with them. -/
import Derived.Test.YtglpoiaedkoecaaDoorH2
namespace Go.Proofs.YtglpoiaedkoecaaDoor.Am
open Go.RowKit
set_option linter.unusedVariables false
set_option maxHeartbeats 1000000
set_option maxRecDepth 100000

/-! ### one more case -/
def nextL (c : Nat → Int) (cards : List Int) (k : Nat) : List Int := (List.range k).map fun i => c i % cards.getD i 0
theorem nextL_succ (c : Nat → Int) (cards : List Int) (k : Nat) : nextL c cards (k + 1) = nextL c cards k ++ [c k % cards.getD k 0] := by simp [nextL, List.range_succ]
theorem nextL_len (c : Nat → Int) (cards : List Int) (k : Nat) : (nextL c cards k).length = k := by simp [nextL]
theorem nextL_at {c : Nat → Int} {cards : List Int} {k i : Nat} (h : i < k) : (nextL c cards k).getD i 0 = c i % cards.getD i 0 := by
  unfold nextL
  rw [List.getD_eq_getElem?_getD, List.getElem?_map, List.getElem?_range h]; rfl
theorem place92p {g i : Nat} (h : i < 5) : placeV (ctxOf Pg) 92 (.ptr g 0) (i : Int) = some (.ptr g i) := by
  rcases lt5 h with rfl | rfl | rfl | rfl | rfl <;> kernel_rfl
theorem head5 {c : Nat → Int} {i : Nat} (h : i < 5) : headF (dropF i (five c)) = some (w8 (c i)) := by
  rcases lt5 h with rfl | rfl | rfl | rfl | rfl <;> rfl
section
variable (C : List Int) (fo : Int) (M : List Int) (ks : List (Nat → Int)) (c : Nat → Int) (cards : List Int) (csV : V) (n own : Nat) (vars : List Nat) (S : Nat)
abbrev gnS (q : Nat × List Int) : SL := { sl := [(4, .ptr 0 0), (7, .ptr 1 0), (9, .ptr 2 0), (10, i6 n), (11, i6 own), (12, nl vars), (13, u6 S), (16, owV 3 q.1), (73, sl cards), (74, i6 cards.length), (75, i6 q.1)], os := dfO C ks fo M :: .row 92 none (five c) :: .row 32 none [sl cards, csV] :: owL 3 (ints q.2) q.1 }
abbrev gnX (l : List Int) : SL := { sl := [(9, .ptr 0 0), (10, i6 n), (11, i6 own), (12, nl vars), (13, u6 S), (16, sl l)], os := [.row 32 none [sl cards, csV]] }
end
theorem gw_next (C : List Int) (fo : Int) (M : List Int) (ks : List (Nat → Int)) (c : Nat → Int) (hc : ∀ i, i < 5 → 0 ≤ c i ∧ c i ≤ 255) (cards : List Int) (hcd : CdOk cards) (cs : List (List Int)) (csV : V) (hcs : csV = gC cs ∨ csV = .nils) (n own : Nat) (vars : List Nat) (S : Nat) :
    Sat Pg none 0 (at' 9 [1, 1, 1, 1, 1, 1, 1, 1, 1, 1, 0, 1, 0]) (mkSt g0 201 (gnS C fo M ks c cards csV n own vars S (0, []))) (outsP g0 201 [(True, .exit 2, gnX cards csV n own vars S (nextL c cards cards.length))]) := by
  have h5 := hcd.five
  have h1 := hcd.pos
  refine loopC vE_ok mixed sp0_ok (b := at' 9 [1, 1, 1, 1, 1, 1, 1, 1, 1, 1, 0, 1, 0, 0]) (by kernel_rfl) (fun q => q.1 ≤ cards.length ∧ q.2 = nextL c cards q.1) (gnS C fo M ks c cards csV n own vars S) (fun q => cards.length - q.1) (fun q hq => ?_) (0, []) ⟨Nat.zero_le _, rfl⟩
  obtain ⟨i, L⟩ := q
  obtain ⟨hi, hL⟩ := hq
  dsimp only at hi hL
  have hf5 := hf_five c
  have hd := HfL_nt vars
  by_cases hlt : i < cards.length
  · have hr := hcd.each i hlt
    have hci := hc i (by omega)
    have hhd := @head_intsD cards i hlt
    have hpl := @place92p 1 i (by omega)
    have hh5 := @head5 c i (by omega)
    have hnx := nextL_succ c cards i
    have hLl := nextL_len c cards i
    rw [← hL] at hnx hLl
    have hrem : binV (ctxOf Pg) .rem 3 (i6 (c i)) (i6 (cards.getD i 0)) = some (i6 (c i % cards.getD i 0)) := by
      rw [rem6 (by omega), Int.tmod_eq_emod_of_nonneg (by omega)]
    generalize cards.getD i 0 = r at *
    generalize c i % r = x at *
    generalize c i = y at *
    have hap := ints_app L x
    have hil := ints_length L
    cases i with
    | zero =>
      have : L = [] := List.eq_nil_of_length_eq_zero hLl
      subst this
      rcases hcs with rfl | rfl
      · refine .inl ⟨(1, [x]), [0, 1, 2, 4], [yes 76, pl 78, ld 79 (i6 r), va 82 (.ptr 1 (0 : Nat)), ld 83 (w8 y), nu 84 y, va 86 (i6 x), nu 89 1], 1000, ⟨hlt, hnx.symm⟩, by dsimp only; omega, ?_⟩
        clear hL hnx
        refine Eq.mp (by kernel_rfl : (decide ((↑(0 : Nat) : Int) < (↑(List.length cards) : Int)) = true ∧ ((0 : Int) ≤ (↑(0 : Nat) : Int) ∧ (↑(0 : Nat) : Int) < (↑(List.length cards) : Int)) ∧ headF (List.drop (0 * 1) (ints cards)) = some (i6 r) ∧ placeV (ctxOf Tryd.prog) 92 (V.ptr 1 0) (↑(0 : Nat) : Int) = some (V.ptr 1 0) ∧ headF (five c) = some (w8 y) ∧ wr IntKind.i64 y = y ∧ binV (ctxOf Tryd.prog) BinOp.rem 3 (V.int IntKind.i64 y) (i6 r) = some (i6 x) ∧ wr IntKind.i64 ((↑(0 : Nat) : Int) + (1 : Int)) = (1 : Int) ∧ (0 = 0 ∧ 0 = 0 ∧ 0 = 0 ∧ (↑n : Int) = (↑n : Int) ∧ (↑own : Int) = (↑own : Int) ∧ (List.length vars = List.length vars ∧ nt vars = nt vars) ∧ (↑S : Int) = (↑S : Int) ∧ (0 = 0 ∧ 0 + 1 = 1 ∧ True) ∧ (List.length cards = List.length cards ∧ ints cards = ints cards) ∧ (↑(List.length cards) : Int) = (↑(List.length cards) : Int) ∧ (↑(1 : Nat) : Int) = (1 : Int) ∧ True) ∧ (dfL C ks fo M = dfL C ks fo M ∧ True ∧ True ∧ True ∧ True ∧ True) ∧ (five c = five c ∧ True ∧ True ∧ True ∧ True ∧ True ∧ True) ∧ ([sl cards, gC cs] = [sl cards, gC cs] ∧ True ∧ True ∧ True) ∧ (ints [x] = [i6 x] ∧ True ∧ True) ∧ True) = _) ?_
        (repeat' (first | (with_reducible apply And.intro) | (refine fun (_ : True) => ?_))) <;> first | exact aq | skip
        all_goals first | exact hh5 | rfl | exact hhd | skip
      · refine .inl ⟨(1, [x]), [0, 1, 2, 4], [yes 76, pl 78, ld 79 (i6 r), va 82 (.ptr 1 (0 : Nat)), ld 83 (w8 y), nu 84 y, va 86 (i6 x), nu 89 1], 1000, ⟨hlt, hnx.symm⟩, by dsimp only; omega, ?_⟩
        clear hL hnx
        refine Eq.mp (by kernel_rfl : (decide ((↑(0 : Nat) : Int) < (↑(List.length cards) : Int)) = true ∧ ((0 : Int) ≤ (↑(0 : Nat) : Int) ∧ (↑(0 : Nat) : Int) < (↑(List.length cards) : Int)) ∧ headF (List.drop (0 * 1) (ints cards)) = some (i6 r) ∧ placeV (ctxOf Tryd.prog) 92 (V.ptr 1 0) (↑(0 : Nat) : Int) = some (V.ptr 1 0) ∧ headF (five c) = some (w8 y) ∧ wr IntKind.i64 y = y ∧ binV (ctxOf Tryd.prog) BinOp.rem 3 (V.int IntKind.i64 y) (i6 r) = some (i6 x) ∧ wr IntKind.i64 ((↑(0 : Nat) : Int) + (1 : Int)) = (1 : Int) ∧ (0 = 0 ∧ 0 = 0 ∧ 0 = 0 ∧ (↑n : Int) = (↑n : Int) ∧ (↑own : Int) = (↑own : Int) ∧ (List.length vars = List.length vars ∧ nt vars = nt vars) ∧ (↑S : Int) = (↑S : Int) ∧ (0 = 0 ∧ 0 + 1 = 1 ∧ True) ∧ (List.length cards = List.length cards ∧ ints cards = ints cards) ∧ (↑(List.length cards) : Int) = (↑(List.length cards) : Int) ∧ (↑(1 : Nat) : Int) = (1 : Int) ∧ True) ∧ (dfL C ks fo M = dfL C ks fo M ∧ True ∧ True ∧ True ∧ True ∧ True) ∧ (five c = five c ∧ True ∧ True ∧ True ∧ True ∧ True ∧ True) ∧ ([sl cards, V.nils] = [sl cards, V.nils] ∧ True ∧ True ∧ True) ∧ (ints [x] = [i6 x] ∧ True ∧ True) ∧ True) = _) ?_
        (repeat' (first | (with_reducible apply And.intro) | (refine fun (_ : True) => ?_))) <;> first | exact aq | skip
        all_goals first | exact hh5 | rfl | exact hhd | skip
    | succ i =>
      rcases hcs with rfl | rfl
      · refine .inl ⟨(i + 1 + 1, L ++ [x]), [0, 1, 2, 5], [yes 76, pl 78, ld 79 (i6 r), va 82 (.ptr 1 (i + 1)), ld 83 (w8 y), nu 84 y, va 86 (i6 x), ap 88, nu 89 (i + 1 + 1 : Nat)], 1000, ⟨hlt, hnx.symm⟩, by dsimp only; omega, ?_⟩
        clear hL hnx
        refine Eq.mp (by kernel_rfl : (decide ((↑(i + 1) : Int) < (↑(List.length cards) : Int)) = true ∧ ((0 : Int) ≤ (↑(i + 1) : Int) ∧ (↑(i + 1) : Int) < (↑(List.length cards) : Int)) ∧ headF (List.drop ((i + 1) * 1) (ints cards)) = some (i6 r) ∧ placeV (ctxOf Tryd.prog) 92 (V.ptr 1 0) (↑(i + 1) : Int) = some (V.ptr 1 (i + 1)) ∧ headF (dropF (i + 1) (five c)) = some (w8 y) ∧ wr IntKind.i64 y = y ∧ binV (ctxOf Tryd.prog) BinOp.rem 3 (V.int IntKind.i64 y) (i6 r) = some (i6 x) ∧ List.length (ints L) = (i + 1) * 1 ∧ i + 1 + 1 ≤ 9223372036854775807 ∧ (i + 1 + 1) * 8 ≤ 140737488355328 ∧ wr IntKind.i64 ((↑(i + 1) : Int) + (1 : Int)) = (↑(i + 1 + 1) : Int) ∧ (0 = 0 ∧ 0 = 0 ∧ 0 = 0 ∧ (↑n : Int) = (↑n : Int) ∧ (↑own : Int) = (↑own : Int) ∧ (List.length vars = List.length vars ∧ nt vars = nt vars) ∧ (↑S : Int) = (↑S : Int) ∧ (0 = 0 ∧ Nat.succ i + 1 = i + 1 + 1 ∧ True) ∧ (List.length cards = List.length cards ∧ ints cards = ints cards) ∧ (↑(List.length cards) : Int) = (↑(List.length cards) : Int) ∧ (↑(i + 1 + 1) : Int) = (↑(i + 1 + 1) : Int) ∧ True) ∧ (dfL C ks fo M = dfL C ks fo M ∧ True ∧ True ∧ True ∧ True ∧ True) ∧ (five c = five c ∧ True ∧ True ∧ True ∧ True ∧ True ∧ True) ∧ ([sl cards, gC cs] = [sl cards, gC cs] ∧ True ∧ True ∧ True) ∧ (ints (L ++ [x]) = ints L ++ [i6 x] ∧ HfL (ints (L ++ [x]))) ∧ True) = _) ?_
        (repeat' (first | (with_reducible apply And.intro) | (refine fun (_ : True) => ?_))) <;> first | exact aq | skip
        all_goals first | exact hap.symm | exact hap | (rw [hap]; rfl) | skip
      · refine .inl ⟨(i + 1 + 1, L ++ [x]), [0, 1, 2, 5], [yes 76, pl 78, ld 79 (i6 r), va 82 (.ptr 1 (i + 1)), ld 83 (w8 y), nu 84 y, va 86 (i6 x), ap 88, nu 89 (i + 1 + 1 : Nat)], 1000, ⟨hlt, hnx.symm⟩, by dsimp only; omega, ?_⟩
        clear hL hnx
        refine Eq.mp (by kernel_rfl : (decide ((↑(i + 1) : Int) < (↑(List.length cards) : Int)) = true ∧ ((0 : Int) ≤ (↑(i + 1) : Int) ∧ (↑(i + 1) : Int) < (↑(List.length cards) : Int)) ∧ headF (List.drop ((i + 1) * 1) (ints cards)) = some (i6 r) ∧ placeV (ctxOf Tryd.prog) 92 (V.ptr 1 0) (↑(i + 1) : Int) = some (V.ptr 1 (i + 1)) ∧ headF (dropF (i + 1) (five c)) = some (w8 y) ∧ wr IntKind.i64 y = y ∧ binV (ctxOf Tryd.prog) BinOp.rem 3 (V.int IntKind.i64 y) (i6 r) = some (i6 x) ∧ List.length (ints L) = (i + 1) * 1 ∧ i + 1 + 1 ≤ 9223372036854775807 ∧ (i + 1 + 1) * 8 ≤ 140737488355328 ∧ wr IntKind.i64 ((↑(i + 1) : Int) + (1 : Int)) = (↑(i + 1 + 1) : Int) ∧ (0 = 0 ∧ 0 = 0 ∧ 0 = 0 ∧ (↑n : Int) = (↑n : Int) ∧ (↑own : Int) = (↑own : Int) ∧ (List.length vars = List.length vars ∧ nt vars = nt vars) ∧ (↑S : Int) = (↑S : Int) ∧ (0 = 0 ∧ Nat.succ i + 1 = i + 1 + 1 ∧ True) ∧ (List.length cards = List.length cards ∧ ints cards = ints cards) ∧ (↑(List.length cards) : Int) = (↑(List.length cards) : Int) ∧ (↑(i + 1 + 1) : Int) = (↑(i + 1 + 1) : Int) ∧ True) ∧ (dfL C ks fo M = dfL C ks fo M ∧ True ∧ True ∧ True ∧ True ∧ True) ∧ (five c = five c ∧ True ∧ True ∧ True ∧ True ∧ True ∧ True) ∧ ([sl cards, V.nils] = [sl cards, V.nils] ∧ True ∧ True ∧ True) ∧ (ints (L ++ [x]) = ints L ++ [i6 x] ∧ HfL (ints (L ++ [x]))) ∧ True) = _) ?_
        (repeat' (first | (with_reducible apply And.intro) | (refine fun (_ : True) => ?_))) <;> first | exact aq | skip
        all_goals first | exact hap.symm | exact hap | (rw [hap]; rfl) | skip
  · have : i = cards.length := by omega
    rw [this] at hL
    rw [← hL]
    obtain ⟨m, rfl⟩ : ∃ m, i = m + 1 := ⟨i - 1, by omega⟩
    have hLl := nextL_len c cards cards.length
    rw [← hL] at hLl
    rcases hcs with rfl | rfl
    · refine .inr ⟨.exit 2, [2], gnX cards (gC cs) n own vars S L, [no 76], 1000, .inl ⟨trivial, rfl, rfl⟩, ?_⟩
      clear hL
      refine Eq.mp (by kernel_rfl : (decide ((↑(m + 1) : Int) < (↑(List.length cards) : Int)) = false ∧ (0 = 0 ∧ (↑n : Int) = (↑n : Int) ∧ (↑own : Int) = (↑own : Int) ∧ (List.length vars = List.length vars ∧ nt vars = nt vars) ∧ (↑S : Int) = (↑S : Int) ∧ (List.length L = m + 1 ∧ ints L = ints L ∧ HfL (ints L)) ∧ True) ∧ ([sl cards, gC cs] = [sl cards, gC cs] ∧ True ∧ True ∧ True) ∧ True) = _) ?_
      (repeat' (first | (with_reducible apply And.intro) | (refine fun (_ : True) => ?_))) <;> first | exact aq | skip
      all_goals first | rfl | skip
    · refine .inr ⟨.exit 2, [2], gnX cards .nils n own vars S L, [no 76], 1000, .inl ⟨trivial, rfl, rfl⟩, ?_⟩
      clear hL
      refine Eq.mp (by kernel_rfl : (decide ((↑(m + 1) : Int) < (↑(List.length cards) : Int)) = false ∧ (0 = 0 ∧ (↑n : Int) = (↑n : Int) ∧ (↑own : Int) = (↑own : Int) ∧ (List.length vars = List.length vars ∧ nt vars = nt vars) ∧ (↑S : Int) = (↑S : Int) ∧ (List.length L = m + 1 ∧ ints L = ints L ∧ HfL (ints L)) ∧ True) ∧ ([sl cards, V.nils] = [sl cards, V.nils] ∧ True ∧ True ∧ True) ∧ True) = _) ?_
      (repeat' (first | (with_reducible apply And.intro) | (refine fun (_ : True) => ?_))) <;> first | exact aq | skip
      all_goals first | rfl | skip

/-! ### how many agree -/
def fitV (vars : List Nat) (y nx : List Int) : Bool := vars.all fun p => y.getD p 0 == nx.getD p 0
section
variable (cards : List Int) (cs : List (List Int)) (own : Nat) (vars : List Nat) (S : Nat) (nx : List Int)
abbrev gcS (q : Nat × Nat × Nat) : SL := { sl := [(9, .ptr 0 0), (11, i6 own), (12, nl vars), (13, u6 S), (16, sl nx), (19, i6 q.2.1), (20, i6 q.2.2), (91, gC cs), (92, i6 cs.length), (93, i6 q.1)], os := [gO cards cs] }
abbrev gcX (a s : Nat) : SL := { sl := [(9, .ptr 0 0), (11, i6 own), (13, u6 S), (16, sl nx), (19, i6 a), (20, i6 s)], os := [gO cards cs] }
abbrev gfS (t a s : Nat) (y : List Int) (q : Nat × Bool) : SL := { sl := [(9, .ptr 0 0), (11, i6 own), (12, nl vars), (13, u6 S), (16, sl nx), (19, i6 a), (20, i6 s), (91, gC cs), (92, i6 cs.length), (93, i6 t), (22, sl y), (23, .bool q.2), (97, nl vars), (98, i6 vars.length), (99, i6 q.1)], os := [gO cards cs] }
abbrev gfX (t a s : Nat) (y : List Int) (b : Bool) : SL := { sl := [(9, .ptr 0 0), (11, i6 own), (12, nl vars), (13, u6 S), (16, sl nx), (19, i6 a), (20, i6 s), (91, gC cs), (92, i6 cs.length), (93, i6 t), (22, sl y), (23, .bool b)], os := [gO cards cs] }
end
theorem gw_fit (cards : List Int) (cs : List (List Int)) (own : Nat) (vars : List Nat) (S : Nat) (nx : List Int) (t a s : Nat) (y : List Int) (hv : ∀ k ∈ vars, k < 5 ∧ k < y.length ∧ k < nx.length) (hvl : vars.length ≤ 5) (B : Bool) (hB : fitV vars y nx = B) :
    Sat Pg none 0 (at' 9 [1, 1, 1, 1, 1, 1, 1, 1, 1, 1, 1, 1, 0, 1, 0, 0, 1, 1, 0, 0, 1, 1, 0, 1, 0]) (mkSt g0 201 (gfS cards cs own vars S nx t a s y (0, true))) (outsP g0 201 [(True, .exit 6, gfX cards cs own vars S nx t a s y B)]) := by
  refine loopC vE_ok mixed sp0_ok (b := at' 9 [1, 1, 1, 1, 1, 1, 1, 1, 1, 1, 1, 1, 0, 1, 0, 0, 1, 1, 0, 0, 1, 1, 0, 1, 0, 0]) (by kernel_rfl) (fun q => q.1 ≤ vars.length ∧ q.2 = fitV (vars.take q.1) y nx) (gfS cards cs own vars S nx t a s y) (fun q => vars.length - q.1) (fun q hq => ?_) (0, true) ⟨Nat.zero_le _, rfl⟩
  obtain ⟨j, b⟩ := q
  obtain ⟨hj, hb⟩ := hq
  dsimp only at hj hb
  by_cases hlt : j < vars.length
  · have h1 := head_nt hlt
    have hm : vars.getD j 0 ∈ vars := by rw [List.getD_eq_getElem?_getD, List.getElem?_eq_getElem hlt]; exact List.getElem_mem hlt
    obtain ⟨v1, v2, v3⟩ := hv _ hm
    have hnx : fitV (vars.take (j + 1)) y nx = (b && (y.getD (vars.getD j 0) 0 == nx.getD (vars.getD j 0) 0)) := by
      unfold fitV
      rw [List.take_succ_eq_append_getElem hlt, List.all_append, hb]
      unfold fitV
      congr 1
      rw [List.getD_eq_getElem?_getD (l := vars), List.getElem?_eq_getElem hlt]; simp
    generalize vars.getD j 0 = p at *
    have g1 := @head_intsD y p v2
    have g2 := @head_intsD nx p v3
    generalize y.getD p 0 = u at *
    generalize nx.getD p 0 = w at *
    cases b with
    | false =>
      refine .inl ⟨(j + 1, false), [0], [yes 100, pl 101, ld 102 (i6 p), nu 115 (j + 1 : Nat)], 1000, ⟨hlt, hnx.symm⟩, by dsimp only; omega, ?_⟩
      clear hb hnx hB
      refine Eq.mp (by kernel_rfl : (decide ((↑j : Int) < (↑(List.length vars) : Int)) = true ∧ ((0 : Int) ≤ (↑j : Int) ∧ (↑j : Int) < (↑(List.length vars) : Int)) ∧ headF (List.drop (j * 1) (nt vars)) = some (i6 (↑p : Int)) ∧ wr IntKind.i64 ((↑j : Int) + (1 : Int)) = (↑(j + 1) : Int) ∧ (0 = 0 ∧ (↑own : Int) = (↑own : Int) ∧ (List.length vars = List.length vars ∧ nt vars = nt vars) ∧ (↑S : Int) = (↑S : Int) ∧ (List.length nx = List.length nx ∧ ints nx = ints nx) ∧ (↑a : Int) = (↑a : Int) ∧ (↑s : Int) = (↑s : Int) ∧ (List.length cs = List.length cs ∧ List.map sl cs = List.map sl cs) ∧ (↑(List.length cs) : Int) = (↑(List.length cs) : Int) ∧ (↑t : Int) = (↑t : Int) ∧ (List.length y = List.length y ∧ ints y = ints y) ∧ false = false ∧ (List.length vars = List.length vars ∧ nt vars = nt vars) ∧ (↑(List.length vars) : Int) = (↑(List.length vars) : Int) ∧ (↑(j + 1) : Int) = (↑(j + 1) : Int) ∧ True) ∧ ([sl cards, gC cs] = [sl cards, gC cs] ∧ True ∧ True ∧ True) ∧ True) = _) ?_
      (repeat' (first | (with_reducible apply And.intro) | (refine fun (_ : True) => ?_))) <;> first | exact aq | skip
    | true =>
      rw [Bool.true_and] at hnx
      generalize hd : (u == w) = d at *
      refine .inl ⟨(j + 1, d), [0], [yes 100, pl 101, ld 102 (i6 p), pl 107, ld 108 (i6 u), pl 111, ld 112 (i6 w), (113, .bool d), nu 115 (j + 1 : Nat)], 1000, ⟨hlt, hnx.symm⟩, by dsimp only; omega, ?_⟩
      clear hb hnx hB
      refine Eq.mp (by kernel_rfl : (decide ((↑j : Int) < (↑(List.length vars) : Int)) = true ∧ ((0 : Int) ≤ (↑j : Int) ∧ (↑j : Int) < (↑(List.length vars) : Int)) ∧ headF (List.drop (j * 1) (nt vars)) = some (i6 (↑p : Int)) ∧ ((0 : Int) ≤ (↑p : Int) ∧ (↑p : Int) < (↑(List.length y) : Int)) ∧ headF (List.drop (p * 1) (ints y)) = some (i6 u) ∧ ((0 : Int) ≤ (↑p : Int) ∧ (↑p : Int) < (↑(List.length nx) : Int)) ∧ headF (List.drop (p * 1) (ints nx)) = some (i6 w) ∧ (u == w) = d ∧ wr IntKind.i64 ((↑j : Int) + (1 : Int)) = (↑(j + 1) : Int) ∧ (0 = 0 ∧ (↑own : Int) = (↑own : Int) ∧ (List.length vars = List.length vars ∧ nt vars = nt vars) ∧ (↑S : Int) = (↑S : Int) ∧ (List.length nx = List.length nx ∧ ints nx = ints nx) ∧ (↑a : Int) = (↑a : Int) ∧ (↑s : Int) = (↑s : Int) ∧ (List.length cs = List.length cs ∧ List.map sl cs = List.map sl cs) ∧ (↑(List.length cs) : Int) = (↑(List.length cs) : Int) ∧ (↑t : Int) = (↑t : Int) ∧ (List.length y = List.length y ∧ ints y = ints y) ∧ d = d ∧ (List.length vars = List.length vars ∧ nt vars = nt vars) ∧ (↑(List.length vars) : Int) = (↑(List.length vars) : Int) ∧ (↑(j + 1) : Int) = (↑(j + 1) : Int) ∧ True) ∧ ([sl cards, gC cs] = [sl cards, gC cs] ∧ True ∧ True ∧ True) ∧ True) = _) ?_
      (repeat' (first | (with_reducible apply And.intro) | (refine fun (_ : True) => ?_))) <;> first | exact aq | skip
      all_goals first | exact hd | skip
  · have : j = vars.length := by omega
    subst this
    rw [List.take_length] at hb
    rw [← hB, ← hb]
    refine .inr ⟨.exit 6, [0], gfX cards cs own vars S nx t a s y b, [no 100], 1000, .inl ⟨trivial, rfl, rfl⟩, ?_⟩
    clear hb hB
    refine Eq.mp (by kernel_rfl : (decide ((↑(List.length vars) : Int) < (↑(List.length vars) : Int)) = false ∧ (0 = 0 ∧ (↑own : Int) = (↑own : Int) ∧ (List.length vars = List.length vars ∧ nt vars = nt vars) ∧ (↑S : Int) = (↑S : Int) ∧ (List.length nx = List.length nx ∧ ints nx = ints nx) ∧ (↑a : Int) = (↑a : Int) ∧ (↑s : Int) = (↑s : Int) ∧ (List.length cs = List.length cs ∧ List.map sl cs = List.map sl cs) ∧ (↑(List.length cs) : Int) = (↑(List.length cs) : Int) ∧ (↑t : Int) = (↑t : Int) ∧ (List.length y = List.length y ∧ ints y = ints y) ∧ b = b ∧ True) ∧ ([sl cards, gC cs] = [sl cards, gC cs] ∧ True ∧ True ∧ True) ∧ True) = _) ?_
    (repeat' (first | (with_reducible apply And.intro) | (refine fun (_ : True) => ?_))) <;> first | exact aq | skip
def cntA (vars : List Nat) (nx : List Int) (cs : List (List Int)) : Nat := cs.countP fun y => fitV vars y nx
def cntE (vars : List Nat) (nx : List Int) (own : Nat) (cs : List (List Int)) : Nat := cs.countP fun y => fitV vars y nx && y.getD own 0 == nx.getD own 0
theorem take_get {cs : List (List Int)} {t : Nat} {y : List Int} (h : cs[t]? = some y) : cs.take (t + 1) = cs.take t ++ [y] := by
  obtain ⟨hlt, rfl⟩ := List.getElem?_eq_some_iff.1 h
  exact List.take_succ_eq_append_getElem hlt
theorem gw_count (cards : List Int) (cs : List (List Int)) (h40 : cs.length ≤ 40) (own : Nat) (vars : List Nat) (S : Nat) (nx : List Int) (hrow : ∀ y ∈ cs, y.length = cards.length) (hc5 : cards.length ≤ 5) (hnl : nx.length = cards.length) (hown : own < cards.length) (hv : ∀ k ∈ vars, k < cards.length) (hvl : vars.length ≤ 5) (A E : Nat) (hA : cntA vars nx cs = A) (hE : cntE vars nx own cs = E) :
    Sat Pg none 0 (at' 9 [1, 1, 1, 1, 1, 1, 1, 1, 1, 1, 1, 1, 0, 1, 0]) (mkSt g0 201 (gcS cards cs own vars S nx (0, 0, 0))) (outsP g0 201 [(True, .exit 4, gcX cards cs own S nx A E)]) := by
  refine loopC vE_ok mixed sp0_ok (b := at' 9 [1, 1, 1, 1, 1, 1, 1, 1, 1, 1, 1, 1, 0, 1, 0, 0]) (by kernel_rfl) (fun q => q.1 ≤ cs.length ∧ q.2.1 = cntA vars nx (cs.take q.1) ∧ q.2.2 = cntE vars nx own (cs.take q.1)) (gcS cards cs own vars S nx) (fun q => cs.length - q.1) (fun q hq => ?_) (0, 0, 0) ⟨Nat.zero_le _, rfl, rfl⟩
  obtain ⟨t, a, s⟩ := q
  obtain ⟨ht, ha, hs⟩ := hq
  dsimp only at ht ha hs
  by_cases hlt : t < cs.length
  · obtain ⟨y, hy⟩ : ∃ y, cs[t]? = some y := ⟨_, List.getElem?_eq_getElem hlt⟩
    have hyl := hrow y (List.mem_of_getElem? hy)
    have hld := head_map (f := sl) hy
    have hin := gw_fit cards cs own vars S nx t a s y (fun k hk => by have := hv k hk; omega) hvl
    have g1 := @head_intsD y own (by omega)
    have g2 := @head_intsD nx own (by omega)
    have hab : a ≤ 40 := by rw [ha]; have := List.countP_le_length (p := fun y => fitV vars y nx) (l := cs.take t); simp only [List.length_take] at this; unfold cntA; omega
    have hsb : s ≤ 40 := by rw [hs]; have := List.countP_le_length (p := fun y => fitV vars y nx && y.getD own 0 == nx.getD own 0) (l := cs.take t); simp only [List.length_take] at this; unfold cntE; omega
    have na : cntA vars nx (cs.take (t + 1)) = a + if fitV vars y nx then 1 else 0 := by
      rw [take_get hy, cntA, List.countP_append, ha, cntA, List.countP_singleton]
    have ns : cntE vars nx own (cs.take (t + 1)) = s + if (fitV vars y nx && y.getD own 0 == nx.getD own 0) then 1 else 0 := by
      rw [take_get hy, cntE, List.countP_append, hs, cntE, List.countP_singleton]
    generalize y.getD own 0 = u at *
    generalize nx.getD own 0 = w at *
    clear ha hs hA hE hrow
    cases hB : fitV vars y nx with
    | false =>
      rw [hB] at na ns
      have hin := hin false hB
      refine .inl ⟨(t + 1, a, s), [0], [yes 94, pl 95, ld 96 (sl y), (0, .loop [0] (gfS cards cs own vars S nx t a s y (0, true)) [(True, .exit 6, gfX cards cs own vars S nx t a s y false)]), nu 130 (t + 1 : Nat)], 1000, ⟨hlt, by simpa using na.symm, by simpa using ns.symm⟩, by dsimp only; omega, ?_⟩
      clear hB na ns
      refine Eq.mp (by kernel_rfl : (decide ((↑t : Int) < (↑(List.length cs) : Int)) = true ∧ ((0 : Int) ≤ (↑t : Int) ∧ (↑t : Int) < (↑(List.length cs) : Int)) ∧ headF (List.drop (t * 1) (List.map sl cs)) = some (sl y) ∧ ((0 = 0 ∧ (↑own : Int) = (↑own : Int) ∧ (List.length vars = List.length vars ∧ nt vars = nt vars) ∧ (↑S : Int) = (↑S : Int) ∧ (List.length nx = List.length nx ∧ ints nx = ints nx) ∧ (↑a : Int) = (↑a : Int) ∧ (↑s : Int) = (↑s : Int) ∧ (List.length cs = List.length cs ∧ List.map sl cs = List.map sl cs) ∧ (↑(List.length cs) : Int) = (↑(List.length cs) : Int) ∧ (↑t : Int) = (↑t : Int) ∧ (List.length y = List.length y ∧ ints y = ints y) ∧ true = true ∧ (List.length vars = List.length vars ∧ nt vars = nt vars) ∧ (↑(List.length vars) : Int) = (↑(List.length vars) : Int) ∧ (↑(0 : Nat) : Int) = (0 : Int) ∧ True) ∧ ([sl cards, gC cs] = [sl cards, gC cs] ∧ True ∧ True ∧ True) ∧ True) ∧ Sat Tryd.prog none 0 (at' 9 [1, 1, 1, 1, 1, 1, 1, 1, 1, 1, 1, 1, 0, 1, 0, 0, 1, 1, 0, 0, 1, 1, 0, 1, 0]) (mkSt g0 201 (gfS cards cs own vars S nx t a s y (0, true))) (outsP g0 201 [(True, Ex.exit 6, gfX cards cs own vars S nx t a s y false)]) ∧ (True → wr IntKind.i64 ((↑t : Int) + (1 : Int)) = (↑(t + 1) : Int) ∧ (0 = 0 ∧ (↑own : Int) = (↑own : Int) ∧ (List.length vars = List.length vars ∧ nt vars = nt vars) ∧ (↑S : Int) = (↑S : Int) ∧ (List.length nx = List.length nx ∧ ints nx = ints nx) ∧ (↑a : Int) = (↑a : Int) ∧ (↑s : Int) = (↑s : Int) ∧ (List.length cs = List.length cs ∧ List.map sl cs = List.map sl cs) ∧ (↑(List.length cs) : Int) = (↑(List.length cs) : Int) ∧ (↑(t + 1) : Int) = (↑(t + 1) : Int) ∧ True) ∧ ([sl cards, gC cs] = [sl cards, gC cs] ∧ True ∧ True ∧ True) ∧ True) ∧ True) = _) ?_
      (repeat' (first | (with_reducible apply And.intro) | (refine fun (_ : True) => ?_))) <;> first | exact aq | skip
    | true =>
      rw [hB, Bool.true_and] at ns
      rw [hB] at na
      have hin := hin true hB
      by_cases hu : u = w
      · refine .inl ⟨(t + 1, a + 1, s + 1), [0], [yes 94, pl 95, ld 96 (sl y), (0, .loop [0] (gfS cards cs own vars S nx t a s y (0, true)) [(True, .exit 6, gfX cards cs own vars S nx t a s y true)]), nu 118 (a + 1 : Nat), pl 121, ld 122 (i6 u), pl 125, ld 126 (i6 w), yes 127, nu 129 (s + 1 : Nat), nu 130 (t + 1 : Nat)], 1000, ⟨hlt, by simpa using na.symm, by rw [ns]; simp [hu]⟩, by dsimp only; omega, ?_⟩
        clear hB na ns
        refine Eq.mp (by kernel_rfl : (decide ((↑t : Int) < (↑(List.length cs) : Int)) = true ∧ ((0 : Int) ≤ (↑t : Int) ∧ (↑t : Int) < (↑(List.length cs) : Int)) ∧ headF (List.drop (t * 1) (List.map sl cs)) = some (sl y) ∧ ((0 = 0 ∧ (↑own : Int) = (↑own : Int) ∧ (List.length vars = List.length vars ∧ nt vars = nt vars) ∧ (↑S : Int) = (↑S : Int) ∧ (List.length nx = List.length nx ∧ ints nx = ints nx) ∧ (↑a : Int) = (↑a : Int) ∧ (↑s : Int) = (↑s : Int) ∧ (List.length cs = List.length cs ∧ List.map sl cs = List.map sl cs) ∧ (↑(List.length cs) : Int) = (↑(List.length cs) : Int) ∧ (↑t : Int) = (↑t : Int) ∧ (List.length y = List.length y ∧ ints y = ints y) ∧ true = true ∧ (List.length vars = List.length vars ∧ nt vars = nt vars) ∧ (↑(List.length vars) : Int) = (↑(List.length vars) : Int) ∧ (↑(0 : Nat) : Int) = (0 : Int) ∧ True) ∧ ([sl cards, gC cs] = [sl cards, gC cs] ∧ True ∧ True ∧ True) ∧ True) ∧ Sat Tryd.prog none 0 (at' 9 [1, 1, 1, 1, 1, 1, 1, 1, 1, 1, 1, 1, 0, 1, 0, 0, 1, 1, 0, 0, 1, 1, 0, 1, 0]) (mkSt g0 201 (gfS cards cs own vars S nx t a s y (0, true))) (outsP g0 201 [(True, Ex.exit 6, gfX cards cs own vars S nx t a s y true)]) ∧ (True → wr IntKind.i64 ((↑a : Int) + (1 : Int)) = (↑(a + 1) : Int) ∧ ((0 : Int) ≤ (↑own : Int) ∧ (↑own : Int) < (↑(List.length y) : Int)) ∧ headF (List.drop (own * 1) (ints y)) = some (i6 u) ∧ ((0 : Int) ≤ (↑own : Int) ∧ (↑own : Int) < (↑(List.length nx) : Int)) ∧ headF (List.drop (own * 1) (ints nx)) = some (i6 w) ∧ (u == w) = true ∧ wr IntKind.i64 ((↑s : Int) + (1 : Int)) = (↑(s + 1) : Int) ∧ wr IntKind.i64 ((↑t : Int) + (1 : Int)) = (↑(t + 1) : Int) ∧ (0 = 0 ∧ (↑own : Int) = (↑own : Int) ∧ (List.length vars = List.length vars ∧ nt vars = nt vars) ∧ (↑S : Int) = (↑S : Int) ∧ (List.length nx = List.length nx ∧ ints nx = ints nx) ∧ (↑(a + 1) : Int) = (↑(a + 1) : Int) ∧ (↑(s + 1) : Int) = (↑(s + 1) : Int) ∧ (List.length cs = List.length cs ∧ List.map sl cs = List.map sl cs) ∧ (↑(List.length cs) : Int) = (↑(List.length cs) : Int) ∧ (↑(t + 1) : Int) = (↑(t + 1) : Int) ∧ True) ∧ ([sl cards, gC cs] = [sl cards, gC cs] ∧ True ∧ True ∧ True) ∧ True) ∧ True) = _) ?_
        (repeat' (first | (with_reducible apply And.intro) | (refine fun (_ : True) => ?_))) <;> first | exact aq | skip
      · refine .inl ⟨(t + 1, a + 1, s), [0], [yes 94, pl 95, ld 96 (sl y), (0, .loop [0] (gfS cards cs own vars S nx t a s y (0, true)) [(True, .exit 6, gfX cards cs own vars S nx t a s y true)]), nu 118 (a + 1 : Nat), pl 121, ld 122 (i6 u), pl 125, ld 126 (i6 w), no 127, nu 130 (t + 1 : Nat)], 1000, ⟨hlt, by simpa using na.symm, by rw [ns]; simp [hu]⟩, by dsimp only; omega, ?_⟩
        clear hB na ns
        refine Eq.mp (by kernel_rfl : (decide ((↑t : Int) < (↑(List.length cs) : Int)) = true ∧ ((0 : Int) ≤ (↑t : Int) ∧ (↑t : Int) < (↑(List.length cs) : Int)) ∧ headF (List.drop (t * 1) (List.map sl cs)) = some (sl y) ∧ ((0 = 0 ∧ (↑own : Int) = (↑own : Int) ∧ (List.length vars = List.length vars ∧ nt vars = nt vars) ∧ (↑S : Int) = (↑S : Int) ∧ (List.length nx = List.length nx ∧ ints nx = ints nx) ∧ (↑a : Int) = (↑a : Int) ∧ (↑s : Int) = (↑s : Int) ∧ (List.length cs = List.length cs ∧ List.map sl cs = List.map sl cs) ∧ (↑(List.length cs) : Int) = (↑(List.length cs) : Int) ∧ (↑t : Int) = (↑t : Int) ∧ (List.length y = List.length y ∧ ints y = ints y) ∧ true = true ∧ (List.length vars = List.length vars ∧ nt vars = nt vars) ∧ (↑(List.length vars) : Int) = (↑(List.length vars) : Int) ∧ (↑(0 : Nat) : Int) = (0 : Int) ∧ True) ∧ ([sl cards, gC cs] = [sl cards, gC cs] ∧ True ∧ True ∧ True) ∧ True) ∧ Sat Tryd.prog none 0 (at' 9 [1, 1, 1, 1, 1, 1, 1, 1, 1, 1, 1, 1, 0, 1, 0, 0, 1, 1, 0, 0, 1, 1, 0, 1, 0]) (mkSt g0 201 (gfS cards cs own vars S nx t a s y (0, true))) (outsP g0 201 [(True, Ex.exit 6, gfX cards cs own vars S nx t a s y true)]) ∧ (True → wr IntKind.i64 ((↑a : Int) + (1 : Int)) = (↑(a + 1) : Int) ∧ ((0 : Int) ≤ (↑own : Int) ∧ (↑own : Int) < (↑(List.length y) : Int)) ∧ headF (List.drop (own * 1) (ints y)) = some (i6 u) ∧ ((0 : Int) ≤ (↑own : Int) ∧ (↑own : Int) < (↑(List.length nx) : Int)) ∧ headF (List.drop (own * 1) (ints nx)) = some (i6 w) ∧ (u == w) = false ∧ wr IntKind.i64 ((↑t : Int) + (1 : Int)) = (↑(t + 1) : Int) ∧ (0 = 0 ∧ (↑own : Int) = (↑own : Int) ∧ (List.length vars = List.length vars ∧ nt vars = nt vars) ∧ (↑S : Int) = (↑S : Int) ∧ (List.length nx = List.length nx ∧ ints nx = ints nx) ∧ (↑(a + 1) : Int) = (↑(a + 1) : Int) ∧ (↑s : Int) = (↑s : Int) ∧ (List.length cs = List.length cs ∧ List.map sl cs = List.map sl cs) ∧ (↑(List.length cs) : Int) = (↑(List.length cs) : Int) ∧ (↑(t + 1) : Int) = (↑(t + 1) : Int) ∧ True) ∧ ([sl cards, gC cs] = [sl cards, gC cs] ∧ True ∧ True ∧ True) ∧ True) ∧ True) = _) ?_
        (repeat' (first | (with_reducible apply And.intro) | (refine fun (_ : True) => ?_))) <;> first | exact aq | skip
  · have : t = cs.length := by omega
    subst this
    rw [List.take_length] at ha hs
    rw [← hA, ← hE, ← ha, ← hs]
    refine .inr ⟨.exit 4, [0], gcX cards cs own S nx a s, [no 94], 1000, .inl ⟨trivial, rfl, rfl⟩, ?_⟩
    clear ha hs hA hE
    refine Eq.mp (by kernel_rfl : (decide ((↑(List.length cs) : Int) < (↑(List.length cs) : Int)) = false ∧ (0 = 0 ∧ (↑own : Int) = (↑own : Int) ∧ (↑S : Int) = (↑S : Int) ∧ (List.length nx = List.length nx ∧ ints nx = ints nx) ∧ (↑a : Int) = (↑a : Int) ∧ (↑s : Int) = (↑s : Int) ∧ True) ∧ ([sl cards, gC cs] = [sl cards, gC cs] ∧ True ∧ True ∧ True) ∧ True) = _) ?_
    (repeat' (first | (with_reducible apply And.intro) | (refine fun (_ : True) => ?_))) <;> first | exact aq | skip
end Go.Proofs.YtglpoiaedkoecaaDoor.Am
