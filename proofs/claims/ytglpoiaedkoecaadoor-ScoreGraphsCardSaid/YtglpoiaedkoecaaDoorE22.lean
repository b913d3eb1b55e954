/- Chapter 25: changed data: more rows; Bend.Of as a whole. -/
import Derived.Test.YtglpoiaedkoecaaDoorE21
namespace Go.Proofs.YtglpoiaedkoecaaDoor.Am
open Go.RowKit
set_option linter.unusedVariables false
set_option maxHeartbeats 1000000
set_option maxRecDepth 100000

/-- a list of rows of any kind, in memory that the kernel does not see -/
structure LstR (n : Nat) (rows : List (List Int)) (hl : Nat) (cells : List V) (H : T O) (nx : Nat) : Prop where
  len : cells.length = rows.length
  list : 0 < rows.length → 6 ≤ hl ∧ hl < nx ∧ gt H hl = some (.row 29 (some 1) cells)
  row : ∀ (i : Nat) (cell : V), cells[i]? = some cell → ∃ g room sp c, cell = .sl g 0 n room ∧ 6 ≤ g ∧ g < nx ∧ (g ≠ hl ∨ rows.length = 0) ∧ rows[i]? = some c ∧ c.length = n ∧ gt H g = some (.row 3 sp (ints c))
theorem Rows.lstR {n : Nat} {rows : List (List Int)} {hl : Nat} {hs : List Nat} {H : T O} {nx : Nat} (h : Rows n 6 rows hl hs H nx) : LstR n rows hl (hs.map fun h => V.sl h 0 n none) H nx := by
  refine ⟨by rw [List.length_map]; exact h.len, fun hp => ?_, fun i cell hi => ?_⟩
  · obtain ⟨a, b, c, d⟩ := h.list hp
    exact ⟨a, b, d⟩
  · rw [List.getElem?_map] at hi
    cases hg : hs[i]? with
    | none => rw [hg] at hi; cases hi
    | some g =>
      rw [hg] at hi
      cases hi
      obtain ⟨q1, q2, c, q3, q4, q5⟩ := h.row i g hg
      refine ⟨g, none, some 1, c, rfl, q1, q2, ?_, q3, q4, q5⟩
      by_cases hp : 0 < rows.length
      · refine .inl ?_
        rintro rfl
        exact (h.list hp).2.2.1 (List.mem_of_getElem? hg)
      · exact .inr (by omega)
theorem LstR.sees {n : Nat} {rows : List (List Int)} {hl : Nat} {cells : List V} {H H' : T O} {nx : Nat} (h : LstR n rows hl cells H nx) (hp : 0 < rows.length) (hg : ∀ g, 6 ≤ g → gt H' g = gt H g) : Sees2 H' (.sl hl 0 rows.length none) rows := by
  obtain ⟨l1, l2, l3⟩ := h.list hp
  refine .inr ⟨hl, none, 29, some 1, cells, rfl, by omega, by rw [hg hl l1]; exact l3, h.len, fun i cell hi => ?_⟩
  obtain ⟨g, room, sp, c, rfl, q1, q2, q3, q4, q5, q6⟩ := h.row i cell hi
  exact ⟨c, q4, .inr (.inr ⟨g, 0, room, 3, sp, ints c, by rw [q5], by omega, by rw [hg g q1]; exact q6, rfl⟩)⟩
theorem lst_new {n : Nat} {rows : List (List Int)} {hl hl' g nx nx' : Nat} {cells : List V} {H H' : T O} {room sp : Option Nat} {c : List Int} (h : LstR n rows hl cells H nx) (h6 : 6 ≤ nx) (hn : nx ≤ g ∧ g < hl' ∧ hl' < nx') (hc : c.length = n) (h1 : gt H' g = some (.row 3 sp (ints c))) (h2 : gt H' hl' = some (.row 29 (some 1) (cells ++ [.sl g 0 n room]))) (h3 : ∀ k, k < nx → 6 ≤ k → k ≠ hl ∨ rows.length = 0 → gt H' k = gt H k) : LstR n (rows ++ [c]) hl' (cells ++ [.sl g 0 n room]) H' nx' := by
  refine ⟨by simp [h.len], fun _ => ⟨by omega, hn.2.2, h2⟩, fun i cell hi => ?_⟩
  rw [List.getElem?_append] at hi
  split at hi
  · rename_i hlt
    obtain ⟨k, room', sp', d, rfl, q1, q2, q3, q4, q5, q6⟩ := h.row i cell hi
    exact ⟨k, room', sp', d, rfl, q1, by omega, .inl (by omega), by rw [List.getElem?_append_left (by rw [← h.len]; exact hlt)]; exact q4, q5, by rw [h3 k q2 q1 q3]; exact q6⟩
  · rename_i hge
    have hi2 : i = cells.length := by
      have := (List.getElem?_eq_some_iff.1 hi).1
      simp at this; omega
    subst hi2
    rw [Nat.sub_self] at hi
    cases hi
    exact ⟨g, room, sp, c, rfl, by omega, by omega, .inl (by omega), by rw [h.len]; simp, hc, h1⟩

abbrev moreR (n : Nat) (cs : List (List Int)) (j : Nat) : List (List Int) := cs ++ List.replicate j (List.replicate n 0)
structure M3 (cards : List Int) (cs : List (List Int)) (lv : V) (H : T O) (nx : Nat) : Prop where
  h2 : gt H 2 = some n2
  h4 : gt H 4 = some (.row 3 (some 1) (ints cards))
  h5 : gt H 5 = some (.row 32 none [.sl 4 0 cards.length none, lv])
  nx : 6 ≤ nx
theorem more_succ (n : Nat) (cs : List (List Int)) (j : Nat) : moreR n cs (j + 1) = moreR n cs j ++ [List.replicate n 0] := by
  unfold moreR
  rw [List.replicate_succ', List.append_assoc]
theorem more_loop (cards : List Int) (cs : List (List Int)) (h1 : 1 ≤ cards.length) (h6 : cards.length ≤ 6) (h40 : cs.length ≤ 40) (hl0 : Nat) (cells0 : List V) (H0 : T O) (nx0 : Nat) (lg0 : List Nat) (hM : M3 cards cs (owV hl0 cs.length) H0 nx0) (hL : LstR cards.length cs hl0 cells0 H0 nx0) :
    Sat Pg none 0 (at' 20 [1, 1, 1, 0, 0, 1, 1, 1, 1, 1, 1, 1, 0, 0]) (mkSo g0 138 [(4, .ptr 2 0), (5, .ptr 5 0)] H0 nx0 lg0) (outsM g0 138 (.exit 3) (fun _ => [(4, .ptr 2 0), (5, .ptr 5 0)]) (fun hl H nx lg => ∃ cells, M3 cards cs (.sl hl 0 41 none) H nx ∧ LstR cards.length (moreR cards.length cs (41 - cs.length)) hl cells H nx)) := by
  have key := loopOG (c := at' 20 [1, 1, 1, 0, 0, 1, 1, 1, 1, 1, 1, 1, 0, 0]) (b := at' 20 [1, 1, 1, 0, 0, 1, 1, 1, 1, 1, 1, 1, 0, 0, 0]) (by kernel_rfl) (k := 138) (gl := g0) (fun (q : Nat × Nat × List V) (M' : Mem) => q.1 ≤ 41 - cs.length ∧ M3 cards cs (owV q.2.1 (cs.length + q.1)) M'.H M'.nx ∧ LstR cards.length (moreR cards.length cs q.1) q.2.1 q.2.2 M'.H M'.nx) (fun q => [(4, .ptr 2 0), (5, .ptr 5 0)]) (fun q => 41 - cs.length - q.1) (fun e sl M' => e = .exit 3 ∧ sl = [(4, .ptr 2 0), (5, .ptr 5 0)] ∧ ∃ hl cells, M3 cards cs (.sl hl 0 41 none) M'.H M'.nx ∧ LstR cards.length (moreR cards.length cs (41 - cs.length)) hl cells M'.H M'.nx) (fun q H nx lg G hI hN hE _ => ?_) (0, hl0, cells0) ⟨H0, nx0, lg0⟩ ⟨Nat.zero_le _, hM, by unfold moreR; rw [List.replicate_zero, List.append_nil]; exact hL⟩
  · refine key.mono ?_
    rintro e st ⟨sl, M', rfl, rfl, rfl, hl, cells, hQ⟩
    exact ⟨hl, M'.H, M'.nx, M'.lg, rfl, rfl, cells, hQ⟩
  · obtain ⟨j, hl, cells⟩ := q
    obtain ⟨hj, ⟨b2, b4, b5, b6⟩, hR⟩ := hI
    dsimp only at hj b2 b4 b5 b6 hR hN
    have hrl : (moreR cards.length cs j).length = cs.length + j := by simp [moreR]
    by_cases hlt : j < 41 - cs.length
    · have hN1 := fun hl' g room H nx lg h1 => hN (j + 1, hl', cells ++ [V.sl g 0 cards.length room]) H nx lg ⟨by dsimp only; omega, h1⟩ (by dsimp only; omega)
      dsimp only at hN1
      rw [more_succ] at hN1
      generalize moreR cards.length cs j = rows at *
      have hcl : cells.length = cs.length + j := by rw [hR.len, hrl]
      have hrep : rep cards.length [i6 0] = ints (List.replicate cards.length 0) := rep_ints cards.length 0
      have hfin : ∀ (room : Option Nat) (H' : T O) (lg' : List Nat), gt H' 2 = some n2 → gt H' 4 = some (.row 3 (some 1) (ints cards)) → gt H' 5 = some (.row 32 none [.sl 4 0 cards.length none, .sl (nx + 2) 0 (cs.length + j + 1) none]) → gt H' (nx + 2) = some (.row 29 (some 1) (cells ++ [V.sl nx 0 cards.length room])) → gt H' nx = some (.row 3 none (ints (List.replicate cards.length 0))) → (∀ g, g < nx → 6 ≤ g → g ≠ hl ∨ rows.length = 0 → gt H' g = gt H g) → G .normal [(4, .ptr 2 0), (5, .ptr 5 0)] H' (nx + 3) lg' := by
        intro room H' lg' q2 q4 q5 q6 q7 q8
        refine hN1 (nx + 2) nx room H' (nx + 3) lg' ⟨⟨q2, q4, q5, by omega⟩, ?_⟩
        exact lst_new hR b6 ⟨Nat.le_refl _, by omega, by omega⟩ (by simp) q7 q6 q8
      clear hN hE hN1
      generalize hk : cs.length + j = k at *
      have hk41 : k < 41 := by omega
      have hk0 : rows.length = k := hrl
      clear hk hrl
      cases k with
      | zero =>
        refine ⟨[lo_ 118 (.row 32 none [.sl 4 0 cards.length none, .nils]) .nils, lo_ 122 (.row 32 none [.sl 4 0 cards.length none, .nils]) .nils, lo_ 124 (.row 32 none [.sl 4 0 cards.length none, .nils]) (.sl 4 0 cards.length none), mk 126, (128, .an 1 [.sl nx 0 cards.length (some (cards.length - cards.length))]), so (.row 32 none [.sl 4 0 cards.length none, .nils]) [.sl 4 0 cards.length none, .sl (nx + 1 + 1) 0 1 none], toO [(4, .ptr 2 0), (5, .ptr 5 0)]], 1000, ?_⟩
        refine Eq.mp (by kernel_rfl : (gt H 5 = some (O.row 32 none [V.sl 4 0 (List.length cards) none, V.nils]) ∧ headF (dropF (0 + 1) [V.sl 4 0 (List.length cards) none, V.nils]) = some V.nils ∧ gt H 5 = some (O.row 32 none [V.sl 4 0 (List.length cards) none, V.nils]) ∧ headF (dropF (0 + 1) [V.sl 4 0 (List.length cards) none, V.nils]) = some V.nils ∧ gt H 5 = some (O.row 32 none [V.sl 4 0 (List.length cards) none, V.nils]) ∧ headF (dropF (0 + 0) [V.sl 4 0 (List.length cards) none, V.nils]) = some (V.sl 4 0 (List.length cards) none) ∧ ((0 : Int) ≤ (↑(List.length cards) : Int) ∧ (↑(List.length cards) : Int) ≤ (↑(List.length cards) : Int) ∧ (↑(8 : Nat) : Int) * (↑(List.length cards) : Int) ≤ (281474976710656 : Int) ∧ (↑(List.length cards) : Int) ≤ (9223372036854775807 : Int)) ∧ (srcV (pt (pt H nx (O.row 3 none (rep (List.length cards) [V.int IntKind.i64 (0 : Int)]))) (nx + 1) (O.row 29 none [V.sl nx 0 (List.length cards) (some (List.length cards - List.length cards))])) 1 (V.sl (nx + 1) 0 1 (some 0)) = some (1, [V.sl nx 0 (List.length cards) (some (List.length cards - List.length cards))]) ∧ 1 ≤ 9223372036854775807 ∧ 1 * 24 ≤ 140737488355328) ∧ (gt (pt (pt (pt H nx (O.row 3 none (rep (List.length cards) [V.int IntKind.i64 (0 : Int)]))) (nx + 1) (O.row 29 none [V.sl nx 0 (List.length cards) (some (List.length cards - List.length cards))])) (nx + 1 + 1) (O.row 29 (some 1) [V.sl nx 0 (List.length cards) (some (List.length cards - List.length cards))])) 5 = some (O.row 32 none [V.sl 4 0 (List.length cards) none, V.nils]) ∧ layE (0 + 1) [V.sl 4 0 (List.length cards) none, V.nils] [V.sl (nx + 1 + 1) 0 1 none] = some [V.sl 4 0 (List.length cards) none, V.sl (nx + 1 + 1) 0 1 none]) ∧ G Ex.normal [(4, V.ptr 2 0), (5, V.ptr 5 0)] (pt (pt (pt (pt H nx (O.row 3 none (rep (List.length cards) [V.int IntKind.i64 (0 : Int)]))) (nx + 1) (O.row 29 none [V.sl nx 0 (List.length cards) (some (List.length cards - List.length cards))])) (nx + 1 + 1) (O.row 29 (some 1) [V.sl nx 0 (List.length cards) (some (List.length cards - List.length cards))])) 5 (O.row 32 none [V.sl 4 0 (List.length cards) none, V.sl (nx + 1 + 1) 0 1 none])) (nx + 1 + 1 + 1) ([5] ++ ([] ++ lg)) ∧ V.ptr 2 0 = V.ptr 2 0 ∧ V.ptr 5 0 = V.ptr 5 0 ∧ True) = _) ?_
        (repeat' (first | (with_reducible apply And.intro) | (refine fun (_ : True) => ?_)))
        all_goals first | with_reducible rfl | exact trivial | omega | with_reducible assumption | (with_reducible exact decide_eq_true (by omega)) | with_reducible exact src_at (t := 29) (sp := none) ((gt_pt _ _ _ _).trans ((if_pos rfl).trans (by kernel_rfl))) | (with_reducible refine wr6' ?_ ?_ ?_ <;> omega) | ((repeat (first | (rw [gt_pt, if_pos (by first | rfl | omega)]) | (rw [gt_pt, if_neg (by omega)]))) <;> first | assumption | rfl) | rfl | skip
        refine hfin (some (cards.length - cards.length)) _ _ ?_ ?_ ?_ ?_ ?_ (fun g hg1 hg2 hg3 => ?_)
        · ((repeat (first | (rw [gt_pt, if_pos (by first | rfl | omega)]) | (rw [gt_pt, if_neg (by omega)]))) <;> first | assumption | rfl)
        · ((repeat (first | (rw [gt_pt, if_pos (by first | rfl | omega)]) | (rw [gt_pt, if_neg (by omega)]))) <;> first | assumption | rfl)
        · ((repeat (first | (rw [gt_pt, if_pos (by first | rfl | omega)]) | (rw [gt_pt, if_neg (by omega)]))) <;> first | assumption | rfl)
        · rw [gt_pt, if_neg (by omega), gt_pt, if_pos rfl, List.eq_nil_of_length_eq_zero hcl]; rfl
        · rw [gt_pt, if_neg (by omega), gt_pt, if_neg (by omega), gt_pt, if_neg (by omega), gt_pt, if_pos rfl]; exact congrArg (fun z => some (O.row 3 none z)) hrep
        · rw [gt_pt, if_neg (by omega), gt_pt, if_neg (by omega), gt_pt, if_neg (by omega), gt_pt, if_neg (by omega)]
      | succ k =>
        obtain ⟨l1, l2, l4⟩ := hR.list (by omega)
        refine ⟨[lo_ 118 (.row 32 none [.sl 4 0 cards.length none, .sl hl 0 (k + 1) none]) (.sl hl 0 (k + 1) none), yes 120, lo_ 122 (.row 32 none [.sl 4 0 cards.length none, .sl hl 0 (k + 1) none]) (.sl hl 0 (k + 1) none), lo_ 124 (.row 32 none [.sl 4 0 cards.length none, .sl hl 0 (k + 1) none]) (.sl 4 0 cards.length none), mk 126, (128, .ao (.row 29 (some 1) cells) 1 [.sl nx 0 cards.length (some (cards.length - cards.length))]), so (.row 32 none [.sl 4 0 cards.length none, .sl hl 0 (k + 1) none]) [.sl 4 0 cards.length none, .sl (nx + 1 + 1) 0 (k + 1 + 1) none], toO [(4, .ptr 2 0), (5, .ptr 5 0)]], 1000, ?_⟩
        refine Eq.mp (by kernel_rfl : (gt H 5 = some (O.row 32 none [V.sl 4 0 (List.length cards) none, V.sl hl 0 (k + 1) none]) ∧ headF (dropF (0 + 1) [V.sl 4 0 (List.length cards) none, V.sl hl 0 (k + 1) none]) = some (V.sl hl 0 (k + 1) none) ∧ decide ((↑(k + 1) : Int) < (41 : Int)) = true ∧ gt H 5 = some (O.row 32 none [V.sl 4 0 (List.length cards) none, V.sl hl 0 (k + 1) none]) ∧ headF (dropF (0 + 1) [V.sl 4 0 (List.length cards) none, V.sl hl 0 (k + 1) none]) = some (V.sl hl 0 (k + 1) none) ∧ gt H 5 = some (O.row 32 none [V.sl 4 0 (List.length cards) none, V.sl hl 0 (k + 1) none]) ∧ headF (dropF (0 + 0) [V.sl 4 0 (List.length cards) none, V.sl hl 0 (k + 1) none]) = some (V.sl 4 0 (List.length cards) none) ∧ ((0 : Int) ≤ (↑(List.length cards) : Int) ∧ (↑(List.length cards) : Int) ≤ (↑(List.length cards) : Int) ∧ (↑(8 : Nat) : Int) * (↑(List.length cards) : Int) ≤ (281474976710656 : Int) ∧ (↑(List.length cards) : Int) ≤ (9223372036854775807 : Int)) ∧ srcV (pt (pt H nx (O.row 3 none (rep (List.length cards) [V.int IntKind.i64 (0 : Int)]))) (nx + 1) (O.row 29 none [V.sl nx 0 (List.length cards) (some (List.length cards - List.length cards))])) 1 (V.sl (nx + 1) 0 1 (some 0)) = some (1, [V.sl nx 0 (List.length cards) (some (List.length cards - List.length cards))]) ∧ gt (pt (pt H nx (O.row 3 none (rep (List.length cards) [V.int IntKind.i64 (0 : Int)]))) (nx + 1) (O.row 29 none [V.sl nx 0 (List.length cards) (some (List.length cards - List.length cards))])) hl = some (O.row 29 (some 1) cells) ∧ List.length cells = (k + 1) * 1 ∧ k + 1 + 1 ≤ 9223372036854775807 ∧ (k + 1 + 1) * 24 ≤ 140737488355328 ∧ (gt (pt (pt (pt (pt H nx (O.row 3 none (rep (List.length cards) [V.int IntKind.i64 (0 : Int)]))) (nx + 1) (O.row 29 none [V.sl nx 0 (List.length cards) (some (List.length cards - List.length cards))])) hl O.dead) (nx + 1 + 1) (O.row 29 (some 1) (cells ++ [V.sl nx 0 (List.length cards) (some (List.length cards - List.length cards))]))) 5 = some (O.row 32 none [V.sl 4 0 (List.length cards) none, V.sl hl 0 (k + 1) none]) ∧ layE (0 + 1) [V.sl 4 0 (List.length cards) none, V.sl hl 0 (k + 1) none] [V.sl (nx + 1 + 1) 0 (k + 1 + 1) none] = some [V.sl 4 0 (List.length cards) none, V.sl (nx + 1 + 1) 0 (k + 1 + 1) none]) ∧ G Ex.normal [(4, V.ptr 2 0), (5, V.ptr 5 0)] (pt (pt (pt (pt (pt H nx (O.row 3 none (rep (List.length cards) [V.int IntKind.i64 (0 : Int)]))) (nx + 1) (O.row 29 none [V.sl nx 0 (List.length cards) (some (List.length cards - List.length cards))])) hl O.dead) (nx + 1 + 1) (O.row 29 (some 1) (cells ++ [V.sl nx 0 (List.length cards) (some (List.length cards - List.length cards))]))) 5 (O.row 32 none [V.sl 4 0 (List.length cards) none, V.sl (nx + 1 + 1) 0 (k + 1 + 1) none])) (nx + 1 + 1 + 1) ([5] ++ ([hl] ++ lg)) ∧ V.ptr 2 0 = V.ptr 2 0 ∧ V.ptr 5 0 = V.ptr 5 0 ∧ True) = _) ?_
        (repeat' (first | (with_reducible apply And.intro) | (refine fun (_ : True) => ?_)))
        all_goals first | with_reducible rfl | exact trivial | omega | with_reducible assumption | (with_reducible exact decide_eq_true (by omega)) | with_reducible exact src_at (t := 29) (sp := none) ((gt_pt _ _ _ _).trans ((if_pos rfl).trans (by kernel_rfl))) | (with_reducible refine wr6' ?_ ?_ ?_ <;> omega) | ((repeat (first | (rw [gt_pt, if_pos (by first | rfl | omega)]) | (rw [gt_pt, if_neg (by omega)]))) <;> first | assumption | rfl) | rfl | skip
        refine hfin (some (cards.length - cards.length)) _ _ ?_ ?_ ?_ ?_ ?_ (fun g hg1 hg2 hg3 => ?_)
        · ((repeat (first | (rw [gt_pt, if_pos (by first | rfl | omega)]) | (rw [gt_pt, if_neg (by omega)]))) <;> first | assumption | rfl)
        · ((repeat (first | (rw [gt_pt, if_pos (by first | rfl | omega)]) | (rw [gt_pt, if_neg (by omega)]))) <;> first | assumption | rfl)
        · ((repeat (first | (rw [gt_pt, if_pos (by first | rfl | omega)]) | (rw [gt_pt, if_neg (by omega)]))) <;> first | assumption | rfl)
        · rw [gt_pt, if_neg (by omega), gt_pt, if_pos rfl]
        · rw [gt_pt, if_neg (by omega), gt_pt, if_neg (by omega), gt_pt, if_neg (by omega), gt_pt, if_neg (by omega), gt_pt, if_pos rfl]; exact congrArg (fun z => some (O.row 3 none z)) hrep
        · rw [gt_pt, if_neg (by omega), gt_pt, if_neg (by omega), gt_pt, if_neg (by omega), gt_pt, if_neg (by omega), gt_pt, if_neg (by omega)]
    · have : j = 41 - cs.length := by omega
      subst this
      have hk : cs.length + (41 - cs.length) = 41 := by omega
      rw [hk] at b5
      have hx := hE 3 [(4, .ptr 2 0), (5, .ptr 5 0)] H nx lg ⟨rfl, rfl, hl, cells, ⟨b2, b4, b5, b6⟩, hR⟩
      clear hN hE
      refine ⟨[lo_ 118 (.row 32 none [.sl 4 0 cards.length none, .sl hl 0 41 none]) (.sl hl 0 41 none), toO [(4, .ptr 2 0), (5, .ptr 5 0)]], 1000, ?_⟩
      refine Eq.mp (by kernel_rfl : (gt H 5 = some (O.row 32 none [V.sl 4 0 (List.length cards) none, V.sl hl 0 41 none]) ∧ headF (dropF (0 + 1) [V.sl 4 0 (List.length cards) none, V.sl hl 0 41 none]) = some (V.sl hl 0 41 none) ∧ G (Ex.exit 3) [(4, V.ptr 2 0), (5, V.ptr 5 0)] H nx lg ∧ V.ptr 2 0 = V.ptr 2 0 ∧ V.ptr 5 0 = V.ptr 5 0 ∧ True) = _) ?_
      (repeat' (first | (with_reducible apply And.intro) | (refine fun (_ : True) => ?_)))
      all_goals first | with_reducible rfl | exact trivial | with_reducible assumption | exact b5 | rfl

theorem bend3 (b a N : Int) (cards : List Int) (cs : List (List Int)) (hb : 0 ≤ b ∧ b ≤ 255) (ha : 0 ≤ a ∧ a ≤ 255) (h1 : 1 ≤ cards.length) (h6 : cards.length ≤ 6) (hlen : RowsLen cards.length cs) (h40 : cs.length ≤ 40) (h0 : b % 6 = 3) : FnOk Pg g0 20 [beV b a N, gV cards cs] (gV cards (moreR cards.length cs (41 - cs.length))) := by
  have hloop := fun H nx lg hB => bc_loop b a N cards cs h1 (by omega) hlen (by omega) H nx lg hB
  have hsrc := fun H => @src_im H cards
  have hmore := fun hl cells H nx lg hM hL => more_loop cards cs h1 h6 h40 hl cells H nx lg hM hL
  have hml : (moreR cards.length cs (41 - cs.length)).length = 41 := by simp [moreR]; omega
  generalize moreR cards.length cs (41 - cs.length) = rows at *
  refine FnOk.of_vcX (n := 1000) (r := [2]) (sl := [(4, .ptr 2 0)]) (S := { sl := [(4, .ptr 0 0)], os := [.row 32 none [sl cards, gC rows]] }) (hs := [(12, .cp cards.length (ints cards)), (0, .loopM (bcS 0) (.exit 0) (fun _ => bcX) (fun hl H nx lg => ∃ hs, BH b a N cards cs cs hl hs H nx) (fun hl H nx lg => [lo_ 36 (bdO b a N) (w8 b), nu 37 (b % 6), no 38, lo_ 53 (bdO b a N) (w8 b), nu 54 (b % 6), no 55, lo_ 86 (bdO b a N) (w8 b), nu 87 (b % 6), no 88, lo_ 114 (bdO b a N) (w8 b), nu 115 (b % 6), yes 116, (0, .loopM [(4, .ptr 2 0), (5, .ptr 5 0)] (.exit 3) (fun _ => [(4, .ptr 2 0), (5, .ptr 5 0)]) (fun hl H nx lg => ∃ cells, M3 cards cs (.sl hl 0 41 none) H nx ∧ LstR cards.length rows hl cells H nx) (fun hl H nx lg => [lo_ 137 (.row 32 none [.sl 4 0 cards.length none, .sl hl 0 41 none]) (.agg [.sl 4 0 cards.length none, .sl hl 0 41 none]), so n2 [.sl 4 0 cards.length none, .sl hl 0 41 none]]))]))]) ?_
  refine Eq.mp (by kernel_rfl : (V.agg [sl cards, gC rows] = gV cards rows ∧ (srcV (pt (pt (pt (pt T.e 0 (O.row 27 none [w8 b, w8 a, i6 N])) (0 + 1) (O.row 32 none [sl cards, gC cs])) (0 + 1 + 1) (O.row 32 none [V.nils, V.nils])) (0 + 1 + 1 + 1) (O.row 3 none [])) 1 (sl cards) = some (List.length cards, ints cards) ∧ srcV (pt (pt (pt (pt T.e 0 (O.row 27 none [w8 b, w8 a, i6 N])) (0 + 1) (O.row 32 none [sl cards, gC cs])) (0 + 1 + 1) (O.row 32 none [V.nils, V.nils])) (0 + 1 + 1 + 1) (O.row 3 none [])) 1 (V.sl (0 + 1 + 1 + 1) 0 0 (some 0)) = some (0, []) ∧ 1 ≤ List.length cards ∧ List.length cards ≤ 9223372036854775807 ∧ List.length cards * 8 ≤ 140737488355328) ∧ (V.ptr 0 0 = V.ptr 0 0 ∧ V.ptr (0 + 1) 0 = V.ptr 1 0 ∧ V.ptr (0 + 1 + 1) 0 = V.ptr 2 0 ∧ V.ptr (0 + 1 + 1 + 1 + 1 + 1) 0 = V.ptr 5 0 ∧ V.int IntKind.i64 (0 : Int) = i6 (↑(0 : Nat) : Int) ∧ True) ∧ Sat Pg none 0 (at' 20 [1, 1, 0, 1, 0]) (mkSo g0 138 (bcS 0) (pt (pt (pt (pt (pt (pt (pt T.e 0 (O.row 27 none [w8 b, w8 a, i6 N])) (0 + 1) (O.row 32 none [sl cards, gC cs])) (0 + 1 + 1) (O.row 32 none [V.nils, V.nils])) (0 + 1 + 1 + 1) (O.row 3 none [])) (0 + 1 + 1 + 1 + 1) (O.row 3 (some 1) (ints cards))) (0 + 1 + 1 + 1 + 1 + 1) (O.row 32 none [V.nils, V.nils])) (0 + 1 + 1 + 1 + 1 + 1) (O.row 32 none [V.sl (0 + 1 + 1 + 1 + 1) 0 (List.length cards) none, V.nils])) (0 + 1 + 1 + 1 + 1 + 1 + 1) ([0 + 1 + 1 + 1 + 1 + 1] ++ ([] ++ []))) (outsM g0 138 (Ex.exit 0) (fun x => bcX) fun hl H nx lg => ∃ hs, BH b a N cards cs cs hl hs H nx) ∧ ∀ (h : Nat) (H : T O) (nx : Nat) (lg : List Nat), (∃ hs, BH b a N cards cs cs h hs H nx) → gt H 0 = some (bdO b a N) ∧ headF (dropF (0 + 0) (bdL b a N)) = some (w8 b) ∧ Int.tmod b (6 : Int) = b % (6 : Int) ∧ (b % (6 : Int) == (0 : Int)) = false ∧ gt H 0 = some (bdO b a N) ∧ headF (dropF (0 + 0) (bdL b a N)) = some (w8 b) ∧ Int.tmod b (6 : Int) = b % (6 : Int) ∧ (b % (6 : Int) == (1 : Int)) = false ∧ gt H 0 = some (bdO b a N) ∧ headF (dropF (0 + 0) (bdL b a N)) = some (w8 b) ∧ Int.tmod b (6 : Int) = b % (6 : Int) ∧ (b % (6 : Int) == (2 : Int)) = false ∧ gt H 0 = some (bdO b a N) ∧ headF (dropF (0 + 0) (bdL b a N)) = some (w8 b) ∧ Int.tmod b (6 : Int) = b % (6 : Int) ∧ (b % (6 : Int) == (3 : Int)) = true ∧ (V.ptr 2 0 = V.ptr 2 0 ∧ V.ptr 5 0 = V.ptr 5 0 ∧ True) ∧ Sat Pg none 0 (at' 20 [1, 1, 1, 0, 0, 1, 1, 1, 1, 1, 1, 1, 0, 0]) (mkSo g0 138 [(4, V.ptr 2 0), (5, V.ptr 5 0)] H nx lg) (outsM g0 138 (Ex.exit 3) (fun x => [(4, V.ptr 2 0), (5, V.ptr 5 0)]) fun hl H nx lg => ∃ cells, M3 cards cs (V.sl hl 0 41 none) H nx ∧ LstR (List.length cards) rows hl cells H nx) ∧ ∀ (h : Nat) (H : T O) (nx : Nat) (lg : List Nat), (∃ cells, M3 cards cs (V.sl h 0 41 none) H nx ∧ LstR (List.length cards) rows h cells H nx) → gt H 5 = some (O.row 32 none [V.sl 4 0 (List.length cards) none, V.sl h 0 41 none]) ∧ takeE 2 [V.sl 4 0 (List.length cards) none, V.sl h 0 41 none] = some [V.sl 4 0 (List.length cards) none, V.sl h 0 41 none] ∧ (gt H 2 = some n2 ∧ layE 0 [V.nils, V.nils] [V.sl 4 0 (List.length cards) none, V.sl h 0 41 none] = some [V.sl 4 0 (List.length cards) none, V.sl h 0 41 none]) ∧ (V.ptr 2 0 = V.ptr 2 0 ∧ True) ∧ Gc 0 [2] (mkSo g0 138 [(4, V.ptr 2 0)] (pt H 2 (O.row 32 none [V.sl 4 0 (List.length cards) none, V.sl h 0 41 none])) nx ([2] ++ lg)) (mkSt g0 138 (SL.mk [(4, V.ptr 0 0)] [O.row 32 none [sl cards, gC rows]] [] []))) = _) ?_
  (repeat' (first | (with_reducible apply And.intro) | (refine fun (_ : True) => ?_)))
  all_goals first | with_reducible rfl | exact trivial | omega | with_reducible assumption | with_reducible exact hsrc _ | with_reducible exact src_nil (t := 3) (sp := none) (by kernel_rfl) | exact hloop _ _ _ ⟨by kernel_rfl, by kernel_rfl, by kernel_rfl, by kernel_rfl, by kernel_rfl, by decide⟩ | rfl | skip
  intro hl H nx lg hQ
  obtain ⟨hs, ⟨b0, b1, b2, b4, b5, b6⟩, hRw⟩ := hQ
  (repeat' (first | (with_reducible apply And.intro) | (refine fun (_ : True) => ?_)))
  all_goals first | with_reducible rfl | exact trivial | omega | with_reducible assumption | (with_reducible refine beq_true' ?_; omega) | (with_reducible refine beq_false' ?_; omega) | with_reducible exact emod6 hb | exact hmore _ _ _ _ _ ⟨b2, b4, b5, b6⟩ hRw.lstR | rfl | skip
  intro hl' H' nx' lg' hQ'
  obtain ⟨cells, ⟨c2, c4, c5, c6⟩, hLs⟩ := hQ'
  (repeat' (first | (with_reducible apply And.intro) | (refine fun (_ : True) => ?_)))
  all_goals first | with_reducible rfl | exact trivial | omega | with_reducible assumption | rfl | skip
  refine fin_gc (cv := .sl 4 0 cards.length none) (lv := .sl hl' 0 41 none) ?_ ?_ (.inr (.inr ⟨4, 0, none, 3, some 1, ints cards, rfl, ?_, ?_, rfl⟩)) ?_
  · omega
  · ((repeat (first | (rw [gt_pt, if_pos (by first | rfl | omega)]) | (rw [gt_pt, if_neg (by omega)]))) <;> first | assumption | rfl)
  · omega
  · ((repeat (first | (rw [gt_pt, if_pos (by first | rfl | omega)]) | (rw [gt_pt, if_neg (by omega)]))) <;> first | assumption | rfl)
  · have := hLs.sees (H' := pt H' 2 (.row 32 none [.sl 4 0 cards.length none, .sl hl' 0 41 none])) (by omega) (fun g hg => by rw [gt_pt, if_neg (by omega)])
    rwa [hml] at this

/-! ### Bend.Of -/
theorem bend_fn (b a N : Int) (cards : List Int) (cs : List (List Int)) (hb : 0 ≤ b ∧ b ≤ 255) (ha : 0 ≤ a ∧ a ≤ 255) (h1 : 1 ≤ cards.length) (h6 : cards.length ≤ 6) (hlen : RowsLen cards.length cs) (h40 : cs.length ≤ 40) : ∃ cards' cs', FnOk Pg g0 20 [beV b a N, gV cards cs] (gV cards' cs') ∧ cards'.length ≤ 6 ∧ cs'.length ≤ 41 ∧ ∀ c ∈ cs', c.length ≤ 6 := by
  have hle : ∀ c ∈ cs, c.length ≤ 6 := fun c hc => by rw [hlen c hc]; exact h6
  have hb6 : b % 6 = 0 ∨ b % 6 = 1 ∨ b % 6 = 2 ∨ b % 6 = 3 ∨ b % 6 = 4 ∨ b % 6 = 5 := by omega
  cases hR : cs.length with
  | zero =>
    rcases hb6 with h | h | h | h | h | h
    · exact ⟨_, _, bend0z b a N cards cs hb ha h1 h6 hlen h40 hR h, by rw [List.length_set]; exact h6, by omega, hle⟩
    · exact ⟨_, _, bend1z b a N cards cs hb ha h1 h6 hlen h40 hR h, by simp, by omega, hle⟩
    · exact ⟨_, _, bend2z b a N cards cs hb ha h1 h6 hlen h40 hR h, by simp, by omega, hle⟩
    · refine ⟨_, _, bend3 b a N cards cs hb ha h1 h6 hlen h40 h, h6, by simp [moreR]; omega, fun c hc => ?_⟩
      rcases List.mem_append.1 hc with hc | hc
      · exact hle c hc
      · rw [(List.mem_replicate.1 hc).2, List.length_replicate]; exact h6
    · exact ⟨_, _, bend4z b a N cards cs hb ha h1 h6 hlen h40 hR h, by simp, by simp, fun c hc => by cases hc⟩
    · exact ⟨_, _, bend5z b a N cards cs hb ha h1 h6 hlen h40 hR h, by simp, by omega, hle⟩
  | succ m =>
    rcases hb6 with h | h | h | h | h | h
    · exact ⟨_, _, bend0s m b a N cards cs hb ha h1 h6 hlen h40 hR h, by rw [List.length_set]; exact h6, by omega, hle⟩
    · obtain ⟨cs', h2, h3, h4⟩ := bend1s b a N cards cs hb ha h1 h6 hlen h40 m hR h
      exact ⟨_, _, h2, h6, by omega, fun c hc => by rw [h4 c hc]; exact h6⟩
    · have : cards.length = 1 ∨ ∃ k, cards.length = k + 2 := by
        rcases Nat.lt_or_ge 1 cards.length with h' | h'
        · exact .inr ⟨cards.length - 2, by omega⟩
        · exact .inl (by omega)
      rcases this with hn | ⟨k, hn⟩
      · obtain ⟨cs', h2, h3, h4⟩ := bend2s1 b a N cards cs hb ha h1 h6 hlen h40 m hR h hn
        exact ⟨_, _, h2, h6, by omega, fun c hc => by have := h4 c hc; omega⟩
      · obtain ⟨cs', h2, h3, h4⟩ := bend2s2 b a N cards cs hb ha h1 h6 hlen h40 m hR h k hn
        exact ⟨_, _, h2, h6, by omega, fun c hc => by have := h4 c hc; omega⟩
    · refine ⟨_, _, bend3 b a N cards cs hb ha h1 h6 hlen h40 h, h6, by simp [moreR]; omega, fun c hc => ?_⟩
      rcases List.mem_append.1 hc with hc | hc
      · exact hle c hc
      · rw [(List.mem_replicate.1 hc).2, List.length_replicate]; exact h6
    · exact ⟨_, _, bend4s m b a N cards cs hb ha h1 h6 hlen h40 hR h, by simp, by simp, fun c hc => by cases hc⟩
    · exact ⟨_, _, bend5s m b a N cards cs hb ha h1 h6 hlen h40 hR h, by simp, by omega, hle⟩

end Go.Proofs.YtglpoiaedkoecaaDoor.Am
