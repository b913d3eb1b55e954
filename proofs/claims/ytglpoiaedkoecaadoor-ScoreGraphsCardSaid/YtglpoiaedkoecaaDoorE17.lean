/- Chapter 25: changed data: Bend.Of copies the data. -/
import Derived.Test.YtglpoiaedkoecaaDoorE16
namespace Go.Proofs.YtglpoiaedkoecaaDoor.Am
open Go.RowKit
set_option linter.unusedVariables false
set_option maxHeartbeats 1000000
set_option maxRecDepth 100000

abbrev bdL (b a N : Int) : List V := [w8 b, w8 a, i6 N]
abbrev bdO (b a N : Int) : O := .row 27 none (bdL b a N)
abbrev beV (b a N : Int) : V := .agg (bdL b a N)
theorem src_im {H : T O} {l : List Int} : srcV H 1 (sl l) = some (l.length, ints l) := by
  unfold srcV
  have h : Nat.ble (l.length * 1) (ints l).length = true := Nat.ble_eq_true_of_le (by rw [ints_length]; omega)
  simp only [h, cond_true]
  rw [Nat.mul_one, List.take_of_length_le (by rw [ints_length]; omega)]
theorem src_nil {H : T O} {h : Nat} {t : Nat} {sp : Option Nat} {room : Option Nat} (hg : gt H h = some (.row t sp [])) : srcV H 1 (.sl h 0 0 room) = some (0, []) := by
  rw [gt_eq] at hg
  unfold srcV
  dsimp only
  rw [hg]
  rfl

structure BBase (b a N : Int) (cards : List Int) (cs : List (List Int)) (lv : V) (H : T O) (nx : Nat) : Prop where
  h0 : gt H 0 = some (bdO b a N)
  h1 : gt H 1 = some (gO cards cs)
  h2 : gt H 2 = some n2
  h4 : gt H 4 = some (.row 3 (some 1) (ints cards))
  h5 : gt H 5 = some (.row 32 none [.sl 4 0 cards.length none, lv])
  nx : 6 ≤ nx
structure BH (b a N : Int) (cards : List Int) (cs rows : List (List Int)) (hl : Nat) (hs : List Nat) (H : T O) (nx : Nat) : Prop where
  base : BBase b a N cards cs (owV hl rows.length) H nx
  rows : Rows cards.length 6 rows hl hs H nx
abbrev bcS (i : Nat) : List (Nat × V) := [(2, .ptr 0 0), (3, .ptr 1 0), (4, .ptr 2 0), (5, .ptr 5 0), (6, i6 i)]
abbrev bcX : List (Nat × V) := [(2, .ptr 0 0), (4, .ptr 2 0), (5, .ptr 5 0)]
theorem bc_loop (b a N : Int) (cards : List Int) (cs : List (List Int)) (h1 : 1 ≤ cards.length) (h6 : cards.length ≤ 1000) (hlen : RowsLen cards.length cs) (h40 : cs.length ≤ 1000) (H0 : T O) (nx0 : Nat) (lg0 : List Nat) (hB : BBase b a N cards cs .nils H0 nx0) :
    Sat Pg none 0 (at' 20 [1, 1, 0, 1, 0]) (mkSo g0 138 (bcS 0) H0 nx0 lg0) (outsM g0 138 (.exit 0) (fun _ => bcX) (fun hl H nx lg => ∃ hs, BH b a N cards cs cs hl hs H nx)) := by
  have key := loopOG (c := at' 20 [1, 1, 0, 1, 0]) (b := at' 20 [1, 1, 0, 1, 0, 0]) (by kernel_rfl) (k := 138) (gl := g0) (fun (q : Nat × Nat × List Nat) (M' : Mem) => q.1 ≤ cs.length ∧ BH b a N cards cs (cs.take q.1) q.2.1 q.2.2 M'.H M'.nx) (fun q => bcS q.1) (fun q => cs.length - q.1) (fun e sl M' => e = .exit 0 ∧ sl = bcX ∧ ∃ hl hs, BH b a N cards cs cs hl hs M'.H M'.nx) (fun q H nx lg G hI hN hE _ => ?_) (0, 0, []) ⟨H0, nx0, lg0⟩ ⟨Nat.zero_le _, hB, rfl, fun h => absurd h (Nat.lt_irrefl _), List.nodup_nil, fun i h hi => by simp at hi⟩
  · refine key.mono ?_
    rintro e st ⟨sl, M', rfl, rfl, rfl, hl, hs, hQ⟩
    exact ⟨hl, M'.H, M'.nx, M'.lg, rfl, rfl, hs, hQ⟩
  · obtain ⟨i, hl, hs⟩ := q
    obtain ⟨hi, hD⟩ := hI
    dsimp only at hi hD hN
    have hrl : (cs.take i).length = i := by rw [List.length_take]; omega
    obtain ⟨hB', hR⟩ := hD
    rw [hrl] at hB'
    obtain ⟨b0, b1, b2, b4, b5, b6⟩ := hB'
    by_cases hlt : i < cs.length
    · have hci : cs[i]? = some cs[i] := List.getElem?_eq_getElem hlt
      have hcl := hlen _ (List.getElem_mem hlt)
      have hsucc : cs.take (i + 1) = cs.take i ++ [cs[i]] := by rw [List.take_add_one, hci]; rfl
      have hN1 := fun hl' h H nx lg h1 => hN (i + 1, hl', hs ++ [h]) H nx lg ⟨by dsimp only; omega, h1⟩ (by dsimp only; omega)
      dsimp only at hN1
      rw [hsucc] at hN1
      generalize cs[i] = c at *
      have hld : headF ((cs.map sl).drop (i * 1)) = some (sl c) := head_map hci
      have hsrc := fun H => @src_im H c
      rw [hcl] at hsrc
      generalize cs.take i = rows at *
      have hrlen : (rows ++ [c]).length = i + 1 := by simp [hrl]
      have hsl : hs.length = i := by rw [hR.len, hrl]
      have hhs : ∀ g ∈ hs, g < nx ∧ 6 ≤ g := fun g hg => by
        obtain ⟨t, ht, rfl⟩ := List.getElem_of_mem hg
        have := hR.row t _ (List.getElem?_eq_getElem ht)
        exact ⟨this.2.1, this.1⟩
      have hfin : ∀ (H' : T O) (lg' : List Nat), gt H' 0 = some (bdO b a N) → gt H' 1 = some (gO cards cs) → gt H' 2 = some n2 → gt H' 4 = some (.row 3 (some 1) (ints cards)) → gt H' 5 = some (.row 32 none [.sl 4 0 cards.length none, .sl (nx + 3) 0 (i + 1) none]) → gt H' (nx + 3) = some (.row 29 (some 1) (hs.map (fun h => V.sl h 0 cards.length none) ++ [.sl (nx + 1) 0 cards.length none])) → gt H' (nx + 1) = some (.row 3 (some 1) (ints c)) → (∀ g, g < nx → 6 ≤ g → g ≠ hl ∨ i = 0 → gt H' g = gt H g) → G .normal (bcS (i + 1)) H' (nx + 4) lg' := by
        intro H' lg' q0 q1 q2 q4 q5 q6 q7 q8
        refine hN1 (nx + 3) (nx + 1) H' (nx + 4) lg' ⟨⟨q0, q1, q2, q4, by rw [hrlen]; exact q5, by omega⟩, ?_⟩
        refine rows_new hR ⟨by omega, by omega, by omega⟩ b6 hcl q7 q6 (fun g hg => ?_)
        have h1 := hhs g hg
        refine q8 g h1.1 h1.2 ?_
        by_cases h0 : i = 0
        · exact .inr h0
        · refine .inl ?_
          rintro rfl
          exact (hR.list (by omega)).2.2.1 hg
      clear hN hE hN1 hsucc
      cases i with
      | zero =>
        refine ⟨[lo_ 16 (gO cards cs) (gC cs), yes 18, lo_ 25 (gO cards cs) (gC cs), pl 27, ld 28 (sl c), (29, .cp cards.length (ints c)), lo_ 22 (.row 32 none [.sl 4 0 cards.length none, .nils]) .nils, (31, .an 1 [.sl (nx + 1) 0 cards.length none]), so (.row 32 none [.sl 4 0 cards.length none, .nils]) [.sl 4 0 cards.length none, .sl (nx + 1 + 1 + 1) 0 1 none], nu 20 1, toO (bcS 1)], 1000, ?_⟩
        refine Eq.mp (by kernel_rfl : (gt H 1 = some (gO cards cs) ∧ headF (dropF (0 + 1) [sl cards, gC cs]) = some (gC cs) ∧ decide ((↑(0 : Nat) : Int) < (↑(List.length cs) : Int)) = true ∧ gt (pt H nx (O.row 3 none [])) 1 = some (gO cards cs) ∧ headF (dropF (0 + 1) [sl cards, gC cs]) = some (gC cs) ∧ ((0 : Int) ≤ (↑(0 : Nat) : Int) ∧ (↑(0 : Nat) : Int) < (↑(List.length cs) : Int)) ∧ headF (List.drop (0 * 1) (List.map sl cs)) = some (sl c) ∧ (srcV (pt H nx (O.row 3 none [])) 1 (sl c) = some (List.length cards, ints c) ∧ srcV (pt H nx (O.row 3 none [])) 1 (V.sl nx 0 0 (some 0)) = some (0, []) ∧ 1 ≤ List.length cards ∧ List.length cards ≤ 9223372036854775807 ∧ List.length cards * 8 ≤ 140737488355328) ∧ gt (pt (pt H nx (O.row 3 none [])) (nx + 1) (O.row 3 (some 1) (ints c))) 5 = some (O.row 32 none [V.sl 4 0 (List.length cards) none, V.nils]) ∧ headF (dropF (0 + 1) [V.sl 4 0 (List.length cards) none, V.nils]) = some V.nils ∧ (srcV (pt (pt (pt H nx (O.row 3 none [])) (nx + 1) (O.row 3 (some 1) (ints c))) (nx + 1 + 1) (O.row 29 none [V.sl (nx + 1) 0 (List.length cards) none])) 1 (V.sl (nx + 1 + 1) 0 1 (some 0)) = some (1, [V.sl (nx + 1) 0 (List.length cards) none]) ∧ 1 ≤ 9223372036854775807 ∧ 1 * 24 ≤ 140737488355328) ∧ (gt (pt (pt (pt (pt H nx (O.row 3 none [])) (nx + 1) (O.row 3 (some 1) (ints c))) (nx + 1 + 1) (O.row 29 none [V.sl (nx + 1) 0 (List.length cards) none])) (nx + 1 + 1 + 1) (O.row 29 (some 1) [V.sl (nx + 1) 0 (List.length cards) none])) 5 = some (O.row 32 none [V.sl 4 0 (List.length cards) none, V.nils]) ∧ layE (0 + 1) [V.sl 4 0 (List.length cards) none, V.nils] [V.sl (nx + 1 + 1 + 1) 0 1 none] = some [V.sl 4 0 (List.length cards) none, V.sl (nx + 1 + 1 + 1) 0 1 none]) ∧ wr IntKind.i64 ((↑(0 : Nat) : Int) + (1 : Int)) = (1 : Int) ∧ G Ex.normal (bcS 1) (pt (pt (pt (pt (pt H nx (O.row 3 none [])) (nx + 1) (O.row 3 (some 1) (ints c))) (nx + 1 + 1) (O.row 29 none [V.sl (nx + 1) 0 (List.length cards) none])) (nx + 1 + 1 + 1) (O.row 29 (some 1) [V.sl (nx + 1) 0 (List.length cards) none])) 5 (O.row 32 none [V.sl 4 0 (List.length cards) none, V.sl (nx + 1 + 1 + 1) 0 1 none])) (nx + 1 + 1 + 1 + 1) ([5] ++ ([] ++ ([] ++ lg))) ∧ V.ptr 0 0 = V.ptr 0 0 ∧ V.ptr 1 0 = V.ptr 1 0 ∧ V.ptr 2 0 = V.ptr 2 0 ∧ V.ptr 5 0 = V.ptr 5 0 ∧ V.int IntKind.i64 (1 : Int) = i6 (↑(1 : Nat) : Int) ∧ True) = _) ?_
        (repeat' (first | (with_reducible apply And.intro) | (refine fun (_ : True) => ?_)))
        all_goals first | with_reducible rfl | exact trivial | omega | with_reducible assumption | with_reducible exact hld | with_reducible exact hsrc _ | (with_reducible exact decide_eq_true (by omega)) | (rw [List.length_map]; omega) | with_reducible exact src_nil (t := 3) (sp := none) ((gt_pt _ _ _ _).trans (if_pos rfl)) | with_reducible exact src_at (t := 29) (sp := none) ((gt_pt _ _ _ _).trans ((if_pos rfl).trans (by kernel_rfl))) | (with_reducible refine wr6' ?_ ?_ ?_ <;> omega) | ((repeat (first | (rw [gt_pt, if_pos (by first | rfl | omega)]) | (rw [gt_pt, if_neg (by omega)]))) <;> first | assumption | rfl) | rfl | skip
        refine hfin _ _ ?_ ?_ ?_ ?_ ?_ ?_ ?_ ?_
        · ((repeat (first | (rw [gt_pt, if_pos (by first | rfl | omega)]) | (rw [gt_pt, if_neg (by omega)]))) <;> first | assumption | rfl)
        · ((repeat (first | (rw [gt_pt, if_pos (by first | rfl | omega)]) | (rw [gt_pt, if_neg (by omega)]))) <;> first | assumption | rfl)
        · ((repeat (first | (rw [gt_pt, if_pos (by first | rfl | omega)]) | (rw [gt_pt, if_neg (by omega)]))) <;> first | assumption | rfl)
        · ((repeat (first | (rw [gt_pt, if_pos (by first | rfl | omega)]) | (rw [gt_pt, if_neg (by omega)]))) <;> first | assumption | rfl)
        · ((repeat (first | (rw [gt_pt, if_pos (by first | rfl | omega)]) | (rw [gt_pt, if_neg (by omega)]))) <;> first | assumption | rfl)
        · rw [gt_pt, if_neg (by omega), gt_pt, if_pos rfl, List.eq_nil_of_length_eq_zero hsl]; rfl
        · ((repeat (first | (rw [gt_pt, if_pos (by first | rfl | omega)]) | (rw [gt_pt, if_neg (by omega)]))) <;> first | assumption | rfl)
        · intro g hg1 hg2 hg3
          rw [gt_pt, if_neg (by omega), gt_pt, if_neg (by omega), gt_pt, if_neg (by omega), gt_pt, if_neg (by omega), gt_pt, if_neg (by omega)]
      | succ i =>
        refine ⟨[lo_ 16 (gO cards cs) (gC cs), yes 18, lo_ 25 (gO cards cs) (gC cs), pl 27, ld 28 (sl c), (29, .cp cards.length (ints c)), lo_ 22 (.row 32 none [.sl 4 0 cards.length none, .sl hl 0 (i + 1) none]) (.sl hl 0 (i + 1) none), (31, .ao (.row 29 (some 1) (hs.map fun h => V.sl h 0 cards.length none)) 1 [.sl (nx + 1) 0 cards.length none]), so (.row 32 none [.sl 4 0 cards.length none, .sl hl 0 (i + 1) none]) [.sl 4 0 cards.length none, .sl (nx + 1 + 1 + 1) 0 (i + 1 + 1) none], nu 20 (i + 1 + 1 : Nat), toO (bcS (i + 1 + 1))], 1000, ?_⟩
        refine Eq.mp (by kernel_rfl : (gt H 1 = some (gO cards cs) ∧ headF (dropF (0 + 1) [sl cards, gC cs]) = some (gC cs) ∧ decide ((↑(i + 1) : Int) < (↑(List.length cs) : Int)) = true ∧ gt (pt H nx (O.row 3 none [])) 1 = some (gO cards cs) ∧ headF (dropF (0 + 1) [sl cards, gC cs]) = some (gC cs) ∧ ((0 : Int) ≤ (↑(i + 1) : Int) ∧ (↑(i + 1) : Int) < (↑(List.length cs) : Int)) ∧ headF (List.drop ((i + 1) * 1) (List.map sl cs)) = some (sl c) ∧ (srcV (pt H nx (O.row 3 none [])) 1 (sl c) = some (List.length cards, ints c) ∧ srcV (pt H nx (O.row 3 none [])) 1 (V.sl nx 0 0 (some 0)) = some (0, []) ∧ 1 ≤ List.length cards ∧ List.length cards ≤ 9223372036854775807 ∧ List.length cards * 8 ≤ 140737488355328) ∧ gt (pt (pt H nx (O.row 3 none [])) (nx + 1) (O.row 3 (some 1) (ints c))) 5 = some (O.row 32 none [V.sl 4 0 (List.length cards) none, V.sl hl 0 (i + 1) none]) ∧ headF (dropF (0 + 1) [V.sl 4 0 (List.length cards) none, V.sl hl 0 (i + 1) none]) = some (V.sl hl 0 (i + 1) none) ∧ srcV (pt (pt (pt H nx (O.row 3 none [])) (nx + 1) (O.row 3 (some 1) (ints c))) (nx + 1 + 1) (O.row 29 none [V.sl (nx + 1) 0 (List.length cards) none])) 1 (V.sl (nx + 1 + 1) 0 1 (some 0)) = some (1, [V.sl (nx + 1) 0 (List.length cards) none]) ∧ gt (pt (pt (pt H nx (O.row 3 none [])) (nx + 1) (O.row 3 (some 1) (ints c))) (nx + 1 + 1) (O.row 29 none [V.sl (nx + 1) 0 (List.length cards) none])) hl = some (O.row 29 (some 1) (List.map (fun h => V.sl h 0 (List.length cards) none) hs)) ∧ List.length (List.map (fun h => V.sl h 0 (List.length cards) none) hs) = (i + 1) * 1 ∧ i + 1 + 1 ≤ 9223372036854775807 ∧ (i + 1 + 1) * 24 ≤ 140737488355328 ∧ (gt (pt (pt (pt (pt (pt H nx (O.row 3 none [])) (nx + 1) (O.row 3 (some 1) (ints c))) (nx + 1 + 1) (O.row 29 none [V.sl (nx + 1) 0 (List.length cards) none])) hl O.dead) (nx + 1 + 1 + 1) (O.row 29 (some 1) (List.map (fun h => V.sl h 0 (List.length cards) none) hs ++ [V.sl (nx + 1) 0 (List.length cards) none]))) 5 = some (O.row 32 none [V.sl 4 0 (List.length cards) none, V.sl hl 0 (i + 1) none]) ∧ layE (0 + 1) [V.sl 4 0 (List.length cards) none, V.sl hl 0 (i + 1) none] [V.sl (nx + 1 + 1 + 1) 0 (i + 1 + 1) none] = some [V.sl 4 0 (List.length cards) none, V.sl (nx + 1 + 1 + 1) 0 (i + 1 + 1) none]) ∧ wr IntKind.i64 ((↑(i + 1) : Int) + (1 : Int)) = (↑(i + 1 + 1) : Int) ∧ G Ex.normal (bcS (i + 1 + 1)) (pt (pt (pt (pt (pt (pt H nx (O.row 3 none [])) (nx + 1) (O.row 3 (some 1) (ints c))) (nx + 1 + 1) (O.row 29 none [V.sl (nx + 1) 0 (List.length cards) none])) hl O.dead) (nx + 1 + 1 + 1) (O.row 29 (some 1) (List.map (fun h => V.sl h 0 (List.length cards) none) hs ++ [V.sl (nx + 1) 0 (List.length cards) none]))) 5 (O.row 32 none [V.sl 4 0 (List.length cards) none, V.sl (nx + 1 + 1 + 1) 0 (i + 1 + 1) none])) (nx + 1 + 1 + 1 + 1) ([5] ++ ([hl] ++ ([] ++ lg))) ∧ V.ptr 0 0 = V.ptr 0 0 ∧ V.ptr 1 0 = V.ptr 1 0 ∧ V.ptr 2 0 = V.ptr 2 0 ∧ V.ptr 5 0 = V.ptr 5 0 ∧ V.int IntKind.i64 (↑(i + 1 + 1) : Int) = i6 (↑(i + 1 + 1) : Int) ∧ True) = _) ?_
        obtain ⟨l1, l2, l3, l4⟩ := hR.list (by omega)
        (repeat' (first | (with_reducible apply And.intro) | (refine fun (_ : True) => ?_)))
        all_goals first | with_reducible rfl | exact trivial | omega | with_reducible assumption | with_reducible exact hld | with_reducible exact hsrc _ | (with_reducible exact decide_eq_true (by omega)) | (rw [List.length_map]; omega) | with_reducible exact src_nil (t := 3) (sp := none) ((gt_pt _ _ _ _).trans (if_pos rfl)) | with_reducible exact src_at (t := 29) (sp := none) ((gt_pt _ _ _ _).trans ((if_pos rfl).trans (by kernel_rfl))) | (with_reducible refine wr6' ?_ ?_ ?_ <;> omega) | ((repeat (first | (rw [gt_pt, if_pos (by first | rfl | omega)]) | (rw [gt_pt, if_neg (by omega)]))) <;> first | assumption | rfl) | rfl | skip
        refine hfin _ _ ?_ ?_ ?_ ?_ ?_ ?_ ?_ ?_
        · ((repeat (first | (rw [gt_pt, if_pos (by first | rfl | omega)]) | (rw [gt_pt, if_neg (by omega)]))) <;> first | assumption | rfl)
        · ((repeat (first | (rw [gt_pt, if_pos (by first | rfl | omega)]) | (rw [gt_pt, if_neg (by omega)]))) <;> first | assumption | rfl)
        · ((repeat (first | (rw [gt_pt, if_pos (by first | rfl | omega)]) | (rw [gt_pt, if_neg (by omega)]))) <;> first | assumption | rfl)
        · ((repeat (first | (rw [gt_pt, if_pos (by first | rfl | omega)]) | (rw [gt_pt, if_neg (by omega)]))) <;> first | assumption | rfl)
        · ((repeat (first | (rw [gt_pt, if_pos (by first | rfl | omega)]) | (rw [gt_pt, if_neg (by omega)]))) <;> first | assumption | rfl)
        · rw [gt_pt, if_neg (by omega), gt_pt, if_pos rfl]
        · ((repeat (first | (rw [gt_pt, if_pos (by first | rfl | omega)]) | (rw [gt_pt, if_neg (by omega)]))) <;> first | assumption | rfl)
        · intro g hg1 hg2 hg3
          rw [gt_pt, if_neg (by omega), gt_pt, if_neg (by omega), gt_pt, if_neg (by omega), gt_pt, if_neg (by omega), gt_pt, if_neg (by omega), gt_pt, if_neg (by omega)]
    · have : i = cs.length := by omega
      subst this
      rw [List.take_length] at hR hrl
      have hx := hE 0 bcX H nx lg ⟨rfl, rfl, hl, hs, ⟨⟨b0, b1, b2, b4, b5, b6⟩, hR⟩⟩
      refine ⟨[lo_ 16 (gO cards cs) (gC cs), no 18, toO bcX], 1000, ?_⟩
      clear hN hE
      refine Eq.mp (by kernel_rfl : (gt H 1 = some (gO cards cs) ∧ headF (dropF (0 + 1) [sl cards, gC cs]) = some (gC cs) ∧ decide ((↑(List.length cs) : Int) < (↑(List.length cs) : Int)) = false ∧ G (Ex.exit 0) bcX H nx lg ∧ V.ptr 0 0 = V.ptr 0 0 ∧ V.ptr 2 0 = V.ptr 2 0 ∧ V.ptr 5 0 = V.ptr 5 0 ∧ True) = _) ?_
      exact au

end Go.Proofs.YtglpoiaedkoecaaDoor.Am
