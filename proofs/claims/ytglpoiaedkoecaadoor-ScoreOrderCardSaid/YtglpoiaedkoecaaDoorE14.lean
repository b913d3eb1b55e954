/- Chapter 25: drafts of data: all rows; what is missing. -/
import Derived.Test.YtglpoiaedkoecaaDoorE13
namespace Go.Proofs.YtglpoiaedkoecaaDoor.Am
open Go.RowKit
set_option linter.unusedVariables false
set_option maxHeartbeats 1000000
set_option maxRecDepth 100000

/-- rows of our own, in memory that the kernel does not see: their blocks are hs, the list of them is block hl -/
structure Rows (n lo : Nat) (rows : List (List Int)) (hl : Nat) (hs : List Nat) (H : T O) (nx : Nat) : Prop where
  len : hs.length = rows.length
  list : 0 < rows.length → lo ≤ hl ∧ hl < nx ∧ hl ∉ hs ∧ gt H hl = some (.row 29 (some 1) (hs.map fun h => V.sl h 0 n none))
  nodup : hs.Nodup
  row : ∀ (i h : Nat), hs[i]? = some h → lo ≤ h ∧ h < nx ∧ ∃ c, rows[i]? = some c ∧ c.length = n ∧ gt H h = some (.row 3 (some 1) (ints c))
structure DH (C : List Int) (ks : List (Nat → Int)) (fo : Int) (M cards : List Int) (room sp : Option Nat) (rows : List (List Int)) (hl : Nat) (hs : List Nat) (H : T O) (nx : Nat) : Prop where
  base : Base C ks fo M cards room sp (owV hl rows.length) H nx
  rows : Rows cards.length 4 rows hl hs H nx

theorem rows_new {n lo : Nat} {rows : List (List Int)} {hl h : Nat} {hs : List Nat} {H H' : T O} {nx nx' hl' : Nat} {c : List Int} (hR : Rows n lo rows hl hs H nx) (hn : nx ≤ h ∧ h < hl' ∧ hl' < nx') (hlo : lo ≤ nx) (hc : c.length = n) (h1 : gt H' h = some (.row 3 (some 1) (ints c))) (h2 : gt H' hl' = some (.row 29 (some 1) (hs.map (fun h => V.sl h 0 n none) ++ [.sl h 0 n none]))) (h3 : ∀ g ∈ hs, gt H' g = gt H g) : Rows n lo (rows ++ [c]) hl' (hs ++ [h]) H' nx' := by
  have hlt : ∀ g ∈ hs, g < nx := fun g hg => by
    obtain ⟨i, hi, rfl⟩ := List.getElem_of_mem hg
    exact (hR.row i _ (List.getElem?_eq_getElem hi)).2.1
  refine ⟨by simp [hR.len], fun _ => ⟨by omega, by omega, ?_, by rw [h2, List.map_append]; rfl⟩, ?_, fun i g hg => ?_⟩
  · rw [List.mem_append, List.mem_singleton]
    rintro (hm | hm)
    · have := hlt _ hm; omega
    · omega
  · rw [List.nodup_append]
    refine ⟨hR.nodup, by simp, fun a ha b hb => ?_⟩
    obtain rfl := List.mem_singleton.1 hb
    have := hlt a ha
    omega
  · rw [List.getElem?_append] at hg
    split at hg
    · rename_i hi
      obtain ⟨a1, a2, d, a3, a4, a5⟩ := hR.row i g hg
      exact ⟨a1, by omega, d, by rw [List.getElem?_append_left (by rw [← hR.len]; exact hi)]; exact a3, a4, by rw [h3 g (List.mem_of_getElem? hg)]; exact a5⟩
    · rename_i hi
      have hi2 : i = hs.length := by
        have := (List.getElem?_eq_some_iff.1 hg).1
        simp at this; omega
      subst hi2
      rw [Nat.sub_self] at hg
      cases hg
      exact ⟨by omega, by omega, c, by rw [hR.len]; simp, hc, h1⟩

abbrev drows (ks : List (Nat → Int)) (fo : Int) (cards : List Int) (m : Nat) : List (List Int) := (ks.take m).map fun f => rowD f fo cards cards.length
theorem drows_succ {ks : List (Nat → Int)} {fo : Int} {cards : List Int} {m : Nat} {f : Nat → Int} (h : ks[m]? = some f) : drows ks fo cards (m + 1) = drows ks fo cards m ++ [rowD f fo cards cards.length] := by
  unfold drows
  rw [List.take_add_one, h, List.map_append]; rfl
theorem dr_loop (C : List Int) (ks : List (Nat → Int)) (fo : Int) (M cards : List Int) (room sp : Option Nat) (hK : KOk ks) (hfo : 0 ≤ fo ∧ fo ≤ 255) (hc : CdOk cards) (m : Nat) (hm : m = min ks.length 40) (H0 : T O) (nx0 : Nat) (lg0 : List Nat) (hB : Base C ks fo M cards room sp .nils H0 nx0) :
    Sat Pg none 0 (at' 19 [1, 1, 1, 1, 0, 1, 0]) (mkSo g0 139 (dbS 0) H0 nx0 lg0) (outsM g0 139 (.exit 2) (fun _ => [(1, .ptr 0 0), (2, .ptr 1 0), (3, .ptr 2 0)]) (fun hl H nx lg => ∃ hs, DH C ks fo M cards room sp (drows ks fo cards m) hl hs H nx)) := by
  have key := loopOG (c := at' 19 [1, 1, 1, 1, 0, 1, 0]) (b := at' 19 [1, 1, 1, 1, 0, 1, 0, 0]) (by kernel_rfl) (k := 139) (gl := g0) (fun (q : Nat × Nat × List Nat) (M' : Mem) => q.1 ≤ m ∧ DH C ks fo M cards room sp (drows ks fo cards q.1) q.2.1 q.2.2 M'.H M'.nx) (fun q => dbS q.1) (fun q => m - q.1) (fun e sl M' => e = .exit 2 ∧ sl = [(1, .ptr 0 0), (2, .ptr 1 0), (3, .ptr 2 0)] ∧ ∃ hl hs, DH C ks fo M cards room sp (drows ks fo cards m) hl hs M'.H M'.nx) (fun q H nx lg G hI hN hE _ => ?_) (0, 0, []) ⟨H0, nx0, lg0⟩ ⟨Nat.zero_le _, hB, rfl, fun h => absurd h (Nat.lt_irrefl _), List.nodup_nil, fun i h hi => by simp at hi⟩
  · refine key.mono ?_
    rintro e st ⟨sl, M', rfl, rfl, rfl, hl, hs, hQ⟩
    exact ⟨hl, M'.H, M'.nx, M'.lg, rfl, rfl, hs, hQ⟩
  · obtain ⟨i, hl, hs⟩ := q
    obtain ⟨hi, hD⟩ := hI
    dsimp only at hi hD hN
    have hrl : (drows ks fo cards i).length = i := by simp only [drows, List.length_map, List.length_take]; omega
    obtain ⟨hB', hR⟩ := hD
    rw [hrl] at hB'
    obtain ⟨b0, b1, b2, b3, b4⟩ := hB'
    by_cases hlt : i < m
    · have hki : ks[i]? = some ks[i] := List.getElem?_eq_getElem (by omega)
      have hkl : i < ks.length := by omega
      generalize ks[i] = f at *
      have hin := di_loop C ks fo M cards room sp (owV hl i) i f hki hK hfo hc H nx lg ⟨b0, b1, b2, b3, b4⟩
      have hcl := rowD_length f fo cards cards.length
      have hsucc := @drows_succ ks fo cards i f hki
      have hN1 := fun hl' h H nx lg h1 => hN (i + 1, hl', hs ++ [h]) H nx lg ⟨by dsimp only; omega, h1⟩ (by dsimp only; omega)
      dsimp only at hN1
      rw [hsucc] at hN1
      have hpos := hc.pos
      generalize rowD f fo cards cards.length = c at *
      generalize drows ks fo cards i = rows at *
      have hrlen : (rows ++ [c]).length = i + 1 := by simp [hrl]
      have hsl : hs.length = i := by rw [hR.len, hrl]
      have hhs : ∀ g ∈ hs, g < nx ∧ 4 ≤ g := fun g hg => by
        obtain ⟨t, ht, rfl⟩ := List.getElem_of_mem hg
        have := hR.row t _ (List.getElem?_eq_getElem ht)
        exact ⟨this.2.1, this.1⟩
      have hfin : ∀ (h : Nat) (H1 H' : T O) (nx' hl' : Nat) (lg' : List Nat), rowQ H nx c h H1 (hl' - 1) [] → gt H' 0 = some (dfO C ks fo M) → gt H' 1 = some n2 → gt H' 2 = some (.row 32 none [.sl 3 0 cards.length room, .sl hl' 0 (i + 1) none]) → gt H' 3 = some (.row 3 sp (ints cards)) → hl' < nx' → gt H' hl' = some (.row 29 (some 1) (hs.map (fun h => V.sl h 0 cards.length none) ++ [.sl h 0 cards.length none])) → (∀ g, g < hl' - 1 → 4 ≤ g → g ≠ hl ∨ i = 0 → gt H' g = gt H1 g) → G .normal (dbS (i + 1)) H' nx' lg' := by
        intro h H1 H' nx' hl' lg' hQ q0 q1 q2 q3 q4 q5 q6
        obtain ⟨a1, a2, a3, a4⟩ := hQ
        refine hN1 hl' h H' nx' lg' ⟨⟨q0, q1, by rw [hrlen]; exact q2, q3, by omega⟩, ?_⟩
        have hne : ∀ g ∈ hs, g ≠ hl ∨ i = 0 := fun g hg => by
          by_cases h0 : i = 0
          · exact .inr h0
          · refine .inl ?_
            rintro rfl
            exact (hR.list (by omega)).2.2.1 hg
        refine rows_new hR ⟨a2, by omega, q4⟩ b4 hcl ?_ q5 (fun g hg => ?_)
        · rw [q6 h a3 (by omega) ?_]; exact a4
          by_cases h0 : i = 0
          · exact .inr h0
          · refine .inl ?_
            have := (hR.list (by omega)).2.1
            omega
        · have h1 := hhs g hg
          rw [q6 g (by omega) h1.2 (hne g hg)]; exact a1 g h1.1
      cases i with
      | zero =>
        refine ⟨[lo_ 43 (dfO C ks fo M) (kV ks), yes 45, yes 48, (0, .loopM (diS 0 (0, 0)) (.exit 4) (diX 0 cards.length) (rowQ H nx c) (fun h H' nx' lg' => [lo_ 94 (.row 32 none [.sl 3 0 cards.length room, .nils]) .nils, (97, .an 1 [.sl h 0 cards.length none]), so (.row 32 none [.sl 3 0 cards.length room, .nils]) [.sl 3 0 cards.length room, .sl (nx' + 1) 0 1 none], nu 51 1, toO (dbS 1)]))], 1000, ?_⟩
        refine Eq.mp (by kernel_rfl : (gt H 0 = some (dfO C ks fo M) ∧ headF (dropF (0 + 1) (dfL C ks fo M)) = some (kV ks) ∧ decide ((↑(0 : Nat) : Int) < (↑(List.length ks) : Int)) = true ∧ decide ((↑(0 : Nat) : Int) < (40 : Int)) = true ∧ (V.ptr 0 0 = V.ptr 0 0 ∧ V.ptr 1 0 = V.ptr 1 0 ∧ V.ptr 2 0 = V.ptr 2 0 ∧ i6 (↑(0 : Nat) : Int) = i6 (↑(0 : Nat) : Int) ∧ V.nils = owV 0 0 ∧ V.int IntKind.i64 (0 : Int) = i6 (↑(0 : Nat) : Int) ∧ True) ∧ Sat Pg none 0 (at' 19 [1, 1, 1, 1, 0, 1, 0, 0, 1, 0, 0, 1, 0, 1, 0]) (mkSo g0 139 (diS 0 (0, 0)) H nx lg) (outsM g0 139 (Ex.exit 4) (diX 0 (List.length cards)) (rowQ H nx c)) ∧ ∀ (h : Nat) (H_1 : T O) (nx_1 : Nat) (lg : List Nat), (∀ (g : Nat), g < nx → gt H_1 g = gt H g) ∧ nx ≤ h ∧ h < nx_1 ∧ gt H_1 h = some (O.row 3 (some 1) (ints c)) → gt H_1 2 = some (O.row 32 none [V.sl 3 0 (List.length cards) room, V.nils]) ∧ headF (dropF (0 + 1) [V.sl 3 0 (List.length cards) room, V.nils]) = some V.nils ∧ (srcV (pt H_1 nx_1 (O.row 29 none [V.sl h 0 (List.length cards) none])) 1 (V.sl nx_1 0 1 (some 0)) = some (1, [V.sl h 0 (List.length cards) none]) ∧ 1 ≤ 9223372036854775807 ∧ 1 * 24 ≤ 140737488355328) ∧ (gt (pt (pt H_1 nx_1 (O.row 29 none [V.sl h 0 (List.length cards) none])) (nx_1 + 1) (O.row 29 (some 1) [V.sl h 0 (List.length cards) none])) 2 = some (O.row 32 none [V.sl 3 0 (List.length cards) room, V.nils]) ∧ layE (0 + 1) [V.sl 3 0 (List.length cards) room, V.nils] [V.sl (nx_1 + 1) 0 1 none] = some [V.sl 3 0 (List.length cards) room, V.sl (nx_1 + 1) 0 1 none]) ∧ wr IntKind.i64 ((↑(0 : Nat) : Int) + (1 : Int)) = (1 : Int) ∧ G Ex.normal (dbS 1) (pt (pt (pt H_1 nx_1 (O.row 29 none [V.sl h 0 (List.length cards) none])) (nx_1 + 1) (O.row 29 (some 1) [V.sl h 0 (List.length cards) none])) 2 (O.row 32 none [V.sl 3 0 (List.length cards) room, V.sl (nx_1 + 1) 0 1 none])) (nx_1 + 1 + 1) ([2] ++ ([] ++ lg)) ∧ V.ptr 0 0 = V.ptr 0 0 ∧ V.ptr 1 0 = V.ptr 1 0 ∧ V.ptr 2 0 = V.ptr 2 0 ∧ V.int IntKind.i64 (1 : Int) = i6 (↑(1 : Nat) : Int) ∧ True) = _) ?_
        refine ⟨?_, ?_, ?_, ?_, ?_, ?_, ?_⟩
        all_goals first | exact b0 | rfl | (exact decide_eq_true (by omega)) | exact ⟨rfl, rfl, rfl, rfl, rfl, rfl, trivial⟩ | exact hin | skip
        intro h H1 nx1 lg1 hQ
        obtain ⟨a1, a2, a3, a4⟩ := hQ
        have g0' : gt H1 0 = some (dfO C ks fo M) := (a1 0 (by omega)).trans b0
        have g1' : gt H1 1 = some n2 := (a1 1 (by omega)).trans b1
        have g2' := (a1 2 (by omega)).trans b2
        have g3' : gt H1 3 = some (.row 3 sp (ints cards)) := (a1 3 (by omega)).trans b3
        (repeat' (first | (with_reducible apply And.intro) | (refine fun (_ : True) => ?_))) <;> first | exact aq | skip
        all_goals first | rfl | exact g2' | omega | exact src_at (t := 29) (sp := none) ((gt_pt _ _ _ _).trans ((if_pos rfl).trans (by kernel_rfl))) | ((repeat (first | (rw [gt_pt, if_pos (by first | rfl | omega)]) | (rw [gt_pt, if_neg (by omega)]))) <;> first | assumption | rfl) | (rw [List.length_map]; omega) | skip
        refine hfin h H1 _ _ (nx1 + 1) _ ⟨a1, a2, a3, a4⟩ ?_ ?_ ?_ ?_ ?_ ?_ ?_
        · ((repeat (first | (rw [gt_pt, if_pos (by first | rfl | omega)]) | (rw [gt_pt, if_neg (by omega)]))) <;> first | assumption | rfl)
        · ((repeat (first | (rw [gt_pt, if_pos (by first | rfl | omega)]) | (rw [gt_pt, if_neg (by omega)]))) <;> first | assumption | rfl)
        · ((repeat (first | (rw [gt_pt, if_pos (by first | rfl | omega)]) | (rw [gt_pt, if_neg (by omega)]))) <;> first | assumption | rfl)
        · ((repeat (first | (rw [gt_pt, if_pos (by first | rfl | omega)]) | (rw [gt_pt, if_neg (by omega)]))) <;> first | assumption | rfl)
        · omega
        · rw [gt_pt, if_neg (by omega), gt_pt, if_pos rfl, List.eq_nil_of_length_eq_zero hsl]; rfl
        · intro g hg1 hg2 hg3
          rw [gt_pt, if_neg (by omega), gt_pt, if_neg (by omega), gt_pt, if_neg (by omega)]
      | succ i =>
        refine ⟨[lo_ 43 (dfO C ks fo M) (kV ks), yes 45, yes 48, (0, .loopM (diS (i + 1) (0, 0)) (.exit 4) (diX (i + 1) cards.length) (rowQ H nx c) (fun h H' nx' lg' => [lo_ 94 (.row 32 none [.sl 3 0 cards.length room, .sl hl 0 (i + 1) none]) (.sl hl 0 (i + 1) none), (97, .ao (.row 29 (some 1) (hs.map fun h => V.sl h 0 cards.length none)) 1 [.sl h 0 cards.length none]), so (.row 32 none [.sl 3 0 cards.length room, .sl hl 0 (i + 1) none]) [.sl 3 0 cards.length room, .sl (nx' + 1) 0 (i + 1 + 1) none], nu 51 (i + 1 + 1 : Nat), toO (dbS (i + 1 + 1))]))], 1000, ?_⟩
        refine Eq.mp (by kernel_rfl : (gt H 0 = some (dfO C ks fo M) ∧ headF (dropF (0 + 1) (dfL C ks fo M)) = some (kV ks) ∧ decide ((↑(i + 1) : Int) < (↑(List.length ks) : Int)) = true ∧ decide ((↑(i + 1) : Int) < (40 : Int)) = true ∧ (V.ptr 0 0 = V.ptr 0 0 ∧ V.ptr 1 0 = V.ptr 1 0 ∧ V.ptr 2 0 = V.ptr 2 0 ∧ i6 (↑(i + 1) : Int) = i6 (↑(i + 1) : Int) ∧ V.nils = owV 0 0 ∧ V.int IntKind.i64 (0 : Int) = i6 (↑(0 : Nat) : Int) ∧ True) ∧ Sat Pg none 0 (at' 19 [1, 1, 1, 1, 0, 1, 0, 0, 1, 0, 0, 1, 0, 1, 0]) (mkSo g0 139 (diS (i + 1) (0, 0)) H nx lg) (outsM g0 139 (Ex.exit 4) (diX (i + 1) (List.length cards)) (rowQ H nx c)) ∧ ∀ (h : Nat) (H_1 : T O) (nx_1 : Nat) (lg : List Nat), (∀ (g : Nat), g < nx → gt H_1 g = gt H g) ∧ nx ≤ h ∧ h < nx_1 ∧ gt H_1 h = some (O.row 3 (some 1) (ints c)) → gt H_1 2 = some (O.row 32 none [V.sl 3 0 (List.length cards) room, V.sl hl 0 (i + 1) none]) ∧ headF (dropF (0 + 1) [V.sl 3 0 (List.length cards) room, V.sl hl 0 (i + 1) none]) = some (V.sl hl 0 (i + 1) none) ∧ srcV (pt H_1 nx_1 (O.row 29 none [V.sl h 0 (List.length cards) none])) 1 (V.sl nx_1 0 1 (some 0)) = some (1, [V.sl h 0 (List.length cards) none]) ∧ gt (pt H_1 nx_1 (O.row 29 none [V.sl h 0 (List.length cards) none])) hl = some (O.row 29 (some 1) (List.map (fun h => V.sl h 0 (List.length cards) none) hs)) ∧ List.length (List.map (fun h => V.sl h 0 (List.length cards) none) hs) = (i + 1) * 1 ∧ i + 1 + 1 ≤ 9223372036854775807 ∧ (i + 1 + 1) * 24 ≤ 140737488355328 ∧ (gt (pt (pt (pt H_1 nx_1 (O.row 29 none [V.sl h 0 (List.length cards) none])) hl O.dead) (nx_1 + 1) (O.row 29 (some 1) (List.map (fun h => V.sl h 0 (List.length cards) none) hs ++ [V.sl h 0 (List.length cards) none]))) 2 = some (O.row 32 none [V.sl 3 0 (List.length cards) room, V.sl hl 0 (i + 1) none]) ∧ layE (0 + 1) [V.sl 3 0 (List.length cards) room, V.sl hl 0 (i + 1) none] [V.sl (nx_1 + 1) 0 (i + 1 + 1) none] = some [V.sl 3 0 (List.length cards) room, V.sl (nx_1 + 1) 0 (i + 1 + 1) none]) ∧ wr IntKind.i64 ((↑(i + 1) : Int) + (1 : Int)) = (↑(i + 1 + 1) : Int) ∧ G Ex.normal (dbS (i + 1 + 1)) (pt (pt (pt (pt H_1 nx_1 (O.row 29 none [V.sl h 0 (List.length cards) none])) hl O.dead) (nx_1 + 1) (O.row 29 (some 1) (List.map (fun h => V.sl h 0 (List.length cards) none) hs ++ [V.sl h 0 (List.length cards) none]))) 2 (O.row 32 none [V.sl 3 0 (List.length cards) room, V.sl (nx_1 + 1) 0 (i + 1 + 1) none])) (nx_1 + 1 + 1) ([2] ++ ([hl] ++ lg)) ∧ V.ptr 0 0 = V.ptr 0 0 ∧ V.ptr 1 0 = V.ptr 1 0 ∧ V.ptr 2 0 = V.ptr 2 0 ∧ V.int IntKind.i64 (↑(i + 1 + 1) : Int) = i6 (↑(i + 1 + 1) : Int) ∧ True) = _) ?_
        refine ⟨?_, ?_, ?_, ?_, ?_, ?_, ?_⟩
        all_goals first | exact b0 | rfl | (exact decide_eq_true (by omega)) | exact ⟨rfl, rfl, rfl, rfl, rfl, rfl, trivial⟩ | exact hin | skip
        intro h H1 nx1 lg1 hQ
        obtain ⟨a1, a2, a3, a4⟩ := hQ
        have g0' : gt H1 0 = some (dfO C ks fo M) := (a1 0 (by omega)).trans b0
        have g1' : gt H1 1 = some n2 := (a1 1 (by omega)).trans b1
        have g2' := (a1 2 (by omega)).trans b2
        have g3' : gt H1 3 = some (.row 3 sp (ints cards)) := (a1 3 (by omega)).trans b3
        obtain ⟨l1, l2, l3, l4⟩ := hR.list (by omega)
        have gl' := (a1 hl l2).trans l4
        (repeat' (first | (with_reducible apply And.intro) | (refine fun (_ : True) => ?_))) <;> first | exact aq | skip
        all_goals first | rfl | exact g2' | omega | exact src_at (t := 29) (sp := none) ((gt_pt _ _ _ _).trans ((if_pos rfl).trans (by kernel_rfl))) | ((repeat (first | (rw [gt_pt, if_pos (by first | rfl | omega)]) | (rw [gt_pt, if_neg (by omega)]))) <;> first | assumption | rfl) | (rw [List.length_map]; omega) | skip
        refine hfin h H1 _ _ (nx1 + 1) _ ⟨a1, a2, a3, a4⟩ ?_ ?_ ?_ ?_ ?_ ?_ ?_
        · ((repeat (first | (rw [gt_pt, if_pos (by first | rfl | omega)]) | (rw [gt_pt, if_neg (by omega)]))) <;> first | assumption | rfl)
        · ((repeat (first | (rw [gt_pt, if_pos (by first | rfl | omega)]) | (rw [gt_pt, if_neg (by omega)]))) <;> first | assumption | rfl)
        · ((repeat (first | (rw [gt_pt, if_pos (by first | rfl | omega)]) | (rw [gt_pt, if_neg (by omega)]))) <;> first | assumption | rfl)
        · ((repeat (first | (rw [gt_pt, if_pos (by first | rfl | omega)]) | (rw [gt_pt, if_neg (by omega)]))) <;> first | assumption | rfl)
        · omega
        · rw [gt_pt, if_neg (by omega), gt_pt, if_pos rfl]
        · intro g hg1 hg2 hg3
          rw [gt_pt, if_neg (by omega), gt_pt, if_neg (by omega), gt_pt, if_neg (by omega), gt_pt, if_neg (by omega)]
    · have : i = m := by omega
      subst this
      by_cases h40 : i < ks.length
      · refine ⟨[lo_ 43 (dfO C ks fo M) (kV ks), yes 45, no 48, toO [(1, .ptr 0 0), (2, .ptr 1 0), (3, .ptr 2 0)]], 1000, ?_⟩
        have hx := hE 2 _ H nx lg ⟨rfl, rfl, hl, hs, ⟨⟨b0, b1, by rw [hrl]; exact b2, b3, b4⟩, hR⟩⟩
        refine Eq.mp (by kernel_rfl : (gt H 0 = some (dfO C ks fo M) ∧ headF (dropF (0 + 1) (dfL C ks fo M)) = some (kV ks) ∧ decide ((↑i : Int) < (↑(List.length ks) : Int)) = true ∧ decide ((↑i : Int) < (40 : Int)) = false ∧ G (Ex.exit 2) [(1, V.ptr 0 0), (2, V.ptr 1 0), (3, V.ptr 2 0)] H nx lg ∧ V.ptr 0 0 = V.ptr 0 0 ∧ V.ptr 1 0 = V.ptr 1 0 ∧ V.ptr 2 0 = V.ptr 2 0 ∧ True) = _) ?_
        exact au
      · refine ⟨[lo_ 43 (dfO C ks fo M) (kV ks), no 45, toO [(1, .ptr 0 0), (2, .ptr 1 0), (3, .ptr 2 0)]], 1000, ?_⟩
        have hx := hE 2 _ H nx lg ⟨rfl, rfl, hl, hs, ⟨⟨b0, b1, by rw [hrl]; exact b2, b3, b4⟩, hR⟩⟩
        refine Eq.mp (by kernel_rfl : (gt H 0 = some (dfO C ks fo M) ∧ headF (dropF (0 + 1) (dfL C ks fo M)) = some (kV ks) ∧ decide ((↑i : Int) < (↑(List.length ks) : Int)) = false ∧ G (Ex.exit 2) [(1, V.ptr 0 0), (2, V.ptr 1 0), (3, V.ptr 2 0)] H nx lg ∧ V.ptr 0 0 = V.ptr 0 0 ∧ V.ptr 1 0 = V.ptr 1 0 ∧ V.ptr 2 0 = V.ptr 2 0 ∧ True) = _) ?_
        exact au

end Go.Proofs.YtglpoiaedkoecaaDoor.Am
