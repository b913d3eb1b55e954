/- Chapter 25: changed data: a row without its first number; more rows. -/
import Derived.Test.YtglpoiaedkoecaaDoorE20
namespace Go.Proofs.YtglpoiaedkoecaaDoor.Am
open Go.RowKit
set_option linter.unusedVariables false
set_option maxHeartbeats 1000000
set_option maxRecDepth 100000

/-- a row without its first number, as a value -/
def cutV (g : Nat) : Nat → V
  | 0 => .im 0 []
  | 1 => .im 0 []
  | n + 2 => .sl g 1 (n + 1) none
theorem slice_cut (g n : Nat) (h : 1 ≤ n) : sliceV (ctxOf Pg) 29 (.sl g 0 n none) (some 1) none none = some (cutV g n) := by
  have e1 : (ctxOf Pg).ty 29 = some ⟨.slice 3, 1, 24, false, some [.nils]⟩ := by kernel_rfl
  have e2 : (ctxOf Pg).ty 3 = some ⟨.int .i64, 1, 8, false, some [i6 0]⟩ := by kernel_rfl
  cases n with
  | zero => omega
  | succ n =>
    unfold sliceV
    rw [e1]
    dsimp only
    rw [e2]
    dsimp only
    simp only [Option.getD_some, Option.getD_none, Option.isSome_none, Option.isNone_none, Bool.and_self, cond_true, Bool.false_eq_true, false_implies, and_true]
    rw [if_pos ⟨by omega, by omega, by omega, by omega⟩]
    cases n with
    | zero => rw [if_pos (by omega)]; rfl
    | succ n =>
      rw [if_neg (by omega), if_pos (.inr (by omega))]
      rfl
theorem cut_sees {H : T O} {g n : Nat} {c : List Int} {t : Nat} {sp : Option Nat} (hg : g ≠ 2) (h : gt H g = some (.row t sp (ints c))) (hn : c.length = n) : Sees1 H (cutV g n) (c.drop 1) := by
  match n, hn with
  | 0, hn => exact .inl (by rw [show c.drop 1 = [] from List.eq_nil_of_length_eq_zero (by simp; omega)]; rfl)
  | 1, hn => exact .inl (by rw [show c.drop 1 = [] from List.eq_nil_of_length_eq_zero (by simp; omega)]; rfl)
  | n + 2, hn => exact .inr (.inr ⟨g, 1, none, t, sp, ints c, by rw [List.length_drop, hn]; rfl, hg, h, by simp [ints]⟩)

theorem bend2s1 (b a N : Int) (cards : List Int) (cs : List (List Int)) (hb : 0 ≤ b ∧ b ≤ 255) (ha : 0 ≤ a ∧ a ≤ 255) (h1 : 1 ≤ cards.length) (h6 : cards.length ≤ 6) (hlen : RowsLen cards.length cs) (h40 : cs.length ≤ 40) (m : Nat) (hR : cs.length = m + 1) (h0 : b % 6 = 2) (hn : cards.length = 1) : ∃ cs', FnOk Pg g0 20 [beV b a N, gV cards cs] (gV cards cs') ∧ cs'.length = cs.length ∧ ∀ c ∈ cs', c.length ≤ cards.length := by
  have hloop := fun H nx lg hB => bc_loop b a N cards cs h1 (by omega) hlen (by omega) H nx lg hB
  have hsrc := fun H => @src_im H cards
  have q3 : 0 ≤ a % ((m + 1 : Nat) : Int) := Int.emod_nonneg _ (by omega)
  have q4 : a % ((m + 1 : Nat) : Int) < ((m + 1 : Nat) : Int) := Int.emod_lt_of_pos _ (by omega)
  have e2 : binV (ctxOf Pg) .rem 3 (i6 a) (i6 (m + 1 : Nat)) = some (i6 (((a % ((m + 1 : Nat) : Int)).toNat : Nat) : Int)) := by
    rw [rem6 (by omega), Int.tmod_eq_emod_of_nonneg ha.1, Int.toNat_of_nonneg q3]
  have q6 : (a % ((m + 1 : Nat) : Int)).toNat < m + 1 := by omega
  generalize (a % ((m + 1 : Nat) : Int)).toNat = ri at *
  have hci : cs[ri]? = some cs[ri] := List.getElem?_eq_getElem (by omega)
  have hcl := hlen _ (List.getElem_mem (show ri < cs.length by omega))
  generalize cs[ri] = c at *
  have hcut : ∀ g, sliceV (ctxOf Pg) 29 (.sl g 0 cards.length none) (some 1) none none = some (.im 0 []) := fun g => by
    have := slice_cut g cards.length h1
    rw [hn] at this ⊢; exact this
  refine ⟨cs.set ri (c.drop 1), ?_, by rw [List.length_set], fun d hd => ?_⟩
  rotate_left
  · rcases List.mem_or_eq_of_mem_set hd with hd | rfl
    · rw [hlen d hd]; exact Nat.le_refl _
    · rw [List.length_drop]; omega
  refine FnOk.of_vcX (n := 1000) (r := [2]) (sl := [(4, .ptr 2 0)]) (S := { sl := [(4, .ptr 0 0)], os := [.row 32 none [sl cards, gC (cs.set ri (c.drop 1))]] }) (hs := [(12, .cp cards.length (ints cards)), (0, .loopM (bcS 0) (.exit 0) (fun _ => bcX) (fun hl H nx lg => ∃ hs, BH b a N cards cs cs hl hs H nx) (fun hl H nx lg => [lo_ 36 (bdO b a N) (w8 b), nu 37 (b % 6), no 38, lo_ 53 (bdO b a N) (w8 b), nu 54 (b % 6), no 55, lo_ 86 (bdO b a N) (w8 b), nu 87 (b % 6), yes 88, lo_ 91 (.row 32 none [.sl 4 0 cards.length none, .sl hl 0 (m + 1) none]) (.sl hl 0 (m + 1) none), yes 93, lo_ 96 (bdO b a N) (w8 a), nu 97 a, lo_ 99 (.row 32 none [.sl 4 0 cards.length none, .sl hl 0 (m + 1) none]) (.sl hl 0 (m + 1) none), va 101 (i6 ri), lo_ 103 (.row 32 none [.sl 4 0 cards.length none, .sl hl 0 (m + 1) none]) (.sl hl 0 (m + 1) none), lo_ 106 (.row 32 none [.sl 4 0 cards.length none, .sl hl 0 (m + 1) none]) (.sl hl 0 (m + 1) none), pl 108, lo_ 109 (.row 29 (some 1) (cellsOf H hl)) (.sl (rowOf H hl ri) 0 cards.length none), va 110 (.im 0 []), pl 111, so (.row 29 (some 1) (cellsOf H hl)) ((cellsOf H hl).set ri (.im 0 [])), lo_ 137 (.row 32 none [.sl 4 0 cards.length none, .sl hl 0 (m + 1) none]) (.agg [.sl 4 0 cards.length none, .sl hl 0 (m + 1) none]), so n2 [.sl 4 0 cards.length none, .sl hl 0 (m + 1) none]]))]) ?_
  refine Eq.mp (by kernel_rfl : (V.agg [sl cards, gC (List.set cs ri (List.drop 1 c))] = gV cards (List.set cs ri (List.drop 1 c)) ∧ (srcV (pt (pt (pt (pt T.e 0 (O.row 27 none [w8 b, w8 a, i6 N])) (0 + 1) (O.row 32 none [sl cards, gC cs])) (0 + 1 + 1) (O.row 32 none [V.nils, V.nils])) (0 + 1 + 1 + 1) (O.row 3 none [])) 1 (sl cards) = some (List.length cards, ints cards) ∧ srcV (pt (pt (pt (pt T.e 0 (O.row 27 none [w8 b, w8 a, i6 N])) (0 + 1) (O.row 32 none [sl cards, gC cs])) (0 + 1 + 1) (O.row 32 none [V.nils, V.nils])) (0 + 1 + 1 + 1) (O.row 3 none [])) 1 (V.sl (0 + 1 + 1 + 1) 0 0 (some 0)) = some (0, []) ∧ 1 ≤ List.length cards ∧ List.length cards ≤ 9223372036854775807 ∧ List.length cards * 8 ≤ 140737488355328) ∧ (V.ptr 0 0 = V.ptr 0 0 ∧ V.ptr (0 + 1) 0 = V.ptr 1 0 ∧ V.ptr (0 + 1 + 1) 0 = V.ptr 2 0 ∧ V.ptr (0 + 1 + 1 + 1 + 1 + 1) 0 = V.ptr 5 0 ∧ V.int IntKind.i64 (0 : Int) = i6 (↑(0 : Nat) : Int) ∧ True) ∧ Sat Pg none 0 (at' 20 [1, 1, 0, 1, 0]) (mkSo g0 138 (bcS 0) (pt (pt (pt (pt (pt (pt (pt T.e 0 (O.row 27 none [w8 b, w8 a, i6 N])) (0 + 1) (O.row 32 none [sl cards, gC cs])) (0 + 1 + 1) (O.row 32 none [V.nils, V.nils])) (0 + 1 + 1 + 1) (O.row 3 none [])) (0 + 1 + 1 + 1 + 1) (O.row 3 (some 1) (ints cards))) (0 + 1 + 1 + 1 + 1 + 1) (O.row 32 none [V.nils, V.nils])) (0 + 1 + 1 + 1 + 1 + 1) (O.row 32 none [V.sl (0 + 1 + 1 + 1 + 1) 0 (List.length cards) none, V.nils])) (0 + 1 + 1 + 1 + 1 + 1 + 1) ([0 + 1 + 1 + 1 + 1 + 1] ++ ([] ++ []))) (outsM g0 138 (Ex.exit 0) (fun x => bcX) fun hl H nx lg => ∃ hs, BH b a N cards cs cs hl hs H nx) ∧ ∀ (h : Nat) (H : T O) (nx : Nat) (lg : List Nat), (∃ hs, BH b a N cards cs cs h hs H nx) → gt H 0 = some (bdO b a N) ∧ headF (dropF (0 + 0) (bdL b a N)) = some (w8 b) ∧ Int.tmod b (6 : Int) = b % (6 : Int) ∧ (b % (6 : Int) == (0 : Int)) = false ∧ gt H 0 = some (bdO b a N) ∧ headF (dropF (0 + 0) (bdL b a N)) = some (w8 b) ∧ Int.tmod b (6 : Int) = b % (6 : Int) ∧ (b % (6 : Int) == (1 : Int)) = false ∧ gt H 0 = some (bdO b a N) ∧ headF (dropF (0 + 0) (bdL b a N)) = some (w8 b) ∧ Int.tmod b (6 : Int) = b % (6 : Int) ∧ (b % (6 : Int) == (2 : Int)) = true ∧ gt H 5 = some (O.row 32 none [V.sl 4 0 (List.length cards) none, V.sl h 0 (m + 1) none]) ∧ headF (dropF (0 + 1) [V.sl 4 0 (List.length cards) none, V.sl h 0 (m + 1) none]) = some (V.sl h 0 (m + 1) none) ∧ decide ((↑(m + 1) : Int) > (0 : Int)) = true ∧ gt H 0 = some (bdO b a N) ∧ headF (dropF (0 + 1) (bdL b a N)) = some (w8 a) ∧ wr IntKind.i64 a = a ∧ gt H 5 = some (O.row 32 none [V.sl 4 0 (List.length cards) none, V.sl h 0 (m + 1) none]) ∧ headF (dropF (0 + 1) [V.sl 4 0 (List.length cards) none, V.sl h 0 (m + 1) none]) = some (V.sl h 0 (m + 1) none) ∧ binV (ctxOf Tryd.prog) BinOp.rem 3 (V.int IntKind.i64 a) (V.int IntKind.i64 (↑(m + 1) : Int)) = some (i6 (↑ri : Int)) ∧ gt H 5 = some (O.row 32 none [V.sl 4 0 (List.length cards) none, V.sl h 0 (m + 1) none]) ∧ headF (dropF (0 + 1) [V.sl 4 0 (List.length cards) none, V.sl h 0 (m + 1) none]) = some (V.sl h 0 (m + 1) none) ∧ gt H 5 = some (O.row 32 none [V.sl 4 0 (List.length cards) none, V.sl h 0 (m + 1) none]) ∧ headF (dropF (0 + 1) [V.sl 4 0 (List.length cards) none, V.sl h 0 (m + 1) none]) = some (V.sl h 0 (m + 1) none) ∧ ((0 : Int) ≤ (↑ri : Int) ∧ (↑ri : Int) < (↑(m + 1) : Int)) ∧ gt H h = some (O.row 29 (some 1) (cellsOf H h)) ∧ headF (dropF (0 + ri * 1) (cellsOf H h)) = some (V.sl (rowOf H h ri) 0 (List.length cards) none) ∧ sliceV (ctxOf Tryd.prog) 29 (V.sl (rowOf H h ri) 0 (List.length cards) none) (some (1 : Int)) none none = some (V.im 0 []) ∧ ((0 : Int) ≤ (↑ri : Int) ∧ (↑ri : Int) < (↑(m + 1) : Int)) ∧ (gt H h = some (O.row 29 (some 1) (cellsOf H h)) ∧ layE (0 + ri * 1) (cellsOf H h) [V.im 0 []] = some (List.set (cellsOf H h) ri (V.im 0 []))) ∧ gt (pt H h (O.row 29 (some 1) (List.set (cellsOf H h) ri (V.im 0 [])))) 5 = some (O.row 32 none [V.sl 4 0 (List.length cards) none, V.sl h 0 (m + 1) none]) ∧ takeE 2 [V.sl 4 0 (List.length cards) none, V.sl h 0 (m + 1) none] = some [V.sl 4 0 (List.length cards) none, V.sl h 0 (m + 1) none] ∧ (gt (pt H h (O.row 29 (some 1) (List.set (cellsOf H h) ri (V.im 0 [])))) 2 = some n2 ∧ layE 0 [V.nils, V.nils] [V.sl 4 0 (List.length cards) none, V.sl h 0 (m + 1) none] = some [V.sl 4 0 (List.length cards) none, V.sl h 0 (m + 1) none]) ∧ (V.ptr 2 0 = V.ptr 2 0 ∧ True) ∧ Gc 0 [2] (mkSo g0 138 [(4, V.ptr 2 0)] (pt (pt H h (O.row 29 (some 1) (List.set (cellsOf H h) ri (V.im 0 [])))) 2 (O.row 32 none [V.sl 4 0 (List.length cards) none, V.sl h 0 (m + 1) none])) nx ([2] ++ ([h] ++ lg))) (mkSt g0 138 (SL.mk [(4, V.ptr 0 0)] [O.row 32 none [sl cards, gC (List.set cs ri (List.drop 1 c))]] [] []))) = _) ?_
  (repeat' (first | (with_reducible apply And.intro) | (refine fun (_ : True) => ?_)))
  all_goals first | with_reducible rfl | exact trivial | omega | with_reducible assumption | with_reducible exact hsrc _ | with_reducible exact src_nil (t := 3) (sp := none) (by kernel_rfl) | exact hloop _ _ _ ⟨by kernel_rfl, by kernel_rfl, by kernel_rfl, by kernel_rfl, by kernel_rfl, by decide⟩ | rfl | skip
  intro hl H nx lg hQ
  obtain ⟨hs, ⟨b0, b1, b2, b4, b5, b6⟩, hRw⟩ := hQ
  rw [hR] at b5
  obtain ⟨l1, l2, l3, l4⟩ := hRw.list (by omega)
  have hgi : hs[ri]? = some (hs.getD ri 0) := by rw [List.getD_eq_getElem?_getD, List.getElem?_eq_getElem (by rw [hRw.len]; omega)]; rfl
  obtain ⟨r1, r2, d, r3, r4, r5⟩ := hRw.row ri _ hgi
  rw [hci] at r3
  cases r3
  have hcell : (hs.map fun h => V.sl h 0 cards.length none)[ri]? = some (V.sl (hs.getD ri 0) 0 cards.length none) := by rw [List.getElem?_map, hgi]; rfl
  have k1 := cellsOf_eq l4
  have k2 := rowOf_eq k1 hcell
  have hgm := List.mem_of_getElem? hgi
  rw [k2, k1]
  have hcu := hcut (hs.getD ri 0)
  have hhd := head_cells hcell
  have hlay := @lay_cells (hs.map fun h => V.sl h 0 cards.length none) ri (.im 0 []) (by rw [List.length_map, hRw.len]; omega)
  have hlay' := hlay
  rw [Nat.zero_add] at hlay'
  have hsee1 : ∀ H', gt H' (hs.getD ri 0) = gt H (hs.getD ri 0) → Sees1 H' (.im 0 []) (c.drop 1) := fun H' hg => by
    have := cut_sees (H := H') (g := hs.getD ri 0) (n := cards.length) (c := c) (by omega) (hg.trans r5) hcl
    rw [hn] at this; exact this
  have hsee2 : ∀ H' : T O, gt H' hl = some (.row 29 (some 1) ((hs.map fun h => V.sl h 0 cards.length none).set ri (.im 0 []))) → (∀ g ∈ hs, gt H' g = gt H g) → Sees2 H' (.sl hl 0 (m + 1) none) (cs.set ri (c.drop 1)) := fun H' h1 h2 => by
    refine .inr ⟨hl, none, 29, some 1, _, by rw [List.length_set, hR], by omega, h1, by rw [List.length_set, List.length_set, List.length_map]; exact hRw.len, fun i cell hi => ?_⟩
    by_cases hir : ri = i
    · subst hir
      rw [List.getElem?_set_self (by rw [List.length_map, hRw.len]; omega)] at hi
      cases hi
      exact ⟨_, List.getElem?_set_self (by omega), hsee1 H' (h2 _ hgm)⟩
    · rw [List.getElem?_set_ne hir, List.getElem?_map] at hi
      cases hg : hs[i]? with
      | none => rw [hg] at hi; cases hi
      | some g =>
        rw [hg] at hi
        cases hi
        obtain ⟨p1, p2, d, p3, p4, p5⟩ := hRw.row i g hg
        exact ⟨d, by rw [List.getElem?_set_ne hir]; exact p3, .inr (.inr ⟨g, 0, none, 3, some 1, ints d, by rw [p4], by omega, by rw [h2 g (List.mem_of_getElem? hg)]; exact p5, rfl⟩)⟩
  have hne : ∀ g ∈ hs, g ≠ hl ∧ 6 ≤ g := fun g hg => by
    refine ⟨fun e => l3 (e ▸ hg), ?_⟩
    obtain ⟨t, ht, rfl⟩ := List.getElem_of_mem hg
    exact (hRw.row t _ (List.getElem?_eq_getElem ht)).1
  generalize hs.getD ri 0 = g at *
  (repeat' (first | (with_reducible apply And.intro) | (refine fun (_ : True) => ?_)))
  all_goals first | with_reducible rfl | exact trivial | omega | with_reducible assumption | (with_reducible exact decide_eq_true (by omega)) | (with_reducible refine beq_true' ?_; omega) | (with_reducible refine beq_false' ?_; omega) | with_reducible exact emod6 hb | with_reducible exact ediv4 ha | (rw [emod6 hb]; exact wr8 (by omega) (by omega)) | (with_reducible refine wr6' ?_ ?_ ?_ <;> omega) | ((repeat (first | (rw [gt_pt, if_pos (by first | rfl | omega)]) | (rw [gt_pt, if_neg (by omega)]))) <;> first | assumption | rfl) | rfl | skip
  refine fin_gc (cv := .sl 4 0 cards.length none) (lv := .sl hl 0 (m + 1) none) ?_ ?_ (.inr (.inr ⟨4, 0, none, 3, some 1, ints cards, rfl, ?_, ?_, rfl⟩)) (hsee2 _ ?_ (fun j hj => ?_))
  · omega
  · ((repeat (first | (rw [gt_pt, if_pos (by first | rfl | omega)]) | (rw [gt_pt, if_neg (by omega)]))) <;> first | assumption | rfl)
  · omega
  · ((repeat (first | (rw [gt_pt, if_pos (by first | rfl | omega)]) | (rw [gt_pt, if_neg (by omega)]))) <;> first | assumption | rfl)
  · ((repeat (first | (rw [gt_pt, if_pos (by first | rfl | omega)]) | (rw [gt_pt, if_neg (by omega)]))) <;> first | assumption | rfl)
  · have := hne j hj
    rw [gt_pt, if_neg (by omega), gt_pt, if_neg this.1]

theorem bend2s2 (b a N : Int) (cards : List Int) (cs : List (List Int)) (hb : 0 ≤ b ∧ b ≤ 255) (ha : 0 ≤ a ∧ a ≤ 255) (h1 : 1 ≤ cards.length) (h6 : cards.length ≤ 6) (hlen : RowsLen cards.length cs) (h40 : cs.length ≤ 40) (m : Nat) (hR : cs.length = m + 1) (h0 : b % 6 = 2) (k : Nat) (hn : cards.length = k + 2) : ∃ cs', FnOk Pg g0 20 [beV b a N, gV cards cs] (gV cards cs') ∧ cs'.length = cs.length ∧ ∀ c ∈ cs', c.length ≤ cards.length := by
  have hloop := fun H nx lg hB => bc_loop b a N cards cs h1 (by omega) hlen (by omega) H nx lg hB
  have hsrc := fun H => @src_im H cards
  have q3 : 0 ≤ a % ((m + 1 : Nat) : Int) := Int.emod_nonneg _ (by omega)
  have q4 : a % ((m + 1 : Nat) : Int) < ((m + 1 : Nat) : Int) := Int.emod_lt_of_pos _ (by omega)
  have e2 : binV (ctxOf Pg) .rem 3 (i6 a) (i6 (m + 1 : Nat)) = some (i6 (((a % ((m + 1 : Nat) : Int)).toNat : Nat) : Int)) := by
    rw [rem6 (by omega), Int.tmod_eq_emod_of_nonneg ha.1, Int.toNat_of_nonneg q3]
  have q6 : (a % ((m + 1 : Nat) : Int)).toNat < m + 1 := by omega
  generalize (a % ((m + 1 : Nat) : Int)).toNat = ri at *
  have hci : cs[ri]? = some cs[ri] := List.getElem?_eq_getElem (by omega)
  have hcl := hlen _ (List.getElem_mem (show ri < cs.length by omega))
  generalize cs[ri] = c at *
  have hcut : ∀ g, sliceV (ctxOf Pg) 29 (.sl g 0 cards.length none) (some 1) none none = some (.sl g 1 (k + 1) none) := fun g => by
    have := slice_cut g cards.length h1
    rw [hn] at this ⊢; exact this
  refine ⟨cs.set ri (c.drop 1), ?_, by rw [List.length_set], fun d hd => ?_⟩
  rotate_left
  · rcases List.mem_or_eq_of_mem_set hd with hd | rfl
    · rw [hlen d hd]; exact Nat.le_refl _
    · rw [List.length_drop]; omega
  refine FnOk.of_vcX (n := 1000) (r := [2]) (sl := [(4, .ptr 2 0)]) (S := { sl := [(4, .ptr 0 0)], os := [.row 32 none [sl cards, gC (cs.set ri (c.drop 1))]] }) (hs := [(12, .cp cards.length (ints cards)), (0, .loopM (bcS 0) (.exit 0) (fun _ => bcX) (fun hl H nx lg => ∃ hs, BH b a N cards cs cs hl hs H nx) (fun hl H nx lg => [lo_ 36 (bdO b a N) (w8 b), nu 37 (b % 6), no 38, lo_ 53 (bdO b a N) (w8 b), nu 54 (b % 6), no 55, lo_ 86 (bdO b a N) (w8 b), nu 87 (b % 6), yes 88, lo_ 91 (.row 32 none [.sl 4 0 cards.length none, .sl hl 0 (m + 1) none]) (.sl hl 0 (m + 1) none), yes 93, lo_ 96 (bdO b a N) (w8 a), nu 97 a, lo_ 99 (.row 32 none [.sl 4 0 cards.length none, .sl hl 0 (m + 1) none]) (.sl hl 0 (m + 1) none), va 101 (i6 ri), lo_ 103 (.row 32 none [.sl 4 0 cards.length none, .sl hl 0 (m + 1) none]) (.sl hl 0 (m + 1) none), lo_ 106 (.row 32 none [.sl 4 0 cards.length none, .sl hl 0 (m + 1) none]) (.sl hl 0 (m + 1) none), pl 108, lo_ 109 (.row 29 (some 1) (cellsOf H hl)) (.sl (rowOf H hl ri) 0 cards.length none), va 110 (.sl (rowOf H hl ri) 1 (k + 1) none), pl 111, so (.row 29 (some 1) (cellsOf H hl)) ((cellsOf H hl).set ri (.sl (rowOf H hl ri) 1 (k + 1) none)), lo_ 137 (.row 32 none [.sl 4 0 cards.length none, .sl hl 0 (m + 1) none]) (.agg [.sl 4 0 cards.length none, .sl hl 0 (m + 1) none]), so n2 [.sl 4 0 cards.length none, .sl hl 0 (m + 1) none]]))]) ?_
  refine Eq.mp (by kernel_rfl : (V.agg [sl cards, gC (List.set cs ri (List.drop 1 c))] = gV cards (List.set cs ri (List.drop 1 c)) ∧ (srcV (pt (pt (pt (pt T.e 0 (O.row 27 none [w8 b, w8 a, i6 N])) (0 + 1) (O.row 32 none [sl cards, gC cs])) (0 + 1 + 1) (O.row 32 none [V.nils, V.nils])) (0 + 1 + 1 + 1) (O.row 3 none [])) 1 (sl cards) = some (List.length cards, ints cards) ∧ srcV (pt (pt (pt (pt T.e 0 (O.row 27 none [w8 b, w8 a, i6 N])) (0 + 1) (O.row 32 none [sl cards, gC cs])) (0 + 1 + 1) (O.row 32 none [V.nils, V.nils])) (0 + 1 + 1 + 1) (O.row 3 none [])) 1 (V.sl (0 + 1 + 1 + 1) 0 0 (some 0)) = some (0, []) ∧ 1 ≤ List.length cards ∧ List.length cards ≤ 9223372036854775807 ∧ List.length cards * 8 ≤ 140737488355328) ∧ (V.ptr 0 0 = V.ptr 0 0 ∧ V.ptr (0 + 1) 0 = V.ptr 1 0 ∧ V.ptr (0 + 1 + 1) 0 = V.ptr 2 0 ∧ V.ptr (0 + 1 + 1 + 1 + 1 + 1) 0 = V.ptr 5 0 ∧ V.int IntKind.i64 (0 : Int) = i6 (↑(0 : Nat) : Int) ∧ True) ∧ Sat Pg none 0 (at' 20 [1, 1, 0, 1, 0]) (mkSo g0 138 (bcS 0) (pt (pt (pt (pt (pt (pt (pt T.e 0 (O.row 27 none [w8 b, w8 a, i6 N])) (0 + 1) (O.row 32 none [sl cards, gC cs])) (0 + 1 + 1) (O.row 32 none [V.nils, V.nils])) (0 + 1 + 1 + 1) (O.row 3 none [])) (0 + 1 + 1 + 1 + 1) (O.row 3 (some 1) (ints cards))) (0 + 1 + 1 + 1 + 1 + 1) (O.row 32 none [V.nils, V.nils])) (0 + 1 + 1 + 1 + 1 + 1) (O.row 32 none [V.sl (0 + 1 + 1 + 1 + 1) 0 (List.length cards) none, V.nils])) (0 + 1 + 1 + 1 + 1 + 1 + 1) ([0 + 1 + 1 + 1 + 1 + 1] ++ ([] ++ []))) (outsM g0 138 (Ex.exit 0) (fun x => bcX) fun hl H nx lg => ∃ hs, BH b a N cards cs cs hl hs H nx) ∧ ∀ (h : Nat) (H : T O) (nx : Nat) (lg : List Nat), (∃ hs, BH b a N cards cs cs h hs H nx) → gt H 0 = some (bdO b a N) ∧ headF (dropF (0 + 0) (bdL b a N)) = some (w8 b) ∧ Int.tmod b (6 : Int) = b % (6 : Int) ∧ (b % (6 : Int) == (0 : Int)) = false ∧ gt H 0 = some (bdO b a N) ∧ headF (dropF (0 + 0) (bdL b a N)) = some (w8 b) ∧ Int.tmod b (6 : Int) = b % (6 : Int) ∧ (b % (6 : Int) == (1 : Int)) = false ∧ gt H 0 = some (bdO b a N) ∧ headF (dropF (0 + 0) (bdL b a N)) = some (w8 b) ∧ Int.tmod b (6 : Int) = b % (6 : Int) ∧ (b % (6 : Int) == (2 : Int)) = true ∧ gt H 5 = some (O.row 32 none [V.sl 4 0 (List.length cards) none, V.sl h 0 (m + 1) none]) ∧ headF (dropF (0 + 1) [V.sl 4 0 (List.length cards) none, V.sl h 0 (m + 1) none]) = some (V.sl h 0 (m + 1) none) ∧ decide ((↑(m + 1) : Int) > (0 : Int)) = true ∧ gt H 0 = some (bdO b a N) ∧ headF (dropF (0 + 1) (bdL b a N)) = some (w8 a) ∧ wr IntKind.i64 a = a ∧ gt H 5 = some (O.row 32 none [V.sl 4 0 (List.length cards) none, V.sl h 0 (m + 1) none]) ∧ headF (dropF (0 + 1) [V.sl 4 0 (List.length cards) none, V.sl h 0 (m + 1) none]) = some (V.sl h 0 (m + 1) none) ∧ binV (ctxOf Tryd.prog) BinOp.rem 3 (V.int IntKind.i64 a) (V.int IntKind.i64 (↑(m + 1) : Int)) = some (i6 (↑ri : Int)) ∧ gt H 5 = some (O.row 32 none [V.sl 4 0 (List.length cards) none, V.sl h 0 (m + 1) none]) ∧ headF (dropF (0 + 1) [V.sl 4 0 (List.length cards) none, V.sl h 0 (m + 1) none]) = some (V.sl h 0 (m + 1) none) ∧ gt H 5 = some (O.row 32 none [V.sl 4 0 (List.length cards) none, V.sl h 0 (m + 1) none]) ∧ headF (dropF (0 + 1) [V.sl 4 0 (List.length cards) none, V.sl h 0 (m + 1) none]) = some (V.sl h 0 (m + 1) none) ∧ ((0 : Int) ≤ (↑ri : Int) ∧ (↑ri : Int) < (↑(m + 1) : Int)) ∧ gt H h = some (O.row 29 (some 1) (cellsOf H h)) ∧ headF (dropF (0 + ri * 1) (cellsOf H h)) = some (V.sl (rowOf H h ri) 0 (List.length cards) none) ∧ sliceV (ctxOf Tryd.prog) 29 (V.sl (rowOf H h ri) 0 (List.length cards) none) (some (1 : Int)) none none = some (V.sl (rowOf H h ri) 1 (k + 1) none) ∧ ((0 : Int) ≤ (↑ri : Int) ∧ (↑ri : Int) < (↑(m + 1) : Int)) ∧ (gt H h = some (O.row 29 (some 1) (cellsOf H h)) ∧ layE (0 + ri * 1) (cellsOf H h) [V.sl (rowOf H h ri) 1 (k + 1) none] = some (List.set (cellsOf H h) ri (V.sl (rowOf H h ri) 1 (k + 1) none))) ∧ gt (pt H h (O.row 29 (some 1) (List.set (cellsOf H h) ri (V.sl (rowOf H h ri) 1 (k + 1) none)))) 5 = some (O.row 32 none [V.sl 4 0 (List.length cards) none, V.sl h 0 (m + 1) none]) ∧ takeE 2 [V.sl 4 0 (List.length cards) none, V.sl h 0 (m + 1) none] = some [V.sl 4 0 (List.length cards) none, V.sl h 0 (m + 1) none] ∧ (gt (pt H h (O.row 29 (some 1) (List.set (cellsOf H h) ri (V.sl (rowOf H h ri) 1 (k + 1) none)))) 2 = some n2 ∧ layE 0 [V.nils, V.nils] [V.sl 4 0 (List.length cards) none, V.sl h 0 (m + 1) none] = some [V.sl 4 0 (List.length cards) none, V.sl h 0 (m + 1) none]) ∧ (V.ptr 2 0 = V.ptr 2 0 ∧ True) ∧ Gc 0 [2] (mkSo g0 138 [(4, V.ptr 2 0)] (pt (pt H h (O.row 29 (some 1) (List.set (cellsOf H h) ri (V.sl (rowOf H h ri) 1 (k + 1) none)))) 2 (O.row 32 none [V.sl 4 0 (List.length cards) none, V.sl h 0 (m + 1) none])) nx ([2] ++ ([h] ++ lg))) (mkSt g0 138 (SL.mk [(4, V.ptr 0 0)] [O.row 32 none [sl cards, gC (List.set cs ri (List.drop 1 c))]] [] []))) = _) ?_
  (repeat' (first | (with_reducible apply And.intro) | (refine fun (_ : True) => ?_)))
  all_goals first | with_reducible rfl | exact trivial | omega | with_reducible assumption | with_reducible exact hsrc _ | with_reducible exact src_nil (t := 3) (sp := none) (by kernel_rfl) | exact hloop _ _ _ ⟨by kernel_rfl, by kernel_rfl, by kernel_rfl, by kernel_rfl, by kernel_rfl, by decide⟩ | rfl | skip
  intro hl H nx lg hQ
  obtain ⟨hs, ⟨b0, b1, b2, b4, b5, b6⟩, hRw⟩ := hQ
  rw [hR] at b5
  obtain ⟨l1, l2, l3, l4⟩ := hRw.list (by omega)
  have hgi : hs[ri]? = some (hs.getD ri 0) := by rw [List.getD_eq_getElem?_getD, List.getElem?_eq_getElem (by rw [hRw.len]; omega)]; rfl
  obtain ⟨r1, r2, d, r3, r4, r5⟩ := hRw.row ri _ hgi
  rw [hci] at r3
  cases r3
  have hcell : (hs.map fun h => V.sl h 0 cards.length none)[ri]? = some (V.sl (hs.getD ri 0) 0 cards.length none) := by rw [List.getElem?_map, hgi]; rfl
  have k1 := cellsOf_eq l4
  have k2 := rowOf_eq k1 hcell
  have hgm := List.mem_of_getElem? hgi
  rw [k2, k1]
  have hcu := hcut (hs.getD ri 0)
  have hhd := head_cells hcell
  have hlay := @lay_cells (hs.map fun h => V.sl h 0 cards.length none) ri (.sl (hs.getD ri 0) 1 (k + 1) none) (by rw [List.length_map, hRw.len]; omega)
  have hlay' := hlay
  rw [Nat.zero_add] at hlay'
  have hsee1 : ∀ H', gt H' (hs.getD ri 0) = gt H (hs.getD ri 0) → Sees1 H' (.sl (hs.getD ri 0) 1 (k + 1) none) (c.drop 1) := fun H' hg => by
    have := cut_sees (H := H') (g := hs.getD ri 0) (n := cards.length) (c := c) (by omega) (hg.trans r5) hcl
    rw [hn] at this; exact this
  have hsee2 : ∀ H' : T O, gt H' hl = some (.row 29 (some 1) ((hs.map fun h => V.sl h 0 cards.length none).set ri (.sl (hs.getD ri 0) 1 (k + 1) none))) → (∀ g ∈ hs, gt H' g = gt H g) → Sees2 H' (.sl hl 0 (m + 1) none) (cs.set ri (c.drop 1)) := fun H' h1 h2 => by
    refine .inr ⟨hl, none, 29, some 1, _, by rw [List.length_set, hR], by omega, h1, by rw [List.length_set, List.length_set, List.length_map]; exact hRw.len, fun i cell hi => ?_⟩
    by_cases hir : ri = i
    · subst hir
      rw [List.getElem?_set_self (by rw [List.length_map, hRw.len]; omega)] at hi
      cases hi
      exact ⟨_, List.getElem?_set_self (by omega), hsee1 H' (h2 _ hgm)⟩
    · rw [List.getElem?_set_ne hir, List.getElem?_map] at hi
      cases hg : hs[i]? with
      | none => rw [hg] at hi; cases hi
      | some g =>
        rw [hg] at hi
        cases hi
        obtain ⟨p1, p2, d, p3, p4, p5⟩ := hRw.row i g hg
        exact ⟨d, by rw [List.getElem?_set_ne hir]; exact p3, .inr (.inr ⟨g, 0, none, 3, some 1, ints d, by rw [p4], by omega, by rw [h2 g (List.mem_of_getElem? hg)]; exact p5, rfl⟩)⟩
  have hne : ∀ g ∈ hs, g ≠ hl ∧ 6 ≤ g := fun g hg => by
    refine ⟨fun e => l3 (e ▸ hg), ?_⟩
    obtain ⟨t, ht, rfl⟩ := List.getElem_of_mem hg
    exact (hRw.row t _ (List.getElem?_eq_getElem ht)).1
  generalize hs.getD ri 0 = g at *
  (repeat' (first | (with_reducible apply And.intro) | (refine fun (_ : True) => ?_)))
  all_goals first | with_reducible rfl | exact trivial | omega | with_reducible assumption | (with_reducible exact decide_eq_true (by omega)) | (with_reducible refine beq_true' ?_; omega) | (with_reducible refine beq_false' ?_; omega) | with_reducible exact emod6 hb | with_reducible exact ediv4 ha | (rw [emod6 hb]; exact wr8 (by omega) (by omega)) | (with_reducible refine wr6' ?_ ?_ ?_ <;> omega) | ((repeat (first | (rw [gt_pt, if_pos (by first | rfl | omega)]) | (rw [gt_pt, if_neg (by omega)]))) <;> first | assumption | rfl) | rfl | skip
  refine fin_gc (cv := .sl 4 0 cards.length none) (lv := .sl hl 0 (m + 1) none) ?_ ?_ (.inr (.inr ⟨4, 0, none, 3, some 1, ints cards, rfl, ?_, ?_, rfl⟩)) (hsee2 _ ?_ (fun j hj => ?_))
  · omega
  · ((repeat (first | (rw [gt_pt, if_pos (by first | rfl | omega)]) | (rw [gt_pt, if_neg (by omega)]))) <;> first | assumption | rfl)
  · omega
  · ((repeat (first | (rw [gt_pt, if_pos (by first | rfl | omega)]) | (rw [gt_pt, if_neg (by omega)]))) <;> first | assumption | rfl)
  · ((repeat (first | (rw [gt_pt, if_pos (by first | rfl | omega)]) | (rw [gt_pt, if_neg (by omega)]))) <;> first | assumption | rfl)
  · have := hne j hj
    rw [gt_pt, if_neg (by omega), gt_pt, if_neg this.1]

end Go.Proofs.YtglpoiaedkoecaaDoor.Am
