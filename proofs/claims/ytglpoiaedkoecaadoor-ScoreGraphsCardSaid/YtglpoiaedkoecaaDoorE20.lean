/- Chapter 25: changed data: the ways through Bend.Of that change a row, or add rows. -/
import Derived.Test.YtglpoiaedkoecaaDoorE19
namespace Go.Proofs.YtglpoiaedkoecaaDoor.Am
open Go.RowKit
set_option linter.unusedVariables false
set_option maxHeartbeats 1000000
set_option maxRecDepth 100000

noncomputable def cellsOf (H : T O) (hl : Nat) : List V := match gt H hl with
  | some (.row _ _ c) => c
  | _ => []
noncomputable def rowOf (H : T O) (hl ri : Nat) : Nat := match (cellsOf H hl)[ri]? with
  | some (.sl g _ _ _) => g
  | _ => 0
theorem cellsOf_eq {H : T O} {hl : Nat} {t : Nat} {sp : Option Nat} {c : List V} (h : gt H hl = some (.row t sp c)) : cellsOf H hl = c := by unfold cellsOf; rw [h]
theorem rowOf_eq {H : T O} {hl ri g off n : Nat} {room : Option Nat} {c : List V} (h : cellsOf H hl = c) (hc : c[ri]? = some (.sl g off n room)) : rowOf H hl ri = g := by unfold rowOf; rw [h, hc]
theorem lay_cells {l : List V} {j : Nat} {x : V} (h : j < l.length) : layE (0 + j * 1) l [x] = some (l.set j x) := by
  rw [Nat.zero_add, Nat.mul_one, layE_eq']
  have : Nat.ble (j + [x].length) l.length = true := Nat.ble_eq_true_of_le (by simp; omega)
  rw [this, cond_true]
  congr 1
  rw [List.set_eq_take_append_cons_drop, if_pos h]
  simp
theorem head_cells {l : List V} {j : Nat} {x : V} (h : l[j]? = some x) : headF (dropF (0 + j * 1) l) = some x := by
  rw [dropF_eq, Nat.zero_add, Nat.mul_one]
  obtain ⟨hk, rfl⟩ := List.getElem?_eq_some_iff.1 h
  rw [List.drop_eq_getElem_cons hk]; rfl

theorem bend1s (b a N : Int) (cards : List Int) (cs : List (List Int)) (hb : 0 ≤ b ∧ b ≤ 255) (ha : 0 ≤ a ∧ a ≤ 255) (h1 : 1 ≤ cards.length) (h6 : cards.length ≤ 6) (hlen : RowsLen cards.length cs) (h40 : cs.length ≤ 40) (m : Nat) (hR : cs.length = m + 1) (h0 : b % 6 = 1) : ∃ cs', FnOk Pg g0 20 [beV b a N, gV cards cs] (gV cards cs') ∧ cs'.length = cs.length ∧ RowsLen cards.length cs' := by
  have hloop := fun H nx lg hB => bc_loop b a N cards cs h1 (by omega) hlen (by omega) H nx lg hB
  have hsrc := fun H => @src_im H cards
  have q1 : 0 ≤ a % (cards.length : Int) := Int.emod_nonneg _ (by omega)
  have q2 : a % (cards.length : Int) < cards.length := Int.emod_lt_of_pos _ (by omega)
  have q3 : 0 ≤ a / 4 % ((m + 1 : Nat) : Int) := Int.emod_nonneg _ (by omega)
  have q4 : a / 4 % ((m + 1 : Nat) : Int) < ((m + 1 : Nat) : Int) := Int.emod_lt_of_pos _ (by omega)
  have e1 : binV (ctxOf Pg) .rem 3 (i6 a) (i6 cards.length) = some (i6 (((a % (cards.length : Int)).toNat : Nat) : Int)) := by
    rw [rem6 (by omega), Int.tmod_eq_emod_of_nonneg ha.1, Int.toNat_of_nonneg q1]
  have e2 : binV (ctxOf Pg) .rem 3 (i6 (a / 4)) (i6 (m + 1 : Nat)) = some (i6 (((a / 4 % ((m + 1 : Nat) : Int)).toNat : Nat) : Int)) := by
    rw [rem6 (by omega), Int.tmod_eq_emod_of_nonneg (by omega), Int.toNat_of_nonneg q3]
  have q5 : (a % (cards.length : Int)).toNat < cards.length := by omega
  have q6 : (a / 4 % ((m + 1 : Nat) : Int)).toNat < m + 1 := by omega
  generalize (a % (cards.length : Int)).toNat = ci at *
  generalize (a / 4 % ((m + 1 : Nat) : Int)).toNat = ri at *
  have hci : cs[ri]? = some cs[ri] := List.getElem?_eq_getElem (by omega)
  have hcl := hlen _ (List.getElem_mem (show ri < cs.length by omega))
  generalize cs[ri] = c at *
  have hlay := @lay_intsI c ci N (by omega)
  refine ⟨cs.set ri (c.set ci N), ?_, by rw [List.length_set], fun d hd => ?_⟩
  rotate_left
  · rcases List.mem_or_eq_of_mem_set hd with hd | rfl
    · exact hlen d hd
    · rw [List.length_set]; exact hcl
  refine FnOk.of_vcX (n := 1000) (r := [2]) (sl := [(4, .ptr 2 0)]) (S := { sl := [(4, .ptr 0 0)], os := [.row 32 none [sl cards, gC (cs.set ri (c.set ci N))]] }) (hs := [(12, .cp cards.length (ints cards)), (0, .loopM (bcS 0) (.exit 0) (fun _ => bcX) (fun hl H nx lg => ∃ hs, BH b a N cards cs cs hl hs H nx) (fun hl H nx lg => [lo_ 36 (bdO b a N) (w8 b), nu 37 (b % 6), no 38, lo_ 53 (bdO b a N) (w8 b), nu 54 (b % 6), yes 55, lo_ 58 (.row 32 none [.sl 4 0 cards.length none, .sl hl 0 (m + 1) none]) (.sl hl 0 (m + 1) none), yes 60, lo_ 63 (.row 32 none [.sl 4 0 cards.length none, .sl hl 0 (m + 1) none]) (.sl hl 0 (m + 1) none), lo_ 65 (bdO b a N) (w8 a), nu 66 (a / 4), nu 67 (a / 4), lo_ 69 (.row 32 none [.sl 4 0 cards.length none, .sl hl 0 (m + 1) none]) (.sl hl 0 (m + 1) none), va 71 (i6 ri), pl 72, lo_ 73 (.row 29 (some 1) (cellsOf H hl)) (.sl (rowOf H hl ri) 0 cards.length none), lo_ 76 (bdO b a N) (w8 a), nu 77 a, va 80 (i6 ci), lo_ 82 (bdO b a N) (i6 N), pl 83, so (.row 3 (some 1) (ints c)) (ints (c.set ci N)), lo_ 137 (.row 32 none [.sl 4 0 cards.length none, .sl hl 0 (m + 1) none]) (.agg [.sl 4 0 cards.length none, .sl hl 0 (m + 1) none]), so n2 [.sl 4 0 cards.length none, .sl hl 0 (m + 1) none]]))]) ?_
  refine Eq.mp (by kernel_rfl : (V.agg [sl cards, gC (List.set cs ri (List.set c ci N))] = gV cards (List.set cs ri (List.set c ci N)) ∧ (srcV (pt (pt (pt (pt T.e 0 (O.row 27 none [w8 b, w8 a, i6 N])) (0 + 1) (O.row 32 none [sl cards, gC cs])) (0 + 1 + 1) (O.row 32 none [V.nils, V.nils])) (0 + 1 + 1 + 1) (O.row 3 none [])) 1 (sl cards) = some (List.length cards, ints cards) ∧ srcV (pt (pt (pt (pt T.e 0 (O.row 27 none [w8 b, w8 a, i6 N])) (0 + 1) (O.row 32 none [sl cards, gC cs])) (0 + 1 + 1) (O.row 32 none [V.nils, V.nils])) (0 + 1 + 1 + 1) (O.row 3 none [])) 1 (V.sl (0 + 1 + 1 + 1) 0 0 (some 0)) = some (0, []) ∧ 1 ≤ List.length cards ∧ List.length cards ≤ 9223372036854775807 ∧ List.length cards * 8 ≤ 140737488355328) ∧ (V.ptr 0 0 = V.ptr 0 0 ∧ V.ptr (0 + 1) 0 = V.ptr 1 0 ∧ V.ptr (0 + 1 + 1) 0 = V.ptr 2 0 ∧ V.ptr (0 + 1 + 1 + 1 + 1 + 1) 0 = V.ptr 5 0 ∧ V.int IntKind.i64 (0 : Int) = i6 (↑(0 : Nat) : Int) ∧ True) ∧ Sat Pg none 0 (at' 20 [1, 1, 0, 1, 0]) (mkSo g0 138 (bcS 0) (pt (pt (pt (pt (pt (pt (pt T.e 0 (O.row 27 none [w8 b, w8 a, i6 N])) (0 + 1) (O.row 32 none [sl cards, gC cs])) (0 + 1 + 1) (O.row 32 none [V.nils, V.nils])) (0 + 1 + 1 + 1) (O.row 3 none [])) (0 + 1 + 1 + 1 + 1) (O.row 3 (some 1) (ints cards))) (0 + 1 + 1 + 1 + 1 + 1) (O.row 32 none [V.nils, V.nils])) (0 + 1 + 1 + 1 + 1 + 1) (O.row 32 none [V.sl (0 + 1 + 1 + 1 + 1) 0 (List.length cards) none, V.nils])) (0 + 1 + 1 + 1 + 1 + 1 + 1) ([0 + 1 + 1 + 1 + 1 + 1] ++ ([] ++ []))) (outsM g0 138 (Ex.exit 0) (fun x => bcX) fun hl H nx lg => ∃ hs, BH b a N cards cs cs hl hs H nx) ∧ ∀ (h : Nat) (H : T O) (nx : Nat) (lg : List Nat), (∃ hs, BH b a N cards cs cs h hs H nx) → gt H 0 = some (bdO b a N) ∧ headF (dropF (0 + 0) (bdL b a N)) = some (w8 b) ∧ Int.tmod b (6 : Int) = b % (6 : Int) ∧ (b % (6 : Int) == (0 : Int)) = false ∧ gt H 0 = some (bdO b a N) ∧ headF (dropF (0 + 0) (bdL b a N)) = some (w8 b) ∧ Int.tmod b (6 : Int) = b % (6 : Int) ∧ (b % (6 : Int) == (1 : Int)) = true ∧ gt H 5 = some (O.row 32 none [V.sl 4 0 (List.length cards) none, V.sl h 0 (m + 1) none]) ∧ headF (dropF (0 + 1) [V.sl 4 0 (List.length cards) none, V.sl h 0 (m + 1) none]) = some (V.sl h 0 (m + 1) none) ∧ decide ((↑(m + 1) : Int) > (0 : Int)) = true ∧ gt H 5 = some (O.row 32 none [V.sl 4 0 (List.length cards) none, V.sl h 0 (m + 1) none]) ∧ headF (dropF (0 + 1) [V.sl 4 0 (List.length cards) none, V.sl h 0 (m + 1) none]) = some (V.sl h 0 (m + 1) none) ∧ gt H 0 = some (bdO b a N) ∧ headF (dropF (0 + 1) (bdL b a N)) = some (w8 a) ∧ wr IntKind.u8 (Int.tdiv a (4 : Int)) = a / (4 : Int) ∧ wr IntKind.i64 (a / (4 : Int)) = a / (4 : Int) ∧ gt H 5 = some (O.row 32 none [V.sl 4 0 (List.length cards) none, V.sl h 0 (m + 1) none]) ∧ headF (dropF (0 + 1) [V.sl 4 0 (List.length cards) none, V.sl h 0 (m + 1) none]) = some (V.sl h 0 (m + 1) none) ∧ binV (ctxOf Tryd.prog) BinOp.rem 3 (V.int IntKind.i64 (a / (4 : Int))) (V.int IntKind.i64 (↑(m + 1) : Int)) = some (i6 (↑ri : Int)) ∧ ((0 : Int) ≤ (↑ri : Int) ∧ (↑ri : Int) < (↑(m + 1) : Int)) ∧ gt H h = some (O.row 29 (some 1) (cellsOf H h)) ∧ headF (dropF (0 + ri * 1) (cellsOf H h)) = some (V.sl (rowOf H h ri) 0 (List.length cards) none) ∧ gt H 0 = some (bdO b a N) ∧ headF (dropF (0 + 1) (bdL b a N)) = some (w8 a) ∧ wr IntKind.i64 a = a ∧ binV (ctxOf Tryd.prog) BinOp.rem 3 (V.int IntKind.i64 a) (V.int IntKind.i64 (↑(List.length cards) : Int)) = some (i6 (↑ci : Int)) ∧ gt H 0 = some (bdO b a N) ∧ headF (dropF (0 + 2) (bdL b a N)) = some (i6 N) ∧ ((0 : Int) ≤ (↑ci : Int) ∧ (↑ci : Int) < (↑(List.length cards) : Int)) ∧ (gt H (rowOf H h ri) = some (O.row 3 (some 1) (ints c)) ∧ layE (0 + ci * 1) (ints c) [i6 N] = some (ints (List.set c ci N))) ∧ gt (pt H (rowOf H h ri) (O.row 3 (some 1) (ints (List.set c ci N)))) 5 = some (O.row 32 none [V.sl 4 0 (List.length cards) none, V.sl h 0 (m + 1) none]) ∧ takeE 2 [V.sl 4 0 (List.length cards) none, V.sl h 0 (m + 1) none] = some [V.sl 4 0 (List.length cards) none, V.sl h 0 (m + 1) none] ∧ (gt (pt H (rowOf H h ri) (O.row 3 (some 1) (ints (List.set c ci N)))) 2 = some n2 ∧ layE 0 [V.nils, V.nils] [V.sl 4 0 (List.length cards) none, V.sl h 0 (m + 1) none] = some [V.sl 4 0 (List.length cards) none, V.sl h 0 (m + 1) none]) ∧ (V.ptr 2 0 = V.ptr 2 0 ∧ True) ∧ Gc 0 [2] (mkSo g0 138 [(4, V.ptr 2 0)] (pt (pt H (rowOf H h ri) (O.row 3 (some 1) (ints (List.set c ci N)))) 2 (O.row 32 none [V.sl 4 0 (List.length cards) none, V.sl h 0 (m + 1) none])) nx ([2] ++ ([rowOf H h ri] ++ lg))) (mkSt g0 138 (SL.mk [(4, V.ptr 0 0)] [O.row 32 none [sl cards, gC (List.set cs ri (List.set c ci N))]] [] []))) = _) ?_
  (repeat' (first | (with_reducible apply And.intro) | (refine fun (_ : True) => ?_)))
  all_goals first | with_reducible rfl | exact trivial | omega | with_reducible assumption | with_reducible exact hsrc _ | with_reducible exact src_nil (t := 3) (sp := none) (by kernel_rfl) | exact hloop _ _ _ ⟨by kernel_rfl, by kernel_rfl, by kernel_rfl, by kernel_rfl, by kernel_rfl, by decide⟩ | rfl | skip
  intro hl H nx lg hQ
  obtain ⟨hs, ⟨b0, b1, b2, b4, b5, b6⟩, hRw⟩ := hQ
  rw [hR] at b5
  obtain ⟨l1, l2, l3, l4⟩ := hRw.list (by omega)
  have hgi : hs[ri]? = some (hs.getD ri 0) := by rw [List.getD_eq_getElem?_getD, List.getElem?_eq_getElem (by rw [hRw.len]; omega)]; rfl
  obtain ⟨r1, r2, d, r3, r4, r5⟩ := hRw.row ri _ hgi
  rw [hci] at r3
  cases r3
  have hcell : (hs.map fun h => V.sl h 0 cards.length none)[ri]? = some (V.sl (hs.getD ri 0) 0 cards.length none) := by rw [List.getElem?_map, hgi]; rfl
  have k1 := cellsOf_eq l4
  have k2 := rowOf_eq k1 hcell
  have hgm := List.mem_of_getElem? hgi
  rw [k2, k1]
  have hset := fun H' hg ho => rows_set (H' := H') (c := c.set ci N) hRw (by omega) hgi (by rw [List.length_set]; exact hcl) hg ho
  generalize hs.getD ri 0 = g at *
  have hgne : g ≠ hl := fun e => l3 (e ▸ hgm)
  have hhd := head_cells hcell
  (repeat' (first | (with_reducible apply And.intro) | (refine fun (_ : True) => ?_)))
  all_goals first | with_reducible rfl | exact trivial | omega | with_reducible assumption | (with_reducible exact decide_eq_true (by omega)) | (with_reducible refine beq_true' ?_; omega) | (with_reducible refine beq_false' ?_; omega) | with_reducible exact emod6 hb | with_reducible exact ediv4 ha | (rw [emod6 hb]; exact wr8 (by omega) (by omega)) | (rw [ediv4 ha]; exact wr8 (by omega) (by omega)) | (with_reducible refine wr6' ?_ ?_ ?_ <;> omega) | ((repeat (first | (rw [gt_pt, if_pos (by first | rfl | omega)]) | (rw [gt_pt, if_neg (by omega)]))) <;> first | assumption | rfl) | rfl | skip
  refine fin_gc (cv := .sl 4 0 cards.length none) (lv := .sl hl 0 (m + 1) none) ?_ ?_ (.inr (.inr ⟨4, 0, none, 3, some 1, ints cards, rfl, ?_, ?_, rfl⟩)) ?_
  · omega
  · ((repeat (first | (rw [gt_pt, if_pos (by first | rfl | omega)]) | (rw [gt_pt, if_neg (by omega)]))) <;> first | assumption | rfl)
  · omega
  · ((repeat (first | (rw [gt_pt, if_pos (by first | rfl | omega)]) | (rw [gt_pt, if_neg (by omega)]))) <;> first | assumption | rfl)
  · have := ((hset (pt H g (.row 3 (some 1) (ints (c.set ci N)))) (by rw [gt_pt, if_pos rfl]) (fun j h1 _ => by rw [gt_pt, if_neg h1])).mono (H' := pt (pt H g (.row 3 (some 1) (ints (c.set ci N)))) 2 (.row 32 none [.sl 4 0 cards.length none, .sl hl 0 (m + 1) none])) (fun g hg => by rw [gt_pt, if_neg (by omega)]) (Nat.le_refl _)).sees (by omega)
    rwa [List.length_set, hR] at this

end Go.Proofs.YtglpoiaedkoecaaDoor.Am
