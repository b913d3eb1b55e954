/- Chapter 25: drafts of data: what is missing; Data and Whole. -/
import Derived.Test.YtglpoiaedkoecaaDoorE14
namespace Go.Proofs.YtglpoiaedkoecaaDoor.Am
open Go.RowKit
set_option linter.unusedVariables false
set_option maxHeartbeats 1000000
set_option maxRecDepth 100000

def miss1 (n : Nat) (rows : List (List Int)) (mm : Int) : List (List Int) := rows.set (mm / 5 % rows.length).toNat ((rows.getD (mm / 5 % rows.length).toNat []).set (mm % n).toNat (-1))
def missL (n : Nat) (rows : List (List Int)) (M : List Int) : List (List Int) := M.foldl (miss1 n) rows
theorem missL_snoc (n : Nat) (rows : List (List Int)) (M : List Int) (mm : Int) : missL n rows (M ++ [mm]) = miss1 n (missL n rows M) mm := by simp [missL, List.foldl_append]
theorem missL_length (n : Nat) : ∀ (M : List Int) (rows : List (List Int)), (missL n rows M).length = rows.length
  | [], _ => rfl
  | m :: M, rows => by
    have := missL_length n M (miss1 n rows m)
    unfold missL at this ⊢
    rw [List.foldl_cons, this]
    simp [miss1]
theorem missL_nil (n : Nat) : ∀ (M : List Int), missL n [] M = []
  | [] => rfl
  | m :: M => by
    have : miss1 n [] m = [] := by simp [miss1]
    unfold missL
    rw [List.foldl_cons, this]
    exact missL_nil n M
abbrev dmS (t : Nat) : List (Nat × V) := [(1, .ptr 0 0), (2, .ptr 1 0), (3, .ptr 2 0), (9, i6 t)]
abbrev dmX : List (Nat × V) := [(2, .ptr 1 0), (3, .ptr 2 0)]
theorem lay_intsI {l : List Int} {j : Nat} {x : Int} (h : j < l.length) : layE (0 + j * 1) (ints l) [i6 x] = some (ints (l.set j x)) := lay_ints h
theorem dm_loop (C : List Int) (ks : List (Nat → Int)) (fo : Int) (M cards : List Int) (room sp : Option Nat) (hM : u8s M) (hML : M.length ≤ 9223372036854775807) (hc : CdOk cards) (rows : List (List Int)) (hl : Nat) (hs : List Nat) (H0 : T O) (nx0 : Nat) (lg0 : List Nat) (hD : DH C ks fo M cards room sp rows hl hs H0 nx0) (h40 : rows.length ≤ 40) :
    Sat Pg none 0 (at' 19 [1, 1, 1, 1, 1, 0, 1, 0]) (mkSo g0 139 (dmS 0) H0 nx0 lg0) (fun e st => ∃ (sl : List (Nat × V)) (M' : Mem), st = mkSo g0 139 sl M'.H M'.nx M'.lg ∧ e = .exit 6 ∧ sl = dmX ∧ DH C ks fo M cards room sp (missL cards.length rows M) hl hs M'.H M'.nx) := by
  refine loopOG (b := at' 19 [1, 1, 1, 1, 1, 0, 1, 0, 0]) (by kernel_rfl) (fun (t : Nat) (M' : Mem) => t ≤ M.length ∧ DH C ks fo M cards room sp (missL cards.length rows (M.take t)) hl hs M'.H M'.nx) dmS (fun t => M.length - t) (fun e sl M' => e = .exit 6 ∧ sl = dmX ∧ DH C ks fo M cards room sp (missL cards.length rows M) hl hs M'.H M'.nx) (fun t H nx lg G hI hN hE _ => ?_) 0 ⟨H0, nx0, lg0⟩ ⟨Nat.zero_le _, hD⟩
  obtain ⟨ht, hD'⟩ := hI
  dsimp only at hD'
  have hX := hE 6 dmX H nx lg
  have hlen := missL_length cards.length (M.take t) rows
  obtain ⟨hB, hR⟩ := hD'
  have hBB := hB
  obtain ⟨b0, b1, b2, b3, b4⟩ := hB
  have hpos := hc.pos
  have h5 := hc.five
  by_cases hlt : t < M.length
  · have hmt : M[t]? = some (M.getD t 0) := by rw [List.getD_eq_getElem?_getD, List.getElem?_eq_getElem hlt]; rfl
    have hm8 := hM _ (getD_mem hlt)
    have hldm := head_8 hlt
    have hnx : missL cards.length rows (M.take (t + 1)) = miss1 cards.length (missL cards.length rows (M.take t)) (M.getD t 0) := by
      rw [List.take_add_one, hmt, Option.toList_some, missL_snoc]
    have hN1 := fun H nx lg h => hN (t + 1) H nx lg ⟨by omega, h⟩ (by omega)
    rw [hnx] at hN1
    dsimp only at hN1
    by_cases h0 : rows.length = 0
    · have hr0 : rows = [] := List.eq_nil_of_length_eq_zero h0
      subst hr0
      rw [missL_nil] at hBB hR
      rw [missL_nil] at hX b2
      have hx := hX ⟨rfl, rfl, hBB, hR⟩
      clear hX hN hN1 hE hnx hlen hD hBB
      refine ⟨[lo_ 101 (dfO C ks fo M) (sl8 M), yes 103, lo_ 106 (.row 32 none [.sl 3 0 cards.length room, .nils]) .nils, toO dmX], 1000, ?_⟩
      refine Eq.mp (by kernel_rfl : (gt H 0 = some (dfO C ks fo M) ∧ headF (dropF (0 + 3) (dfL C ks fo M)) = some (sl8 M) ∧ decide ((↑t : Int) < (↑(List.length M) : Int)) = true ∧ gt H 2 = some (O.row 32 none [V.sl 3 0 (List.length cards) room, V.nils]) ∧ headF (dropF (0 + 1) [V.sl 3 0 (List.length cards) room, V.nils]) = some V.nils ∧ G (Ex.exit 6) dmX H nx lg ∧ V.ptr 1 0 = V.ptr 1 0 ∧ V.ptr 2 0 = V.ptr 2 0 ∧ True) = _) ?_
      exact au
    · generalize hrr : missL cards.length rows (M.take t) = rw_ at *
      generalize M.getD t 0 = mm at *
      have hRl : 0 < rw_.length := by omega
      have hR40 : rw_.length ≤ 40 := by omega
      unfold miss1 at hN1
      have hr1 : 0 ≤ mm / 5 % (rw_.length : Int) := Int.emod_nonneg _ (by omega)
      have hr2 : mm / 5 % (rw_.length : Int) < rw_.length := Int.emod_lt_of_pos _ (by omega)
      have hc1 : 0 ≤ mm % (cards.length : Int) := Int.emod_nonneg _ (by omega)
      have hc2 : mm % (cards.length : Int) < cards.length := Int.emod_lt_of_pos _ (by omega)
      have e0 : mm.tdiv 5 = mm / 5 := Int.tdiv_eq_ediv_of_nonneg hm8.1
      have e1 : binV (ctxOf Pg) .rem 3 (i6 (mm / 5)) (i6 rw_.length) = some (i6 (((mm / 5 % (rw_.length : Int)).toNat : Nat) : Int)) := by
        rw [rem6 (by omega), Int.tmod_eq_emod_of_nonneg (by omega), Int.toNat_of_nonneg hr1]
      have e2 : binV (ctxOf Pg) .rem 3 (i6 mm) (i6 cards.length) = some (i6 (((mm % (cards.length : Int)).toNat : Nat) : Int)) := by
        rw [rem6 (by omega), Int.tmod_eq_emod_of_nonneg hm8.1, Int.toNat_of_nonneg hc1]
      obtain ⟨l1, l2, l3, l4⟩ := hR.list hRl
      have hrl : (mm / 5 % (rw_.length : Int)).toNat < rw_.length := by omega
      have hcl : (mm % (cards.length : Int)).toNat < cards.length := by omega
      generalize (mm / 5 % (rw_.length : Int)).toNat = ri at *
      generalize (mm % (cards.length : Int)).toNat = ci at *
      have hgi : hs[ri]? = some (hs.getD ri 0) := by rw [List.getD_eq_getElem?_getD, List.getElem?_eq_getElem (by rw [hR.len]; exact hrl)]; rfl
      obtain ⟨r1, r2, c, r3, r4, r5⟩ := hR.row ri _ hgi
      have hgc : rw_.getD ri [] = c := by rw [List.getD_eq_getElem?_getD, r3]; rfl
      rw [hgc] at hN1
      have hhead : headF ((hs.map fun h => V.sl h 0 cards.length none).drop (ri * 1)) = some (V.sl (hs.getD ri 0) 0 cards.length none) := head_map hgi
      have hgm := List.mem_of_getElem? hgi
      have hnod := hR.nodup
      generalize hs.getD ri 0 = g at *
      have hgne : g ≠ hl := fun e => l3 (e ▸ hgm)
      have hlay := @lay_intsI c ci (-1) (by omega)
      have hfin : ∀ lg', G .normal (dmS (t + 1)) (pt H g (.row 3 (some 1) (ints (c.set ci (-1))))) nx lg' := fun lg' => by
        refine hN1 _ nx lg' ⟨⟨?_, ?_, ?_, ?_, b4⟩, ⟨by rw [List.length_set]; exact hR.len, fun _ => ⟨l1, l2, l3, ?_⟩, hnod, fun i h hi => ?_⟩⟩
        · ((repeat (first | (rw [gt_pt, if_pos (by first | rfl | omega)]) | (rw [gt_pt, if_neg (by omega)]))) <;> first | assumption | rfl)
        · ((repeat (first | (rw [gt_pt, if_pos (by first | rfl | omega)]) | (rw [gt_pt, if_neg (by omega)]))) <;> first | assumption | rfl)
        · rw [gt_pt, if_neg (by omega), List.length_set]; exact b2
        · ((repeat (first | (rw [gt_pt, if_pos (by first | rfl | omega)]) | (rw [gt_pt, if_neg (by omega)]))) <;> first | assumption | rfl)
        · rw [gt_pt, if_neg (Ne.symm hgne)]; exact l4
        · obtain ⟨q1, q2, d, q3, q4, q5⟩ := hR.row i h hi
          by_cases hri : i = ri
          · subst hri
            rw [hgi] at hi
            cases hi
            rw [r3] at q3
            cases q3
            exact ⟨q1, q2, c.set ci (-1), by rw [List.getElem?_set_self (by omega)], by simpa using r4, by rw [gt_pt, if_pos rfl]⟩
          · have hne : h ≠ g := by
              rintro rfl
              have h1 := (List.getElem?_eq_some_iff.1 hi)
              have h2 := (List.getElem?_eq_some_iff.1 hgi)
              exact hri ((List.getElem_inj hnod).1 (h1.2.trans h2.2.symm))
            exact ⟨q1, q2, d, by rw [List.getElem?_set_ne (Ne.symm hri)]; exact q3, q4, by rw [gt_pt, if_neg hne]; exact q5⟩
      have hb2 : gt H 2 = some (.row 32 none [.sl 3 0 cards.length room, .sl hl 0 rw_.length none]) := by
        rw [b2]
        cases hn : rw_.length with
        | zero => omega
        | succ n => rfl
      generalize hRR : rw_.length = R at *
      clear hX hN hN1 hE hnx hlen hD hBB hR b2 hrr
      refine ⟨[lo_ 101 (dfO C ks fo M) (sl8 M), yes 103, lo_ 106 (.row 32 none [.sl 3 0 cards.length room, .sl hl 0 R none]) (.sl hl 0 R none), yes 108, lo_ 113 (.row 32 none [.sl 3 0 cards.length room, .sl hl 0 R none]) (.sl hl 0 R none), lo_ 115 (dfO C ks fo M) (sl8 M), pl 117, ld 118 (w8 mm), nu 119 (mm / 5), nu 120 (mm / 5), lo_ 122 (.row 32 none [.sl 3 0 cards.length room, .sl hl 0 R none]) (.sl hl 0 R none), va 124 (i6 ri), pl 125, lo_ 126 (.row 29 (some 1) (hs.map fun h => V.sl h 0 cards.length none)) (.sl g 0 cards.length none), lo_ 129 (dfO C ks fo M) (sl8 M), pl 131, ld 132 (w8 mm), nu 133 mm, va 136 (i6 ci), pl 137, so (.row 3 (some 1) (ints c)) (ints (c.set ci (-1))), nu 111 (t + 1 : Nat), toO (dmS (t + 1))], 1000, ?_⟩
      refine Eq.mp (by kernel_rfl : (gt H 0 = some (dfO C ks fo M) ∧ headF (dropF (0 + 3) (dfL C ks fo M)) = some (sl8 M) ∧ decide ((↑t : Int) < (↑(List.length M) : Int)) = true ∧ gt H 2 = some (O.row 32 none [V.sl 3 0 (List.length cards) room, V.sl hl 0 R none]) ∧ headF (dropF (0 + 1) [V.sl 3 0 (List.length cards) room, V.sl hl 0 R none]) = some (V.sl hl 0 R none) ∧ decide ((↑R : Int) > (0 : Int)) = true ∧ gt H 2 = some (O.row 32 none [V.sl 3 0 (List.length cards) room, V.sl hl 0 R none]) ∧ headF (dropF (0 + 1) [V.sl 3 0 (List.length cards) room, V.sl hl 0 R none]) = some (V.sl hl 0 R none) ∧ gt H 0 = some (dfO C ks fo M) ∧ headF (dropF (0 + 3) (dfL C ks fo M)) = some (sl8 M) ∧ ((0 : Int) ≤ (↑t : Int) ∧ (↑t : Int) < (↑(List.length M) : Int)) ∧ headF (List.drop (t * 1) (List.map w8 M)) = some (w8 mm) ∧ wr IntKind.u8 (Int.tdiv mm (5 : Int)) = mm / (5 : Int) ∧ wr IntKind.i64 (mm / (5 : Int)) = mm / (5 : Int) ∧ gt H 2 = some (O.row 32 none [V.sl 3 0 (List.length cards) room, V.sl hl 0 R none]) ∧ headF (dropF (0 + 1) [V.sl 3 0 (List.length cards) room, V.sl hl 0 R none]) = some (V.sl hl 0 R none) ∧ binV (ctxOf Tryd.prog) BinOp.rem 3 (V.int IntKind.i64 (mm / (5 : Int))) (V.int IntKind.i64 (↑R : Int)) = some (i6 (↑ri : Int)) ∧ ((0 : Int) ≤ (↑ri : Int) ∧ (↑ri : Int) < (↑R : Int)) ∧ gt H hl = some (O.row 29 (some 1) (List.map (fun h => V.sl h 0 (List.length cards) none) hs)) ∧ headF (dropF (0 + ri * 1) (List.map (fun h => V.sl h 0 (List.length cards) none) hs)) = some (V.sl g 0 (List.length cards) none) ∧ gt H 0 = some (dfO C ks fo M) ∧ headF (dropF (0 + 3) (dfL C ks fo M)) = some (sl8 M) ∧ ((0 : Int) ≤ (↑t : Int) ∧ (↑t : Int) < (↑(List.length M) : Int)) ∧ headF (List.drop (t * 1) (List.map w8 M)) = some (w8 mm) ∧ wr IntKind.i64 mm = mm ∧ binV (ctxOf Tryd.prog) BinOp.rem 3 (V.int IntKind.i64 mm) (V.int IntKind.i64 (↑(List.length cards) : Int)) = some (i6 (↑ci : Int)) ∧ ((0 : Int) ≤ (↑ci : Int) ∧ (↑ci : Int) < (↑(List.length cards) : Int)) ∧ (gt H g = some (O.row 3 (some 1) (ints c)) ∧ layE (0 + ci * 1) (ints c) [V.int IntKind.i64 (-1 : Int)] = some (ints (List.set c ci (-1 : Int)))) ∧ wr IntKind.i64 ((↑t : Int) + (1 : Int)) = (↑(t + 1) : Int) ∧ G Ex.normal (dmS (t + 1)) (pt H g (O.row 3 (some 1) (ints (List.set c ci (-1 : Int))))) nx ([g] ++ lg) ∧ V.ptr 0 0 = V.ptr 0 0 ∧ V.ptr 1 0 = V.ptr 1 0 ∧ V.ptr 2 0 = V.ptr 2 0 ∧ V.int IntKind.i64 (↑(t + 1) : Int) = i6 (↑(t + 1) : Int) ∧ True) = _) ?_
      (repeat' (first | (with_reducible apply And.intro) | (refine fun (_ : True) => ?_))) <;> first | exact aq | skip
      all_goals first | rfl | exact hfin _ | exact hlay | omega | (rw [dropF_eq, Nat.zero_add]; exact hhead) | (rw [e0]; exact wr_in (by simp [lo]; omega) (by simp [hi]; omega)) | exact wr6 (by omega) (by omega) | skip
  · have : t = M.length := by omega
    subst this
    rw [List.take_length] at hBB hR
    have hx := hX ⟨rfl, rfl, hBB, hR⟩
    clear hX hN hE hlen hD hBB hR b2
    refine ⟨[lo_ 101 (dfO C ks fo M) (sl8 M), no 103, toO dmX], 1000, ?_⟩
    refine Eq.mp (by kernel_rfl : (gt H 0 = some (dfO C ks fo M) ∧ headF (dropF (0 + 3) (dfL C ks fo M)) = some (sl8 M) ∧ decide ((↑(List.length M) : Int) < (↑(List.length M) : Int)) = false ∧ G (Ex.exit 6) dmX H nx lg ∧ V.ptr 1 0 = V.ptr 1 0 ∧ V.ptr 2 0 = V.ptr 2 0 ∧ True) = _) ?_
    exact au

abbrev dzS (cards : List Int) (rows : List (List Int)) : SL := { sl := [(2, .ptr 0 0), (3, .ptr 1 0)], os := [n2, .row 32 none [sl cards, gC rows]] }
theorem dm_done (C : List Int) (ks : List (Nat → Int)) (fo : Int) (M cards : List Int) (room sp : Option Nat) (hM : u8s M) (hML : M.length ≤ 9223372036854775807) (hc : CdOk cards) (rows : List (List Int)) (hl : Nat) (hs : List Nat) (H0 : T O) (nx0 : Nat) (lg0 : List Nat) (hD : DH C ks fo M cards room sp rows hl hs H0 nx0) (h40 : rows.length ≤ 40) :
    Sat Pg none 0 (at' 19 [1, 1, 1, 1, 1, 0, 1, 0]) (mkSo g0 139 (dmS 0) H0 nx0 lg0) (outsP g0 139 [(True, .exit 6, dzS cards (missL cards.length rows M))]) := by
  refine Sat.gc_post ((dm_loop C ks fo M cards room sp hM hML hc rows hl hs H0 nx0 lg0 hD h40).mono ?_)
  rintro e st ⟨slots, M', rfl, rfl, rfl, hB, hR⟩
  generalize missL cards.length rows M = rw_ at *
  obtain ⟨H, nx, lg⟩ := M'
  have h1 := hB.h1
  have h2 := hB.h2
  have h3 := hB.h3
  have h4 := hB.nx
  rw [gt_eq] at h1 h2 h3
  refine ⟨[1, 2], mkSt g0 139 (dzS cards rw_), ⟨rfl, fun g hg => ?_, by decide, rfl, rfl, fun i x hx => ?_, fun h o ho hlive => ?_, fun h _ hlt => absurd hlt (Nat.not_lt_zero _)⟩, .inl ⟨trivial, rfl, rfl⟩⟩
  · refine ⟨Nat.zero_le _, ?_⟩
    show g < nx
    dsimp only at h4
    simp at hg; omega
  · have c2 : gt (putL (blank 139) dmX) 2 = some (.ptr 1 0) := by kernel_rfl
    have c3 : gt (putL (blank 139) dmX) 3 = some (.ptr 2 0) := by kernel_rfl
    rw [gt_eq] at c2 c3
    rcases putL_get _ _ _ _ hx with hmem | hmem
    · simp only [List.mem_cons, List.not_mem_nil, or_false] at hmem
      rcases hmem with h | h <;> cases h
      · exact ⟨_, c2, 1, rfl, rfl⟩
      · exact ⟨_, c3, 2, rfl, rfl⟩
    · rw [blank_get] at hmem; cases hmem
  · have hF : ∀ g, 3 ≤ g → Fr 0 [1, 2] (mkSo g0 139 dmX H nx lg).lg g := fun g hg => ⟨Nat.zero_le _, by simp; omega, fun _ _ => Nat.zero_le _⟩
    rcases ofOs_get _ _ _ _ _ ho with ⟨_, hm⟩ | hm
    · rw [Nat.sub_zero] at hm
      rcases h with _ | _ | h
      · cases hm; exact ⟨1, _, rfl, h1, _, rfl, ViewL.of_hf _ ⟨trivial, trivial, trivial⟩⟩
      · cases hm
        refine ⟨2, _, rfl, h2, _, rfl, _, _, rfl, .inr (.inr ⟨3, 0, room, 3, sp, ints cards, rfl, hF 3 (Nat.le_refl _), h3, ViewP.of_hf _ (HfL_ints _)⟩), _, _, rfl, ?_, rfl⟩
        cases hn : rw_ with
        | nil => exact .inr (.inl ⟨rfl, rfl⟩)
        | cons c cs =>
          obtain ⟨l1, l2, l3, l4⟩ := hR.list (by rw [hn]; simp)
          rw [gt_eq] at l4
          refine .inr (.inr ⟨hl, 0, none, 29, some 1, _, rfl, hF hl (by omega), l4, ?_⟩)
          rw [← hn, List.drop_zero]
          have key : ∀ (rs : List (List Int)) (gs : List Nat), gs.length = rs.length → (∀ (i h : Nat), gs[i]? = some h → 4 ≤ h ∧ ∃ c, rs[i]? = some c ∧ c.length = cards.length ∧ H.get h = some (.row 3 (some 1) (ints c))) → ViewP H.get (Fr 0 [1, 2] (mkSo g0 139 dmX H nx lg).lg) (rs.map sl) (gs.map fun h => V.sl h 0 cards.length none) := by
            intro rs
            induction rs with
            | nil => intro gs _ _; trivial
            | cons r rs ih =>
              intro gs hlen hgs
              cases gs with
              | nil => simp at hlen
              | cons g gs =>
                obtain ⟨q1, c, q2, q3, q4⟩ := hgs 0 g rfl
                obtain rfl : r = c := by simpa using q2
                refine ⟨_, _, rfl, .inr (.inr ⟨g, 0, none, 3, some 1, ints r, by rw [q3], hF g (by omega), q4, ViewP.of_hf _ (HfL_ints _)⟩), ih gs (by simpa using hlen) (fun i h hi => ?_)⟩
                have := hgs (i + 1) h (by simpa using hi)
                simpa using this
          refine key rw_ hs hR.len (fun i h hi => ?_)
          obtain ⟨q1, _, c, q3, q4, q5⟩ := hR.row i h hi
          rw [gt_eq] at q5
          exact ⟨q1, c, q3, q4, q5⟩
      · simp at hm
    · simp at hm

/-! ### Data, Whole -/
def cardsD (C : List Int) : List Int := if C = [] then [2] else (C.take 5).map cardF
theorem cardsD_ok (C : List Int) : CdOk (cardsD C) := by
  unfold cardsD
  by_cases h : C = []
  · rw [if_pos h]
    refine ⟨by simp, by simp, fun k hk => ?_⟩
    have : k = 0 := by simp at hk; omega
    subst this; simp
  · rw [if_neg h]
    have hl : 1 ≤ C.length := Nat.pos_of_ne_zero (fun h0 => h (List.eq_nil_of_length_eq_zero h0))
    refine ⟨by rw [List.length_map, List.length_take]; omega, by rw [List.length_map, List.length_take]; omega, fun k hk => ?_⟩
    rw [List.getD_eq_getElem?_getD, List.getElem?_eq_getElem hk, Option.getD_some, List.getElem_map]
    unfold cardF; omega
/-- the data that a draft describes -/
def dataD (C : List Int) (ks : List (Nat → Int)) (fo : Int) (M : List Int) : List (List Int) := missL (cardsD C).length (drows ks fo (cardsD C) (min ks.length 40)) M
structure DrOk (C : List Int) (ks : List (Nat → Int)) (fo : Int) (M : List Int) : Prop where
  c8 : u8s C
  k8 : KOk ks
  f8 : 0 ≤ fo ∧ fo ≤ 255
  m8 : u8s M
  mlen : M.length ≤ 9223372036854775807
theorem draft_fn (C : List Int) (ks : List (Nat → Int)) (fo : Int) (M : List Int) (h : DrOk C ks fo M) : FnOk Pg g0 19 [dfV C ks fo M] (gV (cardsD C) (dataD C ks fo M)) := by
  obtain ⟨n, hn⟩ : ∃ n, n = min C.length 5 := ⟨_, rfl⟩
  have hl := dc_loop C ks fo M h.c8 n hn
  have hcd := cardsD_ok C
  have hdl : (drows ks fo (cardsD C) (min ks.length 40)).length ≤ 40 := by simp only [drows, List.length_map, List.length_take]; omega
  have hB : ∀ (H : T O) (nx : Nat) (room sp : Option Nat), gt H 0 = some (dfO C ks fo M) → gt H 1 = some n2 → gt H 2 = some (.row 32 none [.sl 3 0 (cardsD C).length room, .nils]) → gt H 3 = some (.row 3 sp (ints (cardsD C))) → 4 ≤ nx → Base C ks fo M (cardsD C) room sp .nils H nx := fun H nx room sp h0 h1 h2 h3 h4 => ⟨h0, h1, h2, h3, h4⟩
  have hrows := fun H nx lg room sp (hb : Base C ks fo M (cardsD C) room sp .nils H nx) => dr_loop C ks fo M (cardsD C) room sp h.k8 h.f8 hcd _ rfl H nx lg hb
  have hdone := fun room sp hl hs H nx lg hD => dm_done C ks fo M (cardsD C) room sp h.m8 h.mlen hcd (drows ks fo (cardsD C) (min ks.length 40)) hl hs H nx lg hD hdl
  change ∀ room sp hl hs H nx lg, _ → Sat Pg none 0 _ _ (outsP g0 139 [(True, .exit 6, dzS (cardsD C) (dataD C ks fo M))]) at hdone
  generalize dataD C ks fo M = rows at *
  cases n with
  | zero =>
    have hC : C = [] := List.eq_nil_of_length_eq_zero (by omega)
    have hcs : cardsD C = [2] := by unfold cardsD; rw [if_pos hC]
    rw [hcs] at hB hrows hdone ⊢
    clear hcd hdl hcs
    refine FnOk.of_vc vE_ok mixed sp0_ok (n := 1000) (r := [0]) (S := { sl := [(2, .ptr 0 0)], os := [.row 32 none [sl [2], gC rows]] }) (hs := [(0, .loop [0, 1, 2] (dcS C ks fo M 0) [(True, .exit 0, dcX C ks fo M 0)]), yes 38, (0, .loopM (dbS 0) (.exit 2) (fun _ => [(1, .ptr 0 0), (2, .ptr 1 0), (3, .ptr 2 0)]) (fun hl H nx lg => ∃ hs, DH C ks fo M [2] (some 0) none (drows ks fo [2] (min ks.length 40)) hl hs H nx) (fun hl H' nx' lg' => [(0, .loopK (dmS 0) [(True, .exit 6, dzS [2] rows)])]))]) ?_
    refine Eq.mp (by kernel_rfl : (V.agg [sl [(2 : Int)], gC rows] = gV [(2 : Int)] rows ∧ ((0 = 0 ∧ 0 = 0 ∧ 0 = 0 ∧ (↑(0 : Nat) : Int) = (0 : Int) ∧ True) ∧ (dfL C ks fo M = [sl8 C, kV ks, w8 fo, sl8 M] ∧ True ∧ True ∧ True ∧ True ∧ True) ∧ ([V.nils, V.nils] = [V.nils, V.nils] ∧ True ∧ True ∧ True) ∧ (True ∧ True ∧ True) ∧ True) ∧ Sat Tryd.prog none 0 (at' 19 [1, 1, 0, 1, 0]) (mkSt g0 139 (dcS C ks fo M 0)) (outsP g0 139 [(True, Ex.exit 0, dcX C ks fo M 0)]) ∧ (True → ((↑(0 : Nat) : Int) == (0 : Int)) = true ∧ (V.ptr 0 0 = V.ptr 0 0 ∧ V.ptr 1 0 = V.ptr 1 0 ∧ V.ptr 2 0 = V.ptr 2 0 ∧ V.int IntKind.i64 (0 : Int) = i6 (↑(0 : Nat) : Int) ∧ True) ∧ Sat Tryd.prog none 0 (at' 19 [1, 1, 1, 1, 0, 1, 0]) (mkSo g0 139 (dbS 0) (pt (pt (ofOs T.e 0 (dfO C ks fo M :: n2 :: O.row 32 none [owV 3 0, V.nils] :: owL 3 (ints (List.map cardF [])) 0)) 3 (O.row 3 none [V.int IntKind.i64 (2 : Int)])) 2 (O.row 32 none [V.sl 3 0 1 (some 0), V.nils])) (3 + 1) ([2] ++ [])) (outsM g0 139 (Ex.exit 2) (fun x => [(1, V.ptr 0 0), (2, V.ptr 1 0), (3, V.ptr 2 0)]) fun hl H nx lg => ∃ hs, DH C ks fo M [(2 : Int)] (some 0) none (drows ks fo [(2 : Int)] (min (List.length ks) 40)) hl hs H nx) ∧ ∀ (h : Nat) (H : T O) (nx : Nat) (lg : List Nat), (∃ hs, DH C ks fo M [(2 : Int)] (some 0) none (drows ks fo [(2 : Int)] (min (List.length ks) 40)) h hs H nx) → (V.ptr 0 0 = V.ptr 0 0 ∧ V.ptr 1 0 = V.ptr 1 0 ∧ V.ptr 2 0 = V.ptr 2 0 ∧ V.int IntKind.i64 (0 : Int) = i6 (↑(0 : Nat) : Int) ∧ True) ∧ Sat Tryd.prog none 0 (at' 19 [1, 1, 1, 1, 1, 0, 1, 0]) (mkSo g0 139 (dmS 0) H nx lg) (outsP g0 139 [(True, Ex.exit 6, dzS [(2 : Int)] rows)]) ∧ (True → (0 = 0 ∧ True) ∧ ([sl [(2 : Int)], gC rows] = [sl [(2 : Int)], gC rows] ∧ True ∧ True ∧ True) ∧ True) ∧ True) ∧ True) = _) ?_
    (repeat' (first | (with_reducible apply And.intro) | (refine fun (_ : True) => ?_)))
    all_goals first | with_reducible rfl | exact trivial | assumption | rfl | exact hrows _ _ _ (some 0) none (hB _ _ (some 0) none (by kernel_rfl) (by kernel_rfl) (by kernel_rfl) (by kernel_rfl) (by decide)) | skip
    intro hl_ H_ nx_ lg_ hQ
    obtain ⟨hs_, hD_⟩ := hQ
    have hd_ := hdone _ _ hl_ hs_ H_ nx_ lg_ hD_
    (repeat' (first | (with_reducible apply And.intro) | (refine fun (_ : True) => ?_)))
    all_goals first | with_reducible rfl | exact trivial | assumption | rfl
  | succ n =>
    have hcs : cardsD C = (C.take (n + 1)).map cardF := by
      unfold cardsD
      rw [if_neg (by rintro rfl; simp at hn)]
      congr 1
      by_cases h5 : C.length ≤ 5
      · rw [List.take_of_length_le h5, List.take_of_length_le (by omega)]
      · rw [show n + 1 = 5 by omega]
    have hLl : ((C.take (n + 1)).map cardF).length = n + 1 := by rw [List.length_map, List.length_take]; omega
    rw [hcs] at hB hrows hdone ⊢
    have hl2 : Sat Pg none 0 (at' 19 [1, 1, 0, 1, 0]) (mkSt g0 139 (dcS C ks fo M 0)) (outsP g0 139 [(True, .exit 0, { sl := [(1, .ptr 0 0), (2, .ptr 1 0), (3, .ptr 2 0)], os := dfO C ks fo M :: n2 :: .row 32 none [owV 3 (n + 1), .nils] :: owL 3 (ints ((C.take (n + 1)).map cardF)) (n + 1), md := [0, 0, 1] })]) := hl
    clear hcd hdl hcs hn hl
    generalize (C.take (n + 1)).map cardF = L at *
    refine FnOk.of_vc vE_ok mixed sp0_ok (n := 1000) (r := [0]) (S := { sl := [(2, .ptr 0 0)], os := [.row 32 none [sl L, gC rows]] }) (hs := [(0, .loop [0, 1, 2] (dcS C ks fo M 0) [(True, .exit 0, { sl := [(1, .ptr 0 0), (2, .ptr 1 0), (3, .ptr 2 0)], os := dfO C ks fo M :: n2 :: .row 32 none [owV 3 (n + 1), .nils] :: owL 3 (ints L) (n + 1), md := [0, 0, 1] })]), no 38, (0, .loopM (dbS 0) (.exit 2) (fun _ => [(1, .ptr 0 0), (2, .ptr 1 0), (3, .ptr 2 0)]) (fun hl H nx lg => ∃ hs, DH C ks fo M L none (some 1) (drows ks fo L (min ks.length 40)) hl hs H nx) (fun hl H' nx' lg' => [(0, .loopK (dmS 0) [(True, .exit 6, dzS L rows)])]))]) ?_
    refine Eq.mp (by kernel_rfl : (V.agg [sl L, gC rows] = gV L rows ∧ ((0 = 0 ∧ 0 = 0 ∧ 0 = 0 ∧ (↑(0 : Nat) : Int) = (0 : Int) ∧ True) ∧ (dfL C ks fo M = [sl8 C, kV ks, w8 fo, sl8 M] ∧ True ∧ True ∧ True ∧ True ∧ True) ∧ ([V.nils, V.nils] = [V.nils, V.nils] ∧ True ∧ True ∧ True) ∧ (True ∧ True ∧ True) ∧ True) ∧ Sat Tryd.prog none 0 (at' 19 [1, 1, 0, 1, 0]) (mkSt g0 139 (dcS C ks fo M 0)) (outsP g0 139 [(True, Ex.exit 0, SL.mk [(1, V.ptr 0 0), (2, V.ptr 1 0), (3, V.ptr 2 0)] (dfO C ks fo M :: n2 :: O.row 32 none [owV 3 (n + 1), V.nils] :: owL 3 (ints L) (n + 1)) [] [0, 0, 1])]) ∧ (True → ((↑(n + 1) : Int) == (0 : Int)) = false ∧ (V.ptr 0 0 = V.ptr 0 0 ∧ V.ptr 1 0 = V.ptr 1 0 ∧ V.ptr 2 0 = V.ptr 2 0 ∧ V.int IntKind.i64 (0 : Int) = i6 (↑(0 : Nat) : Int) ∧ True) ∧ Sat Tryd.prog none 0 (at' 19 [1, 1, 1, 1, 0, 1, 0]) (mkSo g0 139 (dbS 0) (ofOs T.e 0 (dfO C ks fo M :: n2 :: O.row 32 none [owV 3 (n + 1), V.nils] :: owL 3 (ints L) (n + 1))) 4 []) (outsM g0 139 (Ex.exit 2) (fun x => [(1, V.ptr 0 0), (2, V.ptr 1 0), (3, V.ptr 2 0)]) fun hl H nx lg => ∃ hs, DH C ks fo M L none (some 1) (drows ks fo L (min (List.length ks) 40)) hl hs H nx) ∧ ∀ (h : Nat) (H : T O) (nx : Nat) (lg : List Nat), (∃ hs, DH C ks fo M L none (some 1) (drows ks fo L (min (List.length ks) 40)) h hs H nx) → (V.ptr 0 0 = V.ptr 0 0 ∧ V.ptr 1 0 = V.ptr 1 0 ∧ V.ptr 2 0 = V.ptr 2 0 ∧ V.int IntKind.i64 (0 : Int) = i6 (↑(0 : Nat) : Int) ∧ True) ∧ Sat Tryd.prog none 0 (at' 19 [1, 1, 1, 1, 1, 0, 1, 0]) (mkSo g0 139 (dmS 0) H nx lg) (outsP g0 139 [(True, Ex.exit 6, dzS L rows)]) ∧ (True → (0 = 0 ∧ True) ∧ ([sl L, gC rows] = [sl L, gC rows] ∧ True ∧ True ∧ True) ∧ True) ∧ True) ∧ True) = _) ?_
    (repeat' (first | (with_reducible apply And.intro) | (refine fun (_ : True) => ?_)))
    all_goals first | with_reducible rfl | exact trivial | assumption | rfl | (refine beq_false' ?_; omega) | exact hrows _ _ _ none (some 1) (hB _ _ none (some 1) (by kernel_rfl) (by kernel_rfl) (by rw [hLl]; kernel_rfl) (by kernel_rfl) (by decide)) | skip
    intro hl_ H_ nx_ lg_ hQ
    obtain ⟨hs_, hD_⟩ := hQ
    have hd_ := hdone _ _ hl_ hs_ H_ nx_ lg_ hD_
    (repeat' (first | (with_reducible apply And.intro) | (refine fun (_ : True) => ?_)))
    all_goals first | with_reducible rfl | exact trivial | assumption | rfl

end Go.Proofs.YtglpoiaedkoecaaDoor.Am
