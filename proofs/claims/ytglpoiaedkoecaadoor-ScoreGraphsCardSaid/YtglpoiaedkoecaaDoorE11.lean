/- Chapters 25, 28: the reference: Count, Family. -/
import Derived.Test.YtglpoiaedkoecaaDoorE10
namespace Go.Proofs.YtglpoiaedkoecaaDoor.Am
open Go.RowKit
set_option linter.unusedVariables false
set_option maxHeartbeats 1000000
set_option maxRecDepth 100000

/-! ### Count -/
def sizeL (cards : List Nat) (l : List Nat) : Nat := l.foldl (fun a k => a * cards.getD k 0) 1
theorem sizeL_snoc (cards l : List Nat) (k : Nat) : sizeL cards (l ++ [k]) = sizeL cards l * cards.getD k 0 := by simp [sizeL, List.foldl_append]
theorem sizeL_vars (cards : List Nat) (ps : Nat) : ∀ n, sizeL cards (varsN n ps) = sizeN cards ps n
  | 0 => rfl
  | n + 1 => by
    rw [varsN_succ]
    unfold sizeN
    split
    · rw [sizeL_snoc, sizeL_vars cards ps n]
    · rw [List.append_nil, sizeL_vars cards ps n]
theorem sizeL_le {cards : List Nat} (hc : CardsOk cards) (l : List Nat) (hl : ∀ k ∈ l, k < cards.length) : ∀ i, i ≤ l.length → 1 ≤ sizeL cards (l.take i) ∧ sizeL cards (l.take i) ≤ 4 ^ i
  | 0, _ => by simp [sizeL]
  | i + 1, h => by
    have h1 := sizeL_le hc l hl i (by omega)
    have hk := hl _ (List.getElem_mem (show i < l.length by omega))
    rw [List.take_add_one, List.getElem?_eq_getElem (by omega), Option.toList_some, sizeL_snoc]
    have h2 := hc.each _ hk
    rw [Nat.pow_succ]
    exact ⟨Nat.mul_pos h1.1 (by omega), Nat.mul_le_mul h1.2 h2.2⟩
/-- the cards of some variables -/
def cdsL (cards l : List Nat) : List Nat := l.map fun k => cards.getD k 0
theorem cdsL_snoc (cards l : List Nat) (k : Nat) : cdsL cards (l ++ [k]) = cdsL cards l ++ [cards.getD k 0] := by simp [cdsL]
theorem cdsL_length (cards l : List Nat) : (cdsL cards l).length = l.length := by simp [cdsL]
def owC (l m : List Nat) : Nat → List O
  | 0 => []
  | _ + 1 => [.row 3 (some 1) (nt l), .row 3 (some 1) (nt m)]
abbrev n3 : O := .row 130 none [.nils, .nils, .nils]
abbrev ctS (cards : List Nat) (cs : List (List Nat)) (l : List Nat) (q : Nat × Nat × List Nat × List Nat) : SL := { sl := [(1, nl l), (2, .ptr 0 0), (4, .ptr 1 0), (5, i6 q.2.1), (6, .ptr 2 0), (7, i6 q.1)], os := dO cards cs :: n3 :: .row 130 none [owV 3 q.1, owV 4 q.1, .nils] :: owC q.2.2.1 q.2.2.2 q.1, md := [0, 0, 1, 0, 0] }
abbrev ctX (cards : List Nat) (cs : List (List Nat)) (l : List Nat) (k : Nat) (s : Nat) (m : List Nat) : SL := { sl := [(1, nl l), (2, .ptr 0 0), (4, .ptr 1 0), (5, i6 s), (6, .ptr 2 0)], os := dO cards cs :: n3 :: .row 130 none [owV 3 k, owV 4 k, .nils] :: owC l m k, md := [0, 0, 1, 0, 0] }
theorem count_loop (cards : List Nat) (cs : List (List Nat)) (l : List Nat) (hc : CardsOk cards) (hl : ∀ k ∈ l, k < cards.length) (hl6 : l.length ≤ 6) (s : Nat) (hs : s = sizeL cards l) (m : List Nat) (hm : m = cdsL cards l) (n : Nat) (hn : n = l.length) :
    Sat Pg none 0 (at' 74 [1, 1, 1, 0, 1, 0]) (mkSt g0 80 (ctS cards cs l (0, 1, [], []))) (outsP g0 80 [(True, .exit 0, ctX cards cs l n s m)]) := by
  refine loopC vE_ok mixed sp0_ok (b := at' 74 [1, 1, 1, 0, 1, 0, 0]) (by kernel_rfl) (fun q => q.1 ≤ l.length ∧ q.2.1 = sizeL cards (l.take q.1) ∧ q.2.2.1 = l.take q.1 ∧ q.2.2.2 = cdsL cards (l.take q.1)) (ctS cards cs l) (fun q => l.length - q.1) (fun q hq => ?_) (0, 1, [], []) ⟨Nat.zero_le _, rfl, rfl, rfl⟩
  obtain ⟨k, u, a, b⟩ := q
  obtain ⟨hk, hu, ha, hb⟩ := hq
  dsimp only at hk hu ha hb
  have hsz := sizeL_le hc l hl k hk
  have hp4 := pow4 (show k ≤ 6 by omega)
  rw [← hu] at hsz
  by_cases hlt : k < l.length
  · have hx : l.getD k 0 ∈ l := by rw [List.getD_eq_getElem?_getD, List.getElem?_eq_getElem hlt]; exact List.getElem_mem hlt
    have hxl := hl _ hx
    have hld := @head_nt l k hlt
    have htk : l.take (k + 1) = l.take k ++ [l.getD k 0] := by
      rw [List.take_add_one, List.getElem?_eq_getElem hlt, Option.toList_some, List.getD_eq_getElem?_getD, List.getElem?_eq_getElem hlt]; rfl
    have hal : a.length = k := by rw [ha, List.length_take]; omega
    have hbl : b.length = k := by rw [hb, cdsL_length, List.length_take]; omega
    have n1 : u * cards.getD (l.getD k 0) 0 = sizeL cards (l.take (k + 1)) := by rw [htk, sizeL_snoc, ← hu]
    have n2 : a ++ [l.getD k 0] = l.take (k + 1) := by rw [htk, ← ha]
    have n3' : b ++ [cards.getD (l.getD k 0) 0] = cdsL cards (l.take (k + 1)) := by rw [htk, cdsL_snoc, ← hb]
    generalize l.getD k 0 = x at *
    have hcd := hc.each x hxl
    have hld1 := @head_nt cards x hxl
    generalize cards.getD x 0 = c at *
    have hmul : u * c ≤ 4096 * 4 := Nat.mul_le_mul (by omega) hcd.2
    have hcast : ((u : Int) * (c : Int)) = ((u * c : Nat) : Int) := by simp
    have hta := nt_app a x
    have htb := nt_app b c
    have htal := nt_length a
    have htbl := nt_length b
    generalize u * c = uc at *
    cases k with
    | zero =>
      have : a = [] := List.eq_nil_of_length_eq_zero hal
      subst this
      have : b = [] := List.eq_nil_of_length_eq_zero hbl
      subst this
      refine .inl ⟨(1, uc, [x], [c]), [0, 1, 2, 4, 6], [yes 13, pl 20, ld 21 (i6 x), pl 31, ld 32 (i6 x), pl 33, ld 34 (i6 c), pl 43, ld 44 (i6 x), pl 45, ld 46 (i6 c), nu 47 (uc : Nat), nu 15 1], 1000, ⟨by dsimp only; omega, n1, n2, n3'⟩, by dsimp only; omega, ?_⟩
      clear ha hb hu htk n1 n2 n3' hs hm hn
      refine Eq.mp (by kernel_rfl : (decide ((↑(0 : Nat) : Int) < (↑(List.length l) : Int)) = true ∧ ((0 : Int) ≤ (↑(0 : Nat) : Int) ∧ (↑(0 : Nat) : Int) < (↑(List.length l) : Int)) ∧ headF (List.drop (0 * 1) (nt l)) = some (i6 (↑x : Int)) ∧ ((0 : Int) ≤ (↑(0 : Nat) : Int) ∧ (↑(0 : Nat) : Int) < (↑(List.length l) : Int)) ∧ headF (List.drop (0 * 1) (nt l)) = some (i6 (↑x : Int)) ∧ ((0 : Int) ≤ (↑x : Int) ∧ (↑x : Int) < (↑(List.length cards) : Int)) ∧ headF (List.drop (x * 1) (nt cards)) = some (i6 (↑c : Int)) ∧ ((0 : Int) ≤ (↑(0 : Nat) : Int) ∧ (↑(0 : Nat) : Int) < (↑(List.length l) : Int)) ∧ headF (List.drop (0 * 1) (nt l)) = some (i6 (↑x : Int)) ∧ ((0 : Int) ≤ (↑x : Int) ∧ (↑x : Int) < (↑(List.length cards) : Int)) ∧ headF (List.drop (x * 1) (nt cards)) = some (i6 (↑c : Int)) ∧ wr IntKind.i64 ((↑u : Int) * (↑c : Int)) = (↑uc : Int) ∧ wr IntKind.i64 ((↑(0 : Nat) : Int) + (1 : Int)) = (1 : Int) ∧ ((List.length l = List.length l ∧ nt l = nt l) ∧ 0 = 0 ∧ 0 = 0 ∧ (↑uc : Int) = (↑uc : Int) ∧ 0 = 0 ∧ (↑(1 : Nat) : Int) = (1 : Int) ∧ True) ∧ ([nl cards, cV cs] = [nl cards, cV cs] ∧ True ∧ True ∧ True) ∧ ([V.nils, V.nils, V.nils] = [V.nils, V.nils, V.nils] ∧ True ∧ True ∧ True ∧ True) ∧ ((0 = 0 ∧ 0 + 1 = 1 ∧ True) ∧ (0 = 0 ∧ 0 + 1 = 1 ∧ True) ∧ True ∧ True) ∧ (nt [x] = [i6 (↑x : Int)] ∧ True ∧ True) ∧ (nt [c] = [i6 (↑c : Int)] ∧ True ∧ True) ∧ True) = _) ?_
      exact au
    | succ k =>
      refine .inl ⟨(k + 1 + 1, uc, a ++ [x], b ++ [c]), [0, 1, 2, 6, 8], [yes 13, pl 20, ld 21 (i6 x), ap 23, pl 31, ld 32 (i6 x), pl 33, ld 34 (i6 c), ap 36, pl 43, ld 44 (i6 x), pl 45, ld 46 (i6 c), nu 47 (uc : Nat), nu 15 (k + 1 + 1 : Nat)], 1000, ⟨by dsimp only; omega, n1, n2, n3'⟩, by dsimp only; omega, ?_⟩
      clear ha hb hu htk n1 n2 n3' hs hm hn
      refine Eq.mp (by kernel_rfl : (decide ((↑(k + 1) : Int) < (↑(List.length l) : Int)) = true ∧ ((0 : Int) ≤ (↑(k + 1) : Int) ∧ (↑(k + 1) : Int) < (↑(List.length l) : Int)) ∧ headF (List.drop ((k + 1) * 1) (nt l)) = some (i6 (↑x : Int)) ∧ List.length (nt a) = (k + 1) * 1 ∧ k + 1 + 1 ≤ 9223372036854775807 ∧ (k + 1 + 1) * 8 ≤ 140737488355328 ∧ ((0 : Int) ≤ (↑(k + 1) : Int) ∧ (↑(k + 1) : Int) < (↑(List.length l) : Int)) ∧ headF (List.drop ((k + 1) * 1) (nt l)) = some (i6 (↑x : Int)) ∧ ((0 : Int) ≤ (↑x : Int) ∧ (↑x : Int) < (↑(List.length cards) : Int)) ∧ headF (List.drop (x * 1) (nt cards)) = some (i6 (↑c : Int)) ∧ List.length (nt b) = (k + 1) * 1 ∧ k + 1 + 1 ≤ 9223372036854775807 ∧ (k + 1 + 1) * 8 ≤ 140737488355328 ∧ ((0 : Int) ≤ (↑(k + 1) : Int) ∧ (↑(k + 1) : Int) < (↑(List.length l) : Int)) ∧ headF (List.drop ((k + 1) * 1) (nt l)) = some (i6 (↑x : Int)) ∧ ((0 : Int) ≤ (↑x : Int) ∧ (↑x : Int) < (↑(List.length cards) : Int)) ∧ headF (List.drop (x * 1) (nt cards)) = some (i6 (↑c : Int)) ∧ wr IntKind.i64 ((↑u : Int) * (↑c : Int)) = (↑uc : Int) ∧ wr IntKind.i64 ((↑(k + 1) : Int) + (1 : Int)) = (↑(k + 1 + 1) : Int) ∧ ((List.length l = List.length l ∧ nt l = nt l) ∧ 0 = 0 ∧ 0 = 0 ∧ (↑uc : Int) = (↑uc : Int) ∧ 0 = 0 ∧ (↑(k + 1 + 1) : Int) = (↑(k + 1 + 1) : Int) ∧ True) ∧ ([nl cards, cV cs] = [nl cards, cV cs] ∧ True ∧ True ∧ True) ∧ ([V.nils, V.nils, V.nils] = [V.nils, V.nils, V.nils] ∧ True ∧ True ∧ True ∧ True) ∧ ((0 = 0 ∧ Nat.succ k + 1 = k + 1 + 1 ∧ True) ∧ (0 = 0 ∧ Nat.succ k + 1 = k + 1 + 1 ∧ True) ∧ True ∧ True) ∧ (nt (a ++ [x]) = nt a ++ [i6 (↑x : Int)] ∧ HfL (nt (a ++ [x]))) ∧ (nt (b ++ [c]) = nt b ++ [i6 (↑c : Int)] ∧ HfL (nt (b ++ [c]))) ∧ True) = _) ?_
      exact au
  · have : k = l.length := by omega
    rw [this, List.take_length] at hu ha hb
    obtain rfl : u = s := hu.trans hs.symm
    obtain rfl : b = m := hb.trans hm.symm
    subst ha
    obtain rfl : k = n := this.trans hn.symm
    clear hu hb hs hm
    cases k with
    | zero =>
      refine .inr ⟨.exit 0, [0, 1, 2], ctX cards cs a 0 u b, [no 13], 1000, .inl ⟨trivial, rfl, rfl⟩, ?_⟩
      clear this
      refine Eq.mp (by kernel_rfl : (decide ((↑(0 : Nat) : Int) < (↑(List.length a) : Int)) = false ∧ ((List.length a = List.length a ∧ nt a = nt a) ∧ 0 = 0 ∧ 0 = 0 ∧ (↑u : Int) = (↑u : Int) ∧ 0 = 0 ∧ True) ∧ ([nl cards, cV cs] = [nl cards, cV cs] ∧ True ∧ True ∧ True) ∧ ([V.nils, V.nils, V.nils] = [V.nils, V.nils, V.nils] ∧ True ∧ True ∧ True ∧ True) ∧ (True ∧ True ∧ True ∧ True) ∧ True) = _) ?_
      exact au
    | succ k =>
      refine .inr ⟨.exit 0, [0, 1, 2, 3, 4], ctX cards cs a (k + 1) u b, [no 13], 1000, .inl ⟨trivial, rfl, rfl⟩, ?_⟩
      clear this
      refine Eq.mp (by kernel_rfl : (decide ((↑(k + 1) : Int) < (↑(List.length a) : Int)) = false ∧ ((List.length a = List.length a ∧ nt a = nt a) ∧ 0 = 0 ∧ 0 = 0 ∧ (↑u : Int) = (↑u : Int) ∧ 0 = 0 ∧ True) ∧ ([nl cards, cV cs] = [nl cards, cV cs] ∧ True ∧ True ∧ True) ∧ ([V.nils, V.nils, V.nils] = [V.nils, V.nils, V.nils] ∧ True ∧ True ∧ True ∧ True) ∧ ((0 = 0 ∧ k + 1 = k + 1 ∧ True) ∧ (0 = 0 ∧ k + 1 = k + 1 ∧ True) ∧ True ∧ True) ∧ (nt a = nt a ∧ HfL (nt a)) ∧ (nt b = nt b ∧ HfL (nt b)) ∧ True) = _) ?_
      exact au

def bumpW (L : List Nat) (w : Nat) : List Nat := L.set w (L.getD w 0 + 1)
/-- how often each row was met among the first i cases -/
def cntW (cards : List Nat) (ps size : Nat) (cs : List (List Nat)) : List Nat := (cs.map fun c => rowN cards ps c cards.length).foldl bumpW (List.replicate size 0)
theorem cntW_snoc (cards : List Nat) (ps size : Nat) (cs : List (List Nat)) (c : List Nat) : cntW cards ps size (cs ++ [c]) = bumpW (cntW cards ps size cs) (rowN cards ps c cards.length) := by simp [cntW, List.foldl_append]
theorem bumpW_len (L : List Nat) (w : Nat) : (bumpW L w).length = L.length := by simp [bumpW]
theorem bumpW_bd {L : List Nat} {w n : Nat} (h : ∀ j, L.getD j 0 ≤ n) : ∀ j, (bumpW L w).getD j 0 ≤ n + 1 := fun j => by
  unfold bumpW
  rw [List.getD_eq_getElem?_getD, List.getElem?_set]
  have h1 := h j
  have h2 := h w
  rw [List.getD_eq_getElem?_getD] at h1
  by_cases hw : w = j
  · rw [if_pos hw]
    by_cases hl : w < L.length
    · rw [if_pos hl]; simp only [Option.getD_some]; omega
    · rw [if_neg hl]; simp
  · rw [if_neg hw]; omega
theorem cntW_ok (cards : List Nat) (ps size : Nat) : ∀ (cs : List (List Nat)), (cntW cards ps size cs).length = size ∧ ∀ j, (cntW cards ps size cs).getD j 0 ≤ cs.length := by
  have key : ∀ (l : List Nat) (L : List Nat) (n : Nat), L.length = size → (∀ j, L.getD j 0 ≤ n) → (l.foldl bumpW L).length = size ∧ ∀ j, (l.foldl bumpW L).getD j 0 ≤ n + l.length := by
    intro l
    induction l with
    | nil => intro L n h1 h2; exact ⟨h1, h2⟩
    | cons x l ih =>
      intro L n h1 h2
      have := ih (bumpW L x) (n + 1) (by rw [bumpW_len]; exact h1) (bumpW_bd h2)
      refine ⟨this.1, fun j => ?_⟩
      have := this.2 j
      simp only [List.foldl_cons, List.length_cons]
      omega
  intro cs
  have := key (cs.map fun c => rowN cards ps c cards.length) (List.replicate size 0) 0 (by simp) (fun j => by
    rw [List.getD_eq_getElem?_getD, List.getElem?_replicate]; split <;> simp)
  unfold cntW
  refine ⟨this.1, fun j => ?_⟩
  have := this.2 j
  rw [List.length_map] at this
  omega
abbrev cuS (cards : List Nat) (cs : List (List Nat)) (l m : List Nat) (size : Nat) (q : Nat × List Nat) : SL := { sl := [(1, nl l), (2, .ptr 0 0), (4, .ptr 1 0), (6, .ptr 2 0), (8, i6 q.1)], os := [dO cards cs, n3, .row 130 none [nl l, nl m, .sl 3 0 size (some (size - size))], .row 3 none (nt q.2)], md := [0, 0, 1, 0] }
abbrev cuX (l m : List Nat) (size : Nat) (L : List Nat) : SL := { sl := [(4, .ptr 0 0), (6, .ptr 1 0)], os := [n3, .row 130 none [nl l, nl m, .sl 2 0 size (some (size - size))], .row 3 none (nt L)], md := [0, 1, 0] }
theorem count_loop2 (cards : List Nat) (cs : List (List Nat)) (ps : Nat) (l m : List Nat) (size : Nat) (hc : CardsOk cards) (hcs : ∀ c ∈ cs, CaseOk cards c) (h40 : cs.length ≤ 40) (hl : l = varsN cards.length ps) (hsize : size = sizeN cards ps cards.length) (L : List Nat) (hL : L = cntW cards ps size cs) :
    Sat Pg none 0 (at' 74 [1, 1, 1, 1, 1, 0, 1, 0]) (mkSt g0 80 (cuS cards cs l m size (0, List.replicate size 0))) (outsP g0 80 [(True, .exit 2, cuX l m size L)]) := by
  refine loopC vE_ok mixed sp0_ok (b := at' 74 [1, 1, 1, 1, 1, 0, 1, 0, 0]) (by kernel_rfl) (fun q => q.1 ≤ cs.length ∧ q.2 = cntW cards ps size (cs.take q.1)) (cuS cards cs l m size) (fun q => cs.length - q.1) (fun q hq => ?_) (0, List.replicate size 0) ⟨Nat.zero_le _, rfl⟩
  obtain ⟨k, W⟩ := q
  obtain ⟨hk, hW⟩ := hq
  dsimp only at hk hW
  by_cases hlt : k < cs.length
  · have hck : cs[k]? = some cs[k] := List.getElem?_eq_getElem hlt
    have hco := hcs _ (List.getElem_mem hlt)
    generalize cs[k] = c at *
    have hld : headF ((cs.map nl).drop (k * 1)) = some (nl c) := head_map hck
    have hix := index_fn cards c ps hc hco
    rw [← hl] at hix
    have hw := rowN_lt hc hco ps cards.length (Nat.le_refl _)
    rw [← hsize] at hw
    have hnx : bumpW W (rowN cards ps c cards.length) = cntW cards ps size (cs.take (k + 1)) := by
      rw [List.take_add_one, hck, Option.toList_some, cntW_snoc, hW]
    have hWl : W.length = size := by rw [hW]; exact (cntW_ok _ _ _ _).1
    have hWb : ∀ j, W.getD j 0 ≤ 40 := fun j => by
      have := (cntW_ok cards ps size (cs.take k)).2 j
      rw [← hW, List.length_take] at this; omega
    generalize rowN cards ps c cards.length = w at *
    have hwb := hWb w
    have hldW := @head_nt W w (by omega)
    have hlay := @lay_nt W w (W.getD w 0 + 1) (by omega)
    unfold bumpW at hnx
    refine .inl ⟨(k + 1, W.set w (W.getD w 0 + 1)), [0, 1, 2, 3], [yes 55, pl 64, ld 65 (nl c), fn 66 (i6 w), yes 68, pl 75, ld 76 (i6 (W.getD w 0 : Nat)), nu 77 (W.getD w 0 + 1 : Nat), pl 78, st (nt (W.set w (W.getD w 0 + 1))), nu 57 (k + 1 : Nat)], 1000, ⟨hlt, hnx⟩, by dsimp only; omega, ?_⟩
    clear hW hL hl hsize hnx hWb
    generalize W.getD w 0 = y at *
    refine Eq.mp (by kernel_rfl : (decide ((↑k : Int) < (↑(List.length cs) : Int)) = true ∧ ((0 : Int) ≤ (↑k : Int) ∧ (↑k : Int) < (↑(List.length cs) : Int)) ∧ headF (List.drop (k * 1) (List.map nl cs)) = some (nl c) ∧ (True ∧ True ∧ True ∧ True) ∧ FnOk Tryd.prog g0 75 [V.im (List.length cards) (nt cards), V.im (List.length l) (nt l), V.im (List.length c) (nt c)] (i6 (↑w : Int)) ∧ True ∧ decide ((↑w : Int) ≥ (0 : Int)) = true ∧ ((0 : Int) ≤ (↑w : Int) ∧ (↑w : Int) < (↑size : Int)) ∧ headF (dropF (0 + w * 1) (nt W)) = some (i6 (↑y : Int)) ∧ wr IntKind.i64 ((↑y : Int) + (1 : Int)) = (↑(y + 1) : Int) ∧ ((0 : Int) ≤ (↑w : Int) ∧ (↑w : Int) < (↑size : Int)) ∧ layE (0 + w * 1) (nt W) [V.int IntKind.i64 (↑(y + 1) : Int)] = some (nt (List.set W w (y + 1))) ∧ wr IntKind.i64 ((↑k : Int) + (1 : Int)) = (↑(k + 1) : Int) ∧ ((List.length l = List.length l ∧ nt l = nt l) ∧ 0 = 0 ∧ 0 = 0 ∧ 0 = 0 ∧ (↑(k + 1) : Int) = (↑(k + 1) : Int) ∧ True) ∧ ([nl cards, cV cs] = [nl cards, cV cs] ∧ True ∧ True ∧ True) ∧ ([V.nils, V.nils, V.nils] = [V.nils, V.nils, V.nils] ∧ True ∧ True ∧ True ∧ True) ∧ ((List.length l = List.length l ∧ nt l = nt l) ∧ (List.length m = List.length m ∧ nt m = nt m) ∧ (0 = 0 ∧ size = size ∧ size - size = size - size) ∧ True) ∧ (nt (List.set W w (y + 1)) = nt (List.set W w (y + 1)) ∧ HfL (nt (List.set W w (y + 1)))) ∧ True) = _) ?_
    (repeat' (first | (with_reducible apply And.intro) | (refine fun (_ : True) => ?_))) <;> first | exact aq | skip
    all_goals first | rfl | exact HfL_nls _ | exact HfL_nt _ | omega | (rw [dropF_eq, Nat.zero_add]; exact hldW)
  · have : k = cs.length := by omega
    subst this
    rw [List.take_length] at hW
    obtain rfl : W = L := hW.trans hL.symm
    refine .inr ⟨.exit 2, [1, 2, 3], cuX l m size W, [no 55], 1000, .inl ⟨trivial, rfl, rfl⟩, ?_⟩
    clear hW hL
    refine Eq.mp (by kernel_rfl : (decide ((↑(List.length cs) : Int) < (↑(List.length cs) : Int)) = false ∧ (0 = 0 ∧ 0 = 0 ∧ True) ∧ ([V.nils, V.nils, V.nils] = [V.nils, V.nils, V.nils] ∧ True ∧ True ∧ True ∧ True) ∧ ((List.length l = List.length l ∧ nt l = nt l) ∧ (List.length m = List.length m ∧ nt m = nt m) ∧ (0 = 0 ∧ size = size ∧ size - size = size - size) ∧ True) ∧ (nt W = nt W ∧ HfL (nt W)) ∧ True) = _) ?_
    exact au
theorem count_fn (cards : List Nat) (cs : List (List Nat)) (ps : Nat) (hc : CardsOk cards) (hcs : ∀ c ∈ cs, CaseOk cards c) (h40 : cs.length ≤ 40) : ∃ m L, FnOk Pg g0 74 [dN cards cs, nl (varsN cards.length ps)] (.agg [nl (varsN cards.length ps), nl m, .im (sizeN cards ps cards.length) (nt L)]) := by
  have hv6 := varsN_le cards.length ps
  have h6 := hc.six
  have l1 := count_loop cards cs (varsN cards.length ps) hc (fun k hk => varsN_lt hk) (by omega) _ (sizeL_vars cards ps cards.length).symm _ rfl _ rfl
  have l2 := count_loop2 cards cs ps _ (cdsL cards (varsN cards.length ps)) _ hc hcs h40 rfl rfl _ rfl
  have hsz := sizeN_le hc ps cards.length (Nat.le_refl _)
  have hp4 := pow4 h6
  have hrep := rep_nt (sizeN cards ps cards.length) 0
  have hcl := cdsL_length cards (varsN cards.length ps)
  refine ⟨cdsL cards (varsN cards.length ps), cntW cards ps (sizeN cards ps cards.length) cs, ?_⟩
  generalize cntW cards ps (sizeN cards ps cards.length) cs = L at *
  generalize sizeN cards ps cards.length = size at *
  generalize cdsL cards (varsN cards.length ps) = m at *
  generalize varsN cards.length ps = l at *
  have hs4 : size ≤ 4096 := by omega
  cases hn : l.length with
  | zero =>
    have : l = [] := List.eq_nil_of_length_eq_zero hn
    subst this
    have : m = [] := List.eq_nil_of_length_eq_zero (by simpa using hcl)
    subst this
    clear hcl hn
    refine FnOk.of_vc vE_ok mixed sp0_ok (n := 1000) (r := [0]) (S := { sl := [(4, .ptr 0 0)], os := [.row 130 none [nl [], nl [], .im size (nt L)]], md := [1] }) (hs := [(0, .loop [0, 1, 2] (ctS cards cs [] (0, 1, [], [])) [(True, .exit 0, ctX cards cs [] 0 size [])]), mk 49, (0, .loop [0, 1, 2, 3] (cuS cards cs [] [] size (0, List.replicate size 0)) [(True, .exit 2, cuX [] [] size L)])]) ?_
    refine Eq.mp (by kernel_rfl : (V.agg [nl [], nl [], V.im size (nt L)] = V.agg [nl [], nl [], V.im size (nt L)] ∧ (((0 = 0 ∧ nt [] = nt []) ∧ 0 = 0 ∧ 0 = 0 ∧ (↑(1 : Nat) : Int) = (1 : Int) ∧ 0 = 0 ∧ (↑(0 : Nat) : Int) = (0 : Int) ∧ True) ∧ ([nl cards, cV cs] = [nl cards, cV cs] ∧ True ∧ True ∧ True) ∧ ([V.nils, V.nils, V.nils] = [V.nils, V.nils, V.nils] ∧ True ∧ True ∧ True ∧ True) ∧ (True ∧ True ∧ True ∧ True) ∧ True) ∧ Sat Tryd.prog none 0 (at' 74 [1, 1, 1, 0, 1, 0]) (mkSt g0 80 (ctS cards cs [] (0, 1, [], []))) (outsP g0 80 [(True, Ex.exit 0, ctX cards cs [] 0 size [])]) ∧ (True → ((0 : Int) ≤ (↑size : Int) ∧ (↑size : Int) ≤ (↑size : Int) ∧ (↑(8 : Nat) : Int) * (↑size : Int) ≤ (281474976710656 : Int) ∧ (↑size : Int) ≤ (9223372036854775807 : Int)) ∧ (((0 = 0 ∧ nt [] = nt []) ∧ 0 = 0 ∧ 0 = 0 ∧ 0 = 0 ∧ (↑(0 : Nat) : Int) = (0 : Int) ∧ True) ∧ ([nl cards, cV cs] = [nl cards, cV cs] ∧ True ∧ True ∧ True) ∧ ([V.nils, V.nils, V.nils] = [V.nils, V.nils, V.nils] ∧ True ∧ True ∧ True ∧ True) ∧ (0 = 0 ∧ 0 = 0 ∧ (0 = 0 ∧ size = size ∧ size - size = size - size) ∧ True) ∧ (nt (List.replicate size 0) = rep size [V.int IntKind.i64 (0 : Int)] ∧ HfL (nt (List.replicate size 0))) ∧ True) ∧ Sat Tryd.prog none 0 (at' 74 [1, 1, 1, 1, 1, 0, 1, 0]) (mkSt g0 80 (cuS cards cs [] [] size (0, List.replicate size 0))) (outsP g0 80 [(True, Ex.exit 2, cuX [] [] size L)]) ∧ (True → (0 = 0 ∧ True) ∧ ((0 = 0 ∧ nt [] = nt []) ∧ (0 = 0 ∧ nt [] = nt []) ∧ (size = size ∧ nt L = nt L ∧ HfL (nt L)) ∧ True) ∧ True) ∧ True) ∧ True) = _) ?_
    (repeat' (first | (with_reducible apply And.intro) | (refine fun (_ : True) => ?_))) <;> first | exact aq | skip
    all_goals first | rfl | exact HfL_nls _ | exact HfL_nt _ | omega | exact hrep.symm
  | succ n =>
    rw [hn] at l1 hcl
    have e : ∀ L, V.agg [nl l, nl m, .im size (nt L)] = .agg [.im (n + 1) (nt l), .im (n + 1) (nt m), .im size (nt L)] := fun L => by
      show V.agg [.im l.length (nt l), .im m.length (nt m), _] = _
      rw [hn, hcl]
    refine FnOk.of_vc vE_ok mixed sp0_ok (n := 1000) (r := [0]) (S := { sl := [(4, .ptr 0 0)], os := [.row 130 none [nl l, nl m, .im size (nt L)]], md := [1] }) (hs := [(0, .loop [0, 1, 2] (ctS cards cs l (0, 1, [], [])) [(True, .exit 0, ctX cards cs l (n + 1) size m)]), mk 49, (0, .loop [0, 1, 2, 5] (cuS cards cs l m size (0, List.replicate size 0)) [(True, .exit 2, cuX l m size L)])]) ?_
    clear e
    refine Eq.mp (by kernel_rfl : (V.agg [nl l, nl m, V.im size (nt L)] = V.agg [nl l, nl m, V.im size (nt L)] ∧ (((List.length l = List.length l ∧ nt l = nt l) ∧ 0 = 0 ∧ 0 = 0 ∧ (↑(1 : Nat) : Int) = (1 : Int) ∧ 0 = 0 ∧ (↑(0 : Nat) : Int) = (0 : Int) ∧ True) ∧ ([nl cards, cV cs] = [nl cards, cV cs] ∧ True ∧ True ∧ True) ∧ ([V.nils, V.nils, V.nils] = [V.nils, V.nils, V.nils] ∧ True ∧ True ∧ True ∧ True) ∧ (True ∧ True ∧ True ∧ True) ∧ True) ∧ Sat Tryd.prog none 0 (at' 74 [1, 1, 1, 0, 1, 0]) (mkSt g0 80 (ctS cards cs l (0, 1, [], []))) (outsP g0 80 [(True, Ex.exit 0, ctX cards cs l (n + 1) size m)]) ∧ (True → ((0 : Int) ≤ (↑size : Int) ∧ (↑size : Int) ≤ (↑size : Int) ∧ (↑(8 : Nat) : Int) * (↑size : Int) ≤ (281474976710656 : Int) ∧ (↑size : Int) ≤ (9223372036854775807 : Int)) ∧ (((List.length l = List.length l ∧ nt l = nt l) ∧ 0 = 0 ∧ 0 = 0 ∧ 0 = 0 ∧ (↑(0 : Nat) : Int) = (0 : Int) ∧ True) ∧ ([nl cards, cV cs] = [nl cards, cV cs] ∧ True ∧ True ∧ True) ∧ ([V.nils, V.nils, V.nils] = [V.nils, V.nils, V.nils] ∧ True ∧ True ∧ True ∧ True) ∧ ((List.length l = n + 1 ∧ nt l = nt l ∧ HfL (nt l)) ∧ (List.length m = n + 1 ∧ nt m = nt m ∧ HfL (nt m)) ∧ (0 = 0 ∧ size = size ∧ size - size = size - size) ∧ True) ∧ (nt (List.replicate size 0) = rep size [V.int IntKind.i64 (0 : Int)] ∧ HfL (nt (List.replicate size 0))) ∧ True) ∧ Sat Tryd.prog none 0 (at' 74 [1, 1, 1, 1, 1, 0, 1, 0]) (mkSt g0 80 (cuS cards cs l m size (0, List.replicate size 0))) (outsP g0 80 [(True, Ex.exit 2, cuX l m size L)]) ∧ (True → (0 = 0 ∧ True) ∧ ((List.length l = List.length l ∧ nt l = nt l) ∧ (List.length m = List.length m ∧ nt m = nt m) ∧ (size = size ∧ nt L = nt L ∧ HfL (nt L)) ∧ True) ∧ True) ∧ True) ∧ True) = _) ?_
    (repeat' (first | (with_reducible apply And.intro) | (refine fun (_ : True) => ?_))) <;> first | exact aq | skip
    all_goals first | rfl | exact HfL_nls _ | exact HfL_nt _ | omega | exact hrep.symm

end Go.Proofs.YtglpoiaedkoecaaDoor.Am
