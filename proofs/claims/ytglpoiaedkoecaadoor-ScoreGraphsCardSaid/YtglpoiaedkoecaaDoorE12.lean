/- Chapter 28: the reference's Family is the same as score.Family's powers. -/
import Derived.Test.YtglpoiaedkoecaaDoorE11
namespace Go.Proofs.YtglpoiaedkoecaaDoor.Am
open Go.RowKit
set_option linter.unusedVariables false
set_option maxHeartbeats 1000000
set_option maxRecDepth 100000

/-- all counts in one list, row by row -/
def cntL (P : List (Nat × Nat)) (size r : Nat) : List Nat := (List.range (size * r)).map fun t => cntJ P (t / r) (t % r)
theorem cntL_length (P : List (Nat × Nat)) (size r : Nat) : (cntL P size r).length = size * r := by simp [cntL]
theorem at_lt {w x size r : Nat} (hw : w < size) (hx : x < r) : w * r + x < size * r := by
  calc w * r + x < w * r + r := by omega
    _ = (w + 1) * r := by rw [Nat.add_mul, Nat.one_mul]
    _ ≤ size * r := Nat.mul_le_mul_right _ hw
theorem at_div {w x r : Nat} (hx : x < r) : (w * r + x) / r = w ∧ (w * r + x) % r = x := by
  constructor
  · rw [Nat.mul_comm, Nat.mul_add_div (by omega), Nat.div_eq_of_lt hx]; omega
  · rw [Nat.mul_comm, Nat.mul_add_mod, Nat.mod_eq_of_lt hx]
theorem cntL_get {P : List (Nat × Nat)} {size r w x : Nat} (hw : w < size) (hx : x < r) : (cntL P size r).getD (w * r + x) 0 = cntJ P w x := by
  unfold cntL
  rw [List.getD_eq_getElem?_getD, List.getElem?_map, List.getElem?_range (at_lt hw hx)]
  simp only [Option.map_some, Option.getD_some, (at_div hx).1, (at_div hx).2]
theorem cntL_set {P : List (Nat × Nat)} {size r w x : Nat} (hw : w < size) (hx : x < r) : (cntL P size r).set (w * r + x) (cntJ P w x + 1) = cntL (P ++ [(w, x)]) size r := by
  apply List.ext_getElem
  · simp [cntL]
  · intro t h1 h2
    rw [List.getElem_set]
    simp only [cntL, List.getElem_map, List.getElem_range, cntJ_snoc]
    by_cases ht : w * r + x = t
    · subst ht
      rw [if_pos rfl, (at_div hx).1, (at_div hx).2, if_pos ⟨rfl, rfl⟩]
    · rw [if_neg ht, if_neg ?_, Nat.add_zero]
      rintro ⟨e1, e2⟩
      apply ht
      rw [e1, e2, Nat.mul_comm]
      exact Nat.div_add_mod t r
theorem cntL_nil (size r : Nat) : cntL [] size r = List.replicate (size * r) 0 := by
  unfold cntL
  rw [List.eq_replicate_iff]
  refine ⟨by simp, fun b hb => ?_⟩
  obtain ⟨t, _, rfl⟩ := List.mem_map.1 hb
  rfl
theorem cntJ_le (P : List (Nat × Nat)) (j k : Nat) : cntJ P j k ≤ P.length := List.count_le_length

abbrev rsl (r size : Nat) : V := .sl 2 0 (size * r) (some (size * r - size * r))
abbrev rfS (cards : List Nat) (cs : List (List Nat)) (l : List Nat) (v size r : Nat) (q : Nat × List Nat) : SL := { sl := [(1, i6 v), (3, .ptr 0 0), (6, .ptr 1 0), (7, nl l), (8, i6 size), (9, i6 r), (10, rsl r size), (11, i6 q.1)], os := [dO cards cs, .row 41 none (arF zeroF), .row 3 none (nt q.2)] }
abbrev rfX (size r : Nat) (L : List Nat) : SL := { sl := [(6, .ptr 1 0), (8, i6 size), (9, i6 r), (10, rsl r size)], os := [.dead, .row 41 none (arF zeroF), .row 3 none (nt L)] }
theorem rf_count (cards : List Nat) (cs : List (List Nat)) (v ps : Nat) (l : List Nat) (size r : Nat) (hc : CardsOk cards) (hcs : ∀ c ∈ cs, CaseOk cards c) (h40 : cs.length ≤ 40) (hl : l = varsN cards.length ps) (hsize : size = sizeN cards ps cards.length) (hv : v < cards.length) (hr : r = cards.getD v 0) (L : List Nat) (hL : L = cntL (pairsN cards v ps cs) size r) :
    Sat Pg none 0 (at' 24 [1, 1, 1, 1, 1, 0, 1, 0]) (mkSt g0 113 (rfS cards cs l v size r (0, List.replicate (size * r) 0))) (outsP g0 113 [(True, .exit 0, rfX size r L)]) := by
  refine loopC vE_ok mixed sp0_ok (b := at' 24 [1, 1, 1, 1, 1, 0, 1, 0, 0]) (by kernel_rfl) (fun q => q.1 ≤ cs.length ∧ q.2 = cntL (pairsN cards v ps (cs.take q.1)) size r) (rfS cards cs l v size r) (fun q => cs.length - q.1) (fun q hq => ?_) (0, List.replicate (size * r) 0) ⟨Nat.zero_le _, (cntL_nil size r).symm⟩
  obtain ⟨k, W⟩ := q
  obtain ⟨hk, hW⟩ := hq
  dsimp only at hk hW
  by_cases hlt : k < cs.length
  · have hck : cs[k]? = some cs[k] := List.getElem?_eq_getElem hlt
    have hco := hcs _ (List.getElem_mem hlt)
    have hps := @pairs_snoc cards v ps k cs _ hck
    generalize cs[k] = c at *
    have hld : headF ((cs.map nl).drop (k * 1)) = some (nl c) := head_map hck
    have hix := index_fn cards c ps hc hco
    rw [← hl] at hix
    have hw := rowN_lt hc hco ps cards.length (Nat.le_refl _)
    have hsz := sizeN_le hc ps cards.length (Nat.le_refl _)
    have hp4 := pow4 hc.six
    rw [← hsize] at hw hsz
    have hx := hco.lt v hv
    have hcd := hc.each v hv
    rw [← hr] at hx hcd
    have hldx := @head_nt c v (by have := hco.len; omega)
    have hcl := hco.len
    generalize rowN cards ps c cards.length = w at *
    generalize c.getD v 0 = x at *
    have hlt2 := at_lt hw hx
    have hsr : size * r ≤ 4096 * 4 := Nat.mul_le_mul (by omega) hcd.2
    have hg := @cntL_get (pairsN cards v ps (cs.take k)) size r w x hw hx
    have hst := @cntL_set (pairsN cards v ps (cs.take k)) size r w x hw hx
    have hle := cntJ_le (pairsN cards v ps (cs.take k)) w x
    have hpl : (pairsN cards v ps (cs.take k)).length ≤ 40 := by simp only [pairsN, List.length_map, List.length_take]; omega
    have hWl : W.length = size * r := by rw [hW, cntL_length]
    rw [← hps] at hst
    rw [← hW] at hg hst
    generalize cntJ (pairsN cards v ps (cs.take k)) w x = y at *
    have hcast : ((w : Int) * (r : Int)) = ((w * r : Nat) : Int) := by simp
    generalize w * r = wr_ at *
    have hldW := @head_nt W (wr_ + x) (by omega)
    rw [hg] at hldW
    have hlay := @lay_nt W (wr_ + x) (y + 1) (by omega)
    refine .inl ⟨(k + 1, W.set (wr_ + x) (y + 1)), [0, 1, 2], [yes 41, pl 50, ld 51 (nl c), fn 52 (i6 w), nu 54 (wr_ : Nat), pl 58, ld 59 (nl c), pl 61, ld 62 (i6 x), nu 63 (wr_ + x : Nat), pl 68, ld 69 (i6 y), nu 70 (y + 1 : Nat), pl 71, st (nt (W.set (wr_ + x) (y + 1))), nu 43 (k + 1 : Nat)], 1000, ⟨hlt, hst⟩, by dsimp only; omega, ?_⟩
    clear hW hL hl hsize hst hps hg hr
    refine Eq.mp (by kernel_rfl : (decide ((↑k : Int) < (↑(List.length cs) : Int)) = true ∧ ((0 : Int) ≤ (↑k : Int) ∧ (↑k : Int) < (↑(List.length cs) : Int)) ∧ headF (List.drop (k * 1) (List.map nl cs)) = some (nl c) ∧ (True ∧ True ∧ True ∧ True) ∧ FnOk Tryd.prog g0 75 [V.im (List.length cards) (nt cards), V.im (List.length l) (nt l), V.im (List.length c) (nt c)] (i6 (↑w : Int)) ∧ True ∧ wr IntKind.i64 ((↑w : Int) * (↑r : Int)) = (↑wr_ : Int) ∧ ((0 : Int) ≤ (↑k : Int) ∧ (↑k : Int) < (↑(List.length cs) : Int)) ∧ headF (List.drop (k * 1) (List.map nl cs)) = some (nl c) ∧ ((0 : Int) ≤ (↑v : Int) ∧ (↑v : Int) < (↑(List.length c) : Int)) ∧ headF (List.drop (v * 1) (nt c)) = some (i6 (↑x : Int)) ∧ wr IntKind.i64 ((↑wr_ : Int) + (↑x : Int)) = (↑(wr_ + x) : Int) ∧ ((0 : Int) ≤ (↑(wr_ + x) : Int) ∧ (↑(wr_ + x) : Int) < (↑(size * r) : Int)) ∧ headF (dropF (0 + (wr_ + x) * 1) (nt W)) = some (i6 (↑y : Int)) ∧ wr IntKind.i64 ((↑y : Int) + (1 : Int)) = (↑(y + 1) : Int) ∧ ((0 : Int) ≤ (↑(wr_ + x) : Int) ∧ (↑(wr_ + x) : Int) < (↑(size * r) : Int)) ∧ layE (0 + (wr_ + x) * 1) (nt W) [V.int IntKind.i64 (↑(y + 1) : Int)] = some (nt (List.set W (wr_ + x) (y + 1))) ∧ wr IntKind.i64 ((↑k : Int) + (1 : Int)) = (↑(k + 1) : Int) ∧ ((↑v : Int) = (↑v : Int) ∧ 0 = 0 ∧ 0 = 0 ∧ (List.length l = List.length l ∧ nt l = nt l) ∧ (↑size : Int) = (↑size : Int) ∧ (↑r : Int) = (↑r : Int) ∧ (0 = 0 ∧ size * r = size * r ∧ size * r - size * r = size * r - size * r) ∧ (↑(k + 1) : Int) = (↑(k + 1) : Int) ∧ True) ∧ ([nl cards, cV cs] = [nl cards, cV cs] ∧ True ∧ True ∧ True) ∧ (arF zeroF = arF zeroF ∧ True ∧ True ∧ True ∧ True ∧ True ∧ True ∧ True ∧ True ∧ True ∧ True ∧ True ∧ True ∧ True ∧ True ∧ True ∧ True ∧ True ∧ True ∧ True) ∧ (nt (List.set W (wr_ + x) (y + 1)) = nt (List.set W (wr_ + x) (y + 1)) ∧ HfL (nt (List.set W (wr_ + x) (y + 1)))) ∧ True) = _) ?_
    (repeat' (first | (with_reducible apply And.intro) | (refine fun (_ : True) => ?_))) <;> first | exact aq | skip
    all_goals first | rfl | exact HfL_nls _ | exact HfL_nt _ | omega | (rw [dropF_eq, Nat.zero_add]; exact hldW)
  · have : k = cs.length := by omega
    subst this
    rw [List.take_length] at hW
    obtain rfl : W = L := hW.trans hL.symm
    refine .inr ⟨.exit 0, [0, 1, 2], rfX size r W, [no 41], 1000, .inl ⟨trivial, rfl, rfl⟩, ?_⟩
    clear hW hL hr
    refine Eq.mp (by kernel_rfl : (decide ((↑(List.length cs) : Int) < (↑(List.length cs) : Int)) = false ∧ (0 = 0 ∧ (↑size : Int) = (↑size : Int) ∧ (↑r : Int) = (↑r : Int) ∧ (0 = 0 ∧ size * r = size * r ∧ size * r - size * r = size * r - size * r) ∧ True) ∧ True ∧ (arF zeroF = arF zeroF ∧ True ∧ True ∧ True ∧ True ∧ True ∧ True ∧ True ∧ True ∧ True ∧ True ∧ True ∧ True ∧ True ∧ True ∧ True ∧ True ∧ True ∧ True ∧ True) ∧ (nt W = nt W ∧ HfL (nt W)) ∧ True) = _) ?_
    exact au

/-! ### the sums -/
abbrev rgS (size r : Nat) (L : List Nat) (j : Nat) (q : Nat × Nat × (Nat → Int)) : SL := { sl := [(6, .ptr 1 0), (8, i6 size), (9, i6 r), (10, rsl r size), (13, .ptr 3 0), (14, i6 j), (15, i6 q.2.1), (16, i6 q.1)], os := [.dead, .row 41 none (arF zeroF), .row 3 none (nt L), .row 41 none (arF q.2.2)] }
abbrev rgX (size r : Nat) (L : List Nat) (j : Nat) (s : Nat) (f : Nat → Int) : SL := { sl := [(6, .ptr 1 0), (8, i6 size), (9, i6 r), (10, rsl r size), (13, .ptr 3 0), (14, i6 j), (15, i6 s)], os := [.dead, .row 41 none (arF zeroF), .row 3 none (nt L), .row 41 none (arF f)] }
theorem rf_row (P : List (Nat × Nat)) (size r j : Nat) (L : List Nat) (hL : L = cntL P size r) (hj : j < size) (hs : size ≤ 4096) (hr4 : r ≤ 4) (hsum : sumN (rowL P r j) ≤ 40) (f : Nat → Int) (hf : ∀ i, i < 18 → -800000 ≤ f i ∧ f i ≤ 800000) (g : Nat → Int) (hg : g = sumA facF f (rowL P r j) r) (s : Nat) (hss : s = sumN (rowL P r j)) :
    Sat Pg none 0 (at' 24 [1, 1, 1, 1, 1, 1, 1, 0, 1, 0, 0, 1, 0, 0, 1, 0, 1, 0]) (mkSt g0 113 (rgS size r L j (0, 0, f))) (outsP g0 113 [(True, .exit 4, rgX size r L j s g)]) := by
  have hrl := rowL_length P r j
  refine loopC vE_ok mixed sp0_ok (b := at' 24 [1, 1, 1, 1, 1, 1, 1, 0, 1, 0, 0, 1, 0, 0, 1, 0, 1, 0, 0]) (by kernel_rfl) (fun q => q.1 ≤ r ∧ q.2.1 = sumN ((rowL P r j).take q.1) ∧ q.2.2 = sumA facF f (rowL P r j) q.1) (rgS size r L j) (fun q => r - q.1) (fun q hq => ?_) (0, 0, f) ⟨Nat.zero_le _, rfl, rfl⟩
  obtain ⟨k, u, a⟩ := q
  obtain ⟨hk, hu, ha⟩ := hq
  dsimp only at hk hu ha
  by_cases hlt : k < r
  · have hget : (rowL P r j).getD k 0 = cntJ P j k := rowL_get hlt
    have hgL := @cntL_get P size r j k hj hlt
    have halt := at_lt hj hlt
    have hmem : (rowL P r j).getD k 0 ∈ rowL P r j := by rw [List.getD_eq_getElem?_getD, List.getElem?_eq_getElem (by omega)]; exact List.getElem_mem (by omega)
    have hle := sumN_mem hmem
    have hsn : sumN ((rowL P r j).take (k + 1)) = u + (rowL P r j).getD k 0 := by
      rw [List.take_add_one, sumN_append, ← hu, List.getD_eq_getElem?_getD, List.getElem?_eq_getElem (by omega)]; simp [sumN]
    have hle2 : sumN ((rowL P r j).take (k + 1)) ≤ sumN (rowL P r j) := by
      have := sumN_append ((rowL P r j).take (k + 1)) ((rowL P r j).drop (k + 1))
      rw [List.take_append_drop] at this; omega
    have hbd := fun i (hi : i < 18) => sum_bd fac_ok hi ((rowL P r j).take k) (fun c hc => by have := sumN_mem (List.mem_of_mem_take hc); omega)
    have hfac := factorial_fn a ((rowL P r j).getD k 0) 1 (.inl rfl) (fun i hi => by
      have h1 := hbd i hi
      have h2 := hf i hi
      have h3 : ((rowL P r j).take k).length ≤ 4 := by rw [List.length_take]; omega
      rw [ha, sumA_at _ _ _ _ _ (by omega)]
      omega) (by omega)
    have hnext : addA a (facF ((rowL P r j).getD k 0)) 1 = sumA facF f (rowL P r j) (k + 1) := by rw [ha]; rfl
    have hLl : L.length = size * r := by rw [hL, cntL_length]
    rw [hget] at hle hsn hfac hnext
    rw [← hL] at hgL
    generalize cntJ P j k = c at *
    have hcast : ((j : Int) * (r : Int)) = ((j * r : Nat) : Int) := by simp
    have hsr : size * r ≤ 4096 * 4 := Nat.mul_le_mul hs hr4
    have hldL := @head_nt L (j * r + k) (by omega)
    rw [hgL] at hldL
    generalize j * r = jr at *
    refine .inl ⟨(k + 1, u + c, addA a (facF c) 1), [0, 1, 2, 3], [yes 79, nu 86 (jr : Nat), nu 88 (jr + k : Nat), pl 89, ld 90 (i6 c), fn 91 (ar (addA a (facF c) 1)), nu 96 (jr : Nat), nu 98 (jr + k : Nat), pl 99, ld 100 (i6 c), nu 101 (u + c : Nat), nu 81 (k + 1 : Nat)], 1000, ⟨hlt, hsn.symm, hnext⟩, by dsimp only; omega, ?_⟩
    have hub : u + c ≤ 40 := by omega
    clear hL hget hu ha hsn hnext hg hss hbd
    generalize addA a (facF c) 1 = a' at *
    refine Eq.mp (by kernel_rfl : (decide ((↑k : Int) < (↑r : Int)) = true ∧ wr IntKind.i64 ((↑j : Int) * (↑r : Int)) = (↑jr : Int) ∧ wr IntKind.i64 ((↑jr : Int) + (↑k : Int)) = (↑(jr + k) : Int) ∧ ((0 : Int) ≤ (↑(jr + k) : Int) ∧ (↑(jr + k) : Int) < (↑(size * r) : Int)) ∧ headF (dropF (0 + (jr + k) * 1) (nt L)) = some (i6 (↑c : Int)) ∧ ((True ∧ True ∧ True ∧ True ∧ True ∧ True ∧ True ∧ True ∧ True ∧ True ∧ True ∧ True ∧ True ∧ True ∧ True ∧ True ∧ True ∧ True ∧ True) ∧ True ∧ True ∧ True) ∧ FnOk Tryd.prog g0 76 [V.agg [V.int IntKind.i64 (a 0), V.int IntKind.i64 (a 1), V.int IntKind.i64 (a 2), V.int IntKind.i64 (a 3), V.int IntKind.i64 (a 4), V.int IntKind.i64 (a 5), V.int IntKind.i64 (a 6), V.int IntKind.i64 (a 7), V.int IntKind.i64 (a 8), V.int IntKind.i64 (a 9), V.int IntKind.i64 (a 10), V.int IntKind.i64 (a 11), V.int IntKind.i64 (a 12), V.int IntKind.i64 (a 13), V.int IntKind.i64 (a 14), V.int IntKind.i64 (a 15), V.int IntKind.i64 (a 16), V.int IntKind.i64 (a 17)], V.int IntKind.i64 (↑c : Int), V.int IntKind.i64 (1 : Int)] (ar a') ∧ True ∧ wr IntKind.i64 ((↑j : Int) * (↑r : Int)) = (↑jr : Int) ∧ wr IntKind.i64 ((↑jr : Int) + (↑k : Int)) = (↑(jr + k) : Int) ∧ ((0 : Int) ≤ (↑(jr + k) : Int) ∧ (↑(jr + k) : Int) < (↑(size * r) : Int)) ∧ headF (dropF (0 + (jr + k) * 1) (nt L)) = some (i6 (↑c : Int)) ∧ wr IntKind.i64 ((↑u : Int) + (↑c : Int)) = (↑(u + c) : Int) ∧ wr IntKind.i64 ((↑k : Int) + (1 : Int)) = (↑(k + 1) : Int) ∧ (0 = 0 ∧ (↑size : Int) = (↑size : Int) ∧ (↑r : Int) = (↑r : Int) ∧ (0 = 0 ∧ size * r = size * r ∧ size * r - size * r = size * r - size * r) ∧ 0 = 0 ∧ (↑j : Int) = (↑j : Int) ∧ (↑(u + c) : Int) = (↑(u + c) : Int) ∧ (↑(k + 1) : Int) = (↑(k + 1) : Int) ∧ True) ∧ True ∧ (arF zeroF = arF zeroF ∧ True ∧ True ∧ True ∧ True ∧ True ∧ True ∧ True ∧ True ∧ True ∧ True ∧ True ∧ True ∧ True ∧ True ∧ True ∧ True ∧ True ∧ True ∧ True) ∧ (nt L = nt L ∧ HfL (nt L)) ∧ (arF a' = [i6 (a' 0), i6 (a' 1), i6 (a' 2), i6 (a' 3), i6 (a' 4), i6 (a' 5), i6 (a' 6), i6 (a' 7), i6 (a' 8), i6 (a' 9), i6 (a' 10), i6 (a' 11), i6 (a' 12), i6 (a' 13), i6 (a' 14), i6 (a' 15), i6 (a' 16), i6 (a' 17)] ∧ True ∧ True ∧ True ∧ True ∧ True ∧ True ∧ True ∧ True ∧ True ∧ True ∧ True ∧ True ∧ True ∧ True ∧ True ∧ True ∧ True ∧ True ∧ True) ∧ True) = _) ?_
    (repeat' (first | (with_reducible apply And.intro) | (refine fun (_ : True) => ?_))) <;> first | exact aq | skip
    all_goals first | rfl | exact HfL_nt _ | omega | (rw [dropF_eq, Nat.zero_add]; exact hldL)
  · have : k = r := by omega
    subst this
    rw [List.take_of_length_le (by omega)] at hu
    obtain rfl : u = s := hu.trans hss.symm
    obtain rfl : a = g := ha.trans hg.symm
    refine .inr ⟨.exit 4, [0, 1, 2, 3], rgX size k L j u a, [no 79], 1000, .inl ⟨trivial, rfl, rfl⟩, ?_⟩
    clear hu hss ha hg hL
    refine Eq.mp (by kernel_rfl : (decide ((↑k : Int) < (↑k : Int)) = false ∧ (0 = 0 ∧ (↑size : Int) = (↑size : Int) ∧ (↑k : Int) = (↑k : Int) ∧ (0 = 0 ∧ size * k = size * k ∧ size * k - size * k = size * k - size * k) ∧ 0 = 0 ∧ (↑j : Int) = (↑j : Int) ∧ (↑u : Int) = (↑u : Int) ∧ True) ∧ True ∧ (arF zeroF = arF zeroF ∧ True ∧ True ∧ True ∧ True ∧ True ∧ True ∧ True ∧ True ∧ True ∧ True ∧ True ∧ True ∧ True ∧ True ∧ True ∧ True ∧ True ∧ True ∧ True) ∧ (nt L = nt L ∧ HfL (nt L)) ∧ (arF a = arF a ∧ True ∧ True ∧ True ∧ True ∧ True ∧ True ∧ True ∧ True ∧ True ∧ True ∧ True ∧ True ∧ True ∧ True ∧ True ∧ True ∧ True ∧ True ∧ True) ∧ True) = _) ?_
    exact au

abbrev rhS (size r : Nat) (L : List Nat) (q : Nat × (Nat → Int)) : SL := { sl := [(6, .ptr 1 0), (8, i6 size), (9, i6 r), (10, rsl r size), (13, .ptr 3 0), (14, i6 q.1)], os := [.dead, .row 41 none (arF zeroF), .row 3 none (nt L), .row 41 none (arF q.2)] }
abbrev rhX (f : Nat → Int) : SL := { sl := [(6, .ptr 1 0), (13, .ptr 3 0)], os := [.dead, .row 41 none (arF zeroF), .dead, .row 41 none (arF f)] }
theorem rows_bd {P : List (Nat × Nat)} {r : Nat} (hP : ∀ p ∈ P, p.2 < r) (h40 : P.length ≤ 40) (hr1 : 1 ≤ r) (hr4 : r ≤ 4) {i : Nat} (hi : i < 18) (j : Nat) : -250 ≤ conF facF r (rowL P r j) i ∧ conF facF r (rowL P r j) i ≤ 250 := by
  have h1 := sum_row_le (r := r) P j hP
  have h2 := rowL_length P r j
  have h3 := sum_bd fac_ok hi (rowL P r j) (fun c hc => by have := sumN_mem hc; omega)
  have h5 := fac_ok.bd (r - 1) i (by omega) hi
  have h6 := fac_ok.bd (sumN (rowL P r j) + (r - 1)) i (by omega) hi
  unfold conF; omega
theorem rf_all (P : List (Nat × Nat)) (size r : Nat) (L : List Nat) (hL : L = cntL P size r) (hs : size ≤ 1024) (hr1 : 1 ≤ r) (hr4 : r ≤ 4) (hP : ∀ p ∈ P, p.2 < r) (h40 : P.length ≤ 40) :
    Sat Pg none 0 (at' 24 [1, 1, 1, 1, 1, 1, 1, 0, 1, 0]) (mkSt g0 113 (rhS size r L (0, zeroF))) (outsP g0 113 [(True, .exit 2, rhX (famZ facF P r size))]) := by
  have key : Sat Pg none 0 (at' 24 [1, 1, 1, 1, 1, 1, 1, 0, 1, 0]) (mkSt g0 113 (rhS size r L (0, zeroF))) (fun e st => ∃ S', st = mkSt g0 113 S' ∧ e = .exit 2 ∧ ∃ f, S' = rhX f ∧ ∀ i, i < 18 → f i = famZ facF P r size i) := by
    refine loopHG (b := at' 24 [1, 1, 1, 1, 1, 1, 1, 0, 1, 0, 0]) (by kernel_rfl) (fun q : Nat × (Nat → Int) => q.1 ≤ size ∧ ∀ i, i < 18 → q.2 i = famZ facF P r q.1 i) (rhS size r L) (fun q => size - q.1) (fun e S' => e = .exit 2 ∧ ∃ f, S' = rhX f ∧ ∀ i, i < 18 → f i = famZ facF P r size i) (fun q G hq hN hX _ => ?_) (0, zeroF) ⟨Nat.zero_le _, fun _ _ => rfl⟩
    obtain ⟨j, f⟩ := q
    obtain ⟨hj, hf⟩ := hq
    dsimp only at hj hf hN
    have hfb : ∀ i, i < 18 → -256000 ≤ f i ∧ f i ≤ 256000 := fun i hi => by
      have key : ∀ n : Nat, -250 * (n : Int) ≤ famZ facF P r n i ∧ famZ facF P r n i ≤ 250 * (n : Int) := by
        intro n
        induction n with
        | zero => simp [famZ, sumI]
        | succ n ih =>
          have h1 := rows_bd hP h40 hr1 hr4 hi n
          unfold famZ at ih ⊢
          rw [List.range_succ, List.map_append, sumI_append]
          simp only [List.map_cons, List.map_nil, sumI]
          omega
      have := key j
      rw [hf i hi]; omega
    by_cases hlt : j < size
    · have hrs := sum_row_le (r := r) P j hP
      have hrow := rf_row P size r j L hL hlt (by omega) hr4 (by omega) f (fun i hi => by have := hfb i hi; omega) _ rfl _ rfl
      have hsb := fun i (hi : i < 18) => sum_bd fac_ok hi (rowL P r j) (fun c hc => by have := sumN_mem hc; omega)
      have hrl := rowL_length P r j
      have hgb : ∀ i, i < 18 → -300000 ≤ sumA facF f (rowL P r j) r i ∧ sumA facF f (rowL P r j) r i ≤ 300000 := fun i hi => by
        have h1 := hsb i hi
        have h2 := hfb i hi
        rw [sumA_at _ _ _ _ _ (by omega), List.take_of_length_le (by omega)]; omega
      have hb1 := fun i (hi : i < 18) => fac_ok.bd (r - 1) i (by omega) hi
      have c1 := factorial_fn (sumA facF f (rowL P r j) r) (r - 1) 1 (.inl rfl) (fun i hi => by have := hgb i hi; omega) (by omega)
      have c2 := factorial_fn (addA (sumA facF f (rowL P r j) r) (facF (r - 1)) 1) (sumN (rowL P r j) + (r - 1)) (-1) (.inr rfl) (fun i hi => by have := hgb i hi; have := hb1 i hi; unfold addA; omega) (by omega)
      have hnx := hN (j + 1, addA (addA (sumA facF f (rowL P r j) r) (facF (r - 1)) 1) (facF (sumN (rowL P r j) + (r - 1))) (-1)) ⟨by dsimp only; omega, fun i hi => by
        have h1 := hf i hi
        unfold famZ at h1 ⊢
        dsimp only
        rw [List.range_succ, List.map_append, sumI_append, ← h1]
        simp only [List.map_cons, List.map_nil, sumI, addA, conF]
        rw [sumA_at _ _ _ _ _ (by omega), List.take_of_length_le (by omega)]
        omega⟩ (by dsimp only; omega)
      generalize hs' : sumN (rowL P r j) = s at *
      generalize sumA facF f (rowL P r j) r = g at *
      generalize addA g (facF (r - 1)) 1 = g1 at *
      generalize addA g1 (facF (s + (r - 1))) (-1) = g2 at *
      refine ⟨[yes 74, (0, .loop [0, 1, 2, 3] (rgS size r L j (0, 0, f)) [(True, .exit 4, rgX size r L j s g)]), nu 104 (r - 1 : Nat), fn 105 (ar g1), nu 109 (s + r : Nat), nu 110 (s + (r - 1) : Nat), fn 111 (ar g2), nu 76 (j + 1 : Nat), (0, .to [0, 1, 2, 3] (rhS size r L (j + 1, g2)))], 1000, ?_⟩
      clear hs' hsb hgb hb1 hf hX hN hL
      refine Eq.mp (by kernel_rfl : (decide ((↑j : Int) < (↑size : Int)) = true ∧ ((0 = 0 ∧ (↑size : Int) = (↑size : Int) ∧ (↑r : Int) = (↑r : Int) ∧ (0 = 0 ∧ size * r = size * r ∧ size * r - size * r = size * r - size * r) ∧ 0 = 0 ∧ (↑j : Int) = (↑j : Int) ∧ (↑(0 : Nat) : Int) = (0 : Int) ∧ (↑(0 : Nat) : Int) = (0 : Int) ∧ True) ∧ True ∧ (arF zeroF = arF zeroF ∧ True ∧ True ∧ True ∧ True ∧ True ∧ True ∧ True ∧ True ∧ True ∧ True ∧ True ∧ True ∧ True ∧ True ∧ True ∧ True ∧ True ∧ True ∧ True) ∧ (nt L = nt L ∧ HfL (nt L)) ∧ (arF f = arF f ∧ True ∧ True ∧ True ∧ True ∧ True ∧ True ∧ True ∧ True ∧ True ∧ True ∧ True ∧ True ∧ True ∧ True ∧ True ∧ True ∧ True ∧ True ∧ True) ∧ True) ∧ Sat Pg none 0 (at' 24 [1, 1, 1, 1, 1, 1, 1, 0, 1, 0, 0, 1, 0, 0, 1, 0, 1, 0]) (mkSt g0 113 (rgS size r L j (0, 0, f))) (outsP g0 113 [(True, Ex.exit 4, rgX size r L j s g)]) ∧ (True → wr IntKind.i64 ((↑r : Int) - (1 : Int)) = (↑(r - 1) : Int) ∧ ((True ∧ True ∧ True ∧ True ∧ True ∧ True ∧ True ∧ True ∧ True ∧ True ∧ True ∧ True ∧ True ∧ True ∧ True ∧ True ∧ True ∧ True ∧ True) ∧ True ∧ True ∧ True) ∧ FnOk Pg g0 76 [V.agg [V.int IntKind.i64 (g 0), V.int IntKind.i64 (g 1), V.int IntKind.i64 (g 2), V.int IntKind.i64 (g 3), V.int IntKind.i64 (g 4), V.int IntKind.i64 (g 5), V.int IntKind.i64 (g 6), V.int IntKind.i64 (g 7), V.int IntKind.i64 (g 8), V.int IntKind.i64 (g 9), V.int IntKind.i64 (g 10), V.int IntKind.i64 (g 11), V.int IntKind.i64 (g 12), V.int IntKind.i64 (g 13), V.int IntKind.i64 (g 14), V.int IntKind.i64 (g 15), V.int IntKind.i64 (g 16), V.int IntKind.i64 (g 17)], V.int IntKind.i64 (↑(r - 1) : Int), V.int IntKind.i64 (1 : Int)] (ar g1) ∧ True ∧ wr IntKind.i64 ((↑s : Int) + (↑r : Int)) = (↑(s + r) : Int) ∧ wr IntKind.i64 ((↑(s + r) : Int) - (1 : Int)) = (↑(s + (r - 1)) : Int) ∧ ((True ∧ True ∧ True ∧ True ∧ True ∧ True ∧ True ∧ True ∧ True ∧ True ∧ True ∧ True ∧ True ∧ True ∧ True ∧ True ∧ True ∧ True ∧ True) ∧ True ∧ True ∧ True) ∧ FnOk Pg g0 76 [V.agg [V.int IntKind.i64 (g1 0), V.int IntKind.i64 (g1 1), V.int IntKind.i64 (g1 2), V.int IntKind.i64 (g1 3), V.int IntKind.i64 (g1 4), V.int IntKind.i64 (g1 5), V.int IntKind.i64 (g1 6), V.int IntKind.i64 (g1 7), V.int IntKind.i64 (g1 8), V.int IntKind.i64 (g1 9), V.int IntKind.i64 (g1 10), V.int IntKind.i64 (g1 11), V.int IntKind.i64 (g1 12), V.int IntKind.i64 (g1 13), V.int IntKind.i64 (g1 14), V.int IntKind.i64 (g1 15), V.int IntKind.i64 (g1 16), V.int IntKind.i64 (g1 17)], V.int IntKind.i64 (↑(s + (r - 1)) : Int), V.int IntKind.i64 (-1 : Int)] (ar g2) ∧ True ∧ wr IntKind.i64 ((↑j : Int) + (1 : Int)) = (↑(j + 1) : Int) ∧ G Ex.normal (rhS size r L (j + 1, g2)) ∧ (0 = 0 ∧ (↑size : Int) = (↑size : Int) ∧ (↑r : Int) = (↑r : Int) ∧ (0 = 0 ∧ size * r = size * r ∧ size * r - size * r = size * r - size * r) ∧ 0 = 0 ∧ (↑(j + 1) : Int) = (↑(j + 1) : Int) ∧ True) ∧ True ∧ (arF zeroF = arF zeroF ∧ True ∧ True ∧ True ∧ True ∧ True ∧ True ∧ True ∧ True ∧ True ∧ True ∧ True ∧ True ∧ True ∧ True ∧ True ∧ True ∧ True ∧ True ∧ True) ∧ (nt L = nt L ∧ HfL (nt L)) ∧ (arF g2 = [i6 (g2 0), i6 (g2 1), i6 (g2 2), i6 (g2 3), i6 (g2 4), i6 (g2 5), i6 (g2 6), i6 (g2 7), i6 (g2 8), i6 (g2 9), i6 (g2 10), i6 (g2 11), i6 (g2 12), i6 (g2 13), i6 (g2 14), i6 (g2 15), i6 (g2 16), i6 (g2 17)] ∧ True ∧ True ∧ True ∧ True ∧ True ∧ True ∧ True ∧ True ∧ True ∧ True ∧ True ∧ True ∧ True ∧ True ∧ True ∧ True ∧ True ∧ True ∧ True) ∧ True) ∧ True) = _) ?_
      exact au
    · have : j = size := by omega
      subst this
      have hx := hX 2 _ ⟨rfl, f, rfl, hf⟩
      refine ⟨[no 74, (0, .to [0, 1, 2, 3] (rhX f))], 1000, ?_⟩
      clear hN hX hf hL
      refine Eq.mp (by kernel_rfl : (decide ((↑j : Int) < (↑j : Int)) = false ∧ G (Ex.exit 2) (rhX f) ∧ (0 = 0 ∧ 0 = 0 ∧ True) ∧ True ∧ (arF zeroF = arF zeroF ∧ True ∧ True ∧ True ∧ True ∧ True ∧ True ∧ True ∧ True ∧ True ∧ True ∧ True ∧ True ∧ True ∧ True ∧ True ∧ True ∧ True ∧ True ∧ True) ∧ True ∧ (arF f = arF f ∧ True ∧ True ∧ True ∧ True ∧ True ∧ True ∧ True ∧ True ∧ True ∧ True ∧ True ∧ True ∧ True ∧ True ∧ True ∧ True ∧ True ∧ True ∧ True) ∧ True) = _) ?_
      exact au
  refine key.mono ?_
  rintro e st ⟨S', rfl, rfl, f, rfl, hf⟩
  refine .inl ⟨trivial, rfl, ?_⟩
  have : arF f = arF (famZ facF P r size) := ar_congr hf
  show mkSt g0 113 { sl := [(6, .ptr 1 0), (13, .ptr 3 0)], os := [.dead, .row 41 none (arF zeroF), .dead, .row 41 none (arF f)] } = _
  rw [this]

theorem rfam_fn (cards : List Nat) (cs : List (List Nat)) (v ps : Nat) (hc : CardsOk cards) (hcs : ∀ c ∈ cs, CaseOk cards c) (hv : v < cards.length) (hm : cs.length ≤ 40) (hps : ps < 256) (hsz : sizeN cards ps cards.length ≤ 1024) : FnOk Pg g0 24 [dN cards cs, i6 v, u6 ps] (ar (famF cards cs v ps)) := by
  have hpo := pairs_ok (ps := ps) hc hcs hv
  have hr := hc.each v hv
  have hpl : (pairsN cards v ps cs).length ≤ 40 := by simpa [pairsN] using hm
  have hvars := vars_fn cards.length ps (by have := hc.six; omega)
  obtain ⟨m, W, hcount⟩ := count_fn cards cs ps hc hcs hm
  have l1 := rf_count cards cs v ps (varsN cards.length ps) (sizeN cards ps cards.length) (cards.getD v 0) hc hcs hm rfl rfl hv rfl _ rfl
  have l2 := rf_all (pairsN cards v ps cs) (sizeN cards ps cards.length) (cards.getD v 0) _ rfl hsz (by omega) hr.2 (fun p hp => (hpo p hp).2) hpl
  have hld := @head_nt cards v hv
  have h1 := sizeN_le hc ps cards.length (Nat.le_refl _)
  have hrep := rep_nt (sizeN cards ps cards.length * cards.getD v 0) 0
  unfold famF
  generalize famZ facF (pairsN cards v ps cs) (cards.getD v 0) (sizeN cards ps cards.length) = g at *
  generalize cntL (pairsN cards v ps cs) (sizeN cards ps cards.length) (cards.getD v 0) = L at *
  generalize sizeN cards ps cards.length = size at *
  generalize cards.getD v 0 = r at *
  generalize varsN cards.length ps = l at *
  have hsr : size * r ≤ 1024 * 4 := Nat.mul_le_mul hsz hr.2
  have hcast : ((size : Int) * (r : Int)) = ((size * r : Nat) : Int) := by simp
  refine FnOk.of_vc vE_ok mixed sp0_ok (n := 1000) (r := [1]) (S := { sl := [(6, .ptr 0 0)], os := [.row 41 none (arF g)] }) (hs := [nu 21 ps, fn 22 (nl l), fn 25 (.agg [nl l, nl m, .im size (nt W)]), pl 31, ld 32 (i6 r), nu 35 (size * r : Nat), mk 36, (0, .loop [0, 1, 2] (rfS cards cs l v size r (0, List.replicate (size * r) 0)) [(True, .exit 0, rfX size r L)]), (0, .loop [0, 1, 2, 3] (rhS size r L (0, zeroF)) [(True, .exit 2, rhX g)])]) ?_
  have hw8 : wr .u8 (ps : Int) = ps := wr_in (by simp [lo]) (by simp [hi]; omega)
  clear hpo
  refine Eq.mp (by kernel_rfl : (V.agg [i6 (g 0), i6 (g 1), i6 (g 2), i6 (g 3), i6 (g 4), i6 (g 5), i6 (g 6), i6 (g 7), i6 (g 8), i6 (g 9), i6 (g 10), i6 (g 11), i6 (g 12), i6 (g 13), i6 (g 14), i6 (g 15), i6 (g 16), i6 (g 17)] = ar g ∧ wr IntKind.u8 (↑ps : Int) = (↑ps : Int) ∧ (True ∧ True ∧ True) ∧ FnOk Tryd.prog g0 48 [V.int IntKind.i64 (↑(List.length cards) : Int), V.int IntKind.u8 (↑ps : Int)] (nl l) ∧ True ∧ ((True ∧ True ∧ True) ∧ True ∧ True) ∧ FnOk Tryd.prog g0 74 [V.agg [V.im (List.length cards) (nt cards), V.im (List.length cs) (List.map nl cs)], V.im (List.length l) (nt l)] (V.agg [nl l, nl m, V.im size (nt W)]) ∧ True ∧ ((0 : Int) ≤ (↑v : Int) ∧ (↑v : Int) < (↑(List.length cards) : Int)) ∧ headF (List.drop (v * 1) (nt cards)) = some (i6 (↑r : Int)) ∧ wr IntKind.i64 ((↑size : Int) * (↑r : Int)) = (↑(size * r) : Int) ∧ ((0 : Int) ≤ (↑(size * r) : Int) ∧ (↑(size * r) : Int) ≤ (↑(size * r) : Int) ∧ (↑(8 : Nat) : Int) * (↑(size * r) : Int) ≤ (281474976710656 : Int) ∧ (↑(size * r) : Int) ≤ (9223372036854775807 : Int)) ∧ (((↑v : Int) = (↑v : Int) ∧ 0 = 0 ∧ 0 = 0 ∧ (List.length l = List.length l ∧ nt l = nt l) ∧ (↑size : Int) = (↑size : Int) ∧ (↑r : Int) = (↑r : Int) ∧ (0 = 0 ∧ size * r = size * r ∧ size * r - size * r = size * r - size * r) ∧ (↑(0 : Nat) : Int) = (0 : Int) ∧ True) ∧ ([nl cards, cV cs] = [nl cards, cV cs] ∧ True ∧ True ∧ True) ∧ (arF zeroF = [V.int IntKind.i64 (0 : Int), V.int IntKind.i64 (0 : Int), V.int IntKind.i64 (0 : Int), V.int IntKind.i64 (0 : Int), V.int IntKind.i64 (0 : Int), V.int IntKind.i64 (0 : Int), V.int IntKind.i64 (0 : Int), V.int IntKind.i64 (0 : Int), V.int IntKind.i64 (0 : Int), V.int IntKind.i64 (0 : Int), V.int IntKind.i64 (0 : Int), V.int IntKind.i64 (0 : Int), V.int IntKind.i64 (0 : Int), V.int IntKind.i64 (0 : Int), V.int IntKind.i64 (0 : Int), V.int IntKind.i64 (0 : Int), V.int IntKind.i64 (0 : Int), V.int IntKind.i64 (0 : Int)] ∧ True ∧ True ∧ True ∧ True ∧ True ∧ True ∧ True ∧ True ∧ True ∧ True ∧ True ∧ True ∧ True ∧ True ∧ True ∧ True ∧ True ∧ True ∧ True) ∧ (nt (List.replicate (size * r) 0) = rep (size * r) [V.int IntKind.i64 (0 : Int)] ∧ HfL (nt (List.replicate (size * r) 0))) ∧ True) ∧ Sat Tryd.prog none 0 (at' 24 [1, 1, 1, 1, 1, 0, 1, 0]) (mkSt g0 113 (rfS cards cs l v size r (0, List.replicate (size * r) 0))) (outsP g0 113 [(True, Ex.exit 0, rfX size r L)]) ∧ (True → ((0 = 0 ∧ (↑size : Int) = (↑size : Int) ∧ (↑r : Int) = (↑r : Int) ∧ (0 = 0 ∧ size * r = size * r ∧ size * r - size * r = size * r - size * r) ∧ 0 = 0 ∧ (↑(0 : Nat) : Int) = (0 : Int) ∧ True) ∧ True ∧ (arF zeroF = arF zeroF ∧ True ∧ True ∧ True ∧ True ∧ True ∧ True ∧ True ∧ True ∧ True ∧ True ∧ True ∧ True ∧ True ∧ True ∧ True ∧ True ∧ True ∧ True ∧ True) ∧ (nt L = nt L ∧ HfL (nt L)) ∧ (arF zeroF = [V.int IntKind.i64 (0 : Int), V.int IntKind.i64 (0 : Int), V.int IntKind.i64 (0 : Int), V.int IntKind.i64 (0 : Int), V.int IntKind.i64 (0 : Int), V.int IntKind.i64 (0 : Int), V.int IntKind.i64 (0 : Int), V.int IntKind.i64 (0 : Int), V.int IntKind.i64 (0 : Int), V.int IntKind.i64 (0 : Int), V.int IntKind.i64 (0 : Int), V.int IntKind.i64 (0 : Int), V.int IntKind.i64 (0 : Int), V.int IntKind.i64 (0 : Int), V.int IntKind.i64 (0 : Int), V.int IntKind.i64 (0 : Int), V.int IntKind.i64 (0 : Int), V.int IntKind.i64 (0 : Int)] ∧ True ∧ True ∧ True ∧ True ∧ True ∧ True ∧ True ∧ True ∧ True ∧ True ∧ True ∧ True ∧ True ∧ True ∧ True ∧ True ∧ True ∧ True ∧ True) ∧ True) ∧ Sat Tryd.prog none 0 (at' 24 [1, 1, 1, 1, 1, 1, 1, 0, 1, 0]) (mkSt g0 113 (rhS size r L (0, zeroF))) (outsP g0 113 [(True, Ex.exit 2, rhX g)]) ∧ (True → (0 = 0 ∧ True) ∧ (arF g = [i6 (g 0), i6 (g 1), i6 (g 2), i6 (g 3), i6 (g 4), i6 (g 5), i6 (g 6), i6 (g 7), i6 (g 8), i6 (g 9), i6 (g 10), i6 (g 11), i6 (g 12), i6 (g 13), i6 (g 14), i6 (g 15), i6 (g 16), i6 (g 17)] ∧ True ∧ True ∧ True ∧ True ∧ True ∧ True ∧ True ∧ True ∧ True ∧ True ∧ True ∧ True ∧ True ∧ True ∧ True ∧ True ∧ True ∧ True ∧ True) ∧ True) ∧ True) ∧ True) = _) ?_
  (repeat' (first | (with_reducible apply And.intro) | (refine fun (_ : True) => ?_))) <;> first | exact aq | skip
  all_goals first | rfl | exact HfL_nls _ | exact HfL_nt _ | exact hrep.symm | exact hw8 | omega

end Go.Proofs.YtglpoiaedkoecaaDoor.Am
