/- Chapters 25, 28: the reference: Vars, Index, Times, factorial. -/
import Derived.Test.YtglpoiaedkoecaaDoorE9
namespace Go.Proofs.YtglpoiaedkoecaaDoor.Am
open Go.RowKit
set_option linter.unusedVariables false
set_option maxHeartbeats 1000000
set_option maxRecDepth 100000

abbrev v8 (n : Int) : V := .int .u8 n
theorem shr_8 {G : Ctx} {t : Nat} {x k : Nat} (hk : k ≤ 8) : binV G .shr t (v8 (x : Int)) (i6 (k : Int)) = some (v8 ((x / 2 ^ k : Nat) : Int)) := by
  have h1 : ((k : Int) < 0) = False := by simp
  have h2 : min k 8 = k := by omega
  simp only [binV, intV, h1, if_false, Int.toNat_natCast, IntKind.bits, h2]
  rw [Int.fdiv_eq_ediv_of_nonneg _ (Int.natCast_nonneg _)]
  rfl
theorem and1_8 {G : Ctx} {t : Nat} {x : Nat} : binV G .and t (v8 (x : Int)) (v8 1) = some (v8 ((x % 2 : Nat) : Int)) := by
  have h : (BitVec.ofInt 8 (x : Int) &&& BitVec.ofInt 8 1).toNat = x % 2 := by
    rw [BitVec.toNat_and]
    have h1 : (BitVec.ofInt 8 1).toNat = 1 := by decide
    rw [h1, Nat.and_one_is_mod]
    have h2 : (BitVec.ofInt 8 (x : Int)).toNat = x % 2 ^ 8 := by
      rw [BitVec.toNat_ofInt]; omega
    rw [h2]; omega
  have hw : IntKind.u8.wrap ((x % 2 : Nat) : Int) = ((x % 2 : Nat) : Int) := by
    rw [← wr_eq]; exact wr_in (by simp [lo]; omega) (by simp [hi]; omega)
  have e : binV G .and t (v8 (x : Int)) (v8 1) = some (.int .u8 (IntKind.u8.wrap ((BitVec.ofInt 8 (x : Int) &&& BitVec.ofInt 8 1).toNat : Int))) := rfl
  rw [e, h, hw]

/-! ### Vars -/
def varsN (n ps : Nat) : List Nat := (List.range n).filter fun k => decide (ps / 2 ^ k % 2 = 1)
theorem varsN_succ (n ps : Nat) : varsN (n + 1) ps = varsN n ps ++ if ps / 2 ^ n % 2 = 1 then [n] else [] := by
  unfold varsN
  rw [List.range_succ, List.filter_append]
  by_cases h : ps / 2 ^ n % 2 = 1 <;> simp [h]
theorem varsN_le (n ps : Nat) : (varsN n ps).length ≤ n := by
  unfold varsN
  exact Nat.le_trans (List.length_filter_le _ _) (by simp)
theorem varsN_lt {n ps k : Nat} (h : k ∈ varsN n ps) : k < n := List.mem_range.1 (List.mem_filter.1 h).1
abbrev vrS (n ps : Nat) (q : Nat × Nat × List Nat) : SL := { sl := [(0, i6 n), (1, v8 ps), (5, owV 0 q.2.1), (6, i6 q.1)], os := owL 3 (nt q.2.2) q.2.1 }
abbrev vrX (m : Nat) (l : List Nat) : SL := { sl := [(5, owV 0 m)], os := owL 3 (nt l) m }
theorem nt_app (l : List Nat) (x : Nat) : nt (l ++ [x]) = nt l ++ [i6 (x : Nat)] := by simp [nt]
theorem vars_loop (n ps : Nat) (hn : n ≤ 8) (l : List Nat) (hl : l = varsN n ps) (m : Nat) (hm : m = l.length) :
    Sat Pg none 0 (at' 48 [1, 1, 0, 1, 0]) (mkSt g0 22 (vrS n ps (0, 0, []))) (outsP g0 22 [(True, .exit 0, vrX m l)]) := by
  refine loopC vE_ok mixed sp0_ok (b := at' 48 [1, 1, 0, 1, 0, 0]) (by kernel_rfl) (fun q => q.1 ≤ n ∧ q.2.2 = varsN q.1 ps ∧ q.2.2.length = q.2.1) (vrS n ps) (fun q => n - q.1) (fun q hq => ?_) (0, 0, []) ⟨Nat.zero_le _, rfl, rfl⟩
  obtain ⟨k, u, a⟩ := q
  obtain ⟨hk, ha, hu⟩ := hq
  dsimp only at hk ha hu
  have hle : a.length ≤ k := by rw [ha]; exact varsN_le _ _
  by_cases hlt : k < n
  · have hnx := varsN_succ k ps
    have s1 := @shr_8 (ctxOf Pg) 5 ps k (by omega)
    have s2 := @and1_8 (ctxOf Pg) 5 (ps / 2 ^ k)
    rw [← ha] at hnx
    generalize ps / 2 ^ k = b at *
    by_cases hb : b % 2 = 1
    · rw [if_pos hb] at hnx
      rw [hb] at s2
      have hnt := nt_app a k
      cases u with
      | zero =>
        have : a = [] := List.eq_nil_of_length_eq_zero hu
        subst this
        refine .inl ⟨(k + 1, 1, [k]), [1], [yes 9, va 14 (v8 b), va 15 (v8 (1 : Nat)), yes 16, nu 11 (k + 1 : Nat)], 1000, ⟨hlt, hnx.symm, rfl⟩, by dsimp only; omega, ?_⟩
        clear ha hnx
        refine Eq.mp (by kernel_rfl : (decide ((↑k : Int) < (↑n : Int)) = true ∧ binV (ctxOf Tryd.prog) BinOp.shr 5 (v8 (↑ps : Int)) (i6 (↑k : Int)) = some (v8 (↑b : Int)) ∧ binV (ctxOf Tryd.prog) BinOp.and 5 (v8 (↑b : Int)) (V.int IntKind.u8 (1 : Int)) = some (v8 (↑(1 : Nat) : Int)) ∧ ((↑(1 : Nat) : Int) == (1 : Int)) = true ∧ wr IntKind.i64 ((↑k : Int) + (1 : Int)) = (↑(k + 1) : Int) ∧ ((↑n : Int) = (↑n : Int) ∧ (↑ps : Int) = (↑ps : Int) ∧ (0 = 0 ∧ 0 + 1 = 1 ∧ True) ∧ (↑(k + 1) : Int) = (↑(k + 1) : Int) ∧ True) ∧ (nt [k] = [i6 (↑k : Int)] ∧ True ∧ True) ∧ True) = _) ?_
        exact au
      | succ u =>
        have hntl := nt_length a
        refine .inl ⟨(k + 1, u + 1 + 1, a ++ [k]), [2], [yes 9, va 14 (v8 b), va 15 (v8 (1 : Nat)), yes 16, ap 20, nu 11 (k + 1 : Nat)], 1000, ⟨hlt, hnx.symm, by simp [hu]⟩, by dsimp only; omega, ?_⟩
        clear ha hnx
        refine Eq.mp (by kernel_rfl : (decide ((↑k : Int) < (↑n : Int)) = true ∧ binV (ctxOf Tryd.prog) BinOp.shr 5 (v8 (↑ps : Int)) (i6 (↑k : Int)) = some (v8 (↑b : Int)) ∧ binV (ctxOf Tryd.prog) BinOp.and 5 (v8 (↑b : Int)) (V.int IntKind.u8 (1 : Int)) = some (v8 (↑(1 : Nat) : Int)) ∧ ((↑(1 : Nat) : Int) == (1 : Int)) = true ∧ List.length (nt a) = (u + 1) * 1 ∧ u + 1 + 1 ≤ 9223372036854775807 ∧ (u + 1 + 1) * 8 ≤ 140737488355328 ∧ wr IntKind.i64 ((↑k : Int) + (1 : Int)) = (↑(k + 1) : Int) ∧ ((↑n : Int) = (↑n : Int) ∧ (↑ps : Int) = (↑ps : Int) ∧ (0 = 0 ∧ Nat.succ u + 1 = u + 1 + 1 ∧ True) ∧ (↑(k + 1) : Int) = (↑(k + 1) : Int) ∧ True) ∧ (nt (a ++ [k]) = nt a ++ [i6 (↑k : Int)] ∧ HfL (nt (a ++ [k]))) ∧ True) = _) ?_
        (repeat' (first | (with_reducible apply And.intro) | (refine fun (_ : True) => ?_))) <;> first | exact aq | skip
        all_goals first | rfl | exact HfL_nt _ | (rw [nt_length]; omega)
    · rw [if_neg hb, List.append_nil] at hnx
      have hb0 : b % 2 = 0 := by omega
      rw [hb0] at s2
      cases u with
      | zero =>
        have : a = [] := List.eq_nil_of_length_eq_zero hu
        subst this
        refine .inl ⟨(k + 1, 0, []), [], [yes 9, va 14 (v8 b), va 15 (v8 (0 : Nat)), no 16, nu 11 (k + 1 : Nat)], 1000, ⟨hlt, hnx.symm, rfl⟩, by dsimp only; omega, ?_⟩
        clear ha hnx
        refine Eq.mp (by kernel_rfl : (decide ((↑k : Int) < (↑n : Int)) = true ∧ binV (ctxOf Tryd.prog) BinOp.shr 5 (v8 (↑ps : Int)) (i6 (↑k : Int)) = some (v8 (↑b : Int)) ∧ binV (ctxOf Tryd.prog) BinOp.and 5 (v8 (↑b : Int)) (V.int IntKind.u8 (1 : Int)) = some (v8 (↑(0 : Nat) : Int)) ∧ ((↑(0 : Nat) : Int) == (1 : Int)) = false ∧ wr IntKind.i64 ((↑k : Int) + (1 : Int)) = (↑(k + 1) : Int) ∧ ((↑n : Int) = (↑n : Int) ∧ (↑ps : Int) = (↑ps : Int) ∧ True ∧ (↑(k + 1) : Int) = (↑(k + 1) : Int) ∧ True) ∧ True) = _) ?_
        exact au
      | succ u =>
        refine .inl ⟨(k + 1, u + 1, a), [0], [yes 9, va 14 (v8 b), va 15 (v8 (0 : Nat)), no 16, nu 11 (k + 1 : Nat)], 1000, ⟨hlt, hnx.symm, hu⟩, by dsimp only; omega, ?_⟩
        clear ha hnx
        refine Eq.mp (by kernel_rfl : (decide ((↑k : Int) < (↑n : Int)) = true ∧ binV (ctxOf Tryd.prog) BinOp.shr 5 (v8 (↑ps : Int)) (i6 (↑k : Int)) = some (v8 (↑b : Int)) ∧ binV (ctxOf Tryd.prog) BinOp.and 5 (v8 (↑b : Int)) (V.int IntKind.u8 (1 : Int)) = some (v8 (↑(0 : Nat) : Int)) ∧ ((↑(0 : Nat) : Int) == (1 : Int)) = false ∧ wr IntKind.i64 ((↑k : Int) + (1 : Int)) = (↑(k + 1) : Int) ∧ ((↑n : Int) = (↑n : Int) ∧ (↑ps : Int) = (↑ps : Int) ∧ (0 = 0 ∧ u + 1 = u + 1 ∧ True) ∧ (↑(k + 1) : Int) = (↑(k + 1) : Int) ∧ True) ∧ (nt a = nt a ∧ HfL (nt a)) ∧ True) = _) ?_
        exact au
  · have : k = n := by omega
    subst this
    obtain rfl : a = l := ha.trans hl.symm
    obtain rfl : u = m := hu.symm.trans hm.symm
    clear ha hl hm
    cases u with
    | zero =>
      have : a = [] := List.eq_nil_of_length_eq_zero hu
      subst this
      refine .inr ⟨.exit 0, [], vrX 0 [], [no 9], 1000, .inl ⟨trivial, rfl, rfl⟩, ?_⟩
      refine Eq.mp (by kernel_rfl : (decide ((↑k : Int) < (↑k : Int)) = false ∧ (True ∧ True) ∧ True) = _) ?_
      exact au
    | succ u =>
      refine .inr ⟨.exit 0, [0], vrX (u + 1) a, [no 9], 1000, .inl ⟨trivial, rfl, rfl⟩, ?_⟩
      refine Eq.mp (by kernel_rfl : (decide ((↑k : Int) < (↑k : Int)) = false ∧ ((0 = 0 ∧ u + 1 = u + 1 ∧ True) ∧ True) ∧ (nt a = nt a ∧ HfL (nt a)) ∧ True) = _) ?_
      exact au
theorem vars_fn (n ps : Nat) (hn : n ≤ 8) : FnOk Pg g0 48 [i6 n, v8 ps] (nl (varsN n ps)) := by
  have hl := vars_loop n ps hn _ rfl _ rfl
  generalize varsN n ps = l at *
  cases hm : l.length with
  | zero =>
    have : l = [] := List.eq_nil_of_length_eq_zero hm
    subst this
    clear hm
    refine FnOk.of_vc vE_ok mixed sp0_ok (n := 1000) (r := []) (S := { sl := [(4, .im 0 [])] }) (hs := [(0, .loop [] (vrS n ps (0, 0, [])) [(True, .exit 0, vrX 0 [])])]) ?_
    refine Eq.mp (by kernel_rfl : (V.im 0 [] = nl [] ∧ (((↑n : Int) = (↑n : Int) ∧ (↑ps : Int) = (↑ps : Int) ∧ True ∧ (↑(0 : Nat) : Int) = (0 : Int) ∧ True) ∧ True) ∧ Sat Tryd.prog none 0 (at' 48 [1, 1, 0, 1, 0]) (mkSt g0 22 (vrS n ps (0, 0, []))) (outsP g0 22 [(True, Ex.exit 0, vrX 0 [])]) ∧ (True → (0 = 0 ∧ True) ∧ True) ∧ True) = _) ?_
    exact au
  | succ m =>
    rw [hm] at hl
    rw [show nl l = .im (m + 1) (nt l) by show V.im l.length (nt l) = _; rw [hm]]
    clear hm
    refine FnOk.of_vc vE_ok mixed sp0_ok (n := 1000) (r := []) (S := { sl := [(4, .im (m + 1) (nt l))] }) (hs := [(0, .loop [] (vrS n ps (0, 0, [])) [(True, .exit 0, vrX (m + 1) l)])]) ?_
    refine Eq.mp (by kernel_rfl : (V.im (m + 1) (nt l) = V.im (m + 1) (nt l) ∧ (((↑n : Int) = (↑n : Int) ∧ (↑ps : Int) = (↑ps : Int) ∧ True ∧ (↑(0 : Nat) : Int) = (0 : Int) ∧ True) ∧ True) ∧ Sat Tryd.prog none 0 (at' 48 [1, 1, 0, 1, 0]) (mkSt g0 22 (vrS n ps (0, 0, []))) (outsP g0 22 [(True, Ex.exit 0, vrX (m + 1) l)]) ∧ (True → ((m + 1 = m + 1 ∧ nt l = nt l ∧ HfL (nt l)) ∧ True) ∧ True) ∧ True) = _) ?_
    exact au

/-! ### Index -/
def idxL (cards vals : List Nat) (l : List Nat) : Nat := l.foldl (fun a k => a * cards.getD k 0 + vals.getD k 0) 0
theorem idxL_snoc (cards vals l : List Nat) (k : Nat) : idxL cards vals (l ++ [k]) = idxL cards vals l * cards.getD k 0 + vals.getD k 0 := by simp [idxL, List.foldl_append]
theorem idxL_vars (cards vals : List Nat) (ps : Nat) : ∀ n, idxL cards vals (varsN n ps) = rowN cards ps vals n
  | 0 => rfl
  | n + 1 => by
    rw [varsN_succ]
    unfold rowN
    split
    · rw [idxL_snoc, idxL_vars cards vals ps n]
    · rw [List.append_nil, idxL_vars cards vals ps n]
theorem idxL_lt {cards vals : List Nat} (hc : CardsOk cards) (hv : CaseOk cards vals) (l : List Nat) (hl : ∀ k ∈ l, k < cards.length) : ∀ i, i ≤ l.length → idxL cards vals (l.take i) < 4 ^ i
  | 0, _ => by simp [idxL]
  | i + 1, h => by
    have h1 := idxL_lt hc hv l hl i (by omega)
    have hk := hl _ (List.getElem_mem (show i < l.length by omega))
    rw [List.take_add_one, List.getElem?_eq_getElem (by omega), Option.toList_some, idxL_snoc]
    have h2 := hc.each _ hk
    have h3 := hv.lt _ hk
    rw [Nat.pow_succ]
    calc _ < idxL cards vals (l.take i) * cards.getD l[i] 0 + cards.getD l[i] 0 := by omega
      _ = (idxL cards vals (l.take i) + 1) * cards.getD l[i] 0 := by rw [Nat.add_mul, Nat.one_mul]
      _ ≤ 4 ^ i * 4 := Nat.mul_le_mul h1 h2.2
abbrev ixS (cards vals l : List Nat) (q : Nat × Nat) : SL := { sl := [(0, nl cards), (1, nl l), (2, nl vals), (7, i6 q.2), (8, i6 q.1)] }
theorem index_loop (cards vals l : List Nat) (hc : CardsOk cards) (hv : CaseOk cards vals) (hl : ∀ k ∈ l, k < cards.length) (hl6 : l.length ≤ 6) (w : Nat) (hw : w = idxL cards vals l) :
    Sat Pg none 0 (at' 75 [1, 1, 0, 1, 0]) (mkSt g0 41 (ixS cards vals l (0, 0))) (outsP g0 41 [(True, .exit 0, { sl := [(7, i6 w)] })]) := by
  refine loopC vE_ok mixed sp0_ok (b := at' 75 [1, 1, 0, 1, 0, 0]) (by kernel_rfl) (fun q => q.1 ≤ l.length ∧ q.2 = idxL cards vals (l.take q.1)) (ixS cards vals l) (fun q => l.length - q.1) (fun q hq => ?_) (0, 0) ⟨Nat.zero_le _, rfl⟩
  obtain ⟨k, u⟩ := q
  obtain ⟨hk, hu⟩ := hq
  dsimp only at hk hu
  have hlt4 := idxL_lt hc hv l hl k hk
  have hp4 := pow4 (show k ≤ 6 by omega)
  rw [← hu] at hlt4
  by_cases hlt : k < l.length
  · have hx : l.getD k 0 ∈ l := by rw [List.getD_eq_getElem?_getD, List.getElem?_eq_getElem hlt]; exact List.getElem_mem hlt
    have hxl := hl _ hx
    have hld := @head_nt l k hlt
    have hnx : idxL cards vals (l.take (k + 1)) = u * cards.getD (l.getD k 0) 0 + vals.getD (l.getD k 0) 0 := by
      rw [List.take_add_one, List.getElem?_eq_getElem hlt, Option.toList_some, idxL_snoc, ← hu, List.getD_eq_getElem?_getD (l := l), List.getElem?_eq_getElem hlt, Option.getD_some]
    generalize l.getD k 0 = x at *
    have hcd := hc.each x hxl
    have hvl := hv.lt x hxl
    have hlen := hv.len
    have hld1 := @head_nt cards x hxl
    have hld2 := @head_nt vals x (by omega)
    generalize cards.getD x 0 = c at *
    generalize vals.getD x 0 = y at *
    have hmul : u * c ≤ 4096 * 4 := Nat.mul_le_mul (by omega) hcd.2
    have hcast : ((u : Int) * (c : Int)) = ((u * c : Nat) : Int) := by simp
    generalize u * c = uc at *
    refine .inl ⟨(k + 1, uc + y), [], [yes 12, pl 18, ld 19 (i6 x), pl 20, ld 21 (i6 y), no 22, pl 27, ld 28 (i6 x), pl 29, ld 30 (i6 c), nu 31 (uc : Nat), pl 35, ld 36 (i6 x), pl 37, ld 38 (i6 y), nu 39 (uc + y : Nat), nu 14 (k + 1 : Nat)], 1000, ⟨hlt, hnx.symm⟩, by dsimp only; omega, ?_⟩
    refine Eq.mp (by kernel_rfl : (decide ((↑k : Int) < (↑(List.length l) : Int)) = true ∧ ((0 : Int) ≤ (↑k : Int) ∧ (↑k : Int) < (↑(List.length l) : Int)) ∧ headF (List.drop (k * 1) (nt l)) = some (i6 (↑x : Int)) ∧ ((0 : Int) ≤ (↑x : Int) ∧ (↑x : Int) < (↑(List.length vals) : Int)) ∧ headF (List.drop (x * 1) (nt vals)) = some (i6 (↑y : Int)) ∧ decide ((↑y : Int) < (0 : Int)) = false ∧ ((0 : Int) ≤ (↑k : Int) ∧ (↑k : Int) < (↑(List.length l) : Int)) ∧ headF (List.drop (k * 1) (nt l)) = some (i6 (↑x : Int)) ∧ ((0 : Int) ≤ (↑x : Int) ∧ (↑x : Int) < (↑(List.length cards) : Int)) ∧ headF (List.drop (x * 1) (nt cards)) = some (i6 (↑c : Int)) ∧ wr IntKind.i64 ((↑u : Int) * (↑c : Int)) = (↑uc : Int) ∧ ((0 : Int) ≤ (↑k : Int) ∧ (↑k : Int) < (↑(List.length l) : Int)) ∧ headF (List.drop (k * 1) (nt l)) = some (i6 (↑x : Int)) ∧ ((0 : Int) ≤ (↑x : Int) ∧ (↑x : Int) < (↑(List.length vals) : Int)) ∧ headF (List.drop (x * 1) (nt vals)) = some (i6 (↑y : Int)) ∧ wr IntKind.i64 ((↑uc : Int) + (↑y : Int)) = (↑(uc + y) : Int) ∧ wr IntKind.i64 ((↑k : Int) + (1 : Int)) = (↑(k + 1) : Int) ∧ ((List.length cards = List.length cards ∧ nt cards = nt cards) ∧ (List.length l = List.length l ∧ nt l = nt l) ∧ (List.length vals = List.length vals ∧ nt vals = nt vals) ∧ (↑(uc + y) : Int) = (↑(uc + y) : Int) ∧ (↑(k + 1) : Int) = (↑(k + 1) : Int) ∧ True) ∧ True) = _) ?_
    exact au
  · have : k = l.length := by omega
    subst this
    rw [List.take_length] at hu
    obtain rfl : u = w := hu.trans hw.symm
    refine .inr ⟨.exit 0, [], { sl := [(7, i6 u)] }, [no 12], 1000, .inl ⟨trivial, rfl, rfl⟩, ?_⟩
    refine Eq.mp (by kernel_rfl : (decide ((↑(List.length l) : Int) < (↑(List.length l) : Int)) = false ∧ ((↑u : Int) = (↑u : Int) ∧ True) ∧ True) = _) ?_
    exact au
theorem index_fn (cards vals : List Nat) (ps : Nat) (hc : CardsOk cards) (hv : CaseOk cards vals) : FnOk Pg g0 75 [nl cards, nl (varsN cards.length ps), nl vals] (i6 (rowN cards ps vals cards.length : Nat)) := by
  have hl := index_loop cards vals (varsN cards.length ps) hc hv (fun k hk => varsN_lt hk) (by have := varsN_le cards.length ps; have := hc.six; omega) _ (idxL_vars cards vals ps cards.length).symm
  generalize rowN cards ps vals cards.length = w at *
  generalize varsN cards.length ps = l at *
  refine FnOk.of_vc vE_ok mixed sp0_ok (n := 1000) (r := []) (S := { sl := [(6, i6 w)] }) (hs := [(0, .loop [] (ixS cards vals l (0, 0)) [(True, .exit 0, { sl := [(7, i6 w)] })])]) ?_
  refine Eq.mp (by kernel_rfl : (i6 (↑w : Int) = i6 (↑w : Int) ∧ (((List.length cards = List.length cards ∧ nt cards = nt cards) ∧ (List.length l = List.length l ∧ nt l = nt l) ∧ (List.length vals = List.length vals ∧ nt vals = nt vals) ∧ (↑(0 : Nat) : Int) = (0 : Int) ∧ (↑(0 : Nat) : Int) = (0 : Int) ∧ True) ∧ True) ∧ Sat Tryd.prog none 0 (at' 75 [1, 1, 0, 1, 0]) (mkSt g0 41 (ixS cards vals l (0, 0))) (outsP g0 41 [(True, Ex.exit 0, SL.mk [(7, i6 (↑w : Int))] [] [] [])]) ∧ (True → ((↑w : Int) = (↑w : Int) ∧ True) ∧ True) ∧ True) = _) ?_
  exact au

/-! ### Times, factorial -/
abbrev tmS (a b : Nat → Int) (s : Int) (k : Nat) : SL := { sl := [(2, i6 s), (3, .ptr 0 0), (6, .ptr 1 0), (7, .ptr 2 0), (9, i6 k)], os := [.row 41 none (arF (mixF a b s k)), .row 41 none (arF zeroF), .row 41 none (arF b)] }
abbrev tmX (a b : Nat → Int) (s : Int) : SL := { sl := [(3, .ptr 0 0), (6, .ptr 1 0)], os := [.row 41 none (arF (mixF a b s 18)), .row 41 none (arF zeroF)] }
theorem times_loop (a b : Nat → Int) (s : Int) (ha : ∀ k, k < 18 → -1000000 ≤ a k ∧ a k ≤ 1000000) (hb : ∀ k, k < 18 → -1000000 ≤ s * b k ∧ s * b k ≤ 1000000) (k : Nat) (hk : k ≤ 18) :
    Sat Pg none 0 (at' 104 [1, 1, 0, 1, 0]) (mkSt g0 31 (tmS a b s k)) (outsP g0 31 [(True, .exit 0, tmX a b s)]) := by
  refine loopC vE_ok mixed sp0_ok (b := at' 104 [1, 1, 0, 1, 0, 0]) (by kernel_rfl) (fun k => k ≤ 18) (tmS a b s) (fun k => 18 - k) (fun k hk => ?_) k hk
  by_cases hlt : k < 18
  · have p0 := @place41 0 k hlt
    have p1 := @place41 2 k hlt
    have h0 : headF (dropF k (arF (mixF a b s k))) = some (i6 (a k)) := by rw [head_ar hlt, mixF_at, if_neg (by omega)]
    have h1 := @head_ar b k hlt
    have hst : layE k (arF (mixF a b s k)) [i6 (a k + s * b k)] = some (arF (mixF a b s (k + 1))) := lay_ar hlt
    have ha := ha k hlt
    have hb := hb k hlt
    refine .inl ⟨k + 1, [0, 1, 2], [yes 16, va 21 (.ptr 0 k), ld 22 (i6 (a k)), va 25 (.ptr 2 k), ld 26 (i6 (b k)), nu 27 (s * b k), nu 28 (a k + s * b k), va 29 (.ptr 0 k), st (arF (mixF a b s (k + 1))), nu 18 (k + 1 : Nat)], 1000, hlt, by omega, ?_⟩
    refine Eq.mp (by kernel_rfl : (decide ((↑k : Int) < (18 : Int)) = true ∧ placeV (ctxOf Tryd.prog) 41 (V.ptr 0 0) (↑k : Int) = some (V.ptr 0 k) ∧ headF (dropF k (arF (mixF a b s k))) = some (i6 (a k)) ∧ placeV (ctxOf Tryd.prog) 41 (V.ptr 2 0) (↑k : Int) = some (V.ptr 2 k) ∧ headF (dropF k (arF b)) = some (i6 (b k)) ∧ wr IntKind.i64 (s * b k) = s * b k ∧ wr IntKind.i64 (a k + s * b k) = a k + s * b k ∧ placeV (ctxOf Tryd.prog) 41 (V.ptr 0 0) (↑k : Int) = some (V.ptr 0 k) ∧ layE k (arF (mixF a b s k)) [V.int IntKind.i64 (a k + s * b k)] = some (arF (mixF a b s (k + 1))) ∧ wr IntKind.i64 ((↑k : Int) + (1 : Int)) = (↑(k + 1) : Int) ∧ (s = s ∧ 0 = 0 ∧ 0 = 0 ∧ 0 = 0 ∧ (↑(k + 1) : Int) = (↑(k + 1) : Int) ∧ True) ∧ (arF (mixF a b s (k + 1)) = arF (mixF a b s (k + 1)) ∧ True ∧ True ∧ True ∧ True ∧ True ∧ True ∧ True ∧ True ∧ True ∧ True ∧ True ∧ True ∧ True ∧ True ∧ True ∧ True ∧ True ∧ True ∧ True) ∧ (arF zeroF = arF zeroF ∧ True ∧ True ∧ True ∧ True ∧ True ∧ True ∧ True ∧ True ∧ True ∧ True ∧ True ∧ True ∧ True ∧ True ∧ True ∧ True ∧ True ∧ True ∧ True) ∧ (arF b = arF b ∧ True ∧ True ∧ True ∧ True ∧ True ∧ True ∧ True ∧ True ∧ True ∧ True ∧ True ∧ True ∧ True ∧ True ∧ True ∧ True ∧ True ∧ True ∧ True) ∧ True) = _) ?_
    exact au
  · have : k = 18 := by omega
    subst this
    refine .inr ⟨.exit 0, [0, 1], tmX a b s, [], 1000, .inl ⟨trivial, rfl, rfl⟩, ?_⟩
    refine Eq.mp (by kernel_rfl : ((0 = 0 ∧ 0 = 0 ∧ True) ∧ (arF (mixF a b s 18) = arF (mixF a b s 18) ∧ True ∧ True ∧ True ∧ True ∧ True ∧ True ∧ True ∧ True ∧ True ∧ True ∧ True ∧ True ∧ True ∧ True ∧ True ∧ True ∧ True ∧ True ∧ True) ∧ (arF zeroF = arF zeroF ∧ True ∧ True ∧ True ∧ True ∧ True ∧ True ∧ True ∧ True ∧ True ∧ True ∧ True ∧ True ∧ True ∧ True ∧ True ∧ True ∧ True ∧ True ∧ True) ∧ True) = _) ?_
    exact au
theorem times_fn (a : Nat → Int) (n : Nat) (s : Int) (ha : ∀ k, k < 18 → -1000000 ≤ a k ∧ a k ≤ 1000000) (h1 : 1 ≤ n) (h2 : n ≤ 1000000) (hb : ∀ k, k < 18 → -1000000 ≤ s * ofF n 18 k ∧ s * ofF n 18 k ≤ 1000000) : FnOk Pg g0 104 [ar a, i6 n, i6 s] (ar (addA a (ofF n 18) s)) := by
  have l := times_loop a (ofF n 18) s ha hb 0 (Nat.zero_le _)
  have ho := refof_fn n h1 (by omega) _ rfl
  have e : arF (mixF a (ofF n 18) s 18) = arF (addA a (ofF n 18) s) := ar_congr fun k hk => by rw [mixF_at, if_pos hk]; rfl
  rw [show ar (addA a (ofF n 18) s) = ar (mixF a (ofF n 18) s 18) from congrArg V.agg e.symm]
  generalize decide (ofN n 18 = 1) = b at *
  generalize ofF n 18 = f at *
  refine FnOk.of_vc vE_ok mixed sp0_ok (n := 1000) (r := [1]) (S := { sl := [(6, .ptr 0 0)], os := [.row 41 none (arF (mixF a f s 18))] }) (hs := [fn 12 (.tup [ar f, .bool b]), (0, .loop [0, 1, 2] (tmS a f s 0) [(True, .exit 0, tmX a f s)])]) ?_
  refine Eq.mp (by kernel_rfl : (V.agg [i6 (mixF a f s 18 0), i6 (mixF a f s 18 1), i6 (mixF a f s 18 2), i6 (mixF a f s 18 3), i6 (mixF a f s 18 4), i6 (mixF a f s 18 5), i6 (mixF a f s 18 6), i6 (mixF a f s 18 7), i6 (mixF a f s 18 8), i6 (mixF a f s 18 9), i6 (mixF a f s 18 10), i6 (mixF a f s 18 11), i6 (mixF a f s 18 12), i6 (mixF a f s 18 13), i6 (mixF a f s 18 14), i6 (mixF a f s 18 15), i6 (mixF a f s 18 16), i6 (mixF a f s 18 17)] = ar (mixF a f s 18) ∧ (True ∧ True) ∧ FnOk Tryd.prog g0 32 [V.int IntKind.i64 (↑n : Int)] (V.tup [ar f, V.bool b]) ∧ True ∧ ((s = s ∧ 0 = 0 ∧ 0 = 0 ∧ 0 = 0 ∧ (↑(0 : Nat) : Int) = (0 : Int) ∧ True) ∧ (arF (mixF a f s 0) = [i6 (a 0), i6 (a 1), i6 (a 2), i6 (a 3), i6 (a 4), i6 (a 5), i6 (a 6), i6 (a 7), i6 (a 8), i6 (a 9), i6 (a 10), i6 (a 11), i6 (a 12), i6 (a 13), i6 (a 14), i6 (a 15), i6 (a 16), i6 (a 17)] ∧ True ∧ True ∧ True ∧ True ∧ True ∧ True ∧ True ∧ True ∧ True ∧ True ∧ True ∧ True ∧ True ∧ True ∧ True ∧ True ∧ True ∧ True ∧ True) ∧ (arF zeroF = [V.int IntKind.i64 (0 : Int), V.int IntKind.i64 (0 : Int), V.int IntKind.i64 (0 : Int), V.int IntKind.i64 (0 : Int), V.int IntKind.i64 (0 : Int), V.int IntKind.i64 (0 : Int), V.int IntKind.i64 (0 : Int), V.int IntKind.i64 (0 : Int), V.int IntKind.i64 (0 : Int), V.int IntKind.i64 (0 : Int), V.int IntKind.i64 (0 : Int), V.int IntKind.i64 (0 : Int), V.int IntKind.i64 (0 : Int), V.int IntKind.i64 (0 : Int), V.int IntKind.i64 (0 : Int), V.int IntKind.i64 (0 : Int), V.int IntKind.i64 (0 : Int), V.int IntKind.i64 (0 : Int)] ∧ True ∧ True ∧ True ∧ True ∧ True ∧ True ∧ True ∧ True ∧ True ∧ True ∧ True ∧ True ∧ True ∧ True ∧ True ∧ True ∧ True ∧ True ∧ True) ∧ (arF f = [i6 (f 0), i6 (f 1), i6 (f 2), i6 (f 3), i6 (f 4), i6 (f 5), i6 (f 6), i6 (f 7), i6 (f 8), i6 (f 9), i6 (f 10), i6 (f 11), i6 (f 12), i6 (f 13), i6 (f 14), i6 (f 15), i6 (f 16), i6 (f 17)] ∧ True ∧ True ∧ True ∧ True ∧ True ∧ True ∧ True ∧ True ∧ True ∧ True ∧ True ∧ True ∧ True ∧ True ∧ True ∧ True ∧ True ∧ True ∧ True) ∧ True) ∧ Sat Tryd.prog none 0 (at' 104 [1, 1, 0, 1, 0]) (mkSt g0 31 (tmS a f s 0)) (outsP g0 31 [(True, Ex.exit 0, tmX a f s)]) ∧ (True → (0 = 0 ∧ True) ∧ (arF (mixF a f s 18) = [i6 (mixF a f s 18 0), i6 (mixF a f s 18 1), i6 (mixF a f s 18 2), i6 (mixF a f s 18 3), i6 (mixF a f s 18 4), i6 (mixF a f s 18 5), i6 (mixF a f s 18 6), i6 (mixF a f s 18 7), i6 (mixF a f s 18 8), i6 (mixF a f s 18 9), i6 (mixF a f s 18 10), i6 (mixF a f s 18 11), i6 (mixF a f s 18 12), i6 (mixF a f s 18 13), i6 (mixF a f s 18 14), i6 (mixF a f s 18 15), i6 (mixF a f s 18 16), i6 (mixF a f s 18 17)] ∧ True ∧ True ∧ True ∧ True ∧ True ∧ True ∧ True ∧ True ∧ True ∧ True ∧ True ∧ True ∧ True ∧ True ∧ True ∧ True ∧ True ∧ True ∧ True) ∧ True) ∧ True) = _) ?_
  exact au

theorem fac_steps : ((List.range 43).all fun k => (List.range 18).all fun i => decide (facF (k + 1) i = facF k i + ofF (k + 1) 18 i) && decide (0 ≤ ofF (k + 1) 18 i ∧ ofF (k + 1) 18 i ≤ 63)) = true := by kernel_rfl
theorem fac_step {k i : Nat} (hk : k < 43) (hi : i < 18) : facF (k + 1) i = facF k i + ofF (k + 1) 18 i ∧ 0 ≤ ofF (k + 1) 18 i ∧ ofF (k + 1) 18 i ≤ 63 := by
  have := all_range.1 (all_range.1 fac_steps k hk) i hi
  rw [Bool.and_eq_true, decide_eq_true_eq, decide_eq_true_eq] at this
  exact ⟨this.1, this.2.1, this.2.2⟩
theorem fac_one (i : Nat) (h : i < 18) : facF 1 i = 0 := by
  rcases lt18 h with rfl | rfl | rfl | rfl | rfl | rfl | rfl | rfl | rfl | rfl | rfl | rfl | rfl | rfl | rfl | rfl | rfl | rfl <;> rfl
abbrev ftS (n : Nat) (s : Int) (q : Nat × (Nat → Int)) : SL := { sl := [(1, i6 n), (2, i6 s), (3, .ptr 0 0), (6, .ptr 1 0), (7, i6 q.1)], os := [.row 41 none (arF q.2), .row 41 none (arF zeroF)] }
abbrev ftX (f : Nat → Int) : SL := { sl := [(3, .ptr 0 0), (6, .ptr 1 0)], os := [.row 41 none (arF f), .row 41 none (arF zeroF)] }
theorem fact_loop (a : Nat → Int) (n : Nat) (s : Int) (hs : s = 1 ∨ s = -1) (ha : ∀ k, k < 18 → -900000 ≤ a k ∧ a k ≤ 900000) (hn : n < 44) :
    Sat Pg none 0 (at' 76 [1, 0, 1, 0]) (mkSt g0 18 (ftS n s (2, a))) (outsP g0 18 [(True, .exit 0, ftX (addA a (facF n) s))]) := by
  have key : Sat Pg none 0 (at' 76 [1, 0, 1, 0]) (mkSt g0 18 (ftS n s (2, a))) (fun e st => ∃ S', st = mkSt g0 18 S' ∧ e = .exit 0 ∧ ∃ f, S' = ftX f ∧ ∀ i, i < 18 → f i = addA a (facF n) s i) := by
    refine loopHG (b := at' 76 [1, 0, 1, 0, 0]) (by kernel_rfl) (fun q : Nat × (Nat → Int) => 2 ≤ q.1 ∧ (q.1 ≤ n + 1 ∨ q.1 = 2) ∧ ∀ i, i < 18 → q.2 i = addA a (facF (q.1 - 1)) s i) (ftS n s) (fun q => n + 1 - q.1) (fun e S' => e = .exit 0 ∧ ∃ f, S' = ftX f ∧ ∀ i, i < 18 → f i = addA a (facF n) s i) (fun q G hq hN hX _ => ?_) (2, a) ⟨Nat.le_refl _, .inr rfl, fun i hi => by show a i = a i + s * facF 1 i; rw [fac_one i hi]; omega⟩
    obtain ⟨k, f⟩ := q
    obtain ⟨h2, hk, hf⟩ := hq
    dsimp only at h2 hk hf hN
    by_cases hlt : k ≤ n
    · have hst := fun i (hi : i < 18) => @fac_step (k - 1) i (by omega) hi
      rw [show k - 1 + 1 = k by omega] at hst
      have hbd := fun i (hi : i < 18) => fac_ok.bd (k - 1) i (by omega) hi
      have ht := times_fn f k s (fun i hi => by have := hbd i hi; have := ha i hi; rw [hf i hi]; unfold addA; rcases hs with rfl | rfl <;> omega) (by omega) (by omega) (fun i hi => by have := hst i hi; rcases hs with rfl | rfl <;> omega)
      have hnx := hN (k + 1, addA f (ofF k 18) s) ⟨by dsimp only; omega, .inl (by dsimp only; omega), fun i hi => by
        dsimp only
        rw [show k + 1 - 1 = k by omega]
        have := hst i hi
        have h3 := hf i hi
        unfold addA at h3 ⊢
        rw [h3, this.1, Int.mul_add]; omega⟩ (by dsimp only; omega)
      generalize ofF k 18 = o at *
      refine ⟨[yes 10, fn 16 (ar (addA f o s)), nu 12 (k + 1 : Nat), (0, .to [0, 1] (ftS n s (k + 1, addA f o s)))], 1000, ?_⟩
      generalize addA f o s = f' at *
      refine Eq.mp (by kernel_rfl : (decide ((↑k : Int) ≤ (↑n : Int)) = true ∧ ((True ∧ True ∧ True ∧ True ∧ True ∧ True ∧ True ∧ True ∧ True ∧ True ∧ True ∧ True ∧ True ∧ True ∧ True ∧ True ∧ True ∧ True ∧ True) ∧ True ∧ True ∧ True) ∧ FnOk Pg g0 104 [V.agg [V.int IntKind.i64 (f 0), V.int IntKind.i64 (f 1), V.int IntKind.i64 (f 2), V.int IntKind.i64 (f 3), V.int IntKind.i64 (f 4), V.int IntKind.i64 (f 5), V.int IntKind.i64 (f 6), V.int IntKind.i64 (f 7), V.int IntKind.i64 (f 8), V.int IntKind.i64 (f 9), V.int IntKind.i64 (f 10), V.int IntKind.i64 (f 11), V.int IntKind.i64 (f 12), V.int IntKind.i64 (f 13), V.int IntKind.i64 (f 14), V.int IntKind.i64 (f 15), V.int IntKind.i64 (f 16), V.int IntKind.i64 (f 17)], V.int IntKind.i64 (↑k : Int), V.int IntKind.i64 s] (ar f') ∧ True ∧ wr IntKind.i64 ((↑k : Int) + (1 : Int)) = (↑(k + 1) : Int) ∧ G Ex.normal (ftS n s (k + 1, f')) ∧ ((↑n : Int) = (↑n : Int) ∧ s = s ∧ 0 = 0 ∧ 0 = 0 ∧ (↑(k + 1) : Int) = (↑(k + 1) : Int) ∧ True) ∧ (arF f' = [i6 (f' 0), i6 (f' 1), i6 (f' 2), i6 (f' 3), i6 (f' 4), i6 (f' 5), i6 (f' 6), i6 (f' 7), i6 (f' 8), i6 (f' 9), i6 (f' 10), i6 (f' 11), i6 (f' 12), i6 (f' 13), i6 (f' 14), i6 (f' 15), i6 (f' 16), i6 (f' 17)] ∧ True ∧ True ∧ True ∧ True ∧ True ∧ True ∧ True ∧ True ∧ True ∧ True ∧ True ∧ True ∧ True ∧ True ∧ True ∧ True ∧ True ∧ True ∧ True) ∧ (arF zeroF = arF zeroF ∧ True ∧ True ∧ True ∧ True ∧ True ∧ True ∧ True ∧ True ∧ True ∧ True ∧ True ∧ True ∧ True ∧ True ∧ True ∧ True ∧ True ∧ True ∧ True) ∧ True) = _) ?_
      exact au
    · have hfin : ∀ i, i < 18 → f i = addA a (facF n) s i := by
        intro i hi
        rw [hf i hi]
        rcases hk with hk | rfl
        · rw [show k - 1 = n by omega]
        · have : n = 0 ∨ n = 1 := by omega
          unfold addA
          rcases this with rfl | rfl
          · rw [fac_one i hi, fac_zero i hi]
          · rfl
      have hnx := hX 0 _ ⟨rfl, f, rfl, hfin⟩
      refine ⟨[no 10, (0, .to [0, 1] (ftX f))], 1000, ?_⟩
      refine Eq.mp (by kernel_rfl : (decide ((↑k : Int) ≤ (↑n : Int)) = false ∧ G (Ex.exit 0) (ftX f) ∧ (0 = 0 ∧ 0 = 0 ∧ True) ∧ (arF f = arF f ∧ True ∧ True ∧ True ∧ True ∧ True ∧ True ∧ True ∧ True ∧ True ∧ True ∧ True ∧ True ∧ True ∧ True ∧ True ∧ True ∧ True ∧ True ∧ True) ∧ (arF zeroF = arF zeroF ∧ True ∧ True ∧ True ∧ True ∧ True ∧ True ∧ True ∧ True ∧ True ∧ True ∧ True ∧ True ∧ True ∧ True ∧ True ∧ True ∧ True ∧ True ∧ True) ∧ True) = _) ?_
      exact au
  refine key.mono ?_
  rintro e st ⟨S', rfl, rfl, f, rfl, hf⟩
  refine .inl ⟨trivial, rfl, ?_⟩
  have : arF f = arF (addA a (facF n) s) := ar_congr hf
  show mkSt g0 18 { sl := [(3, .ptr 0 0), (6, .ptr 1 0)], os := [.row 41 none (arF f), .row 41 none (arF zeroF)] } = _
  rw [this]
theorem factorial_fn (a : Nat → Int) (n : Nat) (s : Int) (hs : s = 1 ∨ s = -1) (ha : ∀ k, k < 18 → -900000 ≤ a k ∧ a k ≤ 900000) (hn : n < 44) : FnOk Pg g0 76 [ar a, i6 n, i6 s] (ar (addA a (facF n) s)) := by
  have l := fact_loop a n s hs ha hn
  generalize addA a (facF n) s = f at *
  refine FnOk.of_vc vE_ok mixed sp0_ok (n := 1000) (r := [1]) (S := { sl := [(6, .ptr 0 0)], os := [.row 41 none (arF f)] }) (hs := [(0, .loop [0, 1] (ftS n s (2, a)) [(True, .exit 0, ftX f)])]) ?_
  refine Eq.mp (by kernel_rfl : (V.agg [i6 (f 0), i6 (f 1), i6 (f 2), i6 (f 3), i6 (f 4), i6 (f 5), i6 (f 6), i6 (f 7), i6 (f 8), i6 (f 9), i6 (f 10), i6 (f 11), i6 (f 12), i6 (f 13), i6 (f 14), i6 (f 15), i6 (f 16), i6 (f 17)] = ar f ∧ (((↑n : Int) = (↑n : Int) ∧ s = s ∧ 0 = 0 ∧ 0 = 0 ∧ (↑(2 : Nat) : Int) = (2 : Int) ∧ True) ∧ (arF a = [i6 (a 0), i6 (a 1), i6 (a 2), i6 (a 3), i6 (a 4), i6 (a 5), i6 (a 6), i6 (a 7), i6 (a 8), i6 (a 9), i6 (a 10), i6 (a 11), i6 (a 12), i6 (a 13), i6 (a 14), i6 (a 15), i6 (a 16), i6 (a 17)] ∧ True ∧ True ∧ True ∧ True ∧ True ∧ True ∧ True ∧ True ∧ True ∧ True ∧ True ∧ True ∧ True ∧ True ∧ True ∧ True ∧ True ∧ True ∧ True) ∧ (arF zeroF = [V.int IntKind.i64 (0 : Int), V.int IntKind.i64 (0 : Int), V.int IntKind.i64 (0 : Int), V.int IntKind.i64 (0 : Int), V.int IntKind.i64 (0 : Int), V.int IntKind.i64 (0 : Int), V.int IntKind.i64 (0 : Int), V.int IntKind.i64 (0 : Int), V.int IntKind.i64 (0 : Int), V.int IntKind.i64 (0 : Int), V.int IntKind.i64 (0 : Int), V.int IntKind.i64 (0 : Int), V.int IntKind.i64 (0 : Int), V.int IntKind.i64 (0 : Int), V.int IntKind.i64 (0 : Int), V.int IntKind.i64 (0 : Int), V.int IntKind.i64 (0 : Int), V.int IntKind.i64 (0 : Int)] ∧ True ∧ True ∧ True ∧ True ∧ True ∧ True ∧ True ∧ True ∧ True ∧ True ∧ True ∧ True ∧ True ∧ True ∧ True ∧ True ∧ True ∧ True ∧ True) ∧ True) ∧ Sat Tryd.prog none 0 (at' 76 [1, 0, 1, 0]) (mkSt g0 18 (ftS n s (2, a))) (outsP g0 18 [(True, Ex.exit 0, ftX f)]) ∧ (True → (0 = 0 ∧ True) ∧ (arF f = [i6 (f 0), i6 (f 1), i6 (f 2), i6 (f 3), i6 (f 4), i6 (f 5), i6 (f 6), i6 (f 7), i6 (f 8), i6 (f 9), i6 (f 10), i6 (f 11), i6 (f 12), i6 (f 13), i6 (f 14), i6 (f 15), i6 (f 16), i6 (f 17)] ∧ True ∧ True ∧ True ∧ True ∧ True ∧ True ∧ True ∧ True ∧ True ∧ True ∧ True ∧ True ∧ True ∧ True ∧ True ∧ True ∧ True ∧ True ∧ True) ∧ True) ∧ True) = _) ?_
  exact au

end Go.Proofs.YtglpoiaedkoecaaDoor.Am
