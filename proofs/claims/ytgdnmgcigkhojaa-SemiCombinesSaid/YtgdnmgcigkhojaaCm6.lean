/- The texts behind the claim: Chapter 04: Same, cut, drafted tables. Chapter 04: drafted tables. SemiCombines: the walk: one comparison. SemiCombines: the walk: two lists to keep. Chapter 04: the examples hold (run by the machine). SemiCombines: the walk: the lists of tables. Chapter 04: the frame's lemmas: tables, drafts. SemiCombines: the walk, whole. SemiCombines: the walk, whole. -/
import Derived.Test.YtgdnmgcigkhojaaCm5

namespace Go.Proofs.Ytgdnmgcigkhojaa.Am
open Go.RowKit
set_option linter.unusedVariables false
set_option maxHeartbeats 1000000
set_option maxRecDepth 100000
abbrev smS (l : List Int) (k : Nat) : SL := { sl := [(0, sl l), (1, sl l), (5, i6 k)] }
theorem same2_fn (l : List Int) (hl : l.length ≤ 1000000) : FnOk Pg g0 50 [sl l, sl l] (.bool true) := by
  have lp : Sat Pg none 0 (at' 50 [1, 1, 0, 1, 0]) (mkSt g0 26 (smS l 0)) (outsP g0 26 [(True, .exit 0, { sl := [] })]) := by
    refine loopC vE_ok mixed sp0_ok (b := at' 50 [1, 1, 0, 1, 0, 0]) (by kernel_rfl) (fun k => k ≤ l.length) (smS l) (fun k => l.length - k) (fun k hk => ?_) 0 (Nat.zero_le _)
    by_cases hlt : k < l.length
    · have g1 := @head_intsD l k hlt
      refine .inl ⟨k + 1, [], [yes 14, pl 19, ld 20 (i6 (l.getD k 0)), pl 23, ld 24 (i6 (l.getD k 0)), no 25, nu 16 (k + 1 : Nat)], 1000, by omega, by omega, ?_⟩
      refine Eq.mp (by kernel_rfl : (decide ((↑k : Int) < (↑(List.length l) : Int)) = true ∧ ((0 : Int) ≤ (↑k : Int) ∧ (↑k : Int) < (↑(List.length l) : Int)) ∧ headF (List.drop (k * 1) (ints l)) = some (i6 (List.getD l k (0 : Int))) ∧ ((0 : Int) ≤ (↑k : Int) ∧ (↑k : Int) < (↑(List.length l) : Int)) ∧ headF (List.drop (k * 1) (ints l)) = some (i6 (List.getD l k (0 : Int))) ∧ (List.getD l k (0 : Int) != List.getD l k (0 : Int)) = false ∧ wr IntKind.i64 ((↑k : Int) + (1 : Int)) = (↑(k + 1) : Int) ∧ ((List.length l = List.length l ∧ ints l = ints l) ∧ (List.length l = List.length l ∧ ints l = ints l) ∧ (↑(k + 1) : Int) = (↑(k + 1) : Int) ∧ True) ∧ True) = _) ?_
      (repeat' (first | (with_reducible apply And.intro) | (refine fun (_ : True) => ?_))) <;> first | exact aq | skip
    · refine .inr ⟨.exit 0, [], { sl := [] }, [no 14], 1000, .inl ⟨trivial, rfl, rfl⟩, ?_⟩
      refine Eq.mp (by kernel_rfl : (decide ((↑k : Int) < (↑(List.length l) : Int)) = false ∧ True ∧ True) = _) ?_
      (repeat' (first | (with_reducible apply And.intro) | (refine fun (_ : True) => ?_))) <;> first | exact aq | skip
  refine FnOk.of_vc vE_ok mixed sp0_ok (n := 1000) (r := []) (S := { sl := [(4, .bool true)] }) (hs := [no 10, (0, .loop [] (smS l 0) [(True, .exit 0, { sl := [] })])]) ?_
  refine Eq.mp (by kernel_rfl : (V.bool true = V.bool true ∧ ((↑(List.length l) : Int) != (↑(List.length l) : Int)) = false ∧ (((List.length l = List.length l ∧ ints l = ints l) ∧ (List.length l = List.length l ∧ ints l = ints l) ∧ (↑(0 : Nat) : Int) = (0 : Int) ∧ True) ∧ True) ∧ Sat Try.prog none 0 (at' 50 [1, 1, 0, 1, 0]) (mkSt g0 26 (smS l 0)) (outsP g0 26 [(True, Ex.exit 0, SL.mk [] [] [] [])]) ∧ (True → (true = true ∧ True) ∧ True) ∧ True) = _) ?_
  (repeat' (first | (with_reducible apply And.intro) | (refine fun (_ : True) => ?_))) <;> first | exact aq | skip
abbrev sfS (vs cs : List Int) (A B : Nat → Int) (n k : Nat) : SL := { sl := [(2, .ptr 0 0), (3, .ptr 1 0), (5, i6 k)], os := [.row 32 none [sl vs, sl cs, .im n (elF A B n)], .row 32 none [sl vs, sl cs, .im n (elF A B n)]] }
theorem same4_fn (vs cs : List Int) (A B : Nat → Int) (n : Nat) (h1 : vs.length ≤ 1000000) (h2 : cs.length ≤ 1000000) (h3 : n ≤ 1000000) : FnOk Pg g0 18 [.agg [sl vs, sl cs, .im n (elF A B n)], .agg [sl vs, sl cs, .im n (elF A B n)]] (.bool true) := by
  have s1 := same2_fn vs h1
  have s2 := same2_fn cs h2
  have hv := HfL_ints vs
  have hc := HfL_ints cs
  have hE := HfL_elF A B n
  have lp : Sat Pg none 0 (at' 18 [1, 1, 0, 1, 0]) (mkSt g0 47 (sfS vs cs A B n 0)) (outsP g0 47 [(True, .exit 0, { sl := [] })]) := by
    refine loopC vE_ok mixed sp0_ok (b := at' 18 [1, 1, 0, 1, 0, 0]) (by kernel_rfl) (fun k => k ≤ n) (sfS vs cs A B n) (fun k => n - k) (fun k hk => ?_) 0 (Nat.zero_le _)
    by_cases hlt : k < n
    · have hel := @head_elF A B n k hlt
      refine .inl ⟨k + 1, [0, 1], [yes 33, pl 39, ld 40 (el (A k) (B k)), pl 44, ld 45 (el (A k) (B k)), no 46, nu 35 (k + 1 : Nat)], 1000, by omega, by omega, ?_⟩
      refine Eq.mp (by kernel_rfl : (decide ((↑k : Int) < (↑n : Int)) = true ∧ ((0 : Int) ≤ (↑k : Int) ∧ (↑k : Int) < (↑n : Int)) ∧ takeE 2 (List.drop (k * 2) (elF A B n)) = some [i6 (A k), i6 (B k)] ∧ ((0 : Int) ≤ (↑k : Int) ∧ (↑k : Int) < (↑n : Int)) ∧ takeE 2 (List.drop (k * 2) (elF A B n)) = some [i6 (A k), i6 (B k)] ∧ (!(A k == A k && (B k == B k && true))) = false ∧ wr IntKind.i64 ((↑k : Int) + (1 : Int)) = (↑(k + 1) : Int) ∧ (0 = 0 ∧ 0 = 0 ∧ (↑(k + 1) : Int) = (↑(k + 1) : Int) ∧ True) ∧ ([sl vs, sl cs, V.im n (elF A B n)] = [sl vs, sl cs, V.im n (elF A B n)] ∧ TT 3) ∧ ([sl vs, sl cs, V.im n (elF A B n)] = [sl vs, sl cs, V.im n (elF A B n)] ∧ TT 3) ∧ True) = _) ?_
      (repeat' (first | (with_reducible apply And.intro) | (refine fun (_ : True) => ?_))) <;> first | exact aq | skip
      all_goals first | (simp; done) | skip
    · refine .inr ⟨.exit 0, [], { sl := [] }, [no 33], 1000, .inl ⟨trivial, rfl, rfl⟩, ?_⟩
      refine Eq.mp (by kernel_rfl : (decide ((↑k : Int) < (↑n : Int)) = false ∧ True ∧ True) = _) ?_
      (repeat' (first | (with_reducible apply And.intro) | (refine fun (_ : True) => ?_))) <;> first | exact aq | skip
  refine FnOk.of_vc vE_ok mixed sp0_ok (n := 1000) (r := []) (S := { sl := [(4, .bool true)] }) (hs := [fn 10 (.bool true), fn 17 (.bool true), no 27, (0, .loop [0, 1] (sfS vs cs A B n 0) [(True, .exit 0, { sl := [] })])]) ?_
  refine Eq.mp (by kernel_rfl : (V.bool true = V.bool true ∧ (True ∧ True ∧ True) ∧ FnOk Try.prog g0 50 [V.im (List.length vs) (ints vs), V.im (List.length vs) (ints vs)] (V.bool true) ∧ True ∧ (True ∧ True ∧ True) ∧ FnOk Try.prog g0 50 [V.im (List.length cs) (ints cs), V.im (List.length cs) (ints cs)] (V.bool true) ∧ ((V.fn 50 [] = V.fn 50 [] → [sl vs, sl vs] = [sl cs, sl cs] → pt (pt T.e 0 (O.row 32 none [sl vs, sl cs, V.im n (elF A B n)])) (0 + 1) (O.row 32 none [sl vs, sl cs, V.im n (elF A B n)]) = pt (pt T.e 0 (O.row 32 none [sl vs, sl cs, V.im n (elF A B n)])) (0 + 1) (O.row 32 none [sl vs, sl cs, V.im n (elF A B n)]) → 0 + 1 + 1 = 0 + 1 + 1 → CR.mk (V.bool true) (pt (pt T.e 0 (O.row 32 none [sl vs, sl cs, V.im n (elF A B n)])) (0 + 1) (O.row 32 none [sl vs, sl cs, V.im n (elF A B n)])) (0 + 1 + 1) [] = CR.mk (V.bool true) (pt (pt T.e 0 (O.row 32 none [sl vs, sl cs, V.im n (elF A B n)])) (0 + 1) (O.row 32 none [sl vs, sl cs, V.im n (elF A B n)])) (0 + 1 + 1) []) ∧ True) ∧ ((↑n : Int) != (↑n : Int)) = false ∧ ((0 = 0 ∧ 0 = 0 ∧ (↑(0 : Nat) : Int) = (0 : Int) ∧ True) ∧ ([sl vs, sl cs, V.im n (elF A B n)] = [sl vs, sl cs, V.im n (elF A B n)] ∧ TT 3) ∧ ([sl vs, sl cs, V.im n (elF A B n)] = [sl vs, sl cs, V.im n (elF A B n)] ∧ TT 3) ∧ True) ∧ Sat Try.prog none 0 (at' 18 [1, 1, 0, 1, 0]) (mkSt g0 47 (sfS vs cs A B n 0)) (outsP g0 47 [(True, Ex.exit 0, SL.mk [] [] [] [])]) ∧ (True → (true = true ∧ True) ∧ True) ∧ True) = _) ?_
  (repeat' (first | (with_reducible apply And.intro) | (refine fun (_ : True) => ?_))) <;> first | exact aq | skip
  all_goals first | rfl | (intro h _; rw [sl_inj (List.cons.inj h).1]) | (intro _ h _ _; rw [sl_inj (List.cons.inj h).1]) | skip
theorem ty29 : vE.G.ty 29 = some { desc := .slice 3, size := 1, bytes := 24, agg := false, zero := some [.nils] } := by kernel_rfl
theorem ty3 : vE.G.ty 3 = some { desc := .int .i64, size := 1, bytes := 8, agg := false, zero := some [i6 0] } := by kernel_rfl
theorem ty30 : vE.G.ty 30 = some { desc := .slice 23, size := 1, bytes := 24, agg := false, zero := some [.nils] } := by kernel_rfl
theorem cut_ints (L : List Int) (c m : Nat) (hm : m = min L.length c) : sliceV vE.G 29 (V.im L.length (ints L)) none (some (m : Int)) none = some (sl (L.take c)) := by
  unfold sliceV
  simp only [ty29, ty3, Option.getD_none, Option.getD_some, Option.isNone_none, and_true]
  rw [if_pos (by omega)]
  have ht : L.take c = L.take m := by
    by_cases h : L.length ≤ c
    · rw [List.take_of_length_le h, List.take_of_length_le (by omega)]
    · rw [show m = c by omega]
  by_cases h0 : (0 : Int) = m
  · rw [if_pos h0, ht, show m = 0 by omega]; rfl
  · rw [if_neg h0, ht]
    congr 1
    unfold sl
    congr 1
    · simp; omega
    · simp [ints]
theorem elF_take (A B : Nat → Int) {m n : Nat} (h : m ≤ n) : (elF A B n).take (m * 2) = elF A B m := by
  rw [show n = m + (n - m) by omega, elF_bl, elF_bl, blF_add, List.take_append_of_le_length (by rw [blF_len (s := 2) (fun _ => rfl)]; omega), List.take_of_length_le (by rw [blF_len (s := 2) (fun _ => rfl)]; omega)]
theorem ty23 : ∃ ti, vE.G.ty 23 = some ti ∧ ti.size = 2 := by
  have h : (vE.G.ty 23).map TI.size = some 2 := by kernel_rfl
  cases e : vE.G.ty 23 with
  | none => rw [e] at h; cases h
  | some ti => rw [e] at h; exact ⟨ti, rfl, Option.some.inj h⟩
theorem cut_els (A B : Nat → Int) (n m : Nat) (hm : m ≤ n) : sliceV vE.G 30 (V.im n (elF A B n)) none (some (m : Int)) none = some (.im m (elF A B m)) := by
  obtain ⟨ti, h1, h2⟩ := ty23
  unfold sliceV
  simp only [ty30, h1, h2, Option.getD_none, Option.getD_some, Option.isNone_none, and_true]
  rw [if_pos (by omega)]
  by_cases h0 : (0 : Int) = m
  · rw [if_pos h0, show m = 0 by omega]; rfl
  · rw [if_neg h0]
    congr 1
    congr 1
    simp only [Int.toNat_zero, Nat.zero_mul, List.drop_zero, Int.toNat_natCast, Nat.sub_zero]
    exact elF_take A B hm
theorem tcut_fn (vs cs : List Int) (A B : Nat → Int) (n : Nat) : FnOk Pg g0 14 [.agg [sl vs, sl cs, .im n (elF A B n)]] (.agg [sl (vs.take 3), sl (cs.take 3), .im (min n 20) (elF A B (min n 20))]) := by
  have c1 := cut_ints vs 3 _ rfl
  have c2 := cut_ints cs 3 _ rfl
  have c3 := cut_els A B n (min n 20) (Nat.min_le_left _ _)
  have hv := HfL_ints (vs.take 3)
  have hc := HfL_ints (cs.take 3)
  have hE := HfL_elF A B (min n 20)
  refine FnOk.of_vc vE_ok mixed sp0_ok (n := 1000) (r := [1]) (S := { sl := [(2, .ptr 0 0)], os := [.row 32 none [sl (vs.take 3), sl (cs.take 3), .im (min n 20) (elF A B (min n 20))]] }) (hs := [nu 8 ((min vs.length 3 : Nat) : Int), va 9 (sl (vs.take 3)), nu 15 ((min cs.length 3 : Nat) : Int), va 16 (sl (cs.take 3)), nu 22 ((min n 20 : Nat) : Int), va 23 (.im (min n 20) (elF A B (min n 20)))]) ?_
  refine Eq.mp (by kernel_rfl : (V.agg [sl (List.take 3 vs), sl (List.take 3 cs), V.im (min n 20) (elF A B (min n 20))] = V.agg [sl (List.take 3 vs), sl (List.take 3 cs), V.im (min n 20) (elF A B (min n 20))] ∧ (if (3 : Int) < (↑(List.length vs) : Int) then (3 : Int) else (↑(List.length vs) : Int)) = (↑(min (List.length vs) 3) : Int) ∧ sliceV (ctxOf Try.prog) 29 (sl vs) none (some (↑(min (List.length vs) 3) : Int)) none = some (sl (List.take 3 vs)) ∧ (if (3 : Int) < (↑(List.length cs) : Int) then (3 : Int) else (↑(List.length cs) : Int)) = (↑(min (List.length cs) 3) : Int) ∧ sliceV (ctxOf Try.prog) 29 (sl cs) none (some (↑(min (List.length cs) 3) : Int)) none = some (sl (List.take 3 cs)) ∧ (if (20 : Int) < (↑n : Int) then (20 : Int) else (↑n : Int)) = (↑(min n 20) : Int) ∧ sliceV (ctxOf Try.prog) 30 (V.im n (elF A B n)) none (some (↑(min n 20) : Int)) none = some (V.im (min n 20) (elF A B (min n 20))) ∧ (0 = 0 ∧ True) ∧ ([sl (List.take 3 vs), sl (List.take 3 cs), V.im (min n 20) (elF A B (min n 20))] = [sl (List.take 3 vs), sl (List.take 3 cs), V.im (min n 20) (elF A B (min n 20))] ∧ TT 3) ∧ True) = _) ?_
  (repeat' (first | (with_reducible apply And.intro) | (refine fun (_ : True) => ?_))) <;> first | exact aq | skip
  all_goals first | exact c1 | exact c2 | exact c3 | skip
end Go.Proofs.Ytgdnmgcigkhojaa.Am

namespace Go.Proofs.Ytgdnmgcigkhojaa.Am
open Go.RowKit
set_option linter.unusedVariables false
set_option maxHeartbeats 1000000
set_option maxRecDepth 100000
theorem shr_8 {G : Ctx} {t : Nat} {x k : Nat} {K : IntKind} (hk : k ≤ 8) : binV G .shr t (b8 x) (.int K (k : Int)) = some (b8 (x / 2 ^ k)) := by
  have h1 : ((k : Int) < 0) = False := by simp
  have h2 : min k 8 = k := by omega
  simp only [binV, intV, h1, if_false, Int.toNat_natCast, IntKind.bits, h2]
  rw [Int.fdiv_eq_ediv_of_nonneg _ (Int.natCast_nonneg _)]
  rfl
theorem and1_8 {G : Ctx} {t : Nat} {x : Nat} : binV G .and t (b8 x) (b8 1) = some (b8 (x % 2)) := by
  have h : (BitVec.ofInt 8 (x : Int) &&& BitVec.ofInt 8 1).toNat = x % 2 := by
    rw [BitVec.toNat_and]
    have h1 : (BitVec.ofInt 8 1).toNat = 1 := by decide
    rw [h1, Nat.and_one_is_mod]
    have h2 : (BitVec.ofInt 8 (x : Int)).toNat = x % 2 ^ 8 := by
      rw [BitVec.toNat_ofInt]; omega
    rw [h2]; omega
  have hw : IntKind.u8.wrap ((x % 2 : Nat) : Int) = ((x % 2 : Nat) : Int) := by
    rw [← wr_eq]; exact wr_in (by simp [lo]; omega) (by simp [hi]; omega)
  have e : binV G .and t (b8 x) (b8 1) = some (.int .u8 (IntKind.u8.wrap ((BitVec.ofInt 8 (x : Int) &&& BitVec.ofInt 8 1).toNat : Int))) := rfl
  rw [e, h, hw]
theorem quo_u8 {G : Ctx} {t : Nat} {x m : Nat} (h : 0 < m) (hx : x < 256) : binV G .quo t (b8 x) (b8 m) = some (b8 (x / m)) := by
  have h0 : (m : Int) ≠ 0 := by omega
  have hy : x / m < 256 := by have := Nat.div_le_self x m; omega
  have e : (x : Int).tdiv (m : Int) = ((x / m : Nat) : Int) := by rw [Int.tdiv_eq_ediv_of_nonneg (by omega)]; omega
  generalize x / m = y at *
  have hw : wr .u8 (y : Int) = (y : Int) := wr_in (by simp [lo]) (by simp [hi]; omega)
  simp [binV, intV, e, hw]
  omega
def cdN : Nat → Int
  | 0 => 2
  | 1 => 3
  | 2 => 1
  | 3 => 2
  | 4 => 2
  | _ => 0
def dQ (w : Nat) : Nat → Nat
  | 0 => 0
  | v + 1 => if w / 2 ^ v % 2 = 1 then dQ w v + 1 else dQ w v
def dV (w : Nat) : Nat → List Int
  | 0 => []
  | v + 1 => if w / 2 ^ v % 2 = 1 then dV w v ++ [(v : Int)] else dV w v
def dC (w : Nat) : Nat → List Int
  | 0 => []
  | v + 1 => if w / 2 ^ v % 2 = 1 then dC w v ++ [cdN v] else dC w v
theorem dV_len (w : Nat) : ∀ v, (dV w v).length = dQ w v
  | 0 => rfl
  | v + 1 => by unfold dV dQ; split <;> simp [dV_len w v]
theorem dC_len (w : Nat) : ∀ v, (dC w v).length = dQ w v
  | 0 => rfl
  | v + 1 => by unfold dC dQ; split <;> simp [dC_len w v]
theorem dQ_le (w : Nat) : ∀ v, dQ w v ≤ v
  | 0 => Nat.le_refl _
  | v + 1 => by have := dQ_le w v; unfold dQ; split <;> omega
theorem place73 {g k : Nat} (h : k < 5) : placeV (ctxOf Pg) 73 (.ptr g 0) (k : Int) = some (.ptr g k) := by
  have e : placeV (ctxOf Pg) 73 (.ptr g 0) (k : Int) = (if 0 ≤ (k : Int) ∧ (k : Int) < ((5 : Nat) : Int) then addOff (.ptr g 0) ((k : Int).toNat * 1) else none) := by kernel_rfl
  rw [e, if_pos (by omega)]
  simp [addOff]
theorem head73 : ∀ {k : Nat}, k < 5 → headF (dropF k [i6 2, i6 3, i6 1, i6 2, i6 2]) = some (i6 (cdN k))
  | 0, _ => rfl
  | 1, _ => rfl
  | 2, _ => rfl
  | 3, _ => rfl
  | 4, _ => rfl
  | k + 5, h => by omega
abbrev bL (L : List Nat) : V := .im L.length (L.map b8)
theorem HfL_b8 (L : List Nat) : HfL (L.map b8) := by
  induction L with
  | nil => trivial
  | cons x l ih => exact ⟨trivial, ih⟩
theorem head_b8 {L : List Nat} {k : Nat} (h : k < L.length) : headF ((L.map b8).drop (k * 1)) = some (b8 (L.getD k 0)) := by
  rw [Nat.mul_one, ← List.map_drop, List.drop_eq_getElem_cons h, List.getD_eq_getElem?_getD, List.getElem?_eq_getElem h]; rfl
abbrev dtL (w : Nat) (L : List Nat) : List V := [b8 w, bL L]
abbrev d73 : List V := [i6 2, i6 3, i6 1, i6 2, i6 2]
abbrev d1S (kd : Int) (w : Nat) (L : List Nat) (p : Nat × Nat × List Int × List Int) : SL := { sl := [(1, i6 kd), (2, .ptr 0 0), (4, .ptr 1 0), (5, .ptr 2 0), (6, .ptr 3 0), (7, i6 p.1)], os := .row 39 none (dtL w L) :: r3 :: .row 73 none d73 :: .row 32 none [owV 4 p.2.1, owV 5 p.2.1, .nils] :: (owO p.2.2.1 p.2.1 ++ owO p.2.2.2 p.2.1), md := [0, 0, 0, 1] }
abbrev d1X (kd : Int) (w : Nat) (L : List Nat) (q : Nat) (vs cs : List Int) : SL := { sl := [(1, i6 kd), (2, .ptr 0 0), (4, .ptr 1 0), (6, .ptr 2 0)], os := [.row 39 none (dtL w L), r3, .row 32 none [.im q (ints vs), .im q (ints cs), .nils]], md := [0, 0, 1] }
theorem dr_vars (kd : Int) (w : Nat) (hw : w < 256) (L : List Nat) :
    Sat Pg none 0 (at' 12 [1, 1, 1, 0, 1, 0]) (mkSt g0 67 (d1S kd w L (0, 0, [], []))) (outsP g0 67 [(True, .exit 0, d1X kd w L (dQ w 5) (dV w 5) (dC w 5))]) := by
  refine loopC vE_ok mixed sp0_ok (b := at' 12 [1, 1, 1, 0, 1, 0, 0]) (by kernel_rfl) (fun p => p.1 ≤ 5 ∧ p.2.1 = dQ w p.1 ∧ p.2.2.1 = dV w p.1 ∧ p.2.2.2 = dC w p.1) (d1S kd w L) (fun p => 5 - p.1) (fun p hp => ?_) (0, 0, [], []) ⟨Nat.zero_le _, rfl, rfl, rfl⟩
  obtain ⟨i, q, vs, cs⟩ := p
  obtain ⟨hi, hq, hv, hs⟩ := hp
  dsimp only at hi hq hv hs
  have hB := HfL_b8 L
  have l1 := dV_len w i
  have l2 := dC_len w i
  rw [← hv, ← hq] at l1
  rw [← hs, ← hq] at l2
  have hle := dQ_le w i
  rw [← hq] at hle
  by_cases hlt : i < 5
  · have hsh := @shr_8 (ctxOf Pg) 5 w i .u64 (by omega)
    have han := @and1_8 (ctxOf Pg) 5 (w / 2 ^ i)
    have hp := @place73 2 i hlt
    have hh := @head73 i hlt
    have hc : wr .u64 (i : Int) = (i : Int) := conv6 (by omega) (by omega)
    by_cases hpos : w / 2 ^ i % 2 = 1
    · have e1 : dQ w (i + 1) = q + 1 := by rw [dQ, if_pos hpos, hq]
      have e2 : dV w (i + 1) = vs ++ [(i : Int)] := by rw [dV, if_pos hpos, hv]
      have e3 : dC w (i + 1) = cs ++ [cdN i] := by rw [dC, if_pos hpos, hs]
      have a1 := ints_app vs (i : Int)
      have a2 := ints_app cs (cdN i)
      have hH1 := HfL_ints (vs ++ [(i : Int)])
      have hH2 := HfL_ints (cs ++ [cdN i])
      rw [hpos] at han
      cases q with
      | zero =>
        have z1 : vs = [] := List.eq_nil_of_length_eq_zero l1
        have z2 : cs = [] := List.eq_nil_of_length_eq_zero l2
        refine .inl ⟨(i + 1, 1, vs ++ [(i : Int)], cs ++ [cdN i]), [0, 1, 2, 3, 5, 7], [yes 12, nu 18 (i : Nat), va 19 (b8 (w / 2 ^ i)), va 20 (b8 1), va 31 (.ptr 2 i), ld 32 (i6 (cdN i)), nu 14 (i + 1 : Nat)], 1000, ⟨by dsimp only; omega, e1.symm, e2.symm, e3.symm⟩, by dsimp only; omega, ?_⟩
        subst z1 z2
        clear hv hs hq e1 e2 e3
        refine Eq.mp (by kernel_rfl : (decide ((↑i : Int) < (5 : Int)) = true ∧ wr IntKind.u64 (↑i : Int) = (↑i : Int) ∧ binV (ctxOf Try.prog) BinOp.shr 5 (b8 w) (V.int IntKind.u64 (↑i : Int)) = some (b8 (w / 2 ^ i)) ∧ binV (ctxOf Try.prog) BinOp.and 5 (b8 (w / 2 ^ i)) (V.int IntKind.u8 (1 : Int)) = some (b8 1) ∧ placeV (ctxOf Try.prog) 73 (V.ptr 2 0) (↑i : Int) = some (V.ptr 2 i) ∧ headF (dropF i d73) = some (i6 (cdN i)) ∧ wr IntKind.i64 ((↑i : Int) + (1 : Int)) = (↑(i + 1) : Int) ∧ (kd = kd ∧ 0 = 0 ∧ 0 = 0 ∧ 0 = 0 ∧ 0 = 0 ∧ (↑(i + 1) : Int) = (↑(i + 1) : Int) ∧ True) ∧ (dtL w L = dtL w L ∧ True ∧ True ∧ True) ∧ ([V.nils, V.nils, V.nils] = [V.nils, V.nils, V.nils] ∧ TT 3) ∧ (d73 = d73 ∧ TT 5) ∧ ((0 = 0 ∧ 0 + 1 = 1 ∧ True) ∧ (0 = 0 ∧ 0 + 1 = 1 ∧ True) ∧ True ∧ True) ∧ (ints ([] ++ [(↑i : Int)]) = [i6 (↑i : Int)] ∧ True ∧ True) ∧ (ints ([] ++ [cdN i]) = [i6 (cdN i)] ∧ True ∧ True) ∧ True) = _) ?_
        (repeat' (first | (with_reducible apply And.intro) | (refine fun (_ : True) => ?_))) <;> first | exact aq | skip
        all_goals first | exact hc | exact hsh | exact han | exact hp | exact hh | rfl | skip
      | succ q =>
        refine .inl ⟨(i + 1, q + 1 + 1, vs ++ [(i : Int)], cs ++ [cdN i]), [0, 1, 2, 3, 7, 9], [yes 12, nu 18 (i : Nat), va 19 (b8 (w / 2 ^ i)), va 20 (b8 1), ap 26, va 31 (.ptr 2 i), ld 32 (i6 (cdN i)), ap 34, nu 14 (i + 1 : Nat)], 1000, ⟨by dsimp only; omega, e1.symm, e2.symm, e3.symm⟩, by dsimp only; omega, ?_⟩
        clear hv hs hq e1 e2 e3
        refine Eq.mp (by kernel_rfl : (decide ((↑i : Int) < (5 : Int)) = true ∧ wr IntKind.u64 (↑i : Int) = (↑i : Int) ∧ binV (ctxOf Try.prog) BinOp.shr 5 (b8 w) (V.int IntKind.u64 (↑i : Int)) = some (b8 (w / 2 ^ i)) ∧ binV (ctxOf Try.prog) BinOp.and 5 (b8 (w / 2 ^ i)) (V.int IntKind.u8 (1 : Int)) = some (b8 1) ∧ List.length (ints vs) = (q + 1) * 1 ∧ q + 1 + 1 ≤ 9223372036854775807 ∧ (q + 1 + 1) * 8 ≤ 140737488355328 ∧ placeV (ctxOf Try.prog) 73 (V.ptr 2 0) (↑i : Int) = some (V.ptr 2 i) ∧ headF (dropF i d73) = some (i6 (cdN i)) ∧ List.length (ints cs) = (q + 1) * 1 ∧ q + 1 + 1 ≤ 9223372036854775807 ∧ (q + 1 + 1) * 8 ≤ 140737488355328 ∧ wr IntKind.i64 ((↑i : Int) + (1 : Int)) = (↑(i + 1) : Int) ∧ (kd = kd ∧ 0 = 0 ∧ 0 = 0 ∧ 0 = 0 ∧ 0 = 0 ∧ (↑(i + 1) : Int) = (↑(i + 1) : Int) ∧ True) ∧ (dtL w L = dtL w L ∧ True ∧ True ∧ True) ∧ ([V.nils, V.nils, V.nils] = [V.nils, V.nils, V.nils] ∧ TT 3) ∧ (d73 = d73 ∧ TT 5) ∧ ((0 = 0 ∧ Nat.succ q + 1 = q + 1 + 1 ∧ True) ∧ (0 = 0 ∧ Nat.succ q + 1 = q + 1 + 1 ∧ True) ∧ True ∧ True) ∧ (ints (vs ++ [(↑i : Int)]) = ints vs ++ [i6 (↑i : Int)] ∧ HfL (ints (vs ++ [(↑i : Int)]))) ∧ (ints (cs ++ [cdN i]) = ints cs ++ [i6 (cdN i)] ∧ HfL (ints (cs ++ [cdN i]))) ∧ True) = _) ?_
        (repeat' (first | (with_reducible apply And.intro) | (refine fun (_ : True) => ?_))) <;> first | exact aq | skip
        all_goals first | exact hc | exact hsh | exact han | exact hp | exact hh | rfl | exact a1 | exact a2 | (rw [ints_length]; omega) | skip
    · have e1 : dQ w (i + 1) = q := by rw [dQ, if_neg hpos, hq]
      have e2 : dV w (i + 1) = vs := by rw [dV, if_neg hpos, hv]
      have e3 : dC w (i + 1) = cs := by rw [dC, if_neg hpos, hs]
      have hH1 := HfL_ints vs
      have hH2 := HfL_ints cs
      have h0 : w / 2 ^ i % 2 = 0 := by omega
      rw [h0] at han
      cases q with
      | zero =>
        refine .inl ⟨(i + 1, 0, vs, cs), [0, 1, 2, 3], [yes 12, nu 18 (i : Nat), va 19 (b8 (w / 2 ^ i)), va 20 (b8 0), nu 14 (i + 1 : Nat)], 1000, ⟨by dsimp only; omega, e1.symm, e2.symm, e3.symm⟩, by dsimp only; omega, ?_⟩
        clear hv hs hq e1 e2 e3
        refine Eq.mp (by kernel_rfl : (decide ((↑i : Int) < (5 : Int)) = true ∧ wr IntKind.u64 (↑i : Int) = (↑i : Int) ∧ binV (ctxOf Try.prog) BinOp.shr 5 (b8 w) (V.int IntKind.u64 (↑i : Int)) = some (b8 (w / 2 ^ i)) ∧ binV (ctxOf Try.prog) BinOp.and 5 (b8 (w / 2 ^ i)) (V.int IntKind.u8 (1 : Int)) = some (b8 0) ∧ wr IntKind.i64 ((↑i : Int) + (1 : Int)) = (↑(i + 1) : Int) ∧ (kd = kd ∧ 0 = 0 ∧ 0 = 0 ∧ 0 = 0 ∧ 0 = 0 ∧ (↑(i + 1) : Int) = (↑(i + 1) : Int) ∧ True) ∧ (dtL w L = dtL w L ∧ True ∧ True ∧ True) ∧ ([V.nils, V.nils, V.nils] = [V.nils, V.nils, V.nils] ∧ TT 3) ∧ (d73 = d73 ∧ TT 5) ∧ (TT 3) ∧ True) = _) ?_
        (repeat' (first | (with_reducible apply And.intro) | (refine fun (_ : True) => ?_))) <;> first | exact aq | skip
        all_goals first | exact hc | exact hsh | exact han | rfl | skip
      | succ q =>
        refine .inl ⟨(i + 1, q + 1, vs, cs), [0, 1, 2, 3, 4, 5], [yes 12, nu 18 (i : Nat), va 19 (b8 (w / 2 ^ i)), va 20 (b8 0), nu 14 (i + 1 : Nat)], 1000, ⟨by dsimp only; omega, e1.symm, e2.symm, e3.symm⟩, by dsimp only; omega, ?_⟩
        clear hv hs hq e1 e2 e3
        refine Eq.mp (by kernel_rfl : (decide ((↑i : Int) < (5 : Int)) = true ∧ wr IntKind.u64 (↑i : Int) = (↑i : Int) ∧ binV (ctxOf Try.prog) BinOp.shr 5 (b8 w) (V.int IntKind.u64 (↑i : Int)) = some (b8 (w / 2 ^ i)) ∧ binV (ctxOf Try.prog) BinOp.and 5 (b8 (w / 2 ^ i)) (V.int IntKind.u8 (1 : Int)) = some (b8 0) ∧ wr IntKind.i64 ((↑i : Int) + (1 : Int)) = (↑(i + 1) : Int) ∧ (kd = kd ∧ 0 = 0 ∧ 0 = 0 ∧ 0 = 0 ∧ 0 = 0 ∧ (↑(i + 1) : Int) = (↑(i + 1) : Int) ∧ True) ∧ (dtL w L = dtL w L ∧ True ∧ True ∧ True) ∧ ([V.nils, V.nils, V.nils] = [V.nils, V.nils, V.nils] ∧ TT 3) ∧ (d73 = d73 ∧ TT 5) ∧ ((0 = 0 ∧ q + 1 = q + 1 ∧ True) ∧ (0 = 0 ∧ q + 1 = q + 1 ∧ True) ∧ True ∧ True) ∧ (ints vs = ints vs ∧ HfL (ints vs)) ∧ (ints cs = ints cs ∧ HfL (ints cs)) ∧ True) = _) ?_
        (repeat' (first | (with_reducible apply And.intro) | (refine fun (_ : True) => ?_))) <;> first | exact aq | skip
        all_goals first | exact hc | exact hsh | exact han | rfl | skip
  · have : i = 5 := by omega
    subst this
    rw [← hq, ← hv, ← hs]
    have hH1 := HfL_ints vs
    have hH2 := HfL_ints cs
    cases q with
    | zero =>
      have z1 : vs = [] := List.eq_nil_of_length_eq_zero l1
      have z2 : cs = [] := List.eq_nil_of_length_eq_zero l2
      refine .inr ⟨.exit 0, [0, 1, 3], d1X kd w L 0 vs cs, [], 1000, .inl ⟨trivial, rfl, rfl⟩, ?_⟩
      subst z1 z2
      refine Eq.mp (by kernel_rfl : ((kd = kd ∧ 0 = 0 ∧ 0 = 0 ∧ 0 = 0 ∧ True) ∧ (dtL w L = dtL w L ∧ True ∧ True ∧ True) ∧ ([V.nils, V.nils, V.nils] = [V.nils, V.nils, V.nils] ∧ TT 3) ∧ (0 = 0 ∧ 0 = 0 ∧ True ∧ True) ∧ True) = _) ?_
      (repeat' (first | (with_reducible apply And.intro) | (refine fun (_ : True) => ?_))) <;> first | exact aq | skip
      all_goals first | rfl | skip
    | succ q =>
      refine .inr ⟨.exit 0, [0, 1, 3], d1X kd w L (q + 1) vs cs, [], 1000, .inl ⟨trivial, rfl, rfl⟩, ?_⟩
      refine Eq.mp (by kernel_rfl : ((kd = kd ∧ 0 = 0 ∧ 0 = 0 ∧ 0 = 0 ∧ True) ∧ (dtL w L = dtL w L ∧ True ∧ True ∧ True) ∧ ([V.nils, V.nils, V.nils] = [V.nils, V.nils, V.nils] ∧ TT 3) ∧ ((q + 1 = q + 1 ∧ ints vs = ints vs ∧ HfL (ints vs)) ∧ (q + 1 = q + 1 ∧ ints cs = ints cs ∧ HfL (ints cs)) ∧ True ∧ True) ∧ True) = _) ?_
      (repeat' (first | (with_reducible apply And.intro) | (refine fun (_ : True) => ?_))) <;> first | exact aq | skip
      all_goals first | rfl | skip
def dE (L : List Nat) (i : Nat) : Nat := if L.length = 0 then 1 else L.getD (i % L.length) 0
def dA (kd : Int) (L : List Nat) (i : Nat) : Int := elemA kd (dE L i)
def dB (kd : Int) (L : List Nat) (i : Nat) : Int := elemB kd (dE L i) (dE L i / 12)
def owE (A B : Nat → Int) : Nat → List O
  | 0 => []
  | n + 1 => [.row 23 (some 2) (elF A B (n + 1))]
abbrev d2S (kd : Int) (w : Nat) (L : List Nat) (q : Nat) (vs cs : List Int) (A B : Nat → Int) (i : Nat) : SL := { sl := [(1, i6 kd), (2, .ptr 0 0), (4, .ptr 1 0), (6, .ptr 2 0), (8, i6 i)], os := .row 39 none (dtL w L) :: r3 :: .row 32 none [.im q (ints vs), .im q (ints cs), owV 3 i] :: owE A B i, md := [0, 0, 1] }
abbrev d2X (q : Nat) (vs cs : List Int) (A B : Nat → Int) (n : Nat) : SL := { sl := [(4, .ptr 0 0), (6, .ptr 1 0)], os := [r3, .row 32 none [.im q (ints vs), .im q (ints cs), .im n (elF A B n)]], md := [0, 1] }
theorem dr_elems (kd : Int) (w : Nat) (L : List Nat) (hL : ∀ k, k < L.length → L.getD k 0 < 256) (hL2 : L.length ≤ 9223372036854775807) (q : Nat) (vs cs : List Int) (n : Nat) (hn : n ≤ 4096) (hsz : FnOk Pg g0 36 [.im q (ints cs)] (i6 n)) :
    Sat Pg none 0 (at' 12 [1, 1, 1, 1, 0, 1, 0]) (mkSt g0 67 (d2S kd w L q vs cs (dA kd L) (dB kd L) 0)) (outsP g0 67 [(True, .exit 2, d2X q vs cs (dA kd L) (dB kd L) n)]) := by
  refine loopC vE_ok mixed sp0_ok (b := at' 12 [1, 1, 1, 1, 0, 1, 0, 0]) (by kernel_rfl) (fun i => i ≤ n) (d2S kd w L q vs cs (dA kd L) (dB kd L)) (fun i => n - i) (fun i hi => ?_) 0 (Nat.zero_le _)
  have hB := HfL_b8 L
  have hH1 := HfL_ints vs
  have hH2 := HfL_ints cs
  have hE := HfL_elF (dA kd L) (dB kd L) i
  have hE1 := HfL_elF (dA kd L) (dB kd L) (i + 1)
  have hsu := elF_succ (dA kd L) (dB kd L) i
  have hln := elF_len (dA kd L) (dB kd L) i
  by_cases hlt : i < n
  · obtain ⟨e, he⟩ : ∃ e, e = dE L i := ⟨_, rfl⟩
    have heb : e < 256 := by
      rw [he]; unfold dE
      split
      · omega
      · exact hL _ (Nat.mod_lt _ (by omega))
    have hel := elem_fn kd e (e / 12) heb (by omega)
    have ea : dA kd L i = elemA kd e := by rw [he]; rfl
    have eb : dB kd L i = elemB kd e (e / 12) := by rw [he]; rfl
    rw [← ea, ← eb] at hel
    have hqu := @quo_u8 (ctxOf Pg) 5 e 12 (by omega) heb
    by_cases h0 : L.length = 0
    · have e1 : e = 1 := by rw [he]; unfold dE; rw [if_pos h0]
      subst e1
      clear he hL
      cases i with
      | zero =>
        refine .inl ⟨0 + 1, [0, 1, 2, 4], [fn 39 (i6 n), yes 40, no 46, fn 62 (el (dA kd L 0) (dB kd L 0)), nu 42 (0 + 1 : Nat)], 1000, by omega, by omega, ?_⟩
        generalize dA kd L = A at *
        generalize dB kd L = B at *
        refine Eq.mp (by kernel_rfl : ((True ∧ True) ∧ FnOk Try.prog g0 36 [V.im q (ints cs)] (i6 (↑n : Int)) ∧ True ∧ decide ((↑(0 : Nat) : Int) < (↑n : Int)) = true ∧ decide ((↑(List.length L) : Int) > (0 : Int)) = false ∧ (TT 3) ∧ FnOk Try.prog g0 10 [i6 kd, V.int IntKind.u8 (1 : Int), V.int IntKind.u8 (wr IntKind.u8 (Int.tdiv (1 : Int) (12 : Int)))] (el (A 0) (B 0)) ∧ True ∧ wr IntKind.i64 ((↑(0 : Nat) : Int) + (1 : Int)) = (↑(0 + 1) : Int) ∧ (kd = kd ∧ 0 = 0 ∧ 0 = 0 ∧ 0 = 0 ∧ (↑(0 + 1) : Int) = (↑(0 + 1) : Int) ∧ True) ∧ (dtL w L = dtL w L ∧ True ∧ True ∧ True) ∧ ([V.nils, V.nils, V.nils] = [V.nils, V.nils, V.nils] ∧ TT 3) ∧ ((q = q ∧ ints vs = ints vs) ∧ (q = q ∧ ints cs = ints cs) ∧ (0 = 0 ∧ 0 + 1 = 1 ∧ True) ∧ True) ∧ (elF A B (0 + 1) = [i6 (A 0), i6 (B 0)] ∧ True ∧ True ∧ True) ∧ True) = _) ?_
        (repeat' (first | (with_reducible apply And.intro) | (refine fun (_ : True) => ?_))) <;> first | exact aq | skip
        all_goals first | exact hel | exact hsu | exact hsu.symm | exact hln | rfl | skip
      | succ i =>
        refine .inl ⟨i + 1 + 1, [0, 1, 2, 5], [fn 39 (i6 n), yes 40, no 46, fn 62 (el (dA kd L (i + 1)) (dB kd L (i + 1))), ap 64, nu 42 (i + 1 + 1 : Nat)], 1000, by omega, by omega, ?_⟩
        generalize dA kd L = A at *
        generalize dB kd L = B at *
        refine Eq.mp (by kernel_rfl : ((True ∧ True) ∧ FnOk Try.prog g0 36 [V.im q (ints cs)] (i6 (↑n : Int)) ∧ True ∧ decide ((↑(i + 1) : Int) < (↑n : Int)) = true ∧ decide ((↑(List.length L) : Int) > (0 : Int)) = false ∧ (TT 3) ∧ FnOk Try.prog g0 10 [i6 kd, V.int IntKind.u8 (1 : Int), V.int IntKind.u8 (wr IntKind.u8 (Int.tdiv (1 : Int) (12 : Int)))] (el (A (i + 1)) (B (i + 1))) ∧ True ∧ List.length (elF A B (i + 1)) = (i + 1) * 2 ∧ i + 1 + 1 ≤ 9223372036854775807 ∧ (i + 1 + 1) * 16 ≤ 140737488355328 ∧ wr IntKind.i64 ((↑(i + 1) : Int) + (1 : Int)) = (↑(i + 1 + 1) : Int) ∧ (kd = kd ∧ 0 = 0 ∧ 0 = 0 ∧ 0 = 0 ∧ (↑(i + 1 + 1) : Int) = (↑(i + 1 + 1) : Int) ∧ True) ∧ (dtL w L = dtL w L ∧ True ∧ True ∧ True) ∧ ([V.nils, V.nils, V.nils] = [V.nils, V.nils, V.nils] ∧ TT 3) ∧ ((q = q ∧ ints vs = ints vs) ∧ (q = q ∧ ints cs = ints cs) ∧ (0 = 0 ∧ Nat.succ i + 1 = i + 1 + 1 ∧ True) ∧ True) ∧ (elF A B (Nat.succ i + 1) = elF A B (i + 1) ++ [i6 (A (i + 1)), i6 (B (i + 1))] ∧ HfL (elF A B (Nat.succ i + 1))) ∧ True) = _) ?_
        (repeat' (first | (with_reducible apply And.intro) | (refine fun (_ : True) => ?_))) <;> first | exact aq | skip
        all_goals first | exact hel | exact hsu | exact hsu.symm | exact hln | rfl | skip
    · have e1 : e = L.getD (i % L.length) 0 := by rw [he]; unfold dE; rw [if_neg h0]
      have hld := @head_b8 L (i % L.length) (Nat.mod_lt _ (by omega))
      rw [← e1] at hld
      have hrm : ∀ G t, binV G .rem t (i6 i) (i6 L.length) = some (i6 ((i % L.length : Nat) : Int)) := fun G t => by
        have e : (i : Int).tmod (L.length : Int) = ((i % L.length : Nat) : Int) := by rw [Int.tmod_eq_emod_of_nonneg (by omega)]; omega
        rw [rem6 (by omega), e]
      have hml := Nat.mod_lt i (show 0 < L.length by omega)
      clear he hL e1
      generalize i % L.length = r at *
      cases i with
      | zero =>
        refine .inl ⟨0 + 1, [0, 1, 2, 4], [fn 39 (i6 n), yes 40, yes 46, va 53 (i6 (r : Int)), pl 54, ld 55 (b8 e), va 61 (b8 (e / 12)), fn 62 (el (dA kd L 0) (dB kd L 0)), nu 42 (0 + 1 : Nat)], 1000, by omega, by omega, ?_⟩
        generalize dA kd L = A at *
        generalize dB kd L = B at *
        refine Eq.mp (by kernel_rfl : ((True ∧ True) ∧ FnOk Try.prog g0 36 [V.im q (ints cs)] (i6 (↑n : Int)) ∧ True ∧ decide ((↑(0 : Nat) : Int) < (↑n : Int)) = true ∧ decide ((↑(List.length L) : Int) > (0 : Int)) = true ∧ binV (ctxOf Try.prog) BinOp.rem 3 (i6 (↑(0 : Nat) : Int)) (i6 (↑(List.length L) : Int)) = some (i6 (↑r : Int)) ∧ ((0 : Int) ≤ (↑r : Int) ∧ (↑r : Int) < (↑(List.length L) : Int)) ∧ headF (List.drop (r * 1) (List.map b8 L)) = some (b8 e) ∧ binV (ctxOf Try.prog) BinOp.quo 5 (b8 e) (V.int IntKind.u8 (12 : Int)) = some (b8 (e / 12)) ∧ (TT 3) ∧ FnOk Try.prog g0 10 [i6 kd, V.int IntKind.u8 (↑e : Int), V.int IntKind.u8 (↑(e / 12) : Int)] (el (A 0) (B 0)) ∧ True ∧ wr IntKind.i64 ((↑(0 : Nat) : Int) + (1 : Int)) = (↑(0 + 1) : Int) ∧ (kd = kd ∧ 0 = 0 ∧ 0 = 0 ∧ 0 = 0 ∧ (↑(0 + 1) : Int) = (↑(0 + 1) : Int) ∧ True) ∧ (dtL w L = dtL w L ∧ True ∧ True ∧ True) ∧ ([V.nils, V.nils, V.nils] = [V.nils, V.nils, V.nils] ∧ TT 3) ∧ ((q = q ∧ ints vs = ints vs) ∧ (q = q ∧ ints cs = ints cs) ∧ (0 = 0 ∧ 0 + 1 = 1 ∧ True) ∧ True) ∧ (elF A B (0 + 1) = [i6 (A 0), i6 (B 0)] ∧ True ∧ True ∧ True) ∧ True) = _) ?_
        (repeat' (first | (with_reducible apply And.intro) | (refine fun (_ : True) => ?_))) <;> first | exact aq | skip
        all_goals first | exact hrm _ _ | exact hld | exact hqu | exact hsu | exact hsu.symm | exact hln | rfl | skip
      | succ i =>
        refine .inl ⟨i + 1 + 1, [0, 1, 2, 5], [fn 39 (i6 n), yes 40, yes 46, va 53 (i6 (r : Int)), pl 54, ld 55 (b8 e), va 61 (b8 (e / 12)), fn 62 (el (dA kd L (i + 1)) (dB kd L (i + 1))), ap 64, nu 42 (i + 1 + 1 : Nat)], 1000, by omega, by omega, ?_⟩
        generalize dA kd L = A at *
        generalize dB kd L = B at *
        refine Eq.mp (by kernel_rfl : ((True ∧ True) ∧ FnOk Try.prog g0 36 [V.im q (ints cs)] (i6 (↑n : Int)) ∧ True ∧ decide ((↑(i + 1) : Int) < (↑n : Int)) = true ∧ decide ((↑(List.length L) : Int) > (0 : Int)) = true ∧ binV (ctxOf Try.prog) BinOp.rem 3 (i6 (↑(i + 1) : Int)) (i6 (↑(List.length L) : Int)) = some (i6 (↑r : Int)) ∧ ((0 : Int) ≤ (↑r : Int) ∧ (↑r : Int) < (↑(List.length L) : Int)) ∧ headF (List.drop (r * 1) (List.map b8 L)) = some (b8 e) ∧ binV (ctxOf Try.prog) BinOp.quo 5 (b8 e) (V.int IntKind.u8 (12 : Int)) = some (b8 (e / 12)) ∧ (TT 3) ∧ FnOk Try.prog g0 10 [i6 kd, V.int IntKind.u8 (↑e : Int), V.int IntKind.u8 (↑(e / 12) : Int)] (el (A (i + 1)) (B (i + 1))) ∧ True ∧ List.length (elF A B (i + 1)) = (i + 1) * 2 ∧ i + 1 + 1 ≤ 9223372036854775807 ∧ (i + 1 + 1) * 16 ≤ 140737488355328 ∧ wr IntKind.i64 ((↑(i + 1) : Int) + (1 : Int)) = (↑(i + 1 + 1) : Int) ∧ (kd = kd ∧ 0 = 0 ∧ 0 = 0 ∧ 0 = 0 ∧ (↑(i + 1 + 1) : Int) = (↑(i + 1 + 1) : Int) ∧ True) ∧ (dtL w L = dtL w L ∧ True ∧ True ∧ True) ∧ ([V.nils, V.nils, V.nils] = [V.nils, V.nils, V.nils] ∧ TT 3) ∧ ((q = q ∧ ints vs = ints vs) ∧ (q = q ∧ ints cs = ints cs) ∧ (0 = 0 ∧ Nat.succ i + 1 = i + 1 + 1 ∧ True) ∧ True) ∧ (elF A B (Nat.succ i + 1) = elF A B (i + 1) ++ [i6 (A (i + 1)), i6 (B (i + 1))] ∧ HfL (elF A B (Nat.succ i + 1))) ∧ True) = _) ?_
        (repeat' (first | (with_reducible apply And.intro) | (refine fun (_ : True) => ?_))) <;> first | exact aq | skip
        all_goals first | exact hrm _ _ | exact hld | exact hqu | exact hsu | exact hsu.symm | exact hln | rfl | skip
  · have : i = n := by omega
    subst this
    clear hL
    generalize dA kd L = A at *
    generalize dB kd L = B at *
    cases i with
    | zero =>
      refine .inr ⟨.exit 2, [1, 2], d2X q vs cs A B 0, [fn 39 (i6 0), no 40], 1000, .inl ⟨trivial, rfl, rfl⟩, ?_⟩
      refine Eq.mp (by kernel_rfl : ((True ∧ True) ∧ FnOk Try.prog g0 36 [V.im q (ints cs)] (i6 0) ∧ True ∧ decide ((↑(0 : Nat) : Int) < (0 : Int)) = false ∧ (0 = 0 ∧ 0 = 0 ∧ True) ∧ ([V.nils, V.nils, V.nils] = [V.nils, V.nils, V.nils] ∧ TT 3) ∧ ((q = q ∧ ints vs = ints vs) ∧ (q = q ∧ ints cs = ints cs) ∧ 0 = 0 ∧ True) ∧ True) = _) ?_
      (repeat' (first | (with_reducible apply And.intro) | (refine fun (_ : True) => ?_))) <;> first | exact aq | skip
      all_goals first | rfl | exact hsz | skip
    | succ i =>
      refine .inr ⟨.exit 2, [1, 2], d2X q vs cs A B (i + 1), [fn 39 (i6 ((i + 1 : Nat) : Int)), no 40], 1000, .inl ⟨trivial, rfl, rfl⟩, ?_⟩
      refine Eq.mp (by kernel_rfl : ((True ∧ True) ∧ FnOk Try.prog g0 36 [V.im q (ints cs)] (i6 (↑(i + 1) : Int)) ∧ True ∧ decide ((↑(i + 1) : Int) < (↑(i + 1) : Int)) = false ∧ (0 = 0 ∧ 0 = 0 ∧ True) ∧ ([V.nils, V.nils, V.nils] = [V.nils, V.nils, V.nils] ∧ TT 3) ∧ ((q = q ∧ ints vs = ints vs) ∧ (q = q ∧ ints cs = ints cs) ∧ (i + 1 = i + 1 ∧ elF A B (i + 1) = elF A B (i + 1) ∧ HfL (elF A B (i + 1))) ∧ True) ∧ True) = _) ?_
      (repeat' (first | (with_reducible apply And.intro) | (refine fun (_ : True) => ?_))) <;> first | exact aq | skip
      all_goals first | rfl | exact hsz | skip
def dN (w : Nat) : Nat := (prodT (dC w 5) (dQ w 5)).toNat
theorem dC_card (w : Nat) : ∀ v, v ≤ 5 → ∀ i, i < dQ w v → 1 ≤ (dC w v).getD i 0 ∧ (dC w v).getD i 0 ≤ 3
  | 0, _, i, h => absurd h (Nat.not_lt_zero _)
  | v + 1, hv, i, h => by
    have l := dC_len w v
    have ih := dC_card w v (by omega) i
    have hc : 1 ≤ cdN v ∧ cdN v ≤ 3 := by
      rcases (show v = 0 ∨ v = 1 ∨ v = 2 ∨ v = 3 ∨ v = 4 by omega) with rfl | rfl | rfl | rfl | rfl <;> decide
    rw [dQ] at h
    rw [dC]
    split
    · rename_i hb
      rw [if_pos hb] at h
      by_cases e : i = dQ w v
      · rw [e, ← l, getD_last]; exact hc
      · rw [getD_app (by omega)]; exact ih (by omega)
    · rename_i hb
      rw [if_neg hb] at h
      exact ih h
theorem d_good (w : Nat) : goodT (dC w 5) (dQ w 5) = true := by
  have key : ∀ k, k ≤ dQ w 5 → goodT (dC w 5) k = true ∧ prodT (dC w 5) k ≤ 3 ^ k := by
    intro k
    induction k with
    | zero => intro _; exact ⟨rfl, Int.le_refl _⟩
    | succ k ih =>
      intro hk
      obtain ⟨i1, i2⟩ := ih (by omega)
      have hc := dC_card w 5 (Nat.le_refl _) k (by omega)
      have hb := goodT_bd i1
      have hm := Int.mul_le_mul i2 hc.2 (by omega) (by have : (1 : Int) ≤ 3 ^ k := Int.le_trans hb.1 i2; omega)
      have hp : prodT (dC w 5) (k + 1) ≤ 3 ^ (k + 1) := by rw [prodT, Int.pow_succ]; exact hm
      have h5 : (3 : Int) ^ (k + 1) ≤ 243 := by
        have := dQ_le w 5
        rcases (show k = 0 ∨ k = 1 ∨ k = 2 ∨ k = 3 ∨ k = 4 by omega) with rfl | rfl | rfl | rfl | rfl <;> decide
      refine ⟨?_, hp⟩
      rw [goodT, i1, Bool.true_and, decide_eq_true_eq]
      omega
  exact (key _ (Nat.le_refl _)).1
theorem table_fn (kd : Int) (w : Nat) (hw : w < 256) (L : List Nat) (hL : ∀ k, k < L.length → L.getD k 0 < 256) (hL2 : L.length ≤ 9223372036854775807) : FnOk Pg g0 12 [.agg (dtL w L), i6 kd] (.agg (tbL (dV w 5) (dC w 5) (dA kd L) (dB kd L) (dN w))) := by
  have hg := d_good w
  have hgb := goodT_bd hg
  have hln := dC_len w 5
  have hlv := dV_len w 5
  have h5 := dQ_le w 5
  have hN : ((dN w : Nat) : Int) = prodT (dC w 5) (dQ w 5) := by unfold dN; omega
  have hsz := rsize_fn (dC w 5) (dQ w 5) hln.symm (by omega) (fun k hk => by have := goodT_bd (goodT_pre hg hk); omega)
  rw [← hN] at hsz
  have l1 := dr_vars kd w hw L
  have l2 := dr_elems kd w L hL hL2 (dQ w 5) (dV w 5) (dC w 5) (dN w) (by omega) hsz
  have hB := HfL_b8 L
  have hH1 := HfL_ints (dV w 5)
  have hH2 := HfL_ints (dC w 5)
  have hE := HfL_elF (dA kd L) (dB kd L) (dN w)
  rw [show tbL (dV w 5) (dC w 5) (dA kd L) (dB kd L) (dN w) = [.im (dQ w 5) (ints (dV w 5)), .im (dQ w 5) (ints (dC w 5)), .im (dN w) (elF (dA kd L) (dB kd L) (dN w))] from by
    show [V.im (dV w 5).length _, V.im (dC w 5).length _, _] = _
    rw [hlv, hln]]
  clear hg hgb hL hN hsz
  generalize dQ w 5 = q at *
  generalize dV w 5 = vs at *
  generalize dC w 5 = cs at *
  generalize dA kd L = A at *
  generalize dB kd L = B at *
  generalize dN w = n at *
  refine FnOk.of_vc vE_ok mixed sp0_ok (n := 1000) (r := [0]) (S := { sl := [(4, .ptr 0 0)], os := [.row 32 none [.im q (ints vs), .im q (ints cs), .im n (elF A B n)]] }) (hs := [(0, .loop [0, 1, 2, 3] (d1S kd w L (0, 0, [], [])) [(True, .exit 0, d1X kd w L q vs cs)]), (0, .loop [0, 1, 2] (d2S kd w L q vs cs A B 0) [(True, .exit 2, d2X q vs cs A B n)])]) ?_
  refine Eq.mp (by kernel_rfl : (V.agg [V.im q (ints vs), V.im q (ints cs), V.im n (elF A B n)] = V.agg [V.im q (ints vs), V.im q (ints cs), V.im n (elF A B n)] ∧ ((kd = kd ∧ 0 = 0 ∧ 0 = 0 ∧ 0 = 0 ∧ 0 = 0 ∧ (↑(0 : Nat) : Int) = (0 : Int) ∧ True) ∧ (dtL w L = [b8 w, bL L] ∧ True ∧ True ∧ True) ∧ ([V.nils, V.nils, V.nils] = [V.nils, V.nils, V.nils] ∧ TT 3) ∧ (d73 = [i6 2, i6 3, i6 1, i6 2, i6 2] ∧ TT 5) ∧ (TT 3) ∧ True) ∧ Sat Try.prog none 0 (at' 12 [1, 1, 1, 0, 1, 0]) (mkSt g0 67 (d1S kd w L (0, 0, [], []))) (outsP g0 67 [(True, Ex.exit 0, d1X kd w L q vs cs)]) ∧ (True → ((kd = kd ∧ 0 = 0 ∧ 0 = 0 ∧ 0 = 0 ∧ (↑(0 : Nat) : Int) = (0 : Int) ∧ True) ∧ (dtL w L = dtL w L ∧ True ∧ True ∧ True) ∧ ([V.nils, V.nils, V.nils] = [V.nils, V.nils, V.nils] ∧ TT 3) ∧ ((q = q ∧ ints vs = ints vs) ∧ (q = q ∧ ints cs = ints cs) ∧ True ∧ True) ∧ True) ∧ Sat Try.prog none 0 (at' 12 [1, 1, 1, 1, 0, 1, 0]) (mkSt g0 67 (d2S kd w L q vs cs A B 0)) (outsP g0 67 [(True, Ex.exit 2, d2X q vs cs A B n)]) ∧ (True → (0 = 0 ∧ True) ∧ ([V.im q (ints vs), V.im q (ints cs), V.im n (elF A B n)] = [V.im q (ints vs), V.im q (ints cs), V.im n (elF A B n)] ∧ TT 3) ∧ True) ∧ True) ∧ True) = _) ?_
  (repeat' (first | (with_reducible apply And.intro) | (refine fun (_ : True) => ?_))) <;> first | exact aq | skip
  all_goals first | rfl | skip
end Go.Proofs.Ytgdnmgcigkhojaa.Am

namespace Go.Proofs.Ytgdnmgcigkhojaa.Am
open Go.RowKit
set_option linter.unusedVariables false
set_option maxHeartbeats 1000000
set_option maxRecDepth 100000
def noF (kd : Int) (VS CS : Nat → List Int) (A B : Nat → Nat → Int) (N : Nat → Nat) (i : Nat) : Int := if 1 ≤ kd ∧ kd ≤ 5 then (if goodA kd VS CS A B N i = true then 0 else 41) else 40
section
variable (kn : Nat) (kc : List V) (dn : Nat) (dc : List V) (w : Nat) (kk : Int) (sn : Nat) (sc : List V) (k0 k1 ia : Int) (p1 : Nat) (c1 : List V) (p2 : Nat) (c2 c3 : List V) (ib : Int) (m : Nat) (c : List V) (rw : List V) (tn : Nat) (tc : List V)
abbrev bS : List (Nat × V) := [(2, .im kn kc), (3, .im dn dc), (4, b8 w), (6, .ptr 0 0), (12, i6 kk), (18, .im sn sc), (42, .agg [i6 k0, i6 k1]), (43, i6 ia), (105, .agg [.im p1 c1, .im p2 c2, .im 2 c3]), (106, i6 ib), (21, .im m c), (111, .agg [.im kn kc, .im sn sc])]
abbrev btS (ic : Int) (e : Int) (T : List V) (nn i : Int) : SL := { sl := bS kn kc dn dc w kk sn sc k0 k1 ia p1 c1 p2 c2 c3 ib m c ++ [(112, i6 ic), (23, .im tn tc), (24, .ptr 1 0), (25, i6 e), (26, .ptr 2 0), (27, i6 nn), (125, .im m c), (126, i6 m), (127, i6 i)], os := [.row 33 none rw, .row 32 none T, r3] }
abbrev btX (ic : Int) (e : Int) (T : List V) (nn : Int) : SL := { sl := bS kn kc dn dc w kk sn sc k0 k1 ia p1 c1 p2 c2 c3 ib m c ++ [(112, i6 ic), (23, .im tn tc), (24, .ptr 1 0), (25, i6 e), (26, .ptr 2 0), (27, i6 nn)], os := [.row 33 none rw, .row 32 none T, r3] }
end
theorem sc_good (kn : Nat) (kc : List V) (dn : Nat) (dc : List V) (w : Nat) (kk : Int) (sn : Nat) (sc : List V) (k0 k1 ia : Int) (p1 : Nat) (c1 : List V) (p2 : Nat) (c2 c3 : List V) (ib : Int) (m : Nat) (hm : m ≤ 12) (rw : List V) (hrw : HfL rw) (tn : Nat) (tc : List V) (ic e : Int) (T : List V) (hT : HfL T)
    (VS CS : Nat → List Int) (A B : Nat → Nat → Int) (N : Nat → Nat) (hV : ∀ i, i < m → (VS i).length ≤ 1000000 ∧ N i ≤ 1000000) :
    Sat Pg none 0 (at' 4 [1, 1, 1, 0, 1, 0, 0, 1, 1, 0, 0, 1, 1, 1, 1, 1, 1, 1, 0, 0, 1, 1, 0, 0, 1, 1, 0, 0, 1, 1, 0, 0, 1, 1, 1, 1, 1, 0, 1, 0]) (mkSt g0 161 (btS kn kc dn dc w kk sn sc k0 k1 ia p1 c1 p2 c2 c3 ib m (blF (tbF VS CS A B N) m) rw tn tc ic e T (noF kk VS CS A B N 0) 0)) (outsP g0 161 [(True, .exit 10, btX kn kc dn dc w kk sn sc k0 k1 ia p1 c1 p2 c2 c3 ib m (blF (tbF VS CS A B N) m) rw tn tc ic e T (noF kk VS CS A B N m))]) := by
  refine loopC vE_ok mixed sp0_ok (b := at' 4 [1, 1, 1, 0, 1, 0, 0, 1, 1, 0, 0, 1, 1, 1, 1, 1, 1, 1, 0, 0, 1, 1, 0, 0, 1, 1, 0, 0, 1, 1, 0, 0, 1, 1, 1, 1, 1, 0, 1, 0, 0]) (by kernel_rfl) (fun p => p.1 ≤ m ∧ p.2 = noF kk VS CS A B N p.1) (fun (p : Nat × Int) => btS kn kc dn dc w kk sn sc k0 k1 ia p1 c1 p2 c2 c3 ib m (blF (tbF VS CS A B N) m) rw tn tc ic e T p.2 p.1) (fun p => m - p.1) (fun p hp => ?_) (0, _) ⟨Nat.zero_le _, rfl⟩
  obtain ⟨i, nn⟩ := p
  obtain ⟨hi, hno⟩ := hp
  dsimp only at hi hno
  have hL := HfL_blF (HfL_tbF VS CS A B N) m
  by_cases hlt : i < m
  · have ht := take_blF (tbF_len VS CS A B N) hlt
    rw [show tbF VS CS A B N i = [.im (VS i).length (ints (VS i)), .im (CS i).length (ints (CS i)), .im (N i) (elF (A i) (B i) (N i))] from rfl] at ht
    have hgd := good_fn kk (VS i) (CS i) (A i) (B i) (N i) (hV i hlt).1 (hV i hlt).2
    have hg1 : goodA kk VS CS A B N (i + 1) = (goodA kk VS CS A B N i && goodB kk (VS i) (CS i) (A i) (B i) (N i)) := rfl
    have hE := HfL_elF (A i) (B i) (N i)
    clear hV
    generalize blF (tbF VS CS A B N) m = c at *
    by_cases hk : 1 ≤ kk ∧ kk ≤ 5
    · cases hga : goodA kk VS CS A B N i with
      | true =>
        rw [hga, Bool.true_and] at hg1
        have n0 : nn = 0 := by rw [hno]; unfold noF; rw [if_pos hk, hga, if_pos rfl]
        cases hgb : goodB kk (VS i) (CS i) (A i) (B i) (N i) with
        | true =>
          rw [hgb] at hgd hg1
          have n1 : noF kk VS CS A B N (i + 1) = 0 := by unfold noF; rw [if_pos hk, hg1, if_pos rfl]
          subst n0
          refine .inl ⟨(i + 1, 0), [0, 1, 2], [yes 128, pl 129, ld 130 (.agg [.im (VS i).length (ints (VS i)), .im (CS i).length (ints (CS i)), .im (N i) (elF (A i) (B i) (N i))]), fn 136 (.bool true), nu 139 (i + 1 : Nat)], 1000, ⟨by dsimp only; omega, n1.symm⟩, by dsimp only; omega, ?_⟩
          clear hno hga hgb hg1 n1
          refine Eq.mp (by kernel_rfl : (decide ((↑i : Int) < (↑m : Int)) = true ∧ ((0 : Int) ≤ (↑i : Int) ∧ (↑i : Int) < (↑m : Int)) ∧ takeE 3 (List.drop (i * 3) c) = some [V.im (List.length (VS i)) (ints (VS i)), V.im (List.length (CS i)) (ints (CS i)), V.im (N i) (elF (A i) (B i) (N i))] ∧ (True ∧ (TT 3) ∧ True) ∧ FnOk Try.prog g0 16 [i6 kk, V.agg [V.im (List.length (VS i)) (ints (VS i)), V.im (List.length (CS i)) (ints (CS i)), V.im (N i) (elF (A i) (B i) (N i))]] (V.bool true) ∧ True ∧ wr IntKind.i64 ((↑i : Int) + (1 : Int)) = (↑(i + 1) : Int) ∧ ((kn = kn ∧ kc = kc) ∧ (dn = dn ∧ dc = dc) ∧ (↑w : Int) = (↑w : Int) ∧ 0 = 0 ∧ kk = kk ∧ (sn = sn ∧ sc = sc) ∧ (k0 = k0 ∧ k1 = k1 ∧ True) ∧ ia = ia ∧ ((p1 = p1 ∧ c1 = c1) ∧ (p2 = p2 ∧ c2 = c2) ∧ (2 = 2 ∧ c3 = c3) ∧ True) ∧ ib = ib ∧ (m = m ∧ c = c) ∧ ((kn = kn ∧ kc = kc) ∧ (sn = sn ∧ sc = sc) ∧ True) ∧ ic = ic ∧ (tn = tn ∧ tc = tc) ∧ 0 = 0 ∧ e = e ∧ 0 = 0 ∧ (0 : Int) = (0 : Int) ∧ (m = m ∧ c = c) ∧ (↑m : Int) = (↑m : Int) ∧ (↑(i + 1) : Int) = (↑(i + 1) : Int) ∧ True) ∧ (rw = rw ∧ HfL rw) ∧ (T = T ∧ HfL T) ∧ ([V.nils, V.nils, V.nils] = [V.nils, V.nils, V.nils] ∧ TT 3) ∧ True) = _) ?_
          (repeat' (first | (with_reducible apply And.intro) | (refine fun (_ : True) => ?_))) <;> first | exact aq | skip
          all_goals first | exact ht | exact hgd | rfl | skip
        | false =>
          rw [hgb] at hgd hg1
          have n1 : noF kk VS CS A B N (i + 1) = 41 := by unfold noF; rw [if_pos hk, hg1, if_neg (by decide)]
          subst n0
          refine .inl ⟨(i + 1, 41), [0, 1, 2], [yes 128, pl 129, ld 130 (.agg [.im (VS i).length (ints (VS i)), .im (CS i).length (ints (CS i)), .im (N i) (elF (A i) (B i) (N i))]), fn 136 (.bool false), nu 139 (i + 1 : Nat)], 1000, ⟨by dsimp only; omega, n1.symm⟩, by dsimp only; omega, ?_⟩
          clear hno hga hgb hg1 n1
          refine Eq.mp (by kernel_rfl : (decide ((↑i : Int) < (↑m : Int)) = true ∧ ((0 : Int) ≤ (↑i : Int) ∧ (↑i : Int) < (↑m : Int)) ∧ takeE 3 (List.drop (i * 3) c) = some [V.im (List.length (VS i)) (ints (VS i)), V.im (List.length (CS i)) (ints (CS i)), V.im (N i) (elF (A i) (B i) (N i))] ∧ (True ∧ (TT 3) ∧ True) ∧ FnOk Try.prog g0 16 [i6 kk, V.agg [V.im (List.length (VS i)) (ints (VS i)), V.im (List.length (CS i)) (ints (CS i)), V.im (N i) (elF (A i) (B i) (N i))]] (V.bool false) ∧ True ∧ wr IntKind.i64 ((↑i : Int) + (1 : Int)) = (↑(i + 1) : Int) ∧ ((kn = kn ∧ kc = kc) ∧ (dn = dn ∧ dc = dc) ∧ (↑w : Int) = (↑w : Int) ∧ 0 = 0 ∧ kk = kk ∧ (sn = sn ∧ sc = sc) ∧ (k0 = k0 ∧ k1 = k1 ∧ True) ∧ ia = ia ∧ ((p1 = p1 ∧ c1 = c1) ∧ (p2 = p2 ∧ c2 = c2) ∧ (2 = 2 ∧ c3 = c3) ∧ True) ∧ ib = ib ∧ (m = m ∧ c = c) ∧ ((kn = kn ∧ kc = kc) ∧ (sn = sn ∧ sc = sc) ∧ True) ∧ ic = ic ∧ (tn = tn ∧ tc = tc) ∧ 0 = 0 ∧ e = e ∧ 0 = 0 ∧ (41 : Int) = (41 : Int) ∧ (m = m ∧ c = c) ∧ (↑m : Int) = (↑m : Int) ∧ (↑(i + 1) : Int) = (↑(i + 1) : Int) ∧ True) ∧ (rw = rw ∧ HfL rw) ∧ (T = T ∧ HfL T) ∧ ([V.nils, V.nils, V.nils] = [V.nils, V.nils, V.nils] ∧ TT 3) ∧ True) = _) ?_
          (repeat' (first | (with_reducible apply And.intro) | (refine fun (_ : True) => ?_))) <;> first | exact aq | skip
          all_goals first | exact ht | exact hgd | rfl | skip
      | false =>
        rw [hga, Bool.false_and] at hg1
        have n0 : nn = 41 := by rw [hno]; unfold noF; rw [if_pos hk, hga, if_neg (by decide)]
        have n1 : noF kk VS CS A B N (i + 1) = 41 := by unfold noF; rw [if_pos hk, hg1, if_neg (by decide)]
        subst n0
        refine .inl ⟨(i + 1, 41), [0, 1, 2], [yes 128, pl 129, ld 130 (.agg [.im (VS i).length (ints (VS i)), .im (CS i).length (ints (CS i)), .im (N i) (elF (A i) (B i) (N i))]), nu 139 (i + 1 : Nat)], 1000, ⟨by dsimp only; omega, n1.symm⟩, by dsimp only; omega, ?_⟩
        clear hno hga hg1 n1 hgd
        refine Eq.mp (by kernel_rfl : (decide ((↑i : Int) < (↑m : Int)) = true ∧ ((0 : Int) ≤ (↑i : Int) ∧ (↑i : Int) < (↑m : Int)) ∧ takeE 3 (List.drop (i * 3) c) = some [V.im (List.length (VS i)) (ints (VS i)), V.im (List.length (CS i)) (ints (CS i)), V.im (N i) (elF (A i) (B i) (N i))] ∧ wr IntKind.i64 ((↑i : Int) + (1 : Int)) = (↑(i + 1) : Int) ∧ ((kn = kn ∧ kc = kc) ∧ (dn = dn ∧ dc = dc) ∧ (↑w : Int) = (↑w : Int) ∧ 0 = 0 ∧ kk = kk ∧ (sn = sn ∧ sc = sc) ∧ (k0 = k0 ∧ k1 = k1 ∧ True) ∧ ia = ia ∧ ((p1 = p1 ∧ c1 = c1) ∧ (p2 = p2 ∧ c2 = c2) ∧ (2 = 2 ∧ c3 = c3) ∧ True) ∧ ib = ib ∧ (m = m ∧ c = c) ∧ ((kn = kn ∧ kc = kc) ∧ (sn = sn ∧ sc = sc) ∧ True) ∧ ic = ic ∧ (tn = tn ∧ tc = tc) ∧ 0 = 0 ∧ e = e ∧ 0 = 0 ∧ (41 : Int) = (41 : Int) ∧ (m = m ∧ c = c) ∧ (↑m : Int) = (↑m : Int) ∧ (↑(i + 1) : Int) = (↑(i + 1) : Int) ∧ True) ∧ (rw = rw ∧ HfL rw) ∧ (T = T ∧ HfL T) ∧ ([V.nils, V.nils, V.nils] = [V.nils, V.nils, V.nils] ∧ TT 3) ∧ True) = _) ?_
        (repeat' (first | (with_reducible apply And.intro) | (refine fun (_ : True) => ?_))) <;> first | exact aq | skip
        all_goals first | exact ht | rfl | skip
    · have n0 : nn = 40 := by rw [hno]; unfold noF; rw [if_neg hk]
      have n1 : noF kk VS CS A B N (i + 1) = 40 := by unfold noF; rw [if_neg hk]
      subst n0
      refine .inl ⟨(i + 1, 40), [0, 1, 2], [yes 128, pl 129, ld 130 (.agg [.im (VS i).length (ints (VS i)), .im (CS i).length (ints (CS i)), .im (N i) (elF (A i) (B i) (N i))]), nu 139 (i + 1 : Nat)], 1000, ⟨by dsimp only; omega, n1.symm⟩, by dsimp only; omega, ?_⟩
      clear hno hg1 n1 hgd
      refine Eq.mp (by kernel_rfl : (decide ((↑i : Int) < (↑m : Int)) = true ∧ ((0 : Int) ≤ (↑i : Int) ∧ (↑i : Int) < (↑m : Int)) ∧ takeE 3 (List.drop (i * 3) c) = some [V.im (List.length (VS i)) (ints (VS i)), V.im (List.length (CS i)) (ints (CS i)), V.im (N i) (elF (A i) (B i) (N i))] ∧ wr IntKind.i64 ((↑i : Int) + (1 : Int)) = (↑(i + 1) : Int) ∧ ((kn = kn ∧ kc = kc) ∧ (dn = dn ∧ dc = dc) ∧ (↑w : Int) = (↑w : Int) ∧ 0 = 0 ∧ kk = kk ∧ (sn = sn ∧ sc = sc) ∧ (k0 = k0 ∧ k1 = k1 ∧ True) ∧ ia = ia ∧ ((p1 = p1 ∧ c1 = c1) ∧ (p2 = p2 ∧ c2 = c2) ∧ (2 = 2 ∧ c3 = c3) ∧ True) ∧ ib = ib ∧ (m = m ∧ c = c) ∧ ((kn = kn ∧ kc = kc) ∧ (sn = sn ∧ sc = sc) ∧ True) ∧ ic = ic ∧ (tn = tn ∧ tc = tc) ∧ 0 = 0 ∧ e = e ∧ 0 = 0 ∧ (40 : Int) = (40 : Int) ∧ (m = m ∧ c = c) ∧ (↑m : Int) = (↑m : Int) ∧ (↑(i + 1) : Int) = (↑(i + 1) : Int) ∧ True) ∧ (rw = rw ∧ HfL rw) ∧ (T = T ∧ HfL T) ∧ ([V.nils, V.nils, V.nils] = [V.nils, V.nils, V.nils] ∧ TT 3) ∧ True) = _) ?_
      (repeat' (first | (with_reducible apply And.intro) | (refine fun (_ : True) => ?_))) <;> first | exact aq | skip
      all_goals first | exact ht | rfl | skip
  · have e : i = m := by omega
    subst e
    rw [← hno]
    clear hV hno
    refine .inr ⟨.exit 10, [0, 1, 2], btX kn kc dn dc w kk sn sc k0 k1 ia p1 c1 p2 c2 c3 ib i (blF (tbF VS CS A B N) i) rw tn tc ic e T nn, [no 128], 1000, .inl ⟨trivial, rfl, rfl⟩, ?_⟩
    generalize blF (tbF VS CS A B N) i = c at *
    refine Eq.mp (by kernel_rfl : (decide ((↑i : Int) < (↑i : Int)) = false ∧ ((kn = kn ∧ kc = kc) ∧ (dn = dn ∧ dc = dc) ∧ (↑w : Int) = (↑w : Int) ∧ 0 = 0 ∧ kk = kk ∧ (sn = sn ∧ sc = sc) ∧ (k0 = k0 ∧ k1 = k1 ∧ True) ∧ ia = ia ∧ ((p1 = p1 ∧ c1 = c1) ∧ (p2 = p2 ∧ c2 = c2) ∧ (2 = 2 ∧ c3 = c3) ∧ True) ∧ ib = ib ∧ (i = i ∧ c = c) ∧ ((kn = kn ∧ kc = kc) ∧ (sn = sn ∧ sc = sc) ∧ True) ∧ ic = ic ∧ (tn = tn ∧ tc = tc) ∧ 0 = 0 ∧ e = e ∧ 0 = 0 ∧ nn = nn ∧ True) ∧ (rw = rw ∧ HfL rw) ∧ (T = T ∧ HfL T) ∧ ([V.nils, V.nils, V.nils] = [V.nils, V.nils, V.nils] ∧ TT 3) ∧ True) = _) ?_
    (repeat' (first | (with_reducible apply And.intro) | (refine fun (_ : True) => ?_))) <;> first | exact aq | skip
    all_goals first | rfl | skip
end Go.Proofs.Ytgdnmgcigkhojaa.Am

namespace Go.Proofs.Ytgdnmgcigkhojaa.Am
open Go.RowKit
set_option linter.unusedVariables false
set_option maxHeartbeats 1000000
set_option maxRecDepth 100000
theorem comV_form (kd : Int) (VS CS : Nat → List Int) (A B : Nat → Nat → Int) (N : Nat → Nat) (m : Nat) (keep : List Int) (hk : keep.length ≤ 1000) (hm : m ≤ 12) :
    (noF kd VS CS A B N m ≠ 0 ∧ comV kd VS CS A B N m keep = .tup [t0V, i6 (noF kd VS CS A B N m)]) ∨
    (noF kd VS CS A B N m = 0 ∧ (1 ≤ kd ∧ kd ≤ 5) ∧ goodA kd VS CS A B N m = true ∧ ∃ (l1 l2 : List Int) (A' B' : Nat → Int) (n : Nat) (e : Int), l1.length ≤ 1000 ∧ l2.length ≤ 1000 ∧ n ≤ 1000000 ∧ comV kd VS CS A B N m keep = .tup [.agg [sl l1, sl l2, .im n (elF A' B' n)], i6 e]) := by
  unfold noF
  by_cases hkd : 1 ≤ kd ∧ kd ≤ 5
  · rw [if_pos hkd]
    cases hg : goodA kd VS CS A B N m with
    | false =>
      left
      refine ⟨by simp, ?_⟩
      unfold comV
      rw [if_neg (fun h => h hkd), if_pos hg]
      rfl
    | true =>
      right
      refine ⟨by simp, hkd, rfl, ?_⟩
      have key : ∀ e : Int, V.tup [t0V, i6 e] = .tup [.agg [sl [], sl [], .im 0 (elF (fun _ => 0) (fun _ => 0) 0)], i6 e] := fun e => rfl
      unfold comV
      rw [if_neg (fun h => h hkd), if_neg (by rw [hg]; decide)]
      split
      · exact ⟨[], [], _, _, 0, 2, by simp, by simp, by omega, key 2⟩
      · rename_i h2
        split
        · exact ⟨[], [], _, _, 0, 3, by simp, by simp, by omega, key 3⟩
        · rename_i h3
          split
          · exact ⟨[], [], _, _, 0, 6, by simp, by simp, by omega, key 6⟩
          · have ha : aG VS CS m = true := by
              cases h : aG VS CS m with
              | true => rfl
              | false => exact absurd (.inl h) h2
            have hw : withT (aF VS CS m) keep keep.length = true := by
              cases h : withT (aF VS CS m) keep keep.length with
              | true => rfl
              | false => exact absurd (.inr h) h2
            have hC : okC (sF (aF VS CS m) 64) = true := by
              cases h : okC (sF (aF VS CS m) 64) with
              | true => rfl
              | false => exact absurd h h3
            have hI : InOk kd VS CS A B N m keep := ⟨hkd, hm, hg, ha, hw, hC⟩
            have hsf := hI.suf keep.length (Nat.le_refl _)
            refine ⟨keep, clF (aF VS CS m) keep keep.length, rA kd VS CS A B m keep, rB kd VS CS A B m keep, rSz VS CS m keep, 0, hk, by rw [clF_len]; exact hk, by unfold rSz; omega, ?_⟩
            rw [show sl (clF (aF VS CS m) keep keep.length) = .im keep.length (ints (clF (aF VS CS m) keep keep.length)) from by show V.im (clF (aF VS CS m) keep keep.length).length _ = _; rw [clF_len]]
  · left
    rw [if_neg hkd]
    refine ⟨by simp, ?_⟩
    unfold comV
    rw [if_pos hkd]
section
variable (kn : Nat) (kc : List V) (dn : Nat) (dc : List V) (w : Nat) (kk : Int) (sn : Nat) (sc : List V) (k0 k1 ia : Int) (p1 : Nat) (c1 : List V) (p2 : Nat) (c2 c3 : List V) (ib : Int) (m : Nat) (c : List V) (rw : List V)
abbrev l8S (ic : Int) : SL := { sl := bS kn kc dn dc w kk sn sc k0 k1 ia p1 c1 p2 c2 c3 ib m c ++ [(112, i6 ic)], os := [.row 33 none rw] }
abbrev l8X : SL := { sl := [(2, .im kn kc), (3, .im dn dc), (4, b8 w), (6, .ptr 0 0), (12, i6 kk), (18, .im sn sc), (42, .agg [i6 k0, i6 k1]), (43, i6 ia), (105, .agg [.im p1 c1, .im p2 c2, .im 2 c3]), (106, i6 ib)], os := [.row 33 none rw] }
end
theorem sc_two (keep some_ : List Int) (hk5 : keep.length ≤ 1000) (hs5 : some_.length ≤ 1000) (dn : Nat) (dc : List V) (w : Nat) (kk : Int) (k0 k1 ia : Int) (p1 : Nat) (c1 : List V) (p2 : Nat) (c2 c3 : List V) (ib : Int) (m : Nat) (hm : m ≤ 12) (rw_ : List V) (hrw : HfL rw_)
    (VS CS : Nat → List Int) (A B : Nat → Nat → Int) (N : Nat → Nat) (hV : ∀ i, i < m → (VS i).length ≤ 1000000 ∧ N i ≤ 1000000) (k : Nat) (hk : k ≤ 2) :
    Sat Pg none 0 (at' 4 [1, 1, 1, 0, 1, 0, 0, 1, 1, 0, 0, 1, 1, 1, 1, 1, 1, 1, 0, 0, 1, 1, 0, 0, 1, 1, 0]) (mkSt g0 161 (l8S keep.length (ints keep) dn dc w kk some_.length (ints some_) k0 k1 ia p1 c1 p2 c2 c3 ib m (blF (tbF VS CS A B N) m) rw_ k)) (outsP g0 161 [(True, .exit 8, l8X keep.length (ints keep) dn dc w kk some_.length (ints some_) k0 k1 ia p1 c1 p2 c2 c3 ib rw_)]) := by
  refine loopC vE_ok mixed sp0_ok (b := at' 4 [1, 1, 1, 0, 1, 0, 0, 1, 1, 0, 0, 1, 1, 1, 1, 1, 1, 1, 0, 0, 1, 1, 0, 0, 1, 1, 0, 0]) (by kernel_rfl) (fun k : Nat => k ≤ 2) (fun k : Nat => l8S keep.length (ints keep) dn dc w kk some_.length (ints some_) k0 k1 ia p1 c1 p2 c2 c3 ib m (blF (tbF VS CS A B N) m) rw_ (k : Int)) (fun k => 2 - k) (fun k hk => ?_) k hk
  have hL := HfL_blF (HfL_tbF VS CS A B N) m
  have hN : ∀ i, i < m → N i ≤ 1000000 := fun i hi => (hV i hi).2
  have hkd := kind_fn kk
  have h00 : (1 ≤ kk ∧ kk ≤ 5) → noF kk VS CS A B N 0 = 0 := fun h => by unfold noF; rw [if_pos h]; rfl
  have h40 : ¬ (1 ≤ kk ∧ kk ≤ 5) → ∀ i, noF kk VS CS A B N i = 40 := fun h i => by unfold noF; rw [if_neg h]
  have h41 : (1 ≤ kk ∧ kk ≤ 5) → ∀ i, noF kk VS CS A B N i ≠ 0 → noF kk VS CS A B N i = 41 := fun h i => by unfold noF; rw [if_pos h]; split <;> simp
  have hz := same4_fn [] [] (fun _ => 0) (fun _ => 0) 0 (by simp) (by simp) (by omega)
  rcases (show k = 0 ∨ k = 1 ∨ k = 2 by omega) with rfl | rfl | rfl
  · have hcb := combine_fn kk VS CS A B N m hm hN keep hk5
    rcases comV_form kk VS CS A B N m keep hk5 hm with ⟨hne, e⟩ | ⟨he0, hkk, hg, l1, l2, A1, B1, n, e1, q1, q2, q3, e⟩
    · have l10 := fun e' => sc_good keep.length (ints keep) dn dc w kk some_.length (ints some_) k0 k1 ia p1 c1 p2 c2 c3 ib m hm rw_ hrw keep.length (ints keep) 0 e' [.im 0 [], .im 0 [], .im 0 []] ⟨trivial, trivial, trivial, trivial⟩ VS CS A B N hV
      rw [e] at hcb
      by_cases hkk : 1 ≤ kk ∧ kk ≤ 5
      · rw [decide_eq_true hkk] at hkd
        rw [h41 hkk m hne] at hcb l10
        rw [h00 hkk] at l10
        have l10' := l10 41
        clear hV hN h00 h40 h41 l10 hne e
        generalize blF (tbF VS CS A B N) m = c at *
        refine .inl ⟨1, [0], [fn 119 (.tup [t0V, i6 41]), fn 123 (.bool true), (0, .loop [0, 1, 2] (btS keep.length (ints keep) dn dc w kk some_.length (ints some_) k0 k1 ia p1 c1 p2 c2 c3 ib m c rw_ keep.length (ints keep) 0 41 [.im 0 [], .im 0 [], .im 0 []] 0 0) [(True, .exit 10, btX keep.length (ints keep) dn dc w kk some_.length (ints some_) k0 k1 ia p1 c1 p2 c2 c3 ib m c rw_ keep.length (ints keep) 0 41 [.im 0 [], .im 0 [], .im 0 []] 41)]), fn 155 (.bool true)], 1000, by omega, by omega, ?_⟩
        refine Eq.mp (by kernel_rfl : ((TT 3) ∧ FnOk Try.prog g0 15 [i6 kk, V.im m c, V.im (List.length keep) (ints keep)] (V.tup [t0V, i6 41]) ∧ True ∧ (True ∧ True) ∧ FnOk Try.prog g0 11 [i6 kk] (V.bool true) ∧ True ∧ (((List.length keep = List.length keep ∧ ints keep = ints keep) ∧ (dn = dn ∧ dc = dc) ∧ (↑w : Int) = (↑w : Int) ∧ 0 = 0 ∧ kk = kk ∧ (List.length some_ = List.length some_ ∧ ints some_ = ints some_) ∧ (k0 = k0 ∧ k1 = k1 ∧ True) ∧ ia = ia ∧ ((p1 = p1 ∧ c1 = c1) ∧ (p2 = p2 ∧ c2 = c2) ∧ (2 = 2 ∧ c3 = c3) ∧ True) ∧ ib = ib ∧ (m = m ∧ c = c) ∧ ((List.length keep = List.length keep ∧ ints keep = ints keep) ∧ (List.length some_ = List.length some_ ∧ ints some_ = ints some_) ∧ True) ∧ (0 : Int) = (↑(0 : Nat) : Int) ∧ (List.length keep = List.length keep ∧ ints keep = ints keep) ∧ 0 = 0 ∧ (41 : Int) = (41 : Int) ∧ 0 = 0 ∧ (0 : Int) = (0 : Int) ∧ (m = m ∧ c = c) ∧ (↑m : Int) = (↑m : Int) ∧ (0 : Int) = (0 : Int) ∧ True) ∧ (rw_ = rw_ ∧ HfL rw_) ∧ ([V.im 0 [], V.im 0 [], V.im 0 []] = [V.im 0 [], V.im 0 [], V.im 0 []] ∧ TT 3) ∧ ([V.nils, V.nils, V.nils] = [V.nils, V.nils, V.nils] ∧ TT 3) ∧ True) ∧ Sat Try.prog none 0 (at' 4 [1, 1, 1, 0, 1, 0, 0, 1, 1, 0, 0, 1, 1, 1, 1, 1, 1, 1, 0, 0, 1, 1, 0, 0, 1, 1, 0, 0, 1, 1, 0, 0, 1, 1, 1, 1, 1, 0, 1, 0]) (mkSt g0 161 (btS (List.length keep) (ints keep) dn dc w kk (List.length some_) (ints some_) k0 k1 ia p1 c1 p2 c2 c3 ib m c rw_ (List.length keep) (ints keep) (0 : Int) (41 : Int) [V.im 0 [], V.im 0 [], V.im 0 []] (0 : Int) (0 : Int))) (outsP g0 161 [(True, Ex.exit 10, btX (List.length keep) (ints keep) dn dc w kk (List.length some_) (ints some_) k0 k1 ia p1 c1 p2 c2 c3 ib m c rw_ (List.length keep) (ints keep) (0 : Int) (41 : Int) [V.im 0 [], V.im 0 [], V.im 0 []] (41 : Int))]) ∧ (True → ((TT 3) ∧ (TT 3) ∧ True) ∧ FnOk Try.prog g0 18 [V.agg [V.im 0 [], V.im 0 [], V.im 0 []], V.agg [V.im 0 [], V.im 0 [], V.im 0 []]] (V.bool true) ∧ True ∧ ((List.length keep = List.length keep ∧ ints keep = ints keep) ∧ (dn = dn ∧ dc = dc) ∧ (↑w : Int) = (↑w : Int) ∧ 0 = 0 ∧ kk = kk ∧ (List.length some_ = List.length some_ ∧ ints some_ = ints some_) ∧ (k0 = k0 ∧ k1 = k1 ∧ True) ∧ ia = ia ∧ ((p1 = p1 ∧ c1 = c1) ∧ (p2 = p2 ∧ c2 = c2) ∧ (2 = 2 ∧ c3 = c3) ∧ True) ∧ ib = ib ∧ (m = m ∧ c = c) ∧ ((List.length keep = List.length keep ∧ ints keep = ints keep) ∧ (List.length some_ = List.length some_ ∧ ints some_ = ints some_) ∧ True) ∧ (↑(1 : Nat) : Int) = wr IntKind.i64 ((0 : Int) + (1 : Int)) ∧ True) ∧ (rw_ = rw_ ∧ HfL rw_) ∧ True) ∧ True) = _) ?_
        (repeat' (first | (with_reducible apply And.intro) | (refine fun (_ : True) => ?_))) <;> first | exact aq | skip
        all_goals first | exact hcb | exact hz | rfl | skip
      · rw [decide_eq_false hkk] at hkd
        rw [h40 hkk m] at hcb l10
        rw [h40 hkk 0] at l10
        have l10' := l10 40
        clear hV hN h00 h40 h41 l10 hne e
        generalize blF (tbF VS CS A B N) m = c at *
        refine .inl ⟨1, [0], [fn 119 (.tup [t0V, i6 40]), fn 123 (.bool false), (0, .loop [0, 1, 2] (btS keep.length (ints keep) dn dc w kk some_.length (ints some_) k0 k1 ia p1 c1 p2 c2 c3 ib m c rw_ keep.length (ints keep) 0 40 [.im 0 [], .im 0 [], .im 0 []] 40 0) [(True, .exit 10, btX keep.length (ints keep) dn dc w kk some_.length (ints some_) k0 k1 ia p1 c1 p2 c2 c3 ib m c rw_ keep.length (ints keep) 0 40 [.im 0 [], .im 0 [], .im 0 []] 40)]), fn 155 (.bool true)], 1000, by omega, by omega, ?_⟩
        refine Eq.mp (by kernel_rfl : ((TT 3) ∧ FnOk Try.prog g0 15 [i6 kk, V.im m c, V.im (List.length keep) (ints keep)] (V.tup [t0V, i6 40]) ∧ True ∧ (True ∧ True) ∧ FnOk Try.prog g0 11 [i6 kk] (V.bool false) ∧ True ∧ (((List.length keep = List.length keep ∧ ints keep = ints keep) ∧ (dn = dn ∧ dc = dc) ∧ (↑w : Int) = (↑w : Int) ∧ 0 = 0 ∧ kk = kk ∧ (List.length some_ = List.length some_ ∧ ints some_ = ints some_) ∧ (k0 = k0 ∧ k1 = k1 ∧ True) ∧ ia = ia ∧ ((p1 = p1 ∧ c1 = c1) ∧ (p2 = p2 ∧ c2 = c2) ∧ (2 = 2 ∧ c3 = c3) ∧ True) ∧ ib = ib ∧ (m = m ∧ c = c) ∧ ((List.length keep = List.length keep ∧ ints keep = ints keep) ∧ (List.length some_ = List.length some_ ∧ ints some_ = ints some_) ∧ True) ∧ (0 : Int) = (↑(0 : Nat) : Int) ∧ (List.length keep = List.length keep ∧ ints keep = ints keep) ∧ 0 = 0 ∧ (40 : Int) = (40 : Int) ∧ 0 = 0 ∧ (40 : Int) = (40 : Int) ∧ (m = m ∧ c = c) ∧ (↑m : Int) = (↑m : Int) ∧ (0 : Int) = (0 : Int) ∧ True) ∧ (rw_ = rw_ ∧ HfL rw_) ∧ ([V.im 0 [], V.im 0 [], V.im 0 []] = [V.im 0 [], V.im 0 [], V.im 0 []] ∧ TT 3) ∧ ([V.nils, V.nils, V.nils] = [V.nils, V.nils, V.nils] ∧ TT 3) ∧ True) ∧ Sat Try.prog none 0 (at' 4 [1, 1, 1, 0, 1, 0, 0, 1, 1, 0, 0, 1, 1, 1, 1, 1, 1, 1, 0, 0, 1, 1, 0, 0, 1, 1, 0, 0, 1, 1, 0, 0, 1, 1, 1, 1, 1, 0, 1, 0]) (mkSt g0 161 (btS (List.length keep) (ints keep) dn dc w kk (List.length some_) (ints some_) k0 k1 ia p1 c1 p2 c2 c3 ib m c rw_ (List.length keep) (ints keep) (0 : Int) (40 : Int) [V.im 0 [], V.im 0 [], V.im 0 []] (40 : Int) (0 : Int))) (outsP g0 161 [(True, Ex.exit 10, btX (List.length keep) (ints keep) dn dc w kk (List.length some_) (ints some_) k0 k1 ia p1 c1 p2 c2 c3 ib m c rw_ (List.length keep) (ints keep) (0 : Int) (40 : Int) [V.im 0 [], V.im 0 [], V.im 0 []] (40 : Int))]) ∧ (True → ((TT 3) ∧ (TT 3) ∧ True) ∧ FnOk Try.prog g0 18 [V.agg [V.im 0 [], V.im 0 [], V.im 0 []], V.agg [V.im 0 [], V.im 0 [], V.im 0 []]] (V.bool true) ∧ True ∧ ((List.length keep = List.length keep ∧ ints keep = ints keep) ∧ (dn = dn ∧ dc = dc) ∧ (↑w : Int) = (↑w : Int) ∧ 0 = 0 ∧ kk = kk ∧ (List.length some_ = List.length some_ ∧ ints some_ = ints some_) ∧ (k0 = k0 ∧ k1 = k1 ∧ True) ∧ ia = ia ∧ ((p1 = p1 ∧ c1 = c1) ∧ (p2 = p2 ∧ c2 = c2) ∧ (2 = 2 ∧ c3 = c3) ∧ True) ∧ ib = ib ∧ (m = m ∧ c = c) ∧ ((List.length keep = List.length keep ∧ ints keep = ints keep) ∧ (List.length some_ = List.length some_ ∧ ints some_ = ints some_) ∧ True) ∧ (↑(1 : Nat) : Int) = wr IntKind.i64 ((0 : Int) + (1 : Int)) ∧ True) ∧ (rw_ = rw_ ∧ HfL rw_) ∧ True) ∧ True) = _) ?_
        (repeat' (first | (with_reducible apply And.intro) | (refine fun (_ : True) => ?_))) <;> first | exact aq | skip
        all_goals first | exact hcb | exact hz | rfl | skip
    · have hrc := rcombine_fn (A := A) (B := B) (N := N) (keep := keep) hkk hm hk5 hg
      have l10 := sc_good keep.length (ints keep) dn dc w kk some_.length (ints some_) k0 k1 ia p1 c1 p2 c2 c3 ib m hm rw_ hrw keep.length (ints keep) 0 e1 [sl l1, sl l2, .im n (elF A1 B1 n)] ⟨trivial, trivial, trivial, trivial⟩ VS CS A B N hV
      have hsm := same4_fn l1 l2 A1 B1 n (by omega) (by omega) q3
      have hH1 := HfL_ints l1
      have hH2 := HfL_ints l2
      have hH3 := HfL_elF A1 B1 n
      rw [decide_eq_true hkk] at hkd
      rw [e] at hcb hrc
      rw [h00 hkk, he0] at l10
      clear hV hN h00 h40 h41 hg he0 e
      generalize blF (tbF VS CS A B N) m = c at *
      refine .inl ⟨1, [0], [fn 119 (.tup [.agg [sl l1, sl l2, .im n (elF A1 B1 n)], i6 e1]), fn 123 (.bool true), (0, .loop [0, 1, 2] (btS keep.length (ints keep) dn dc w kk some_.length (ints some_) k0 k1 ia p1 c1 p2 c2 c3 ib m c rw_ keep.length (ints keep) 0 e1 [sl l1, sl l2, .im n (elF A1 B1 n)] 0 0) [(True, .exit 10, btX keep.length (ints keep) dn dc w kk some_.length (ints some_) k0 k1 ia p1 c1 p2 c2 c3 ib m c rw_ keep.length (ints keep) 0 e1 [sl l1, sl l2, .im n (elF A1 B1 n)] 0)]), fn 146 (.tup [.agg [sl l1, sl l2, .im n (elF A1 B1 n)], i6 e1]), no 151, fn 155 (.bool true)], 1000, by omega, by omega, ?_⟩
      refine Eq.mp (by kernel_rfl : ((TT 3) ∧ FnOk Try.prog g0 15 [i6 kk, V.im m c, V.im (List.length keep) (ints keep)] (V.tup [V.agg [sl l1, sl l2, V.im n (elF A1 B1 n)], i6 e1]) ∧ True ∧ (True ∧ True) ∧ FnOk Try.prog g0 11 [i6 kk] (V.bool true) ∧ True ∧ (((List.length keep = List.length keep ∧ ints keep = ints keep) ∧ (dn = dn ∧ dc = dc) ∧ (↑w : Int) = (↑w : Int) ∧ 0 = 0 ∧ kk = kk ∧ (List.length some_ = List.length some_ ∧ ints some_ = ints some_) ∧ (k0 = k0 ∧ k1 = k1 ∧ True) ∧ ia = ia ∧ ((p1 = p1 ∧ c1 = c1) ∧ (p2 = p2 ∧ c2 = c2) ∧ (2 = 2 ∧ c3 = c3) ∧ True) ∧ ib = ib ∧ (m = m ∧ c = c) ∧ ((List.length keep = List.length keep ∧ ints keep = ints keep) ∧ (List.length some_ = List.length some_ ∧ ints some_ = ints some_) ∧ True) ∧ (0 : Int) = (↑(0 : Nat) : Int) ∧ (List.length keep = List.length keep ∧ ints keep = ints keep) ∧ 0 = 0 ∧ e1 = e1 ∧ 0 = 0 ∧ (0 : Int) = (0 : Int) ∧ (m = m ∧ c = c) ∧ (↑m : Int) = (↑m : Int) ∧ (0 : Int) = (0 : Int) ∧ True) ∧ (rw_ = rw_ ∧ HfL rw_) ∧ ([sl l1, sl l2, V.im n (elF A1 B1 n)] = [sl l1, sl l2, V.im n (elF A1 B1 n)] ∧ TT 3) ∧ ([V.nils, V.nils, V.nils] = [V.nils, V.nils, V.nils] ∧ TT 3) ∧ True) ∧ Sat Try.prog none 0 (at' 4 [1, 1, 1, 0, 1, 0, 0, 1, 1, 0, 0, 1, 1, 1, 1, 1, 1, 1, 0, 0, 1, 1, 0, 0, 1, 1, 0, 0, 1, 1, 0, 0, 1, 1, 1, 1, 1, 0, 1, 0]) (mkSt g0 161 (btS (List.length keep) (ints keep) dn dc w kk (List.length some_) (ints some_) k0 k1 ia p1 c1 p2 c2 c3 ib m c rw_ (List.length keep) (ints keep) (0 : Int) e1 [sl l1, sl l2, V.im n (elF A1 B1 n)] (0 : Int) (0 : Int))) (outsP g0 161 [(True, Ex.exit 10, btX (List.length keep) (ints keep) dn dc w kk (List.length some_) (ints some_) k0 k1 ia p1 c1 p2 c2 c3 ib m c rw_ (List.length keep) (ints keep) (0 : Int) e1 [sl l1, sl l2, V.im n (elF A1 B1 n)] (0 : Int))]) ∧ (True → (TT 3) ∧ FnOk Try.prog g0 17 [i6 kk, V.im m c, V.im (List.length keep) (ints keep)] (V.tup [V.agg [sl l1, sl l2, V.im n (elF A1 B1 n)], i6 e1]) ∧ True ∧ (e1 != e1) = false ∧ ((TT 3) ∧ (TT 3) ∧ True) ∧ FnOk Try.prog g0 18 [V.agg [V.im (List.length l1) (ints l1), V.im (List.length l2) (ints l2), V.im n (elF A1 B1 n)], V.agg [V.im (List.length l1) (ints l1), V.im (List.length l2) (ints l2), V.im n (elF A1 B1 n)]] (V.bool true) ∧ True ∧ ((List.length keep = List.length keep ∧ ints keep = ints keep) ∧ (dn = dn ∧ dc = dc) ∧ (↑w : Int) = (↑w : Int) ∧ 0 = 0 ∧ kk = kk ∧ (List.length some_ = List.length some_ ∧ ints some_ = ints some_) ∧ (k0 = k0 ∧ k1 = k1 ∧ True) ∧ ia = ia ∧ ((p1 = p1 ∧ c1 = c1) ∧ (p2 = p2 ∧ c2 = c2) ∧ (2 = 2 ∧ c3 = c3) ∧ True) ∧ ib = ib ∧ (m = m ∧ c = c) ∧ ((List.length keep = List.length keep ∧ ints keep = ints keep) ∧ (List.length some_ = List.length some_ ∧ ints some_ = ints some_) ∧ True) ∧ (↑(1 : Nat) : Int) = wr IntKind.i64 ((0 : Int) + (1 : Int)) ∧ True) ∧ (rw_ = rw_ ∧ HfL rw_) ∧ True) ∧ True) = _) ?_
      (repeat' (first | (with_reducible apply And.intro) | (refine fun (_ : True) => ?_))) <;> first | exact aq | skip
      all_goals first | exact hcb | exact hrc | exact hsm | (simp; done) | rfl | skip
  · have hcb := combine_fn kk VS CS A B N m hm hN some_ hs5
    rcases comV_form kk VS CS A B N m some_ hs5 hm with ⟨hne, e⟩ | ⟨he0, hkk, hg, l1, l2, A1, B1, n, e1, q1, q2, q3, e⟩
    · have l10 := fun e' => sc_good keep.length (ints keep) dn dc w kk some_.length (ints some_) k0 k1 ia p1 c1 p2 c2 c3 ib m hm rw_ hrw some_.length (ints some_) 1 e' [.im 0 [], .im 0 [], .im 0 []] ⟨trivial, trivial, trivial, trivial⟩ VS CS A B N hV
      rw [e] at hcb
      by_cases hkk : 1 ≤ kk ∧ kk ≤ 5
      · rw [decide_eq_true hkk] at hkd
        rw [h41 hkk m hne] at hcb l10
        rw [h00 hkk] at l10
        have l10' := l10 41
        clear hV hN h00 h40 h41 l10 hne e
        generalize blF (tbF VS CS A B N) m = c at *
        refine .inl ⟨2, [0], [fn 119 (.tup [t0V, i6 41]), fn 123 (.bool true), (0, .loop [0, 1, 2] (btS keep.length (ints keep) dn dc w kk some_.length (ints some_) k0 k1 ia p1 c1 p2 c2 c3 ib m c rw_ some_.length (ints some_) 1 41 [.im 0 [], .im 0 [], .im 0 []] 0 0) [(True, .exit 10, btX keep.length (ints keep) dn dc w kk some_.length (ints some_) k0 k1 ia p1 c1 p2 c2 c3 ib m c rw_ some_.length (ints some_) 1 41 [.im 0 [], .im 0 [], .im 0 []] 41)]), fn 155 (.bool true)], 1000, by omega, by omega, ?_⟩
        refine Eq.mp (by kernel_rfl : ((TT 3) ∧ FnOk Try.prog g0 15 [i6 kk, V.im m c, V.im (List.length some_) (ints some_)] (V.tup [t0V, i6 41]) ∧ True ∧ (True ∧ True) ∧ FnOk Try.prog g0 11 [i6 kk] (V.bool true) ∧ True ∧ (((List.length keep = List.length keep ∧ ints keep = ints keep) ∧ (dn = dn ∧ dc = dc) ∧ (↑w : Int) = (↑w : Int) ∧ 0 = 0 ∧ kk = kk ∧ (List.length some_ = List.length some_ ∧ ints some_ = ints some_) ∧ (k0 = k0 ∧ k1 = k1 ∧ True) ∧ ia = ia ∧ ((p1 = p1 ∧ c1 = c1) ∧ (p2 = p2 ∧ c2 = c2) ∧ (2 = 2 ∧ c3 = c3) ∧ True) ∧ ib = ib ∧ (m = m ∧ c = c) ∧ ((List.length keep = List.length keep ∧ ints keep = ints keep) ∧ (List.length some_ = List.length some_ ∧ ints some_ = ints some_) ∧ True) ∧ (1 : Int) = (↑(1 : Nat) : Int) ∧ (List.length some_ = List.length some_ ∧ ints some_ = ints some_) ∧ 0 = 0 ∧ (41 : Int) = (41 : Int) ∧ 0 = 0 ∧ (0 : Int) = (0 : Int) ∧ (m = m ∧ c = c) ∧ (↑m : Int) = (↑m : Int) ∧ (0 : Int) = (0 : Int) ∧ True) ∧ (rw_ = rw_ ∧ HfL rw_) ∧ ([V.im 0 [], V.im 0 [], V.im 0 []] = [V.im 0 [], V.im 0 [], V.im 0 []] ∧ TT 3) ∧ ([V.nils, V.nils, V.nils] = [V.nils, V.nils, V.nils] ∧ TT 3) ∧ True) ∧ Sat Try.prog none 0 (at' 4 [1, 1, 1, 0, 1, 0, 0, 1, 1, 0, 0, 1, 1, 1, 1, 1, 1, 1, 0, 0, 1, 1, 0, 0, 1, 1, 0, 0, 1, 1, 0, 0, 1, 1, 1, 1, 1, 0, 1, 0]) (mkSt g0 161 (btS (List.length keep) (ints keep) dn dc w kk (List.length some_) (ints some_) k0 k1 ia p1 c1 p2 c2 c3 ib m c rw_ (List.length some_) (ints some_) (1 : Int) (41 : Int) [V.im 0 [], V.im 0 [], V.im 0 []] (0 : Int) (0 : Int))) (outsP g0 161 [(True, Ex.exit 10, btX (List.length keep) (ints keep) dn dc w kk (List.length some_) (ints some_) k0 k1 ia p1 c1 p2 c2 c3 ib m c rw_ (List.length some_) (ints some_) (1 : Int) (41 : Int) [V.im 0 [], V.im 0 [], V.im 0 []] (41 : Int))]) ∧ (True → ((TT 3) ∧ (TT 3) ∧ True) ∧ FnOk Try.prog g0 18 [V.agg [V.im 0 [], V.im 0 [], V.im 0 []], V.agg [V.im 0 [], V.im 0 [], V.im 0 []]] (V.bool true) ∧ True ∧ ((List.length keep = List.length keep ∧ ints keep = ints keep) ∧ (dn = dn ∧ dc = dc) ∧ (↑w : Int) = (↑w : Int) ∧ 0 = 0 ∧ kk = kk ∧ (List.length some_ = List.length some_ ∧ ints some_ = ints some_) ∧ (k0 = k0 ∧ k1 = k1 ∧ True) ∧ ia = ia ∧ ((p1 = p1 ∧ c1 = c1) ∧ (p2 = p2 ∧ c2 = c2) ∧ (2 = 2 ∧ c3 = c3) ∧ True) ∧ ib = ib ∧ (m = m ∧ c = c) ∧ ((List.length keep = List.length keep ∧ ints keep = ints keep) ∧ (List.length some_ = List.length some_ ∧ ints some_ = ints some_) ∧ True) ∧ (↑(2 : Nat) : Int) = wr IntKind.i64 ((1 : Int) + (1 : Int)) ∧ True) ∧ (rw_ = rw_ ∧ HfL rw_) ∧ True) ∧ True) = _) ?_
        (repeat' (first | (with_reducible apply And.intro) | (refine fun (_ : True) => ?_))) <;> first | exact aq | skip
        all_goals first | exact hcb | exact hz | rfl | skip
      · rw [decide_eq_false hkk] at hkd
        rw [h40 hkk m] at hcb l10
        rw [h40 hkk 0] at l10
        have l10' := l10 40
        clear hV hN h00 h40 h41 l10 hne e
        generalize blF (tbF VS CS A B N) m = c at *
        refine .inl ⟨2, [0], [fn 119 (.tup [t0V, i6 40]), fn 123 (.bool false), (0, .loop [0, 1, 2] (btS keep.length (ints keep) dn dc w kk some_.length (ints some_) k0 k1 ia p1 c1 p2 c2 c3 ib m c rw_ some_.length (ints some_) 1 40 [.im 0 [], .im 0 [], .im 0 []] 40 0) [(True, .exit 10, btX keep.length (ints keep) dn dc w kk some_.length (ints some_) k0 k1 ia p1 c1 p2 c2 c3 ib m c rw_ some_.length (ints some_) 1 40 [.im 0 [], .im 0 [], .im 0 []] 40)]), fn 155 (.bool true)], 1000, by omega, by omega, ?_⟩
        refine Eq.mp (by kernel_rfl : ((TT 3) ∧ FnOk Try.prog g0 15 [i6 kk, V.im m c, V.im (List.length some_) (ints some_)] (V.tup [t0V, i6 40]) ∧ True ∧ (True ∧ True) ∧ FnOk Try.prog g0 11 [i6 kk] (V.bool false) ∧ True ∧ (((List.length keep = List.length keep ∧ ints keep = ints keep) ∧ (dn = dn ∧ dc = dc) ∧ (↑w : Int) = (↑w : Int) ∧ 0 = 0 ∧ kk = kk ∧ (List.length some_ = List.length some_ ∧ ints some_ = ints some_) ∧ (k0 = k0 ∧ k1 = k1 ∧ True) ∧ ia = ia ∧ ((p1 = p1 ∧ c1 = c1) ∧ (p2 = p2 ∧ c2 = c2) ∧ (2 = 2 ∧ c3 = c3) ∧ True) ∧ ib = ib ∧ (m = m ∧ c = c) ∧ ((List.length keep = List.length keep ∧ ints keep = ints keep) ∧ (List.length some_ = List.length some_ ∧ ints some_ = ints some_) ∧ True) ∧ (1 : Int) = (↑(1 : Nat) : Int) ∧ (List.length some_ = List.length some_ ∧ ints some_ = ints some_) ∧ 0 = 0 ∧ (40 : Int) = (40 : Int) ∧ 0 = 0 ∧ (40 : Int) = (40 : Int) ∧ (m = m ∧ c = c) ∧ (↑m : Int) = (↑m : Int) ∧ (0 : Int) = (0 : Int) ∧ True) ∧ (rw_ = rw_ ∧ HfL rw_) ∧ ([V.im 0 [], V.im 0 [], V.im 0 []] = [V.im 0 [], V.im 0 [], V.im 0 []] ∧ TT 3) ∧ ([V.nils, V.nils, V.nils] = [V.nils, V.nils, V.nils] ∧ TT 3) ∧ True) ∧ Sat Try.prog none 0 (at' 4 [1, 1, 1, 0, 1, 0, 0, 1, 1, 0, 0, 1, 1, 1, 1, 1, 1, 1, 0, 0, 1, 1, 0, 0, 1, 1, 0, 0, 1, 1, 0, 0, 1, 1, 1, 1, 1, 0, 1, 0]) (mkSt g0 161 (btS (List.length keep) (ints keep) dn dc w kk (List.length some_) (ints some_) k0 k1 ia p1 c1 p2 c2 c3 ib m c rw_ (List.length some_) (ints some_) (1 : Int) (40 : Int) [V.im 0 [], V.im 0 [], V.im 0 []] (40 : Int) (0 : Int))) (outsP g0 161 [(True, Ex.exit 10, btX (List.length keep) (ints keep) dn dc w kk (List.length some_) (ints some_) k0 k1 ia p1 c1 p2 c2 c3 ib m c rw_ (List.length some_) (ints some_) (1 : Int) (40 : Int) [V.im 0 [], V.im 0 [], V.im 0 []] (40 : Int))]) ∧ (True → ((TT 3) ∧ (TT 3) ∧ True) ∧ FnOk Try.prog g0 18 [V.agg [V.im 0 [], V.im 0 [], V.im 0 []], V.agg [V.im 0 [], V.im 0 [], V.im 0 []]] (V.bool true) ∧ True ∧ ((List.length keep = List.length keep ∧ ints keep = ints keep) ∧ (dn = dn ∧ dc = dc) ∧ (↑w : Int) = (↑w : Int) ∧ 0 = 0 ∧ kk = kk ∧ (List.length some_ = List.length some_ ∧ ints some_ = ints some_) ∧ (k0 = k0 ∧ k1 = k1 ∧ True) ∧ ia = ia ∧ ((p1 = p1 ∧ c1 = c1) ∧ (p2 = p2 ∧ c2 = c2) ∧ (2 = 2 ∧ c3 = c3) ∧ True) ∧ ib = ib ∧ (m = m ∧ c = c) ∧ ((List.length keep = List.length keep ∧ ints keep = ints keep) ∧ (List.length some_ = List.length some_ ∧ ints some_ = ints some_) ∧ True) ∧ (↑(2 : Nat) : Int) = wr IntKind.i64 ((1 : Int) + (1 : Int)) ∧ True) ∧ (rw_ = rw_ ∧ HfL rw_) ∧ True) ∧ True) = _) ?_
        (repeat' (first | (with_reducible apply And.intro) | (refine fun (_ : True) => ?_))) <;> first | exact aq | skip
        all_goals first | exact hcb | exact hz | rfl | skip
    · have hrc := rcombine_fn (A := A) (B := B) (N := N) (keep := some_) hkk hm hs5 hg
      have l10 := sc_good keep.length (ints keep) dn dc w kk some_.length (ints some_) k0 k1 ia p1 c1 p2 c2 c3 ib m hm rw_ hrw some_.length (ints some_) 1 e1 [sl l1, sl l2, .im n (elF A1 B1 n)] ⟨trivial, trivial, trivial, trivial⟩ VS CS A B N hV
      have hsm := same4_fn l1 l2 A1 B1 n (by omega) (by omega) q3
      have hH1 := HfL_ints l1
      have hH2 := HfL_ints l2
      have hH3 := HfL_elF A1 B1 n
      rw [decide_eq_true hkk] at hkd
      rw [e] at hcb hrc
      rw [h00 hkk, he0] at l10
      clear hV hN h00 h40 h41 hg he0 e
      generalize blF (tbF VS CS A B N) m = c at *
      refine .inl ⟨2, [0], [fn 119 (.tup [.agg [sl l1, sl l2, .im n (elF A1 B1 n)], i6 e1]), fn 123 (.bool true), (0, .loop [0, 1, 2] (btS keep.length (ints keep) dn dc w kk some_.length (ints some_) k0 k1 ia p1 c1 p2 c2 c3 ib m c rw_ some_.length (ints some_) 1 e1 [sl l1, sl l2, .im n (elF A1 B1 n)] 0 0) [(True, .exit 10, btX keep.length (ints keep) dn dc w kk some_.length (ints some_) k0 k1 ia p1 c1 p2 c2 c3 ib m c rw_ some_.length (ints some_) 1 e1 [sl l1, sl l2, .im n (elF A1 B1 n)] 0)]), fn 146 (.tup [.agg [sl l1, sl l2, .im n (elF A1 B1 n)], i6 e1]), no 151, fn 155 (.bool true)], 1000, by omega, by omega, ?_⟩
      refine Eq.mp (by kernel_rfl : ((TT 3) ∧ FnOk Try.prog g0 15 [i6 kk, V.im m c, V.im (List.length some_) (ints some_)] (V.tup [V.agg [sl l1, sl l2, V.im n (elF A1 B1 n)], i6 e1]) ∧ True ∧ (True ∧ True) ∧ FnOk Try.prog g0 11 [i6 kk] (V.bool true) ∧ True ∧ (((List.length keep = List.length keep ∧ ints keep = ints keep) ∧ (dn = dn ∧ dc = dc) ∧ (↑w : Int) = (↑w : Int) ∧ 0 = 0 ∧ kk = kk ∧ (List.length some_ = List.length some_ ∧ ints some_ = ints some_) ∧ (k0 = k0 ∧ k1 = k1 ∧ True) ∧ ia = ia ∧ ((p1 = p1 ∧ c1 = c1) ∧ (p2 = p2 ∧ c2 = c2) ∧ (2 = 2 ∧ c3 = c3) ∧ True) ∧ ib = ib ∧ (m = m ∧ c = c) ∧ ((List.length keep = List.length keep ∧ ints keep = ints keep) ∧ (List.length some_ = List.length some_ ∧ ints some_ = ints some_) ∧ True) ∧ (1 : Int) = (↑(1 : Nat) : Int) ∧ (List.length some_ = List.length some_ ∧ ints some_ = ints some_) ∧ 0 = 0 ∧ e1 = e1 ∧ 0 = 0 ∧ (0 : Int) = (0 : Int) ∧ (m = m ∧ c = c) ∧ (↑m : Int) = (↑m : Int) ∧ (0 : Int) = (0 : Int) ∧ True) ∧ (rw_ = rw_ ∧ HfL rw_) ∧ ([sl l1, sl l2, V.im n (elF A1 B1 n)] = [sl l1, sl l2, V.im n (elF A1 B1 n)] ∧ TT 3) ∧ ([V.nils, V.nils, V.nils] = [V.nils, V.nils, V.nils] ∧ TT 3) ∧ True) ∧ Sat Try.prog none 0 (at' 4 [1, 1, 1, 0, 1, 0, 0, 1, 1, 0, 0, 1, 1, 1, 1, 1, 1, 1, 0, 0, 1, 1, 0, 0, 1, 1, 0, 0, 1, 1, 0, 0, 1, 1, 1, 1, 1, 0, 1, 0]) (mkSt g0 161 (btS (List.length keep) (ints keep) dn dc w kk (List.length some_) (ints some_) k0 k1 ia p1 c1 p2 c2 c3 ib m c rw_ (List.length some_) (ints some_) (1 : Int) e1 [sl l1, sl l2, V.im n (elF A1 B1 n)] (0 : Int) (0 : Int))) (outsP g0 161 [(True, Ex.exit 10, btX (List.length keep) (ints keep) dn dc w kk (List.length some_) (ints some_) k0 k1 ia p1 c1 p2 c2 c3 ib m c rw_ (List.length some_) (ints some_) (1 : Int) e1 [sl l1, sl l2, V.im n (elF A1 B1 n)] (0 : Int))]) ∧ (True → (TT 3) ∧ FnOk Try.prog g0 17 [i6 kk, V.im m c, V.im (List.length some_) (ints some_)] (V.tup [V.agg [sl l1, sl l2, V.im n (elF A1 B1 n)], i6 e1]) ∧ True ∧ (e1 != e1) = false ∧ ((TT 3) ∧ (TT 3) ∧ True) ∧ FnOk Try.prog g0 18 [V.agg [V.im (List.length l1) (ints l1), V.im (List.length l2) (ints l2), V.im n (elF A1 B1 n)], V.agg [V.im (List.length l1) (ints l1), V.im (List.length l2) (ints l2), V.im n (elF A1 B1 n)]] (V.bool true) ∧ True ∧ ((List.length keep = List.length keep ∧ ints keep = ints keep) ∧ (dn = dn ∧ dc = dc) ∧ (↑w : Int) = (↑w : Int) ∧ 0 = 0 ∧ kk = kk ∧ (List.length some_ = List.length some_ ∧ ints some_ = ints some_) ∧ (k0 = k0 ∧ k1 = k1 ∧ True) ∧ ia = ia ∧ ((p1 = p1 ∧ c1 = c1) ∧ (p2 = p2 ∧ c2 = c2) ∧ (2 = 2 ∧ c3 = c3) ∧ True) ∧ ib = ib ∧ (m = m ∧ c = c) ∧ ((List.length keep = List.length keep ∧ ints keep = ints keep) ∧ (List.length some_ = List.length some_ ∧ ints some_ = ints some_) ∧ True) ∧ (↑(2 : Nat) : Int) = wr IntKind.i64 ((1 : Int) + (1 : Int)) ∧ True) ∧ (rw_ = rw_ ∧ HfL rw_) ∧ True) ∧ True) = _) ?_
      (repeat' (first | (with_reducible apply And.intro) | (refine fun (_ : True) => ?_))) <;> first | exact aq | skip
      all_goals first | exact hcb | exact hrc | exact hsm | (simp; done) | rfl | skip
  · refine .inr ⟨.exit 8, [0], l8X keep.length (ints keep) dn dc w kk some_.length (ints some_) k0 k1 ia p1 c1 p2 c2 c3 ib rw_, [], 1000, .inl ⟨trivial, rfl, rfl⟩, ?_⟩
    clear hV hN h00 h40 h41
    generalize blF (tbF VS CS A B N) m = c at *
    refine Eq.mp (by kernel_rfl : (((List.length keep = List.length keep ∧ ints keep = ints keep) ∧ (dn = dn ∧ dc = dc) ∧ (↑w : Int) = (↑w : Int) ∧ 0 = 0 ∧ kk = kk ∧ (List.length some_ = List.length some_ ∧ ints some_ = ints some_) ∧ (k0 = k0 ∧ k1 = k1 ∧ True) ∧ ia = ia ∧ ((p1 = p1 ∧ c1 = c1) ∧ (p2 = p2 ∧ c2 = c2) ∧ (2 = 2 ∧ c3 = c3) ∧ True) ∧ ib = ib ∧ True) ∧ (rw_ = rw_ ∧ HfL rw_) ∧ True) = _) ?_
    (repeat' (first | (with_reducible apply And.intro) | (refine fun (_ : True) => ?_))) <;> first | exact aq | skip
    all_goals first | rfl | skip
end Go.Proofs.Ytgdnmgcigkhojaa.Am

namespace Go.Proofs.Ytgdnmgcigkhojaa.Am
open Go.RowKit
set_option linter.unusedVariables false
set_option maxHeartbeats 1000000
set_option maxRecDepth 100000
theorem works_ok : FnOk Pg g0 8 [] (.bool true) := FnOk.of_run vE_ok mixed (n := 100000) rfl (by kernel_rfl)
end Go.Proofs.Ytgdnmgcigkhojaa.Am

namespace Go.Proofs.Ytgdnmgcigkhojaa.Am
open Go.RowKit
set_option linter.unusedVariables false
set_option maxHeartbeats 1000000
set_option maxRecDepth 100000
section
variable (W : Nat → Nat) (Ls : Nat → List Nat) (kk : Int)
def dtF (i : Nat) : List V := dtL (W i) (Ls i)
theorem dtF_len (i : Nat) : (dtF W Ls i).length = 2 := rfl
theorem HfL_dtF (i : Nat) : HfL (dtF W Ls i) := ⟨trivial, trivial, trivial⟩
abbrev mV (i : Nat) : List Int := dV (W i) 5
abbrev mC (i : Nat) : List Int := dC (W i) 5
abbrev mA (i : Nat) : Nat → Int := dA kk (Ls i)
abbrev mB (i : Nat) : Nat → Int := dB kk (Ls i)
abbrev mN (i : Nat) : Nat := dN (W i)
abbrev mT : Nat → List V := tbF (mV W) (mC W) (mA Ls kk) (mB Ls kk) (mN W)
def owM : Nat → List O
  | 0 => []
  | n + 1 => [.row 32 (some 3) (blF (mT W Ls kk) (n + 1))]
end
section
variable (kn : Nat) (kc : List V) (dn : Nat) (dc : List V) (w : Nat) (kk : Int) (k0 k1 ia : Int) (rw : List V)
abbrev cS : List (Nat × V) := [(2, .im kn kc), (3, .im dn dc), (4, b8 w), (6, .ptr 0 0), (12, i6 kk), (42, .agg [i6 k0, i6 k1]), (43, i6 ia)]
abbrev l2S (W : Nat → Nat) (Ls : Nat → List Nat) (dm : Nat) (p : Nat × Nat) : SL := { sl := cS kn kc dn dc w kk k0 k1 ia ++ [(13, owV 1 p.2), (50, .im dm (blF (dtF W Ls) dm)), (51, i6 dm), (52, i6 p.1)], os := .row 33 none rw :: owM W Ls kk p.2 }
abbrev l2X (mm : Nat) (c : List V) : SL := { sl := cS kn kc dn dc w kk k0 k1 ia ++ [(13, .im mm c)], os := [.row 33 none rw] }
end
theorem sc_made (kn : Nat) (kc : List V) (dn : Nat) (dc : List V) (w : Nat) (kk : Int) (k0 k1 ia : Int) (rw_ : List V) (hrw : HfL rw_) (W : Nat → Nat) (Ls : Nat → List Nat) (dm : Nat) (hdm : dm ≤ 4) (hW : ∀ i, i < dm → W i < 256) (hLs : ∀ i, i < dm → (∀ k, k < (Ls i).length → (Ls i).getD k 0 < 256) ∧ (Ls i).length ≤ 9223372036854775807) :
    Sat Pg none 0 (at' 4 [1, 1, 1, 0, 1, 0, 0, 1, 1, 0, 0, 1, 1, 0, 1, 0]) (mkSt g0 161 (l2S kn kc dn dc w kk k0 k1 ia rw_ W Ls dm (0, 0))) (outsP g0 161 [(True, .exit 2, l2X kn kc dn dc w kk k0 k1 ia rw_ (if 1 ≤ kk ∧ kk ≤ 5 then dm else 0) (blF (mT W Ls kk) (if 1 ≤ kk ∧ kk ≤ 5 then dm else 0)))]) := by
  refine loopC vE_ok mixed sp0_ok (b := at' 4 [1, 1, 1, 0, 1, 0, 0, 1, 1, 0, 0, 1, 1, 0, 1, 0, 0]) (by kernel_rfl) (fun p => p.1 ≤ dm ∧ p.2 = if 1 ≤ kk ∧ kk ≤ 5 then p.1 else 0) (l2S kn kc dn dc w kk k0 k1 ia rw_ W Ls dm) (fun p => dm - p.1) (fun p hp => ?_) (0, 0) ⟨Nat.zero_le _, by split <;> rfl⟩
  obtain ⟨i, q⟩ := p
  obtain ⟨hi, hq⟩ := hp
  dsimp only at hi hq
  have hD := HfL_blF (HfL_dtF W Ls) dm
  have hkd := kind_fn kk
  by_cases hlt : i < dm
  · have ht := take_blF (dtF_len W Ls) hlt
    rw [show dtF W Ls i = [b8 (W i), bL (Ls i)] from rfl] at ht
    have hB := HfL_b8 (Ls i)
    by_cases hk : 1 ≤ kk ∧ kk ≤ 5
    · rw [decide_eq_true hk] at hkd
      rw [if_pos hk] at hq
      subst hq
      have htb := table_fn kk (W q) (hW q hlt) (Ls q) (hLs q hlt).1 (hLs q hlt).2
      have hs := blF_succ (mT W Ls kk) q
      rw [show mT W Ls kk q = tbL (dV (W q) 5) (dC (W q) 5) (dA kk (Ls q)) (dB kk (Ls q)) (dN (W q)) from rfl] at hs
      have hln := blF_len (tbF_len (mV W) (mC W) (mA Ls kk) (mB Ls kk) (mN W)) q
      have hM := HfL_blF (HfL_tbF (mV W) (mC W) (mA Ls kk) (mB Ls kk) (mN W)) q
      have hM1 := HfL_blF (HfL_tbF (mV W) (mC W) (mA Ls kk) (mB Ls kk) (mN W)) (q + 1)
      clear hW hLs
      cases q with
      | zero =>
        refine .inl ⟨(0 + 1, 0 + 1), [0, 3], [yes 53, pl 54, ld 55 (.agg [b8 (W 0), bL (Ls 0)]), fn 57 (.bool true), fn 61 (.agg (tbL (dV (W 0) 5) (dC (W 0) 5) (dA kk (Ls 0)) (dB kk (Ls 0)) (dN (W 0)))), nu 64 (0 + 1 : Nat)], 1000, ⟨by dsimp only; omega, by dsimp only; rw [if_pos hk]⟩, by dsimp only; omega, ?_⟩
        refine Eq.mp (by kernel_rfl : (decide ((↑(0 : Nat) : Int) < (↑dm : Int)) = true ∧ ((0 : Int) ≤ (↑(0 : Nat) : Int) ∧ (↑(0 : Nat) : Int) < (↑dm : Int)) ∧ takeE 2 (List.drop (0 * 2) (blF (dtF W Ls) dm)) = some [b8 (W 0), bL (Ls 0)] ∧ (True ∧ True) ∧ FnOk Try.prog g0 11 [i6 kk] (V.bool true) ∧ True ∧ ((True ∧ True ∧ True) ∧ True ∧ True) ∧ FnOk Try.prog g0 12 [V.agg [V.int IntKind.u8 (↑(W 0) : Int), V.im (List.length (Ls 0)) (List.map b8 (Ls 0))], i6 kk] (V.agg (tbL (dV (W 0) 5) (dC (W 0) 5) (dA kk (Ls 0)) (dB kk (Ls 0)) (dN (W 0)))) ∧ True ∧ wr IntKind.i64 ((↑(0 : Nat) : Int) + (1 : Int)) = (↑(0 + 1) : Int) ∧ ((kn = kn ∧ kc = kc) ∧ (dn = dn ∧ dc = dc) ∧ (↑w : Int) = (↑w : Int) ∧ 0 = 0 ∧ kk = kk ∧ (k0 = k0 ∧ k1 = k1 ∧ True) ∧ ia = ia ∧ (0 = 0 ∧ 0 + 1 = 1 ∧ True) ∧ (dm = dm ∧ blF (dtF W Ls) dm = blF (dtF W Ls) dm) ∧ (↑dm : Int) = (↑dm : Int) ∧ (↑(0 + 1) : Int) = (↑(0 + 1) : Int) ∧ True) ∧ (rw_ = rw_ ∧ HfL rw_) ∧ (blF (mT W Ls kk) (0 + 1) = [sl (dV (W 0) 5), sl (dC (W 0) 5), V.im (dN (W 0)) (elF (dA kk (Ls 0)) (dB kk (Ls 0)) (dN (W 0)))] ∧ TT 3) ∧ True) = _) ?_
        (repeat' (first | (with_reducible apply And.intro) | (refine fun (_ : True) => ?_))) <;> first | exact aq | skip
        all_goals first | exact ht | exact htb | exact hs | exact hs.symm | exact hln | rfl | skip
      | succ q =>
        refine .inl ⟨(q + 1 + 1, q + 1 + 1), [0, 4], [yes 53, pl 54, ld 55 (.agg [b8 (W (q + 1)), bL (Ls (q + 1))]), fn 57 (.bool true), fn 61 (.agg (tbL (dV (W (q + 1)) 5) (dC (W (q + 1)) 5) (dA kk (Ls (q + 1))) (dB kk (Ls (q + 1))) (dN (W (q + 1))))), ap 63, nu 64 (q + 1 + 1 : Nat)], 1000, ⟨by dsimp only; omega, by dsimp only; rw [if_pos hk]⟩, by dsimp only; omega, ?_⟩
        refine Eq.mp (by kernel_rfl : (decide ((↑(q + 1) : Int) < (↑dm : Int)) = true ∧ ((0 : Int) ≤ (↑(q + 1) : Int) ∧ (↑(q + 1) : Int) < (↑dm : Int)) ∧ takeE 2 (List.drop ((q + 1) * 2) (blF (dtF W Ls) dm)) = some [b8 (W (q + 1)), bL (Ls (q + 1))] ∧ (True ∧ True) ∧ FnOk Try.prog g0 11 [i6 kk] (V.bool true) ∧ True ∧ ((True ∧ True ∧ True) ∧ True ∧ True) ∧ FnOk Try.prog g0 12 [V.agg [V.int IntKind.u8 (↑(W (q + 1)) : Int), V.im (List.length (Ls (q + 1))) (List.map b8 (Ls (q + 1)))], i6 kk] (V.agg (tbL (dV (W (q + 1)) 5) (dC (W (q + 1)) 5) (dA kk (Ls (q + 1))) (dB kk (Ls (q + 1))) (dN (W (q + 1))))) ∧ True ∧ List.length (blF (mT W Ls kk) (q + 1)) = (q + 1) * 3 ∧ q + 1 + 1 ≤ 9223372036854775807 ∧ (q + 1 + 1) * 72 ≤ 140737488355328 ∧ wr IntKind.i64 ((↑(q + 1) : Int) + (1 : Int)) = (↑(q + 1 + 1) : Int) ∧ ((kn = kn ∧ kc = kc) ∧ (dn = dn ∧ dc = dc) ∧ (↑w : Int) = (↑w : Int) ∧ 0 = 0 ∧ kk = kk ∧ (k0 = k0 ∧ k1 = k1 ∧ True) ∧ ia = ia ∧ (0 = 0 ∧ Nat.succ q + 1 = q + 1 + 1 ∧ True) ∧ (dm = dm ∧ blF (dtF W Ls) dm = blF (dtF W Ls) dm) ∧ (↑dm : Int) = (↑dm : Int) ∧ (↑(q + 1 + 1) : Int) = (↑(q + 1 + 1) : Int) ∧ True) ∧ (rw_ = rw_ ∧ HfL rw_) ∧ (blF (mT W Ls kk) (Nat.succ q + 1) = blF (mT W Ls kk) (q + 1) ++ [sl (dV (W (q + 1)) 5), sl (dC (W (q + 1)) 5), V.im (dN (W (q + 1))) (elF (dA kk (Ls (q + 1))) (dB kk (Ls (q + 1))) (dN (W (q + 1))))] ∧ HfL (blF (mT W Ls kk) (Nat.succ q + 1))) ∧ True) = _) ?_
        (repeat' (first | (with_reducible apply And.intro) | (refine fun (_ : True) => ?_))) <;> first | exact aq | skip
        all_goals first | exact ht | exact htb | exact hs | exact hs.symm | exact hln | rfl | skip
    · rw [decide_eq_false hk] at hkd
      rw [if_neg hk] at hq
      subst hq
      clear hW hLs
      refine .inl ⟨(i + 1, 0), [0], [yes 53, pl 54, ld 55 (.agg [b8 (W i), bL (Ls i)]), fn 57 (.bool false), nu 64 (i + 1 : Nat)], 1000, ⟨by dsimp only; omega, by dsimp only; rw [if_neg hk]⟩, by dsimp only; omega, ?_⟩
      refine Eq.mp (by kernel_rfl : (decide ((↑i : Int) < (↑dm : Int)) = true ∧ ((0 : Int) ≤ (↑i : Int) ∧ (↑i : Int) < (↑dm : Int)) ∧ takeE 2 (List.drop (i * 2) (blF (dtF W Ls) dm)) = some [b8 (W i), bL (Ls i)] ∧ (True ∧ True) ∧ FnOk Try.prog g0 11 [i6 kk] (V.bool false) ∧ True ∧ wr IntKind.i64 ((↑i : Int) + (1 : Int)) = (↑(i + 1) : Int) ∧ ((kn = kn ∧ kc = kc) ∧ (dn = dn ∧ dc = dc) ∧ (↑w : Int) = (↑w : Int) ∧ 0 = 0 ∧ kk = kk ∧ (k0 = k0 ∧ k1 = k1 ∧ True) ∧ ia = ia ∧ True ∧ (dm = dm ∧ blF (dtF W Ls) dm = blF (dtF W Ls) dm) ∧ (↑dm : Int) = (↑dm : Int) ∧ (↑(i + 1) : Int) = (↑(i + 1) : Int) ∧ True) ∧ (rw_ = rw_ ∧ HfL rw_) ∧ True) = _) ?_
      (repeat' (first | (with_reducible apply And.intro) | (refine fun (_ : True) => ?_))) <;> first | exact aq | skip
      all_goals first | exact ht | rfl | skip
  · have e : i = dm := by omega
    subst e
    rw [← hq]
    clear hW hLs hq
    have hM := HfL_blF (HfL_tbF (mV W) (mC W) (mA Ls kk) (mB Ls kk) (mN W)) q
    cases q with
    | zero =>
      refine .inr ⟨.exit 2, [0], l2X kn kc dn dc w kk k0 k1 ia rw_ 0 (blF (mT W Ls kk) 0), [no 53], 1000, .inl ⟨trivial, rfl, rfl⟩, ?_⟩
      refine Eq.mp (by kernel_rfl : (decide ((↑i : Int) < (↑i : Int)) = false ∧ ((kn = kn ∧ kc = kc) ∧ (dn = dn ∧ dc = dc) ∧ (↑w : Int) = (↑w : Int) ∧ 0 = 0 ∧ kk = kk ∧ (k0 = k0 ∧ k1 = k1 ∧ True) ∧ ia = ia ∧ 0 = 0 ∧ True) ∧ (rw_ = rw_ ∧ HfL rw_) ∧ True) = _) ?_
      (repeat' (first | (with_reducible apply And.intro) | (refine fun (_ : True) => ?_))) <;> first | exact aq | skip
      all_goals first | rfl | skip
    | succ q =>
      refine .inr ⟨.exit 2, [0], l2X kn kc dn dc w kk k0 k1 ia rw_ (q + 1) (blF (mT W Ls kk) (q + 1)), [no 53], 1000, .inl ⟨trivial, rfl, rfl⟩, ?_⟩
      refine Eq.mp (by kernel_rfl : (decide ((↑i : Int) < (↑i : Int)) = false ∧ ((kn = kn ∧ kc = kc) ∧ (dn = dn ∧ dc = dc) ∧ (↑w : Int) = (↑w : Int) ∧ 0 = 0 ∧ kk = kk ∧ (k0 = k0 ∧ k1 = k1 ∧ True) ∧ ia = ia ∧ (q + 1 = q + 1 ∧ blF (mT W Ls kk) (q + 1) = blF (mT W Ls kk) (q + 1) ∧ HfL (blF (mT W Ls kk) (q + 1))) ∧ True) ∧ (rw_ = rw_ ∧ HfL rw_) ∧ True) = _) ?_
      (repeat' (first | (with_reducible apply And.intro) | (refine fun (_ : True) => ?_))) <;> first | exact aq | skip
      all_goals first | rfl | skip
def smQ (F : Nat → Int) (w : Nat) : Nat → Nat
  | 0 => 0
  | v + 1 => if 0 < F v ∧ w / 2 ^ (3 + v) % 2 = 1 then smQ F w v + 1 else smQ F w v
def smF (F : Nat → Int) (w : Nat) : Nat → List Int
  | 0 => []
  | v + 1 => if 0 < F v ∧ w / 2 ^ (3 + v) % 2 = 1 then smF F w v ++ [(v : Int)] else smF F w v
theorem smF_len (F : Nat → Int) (w : Nat) : ∀ v, (smF F w v).length = smQ F w v
  | 0 => rfl
  | v + 1 => by unfold smF smQ; split <;> simp [smF_len F w v]
theorem smQ_le (F : Nat → Int) (w : Nat) : ∀ v, smQ F w v ≤ v
  | 0 => Nat.le_refl _
  | v + 1 => by have := smQ_le F w v; unfold smQ; split <;> omega
section
variable (kn : Nat) (kc : List V) (dn : Nat) (dc : List V) (w : Nat) (kk : Int) (k0 k1 ia : Int) (rw : List V) (mm : Nat) (c : List V)
abbrev l4S (F : Nat → Int) (p : Nat × Nat × List Int) : SL := { sl := cS kn kc dn dc w kk k0 k1 ia ++ [(13, .im mm c), (16, .im 64 (a64 F)), (18, owV 1 p.2.1), (70, i6 p.1)], os := .row 33 none rw :: owO p.2.2 p.2.1 }
abbrev l4X (q : Nat) (l : List Int) : SL := { sl := cS kn kc dn dc w kk k0 k1 ia ++ [(13, .im mm c), (18, .im q (ints l))], os := [.row 33 none rw] }
end
theorem sc_some (kn : Nat) (kc : List V) (dn : Nat) (dc : List V) (w : Nat) (kk : Int) (k0 k1 ia : Int) (rw_ : List V) (hrw : HfL rw_) (mm : Nat) (c : List V) (F : Nat → Int) :
    Sat Pg none 0 (at' 4 [1, 1, 1, 0, 1, 0, 0, 1, 1, 0, 0, 1, 1, 1, 1, 1, 0, 1, 0]) (mkSt g0 161 (l4S kn kc dn dc w kk k0 k1 ia rw_ mm c F (0, 0, []))) (outsP g0 161 [(True, .exit 4, l4X kn kc dn dc w kk k0 k1 ia rw_ mm c (smQ F w 5) (smF F w 5))]) := by
  refine loopC vE_ok mixed sp0_ok (b := at' 4 [1, 1, 1, 0, 1, 0, 0, 1, 1, 0, 0, 1, 1, 1, 1, 1, 0, 1, 0, 0]) (by kernel_rfl) (fun p => p.1 ≤ 5 ∧ p.2.1 = smQ F w p.1 ∧ p.2.2 = smF F w p.1) (l4S kn kc dn dc w kk k0 k1 ia rw_ mm c F) (fun p => 5 - p.1) (fun p hp => ?_) (0, 0, []) ⟨Nat.zero_le _, rfl, rfl⟩
  obtain ⟨v, q, l⟩ := p
  obtain ⟨hv, hq, hl⟩ := hp
  dsimp only at hv hq hl
  have hF := HfL_a64 F
  have l1 := smF_len F w v
  rw [← hq, ← hl] at l1
  have hle := smQ_le F w v
  rw [← hq] at hle
  by_cases hlt : v < 5
  · have hx : headF ((a64 F).drop (v * 1)) = some (i6 (F v)) := by
      have := @head64 F v (by omega)
      rw [dropF_eq] at this
      rw [Nat.mul_one]; exact this
    have hsh : binV (ctxOf Pg) .shr 5 (b8 w) (i6 ((3 + v : Nat) : Int)) = some (b8 (w / 2 ^ (3 + v))) := shr_8 (by omega)
    have han := @and1_8 (ctxOf Pg) 5 (w / 2 ^ (3 + v))
    have h3 : (3 : Int) + (v : Int) = ((3 + v : Nat) : Int) := by omega
    by_cases h1 : 0 < F v
    · by_cases h2 : w / 2 ^ (3 + v) % 2 = 1
      · have e1 : smQ F w (v + 1) = q + 1 := by rw [smQ, if_pos ⟨h1, h2⟩, hq]
        have e2 : smF F w (v + 1) = l ++ [(v : Int)] := by rw [smF, if_pos ⟨h1, h2⟩, hl]
        have a1 := ints_app l (v : Int)
        have hH1 := HfL_ints (l ++ [(v : Int)])
        rw [h2] at han
        cases q with
        | zero =>
          have z1 : l = [] := List.eq_nil_of_length_eq_zero l1
          refine .inl ⟨(v + 1, 1, l ++ [(v : Int)]), [0, 2], [yes 71, pl 75, ld 76 (i6 (F v)), yes 77, nu 81 (3 + v : Nat), va 82 (b8 (w / 2 ^ (3 + v))), va 83 (b8 1), nu 90 (v + 1 : Nat)], 1000, ⟨by dsimp only; omega, e1.symm, e2.symm⟩, by dsimp only; omega, ?_⟩
          subst z1
          clear hq hl e1 e2
          refine Eq.mp (by kernel_rfl : (decide ((↑v : Int) < (5 : Int)) = true ∧ ((0 : Int) ≤ (↑v : Int) ∧ (↑v : Int) < (↑(64 : Nat) : Int)) ∧ headF (List.drop (v * 1) (a64 F)) = some (i6 (F v)) ∧ decide (F v > (0 : Int)) = true ∧ wr IntKind.i64 ((3 : Int) + (↑v : Int)) = (↑(3 + v) : Int) ∧ binV (ctxOf Try.prog) BinOp.shr 5 (b8 w) (i6 (↑(3 + v) : Int)) = some (b8 (w / 2 ^ (3 + v))) ∧ binV (ctxOf Try.prog) BinOp.and 5 (b8 (w / 2 ^ (3 + v))) (V.int IntKind.u8 (1 : Int)) = some (b8 1) ∧ wr IntKind.i64 ((↑v : Int) + (1 : Int)) = (↑(v + 1) : Int) ∧ ((kn = kn ∧ kc = kc) ∧ (dn = dn ∧ dc = dc) ∧ (↑w : Int) = (↑w : Int) ∧ 0 = 0 ∧ kk = kk ∧ (k0 = k0 ∧ k1 = k1 ∧ True) ∧ ia = ia ∧ (mm = mm ∧ c = c) ∧ (64 = 64 ∧ a64 F = a64 F) ∧ (0 = 0 ∧ 0 + 1 = 1 ∧ True) ∧ (↑(v + 1) : Int) = (↑(v + 1) : Int) ∧ True) ∧ (rw_ = rw_ ∧ HfL rw_) ∧ (ints ([] ++ [(↑v : Int)]) = [i6 (↑v : Int)] ∧ True ∧ True) ∧ True) = _) ?_
          (repeat' (first | (with_reducible apply And.intro) | (refine fun (_ : True) => ?_)))
          all_goals first | (with_reducible exact hx) | (with_reducible exact hsh) | (with_reducible exact han) | (rw [h3]; exact wr6 (by omega) (by omega)) | (clear h3 hsh han h2; exact aq) | (clear h3 hsh han h0; exact aq) | rfl | (rw [h3]; exact wr6 (by omega) (by omega)) | exact han | skip
        | succ q =>
          refine .inl ⟨(v + 1, q + 1 + 1, l ++ [(v : Int)]), [0, 3], [yes 71, pl 75, ld 76 (i6 (F v)), yes 77, nu 81 (3 + v : Nat), va 82 (b8 (w / 2 ^ (3 + v))), va 83 (b8 1), ap 89, nu 90 (v + 1 : Nat)], 1000, ⟨by dsimp only; omega, e1.symm, e2.symm⟩, by dsimp only; omega, ?_⟩
          clear hq hl e1 e2
          refine Eq.mp (by kernel_rfl : (decide ((↑v : Int) < (5 : Int)) = true ∧ ((0 : Int) ≤ (↑v : Int) ∧ (↑v : Int) < (↑(64 : Nat) : Int)) ∧ headF (List.drop (v * 1) (a64 F)) = some (i6 (F v)) ∧ decide (F v > (0 : Int)) = true ∧ wr IntKind.i64 ((3 : Int) + (↑v : Int)) = (↑(3 + v) : Int) ∧ binV (ctxOf Try.prog) BinOp.shr 5 (b8 w) (i6 (↑(3 + v) : Int)) = some (b8 (w / 2 ^ (3 + v))) ∧ binV (ctxOf Try.prog) BinOp.and 5 (b8 (w / 2 ^ (3 + v))) (V.int IntKind.u8 (1 : Int)) = some (b8 1) ∧ List.length (ints l) = (q + 1) * 1 ∧ q + 1 + 1 ≤ 9223372036854775807 ∧ (q + 1 + 1) * 8 ≤ 140737488355328 ∧ wr IntKind.i64 ((↑v : Int) + (1 : Int)) = (↑(v + 1) : Int) ∧ ((kn = kn ∧ kc = kc) ∧ (dn = dn ∧ dc = dc) ∧ (↑w : Int) = (↑w : Int) ∧ 0 = 0 ∧ kk = kk ∧ (k0 = k0 ∧ k1 = k1 ∧ True) ∧ ia = ia ∧ (mm = mm ∧ c = c) ∧ (64 = 64 ∧ a64 F = a64 F) ∧ (0 = 0 ∧ Nat.succ q + 1 = q + 1 + 1 ∧ True) ∧ (↑(v + 1) : Int) = (↑(v + 1) : Int) ∧ True) ∧ (rw_ = rw_ ∧ HfL rw_) ∧ (ints (l ++ [(↑v : Int)]) = ints l ++ [i6 (↑v : Int)] ∧ HfL (ints (l ++ [(↑v : Int)]))) ∧ True) = _) ?_
          (repeat' (first | (with_reducible apply And.intro) | (refine fun (_ : True) => ?_)))
          all_goals first | (with_reducible exact hx) | (with_reducible exact hsh) | (with_reducible exact han) | (rw [h3]; exact wr6 (by omega) (by omega)) | (clear h3 hsh han h2; exact aq) | (clear h3 hsh han h0; exact aq) | rfl | exact a1 | (rw [ints_length]; omega) | (rw [h3]; exact wr6 (by omega) (by omega)) | exact han | skip
      · have e1 : smQ F w (v + 1) = q := by rw [smQ, if_neg (fun h => h2 h.2), hq]
        have e2 : smF F w (v + 1) = l := by rw [smF, if_neg (fun h => h2 h.2), hl]
        have hH1 := HfL_ints l
        have h0 : w / 2 ^ (3 + v) % 2 = 0 := by omega
        rw [h0] at han
        cases q with
        | zero =>
          refine .inl ⟨(v + 1, 0, l), [0], [yes 71, pl 75, ld 76 (i6 (F v)), yes 77, nu 81 (3 + v : Nat), va 82 (b8 (w / 2 ^ (3 + v))), va 83 (b8 0), nu 90 (v + 1 : Nat)], 1000, ⟨by dsimp only; omega, e1.symm, e2.symm⟩, by dsimp only; omega, ?_⟩
          clear hq hl e1 e2
          refine Eq.mp (by kernel_rfl : (decide ((↑v : Int) < (5 : Int)) = true ∧ ((0 : Int) ≤ (↑v : Int) ∧ (↑v : Int) < (↑(64 : Nat) : Int)) ∧ headF (List.drop (v * 1) (a64 F)) = some (i6 (F v)) ∧ decide (F v > (0 : Int)) = true ∧ wr IntKind.i64 ((3 : Int) + (↑v : Int)) = (↑(3 + v) : Int) ∧ binV (ctxOf Try.prog) BinOp.shr 5 (b8 w) (i6 (↑(3 + v) : Int)) = some (b8 (w / 2 ^ (3 + v))) ∧ binV (ctxOf Try.prog) BinOp.and 5 (b8 (w / 2 ^ (3 + v))) (V.int IntKind.u8 (1 : Int)) = some (b8 0) ∧ wr IntKind.i64 ((↑v : Int) + (1 : Int)) = (↑(v + 1) : Int) ∧ ((kn = kn ∧ kc = kc) ∧ (dn = dn ∧ dc = dc) ∧ (↑w : Int) = (↑w : Int) ∧ 0 = 0 ∧ kk = kk ∧ (k0 = k0 ∧ k1 = k1 ∧ True) ∧ ia = ia ∧ (mm = mm ∧ c = c) ∧ (64 = 64 ∧ a64 F = a64 F) ∧ True ∧ (↑(v + 1) : Int) = (↑(v + 1) : Int) ∧ True) ∧ (rw_ = rw_ ∧ HfL rw_) ∧ True) = _) ?_
          (repeat' (first | (with_reducible apply And.intro) | (refine fun (_ : True) => ?_)))
          all_goals first | (with_reducible exact hx) | (with_reducible exact hsh) | (with_reducible exact han) | (rw [h3]; exact wr6 (by omega) (by omega)) | (clear h3 hsh han h2; exact aq) | (clear h3 hsh han h0; exact aq) | rfl | (rw [h3]; exact wr6 (by omega) (by omega)) | exact han | skip
        | succ q =>
          refine .inl ⟨(v + 1, q + 1, l), [0, 1], [yes 71, pl 75, ld 76 (i6 (F v)), yes 77, nu 81 (3 + v : Nat), va 82 (b8 (w / 2 ^ (3 + v))), va 83 (b8 0), nu 90 (v + 1 : Nat)], 1000, ⟨by dsimp only; omega, e1.symm, e2.symm⟩, by dsimp only; omega, ?_⟩
          clear hq hl e1 e2
          refine Eq.mp (by kernel_rfl : (decide ((↑v : Int) < (5 : Int)) = true ∧ ((0 : Int) ≤ (↑v : Int) ∧ (↑v : Int) < (↑(64 : Nat) : Int)) ∧ headF (List.drop (v * 1) (a64 F)) = some (i6 (F v)) ∧ decide (F v > (0 : Int)) = true ∧ wr IntKind.i64 ((3 : Int) + (↑v : Int)) = (↑(3 + v) : Int) ∧ binV (ctxOf Try.prog) BinOp.shr 5 (b8 w) (i6 (↑(3 + v) : Int)) = some (b8 (w / 2 ^ (3 + v))) ∧ binV (ctxOf Try.prog) BinOp.and 5 (b8 (w / 2 ^ (3 + v))) (V.int IntKind.u8 (1 : Int)) = some (b8 0) ∧ wr IntKind.i64 ((↑v : Int) + (1 : Int)) = (↑(v + 1) : Int) ∧ ((kn = kn ∧ kc = kc) ∧ (dn = dn ∧ dc = dc) ∧ (↑w : Int) = (↑w : Int) ∧ 0 = 0 ∧ kk = kk ∧ (k0 = k0 ∧ k1 = k1 ∧ True) ∧ ia = ia ∧ (mm = mm ∧ c = c) ∧ (64 = 64 ∧ a64 F = a64 F) ∧ (0 = 0 ∧ q + 1 = q + 1 ∧ True) ∧ (↑(v + 1) : Int) = (↑(v + 1) : Int) ∧ True) ∧ (rw_ = rw_ ∧ HfL rw_) ∧ (ints l = ints l ∧ HfL (ints l)) ∧ True) = _) ?_
          (repeat' (first | (with_reducible apply And.intro) | (refine fun (_ : True) => ?_)))
          all_goals first | (with_reducible exact hx) | (with_reducible exact hsh) | (with_reducible exact han) | (rw [h3]; exact wr6 (by omega) (by omega)) | (clear h3 hsh han h2; exact aq) | (clear h3 hsh han h0; exact aq) | rfl | (rw [h3]; exact wr6 (by omega) (by omega)) | exact han | skip
    · have e1 : smQ F w (v + 1) = q := by rw [smQ, if_neg (fun h => h1 h.1), hq]
      have e2 : smF F w (v + 1) = l := by rw [smF, if_neg (fun h => h1 h.1), hl]
      have hH1 := HfL_ints l
      cases q with
      | zero =>
        refine .inl ⟨(v + 1, 0, l), [0], [yes 71, pl 75, ld 76 (i6 (F v)), no 77, nu 90 (v + 1 : Nat)], 1000, ⟨by dsimp only; omega, e1.symm, e2.symm⟩, by dsimp only; omega, ?_⟩
        clear hq hl e1 e2 hsh han h3
        refine Eq.mp (by kernel_rfl : (decide ((↑v : Int) < (5 : Int)) = true ∧ ((0 : Int) ≤ (↑v : Int) ∧ (↑v : Int) < (↑(64 : Nat) : Int)) ∧ headF (List.drop (v * 1) (a64 F)) = some (i6 (F v)) ∧ decide (F v > (0 : Int)) = false ∧ wr IntKind.i64 ((↑v : Int) + (1 : Int)) = (↑(v + 1) : Int) ∧ ((kn = kn ∧ kc = kc) ∧ (dn = dn ∧ dc = dc) ∧ (↑w : Int) = (↑w : Int) ∧ 0 = 0 ∧ kk = kk ∧ (k0 = k0 ∧ k1 = k1 ∧ True) ∧ ia = ia ∧ (mm = mm ∧ c = c) ∧ (64 = 64 ∧ a64 F = a64 F) ∧ True ∧ (↑(v + 1) : Int) = (↑(v + 1) : Int) ∧ True) ∧ (rw_ = rw_ ∧ HfL rw_) ∧ True) = _) ?_
        (repeat' (first | (with_reducible apply And.intro) | (refine fun (_ : True) => ?_))) <;> first | exact aq | skip
        all_goals first | exact hx | rfl | skip
      | succ q =>
        refine .inl ⟨(v + 1, q + 1, l), [0, 1], [yes 71, pl 75, ld 76 (i6 (F v)), no 77, nu 90 (v + 1 : Nat)], 1000, ⟨by dsimp only; omega, e1.symm, e2.symm⟩, by dsimp only; omega, ?_⟩
        clear hq hl e1 e2 hsh han h3
        refine Eq.mp (by kernel_rfl : (decide ((↑v : Int) < (5 : Int)) = true ∧ ((0 : Int) ≤ (↑v : Int) ∧ (↑v : Int) < (↑(64 : Nat) : Int)) ∧ headF (List.drop (v * 1) (a64 F)) = some (i6 (F v)) ∧ decide (F v > (0 : Int)) = false ∧ wr IntKind.i64 ((↑v : Int) + (1 : Int)) = (↑(v + 1) : Int) ∧ ((kn = kn ∧ kc = kc) ∧ (dn = dn ∧ dc = dc) ∧ (↑w : Int) = (↑w : Int) ∧ 0 = 0 ∧ kk = kk ∧ (k0 = k0 ∧ k1 = k1 ∧ True) ∧ ia = ia ∧ (mm = mm ∧ c = c) ∧ (64 = 64 ∧ a64 F = a64 F) ∧ (0 = 0 ∧ q + 1 = q + 1 ∧ True) ∧ (↑(v + 1) : Int) = (↑(v + 1) : Int) ∧ True) ∧ (rw_ = rw_ ∧ HfL rw_) ∧ (ints l = ints l ∧ HfL (ints l)) ∧ True) = _) ?_
        (repeat' (first | (with_reducible apply And.intro) | (refine fun (_ : True) => ?_))) <;> first | exact aq | skip
        all_goals first | exact hx | rfl | skip
  · have : v = 5 := by omega
    subst this
    rw [← hq, ← hl]
    have hH1 := HfL_ints l
    cases q with
    | zero =>
      have z1 : l = [] := List.eq_nil_of_length_eq_zero l1
      refine .inr ⟨.exit 4, [0], l4X kn kc dn dc w kk k0 k1 ia rw_ mm c 0 l, [], 1000, .inl ⟨trivial, rfl, rfl⟩, ?_⟩
      subst z1
      refine Eq.mp (by kernel_rfl : (((kn = kn ∧ kc = kc) ∧ (dn = dn ∧ dc = dc) ∧ (↑w : Int) = (↑w : Int) ∧ 0 = 0 ∧ kk = kk ∧ (k0 = k0 ∧ k1 = k1 ∧ True) ∧ ia = ia ∧ (mm = mm ∧ c = c) ∧ 0 = 0 ∧ True) ∧ (rw_ = rw_ ∧ HfL rw_) ∧ True) = _) ?_
      (repeat' (first | (with_reducible apply And.intro) | (refine fun (_ : True) => ?_))) <;> first | exact aq | skip
      all_goals first | rfl | skip
    | succ q =>
      refine .inr ⟨.exit 4, [0], l4X kn kc dn dc w kk k0 k1 ia rw_ mm c (q + 1) l, [], 1000, .inl ⟨trivial, rfl, rfl⟩, ?_⟩
      refine Eq.mp (by kernel_rfl : (((kn = kn ∧ kc = kc) ∧ (dn = dn ∧ dc = dc) ∧ (↑w : Int) = (↑w : Int) ∧ 0 = 0 ∧ kk = kk ∧ (k0 = k0 ∧ k1 = k1 ∧ True) ∧ ia = ia ∧ (mm = mm ∧ c = c) ∧ (q + 1 = q + 1 ∧ ints l = ints l ∧ HfL (ints l)) ∧ True) ∧ (rw_ = rw_ ∧ HfL rw_) ∧ True) = _) ?_
      (repeat' (first | (with_reducible apply And.intro) | (refine fun (_ : True) => ?_))) <;> first | exact aq | skip
      all_goals first | rfl | skip
end Go.Proofs.Ytgdnmgcigkhojaa.Am

namespace Go.Proofs.Ytgdnmgcigkhojaa.Am
open Go.RowKit Go.ChangeShapes Go.WideShapes
set_option linter.unusedVariables false
set_option maxRecDepth 100000
theorem no_spot {w : World} {a : Addr} {v : Value} (h : w.cell? a = some v) : a = ⟨a.block, a.off, none⟩ ∧ a.block < w.heap.size := by
  unfold World.cell? at h
  split at h
  · rename_i c e f hb
    refine ⟨?_, (Array.getElem?_eq_some_iff.1 hb).1⟩
    cases a with
    | mk b o s =>
      cases s with
      | none => rfl
      | some x => simp at h
  · cases h
theorem wf8 {n : Int} (h : (Lit.int .u8 n).wf = true) : 0 ≤ n ∧ n ≤ 255 := by
  simp only [Lit.wf, Bool.and_eq_true, decide_eq_true_eq] at h
  exact h
section
variable {H : Type} {enc : TypeId × Value → H} {w : World}
theorem trod_i {t : TypeId} {k : IntKind} {fuel : Nat} {cs : List Value} {x : DataW H × List MemPlace} (ht : Pg.underlying t = some (.int k)) (h : DataW.trod enc Pg w 0 (fun _ => true) true fuel t cs = some x) : ∃ n, cs = [.int k n] ∧ (Lit.int k n).wf = true := by
  cases fuel with
  | zero => simp [DataW.trod] at h
  | succ m =>
    obtain ⟨n, rfl, _, hw⟩ := DataW.trod_int ht h
    exact ⟨n, rfl, hw⟩
theorem RL_get : ∀ {l : List V} {cs : List Value} {s : Sig}, RL s w l cs → l.length = cs.length ∧ ∀ (j : Nat) (v : Value), cs[j]? = some v → ∃ x : V, l[j]? = some x ∧ RV s w x v
  | [], _, _, h => by subst h; exact ⟨rfl, fun j v h => (by simp at h)⟩
  | x :: l, _, s, ⟨v, vs, rfl, h1, h2⟩ => by
    obtain ⟨e, k⟩ := RL_get h2
    refine ⟨by simp [e], fun j u hu => ?_⟩
    cases j with
    | zero => exact ⟨x, rfl, by simp at hu; exact hu ▸ h1⟩
    | succ j => exact k j u (by simpa using hu)
theorem RC_of {b : Nat} (hb : b < w.heap.size) : ∀ {l : List V} {off : Nat}, (∀ j x, l[j]? = some x → ∃ v, w.cell? ⟨b, off + j, none⟩ = some v ∧ RV (sg (allB w)) w x v) → RC (sg (allB w)) w l b off
  | [], _, _ => trivial
  | x :: l, off, h => by
    obtain ⟨v, h1, h2⟩ := h 0 x rfl
    exact ⟨⟨hb, v, h1, h2⟩, RC_of hb fun j y hy => by
      obtain ⟨u, k1, k2⟩ := h (j + 1) y (by simpa using hy)
      exact ⟨u, by rw [show off + 1 + j = off + (j + 1) by omega]; exact k1, k2⟩⟩
theorem blF_get {f : Nat → List V} {s : Nat} (hs : 0 < s) : ∀ {n j : Nat} {x : V}, (∀ i, i < n → (f i).length = s) → (blF f n)[j]? = some x → j / s < n ∧ (f (j / s))[j % s]? = some x
  | 0, j, x, _, h => by rw [blF_zero] at h; simp at h
  | n + 1, j, x, hl, h => by
    have hlen : ∀ m, m ≤ n → (blF f m).length = m * s := by
      intro m
      induction m with
      | zero => intro _; rw [blF_zero]; simp
      | succ m ih => intro hm; rw [blF_succ, List.length_append, ih (by omega), hl m (by omega), Nat.succ_mul]
    rw [blF_succ] at h
    by_cases hj : j < n * s
    · rw [List.getElem?_append_left (by rw [hlen n (Nat.le_refl _)]; exact hj)] at h
      obtain ⟨a, b⟩ := blF_get hs (fun i hi => hl i (by omega)) h
      exact ⟨by omega, b⟩
    · rw [List.getElem?_append_right (by rw [hlen n (Nat.le_refl _)]; omega), hlen n (Nat.le_refl _)] at h
      have hlt : j - n * s < s := by
        have := (List.getElem?_eq_some_iff.1 h).1
        rw [hl n (by omega)] at this; exact this
      have e1 : j / s = n := by
        rw [Nat.div_eq_iff hs]; constructor
        · rw [Nat.mul_comm] at *; omega
        · have : (n + 1) * s = n * s + s := Nat.succ_mul n s
          omega
      have e2 : j % s = j - n * s := by rw [Nat.mod_eq_sub_div_mul, e1]
      rw [e1, e2]
      exact ⟨by omega, h⟩
theorem trod_blocks {t e : TypeId} {s : Nat} (hs : 0 < s) (ht : Pg.underlying t = some (.slice e)) (hce : Pg.cellsOf e = s) (Q : List V → Prop) (hQ : ∀ (fuel : Nat) (cs : List Value) (x : DataW H × List MemPlace), DataW.trod enc Pg w 0 (fun _ => true) true fuel e cs = some x → ∃ l : List V, l.length = s ∧ RL (sg (allB w)) w l cs ∧ Q l)
    {fuel : Nat} {cs : List Value} {x : DataW H × List MemPlace} (h : DataW.trod enc Pg w 0 (fun _ => true) true fuel t cs = some x) :
    ∃ (v : Value) (f : Nat → List V) (n : Nat), cs = [v] ∧ RV (sg (allB w)) w (.im n (blF f n)) v ∧ (∀ i, i < n → (f i).length = s ∧ Q (f i)) ∧ n ≤ 9223372036854775807 := by
  rcases DataW.trod_slice ht h with ⟨rfl, _⟩ | ⟨a, len, cap, elems, rest, m, _, rfl, _, _, hl, hmx, hlen, hel, _, _⟩
  · exact ⟨_, fun _ => [], 0, rfl, ⟨none, 0, rfl, Nat.le_refl _, fun h => absurd rfl h⟩, fun i hi => absurd hi (Nat.not_lt_zero _), Nat.zero_le _⟩
  · rw [hce] at hel
    have each : ∀ i : Nat, ∃ l : List V, i < len → (l.length = s ∧ Q l ∧ ∀ j x, l[j]? = some x → ∃ v, w.cell? ((a.add (i * s)).add j) = some v ∧ RV (sg (allB w)) w x v) := by
      intro i
      by_cases hi : i < len
      · have h1 := hel i hi
        rw [List.getElem?_eq_getElem (by omega)] at h1
        obtain ⟨cs', hcs, hy⟩ := Option.bind_eq_some_iff.1 h1
        obtain ⟨l, k1, k2, k3⟩ := hQ _ _ _ hy
        obtain ⟨e1, e2⟩ := RL_get k2
        refine ⟨l, fun _ => ⟨k1, k3, fun j x hx => ?_⟩⟩
        have hj : j < s := by rw [← k1]; exact (List.getElem?_eq_some_iff.1 hx).1
        have hc := (World.cells?_some hcs).2.2 j hj
        have hjl : j < cs'.length := by omega
        rw [List.getElem?_eq_getElem hjl] at hc
        obtain ⟨y, y1, y2⟩ := e2 j _ (List.getElem?_eq_getElem hjl)
        rw [hx] at y1
        cases y1
        exact ⟨_, hc, y2⟩
      · exact ⟨[], fun h => absurd h hi⟩
    obtain ⟨f, hf⟩ := Classical.axiomOfChoice each
    have hmx' : cap ≤ 9223372036854775807 := hmx
    refine ⟨_, f, len, rfl, ?_, fun i hi => ⟨(hf i hi).1, (hf i hi).2.1⟩, by omega⟩
    refine ⟨some a, cap, by simp, hl, fun hn => ?_⟩
    have h0 : 0 < len := by omega
    obtain ⟨k1, _, k3⟩ := hf 0 h0
    obtain ⟨x0, hx0⟩ : ∃ x0, (f 0)[0]? = some x0 := ⟨_, List.getElem?_eq_getElem (by omega)⟩
    obtain ⟨v0, c0, _⟩ := k3 0 x0 hx0
    obtain ⟨h1, h2⟩ := no_spot (by simpa [Addr.add] using c0)
    refine ⟨a.block, a.off, by rw [← h1], RC_of h2 fun j x hx => ?_⟩
    obtain ⟨q1, q2⟩ := blF_get hs (fun i hi => (hf i hi).1) hx
    obtain ⟨v, c1, c2⟩ := (hf _ q1).2.2 _ _ q2
    refine ⟨v, ?_, c2⟩
    rw [h1, addr_add, addr_add, Nat.add_assoc] at c1
    have e : j / s * s + j % s = j := by rw [Nat.mul_comm]; exact Nat.div_add_mod j s
    rw [e] at c1
    exact c1
theorem trod_sl {t e : TypeId} {k : IntKind} {fuel : Nat} {cs : List Value} {x : DataW H × List MemPlace} (ht : Pg.underlying t = some (.slice e)) (he : Pg.underlying e = some (.int k)) (hc : Pg.cellsOf e = 1)
    (h : DataW.trod enc Pg w 0 (fun _ => true) true fuel t cs = some x) : ∃ (v : Value) (L : List Int), cs = [v] ∧ RV (sg (allB w)) w (.im L.length (L.map (V.int k))) v ∧ (∀ n ∈ L, (Lit.int k n).wf = true) ∧ L.length ≤ 9223372036854775807 := by
  obtain ⟨v, f, n, rfl, h1, h2, h3⟩ := trod_blocks (s := 1) (by omega) ht hc (fun l => ∃ m, l = [.int k m] ∧ (Lit.int k m).wf = true) (fun fuel cs x hx => by
    obtain ⟨m, rfl, hw⟩ := trod_i he hx
    exact ⟨[.int k m], rfl, ⟨_, _, rfl, rfl, rfl⟩, m, rfl, hw⟩) h
  have : ∀ i : Nat, ∃ m : Int, i < n → f i = [.int k m] ∧ (Lit.int k m).wf = true := fun i => by
    by_cases hi : i < n
    · obtain ⟨m, e1, e2⟩ := (h2 i hi).2
      exact ⟨m, fun _ => ⟨e1, e2⟩⟩
    · exact ⟨0, fun h => absurd h hi⟩
  obtain ⟨g, hg⟩ := Classical.axiomOfChoice this
  have e : blF f n = ((List.range n).map g).map (V.int k) := by
    have : ∀ m, m ≤ n → blF f m = ((List.range m).map g).map (V.int k) := by
      intro m
      induction m with
      | zero => intro _; rfl
      | succ m ih => intro hm; rw [blF_succ, ih (by omega), (hg m (by omega)).1, List.range_succ, List.map_append, List.map_append]; rfl
    exact this n (Nat.le_refl _)
  refine ⟨v, (List.range n).map g, rfl, by rw [← e]; simpa using h1, fun m hm => ?_, by simpa using h3⟩
  obtain ⟨i, hi, rfl⟩ := List.mem_map.1 hm
  exact (hg i (List.mem_range.1 hi)).2
theorem trod_el {fuel : Nat} {cs : List Value} {x : DataW H × List MemPlace} (h : DataW.trod enc Pg w 0 (fun _ => true) true fuel 23 cs = some x) : ∃ a b : Int, cs = [.int .i64 a, .int .i64 b] := by
  obtain ⟨xs, n, _, _, hl, hlen, hfd⟩ := DataW.trod_struct Try.underlying23 h
  have hc : Pg.cellsOf 23 = 2 := by kernel_rfl
  rw [hc] at hl
  obtain ⟨c0, c1, rfl⟩ : ∃ c0 c1, cs = [c0, c1] := by
    match cs, hl with
    | [c0, c1], _ => exact ⟨c0, c1, rfl⟩
  have hlen' : xs.length = 2 := hlen
  obtain ⟨y0, y1, rfl⟩ : ∃ y0 y1, xs = [y0, y1] := by
    match xs, hlen' with
    | [y0, y1], _ => exact ⟨y0, y1, rfl⟩
  have h3 : Pg.cellsOf 3 = 1 := by kernel_rfl
  have f0 : DataW.trod enc Pg w 0 (fun _ => true) true n 3 (List.take (Pg.cellsOf 3) (List.drop 0 [c0, c1])) = some y0 := hfd 0 _ rfl
  have f1 : DataW.trod enc Pg w 0 (fun _ => true) true n 3 (List.take (Pg.cellsOf 3) (List.drop 1 [c0, c1])) = some y1 := hfd 1 _ rfl
  rw [h3] at f0 f1
  obtain ⟨k0, e0, _⟩ := trod_i Try.underlying3 (x := y0) f0
  obtain ⟨k1, e1, _⟩ := trod_i Try.underlying3 (x := y1) f1
  simp at e0 e1
  subst e0 e1
  exact ⟨k0, k1, rfl⟩
theorem trod_els {fuel : Nat} {cs : List Value} {x : DataW H × List MemPlace} (h : DataW.trod enc Pg w 0 (fun _ => true) true fuel 30 cs = some x) : ∃ (v : Value) (A B : Nat → Int) (n : Nat), cs = [v] ∧ RV (sg (allB w)) w (.im n (elF A B n)) v := by
  obtain ⟨v, f, n, rfl, h1, h2, _⟩ := trod_blocks (s := 2) (by omega) Try.underlying30 (by kernel_rfl) (fun l => ∃ a b : Int, l = [i6 a, i6 b]) (fun fuel cs x hx => by
    obtain ⟨a, b, rfl⟩ := trod_el hx
    exact ⟨[i6 a, i6 b], rfl, ⟨_, _, rfl, rfl, _, _, rfl, rfl, rfl⟩, a, b, rfl⟩) h
  have : ∀ i : Nat, ∃ q : Int × Int, i < n → f i = [i6 q.1, i6 q.2] := fun i => by
    by_cases hi : i < n
    · obtain ⟨a, b, e⟩ := (h2 i hi).2
      exact ⟨(a, b), fun _ => e⟩
    · exact ⟨(0, 0), fun h => absurd h hi⟩
  obtain ⟨g, hg⟩ := Classical.axiomOfChoice this
  refine ⟨v, fun i => (g i).1, fun i => (g i).2, n, rfl, ?_⟩
  rw [elF_bl, ← blF_congr (f := f) (fun i hi => hg i hi)]
  exact h1
theorem trod_tab {fuel : Nat} {cs : List Value} {x : DataW H × List MemPlace} (h : DataW.trod enc Pg w 0 (fun _ => true) true fuel 32 cs = some x) : ∃ (vs cl : List Int) (A B : Nat → Int) (n : Nat), RL (sg (allB w)) w [sl vs, sl cl, .im n (elF A B n)] cs := by
  obtain ⟨xs, n, _, _, hl, hlen, hfd⟩ := DataW.trod_struct Try.underlying32 h
  have hc : Pg.cellsOf 32 = 3 := by kernel_rfl
  rw [hc] at hl
  obtain ⟨c0, c1, c2, rfl⟩ : ∃ c0 c1 c2, cs = [c0, c1, c2] := by
    match cs, hl with
    | [c0, c1, c2], _ => exact ⟨c0, c1, c2, rfl⟩
  have hlen' : xs.length = 3 := hlen
  obtain ⟨y0, y1, y2, rfl⟩ : ∃ y0 y1 y2, xs = [y0, y1, y2] := by
    match xs, hlen' with
    | [y0, y1, y2], _ => exact ⟨y0, y1, y2, rfl⟩
  have h29 : Pg.cellsOf 29 = 1 := by kernel_rfl
  have h30 : Pg.cellsOf 30 = 1 := by kernel_rfl
  have f0 : DataW.trod enc Pg w 0 (fun _ => true) true n 29 (List.take (Pg.cellsOf 29) (List.drop 0 [c0, c1, c2])) = some y0 := hfd 0 _ rfl
  have f1 : DataW.trod enc Pg w 0 (fun _ => true) true n 29 (List.take (Pg.cellsOf 29) (List.drop 1 [c0, c1, c2])) = some y1 := hfd 1 _ rfl
  have f2 : DataW.trod enc Pg w 0 (fun _ => true) true n 30 (List.take (Pg.cellsOf 30) (List.drop 2 [c0, c1, c2])) = some y2 := hfd 2 _ rfl
  rw [h29] at f0 f1
  rw [h30] at f2
  obtain ⟨v0, L0, e0, r0, _⟩ := trod_sl Try.underlying29 Try.underlying3 (by kernel_rfl) (x := y0) f0
  obtain ⟨v1, L1, e1, r1, _⟩ := trod_sl Try.underlying29 Try.underlying3 (by kernel_rfl) (x := y1) f1
  obtain ⟨v2, A, B, m, e2, r2⟩ := trod_els (x := y2) f2
  simp at e0 e1 e2
  subst e0 e1 e2
  exact ⟨L0, L1, A, B, m, _, _, rfl, r0, _, _, rfl, r1, _, _, rfl, r2, rfl⟩
theorem arg_raw {v : Value} {d : DataW H} {p : List MemPlace} (hv : ∃ cs, v = .agg cs) (h : DataW.Trod enc Pg w 0 (fun _ => true) true 33 v d p) :
    ∃ (v0 c0 : List Int) (a0 b0 : Nat → Int) (n0 : Nat) (v1 c1 : List Int) (a1 b1 : Nat → Int) (n1 : Nat), RV (sg (allB w)) w (.agg [sl v0, sl c0, .im n0 (elF a0 b0 n0), sl v1, sl c1, .im n1 (elF a1 b1 n1)]) v := by
  obtain ⟨arr, rfl⟩ := hv
  obtain ⟨fuel, hf⟩ := h
  obtain ⟨xs, n, _, _, hl, hlen, hfd⟩ := DataW.trod_array Try.underlying33 hf
  have hc : Pg.cellsOf 33 = 6 := by kernel_rfl
  have h32 : Pg.cellsOf 32 = 3 := by kernel_rfl
  rw [hc] at hl
  have hcells : (Value.agg arr).cells.toList = arr.toList := rfl
  rw [hcells] at hl hfd
  obtain ⟨c0, c1, c2, c3, c4, c5, harr⟩ : ∃ c0 c1 c2 c3 c4 c5, arr.toList = [c0, c1, c2, c3, c4, c5] := by
    match arr.toList, hl with
    | [c0, c1, c2, c3, c4, c5], _ => exact ⟨c0, c1, c2, c3, c4, c5, rfl⟩
  obtain ⟨y0, y1, rfl⟩ : ∃ y0 y1, xs = [y0, y1] := by
    match xs, hlen with
    | [y0, y1], _ => exact ⟨y0, y1, rfl⟩
  have f0 := hfd 0 (by omega)
  have f1 := hfd 1 (by omega)
  rw [harr, h32] at f0 f1
  obtain ⟨w0, d0, a0, b0, n0, u0, us0, q0, r0, u1, us1, q1, r1, u2, us2, q2, r2, q3⟩ := trod_tab (x := y0) f0
  obtain ⟨w1, d1, a1, b1, n1, t0, ts0, p0, s0, t1, ts1, p1, s1, t2, ts2, p2, s2, p3⟩ := trod_tab (x := y1) f1
  simp at q0 p0
  obtain ⟨rfl, rfl⟩ := q0
  obtain ⟨rfl, rfl⟩ := p0
  simp at q1 p1
  obtain ⟨rfl, rfl⟩ := q1
  obtain ⟨rfl, rfl⟩ := p1
  simp at q2 p2
  obtain ⟨rfl, rfl⟩ := q2
  obtain ⟨rfl, rfl⟩ := p2
  refine ⟨w0, d0, a0, b0, n0, w1, d1, a1, b1, n1, arr, rfl, ?_⟩
  rw [harr]
  exact ⟨_, _, rfl, r0, _, _, rfl, r1, _, _, rfl, r2, _, _, rfl, s0, _, _, rfl, s1, _, _, rfl, s2, rfl⟩
theorem trod_dr {fuel : Nat} {cs : List Value} {x : DataW H × List MemPlace} (h : DataW.trod enc Pg w 0 (fun _ => true) true fuel 39 cs = some x) : ∃ (m : Nat) (L : List Nat), RL (sg (allB w)) w [b8 m, bL L] cs ∧ m < 256 ∧ (∀ k, k < L.length → L.getD k 0 < 256) ∧ L.length ≤ 9223372036854775807 := by
  obtain ⟨xs, n, _, _, hl, hlen, hfd⟩ := DataW.trod_struct Try.underlying39 h
  have hc : Pg.cellsOf 39 = 2 := by kernel_rfl
  rw [hc] at hl
  obtain ⟨c0, c1, rfl⟩ : ∃ c0 c1, cs = [c0, c1] := by
    match cs, hl with
    | [c0, c1], _ => exact ⟨c0, c1, rfl⟩
  have hlen' : xs.length = 2 := hlen
  obtain ⟨y0, y1, rfl⟩ : ∃ y0 y1, xs = [y0, y1] := by
    match xs, hlen' with
    | [y0, y1], _ => exact ⟨y0, y1, rfl⟩
  have h5 : Pg.cellsOf 5 = 1 := by kernel_rfl
  have h37 : Pg.cellsOf 37 = 1 := by kernel_rfl
  have f0 : DataW.trod enc Pg w 0 (fun _ => true) true n 5 (List.take (Pg.cellsOf 5) (List.drop 0 [c0, c1])) = some y0 := hfd 0 _ rfl
  have f1 : DataW.trod enc Pg w 0 (fun _ => true) true n 37 (List.take (Pg.cellsOf 37) (List.drop 1 [c0, c1])) = some y1 := hfd 1 _ rfl
  rw [h5] at f0
  rw [h37] at f1
  obtain ⟨k0, e0, w0⟩ := trod_i Try.underlying5 (x := y0) f0
  obtain ⟨v1, L, e1, r1, w1, l1⟩ := trod_sl Try.underlying37 Try.underlying5 (by kernel_rfl) (x := y1) f1
  simp at e0 e1
  subst e0 e1
  have hw0 := wf8 w0
  have eL : L.map (V.int .u8) = (L.map Int.toNat).map b8 := by
    rw [List.map_map]
    refine List.map_congr_left fun z hz => ?_
    have := wf8 (w1 z hz)
    show V.int .u8 z = V.int .u8 ((z.toNat : Nat) : Int)
    rw [Int.toNat_of_nonneg this.1]
  refine ⟨k0.toNat, L.map Int.toNat, ⟨_, _, rfl, ?_, _, _, rfl, ?_, rfl⟩, by omega, fun k hk => ?_, by simpa using l1⟩
  · show Value.int .u8 k0 = Value.int .u8 ((k0.toNat : Nat) : Int)
    rw [Int.toNat_of_nonneg hw0.1]
  · show RV _ _ (.im (L.map Int.toNat).length ((L.map Int.toNat).map b8)) _
    rw [← eL, List.length_map]
    exact r1
  · rw [List.length_map] at hk
    rw [List.getD_eq_getElem?_getD, List.getElem?_map, List.getElem?_eq_getElem hk]
    have := wf8 (w1 _ (List.getElem_mem hk))
    simp
    omega
theorem arg_drs {v : Value} {d : DataW H} {p : List MemPlace} (hv : ∃ a len cap, v = .slice a len cap) (h : DataW.Trod enc Pg w 0 (fun _ => true) true 34 v d p) :
    ∃ (n : Nat) (W : Nat → Nat) (Ls : Nat → List Nat), RV (sg (allB w)) w (.im n (blF (dtF W Ls) n)) v ∧ (∀ i, i < n → W i < 256) ∧ ∀ i, i < n → (∀ k, k < (Ls i).length → (Ls i).getD k 0 < 256) ∧ (Ls i).length ≤ 9223372036854775807 := by
  obtain ⟨a, len, cap, rfl⟩ := hv
  obtain ⟨fuel, hf⟩ := h
  obtain ⟨v, f, n, e1, h1, h2, _⟩ := trod_blocks (s := 2) (by omega) Try.underlying34 (by kernel_rfl) (fun l => ∃ q : Nat × List Nat, l = [b8 q.1, bL q.2] ∧ q.1 < 256 ∧ (∀ k, k < q.2.length → q.2.getD k 0 < 256) ∧ q.2.length ≤ 9223372036854775807) (fun fuel cs x hx => by
    obtain ⟨m, L, k1, k2, k3, k4⟩ := trod_dr hx
    exact ⟨_, rfl, k1, (m, L), rfl, k2, k3, k4⟩) hf
  simp [Value.cells] at e1
  subst e1
  have : ∀ i : Nat, ∃ q : Nat × List Nat, i < n → f i = [b8 q.1, bL q.2] ∧ q.1 < 256 ∧ (∀ k, k < q.2.length → q.2.getD k 0 < 256) ∧ q.2.length ≤ 9223372036854775807 := fun i => by
    by_cases hi : i < n
    · obtain ⟨q, hq⟩ := (h2 i hi).2
      exact ⟨q, fun _ => hq⟩
    · exact ⟨(0, []), fun h => absurd h hi⟩
  obtain ⟨g, hg⟩ := Classical.axiomOfChoice this
  refine ⟨n, fun i => (g i).1, fun i => (g i).2, ?_, fun i hi => (hg i hi).2.1, fun i hi => (hg i hi).2.2⟩
  rw [show blF (dtF (fun i => (g i).1) (fun i => (g i).2)) n = blF f n from (blF_congr fun i hi => (hg i hi).1).symm]
  exact h1
theorem arg_sl {t e : TypeId} {k : IntKind} {v : Value} {d : DataW H} {p : List MemPlace} (ht : Pg.underlying t = some (.slice e)) (he : Pg.underlying e = some (.int k)) (hc : Pg.cellsOf e = 1) (hv : ∃ a len cap, v = .slice a len cap) (h : DataW.Trod enc Pg w 0 (fun _ => true) true t v d p) :
    ∃ L : List Int, RV (sg (allB w)) w (.im L.length (L.map (V.int k))) v ∧ ∀ n ∈ L, (Lit.int k n).wf = true := by
  obtain ⟨a, len, cap, rfl⟩ := hv
  obtain ⟨fuel, hf⟩ := h
  obtain ⟨u, L, e1, h1, h2, _⟩ := trod_sl ht he hc hf
  simp [Value.cells] at e1
  subst e1
  exact ⟨L, h1, h2⟩
end
end Go.Proofs.Ytgdnmgcigkhojaa.Am

namespace Go.Proofs.Ytgdnmgcigkhojaa.Am
open Go.RowKit
set_option linter.unusedVariables false
set_option maxHeartbeats 1000000
set_option maxRecDepth 100000
def conF {α : Type} (x : α) (f : Nat → α) : Nat → α
  | 0 => x
  | i + 1 => f i
section
variable (kn : Nat) (kc : List V) (dn : Nat) (dc : List V) (w : Nat) (k0 k1 : Int) (rw : List V)
abbrev l6X (ia : Int) : SL := { sl := [(2, .im kn kc), (3, .im dn dc), (4, b8 w), (6, .ptr 0 0), (42, .agg [i6 k0, i6 k1]), (43, i6 ia)], os := [.row 33 none rw] }
end
theorem sc_three (keep some_ : List Int) (hk5 : keep.length ≤ 1000) (hs5 : some_.length ≤ 1000) (dn : Nat) (dc : List V) (w : Nat) (kk : Int) (k0 k1 ia : Int) (rw_ : List V) (hrw : HfL rw_) (mm : Nat) (hmm : mm ≤ 4)
    (V1 C1 : Nat → List Int) (A1 B1 : Nat → Nat → Int) (N1 : Nat → Nat) (h1 : ∀ i, i < mm → (V1 i).length ≤ 1000000 ∧ N1 i ≤ 1000000)
    (V2 C2 : Nat → List Int) (A2 B2 : Nat → Nat → Int) (N2 : Nat → Nat) (h2 : ∀ i, i < mm + 1 → (V2 i).length ≤ 1000000 ∧ N2 i ≤ 1000000)
    (V3 C3 : Nat → List Int) (A3 B3 : Nat → Nat → Int) (N3 : Nat → Nat) (h3 : ∀ i, i < 2 → (V3 i).length ≤ 1000000 ∧ N3 i ≤ 1000000) (k : Nat) (hk : k ≤ 3) :
    Sat Pg none 0 (at' 4 [1, 1, 1, 0, 1, 0, 0, 1, 1, 0, 0, 1, 1, 1, 1, 1, 1, 1, 0]) (mkSt g0 161 (l8X keep.length (ints keep) dn dc w kk some_.length (ints some_) k0 k1 ia mm (blF (tbF V1 C1 A1 B1 N1) mm) (mm + 1) (blF (tbF V2 C2 A2 B2 N2) (mm + 1)) (blF (tbF V3 C3 A3 B3 N3) 2) k rw_)) (outsP g0 161 [(True, .exit 6, l6X keep.length (ints keep) dn dc w k0 k1 rw_ ia)]) := by
  refine loopC vE_ok mixed sp0_ok (b := at' 4 [1, 1, 1, 0, 1, 0, 0, 1, 1, 0, 0, 1, 1, 1, 1, 1, 1, 1, 0, 0]) (by kernel_rfl) (fun k : Nat => k ≤ 3) (fun k : Nat => l8X keep.length (ints keep) dn dc w kk some_.length (ints some_) k0 k1 ia mm (blF (tbF V1 C1 A1 B1 N1) mm) (mm + 1) (blF (tbF V2 C2 A2 B2 N2) (mm + 1)) (blF (tbF V3 C3 A3 B3 N3) 2) (k : Int) rw_) (fun k => 3 - k) (fun k hk => ?_) k hk
  have l1 := sc_two keep some_ hk5 hs5 dn dc w kk k0 k1 ia mm (blF (tbF V1 C1 A1 B1 N1) mm) (mm + 1) (blF (tbF V2 C2 A2 B2 N2) (mm + 1)) (blF (tbF V3 C3 A3 B3 N3) 2) 0 mm (by omega) rw_ hrw V1 C1 A1 B1 N1 h1 0 (by omega)
  have l2 := sc_two keep some_ hk5 hs5 dn dc w kk k0 k1 ia mm (blF (tbF V1 C1 A1 B1 N1) mm) (mm + 1) (blF (tbF V2 C2 A2 B2 N2) (mm + 1)) (blF (tbF V3 C3 A3 B3 N3) 2) 1 (mm + 1) (by omega) rw_ hrw V2 C2 A2 B2 N2 h2 0 (by omega)
  have l3 := sc_two keep some_ hk5 hs5 dn dc w kk k0 k1 ia mm (blF (tbF V1 C1 A1 B1 N1) mm) (mm + 1) (blF (tbF V2 C2 A2 B2 N2) (mm + 1)) (blF (tbF V3 C3 A3 B3 N3) 2) 2 2 (by omega) rw_ hrw V3 C3 A3 B3 N3 h3 0 (by omega)
  clear h1 h2 h3
  generalize blF (tbF V1 C1 A1 B1 N1) mm = c1 at *
  generalize blF (tbF V2 C2 A2 B2 N2) (mm + 1) = c2 at *
  generalize blF (tbF V3 C3 A3 B3 N3) 2 = c3 at *
  rcases (show k = 0 ∨ k = 1 ∨ k = 2 ∨ k = 3 by omega) with rfl | rfl | rfl | rfl
  · refine .inl ⟨1, [0], [(0, .loop [0] (l8S keep.length (ints keep) dn dc w kk some_.length (ints some_) k0 k1 ia mm c1 (mm + 1) c2 c3 0 mm c1 rw_ (0 : Nat)) [(True, .exit 8, l8X keep.length (ints keep) dn dc w kk some_.length (ints some_) k0 k1 ia mm c1 (mm + 1) c2 c3 0 rw_)])], 1000, by omega, by omega, ?_⟩
    refine Eq.mp (by kernel_rfl : ((((List.length keep = List.length keep ∧ ints keep = ints keep) ∧ (dn = dn ∧ dc = dc) ∧ (↑w : Int) = (↑w : Int) ∧ 0 = 0 ∧ kk = kk ∧ (List.length some_ = List.length some_ ∧ ints some_ = ints some_) ∧ (k0 = k0 ∧ k1 = k1 ∧ True) ∧ ia = ia ∧ ((mm = mm ∧ c1 = c1) ∧ (mm + 1 = mm + 1 ∧ c2 = c2) ∧ (2 = 2 ∧ c3 = c3) ∧ True) ∧ (0 : Int) = (↑(0 : Nat) : Int) ∧ (mm = mm ∧ c1 = c1) ∧ ((List.length keep = List.length keep ∧ ints keep = ints keep) ∧ (List.length some_ = List.length some_ ∧ ints some_ = ints some_) ∧ True) ∧ (↑(0 : Nat) : Int) = (0 : Int) ∧ True) ∧ (rw_ = rw_ ∧ HfL rw_) ∧ True) ∧ Sat Try.prog none 0 (at' 4 [1, 1, 1, 0, 1, 0, 0, 1, 1, 0, 0, 1, 1, 1, 1, 1, 1, 1, 0, 0, 1, 1, 0, 0, 1, 1, 0]) (mkSt g0 161 (l8S (List.length keep) (ints keep) dn dc w kk (List.length some_) (ints some_) k0 k1 ia mm c1 (mm + 1) c2 c3 (0 : Int) mm c1 rw_ (↑(0 : Nat) : Int))) (outsP g0 161 [(True, Ex.exit 8, l8X (List.length keep) (ints keep) dn dc w kk (List.length some_) (ints some_) k0 k1 ia mm c1 (mm + 1) c2 c3 (0 : Int) rw_)]) ∧ (True → ((List.length keep = List.length keep ∧ ints keep = ints keep) ∧ (dn = dn ∧ dc = dc) ∧ (↑w : Int) = (↑w : Int) ∧ 0 = 0 ∧ kk = kk ∧ (List.length some_ = List.length some_ ∧ ints some_ = ints some_) ∧ (k0 = k0 ∧ k1 = k1 ∧ True) ∧ ia = ia ∧ ((mm = mm ∧ c1 = c1) ∧ (mm + 1 = mm + 1 ∧ c2 = c2) ∧ (2 = 2 ∧ c3 = c3) ∧ True) ∧ (↑(1 : Nat) : Int) = wr IntKind.i64 ((0 : Int) + (1 : Int)) ∧ True) ∧ (rw_ = rw_ ∧ HfL rw_) ∧ True) ∧ True) = _) ?_
    (repeat' (first | (with_reducible apply And.intro) | (refine fun (_ : True) => ?_))) <;> first | exact aq | skip
    all_goals first | exact l1 | exact l2 | exact l3 | rfl | skip
  · refine .inl ⟨2, [0], [(0, .loop [0] (l8S keep.length (ints keep) dn dc w kk some_.length (ints some_) k0 k1 ia mm c1 (mm + 1) c2 c3 1 (mm + 1) c2 rw_ (0 : Nat)) [(True, .exit 8, l8X keep.length (ints keep) dn dc w kk some_.length (ints some_) k0 k1 ia mm c1 (mm + 1) c2 c3 1 rw_)])], 1000, by omega, by omega, ?_⟩
    refine Eq.mp (by kernel_rfl : ((((List.length keep = List.length keep ∧ ints keep = ints keep) ∧ (dn = dn ∧ dc = dc) ∧ (↑w : Int) = (↑w : Int) ∧ 0 = 0 ∧ kk = kk ∧ (List.length some_ = List.length some_ ∧ ints some_ = ints some_) ∧ (k0 = k0 ∧ k1 = k1 ∧ True) ∧ ia = ia ∧ ((mm = mm ∧ c1 = c1) ∧ (mm + 1 = mm + 1 ∧ c2 = c2) ∧ (2 = 2 ∧ c3 = c3) ∧ True) ∧ (1 : Int) = (↑(1 : Nat) : Int) ∧ (mm + 1 = mm + 1 ∧ c2 = c2) ∧ ((List.length keep = List.length keep ∧ ints keep = ints keep) ∧ (List.length some_ = List.length some_ ∧ ints some_ = ints some_) ∧ True) ∧ (↑(0 : Nat) : Int) = (0 : Int) ∧ True) ∧ (rw_ = rw_ ∧ HfL rw_) ∧ True) ∧ Sat Try.prog none 0 (at' 4 [1, 1, 1, 0, 1, 0, 0, 1, 1, 0, 0, 1, 1, 1, 1, 1, 1, 1, 0, 0, 1, 1, 0, 0, 1, 1, 0]) (mkSt g0 161 (l8S (List.length keep) (ints keep) dn dc w kk (List.length some_) (ints some_) k0 k1 ia mm c1 (mm + 1) c2 c3 (1 : Int) (mm + 1) c2 rw_ (↑(0 : Nat) : Int))) (outsP g0 161 [(True, Ex.exit 8, l8X (List.length keep) (ints keep) dn dc w kk (List.length some_) (ints some_) k0 k1 ia mm c1 (mm + 1) c2 c3 (1 : Int) rw_)]) ∧ (True → ((List.length keep = List.length keep ∧ ints keep = ints keep) ∧ (dn = dn ∧ dc = dc) ∧ (↑w : Int) = (↑w : Int) ∧ 0 = 0 ∧ kk = kk ∧ (List.length some_ = List.length some_ ∧ ints some_ = ints some_) ∧ (k0 = k0 ∧ k1 = k1 ∧ True) ∧ ia = ia ∧ ((mm = mm ∧ c1 = c1) ∧ (mm + 1 = mm + 1 ∧ c2 = c2) ∧ (2 = 2 ∧ c3 = c3) ∧ True) ∧ (↑(2 : Nat) : Int) = wr IntKind.i64 ((1 : Int) + (1 : Int)) ∧ True) ∧ (rw_ = rw_ ∧ HfL rw_) ∧ True) ∧ True) = _) ?_
    (repeat' (first | (with_reducible apply And.intro) | (refine fun (_ : True) => ?_))) <;> first | exact aq | skip
    all_goals first | exact l1 | exact l2 | exact l3 | rfl | skip
  · refine .inl ⟨3, [0], [(0, .loop [0] (l8S keep.length (ints keep) dn dc w kk some_.length (ints some_) k0 k1 ia mm c1 (mm + 1) c2 c3 2 2 c3 rw_ (0 : Nat)) [(True, .exit 8, l8X keep.length (ints keep) dn dc w kk some_.length (ints some_) k0 k1 ia mm c1 (mm + 1) c2 c3 2 rw_)])], 1000, by omega, by omega, ?_⟩
    refine Eq.mp (by kernel_rfl : ((((List.length keep = List.length keep ∧ ints keep = ints keep) ∧ (dn = dn ∧ dc = dc) ∧ (↑w : Int) = (↑w : Int) ∧ 0 = 0 ∧ kk = kk ∧ (List.length some_ = List.length some_ ∧ ints some_ = ints some_) ∧ (k0 = k0 ∧ k1 = k1 ∧ True) ∧ ia = ia ∧ ((mm = mm ∧ c1 = c1) ∧ (mm + 1 = mm + 1 ∧ c2 = c2) ∧ (2 = 2 ∧ c3 = c3) ∧ True) ∧ (2 : Int) = (↑(2 : Nat) : Int) ∧ (2 = 2 ∧ c3 = c3) ∧ ((List.length keep = List.length keep ∧ ints keep = ints keep) ∧ (List.length some_ = List.length some_ ∧ ints some_ = ints some_) ∧ True) ∧ (↑(0 : Nat) : Int) = (0 : Int) ∧ True) ∧ (rw_ = rw_ ∧ HfL rw_) ∧ True) ∧ Sat Try.prog none 0 (at' 4 [1, 1, 1, 0, 1, 0, 0, 1, 1, 0, 0, 1, 1, 1, 1, 1, 1, 1, 0, 0, 1, 1, 0, 0, 1, 1, 0]) (mkSt g0 161 (l8S (List.length keep) (ints keep) dn dc w kk (List.length some_) (ints some_) k0 k1 ia mm c1 (mm + 1) c2 c3 (2 : Int) 2 c3 rw_ (↑(0 : Nat) : Int))) (outsP g0 161 [(True, Ex.exit 8, l8X (List.length keep) (ints keep) dn dc w kk (List.length some_) (ints some_) k0 k1 ia mm c1 (mm + 1) c2 c3 (2 : Int) rw_)]) ∧ (True → ((List.length keep = List.length keep ∧ ints keep = ints keep) ∧ (dn = dn ∧ dc = dc) ∧ (↑w : Int) = (↑w : Int) ∧ 0 = 0 ∧ kk = kk ∧ (List.length some_ = List.length some_ ∧ ints some_ = ints some_) ∧ (k0 = k0 ∧ k1 = k1 ∧ True) ∧ ia = ia ∧ ((mm = mm ∧ c1 = c1) ∧ (mm + 1 = mm + 1 ∧ c2 = c2) ∧ (2 = 2 ∧ c3 = c3) ∧ True) ∧ (↑(3 : Nat) : Int) = wr IntKind.i64 ((2 : Int) + (1 : Int)) ∧ True) ∧ (rw_ = rw_ ∧ HfL rw_) ∧ True) ∧ True) = _) ?_
    (repeat' (first | (with_reducible apply And.intro) | (refine fun (_ : True) => ?_))) <;> first | exact aq | skip
    all_goals first | exact l1 | exact l2 | exact l3 | rfl | skip
  · refine .inr ⟨.exit 6, [0], l6X keep.length (ints keep) dn dc w k0 k1 rw_ ia, [], 1000, .inl ⟨trivial, rfl, rfl⟩, ?_⟩
    refine Eq.mp (by kernel_rfl : (((List.length keep = List.length keep ∧ ints keep = ints keep) ∧ (dn = dn ∧ dc = dc) ∧ (↑w : Int) = (↑w : Int) ∧ 0 = 0 ∧ (k0 = k0 ∧ k1 = k1 ∧ True) ∧ ia = ia ∧ True) ∧ (rw_ = rw_ ∧ HfL rw_) ∧ True) = _) ?_
    (repeat' (first | (with_reducible apply And.intro) | (refine fun (_ : True) => ?_))) <;> first | exact aq | skip
    all_goals first | rfl | skip
abbrev rwL (v0 c0 : List Int) (n0 : Nat) (a0 b0 : Nat → Int) (v1 c1 : List Int) (n1 : Nat) (a1 b1 : Nat → Int) : List V := [sl v0, sl c0, .im n0 (elF a0 b0 n0), sl v1, sl c1, .im n1 (elF a1 b1 n1)]
theorem ty34 : ∃ ti tj, vE.G.ty 34 = some ti ∧ ti.desc = .slice 39 ∧ vE.G.ty 39 = some tj ∧ tj.size = 2 := by
  have h : (vE.G.ty 34).map TI.desc = some (.slice 39) := by kernel_rfl
  have h2 : (vE.G.ty 39).map TI.size = some 2 := by kernel_rfl
  cases e : vE.G.ty 34 with
  | none => rw [e] at h; cases h
  | some ti =>
    cases e2 : vE.G.ty 39 with
    | none => rw [e2] at h2; cases h2
    | some tj => rw [e] at h; rw [e2] at h2; exact ⟨ti, tj, rfl, Option.some.inj h, rfl, Option.some.inj h2⟩
theorem cut_drafts (W : Nat → Nat) (Ls : Nat → List Nat) (n m : Nat) (hm : m ≤ n) : sliceV vE.G 34 (V.im n (blF (dtF W Ls) n)) none (some (m : Int)) none = some (.im m (blF (dtF W Ls) m)) := by
  obtain ⟨ti, tj, h1, h2, h3, h4⟩ := ty34
  obtain ⟨d, a1, a2, a3, a4⟩ := ti
  dsimp only at h2
  subst h2
  unfold sliceV
  simp only [h1, h3, h4, Option.getD_none, Option.getD_some, Option.isNone_none, and_true]
  rw [if_pos (by omega)]
  by_cases h0 : (0 : Int) = m
  · rw [if_pos h0, show m = 0 by omega]; rfl
  · rw [if_neg h0]
    congr 1
    congr 1
    simp only [Int.toNat_zero, Nat.zero_mul, List.drop_zero, Int.toNat_natCast, Nat.sub_zero]
    rw [show n = m + (n - m) by omega, blF_add, List.take_append_of_le_length (by rw [blF_len (dtF_len W Ls)]; omega), List.take_of_length_le (by rw [blF_len (dtF_len W Ls)]; omega)]
theorem d_tab (w : Nat) : TabOk (dV w 5) (dC w 5) := by
  have h5 := dQ_le w 5
  refine ⟨by rw [dV_len, dC_len], by rw [dC_len]; omega, fun j hj => ?_⟩
  rw [dC_len] at hj
  have key : ∀ v, ∀ j, j < dQ w v → 0 ≤ (dV w v).getD j 0 ∧ (dV w v).getD j 0 < v := by
    intro v
    induction v with
    | zero => intro j h; exact absurd h (Nat.not_lt_zero _)
    | succ v ih =>
      intro j h
      have l := dV_len w v
      rw [dQ] at h
      rw [dV]
      split
      · rename_i hb
        rw [if_pos hb] at h
        by_cases e : j = dQ w v
        · rw [e, ← l, getD_last]; omega
        · rw [getD_app (by omega)]; have := ih j (by omega); omega
      · rename_i hb
        rw [if_neg hb] at h
        have := ih j h; omega
  have := key 5 j hj
  omega
theorem dN_le (w : Nat) : dN w ≤ 4096 := by
  have := goodT_bd (d_good w)
  unfold dN; omega
end Go.Proofs.Ytgdnmgcigkhojaa.Am

namespace Go.Proofs.Ytgdnmgcigkhojaa.Am
open Go.RowKit
set_option linter.unusedVariables false
set_option maxHeartbeats 1000000
set_option maxRecDepth 100000
theorem ints_inj {L M : List Int} (h : ints L = ints M) : L = M := by
  induction L generalizing M with
  | nil => cases M with
    | nil => rfl
    | cons b M => cases h
  | cons a L ih => cases M with
    | nil => cases h
    | cons b M =>
      simp only [ints, List.map_cons, List.cons.injEq] at h
      obtain ⟨h1, h2⟩ := h
      injection h1 with h3 h4
      rw [h4, ih h2]
theorem sl_inj {L M : List Int} (h : sl L = sl M) : L = M := by
  injection h with h1 h2
  exact ints_inj h2
theorem cut_same {v0 c0 : List Int} {n0 : Nat} {a0 b0 : Nat → Int} {v1 c1 : List Int} {n1 : Nat} {a1 b1 : Nat → Int} (h : [V.agg [sl v0, sl c0, V.im n0 (elF a0 b0 n0)]] = [V.agg [sl v1, sl c1, V.im n1 (elF a1 b1 n1)]]) :
    sl (v0.take 3) = sl (v1.take 3) ∧ sl (c0.take 3) = sl (c1.take 3) ∧ V.im (min n0 20) (elF a0 b0 (min n0 20)) = V.im (min n1 20) (elF a1 b1 (min n1 20)) := by
  have h1 := V.agg.inj (List.cons.inj h).1
  obtain ⟨e1, h2⟩ := List.cons.inj h1
  obtain ⟨e2, h3⟩ := List.cons.inj h2
  obtain ⟨e3, _⟩ := List.cons.inj h3
  obtain ⟨e4, e5⟩ := V.im.inj e3
  have q1 := sl_inj e1
  have q2 := sl_inj e2
  subst q1 q2 e4
  refine ⟨rfl, rfl, ?_⟩
  rw [← elF_take a0 b0 (Nat.min_le_left n0 20), ← elF_take a1 b1 (Nat.min_le_left n0 20), e5]
theorem sc_kind (keep : List Int) (hk5 : keep.length ≤ 5) (dn : Nat) (W : Nat → Nat) (Ls : Nat → List Nat) (hW : ∀ i, i < dn → W i < 256) (hLs : ∀ i, i < dn → (∀ k, k < (Ls i).length → (Ls i).getD k 0 < 256) ∧ (Ls i).length ≤ 9223372036854775807) (w : Nat) (hw : w < 256) (kk k0 k1 : Int) (ia : Nat) (hia : ia < 2) (hidx : idxV (ctxOf Pg) 35 (.agg [i6 k0, i6 k1]) (ia : Int) = some (i6 kk))
    (v0 c0 : List Int) (n0 : Nat) (a0 b0 : Nat → Int) (v1 c1 : List Int) (n1 : Nat) (a1 b1 : Nat → Int) :
    ∃ hs, vc Pg vE sp0 none 0 1000 (at' 4 [1, 1, 1, 0, 1, 0, 0]) hs
      (mkSt g0 161 (l6X keep.length (ints keep) dn (blF (dtF W Ls) dn) w k0 k1 (rwL v0 c0 n0 a0 b0 v1 c1 n1 a1 b1) ia)) (kNext 0 161 [0] (l6X keep.length (ints keep) dn (blF (dtF W Ls) dn) w k0 k1 (rwL v0 c0 n0 a0 b0 v1 c1 n1 a1 b1) ((ia + 1 : Nat) : Int))) := by
  have hrw : HfL (rwL v0 c0 n0 a0 b0 v1 c1 n1 a1 b1) := ⟨trivial, trivial, trivial, trivial, trivial, trivial, trivial⟩
  have l2 := sc_made keep.length (ints keep) dn (blF (dtF W Ls) dn) w kk k0 k1 ia (rwL v0 c0 n0 a0 b0 v1 c1 n1 a1 b1) hrw W Ls (min dn 4) (by omega) (fun i hi => hW i (by omega)) (fun i hi => hLs i (by omega))
  have hmm : (if 1 ≤ kk ∧ kk ≤ 5 then min dn 4 else 0) ≤ 4 := by split <;> omega
  generalize (if 1 ≤ kk ∧ kk ≤ 5 then min dn 4 else 0) = mm at *
  have hcd := rcards_fn (mV W) (mC W) (mA Ls kk) (mB Ls kk) (mN W) mm (by omega) (fun i _ => d_tab (W i))
  have l4 := fun c => sc_some keep.length (ints keep) dn (blF (dtF W Ls) dn) w kk k0 k1 ia (rwL v0 c0 n0 a0 b0 v1 c1 n1 a1 b1) hrw mm c (raF (mV W) (mC W) mm)
  have hsl := smF_len (raF (mV W) (mC W) mm) w 5
  have hsq := smQ_le (raF (mV W) (mC W) mm) w 5
  rw [← hsl] at l4
  have t0 := tcut_fn v0 c0 a0 b0 n0
  have t1 := tcut_fn v1 c1 a1 b1 n1
  have hMd : ∀ i, (mV W i).length ≤ 1000000 ∧ mN W i ≤ 1000000 := fun i => ⟨by rw [dV_len]; have := dQ_le (W i) 5; omega, by have := dN_le (W i); show dN (W i) ≤ _; omega⟩
  have l6 := sc_three keep (smF (raF (mV W) (mC W) mm) w 5) (by omega) (by omega) dn (blF (dtF W Ls) dn) w kk k0 k1 ia (rwL v0 c0 n0 a0 b0 v1 c1 n1 a1 b1) hrw mm hmm (mV W) (mC W) (mA Ls kk) (mB Ls kk) (mN W) (fun i _ => hMd i)
    (conF (v0.take 3) (mV W)) (conF (c0.take 3) (mC W)) (conF a0 (mA Ls kk)) (conF b0 (mB Ls kk)) (conF (min n0 20) (mN W)) (fun i _ => by
      cases i with
      | zero => exact ⟨by show (v0.take 3).length ≤ _; simp; omega, by show min n0 20 ≤ _; omega⟩
      | succ i => exact hMd i)
    (conF (v0.take 3) (fun _ => v1.take 3)) (conF (c0.take 3) (fun _ => c1.take 3)) (conF a0 (fun _ => a1)) (conF b0 (fun _ => b1)) (conF (min n0 20) (fun _ => min n1 20)) (fun i _ => by
      cases i with
      | zero => exact ⟨by show (v0.take 3).length ≤ _; simp; omega, by show min n0 20 ≤ _; omega⟩
      | succ i => exact ⟨by show (v1.take 3).length ≤ _; simp; omega, by show min n1 20 ≤ _; omega⟩) 0 (by omega)
  have hct := cut_drafts W Ls dn (min dn 4) (Nat.min_le_left _ _)
  have hH1 := HfL_ints (v0.take 3)
  have hH2 := HfL_ints (c0.take 3)
  have hH3 := HfL_ints (v1.take 3)
  have hH4 := HfL_ints (c1.take 3)
  have hD := HfL_blF (HfL_dtF W Ls) dn
  have hD2 := HfL_blF (HfL_dtF W Ls) (min dn 4)
  have hsm := HfL_ints (smF (raF (mV W) (mC W) mm) w 5)
  clear hW hLs hMd hsl
  generalize smF (raF (mV W) (mC W) mm) w 5 = so at *
  generalize raF (mV W) (mC W) mm = F at *
  generalize raG (mV W) (mC W) mm = g at *
  have hF := HfL_a64 F
  rcases (show mm = 0 ∨ mm = 1 ∨ mm = 2 ∨ mm = 3 ∨ mm = 4 by omega) with rfl | rfl | rfl | rfl | rfl
  · refine ⟨[yes 44, va 45 (i6 kk), nu 49 ((min dn 4 : Nat) : Int), va 50 (.im (min dn 4) (blF (dtF W Ls) (min dn 4))), (0, .loop [0] (l2S keep.length (ints keep) dn (blF (dtF W Ls) dn) w kk k0 k1 ia (rwL v0 c0 n0 a0 b0 v1 c1 n1 a1 b1) W Ls (min dn 4) (0, 0)) [(True, .exit 2, l2X keep.length (ints keep) dn (blF (dtF W Ls) dn) w kk k0 k1 ia (rwL v0 c0 n0 a0 b0 v1 c1 n1 a1 b1) 0 (blF (mT W Ls kk) 0))]), fn 67 (.tup [.im 64 (a64 F), .bool g]), (0, .loop [0] (l4S keep.length (ints keep) dn (blF (dtF W Ls) dn) w kk k0 k1 ia (rwL v0 c0 n0 a0 b0 v1 c1 n1 a1 b1) 0 (blF (mT W Ls kk) 0) F (0, 0, [])) [(True, .exit 4, l4X keep.length (ints keep) dn (blF (dtF W Ls) dn) w kk k0 k1 ia (rwL v0 c0 n0 a0 b0 v1 c1 n1 a1 b1) 0 (blF (mT W Ls kk) 0) so.length so)]), fn 94 (.agg [sl (v0.take 3), sl (c0.take 3), .im (min n0 20) (elF a0 b0 (min n0 20))]), fn 100 (.agg [sl (v0.take 3), sl (c0.take 3), .im (min n0 20) (elF a0 b0 (min n0 20))]), fn 103 (.agg [sl (v1.take 3), sl (c1.take 3), .im (min n1 20) (elF a1 b1 (min n1 20))]), (0, .loop [0] (l8X keep.length (ints keep) dn (blF (dtF W Ls) dn) w kk so.length (ints so) k0 k1 ia 0 (blF (mT W Ls kk) 0) (0 + 1) (blF (tbF (conF (v0.take 3) (mV W)) (conF (c0.take 3) (mC W)) (conF a0 (mA Ls kk)) (conF b0 (mB Ls kk)) (conF (min n0 20) (mN W))) (0 + 1)) (blF (tbF (conF (v0.take 3) (fun _ => v1.take 3)) (conF (c0.take 3) (fun _ => c1.take 3)) (conF a0 (fun _ => a1)) (conF b0 (fun _ => b1)) (conF (min n0 20) (fun _ => min n1 20))) 2) (0 : Nat) (rwL v0 c0 n0 a0 b0 v1 c1 n1 a1 b1)) [(True, .exit 6, l6X keep.length (ints keep) dn (blF (dtF W Ls) dn) w k0 k1 (rwL v0 c0 n0 a0 b0 v1 c1 n1 a1 b1) ia)]), nu 160 (ia + 1 : Nat)], ?_⟩
    refine Eq.mp (by kernel_rfl : (decide ((↑ia : Int) < (2 : Int)) = true ∧ idxV (ctxOf Try.prog) 35 (V.agg [i6 k0, i6 k1]) (↑ia : Int) = some (i6 kk) ∧ (if (4 : Int) < (↑dn : Int) then (4 : Int) else (↑dn : Int)) = (↑(min dn 4) : Int) ∧ sliceV (ctxOf Try.prog) 34 (V.im dn (blF (dtF W Ls) dn)) none (some (↑(min dn 4) : Int)) none = some (V.im (min dn 4) (blF (dtF W Ls) (min dn 4))) ∧ (((List.length keep = List.length keep ∧ ints keep = ints keep) ∧ (dn = dn ∧ blF (dtF W Ls) dn = blF (dtF W Ls) dn) ∧ (↑w : Int) = (↑w : Int) ∧ 0 = 0 ∧ kk = kk ∧ (k0 = k0 ∧ k1 = k1 ∧ True) ∧ (↑ia : Int) = (↑ia : Int) ∧ True ∧ (min dn 4 = min dn 4 ∧ blF (dtF W Ls) (min dn 4) = blF (dtF W Ls) (min dn 4)) ∧ (↑(min dn 4) : Int) = (↑(min dn 4) : Int) ∧ (↑(0 : Nat) : Int) = (0 : Int) ∧ True) ∧ (rwL v0 c0 n0 a0 b0 v1 c1 n1 a1 b1 = rwL v0 c0 n0 a0 b0 v1 c1 n1 a1 b1 ∧ TT 6) ∧ True) ∧ Sat Pg none 0 (at' 4 [1, 1, 1, 0, 1, 0, 0, 1, 1, 0, 0, 1, 1, 0, 1, 0]) (mkSt g0 161 (l2S (List.length keep) (ints keep) dn (blF (dtF W Ls) dn) w kk k0 k1 (↑ia : Int) (rwL v0 c0 n0 a0 b0 v1 c1 n1 a1 b1) W Ls (min dn 4) (0, 0))) (outsP g0 161 [(True, Ex.exit 2, l2X (List.length keep) (ints keep) dn (blF (dtF W Ls) dn) w kk k0 k1 (↑ia : Int) (rwL v0 c0 n0 a0 b0 v1 c1 n1 a1 b1) 0 (blF (mT W Ls kk) 0))]) ∧ (True → (True ∧ True) ∧ FnOk Pg g0 13 [V.im 0 (blF (mT W Ls kk) 0)] (V.tup [V.im 64 (a64 F), V.bool g]) ∧ True ∧ (((List.length keep = List.length keep ∧ ints keep = ints keep) ∧ (dn = dn ∧ blF (dtF W Ls) dn = blF (dtF W Ls) dn) ∧ (↑w : Int) = (↑w : Int) ∧ 0 = 0 ∧ kk = kk ∧ (k0 = k0 ∧ k1 = k1 ∧ True) ∧ (↑ia : Int) = (↑ia : Int) ∧ (0 = 0 ∧ blF (mT W Ls kk) 0 = blF (mT W Ls kk) 0) ∧ (64 = 64 ∧ a64 F = a64 F) ∧ True ∧ (↑(0 : Nat) : Int) = (0 : Int) ∧ True) ∧ (rwL v0 c0 n0 a0 b0 v1 c1 n1 a1 b1 = rwL v0 c0 n0 a0 b0 v1 c1 n1 a1 b1 ∧ TT 6) ∧ True) ∧ Sat Pg none 0 (at' 4 [1, 1, 1, 0, 1, 0, 0, 1, 1, 0, 0, 1, 1, 1, 1, 1, 0, 1, 0]) (mkSt g0 161 (l4S (List.length keep) (ints keep) dn (blF (dtF W Ls) dn) w kk k0 k1 (↑ia : Int) (rwL v0 c0 n0 a0 b0 v1 c1 n1 a1 b1) 0 (blF (mT W Ls kk) 0) F (0, 0, []))) (outsP g0 161 [(True, Ex.exit 4, l4X (List.length keep) (ints keep) dn (blF (dtF W Ls) dn) w kk k0 k1 (↑ia : Int) (rwL v0 c0 n0 a0 b0 v1 c1 n1 a1 b1) 0 (blF (mT W Ls kk) 0) (List.length so) so)]) ∧ (True → ((TT 3) ∧ True) ∧ FnOk Pg g0 14 [V.agg [V.im (List.length v0) (ints v0), V.im (List.length c0) (ints c0), V.im n0 (elF a0 b0 n0)]] (V.agg [sl (List.take 3 v0), sl (List.take 3 c0), V.im (min n0 20) (elF a0 b0 (min n0 20))]) ∧ True ∧ ((TT 3) ∧ True) ∧ FnOk Pg g0 14 [V.agg [V.im (List.length v0) (ints v0), V.im (List.length c0) (ints c0), V.im n0 (elF a0 b0 n0)]] (V.agg [sl (List.take 3 v0), sl (List.take 3 c0), V.im (min n0 20) (elF a0 b0 (min n0 20))]) ∧ ((V.fn 14 [] = V.fn 14 [] → [V.agg [sl v0, sl c0, V.im n0 (elF a0 b0 n0)]] = [V.agg [sl v0, sl c0, V.im n0 (elF a0 b0 n0)]] → ofOs T.e 0 [O.row 33 none (rwL v0 c0 n0 a0 b0 v1 c1 n1 a1 b1)] = pt (ofOs T.e 0 [O.row 33 none (rwL v0 c0 n0 a0 b0 v1 c1 n1 a1 b1)]) 1 (O.row 32 none [sl (List.take 3 v0), sl (List.take 3 c0), V.im (min n0 20) (elF a0 b0 (min n0 20))]) → 1 = 1 + 1 → CR.mk (V.agg [sl (List.take 3 v0), sl (List.take 3 c0), V.im (min n0 20) (elF a0 b0 (min n0 20))]) (ofOs T.e 0 [O.row 33 none (rwL v0 c0 n0 a0 b0 v1 c1 n1 a1 b1)]) 1 [] = CR.mk (V.agg [sl (List.take 3 v0), sl (List.take 3 c0), V.im (min n0 20) (elF a0 b0 (min n0 20))]) (pt (ofOs T.e 0 [O.row 33 none (rwL v0 c0 n0 a0 b0 v1 c1 n1 a1 b1)]) 1 (O.row 32 none [sl (List.take 3 v0), sl (List.take 3 c0), V.im (min n0 20) (elF a0 b0 (min n0 20))])) (1 + 1) []) ∧ True) ∧ ((TT 3) ∧ True) ∧ FnOk Pg g0 14 [V.agg [V.im (List.length v1) (ints v1), V.im (List.length c1) (ints c1), V.im n1 (elF a1 b1 n1)]] (V.agg [sl (List.take 3 v1), sl (List.take 3 c1), V.im (min n1 20) (elF a1 b1 (min n1 20))]) ∧ ((V.fn 14 [] = V.fn 14 [] → [V.agg [sl v0, sl c0, V.im n0 (elF a0 b0 n0)]] = [V.agg [sl v1, sl c1, V.im n1 (elF a1 b1 n1)]] → pt (ofOs T.e 0 [O.row 33 none (rwL v0 c0 n0 a0 b0 v1 c1 n1 a1 b1)]) 1 (O.row 32 none [sl (List.take 3 v0), sl (List.take 3 c0), V.im (min n0 20) (elF a0 b0 (min n0 20))]) = pt (ofOs T.e 0 [O.row 33 none (rwL v0 c0 n0 a0 b0 v1 c1 n1 a1 b1)]) 1 (O.row 32 none [sl (List.take 3 v0), sl (List.take 3 c0), V.im (min n0 20) (elF a0 b0 (min n0 20))]) → 1 + 1 = 1 + 1 → CR.mk (V.agg [sl (List.take 3 v0), sl (List.take 3 c0), V.im (min n0 20) (elF a0 b0 (min n0 20))]) (pt (ofOs T.e 0 [O.row 33 none (rwL v0 c0 n0 a0 b0 v1 c1 n1 a1 b1)]) 1 (O.row 32 none [sl (List.take 3 v0), sl (List.take 3 c0), V.im (min n0 20) (elF a0 b0 (min n0 20))])) (1 + 1) [] = CR.mk (V.agg [sl (List.take 3 v1), sl (List.take 3 c1), V.im (min n1 20) (elF a1 b1 (min n1 20))]) (pt (ofOs T.e 0 [O.row 33 none (rwL v0 c0 n0 a0 b0 v1 c1 n1 a1 b1)]) 1 (O.row 32 none [sl (List.take 3 v0), sl (List.take 3 c0), V.im (min n0 20) (elF a0 b0 (min n0 20))])) (1 + 1) []) ∧ (V.fn 14 [] = V.fn 14 [] → [V.agg [sl v0, sl c0, V.im n0 (elF a0 b0 n0)]] = [V.agg [sl v1, sl c1, V.im n1 (elF a1 b1 n1)]] → ofOs T.e 0 [O.row 33 none (rwL v0 c0 n0 a0 b0 v1 c1 n1 a1 b1)] = pt (ofOs T.e 0 [O.row 33 none (rwL v0 c0 n0 a0 b0 v1 c1 n1 a1 b1)]) 1 (O.row 32 none [sl (List.take 3 v0), sl (List.take 3 c0), V.im (min n0 20) (elF a0 b0 (min n0 20))]) → 1 = 1 + 1 → CR.mk (V.agg [sl (List.take 3 v0), sl (List.take 3 c0), V.im (min n0 20) (elF a0 b0 (min n0 20))]) (ofOs T.e 0 [O.row 33 none (rwL v0 c0 n0 a0 b0 v1 c1 n1 a1 b1)]) 1 [] = CR.mk (V.agg [sl (List.take 3 v1), sl (List.take 3 c1), V.im (min n1 20) (elF a1 b1 (min n1 20))]) (pt (ofOs T.e 0 [O.row 33 none (rwL v0 c0 n0 a0 b0 v1 c1 n1 a1 b1)]) 1 (O.row 32 none [sl (List.take 3 v0), sl (List.take 3 c0), V.im (min n0 20) (elF a0 b0 (min n0 20))])) (1 + 1) []) ∧ True) ∧ (((List.length keep = List.length keep ∧ ints keep = ints keep) ∧ (dn = dn ∧ blF (dtF W Ls) dn = blF (dtF W Ls) dn) ∧ (↑w : Int) = (↑w : Int) ∧ 0 = 0 ∧ kk = kk ∧ (List.length so = List.length so ∧ ints so = ints so) ∧ (k0 = k0 ∧ k1 = k1 ∧ True) ∧ (↑ia : Int) = (↑ia : Int) ∧ ((0 = 0 ∧ blF (mT W Ls kk) 0 = blF (mT W Ls kk) 0) ∧ (0 + 1 = 1 ∧ blF (tbF (conF (List.take 3 v0) (mV W)) (conF (List.take 3 c0) (mC W)) (conF a0 (mA Ls kk)) (conF b0 (mB Ls kk)) (conF (min n0 20) (mN W))) (0 + 1) = [sl (List.take 3 v0), sl (List.take 3 c0), V.im (min n0 20) (elF a0 b0 (min n0 20))] ∧ TT 3) ∧ (2 = 2 ∧ blF (tbF (conF (List.take 3 v0) fun x => List.take 3 v1) (conF (List.take 3 c0) fun x => List.take 3 c1) (conF a0 fun x => a1) (conF b0 fun x => b1) (conF (min n0 20) fun x => min n1 20)) 2 = [sl (List.take 3 v0), sl (List.take 3 c0), V.im (min n0 20) (elF a0 b0 (min n0 20)), sl (List.take 3 v1), sl (List.take 3 c1), V.im (min n1 20) (elF a1 b1 (min n1 20))] ∧ TT 6) ∧ True) ∧ (↑(0 : Nat) : Int) = (0 : Int) ∧ True) ∧ (rwL v0 c0 n0 a0 b0 v1 c1 n1 a1 b1 = rwL v0 c0 n0 a0 b0 v1 c1 n1 a1 b1 ∧ TT 6) ∧ True) ∧ Sat Pg none 0 (at' 4 [1, 1, 1, 0, 1, 0, 0, 1, 1, 0, 0, 1, 1, 1, 1, 1, 1, 1, 0]) (mkSt g0 161 (l8X (List.length keep) (ints keep) dn (blF (dtF W Ls) dn) w kk (List.length so) (ints so) k0 k1 (↑ia : Int) 0 (blF (mT W Ls kk) 0) (0 + 1) (blF (tbF (conF (List.take 3 v0) (mV W)) (conF (List.take 3 c0) (mC W)) (conF a0 (mA Ls kk)) (conF b0 (mB Ls kk)) (conF (min n0 20) (mN W))) (0 + 1)) (blF (tbF (conF (List.take 3 v0) fun x => List.take 3 v1) (conF (List.take 3 c0) fun x => List.take 3 c1) (conF a0 fun x => a1) (conF b0 fun x => b1) (conF (min n0 20) fun x => min n1 20)) 2) (↑(0 : Nat) : Int) (rwL v0 c0 n0 a0 b0 v1 c1 n1 a1 b1))) (outsP g0 161 [(True, Ex.exit 6, l6X (List.length keep) (ints keep) dn (blF (dtF W Ls) dn) w k0 k1 (rwL v0 c0 n0 a0 b0 v1 c1 n1 a1 b1) (↑ia : Int))]) ∧ (True → wr IntKind.i64 ((↑ia : Int) + (1 : Int)) = (↑(ia + 1) : Int) ∧ ((List.length keep = List.length keep ∧ ints keep = ints keep) ∧ (dn = dn ∧ blF (dtF W Ls) dn = blF (dtF W Ls) dn) ∧ (↑w : Int) = (↑w : Int) ∧ 0 = 0 ∧ (k0 = k0 ∧ k1 = k1 ∧ True) ∧ (↑(ia + 1) : Int) = (↑(ia + 1) : Int) ∧ True) ∧ (rwL v0 c0 n0 a0 b0 v1 c1 n1 a1 b1 = rwL v0 c0 n0 a0 b0 v1 c1 n1 a1 b1 ∧ TT 6) ∧ True) ∧ True) ∧ True) ∧ True) = _) ?_
    (repeat' (first | (with_reducible apply And.intro) | (refine fun (_ : True) => ?_)))
    all_goals first | exact aq | exact hidx | exact hct | exact l2 | exact l4 _ | exact l6 | exact hcd | exact t0 | exact t1 | rfl | (intro _ h _ _; obtain ⟨h1, h2, h3⟩ := cut_same h; rw [h1, h2, h3]) | kernel_rfl | skip
  · refine ⟨[yes 44, va 45 (i6 kk), nu 49 ((min dn 4 : Nat) : Int), va 50 (.im (min dn 4) (blF (dtF W Ls) (min dn 4))), (0, .loop [0] (l2S keep.length (ints keep) dn (blF (dtF W Ls) dn) w kk k0 k1 ia (rwL v0 c0 n0 a0 b0 v1 c1 n1 a1 b1) W Ls (min dn 4) (0, 0)) [(True, .exit 2, l2X keep.length (ints keep) dn (blF (dtF W Ls) dn) w kk k0 k1 ia (rwL v0 c0 n0 a0 b0 v1 c1 n1 a1 b1) 1 (blF (mT W Ls kk) 1))]), fn 67 (.tup [.im 64 (a64 F), .bool g]), (0, .loop [0] (l4S keep.length (ints keep) dn (blF (dtF W Ls) dn) w kk k0 k1 ia (rwL v0 c0 n0 a0 b0 v1 c1 n1 a1 b1) 1 (blF (mT W Ls kk) 1) F (0, 0, [])) [(True, .exit 4, l4X keep.length (ints keep) dn (blF (dtF W Ls) dn) w kk k0 k1 ia (rwL v0 c0 n0 a0 b0 v1 c1 n1 a1 b1) 1 (blF (mT W Ls kk) 1) so.length so)]), fn 94 (.agg [sl (v0.take 3), sl (c0.take 3), .im (min n0 20) (elF a0 b0 (min n0 20))]), fn 100 (.agg [sl (v0.take 3), sl (c0.take 3), .im (min n0 20) (elF a0 b0 (min n0 20))]), fn 103 (.agg [sl (v1.take 3), sl (c1.take 3), .im (min n1 20) (elF a1 b1 (min n1 20))]), (0, .loop [0] (l8X keep.length (ints keep) dn (blF (dtF W Ls) dn) w kk so.length (ints so) k0 k1 ia 1 (blF (mT W Ls kk) 1) (1 + 1) (blF (tbF (conF (v0.take 3) (mV W)) (conF (c0.take 3) (mC W)) (conF a0 (mA Ls kk)) (conF b0 (mB Ls kk)) (conF (min n0 20) (mN W))) (1 + 1)) (blF (tbF (conF (v0.take 3) (fun _ => v1.take 3)) (conF (c0.take 3) (fun _ => c1.take 3)) (conF a0 (fun _ => a1)) (conF b0 (fun _ => b1)) (conF (min n0 20) (fun _ => min n1 20))) 2) (0 : Nat) (rwL v0 c0 n0 a0 b0 v1 c1 n1 a1 b1)) [(True, .exit 6, l6X keep.length (ints keep) dn (blF (dtF W Ls) dn) w k0 k1 (rwL v0 c0 n0 a0 b0 v1 c1 n1 a1 b1) ia)]), nu 160 (ia + 1 : Nat)], ?_⟩
    refine Eq.mp (by kernel_rfl : (decide ((↑ia : Int) < (2 : Int)) = true ∧ idxV (ctxOf Try.prog) 35 (V.agg [i6 k0, i6 k1]) (↑ia : Int) = some (i6 kk) ∧ (if (4 : Int) < (↑dn : Int) then (4 : Int) else (↑dn : Int)) = (↑(min dn 4) : Int) ∧ sliceV (ctxOf Try.prog) 34 (V.im dn (blF (dtF W Ls) dn)) none (some (↑(min dn 4) : Int)) none = some (V.im (min dn 4) (blF (dtF W Ls) (min dn 4))) ∧ (((List.length keep = List.length keep ∧ ints keep = ints keep) ∧ (dn = dn ∧ blF (dtF W Ls) dn = blF (dtF W Ls) dn) ∧ (↑w : Int) = (↑w : Int) ∧ 0 = 0 ∧ kk = kk ∧ (k0 = k0 ∧ k1 = k1 ∧ True) ∧ (↑ia : Int) = (↑ia : Int) ∧ True ∧ (min dn 4 = min dn 4 ∧ blF (dtF W Ls) (min dn 4) = blF (dtF W Ls) (min dn 4)) ∧ (↑(min dn 4) : Int) = (↑(min dn 4) : Int) ∧ (↑(0 : Nat) : Int) = (0 : Int) ∧ True) ∧ (rwL v0 c0 n0 a0 b0 v1 c1 n1 a1 b1 = rwL v0 c0 n0 a0 b0 v1 c1 n1 a1 b1 ∧ TT 6) ∧ True) ∧ Sat Pg none 0 (at' 4 [1, 1, 1, 0, 1, 0, 0, 1, 1, 0, 0, 1, 1, 0, 1, 0]) (mkSt g0 161 (l2S (List.length keep) (ints keep) dn (blF (dtF W Ls) dn) w kk k0 k1 (↑ia : Int) (rwL v0 c0 n0 a0 b0 v1 c1 n1 a1 b1) W Ls (min dn 4) (0, 0))) (outsP g0 161 [(True, Ex.exit 2, l2X (List.length keep) (ints keep) dn (blF (dtF W Ls) dn) w kk k0 k1 (↑ia : Int) (rwL v0 c0 n0 a0 b0 v1 c1 n1 a1 b1) 1 (blF (mT W Ls kk) 1))]) ∧ (True → (True ∧ True) ∧ FnOk Pg g0 13 [V.im 1 (blF (mT W Ls kk) 1)] (V.tup [V.im 64 (a64 F), V.bool g]) ∧ True ∧ (((List.length keep = List.length keep ∧ ints keep = ints keep) ∧ (dn = dn ∧ blF (dtF W Ls) dn = blF (dtF W Ls) dn) ∧ (↑w : Int) = (↑w : Int) ∧ 0 = 0 ∧ kk = kk ∧ (k0 = k0 ∧ k1 = k1 ∧ True) ∧ (↑ia : Int) = (↑ia : Int) ∧ (1 = 1 ∧ blF (mT W Ls kk) 1 = blF (mT W Ls kk) 1) ∧ (64 = 64 ∧ a64 F = a64 F) ∧ True ∧ (↑(0 : Nat) : Int) = (0 : Int) ∧ True) ∧ (rwL v0 c0 n0 a0 b0 v1 c1 n1 a1 b1 = rwL v0 c0 n0 a0 b0 v1 c1 n1 a1 b1 ∧ TT 6) ∧ True) ∧ Sat Pg none 0 (at' 4 [1, 1, 1, 0, 1, 0, 0, 1, 1, 0, 0, 1, 1, 1, 1, 1, 0, 1, 0]) (mkSt g0 161 (l4S (List.length keep) (ints keep) dn (blF (dtF W Ls) dn) w kk k0 k1 (↑ia : Int) (rwL v0 c0 n0 a0 b0 v1 c1 n1 a1 b1) 1 (blF (mT W Ls kk) 1) F (0, 0, []))) (outsP g0 161 [(True, Ex.exit 4, l4X (List.length keep) (ints keep) dn (blF (dtF W Ls) dn) w kk k0 k1 (↑ia : Int) (rwL v0 c0 n0 a0 b0 v1 c1 n1 a1 b1) 1 (blF (mT W Ls kk) 1) (List.length so) so)]) ∧ (True → ((TT 3) ∧ True) ∧ FnOk Pg g0 14 [V.agg [V.im (List.length v0) (ints v0), V.im (List.length c0) (ints c0), V.im n0 (elF a0 b0 n0)]] (V.agg [sl (List.take 3 v0), sl (List.take 3 c0), V.im (min n0 20) (elF a0 b0 (min n0 20))]) ∧ True ∧ ((TT 3) ∧ True) ∧ FnOk Pg g0 14 [V.agg [V.im (List.length v0) (ints v0), V.im (List.length c0) (ints c0), V.im n0 (elF a0 b0 n0)]] (V.agg [sl (List.take 3 v0), sl (List.take 3 c0), V.im (min n0 20) (elF a0 b0 (min n0 20))]) ∧ ((V.fn 14 [] = V.fn 14 [] → [V.agg [sl v0, sl c0, V.im n0 (elF a0 b0 n0)]] = [V.agg [sl v0, sl c0, V.im n0 (elF a0 b0 n0)]] → ofOs T.e 0 [O.row 33 none (rwL v0 c0 n0 a0 b0 v1 c1 n1 a1 b1)] = T.put (pt (ofOs T.e 0 [O.row 33 none (rwL v0 c0 n0 a0 b0 v1 c1 n1 a1 b1)]) 1 (O.row 32 none [sl (List.take 3 v0), sl (List.take 3 c0), V.im (min n0 20) (elF a0 b0 (min n0 20))])) (1 + 1) (O.row 32 (some 3) ([sl (List.take 3 v0), sl (List.take 3 c0), V.im (min n0 20) (elF a0 b0 (min n0 20))] ++ [sl (mV W 0), sl (mC W 0), V.im (mN W 0) (elF (mA Ls kk 0) (mB Ls kk 0) (mN W 0))])) → 1 = 1 + 1 + 1 → CR.mk (V.agg [sl (List.take 3 v0), sl (List.take 3 c0), V.im (min n0 20) (elF a0 b0 (min n0 20))]) (ofOs T.e 0 [O.row 33 none (rwL v0 c0 n0 a0 b0 v1 c1 n1 a1 b1)]) 1 [] = CR.mk (V.agg [sl (List.take 3 v0), sl (List.take 3 c0), V.im (min n0 20) (elF a0 b0 (min n0 20))]) (T.put (pt (ofOs T.e 0 [O.row 33 none (rwL v0 c0 n0 a0 b0 v1 c1 n1 a1 b1)]) 1 (O.row 32 none [sl (List.take 3 v0), sl (List.take 3 c0), V.im (min n0 20) (elF a0 b0 (min n0 20))])) (1 + 1) (O.row 32 (some 3) ([sl (List.take 3 v0), sl (List.take 3 c0), V.im (min n0 20) (elF a0 b0 (min n0 20))] ++ [sl (mV W 0), sl (mC W 0), V.im (mN W 0) (elF (mA Ls kk 0) (mB Ls kk 0) (mN W 0))]))) (1 + 1 + 1) []) ∧ True) ∧ ((TT 3) ∧ True) ∧ FnOk Pg g0 14 [V.agg [V.im (List.length v1) (ints v1), V.im (List.length c1) (ints c1), V.im n1 (elF a1 b1 n1)]] (V.agg [sl (List.take 3 v1), sl (List.take 3 c1), V.im (min n1 20) (elF a1 b1 (min n1 20))]) ∧ ((V.fn 14 [] = V.fn 14 [] → [V.agg [sl v0, sl c0, V.im n0 (elF a0 b0 n0)]] = [V.agg [sl v1, sl c1, V.im n1 (elF a1 b1 n1)]] → T.put (pt (ofOs T.e 0 [O.row 33 none (rwL v0 c0 n0 a0 b0 v1 c1 n1 a1 b1)]) 1 (O.row 32 none [sl (List.take 3 v0), sl (List.take 3 c0), V.im (min n0 20) (elF a0 b0 (min n0 20))])) (1 + 1) (O.row 32 (some 3) ([sl (List.take 3 v0), sl (List.take 3 c0), V.im (min n0 20) (elF a0 b0 (min n0 20))] ++ [sl (mV W 0), sl (mC W 0), V.im (mN W 0) (elF (mA Ls kk 0) (mB Ls kk 0) (mN W 0))])) = T.put (pt (ofOs T.e 0 [O.row 33 none (rwL v0 c0 n0 a0 b0 v1 c1 n1 a1 b1)]) 1 (O.row 32 none [sl (List.take 3 v0), sl (List.take 3 c0), V.im (min n0 20) (elF a0 b0 (min n0 20))])) (1 + 1) (O.row 32 (some 3) ([sl (List.take 3 v0), sl (List.take 3 c0), V.im (min n0 20) (elF a0 b0 (min n0 20))] ++ [sl (mV W 0), sl (mC W 0), V.im (mN W 0) (elF (mA Ls kk 0) (mB Ls kk 0) (mN W 0))])) → 1 + 1 + 1 = 1 + 1 + 1 → CR.mk (V.agg [sl (List.take 3 v0), sl (List.take 3 c0), V.im (min n0 20) (elF a0 b0 (min n0 20))]) (T.put (pt (ofOs T.e 0 [O.row 33 none (rwL v0 c0 n0 a0 b0 v1 c1 n1 a1 b1)]) 1 (O.row 32 none [sl (List.take 3 v0), sl (List.take 3 c0), V.im (min n0 20) (elF a0 b0 (min n0 20))])) (1 + 1) (O.row 32 (some 3) ([sl (List.take 3 v0), sl (List.take 3 c0), V.im (min n0 20) (elF a0 b0 (min n0 20))] ++ [sl (mV W 0), sl (mC W 0), V.im (mN W 0) (elF (mA Ls kk 0) (mB Ls kk 0) (mN W 0))]))) (1 + 1 + 1) [] = CR.mk (V.agg [sl (List.take 3 v1), sl (List.take 3 c1), V.im (min n1 20) (elF a1 b1 (min n1 20))]) (T.put (pt (ofOs T.e 0 [O.row 33 none (rwL v0 c0 n0 a0 b0 v1 c1 n1 a1 b1)]) 1 (O.row 32 none [sl (List.take 3 v0), sl (List.take 3 c0), V.im (min n0 20) (elF a0 b0 (min n0 20))])) (1 + 1) (O.row 32 (some 3) ([sl (List.take 3 v0), sl (List.take 3 c0), V.im (min n0 20) (elF a0 b0 (min n0 20))] ++ [sl (mV W 0), sl (mC W 0), V.im (mN W 0) (elF (mA Ls kk 0) (mB Ls kk 0) (mN W 0))]))) (1 + 1 + 1) []) ∧ (V.fn 14 [] = V.fn 14 [] → [V.agg [sl v0, sl c0, V.im n0 (elF a0 b0 n0)]] = [V.agg [sl v1, sl c1, V.im n1 (elF a1 b1 n1)]] → ofOs T.e 0 [O.row 33 none (rwL v0 c0 n0 a0 b0 v1 c1 n1 a1 b1)] = T.put (pt (ofOs T.e 0 [O.row 33 none (rwL v0 c0 n0 a0 b0 v1 c1 n1 a1 b1)]) 1 (O.row 32 none [sl (List.take 3 v0), sl (List.take 3 c0), V.im (min n0 20) (elF a0 b0 (min n0 20))])) (1 + 1) (O.row 32 (some 3) ([sl (List.take 3 v0), sl (List.take 3 c0), V.im (min n0 20) (elF a0 b0 (min n0 20))] ++ [sl (mV W 0), sl (mC W 0), V.im (mN W 0) (elF (mA Ls kk 0) (mB Ls kk 0) (mN W 0))])) → 1 = 1 + 1 + 1 → CR.mk (V.agg [sl (List.take 3 v0), sl (List.take 3 c0), V.im (min n0 20) (elF a0 b0 (min n0 20))]) (ofOs T.e 0 [O.row 33 none (rwL v0 c0 n0 a0 b0 v1 c1 n1 a1 b1)]) 1 [] = CR.mk (V.agg [sl (List.take 3 v1), sl (List.take 3 c1), V.im (min n1 20) (elF a1 b1 (min n1 20))]) (T.put (pt (ofOs T.e 0 [O.row 33 none (rwL v0 c0 n0 a0 b0 v1 c1 n1 a1 b1)]) 1 (O.row 32 none [sl (List.take 3 v0), sl (List.take 3 c0), V.im (min n0 20) (elF a0 b0 (min n0 20))])) (1 + 1) (O.row 32 (some 3) ([sl (List.take 3 v0), sl (List.take 3 c0), V.im (min n0 20) (elF a0 b0 (min n0 20))] ++ [sl (mV W 0), sl (mC W 0), V.im (mN W 0) (elF (mA Ls kk 0) (mB Ls kk 0) (mN W 0))]))) (1 + 1 + 1) []) ∧ True) ∧ (((List.length keep = List.length keep ∧ ints keep = ints keep) ∧ (dn = dn ∧ blF (dtF W Ls) dn = blF (dtF W Ls) dn) ∧ (↑w : Int) = (↑w : Int) ∧ 0 = 0 ∧ kk = kk ∧ (List.length so = List.length so ∧ ints so = ints so) ∧ (k0 = k0 ∧ k1 = k1 ∧ True) ∧ (↑ia : Int) = (↑ia : Int) ∧ ((1 = 1 ∧ blF (mT W Ls kk) 1 = blF (mT W Ls kk) 1) ∧ (1 + 1 = 1 + 1 ∧ blF (tbF (conF (List.take 3 v0) (mV W)) (conF (List.take 3 c0) (mC W)) (conF a0 (mA Ls kk)) (conF b0 (mB Ls kk)) (conF (min n0 20) (mN W))) (1 + 1) = [sl (List.take 3 v0), sl (List.take 3 c0), V.im (min n0 20) (elF a0 b0 (min n0 20))] ++ [sl (mV W 0), sl (mC W 0), V.im (mN W 0) (elF (mA Ls kk 0) (mB Ls kk 0) (mN W 0))] ∧ TT 6) ∧ (2 = 2 ∧ blF (tbF (conF (List.take 3 v0) fun x => List.take 3 v1) (conF (List.take 3 c0) fun x => List.take 3 c1) (conF a0 fun x => a1) (conF b0 fun x => b1) (conF (min n0 20) fun x => min n1 20)) 2 = [sl (List.take 3 v0), sl (List.take 3 c0), V.im (min n0 20) (elF a0 b0 (min n0 20)), sl (List.take 3 v1), sl (List.take 3 c1), V.im (min n1 20) (elF a1 b1 (min n1 20))] ∧ TT 6) ∧ True) ∧ (↑(0 : Nat) : Int) = (0 : Int) ∧ True) ∧ (rwL v0 c0 n0 a0 b0 v1 c1 n1 a1 b1 = rwL v0 c0 n0 a0 b0 v1 c1 n1 a1 b1 ∧ TT 6) ∧ True) ∧ Sat Pg none 0 (at' 4 [1, 1, 1, 0, 1, 0, 0, 1, 1, 0, 0, 1, 1, 1, 1, 1, 1, 1, 0]) (mkSt g0 161 (l8X (List.length keep) (ints keep) dn (blF (dtF W Ls) dn) w kk (List.length so) (ints so) k0 k1 (↑ia : Int) 1 (blF (mT W Ls kk) 1) (1 + 1) (blF (tbF (conF (List.take 3 v0) (mV W)) (conF (List.take 3 c0) (mC W)) (conF a0 (mA Ls kk)) (conF b0 (mB Ls kk)) (conF (min n0 20) (mN W))) (1 + 1)) (blF (tbF (conF (List.take 3 v0) fun x => List.take 3 v1) (conF (List.take 3 c0) fun x => List.take 3 c1) (conF a0 fun x => a1) (conF b0 fun x => b1) (conF (min n0 20) fun x => min n1 20)) 2) (↑(0 : Nat) : Int) (rwL v0 c0 n0 a0 b0 v1 c1 n1 a1 b1))) (outsP g0 161 [(True, Ex.exit 6, l6X (List.length keep) (ints keep) dn (blF (dtF W Ls) dn) w k0 k1 (rwL v0 c0 n0 a0 b0 v1 c1 n1 a1 b1) (↑ia : Int))]) ∧ (True → wr IntKind.i64 ((↑ia : Int) + (1 : Int)) = (↑(ia + 1) : Int) ∧ ((List.length keep = List.length keep ∧ ints keep = ints keep) ∧ (dn = dn ∧ blF (dtF W Ls) dn = blF (dtF W Ls) dn) ∧ (↑w : Int) = (↑w : Int) ∧ 0 = 0 ∧ (k0 = k0 ∧ k1 = k1 ∧ True) ∧ (↑(ia + 1) : Int) = (↑(ia + 1) : Int) ∧ True) ∧ (rwL v0 c0 n0 a0 b0 v1 c1 n1 a1 b1 = rwL v0 c0 n0 a0 b0 v1 c1 n1 a1 b1 ∧ TT 6) ∧ True) ∧ True) ∧ True) ∧ True) = _) ?_
    (repeat' (first | (with_reducible apply And.intro) | (refine fun (_ : True) => ?_)))
    all_goals first | exact aq | exact hidx | exact hct | exact l2 | exact l4 _ | exact l6 | exact hcd | exact t0 | exact t1 | rfl | (intro _ h _ _; obtain ⟨h1, h2, h3⟩ := cut_same h; rw [h1, h2, h3]) | kernel_rfl | skip
  · refine ⟨[yes 44, va 45 (i6 kk), nu 49 ((min dn 4 : Nat) : Int), va 50 (.im (min dn 4) (blF (dtF W Ls) (min dn 4))), (0, .loop [0] (l2S keep.length (ints keep) dn (blF (dtF W Ls) dn) w kk k0 k1 ia (rwL v0 c0 n0 a0 b0 v1 c1 n1 a1 b1) W Ls (min dn 4) (0, 0)) [(True, .exit 2, l2X keep.length (ints keep) dn (blF (dtF W Ls) dn) w kk k0 k1 ia (rwL v0 c0 n0 a0 b0 v1 c1 n1 a1 b1) 2 (blF (mT W Ls kk) 2))]), fn 67 (.tup [.im 64 (a64 F), .bool g]), (0, .loop [0] (l4S keep.length (ints keep) dn (blF (dtF W Ls) dn) w kk k0 k1 ia (rwL v0 c0 n0 a0 b0 v1 c1 n1 a1 b1) 2 (blF (mT W Ls kk) 2) F (0, 0, [])) [(True, .exit 4, l4X keep.length (ints keep) dn (blF (dtF W Ls) dn) w kk k0 k1 ia (rwL v0 c0 n0 a0 b0 v1 c1 n1 a1 b1) 2 (blF (mT W Ls kk) 2) so.length so)]), fn 94 (.agg [sl (v0.take 3), sl (c0.take 3), .im (min n0 20) (elF a0 b0 (min n0 20))]), fn 100 (.agg [sl (v0.take 3), sl (c0.take 3), .im (min n0 20) (elF a0 b0 (min n0 20))]), fn 103 (.agg [sl (v1.take 3), sl (c1.take 3), .im (min n1 20) (elF a1 b1 (min n1 20))]), (0, .loop [0] (l8X keep.length (ints keep) dn (blF (dtF W Ls) dn) w kk so.length (ints so) k0 k1 ia 2 (blF (mT W Ls kk) 2) (2 + 1) (blF (tbF (conF (v0.take 3) (mV W)) (conF (c0.take 3) (mC W)) (conF a0 (mA Ls kk)) (conF b0 (mB Ls kk)) (conF (min n0 20) (mN W))) (2 + 1)) (blF (tbF (conF (v0.take 3) (fun _ => v1.take 3)) (conF (c0.take 3) (fun _ => c1.take 3)) (conF a0 (fun _ => a1)) (conF b0 (fun _ => b1)) (conF (min n0 20) (fun _ => min n1 20))) 2) (0 : Nat) (rwL v0 c0 n0 a0 b0 v1 c1 n1 a1 b1)) [(True, .exit 6, l6X keep.length (ints keep) dn (blF (dtF W Ls) dn) w k0 k1 (rwL v0 c0 n0 a0 b0 v1 c1 n1 a1 b1) ia)]), nu 160 (ia + 1 : Nat)], ?_⟩
    refine Eq.mp (by kernel_rfl : (decide ((↑ia : Int) < (2 : Int)) = true ∧ idxV (ctxOf Try.prog) 35 (V.agg [i6 k0, i6 k1]) (↑ia : Int) = some (i6 kk) ∧ (if (4 : Int) < (↑dn : Int) then (4 : Int) else (↑dn : Int)) = (↑(min dn 4) : Int) ∧ sliceV (ctxOf Try.prog) 34 (V.im dn (blF (dtF W Ls) dn)) none (some (↑(min dn 4) : Int)) none = some (V.im (min dn 4) (blF (dtF W Ls) (min dn 4))) ∧ (((List.length keep = List.length keep ∧ ints keep = ints keep) ∧ (dn = dn ∧ blF (dtF W Ls) dn = blF (dtF W Ls) dn) ∧ (↑w : Int) = (↑w : Int) ∧ 0 = 0 ∧ kk = kk ∧ (k0 = k0 ∧ k1 = k1 ∧ True) ∧ (↑ia : Int) = (↑ia : Int) ∧ True ∧ (min dn 4 = min dn 4 ∧ blF (dtF W Ls) (min dn 4) = blF (dtF W Ls) (min dn 4)) ∧ (↑(min dn 4) : Int) = (↑(min dn 4) : Int) ∧ (↑(0 : Nat) : Int) = (0 : Int) ∧ True) ∧ (rwL v0 c0 n0 a0 b0 v1 c1 n1 a1 b1 = rwL v0 c0 n0 a0 b0 v1 c1 n1 a1 b1 ∧ TT 6) ∧ True) ∧ Sat Pg none 0 (at' 4 [1, 1, 1, 0, 1, 0, 0, 1, 1, 0, 0, 1, 1, 0, 1, 0]) (mkSt g0 161 (l2S (List.length keep) (ints keep) dn (blF (dtF W Ls) dn) w kk k0 k1 (↑ia : Int) (rwL v0 c0 n0 a0 b0 v1 c1 n1 a1 b1) W Ls (min dn 4) (0, 0))) (outsP g0 161 [(True, Ex.exit 2, l2X (List.length keep) (ints keep) dn (blF (dtF W Ls) dn) w kk k0 k1 (↑ia : Int) (rwL v0 c0 n0 a0 b0 v1 c1 n1 a1 b1) 2 (blF (mT W Ls kk) 2))]) ∧ (True → (True ∧ True) ∧ FnOk Pg g0 13 [V.im 2 (blF (mT W Ls kk) 2)] (V.tup [V.im 64 (a64 F), V.bool g]) ∧ True ∧ (((List.length keep = List.length keep ∧ ints keep = ints keep) ∧ (dn = dn ∧ blF (dtF W Ls) dn = blF (dtF W Ls) dn) ∧ (↑w : Int) = (↑w : Int) ∧ 0 = 0 ∧ kk = kk ∧ (k0 = k0 ∧ k1 = k1 ∧ True) ∧ (↑ia : Int) = (↑ia : Int) ∧ (2 = 2 ∧ blF (mT W Ls kk) 2 = blF (mT W Ls kk) 2) ∧ (64 = 64 ∧ a64 F = a64 F) ∧ True ∧ (↑(0 : Nat) : Int) = (0 : Int) ∧ True) ∧ (rwL v0 c0 n0 a0 b0 v1 c1 n1 a1 b1 = rwL v0 c0 n0 a0 b0 v1 c1 n1 a1 b1 ∧ TT 6) ∧ True) ∧ Sat Pg none 0 (at' 4 [1, 1, 1, 0, 1, 0, 0, 1, 1, 0, 0, 1, 1, 1, 1, 1, 0, 1, 0]) (mkSt g0 161 (l4S (List.length keep) (ints keep) dn (blF (dtF W Ls) dn) w kk k0 k1 (↑ia : Int) (rwL v0 c0 n0 a0 b0 v1 c1 n1 a1 b1) 2 (blF (mT W Ls kk) 2) F (0, 0, []))) (outsP g0 161 [(True, Ex.exit 4, l4X (List.length keep) (ints keep) dn (blF (dtF W Ls) dn) w kk k0 k1 (↑ia : Int) (rwL v0 c0 n0 a0 b0 v1 c1 n1 a1 b1) 2 (blF (mT W Ls kk) 2) (List.length so) so)]) ∧ (True → ((TT 3) ∧ True) ∧ FnOk Pg g0 14 [V.agg [V.im (List.length v0) (ints v0), V.im (List.length c0) (ints c0), V.im n0 (elF a0 b0 n0)]] (V.agg [sl (List.take 3 v0), sl (List.take 3 c0), V.im (min n0 20) (elF a0 b0 (min n0 20))]) ∧ True ∧ ((TT 3) ∧ True) ∧ FnOk Pg g0 14 [V.agg [V.im (List.length v0) (ints v0), V.im (List.length c0) (ints c0), V.im n0 (elF a0 b0 n0)]] (V.agg [sl (List.take 3 v0), sl (List.take 3 c0), V.im (min n0 20) (elF a0 b0 (min n0 20))]) ∧ ((V.fn 14 [] = V.fn 14 [] → [V.agg [sl v0, sl c0, V.im n0 (elF a0 b0 n0)]] = [V.agg [sl v0, sl c0, V.im n0 (elF a0 b0 n0)]] → ofOs T.e 0 [O.row 33 none (rwL v0 c0 n0 a0 b0 v1 c1 n1 a1 b1)] = T.put (pt (ofOs T.e 0 [O.row 33 none (rwL v0 c0 n0 a0 b0 v1 c1 n1 a1 b1)]) 1 (O.row 32 none [sl (List.take 3 v0), sl (List.take 3 c0), V.im (min n0 20) (elF a0 b0 (min n0 20))])) (1 + 1) (O.row 32 (some 3) ([sl (List.take 3 v0), sl (List.take 3 c0), V.im (min n0 20) (elF a0 b0 (min n0 20))] ++ [sl (mV W 0), sl (mC W 0), V.im (mN W 0) (elF (mA Ls kk 0) (mB Ls kk 0) (mN W 0)), sl (mV W 1), sl (mC W 1), V.im (mN W 1) (elF (mA Ls kk 1) (mB Ls kk 1) (mN W 1))])) → 1 = 1 + 1 + 1 → CR.mk (V.agg [sl (List.take 3 v0), sl (List.take 3 c0), V.im (min n0 20) (elF a0 b0 (min n0 20))]) (ofOs T.e 0 [O.row 33 none (rwL v0 c0 n0 a0 b0 v1 c1 n1 a1 b1)]) 1 [] = CR.mk (V.agg [sl (List.take 3 v0), sl (List.take 3 c0), V.im (min n0 20) (elF a0 b0 (min n0 20))]) (T.put (pt (ofOs T.e 0 [O.row 33 none (rwL v0 c0 n0 a0 b0 v1 c1 n1 a1 b1)]) 1 (O.row 32 none [sl (List.take 3 v0), sl (List.take 3 c0), V.im (min n0 20) (elF a0 b0 (min n0 20))])) (1 + 1) (O.row 32 (some 3) ([sl (List.take 3 v0), sl (List.take 3 c0), V.im (min n0 20) (elF a0 b0 (min n0 20))] ++ [sl (mV W 0), sl (mC W 0), V.im (mN W 0) (elF (mA Ls kk 0) (mB Ls kk 0) (mN W 0)), sl (mV W 1), sl (mC W 1), V.im (mN W 1) (elF (mA Ls kk 1) (mB Ls kk 1) (mN W 1))]))) (1 + 1 + 1) []) ∧ True) ∧ ((TT 3) ∧ True) ∧ FnOk Pg g0 14 [V.agg [V.im (List.length v1) (ints v1), V.im (List.length c1) (ints c1), V.im n1 (elF a1 b1 n1)]] (V.agg [sl (List.take 3 v1), sl (List.take 3 c1), V.im (min n1 20) (elF a1 b1 (min n1 20))]) ∧ ((V.fn 14 [] = V.fn 14 [] → [V.agg [sl v0, sl c0, V.im n0 (elF a0 b0 n0)]] = [V.agg [sl v1, sl c1, V.im n1 (elF a1 b1 n1)]] → T.put (pt (ofOs T.e 0 [O.row 33 none (rwL v0 c0 n0 a0 b0 v1 c1 n1 a1 b1)]) 1 (O.row 32 none [sl (List.take 3 v0), sl (List.take 3 c0), V.im (min n0 20) (elF a0 b0 (min n0 20))])) (1 + 1) (O.row 32 (some 3) ([sl (List.take 3 v0), sl (List.take 3 c0), V.im (min n0 20) (elF a0 b0 (min n0 20))] ++ [sl (mV W 0), sl (mC W 0), V.im (mN W 0) (elF (mA Ls kk 0) (mB Ls kk 0) (mN W 0)), sl (mV W 1), sl (mC W 1), V.im (mN W 1) (elF (mA Ls kk 1) (mB Ls kk 1) (mN W 1))])) = T.put (pt (ofOs T.e 0 [O.row 33 none (rwL v0 c0 n0 a0 b0 v1 c1 n1 a1 b1)]) 1 (O.row 32 none [sl (List.take 3 v0), sl (List.take 3 c0), V.im (min n0 20) (elF a0 b0 (min n0 20))])) (1 + 1) (O.row 32 (some 3) ([sl (List.take 3 v0), sl (List.take 3 c0), V.im (min n0 20) (elF a0 b0 (min n0 20))] ++ [sl (mV W 0), sl (mC W 0), V.im (mN W 0) (elF (mA Ls kk 0) (mB Ls kk 0) (mN W 0)), sl (mV W 1), sl (mC W 1), V.im (mN W 1) (elF (mA Ls kk 1) (mB Ls kk 1) (mN W 1))])) → 1 + 1 + 1 = 1 + 1 + 1 → CR.mk (V.agg [sl (List.take 3 v0), sl (List.take 3 c0), V.im (min n0 20) (elF a0 b0 (min n0 20))]) (T.put (pt (ofOs T.e 0 [O.row 33 none (rwL v0 c0 n0 a0 b0 v1 c1 n1 a1 b1)]) 1 (O.row 32 none [sl (List.take 3 v0), sl (List.take 3 c0), V.im (min n0 20) (elF a0 b0 (min n0 20))])) (1 + 1) (O.row 32 (some 3) ([sl (List.take 3 v0), sl (List.take 3 c0), V.im (min n0 20) (elF a0 b0 (min n0 20))] ++ [sl (mV W 0), sl (mC W 0), V.im (mN W 0) (elF (mA Ls kk 0) (mB Ls kk 0) (mN W 0)), sl (mV W 1), sl (mC W 1), V.im (mN W 1) (elF (mA Ls kk 1) (mB Ls kk 1) (mN W 1))]))) (1 + 1 + 1) [] = CR.mk (V.agg [sl (List.take 3 v1), sl (List.take 3 c1), V.im (min n1 20) (elF a1 b1 (min n1 20))]) (T.put (pt (ofOs T.e 0 [O.row 33 none (rwL v0 c0 n0 a0 b0 v1 c1 n1 a1 b1)]) 1 (O.row 32 none [sl (List.take 3 v0), sl (List.take 3 c0), V.im (min n0 20) (elF a0 b0 (min n0 20))])) (1 + 1) (O.row 32 (some 3) ([sl (List.take 3 v0), sl (List.take 3 c0), V.im (min n0 20) (elF a0 b0 (min n0 20))] ++ [sl (mV W 0), sl (mC W 0), V.im (mN W 0) (elF (mA Ls kk 0) (mB Ls kk 0) (mN W 0)), sl (mV W 1), sl (mC W 1), V.im (mN W 1) (elF (mA Ls kk 1) (mB Ls kk 1) (mN W 1))]))) (1 + 1 + 1) []) ∧ (V.fn 14 [] = V.fn 14 [] → [V.agg [sl v0, sl c0, V.im n0 (elF a0 b0 n0)]] = [V.agg [sl v1, sl c1, V.im n1 (elF a1 b1 n1)]] → ofOs T.e 0 [O.row 33 none (rwL v0 c0 n0 a0 b0 v1 c1 n1 a1 b1)] = T.put (pt (ofOs T.e 0 [O.row 33 none (rwL v0 c0 n0 a0 b0 v1 c1 n1 a1 b1)]) 1 (O.row 32 none [sl (List.take 3 v0), sl (List.take 3 c0), V.im (min n0 20) (elF a0 b0 (min n0 20))])) (1 + 1) (O.row 32 (some 3) ([sl (List.take 3 v0), sl (List.take 3 c0), V.im (min n0 20) (elF a0 b0 (min n0 20))] ++ [sl (mV W 0), sl (mC W 0), V.im (mN W 0) (elF (mA Ls kk 0) (mB Ls kk 0) (mN W 0)), sl (mV W 1), sl (mC W 1), V.im (mN W 1) (elF (mA Ls kk 1) (mB Ls kk 1) (mN W 1))])) → 1 = 1 + 1 + 1 → CR.mk (V.agg [sl (List.take 3 v0), sl (List.take 3 c0), V.im (min n0 20) (elF a0 b0 (min n0 20))]) (ofOs T.e 0 [O.row 33 none (rwL v0 c0 n0 a0 b0 v1 c1 n1 a1 b1)]) 1 [] = CR.mk (V.agg [sl (List.take 3 v1), sl (List.take 3 c1), V.im (min n1 20) (elF a1 b1 (min n1 20))]) (T.put (pt (ofOs T.e 0 [O.row 33 none (rwL v0 c0 n0 a0 b0 v1 c1 n1 a1 b1)]) 1 (O.row 32 none [sl (List.take 3 v0), sl (List.take 3 c0), V.im (min n0 20) (elF a0 b0 (min n0 20))])) (1 + 1) (O.row 32 (some 3) ([sl (List.take 3 v0), sl (List.take 3 c0), V.im (min n0 20) (elF a0 b0 (min n0 20))] ++ [sl (mV W 0), sl (mC W 0), V.im (mN W 0) (elF (mA Ls kk 0) (mB Ls kk 0) (mN W 0)), sl (mV W 1), sl (mC W 1), V.im (mN W 1) (elF (mA Ls kk 1) (mB Ls kk 1) (mN W 1))]))) (1 + 1 + 1) []) ∧ True) ∧ (((List.length keep = List.length keep ∧ ints keep = ints keep) ∧ (dn = dn ∧ blF (dtF W Ls) dn = blF (dtF W Ls) dn) ∧ (↑w : Int) = (↑w : Int) ∧ 0 = 0 ∧ kk = kk ∧ (List.length so = List.length so ∧ ints so = ints so) ∧ (k0 = k0 ∧ k1 = k1 ∧ True) ∧ (↑ia : Int) = (↑ia : Int) ∧ ((2 = 2 ∧ blF (mT W Ls kk) 2 = blF (mT W Ls kk) 2) ∧ (2 + 1 = 1 + 2 ∧ blF (tbF (conF (List.take 3 v0) (mV W)) (conF (List.take 3 c0) (mC W)) (conF a0 (mA Ls kk)) (conF b0 (mB Ls kk)) (conF (min n0 20) (mN W))) (2 + 1) = [sl (List.take 3 v0), sl (List.take 3 c0), V.im (min n0 20) (elF a0 b0 (min n0 20))] ++ [sl (mV W 0), sl (mC W 0), V.im (mN W 0) (elF (mA Ls kk 0) (mB Ls kk 0) (mN W 0)), sl (mV W 1), sl (mC W 1), V.im (mN W 1) (elF (mA Ls kk 1) (mB Ls kk 1) (mN W 1))] ∧ TT 9) ∧ (2 = 2 ∧ blF (tbF (conF (List.take 3 v0) fun x => List.take 3 v1) (conF (List.take 3 c0) fun x => List.take 3 c1) (conF a0 fun x => a1) (conF b0 fun x => b1) (conF (min n0 20) fun x => min n1 20)) 2 = [sl (List.take 3 v0), sl (List.take 3 c0), V.im (min n0 20) (elF a0 b0 (min n0 20)), sl (List.take 3 v1), sl (List.take 3 c1), V.im (min n1 20) (elF a1 b1 (min n1 20))] ∧ TT 6) ∧ True) ∧ (↑(0 : Nat) : Int) = (0 : Int) ∧ True) ∧ (rwL v0 c0 n0 a0 b0 v1 c1 n1 a1 b1 = rwL v0 c0 n0 a0 b0 v1 c1 n1 a1 b1 ∧ TT 6) ∧ True) ∧ Sat Pg none 0 (at' 4 [1, 1, 1, 0, 1, 0, 0, 1, 1, 0, 0, 1, 1, 1, 1, 1, 1, 1, 0]) (mkSt g0 161 (l8X (List.length keep) (ints keep) dn (blF (dtF W Ls) dn) w kk (List.length so) (ints so) k0 k1 (↑ia : Int) 2 (blF (mT W Ls kk) 2) (2 + 1) (blF (tbF (conF (List.take 3 v0) (mV W)) (conF (List.take 3 c0) (mC W)) (conF a0 (mA Ls kk)) (conF b0 (mB Ls kk)) (conF (min n0 20) (mN W))) (2 + 1)) (blF (tbF (conF (List.take 3 v0) fun x => List.take 3 v1) (conF (List.take 3 c0) fun x => List.take 3 c1) (conF a0 fun x => a1) (conF b0 fun x => b1) (conF (min n0 20) fun x => min n1 20)) 2) (↑(0 : Nat) : Int) (rwL v0 c0 n0 a0 b0 v1 c1 n1 a1 b1))) (outsP g0 161 [(True, Ex.exit 6, l6X (List.length keep) (ints keep) dn (blF (dtF W Ls) dn) w k0 k1 (rwL v0 c0 n0 a0 b0 v1 c1 n1 a1 b1) (↑ia : Int))]) ∧ (True → wr IntKind.i64 ((↑ia : Int) + (1 : Int)) = (↑(ia + 1) : Int) ∧ ((List.length keep = List.length keep ∧ ints keep = ints keep) ∧ (dn = dn ∧ blF (dtF W Ls) dn = blF (dtF W Ls) dn) ∧ (↑w : Int) = (↑w : Int) ∧ 0 = 0 ∧ (k0 = k0 ∧ k1 = k1 ∧ True) ∧ (↑(ia + 1) : Int) = (↑(ia + 1) : Int) ∧ True) ∧ (rwL v0 c0 n0 a0 b0 v1 c1 n1 a1 b1 = rwL v0 c0 n0 a0 b0 v1 c1 n1 a1 b1 ∧ TT 6) ∧ True) ∧ True) ∧ True) ∧ True) = _) ?_
    (repeat' (first | (with_reducible apply And.intro) | (refine fun (_ : True) => ?_)))
    all_goals first | exact aq | exact hidx | exact hct | exact l2 | exact l4 _ | exact l6 | exact hcd | exact t0 | exact t1 | rfl | (intro _ h _ _; obtain ⟨h1, h2, h3⟩ := cut_same h; rw [h1, h2, h3]) | kernel_rfl | skip
  · refine ⟨[yes 44, va 45 (i6 kk), nu 49 ((min dn 4 : Nat) : Int), va 50 (.im (min dn 4) (blF (dtF W Ls) (min dn 4))), (0, .loop [0] (l2S keep.length (ints keep) dn (blF (dtF W Ls) dn) w kk k0 k1 ia (rwL v0 c0 n0 a0 b0 v1 c1 n1 a1 b1) W Ls (min dn 4) (0, 0)) [(True, .exit 2, l2X keep.length (ints keep) dn (blF (dtF W Ls) dn) w kk k0 k1 ia (rwL v0 c0 n0 a0 b0 v1 c1 n1 a1 b1) 3 (blF (mT W Ls kk) 3))]), fn 67 (.tup [.im 64 (a64 F), .bool g]), (0, .loop [0] (l4S keep.length (ints keep) dn (blF (dtF W Ls) dn) w kk k0 k1 ia (rwL v0 c0 n0 a0 b0 v1 c1 n1 a1 b1) 3 (blF (mT W Ls kk) 3) F (0, 0, [])) [(True, .exit 4, l4X keep.length (ints keep) dn (blF (dtF W Ls) dn) w kk k0 k1 ia (rwL v0 c0 n0 a0 b0 v1 c1 n1 a1 b1) 3 (blF (mT W Ls kk) 3) so.length so)]), fn 94 (.agg [sl (v0.take 3), sl (c0.take 3), .im (min n0 20) (elF a0 b0 (min n0 20))]), fn 100 (.agg [sl (v0.take 3), sl (c0.take 3), .im (min n0 20) (elF a0 b0 (min n0 20))]), fn 103 (.agg [sl (v1.take 3), sl (c1.take 3), .im (min n1 20) (elF a1 b1 (min n1 20))]), (0, .loop [0] (l8X keep.length (ints keep) dn (blF (dtF W Ls) dn) w kk so.length (ints so) k0 k1 ia 3 (blF (mT W Ls kk) 3) (3 + 1) (blF (tbF (conF (v0.take 3) (mV W)) (conF (c0.take 3) (mC W)) (conF a0 (mA Ls kk)) (conF b0 (mB Ls kk)) (conF (min n0 20) (mN W))) (3 + 1)) (blF (tbF (conF (v0.take 3) (fun _ => v1.take 3)) (conF (c0.take 3) (fun _ => c1.take 3)) (conF a0 (fun _ => a1)) (conF b0 (fun _ => b1)) (conF (min n0 20) (fun _ => min n1 20))) 2) (0 : Nat) (rwL v0 c0 n0 a0 b0 v1 c1 n1 a1 b1)) [(True, .exit 6, l6X keep.length (ints keep) dn (blF (dtF W Ls) dn) w k0 k1 (rwL v0 c0 n0 a0 b0 v1 c1 n1 a1 b1) ia)]), nu 160 (ia + 1 : Nat)], ?_⟩
    refine Eq.mp (by kernel_rfl : (decide ((↑ia : Int) < (2 : Int)) = true ∧ idxV (ctxOf Try.prog) 35 (V.agg [i6 k0, i6 k1]) (↑ia : Int) = some (i6 kk) ∧ (if (4 : Int) < (↑dn : Int) then (4 : Int) else (↑dn : Int)) = (↑(min dn 4) : Int) ∧ sliceV (ctxOf Try.prog) 34 (V.im dn (blF (dtF W Ls) dn)) none (some (↑(min dn 4) : Int)) none = some (V.im (min dn 4) (blF (dtF W Ls) (min dn 4))) ∧ (((List.length keep = List.length keep ∧ ints keep = ints keep) ∧ (dn = dn ∧ blF (dtF W Ls) dn = blF (dtF W Ls) dn) ∧ (↑w : Int) = (↑w : Int) ∧ 0 = 0 ∧ kk = kk ∧ (k0 = k0 ∧ k1 = k1 ∧ True) ∧ (↑ia : Int) = (↑ia : Int) ∧ True ∧ (min dn 4 = min dn 4 ∧ blF (dtF W Ls) (min dn 4) = blF (dtF W Ls) (min dn 4)) ∧ (↑(min dn 4) : Int) = (↑(min dn 4) : Int) ∧ (↑(0 : Nat) : Int) = (0 : Int) ∧ True) ∧ (rwL v0 c0 n0 a0 b0 v1 c1 n1 a1 b1 = rwL v0 c0 n0 a0 b0 v1 c1 n1 a1 b1 ∧ TT 6) ∧ True) ∧ Sat Pg none 0 (at' 4 [1, 1, 1, 0, 1, 0, 0, 1, 1, 0, 0, 1, 1, 0, 1, 0]) (mkSt g0 161 (l2S (List.length keep) (ints keep) dn (blF (dtF W Ls) dn) w kk k0 k1 (↑ia : Int) (rwL v0 c0 n0 a0 b0 v1 c1 n1 a1 b1) W Ls (min dn 4) (0, 0))) (outsP g0 161 [(True, Ex.exit 2, l2X (List.length keep) (ints keep) dn (blF (dtF W Ls) dn) w kk k0 k1 (↑ia : Int) (rwL v0 c0 n0 a0 b0 v1 c1 n1 a1 b1) 3 (blF (mT W Ls kk) 3))]) ∧ (True → (True ∧ True) ∧ FnOk Pg g0 13 [V.im 3 (blF (mT W Ls kk) 3)] (V.tup [V.im 64 (a64 F), V.bool g]) ∧ True ∧ (((List.length keep = List.length keep ∧ ints keep = ints keep) ∧ (dn = dn ∧ blF (dtF W Ls) dn = blF (dtF W Ls) dn) ∧ (↑w : Int) = (↑w : Int) ∧ 0 = 0 ∧ kk = kk ∧ (k0 = k0 ∧ k1 = k1 ∧ True) ∧ (↑ia : Int) = (↑ia : Int) ∧ (3 = 3 ∧ blF (mT W Ls kk) 3 = blF (mT W Ls kk) 3) ∧ (64 = 64 ∧ a64 F = a64 F) ∧ True ∧ (↑(0 : Nat) : Int) = (0 : Int) ∧ True) ∧ (rwL v0 c0 n0 a0 b0 v1 c1 n1 a1 b1 = rwL v0 c0 n0 a0 b0 v1 c1 n1 a1 b1 ∧ TT 6) ∧ True) ∧ Sat Pg none 0 (at' 4 [1, 1, 1, 0, 1, 0, 0, 1, 1, 0, 0, 1, 1, 1, 1, 1, 0, 1, 0]) (mkSt g0 161 (l4S (List.length keep) (ints keep) dn (blF (dtF W Ls) dn) w kk k0 k1 (↑ia : Int) (rwL v0 c0 n0 a0 b0 v1 c1 n1 a1 b1) 3 (blF (mT W Ls kk) 3) F (0, 0, []))) (outsP g0 161 [(True, Ex.exit 4, l4X (List.length keep) (ints keep) dn (blF (dtF W Ls) dn) w kk k0 k1 (↑ia : Int) (rwL v0 c0 n0 a0 b0 v1 c1 n1 a1 b1) 3 (blF (mT W Ls kk) 3) (List.length so) so)]) ∧ (True → ((TT 3) ∧ True) ∧ FnOk Pg g0 14 [V.agg [V.im (List.length v0) (ints v0), V.im (List.length c0) (ints c0), V.im n0 (elF a0 b0 n0)]] (V.agg [sl (List.take 3 v0), sl (List.take 3 c0), V.im (min n0 20) (elF a0 b0 (min n0 20))]) ∧ True ∧ ((TT 3) ∧ True) ∧ FnOk Pg g0 14 [V.agg [V.im (List.length v0) (ints v0), V.im (List.length c0) (ints c0), V.im n0 (elF a0 b0 n0)]] (V.agg [sl (List.take 3 v0), sl (List.take 3 c0), V.im (min n0 20) (elF a0 b0 (min n0 20))]) ∧ ((V.fn 14 [] = V.fn 14 [] → [V.agg [sl v0, sl c0, V.im n0 (elF a0 b0 n0)]] = [V.agg [sl v0, sl c0, V.im n0 (elF a0 b0 n0)]] → ofOs T.e 0 [O.row 33 none (rwL v0 c0 n0 a0 b0 v1 c1 n1 a1 b1)] = T.put (pt (ofOs T.e 0 [O.row 33 none (rwL v0 c0 n0 a0 b0 v1 c1 n1 a1 b1)]) 1 (O.row 32 none [sl (List.take 3 v0), sl (List.take 3 c0), V.im (min n0 20) (elF a0 b0 (min n0 20))])) (1 + 1) (O.row 32 (some 3) ([sl (List.take 3 v0), sl (List.take 3 c0), V.im (min n0 20) (elF a0 b0 (min n0 20))] ++ [sl (mV W 0), sl (mC W 0), V.im (mN W 0) (elF (mA Ls kk 0) (mB Ls kk 0) (mN W 0)), sl (mV W 1), sl (mC W 1), V.im (mN W 1) (elF (mA Ls kk 1) (mB Ls kk 1) (mN W 1)), sl (mV W 2), sl (mC W 2), V.im (mN W 2) (elF (mA Ls kk 2) (mB Ls kk 2) (mN W 2))])) → 1 = 1 + 1 + 1 → CR.mk (V.agg [sl (List.take 3 v0), sl (List.take 3 c0), V.im (min n0 20) (elF a0 b0 (min n0 20))]) (ofOs T.e 0 [O.row 33 none (rwL v0 c0 n0 a0 b0 v1 c1 n1 a1 b1)]) 1 [] = CR.mk (V.agg [sl (List.take 3 v0), sl (List.take 3 c0), V.im (min n0 20) (elF a0 b0 (min n0 20))]) (T.put (pt (ofOs T.e 0 [O.row 33 none (rwL v0 c0 n0 a0 b0 v1 c1 n1 a1 b1)]) 1 (O.row 32 none [sl (List.take 3 v0), sl (List.take 3 c0), V.im (min n0 20) (elF a0 b0 (min n0 20))])) (1 + 1) (O.row 32 (some 3) ([sl (List.take 3 v0), sl (List.take 3 c0), V.im (min n0 20) (elF a0 b0 (min n0 20))] ++ [sl (mV W 0), sl (mC W 0), V.im (mN W 0) (elF (mA Ls kk 0) (mB Ls kk 0) (mN W 0)), sl (mV W 1), sl (mC W 1), V.im (mN W 1) (elF (mA Ls kk 1) (mB Ls kk 1) (mN W 1)), sl (mV W 2), sl (mC W 2), V.im (mN W 2) (elF (mA Ls kk 2) (mB Ls kk 2) (mN W 2))]))) (1 + 1 + 1) []) ∧ True) ∧ ((TT 3) ∧ True) ∧ FnOk Pg g0 14 [V.agg [V.im (List.length v1) (ints v1), V.im (List.length c1) (ints c1), V.im n1 (elF a1 b1 n1)]] (V.agg [sl (List.take 3 v1), sl (List.take 3 c1), V.im (min n1 20) (elF a1 b1 (min n1 20))]) ∧ ((V.fn 14 [] = V.fn 14 [] → [V.agg [sl v0, sl c0, V.im n0 (elF a0 b0 n0)]] = [V.agg [sl v1, sl c1, V.im n1 (elF a1 b1 n1)]] → T.put (pt (ofOs T.e 0 [O.row 33 none (rwL v0 c0 n0 a0 b0 v1 c1 n1 a1 b1)]) 1 (O.row 32 none [sl (List.take 3 v0), sl (List.take 3 c0), V.im (min n0 20) (elF a0 b0 (min n0 20))])) (1 + 1) (O.row 32 (some 3) ([sl (List.take 3 v0), sl (List.take 3 c0), V.im (min n0 20) (elF a0 b0 (min n0 20))] ++ [sl (mV W 0), sl (mC W 0), V.im (mN W 0) (elF (mA Ls kk 0) (mB Ls kk 0) (mN W 0)), sl (mV W 1), sl (mC W 1), V.im (mN W 1) (elF (mA Ls kk 1) (mB Ls kk 1) (mN W 1)), sl (mV W 2), sl (mC W 2), V.im (mN W 2) (elF (mA Ls kk 2) (mB Ls kk 2) (mN W 2))])) = T.put (pt (ofOs T.e 0 [O.row 33 none (rwL v0 c0 n0 a0 b0 v1 c1 n1 a1 b1)]) 1 (O.row 32 none [sl (List.take 3 v0), sl (List.take 3 c0), V.im (min n0 20) (elF a0 b0 (min n0 20))])) (1 + 1) (O.row 32 (some 3) ([sl (List.take 3 v0), sl (List.take 3 c0), V.im (min n0 20) (elF a0 b0 (min n0 20))] ++ [sl (mV W 0), sl (mC W 0), V.im (mN W 0) (elF (mA Ls kk 0) (mB Ls kk 0) (mN W 0)), sl (mV W 1), sl (mC W 1), V.im (mN W 1) (elF (mA Ls kk 1) (mB Ls kk 1) (mN W 1)), sl (mV W 2), sl (mC W 2), V.im (mN W 2) (elF (mA Ls kk 2) (mB Ls kk 2) (mN W 2))])) → 1 + 1 + 1 = 1 + 1 + 1 → CR.mk (V.agg [sl (List.take 3 v0), sl (List.take 3 c0), V.im (min n0 20) (elF a0 b0 (min n0 20))]) (T.put (pt (ofOs T.e 0 [O.row 33 none (rwL v0 c0 n0 a0 b0 v1 c1 n1 a1 b1)]) 1 (O.row 32 none [sl (List.take 3 v0), sl (List.take 3 c0), V.im (min n0 20) (elF a0 b0 (min n0 20))])) (1 + 1) (O.row 32 (some 3) ([sl (List.take 3 v0), sl (List.take 3 c0), V.im (min n0 20) (elF a0 b0 (min n0 20))] ++ [sl (mV W 0), sl (mC W 0), V.im (mN W 0) (elF (mA Ls kk 0) (mB Ls kk 0) (mN W 0)), sl (mV W 1), sl (mC W 1), V.im (mN W 1) (elF (mA Ls kk 1) (mB Ls kk 1) (mN W 1)), sl (mV W 2), sl (mC W 2), V.im (mN W 2) (elF (mA Ls kk 2) (mB Ls kk 2) (mN W 2))]))) (1 + 1 + 1) [] = CR.mk (V.agg [sl (List.take 3 v1), sl (List.take 3 c1), V.im (min n1 20) (elF a1 b1 (min n1 20))]) (T.put (pt (ofOs T.e 0 [O.row 33 none (rwL v0 c0 n0 a0 b0 v1 c1 n1 a1 b1)]) 1 (O.row 32 none [sl (List.take 3 v0), sl (List.take 3 c0), V.im (min n0 20) (elF a0 b0 (min n0 20))])) (1 + 1) (O.row 32 (some 3) ([sl (List.take 3 v0), sl (List.take 3 c0), V.im (min n0 20) (elF a0 b0 (min n0 20))] ++ [sl (mV W 0), sl (mC W 0), V.im (mN W 0) (elF (mA Ls kk 0) (mB Ls kk 0) (mN W 0)), sl (mV W 1), sl (mC W 1), V.im (mN W 1) (elF (mA Ls kk 1) (mB Ls kk 1) (mN W 1)), sl (mV W 2), sl (mC W 2), V.im (mN W 2) (elF (mA Ls kk 2) (mB Ls kk 2) (mN W 2))]))) (1 + 1 + 1) []) ∧ (V.fn 14 [] = V.fn 14 [] → [V.agg [sl v0, sl c0, V.im n0 (elF a0 b0 n0)]] = [V.agg [sl v1, sl c1, V.im n1 (elF a1 b1 n1)]] → ofOs T.e 0 [O.row 33 none (rwL v0 c0 n0 a0 b0 v1 c1 n1 a1 b1)] = T.put (pt (ofOs T.e 0 [O.row 33 none (rwL v0 c0 n0 a0 b0 v1 c1 n1 a1 b1)]) 1 (O.row 32 none [sl (List.take 3 v0), sl (List.take 3 c0), V.im (min n0 20) (elF a0 b0 (min n0 20))])) (1 + 1) (O.row 32 (some 3) ([sl (List.take 3 v0), sl (List.take 3 c0), V.im (min n0 20) (elF a0 b0 (min n0 20))] ++ [sl (mV W 0), sl (mC W 0), V.im (mN W 0) (elF (mA Ls kk 0) (mB Ls kk 0) (mN W 0)), sl (mV W 1), sl (mC W 1), V.im (mN W 1) (elF (mA Ls kk 1) (mB Ls kk 1) (mN W 1)), sl (mV W 2), sl (mC W 2), V.im (mN W 2) (elF (mA Ls kk 2) (mB Ls kk 2) (mN W 2))])) → 1 = 1 + 1 + 1 → CR.mk (V.agg [sl (List.take 3 v0), sl (List.take 3 c0), V.im (min n0 20) (elF a0 b0 (min n0 20))]) (ofOs T.e 0 [O.row 33 none (rwL v0 c0 n0 a0 b0 v1 c1 n1 a1 b1)]) 1 [] = CR.mk (V.agg [sl (List.take 3 v1), sl (List.take 3 c1), V.im (min n1 20) (elF a1 b1 (min n1 20))]) (T.put (pt (ofOs T.e 0 [O.row 33 none (rwL v0 c0 n0 a0 b0 v1 c1 n1 a1 b1)]) 1 (O.row 32 none [sl (List.take 3 v0), sl (List.take 3 c0), V.im (min n0 20) (elF a0 b0 (min n0 20))])) (1 + 1) (O.row 32 (some 3) ([sl (List.take 3 v0), sl (List.take 3 c0), V.im (min n0 20) (elF a0 b0 (min n0 20))] ++ [sl (mV W 0), sl (mC W 0), V.im (mN W 0) (elF (mA Ls kk 0) (mB Ls kk 0) (mN W 0)), sl (mV W 1), sl (mC W 1), V.im (mN W 1) (elF (mA Ls kk 1) (mB Ls kk 1) (mN W 1)), sl (mV W 2), sl (mC W 2), V.im (mN W 2) (elF (mA Ls kk 2) (mB Ls kk 2) (mN W 2))]))) (1 + 1 + 1) []) ∧ True) ∧ (((List.length keep = List.length keep ∧ ints keep = ints keep) ∧ (dn = dn ∧ blF (dtF W Ls) dn = blF (dtF W Ls) dn) ∧ (↑w : Int) = (↑w : Int) ∧ 0 = 0 ∧ kk = kk ∧ (List.length so = List.length so ∧ ints so = ints so) ∧ (k0 = k0 ∧ k1 = k1 ∧ True) ∧ (↑ia : Int) = (↑ia : Int) ∧ ((3 = 3 ∧ blF (mT W Ls kk) 3 = blF (mT W Ls kk) 3) ∧ (3 + 1 = 1 + 3 ∧ blF (tbF (conF (List.take 3 v0) (mV W)) (conF (List.take 3 c0) (mC W)) (conF a0 (mA Ls kk)) (conF b0 (mB Ls kk)) (conF (min n0 20) (mN W))) (3 + 1) = [sl (List.take 3 v0), sl (List.take 3 c0), V.im (min n0 20) (elF a0 b0 (min n0 20))] ++ [sl (mV W 0), sl (mC W 0), V.im (mN W 0) (elF (mA Ls kk 0) (mB Ls kk 0) (mN W 0)), sl (mV W 1), sl (mC W 1), V.im (mN W 1) (elF (mA Ls kk 1) (mB Ls kk 1) (mN W 1)), sl (mV W 2), sl (mC W 2), V.im (mN W 2) (elF (mA Ls kk 2) (mB Ls kk 2) (mN W 2))] ∧ TT 12) ∧ (2 = 2 ∧ blF (tbF (conF (List.take 3 v0) fun x => List.take 3 v1) (conF (List.take 3 c0) fun x => List.take 3 c1) (conF a0 fun x => a1) (conF b0 fun x => b1) (conF (min n0 20) fun x => min n1 20)) 2 = [sl (List.take 3 v0), sl (List.take 3 c0), V.im (min n0 20) (elF a0 b0 (min n0 20)), sl (List.take 3 v1), sl (List.take 3 c1), V.im (min n1 20) (elF a1 b1 (min n1 20))] ∧ TT 6) ∧ True) ∧ (↑(0 : Nat) : Int) = (0 : Int) ∧ True) ∧ (rwL v0 c0 n0 a0 b0 v1 c1 n1 a1 b1 = rwL v0 c0 n0 a0 b0 v1 c1 n1 a1 b1 ∧ TT 6) ∧ True) ∧ Sat Pg none 0 (at' 4 [1, 1, 1, 0, 1, 0, 0, 1, 1, 0, 0, 1, 1, 1, 1, 1, 1, 1, 0]) (mkSt g0 161 (l8X (List.length keep) (ints keep) dn (blF (dtF W Ls) dn) w kk (List.length so) (ints so) k0 k1 (↑ia : Int) 3 (blF (mT W Ls kk) 3) (3 + 1) (blF (tbF (conF (List.take 3 v0) (mV W)) (conF (List.take 3 c0) (mC W)) (conF a0 (mA Ls kk)) (conF b0 (mB Ls kk)) (conF (min n0 20) (mN W))) (3 + 1)) (blF (tbF (conF (List.take 3 v0) fun x => List.take 3 v1) (conF (List.take 3 c0) fun x => List.take 3 c1) (conF a0 fun x => a1) (conF b0 fun x => b1) (conF (min n0 20) fun x => min n1 20)) 2) (↑(0 : Nat) : Int) (rwL v0 c0 n0 a0 b0 v1 c1 n1 a1 b1))) (outsP g0 161 [(True, Ex.exit 6, l6X (List.length keep) (ints keep) dn (blF (dtF W Ls) dn) w k0 k1 (rwL v0 c0 n0 a0 b0 v1 c1 n1 a1 b1) (↑ia : Int))]) ∧ (True → wr IntKind.i64 ((↑ia : Int) + (1 : Int)) = (↑(ia + 1) : Int) ∧ ((List.length keep = List.length keep ∧ ints keep = ints keep) ∧ (dn = dn ∧ blF (dtF W Ls) dn = blF (dtF W Ls) dn) ∧ (↑w : Int) = (↑w : Int) ∧ 0 = 0 ∧ (k0 = k0 ∧ k1 = k1 ∧ True) ∧ (↑(ia + 1) : Int) = (↑(ia + 1) : Int) ∧ True) ∧ (rwL v0 c0 n0 a0 b0 v1 c1 n1 a1 b1 = rwL v0 c0 n0 a0 b0 v1 c1 n1 a1 b1 ∧ TT 6) ∧ True) ∧ True) ∧ True) ∧ True) = _) ?_
    (repeat' (first | (with_reducible apply And.intro) | (refine fun (_ : True) => ?_)))
    all_goals first | exact aq | exact hidx | exact hct | exact l2 | exact l4 _ | exact l6 | exact hcd | exact t0 | exact t1 | rfl | (intro _ h _ _; obtain ⟨h1, h2, h3⟩ := cut_same h; rw [h1, h2, h3]) | kernel_rfl | skip
  · refine ⟨[yes 44, va 45 (i6 kk), nu 49 ((min dn 4 : Nat) : Int), va 50 (.im (min dn 4) (blF (dtF W Ls) (min dn 4))), (0, .loop [0] (l2S keep.length (ints keep) dn (blF (dtF W Ls) dn) w kk k0 k1 ia (rwL v0 c0 n0 a0 b0 v1 c1 n1 a1 b1) W Ls (min dn 4) (0, 0)) [(True, .exit 2, l2X keep.length (ints keep) dn (blF (dtF W Ls) dn) w kk k0 k1 ia (rwL v0 c0 n0 a0 b0 v1 c1 n1 a1 b1) 4 (blF (mT W Ls kk) 4))]), fn 67 (.tup [.im 64 (a64 F), .bool g]), (0, .loop [0] (l4S keep.length (ints keep) dn (blF (dtF W Ls) dn) w kk k0 k1 ia (rwL v0 c0 n0 a0 b0 v1 c1 n1 a1 b1) 4 (blF (mT W Ls kk) 4) F (0, 0, [])) [(True, .exit 4, l4X keep.length (ints keep) dn (blF (dtF W Ls) dn) w kk k0 k1 ia (rwL v0 c0 n0 a0 b0 v1 c1 n1 a1 b1) 4 (blF (mT W Ls kk) 4) so.length so)]), fn 94 (.agg [sl (v0.take 3), sl (c0.take 3), .im (min n0 20) (elF a0 b0 (min n0 20))]), fn 100 (.agg [sl (v0.take 3), sl (c0.take 3), .im (min n0 20) (elF a0 b0 (min n0 20))]), fn 103 (.agg [sl (v1.take 3), sl (c1.take 3), .im (min n1 20) (elF a1 b1 (min n1 20))]), (0, .loop [0] (l8X keep.length (ints keep) dn (blF (dtF W Ls) dn) w kk so.length (ints so) k0 k1 ia 4 (blF (mT W Ls kk) 4) (4 + 1) (blF (tbF (conF (v0.take 3) (mV W)) (conF (c0.take 3) (mC W)) (conF a0 (mA Ls kk)) (conF b0 (mB Ls kk)) (conF (min n0 20) (mN W))) (4 + 1)) (blF (tbF (conF (v0.take 3) (fun _ => v1.take 3)) (conF (c0.take 3) (fun _ => c1.take 3)) (conF a0 (fun _ => a1)) (conF b0 (fun _ => b1)) (conF (min n0 20) (fun _ => min n1 20))) 2) (0 : Nat) (rwL v0 c0 n0 a0 b0 v1 c1 n1 a1 b1)) [(True, .exit 6, l6X keep.length (ints keep) dn (blF (dtF W Ls) dn) w k0 k1 (rwL v0 c0 n0 a0 b0 v1 c1 n1 a1 b1) ia)]), nu 160 (ia + 1 : Nat)], ?_⟩
    refine Eq.mp (by kernel_rfl : (decide ((↑ia : Int) < (2 : Int)) = true ∧ idxV (ctxOf Try.prog) 35 (V.agg [i6 k0, i6 k1]) (↑ia : Int) = some (i6 kk) ∧ (if (4 : Int) < (↑dn : Int) then (4 : Int) else (↑dn : Int)) = (↑(min dn 4) : Int) ∧ sliceV (ctxOf Try.prog) 34 (V.im dn (blF (dtF W Ls) dn)) none (some (↑(min dn 4) : Int)) none = some (V.im (min dn 4) (blF (dtF W Ls) (min dn 4))) ∧ (((List.length keep = List.length keep ∧ ints keep = ints keep) ∧ (dn = dn ∧ blF (dtF W Ls) dn = blF (dtF W Ls) dn) ∧ (↑w : Int) = (↑w : Int) ∧ 0 = 0 ∧ kk = kk ∧ (k0 = k0 ∧ k1 = k1 ∧ True) ∧ (↑ia : Int) = (↑ia : Int) ∧ True ∧ (min dn 4 = min dn 4 ∧ blF (dtF W Ls) (min dn 4) = blF (dtF W Ls) (min dn 4)) ∧ (↑(min dn 4) : Int) = (↑(min dn 4) : Int) ∧ (↑(0 : Nat) : Int) = (0 : Int) ∧ True) ∧ (rwL v0 c0 n0 a0 b0 v1 c1 n1 a1 b1 = rwL v0 c0 n0 a0 b0 v1 c1 n1 a1 b1 ∧ TT 6) ∧ True) ∧ Sat Pg none 0 (at' 4 [1, 1, 1, 0, 1, 0, 0, 1, 1, 0, 0, 1, 1, 0, 1, 0]) (mkSt g0 161 (l2S (List.length keep) (ints keep) dn (blF (dtF W Ls) dn) w kk k0 k1 (↑ia : Int) (rwL v0 c0 n0 a0 b0 v1 c1 n1 a1 b1) W Ls (min dn 4) (0, 0))) (outsP g0 161 [(True, Ex.exit 2, l2X (List.length keep) (ints keep) dn (blF (dtF W Ls) dn) w kk k0 k1 (↑ia : Int) (rwL v0 c0 n0 a0 b0 v1 c1 n1 a1 b1) 4 (blF (mT W Ls kk) 4))]) ∧ (True → (True ∧ True) ∧ FnOk Pg g0 13 [V.im 4 (blF (mT W Ls kk) 4)] (V.tup [V.im 64 (a64 F), V.bool g]) ∧ True ∧ (((List.length keep = List.length keep ∧ ints keep = ints keep) ∧ (dn = dn ∧ blF (dtF W Ls) dn = blF (dtF W Ls) dn) ∧ (↑w : Int) = (↑w : Int) ∧ 0 = 0 ∧ kk = kk ∧ (k0 = k0 ∧ k1 = k1 ∧ True) ∧ (↑ia : Int) = (↑ia : Int) ∧ (4 = 4 ∧ blF (mT W Ls kk) 4 = blF (mT W Ls kk) 4) ∧ (64 = 64 ∧ a64 F = a64 F) ∧ True ∧ (↑(0 : Nat) : Int) = (0 : Int) ∧ True) ∧ (rwL v0 c0 n0 a0 b0 v1 c1 n1 a1 b1 = rwL v0 c0 n0 a0 b0 v1 c1 n1 a1 b1 ∧ TT 6) ∧ True) ∧ Sat Pg none 0 (at' 4 [1, 1, 1, 0, 1, 0, 0, 1, 1, 0, 0, 1, 1, 1, 1, 1, 0, 1, 0]) (mkSt g0 161 (l4S (List.length keep) (ints keep) dn (blF (dtF W Ls) dn) w kk k0 k1 (↑ia : Int) (rwL v0 c0 n0 a0 b0 v1 c1 n1 a1 b1) 4 (blF (mT W Ls kk) 4) F (0, 0, []))) (outsP g0 161 [(True, Ex.exit 4, l4X (List.length keep) (ints keep) dn (blF (dtF W Ls) dn) w kk k0 k1 (↑ia : Int) (rwL v0 c0 n0 a0 b0 v1 c1 n1 a1 b1) 4 (blF (mT W Ls kk) 4) (List.length so) so)]) ∧ (True → ((TT 3) ∧ True) ∧ FnOk Pg g0 14 [V.agg [V.im (List.length v0) (ints v0), V.im (List.length c0) (ints c0), V.im n0 (elF a0 b0 n0)]] (V.agg [sl (List.take 3 v0), sl (List.take 3 c0), V.im (min n0 20) (elF a0 b0 (min n0 20))]) ∧ True ∧ ((TT 3) ∧ True) ∧ FnOk Pg g0 14 [V.agg [V.im (List.length v0) (ints v0), V.im (List.length c0) (ints c0), V.im n0 (elF a0 b0 n0)]] (V.agg [sl (List.take 3 v0), sl (List.take 3 c0), V.im (min n0 20) (elF a0 b0 (min n0 20))]) ∧ ((V.fn 14 [] = V.fn 14 [] → [V.agg [sl v0, sl c0, V.im n0 (elF a0 b0 n0)]] = [V.agg [sl v0, sl c0, V.im n0 (elF a0 b0 n0)]] → ofOs T.e 0 [O.row 33 none (rwL v0 c0 n0 a0 b0 v1 c1 n1 a1 b1)] = T.put (pt (ofOs T.e 0 [O.row 33 none (rwL v0 c0 n0 a0 b0 v1 c1 n1 a1 b1)]) 1 (O.row 32 none [sl (List.take 3 v0), sl (List.take 3 c0), V.im (min n0 20) (elF a0 b0 (min n0 20))])) (1 + 1) (O.row 32 (some 3) ([sl (List.take 3 v0), sl (List.take 3 c0), V.im (min n0 20) (elF a0 b0 (min n0 20))] ++ [sl (mV W 0), sl (mC W 0), V.im (mN W 0) (elF (mA Ls kk 0) (mB Ls kk 0) (mN W 0)), sl (mV W 1), sl (mC W 1), V.im (mN W 1) (elF (mA Ls kk 1) (mB Ls kk 1) (mN W 1)), sl (mV W 2), sl (mC W 2), V.im (mN W 2) (elF (mA Ls kk 2) (mB Ls kk 2) (mN W 2)), sl (mV W 3), sl (mC W 3), V.im (mN W 3) (elF (mA Ls kk 3) (mB Ls kk 3) (mN W 3))])) → 1 = 1 + 1 + 1 → CR.mk (V.agg [sl (List.take 3 v0), sl (List.take 3 c0), V.im (min n0 20) (elF a0 b0 (min n0 20))]) (ofOs T.e 0 [O.row 33 none (rwL v0 c0 n0 a0 b0 v1 c1 n1 a1 b1)]) 1 [] = CR.mk (V.agg [sl (List.take 3 v0), sl (List.take 3 c0), V.im (min n0 20) (elF a0 b0 (min n0 20))]) (T.put (pt (ofOs T.e 0 [O.row 33 none (rwL v0 c0 n0 a0 b0 v1 c1 n1 a1 b1)]) 1 (O.row 32 none [sl (List.take 3 v0), sl (List.take 3 c0), V.im (min n0 20) (elF a0 b0 (min n0 20))])) (1 + 1) (O.row 32 (some 3) ([sl (List.take 3 v0), sl (List.take 3 c0), V.im (min n0 20) (elF a0 b0 (min n0 20))] ++ [sl (mV W 0), sl (mC W 0), V.im (mN W 0) (elF (mA Ls kk 0) (mB Ls kk 0) (mN W 0)), sl (mV W 1), sl (mC W 1), V.im (mN W 1) (elF (mA Ls kk 1) (mB Ls kk 1) (mN W 1)), sl (mV W 2), sl (mC W 2), V.im (mN W 2) (elF (mA Ls kk 2) (mB Ls kk 2) (mN W 2)), sl (mV W 3), sl (mC W 3), V.im (mN W 3) (elF (mA Ls kk 3) (mB Ls kk 3) (mN W 3))]))) (1 + 1 + 1) []) ∧ True) ∧ ((TT 3) ∧ True) ∧ FnOk Pg g0 14 [V.agg [V.im (List.length v1) (ints v1), V.im (List.length c1) (ints c1), V.im n1 (elF a1 b1 n1)]] (V.agg [sl (List.take 3 v1), sl (List.take 3 c1), V.im (min n1 20) (elF a1 b1 (min n1 20))]) ∧ ((V.fn 14 [] = V.fn 14 [] → [V.agg [sl v0, sl c0, V.im n0 (elF a0 b0 n0)]] = [V.agg [sl v1, sl c1, V.im n1 (elF a1 b1 n1)]] → T.put (pt (ofOs T.e 0 [O.row 33 none (rwL v0 c0 n0 a0 b0 v1 c1 n1 a1 b1)]) 1 (O.row 32 none [sl (List.take 3 v0), sl (List.take 3 c0), V.im (min n0 20) (elF a0 b0 (min n0 20))])) (1 + 1) (O.row 32 (some 3) ([sl (List.take 3 v0), sl (List.take 3 c0), V.im (min n0 20) (elF a0 b0 (min n0 20))] ++ [sl (mV W 0), sl (mC W 0), V.im (mN W 0) (elF (mA Ls kk 0) (mB Ls kk 0) (mN W 0)), sl (mV W 1), sl (mC W 1), V.im (mN W 1) (elF (mA Ls kk 1) (mB Ls kk 1) (mN W 1)), sl (mV W 2), sl (mC W 2), V.im (mN W 2) (elF (mA Ls kk 2) (mB Ls kk 2) (mN W 2)), sl (mV W 3), sl (mC W 3), V.im (mN W 3) (elF (mA Ls kk 3) (mB Ls kk 3) (mN W 3))])) = T.put (pt (ofOs T.e 0 [O.row 33 none (rwL v0 c0 n0 a0 b0 v1 c1 n1 a1 b1)]) 1 (O.row 32 none [sl (List.take 3 v0), sl (List.take 3 c0), V.im (min n0 20) (elF a0 b0 (min n0 20))])) (1 + 1) (O.row 32 (some 3) ([sl (List.take 3 v0), sl (List.take 3 c0), V.im (min n0 20) (elF a0 b0 (min n0 20))] ++ [sl (mV W 0), sl (mC W 0), V.im (mN W 0) (elF (mA Ls kk 0) (mB Ls kk 0) (mN W 0)), sl (mV W 1), sl (mC W 1), V.im (mN W 1) (elF (mA Ls kk 1) (mB Ls kk 1) (mN W 1)), sl (mV W 2), sl (mC W 2), V.im (mN W 2) (elF (mA Ls kk 2) (mB Ls kk 2) (mN W 2)), sl (mV W 3), sl (mC W 3), V.im (mN W 3) (elF (mA Ls kk 3) (mB Ls kk 3) (mN W 3))])) → 1 + 1 + 1 = 1 + 1 + 1 → CR.mk (V.agg [sl (List.take 3 v0), sl (List.take 3 c0), V.im (min n0 20) (elF a0 b0 (min n0 20))]) (T.put (pt (ofOs T.e 0 [O.row 33 none (rwL v0 c0 n0 a0 b0 v1 c1 n1 a1 b1)]) 1 (O.row 32 none [sl (List.take 3 v0), sl (List.take 3 c0), V.im (min n0 20) (elF a0 b0 (min n0 20))])) (1 + 1) (O.row 32 (some 3) ([sl (List.take 3 v0), sl (List.take 3 c0), V.im (min n0 20) (elF a0 b0 (min n0 20))] ++ [sl (mV W 0), sl (mC W 0), V.im (mN W 0) (elF (mA Ls kk 0) (mB Ls kk 0) (mN W 0)), sl (mV W 1), sl (mC W 1), V.im (mN W 1) (elF (mA Ls kk 1) (mB Ls kk 1) (mN W 1)), sl (mV W 2), sl (mC W 2), V.im (mN W 2) (elF (mA Ls kk 2) (mB Ls kk 2) (mN W 2)), sl (mV W 3), sl (mC W 3), V.im (mN W 3) (elF (mA Ls kk 3) (mB Ls kk 3) (mN W 3))]))) (1 + 1 + 1) [] = CR.mk (V.agg [sl (List.take 3 v1), sl (List.take 3 c1), V.im (min n1 20) (elF a1 b1 (min n1 20))]) (T.put (pt (ofOs T.e 0 [O.row 33 none (rwL v0 c0 n0 a0 b0 v1 c1 n1 a1 b1)]) 1 (O.row 32 none [sl (List.take 3 v0), sl (List.take 3 c0), V.im (min n0 20) (elF a0 b0 (min n0 20))])) (1 + 1) (O.row 32 (some 3) ([sl (List.take 3 v0), sl (List.take 3 c0), V.im (min n0 20) (elF a0 b0 (min n0 20))] ++ [sl (mV W 0), sl (mC W 0), V.im (mN W 0) (elF (mA Ls kk 0) (mB Ls kk 0) (mN W 0)), sl (mV W 1), sl (mC W 1), V.im (mN W 1) (elF (mA Ls kk 1) (mB Ls kk 1) (mN W 1)), sl (mV W 2), sl (mC W 2), V.im (mN W 2) (elF (mA Ls kk 2) (mB Ls kk 2) (mN W 2)), sl (mV W 3), sl (mC W 3), V.im (mN W 3) (elF (mA Ls kk 3) (mB Ls kk 3) (mN W 3))]))) (1 + 1 + 1) []) ∧ (V.fn 14 [] = V.fn 14 [] → [V.agg [sl v0, sl c0, V.im n0 (elF a0 b0 n0)]] = [V.agg [sl v1, sl c1, V.im n1 (elF a1 b1 n1)]] → ofOs T.e 0 [O.row 33 none (rwL v0 c0 n0 a0 b0 v1 c1 n1 a1 b1)] = T.put (pt (ofOs T.e 0 [O.row 33 none (rwL v0 c0 n0 a0 b0 v1 c1 n1 a1 b1)]) 1 (O.row 32 none [sl (List.take 3 v0), sl (List.take 3 c0), V.im (min n0 20) (elF a0 b0 (min n0 20))])) (1 + 1) (O.row 32 (some 3) ([sl (List.take 3 v0), sl (List.take 3 c0), V.im (min n0 20) (elF a0 b0 (min n0 20))] ++ [sl (mV W 0), sl (mC W 0), V.im (mN W 0) (elF (mA Ls kk 0) (mB Ls kk 0) (mN W 0)), sl (mV W 1), sl (mC W 1), V.im (mN W 1) (elF (mA Ls kk 1) (mB Ls kk 1) (mN W 1)), sl (mV W 2), sl (mC W 2), V.im (mN W 2) (elF (mA Ls kk 2) (mB Ls kk 2) (mN W 2)), sl (mV W 3), sl (mC W 3), V.im (mN W 3) (elF (mA Ls kk 3) (mB Ls kk 3) (mN W 3))])) → 1 = 1 + 1 + 1 → CR.mk (V.agg [sl (List.take 3 v0), sl (List.take 3 c0), V.im (min n0 20) (elF a0 b0 (min n0 20))]) (ofOs T.e 0 [O.row 33 none (rwL v0 c0 n0 a0 b0 v1 c1 n1 a1 b1)]) 1 [] = CR.mk (V.agg [sl (List.take 3 v1), sl (List.take 3 c1), V.im (min n1 20) (elF a1 b1 (min n1 20))]) (T.put (pt (ofOs T.e 0 [O.row 33 none (rwL v0 c0 n0 a0 b0 v1 c1 n1 a1 b1)]) 1 (O.row 32 none [sl (List.take 3 v0), sl (List.take 3 c0), V.im (min n0 20) (elF a0 b0 (min n0 20))])) (1 + 1) (O.row 32 (some 3) ([sl (List.take 3 v0), sl (List.take 3 c0), V.im (min n0 20) (elF a0 b0 (min n0 20))] ++ [sl (mV W 0), sl (mC W 0), V.im (mN W 0) (elF (mA Ls kk 0) (mB Ls kk 0) (mN W 0)), sl (mV W 1), sl (mC W 1), V.im (mN W 1) (elF (mA Ls kk 1) (mB Ls kk 1) (mN W 1)), sl (mV W 2), sl (mC W 2), V.im (mN W 2) (elF (mA Ls kk 2) (mB Ls kk 2) (mN W 2)), sl (mV W 3), sl (mC W 3), V.im (mN W 3) (elF (mA Ls kk 3) (mB Ls kk 3) (mN W 3))]))) (1 + 1 + 1) []) ∧ True) ∧ (((List.length keep = List.length keep ∧ ints keep = ints keep) ∧ (dn = dn ∧ blF (dtF W Ls) dn = blF (dtF W Ls) dn) ∧ (↑w : Int) = (↑w : Int) ∧ 0 = 0 ∧ kk = kk ∧ (List.length so = List.length so ∧ ints so = ints so) ∧ (k0 = k0 ∧ k1 = k1 ∧ True) ∧ (↑ia : Int) = (↑ia : Int) ∧ ((4 = 4 ∧ blF (mT W Ls kk) 4 = blF (mT W Ls kk) 4) ∧ (4 + 1 = 1 + 4 ∧ blF (tbF (conF (List.take 3 v0) (mV W)) (conF (List.take 3 c0) (mC W)) (conF a0 (mA Ls kk)) (conF b0 (mB Ls kk)) (conF (min n0 20) (mN W))) (4 + 1) = [sl (List.take 3 v0), sl (List.take 3 c0), V.im (min n0 20) (elF a0 b0 (min n0 20))] ++ [sl (mV W 0), sl (mC W 0), V.im (mN W 0) (elF (mA Ls kk 0) (mB Ls kk 0) (mN W 0)), sl (mV W 1), sl (mC W 1), V.im (mN W 1) (elF (mA Ls kk 1) (mB Ls kk 1) (mN W 1)), sl (mV W 2), sl (mC W 2), V.im (mN W 2) (elF (mA Ls kk 2) (mB Ls kk 2) (mN W 2)), sl (mV W 3), sl (mC W 3), V.im (mN W 3) (elF (mA Ls kk 3) (mB Ls kk 3) (mN W 3))] ∧ TT 15) ∧ (2 = 2 ∧ blF (tbF (conF (List.take 3 v0) fun x => List.take 3 v1) (conF (List.take 3 c0) fun x => List.take 3 c1) (conF a0 fun x => a1) (conF b0 fun x => b1) (conF (min n0 20) fun x => min n1 20)) 2 = [sl (List.take 3 v0), sl (List.take 3 c0), V.im (min n0 20) (elF a0 b0 (min n0 20)), sl (List.take 3 v1), sl (List.take 3 c1), V.im (min n1 20) (elF a1 b1 (min n1 20))] ∧ TT 6) ∧ True) ∧ (↑(0 : Nat) : Int) = (0 : Int) ∧ True) ∧ (rwL v0 c0 n0 a0 b0 v1 c1 n1 a1 b1 = rwL v0 c0 n0 a0 b0 v1 c1 n1 a1 b1 ∧ TT 6) ∧ True) ∧ Sat Pg none 0 (at' 4 [1, 1, 1, 0, 1, 0, 0, 1, 1, 0, 0, 1, 1, 1, 1, 1, 1, 1, 0]) (mkSt g0 161 (l8X (List.length keep) (ints keep) dn (blF (dtF W Ls) dn) w kk (List.length so) (ints so) k0 k1 (↑ia : Int) 4 (blF (mT W Ls kk) 4) (4 + 1) (blF (tbF (conF (List.take 3 v0) (mV W)) (conF (List.take 3 c0) (mC W)) (conF a0 (mA Ls kk)) (conF b0 (mB Ls kk)) (conF (min n0 20) (mN W))) (4 + 1)) (blF (tbF (conF (List.take 3 v0) fun x => List.take 3 v1) (conF (List.take 3 c0) fun x => List.take 3 c1) (conF a0 fun x => a1) (conF b0 fun x => b1) (conF (min n0 20) fun x => min n1 20)) 2) (↑(0 : Nat) : Int) (rwL v0 c0 n0 a0 b0 v1 c1 n1 a1 b1))) (outsP g0 161 [(True, Ex.exit 6, l6X (List.length keep) (ints keep) dn (blF (dtF W Ls) dn) w k0 k1 (rwL v0 c0 n0 a0 b0 v1 c1 n1 a1 b1) (↑ia : Int))]) ∧ (True → wr IntKind.i64 ((↑ia : Int) + (1 : Int)) = (↑(ia + 1) : Int) ∧ ((List.length keep = List.length keep ∧ ints keep = ints keep) ∧ (dn = dn ∧ blF (dtF W Ls) dn = blF (dtF W Ls) dn) ∧ (↑w : Int) = (↑w : Int) ∧ 0 = 0 ∧ (k0 = k0 ∧ k1 = k1 ∧ True) ∧ (↑(ia + 1) : Int) = (↑(ia + 1) : Int) ∧ True) ∧ (rwL v0 c0 n0 a0 b0 v1 c1 n1 a1 b1 = rwL v0 c0 n0 a0 b0 v1 c1 n1 a1 b1 ∧ TT 6) ∧ True) ∧ True) ∧ True) ∧ True) = _) ?_
    (repeat' (first | (with_reducible apply And.intro) | (refine fun (_ : True) => ?_)))
    all_goals first | exact aq | exact hidx | exact hct | exact l2 | exact l4 _ | exact l6 | exact hcd | exact t0 | exact t1 | rfl | (intro _ h _ _; obtain ⟨h1, h2, h3⟩ := cut_same h; rw [h1, h2, h3]) | kernel_rfl | skip
theorem idx35 (k0 k1 : Int) : (idxV (ctxOf Pg) 35 (.agg [i6 k0, i6 k1]) ((0 : Nat) : Int) = some (i6 k0)) ∧ idxV (ctxOf Pg) 35 (.agg [i6 k0, i6 k1]) ((1 : Nat) : Int) = some (i6 k1) := ⟨by kernel_rfl, by kernel_rfl⟩
theorem sc_kinds (keep : List Int) (hk5 : keep.length ≤ 5) (dn : Nat) (W : Nat → Nat) (Ls : Nat → List Nat) (hW : ∀ i, i < dn → W i < 256) (hLs : ∀ i, i < dn → (∀ k, k < (Ls i).length → (Ls i).getD k 0 < 256) ∧ (Ls i).length ≤ 9223372036854775807) (w : Nat) (hw : w < 256) (k0 k1 : Int)
    (v0 c0 : List Int) (n0 : Nat) (a0 b0 : Nat → Int) (v1 c1 : List Int) (n1 : Nat) (a1 b1 : Nat → Int) (ia : Nat) (hia : ia ≤ 2) :
    Sat Pg none 0 (at' 4 [1, 1, 1, 0, 1, 0]) (mkSt g0 161 (l6X keep.length (ints keep) dn (blF (dtF W Ls) dn) w k0 k1 (rwL v0 c0 n0 a0 b0 v1 c1 n1 a1 b1) (ia : Int))) (outsP g0 161 [(True, .exit 0, { sl := [] })]) := by
  refine loopC vE_ok mixed sp0_ok (b := at' 4 [1, 1, 1, 0, 1, 0, 0]) (by kernel_rfl) (fun ia : Nat => ia ≤ 2) (fun ia : Nat => l6X keep.length (ints keep) dn (blF (dtF W Ls) dn) w k0 k1 (rwL v0 c0 n0 a0 b0 v1 c1 n1 a1 b1) (ia : Int)) (fun ia => 2 - ia) (fun ia hia => ?_) ia hia
  rcases (show ia = 0 ∨ ia = 1 ∨ ia = 2 by omega) with rfl | rfl | rfl
  · obtain ⟨hs, h⟩ := sc_kind keep hk5 dn W Ls hW hLs w hw k0 k0 k1 0 (by omega) (idx35 k0 k1).1 v0 c0 n0 a0 b0 v1 c1 n1 a1 b1
    exact .inl ⟨1, [0], hs, 1000, by omega, by omega, h⟩
  · obtain ⟨hs, h⟩ := sc_kind keep hk5 dn W Ls hW hLs w hw k1 k0 k1 1 (by omega) (idx35 k0 k1).2 v0 c0 n0 a0 b0 v1 c1 n1 a1 b1
    exact .inl ⟨2, [0], hs, 1000, by omega, by omega, h⟩
  · refine .inr ⟨.exit 0, [], { sl := [] }, [], 1000, .inl ⟨trivial, rfl, rfl⟩, ?_⟩
    refine Eq.mp (by kernel_rfl : (True ∧ True) = _) ?_
    (repeat' (first | (with_reducible apply And.intro) | (refine fun (_ : True) => ?_))) <;> first | exact aq | skip
    all_goals first | rfl | skip
theorem combines_true (kind : Int) (keep : List Int) (dn : Nat) (W : Nat → Nat) (Ls : Nat → List Nat) (hW : ∀ i, i < dn → W i < 256) (hLs : ∀ i, i < dn → (∀ k, k < (Ls i).length → (Ls i).getD k 0 < 256) ∧ (Ls i).length ≤ 9223372036854775807) (w : Nat) (hw : w < 256)
    (v0 c0 : List Int) (n0 : Nat) (a0 b0 : Nat → Int) (v1 c1 : List Int) (n1 : Nat) (a1 b1 : Nat → Int) :
    FnOk Pg g0 4 [i6 kind, .agg (rwL v0 c0 n0 a0 b0 v1 c1 n1 a1 b1), sl keep, .im dn (blF (dtF W Ls) dn), b8 w] (.bool true) := by
  have hwk := works_ok
  have hct := cut_ints keep 5 (min keep.length 5) rfl
  have hk5 : (keep.take 5).length ≤ 5 := by simp; omega
  have hrm := @rem_u8 (ctxOf Pg) 5 w 5 (by omega)
  have l := sc_kinds (keep.take 5) hk5 dn W Ls hW hLs w hw kind (1 + ((w % 5 : Nat) : Int)) v0 c0 n0 a0 b0 v1 c1 n1 a1 b1 0 (by omega)
  have hD := HfL_blF (HfL_dtF W Ls) dn
  have hH := HfL_ints (keep.take 5)
  have h5 := Nat.mod_lt w (show 0 < 5 by omega)
  clear hW hLs
  generalize blF (dtF W Ls) dn = dc at *
  generalize keep.take 5 = kp at *
  generalize w % 5 = r at *
  refine FnOk.of_vc vE_ok mixed sp0_ok (n := 1000) (r := []) (S := { sl := [(10, .bool true)] }) (hs := [fn 30 (.bool true), nu 35 ((min keep.length 5 : Nat) : Int), va 36 (sl kp), va 39 (b8 r), nu 40 (r : Int), nu 41 (1 + (r : Int)), (0, .loop [0] (l6X kp.length (ints kp) dn dc w kind (1 + (r : Int)) (rwL v0 c0 n0 a0 b0 v1 c1 n1 a1 b1) ((0 : Nat) : Int)) [(True, .exit 0, { sl := [] })])]) ?_
  refine Eq.mp (by kernel_rfl : (V.bool true = V.bool true ∧ True ∧ FnOk Try.prog g0 8 [] (V.bool true) ∧ True ∧ (if (5 : Int) < (↑(List.length keep) : Int) then (5 : Int) else (↑(List.length keep) : Int)) = (↑(min (List.length keep) 5) : Int) ∧ sliceV (ctxOf Try.prog) 29 (sl keep) none (some (↑(min (List.length keep) 5) : Int)) none = some (sl kp) ∧ binV (ctxOf Try.prog) BinOp.rem 5 (b8 w) (V.int IntKind.u8 (5 : Int)) = some (b8 r) ∧ wr IntKind.i64 (↑r : Int) = (↑r : Int) ∧ wr IntKind.i64 ((1 : Int) + (↑r : Int)) = (1 : Int) + (↑r : Int) ∧ (((List.length kp = List.length kp ∧ ints kp = ints kp) ∧ (dn = dn ∧ dc = dc) ∧ (↑w : Int) = (↑w : Int) ∧ 0 = 0 ∧ (kind = kind ∧ (1 : Int) + (↑r : Int) = (1 : Int) + (↑r : Int) ∧ True) ∧ (↑(0 : Nat) : Int) = (0 : Int) ∧ True) ∧ (rwL v0 c0 n0 a0 b0 v1 c1 n1 a1 b1 = [sl v0, sl c0, V.im n0 (elF a0 b0 n0), sl v1, sl c1, V.im n1 (elF a1 b1 n1)] ∧ TT 6) ∧ True) ∧ Sat Try.prog none 0 (at' 4 [1, 1, 1, 0, 1, 0]) (mkSt g0 161 (l6X (List.length kp) (ints kp) dn dc w kind ((1 : Int) + (↑r : Int)) (rwL v0 c0 n0 a0 b0 v1 c1 n1 a1 b1) (↑(0 : Nat) : Int))) (outsP g0 161 [(True, Ex.exit 0, SL.mk [] [] [] [])]) ∧ (True → (true = true ∧ True) ∧ True) ∧ True) = _) ?_
  (repeat' (first | (with_reducible apply And.intro) | (refine fun (_ : True) => ?_)))
  all_goals first | exact aq | exact hct | exact hrm | exact l | rfl | skip
theorem combines_law (kind : Int) (keep : List Int) (dn : Nat) (W : Nat → Nat) (Ls : Nat → List Nat) (hW : ∀ i, i < dn → W i < 256) (hLs : ∀ i, i < dn → (∀ k, k < (Ls i).length → (Ls i).getD k 0 < 256) ∧ (Ls i).length ≤ 9223372036854775807) (w : Int) (hw : (Lit.int .u8 w).wf = true)
    (v0 c0 : List Int) (a0 b0 : Nat → Int) (n0 : Nat) (v1 c1 : List Int) (a1 b1 : Nat → Int) (n1 : Nat) :
    FnOk Pg g0 4 [i6 kind, .agg [sl v0, sl c0, .im n0 (elF a0 b0 n0), sl v1, sl c1, .im n1 (elF a1 b1 n1)], .im keep.length (keep.map (V.int .i64)), .im dn (blF (dtF W Ls) dn), .int .u8 w] (.bool true) := by
  simp only [Lit.wf, Bool.and_eq_true, decide_eq_true_eq] at hw
  have h0 : (0 : Int) ≤ w := hw.1
  have h1 : w ≤ 255 := hw.2
  obtain ⟨m, rfl⟩ : ∃ m : Nat, w = m := ⟨w.toNat, by omega⟩
  exact combines_true kind keep dn W Ls hW hLs m (by omega) v0 c0 n0 a0 b0 v1 c1 n1 a1 b1
end Go.Proofs.Ytgdnmgcigkhojaa.Am
