/- Chapter 02: the helpers of the laws, and the drafted cards. -/
import Derived.Test.YtmnaidemihcfaaaV3
namespace Go.Proofs.Ytmnaidemihcfaaa.Am
open Go.RowKit
set_option linter.unusedVariables false
set_option maxHeartbeats 1000000
set_option maxRecDepth 100000

/-! ### cut, first, then, number, made -/

theorem ty22 : vE.G.ty 22 = some { desc := .slice 3, size := 1, bytes := 24, agg := false, zero := some [.nils] } := by kernel_rfl
theorem ty3 : vE.G.ty 3 = some { desc := .int .i64, size := 1, bytes := 8, agg := false, zero := some [i6 0] } := by kernel_rfl

theorem cut_slice (L : List Int) (m : Nat) (hm : m = min L.length 14) : sliceV vE.G 22 (V.im L.length (ints L)) none (some (m : Int)) none = some (sl (L.take 14)) := by
  unfold sliceV
  simp only [ty22, ty3, Option.getD_none, Option.getD_some, Option.isNone_none, and_true]
  rw [if_pos (by omega)]
  by_cases h0 : (0 : Int) = m
  · rw [if_pos h0]
    have : L = [] := by
      cases L with
      | nil => rfl
      | cons _ _ => simp at hm; omega
    subst this; rfl
  · rw [if_neg h0]
    have : L.take 14 = L.take m := by
      by_cases h14 : L.length ≤ 14
      · rw [List.take_of_length_le h14, List.take_of_length_le (by omega)]
      · rw [show m = 14 by omega]
    rw [this]
    congr 1
    unfold sl
    congr 1
    · simp; omega
    · simp [ints]

theorem cut_ok (L : List Int) : FnOk Pg .e 16 [sl L] (sl (L.take 14)) := by
  refine FnOk.of_vc vE_ok mixed sp0_ok (n := 1000) (r := []) (S := { sl := [(2, sl (L.take 14))] }) (hs := [nu 6 ((min L.length 14 : Nat) : Int), va 7 (sl (L.take 14))]) ?_
  refine Eq.mp (by kernel_rfl : (sl (List.take (14 : Nat) L) = sl (List.take (14 : Nat) L) ∧
        (if (14 : Int) < (↑(List.length L) : Int) then (14 : Int) else (↑(List.length L) : Int)) =
            (↑(min (List.length L) (14 : Nat)) : Int) ∧
          sliceV (ctxOf Try.prog) (22 : Nat) (sl L) none (some (↑(min (List.length L) (14 : Nat)) : Int)) none =
              some (sl (List.take (14 : Nat) L)) ∧
            ((List.length (List.take (14 : Nat) L) = List.length (List.take (14 : Nat) L) ∧
                  ints (List.take (14 : Nat) L) = ints (List.take (14 : Nat) L)) ∧
                True) ∧
              True) = _) ?_
  (repeat' (first | (with_reducible apply And.intro) | (refine fun (_ : True) => ?_))) <;> first | with_reducible (first | rfl | exact trivial | assumption | (refine decide_eq_true ?_ <;> omega) | (refine decide_eq_false ?_ <;> omega) | (refine head_ints1 ?_ <;> omega) | (refine bne_false ?_ <;> omega) | (refine bne_true ?_ <;> omega) | (refine beq_false' ?_ <;> omega) | (refine beq_true' ?_ <;> omega) | (refine wr6' ?_ ?_ ?_ <;> omega) | (refine rem6 ?_ <;> omega) | (refine quo6 ?_ ?_ ?_ <;> omega) | exact HfL_ints _ | omega) | ((with_reducible show (_ : V) = _); rfl) | (intro hk_; exact absurd hk_ (by simp)) | (intros; simp_all; done) | (split <;> omega) | ((with_reducible show decide _ = true); exact decide_eq_true (by omega)) | ((with_reducible show decide _ = false); exact decide_eq_false (by omega)) | skip
  exact cut_slice L _ rfl

def noI (o : Option Int) : Int := match o with | none => 20 | some _ => 0

theorem first_ok (L : List Int) : FnOk Pg .e 19 [sl L] (i6 (noI (count L))) := by
  have hr := right_ok L
  cases h : count L with
  | none =>
    rw [h] at hr
    refine FnOk.of_vc vE_ok mixed sp0_ok (n := 1000) (r := []) (S := { sl := [(2, i6 20)] }) (hs := [fn 4 (.bool false)]) ?_
    refine Eq.mp (by kernel_rfl : (i6 (20 : Int) = i6 (noI none) ∧
          (True ∧ True) ∧
            FnOk Try.prog T.e (67 : Nat) [V.im (List.length L) (ints L)] (V.bool false) ∧
              True ∧ ((20 : Int) = (20 : Int) ∧ True) ∧ True) = _) ?_
    (repeat' (first | (with_reducible apply And.intro) | (refine fun (_ : True) => ?_))) <;> first | with_reducible (first | rfl | exact trivial | assumption | (refine decide_eq_true ?_ <;> omega) | (refine decide_eq_false ?_ <;> omega) | (refine head_ints1 ?_ <;> omega) | (refine bne_false ?_ <;> omega) | (refine bne_true ?_ <;> omega) | (refine beq_false' ?_ <;> omega) | (refine beq_true' ?_ <;> omega) | (refine wr6' ?_ ?_ ?_ <;> omega) | (refine rem6 ?_ <;> omega) | (refine quo6 ?_ ?_ ?_ <;> omega) | exact HfL_ints _ | omega) | ((with_reducible show (_ : V) = _); rfl) | (intro hk_; exact absurd hk_ (by simp)) | (intros; simp_all; done) | (split <;> omega) | ((with_reducible show decide _ = true); exact decide_eq_true (by omega)) | ((with_reducible show decide _ = false); exact decide_eq_false (by omega)) | skip
  | some t =>
    rw [h] at hr
    refine FnOk.of_vc vE_ok mixed sp0_ok (n := 1000) (r := []) (S := { sl := [(2, i6 0)] }) (hs := [fn 4 (.bool true)]) ?_
    refine Eq.mp (by kernel_rfl : (i6 (0 : Int) = i6 (noI (some t)) ∧
          (True ∧ True) ∧
            FnOk Try.prog T.e (67 : Nat) [V.im (List.length L) (ints L)] (V.bool true) ∧
              True ∧ ((0 : Int) = (0 : Int) ∧ True) ∧ True) = _) ?_
    (repeat' (first | (with_reducible apply And.intro) | (refine fun (_ : True) => ?_))) <;> first | with_reducible (first | rfl | exact trivial | assumption | (refine decide_eq_true ?_ <;> omega) | (refine decide_eq_false ?_ <;> omega) | (refine head_ints1 ?_ <;> omega) | (refine bne_false ?_ <;> omega) | (refine bne_true ?_ <;> omega) | (refine beq_false' ?_ <;> omega) | (refine beq_true' ?_ <;> omega) | (refine wr6' ?_ ?_ ?_ <;> omega) | (refine rem6 ?_ <;> omega) | (refine quo6 ?_ ?_ ?_ <;> omega) | exact HfL_ints _ | omega) | ((with_reducible show (_ : V) = _); rfl) | (intro hk_; exact absurd hk_ (by simp)) | (intros; simp_all; done) | (split <;> omega) | ((with_reducible show decide _ = true); exact decide_eq_true (by omega)) | ((with_reducible show decide _ = false); exact decide_eq_false (by omega)) | skip

theorem then_err (b : Bool) : FnOk Pg .e 24 [i6 20, .bool b] (i6 20) := by
  cases b
  · exact FnOk.of_run vE_ok mixed (n := 1000) rfl (by kernel_rfl)
  · exact FnOk.of_run vE_ok mixed (n := 1000) rfl (by kernel_rfl)
theorem then_no : FnOk Pg .e 24 [i6 0, .bool false] (i6 2) := FnOk.of_run vE_ok mixed (n := 1000) rfl (by kernel_rfl)
theorem then_yes : FnOk Pg .e 24 [i6 0, .bool true] (i6 0) := FnOk.of_run vE_ok mixed (n := 1000) rfl (by kernel_rfl)

theorem number_20 (w : Int) : FnOk Pg .e 26 [i6 0, i6 20, i6 20, i6 w] (.bool true) := FnOk.of_run vE_ok mixed (n := 1000) rfl (by kernel_rfl)
theorem number_2 (w : Int) : FnOk Pg .e 26 [i6 0, i6 2, i6 2, i6 w] (.bool true) := FnOk.of_run vE_ok mixed (n := 1000) rfl (by kernel_rfl)
theorem number_ok (n : Int) : FnOk Pg .e 26 [i6 n, i6 0, i6 0, i6 n] (.bool true) := by
  refine FnOk.of_vc vE_ok mixed sp0_ok (n := 1000) (r := []) (S := boE 8 true) (hs := [yes 20]) ?_
  refine Eq.mp (by kernel_rfl : (V.bool true = V.bool true ∧ (n == n) = true ∧ (true = ((0 : Int) == (0 : Int)) ∧ True) ∧ True) = _) ?_
  (repeat' (first | (with_reducible apply And.intro) | (refine fun (_ : True) => ?_))) <;> first | with_reducible (first | rfl | exact trivial | assumption | (refine decide_eq_true ?_ <;> omega) | (refine decide_eq_false ?_ <;> omega) | (refine head_ints1 ?_ <;> omega) | (refine bne_false ?_ <;> omega) | (refine bne_true ?_ <;> omega) | (refine beq_false' ?_ <;> omega) | (refine beq_true' ?_ <;> omega) | (refine wr6' ?_ ?_ ?_ <;> omega) | (refine rem6 ?_ <;> omega) | (refine quo6 ?_ ?_ ?_ <;> omega) | exact HfL_ints _ | omega) | ((with_reducible show (_ : V) = _); rfl) | (intro hk_; exact absurd hk_ (by simp)) | (intros; simp_all; done) | (split <;> omega) | ((with_reducible show decide _ = true); exact decide_eq_true (by omega)) | ((with_reducible show decide _ = false); exact decide_eq_false (by omega)) | skip

theorem made_err (L : List Int) (i : Int) : FnOk Pg .e 43 [sl L, i6 20, i6 i] (.im 0 []) := by
  refine FnOk.of_vc vE_ok mixed sp0_ok (n := 1000) (r := []) (S := { sl := [(6, .im 0 [])] }) (hs := []) ?_
  refine Eq.mp (by kernel_rfl : (V.im (0 : Nat) [] = V.im (0 : Nat) [] ∧ ((0 : Nat) = (0 : Nat) ∧ True) ∧ True) = _) ?_
  (repeat' (first | (with_reducible apply And.intro) | (refine fun (_ : True) => ?_))) <;> first | with_reducible (first | rfl | exact trivial | assumption | (refine decide_eq_true ?_ <;> omega) | (refine decide_eq_false ?_ <;> omega) | (refine head_ints1 ?_ <;> omega) | (refine bne_false ?_ <;> omega) | (refine bne_true ?_ <;> omega) | (refine beq_false' ?_ <;> omega) | (refine beq_true' ?_ <;> omega) | (refine wr6' ?_ ?_ ?_ <;> omega) | (refine rem6 ?_ <;> omega) | (refine quo6 ?_ ?_ ?_ <;> omega) | exact HfL_ints _ | omega) | ((with_reducible show (_ : V) = _); rfl) | (intro hk_; exact absurd hk_ (by simp)) | (intros; simp_all; done) | (split <;> omega) | ((with_reducible show decide _ = true); exact decide_eq_true (by omega)) | ((with_reducible show decide _ = false); exact decide_eq_false (by omega)) | skip
theorem made_ok (L : List Int) (i : Int) (hg : Good L) (h0 : 0 ≤ i) (hi : i < prodL L) : FnOk Pg .e 43 [sl L, i6 0, i6 i] (sl (valL L i)) := by
  have hv := values_fn L i hg h0 hi
  refine FnOk.of_vc vE_ok mixed sp0_ok (n := 1000) (r := []) (S := { sl := [(6, sl (valL L i))] }) (hs := [fn 11 (sl (valL L i))]) ?_
  refine Eq.mp (by kernel_rfl : (sl (valL L i) = sl (valL L i) ∧
        (True ∧ True ∧ True) ∧
          FnOk Try.prog T.e (34 : Nat) [V.im (List.length L) (ints L), V.int IntKind.i64 i] (sl (valL L i)) ∧
            True ∧ ((List.length (valL L i) = List.length (valL L i) ∧ ints (valL L i) = ints (valL L i)) ∧ True) ∧ True) = _) ?_
  (repeat' (first | (with_reducible apply And.intro) | (refine fun (_ : True) => ?_))) <;> first | with_reducible (first | rfl | exact trivial | assumption | (refine decide_eq_true ?_ <;> omega) | (refine decide_eq_false ?_ <;> omega) | (refine head_ints1 ?_ <;> omega) | (refine bne_false ?_ <;> omega) | (refine bne_true ?_ <;> omega) | (refine beq_false' ?_ <;> omega) | (refine beq_true' ?_ <;> omega) | (refine wr6' ?_ ?_ ?_ <;> omega) | (refine rem6 ?_ <;> omega) | (refine quo6 ?_ ?_ ?_ <;> omega) | exact HfL_ints _ | omega) | ((with_reducible show (_ : V) = _); rfl) | (intro hk_; exact absurd hk_ (by simp)) | (intros; simp_all; done) | (split <;> omega) | ((with_reducible show decide _ = true); exact decide_eq_true (by omega)) | ((with_reducible show decide _ = false); exact decide_eq_false (by omega)) | skip

theorem fits_good {L : List Int} (hg : Good L) : Fits L := by
  intro k hk
  have h1 : prodL (L.take k) * prodL (L.drop k) = prodL L := by rw [← prodL_append, List.take_append_drop]
  have h2 : 1 ≤ prodL (L.take k) := prodL_pos _ fun c hc => (hg.card c (List.mem_of_mem_take hc)).1
  have h3 := prodL_drop_pos hg k
  have h4 := hg.le
  have h5 : prodL (L.take k) * 1 ≤ prodL (L.take k) * prodL (L.drop k) := Int.mul_le_mul_of_nonneg_left h3 (by omega)
  omega

/-! ### drafted cards -/

abbrev sl8 (l : List Int) : V := .im l.length (l.map (V.int .u8))
def u8s (l : List Int) : Prop := ∀ c ∈ l, 0 ≤ c ∧ c ≤ 255
theorem head_8 {l : List Int} {k : Nat} (h : k < l.length) : headF ((l.map (V.int .u8)).drop (k * 1)) = some (.int .u8 l[k]) := by
  rw [Nat.mul_one, ← List.map_drop, List.drop_eq_getElem_cons h]; rfl
abbrev drV (C D : List Int) (w : Int) : V := .agg [sl8 C, .int .u16 w, sl8 D]
abbrev drO (C D : List Int) (w : Int) : O := .row 26 none [sl8 C, .int .u16 w, sl8 D]

def cardD (c : Int) : Int := 1 + c % 4
def cardsD (C : List Int) : List Int := (C.take 5).map cardD
/-- a list of our own that has been appended to -/
def owV (h : Nat) : Nat → V
  | 0 => .nils
  | n + 1 => .sl h 0 (n + 1) none
def owO (l : List Int) : Nat → List O
  | 0 => []
  | _ + 1 => [.row 3 (some 1) (ints l)]

abbrev cdS (C D : List Int) (w : Int) (k : Nat) : SL := { sl := [(1, .ptr 0 0), (3, owV 1 k), (4, i6 k)], os := drO C D w :: owO ((C.take k).map cardD) k }
abbrev cdE (C : List Int) (k : Nat) : SL := { sl := [(3, owV 0 k)], os := owO ((C.take k).map cardD) k }

theorem take_map_succ {C : List Int} {k : Nat} (h : k < C.length) (f : Int → Int) : (C.take (k + 1)).map f = (C.take k).map f ++ [f C[k]] := by
  rw [List.take_succ_eq_append_getElem h, List.map_append]; rfl
theorem ints_app (l : List Int) (x : Int) : ints (l ++ [x]) = ints l ++ [i6 x] := by simp [ints]

theorem cards_loop (C D : List Int) (w : Int) (hC : u8s C) (n : Nat) (hn : n = min C.length 5) (k : Nat) (hk : k ≤ n) :
    Sat Pg none 0 (at' 17 [1, 1, 0, 1, 0]) (mkSt .e 28 (cdS C D w k)) (outsP .e 28 [(True, .exit 0, cdE C n)]) := by
  refine loopC vE_ok mixed sp0_ok (b := at' 17 [1, 1, 0, 1, 0, 0]) (by kernel_rfl) (fun k => k ≤ n) (cdS C D w) (fun k => n - k) (fun k hk => ?_) k hk
  by_cases hlt : k < n
  · have h1 : k < C.length := by omega
    have hc := hC C[k] (List.getElem_mem h1)
    have e1 : C[k].tmod 4 = C[k] % 4 := Int.tmod_eq_emod_of_nonneg hc.1
    have hts := take_map_succ h1 cardD
    have e2 : cardD C[k] = 1 + C[k] % 4 := rfl
    cases k with
    | zero =>
      refine .inl ⟨1, [0, 2], [yes 9, yes 12, pl 20, ld 21 (.int .u8 C[0]), nu 22 (C[0] % 4), nu 23 (C[0] % 4), nu 24 (cardD C[0]), nu 15 1], 1000, hlt, by omega, ?_⟩
      refine Eq.mp (by kernel_rfl : (decide ((↑(0 : Nat) : Int) < (↑(List.length C) : Int)) = true ∧
            decide ((↑(0 : Nat) : Int) < (5 : Int)) = true ∧
              ((0 : Int) ≤ (↑(0 : Nat) : Int) ∧ (↑(0 : Nat) : Int) < (↑(List.length C) : Int)) ∧
                headF (List.drop ((0 : Nat) * (1 : Nat)) (List.map (V.int IntKind.u8) C)) = some (V.int IntKind.u8 C[(0 : Nat)]) ∧
                  Int.tmod C[(0 : Nat)] (4 : Int) = C[(0 : Nat)] % (4 : Int) ∧
                    wr IntKind.i64 (C[(0 : Nat)] % (4 : Int)) = C[(0 : Nat)] % (4 : Int) ∧
                      wr IntKind.i64 ((1 : Int) + C[(0 : Nat)] % (4 : Int)) = cardD C[(0 : Nat)] ∧
                        wr IntKind.i64 ((↑(0 : Nat) : Int) + (1 : Int)) = (1 : Int) ∧
                          ((0 : Nat) = (0 : Nat) ∧
                              ((0 : Nat) = (0 : Nat) ∧ (0 : Nat) + (1 : Nat) = (1 : Nat) ∧ True) ∧
                                (↑(1 : Nat) : Int) = (1 : Int) ∧ True) ∧
                            ([sl8 C, V.int IntKind.u16 w, sl8 D] = [sl8 C, V.int IntKind.u16 w, sl8 D] ∧
                                True ∧ True ∧ True ∧ True) ∧
                              (ints (List.map cardD (List.take (1 : Nat) C)) =
                                    V.int IntKind.i64 (cardD C[(0 : Nat)]) ::
                                      List.take._f Nat.zero PUnit.unit
                                        (List.append._f [] PUnit.unit
                                          (rep._f Nat.zero PUnit.unit [V.int IntKind.i64 (0 : Int)])) ∧
                                  HfL (ints (List.map cardD (List.take (1 : Nat) C)))) ∧
                                True) = _) ?_
      (repeat' (first | (with_reducible apply And.intro) | (refine fun (_ : True) => ?_))) <;> first | with_reducible (first | rfl | exact trivial | assumption | (refine decide_eq_true ?_ <;> omega) | (refine decide_eq_false ?_ <;> omega) | (refine head_ints1 ?_ <;> omega) | (refine bne_false ?_ <;> omega) | (refine bne_true ?_ <;> omega) | (refine beq_false' ?_ <;> omega) | (refine beq_true' ?_ <;> omega) | (refine wr6' ?_ ?_ ?_ <;> omega) | (refine rem6 ?_ <;> omega) | (refine quo6 ?_ ?_ ?_ <;> omega) | exact HfL_ints _ | omega) | ((with_reducible show (_ : V) = _); rfl) | (intro hk_; exact absurd hk_ (by simp)) | (intros; simp_all; done) | (split <;> omega) | ((with_reducible show decide _ = true); exact decide_eq_true (by omega)) | ((with_reducible show decide _ = false); exact decide_eq_false (by omega)) | skip
      · exact head_8 h1
      · rw [hts]; rfl
    | succ k =>
      refine .inl ⟨k + 1 + 1, [0, 3], [yes 9, yes 12, pl 20, ld 21 (.int .u8 C[k + 1]), nu 22 (C[k + 1] % 4), nu 23 (C[k + 1] % 4), nu 24 (cardD C[k + 1]), ap 26, nu 15 (k + 1 + 1 : Nat)], 1000, hlt, by omega, ?_⟩
      refine Eq.mp (by kernel_rfl : (decide ((↑(k + (1 : Nat)) : Int) < (↑(List.length C) : Int)) = true ∧
            decide ((↑(k + (1 : Nat)) : Int) < (5 : Int)) = true ∧
              ((0 : Int) ≤ (↑(k + (1 : Nat)) : Int) ∧ (↑(k + (1 : Nat)) : Int) < (↑(List.length C) : Int)) ∧
                headF (List.drop ((k + (1 : Nat)) * (1 : Nat)) (List.map (V.int IntKind.u8) C)) =
                    some (V.int IntKind.u8 C[k + (1 : Nat)]) ∧
                  Int.tmod C[k + (1 : Nat)] (4 : Int) = C[k + (1 : Nat)] % (4 : Int) ∧
                    wr IntKind.i64 (C[k + (1 : Nat)] % (4 : Int)) = C[k + (1 : Nat)] % (4 : Int) ∧
                      wr IntKind.i64 ((1 : Int) + C[k + (1 : Nat)] % (4 : Int)) = cardD C[k + (1 : Nat)] ∧
                        List.length (ints (List.map cardD (List.take (k + (1 : Nat)) C))) = (k + (1 : Nat)) * (1 : Nat) ∧
                          k + (1 : Nat) + (1 : Nat) ≤ (9223372036854775807 : Nat) ∧
                            (k + (1 : Nat) + (1 : Nat)) * (8 : Nat) ≤ (140737488355328 : Nat) ∧
                              wr IntKind.i64 ((↑(k + (1 : Nat)) : Int) + (1 : Int)) = (↑(k + (1 : Nat) + (1 : Nat)) : Int) ∧
                                ((0 : Nat) = (0 : Nat) ∧
                                    ((0 : Nat) = (0 : Nat) ∧ Nat.succ k + (1 : Nat) = k + (1 : Nat) + (1 : Nat) ∧ True) ∧
                                      (↑(k + (1 : Nat) + (1 : Nat)) : Int) = (↑(k + (1 : Nat) + (1 : Nat)) : Int) ∧ True) ∧
                                  ([sl8 C, V.int IntKind.u16 w, sl8 D] = [sl8 C, V.int IntKind.u16 w, sl8 D] ∧
                                      True ∧ True ∧ True ∧ True) ∧
                                    (ints (List.map cardD (List.take (k + (1 : Nat) + (1 : Nat)) C)) =
                                          ints (List.map cardD (List.take (k + (1 : Nat)) C)) ++
                                            V.int IntKind.i64 (cardD C[k + (1 : Nat)]) ::
                                              List.take._f Nat.zero PUnit.unit
                                                (List.append._f [] PUnit.unit
                                                  (rep._f Nat.zero PUnit.unit [V.int IntKind.i64 (0 : Int)])) ∧
                                        HfL (ints (List.map cardD (List.take (k + (1 : Nat) + (1 : Nat)) C)))) ∧
                                      True) = _) ?_
      (repeat' (first | (with_reducible apply And.intro) | (refine fun (_ : True) => ?_))) <;> first | with_reducible (first | rfl | exact trivial | assumption | (refine decide_eq_true ?_ <;> omega) | (refine decide_eq_false ?_ <;> omega) | (refine head_ints1 ?_ <;> omega) | (refine bne_false ?_ <;> omega) | (refine bne_true ?_ <;> omega) | (refine beq_false' ?_ <;> omega) | (refine beq_true' ?_ <;> omega) | (refine wr6' ?_ ?_ ?_ <;> omega) | (refine rem6 ?_ <;> omega) | (refine quo6 ?_ ?_ ?_ <;> omega) | exact HfL_ints _ | omega) | ((with_reducible show (_ : V) = _); rfl) | (intro hk_; exact absurd hk_ (by simp)) | (intros; simp_all; done) | (split <;> omega) | ((with_reducible show decide _ = true); exact decide_eq_true (by omega)) | ((with_reducible show decide _ = false); exact decide_eq_false (by omega)) | skip
      · exact head_8 h1
      · rw [ints_length]; simp only [List.length_map, List.length_take]; omega
      · rw [hts, ints_app]
  · have : k = n := by omega
    subst this
    by_cases h5 : k < C.length
    · cases k with
      | zero => omega
      | succ k =>
        refine .inr ⟨.exit 0, [1], cdE C (k + 1), [yes 9, no 12], 1000, .inl ⟨trivial, rfl, rfl⟩, ?_⟩
        refine Eq.mp (by kernel_rfl : (decide ((↑(k + (1 : Nat)) : Int) < (↑(List.length C) : Int)) = true ∧
              decide ((↑(k + (1 : Nat)) : Int) < (5 : Int)) = false ∧
                (((0 : Nat) = (0 : Nat) ∧ k + (1 : Nat) = k + (1 : Nat) ∧ True) ∧ True) ∧
                  (ints (List.map cardD (List.take (k + (1 : Nat)) C)) = ints (List.map cardD (List.take (k + (1 : Nat)) C)) ∧
                      HfL (ints (List.map cardD (List.take (k + (1 : Nat)) C)))) ∧
                    True) = _) ?_
        (repeat' (first | (with_reducible apply And.intro) | (refine fun (_ : True) => ?_))) <;> first | with_reducible (first | rfl | exact trivial | assumption | (refine decide_eq_true ?_ <;> omega) | (refine decide_eq_false ?_ <;> omega) | (refine head_ints1 ?_ <;> omega) | (refine bne_false ?_ <;> omega) | (refine bne_true ?_ <;> omega) | (refine beq_false' ?_ <;> omega) | (refine beq_true' ?_ <;> omega) | (refine wr6' ?_ ?_ ?_ <;> omega) | (refine rem6 ?_ <;> omega) | (refine quo6 ?_ ?_ ?_ <;> omega) | exact HfL_ints _ | omega) | ((with_reducible show (_ : V) = _); rfl) | (intro hk_; exact absurd hk_ (by simp)) | (intros; simp_all; done) | (split <;> omega) | ((with_reducible show decide _ = true); exact decide_eq_true (by omega)) | ((with_reducible show decide _ = false); exact decide_eq_false (by omega)) | skip
    · cases k with
      | zero =>
        refine .inr ⟨.exit 0, [], cdE C 0, [no 9], 1000, .inl ⟨trivial, rfl, rfl⟩, ?_⟩
        refine Eq.mp (by kernel_rfl : (decide ((↑(0 : Nat) : Int) < (↑(List.length C) : Int)) = false ∧ (True ∧ True) ∧ True) = _) ?_
        (repeat' (first | (with_reducible apply And.intro) | (refine fun (_ : True) => ?_))) <;> first | with_reducible (first | rfl | exact trivial | assumption | (refine decide_eq_true ?_ <;> omega) | (refine decide_eq_false ?_ <;> omega) | (refine head_ints1 ?_ <;> omega) | (refine bne_false ?_ <;> omega) | (refine bne_true ?_ <;> omega) | (refine beq_false' ?_ <;> omega) | (refine beq_true' ?_ <;> omega) | (refine wr6' ?_ ?_ ?_ <;> omega) | (refine rem6 ?_ <;> omega) | (refine quo6 ?_ ?_ ?_ <;> omega) | exact HfL_ints _ | omega) | ((with_reducible show (_ : V) = _); rfl) | (intro hk_; exact absurd hk_ (by simp)) | (intros; simp_all; done) | (split <;> omega) | ((with_reducible show decide _ = true); exact decide_eq_true (by omega)) | ((with_reducible show decide _ = false); exact decide_eq_false (by omega)) | skip
      | succ k =>
        refine .inr ⟨.exit 0, [1], cdE C (k + 1), [no 9], 1000, .inl ⟨trivial, rfl, rfl⟩, ?_⟩
        refine Eq.mp (by kernel_rfl : (decide ((↑(k + (1 : Nat)) : Int) < (↑(List.length C) : Int)) = false ∧
              (((0 : Nat) = (0 : Nat) ∧ k + (1 : Nat) = k + (1 : Nat) ∧ True) ∧ True) ∧
                (ints (List.map cardD (List.take (k + (1 : Nat)) C)) = ints (List.map cardD (List.take (k + (1 : Nat)) C)) ∧
                    HfL (ints (List.map cardD (List.take (k + (1 : Nat)) C)))) ∧
                  True) = _) ?_
        (repeat' (first | (with_reducible apply And.intro) | (refine fun (_ : True) => ?_))) <;> first | with_reducible (first | rfl | exact trivial | assumption | (refine decide_eq_true ?_ <;> omega) | (refine decide_eq_false ?_ <;> omega) | (refine head_ints1 ?_ <;> omega) | (refine bne_false ?_ <;> omega) | (refine bne_true ?_ <;> omega) | (refine beq_false' ?_ <;> omega) | (refine beq_true' ?_ <;> omega) | (refine wr6' ?_ ?_ ?_ <;> omega) | (refine rem6 ?_ <;> omega) | (refine quo6 ?_ ?_ ?_ <;> omega) | exact HfL_ints _ | omega) | ((with_reducible show (_ : V) = _); rfl) | (intro hk_; exact absurd hk_ (by simp)) | (intros; simp_all; done) | (split <;> omega) | ((with_reducible show decide _ = true); exact decide_eq_true (by omega)) | ((with_reducible show decide _ = false); exact decide_eq_false (by omega)) | skip

theorem cardsD_take (C : List Int) (n : Nat) (hn : n = min C.length 5) : (C.take n).map cardD = cardsD C ∧ (cardsD C).length = n := by
  refine ⟨?_, by simp [cardsD]; omega⟩
  unfold cardsD
  congr 1
  by_cases h : C.length ≤ 5
  · rw [List.take_of_length_le h, List.take_of_length_le (by omega)]
  · rw [show n = 5 by omega]

theorem cards_fn (C D : List Int) (w : Int) (hC : u8s C) : FnOk Pg .e 17 [drV C D w] (sl (cardsD C)) := by
  obtain ⟨n, hn⟩ : ∃ n, n = min C.length 5 := ⟨_, rfl⟩
  have hl := cards_loop C D w hC n hn 0 (Nat.zero_le _)
  obtain ⟨h1, h2⟩ := cardsD_take C n hn
  cases n with
  | zero =>
    refine FnOk.of_vc vE_ok mixed sp0_ok (n := 1000) (r := []) (S := { sl := [(2, sl (cardsD C))] }) (hs := [(0, .loop [0] (cdS C D w 0) [(True, .exit 0, cdE C 0)])]) ?_
    refine Eq.mp (by kernel_rfl : (sl (cardsD C) = sl (cardsD C) ∧
          (((0 : Nat) = (0 : Nat) ∧ True ∧ (↑(0 : Nat) : Int) = (0 : Int) ∧ True) ∧
              ([sl8 C, V.int IntKind.u16 w, sl8 D] = [sl8 C, V.int IntKind.u16 w, sl8 D] ∧ True ∧ True ∧ True ∧ True) ∧ True) ∧
            Sat Try.prog none (0 : Nat) (at' (17 : Nat) [(1 : Nat), (1 : Nat), (0 : Nat), (1 : Nat), (0 : Nat)])
                (mkSt T.e (28 : Nat) (cdS C D w (0 : Nat)))
                (outsP T.e (28 : Nat) [(True, Ex.exit (0 : Nat), cdE C (0 : Nat))]) ∧
              (True → (List.length (cardsD C) = (0 : Nat) ∧ True) ∧ True) ∧ True) = _) ?_
    (repeat' (first | (with_reducible apply And.intro) | (refine fun (_ : True) => ?_))) <;> first | with_reducible (first | rfl | exact trivial | assumption | (refine decide_eq_true ?_ <;> omega) | (refine decide_eq_false ?_ <;> omega) | (refine head_ints1 ?_ <;> omega) | (refine bne_false ?_ <;> omega) | (refine bne_true ?_ <;> omega) | (refine beq_false' ?_ <;> omega) | (refine beq_true' ?_ <;> omega) | (refine wr6' ?_ ?_ ?_ <;> omega) | (refine rem6 ?_ <;> omega) | (refine quo6 ?_ ?_ ?_ <;> omega) | exact HfL_ints _ | omega) | ((with_reducible show (_ : V) = _); rfl) | (intro hk_; exact absurd hk_ (by simp)) | (intros; simp_all; done) | (split <;> omega) | ((with_reducible show decide _ = true); exact decide_eq_true (by omega)) | ((with_reducible show decide _ = false); exact decide_eq_false (by omega)) | skip
  | succ n =>
    refine FnOk.of_vc vE_ok mixed sp0_ok (n := 1000) (r := []) (S := { sl := [(2, sl (cardsD C))] }) (hs := [(0, .loop [0] (cdS C D w 0) [(True, .exit 0, cdE C (n + 1))])]) ?_
    refine Eq.mp (by kernel_rfl : (sl (cardsD C) = sl (cardsD C) ∧
          (((0 : Nat) = (0 : Nat) ∧ True ∧ (↑(0 : Nat) : Int) = (0 : Int) ∧ True) ∧
              ([sl8 C, V.int IntKind.u16 w, sl8 D] = [sl8 C, V.int IntKind.u16 w, sl8 D] ∧ True ∧ True ∧ True ∧ True) ∧ True) ∧
            Sat Try.prog none (0 : Nat) (at' (17 : Nat) [(1 : Nat), (1 : Nat), (0 : Nat), (1 : Nat), (0 : Nat)])
                (mkSt T.e (28 : Nat) (cdS C D w (0 : Nat)))
                (outsP T.e (28 : Nat) [(True, Ex.exit (0 : Nat), cdE C (n + (1 : Nat)))]) ∧
              (True →
                  ((List.length (cardsD C) = n + (1 : Nat) ∧
                        ints (cardsD C) = ints (List.map cardD (List.take (n + (1 : Nat)) C)) ∧
                          HfL (ints (List.map cardD (List.take (n + (1 : Nat)) C)))) ∧
                      True) ∧
                    True) ∧
                True) = _) ?_
    (repeat' (first | (with_reducible apply And.intro) | (refine fun (_ : True) => ?_))) <;> first | with_reducible (first | rfl | exact trivial | assumption | (refine decide_eq_true ?_ <;> omega) | (refine decide_eq_false ?_ <;> omega) | (refine head_ints1 ?_ <;> omega) | (refine bne_false ?_ <;> omega) | (refine bne_true ?_ <;> omega) | (refine beq_false' ?_ <;> omega) | (refine beq_true' ?_ <;> omega) | (refine wr6' ?_ ?_ ?_ <;> omega) | (refine rem6 ?_ <;> omega) | (refine quo6 ?_ ?_ ?_ <;> omega) | exact HfL_ints _ | omega) | ((with_reducible show (_ : V) = _); rfl) | (intro hk_; exact absurd hk_ (by simp)) | (intros; simp_all; done) | (split <;> omega) | ((with_reducible show decide _ = true); exact decide_eq_true (by omega)) | ((with_reducible show decide _ = false); exact decide_eq_false (by omega)) | skip

theorem cardsD_good (C : List Int) : Good (cardsD C) := by
  have hb : ∀ c ∈ cardsD C, 1 ≤ c ∧ c ≤ 4 := by
    intro c hc
    obtain ⟨x, _, rfl⟩ := List.mem_map.1 hc
    unfold cardD; omega
  have hlen : (cardsD C).length ≤ 5 := by simp [cardsD]; omega
  have key : ∀ (l : List Int) (s : Int) (m : Nat), (∀ c ∈ l, 1 ≤ c ∧ c ≤ 4) → 1 ≤ s → s * 4 ^ l.length ≤ 4096 → ∃ t, Go.Proofs.Ytmnaidemihcfaaa.cnt s l = some t := by
    intro l
    induction l with
    | nil => intro s _ _ _ _; exact ⟨s, rfl⟩
    | cons c cs ih =>
      intro s m hc hs hb
      have h1 := hc c List.mem_cons_self
      have hpow : (1 : Int) ≤ 4 ^ cs.length := by
        have : (0 : Int) < 4 ^ cs.length := Int.pow_pos (by omega)
        omega
      have h2 : s * c ≤ s * 4 := Int.mul_le_mul_of_nonneg_left h1.2 (by omega)
      have h3 : s * 1 ≤ s * c := Int.mul_le_mul_of_nonneg_left h1.1 (by omega)
      have h4 : s * 4 ^ (cs.length + 1) = s * 4 * 4 ^ cs.length := by rw [Int.pow_succ, Int.mul_assoc, Int.mul_comm 4]
      rw [List.length_cons, h4] at hb
      have h5 : s * c * 4 ^ cs.length ≤ s * 4 * 4 ^ cs.length := Int.mul_le_mul_of_nonneg_right h2 (by omega)
      have h6 : s * 4 * 1 ≤ s * 4 * 4 ^ cs.length := Int.mul_le_mul_of_nonneg_left hpow (by omega)
      unfold Go.Proofs.Ytmnaidemihcfaaa.cnt
      rw [if_neg (by omega)]
      exact ih (s * c) 0 (fun x hx => hc x (List.mem_cons_of_mem _ hx)) (by omega) (by omega)
  have hp : (4 : Int) ^ (cardsD C).length ≤ 4096 := by
    have : (cardsD C).length = 0 ∨ (cardsD C).length = 1 ∨ (cardsD C).length = 2 ∨ (cardsD C).length = 3 ∨ (cardsD C).length = 4 ∨ (cardsD C).length = 5 := by omega
    rcases this with h | h | h | h | h | h <;> rw [h] <;> decide
  obtain ⟨t, ht⟩ := key (cardsD C) 1 0 hb (by omega) (by omega)
  have : count (cardsD C) = some t := by unfold count; rw [if_neg (by omega)]; exact ht
  exact (good_of this).1

end Go.Proofs.Ytmnaidemihcfaaa.Am
