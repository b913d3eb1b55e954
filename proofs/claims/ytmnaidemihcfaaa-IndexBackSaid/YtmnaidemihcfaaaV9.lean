/- The reference of chapter 02: Spread; the drafted places. -/
import Derived.Test.YtmnaidemihcfaaaV8
namespace Go.Proofs.Ytmnaidemihcfaaa.Am
open Go.RowKit
set_option linter.unusedVariables false
set_option maxHeartbeats 1000000
set_option maxRecDepth 100000

/-! ### Spread -/

def hitI (L P : List Int) (j : Int) (n : Nat) : List Int := (hitsTo L P j n).map (fun m : Nat => (m : Int))
theorem hitI_yes {L P : List Int} {j : Int} {n : Nat} (h : hit L P j n = true) : hitI L P j (n + 1) = hitI L P j n ++ [(n : Int)] := by
  unfold hitI; rw [hitsTo_yes h]; simp
theorem hitI_no {L P : List Int} {j : Int} {n : Nat} (h : hit L P j n = false) : hitI L P j (n + 1) = hitI L P j n := by
  unfold hitI; rw [hitsTo_no h]
theorem hitI_len (L P : List Int) (j : Int) : ∀ n, (hitI L P j n).length ≤ n := by
  intro n
  simp only [hitI, hitsTo, List.length_map]
  exact Nat.le_trans (List.length_filter_le _ _) (by simp)
theorem hit_iff {L P : List Int} {j : Int} {n : Nat} (hin : incr L.length (-1) P = true) : hit L P j n = decide (partR L P n = j) := by
  unfold hit
  rw [partR_eq hin]

abbrev spS (L P : List Int) (j : Int) (p : Nat × Nat × List Int) : SL := { sl := [(0, sl L), (1, sl P), (2, i6 j), (7, owV 0 p.2.1), (8, i6 p.1)], os := owO p.2.2 p.2.1 }
abbrev spX (l : List Int) (k : Nat) : SL := { sl := [(7, owV 0 k)], os := owO l k }

theorem spread_loop (L P : List Int) (j : Int) (hg : Good L) (hin : incr L.length (-1) P = true) (N : Nat) (hN : (N : Int) = prodL L) (m : Nat) (hm : m = (hitI L P j N).length) (p : Nat × Nat × List Int) (hp : p.1 ≤ N ∧ p.2.2 = hitI L P j p.1 ∧ p.2.2.length = p.2.1) :
    Sat Pg none 0 (at' 29 [1, 1, 0, 1, 0]) (mkSt .e 26 (spS L P j p)) (outsP .e 26 [(True, .exit 0, spX (hitI L P j N) m)]) := by
  refine loopC vE_ok mixed sp0_ok (b := at' 29 [1, 1, 0, 1, 0, 0]) (by kernel_rfl) (fun p => p.1 ≤ N ∧ p.2.2 = hitI L P j p.1 ∧ p.2.2.length = p.2.1) (spS L P j) (fun p => N - p.1) (fun p hp => ?_) p hp
  obtain ⟨n, k, out⟩ := p
  obtain ⟨hn, ho, hk⟩ := hp
  dsimp only at hn ho hk
  have hle := hg.le
  have hsz := size_fn L (fits_good hg) (by have := hg.len; omega)
  have hol : out.length ≤ n := by rw [ho]; exact hitI_len L P j n
  by_cases hlt : n < N
  · have hpart := partref_ok L P n hg hin (by omega) (by omega)
    cases hh : hit L P j n with
    | true =>
      have hs := hitI_yes hh
      rw [hit_iff hin] at hh
      have he := of_decide_eq_true hh
      have hnx : (n + 1 ≤ N ∧ out ++ [(n : Int)] = hitI L P j (n + 1) ∧ (out ++ [(n : Int)]).length = k + 1) := ⟨hlt, by rw [hs, ← ho], by simp [hk]⟩
      cases k with
      | zero =>
        have h0 : out = [] := List.eq_nil_of_length_eq_zero hk
        subst h0
        refine .inl ⟨(n + 1, 1, [(n : Int)]), [1], [fn 11 (i6 (prodL L)), yes 12, fn 18 (i6 (partR L P n)), yes 20, nu 14 (n + 1 : Nat)], 1000, hnx, by dsimp only; omega, ?_⟩
        refine Eq.mp (by kernel_rfl : ((True ∧ True) ∧
              FnOk Try.prog T.e (21 : Nat) [V.im (List.length L) (ints L)] (i6 (prodL L)) ∧
                True ∧
                  decide ((↑n : Int) < prodL L) = true ∧
                    (True ∧ True ∧ True ∧ True) ∧
                      FnOk Try.prog T.e (25 : Nat)
                          [V.im (List.length L) (ints L), V.im (List.length P) (ints P), V.int IntKind.i64 (↑n : Int)]
                          (i6 (partR L P (↑n : Int))) ∧
                        True ∧
                          (partR L P (↑n : Int) == j) = true ∧
                            wr IntKind.i64 ((↑n : Int) + (1 : Int)) = (↑(n + (1 : Nat)) : Int) ∧
                              ((List.length L = List.length L ∧ ints L = ints L) ∧
                                  (List.length P = List.length P ∧ ints P = ints P) ∧
                                    j = j ∧
                                      ((0 : Nat) = (0 : Nat) ∧ (0 : Nat) + (1 : Nat) = (1 : Nat) ∧ True) ∧
                                        (↑(n + (1 : Nat)) : Int) = (↑(n + (1 : Nat)) : Int) ∧ True) ∧
                                (ints [(↑n : Int)] =
                                      i6 (↑n : Int) ::
                                        List.take._f Nat.zero PUnit.unit
                                          (List.append._f [] PUnit.unit
                                            (rep._f Nat.zero PUnit.unit [V.int IntKind.i64 (0 : Int)])) ∧
                                    True ∧ True) ∧
                                  True) = _) ?_
        (repeat' (first | (with_reducible apply And.intro) | (refine fun (_ : True) => ?_))) <;> first | with_reducible (first | rfl | exact trivial | assumption | (refine decide_eq_true ?_ <;> omega) | (refine decide_eq_false ?_ <;> omega) | (refine head_ints1 ?_ <;> omega) | (refine bne_false ?_ <;> omega) | (refine bne_true ?_ <;> omega) | (refine beq_false' ?_ <;> omega) | (refine beq_true' ?_ <;> omega) | (refine wr6' ?_ ?_ ?_ <;> omega) | (refine rem6 ?_ <;> omega) | (refine quo6 ?_ ?_ ?_ <;> omega) | exact HfL_ints _ | omega) | ((with_reducible show (_ : V) = _); rfl) | (intro hk_; exfalso; revert hk_; simp; done) | (intros; simp_all; done) | (split <;> omega) | ((with_reducible show decide _ = true); exact decide_eq_true (by omega)) | ((with_reducible show decide _ = false); exact decide_eq_false (by omega)) | skip
        all_goals rfl
      | succ k =>
        refine .inl ⟨(n + 1, k + 1 + 1, out ++ [(n : Int)]), [2], [fn 11 (i6 (prodL L)), yes 12, fn 18 (i6 (partR L P n)), yes 20, ap 24, nu 14 (n + 1 : Nat)], 1000, hnx, by dsimp only; omega, ?_⟩
        refine Eq.mp (by kernel_rfl : ((True ∧ True) ∧
              FnOk Try.prog T.e (21 : Nat) [V.im (List.length L) (ints L)] (i6 (prodL L)) ∧
                True ∧
                  decide ((↑n : Int) < prodL L) = true ∧
                    (True ∧ True ∧ True ∧ True) ∧
                      FnOk Try.prog T.e (25 : Nat)
                          [V.im (List.length L) (ints L), V.im (List.length P) (ints P), V.int IntKind.i64 (↑n : Int)]
                          (i6 (partR L P (↑n : Int))) ∧
                        True ∧
                          (partR L P (↑n : Int) == j) = true ∧
                            List.length (ints out) = (k + (1 : Nat)) * (1 : Nat) ∧
                              k + (1 : Nat) + (1 : Nat) ≤ (9223372036854775807 : Nat) ∧
                                (k + (1 : Nat) + (1 : Nat)) * (8 : Nat) ≤ (140737488355328 : Nat) ∧
                                  wr IntKind.i64 ((↑n : Int) + (1 : Int)) = (↑(n + (1 : Nat)) : Int) ∧
                                    ((List.length L = List.length L ∧ ints L = ints L) ∧
                                        (List.length P = List.length P ∧ ints P = ints P) ∧
                                          j = j ∧
                                            ((0 : Nat) = (0 : Nat) ∧ Nat.succ k + (1 : Nat) = k + (1 : Nat) + (1 : Nat) ∧ True) ∧
                                              (↑(n + (1 : Nat)) : Int) = (↑(n + (1 : Nat)) : Int) ∧ True) ∧
                                      (ints (out ++ [(↑n : Int)]) =
                                            ints out ++
                                              i6 (↑n : Int) ::
                                                List.take._f Nat.zero PUnit.unit
                                                  (List.append._f [] PUnit.unit
                                                    (rep._f Nat.zero PUnit.unit [V.int IntKind.i64 (0 : Int)])) ∧
                                          HfL (ints (out ++ [(↑n : Int)]))) ∧
                                        True) = _) ?_
        (repeat' (first | (with_reducible apply And.intro) | (refine fun (_ : True) => ?_))) <;> first | with_reducible (first | rfl | exact trivial | assumption | (refine decide_eq_true ?_ <;> omega) | (refine decide_eq_false ?_ <;> omega) | (refine head_ints1 ?_ <;> omega) | (refine bne_false ?_ <;> omega) | (refine bne_true ?_ <;> omega) | (refine beq_false' ?_ <;> omega) | (refine beq_true' ?_ <;> omega) | (refine wr6' ?_ ?_ ?_ <;> omega) | (refine rem6 ?_ <;> omega) | (refine quo6 ?_ ?_ ?_ <;> omega) | exact HfL_ints _ | omega) | ((with_reducible show (_ : V) = _); rfl) | (intro hk_; exfalso; revert hk_; simp; done) | (intros; simp_all; done) | (split <;> omega) | ((with_reducible show decide _ = true); exact decide_eq_true (by omega)) | ((with_reducible show decide _ = false); exact decide_eq_false (by omega)) | skip
        · rw [ints_length, Nat.mul_one]; exact hk
        · rw [ints_app]
    | false =>
      have hs := hitI_no hh
      rw [hit_iff hin] at hh
      have he := of_decide_eq_false hh
      have hnx : (n + 1 ≤ N ∧ out = hitI L P j (n + 1) ∧ out.length = k) := ⟨hlt, by rw [hs, ← ho], hk⟩
      cases k with
      | zero =>
        refine .inl ⟨(n + 1, 0, out), [], [fn 11 (i6 (prodL L)), yes 12, fn 18 (i6 (partR L P n)), no 20, nu 14 (n + 1 : Nat)], 1000, hnx, by dsimp only; omega, ?_⟩
        refine Eq.mp (by kernel_rfl : ((True ∧ True) ∧
              FnOk Try.prog T.e (21 : Nat) [V.im (List.length L) (ints L)] (i6 (prodL L)) ∧
                True ∧
                  decide ((↑n : Int) < prodL L) = true ∧
                    (True ∧ True ∧ True ∧ True) ∧
                      FnOk Try.prog T.e (25 : Nat)
                          [V.im (List.length L) (ints L), V.im (List.length P) (ints P), V.int IntKind.i64 (↑n : Int)]
                          (i6 (partR L P (↑n : Int))) ∧
                        True ∧
                          (partR L P (↑n : Int) == j) = false ∧
                            wr IntKind.i64 ((↑n : Int) + (1 : Int)) = (↑(n + (1 : Nat)) : Int) ∧
                              ((List.length L = List.length L ∧ ints L = ints L) ∧
                                  (List.length P = List.length P ∧ ints P = ints P) ∧
                                    j = j ∧ True ∧ (↑(n + (1 : Nat)) : Int) = (↑(n + (1 : Nat)) : Int) ∧ True) ∧
                                True) = _) ?_
        (repeat' (first | (with_reducible apply And.intro) | (refine fun (_ : True) => ?_))) <;> first | with_reducible (first | rfl | exact trivial | assumption | (refine decide_eq_true ?_ <;> omega) | (refine decide_eq_false ?_ <;> omega) | (refine head_ints1 ?_ <;> omega) | (refine bne_false ?_ <;> omega) | (refine bne_true ?_ <;> omega) | (refine beq_false' ?_ <;> omega) | (refine beq_true' ?_ <;> omega) | (refine wr6' ?_ ?_ ?_ <;> omega) | (refine rem6 ?_ <;> omega) | (refine quo6 ?_ ?_ ?_ <;> omega) | exact HfL_ints _ | omega) | ((with_reducible show (_ : V) = _); rfl) | (intro hk_; exfalso; revert hk_; simp; done) | (intros; simp_all; done) | (split <;> omega) | ((with_reducible show decide _ = true); exact decide_eq_true (by omega)) | ((with_reducible show decide _ = false); exact decide_eq_false (by omega)) | skip
      | succ k =>
        refine .inl ⟨(n + 1, k + 1, out), [0], [fn 11 (i6 (prodL L)), yes 12, fn 18 (i6 (partR L P n)), no 20, nu 14 (n + 1 : Nat)], 1000, hnx, by dsimp only; omega, ?_⟩
        refine Eq.mp (by kernel_rfl : ((True ∧ True) ∧
              FnOk Try.prog T.e (21 : Nat) [V.im (List.length L) (ints L)] (i6 (prodL L)) ∧
                True ∧
                  decide ((↑n : Int) < prodL L) = true ∧
                    (True ∧ True ∧ True ∧ True) ∧
                      FnOk Try.prog T.e (25 : Nat)
                          [V.im (List.length L) (ints L), V.im (List.length P) (ints P), V.int IntKind.i64 (↑n : Int)]
                          (i6 (partR L P (↑n : Int))) ∧
                        True ∧
                          (partR L P (↑n : Int) == j) = false ∧
                            wr IntKind.i64 ((↑n : Int) + (1 : Int)) = (↑(n + (1 : Nat)) : Int) ∧
                              ((List.length L = List.length L ∧ ints L = ints L) ∧
                                  (List.length P = List.length P ∧ ints P = ints P) ∧
                                    j = j ∧
                                      ((0 : Nat) = (0 : Nat) ∧ k + (1 : Nat) = k + (1 : Nat) ∧ True) ∧
                                        (↑(n + (1 : Nat)) : Int) = (↑(n + (1 : Nat)) : Int) ∧ True) ∧
                                (ints out = ints out ∧ HfL (ints out)) ∧ True) = _) ?_
        (repeat' (first | (with_reducible apply And.intro) | (refine fun (_ : True) => ?_))) <;> first | with_reducible (first | rfl | exact trivial | assumption | (refine decide_eq_true ?_ <;> omega) | (refine decide_eq_false ?_ <;> omega) | (refine head_ints1 ?_ <;> omega) | (refine bne_false ?_ <;> omega) | (refine bne_true ?_ <;> omega) | (refine beq_false' ?_ <;> omega) | (refine beq_true' ?_ <;> omega) | (refine wr6' ?_ ?_ ?_ <;> omega) | (refine rem6 ?_ <;> omega) | (refine quo6 ?_ ?_ ?_ <;> omega) | exact HfL_ints _ | omega) | ((with_reducible show (_ : V) = _); rfl) | (intro hk_; exfalso; revert hk_; simp; done) | (intros; simp_all; done) | (split <;> omega) | ((with_reducible show decide _ = true); exact decide_eq_true (by omega)) | ((with_reducible show decide _ = false); exact decide_eq_false (by omega)) | skip
  · have : n = N := by omega
    subst this
    rw [← ho] at hm ⊢
    have : k = m := by omega
    subst this
    cases k with
    | zero =>
      refine .inr ⟨.exit 0, [], spX out 0, [fn 11 (i6 (prodL L)), no 12], 1000, .inl ⟨trivial, rfl, rfl⟩, ?_⟩
      refine Eq.mp (by kernel_rfl : ((True ∧ True) ∧
            FnOk Try.prog T.e (21 : Nat) [V.im (List.length L) (ints L)] (i6 (prodL L)) ∧
              True ∧ decide ((↑n : Int) < prodL L) = false ∧ (True ∧ True) ∧ True) = _) ?_
      (repeat' (first | (with_reducible apply And.intro) | (refine fun (_ : True) => ?_))) <;> first | with_reducible (first | rfl | exact trivial | assumption | (refine decide_eq_true ?_ <;> omega) | (refine decide_eq_false ?_ <;> omega) | (refine head_ints1 ?_ <;> omega) | (refine bne_false ?_ <;> omega) | (refine bne_true ?_ <;> omega) | (refine beq_false' ?_ <;> omega) | (refine beq_true' ?_ <;> omega) | (refine wr6' ?_ ?_ ?_ <;> omega) | (refine rem6 ?_ <;> omega) | (refine quo6 ?_ ?_ ?_ <;> omega) | exact HfL_ints _ | omega) | ((with_reducible show (_ : V) = _); rfl) | (intro hk_; exfalso; revert hk_; simp; done) | (intros; simp_all; done) | (split <;> omega) | ((with_reducible show decide _ = true); exact decide_eq_true (by omega)) | ((with_reducible show decide _ = false); exact decide_eq_false (by omega)) | skip
    | succ k =>
      refine .inr ⟨.exit 0, [0], spX out (k + 1), [fn 11 (i6 (prodL L)), no 12], 1000, .inl ⟨trivial, rfl, rfl⟩, ?_⟩
      refine Eq.mp (by kernel_rfl : ((True ∧ True) ∧
            FnOk Try.prog T.e (21 : Nat) [V.im (List.length L) (ints L)] (i6 (prodL L)) ∧
              True ∧
                decide ((↑n : Int) < prodL L) = false ∧
                  (((0 : Nat) = (0 : Nat) ∧ k + (1 : Nat) = k + (1 : Nat) ∧ True) ∧ True) ∧
                    (ints out = ints out ∧ HfL (ints out)) ∧ True) = _) ?_
      (repeat' (first | (with_reducible apply And.intro) | (refine fun (_ : True) => ?_))) <;> first | with_reducible (first | rfl | exact trivial | assumption | (refine decide_eq_true ?_ <;> omega) | (refine decide_eq_false ?_ <;> omega) | (refine head_ints1 ?_ <;> omega) | (refine bne_false ?_ <;> omega) | (refine bne_true ?_ <;> omega) | (refine beq_false' ?_ <;> omega) | (refine beq_true' ?_ <;> omega) | (refine wr6' ?_ ?_ ?_ <;> omega) | (refine rem6 ?_ <;> omega) | (refine quo6 ?_ ?_ ?_ <;> omega) | exact HfL_ints _ | omega) | ((with_reducible show (_ : V) = _); rfl) | (intro hk_; exfalso; revert hk_; simp; done) | (intros; simp_all; done) | (split <;> omega) | ((with_reducible show decide _ = true); exact decide_eq_true (by omega)) | ((with_reducible show decide _ = false); exact decide_eq_false (by omega)) | skip

theorem hitI_hitL (L P : List Int) (j : Int) : hitI L P j (prodL L).toNat = hitL L P j := rfl

theorem spreadref_ok (L P : List Int) (j : Int) (hg : Good L) (hin : incr L.length (-1) P = true) : FnOk Pg .e 29 [sl L, sl P, i6 j] (sl (hitL L P j)) := by
  have hpos := hg.pos
  generalize hm : (hitL L P j).length = m
  have hlp := spread_loop L P j hg hin (prodL L).toNat (by omega) m hm.symm (0, 0, []) ⟨Nat.zero_le _, by simp [hitI, hitsTo], rfl⟩
  rw [hitI_hitL] at hlp
  cases m with
  | zero =>
    have h0 := List.eq_nil_of_length_eq_zero hm
    rw [h0] at hlp ⊢
    refine FnOk.of_vc vE_ok mixed sp0_ok (n := 1000) (r := []) (S := { sl := [(6, .im 0 [])] }) (hs := [(0, .loop [] (spS L P j (0, 0, [])) [(True, .exit 0, spX [] 0)])]) ?_
    refine Eq.mp (by kernel_rfl : (V.im (0 : Nat) [] = sl [] ∧
          (((List.length L = List.length L ∧ ints L = ints L) ∧
                (List.length P = List.length P ∧ ints P = ints P) ∧ j = j ∧ True ∧ (↑(0 : Nat) : Int) = (0 : Int) ∧ True) ∧
              True) ∧
            Sat Try.prog none (0 : Nat) (at' (29 : Nat) [(1 : Nat), (1 : Nat), (0 : Nat), (1 : Nat), (0 : Nat)])
                (mkSt T.e (26 : Nat) (spS L P j ((0 : Nat), (0 : Nat), [])))
                (outsP T.e (26 : Nat) [(True, Ex.exit (0 : Nat), spX [] (0 : Nat))]) ∧
              (True → ((0 : Nat) = (0 : Nat) ∧ True) ∧ True) ∧ True) = _) ?_
    (repeat' (first | (with_reducible apply And.intro) | (refine fun (_ : True) => ?_))) <;> first | with_reducible (first | rfl | exact trivial | assumption | (refine decide_eq_true ?_ <;> omega) | (refine decide_eq_false ?_ <;> omega) | (refine head_ints1 ?_ <;> omega) | (refine bne_false ?_ <;> omega) | (refine bne_true ?_ <;> omega) | (refine beq_false' ?_ <;> omega) | (refine beq_true' ?_ <;> omega) | (refine wr6' ?_ ?_ ?_ <;> omega) | (refine rem6 ?_ <;> omega) | (refine quo6 ?_ ?_ ?_ <;> omega) | exact HfL_ints _ | omega) | ((with_reducible show (_ : V) = _); rfl) | (intro hk_; exfalso; revert hk_; simp; done) | (intros; simp_all; done) | (split <;> omega) | ((with_reducible show decide _ = true); exact decide_eq_true (by omega)) | ((with_reducible show decide _ = false); exact decide_eq_false (by omega)) | skip
  | succ m =>
    refine FnOk.of_vc vE_ok mixed sp0_ok (n := 1000) (r := []) (S := { sl := [(6, sl (hitL L P j))] }) (hs := [(0, .loop [] (spS L P j (0, 0, [])) [(True, .exit 0, spX (hitL L P j) (m + 1))])]) ?_
    refine Eq.mp (by kernel_rfl : (sl (hitL L P j) = sl (hitL L P j) ∧
          (((List.length L = List.length L ∧ ints L = ints L) ∧
                (List.length P = List.length P ∧ ints P = ints P) ∧ j = j ∧ True ∧ (↑(0 : Nat) : Int) = (0 : Int) ∧ True) ∧
              True) ∧
            Sat Try.prog none (0 : Nat) (at' (29 : Nat) [(1 : Nat), (1 : Nat), (0 : Nat), (1 : Nat), (0 : Nat)])
                (mkSt T.e (26 : Nat) (spS L P j ((0 : Nat), (0 : Nat), [])))
                (outsP T.e (26 : Nat) [(True, Ex.exit (0 : Nat), spX (hitL L P j) (m + (1 : Nat)))]) ∧
              (True →
                  ((List.length (hitL L P j) = m + (1 : Nat) ∧
                        ints (hitL L P j) = ints (hitL L P j) ∧ HfL (ints (hitL L P j))) ∧
                      True) ∧
                    True) ∧
                True) = _) ?_
    (repeat' (first | (with_reducible apply And.intro) | (refine fun (_ : True) => ?_))) <;> first | with_reducible (first | rfl | exact trivial | assumption | (refine decide_eq_true ?_ <;> omega) | (refine decide_eq_false ?_ <;> omega) | (refine head_ints1 ?_ <;> omega) | (refine bne_false ?_ <;> omega) | (refine bne_true ?_ <;> omega) | (refine beq_false' ?_ <;> omega) | (refine beq_true' ?_ <;> omega) | (refine wr6' ?_ ?_ ?_ <;> omega) | (refine rem6 ?_ <;> omega) | (refine quo6 ?_ ?_ ?_ <;> omega) | exact HfL_ints _ | omega) | ((with_reducible show (_ : V) = _); rfl) | (intro hk_; exfalso; revert hk_; simp; done) | (intros; simp_all; done) | (split <;> omega) | ((with_reducible show decide _ = true); exact decide_eq_true (by omega)) | ((with_reducible show decide _ = false); exact decide_eq_false (by omega)) | skip

/-! ### drafted places -/

def shv (w : Int) (k : Nat) : Int := w.fdiv ((2 ^ min k 16 : Nat) : Int)
theorem shr16 {G : Ctx} {t : Nat} {w : Int} {k : Nat} : binV G .shr t (.int .u16 w) (.int .u64 (k : Int)) = some (.int .u16 (shv w k)) := by
  simp [binV, intV, shv, IntKind.bits]
theorem wr64 {k : Nat} (h : k < 100) : wr IntKind.u64 (k : Int) = k := by
  unfold wr
  rw [if_pos]
  constructor
  · show (0 : Int) ≤ k; omega
  · show (k : Int) ≤ 18446744073709551615; omega
def andB (y : Int) : Int := IntKind.wrap IntKind.u16 ((BitVec.ofInt 16 y &&& BitVec.ofInt 16 1).toNat : Int)
theorem andB_01 (y : Int) : andB y = 0 ∨ andB y = 1 := by
  unfold andB
  have : (BitVec.ofInt 16 y &&& BitVec.ofInt 16 1).toNat = (BitVec.ofInt 16 y).toNat % 2 := by
    rw [BitVec.toNat_and]
    exact Nat.and_one_is_mod _
  rw [this]
  have h2 : (BitVec.ofInt 16 y).toNat % 2 = 0 ∨ (BitVec.ofInt 16 y).toNat % 2 = 1 := by omega
  rcases h2 with h | h <;> rw [h]
  · exact .inl (by decide)
  · exact .inr (by decide)
/-- the drafted places -/
def plD (w : Int) : Nat → List Int
  | 0 => []
  | k + 1 => if andB (shv w k) = 1 then plD w k ++ [(k : Int)] else plD w k
theorem plD_len (w : Int) : ∀ k, (plD w k).length ≤ k
  | 0 => by simp [plD]
  | k + 1 => by
    have := plD_len w k
    unfold plD
    split <;> simp <;> omega

abbrev dpS (C D : List Int) (w : Int) (p : Nat × Nat × List Int) : SL := { sl := [(1, .ptr 0 0), (3, owV 1 p.2.1), (4, i6 p.1)], os := drO C D w :: owO p.2.2 p.2.1 }
abbrev dpX (l : List Int) (k : Nat) : SL := { sl := [(3, owV 0 k)], os := owO l k }
abbrev DpI (w : Int) (N : Nat) (p : Nat × Nat × List Int) : Prop := p.1 ≤ N ∧ p.2.2 = plD w p.1 ∧ p.2.2.length = p.2.1

theorem places2_loop (C D : List Int) (w : Int) (hC : u8s C) (N : Nat) (hN : N = (cardsD C).length) (m : Nat) (hm : m = (plD w N).length) (p : Nat × Nat × List Int) (hp : DpI w N p) :
    Sat Pg none 0 (at' 18 [1, 1, 0, 1, 0]) (mkSt .e 24 (dpS C D w p)) (outsP .e 24 [(True, .exit 0, dpX (plD w N) m)]) := by
  refine loopC vE_ok mixed sp0_ok (b := at' 18 [1, 1, 0, 1, 0, 0]) (by kernel_rfl) (DpI w N) (dpS C D w) (fun p => N - p.1) (fun p hp => ?_) p hp
  obtain ⟨k, l, out⟩ := p
  obtain ⟨hk, ho, hl⟩ := hp
  dsimp only at hk ho hl
  have hcd := cards_fn C D w hC
  have hN5 : N ≤ 5 := by rw [hN]; simp [cardsD]; omega
  have hol : out.length ≤ k := by rw [ho]; exact plD_len w k
  have hw64 : wr IntKind.u64 (k : Int) = k := wr64 (by omega)
  have hsh := @shr16 (ctxOf Pg) 24 w k
  by_cases hlt : k < N
  · rcases andB_01 (shv w k) with hb | hb
    · have hb' : IntKind.u16.wrap ((BitVec.ofInt IntKind.u16.bits (shv w k) &&& BitVec.ofInt IntKind.u16.bits 1).toNat : Int) = 0 := hb
      have hs : plD w (k + 1) = plD w k := by simp [plD, hb]
      have hnx : DpI w N (k + 1, l, out) := ⟨hlt, by rw [hs, ← ho], hl⟩
      cases l with
      | zero =>
        refine .inl ⟨(k + 1, 0, out), [0], [fn 7 (sl (cardsD C)), yes 9, nu 15 k, va 16 (.int .u16 (shv w k)), nu 17 0, nu 11 (k + 1 : Nat)], 1000, hnx, by dsimp only; omega, ?_⟩
        refine Eq.mp (by kernel_rfl : (((True ∧ True ∧ True ∧ True) ∧ True) ∧
              FnOk Try.prog T.e (17 : Nat)
                  [V.agg
                      [V.im (List.length C) (List.map (V.int IntKind.u8) C), V.int IntKind.u16 w,
                        V.im (List.length D) (List.map (V.int IntKind.u8) D)]]
                  (sl (cardsD C)) ∧
                True ∧
                  decide ((↑k : Int) < (↑(List.length (cardsD C)) : Int)) = true ∧
                    wr IntKind.u64 (↑k : Int) = (↑k : Int) ∧
                      binV (ctxOf Try.prog) BinOp.shr (24 : Nat) (V.int IntKind.u16 w) (V.int IntKind.u64 (↑k : Int)) =
                          some (V.int IntKind.u16 (shv w k)) ∧
                        IntKind.wrap IntKind.u16
                              (↑(BitVec.toNat
                                    (BitVec.ofInt (IntKind.bits IntKind.u16) (shv w k) &&&
                                      BitVec.ofInt (IntKind.bits IntKind.u16) (1 : Int))) :
                                Int) =
                            (0 : Int) ∧
                          wr IntKind.i64 ((↑k : Int) + (1 : Int)) = (↑(k + (1 : Nat)) : Int) ∧
                            ((0 : Nat) = (0 : Nat) ∧ True ∧ (↑(k + (1 : Nat)) : Int) = (↑(k + (1 : Nat)) : Int) ∧ True) ∧
                              ([sl8 C, V.int IntKind.u16 w, sl8 D] = [sl8 C, V.int IntKind.u16 w, sl8 D] ∧
                                  True ∧ True ∧ True ∧ True) ∧
                                True) = _) ?_
        (repeat' (first | (with_reducible apply And.intro) | (refine fun (_ : True) => ?_))) <;> first | with_reducible (first | rfl | exact trivial | assumption | (refine decide_eq_true ?_ <;> omega) | (refine decide_eq_false ?_ <;> omega) | (refine head_ints1 ?_ <;> omega) | (refine bne_false ?_ <;> omega) | (refine bne_true ?_ <;> omega) | (refine beq_false' ?_ <;> omega) | (refine beq_true' ?_ <;> omega) | (refine wr6' ?_ ?_ ?_ <;> omega) | (refine rem6 ?_ <;> omega) | (refine quo6 ?_ ?_ ?_ <;> omega) | exact HfL_ints _ | omega) | ((with_reducible show (_ : V) = _); rfl) | (intro hk_; exfalso; revert hk_; simp; done) | (intros; simp_all; done) | (split <;> omega) | ((with_reducible show decide _ = true); exact decide_eq_true (by omega)) | ((with_reducible show decide _ = false); exact decide_eq_false (by omega)) | skip
      | succ l =>
        refine .inl ⟨(k + 1, l + 1, out), [0, 1], [fn 7 (sl (cardsD C)), yes 9, nu 15 k, va 16 (.int .u16 (shv w k)), nu 17 0, nu 11 (k + 1 : Nat)], 1000, hnx, by dsimp only; omega, ?_⟩
        refine Eq.mp (by kernel_rfl : (((True ∧ True ∧ True ∧ True) ∧ True) ∧
              FnOk Try.prog T.e (17 : Nat)
                  [V.agg
                      [V.im (List.length C) (List.map (V.int IntKind.u8) C), V.int IntKind.u16 w,
                        V.im (List.length D) (List.map (V.int IntKind.u8) D)]]
                  (sl (cardsD C)) ∧
                True ∧
                  decide ((↑k : Int) < (↑(List.length (cardsD C)) : Int)) = true ∧
                    wr IntKind.u64 (↑k : Int) = (↑k : Int) ∧
                      binV (ctxOf Try.prog) BinOp.shr (24 : Nat) (V.int IntKind.u16 w) (V.int IntKind.u64 (↑k : Int)) =
                          some (V.int IntKind.u16 (shv w k)) ∧
                        IntKind.wrap IntKind.u16
                              (↑(BitVec.toNat
                                    (BitVec.ofInt (IntKind.bits IntKind.u16) (shv w k) &&&
                                      BitVec.ofInt (IntKind.bits IntKind.u16) (1 : Int))) :
                                Int) =
                            (0 : Int) ∧
                          wr IntKind.i64 ((↑k : Int) + (1 : Int)) = (↑(k + (1 : Nat)) : Int) ∧
                            ((0 : Nat) = (0 : Nat) ∧
                                ((0 : Nat) = (0 : Nat) ∧ l + (1 : Nat) = l + (1 : Nat) ∧ True) ∧
                                  (↑(k + (1 : Nat)) : Int) = (↑(k + (1 : Nat)) : Int) ∧ True) ∧
                              ([sl8 C, V.int IntKind.u16 w, sl8 D] = [sl8 C, V.int IntKind.u16 w, sl8 D] ∧
                                  True ∧ True ∧ True ∧ True) ∧
                                (ints out = ints out ∧ HfL (ints out)) ∧ True) = _) ?_
        (repeat' (first | (with_reducible apply And.intro) | (refine fun (_ : True) => ?_))) <;> first | with_reducible (first | rfl | exact trivial | assumption | (refine decide_eq_true ?_ <;> omega) | (refine decide_eq_false ?_ <;> omega) | (refine head_ints1 ?_ <;> omega) | (refine bne_false ?_ <;> omega) | (refine bne_true ?_ <;> omega) | (refine beq_false' ?_ <;> omega) | (refine beq_true' ?_ <;> omega) | (refine wr6' ?_ ?_ ?_ <;> omega) | (refine rem6 ?_ <;> omega) | (refine quo6 ?_ ?_ ?_ <;> omega) | exact HfL_ints _ | omega) | ((with_reducible show (_ : V) = _); rfl) | (intro hk_; exfalso; revert hk_; simp; done) | (intros; simp_all; done) | (split <;> omega) | ((with_reducible show decide _ = true); exact decide_eq_true (by omega)) | ((with_reducible show decide _ = false); exact decide_eq_false (by omega)) | skip
    · have hb' : IntKind.u16.wrap ((BitVec.ofInt IntKind.u16.bits (shv w k) &&& BitVec.ofInt IntKind.u16.bits 1).toNat : Int) = 1 := hb
      have hs : plD w (k + 1) = plD w k ++ [(k : Int)] := by simp [plD, hb]
      have hnx : DpI w N (k + 1, l + 1, out ++ [(k : Int)]) := ⟨hlt, by rw [hs, ← ho], by simp [hl]⟩
      cases l with
      | zero =>
        have h0 : out = [] := List.eq_nil_of_length_eq_zero hl
        subst h0
        refine .inl ⟨(k + 1, 1, [(k : Int)]), [0, 2], [fn 7 (sl (cardsD C)), yes 9, nu 15 k, va 16 (.int .u16 (shv w k)), nu 17 1, nu 11 (k + 1 : Nat)], 1000, hnx, by dsimp only; omega, ?_⟩
        refine Eq.mp (by kernel_rfl : (((True ∧ True ∧ True ∧ True) ∧ True) ∧
              FnOk Try.prog T.e (17 : Nat)
                  [V.agg
                      [V.im (List.length C) (List.map (V.int IntKind.u8) C), V.int IntKind.u16 w,
                        V.im (List.length D) (List.map (V.int IntKind.u8) D)]]
                  (sl (cardsD C)) ∧
                True ∧
                  decide ((↑k : Int) < (↑(List.length (cardsD C)) : Int)) = true ∧
                    wr IntKind.u64 (↑k : Int) = (↑k : Int) ∧
                      binV (ctxOf Try.prog) BinOp.shr (24 : Nat) (V.int IntKind.u16 w) (V.int IntKind.u64 (↑k : Int)) =
                          some (V.int IntKind.u16 (shv w k)) ∧
                        IntKind.wrap IntKind.u16
                              (↑(BitVec.toNat
                                    (BitVec.ofInt (IntKind.bits IntKind.u16) (shv w k) &&&
                                      BitVec.ofInt (IntKind.bits IntKind.u16) (1 : Int))) :
                                Int) =
                            (1 : Int) ∧
                          wr IntKind.i64 ((↑k : Int) + (1 : Int)) = (↑(k + (1 : Nat)) : Int) ∧
                            ((0 : Nat) = (0 : Nat) ∧
                                ((0 : Nat) = (0 : Nat) ∧ (0 : Nat) + (1 : Nat) = (1 : Nat) ∧ True) ∧
                                  (↑(k + (1 : Nat)) : Int) = (↑(k + (1 : Nat)) : Int) ∧ True) ∧
                              ([sl8 C, V.int IntKind.u16 w, sl8 D] = [sl8 C, V.int IntKind.u16 w, sl8 D] ∧
                                  True ∧ True ∧ True ∧ True) ∧
                                (ints [(↑k : Int)] =
                                      i6 (↑k : Int) ::
                                        List.take._f Nat.zero PUnit.unit
                                          (List.append._f [] PUnit.unit
                                            (rep._f Nat.zero PUnit.unit [V.int IntKind.i64 (0 : Int)])) ∧
                                    True ∧ True) ∧
                                  True) = _) ?_
        (repeat' (first | (with_reducible apply And.intro) | (refine fun (_ : True) => ?_))) <;> first | with_reducible (first | rfl | exact trivial | assumption | (refine decide_eq_true ?_ <;> omega) | (refine decide_eq_false ?_ <;> omega) | (refine head_ints1 ?_ <;> omega) | (refine bne_false ?_ <;> omega) | (refine bne_true ?_ <;> omega) | (refine beq_false' ?_ <;> omega) | (refine beq_true' ?_ <;> omega) | (refine wr6' ?_ ?_ ?_ <;> omega) | (refine rem6 ?_ <;> omega) | (refine quo6 ?_ ?_ ?_ <;> omega) | exact HfL_ints _ | omega) | ((with_reducible show (_ : V) = _); rfl) | (intro hk_; exfalso; revert hk_; simp; done) | (intros; simp_all; done) | (split <;> omega) | ((with_reducible show decide _ = true); exact decide_eq_true (by omega)) | ((with_reducible show decide _ = false); exact decide_eq_false (by omega)) | skip
        all_goals rfl
      | succ l =>
        refine .inl ⟨(k + 1, l + 1 + 1, out ++ [(k : Int)]), [0, 3], [fn 7 (sl (cardsD C)), yes 9, nu 15 k, va 16 (.int .u16 (shv w k)), nu 17 1, ap 22, nu 11 (k + 1 : Nat)], 1000, hnx, by dsimp only; omega, ?_⟩
        refine Eq.mp (by kernel_rfl : (((True ∧ True ∧ True ∧ True) ∧ True) ∧
              FnOk Try.prog T.e (17 : Nat)
                  [V.agg
                      [V.im (List.length C) (List.map (V.int IntKind.u8) C), V.int IntKind.u16 w,
                        V.im (List.length D) (List.map (V.int IntKind.u8) D)]]
                  (sl (cardsD C)) ∧
                True ∧
                  decide ((↑k : Int) < (↑(List.length (cardsD C)) : Int)) = true ∧
                    wr IntKind.u64 (↑k : Int) = (↑k : Int) ∧
                      binV (ctxOf Try.prog) BinOp.shr (24 : Nat) (V.int IntKind.u16 w) (V.int IntKind.u64 (↑k : Int)) =
                          some (V.int IntKind.u16 (shv w k)) ∧
                        IntKind.wrap IntKind.u16
                              (↑(BitVec.toNat
                                    (BitVec.ofInt (IntKind.bits IntKind.u16) (shv w k) &&&
                                      BitVec.ofInt (IntKind.bits IntKind.u16) (1 : Int))) :
                                Int) =
                            (1 : Int) ∧
                          List.length (ints out) = (l + (1 : Nat)) * (1 : Nat) ∧
                            l + (1 : Nat) + (1 : Nat) ≤ (9223372036854775807 : Nat) ∧
                              (l + (1 : Nat) + (1 : Nat)) * (8 : Nat) ≤ (140737488355328 : Nat) ∧
                                wr IntKind.i64 ((↑k : Int) + (1 : Int)) = (↑(k + (1 : Nat)) : Int) ∧
                                  ((0 : Nat) = (0 : Nat) ∧
                                      ((0 : Nat) = (0 : Nat) ∧ Nat.succ l + (1 : Nat) = l + (1 : Nat) + (1 : Nat) ∧ True) ∧
                                        (↑(k + (1 : Nat)) : Int) = (↑(k + (1 : Nat)) : Int) ∧ True) ∧
                                    ([sl8 C, V.int IntKind.u16 w, sl8 D] = [sl8 C, V.int IntKind.u16 w, sl8 D] ∧
                                        True ∧ True ∧ True ∧ True) ∧
                                      (ints (out ++ [(↑k : Int)]) =
                                            ints out ++
                                              i6 (↑k : Int) ::
                                                List.take._f Nat.zero PUnit.unit
                                                  (List.append._f [] PUnit.unit
                                                    (rep._f Nat.zero PUnit.unit [V.int IntKind.i64 (0 : Int)])) ∧
                                          HfL (ints (out ++ [(↑k : Int)]))) ∧
                                        True) = _) ?_
        (repeat' (first | (with_reducible apply And.intro) | (refine fun (_ : True) => ?_))) <;> first | with_reducible (first | rfl | exact trivial | assumption | (refine decide_eq_true ?_ <;> omega) | (refine decide_eq_false ?_ <;> omega) | (refine head_ints1 ?_ <;> omega) | (refine bne_false ?_ <;> omega) | (refine bne_true ?_ <;> omega) | (refine beq_false' ?_ <;> omega) | (refine beq_true' ?_ <;> omega) | (refine wr6' ?_ ?_ ?_ <;> omega) | (refine rem6 ?_ <;> omega) | (refine quo6 ?_ ?_ ?_ <;> omega) | exact HfL_ints _ | omega) | ((with_reducible show (_ : V) = _); rfl) | (intro hk_; exfalso; revert hk_; simp; done) | (intros; simp_all; done) | (split <;> omega) | ((with_reducible show decide _ = true); exact decide_eq_true (by omega)) | ((with_reducible show decide _ = false); exact decide_eq_false (by omega)) | skip
        · rw [ints_length, Nat.mul_one]; exact hl
        · rw [ints_app]
  · have : k = N := by omega
    subst this
    rw [← ho] at hm ⊢
    have : l = m := by omega
    subst this
    cases l with
    | zero =>
      refine .inr ⟨.exit 0, [], dpX out 0, [fn 7 (sl (cardsD C)), no 9], 1000, .inl ⟨trivial, rfl, rfl⟩, ?_⟩
      refine Eq.mp (by kernel_rfl : (((True ∧ True ∧ True ∧ True) ∧ True) ∧
            FnOk Try.prog T.e (17 : Nat)
                [V.agg
                    [V.im (List.length C) (List.map (V.int IntKind.u8) C), V.int IntKind.u16 w,
                      V.im (List.length D) (List.map (V.int IntKind.u8) D)]]
                (sl (cardsD C)) ∧
              True ∧ decide ((↑k : Int) < (↑(List.length (cardsD C)) : Int)) = false ∧ (True ∧ True) ∧ True) = _) ?_
      (repeat' (first | (with_reducible apply And.intro) | (refine fun (_ : True) => ?_))) <;> first | with_reducible (first | rfl | exact trivial | assumption | (refine decide_eq_true ?_ <;> omega) | (refine decide_eq_false ?_ <;> omega) | (refine head_ints1 ?_ <;> omega) | (refine bne_false ?_ <;> omega) | (refine bne_true ?_ <;> omega) | (refine beq_false' ?_ <;> omega) | (refine beq_true' ?_ <;> omega) | (refine wr6' ?_ ?_ ?_ <;> omega) | (refine rem6 ?_ <;> omega) | (refine quo6 ?_ ?_ ?_ <;> omega) | exact HfL_ints _ | omega) | ((with_reducible show (_ : V) = _); rfl) | (intro hk_; exfalso; revert hk_; simp; done) | (intros; simp_all; done) | (split <;> omega) | ((with_reducible show decide _ = true); exact decide_eq_true (by omega)) | ((with_reducible show decide _ = false); exact decide_eq_false (by omega)) | skip
    | succ l =>
      refine .inr ⟨.exit 0, [1], dpX out (l + 1), [fn 7 (sl (cardsD C)), no 9], 1000, .inl ⟨trivial, rfl, rfl⟩, ?_⟩
      refine Eq.mp (by kernel_rfl : (((True ∧ True ∧ True ∧ True) ∧ True) ∧
            FnOk Try.prog T.e (17 : Nat)
                [V.agg
                    [V.im (List.length C) (List.map (V.int IntKind.u8) C), V.int IntKind.u16 w,
                      V.im (List.length D) (List.map (V.int IntKind.u8) D)]]
                (sl (cardsD C)) ∧
              True ∧
                decide ((↑k : Int) < (↑(List.length (cardsD C)) : Int)) = false ∧
                  (((0 : Nat) = (0 : Nat) ∧ l + (1 : Nat) = l + (1 : Nat) ∧ True) ∧ True) ∧
                    (ints out = ints out ∧ HfL (ints out)) ∧ True) = _) ?_
      (repeat' (first | (with_reducible apply And.intro) | (refine fun (_ : True) => ?_))) <;> first | with_reducible (first | rfl | exact trivial | assumption | (refine decide_eq_true ?_ <;> omega) | (refine decide_eq_false ?_ <;> omega) | (refine head_ints1 ?_ <;> omega) | (refine bne_false ?_ <;> omega) | (refine bne_true ?_ <;> omega) | (refine beq_false' ?_ <;> omega) | (refine beq_true' ?_ <;> omega) | (refine wr6' ?_ ?_ ?_ <;> omega) | (refine rem6 ?_ <;> omega) | (refine quo6 ?_ ?_ ?_ <;> omega) | exact HfL_ints _ | omega) | ((with_reducible show (_ : V) = _); rfl) | (intro hk_; exfalso; revert hk_; simp; done) | (intros; simp_all; done) | (split <;> omega) | ((with_reducible show decide _ = true); exact decide_eq_true (by omega)) | ((with_reducible show decide _ = false); exact decide_eq_false (by omega)) | skip

def placesD (C : List Int) (w : Int) : List Int := plD w (cardsD C).length
theorem placesD_len (C : List Int) (w : Int) : (placesD C w).length ≤ 5 := by
  have := plD_len w (cardsD C).length
  have : (cardsD C).length ≤ 5 := by simp [cardsD]; omega
  unfold placesD; omega

theorem places2_fn (C D : List Int) (w : Int) (hC : u8s C) : FnOk Pg .e 18 [drV C D w] (sl (placesD C w)) := by
  generalize hm : (placesD C w).length = m
  have hlp := places2_loop C D w hC _ rfl m hm.symm (0, 0, []) ⟨Nat.zero_le _, rfl, rfl⟩
  change Sat Pg none 0 _ _ (outsP .e 24 [(True, .exit 0, dpX (placesD C w) m)]) at hlp
  cases m with
  | zero =>
    have h0 := List.eq_nil_of_length_eq_zero hm
    rw [h0] at hlp ⊢
    refine FnOk.of_vc vE_ok mixed sp0_ok (n := 1000) (r := []) (S := { sl := [(2, .im 0 [])] }) (hs := [(0, .loop [0] (dpS C D w (0, 0, [])) [(True, .exit 0, dpX [] 0)])]) ?_
    refine Eq.mp (by kernel_rfl : (V.im (0 : Nat) [] = sl [] ∧
          (((0 : Nat) = (0 : Nat) ∧ True ∧ (↑(0 : Nat) : Int) = (0 : Int) ∧ True) ∧
              ([sl8 C, V.int IntKind.u16 w, sl8 D] = [sl8 C, V.int IntKind.u16 w, sl8 D] ∧ True ∧ True ∧ True ∧ True) ∧ True) ∧
            Sat Try.prog none (0 : Nat) (at' (18 : Nat) [(1 : Nat), (1 : Nat), (0 : Nat), (1 : Nat), (0 : Nat)])
                (mkSt T.e (24 : Nat) (dpS C D w ((0 : Nat), (0 : Nat), [])))
                (outsP T.e (24 : Nat) [(True, Ex.exit (0 : Nat), dpX [] (0 : Nat))]) ∧
              (True → ((0 : Nat) = (0 : Nat) ∧ True) ∧ True) ∧ True) = _) ?_
    (repeat' (first | (with_reducible apply And.intro) | (refine fun (_ : True) => ?_))) <;> first | with_reducible (first | rfl | exact trivial | assumption | (refine decide_eq_true ?_ <;> omega) | (refine decide_eq_false ?_ <;> omega) | (refine head_ints1 ?_ <;> omega) | (refine bne_false ?_ <;> omega) | (refine bne_true ?_ <;> omega) | (refine beq_false' ?_ <;> omega) | (refine beq_true' ?_ <;> omega) | (refine wr6' ?_ ?_ ?_ <;> omega) | (refine rem6 ?_ <;> omega) | (refine quo6 ?_ ?_ ?_ <;> omega) | exact HfL_ints _ | omega) | ((with_reducible show (_ : V) = _); rfl) | (intro hk_; exfalso; revert hk_; simp; done) | (intros; simp_all; done) | (split <;> omega) | ((with_reducible show decide _ = true); exact decide_eq_true (by omega)) | ((with_reducible show decide _ = false); exact decide_eq_false (by omega)) | skip
  | succ m =>
    refine FnOk.of_vc vE_ok mixed sp0_ok (n := 1000) (r := []) (S := { sl := [(2, sl (placesD C w))] }) (hs := [(0, .loop [0] (dpS C D w (0, 0, [])) [(True, .exit 0, dpX (placesD C w) (m + 1))])]) ?_
    refine Eq.mp (by kernel_rfl : (sl (placesD C w) = sl (placesD C w) ∧
          (((0 : Nat) = (0 : Nat) ∧ True ∧ (↑(0 : Nat) : Int) = (0 : Int) ∧ True) ∧
              ([sl8 C, V.int IntKind.u16 w, sl8 D] = [sl8 C, V.int IntKind.u16 w, sl8 D] ∧ True ∧ True ∧ True ∧ True) ∧ True) ∧
            Sat Try.prog none (0 : Nat) (at' (18 : Nat) [(1 : Nat), (1 : Nat), (0 : Nat), (1 : Nat), (0 : Nat)])
                (mkSt T.e (24 : Nat) (dpS C D w ((0 : Nat), (0 : Nat), [])))
                (outsP T.e (24 : Nat) [(True, Ex.exit (0 : Nat), dpX (placesD C w) (m + (1 : Nat)))]) ∧
              (True →
                  ((List.length (placesD C w) = m + (1 : Nat) ∧
                        ints (placesD C w) = ints (placesD C w) ∧ HfL (ints (placesD C w))) ∧
                      True) ∧
                    True) ∧
                True) = _) ?_
    (repeat' (first | (with_reducible apply And.intro) | (refine fun (_ : True) => ?_))) <;> first | with_reducible (first | rfl | exact trivial | assumption | (refine decide_eq_true ?_ <;> omega) | (refine decide_eq_false ?_ <;> omega) | (refine head_ints1 ?_ <;> omega) | (refine bne_false ?_ <;> omega) | (refine bne_true ?_ <;> omega) | (refine beq_false' ?_ <;> omega) | (refine beq_true' ?_ <;> omega) | (refine wr6' ?_ ?_ ?_ <;> omega) | (refine rem6 ?_ <;> omega) | (refine quo6 ?_ ?_ ?_ <;> omega) | exact HfL_ints _ | omega) | ((with_reducible show (_ : V) = _); rfl) | (intro hk_; exfalso; revert hk_; simp; done) | (intros; simp_all; done) | (split <;> omega) | ((with_reducible show decide _ = true); exact decide_eq_true (by omega)) | ((with_reducible show decide _ = false); exact decide_eq_false (by omega)) | skip

end Go.Proofs.Ytmnaidemihcfaaa.Am
