/- The reference of chapter 02: At, Places, Part, Spread; the drafted places. -/
import Derived.Test.YtmnaidemihcfaaaV4
namespace Go.Proofs.Ytmnaidemihcfaaa.Am
open Go.RowKit
set_option linter.unusedVariables false
set_option maxHeartbeats 1000000
set_option maxRecDepth 100000

theorem ints_inj {L M : List Int} (h : ints L = ints M) : L = M := by
  induction L generalizing M with
  | nil => cases M with
    | nil => rfl
    | cons b M => cases h
  | cons a L ih => cases M with
    | nil => cases h
    | cons b M =>
      simp only [ints, List.map_cons, List.cons.injEq] at h
      obtain ⟨h1, h2⟩ := h
      injection h1 with h3 h4
      rw [h4, ih h2]
theorem sl_inj {L M : List Int} (h : sl L = sl M) : L = M := by
  injection h with h1 h2
  exact ints_inj h2

/-! ### At -/

def atE (L : List Int) (p : Int) : Int := L.getD p.toNat 0
def atL (L P : List Int) : List Int := P.map (atE L)
abbrev atS (L P : List Int) (k : Nat) : SL := { sl := [(0, sl L), (1, sl P), (5, owV 0 k), (6, i6 k)], os := owO ((P.take k).map (atE L)) k }
abbrev atX (L P : List Int) (k : Nat) : SL := { sl := [(5, owV 0 k)], os := owO ((P.take k).map (atE L)) k }
def InL (L P : List Int) : Prop := ∀ p ∈ P, 0 ≤ p ∧ p < L.length

theorem at_loop (L P : List Int) (hin : InL L P) (hl : P.length ≤ 65536) (k : Nat) (hk : k ≤ P.length) :
    Sat Pg none 0 (at' 22 [1, 1, 0, 1, 0]) (mkSt .e 24 (atS L P k)) (outsP .e 24 [(True, .exit 0, atX L P P.length)]) := by
  refine loopC vE_ok mixed sp0_ok (b := at' 22 [1, 1, 0, 1, 0, 0]) (by kernel_rfl) (fun k => k ≤ P.length) (atS L P) (fun k => P.length - k) (fun k hk => ?_) k hk
  by_cases hlt : k < P.length
  · have hp := hin P[k] (List.getElem_mem hlt)
    have hts := take_map_succ hlt (atE L)
    have hd : headF (List.drop (Int.toNat P[k] * 1) (ints L)) = some (i6 (atE L P[k])) := head_intsD (by omega)
    cases k with
    | zero =>
      refine .inl ⟨1, [1], [yes 10, pl 17, ld 18 (i6 P[0]), pl 19, ld 20 (i6 (atE L P[0])), nu 12 1], 1000, hlt, by omega, ?_⟩
      refine Eq.mp (by kernel_rfl : (decide ((↑(0 : Nat) : Int) < (↑(List.length P) : Int)) = true ∧
            ((0 : Int) ≤ (↑(0 : Nat) : Int) ∧ (↑(0 : Nat) : Int) < (↑(List.length P) : Int)) ∧
              headF (List.drop ((0 : Nat) * (1 : Nat)) (ints P)) = some (i6 P[(0 : Nat)]) ∧
                ((0 : Int) ≤ P[(0 : Nat)] ∧ P[(0 : Nat)] < (↑(List.length L) : Int)) ∧
                  headF (List.drop (Int.toNat P[(0 : Nat)] * (1 : Nat)) (ints L)) = some (i6 (atE L P[(0 : Nat)])) ∧
                    wr IntKind.i64 ((↑(0 : Nat) : Int) + (1 : Int)) = (1 : Int) ∧
                      ((List.length L = List.length L ∧ ints L = ints L) ∧
                          (List.length P = List.length P ∧ ints P = ints P) ∧
                            ((0 : Nat) = (0 : Nat) ∧ (0 : Nat) + (1 : Nat) = (1 : Nat) ∧ True) ∧
                              (↑(1 : Nat) : Int) = (1 : Int) ∧ True) ∧
                        (ints (List.map (atE L) (List.take (1 : Nat) P)) =
                              i6 (atE L P[(0 : Nat)]) ::
                                List.take._f Nat.zero PUnit.unit
                                  (List.append._f [] PUnit.unit (rep._f Nat.zero PUnit.unit [V.int IntKind.i64 (0 : Int)])) ∧
                            HfL (ints (List.map (atE L) (List.take (1 : Nat) P)))) ∧
                          True) = _) ?_
      (repeat' (first | (with_reducible apply And.intro) | (refine fun (_ : True) => ?_))) <;> first | with_reducible (first | rfl | exact trivial | assumption | (refine decide_eq_true ?_ <;> omega) | (refine decide_eq_false ?_ <;> omega) | (refine head_ints1 ?_ <;> omega) | (refine bne_false ?_ <;> omega) | (refine bne_true ?_ <;> omega) | (refine beq_false' ?_ <;> omega) | (refine beq_true' ?_ <;> omega) | (refine wr6' ?_ ?_ ?_ <;> omega) | (refine rem6 ?_ <;> omega) | (refine quo6 ?_ ?_ ?_ <;> omega) | exact HfL_ints _ | omega) | ((with_reducible show (_ : V) = _); rfl) | (intro hk_; exfalso; revert hk_; simp; done) | (intros; simp_all; done) | (split <;> omega) | ((with_reducible show decide _ = true); exact decide_eq_true (by omega)) | ((with_reducible show decide _ = false); exact decide_eq_false (by omega)) | skip
      rw [hts]; rfl
    | succ k =>
      refine .inl ⟨k + 1 + 1, [2], [yes 10, pl 17, ld 18 (i6 P[k + 1]), pl 19, ld 20 (i6 (atE L P[k + 1])), ap 22, nu 12 (k + 1 + 1 : Nat)], 1000, hlt, by omega, ?_⟩
      refine Eq.mp (by kernel_rfl : (decide ((↑(k + (1 : Nat)) : Int) < (↑(List.length P) : Int)) = true ∧
            ((0 : Int) ≤ (↑(k + (1 : Nat)) : Int) ∧ (↑(k + (1 : Nat)) : Int) < (↑(List.length P) : Int)) ∧
              headF (List.drop ((k + (1 : Nat)) * (1 : Nat)) (ints P)) = some (i6 P[k + (1 : Nat)]) ∧
                ((0 : Int) ≤ P[k + (1 : Nat)] ∧ P[k + (1 : Nat)] < (↑(List.length L) : Int)) ∧
                  headF (List.drop (Int.toNat P[k + (1 : Nat)] * (1 : Nat)) (ints L)) = some (i6 (atE L P[k + (1 : Nat)])) ∧
                    List.length (ints (List.map (atE L) (List.take (k + (1 : Nat)) P))) = (k + (1 : Nat)) * (1 : Nat) ∧
                      k + (1 : Nat) + (1 : Nat) ≤ (9223372036854775807 : Nat) ∧
                        (k + (1 : Nat) + (1 : Nat)) * (8 : Nat) ≤ (140737488355328 : Nat) ∧
                          wr IntKind.i64 ((↑(k + (1 : Nat)) : Int) + (1 : Int)) = (↑(k + (1 : Nat) + (1 : Nat)) : Int) ∧
                            ((List.length L = List.length L ∧ ints L = ints L) ∧
                                (List.length P = List.length P ∧ ints P = ints P) ∧
                                  ((0 : Nat) = (0 : Nat) ∧ Nat.succ k + (1 : Nat) = k + (1 : Nat) + (1 : Nat) ∧ True) ∧
                                    (↑(k + (1 : Nat) + (1 : Nat)) : Int) = (↑(k + (1 : Nat) + (1 : Nat)) : Int) ∧ True) ∧
                              (ints (List.map (atE L) (List.take (k + (1 : Nat) + (1 : Nat)) P)) =
                                    ints (List.map (atE L) (List.take (k + (1 : Nat)) P)) ++
                                      i6 (atE L P[k + (1 : Nat)]) ::
                                        List.take._f Nat.zero PUnit.unit
                                          (List.append._f [] PUnit.unit
                                            (rep._f Nat.zero PUnit.unit [V.int IntKind.i64 (0 : Int)])) ∧
                                  HfL (ints (List.map (atE L) (List.take (k + (1 : Nat) + (1 : Nat)) P)))) ∧
                                True) = _) ?_
      (repeat' (first | (with_reducible apply And.intro) | (refine fun (_ : True) => ?_))) <;> first | with_reducible (first | rfl | exact trivial | assumption | (refine decide_eq_true ?_ <;> omega) | (refine decide_eq_false ?_ <;> omega) | (refine head_ints1 ?_ <;> omega) | (refine bne_false ?_ <;> omega) | (refine bne_true ?_ <;> omega) | (refine beq_false' ?_ <;> omega) | (refine beq_true' ?_ <;> omega) | (refine wr6' ?_ ?_ ?_ <;> omega) | (refine rem6 ?_ <;> omega) | (refine quo6 ?_ ?_ ?_ <;> omega) | exact HfL_ints _ | omega) | ((with_reducible show (_ : V) = _); rfl) | (intro hk_; exfalso; revert hk_; simp; done) | (intros; simp_all; done) | (split <;> omega) | ((with_reducible show decide _ = true); exact decide_eq_true (by omega)) | ((with_reducible show decide _ = false); exact decide_eq_false (by omega)) | skip
      · rw [ints_length]; simp only [List.length_map, List.length_take]; omega
      · rw [hts, ints_app]
  · have : k = P.length := by omega
    subst this
    cases hPl : P.length with
    | zero =>
      refine .inr ⟨.exit 0, [], atX L P 0, [no 10], 1000, .inl ⟨trivial, rfl, rfl⟩, ?_⟩
      refine Eq.mp (by kernel_rfl : (decide ((↑(0 : Nat) : Int) < (↑(List.length P) : Int)) = false ∧ (True ∧ True) ∧ True) = _) ?_
      (repeat' (first | (with_reducible apply And.intro) | (refine fun (_ : True) => ?_))) <;> first | with_reducible (first | rfl | exact trivial | assumption | (refine decide_eq_true ?_ <;> omega) | (refine decide_eq_false ?_ <;> omega) | (refine head_ints1 ?_ <;> omega) | (refine bne_false ?_ <;> omega) | (refine bne_true ?_ <;> omega) | (refine beq_false' ?_ <;> omega) | (refine beq_true' ?_ <;> omega) | (refine wr6' ?_ ?_ ?_ <;> omega) | (refine rem6 ?_ <;> omega) | (refine quo6 ?_ ?_ ?_ <;> omega) | exact HfL_ints _ | omega) | ((with_reducible show (_ : V) = _); rfl) | (intro hk_; exfalso; revert hk_; simp; done) | (intros; simp_all; done) | (split <;> omega) | ((with_reducible show decide _ = true); exact decide_eq_true (by omega)) | ((with_reducible show decide _ = false); exact decide_eq_false (by omega)) | skip
    | succ n =>
      refine .inr ⟨.exit 0, [0], atX L P (n + 1), [no 10], 1000, .inl ⟨trivial, rfl, rfl⟩, ?_⟩
      refine Eq.mp (by kernel_rfl : (decide ((↑(n + (1 : Nat)) : Int) < (↑(List.length P) : Int)) = false ∧
            (((0 : Nat) = (0 : Nat) ∧ n + (1 : Nat) = n + (1 : Nat) ∧ True) ∧ True) ∧
              (ints (List.map (atE L) (List.take (n + (1 : Nat)) P)) = ints (List.map (atE L) (List.take (n + (1 : Nat)) P)) ∧
                  HfL (ints (List.map (atE L) (List.take (n + (1 : Nat)) P)))) ∧
                True) = _) ?_
      (repeat' (first | (with_reducible apply And.intro) | (refine fun (_ : True) => ?_))) <;> first | with_reducible (first | rfl | exact trivial | assumption | (refine decide_eq_true ?_ <;> omega) | (refine decide_eq_false ?_ <;> omega) | (refine head_ints1 ?_ <;> omega) | (refine bne_false ?_ <;> omega) | (refine bne_true ?_ <;> omega) | (refine beq_false' ?_ <;> omega) | (refine beq_true' ?_ <;> omega) | (refine wr6' ?_ ?_ ?_ <;> omega) | (refine rem6 ?_ <;> omega) | (refine quo6 ?_ ?_ ?_ <;> omega) | exact HfL_ints _ | omega) | ((with_reducible show (_ : V) = _); rfl) | (intro hk_; exfalso; revert hk_; simp; done) | (intros; simp_all; done) | (split <;> omega) | ((with_reducible show decide _ = true); exact decide_eq_true (by omega)) | ((with_reducible show decide _ = false); exact decide_eq_false (by omega)) | skip

theorem at_ok (L P : List Int) (hin : InL L P) (hl : P.length ≤ 65536) : FnOk Pg .e 22 [sl L, sl P] (sl (atL L P)) := by
  have hlp := at_loop L P hin hl 0 (Nat.zero_le _)
  have e1 : (atL L P).length = P.length := by simp [atL]
  cases hPl : P.length with
  | zero =>
    rw [hPl] at hlp
    have : P = [] := List.eq_nil_of_length_eq_zero hPl
    subst this
    refine FnOk.of_vc vE_ok mixed sp0_ok (n := 1000) (r := []) (S := { sl := [(4, .im 0 [])] }) (hs := [(0, .loop [] (atS L [] 0) [(True, .exit 0, atX L [] 0)])]) ?_
    refine Eq.mp (by kernel_rfl : (V.im (0 : Nat) [] = sl (atL L []) ∧
          (((List.length L = List.length L ∧ ints L = ints L) ∧
                ((0 : Nat) = (0 : Nat) ∧ ints [] = ints []) ∧ True ∧ (↑(0 : Nat) : Int) = (0 : Int) ∧ True) ∧
              True) ∧
            Sat Try.prog none (0 : Nat) (at' (22 : Nat) [(1 : Nat), (1 : Nat), (0 : Nat), (1 : Nat), (0 : Nat)])
                (mkSt T.e (24 : Nat) (atS L [] (0 : Nat)))
                (outsP T.e (24 : Nat) [(True, Ex.exit (0 : Nat), atX L [] (0 : Nat))]) ∧
              (True → ((0 : Nat) = (0 : Nat) ∧ True) ∧ True) ∧ True) = _) ?_
    (repeat' (first | (with_reducible apply And.intro) | (refine fun (_ : True) => ?_))) <;> first | with_reducible (first | rfl | exact trivial | assumption | (refine decide_eq_true ?_ <;> omega) | (refine decide_eq_false ?_ <;> omega) | (refine head_ints1 ?_ <;> omega) | (refine bne_false ?_ <;> omega) | (refine bne_true ?_ <;> omega) | (refine beq_false' ?_ <;> omega) | (refine beq_true' ?_ <;> omega) | (refine wr6' ?_ ?_ ?_ <;> omega) | (refine rem6 ?_ <;> omega) | (refine quo6 ?_ ?_ ?_ <;> omega) | exact HfL_ints _ | omega) | ((with_reducible show (_ : V) = _); rfl) | (intro hk_; exfalso; revert hk_; simp; done) | (intros; simp_all; done) | (split <;> omega) | ((with_reducible show decide _ = true); exact decide_eq_true (by omega)) | ((with_reducible show decide _ = false); exact decide_eq_false (by omega)) | skip
  | succ n =>
    have e2 : P.take (n + 1) = P := List.take_of_length_le (by omega)
    rw [hPl] at hlp
    refine FnOk.of_vc vE_ok mixed sp0_ok (n := 1000) (r := []) (S := { sl := [(4, sl (atL L P))] }) (hs := [(0, .loop [] (atS L P 0) [(True, .exit 0, atX L P (n + 1))])]) ?_
    refine Eq.mp (by kernel_rfl : (sl (atL L P) = sl (atL L P) ∧
          (((List.length L = List.length L ∧ ints L = ints L) ∧
                (List.length P = List.length P ∧ ints P = ints P) ∧ True ∧ (↑(0 : Nat) : Int) = (0 : Int) ∧ True) ∧
              True) ∧
            Sat Try.prog none (0 : Nat) (at' (22 : Nat) [(1 : Nat), (1 : Nat), (0 : Nat), (1 : Nat), (0 : Nat)])
                (mkSt T.e (24 : Nat) (atS L P (0 : Nat)))
                (outsP T.e (24 : Nat) [(True, Ex.exit (0 : Nat), atX L P (n + (1 : Nat)))]) ∧
              (True →
                  ((List.length (atL L P) = n + (1 : Nat) ∧
                        ints (atL L P) = ints (List.map (atE L) (List.take (n + (1 : Nat)) P)) ∧
                          HfL (ints (List.map (atE L) (List.take (n + (1 : Nat)) P)))) ∧
                      True) ∧
                    True) ∧
                True) = _) ?_
    (repeat' (first | (with_reducible apply And.intro) | (refine fun (_ : True) => ?_))) <;> first | with_reducible (first | rfl | exact trivial | assumption | (refine decide_eq_true ?_ <;> omega) | (refine decide_eq_false ?_ <;> omega) | (refine head_ints1 ?_ <;> omega) | (refine bne_false ?_ <;> omega) | (refine bne_true ?_ <;> omega) | (refine beq_false' ?_ <;> omega) | (refine beq_true' ?_ <;> omega) | (refine wr6' ?_ ?_ ?_ <;> omega) | (refine rem6 ?_ <;> omega) | (refine quo6 ?_ ?_ ?_ <;> omega) | exact HfL_ints _ | omega) | ((with_reducible show (_ : V) = _); rfl) | (intro hk_; exfalso; revert hk_; simp; done) | (intros; simp_all; done) | (split <;> omega) | ((with_reducible show decide _ = true); exact decide_eq_true (by omega)) | ((with_reducible show decide _ = false); exact decide_eq_false (by omega)) | skip
    all_goals rw [e2]; rfl

/-! ### Places -/

def lastP (P : List Int) : Nat → Int
  | 0 => -1
  | j + 1 => P.getD j 0
abbrev plS (P : List Int) (n : Int) (k : Nat) : SL := { sl := [(0, sl P), (1, i6 n), (5, i6 k)] }
abbrev PlI (P : List Int) (n : Int) (b : Bool) (k : Nat) : Prop := k ≤ P.length ∧ -1 ≤ lastP P k ∧ incr n (lastP P k) (P.drop k) = b

theorem places_loop (P : List Int) (n : Int) (b : Bool) (hl : P.length ≤ 4611686018427387904) (k : Nat) (hk : PlI P n b k) :
    Sat Pg none 0 (at' 20 [1, 0, 1, 0]) (mkSt .e 41 (plS P n k)) (outsP .e 41 [(b = true, .exit 0, rtE), (b = false, .ret, boE 4 false)]) := by
  refine loopC vE_ok mixed sp0_ok (b := at' 20 [1, 0, 1, 0, 0]) (by kernel_rfl) (PlI P n b) (plS P n) (fun k => P.length - k) (fun k hk => ?_) k hk
  obtain ⟨hk, hlast, hb⟩ := hk
  by_cases hlt : k < P.length
  · rw [incr_drop n _ hlt] at hb
    have hnext : lastP P (k + 1) = P[k] := by simp [lastP, List.getD, List.getElem?_eq_getElem hlt]
    by_cases h1 : P[k] < 0
    · rw [if_pos (by omega)] at hb
      refine .inr ⟨.ret, [], boE 4 false, [yes 9, pl 14, ld 15 (i6 P[k]), yes 16], 1000, .inr (.inl ⟨hb.symm, rfl, rfl⟩), ?_⟩
      refine Eq.mp (by kernel_rfl : (decide ((↑k : Int) < (↑(List.length P) : Int)) = true ∧
            ((0 : Int) ≤ (↑k : Int) ∧ (↑k : Int) < (↑(List.length P) : Int)) ∧
              headF (List.drop (k * (1 : Nat)) (ints P)) = some (i6 P[k]) ∧
                decide (P[k] < (0 : Int)) = true ∧ (false = false ∧ True) ∧ True) = _) ?_
      (repeat' (first | (with_reducible apply And.intro) | (refine fun (_ : True) => ?_))) <;> first | with_reducible (first | rfl | exact trivial | assumption | (refine decide_eq_true ?_ <;> omega) | (refine decide_eq_false ?_ <;> omega) | (refine head_ints1 ?_ <;> omega) | (refine bne_false ?_ <;> omega) | (refine bne_true ?_ <;> omega) | (refine beq_false' ?_ <;> omega) | (refine beq_true' ?_ <;> omega) | (refine wr6' ?_ ?_ ?_ <;> omega) | (refine rem6 ?_ <;> omega) | (refine quo6 ?_ ?_ ?_ <;> omega) | exact HfL_ints _ | omega) | ((with_reducible show (_ : V) = _); rfl) | (intro hk_; exfalso; revert hk_; simp; done) | (intros; simp_all; done) | (split <;> omega) | ((with_reducible show decide _ = true); exact decide_eq_true (by omega)) | ((with_reducible show decide _ = false); exact decide_eq_false (by omega)) | skip
    · by_cases h2 : n ≤ P[k]
      · rw [if_pos (by omega)] at hb
        refine .inr ⟨.ret, [], boE 4 false, [yes 9, pl 14, ld 15 (i6 P[k]), no 16, pl 20, ld 21 (i6 P[k]), yes 23], 1000, .inr (.inl ⟨hb.symm, rfl, rfl⟩), ?_⟩
        refine Eq.mp (by kernel_rfl : (decide ((↑k : Int) < (↑(List.length P) : Int)) = true ∧
              ((0 : Int) ≤ (↑k : Int) ∧ (↑k : Int) < (↑(List.length P) : Int)) ∧
                headF (List.drop (k * (1 : Nat)) (ints P)) = some (i6 P[k]) ∧
                  decide (P[k] < (0 : Int)) = false ∧
                    ((0 : Int) ≤ (↑k : Int) ∧ (↑k : Int) < (↑(List.length P) : Int)) ∧
                      headF (List.drop (k * (1 : Nat)) (ints P)) = some (i6 P[k]) ∧
                        decide (P[k] ≥ n) = true ∧ (false = false ∧ True) ∧ True) = _) ?_
        (repeat' (first | (with_reducible apply And.intro) | (refine fun (_ : True) => ?_))) <;> first | with_reducible (first | rfl | exact trivial | assumption | (refine decide_eq_true ?_ <;> omega) | (refine decide_eq_false ?_ <;> omega) | (refine head_ints1 ?_ <;> omega) | (refine bne_false ?_ <;> omega) | (refine bne_true ?_ <;> omega) | (refine beq_false' ?_ <;> omega) | (refine beq_true' ?_ <;> omega) | (refine wr6' ?_ ?_ ?_ <;> omega) | (refine rem6 ?_ <;> omega) | (refine quo6 ?_ ?_ ?_ <;> omega) | exact HfL_ints _ | omega) | ((with_reducible show (_ : V) = _); rfl) | (intro hk_; exfalso; revert hk_; simp; done) | (intros; simp_all; done) | (split <;> omega) | ((with_reducible show decide _ = true); exact decide_eq_true (by omega)) | ((with_reducible show decide _ = false); exact decide_eq_false (by omega)) | skip
      · cases k with
        | zero =>
          rw [if_neg (by simp only [lastP]; omega)] at hb
          refine .inl ⟨1, [], [yes 9, pl 14, ld 15 (i6 P[0]), no 16, pl 20, ld 21 (i6 P[0]), no 23, no 27, nu 11 1], 1000, ⟨hlt, by rw [hnext]; omega, by rw [hnext]; exact hb⟩, by omega, ?_⟩
          refine Eq.mp (by kernel_rfl : (decide ((↑(0 : Nat) : Int) < (↑(List.length P) : Int)) = true ∧
                ((0 : Int) ≤ (↑(0 : Nat) : Int) ∧ (↑(0 : Nat) : Int) < (↑(List.length P) : Int)) ∧
                  headF (List.drop ((0 : Nat) * (1 : Nat)) (ints P)) = some (i6 P[(0 : Nat)]) ∧
                    decide (P[(0 : Nat)] < (0 : Int)) = false ∧
                      ((0 : Int) ≤ (↑(0 : Nat) : Int) ∧ (↑(0 : Nat) : Int) < (↑(List.length P) : Int)) ∧
                        headF (List.drop ((0 : Nat) * (1 : Nat)) (ints P)) = some (i6 P[(0 : Nat)]) ∧
                          decide (P[(0 : Nat)] ≥ n) = false ∧
                            decide ((↑(0 : Nat) : Int) > (0 : Int)) = false ∧
                              wr IntKind.i64 ((↑(0 : Nat) : Int) + (1 : Int)) = (1 : Int) ∧
                                ((List.length P = List.length P ∧ ints P = ints P) ∧ n = n ∧ (↑(1 : Nat) : Int) = (1 : Int) ∧ True) ∧
                                  True) = _) ?_
          (repeat' (first | (with_reducible apply And.intro) | (refine fun (_ : True) => ?_))) <;> first | with_reducible (first | rfl | exact trivial | assumption | (refine decide_eq_true ?_ <;> omega) | (refine decide_eq_false ?_ <;> omega) | (refine head_ints1 ?_ <;> omega) | (refine bne_false ?_ <;> omega) | (refine bne_true ?_ <;> omega) | (refine beq_false' ?_ <;> omega) | (refine beq_true' ?_ <;> omega) | (refine wr6' ?_ ?_ ?_ <;> omega) | (refine rem6 ?_ <;> omega) | (refine quo6 ?_ ?_ ?_ <;> omega) | exact HfL_ints _ | omega) | ((with_reducible show (_ : V) = _); rfl) | (intro hk_; exfalso; revert hk_; simp; done) | (intros; simp_all; done) | (split <;> omega) | ((with_reducible show decide _ = true); exact decide_eq_true (by omega)) | ((with_reducible show decide _ = false); exact decide_eq_false (by omega)) | skip
        | succ j =>
          have hj : j < P.length := by omega
          have hlj : lastP P (j + 1) = P[j] := by simp [lastP, List.getD, List.getElem?_eq_getElem hj]
          rw [hlj] at hb hlast
          by_cases h3 : P[j + 1] ≤ P[j]
          · rw [if_pos (by omega)] at hb
            refine .inr ⟨.ret, [], boE 4 false, [yes 9, pl 14, ld 15 (i6 P[j + 1]), no 16, pl 20, ld 21 (i6 P[j + 1]), no 23, yes 27, pl 31, ld 32 (i6 P[j + 1]), nu 35 j, pl 36, ld 37 (i6 P[j]), yes 38], 1000, .inr (.inl ⟨hb.symm, rfl, rfl⟩), ?_⟩
            refine Eq.mp (by kernel_rfl : (decide ((↑(j + (1 : Nat)) : Int) < (↑(List.length P) : Int)) = true ∧
                  ((0 : Int) ≤ (↑(j + (1 : Nat)) : Int) ∧ (↑(j + (1 : Nat)) : Int) < (↑(List.length P) : Int)) ∧
                    headF (List.drop ((j + (1 : Nat)) * (1 : Nat)) (ints P)) = some (i6 P[j + (1 : Nat)]) ∧
                      decide (P[j + (1 : Nat)] < (0 : Int)) = false ∧
                        ((0 : Int) ≤ (↑(j + (1 : Nat)) : Int) ∧ (↑(j + (1 : Nat)) : Int) < (↑(List.length P) : Int)) ∧
                          headF (List.drop ((j + (1 : Nat)) * (1 : Nat)) (ints P)) = some (i6 P[j + (1 : Nat)]) ∧
                            decide (P[j + (1 : Nat)] ≥ n) = false ∧
                              decide ((↑(j + (1 : Nat)) : Int) > (0 : Int)) = true ∧
                                ((0 : Int) ≤ (↑(j + (1 : Nat)) : Int) ∧ (↑(j + (1 : Nat)) : Int) < (↑(List.length P) : Int)) ∧
                                  headF (List.drop ((j + (1 : Nat)) * (1 : Nat)) (ints P)) = some (i6 P[j + (1 : Nat)]) ∧
                                    wr IntKind.i64 ((↑(j + (1 : Nat)) : Int) - (1 : Int)) = (↑j : Int) ∧
                                      ((0 : Int) ≤ (↑j : Int) ∧ (↑j : Int) < (↑(List.length P) : Int)) ∧
                                        headF (List.drop (j * (1 : Nat)) (ints P)) = some (i6 P[j]) ∧
                                          decide (P[j + (1 : Nat)] ≤ P[j]) = true ∧ (false = false ∧ True) ∧ True) = _) ?_
            (repeat' (first | (with_reducible apply And.intro) | (refine fun (_ : True) => ?_))) <;> first | with_reducible (first | rfl | exact trivial | assumption | (refine decide_eq_true ?_ <;> omega) | (refine decide_eq_false ?_ <;> omega) | (refine head_ints1 ?_ <;> omega) | (refine bne_false ?_ <;> omega) | (refine bne_true ?_ <;> omega) | (refine beq_false' ?_ <;> omega) | (refine beq_true' ?_ <;> omega) | (refine wr6' ?_ ?_ ?_ <;> omega) | (refine rem6 ?_ <;> omega) | (refine quo6 ?_ ?_ ?_ <;> omega) | exact HfL_ints _ | omega) | ((with_reducible show (_ : V) = _); rfl) | (intro hk_; exfalso; revert hk_; simp; done) | (intros; simp_all; done) | (split <;> omega) | ((with_reducible show decide _ = true); exact decide_eq_true (by omega)) | ((with_reducible show decide _ = false); exact decide_eq_false (by omega)) | skip
          · rw [if_neg (by omega)] at hb
            refine .inl ⟨j + 1 + 1, [], [yes 9, pl 14, ld 15 (i6 P[j + 1]), no 16, pl 20, ld 21 (i6 P[j + 1]), no 23, yes 27, pl 31, ld 32 (i6 P[j + 1]), nu 35 j, pl 36, ld 37 (i6 P[j]), no 38, nu 11 (j + 1 + 1 : Nat)], 1000, ⟨hlt, by rw [hnext]; omega, by rw [hnext]; exact hb⟩, by omega, ?_⟩
            refine Eq.mp (by kernel_rfl : (decide ((↑(j + (1 : Nat)) : Int) < (↑(List.length P) : Int)) = true ∧
                  ((0 : Int) ≤ (↑(j + (1 : Nat)) : Int) ∧ (↑(j + (1 : Nat)) : Int) < (↑(List.length P) : Int)) ∧
                    headF (List.drop ((j + (1 : Nat)) * (1 : Nat)) (ints P)) = some (i6 P[j + (1 : Nat)]) ∧
                      decide (P[j + (1 : Nat)] < (0 : Int)) = false ∧
                        ((0 : Int) ≤ (↑(j + (1 : Nat)) : Int) ∧ (↑(j + (1 : Nat)) : Int) < (↑(List.length P) : Int)) ∧
                          headF (List.drop ((j + (1 : Nat)) * (1 : Nat)) (ints P)) = some (i6 P[j + (1 : Nat)]) ∧
                            decide (P[j + (1 : Nat)] ≥ n) = false ∧
                              decide ((↑(j + (1 : Nat)) : Int) > (0 : Int)) = true ∧
                                ((0 : Int) ≤ (↑(j + (1 : Nat)) : Int) ∧ (↑(j + (1 : Nat)) : Int) < (↑(List.length P) : Int)) ∧
                                  headF (List.drop ((j + (1 : Nat)) * (1 : Nat)) (ints P)) = some (i6 P[j + (1 : Nat)]) ∧
                                    wr IntKind.i64 ((↑(j + (1 : Nat)) : Int) - (1 : Int)) = (↑j : Int) ∧
                                      ((0 : Int) ≤ (↑j : Int) ∧ (↑j : Int) < (↑(List.length P) : Int)) ∧
                                        headF (List.drop (j * (1 : Nat)) (ints P)) = some (i6 P[j]) ∧
                                          decide (P[j + (1 : Nat)] ≤ P[j]) = false ∧
                                            wr IntKind.i64 ((↑(j + (1 : Nat)) : Int) + (1 : Int)) =
                                                (↑(j + (1 : Nat) + (1 : Nat)) : Int) ∧
                                              ((List.length P = List.length P ∧ ints P = ints P) ∧
                                                  n = n ∧
                                                    (↑(j + (1 : Nat) + (1 : Nat)) : Int) = (↑(j + (1 : Nat) + (1 : Nat)) : Int) ∧
                                                      True) ∧
                                                True) = _) ?_
            (repeat' (first | (with_reducible apply And.intro) | (refine fun (_ : True) => ?_))) <;> first | with_reducible (first | rfl | exact trivial | assumption | (refine decide_eq_true ?_ <;> omega) | (refine decide_eq_false ?_ <;> omega) | (refine head_ints1 ?_ <;> omega) | (refine bne_false ?_ <;> omega) | (refine bne_true ?_ <;> omega) | (refine beq_false' ?_ <;> omega) | (refine beq_true' ?_ <;> omega) | (refine wr6' ?_ ?_ ?_ <;> omega) | (refine rem6 ?_ <;> omega) | (refine quo6 ?_ ?_ ?_ <;> omega) | exact HfL_ints _ | omega) | ((with_reducible show (_ : V) = _); rfl) | (intro hk_; exfalso; revert hk_; simp; done) | (intros; simp_all; done) | (split <;> omega) | ((with_reducible show decide _ = true); exact decide_eq_true (by omega)) | ((with_reducible show decide _ = false); exact decide_eq_false (by omega)) | skip
  · refine .inr ⟨.exit 0, [], rtE, [no 9], 1000, .inl ⟨?_, rfl, rfl⟩, ?_⟩
    · rw [← hb, List.drop_of_length_le (by omega)]; rfl
    refine Eq.mp (by kernel_rfl : (decide ((↑k : Int) < (↑(List.length P) : Int)) = false ∧ True ∧ True) = _) ?_
    (repeat' (first | (with_reducible apply And.intro) | (refine fun (_ : True) => ?_))) <;> first | with_reducible (first | rfl | exact trivial | assumption | (refine decide_eq_true ?_ <;> omega) | (refine decide_eq_false ?_ <;> omega) | (refine head_ints1 ?_ <;> omega) | (refine bne_false ?_ <;> omega) | (refine bne_true ?_ <;> omega) | (refine beq_false' ?_ <;> omega) | (refine beq_true' ?_ <;> omega) | (refine wr6' ?_ ?_ ?_ <;> omega) | (refine rem6 ?_ <;> omega) | (refine quo6 ?_ ?_ ?_ <;> omega) | exact HfL_ints _ | omega) | ((with_reducible show (_ : V) = _); rfl) | (intro hk_; exfalso; revert hk_; simp; done) | (intros; simp_all; done) | (split <;> omega) | ((with_reducible show decide _ = true); exact decide_eq_true (by omega)) | ((with_reducible show decide _ = false); exact decide_eq_false (by omega)) | skip

theorem placesR_ok (P : List Int) (n : Int) (hl : P.length ≤ 4611686018427387904) : FnOk Pg .e 20 [sl P, i6 n] (.bool (incr n (-1) P)) := by
  have hlp := places_loop P n (incr n (-1) P) hl 0 ⟨Nat.zero_le _, by simp [lastP], rfl⟩
  refine FnOk.of_vc vE_ok mixed sp0_ok (n := 1000) (r := []) (S := boE 4 (incr n (-1) P)) (hs := [(0, .loop [] (plS P n 0) [(incr n (-1) P = true, .exit 0, rtE), (incr n (-1) P = false, .ret, boE 4 false)])]) ?_
  refine Eq.mp (by kernel_rfl : (V.bool (incr n (-1 : Int) P) = V.bool (incr n (-1 : Int) P) ∧
        (((List.length P = List.length P ∧ ints P = ints P) ∧ n = n ∧ (↑(0 : Nat) : Int) = (0 : Int) ∧ True) ∧ True) ∧
          Sat Try.prog none (0 : Nat) (at' (20 : Nat) [(1 : Nat), (0 : Nat), (1 : Nat), (0 : Nat)])
              (mkSt T.e (41 : Nat) (plS P n (0 : Nat)))
              (outsP T.e (41 : Nat)
                [(incr n (-1 : Int) P = true, Ex.exit (0 : Nat), rtE),
                  (incr n (-1 : Int) P = false, Ex.ret, boE (4 : Nat) false)]) ∧
            (incr n (-1 : Int) P = true → (incr n (-1 : Int) P = true ∧ True) ∧ True) ∧
              (incr n (-1 : Int) P = false → (incr n (-1 : Int) P = false ∧ True) ∧ True) ∧ True) = _) ?_
  refine ⟨rfl, ⟨⟨⟨rfl, rfl⟩, rfl, rfl, trivial⟩, trivial⟩, hlp, fun h => ⟨⟨h, trivial⟩, trivial⟩, fun h => ⟨⟨h, trivial⟩, trivial⟩, trivial⟩

/-! ### plain: parts -/

theorem good_mk {l : List Int} (hc : ∀ c ∈ l, 1 ≤ c ∧ c ≤ 8) (hl : l.length ≤ 12) (hp : prodL l ≤ 4096) : Good l := by
  have key : ∀ (l : List Int) (s : Int), (∀ c ∈ l, 1 ≤ c ∧ c ≤ 8) → 1 ≤ s → s * prodL l ≤ 4096 → Go.Proofs.Ytmnaidemihcfaaa.cnt s l = some (s * prodL l) := by
    intro l
    induction l with
    | nil => intro s _ _ _; simp [Go.Proofs.Ytmnaidemihcfaaa.cnt, prodL]
    | cons c cs ih =>
      intro s hc hs hb
      have h1 := hc c List.mem_cons_self
      have hcs : ∀ x ∈ cs, 1 ≤ x ∧ x ≤ 8 := fun x hx => hc x (List.mem_cons_of_mem _ hx)
      have hpp := prodL_pos cs fun x hx => (hcs x hx).1
      simp only [prodL] at hb ⊢
      rw [← Int.mul_assoc] at hb ⊢
      have h2 : s * 1 ≤ s * c := Int.mul_le_mul_of_nonneg_left h1.1 (by omega)
      have h3 : s * c * 1 ≤ s * c * prodL cs := Int.mul_le_mul_of_nonneg_left hpp (by omega)
      unfold Go.Proofs.Ytmnaidemihcfaaa.cnt
      rw [if_neg (by omega)]
      exact ih (s * c) hcs (by omega) hb
  have : count l = some (prodL l) := by
    unfold count
    rw [if_neg (by omega), key l 1 hc (by omega) (by omega), Int.one_mul]
  exact (good_of this).1

theorem incr_inL {L P : List Int} (h : incr L.length (-1) P = true) : InL L P := fun p hp => by
  have := incr_mem h p hp
  omega
theorem atL_prod (L P : List Int) : prodL (atL L P) = prodAt L P := rfl
theorem at_good {L P : List Int} (hg : Good L) (h : incr L.length (-1) P = true) : Good (atL L P) := by
  have hin := incr_inL h
  refine good_mk (fun c hc => ?_) ?_ ?_
  · obtain ⟨p, hp, rfl⟩ := List.mem_map.1 hc
    have := hin p hp
    unfold atE
    rw [List.getD_eq_getElem?_getD, List.getElem?_eq_getElem (by omega)]
    exact hg.card _ (List.getElem_mem _)
  · simp only [atL, List.length_map]
    have := incr_le h
    have := hg.len
    omega
  · have hz := ppG_zero h
    have hpos := ppG_pos L P 0 (fun c hc => (hg.card c hc).1)
    have hc := hits_count hg (ps := P) (j := 0) (Int.le_refl _) (by omega)
    have h1 := hg.le
    have h2 := hg.pos
    rw [atL_prod, ← hz]
    have h3 : (1 : Int) ≤ (hits L P 0).length := by
      by_cases h0 : (hits L P 0).length = 0
      · rw [h0] at hc; simp at hc; omega
      · omega
    have h4 : 1 * ppG 0 L P ≤ ((hits L P 0).length : Int) * ppG 0 L P := Int.mul_le_mul_of_nonneg_right h3 (by omega)
    omega
theorem at_fit {L M P : List Int} (hf : fitB L M = true) (hl : L.length = M.length) (hin : InL L P) : fitB (atL L P) (atL M P) = true := by
  induction P with
  | nil => rfl
  | cons p P ih =>
    have hp := hin p List.mem_cons_self
    have h1 : p.toNat < L.length := by omega
    have h2 : p.toNat < M.length := by omega
    have := fitB_at hf h1 h2
    simp only [atL, List.map_cons, fitB, atE]
    rw [List.getD_eq_getElem?_getD, List.getD_eq_getElem?_getD, List.getElem?_eq_getElem h1, List.getElem?_eq_getElem h2]
    simp only [Option.getD_some, Bool.and_eq_true, decide_eq_true_eq]
    exact ⟨this, ih fun q hq => hin q (List.mem_cons_of_mem _ hq)⟩
theorem valL_fit {L : List Int} (hg : Good L) {i : Int} (h0 : 0 ≤ i) (h1 : i < prodL L) : fitB L (valL L i) = true := by
  have key : ∀ (L M : List Int), L.length = M.length → (∀ k (h : k < L.length) (h' : k < M.length), 0 ≤ M[k] ∧ M[k] < L[k]) → fitB L M = true := by
    intro L
    induction L with
    | nil => intro M _ _; simp [fitB]
    | cons c cs ih =>
      intro M hl hb
      cases M with
      | nil => simp [fitB]
      | cons v vs =>
        have h0 := hb 0 (by simp) (by simp)
        simp only [fitB, Bool.and_eq_true, decide_eq_true_eq]
        exact ⟨h0, ih vs (by simpa using hl) fun k h h' => by
          have := hb (k + 1) (by simpa using h) (by simpa using h')
          simpa using this⟩
  refine key L _ (valL_length _ _).symm fun k h h' => ?_
  exact valsG_bd hg h0 h1 h

/-- the program's part is the reference's -/
theorem partG_idx : ∀ (cs vs ps : List Int) (k : Nat) (n : Int), cs.length = vs.length → incr (k + cs.length) (k - 1) ps = true →
    partG k cs vs ps n = n * prodL (ps.map fun p => cs.getD (p.toNat - k) 0) + idxR (ps.map fun p => cs.getD (p.toNat - k) 0) (ps.map fun p => vs.getD (p.toNat - k) 0)
  | [], [], ps, k, n, _, h => by
    cases ps with
    | nil => simp [partG, prodL, idxR]
    | cons p ps =>
      rw [incr_cons] at h
      simp at h; omega
  | c :: cs, v :: vs, [], k, n, _, _ => by simp [partG, prodL, idxR]
  | c :: cs, v :: vs, p :: ps, k, n, hl, h => by
    rw [incr_cons] at h
    obtain ⟨h1, h2, h3⟩ := h
    have hlen : cs.length = vs.length := by simpa using hl
    have tail : ∀ {q : Int} {qs : List Int}, k < q + 1 → incr (k + (c :: cs).length) q qs = true → (∀ x ∈ qs, (k : Int) < x) := fun hq hi x hx => by
      have := (incr_mem hi x hx).1; omega
    have shift : ∀ (l ws : List Int) (w : Int), (∀ x ∈ l, (k : Int) < x) → (l.map fun p => (w :: ws).getD (p.toNat - k) 0) = l.map fun p => ws.getD (p.toNat - (k + 1)) 0 := by
      intro l ws w hx
      refine List.map_congr_left fun x hm => ?_
      have := hx x hm
      have e : x.toNat - k = (x.toNat - (k + 1)) + 1 := by omega
      rw [e, List.getD_cons_succ]
    unfold partG
    by_cases hpk : p = k
    · rw [if_pos hpk]
      have hps : ∀ x ∈ ps, (k : Int) < x := tail (by omega) h3
      have hin : incr ((k + 1 : Nat) + cs.length) (((k + 1 : Nat) : Int) - 1) ps = true := by
        have e1 : (((k + 1 : Nat) : Int) - 1) = p := by omega
        rw [e1]
        have e2 : (((k + 1 : Nat) : Int) + cs.length) = (k : Int) + ((c :: cs).length : Nat) := by simp; omega
        rw [e2]; exact h3
      rw [partG_idx cs vs ps (k + 1) _ hlen hin]
      simp only [List.map_cons, prodL, idxR]
      rw [shift ps cs c hps, shift ps vs v hps]
      have e0 : p.toNat - k = 0 := by omega
      rw [e0, List.getD_cons_zero, List.getD_cons_zero, Int.add_mul, Int.mul_assoc]; omega
    · rw [if_neg hpk]
      have hall : ∀ x ∈ p :: ps, (k : Int) < x := fun x hx => by
        rcases List.mem_cons.1 hx with rfl | hx
        · omega
        · have := tail (by omega) h3 x hx; omega
      have hin : incr ((k + 1 : Nat) + cs.length) (((k + 1 : Nat) : Int) - 1) (p :: ps) = true := by
        rw [incr_cons]
        refine ⟨by omega, by simp at h2 ⊢; omega, ?_⟩
        have e2 : (((k + 1 : Nat) : Int) + cs.length) = (k : Int) + ((c :: cs).length : Nat) := by simp; omega
        rw [e2]; exact h3
      rw [partG_idx cs vs (p :: ps) (k + 1) _ hlen hin, shift _ cs c hall, shift _ vs v hall]
  | [], _ :: _, _, _, _, hl, _ => by simp at hl
  | _ :: _, [], _, _, _, hl, _ => by simp at hl

def partR (L P : List Int) (i : Int) : Int := idxR (atL L P) (atL (valL L i) P)
theorem partR_eq {L P : List Int} (h : incr L.length (-1) P = true) (i : Int) : partG 0 L (valL L i) P 0 = partR L P i := by
  have := partG_idx L (valL L i) P 0 0 (valL_length _ _).symm (by simpa using h)
  rw [this, Int.zero_mul, Int.zero_add]
  simp only [Nat.sub_zero]; rfl

/-! ### Part -/

theorem partref_ok (L P : List Int) (i : Int) (hg : Good L) (hin : incr L.length (-1) P = true) (h0 : 0 ≤ i) (h1 : i < prodL L) : FnOk Pg .e 25 [sl L, sl P, i6 i] (i6 (partR L P i)) := by
  have hP := incr_inL hin
  have hlen := hg.len
  have hle := incr_le hin
  have a1 := at_ok L P hP (by omega)
  have a2 := values_fn L i hg h0 h1
  have a3 := at_ok (valL L i) P (fun p hp => by have := hP p hp; rw [valL_length]; exact this) (by omega)
  have a4 : FnOk Pg .e 33 [sl (atL L P), sl (atL (valL L i) P)] (i6 (partR L P i)) := index_fn (atL L P) (atL (valL L i) P) (at_good hg hin) (by simp [atL]) (at_fit (valL_fit hg h0 h1) (valL_length _ _).symm hP)
  refine FnOk.of_vc vE_ok mixed sp0_ok (n := 1000) (r := []) (S := { sl := [(6, i6 (partR L P i))] }) (hs := [fn 9 (sl (atL L P)), fn 12 (sl (valL L i)), fn 14 (sl (atL (valL L i) P)), fn 15 (i6 (partR L P i))]) ?_
  refine Eq.mp (by kernel_rfl : (i6 (partR L P i) = i6 (partR L P i) ∧
        (True ∧ True ∧ True) ∧
          FnOk Try.prog T.e (22 : Nat) [V.im (List.length L) (ints L), V.im (List.length P) (ints P)] (sl (atL L P)) ∧
            True ∧
              (True ∧ True ∧ True) ∧
                FnOk Try.prog T.e (34 : Nat) [V.im (List.length L) (ints L), V.int IntKind.i64 i] (sl (valL L i)) ∧
                  ((V.fn (22 : Nat) [] = V.fn (34 : Nat) [] →
                        [sl L, sl P] = [sl L, i6 i] →
                          (T.e : T O) = T.e →
                            (0 : Nat) = (0 : Nat) →
                              CR.mk (sl (atL L P)) T.e (0 : Nat) [] = CR.mk (sl (valL L i)) T.e (0 : Nat) []) ∧
                      True) ∧
                    (True ∧ True ∧ True) ∧
                      FnOk Try.prog T.e (22 : Nat)
                          [V.im (List.length (valL L i)) (ints (valL L i)), V.im (List.length P) (ints P)]
                          (sl (atL (valL L i) P)) ∧
                        ((V.fn (34 : Nat) [] = V.fn (22 : Nat) [] →
                              [sl L, i6 i] = [sl (valL L i), sl P] →
                                (T.e : T O) = T.e →
                                  (0 : Nat) = (0 : Nat) →
                                    CR.mk (sl (valL L i)) T.e (0 : Nat) [] = CR.mk (sl (atL (valL L i) P)) T.e (0 : Nat) []) ∧
                            (V.fn (22 : Nat) [] = V.fn (22 : Nat) [] →
                                [sl L, sl P] = [sl (valL L i), sl P] →
                                  (T.e : T O) = T.e →
                                    (0 : Nat) = (0 : Nat) →
                                      CR.mk (sl (atL L P)) T.e (0 : Nat) [] =
                                        CR.mk (sl (atL (valL L i) P)) T.e (0 : Nat) []) ∧
                              True) ∧
                          (True ∧ True ∧ True) ∧
                            FnOk Try.prog T.e (33 : Nat)
                                [V.im (List.length (atL L P)) (ints (atL L P)),
                                  V.im (List.length (atL (valL L i) P)) (ints (atL (valL L i) P))]
                                (i6 (partR L P i)) ∧
                              ((V.fn (22 : Nat) [] = V.fn (33 : Nat) [] →
                                    [sl (valL L i), sl P] = [sl (atL L P), sl (atL (valL L i) P)] →
                                      (T.e : T O) = T.e →
                                        (0 : Nat) = (0 : Nat) →
                                          CR.mk (sl (atL (valL L i) P)) T.e (0 : Nat) [] =
                                            CR.mk (i6 (partR L P i)) T.e (0 : Nat) []) ∧
                                  (V.fn (34 : Nat) [] = V.fn (33 : Nat) [] →
                                      [sl L, i6 i] = [sl (atL L P), sl (atL (valL L i) P)] →
                                        (T.e : T O) = T.e →
                                          (0 : Nat) = (0 : Nat) →
                                            CR.mk (sl (valL L i)) T.e (0 : Nat) [] =
                                              CR.mk (i6 (partR L P i)) T.e (0 : Nat) []) ∧
                                    (V.fn (22 : Nat) [] = V.fn (33 : Nat) [] →
                                        [sl L, sl P] = [sl (atL L P), sl (atL (valL L i) P)] →
                                          (T.e : T O) = T.e →
                                            (0 : Nat) = (0 : Nat) →
                                              CR.mk (sl (atL L P)) T.e (0 : Nat) [] =
                                                CR.mk (i6 (partR L P i)) T.e (0 : Nat) []) ∧
                                      True) ∧
                                (partR L P i = partR L P i ∧ True) ∧ True) = _) ?_
  (repeat' (first | (with_reducible apply And.intro) | (refine fun (_ : True) => ?_))) <;> first | with_reducible (first | rfl | exact trivial | assumption | (refine decide_eq_true ?_ <;> omega) | (refine decide_eq_false ?_ <;> omega) | (refine head_ints1 ?_ <;> omega) | (refine bne_false ?_ <;> omega) | (refine bne_true ?_ <;> omega) | (refine beq_false' ?_ <;> omega) | (refine beq_true' ?_ <;> omega) | (refine wr6' ?_ ?_ ?_ <;> omega) | (refine rem6 ?_ <;> omega) | (refine quo6 ?_ ?_ ?_ <;> omega) | exact HfL_ints _ | omega) | ((with_reducible show (_ : V) = _); rfl) | (intro hk_; exfalso; revert hk_; simp; done) | (intros; simp_all; done) | (split <;> omega) | ((with_reducible show decide _ = true); exact decide_eq_true (by omega)) | ((with_reducible show decide _ = false); exact decide_eq_false (by omega)) | skip
  intro _ h _ _
  rw [← sl_inj (List.cons.inj h).1]

end Go.Proofs.Ytmnaidemihcfaaa.Am
