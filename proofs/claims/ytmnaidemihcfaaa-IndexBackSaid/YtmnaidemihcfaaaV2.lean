/- The reference of chapter 02: what its functions answer, the first part. -/
import Derived.Test.YtmnaidemihcfaaaV1
namespace Go.Proofs.Ytmnaidemihcfaaa.Am
open Go.RowKit
set_option linter.unusedVariables false
set_option maxHeartbeats 1000000
set_option maxRecDepth 100000

/-! ### Right -/

def rtS (L : List Int) (k : Nat) (t : Int) : SL := { sl := [(0, sl L), (3, i6 t), (4, i6 k)] }
def rtE : SL := { sl := [] }
def boE (d : Nat) (b : Bool) : SL := { sl := [(d, .bool b)] }
abbrev RtI (L : List Int) (b : Bool) (p : Nat × Int) : Prop := p.1 ≤ L.length ∧ 1 ≤ p.2 ∧ p.2 ≤ 4096 ∧ (Go.Proofs.Ytmnaidemihcfaaa.cnt p.2 (L.drop p.1)).isSome = b

theorem right_loop (L : List Int) (b : Bool) (hl : L.length ≤ 12) (p : Nat × Int) (hp : RtI L b p) :
    Sat Pg none 0 (at' 67 [1, 1, 1, 0, 1, 0]) (mkSt .e 34 (rtS L p.1 p.2)) (outsP .e 34 [(b = true, .exit 0, rtE), (b = false, .ret, boE 2 false)]) := by
  refine loopC vE_ok mixed sp0_ok (b := at' 67 [1, 1, 1, 0, 1, 0, 0]) (by kernel_rfl) (RtI L b) (fun p => rtS L p.1 p.2) (fun p => L.length - p.1) (fun p hp => ?_) p hp
  obtain ⟨k, t⟩ := p
  obtain ⟨hk, h1, h2, hb⟩ := hp
  dsimp only at hk h1 h2 hb
  by_cases hlt : k < L.length
  · rw [cnt_drop t hlt] at hb
    by_cases hc1 : L[k] < 1
    · rw [if_pos (.inl hc1)] at hb
      refine .inr ⟨.ret, [], boE 2 false, [yes 11, pl 16, ld 17 (i6 L[k]), yes 18], 1000, .inr (.inl ⟨hb.symm, rfl, rfl⟩), ?_⟩
      refine Eq.mp (by kernel_rfl : (decide ((↑k : Int) < (↑(List.length L) : Int)) = true ∧
            ((0 : Int) ≤ (↑k : Int) ∧ (↑k : Int) < (↑(List.length L) : Int)) ∧
              headF (List.drop (k * (1 : Nat)) (ints L)) = some (i6 L[k]) ∧
                decide (L[k] < (1 : Int)) = true ∧ (false = false ∧ True) ∧ True) = _) ?_
      (repeat' (first | (with_reducible apply And.intro) | (refine fun (_ : True) => ?_))) <;> first | with_reducible (first | rfl | exact trivial | assumption | (refine decide_eq_true ?_ <;> omega) | (refine decide_eq_false ?_ <;> omega) | (refine head_ints1 ?_ <;> omega) | (refine bne_false ?_ <;> omega) | (refine bne_true ?_ <;> omega) | (refine beq_false' ?_ <;> omega) | (refine beq_true' ?_ <;> omega) | (refine wr6' ?_ ?_ ?_ <;> omega) | (refine rem6 ?_ <;> omega) | (refine quo6 ?_ ?_ ?_ <;> omega) | exact HfL_ints _ | omega) | ((with_reducible show (_ : V) = _); rfl) | (intro hk_; exact absurd hk_ (by simp)) | (intros; simp_all; done) | (split <;> omega) | ((with_reducible show decide _ = true); exact decide_eq_true (by omega)) | ((with_reducible show decide _ = false); exact decide_eq_false (by omega)) | skip
    · by_cases hc2 : 8 < L[k]
      · rw [if_pos (.inr (.inl hc2))] at hb
        refine .inr ⟨.ret, [], boE 2 false, [yes 11, pl 16, ld 17 (i6 L[k]), no 18, pl 22, ld 23 (i6 L[k]), yes 24], 1000, .inr (.inl ⟨hb.symm, rfl, rfl⟩), ?_⟩
        refine Eq.mp (by kernel_rfl : (decide ((↑k : Int) < (↑(List.length L) : Int)) = true ∧
              ((0 : Int) ≤ (↑k : Int) ∧ (↑k : Int) < (↑(List.length L) : Int)) ∧
                headF (List.drop (k * (1 : Nat)) (ints L)) = some (i6 L[k]) ∧
                  decide (L[k] < (1 : Int)) = false ∧
                    ((0 : Int) ≤ (↑k : Int) ∧ (↑k : Int) < (↑(List.length L) : Int)) ∧
                      headF (List.drop (k * (1 : Nat)) (ints L)) = some (i6 L[k]) ∧
                        decide (L[k] > (8 : Int)) = true ∧ (false = false ∧ True) ∧ True) = _) ?_
        (repeat' (first | (with_reducible apply And.intro) | (refine fun (_ : True) => ?_))) <;> first | with_reducible (first | rfl | exact trivial | assumption | (refine decide_eq_true ?_ <;> omega) | (refine decide_eq_false ?_ <;> omega) | (refine head_ints1 ?_ <;> omega) | (refine bne_false ?_ <;> omega) | (refine bne_true ?_ <;> omega) | (refine beq_false' ?_ <;> omega) | (refine beq_true' ?_ <;> omega) | (refine wr6' ?_ ?_ ?_ <;> omega) | (refine rem6 ?_ <;> omega) | (refine quo6 ?_ ?_ ?_ <;> omega) | exact HfL_ints _ | omega) | ((with_reducible show (_ : V) = _); rfl) | (intro hk_; exact absurd hk_ (by simp)) | (intros; simp_all; done) | (split <;> omega) | ((with_reducible show decide _ = true); exact decide_eq_true (by omega)) | ((with_reducible show decide _ = false); exact decide_eq_false (by omega)) | skip
      · obtain ⟨m1, m2⟩ := mul_bd h1 h2 (by omega) (show L[k] ≤ 8 by omega)
        by_cases hc3 : 4096 < t * L[k]
        · rw [if_pos (.inr (.inr hc3))] at hb
          refine .inr ⟨.ret, [], boE 2 false, [yes 11, pl 16, ld 17 (i6 L[k]), no 18, pl 22, ld 23 (i6 L[k]), no 24, pl 29, ld 30 (i6 L[k]), nu 31 (t * L[k]), yes 33], 1000, .inr (.inl ⟨hb.symm, rfl, rfl⟩), ?_⟩
          refine Eq.mp (by kernel_rfl : (decide ((↑k : Int) < (↑(List.length L) : Int)) = true ∧
                ((0 : Int) ≤ (↑k : Int) ∧ (↑k : Int) < (↑(List.length L) : Int)) ∧
                  headF (List.drop (k * (1 : Nat)) (ints L)) = some (i6 L[k]) ∧
                    decide (L[k] < (1 : Int)) = false ∧
                      ((0 : Int) ≤ (↑k : Int) ∧ (↑k : Int) < (↑(List.length L) : Int)) ∧
                        headF (List.drop (k * (1 : Nat)) (ints L)) = some (i6 L[k]) ∧
                          decide (L[k] > (8 : Int)) = false ∧
                            ((0 : Int) ≤ (↑k : Int) ∧ (↑k : Int) < (↑(List.length L) : Int)) ∧
                              headF (List.drop (k * (1 : Nat)) (ints L)) = some (i6 L[k]) ∧
                                wr IntKind.i64 (t * L[k]) = t * L[k] ∧
                                  decide (t * L[k] > (4096 : Int)) = true ∧ (false = false ∧ True) ∧ True) = _) ?_
          (repeat' (first | (with_reducible apply And.intro) | (refine fun (_ : True) => ?_))) <;> first | with_reducible (first | rfl | exact trivial | assumption | (refine decide_eq_true ?_ <;> omega) | (refine decide_eq_false ?_ <;> omega) | (refine head_ints1 ?_ <;> omega) | (refine bne_false ?_ <;> omega) | (refine bne_true ?_ <;> omega) | (refine beq_false' ?_ <;> omega) | (refine beq_true' ?_ <;> omega) | (refine wr6' ?_ ?_ ?_ <;> omega) | (refine rem6 ?_ <;> omega) | (refine quo6 ?_ ?_ ?_ <;> omega) | exact HfL_ints _ | omega) | ((with_reducible show (_ : V) = _); rfl) | (intro hk_; exact absurd hk_ (by simp)) | (intros; simp_all; done) | (split <;> omega) | ((with_reducible show decide _ = true); exact decide_eq_true (by omega)) | ((with_reducible show decide _ = false); exact decide_eq_false (by omega)) | skip
        · rw [if_neg (by omega)] at hb
          refine .inl ⟨(k + 1, t * L[k]), [], [yes 11, pl 16, ld 17 (i6 L[k]), no 18, pl 22, ld 23 (i6 L[k]), no 24, pl 29, ld 30 (i6 L[k]), nu 31 (t * L[k]), no 33, nu 13 (k + 1 : Nat)], 1000, ⟨hlt, by dsimp only; omega, by dsimp only; omega, hb⟩, by dsimp only; omega, ?_⟩
          refine Eq.mp (by kernel_rfl : (decide ((↑k : Int) < (↑(List.length L) : Int)) = true ∧
                ((0 : Int) ≤ (↑k : Int) ∧ (↑k : Int) < (↑(List.length L) : Int)) ∧
                  headF (List.drop (k * (1 : Nat)) (ints L)) = some (i6 L[k]) ∧
                    decide (L[k] < (1 : Int)) = false ∧
                      ((0 : Int) ≤ (↑k : Int) ∧ (↑k : Int) < (↑(List.length L) : Int)) ∧
                        headF (List.drop (k * (1 : Nat)) (ints L)) = some (i6 L[k]) ∧
                          decide (L[k] > (8 : Int)) = false ∧
                            ((0 : Int) ≤ (↑k : Int) ∧ (↑k : Int) < (↑(List.length L) : Int)) ∧
                              headF (List.drop (k * (1 : Nat)) (ints L)) = some (i6 L[k]) ∧
                                wr IntKind.i64 (t * L[k]) = t * L[k] ∧
                                  decide (t * L[k] > (4096 : Int)) = false ∧
                                    wr IntKind.i64 ((↑k : Int) + (1 : Int)) = (↑(k + (1 : Nat)) : Int) ∧
                                      ((List.length L = List.length L ∧ ints L = ints L) ∧
                                          t * L[k] = t * L[k] ∧ (↑(k + (1 : Nat)) : Int) = (↑(k + (1 : Nat)) : Int) ∧ True) ∧
                                        True) = _) ?_
          (repeat' (first | (with_reducible apply And.intro) | (refine fun (_ : True) => ?_))) <;> first | with_reducible (first | rfl | exact trivial | assumption | (refine decide_eq_true ?_ <;> omega) | (refine decide_eq_false ?_ <;> omega) | (refine head_ints1 ?_ <;> omega) | (refine bne_false ?_ <;> omega) | (refine bne_true ?_ <;> omega) | (refine beq_false' ?_ <;> omega) | (refine beq_true' ?_ <;> omega) | (refine wr6' ?_ ?_ ?_ <;> omega) | (refine rem6 ?_ <;> omega) | (refine quo6 ?_ ?_ ?_ <;> omega) | exact HfL_ints _ | omega) | ((with_reducible show (_ : V) = _); rfl) | (intro hk_; exact absurd hk_ (by simp)) | (intros; simp_all; done) | (split <;> omega) | ((with_reducible show decide _ = true); exact decide_eq_true (by omega)) | ((with_reducible show decide _ = false); exact decide_eq_false (by omega)) | skip
  · have : k = L.length := by omega
    subst this
    rw [List.drop_length] at hb
    refine .inr ⟨.exit 0, [], rtE, [no 11], 1000, .inl ⟨hb.symm, rfl, rfl⟩, ?_⟩
    refine Eq.mp (by kernel_rfl : (decide ((↑(List.length L) : Int) < (↑(List.length L) : Int)) = false ∧ True ∧ True) = _) ?_
    (repeat' (first | (with_reducible apply And.intro) | (refine fun (_ : True) => ?_))) <;> first | with_reducible (first | rfl | exact trivial | assumption | (refine decide_eq_true ?_ <;> omega) | (refine decide_eq_false ?_ <;> omega) | (refine head_ints1 ?_ <;> omega) | (refine bne_false ?_ <;> omega) | (refine bne_true ?_ <;> omega) | (refine beq_false' ?_ <;> omega) | (refine beq_true' ?_ <;> omega) | (refine wr6' ?_ ?_ ?_ <;> omega) | (refine rem6 ?_ <;> omega) | (refine quo6 ?_ ?_ ?_ <;> omega) | exact HfL_ints _ | omega) | ((with_reducible show (_ : V) = _); rfl) | (intro hk_; exact absurd hk_ (by simp)) | (intros; simp_all; done) | (split <;> omega) | ((with_reducible show decide _ = true); exact decide_eq_true (by omega)) | ((with_reducible show decide _ = false); exact decide_eq_false (by omega)) | skip

theorem right_ok (L : List Int) : FnOk Pg .e 67 [sl L] (.bool (count L).isSome) := by
  by_cases hl : 12 < L.length
  · have : (count L).isSome = false := by unfold count; rw [if_pos hl]; rfl
    rw [this]
    refine FnOk.of_vc vE_ok mixed sp0_ok (n := 1000) (r := []) (S := boE 2 false) (hs := [yes 7]) ?_
    refine Eq.mp (by kernel_rfl : (V.bool false = V.bool false ∧ decide ((↑(List.length L) : Int) > (12 : Int)) = true ∧ (false = false ∧ True) ∧ True) = _) ?_
    (repeat' (first | (with_reducible apply And.intro) | (refine fun (_ : True) => ?_))) <;> first | with_reducible (first | rfl | exact trivial | assumption | (refine decide_eq_true ?_ <;> omega) | (refine decide_eq_false ?_ <;> omega) | (refine head_ints1 ?_ <;> omega) | (refine bne_false ?_ <;> omega) | (refine bne_true ?_ <;> omega) | (refine beq_false' ?_ <;> omega) | (refine beq_true' ?_ <;> omega) | (refine wr6' ?_ ?_ ?_ <;> omega) | (refine rem6 ?_ <;> omega) | (refine quo6 ?_ ?_ ?_ <;> omega) | exact HfL_ints _ | omega) | ((with_reducible show (_ : V) = _); rfl) | (intro hk_; exact absurd hk_ (by simp)) | (intros; simp_all; done) | (split <;> omega) | ((with_reducible show decide _ = true); exact decide_eq_true (by omega)) | ((with_reducible show decide _ = false); exact decide_eq_false (by omega)) | skip
  · have he : (count L).isSome = (Go.Proofs.Ytmnaidemihcfaaa.cnt 1 L).isSome := by unfold count; rw [if_neg hl]
    rw [he]
    refine FnOk.of_vc vE_ok mixed sp0_ok (n := 1000) (r := []) (S := boE 2 (Go.Proofs.Ytmnaidemihcfaaa.cnt 1 L).isSome) (hs := [no 7, (0, .loop [] (rtS L 0 1) [((Go.Proofs.Ytmnaidemihcfaaa.cnt 1 L).isSome = true, .exit 0, rtE), ((Go.Proofs.Ytmnaidemihcfaaa.cnt 1 L).isSome = false, .ret, boE 2 false)])]) ?_
    refine Eq.mp (by kernel_rfl : (V.bool (Option.isSome (Ytmnaidemihcfaaa.cnt (1 : Int) L)) = V.bool (Option.isSome (Ytmnaidemihcfaaa.cnt (1 : Int) L)) ∧
          decide ((↑(List.length L) : Int) > (12 : Int)) = false ∧
            (((List.length L = List.length L ∧ ints L = ints L) ∧
                  (1 : Int) = (1 : Int) ∧ (↑(0 : Nat) : Int) = (0 : Int) ∧ True) ∧
                True) ∧
              Sat Try.prog none (0 : Nat) (at' (67 : Nat) [(1 : Nat), (1 : Nat), (1 : Nat), (0 : Nat), (1 : Nat), (0 : Nat)])
                  (mkSt T.e (34 : Nat) (rtS L (0 : Nat) (1 : Int)))
                  (outsP T.e (34 : Nat)
                    [(Option.isSome (Ytmnaidemihcfaaa.cnt (1 : Int) L) = true, Ex.exit (0 : Nat), rtE),
                      (Option.isSome (Ytmnaidemihcfaaa.cnt (1 : Int) L) = false, Ex.ret, boE (2 : Nat) false)]) ∧
                (Option.isSome (Ytmnaidemihcfaaa.cnt (1 : Int) L) = true →
                    (Option.isSome (Ytmnaidemihcfaaa.cnt (1 : Int) L) = true ∧ True) ∧ True) ∧
                  (Option.isSome (Ytmnaidemihcfaaa.cnt (1 : Int) L) = false →
                      (Option.isSome (Ytmnaidemihcfaaa.cnt (1 : Int) L) = false ∧ True) ∧ True) ∧
                    True) = _) ?_
    refine ⟨rfl, decide_eq_false (by omega), ⟨⟨⟨rfl, rfl⟩, rfl, rfl, trivial⟩, trivial⟩, right_loop L _ (by omega) (0, 1) ⟨Nat.zero_le _, by dsimp only; omega, by dsimp only; omega, rfl⟩, fun h => ⟨⟨h, trivial⟩, trivial⟩, fun h => ⟨⟨h, trivial⟩, trivial⟩, trivial⟩

/-! ### Size -/

theorem prodL_take {L : List Int} {k : Nat} (h : k < L.length) : prodL (L.take (k + 1)) = prodL (L.take k) * L[k] := by
  rw [List.take_succ_eq_append_getElem h, prodL_append]; simp [prodL]
/-- the products on the way are numbers -/
def Fits (L : List Int) : Prop := ∀ k, k ≤ L.length → 0 ≤ prodL (L.take k) ∧ prodL (L.take k) ≤ 4611686018427387904
def szS (L : List Int) (k : Nat) : SL := { sl := [(0, sl L), (3, i6 (prodL (L.take k))), (4, i6 k)] }
def szE (L : List Int) : SL := { sl := [(3, i6 (prodL L))] }

theorem size_loop (L : List Int) (hL : Fits L) (hl : L.length ≤ 4096) (k : Nat) (hk : k ≤ L.length) :
    Sat Pg none 0 (at' 21 [1, 1, 0, 1, 0]) (mkSt .e 18 (szS L k)) (outsP .e 18 [(True, .exit 0, szE L)]) := by
  refine loopC vE_ok mixed sp0_ok (b := at' 21 [1, 1, 0, 1, 0, 0]) (by kernel_rfl) (fun k => k ≤ L.length) (szS L) (fun k => L.length - k) (fun k hk => ?_) k hk
  by_cases hlt : k < L.length
  · have h1 := hL (k + 1) hlt
    have h2 := prodL_take hlt
    refine .inl ⟨k + 1, [], [yes 8, pl 14, ld 15 (i6 L[k]), nu 16 (prodL (L.take (k + 1))), nu 10 (k + 1 : Nat)], 1000, hlt, by omega, ?_⟩
    refine Eq.mp (by kernel_rfl : (decide ((↑k : Int) < (↑(List.length L) : Int)) = true ∧
          ((0 : Int) ≤ (↑k : Int) ∧ (↑k : Int) < (↑(List.length L) : Int)) ∧
            headF (List.drop (k * (1 : Nat)) (ints L)) = some (i6 L[k]) ∧
              wr IntKind.i64 (prodL (List.take k L) * L[k]) = prodL (List.take (k + (1 : Nat)) L) ∧
                wr IntKind.i64 ((↑k : Int) + (1 : Int)) = (↑(k + (1 : Nat)) : Int) ∧
                  ((List.length L = List.length L ∧ ints L = ints L) ∧
                      prodL (List.take (k + (1 : Nat)) L) = prodL (List.take (k + (1 : Nat)) L) ∧
                        (↑(k + (1 : Nat)) : Int) = (↑(k + (1 : Nat)) : Int) ∧ True) ∧
                    True) = _) ?_
    (repeat' (first | (with_reducible apply And.intro) | (refine fun (_ : True) => ?_))) <;> first | with_reducible (first | rfl | exact trivial | assumption | (refine decide_eq_true ?_ <;> omega) | (refine decide_eq_false ?_ <;> omega) | (refine head_ints1 ?_ <;> omega) | (refine bne_false ?_ <;> omega) | (refine bne_true ?_ <;> omega) | (refine beq_false' ?_ <;> omega) | (refine beq_true' ?_ <;> omega) | (refine wr6' ?_ ?_ ?_ <;> omega) | (refine rem6 ?_ <;> omega) | (refine quo6 ?_ ?_ ?_ <;> omega) | exact HfL_ints _ | omega) | ((with_reducible show (_ : V) = _); rfl) | (intro hk_; exact absurd hk_ (by simp)) | (intros; simp_all; done) | (split <;> omega) | ((with_reducible show decide _ = true); exact decide_eq_true (by omega)) | ((with_reducible show decide _ = false); exact decide_eq_false (by omega)) | skip
  · have : k = L.length := by omega
    subst this
    refine .inr ⟨.exit 0, [], szE L, [no 8], 1000, .inl ⟨trivial, rfl, rfl⟩, ?_⟩
    refine Eq.mp (by kernel_rfl : (decide ((↑(List.length L) : Int) < (↑(List.length L) : Int)) = false ∧
          (prodL L = prodL (List.take (List.length L) L) ∧ True) ∧ True) = _) ?_
    (repeat' (first | (with_reducible apply And.intro) | (refine fun (_ : True) => ?_))) <;> first | with_reducible (first | rfl | exact trivial | assumption | (refine decide_eq_true ?_ <;> omega) | (refine decide_eq_false ?_ <;> omega) | (refine head_ints1 ?_ <;> omega) | (refine bne_false ?_ <;> omega) | (refine bne_true ?_ <;> omega) | (refine beq_false' ?_ <;> omega) | (refine beq_true' ?_ <;> omega) | (refine wr6' ?_ ?_ ?_ <;> omega) | (refine rem6 ?_ <;> omega) | (refine quo6 ?_ ?_ ?_ <;> omega) | exact HfL_ints _ | omega) | ((with_reducible show (_ : V) = _); rfl) | (intro hk_; exact absurd hk_ (by simp)) | (intros; simp_all; done) | (split <;> omega) | ((with_reducible show decide _ = true); exact decide_eq_true (by omega)) | ((with_reducible show decide _ = false); exact decide_eq_false (by omega)) | skip

theorem size_fn (L : List Int) (hL : Fits L) (hl : L.length ≤ 4096) : FnOk Pg .e 21 [sl L] (i6 (prodL L)) := by
  refine FnOk.of_vc vE_ok mixed sp0_ok (n := 1000) (r := []) (S := { sl := [(2, i6 (prodL L))] }) (hs := [lp (szS L 0) (.exit 0) (szE L)]) ?_
  refine Eq.mp (by kernel_rfl : (i6 (prodL L) = i6 (prodL L) ∧
        (((List.length L = List.length L ∧ ints L = ints L) ∧ prodL [] = (1 : Int) ∧ (↑(0 : Nat) : Int) = (0 : Int) ∧ True) ∧
            True) ∧
          Sat Try.prog none (0 : Nat) (at' (21 : Nat) [(1 : Nat), (1 : Nat), (0 : Nat), (1 : Nat), (0 : Nat)])
              (mkSt T.e (18 : Nat) (szS L (0 : Nat))) (outsP T.e (18 : Nat) [(True, Ex.exit (0 : Nat), szE L)]) ∧
            (True → (prodL L = prodL L ∧ True) ∧ True) ∧ True) = _) ?_
  (repeat' (first | (with_reducible apply And.intro) | (refine fun (_ : True) => ?_))) <;> first | with_reducible (first | rfl | exact trivial | assumption | (refine decide_eq_true ?_ <;> omega) | (refine decide_eq_false ?_ <;> omega) | (refine head_ints1 ?_ <;> omega) | (refine bne_false ?_ <;> omega) | (refine bne_true ?_ <;> omega) | (refine beq_false' ?_ <;> omega) | (refine beq_true' ?_ <;> omega) | (refine wr6' ?_ ?_ ?_ <;> omega) | (refine rem6 ?_ <;> omega) | (refine quo6 ?_ ?_ ?_ <;> omega) | exact HfL_ints _ | omega) | ((with_reducible show (_ : V) = _); rfl) | (intro hk_; exact absurd hk_ (by simp)) | (intros; simp_all; done) | (split <;> omega) | ((with_reducible show decide _ = true); exact decide_eq_true (by omega)) | ((with_reducible show decide _ = false); exact decide_eq_false (by omega)) | skip
  · rfl
  · exact size_loop L hL hl 0 (Nat.zero_le _)

/-! ### Same -/

theorem drop_eq_step {L M : List Int} {k : Nat} (h : k < L.length) (h' : k < M.length) : (L.drop k = M.drop k) ↔ (L[k] = M[k] ∧ L.drop (k + 1) = M.drop (k + 1)) := by
  rw [List.drop_eq_getElem_cons h, List.drop_eq_getElem_cons h', List.cons.injEq]
def smS (L M : List Int) (k : Nat) : SL := { sl := [(0, sl L), (1, sl M), (5, i6 k)] }

theorem same_loop (L M : List Int) (b : Bool) (hl : L.length = M.length) (hb4 : L.length ≤ 4611686018427387904) (k : Nat) (hk : k ≤ L.length ∧ decide (L.drop k = M.drop k) = b) :
    Sat Pg none 0 (at' 28 [1, 1, 0, 1, 0]) (mkSt .e 26 (smS L M k)) (outsP .e 26 [(b = true, .exit 0, rtE), (b = false, .ret, boE 4 false)]) := by
  refine loopC vE_ok mixed sp0_ok (b := at' 28 [1, 1, 0, 1, 0, 0]) (by kernel_rfl) (fun k => k ≤ L.length ∧ decide (L.drop k = M.drop k) = b) (smS L M) (fun k => L.length - k) (fun k hk => ?_) k hk
  obtain ⟨hk, hb⟩ := hk
  by_cases hlt : k < L.length
  · have hlt' : k < M.length := by omega
    by_cases he : L[k] = M[k]
    · refine .inl ⟨k + 1, [], [yes 14, pl 19, ld 20 (i6 L[k]), pl 23, ld 24 (i6 M[k]), no 25, nu 16 (k + 1 : Nat)], 1000, ⟨hlt, by rw [← hb]; congr 1; rw [drop_eq_step hlt hlt']; simp [he]⟩, by omega, ?_⟩
      refine Eq.mp (by kernel_rfl : (decide ((↑k : Int) < (↑(List.length L) : Int)) = true ∧
            ((0 : Int) ≤ (↑k : Int) ∧ (↑k : Int) < (↑(List.length L) : Int)) ∧
              headF (List.drop (k * (1 : Nat)) (ints L)) = some (i6 L[k]) ∧
                ((0 : Int) ≤ (↑k : Int) ∧ (↑k : Int) < (↑(List.length M) : Int)) ∧
                  headF (List.drop (k * (1 : Nat)) (ints M)) = some (i6 M[k]) ∧
                    (L[k] != M[k]) = false ∧
                      wr IntKind.i64 ((↑k : Int) + (1 : Int)) = (↑(k + (1 : Nat)) : Int) ∧
                        ((List.length L = List.length L ∧ ints L = ints L) ∧
                            (List.length M = List.length M ∧ ints M = ints M) ∧
                              (↑(k + (1 : Nat)) : Int) = (↑(k + (1 : Nat)) : Int) ∧ True) ∧
                          True) = _) ?_
      (repeat' (first | (with_reducible apply And.intro) | (refine fun (_ : True) => ?_))) <;> first | with_reducible (first | rfl | exact trivial | assumption | (refine decide_eq_true ?_ <;> omega) | (refine decide_eq_false ?_ <;> omega) | (refine head_ints1 ?_ <;> omega) | (refine bne_false ?_ <;> omega) | (refine bne_true ?_ <;> omega) | (refine beq_false' ?_ <;> omega) | (refine beq_true' ?_ <;> omega) | (refine wr6' ?_ ?_ ?_ <;> omega) | (refine rem6 ?_ <;> omega) | (refine quo6 ?_ ?_ ?_ <;> omega) | exact HfL_ints _ | omega) | ((with_reducible show (_ : V) = _); rfl) | (intro hk_; exact absurd hk_ (by simp)) | (intros; simp_all; done) | (split <;> omega) | ((with_reducible show decide _ = true); exact decide_eq_true (by omega)) | ((with_reducible show decide _ = false); exact decide_eq_false (by omega)) | skip
    · have : b = false := by rw [← hb]; simp [drop_eq_step hlt hlt', he]
      refine .inr ⟨.ret, [], boE 4 false, [yes 14, pl 19, ld 20 (i6 L[k]), pl 23, ld 24 (i6 M[k]), yes 25], 1000, .inr (.inl ⟨this, rfl, rfl⟩), ?_⟩
      refine Eq.mp (by kernel_rfl : (decide ((↑k : Int) < (↑(List.length L) : Int)) = true ∧
            ((0 : Int) ≤ (↑k : Int) ∧ (↑k : Int) < (↑(List.length L) : Int)) ∧
              headF (List.drop (k * (1 : Nat)) (ints L)) = some (i6 L[k]) ∧
                ((0 : Int) ≤ (↑k : Int) ∧ (↑k : Int) < (↑(List.length M) : Int)) ∧
                  headF (List.drop (k * (1 : Nat)) (ints M)) = some (i6 M[k]) ∧
                    (L[k] != M[k]) = true ∧ (false = false ∧ True) ∧ True) = _) ?_
      (repeat' (first | (with_reducible apply And.intro) | (refine fun (_ : True) => ?_))) <;> first | with_reducible (first | rfl | exact trivial | assumption | (refine decide_eq_true ?_ <;> omega) | (refine decide_eq_false ?_ <;> omega) | (refine head_ints1 ?_ <;> omega) | (refine bne_false ?_ <;> omega) | (refine bne_true ?_ <;> omega) | (refine beq_false' ?_ <;> omega) | (refine beq_true' ?_ <;> omega) | (refine wr6' ?_ ?_ ?_ <;> omega) | (refine rem6 ?_ <;> omega) | (refine quo6 ?_ ?_ ?_ <;> omega) | exact HfL_ints _ | omega) | ((with_reducible show (_ : V) = _); rfl) | (intro hk_; exact absurd hk_ (by simp)) | (intros; simp_all; done) | (split <;> omega) | ((with_reducible show decide _ = true); exact decide_eq_true (by omega)) | ((with_reducible show decide _ = false); exact decide_eq_false (by omega)) | skip
  · refine .inr ⟨.exit 0, [], rtE, [no 14], 1000, .inl ⟨?_, rfl, rfl⟩, ?_⟩
    · rw [← hb, List.drop_of_length_le (by omega), List.drop_of_length_le (by omega)]; simp
    refine Eq.mp (by kernel_rfl : (decide ((↑k : Int) < (↑(List.length L) : Int)) = false ∧ True ∧ True) = _) ?_
    (repeat' (first | (with_reducible apply And.intro) | (refine fun (_ : True) => ?_))) <;> first | with_reducible (first | rfl | exact trivial | assumption | (refine decide_eq_true ?_ <;> omega) | (refine decide_eq_false ?_ <;> omega) | (refine head_ints1 ?_ <;> omega) | (refine bne_false ?_ <;> omega) | (refine bne_true ?_ <;> omega) | (refine beq_false' ?_ <;> omega) | (refine beq_true' ?_ <;> omega) | (refine wr6' ?_ ?_ ?_ <;> omega) | (refine rem6 ?_ <;> omega) | (refine quo6 ?_ ?_ ?_ <;> omega) | exact HfL_ints _ | omega) | ((with_reducible show (_ : V) = _); rfl) | (intro hk_; exact absurd hk_ (by simp)) | (intros; simp_all; done) | (split <;> omega) | ((with_reducible show decide _ = true); exact decide_eq_true (by omega)) | ((with_reducible show decide _ = false); exact decide_eq_false (by omega)) | skip

theorem same_ok (L M : List Int) (hb4 : L.length ≤ 4611686018427387904) : FnOk Pg .e 28 [sl L, sl M] (.bool (decide (L = M))) := by
  by_cases hl : L.length = M.length
  · refine FnOk.of_vc vE_ok mixed sp0_ok (n := 1000) (r := []) (S := boE 4 (decide (L = M))) (hs := [no 10, (0, .loop [] (smS L M 0) [(decide (L = M) = true, .exit 0, rtE), (decide (L = M) = false, .ret, boE 4 false)])]) ?_
    refine Eq.mp (by kernel_rfl : (V.bool (decide (L = M)) = V.bool (decide (L = M)) ∧
          ((↑(List.length L) : Int) != (↑(List.length M) : Int)) = false ∧
            (((List.length L = List.length L ∧ ints L = ints L) ∧
                  (List.length M = List.length M ∧ ints M = ints M) ∧ (↑(0 : Nat) : Int) = (0 : Int) ∧ True) ∧
                True) ∧
              Sat Try.prog none (0 : Nat) (at' (28 : Nat) [(1 : Nat), (1 : Nat), (0 : Nat), (1 : Nat), (0 : Nat)])
                  (mkSt T.e (26 : Nat) (smS L M (0 : Nat)))
                  (outsP T.e (26 : Nat)
                    [(decide (L = M) = true, Ex.exit (0 : Nat), rtE), (decide (L = M) = false, Ex.ret, boE (4 : Nat) false)]) ∧
                (decide (L = M) = true → (decide (L = M) = true ∧ True) ∧ True) ∧
                  (decide (L = M) = false → (decide (L = M) = false ∧ True) ∧ True) ∧ True) = _) ?_
    refine ⟨rfl, by simp [hl], ⟨⟨⟨rfl, rfl⟩, ⟨rfl, rfl⟩, rfl, trivial⟩, trivial⟩, same_loop L M _ hl hb4 0 ⟨Nat.zero_le _, rfl⟩, fun h => ⟨⟨h, trivial⟩, trivial⟩, fun h => ⟨⟨h, trivial⟩, trivial⟩, trivial⟩
  · have : decide (L = M) = false := decide_eq_false (fun e => hl (by rw [e]))
    rw [this]
    refine FnOk.of_vc vE_ok mixed sp0_ok (n := 1000) (r := []) (S := boE 4 false) (hs := [yes 10]) ?_
    refine Eq.mp (by kernel_rfl : (V.bool false = V.bool false ∧
          ((↑(List.length L) : Int) != (↑(List.length M) : Int)) = true ∧ (false = false ∧ True) ∧ True) = _) ?_
    (repeat' (first | (with_reducible apply And.intro) | (refine fun (_ : True) => ?_))) <;> first | with_reducible (first | rfl | exact trivial | assumption | (refine decide_eq_true ?_ <;> omega) | (refine decide_eq_false ?_ <;> omega) | (refine head_ints1 ?_ <;> omega) | (refine bne_false ?_ <;> omega) | (refine bne_true ?_ <;> omega) | (refine beq_false' ?_ <;> omega) | (refine beq_true' ?_ <;> omega) | (refine wr6' ?_ ?_ ?_ <;> omega) | (refine rem6 ?_ <;> omega) | (refine quo6 ?_ ?_ ?_ <;> omega) | exact HfL_ints _ | omega) | ((with_reducible show (_ : V) = _); rfl) | (intro hk_; exact absurd hk_ (by simp)) | (intros; simp_all; done) | (split <;> omega) | ((with_reducible show decide _ = true); exact decide_eq_true (by omega)) | ((with_reducible show decide _ = false); exact decide_eq_false (by omega)) | skip

end Go.Proofs.Ytmnaidemihcfaaa.Am
