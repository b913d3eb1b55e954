/- IndexNumbers: the law returns true, whatever it is called with. -/
import Derived.Test.YtmnaidemihcfaaaV4
namespace Go.Proofs.Ytmnaidemihcfaaa.Am
open Go.RowKit
set_option linter.unusedVariables false
set_option maxHeartbeats 1000000
set_option maxRecDepth 100000

theorem works_ok : FnOk Pg .e 15 [] (.bool true) := FnOk.of_run vE_ok mixed (n := 100000) rfl (by kernel_rfl)

theorem horner_idx : ∀ (L M : List Int) (n : Int), L.length = M.length → fitB L M = true → hornerQ n L M = some (n * prodL L + idxR L M)
  | [], [], n, _, _ => by simp [hornerQ, prodL, idxR]
  | c :: cs, v :: vs, n, hl, hf => by
    unfold fitB at hf
    simp only [Bool.and_eq_true, decide_eq_true_eq] at hf
    unfold hornerQ
    rw [if_neg (by omega), horner_idx cs vs _ (by simpa using hl) hf.2]
    simp only [prodL, idxR]
    congr 1
    rw [Int.add_mul, Int.mul_assoc]; omega
  | [], _ :: _, _, hl, _ => by simp at hl
  | _ :: _, [], _, hl, _ => by simp at hl
theorem indexG_fit {L M : List Int} {t : Int} (h : count L = some t) (hc : combB L M = true) : indexG L M = (idxR L M, 0) := by
  unfold combB at hc
  simp only [Bool.and_eq_true, decide_eq_true_eq] at hc
  rw [indexG_eq h hc.1, horner_idx L M 0 hc.1.symm hc.2]
  simp [hornR]
theorem indexG_unfit {L M : List Int} {t : Int} (h : count L = some t) (hc : combB L M = false) : indexG L M = (0, 2) := by
  by_cases hl : M.length = L.length
  · rw [indexG_eq h hl]
    have hf : fitB L M = false := by simpa [combB, hl] using hc
    have := horner_fit L M 0
    rw [hf] at this
    cases hq : hornerQ 0 L M with
    | none => rfl
    | some x => rw [hq] at this; cases this
  · exact indexG_len h hl

/-! ### the inner loops -/

abbrev nmS (M A B c : List Int) (i k nq size : Int) (j : Nat) (more : List (Nat × V)) : SL := { sl := [(1, sl M), (2, i6 i), (4, .int .u16 k), (12, sl c), (13, i6 nq), (16, i6 size), (34, .agg [sl A, sl B]), (35, i6 j)] ++ more }
abbrev n1S (M A B c : List Int) (i k nq size : Int) (j : Nat) (a b : Int) (m : Nat) : SL := nmS M A B c i k nq size j [(65, .agg [i6 a, i6 b]), (66, i6 m)]
abbrev n2S (M A B c : List Int) (i k nq size : Int) (j : Nat) (u v : List Int) (m : Nat) : SL := nmS M A B c i k nq size j [(119, .agg [sl u, sl v]), (120, i6 m)]

theorem pick48 (a b : Int) (m : Nat) (hm : m < 2) : ∃ x, idxV (ctxOf Pg) 48 (.agg [i6 a, i6 b]) (m : Int) = some (i6 x) := by
  have : m = 0 ∨ m = 1 := by omega
  rcases this with rfl | rfl
  · exact ⟨a, by kernel_rfl⟩
  · exact ⟨b, by kernel_rfl⟩
theorem pick29 (u v : List Int) (m : Nat) (hm : m < 2) : ∃ x, idxV (ctxOf Pg) 29 (.agg [sl u, sl v]) (m : Int) = some (sl x) ∧ (x = u ∨ x = v) := by
  have : m = 0 ∨ m = 1 := by omega
  rcases this with rfl | rfl
  · exact ⟨u, by kernel_rfl, .inl rfl⟩
  · exact ⟨v, by kernel_rfl, .inr rfl⟩

theorem inner1 (M A B c : List Int) (i k nq size : Int) (j : Nat) (a b : Int) (hlen : c.length ≤ 14) (hno : (count c = none ∧ nq = 20 ∧ size = 0) ∨ (count c = some size ∧ nq = 0)) (m : Nat) (hm : m ≤ 2) :
    Sat Pg none 0 (at' 7 [1, 1, 0, 1, 0, 0, 1, 1, 0, 0, 1, 1, 1, 1, 1, 1, 1, 0, 1, 0]) (mkSt .e 147 (n1S M A B c i k nq size j a b m)) (outsP .e 147 [(True, .exit 2, nmS M A B c i k nq size j [])]) := by
  refine loopC vE_ok mixed sp0_ok (b := at' 7 [1, 1, 0, 1, 0, 0, 1, 1, 0, 0, 1, 1, 1, 1, 1, 1, 1, 0, 1, 0, 0]) (by kernel_rfl) (fun m => m ≤ 2) (n1S M A B c i k nq size j a b) (fun m => 2 - m) (fun m hm => ?_) m hm
  by_cases hlt : m < 2
  · obtain ⟨x, hx⟩ := pick48 a b m hlt
    have hval := values_ok (gl := .e) c x
    rcases hno with ⟨hc, rfl, rfl⟩ | ⟨hc, rfl⟩
    · have : ValuesS c x = ([], 20) := by simp [ValuesS, hc]
      rw [this] at hval
      have hval' : FnOk Pg .e 36 [sl c, i6 x] (.tup [.im 0 [], i6 20]) := hval
      have ht := then_err false
      by_cases hx0 : 0 ≤ x
      · refine .inl ⟨m + 1, [], [yes 67, va 68 (i6 x), fn 72 (.tup [.im 0 [], i6 20]), yes 77, no 81, fn 83 (i6 20), nu 108 (m + 1 : Nat)], 1000, hlt, by omega, ?_⟩
        refine Eq.mp (by kernel_rfl : (decide ((↑m : Int) < (2 : Int)) = true ∧
              idxV (ctxOf Try.prog) (48 : Nat) (V.agg [i6 a, i6 b]) (↑m : Int) = some (i6 x) ∧
                (True ∧ True ∧ True) ∧
                  FnOk Try.prog T.e (36 : Nat) [V.im (List.length c) (ints c), V.int IntKind.i64 x]
                      (V.tup [V.im (0 : Nat) [], i6 (20 : Int)]) ∧
                    True ∧
                      decide (x ≥ (0 : Int)) = true ∧
                        decide (x < (0 : Int)) = false ∧
                          (True ∧ True ∧ True) ∧
                            FnOk Try.prog T.e (24 : Nat) [V.int IntKind.i64 (20 : Int), V.bool false] (i6 (20 : Int)) ∧
                              True ∧
                                wr IntKind.i64 ((↑m : Int) + (1 : Int)) = (↑(m + (1 : Nat)) : Int) ∧
                                  ((List.length M = List.length M ∧ ints M = ints M) ∧
                                      i = i ∧
                                        k = k ∧
                                          (List.length c = List.length c ∧ ints c = ints c) ∧
                                            (20 : Int) = (20 : Int) ∧
                                              (0 : Int) = (0 : Int) ∧
                                                ((List.length A = List.length A ∧ ints A = ints A) ∧
                                                    (List.length B = List.length B ∧ ints B = ints B) ∧ True) ∧
                                                  (↑j : Int) = (↑j : Int) ∧
                                                    (a = a ∧ b = b ∧ True) ∧
                                                      (↑(m + (1 : Nat)) : Int) = (↑(m + (1 : Nat)) : Int) ∧ True) ∧
                                    True) = _) ?_
        (repeat' (first | (with_reducible apply And.intro) | (refine fun (_ : True) => ?_))) <;> first | with_reducible (first | rfl | exact trivial | assumption | (refine decide_eq_true ?_ <;> omega) | (refine decide_eq_false ?_ <;> omega) | (refine head_ints1 ?_ <;> omega) | (refine bne_false ?_ <;> omega) | (refine bne_true ?_ <;> omega) | (refine beq_false' ?_ <;> omega) | (refine beq_true' ?_ <;> omega) | (refine wr6' ?_ ?_ ?_ <;> omega) | (refine rem6 ?_ <;> omega) | (refine quo6 ?_ ?_ ?_ <;> omega) | exact HfL_ints _ | omega) | ((with_reducible show (_ : V) = _); rfl) | (intro hk_; exact absurd hk_ (by simp)) | (intros; simp_all; done) | (split <;> omega) | ((with_reducible show decide _ = true); exact decide_eq_true (by omega)) | ((with_reducible show decide _ = false); exact decide_eq_false (by omega)) | skip
      · refine .inl ⟨m + 1, [], [yes 67, va 68 (i6 x), fn 72 (.tup [.im 0 [], i6 20]), no 77, fn 83 (i6 20), nu 108 (m + 1 : Nat)], 1000, hlt, by omega, ?_⟩
        refine Eq.mp (by kernel_rfl : (decide ((↑m : Int) < (2 : Int)) = true ∧
              idxV (ctxOf Try.prog) (48 : Nat) (V.agg [i6 a, i6 b]) (↑m : Int) = some (i6 x) ∧
                (True ∧ True ∧ True) ∧
                  FnOk Try.prog T.e (36 : Nat) [V.im (List.length c) (ints c), V.int IntKind.i64 x]
                      (V.tup [V.im (0 : Nat) [], i6 (20 : Int)]) ∧
                    True ∧
                      decide (x ≥ (0 : Int)) = false ∧
                        (True ∧ True ∧ True) ∧
                          FnOk Try.prog T.e (24 : Nat) [V.int IntKind.i64 (20 : Int), V.bool false] (i6 (20 : Int)) ∧
                            True ∧
                              wr IntKind.i64 ((↑m : Int) + (1 : Int)) = (↑(m + (1 : Nat)) : Int) ∧
                                ((List.length M = List.length M ∧ ints M = ints M) ∧
                                    i = i ∧
                                      k = k ∧
                                        (List.length c = List.length c ∧ ints c = ints c) ∧
                                          (20 : Int) = (20 : Int) ∧
                                            (0 : Int) = (0 : Int) ∧
                                              ((List.length A = List.length A ∧ ints A = ints A) ∧
                                                  (List.length B = List.length B ∧ ints B = ints B) ∧ True) ∧
                                                (↑j : Int) = (↑j : Int) ∧
                                                  (a = a ∧ b = b ∧ True) ∧
                                                    (↑(m + (1 : Nat)) : Int) = (↑(m + (1 : Nat)) : Int) ∧ True) ∧
                                  True) = _) ?_
        (repeat' (first | (with_reducible apply And.intro) | (refine fun (_ : True) => ?_))) <;> first | with_reducible (first | rfl | exact trivial | assumption | (refine decide_eq_true ?_ <;> omega) | (refine decide_eq_false ?_ <;> omega) | (refine head_ints1 ?_ <;> omega) | (refine bne_false ?_ <;> omega) | (refine bne_true ?_ <;> omega) | (refine beq_false' ?_ <;> omega) | (refine beq_true' ?_ <;> omega) | (refine wr6' ?_ ?_ ?_ <;> omega) | (refine rem6 ?_ <;> omega) | (refine quo6 ?_ ?_ ?_ <;> omega) | exact HfL_ints _ | omega) | ((with_reducible show (_ : V) = _); rfl) | (intro hk_; exact absurd hk_ (by simp)) | (intros; simp_all; done) | (split <;> omega) | ((with_reducible show decide _ = true); exact decide_eq_true (by omega)) | ((with_reducible show decide _ = false); exact decide_eq_false (by omega)) | skip
    · obtain ⟨hg, rfl⟩ := good_of hc
      by_cases hr : x < 0 ∨ prodL c ≤ x
      · have : ValuesS c x = ([], 2) := by simp only [ValuesS, hc]; rw [if_pos hr]
        rw [this] at hval
        have hval' : FnOk Pg .e 36 [sl c, i6 x] (.tup [.im 0 [], i6 2]) := hval
        have ht := then_no
        by_cases hx0 : 0 ≤ x
        · refine .inl ⟨m + 1, [], [yes 67, va 68 (i6 x), fn 72 (.tup [.im 0 [], i6 2]), yes 77, no 81, fn 83 (i6 2), nu 108 (m + 1 : Nat)], 1000, hlt, by omega, ?_⟩
          refine Eq.mp (by kernel_rfl : (decide ((↑m : Int) < (2 : Int)) = true ∧
                idxV (ctxOf Try.prog) (48 : Nat) (V.agg [i6 a, i6 b]) (↑m : Int) = some (i6 x) ∧
                  (True ∧ True ∧ True) ∧
                    FnOk Try.prog T.e (36 : Nat) [V.im (List.length c) (ints c), V.int IntKind.i64 x]
                        (V.tup [V.im (0 : Nat) [], i6 (2 : Int)]) ∧
                      True ∧
                        decide (x ≥ (0 : Int)) = true ∧
                          decide (x < prodL c) = false ∧
                            (True ∧ True ∧ True) ∧
                              FnOk Try.prog T.e (24 : Nat) [V.int IntKind.i64 (0 : Int), V.bool false] (i6 (2 : Int)) ∧
                                True ∧
                                  wr IntKind.i64 ((↑m : Int) + (1 : Int)) = (↑(m + (1 : Nat)) : Int) ∧
                                    ((List.length M = List.length M ∧ ints M = ints M) ∧
                                        i = i ∧
                                          k = k ∧
                                            (List.length c = List.length c ∧ ints c = ints c) ∧
                                              (0 : Int) = (0 : Int) ∧
                                                prodL c = prodL c ∧
                                                  ((List.length A = List.length A ∧ ints A = ints A) ∧
                                                      (List.length B = List.length B ∧ ints B = ints B) ∧ True) ∧
                                                    (↑j : Int) = (↑j : Int) ∧
                                                      (a = a ∧ b = b ∧ True) ∧
                                                        (↑(m + (1 : Nat)) : Int) = (↑(m + (1 : Nat)) : Int) ∧ True) ∧
                                      True) = _) ?_
          (repeat' (first | (with_reducible apply And.intro) | (refine fun (_ : True) => ?_))) <;> first | with_reducible (first | rfl | exact trivial | assumption | (refine decide_eq_true ?_ <;> omega) | (refine decide_eq_false ?_ <;> omega) | (refine head_ints1 ?_ <;> omega) | (refine bne_false ?_ <;> omega) | (refine bne_true ?_ <;> omega) | (refine beq_false' ?_ <;> omega) | (refine beq_true' ?_ <;> omega) | (refine wr6' ?_ ?_ ?_ <;> omega) | (refine rem6 ?_ <;> omega) | (refine quo6 ?_ ?_ ?_ <;> omega) | exact HfL_ints _ | omega) | ((with_reducible show (_ : V) = _); rfl) | (intro hk_; exact absurd hk_ (by simp)) | (intros; simp_all; done) | (split <;> omega) | ((with_reducible show decide _ = true); exact decide_eq_true (by omega)) | ((with_reducible show decide _ = false); exact decide_eq_false (by omega)) | skip
        · refine .inl ⟨m + 1, [], [yes 67, va 68 (i6 x), fn 72 (.tup [.im 0 [], i6 2]), no 77, fn 83 (i6 2), nu 108 (m + 1 : Nat)], 1000, hlt, by omega, ?_⟩
          refine Eq.mp (by kernel_rfl : (decide ((↑m : Int) < (2 : Int)) = true ∧
                idxV (ctxOf Try.prog) (48 : Nat) (V.agg [i6 a, i6 b]) (↑m : Int) = some (i6 x) ∧
                  (True ∧ True ∧ True) ∧
                    FnOk Try.prog T.e (36 : Nat) [V.im (List.length c) (ints c), V.int IntKind.i64 x]
                        (V.tup [V.im (0 : Nat) [], i6 (2 : Int)]) ∧
                      True ∧
                        decide (x ≥ (0 : Int)) = false ∧
                          (True ∧ True ∧ True) ∧
                            FnOk Try.prog T.e (24 : Nat) [V.int IntKind.i64 (0 : Int), V.bool false] (i6 (2 : Int)) ∧
                              True ∧
                                wr IntKind.i64 ((↑m : Int) + (1 : Int)) = (↑(m + (1 : Nat)) : Int) ∧
                                  ((List.length M = List.length M ∧ ints M = ints M) ∧
                                      i = i ∧
                                        k = k ∧
                                          (List.length c = List.length c ∧ ints c = ints c) ∧
                                            (0 : Int) = (0 : Int) ∧
                                              prodL c = prodL c ∧
                                                ((List.length A = List.length A ∧ ints A = ints A) ∧
                                                    (List.length B = List.length B ∧ ints B = ints B) ∧ True) ∧
                                                  (↑j : Int) = (↑j : Int) ∧
                                                    (a = a ∧ b = b ∧ True) ∧
                                                      (↑(m + (1 : Nat)) : Int) = (↑(m + (1 : Nat)) : Int) ∧ True) ∧
                                    True) = _) ?_
          (repeat' (first | (with_reducible apply And.intro) | (refine fun (_ : True) => ?_))) <;> first | with_reducible (first | rfl | exact trivial | assumption | (refine decide_eq_true ?_ <;> omega) | (refine decide_eq_false ?_ <;> omega) | (refine head_ints1 ?_ <;> omega) | (refine bne_false ?_ <;> omega) | (refine bne_true ?_ <;> omega) | (refine beq_false' ?_ <;> omega) | (refine beq_true' ?_ <;> omega) | (refine wr6' ?_ ?_ ?_ <;> omega) | (refine rem6 ?_ <;> omega) | (refine quo6 ?_ ?_ ?_ <;> omega) | exact HfL_ints _ | omega) | ((with_reducible show (_ : V) = _); rfl) | (intro hk_; exact absurd hk_ (by simp)) | (intros; simp_all; done) | (split <;> omega) | ((with_reducible show decide _ = true); exact decide_eq_true (by omega)) | ((with_reducible show decide _ = false); exact decide_eq_false (by omega)) | skip
      · have : ValuesS c x = (valL c x, 0) := by simp only [ValuesS, hc]; rw [if_neg hr]
        rw [this] at hval
        have hval' : FnOk Pg .e 36 [sl c, i6 x] (.tup [sl (valL c x), i6 0]) := hval
        have ht := then_yes
        have href := values_fn c x hg (by omega) (by omega)
        have hsame := same_ok (valL c x) (valL c x) (by rw [valL_length]; omega)
        rw [decide_eq_true rfl] at hsame
        refine .inl ⟨m + 1, [], [yes 67, va 68 (i6 x), fn 72 (.tup [sl (valL c x), i6 0]), yes 77, yes 81, fn 83 (i6 0), fn 103 (sl (valL c x)), fn 104 (.bool true), nu 108 (m + 1 : Nat)], 1000, hlt, by omega, ?_⟩
        refine Eq.mp (by kernel_rfl : (decide ((↑m : Int) < (2 : Int)) = true ∧
              idxV (ctxOf Try.prog) (48 : Nat) (V.agg [i6 a, i6 b]) (↑m : Int) = some (i6 x) ∧
                (True ∧ True ∧ True) ∧
                  FnOk Try.prog T.e (36 : Nat) [V.im (List.length c) (ints c), V.int IntKind.i64 x]
                      (V.tup [sl (valL c x), i6 (0 : Int)]) ∧
                    True ∧
                      decide (x ≥ (0 : Int)) = true ∧
                        decide (x < prodL c) = true ∧
                          (True ∧ True ∧ True) ∧
                            FnOk Try.prog T.e (24 : Nat) [V.int IntKind.i64 (0 : Int), V.bool true] (i6 (0 : Int)) ∧
                              True ∧
                                (True ∧ True ∧ True) ∧
                                  FnOk Try.prog T.e (34 : Nat) [V.im (List.length c) (ints c), V.int IntKind.i64 x]
                                      (sl (valL c x)) ∧
                                    True ∧
                                      (True ∧ True ∧ True) ∧
                                        FnOk Try.prog T.e (28 : Nat)
                                            [V.im (List.length (valL c x)) (ints (valL c x)),
                                              V.im (List.length (valL c x)) (ints (valL c x))]
                                            (V.bool true) ∧
                                          ((V.fn (34 : Nat) [] = V.fn (28 : Nat) [] →
                                                [sl c, i6 x] = [sl (valL c x), sl (valL c x)] →
                                                  ofOs T.e (0 : Nat) [] = ofOs T.e (0 : Nat) [] →
                                                    (0 : Nat) = (0 : Nat) →
                                                      CR.mk (sl (valL c x)) (ofOs T.e (0 : Nat) []) (0 : Nat) [] =
                                                        CR.mk (V.bool true) (ofOs T.e (0 : Nat) []) (0 : Nat) []) ∧
                                              True) ∧
                                            wr IntKind.i64 ((↑m : Int) + (1 : Int)) = (↑(m + (1 : Nat)) : Int) ∧
                                              ((List.length M = List.length M ∧ ints M = ints M) ∧
                                                  i = i ∧
                                                    k = k ∧
                                                      (List.length c = List.length c ∧ ints c = ints c) ∧
                                                        (0 : Int) = (0 : Int) ∧
                                                          prodL c = prodL c ∧
                                                            ((List.length A = List.length A ∧ ints A = ints A) ∧
                                                                (List.length B = List.length B ∧ ints B = ints B) ∧ True) ∧
                                                              (↑j : Int) = (↑j : Int) ∧
                                                                (a = a ∧ b = b ∧ True) ∧
                                                                  (↑(m + (1 : Nat)) : Int) = (↑(m + (1 : Nat)) : Int) ∧ True) ∧
                                                True) = _) ?_
        (repeat' (first | (with_reducible apply And.intro) | (refine fun (_ : True) => ?_))) <;> first | with_reducible (first | rfl | exact trivial | assumption | (refine decide_eq_true ?_ <;> omega) | (refine decide_eq_false ?_ <;> omega) | (refine head_ints1 ?_ <;> omega) | (refine bne_false ?_ <;> omega) | (refine bne_true ?_ <;> omega) | (refine beq_false' ?_ <;> omega) | (refine beq_true' ?_ <;> omega) | (refine wr6' ?_ ?_ ?_ <;> omega) | (refine rem6 ?_ <;> omega) | (refine quo6 ?_ ?_ ?_ <;> omega) | exact HfL_ints _ | omega) | ((with_reducible show (_ : V) = _); rfl) | (intro hk_; exact absurd hk_ (by simp)) | (intros; simp_all; done) | (split <;> omega) | ((with_reducible show decide _ = true); exact decide_eq_true (by omega)) | ((with_reducible show decide _ = false); exact decide_eq_false (by omega)) | skip
  · have : m = 2 := by omega
    subst this
    refine .inr ⟨.exit 2, [], nmS M A B c i k nq size j [], [no 67], 1000, .inl ⟨trivial, rfl, rfl⟩, ?_⟩
    refine Eq.mp (by kernel_rfl : (decide ((↑(2 : Nat) : Int) < (2 : Int)) = false ∧
          ((List.length M = List.length M ∧ ints M = ints M) ∧
              i = i ∧
                k = k ∧
                  (List.length c = List.length c ∧ ints c = ints c) ∧
                    nq = nq ∧
                      size = size ∧
                        ((List.length A = List.length A ∧ ints A = ints A) ∧
                            (List.length B = List.length B ∧ ints B = ints B) ∧ True) ∧
                          (↑j : Int) = (↑j : Int) ∧ True) ∧
            True) = _) ?_
    (repeat' (first | (with_reducible apply And.intro) | (refine fun (_ : True) => ?_))) <;> first | with_reducible (first | rfl | exact trivial | assumption | (refine decide_eq_true ?_ <;> omega) | (refine decide_eq_false ?_ <;> omega) | (refine head_ints1 ?_ <;> omega) | (refine bne_false ?_ <;> omega) | (refine bne_true ?_ <;> omega) | (refine beq_false' ?_ <;> omega) | (refine beq_true' ?_ <;> omega) | (refine wr6' ?_ ?_ ?_ <;> omega) | (refine rem6 ?_ <;> omega) | (refine quo6 ?_ ?_ ?_ <;> omega) | exact HfL_ints _ | omega) | ((with_reducible show (_ : V) = _); rfl) | (intro hk_; exact absurd hk_ (by simp)) | (intros; simp_all; done) | (split <;> omega) | ((with_reducible show decide _ = true); exact decide_eq_true (by omega)) | ((with_reducible show decide _ = false); exact decide_eq_false (by omega)) | skip

theorem inner2 (M A B c : List Int) (i k nq size : Int) (j : Nat) (u v : List Int) (hlen : c.length ≤ 14) (hu : u.length ≤ 14) (hv : v.length ≤ 14) (hno : (count c = none ∧ nq = 20 ∧ size = 0) ∨ (count c = some size ∧ nq = 0)) (m : Nat) (hm : m ≤ 2) :
    Sat Pg none 0 (at' 7 [1, 1, 0, 1, 0, 0, 1, 1, 0, 0, 1, 1, 1, 1, 1, 1, 1, 1, 1, 0]) (mkSt .e 147 (n2S M A B c i k nq size j u v m)) (outsP .e 147 [(True, .exit 4, nmS M A B c i k nq size j [])]) := by
  refine loopC vE_ok mixed sp0_ok (b := at' 7 [1, 1, 0, 1, 0, 0, 1, 1, 0, 0, 1, 1, 1, 1, 1, 1, 1, 1, 1, 0, 0]) (by kernel_rfl) (fun m => m ≤ 2) (n2S M A B c i k nq size j u v) (fun m => 2 - m) (fun m hm => ?_) m hm
  by_cases hlt : m < 2
  · obtain ⟨x, hx, hxx⟩ := pick29 u v m hlt
    have hxl : x.length ≤ 14 := by rcases hxx with rfl | rfl <;> assumption
    have hidx := index_ok (gl := .e) c x (by omega)
    have hcomb := comb_ok c x (by omega)
    rcases hno with ⟨hc, rfl, rfl⟩ | ⟨hc, rfl⟩
    · rw [indexG_none hc] at hidx
      have ht := then_err (combB c x)
      have hn := number_20 0
      refine .inl ⟨m + 1, [], [yes 121, va 122 (sl x), fn 126 (.tup [i6 0, i6 20]), fn 132 (.bool (combB c x)), fn 133 (i6 20), fn 143 (.bool true), nu 145 (m + 1 : Nat)], 1000, hlt, by omega, ?_⟩
      refine Eq.mp (by kernel_rfl : (decide ((↑m : Int) < (2 : Int)) = true ∧
            idxV (ctxOf Try.prog) (29 : Nat) (V.agg [sl u, sl v]) (↑m : Int) = some (sl x) ∧
              (True ∧ True ∧ True) ∧
                FnOk Try.prog T.e (41 : Nat) [V.im (List.length c) (ints c), V.im (List.length x) (ints x)]
                    (V.tup [i6 (0 : Int), i6 (20 : Int)]) ∧
                  True ∧
                    (True ∧ True ∧ True) ∧
                      FnOk Try.prog T.e (44 : Nat) [V.im (List.length c) (ints c), V.im (List.length x) (ints x)]
                          (V.bool (combB c x)) ∧
                        True ∧
                          (True ∧ True ∧ True) ∧
                            FnOk Try.prog T.e (24 : Nat) [V.int IntKind.i64 (20 : Int), V.bool (combB c x)] (i6 (20 : Int)) ∧
                              ((V.fn (44 : Nat) [] = V.fn (24 : Nat) [] →
                                    [sl c, sl x] = [i6 (20 : Int), V.bool (combB c x)] →
                                      ofOs T.e (0 : Nat) [] = ofOs T.e (0 : Nat) [] →
                                        (0 : Nat) = (0 : Nat) →
                                          CR.mk (V.bool (combB c x)) (ofOs T.e (0 : Nat) []) (0 : Nat) [] =
                                            CR.mk (i6 (20 : Int)) (ofOs T.e (0 : Nat) []) (0 : Nat) []) ∧
                                  True) ∧
                                (True ∧ True ∧ True ∧ True ∧ True) ∧
                                  FnOk Try.prog T.e (26 : Nat)
                                      [V.int IntKind.i64 (0 : Int), V.int IntKind.i64 (20 : Int), V.int IntKind.i64 (20 : Int),
                                        V.int IntKind.i64 (0 : Int)]
                                      (V.bool true) ∧
                                    True ∧
                                      wr IntKind.i64 ((↑m : Int) + (1 : Int)) = (↑(m + (1 : Nat)) : Int) ∧
                                        ((List.length M = List.length M ∧ ints M = ints M) ∧
                                            i = i ∧
                                              k = k ∧
                                                (List.length c = List.length c ∧ ints c = ints c) ∧
                                                  (20 : Int) = (20 : Int) ∧
                                                    (0 : Int) = (0 : Int) ∧
                                                      ((List.length A = List.length A ∧ ints A = ints A) ∧
                                                          (List.length B = List.length B ∧ ints B = ints B) ∧ True) ∧
                                                        (↑j : Int) = (↑j : Int) ∧
                                                          ((List.length u = List.length u ∧ ints u = ints u) ∧
                                                              (List.length v = List.length v ∧ ints v = ints v) ∧ True) ∧
                                                            (↑(m + (1 : Nat)) : Int) = (↑(m + (1 : Nat)) : Int) ∧ True) ∧
                                          True) = _) ?_
      (repeat' (first | (with_reducible apply And.intro) | (refine fun (_ : True) => ?_))) <;> first | with_reducible (first | rfl | exact trivial | assumption | (refine decide_eq_true ?_ <;> omega) | (refine decide_eq_false ?_ <;> omega) | (refine head_ints1 ?_ <;> omega) | (refine bne_false ?_ <;> omega) | (refine bne_true ?_ <;> omega) | (refine beq_false' ?_ <;> omega) | (refine beq_true' ?_ <;> omega) | (refine wr6' ?_ ?_ ?_ <;> omega) | (refine rem6 ?_ <;> omega) | (refine quo6 ?_ ?_ ?_ <;> omega) | exact HfL_ints _ | omega) | ((with_reducible show (_ : V) = _); rfl) | (intro hk_; exact absurd hk_ (by simp)) | (intros; simp_all; done) | (split <;> omega) | ((with_reducible show decide _ = true); exact decide_eq_true (by omega)) | ((with_reducible show decide _ = false); exact decide_eq_false (by omega)) | skip
    · obtain ⟨hg, rfl⟩ := good_of hc
      cases hcb : combB c x with
      | false =>
        rw [indexG_unfit hc hcb] at hidx
        rw [hcb] at hcomb
        have ht := then_no
        have hn := number_2 0
        refine .inl ⟨m + 1, [], [yes 121, va 122 (sl x), fn 126 (.tup [i6 0, i6 2]), fn 132 (.bool false), fn 133 (i6 2), fn 143 (.bool true), nu 145 (m + 1 : Nat)], 1000, hlt, by omega, ?_⟩
        refine Eq.mp (by kernel_rfl : (decide ((↑m : Int) < (2 : Int)) = true ∧
              idxV (ctxOf Try.prog) (29 : Nat) (V.agg [sl u, sl v]) (↑m : Int) = some (sl x) ∧
                (True ∧ True ∧ True) ∧
                  FnOk Try.prog T.e (41 : Nat) [V.im (List.length c) (ints c), V.im (List.length x) (ints x)]
                      (V.tup [i6 (0 : Int), i6 (2 : Int)]) ∧
                    True ∧
                      (True ∧ True ∧ True) ∧
                        FnOk Try.prog T.e (44 : Nat) [V.im (List.length c) (ints c), V.im (List.length x) (ints x)] (V.bool false) ∧
                          True ∧
                            (True ∧ True ∧ True) ∧
                              FnOk Try.prog T.e (24 : Nat) [V.int IntKind.i64 (0 : Int), V.bool false] (i6 (2 : Int)) ∧
                                ((V.fn (44 : Nat) [] = V.fn (24 : Nat) [] →
                                      [sl c, sl x] = [i6 (0 : Int), V.bool false] →
                                        ofOs T.e (0 : Nat) [] = ofOs T.e (0 : Nat) [] →
                                          (0 : Nat) = (0 : Nat) →
                                            CR.mk (V.bool false) (ofOs T.e (0 : Nat) []) (0 : Nat) [] =
                                              CR.mk (i6 (2 : Int)) (ofOs T.e (0 : Nat) []) (0 : Nat) []) ∧
                                    True) ∧
                                  (True ∧ True ∧ True ∧ True ∧ True) ∧
                                    FnOk Try.prog T.e (26 : Nat)
                                        [V.int IntKind.i64 (0 : Int), V.int IntKind.i64 (2 : Int), V.int IntKind.i64 (2 : Int),
                                          V.int IntKind.i64 (0 : Int)]
                                        (V.bool true) ∧
                                      True ∧
                                        wr IntKind.i64 ((↑m : Int) + (1 : Int)) = (↑(m + (1 : Nat)) : Int) ∧
                                          ((List.length M = List.length M ∧ ints M = ints M) ∧
                                              i = i ∧
                                                k = k ∧
                                                  (List.length c = List.length c ∧ ints c = ints c) ∧
                                                    (0 : Int) = (0 : Int) ∧
                                                      prodL c = prodL c ∧
                                                        ((List.length A = List.length A ∧ ints A = ints A) ∧
                                                            (List.length B = List.length B ∧ ints B = ints B) ∧ True) ∧
                                                          (↑j : Int) = (↑j : Int) ∧
                                                            ((List.length u = List.length u ∧ ints u = ints u) ∧
                                                                (List.length v = List.length v ∧ ints v = ints v) ∧ True) ∧
                                                              (↑(m + (1 : Nat)) : Int) = (↑(m + (1 : Nat)) : Int) ∧ True) ∧
                                            True) = _) ?_
        (repeat' (first | (with_reducible apply And.intro) | (refine fun (_ : True) => ?_))) <;> first | with_reducible (first | rfl | exact trivial | assumption | (refine decide_eq_true ?_ <;> omega) | (refine decide_eq_false ?_ <;> omega) | (refine head_ints1 ?_ <;> omega) | (refine bne_false ?_ <;> omega) | (refine bne_true ?_ <;> omega) | (refine beq_false' ?_ <;> omega) | (refine beq_true' ?_ <;> omega) | (refine wr6' ?_ ?_ ?_ <;> omega) | (refine rem6 ?_ <;> omega) | (refine quo6 ?_ ?_ ?_ <;> omega) | exact HfL_ints _ | omega) | ((with_reducible show (_ : V) = _); rfl) | (intro hk_; exact absurd hk_ (by simp)) | (intros; simp_all; done) | (split <;> omega) | ((with_reducible show decide _ = true); exact decide_eq_true (by omega)) | ((with_reducible show decide _ = false); exact decide_eq_false (by omega)) | skip
      | true =>
        rw [indexG_fit hc hcb] at hidx
        rw [hcb] at hcomb
        have ht := then_yes
        have hn := number_ok (idxR c x)
        unfold combB at hcb
        simp only [Bool.and_eq_true, decide_eq_true_eq] at hcb
        have href := index_fn c x hg hcb.1.symm hcb.2
        refine .inl ⟨m + 1, [], [yes 121, va 122 (sl x), fn 126 (.tup [i6 (idxR c x), i6 0]), fn 132 (.bool true), fn 133 (i6 0), fn 138 (i6 (idxR c x)), fn 143 (.bool true), nu 145 (m + 1 : Nat)], 1000, hlt, by omega, ?_⟩
        refine Eq.mp (by kernel_rfl : (decide ((↑m : Int) < (2 : Int)) = true ∧
              idxV (ctxOf Try.prog) (29 : Nat) (V.agg [sl u, sl v]) (↑m : Int) = some (sl x) ∧
                (True ∧ True ∧ True) ∧
                  FnOk Try.prog T.e (41 : Nat) [V.im (List.length c) (ints c), V.im (List.length x) (ints x)]
                      (V.tup [i6 (idxR c x), i6 (0 : Int)]) ∧
                    True ∧
                      (True ∧ True ∧ True) ∧
                        FnOk Try.prog T.e (44 : Nat) [V.im (List.length c) (ints c), V.im (List.length x) (ints x)] (V.bool true) ∧
                          True ∧
                            (True ∧ True ∧ True) ∧
                              FnOk Try.prog T.e (24 : Nat) [V.int IntKind.i64 (0 : Int), V.bool true] (i6 (0 : Int)) ∧
                                ((V.fn (44 : Nat) [] = V.fn (24 : Nat) [] →
                                      [sl c, sl x] = [i6 (0 : Int), V.bool true] →
                                        ofOs T.e (0 : Nat) [] = ofOs T.e (0 : Nat) [] →
                                          (0 : Nat) = (0 : Nat) →
                                            CR.mk (V.bool true) (ofOs T.e (0 : Nat) []) (0 : Nat) [] =
                                              CR.mk (i6 (0 : Int)) (ofOs T.e (0 : Nat) []) (0 : Nat) []) ∧
                                    True) ∧
                                  (True ∧ True ∧ True) ∧
                                    FnOk Try.prog T.e (33 : Nat) [V.im (List.length c) (ints c), V.im (List.length x) (ints x)]
                                        (i6 (idxR c x)) ∧
                                      True ∧
                                        (True ∧ True ∧ True ∧ True ∧ True) ∧
                                          FnOk Try.prog T.e (26 : Nat)
                                              [V.int IntKind.i64 (idxR c x), V.int IntKind.i64 (0 : Int),
                                                V.int IntKind.i64 (0 : Int), V.int IntKind.i64 (idxR c x)]
                                              (V.bool true) ∧
                                            True ∧
                                              wr IntKind.i64 ((↑m : Int) + (1 : Int)) = (↑(m + (1 : Nat)) : Int) ∧
                                                ((List.length M = List.length M ∧ ints M = ints M) ∧
                                                    i = i ∧
                                                      k = k ∧
                                                        (List.length c = List.length c ∧ ints c = ints c) ∧
                                                          (0 : Int) = (0 : Int) ∧
                                                            prodL c = prodL c ∧
                                                              ((List.length A = List.length A ∧ ints A = ints A) ∧
                                                                  (List.length B = List.length B ∧ ints B = ints B) ∧ True) ∧
                                                                (↑j : Int) = (↑j : Int) ∧
                                                                  ((List.length u = List.length u ∧ ints u = ints u) ∧
                                                                      (List.length v = List.length v ∧ ints v = ints v) ∧ True) ∧
                                                                    (↑(m + (1 : Nat)) : Int) = (↑(m + (1 : Nat)) : Int) ∧ True) ∧
                                                  True) = _) ?_
        (repeat' (first | (with_reducible apply And.intro) | (refine fun (_ : True) => ?_))) <;> first | with_reducible (first | rfl | exact trivial | assumption | (refine decide_eq_true ?_ <;> omega) | (refine decide_eq_false ?_ <;> omega) | (refine head_ints1 ?_ <;> omega) | (refine bne_false ?_ <;> omega) | (refine bne_true ?_ <;> omega) | (refine beq_false' ?_ <;> omega) | (refine beq_true' ?_ <;> omega) | (refine wr6' ?_ ?_ ?_ <;> omega) | (refine rem6 ?_ <;> omega) | (refine quo6 ?_ ?_ ?_ <;> omega) | exact HfL_ints _ | omega) | ((with_reducible show (_ : V) = _); rfl) | (intro hk_; exact absurd hk_ (by simp)) | (intros; simp_all; done) | (split <;> omega) | ((with_reducible show decide _ = true); exact decide_eq_true (by omega)) | ((with_reducible show decide _ = false); exact decide_eq_false (by omega)) | skip
  · have : m = 2 := by omega
    subst this
    refine .inr ⟨.exit 4, [], nmS M A B c i k nq size j [], [no 121], 1000, .inl ⟨trivial, rfl, rfl⟩, ?_⟩
    refine Eq.mp (by kernel_rfl : (decide ((↑(2 : Nat) : Int) < (2 : Int)) = false ∧
          ((List.length M = List.length M ∧ ints M = ints M) ∧
              i = i ∧
                k = k ∧
                  (List.length c = List.length c ∧ ints c = ints c) ∧
                    nq = nq ∧
                      size = size ∧
                        ((List.length A = List.length A ∧ ints A = ints A) ∧
                            (List.length B = List.length B ∧ ints B = ints B) ∧ True) ∧
                          (↑j : Int) = (↑j : Int) ∧ True) ∧
            True) = _) ?_
    (repeat' (first | (with_reducible apply And.intro) | (refine fun (_ : True) => ?_))) <;> first | with_reducible (first | rfl | exact trivial | assumption | (refine decide_eq_true ?_ <;> omega) | (refine decide_eq_false ?_ <;> omega) | (refine head_ints1 ?_ <;> omega) | (refine bne_false ?_ <;> omega) | (refine bne_true ?_ <;> omega) | (refine beq_false' ?_ <;> omega) | (refine beq_true' ?_ <;> omega) | (refine wr6' ?_ ?_ ?_ <;> omega) | (refine rem6 ?_ <;> omega) | (refine quo6 ?_ ?_ ?_ <;> omega) | exact HfL_ints _ | omega) | ((with_reducible show (_ : V) = _); rfl) | (intro hk_; exact absurd hk_ (by simp)) | (intros; simp_all; done) | (split <;> omega) | ((with_reducible show decide _ = true); exact decide_eq_true (by omega)) | ((with_reducible show decide _ = false); exact decide_eq_false (by omega)) | skip

end Go.Proofs.Ytmnaidemihcfaaa.Am
