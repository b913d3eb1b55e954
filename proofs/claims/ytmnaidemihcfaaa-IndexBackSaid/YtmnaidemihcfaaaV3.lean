/- The reference of chapter 02: what its functions answer, the second part. -/
import Derived.Test.YtmnaidemihcfaaaV2
namespace Go.Proofs.Ytmnaidemihcfaaa.Am
open Go.RowKit
set_option linter.unusedVariables false
set_option maxHeartbeats 1000000
set_option maxRecDepth 100000

/-! ### Combination -/

def fitB : List Int → List Int → Bool
  | c :: cs, v :: vs => decide (0 ≤ v) && decide (v < c) && fitB cs vs
  | _, _ => true
theorem fitB_drop {L M : List Int} {k : Nat} (h : k < L.length) (h' : k < M.length) : fitB (L.drop k) (M.drop k) = (decide (0 ≤ M[k]) && decide (M[k] < L[k]) && fitB (L.drop (k + 1)) (M.drop (k + 1))) := by
  rw [List.drop_eq_getElem_cons h, List.drop_eq_getElem_cons h']; rfl
theorem horner_fit : ∀ (L M : List Int) (n : Int), (hornerQ n L M).isSome = fitB L M
  | [], _, _ => by simp [hornerQ, fitB]
  | _ :: _, [], _ => by simp [hornerQ, fitB]
  | c :: cs, v :: vs, n => by
    unfold hornerQ fitB
    by_cases h : v < 0 ∨ c ≤ v
    · rw [if_pos h]
      have : (decide (0 ≤ v) && decide (v < c)) = false := by
        rcases h with h | h
        · simp; omega
        · simp; omega
      rw [this]; rfl
    · rw [if_neg h, horner_fit cs vs]
      have : (decide (0 ≤ v) && decide (v < c)) = true := by simp; omega
      rw [this]; rfl
abbrev cbS (L M : List Int) (k : Nat) : SL := { sl := [(0, sl L), (1, sl M), (5, i6 k)] }

theorem comb_loop (L M : List Int) (b : Bool) (hl : M.length = L.length) (hb4 : L.length ≤ 4611686018427387904) (k : Nat) (hk : k ≤ L.length ∧ fitB (L.drop k) (M.drop k) = b) :
    Sat Pg none 0 (at' 44 [1, 1, 0, 1, 0]) (mkSt .e 33 (cbS L M k)) (outsP .e 33 [(b = true, .exit 0, rtE), (b = false, .ret, boE 4 false)]) := by
  refine loopC vE_ok mixed sp0_ok (b := at' 44 [1, 1, 0, 1, 0, 0]) (by kernel_rfl) (fun k => k ≤ L.length ∧ fitB (L.drop k) (M.drop k) = b) (cbS L M) (fun k => L.length - k) (fun k hk => ?_) k hk
  obtain ⟨hk, hb⟩ := hk
  by_cases hlt : k < L.length
  · have hlt' : k < M.length := by omega
    rw [fitB_drop hlt hlt'] at hb
    by_cases h1 : M[k] < 0
    · have : b = false := by rw [← hb]; simp; omega
      refine .inr ⟨.ret, [], boE 4 false, [yes 14, pl 19, ld 20 (i6 M[k]), yes 21], 1000, .inr (.inl ⟨this, rfl, rfl⟩), ?_⟩
      refine Eq.mp (by kernel_rfl : (decide ((↑k : Int) < (↑(List.length M) : Int)) = true ∧
            ((0 : Int) ≤ (↑k : Int) ∧ (↑k : Int) < (↑(List.length M) : Int)) ∧
              headF (List.drop (k * (1 : Nat)) (ints M)) = some (i6 M[k]) ∧
                decide (M[k] < (0 : Int)) = true ∧ (false = false ∧ True) ∧ True) = _) ?_
      (repeat' (first | (with_reducible apply And.intro) | (refine fun (_ : True) => ?_))) <;> first | with_reducible (first | rfl | exact trivial | assumption | (refine decide_eq_true ?_ <;> omega) | (refine decide_eq_false ?_ <;> omega) | (refine head_ints1 ?_ <;> omega) | (refine bne_false ?_ <;> omega) | (refine bne_true ?_ <;> omega) | (refine beq_false' ?_ <;> omega) | (refine beq_true' ?_ <;> omega) | (refine wr6' ?_ ?_ ?_ <;> omega) | (refine rem6 ?_ <;> omega) | (refine quo6 ?_ ?_ ?_ <;> omega) | exact HfL_ints _ | omega) | ((with_reducible show (_ : V) = _); rfl) | (intro hk_; exact absurd hk_ (by simp)) | (intros; simp_all; done) | (split <;> omega) | ((with_reducible show decide _ = true); exact decide_eq_true (by omega)) | ((with_reducible show decide _ = false); exact decide_eq_false (by omega)) | skip
    · by_cases h2 : L[k] ≤ M[k]
      · have : b = false := by rw [← hb]; simp; omega
        refine .inr ⟨.ret, [], boE 4 false, [yes 14, pl 19, ld 20 (i6 M[k]), no 21, pl 25, ld 26 (i6 M[k]), pl 29, ld 30 (i6 L[k]), yes 31], 1000, .inr (.inl ⟨this, rfl, rfl⟩), ?_⟩
        refine Eq.mp (by kernel_rfl : (decide ((↑k : Int) < (↑(List.length M) : Int)) = true ∧
              ((0 : Int) ≤ (↑k : Int) ∧ (↑k : Int) < (↑(List.length M) : Int)) ∧
                headF (List.drop (k * (1 : Nat)) (ints M)) = some (i6 M[k]) ∧
                  decide (M[k] < (0 : Int)) = false ∧
                    ((0 : Int) ≤ (↑k : Int) ∧ (↑k : Int) < (↑(List.length M) : Int)) ∧
                      headF (List.drop (k * (1 : Nat)) (ints M)) = some (i6 M[k]) ∧
                        ((0 : Int) ≤ (↑k : Int) ∧ (↑k : Int) < (↑(List.length L) : Int)) ∧
                          headF (List.drop (k * (1 : Nat)) (ints L)) = some (i6 L[k]) ∧
                            decide (M[k] ≥ L[k]) = true ∧ (false = false ∧ True) ∧ True) = _) ?_
        (repeat' (first | (with_reducible apply And.intro) | (refine fun (_ : True) => ?_))) <;> first | with_reducible (first | rfl | exact trivial | assumption | (refine decide_eq_true ?_ <;> omega) | (refine decide_eq_false ?_ <;> omega) | (refine head_ints1 ?_ <;> omega) | (refine bne_false ?_ <;> omega) | (refine bne_true ?_ <;> omega) | (refine beq_false' ?_ <;> omega) | (refine beq_true' ?_ <;> omega) | (refine wr6' ?_ ?_ ?_ <;> omega) | (refine rem6 ?_ <;> omega) | (refine quo6 ?_ ?_ ?_ <;> omega) | exact HfL_ints _ | omega) | ((with_reducible show (_ : V) = _); rfl) | (intro hk_; exact absurd hk_ (by simp)) | (intros; simp_all; done) | (split <;> omega) | ((with_reducible show decide _ = true); exact decide_eq_true (by omega)) | ((with_reducible show decide _ = false); exact decide_eq_false (by omega)) | skip
      · have : fitB (L.drop (k + 1)) (M.drop (k + 1)) = b := by
          rw [← hb]
          have : (decide (0 ≤ M[k]) && decide (M[k] < L[k])) = true := by simp; omega
          rw [this]; rfl
        refine .inl ⟨k + 1, [], [yes 14, pl 19, ld 20 (i6 M[k]), no 21, pl 25, ld 26 (i6 M[k]), pl 29, ld 30 (i6 L[k]), no 31, nu 16 (k + 1 : Nat)], 1000, ⟨hlt, this⟩, by omega, ?_⟩
        refine Eq.mp (by kernel_rfl : (decide ((↑k : Int) < (↑(List.length M) : Int)) = true ∧
              ((0 : Int) ≤ (↑k : Int) ∧ (↑k : Int) < (↑(List.length M) : Int)) ∧
                headF (List.drop (k * (1 : Nat)) (ints M)) = some (i6 M[k]) ∧
                  decide (M[k] < (0 : Int)) = false ∧
                    ((0 : Int) ≤ (↑k : Int) ∧ (↑k : Int) < (↑(List.length M) : Int)) ∧
                      headF (List.drop (k * (1 : Nat)) (ints M)) = some (i6 M[k]) ∧
                        ((0 : Int) ≤ (↑k : Int) ∧ (↑k : Int) < (↑(List.length L) : Int)) ∧
                          headF (List.drop (k * (1 : Nat)) (ints L)) = some (i6 L[k]) ∧
                            decide (M[k] ≥ L[k]) = false ∧
                              wr IntKind.i64 ((↑k : Int) + (1 : Int)) = (↑(k + (1 : Nat)) : Int) ∧
                                ((List.length L = List.length L ∧ ints L = ints L) ∧
                                    (List.length M = List.length M ∧ ints M = ints M) ∧
                                      (↑(k + (1 : Nat)) : Int) = (↑(k + (1 : Nat)) : Int) ∧ True) ∧
                                  True) = _) ?_
        (repeat' (first | (with_reducible apply And.intro) | (refine fun (_ : True) => ?_))) <;> first | with_reducible (first | rfl | exact trivial | assumption | (refine decide_eq_true ?_ <;> omega) | (refine decide_eq_false ?_ <;> omega) | (refine head_ints1 ?_ <;> omega) | (refine bne_false ?_ <;> omega) | (refine bne_true ?_ <;> omega) | (refine beq_false' ?_ <;> omega) | (refine beq_true' ?_ <;> omega) | (refine wr6' ?_ ?_ ?_ <;> omega) | (refine rem6 ?_ <;> omega) | (refine quo6 ?_ ?_ ?_ <;> omega) | exact HfL_ints _ | omega) | ((with_reducible show (_ : V) = _); rfl) | (intro hk_; exact absurd hk_ (by simp)) | (intros; simp_all; done) | (split <;> omega) | ((with_reducible show decide _ = true); exact decide_eq_true (by omega)) | ((with_reducible show decide _ = false); exact decide_eq_false (by omega)) | skip
  · refine .inr ⟨.exit 0, [], rtE, [no 14], 1000, .inl ⟨?_, rfl, rfl⟩, ?_⟩
    · rw [← hb, List.drop_of_length_le (by omega)]; simp [fitB]
    refine Eq.mp (by kernel_rfl : (decide ((↑k : Int) < (↑(List.length M) : Int)) = false ∧ True ∧ True) = _) ?_
    (repeat' (first | (with_reducible apply And.intro) | (refine fun (_ : True) => ?_))) <;> first | with_reducible (first | rfl | exact trivial | assumption | (refine decide_eq_true ?_ <;> omega) | (refine decide_eq_false ?_ <;> omega) | (refine head_ints1 ?_ <;> omega) | (refine bne_false ?_ <;> omega) | (refine bne_true ?_ <;> omega) | (refine beq_false' ?_ <;> omega) | (refine beq_true' ?_ <;> omega) | (refine wr6' ?_ ?_ ?_ <;> omega) | (refine rem6 ?_ <;> omega) | (refine quo6 ?_ ?_ ?_ <;> omega) | exact HfL_ints _ | omega) | ((with_reducible show (_ : V) = _); rfl) | (intro hk_; exact absurd hk_ (by simp)) | (intros; simp_all; done) | (split <;> omega) | ((with_reducible show decide _ = true); exact decide_eq_true (by omega)) | ((with_reducible show decide _ = false); exact decide_eq_false (by omega)) | skip

def combB (L M : List Int) : Bool := decide (M.length = L.length) && fitB L M

theorem comb_ok (L M : List Int) (hb4 : L.length ≤ 4611686018427387904) : FnOk Pg .e 44 [sl L, sl M] (.bool (combB L M)) := by
  by_cases hl : M.length = L.length
  · have : combB L M = fitB L M := by simp [combB, hl]
    rw [this]
    refine FnOk.of_vc vE_ok mixed sp0_ok (n := 1000) (r := []) (S := boE 4 (fitB L M)) (hs := [no 10, (0, .loop [] (cbS L M 0) [(fitB L M = true, .exit 0, rtE), (fitB L M = false, .ret, boE 4 false)])]) ?_
    refine Eq.mp (by kernel_rfl : (V.bool (fitB L M) = V.bool (fitB L M) ∧
          ((↑(List.length M) : Int) != (↑(List.length L) : Int)) = false ∧
            (((List.length L = List.length L ∧ ints L = ints L) ∧
                  (List.length M = List.length M ∧ ints M = ints M) ∧ (↑(0 : Nat) : Int) = (0 : Int) ∧ True) ∧
                True) ∧
              Sat Try.prog none (0 : Nat) (at' (44 : Nat) [(1 : Nat), (1 : Nat), (0 : Nat), (1 : Nat), (0 : Nat)])
                  (mkSt T.e (33 : Nat) (cbS L M (0 : Nat)))
                  (outsP T.e (33 : Nat)
                    [(fitB L M = true, Ex.exit (0 : Nat), rtE), (fitB L M = false, Ex.ret, boE (4 : Nat) false)]) ∧
                (fitB L M = true → (fitB L M = true ∧ True) ∧ True) ∧
                  (fitB L M = false → (fitB L M = false ∧ True) ∧ True) ∧ True) = _) ?_
    refine ⟨rfl, bne_false (by omega), ⟨⟨⟨rfl, rfl⟩, ⟨rfl, rfl⟩, rfl, trivial⟩, trivial⟩, comb_loop L M _ hl hb4 0 ⟨Nat.zero_le _, rfl⟩, fun h => ⟨⟨h, trivial⟩, trivial⟩, fun h => ⟨⟨h, trivial⟩, trivial⟩, trivial⟩
  · have : combB L M = false := by simp [combB, hl]
    rw [this]
    refine FnOk.of_vc vE_ok mixed sp0_ok (n := 1000) (r := []) (S := boE 4 false) (hs := [yes 10]) ?_
    refine Eq.mp (by kernel_rfl : (V.bool false = V.bool false ∧
          ((↑(List.length M) : Int) != (↑(List.length L) : Int)) = true ∧ (false = false ∧ True) ∧ True) = _) ?_
    (repeat' (first | (with_reducible apply And.intro) | (refine fun (_ : True) => ?_))) <;> first | with_reducible (first | rfl | exact trivial | assumption | (refine decide_eq_true ?_ <;> omega) | (refine decide_eq_false ?_ <;> omega) | (refine head_ints1 ?_ <;> omega) | (refine bne_false ?_ <;> omega) | (refine bne_true ?_ <;> omega) | (refine beq_false' ?_ <;> omega) | (refine beq_true' ?_ <;> omega) | (refine wr6' ?_ ?_ ?_ <;> omega) | (refine rem6 ?_ <;> omega) | (refine quo6 ?_ ?_ ?_ <;> omega) | exact HfL_ints _ | omega) | ((with_reducible show (_ : V) = _); rfl) | (intro hk_; exact absurd hk_ (by simp)) | (intros; simp_all; done) | (split <;> omega) | ((with_reducible show decide _ = true); exact decide_eq_true (by omega)) | ((with_reducible show decide _ = false); exact decide_eq_false (by omega)) | skip

/-! ### Index -/

def kIdx : Nat → Int
  | 0 => -1
  | j + 1 => j
theorem kIdx0 : kIdx 0 = -1 := rfl
theorem kIdxS (j : Nat) : kIdx (j + 1) = j := rfl
/-- the number of a combination, from the right -/
def idxR : List Int → List Int → Int
  | _ :: cs, v :: vs => v * prodL cs + idxR cs vs
  | _, _ => 0
theorem idxR_drop {L M : List Int} {k : Nat} (h : k < L.length) (h' : k < M.length) : idxR (L.drop k) (M.drop k) = M[k] * prodL (L.drop (k + 1)) + idxR (L.drop (k + 1)) (M.drop (k + 1)) := by
  rw [List.drop_eq_getElem_cons h, List.drop_eq_getElem_cons h']; rfl
theorem idxR_bd : ∀ (L M : List Int), L.length = M.length → (∀ c ∈ L, 1 ≤ c) → fitB L M = true → 0 ≤ idxR L M ∧ idxR L M < prodL L
  | [], [], _, _, _ => by simp [idxR, prodL]
  | c :: cs, v :: vs, hl, hc, hf => by
    unfold fitB at hf
    simp only [Bool.and_eq_true, decide_eq_true_eq] at hf
    obtain ⟨a, b⟩ := idxR_bd cs vs (by simpa using hl) (fun x hx => hc x (List.mem_cons_of_mem _ hx)) hf.2
    have hp := prodL_pos cs (fun x hx => hc x (List.mem_cons_of_mem _ hx))
    have h1 : 0 ≤ v * prodL cs := Int.mul_nonneg hf.1.1 (by omega)
    have h2 : (v + 1) * prodL cs ≤ c * prodL cs := Int.mul_le_mul_of_nonneg_right (by omega) (by omega)
    rw [Int.add_mul, Int.one_mul] at h2
    simp only [idxR, prodL]
    omega
  | [], _ :: _, hl, _, _ => by simp at hl
  | _ :: _, [], hl, _, _ => by simp at hl
theorem fitB_dropT {L M : List Int} (h : fitB L M = true) : ∀ k, fitB (L.drop k) (M.drop k) = true := by
  intro k
  induction k generalizing L M with
  | zero => simpa using h
  | succ k ih =>
    cases L with
    | nil => simp [fitB]
    | cons c cs =>
      cases M with
      | nil => simp only [List.drop_nil]; cases (cs.drop k) <;> simp [fitB]
      | cons v vs =>
        unfold fitB at h
        simp only [Bool.and_eq_true] at h
        simpa using ih h.2
theorem fitB_at {L M : List Int} (h : fitB L M = true) {k : Nat} (hk : k < L.length) (hk' : k < M.length) : 0 ≤ M[k] ∧ M[k] < L[k] := by
  have := fitB_dropT h k
  rw [fitB_drop hk hk'] at this
  simp only [Bool.and_eq_true, decide_eq_true_eq] at this
  exact this.1
abbrev ixS (L M : List Int) (j : Nat) : SL := { sl := [(0, sl L), (1, sl M), (5, i6 (idxR (L.drop j) (M.drop j))), (6, i6 (prodL (L.drop j))), (7, i6 (kIdx j))] }
abbrev ixE (L M : List Int) : SL := { sl := [(5, i6 (idxR L M))] }

theorem index_loop (L M : List Int) (hg : Good L) (hl : L.length = M.length) (hf : fitB L M = true) (j : Nat) (hj : j ≤ L.length) :
    Sat Pg none 0 (at' 33 [1, 1, 0, 1, 0]) (mkSt .e 30 (ixS L M j)) (outsP .e 30 [(True, .exit 0, ixE L M)]) := by
  refine loopC vE_ok mixed sp0_ok (b := at' 33 [1, 1, 0, 1, 0, 0]) (by kernel_rfl) (fun j => j ≤ L.length) (ixS L M) (fun j => j) (fun j hj => ?_) j hj
  have hlen := hg.len
  cases j with
  | zero =>
    refine .inr ⟨.exit 0, [], ixE L M, [no 12], 1000, .inl ⟨trivial, rfl, rfl⟩, ?_⟩
    refine Eq.mp (by kernel_rfl : (decide ((-1 : Int) ≥ (0 : Int)) = false ∧
          (idxR L M = idxR (List.drop (0 : Nat) L) (List.drop (0 : Nat) M) ∧ True) ∧ True) = _) ?_
    (repeat' (first | (with_reducible apply And.intro) | (refine fun (_ : True) => ?_))) <;> first | with_reducible (first | rfl | exact trivial | assumption | (refine decide_eq_true ?_ <;> omega) | (refine decide_eq_false ?_ <;> omega) | (refine head_ints1 ?_ <;> omega) | (refine bne_false ?_ <;> omega) | (refine bne_true ?_ <;> omega) | (refine beq_false' ?_ <;> omega) | (refine beq_true' ?_ <;> omega) | (refine wr6' ?_ ?_ ?_ <;> omega) | (refine rem6 ?_ <;> omega) | (refine quo6 ?_ ?_ ?_ <;> omega) | exact HfL_ints _ | omega) | ((with_reducible show (_ : V) = _); rfl) | (intro hk_; exact absurd hk_ (by simp)) | (intros; simp_all; done) | (split <;> omega) | ((with_reducible show decide _ = true); exact decide_eq_true (by omega)) | ((with_reducible show decide _ = false); exact decide_eq_false (by omega)) | skip
    all_goals simp
  | succ j =>
    have h1 : j < L.length := hj
    have h2 : j < M.length := by omega
    obtain ⟨a1, a2⟩ := fitB_at hf h1 h2
    obtain ⟨b1, b2⟩ := idxR_bd (L.drop j) (M.drop j) (by simp; omega) (fun c hc => (hg.card c (List.mem_of_mem_drop hc)).1) (fitB_dropT hf j)
    obtain ⟨c1, c2⟩ := idxR_bd (L.drop (j + 1)) (M.drop (j + 1)) (by simp; omega) (fun c hc => (hg.card c (List.mem_of_mem_drop hc)).1) (fitB_dropT hf (j + 1))
    have d1 := prodL_drop_le hg j
    have d2 := prodL_drop_pos hg j
    have e1 := idxR_drop h1 h2
    have e2 := prodL_drop h1
    have e3 : prodL (L.drop (j + 1)) * L[j] = prodL (L.drop j) := by rw [e2, Int.mul_comm]
    have n1 : 0 ≤ M[j] * prodL (L.drop (j + 1)) := Int.mul_nonneg a1 (by have := prodL_drop_pos hg (j + 1); omega)
    have hk : (j : Int) - 1 = kIdx j := by cases j <;> simp [kIdx] <;> omega
    refine .inl ⟨j, [], [yes 12, pl 18, ld 19 (i6 M[j]), nu 21 (M[j] * prodL (L.drop (j + 1))), nu 22 (idxR (L.drop j) (M.drop j)), pl 26, ld 27 (i6 L[j]), nu 28 (prodL (L.drop j)), nu 14 (kIdx j)], 1000, by omega, Nat.lt_succ_self j, ?_⟩
    refine Eq.mp (by kernel_rfl : (decide ((↑j : Int) ≥ (0 : Int)) = true ∧
          ((0 : Int) ≤ (↑j : Int) ∧ (↑j : Int) < (↑(List.length M) : Int)) ∧
            headF (List.drop (j * (1 : Nat)) (ints M)) = some (i6 M[j]) ∧
              wr IntKind.i64 (M[j] * prodL (List.drop (j + (1 : Nat)) L)) = M[j] * prodL (List.drop (j + (1 : Nat)) L) ∧
                wr IntKind.i64
                      (idxR (List.drop (j + (1 : Nat)) L) (List.drop (j + (1 : Nat)) M) +
                        M[j] * prodL (List.drop (j + (1 : Nat)) L)) =
                    idxR (List.drop j L) (List.drop j M) ∧
                  ((0 : Int) ≤ (↑j : Int) ∧ (↑j : Int) < (↑(List.length L) : Int)) ∧
                    headF (List.drop (j * (1 : Nat)) (ints L)) = some (i6 L[j]) ∧
                      wr IntKind.i64 (prodL (List.drop (j + (1 : Nat)) L) * L[j]) = prodL (List.drop j L) ∧
                        wr IntKind.i64 ((↑j : Int) - (1 : Int)) = kIdx j ∧
                          ((List.length L = List.length L ∧ ints L = ints L) ∧
                              (List.length M = List.length M ∧ ints M = ints M) ∧
                                idxR (List.drop j L) (List.drop j M) = idxR (List.drop j L) (List.drop j M) ∧
                                  prodL (List.drop j L) = prodL (List.drop j L) ∧ kIdx j = kIdx j ∧ True) ∧
                            True) = _) ?_
    (repeat' (first | (with_reducible apply And.intro) | (refine fun (_ : True) => ?_))) <;> first | with_reducible (first | rfl | exact trivial | assumption | (refine decide_eq_true ?_ <;> omega) | (refine decide_eq_false ?_ <;> omega) | (refine head_ints1 ?_ <;> omega) | (refine bne_false ?_ <;> omega) | (refine bne_true ?_ <;> omega) | (refine beq_false' ?_ <;> omega) | (refine beq_true' ?_ <;> omega) | (refine wr6' ?_ ?_ ?_ <;> omega) | (refine rem6 ?_ <;> omega) | (refine quo6 ?_ ?_ ?_ <;> omega) | exact HfL_ints _ | omega) | ((with_reducible show (_ : V) = _); rfl) | (intro hk_; exact absurd hk_ (by simp)) | (intros; simp_all; done) | (split <;> omega) | ((with_reducible show decide _ = true); exact decide_eq_true (by omega)) | ((with_reducible show decide _ = false); exact decide_eq_false (by omega)) | skip

theorem index_fn (L M : List Int) (hg : Good L) (hl : L.length = M.length) (hf : fitB L M = true) : FnOk Pg .e 33 [sl L, sl M] (i6 (idxR L M)) := by
  have hlen := hg.len
  have hk : (L.length : Int) - 1 = kIdx L.length := by cases L.length <;> simp [kIdx] <;> omega
  refine FnOk.of_vc vE_ok mixed sp0_ok (n := 1000) (r := []) (S := { sl := [(4, i6 (idxR L M))] }) (hs := [nu 10 (kIdx L.length), lp (ixS L M L.length) (.exit 0) (ixE L M)]) ?_
  refine Eq.mp (by kernel_rfl : (i6 (idxR L M) = i6 (idxR L M) ∧
        wr IntKind.i64 ((↑(List.length L) : Int) - (1 : Int)) = kIdx (List.length L) ∧
          (((List.length L = List.length L ∧ ints L = ints L) ∧
                (List.length M = List.length M ∧ ints M = ints M) ∧
                  idxR (List.drop (List.length L) L) (List.drop (List.length L) M) = (0 : Int) ∧
                    prodL (List.drop (List.length L) L) = (1 : Int) ∧ kIdx (List.length L) = kIdx (List.length L) ∧ True) ∧
              True) ∧
            Sat Try.prog none (0 : Nat) (at' (33 : Nat) [(1 : Nat), (1 : Nat), (0 : Nat), (1 : Nat), (0 : Nat)])
                (mkSt T.e (30 : Nat) (ixS L M (List.length L))) (outsP T.e (30 : Nat) [(True, Ex.exit (0 : Nat), ixE L M)]) ∧
              (True → (idxR L M = idxR L M ∧ True) ∧ True) ∧ True) = _) ?_
  (repeat' (first | (with_reducible apply And.intro) | (refine fun (_ : True) => ?_))) <;> first | with_reducible (first | rfl | exact trivial | assumption | (refine decide_eq_true ?_ <;> omega) | (refine decide_eq_false ?_ <;> omega) | (refine head_ints1 ?_ <;> omega) | (refine bne_false ?_ <;> omega) | (refine bne_true ?_ <;> omega) | (refine beq_false' ?_ <;> omega) | (refine beq_true' ?_ <;> omega) | (refine wr6' ?_ ?_ ?_ <;> omega) | (refine rem6 ?_ <;> omega) | (refine quo6 ?_ ?_ ?_ <;> omega) | exact HfL_ints _ | omega) | ((with_reducible show (_ : V) = _); rfl) | (intro hk_; exact absurd hk_ (by simp)) | (intros; simp_all; done) | (split <;> omega) | ((with_reducible show decide _ = true); exact decide_eq_true (by omega)) | ((with_reducible show decide _ = false); exact decide_eq_false (by omega)) | skip
  · rw [List.drop_length]; simp [idxR]
  · rw [List.drop_length]; rfl
  · exact index_loop L M hg hl hf L.length (Nat.le_refl _)

/-! ### Values -/

/-- the combination with a number, from the right -/
def valR : List Int → Int → List Int
  | [], _ => []
  | c :: cs, i => (i / prodL cs) % c :: valR cs i
theorem valR_length : ∀ (L : List Int) (i : Int), (valR L i).length = L.length
  | [], _ => rfl
  | _ :: cs, i => by simp [valR, valR_length cs]
theorem valR_mod : ∀ (cs : List Int) (i m : Int), (∀ c ∈ cs, 1 ≤ c) → (prodL cs ∣ m) → valR cs (i % m) = valR cs i
  | [], _, _, _, _ => rfl
  | c :: cs, i, m, hc, hm => by
    have hp := prodL_pos cs (fun x hx => hc x (List.mem_cons_of_mem _ hx))
    simp only [prodL] at hm
    simp only [valR]
    rw [valR_mod cs i m (fun x hx => hc x (List.mem_cons_of_mem _ hx)) (Int.dvd_trans (Int.dvd_mul_left c (prodL cs)) hm)]
    congr 1
    obtain ⟨q, rfl⟩ := hm
    have h := Int.emod_add_mul_ediv i (c * prodL cs * q)
    have : i / prodL cs = i % (c * prodL cs * q) / prodL cs + c * (q * (i / (c * prodL cs * q))) := by
      have e : i = i % (c * prodL cs * q) + (c * (q * (i / (c * prodL cs * q)))) * prodL cs := by
        have : (c * (q * (i / (c * prodL cs * q)))) * prodL cs = c * prodL cs * q * (i / (c * prodL cs * q)) := by
          simp only [Int.mul_assoc, Int.mul_comm, Int.mul_left_comm]
        omega
      calc i / prodL cs = (i % (c * prodL cs * q) + (c * (q * (i / (c * prodL cs * q)))) * prodL cs) / prodL cs := by rw [← e]
        _ = _ := Int.add_mul_ediv_right _ _ (by omega)
    rw [this, Int.add_mul_emod_self_left]
theorem valR_valL : ∀ (L : List Int) (i : Int), (∀ c ∈ L, 1 ≤ c) → 0 ≤ i → i < prodL L → valR L i = valL L i
  | [], _, _, _, _ => rfl
  | c :: cs, i, hc, h0, h1 => by
    have hc1 := hc c List.mem_cons_self
    have hcs : ∀ x ∈ cs, 1 ≤ x := fun x hx => hc x (List.mem_cons_of_mem _ hx)
    have hp := prodL_pos cs hcs
    rw [valL_cons hc1]
    simp only [valR]
    have hq : i / prodL cs < c := Int.ediv_lt_of_lt_mul (by omega) (by simpa [prodL] using h1)
    have hq0 : 0 ≤ i / prodL cs := Int.ediv_nonneg h0 (by omega)
    rw [Int.emod_eq_of_lt hq0 hq, ← valR_valL cs (i % prodL cs) hcs (Int.emod_nonneg _ (by omega)) (Int.emod_lt_of_pos _ (by omega)), valR_mod cs i _ hcs (Int.dvd_refl _)]

abbrev vlRow (L : List Int) (i : Int) (j : Nat) : List Int := List.replicate j 0 ++ valR (L.drop j) i
abbrev vlS (L : List Int) (i : Int) (j : Nat) : SL := { sl := [(0, sl L), (1, i6 (i / prodL (L.drop j))), (5, .sl 0 0 L.length (some (L.length - L.length))), (6, i6 (kIdx j))], os := [.row 3 none (ints (vlRow L i j))] }
abbrev vlE (L : List Int) (i : Int) : SL := { sl := [(5, .sl 0 0 L.length (some (L.length - L.length)))], os := [.row 3 none (ints (valR L i))] }

theorem vlRow_set {L : List Int} {i : Int} {j : Nat} (h : j < L.length) : (vlRow L i (j + 1)).set j ((i / prodL (L.drop (j + 1))) % L[j]) = vlRow L i j := by
  unfold vlRow
  rw [List.drop_eq_getElem_cons h, valR, List.replicate_succ', List.append_assoc, List.set_append]
  simp

theorem values_loop (L : List Int) (i : Int) (hg : Good L) (h0 : 0 ≤ i) (hi : i ≤ 4611686018427387904) (j : Nat) (hj : j ≤ L.length) :
    Sat Pg none 0 (at' 34 [1, 1, 0, 1, 0]) (mkSt .e 33 (vlS L i j)) (outsP .e 33 [(True, .exit 0, vlE L i)]) := by
  refine loopC vE_ok mixed sp0_ok (b := at' 34 [1, 1, 0, 1, 0, 0]) (by kernel_rfl) (fun j => j ≤ L.length) (vlS L i) (fun j => j) (fun j hj => ?_) j hj
  have hlen := hg.len
  cases j with
  | zero =>
    refine .inr ⟨.exit 0, [0], vlE L i, [no 14], 1000, .inl ⟨trivial, rfl, rfl⟩, ?_⟩
    refine Eq.mp (by kernel_rfl : (decide ((-1 : Int) ≥ (0 : Int)) = false ∧
          (((0 : Nat) = (0 : Nat) ∧
                List.length L = List.length L ∧ List.length L - List.length L = List.length L - List.length L) ∧
              True) ∧
            (ints (valR L i) = ints (vlRow L i (0 : Nat)) ∧ HfL (ints (valR L i))) ∧ True) = _) ?_
    (repeat' (first | (with_reducible apply And.intro) | (refine fun (_ : True) => ?_))) <;> first | with_reducible (first | rfl | exact trivial | assumption | (refine decide_eq_true ?_ <;> omega) | (refine decide_eq_false ?_ <;> omega) | (refine head_ints1 ?_ <;> omega) | (refine bne_false ?_ <;> omega) | (refine bne_true ?_ <;> omega) | (refine beq_false' ?_ <;> omega) | (refine beq_true' ?_ <;> omega) | (refine wr6' ?_ ?_ ?_ <;> omega) | (refine rem6 ?_ <;> omega) | (refine quo6 ?_ ?_ ?_ <;> omega) | exact HfL_ints _ | omega) | ((with_reducible show (_ : V) = _); rfl) | (intro hk_; exact absurd hk_ (by simp)) | (intros; simp_all; done) | (split <;> omega) | ((with_reducible show decide _ = true); exact decide_eq_true (by omega)) | ((with_reducible show decide _ = false); exact decide_eq_false (by omega)) | skip
    simp [vlRow]
  | succ j =>
    have h1 : j < L.length := hj
    have a := hg.at_ h1
    have p1 := prodL_drop_pos hg (j + 1)
    have q0 : 0 ≤ i / prodL (L.drop (j + 1)) := Int.ediv_nonneg h0 (by omega)
    have q1 : i / prodL (L.drop (j + 1)) ≤ i := Int.ediv_le_self _ h0
    have e1 : (i / prodL (L.drop (j + 1))).tmod L[j] = (i / prodL (L.drop (j + 1))) % L[j] := Int.tmod_eq_emod_of_nonneg q0
    have e2 : (i / prodL (L.drop (j + 1))).tdiv L[j] = i / prodL (L.drop j) := by
      rw [Int.tdiv_eq_ediv_of_nonneg q0, prodL_drop h1, Int.mul_comm, Int.ediv_ediv_of_nonneg (by omega)]
    have q2 : 0 ≤ i / prodL (L.drop j) := Int.ediv_nonneg h0 (by have := prodL_drop_pos hg j; omega)
    have q3 : i / prodL (L.drop j) ≤ i := Int.ediv_le_self _ h0
    have hk : (j : Int) - 1 = kIdx j := by cases j <;> simp [kIdx] <;> omega
    have hlen2 : (vlRow L i (j + 1)).length = L.length := by simp [vlRow, valR_length]; omega
    refine .inl ⟨j, [0], [yes 14, pl 22, ld 23 (i6 L[j]), va 24 (i6 ((i / prodL (L.drop (j + 1))).tmod L[j])), pl 25, st (ints (vlRow L i j)), pl 29, ld 30 (i6 L[j]), va 31 (i6 ((i / prodL (L.drop (j + 1))).tdiv L[j])), nu 16 (kIdx j)], 1000, by omega, Nat.lt_succ_self j, ?_⟩
    refine Eq.mp (by kernel_rfl : (decide ((↑j : Int) ≥ (0 : Int)) = true ∧
          ((0 : Int) ≤ (↑j : Int) ∧ (↑j : Int) < (↑(List.length L) : Int)) ∧
            headF (List.drop (j * (1 : Nat)) (ints L)) = some (i6 L[j]) ∧
              binV (ctxOf Try.prog) BinOp.rem (3 : Nat) (i6 (i / prodL (List.drop (j + (1 : Nat)) L))) (i6 L[j]) =
                  some (i6 (Int.tmod (i / prodL (List.drop (j + (1 : Nat)) L)) L[j])) ∧
                ((0 : Int) ≤ (↑j : Int) ∧ (↑j : Int) < (↑(List.length L) : Int)) ∧
                  layE ((0 : Nat) + j * (1 : Nat)) (ints (vlRow L i (j + (1 : Nat))))
                        [i6 (Int.tmod (i / prodL (List.drop (j + (1 : Nat)) L)) L[j])] =
                      some (ints (vlRow L i j)) ∧
                    ((0 : Int) ≤ (↑j : Int) ∧ (↑j : Int) < (↑(List.length L) : Int)) ∧
                      headF (List.drop (j * (1 : Nat)) (ints L)) = some (i6 L[j]) ∧
                        binV (ctxOf Try.prog) BinOp.quo (3 : Nat) (i6 (i / prodL (List.drop (j + (1 : Nat)) L))) (i6 L[j]) =
                            some (i6 (Int.tdiv (i / prodL (List.drop (j + (1 : Nat)) L)) L[j])) ∧
                          wr IntKind.i64 ((↑j : Int) - (1 : Int)) = kIdx j ∧
                            ((List.length L = List.length L ∧ ints L = ints L) ∧
                                i / prodL (List.drop j L) = Int.tdiv (i / prodL (List.drop (j + (1 : Nat)) L)) L[j] ∧
                                  ((0 : Nat) = (0 : Nat) ∧
                                      List.length L = List.length L ∧
                                        List.length L - List.length L = List.length L - List.length L) ∧
                                    kIdx j = kIdx j ∧ True) ∧
                              (ints (vlRow L i j) = ints (vlRow L i j) ∧ HfL (ints (vlRow L i j))) ∧ True) = _) ?_
    (repeat' (first | (with_reducible apply And.intro) | (refine fun (_ : True) => ?_))) <;> first | with_reducible (first | rfl | exact trivial | assumption | (refine decide_eq_true ?_ <;> omega) | (refine decide_eq_false ?_ <;> omega) | (refine head_ints1 ?_ <;> omega) | (refine bne_false ?_ <;> omega) | (refine bne_true ?_ <;> omega) | (refine beq_false' ?_ <;> omega) | (refine beq_true' ?_ <;> omega) | (refine wr6' ?_ ?_ ?_ <;> omega) | (refine rem6 ?_ <;> omega) | (refine quo6 ?_ ?_ ?_ <;> omega) | exact HfL_ints _ | omega) | ((with_reducible show (_ : V) = _); rfl) | (intro hk_; exact absurd hk_ (by simp)) | (intros; simp_all; done) | (split <;> omega) | ((with_reducible show decide _ = true); exact decide_eq_true (by omega)) | ((with_reducible show decide _ = false); exact decide_eq_false (by omega)) | skip
    rw [e1, ← vlRow_set h1]; exact lay_ints (by omega)

theorem values_fn (L : List Int) (i : Int) (hg : Good L) (h0 : 0 ≤ i) (hi : i < prodL L) : FnOk Pg .e 34 [sl L, i6 i] (sl (valL L i)) := by
  have hlen := hg.len
  have hle := hg.le
  have hk : (L.length : Int) - 1 = kIdx L.length := by cases L.length <;> simp [kIdx] <;> omega
  rw [← valR_valL L i (fun c hc => (hg.card c hc).1) h0 hi]
  refine FnOk.of_vc vE_ok mixed sp0_ok (n := 1000) (r := []) (S := { sl := [(4, sl (valR L i))] }) (hs := [mk 9, nu 12 (kIdx L.length), (0, .loop [0] (vlS L i L.length) [(True, .exit 0, vlE L i)])]) ?_
  refine Eq.mp (by kernel_rfl : (sl (valR L i) = sl (valR L i) ∧
        ((0 : Int) ≤ (↑(List.length L) : Int) ∧
            (↑(List.length L) : Int) ≤ (↑(List.length L) : Int) ∧
              (↑(8 : Nat) : Int) * (↑(List.length L) : Int) ≤ (281474976710656 : Int) ∧
                (↑(List.length L) : Int) ≤ (9223372036854775807 : Int)) ∧
          wr IntKind.i64 ((↑(List.length L) : Int) - (1 : Int)) = kIdx (List.length L) ∧
            (((List.length L = List.length L ∧ ints L = ints L) ∧
                  i / prodL (List.drop (List.length L) L) = i ∧
                    ((0 : Nat) = (0 : Nat) ∧
                        List.length L = List.length L ∧ List.length L - List.length L = List.length L - List.length L) ∧
                      kIdx (List.length L) = kIdx (List.length L) ∧ True) ∧
                (ints (vlRow L i (List.length L)) = rep (List.length L) [V.int IntKind.i64 (0 : Int)] ∧
                    HfL (ints (vlRow L i (List.length L)))) ∧
                  True) ∧
              Sat Try.prog none (0 : Nat) (at' (34 : Nat) [(1 : Nat), (1 : Nat), (0 : Nat), (1 : Nat), (0 : Nat)])
                  (mkSt T.e (33 : Nat) (vlS L i (List.length L)))
                  (outsP T.e (33 : Nat) [(True, Ex.exit (0 : Nat), vlE L i)]) ∧
                (True →
                    ((List.length (valR L i) = List.length L ∧ ints (valR L i) = ints (valR L i) ∧ HfL (ints (valR L i))) ∧
                        True) ∧
                      True) ∧
                  True) = _) ?_
  (repeat' (first | (with_reducible apply And.intro) | (refine fun (_ : True) => ?_))) <;> first | with_reducible (first | rfl | exact trivial | assumption | (refine decide_eq_true ?_ <;> omega) | (refine decide_eq_false ?_ <;> omega) | (refine head_ints1 ?_ <;> omega) | (refine bne_false ?_ <;> omega) | (refine bne_true ?_ <;> omega) | (refine beq_false' ?_ <;> omega) | (refine beq_true' ?_ <;> omega) | (refine wr6' ?_ ?_ ?_ <;> omega) | (refine rem6 ?_ <;> omega) | (refine quo6 ?_ ?_ ?_ <;> omega) | exact HfL_ints _ | omega) | ((with_reducible show (_ : V) = _); rfl) | (intro hk_; exact absurd hk_ (by simp)) | (intros; simp_all; done) | (split <;> omega) | ((with_reducible show decide _ = true); exact decide_eq_true (by omega)) | ((with_reducible show decide _ = false); exact decide_eq_false (by omega)) | skip
  · rw [List.drop_length]; simp [prodL]
  · rw [rep_ints]; simp [vlRow, valR]
  · exact values_loop L i hg h0 (by omega) L.length (Nat.le_refl _)
  · rw [valR_length]

end Go.Proofs.Ytmnaidemihcfaaa.Am
