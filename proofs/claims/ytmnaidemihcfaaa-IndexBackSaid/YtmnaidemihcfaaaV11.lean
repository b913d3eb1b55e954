/- The reference of chapter 02: Permutation, the drafted permutation; Permute by the reference's words. Printed by wip/gen11.py. -/
import Derived.Test.YtmnaidemihcfaaaV9
namespace Go.Proofs.Ytmnaidemihcfaaa.Am
open Go.RowKit
set_option linter.unusedVariables false
set_option maxHeartbeats 1000000
set_option maxRecDepth 100000

/-! ### bits seen, as a list of bools -/
def seenB (s n : Nat) : List V := (List.range n).map fun k => V.bool (s.testBit k)
theorem seenB_length (s n : Nat) : (seenB s n).length = n := by simp [seenB]
theorem HfL_map_bool (f : Nat → Bool) : ∀ l : List Nat, HfL (l.map fun k => V.bool (f k))
  | [] => trivial
  | _ :: l => ⟨trivial, HfL_map_bool f l⟩
theorem HfL_seen (s n : Nat) : HfL (seenB s n) := HfL_map_bool _ _
theorem head_seen {s n k : Nat} (h : k < n) : headF ((seenB s n).drop (k * 1)) = some (.bool (s.testBit k)) := by
  rw [Nat.mul_one, List.drop_eq_getElem_cons (by rw [seenB_length]; exact h)]
  simp [headF, seenB]
theorem rep_seen (n : Nat) : rep n [V.bool false] = seenB 0 n := by
  apply List.ext_getElem?
  intro i
  by_cases h : i < n
  · rw [rep_get n _ i (by simpa using h)]
    simp [seenB, Nat.mod_one, List.getElem?_range h]
  · rw [List.getElem?_eq_none (by rw [rep_length]; simp; omega), List.getElem?_eq_none (by rw [seenB_length]; omega)]
theorem lay_seen {s n k : Nat} (h : k < n) : layE (0 + k * 1) (seenB s n) [V.bool true] = some (seenB (s ||| 2 ^ k) n) := by
  rw [Nat.zero_add, Nat.mul_one, layE_eq', seenB_length]
  have : Nat.ble (k + [V.bool true].length) n = true := Nat.ble_eq_true_of_le (by simp; omega)
  rw [this, cond_true]
  congr 1
  have e : (seenB s n).take k ++ ([V.bool true] ++ (seenB s n).drop (k + [V.bool true].length)) = (seenB s n).set k (.bool true) := by
    rw [List.set_eq_take_append_cons_drop, if_pos (by rw [seenB_length]; exact h)]; rfl
  have key : (seenB s n).set k (.bool true) = seenB (s ||| 2 ^ k) n := by
    apply List.ext_getElem?
    intro i
    by_cases hi : i < n
    · rw [List.getElem?_eq_getElem (by rw [List.length_set, seenB_length]; exact hi), List.getElem?_eq_getElem (by rw [seenB_length]; exact hi), List.getElem_set]
      simp only [seenB, List.getElem_map, List.getElem_range, Nat.testBit_or, Nat.testBit_two_pow]
      by_cases hk : k = i
      · rw [if_pos hk, decide_eq_true hk]; simp
      · rw [if_neg hk, decide_eq_false hk]; simp
    · rw [List.getElem?_eq_none (by rw [List.length_set, seenB_length]; omega), List.getElem?_eq_none (by rw [seenB_length]; omega)]
  first | exact e.trans key | (simpa using e.trans key)

/-! ### Permutation -/
abbrev pmS (P : List Int) (n : Nat) (q : Nat × Nat) : SL := { sl := [(0, sl P), (1, i6 n), (5, .sl 0 0 n (some (n - n))), (6, i6 q.1)], os := [.row 4 none (seenB q.2 n)] }
abbrev PmI (P : List Int) (n : Nat) (b : Bool) (q : Nat × Nat) : Prop := q.1 ≤ n ∧ permC n q.2 (P.drop q.1) = b

theorem permref_loop (P : List Int) (n : Nat) (hn : P.length = n) (hl : n ≤ 65536) (b : Bool) (q : Nat × Nat) (hq : PmI P n b q) :
    Sat Pg none 0 (at' 32 [1, 1, 1, 0, 1, 0]) (mkSt .e 46 (pmS P n q)) (outsP .e 46 [(b = true, .exit 0, rtE), (b = false, .ret, boE 4 false)]) := by
  refine loopC vE_ok mixed sp0_ok (b := at' 32 [1, 1, 1, 0, 1, 0, 0]) (by kernel_rfl) (PmI P n b) (pmS P n) (fun q => n - q.1) (fun q hq => ?_) q hq
  obtain ⟨k, s⟩ := q
  obtain ⟨hk, hb⟩ := hq
  dsimp only at hk hb
  by_cases hlt : k < n
  · have hlt' : k < P.length := by omega
    rw [permC_drop n s hlt'] at hb
    have hd := @head_ints1 P k hlt'
    by_cases h1 : P[k] < 0
    · rw [if_pos (.inl h1)] at hb
      refine .inr ⟨.ret, [], boE 4 false, [yes 15, pl 20, ld 21 (i6 P[k]), yes 22], 1000, .inr (.inl ⟨hb.symm, rfl, rfl⟩), ?_⟩
      refine Eq.mp (by kernel_rfl : (decide ((↑k : Int) < (↑n : Int)) = true ∧
            ((0 : Int) ≤ (↑k : Int) ∧ (↑k : Int) < (↑(List.length P) : Int)) ∧
              headF (List.drop (k * (1 : Nat)) (ints P)) = some (i6 P[k]) ∧
                decide (P[k] < (0 : Int)) = true ∧ (false = false ∧ True) ∧ True) = _) ?_
      (repeat' (first | (with_reducible apply And.intro) | (refine fun (_ : True) => ?_))) <;> first | with_reducible (first | rfl | exact trivial | assumption | (refine decide_eq_true ?_ <;> omega) | (refine decide_eq_false ?_ <;> omega) | (refine head_ints1 ?_ <;> omega) | (refine bne_false ?_ <;> omega) | (refine bne_true ?_ <;> omega) | (refine beq_false' ?_ <;> omega) | (refine beq_true' ?_ <;> omega) | (refine wr6' ?_ ?_ ?_ <;> omega) | (refine rem6 ?_ <;> omega) | (refine quo6 ?_ ?_ ?_ <;> omega) | exact HfL_ints _ | omega) | ((with_reducible show (_ : V) = _); rfl) | (intro hk_; exfalso; revert hk_; simp; done) | (intros; simp_all; done) | (split <;> omega) | ((with_reducible show decide _ = true); exact decide_eq_true (by omega)) | ((with_reducible show decide _ = false); exact decide_eq_false (by omega)) | skip
    · by_cases h2 : n ≤ P[k]
      · rw [if_pos (.inr (.inl h2))] at hb
        refine .inr ⟨.ret, [], boE 4 false, [yes 15, pl 20, ld 21 (i6 P[k]), no 22, pl 26, ld 27 (i6 P[k]), yes 29], 1000, .inr (.inl ⟨hb.symm, rfl, rfl⟩), ?_⟩
        refine Eq.mp (by kernel_rfl : (decide ((↑k : Int) < (↑n : Int)) = true ∧
              ((0 : Int) ≤ (↑k : Int) ∧ (↑k : Int) < (↑(List.length P) : Int)) ∧
                headF (List.drop (k * (1 : Nat)) (ints P)) = some (i6 P[k]) ∧
                  decide (P[k] < (0 : Int)) = false ∧
                    ((0 : Int) ≤ (↑k : Int) ∧ (↑k : Int) < (↑(List.length P) : Int)) ∧
                      headF (List.drop (k * (1 : Nat)) (ints P)) = some (i6 P[k]) ∧
                        decide (P[k] ≥ (↑n : Int)) = true ∧ (false = false ∧ True) ∧ True) = _) ?_
        (repeat' (first | (with_reducible apply And.intro) | (refine fun (_ : True) => ?_))) <;> first | with_reducible (first | rfl | exact trivial | assumption | (refine decide_eq_true ?_ <;> omega) | (refine decide_eq_false ?_ <;> omega) | (refine head_ints1 ?_ <;> omega) | (refine bne_false ?_ <;> omega) | (refine bne_true ?_ <;> omega) | (refine beq_false' ?_ <;> omega) | (refine beq_true' ?_ <;> omega) | (refine wr6' ?_ ?_ ?_ <;> omega) | (refine rem6 ?_ <;> omega) | (refine quo6 ?_ ?_ ?_ <;> omega) | exact HfL_ints _ | omega) | ((with_reducible show (_ : V) = _); rfl) | (intro hk_; exfalso; revert hk_; simp; done) | (intros; simp_all; done) | (split <;> omega) | ((with_reducible show decide _ = true); exact decide_eq_true (by omega)) | ((with_reducible show decide _ = false); exact decide_eq_false (by omega)) | skip
      · obtain ⟨p, hp⟩ : ∃ p : Nat, P[k] = p := ⟨P[k].toNat, by omega⟩
        rw [hp] at hb hd h1 h2
        have hpn : p < n := by omega
        have hs : headF (dropF (0 + p * 1) (seenB s n)) = some (.bool (s.testBit p)) := by rw [dropF_eq, Nat.zero_add]; exact head_seen hpn
        cases ht : s.testBit p with
        | true =>
          rw [if_pos (.inr (.inr (by simpa using ht)))] at hb
          rw [ht] at hs
          refine .inr ⟨.ret, [], boE 4 false, [yes 15, pl 20, ld 21 (i6 p), no 22, pl 26, ld 27 (i6 p), no 29, pl 35, ld 36 (i6 p), pl 37, ld 38 (.bool true)], 1000, .inr (.inl ⟨hb.symm, rfl, rfl⟩), ?_⟩
          refine Eq.mp (by kernel_rfl : (decide ((↑k : Int) < (↑n : Int)) = true ∧
                ((0 : Int) ≤ (↑k : Int) ∧ (↑k : Int) < (↑(List.length P) : Int)) ∧
                  headF (List.drop (k * (1 : Nat)) (ints P)) = some (i6 (↑p : Int)) ∧
                    decide ((↑p : Int) < (0 : Int)) = false ∧
                      ((0 : Int) ≤ (↑k : Int) ∧ (↑k : Int) < (↑(List.length P) : Int)) ∧
                        headF (List.drop (k * (1 : Nat)) (ints P)) = some (i6 (↑p : Int)) ∧
                          decide ((↑p : Int) ≥ (↑n : Int)) = false ∧
                            ((0 : Int) ≤ (↑k : Int) ∧ (↑k : Int) < (↑(List.length P) : Int)) ∧
                              headF (List.drop (k * (1 : Nat)) (ints P)) = some (i6 (↑p : Int)) ∧
                                ((0 : Int) ≤ (↑p : Int) ∧ (↑p : Int) < (↑n : Int)) ∧
                                  headF (dropF ((0 : Nat) + p * (1 : Nat)) (seenB s n)) = some (V.bool true) ∧
                                    (false = false ∧ True) ∧ True) = _) ?_
          (repeat' (first | (with_reducible apply And.intro) | (refine fun (_ : True) => ?_))) <;> first | with_reducible (first | rfl | exact trivial | assumption | (refine decide_eq_true ?_ <;> omega) | (refine decide_eq_false ?_ <;> omega) | (refine head_ints1 ?_ <;> omega) | (refine bne_false ?_ <;> omega) | (refine bne_true ?_ <;> omega) | (refine beq_false' ?_ <;> omega) | (refine beq_true' ?_ <;> omega) | (refine wr6' ?_ ?_ ?_ <;> omega) | (refine rem6 ?_ <;> omega) | (refine quo6 ?_ ?_ ?_ <;> omega) | exact HfL_ints _ | omega) | ((with_reducible show (_ : V) = _); rfl) | (intro hk_; exfalso; revert hk_; simp; done) | (intros; simp_all; done) | (split <;> omega) | ((with_reducible show decide _ = true); exact decide_eq_true (by omega)) | ((with_reducible show decide _ = false); exact decide_eq_false (by omega)) | skip
        | false =>
          rw [if_neg (by rintro (h | h | h) <;> first | exact h1 h | exact h2 h | (rw [Int.toNat_natCast, ht] at h; cases h))] at hb
          rw [ht] at hs
          refine .inl ⟨(k + 1, s ||| 2 ^ p), [0], [yes 15, pl 20, ld 21 (i6 p), no 22, pl 26, ld 27 (i6 p), no 29, pl 35, ld 36 (i6 p), pl 37, ld 38 (.bool false), pl 43, ld 44 (i6 p), pl 45, st (seenB (s ||| 2 ^ p) n), nu 17 (k + 1 : Nat)], 1000, ⟨hlt, hb⟩, by dsimp only; omega, ?_⟩
          refine Eq.mp (by kernel_rfl : (decide ((↑k : Int) < (↑n : Int)) = true ∧
                ((0 : Int) ≤ (↑k : Int) ∧ (↑k : Int) < (↑(List.length P) : Int)) ∧
                  headF (List.drop (k * (1 : Nat)) (ints P)) = some (i6 (↑p : Int)) ∧
                    decide ((↑p : Int) < (0 : Int)) = false ∧
                      ((0 : Int) ≤ (↑k : Int) ∧ (↑k : Int) < (↑(List.length P) : Int)) ∧
                        headF (List.drop (k * (1 : Nat)) (ints P)) = some (i6 (↑p : Int)) ∧
                          decide ((↑p : Int) ≥ (↑n : Int)) = false ∧
                            ((0 : Int) ≤ (↑k : Int) ∧ (↑k : Int) < (↑(List.length P) : Int)) ∧
                              headF (List.drop (k * (1 : Nat)) (ints P)) = some (i6 (↑p : Int)) ∧
                                ((0 : Int) ≤ (↑p : Int) ∧ (↑p : Int) < (↑n : Int)) ∧
                                  headF (dropF ((0 : Nat) + p * (1 : Nat)) (seenB s n)) = some (V.bool false) ∧
                                    ((0 : Int) ≤ (↑k : Int) ∧ (↑k : Int) < (↑(List.length P) : Int)) ∧
                                      headF (List.drop (k * (1 : Nat)) (ints P)) = some (i6 (↑p : Int)) ∧
                                        ((0 : Int) ≤ (↑p : Int) ∧ (↑p : Int) < (↑n : Int)) ∧
                                          layE ((0 : Nat) + p * (1 : Nat)) (seenB s n) [V.bool true] =
                                              some (seenB (s ||| (2 : Nat) ^ p) n) ∧
                                            wr IntKind.i64 ((↑k : Int) + (1 : Int)) = (↑(k + (1 : Nat)) : Int) ∧
                                              ((List.length P = List.length P ∧ ints P = ints P) ∧
                                                  (↑n : Int) = (↑n : Int) ∧
                                                    ((0 : Nat) = (0 : Nat) ∧ n = n ∧ n - n = n - n) ∧
                                                      (↑(k + (1 : Nat)) : Int) = (↑(k + (1 : Nat)) : Int) ∧ True) ∧
                                                (seenB (s ||| (2 : Nat) ^ p) n = seenB (s ||| (2 : Nat) ^ p) n ∧
                                                    HfL (seenB (s ||| (2 : Nat) ^ p) n)) ∧
                                                  True) = _) ?_
          (repeat' (first | (with_reducible apply And.intro) | (refine fun (_ : True) => ?_))) <;> first | with_reducible (first | rfl | exact trivial | assumption | (refine decide_eq_true ?_ <;> omega) | (refine decide_eq_false ?_ <;> omega) | (refine head_ints1 ?_ <;> omega) | (refine bne_false ?_ <;> omega) | (refine bne_true ?_ <;> omega) | (refine beq_false' ?_ <;> omega) | (refine beq_true' ?_ <;> omega) | (refine wr6' ?_ ?_ ?_ <;> omega) | (refine rem6 ?_ <;> omega) | (refine quo6 ?_ ?_ ?_ <;> omega) | exact HfL_ints _ | omega) | ((with_reducible show (_ : V) = _); rfl) | (intro hk_; exfalso; revert hk_; simp; done) | (intros; simp_all; done) | (split <;> omega) | ((with_reducible show decide _ = true); exact decide_eq_true (by omega)) | ((with_reducible show decide _ = false); exact decide_eq_false (by omega)) | skip
          all_goals first | exact lay_seen hpn | exact HfL_seen _ _ | exact hs
  · have : k = n := by omega
    subst this
    rw [List.drop_of_length_le (by omega)] at hb
    refine .inr ⟨.exit 0, [], rtE, [no 15], 1000, .inl ⟨hb.symm, rfl, rfl⟩, ?_⟩
    refine Eq.mp (by kernel_rfl : (decide ((↑k : Int) < (↑k : Int)) = false ∧ True ∧ True) = _) ?_
    (repeat' (first | (with_reducible apply And.intro) | (refine fun (_ : True) => ?_))) <;> first | with_reducible (first | rfl | exact trivial | assumption | (refine decide_eq_true ?_ <;> omega) | (refine decide_eq_false ?_ <;> omega) | (refine head_ints1 ?_ <;> omega) | (refine bne_false ?_ <;> omega) | (refine bne_true ?_ <;> omega) | (refine beq_false' ?_ <;> omega) | (refine beq_true' ?_ <;> omega) | (refine wr6' ?_ ?_ ?_ <;> omega) | (refine rem6 ?_ <;> omega) | (refine quo6 ?_ ?_ ?_ <;> omega) | exact HfL_ints _ | omega) | ((with_reducible show (_ : V) = _); rfl) | (intro hk_; exfalso; revert hk_; simp; done) | (intros; simp_all; done) | (split <;> omega) | ((with_reducible show decide _ = true); exact decide_eq_true (by omega)) | ((with_reducible show decide _ = false); exact decide_eq_false (by omega)) | skip

theorem permref_ok (P : List Int) (n : Nat) (hn : P.length = n) (hl : n ≤ 65536) : FnOk Pg .e 32 [sl P, i6 n] (.bool (permC n 0 P)) := by
  have hlp := permref_loop P n hn hl (permC n 0 P) (0, 0) ⟨Nat.zero_le _, rfl⟩
  refine FnOk.of_vc vE_ok mixed sp0_ok (n := 1000) (r := []) (S := boE 4 (permC n 0 P)) (hs := [no 10, mk 12, (0, .loop [0] (pmS P n (0, 0)) [(permC n 0 P = true, .exit 0, rtE), (permC n 0 P = false, .ret, boE 4 false)])]) ?_
  refine Eq.mp (by kernel_rfl : (V.bool (permC (↑n : Int) (0 : Nat) P) = V.bool (permC (↑n : Int) (0 : Nat) P) ∧
        ((↑(List.length P) : Int) != (↑n : Int)) = false ∧
          ((0 : Int) ≤ (↑n : Int) ∧
              (↑n : Int) ≤ (↑n : Int) ∧
                (↑(1 : Nat) : Int) * (↑n : Int) ≤ (281474976710656 : Int) ∧ (↑n : Int) ≤ (9223372036854775807 : Int)) ∧
            (((List.length P = List.length P ∧ ints P = ints P) ∧
                  (↑n : Int) = (↑n : Int) ∧
                    ((0 : Nat) = (0 : Nat) ∧ n = n ∧ n - n = n - n) ∧ (↑(0 : Nat) : Int) = (0 : Int) ∧ True) ∧
                (seenB (0 : Nat) n = rep n [V.bool false] ∧ HfL (seenB (0 : Nat) n)) ∧ True) ∧
              Sat Try.prog none (0 : Nat) (at' (32 : Nat) [(1 : Nat), (1 : Nat), (1 : Nat), (0 : Nat), (1 : Nat), (0 : Nat)])
                  (mkSt T.e (46 : Nat) (pmS P n ((0 : Nat), (0 : Nat))))
                  (outsP T.e (46 : Nat)
                    [(permC (↑n : Int) (0 : Nat) P = true, Ex.exit (0 : Nat), rtE),
                      (permC (↑n : Int) (0 : Nat) P = false, Ex.ret, boE (4 : Nat) false)]) ∧
                (permC (↑n : Int) (0 : Nat) P = true → (permC (↑n : Int) (0 : Nat) P = true ∧ True) ∧ True) ∧
                  (permC (↑n : Int) (0 : Nat) P = false → (permC (↑n : Int) (0 : Nat) P = false ∧ True) ∧ True) ∧ True) = _) ?_
  (repeat' (first | (with_reducible apply And.intro) | (refine fun (_ : True) => ?_))) <;> first | with_reducible (first | rfl | exact trivial | assumption | (refine decide_eq_true ?_ <;> omega) | (refine decide_eq_false ?_ <;> omega) | (refine head_ints1 ?_ <;> omega) | (refine bne_false ?_ <;> omega) | (refine bne_true ?_ <;> omega) | (refine beq_false' ?_ <;> omega) | (refine beq_true' ?_ <;> omega) | (refine wr6' ?_ ?_ ?_ <;> omega) | (refine rem6 ?_ <;> omega) | (refine quo6 ?_ ?_ ?_ <;> omega) | exact HfL_ints _ | omega) | ((with_reducible show (_ : V) = _); rfl) | (intro hk_; exfalso; revert hk_; simp; done) | (intros; simp_all; done) | (split <;> omega) | ((with_reducible show decide _ = true); exact decide_eq_true (by omega)) | ((with_reducible show decide _ = false); exact decide_eq_false (by omega)) | skip
  all_goals first | exact (rep_seen n).symm | exact HfL_seen _ _ | skip
theorem permref_len (P : List Int) (n : Nat) (hn : P.length ≠ n) (hl : P.length ≤ 65536) : FnOk Pg .e 32 [sl P, i6 n] (.bool false) := by
  refine FnOk.of_vc vE_ok mixed sp0_ok (n := 1000) (r := []) (S := boE 4 false) (hs := [yes 10]) ?_
  refine Eq.mp (by kernel_rfl : (V.bool false = V.bool false ∧ ((↑(List.length P) : Int) != (↑n : Int)) = true ∧ (false = false ∧ True) ∧ True) = _) ?_
  (repeat' (first | (with_reducible apply And.intro) | (refine fun (_ : True) => ?_))) <;> first | with_reducible (first | rfl | exact trivial | assumption | (refine decide_eq_true ?_ <;> omega) | (refine decide_eq_false ?_ <;> omega) | (refine head_ints1 ?_ <;> omega) | (refine bne_false ?_ <;> omega) | (refine bne_true ?_ <;> omega) | (refine beq_false' ?_ <;> omega) | (refine beq_true' ?_ <;> omega) | (refine wr6' ?_ ?_ ?_ <;> omega) | (refine rem6 ?_ <;> omega) | (refine quo6 ?_ ?_ ?_ <;> omega) | exact HfL_ints _ | omega) | ((with_reducible show (_ : V) = _); rfl) | (intro hk_; exfalso; revert hk_; simp; done) | (intros; simp_all; done) | (split <;> omega) | ((with_reducible show decide _ = true); exact decide_eq_true (by omega)) | ((with_reducible show decide _ = false); exact decide_eq_false (by omega)) | skip

/-! ### the drafted permutation -/
theorem wr8 {d : Int} (h : 0 ≤ d ∧ d ≤ 255) : wr .i64 d = d := wr6 (by omega) (by omega)
def posD (D : List Int) (k : Nat) : Int := if h : k < D.length then D[k] % ((k : Int) + 1) else 0
def insD (p k : Nat) (l : List Int) : List Int := l.take p ++ (k : Int) :: l.drop p
def permD (D : List Int) : Nat → List Int
  | 0 => []
  | k + 1 => insD (posD D k).toNat k (permD D k)
theorem posD_bd {D : List Int} {k : Nat} : 0 ≤ posD D k ∧ posD D k ≤ k := by
  unfold posD
  split
  · have h1 := Int.emod_nonneg D[k] (show ((k : Int) + 1) ≠ 0 by omega)
    have h2 := Int.emod_lt_of_pos D[k] (show (0 : Int) < (k : Int) + 1 by omega)
    omega
  · omega
theorem insD_len (p k : Nat) (l : List Int) : (insD p k l).length = l.length + 1 := by
  simp only [insD, List.length_append, List.length_take, List.length_cons, List.length_drop]; omega
theorem permD_len (D : List Int) : ∀ k, (permD D k).length = k
  | 0 => rfl
  | k + 1 => by rw [permD, insD_len, permD_len D k]

abbrev dqS (C D : List Int) (w : Int) (q : Nat × List Int) : SL := { sl := [(1, .ptr 0 0), (3, owV 1 q.1), (4, i6 q.1)], os := drO C D w :: owO q.2 q.1 }
abbrev dqX (l : List Int) (k : Nat) : SL := { sl := [(3, owV 0 k)], os := owO l k }
abbrev DqI (D : List Int) (n : Nat) (q : Nat × List Int) : Prop := q.1 ≤ n ∧ q.2 = permD D q.1

theorem permdraft_loop (C D : List Int) (w : Int) (hC : u8s C) (hD : u8s D) (n : Nat) (hn : n = (cardsD C).length) (q : Nat × List Int) (hq : DqI D n q) :
    Sat Pg none 0 (at' 30 [1, 1, 0, 1, 0]) (mkSt .e 42 (dqS C D w q)) (outsP .e 42 [(True, .exit 0, dqX (permD D n) n)]) := by
  refine loopC vE_ok mixed sp0_ok (b := at' 30 [1, 1, 0, 1, 0, 0]) (by kernel_rfl) (DqI D n) (dqS C D w) (fun q => n - q.1) (fun q hq => ?_) q hq
  obtain ⟨k, out⟩ := q
  obtain ⟨hk, ho⟩ := hq
  dsimp only at hk ho
  have hcd := cards_fn C D w hC
  have hN5 : n ≤ 5 := by rw [hn]; simp [cardsD]; omega
  have hol : out.length = k := by rw [ho]; exact permD_len D k
  by_cases hlt : k < n
  · have hnx : permD D (k + 1) = insD (posD D k).toNat k out := by rw [permD, ho]
    have hbd := @posD_bd D k
    obtain ⟨p, hp⟩ : ∃ p : Nat, posD D k = p := ⟨(posD D k).toNat, by omega⟩
    rw [hp] at hnx hbd
    by_cases hDk : k < D.length
    · have hd := hD D[k] (List.getElem_mem hDk)
      have hw := wr8 hd
      have hpd : D[k].tmod ((k : Int) + 1) = p := by
        rw [← hp, posD, dif_pos hDk]; exact Int.tmod_eq_emod_of_nonneg hd.1
      have hh := @head_8 D k hDk
      have hrem : ∀ (G : Ctx) (t : Nat) (y : Int), y = (k : Int) + 1 → binV G .rem t (i6 D[k]) (i6 y) = some (i6 p) := fun G t y hy => by rw [hy, rem6 (by omega), hpd]
      rcases (show k = 0 ∨ k = 1 ∨ k = 2 ∨ k = 3 ∨ k = 4 by omega) with rfl | rfl | rfl | rfl | rfl
      · obtain rfl : out = [] := List.eq_nil_of_length_eq_zero hol
        obtain rfl : p = 0 := by omega
        refine .inl ⟨(1, [((0 : Nat) : Int)]), [0, 2], [fn 9 (sl (cardsD C)), yes 11, yes 18, pl 22, ld 23 (.int .u8 D[0]), nu 24 D[0], va 27 (i6 (0 : Nat))], 1000, ⟨hlt, hnx.symm⟩, by dsimp only; omega, ?_⟩
        refine Eq.mp (by kernel_rfl : (((True ∧ True ∧ True ∧ True) ∧ True) ∧
              FnOk Try.prog T.e (17 : Nat)
                  [V.agg
                      [V.im (List.length C) (List.map (V.int IntKind.u8) C), V.int IntKind.u16 w,
                        V.im (List.length D) (List.map (V.int IntKind.u8) D)]]
                  (sl (cardsD C)) ∧
                True ∧
                  decide ((↑(0 : Nat) : Int) < (↑(List.length (cardsD C)) : Int)) = true ∧
                    decide ((↑(0 : Nat) : Int) < (↑(List.length D) : Int)) = true ∧
                      ((0 : Int) ≤ (↑(0 : Nat) : Int) ∧ (↑(0 : Nat) : Int) < (↑(List.length D) : Int)) ∧
                        headF (List.drop ((0 : Nat) * (1 : Nat)) (List.map (V.int IntKind.u8) D)) =
                            some (V.int IntKind.u8 D[(0 : Nat)]) ∧
                          wr IntKind.i64 D[(0 : Nat)] = D[(0 : Nat)] ∧
                            binV (ctxOf Try.prog) BinOp.rem (3 : Nat) (V.int IntKind.i64 D[(0 : Nat)])
                                  (V.int IntKind.i64 (wr IntKind.i64 ((↑(0 : Nat) : Int) + (1 : Int)))) =
                                some (i6 (↑(0 : Nat) : Int)) ∧
                              ((0 : Nat) = (0 : Nat) ∧
                                  ((0 : Nat) = (0 : Nat) ∧ (0 : Nat) + (1 : Nat) = (1 : Nat) ∧ True) ∧
                                    (↑(1 : Nat) : Int) = wr IntKind.i64 ((↑(0 : Nat) : Int) + (1 : Int)) ∧ True) ∧
                                ([sl8 C, V.int IntKind.u16 w, sl8 D] = [sl8 C, V.int IntKind.u16 w, sl8 D] ∧
                                    True ∧ True ∧ True ∧ True) ∧
                                  (ints [(↑(0 : Nat) : Int)] =
                                        i6 (↑(0 : Nat) : Int) ::
                                          List.take._f Nat.zero PUnit.unit
                                            (List.append._f [] PUnit.unit
                                              (rep._f Nat.zero PUnit.unit [V.int IntKind.i64 (0 : Int)])) ∧
                                      True ∧ True) ∧
                                    True) = _) ?_
        (repeat' (first | (with_reducible apply And.intro) | (refine fun (_ : True) => ?_))) <;> first | with_reducible (first | rfl | exact trivial | assumption | (refine decide_eq_true ?_ <;> omega) | (refine decide_eq_false ?_ <;> omega) | (refine head_ints1 ?_ <;> omega) | (refine bne_false ?_ <;> omega) | (refine bne_true ?_ <;> omega) | (refine beq_false' ?_ <;> omega) | (refine beq_true' ?_ <;> omega) | (refine wr6' ?_ ?_ ?_ <;> omega) | (refine rem6 ?_ <;> omega) | (refine quo6 ?_ ?_ ?_ <;> omega) | exact HfL_ints _ | omega) | ((with_reducible show (_ : V) = _); rfl) | (intro hk_; exfalso; revert hk_; simp; done) | (intros; simp_all; done) | (split <;> omega) | ((with_reducible show decide _ = true); exact decide_eq_true (by omega)) | ((with_reducible show decide _ = false); exact decide_eq_false (by omega)) | skip
        all_goals first | exact hrem _ _ _ rfl | rfl
      · obtain ⟨a, rfl⟩ : ∃ a : Int, out = [a] := by
          match out, hol with
          | [a], _ => exact ⟨a, rfl⟩
        rcases (show p = 0 ∨ p = 1 by omega) with rfl | rfl
        · refine .inl ⟨(2, [((1 : Nat) : Int), a]), [0, 4], [fn 9 (sl (cardsD C)), yes 11, yes 18, pl 22, ld 23 (.int .u8 D[1]), nu 24 D[1], va 27 (i6 (0 : Nat))], 1000, ⟨hlt, hnx.symm⟩, by dsimp only; omega, ?_⟩
          refine Eq.mp (by kernel_rfl : (((True ∧ True ∧ True ∧ True) ∧ True) ∧
                FnOk Try.prog T.e (17 : Nat)
                    [V.agg
                        [V.im (List.length C) (List.map (V.int IntKind.u8) C), V.int IntKind.u16 w,
                          V.im (List.length D) (List.map (V.int IntKind.u8) D)]]
                    (sl (cardsD C)) ∧
                  True ∧
                    decide ((↑(1 : Nat) : Int) < (↑(List.length (cardsD C)) : Int)) = true ∧
                      decide ((↑(1 : Nat) : Int) < (↑(List.length D) : Int)) = true ∧
                        ((0 : Int) ≤ (↑(1 : Nat) : Int) ∧ (↑(1 : Nat) : Int) < (↑(List.length D) : Int)) ∧
                          headF (List.drop ((1 : Nat) * (1 : Nat)) (List.map (V.int IntKind.u8) D)) =
                              some (V.int IntKind.u8 D[(1 : Nat)]) ∧
                            wr IntKind.i64 D[(1 : Nat)] = D[(1 : Nat)] ∧
                              binV (ctxOf Try.prog) BinOp.rem (3 : Nat) (V.int IntKind.i64 D[(1 : Nat)])
                                    (V.int IntKind.i64 (wr IntKind.i64 ((↑(1 : Nat) : Int) + (1 : Int)))) =
                                  some (i6 (↑(0 : Nat) : Int)) ∧
                                ((0 : Nat) = (0 : Nat) ∧
                                    ((0 : Nat) = (0 : Nat) ∧
                                        (1 : Nat) + (1 : Nat) =
                                            (1 : Nat) +
                                              (Int.toNat (Option.getD none (↑((0 : Nat) + (1 : Nat)) : Int)) -
                                                Int.toNat (Option.getD (some (↑(0 : Nat) : Int)) (0 : Int))) ∧
                                          True) ∧
                                      (↑(2 : Nat) : Int) = wr IntKind.i64 ((↑(1 : Nat) : Int) + (1 : Int)) ∧ True) ∧
                                  ([sl8 C, V.int IntKind.u16 w, sl8 D] = [sl8 C, V.int IntKind.u16 w, sl8 D] ∧
                                      True ∧ True ∧ True ∧ True) ∧
                                    (ints [(↑(1 : Nat) : Int), a] =
                                          i6 (↑(1 : Nat) : Int) ::
                                              List.take._f Nat.zero PUnit.unit
                                                (List.append._f [] PUnit.unit
                                                  (rep._f Nat.zero PUnit.unit [V.int IntKind.i64 (0 : Int)])) ++
                                            V.int IntKind.i64 a ::
                                              List.take._f Nat.zero PUnit.unit (List.map._f (V.int IntKind.i64) [] PUnit.unit) ∧
                                        True ∧ True ∧ True) ∧
                                      True) = _) ?_
          (repeat' (first | (with_reducible apply And.intro) | (refine fun (_ : True) => ?_))) <;> first | with_reducible (first | rfl | exact trivial | assumption | (refine decide_eq_true ?_ <;> omega) | (refine decide_eq_false ?_ <;> omega) | (refine head_ints1 ?_ <;> omega) | (refine bne_false ?_ <;> omega) | (refine bne_true ?_ <;> omega) | (refine beq_false' ?_ <;> omega) | (refine beq_true' ?_ <;> omega) | (refine wr6' ?_ ?_ ?_ <;> omega) | (refine rem6 ?_ <;> omega) | (refine quo6 ?_ ?_ ?_ <;> omega) | exact HfL_ints _ | omega) | ((with_reducible show (_ : V) = _); rfl) | (intro hk_; exfalso; revert hk_; simp; done) | (intros; simp_all; done) | (split <;> omega) | ((with_reducible show decide _ = true); exact decide_eq_true (by omega)) | ((with_reducible show decide _ = false); exact decide_eq_false (by omega)) | skip
          all_goals first | exact hrem _ _ _ rfl | rfl
        · refine .inl ⟨(2, [a, ((1 : Nat) : Int)]), [0, 4], [fn 9 (sl (cardsD C)), yes 11, yes 18, pl 22, ld 23 (.int .u8 D[1]), nu 24 D[1], va 27 (i6 (1 : Nat))], 1000, ⟨hlt, hnx.symm⟩, by dsimp only; omega, ?_⟩
          refine Eq.mp (by kernel_rfl : (((True ∧ True ∧ True ∧ True) ∧ True) ∧
                FnOk Try.prog T.e (17 : Nat)
                    [V.agg
                        [V.im (List.length C) (List.map (V.int IntKind.u8) C), V.int IntKind.u16 w,
                          V.im (List.length D) (List.map (V.int IntKind.u8) D)]]
                    (sl (cardsD C)) ∧
                  True ∧
                    decide ((↑(1 : Nat) : Int) < (↑(List.length (cardsD C)) : Int)) = true ∧
                      decide ((↑(1 : Nat) : Int) < (↑(List.length D) : Int)) = true ∧
                        ((0 : Int) ≤ (↑(1 : Nat) : Int) ∧ (↑(1 : Nat) : Int) < (↑(List.length D) : Int)) ∧
                          headF (List.drop ((1 : Nat) * (1 : Nat)) (List.map (V.int IntKind.u8) D)) =
                              some (V.int IntKind.u8 D[(1 : Nat)]) ∧
                            wr IntKind.i64 D[(1 : Nat)] = D[(1 : Nat)] ∧
                              binV (ctxOf Try.prog) BinOp.rem (3 : Nat) (V.int IntKind.i64 D[(1 : Nat)])
                                    (V.int IntKind.i64 (wr IntKind.i64 ((↑(1 : Nat) : Int) + (1 : Int)))) =
                                  some (i6 (↑(1 : Nat) : Int)) ∧
                                ((0 : Nat) = (0 : Nat) ∧
                                    ((0 : Nat) = (0 : Nat) ∧
                                        (1 : Nat) + (1 : Nat) =
                                            Int.toNat (Option.getD (some (↑(1 : Nat) : Int)) (↑((0 : Nat) + (1 : Nat)) : Int)) -
                                                Int.toNat (Option.getD none (0 : Int)) +
                                              (1 : Nat) ∧
                                          True) ∧
                                      (↑(2 : Nat) : Int) = wr IntKind.i64 ((↑(1 : Nat) : Int) + (1 : Int)) ∧ True) ∧
                                  ([sl8 C, V.int IntKind.u16 w, sl8 D] = [sl8 C, V.int IntKind.u16 w, sl8 D] ∧
                                      True ∧ True ∧ True ∧ True) ∧
                                    (ints [a, (↑(1 : Nat) : Int)] =
                                          V.int IntKind.i64 a ::
                                              List.take._f Nat.zero PUnit.unit (List.map._f (V.int IntKind.i64) [] PUnit.unit) ++
                                            i6 (↑(1 : Nat) : Int) ::
                                              List.take._f Nat.zero PUnit.unit
                                                (List.append._f [] PUnit.unit
                                                  (rep._f Nat.zero PUnit.unit [V.int IntKind.i64 (0 : Int)])) ∧
                                        True ∧ True ∧ True) ∧
                                      True) = _) ?_
          (repeat' (first | (with_reducible apply And.intro) | (refine fun (_ : True) => ?_))) <;> first | with_reducible (first | rfl | exact trivial | assumption | (refine decide_eq_true ?_ <;> omega) | (refine decide_eq_false ?_ <;> omega) | (refine head_ints1 ?_ <;> omega) | (refine bne_false ?_ <;> omega) | (refine bne_true ?_ <;> omega) | (refine beq_false' ?_ <;> omega) | (refine beq_true' ?_ <;> omega) | (refine wr6' ?_ ?_ ?_ <;> omega) | (refine rem6 ?_ <;> omega) | (refine quo6 ?_ ?_ ?_ <;> omega) | exact HfL_ints _ | omega) | ((with_reducible show (_ : V) = _); rfl) | (intro hk_; exfalso; revert hk_; simp; done) | (intros; simp_all; done) | (split <;> omega) | ((with_reducible show decide _ = true); exact decide_eq_true (by omega)) | ((with_reducible show decide _ = false); exact decide_eq_false (by omega)) | skip
          all_goals first | exact hrem _ _ _ rfl | rfl
      · obtain ⟨a, b, rfl⟩ : ∃ a b : Int, out = [a, b] := by
          match out, hol with
          | [a, b], _ => exact ⟨a, b, rfl⟩
        rcases (show p = 0 ∨ p = 1 ∨ p = 2 by omega) with rfl | rfl | rfl
        · refine .inl ⟨(3, [((2 : Nat) : Int), a, b]), [0, 4], [fn 9 (sl (cardsD C)), yes 11, yes 18, pl 22, ld 23 (.int .u8 D[2]), nu 24 D[2], va 27 (i6 (0 : Nat))], 1000, ⟨hlt, hnx.symm⟩, by dsimp only; omega, ?_⟩
          refine Eq.mp (by kernel_rfl : (((True ∧ True ∧ True ∧ True) ∧ True) ∧
                FnOk Try.prog T.e (17 : Nat)
                    [V.agg
                        [V.im (List.length C) (List.map (V.int IntKind.u8) C), V.int IntKind.u16 w,
                          V.im (List.length D) (List.map (V.int IntKind.u8) D)]]
                    (sl (cardsD C)) ∧
                  True ∧
                    decide ((↑(2 : Nat) : Int) < (↑(List.length (cardsD C)) : Int)) = true ∧
                      decide ((↑(2 : Nat) : Int) < (↑(List.length D) : Int)) = true ∧
                        ((0 : Int) ≤ (↑(2 : Nat) : Int) ∧ (↑(2 : Nat) : Int) < (↑(List.length D) : Int)) ∧
                          headF (List.drop ((2 : Nat) * (1 : Nat)) (List.map (V.int IntKind.u8) D)) =
                              some (V.int IntKind.u8 D[(2 : Nat)]) ∧
                            wr IntKind.i64 D[(2 : Nat)] = D[(2 : Nat)] ∧
                              binV (ctxOf Try.prog) BinOp.rem (3 : Nat) (V.int IntKind.i64 D[(2 : Nat)])
                                    (V.int IntKind.i64 (wr IntKind.i64 ((↑(2 : Nat) : Int) + (1 : Int)))) =
                                  some (i6 (↑(0 : Nat) : Int)) ∧
                                ((0 : Nat) = (0 : Nat) ∧
                                    ((0 : Nat) = (0 : Nat) ∧
                                        (2 : Nat) + (1 : Nat) =
                                            (1 : Nat) +
                                              (Int.toNat (Option.getD none (↑((1 : Nat) + (1 : Nat)) : Int)) -
                                                Int.toNat (Option.getD (some (↑(0 : Nat) : Int)) (0 : Int))) ∧
                                          True) ∧
                                      (↑(3 : Nat) : Int) = wr IntKind.i64 ((↑(2 : Nat) : Int) + (1 : Int)) ∧ True) ∧
                                  ([sl8 C, V.int IntKind.u16 w, sl8 D] = [sl8 C, V.int IntKind.u16 w, sl8 D] ∧
                                      True ∧ True ∧ True ∧ True) ∧
                                    (ints [(↑(2 : Nat) : Int), a, b] =
                                          i6 (↑(2 : Nat) : Int) ::
                                              List.take._f Nat.zero PUnit.unit
                                                (List.append._f [] PUnit.unit
                                                  (rep._f Nat.zero PUnit.unit [V.int IntKind.i64 (0 : Int)])) ++
                                            V.int IntKind.i64 a ::
                                              List.take._f (Nat.succ (0 : Nat))
                                                (Nat.rec ⟨List.take._f Nat.zero PUnit.unit, PUnit.unit⟩
                                                  (fun n n_ih => ⟨List.take._f (Nat.succ n) n_ih, n_ih⟩) (0 : Nat))
                                                (List.map._f (V.int IntKind.i64) [b]
                                                  (List.rec ⟨List.map._f (V.int IntKind.i64) [] PUnit.unit, PUnit.unit⟩
                                                    (fun head tail tail_ih =>
                                                      ⟨List.map._f (V.int IntKind.i64) (head :: tail) tail_ih, tail_ih⟩)
                                                    [])) ∧
                                        True ∧ True ∧ True ∧ True) ∧
                                      True) = _) ?_
          (repeat' (first | (with_reducible apply And.intro) | (refine fun (_ : True) => ?_))) <;> first | with_reducible (first | rfl | exact trivial | assumption | (refine decide_eq_true ?_ <;> omega) | (refine decide_eq_false ?_ <;> omega) | (refine head_ints1 ?_ <;> omega) | (refine bne_false ?_ <;> omega) | (refine bne_true ?_ <;> omega) | (refine beq_false' ?_ <;> omega) | (refine beq_true' ?_ <;> omega) | (refine wr6' ?_ ?_ ?_ <;> omega) | (refine rem6 ?_ <;> omega) | (refine quo6 ?_ ?_ ?_ <;> omega) | exact HfL_ints _ | omega) | ((with_reducible show (_ : V) = _); rfl) | (intro hk_; exfalso; revert hk_; simp; done) | (intros; simp_all; done) | (split <;> omega) | ((with_reducible show decide _ = true); exact decide_eq_true (by omega)) | ((with_reducible show decide _ = false); exact decide_eq_false (by omega)) | skip
          all_goals first | exact hrem _ _ _ rfl | rfl
        · refine .inl ⟨(3, [a, ((2 : Nat) : Int), b]), [0, 5], [fn 9 (sl (cardsD C)), yes 11, yes 18, pl 22, ld 23 (.int .u8 D[2]), nu 24 D[2], va 27 (i6 (1 : Nat))], 1000, ⟨hlt, hnx.symm⟩, by dsimp only; omega, ?_⟩
          refine Eq.mp (by kernel_rfl : (((True ∧ True ∧ True ∧ True) ∧ True) ∧
                FnOk Try.prog T.e (17 : Nat)
                    [V.agg
                        [V.im (List.length C) (List.map (V.int IntKind.u8) C), V.int IntKind.u16 w,
                          V.im (List.length D) (List.map (V.int IntKind.u8) D)]]
                    (sl (cardsD C)) ∧
                  True ∧
                    decide ((↑(2 : Nat) : Int) < (↑(List.length (cardsD C)) : Int)) = true ∧
                      decide ((↑(2 : Nat) : Int) < (↑(List.length D) : Int)) = true ∧
                        ((0 : Int) ≤ (↑(2 : Nat) : Int) ∧ (↑(2 : Nat) : Int) < (↑(List.length D) : Int)) ∧
                          headF (List.drop ((2 : Nat) * (1 : Nat)) (List.map (V.int IntKind.u8) D)) =
                              some (V.int IntKind.u8 D[(2 : Nat)]) ∧
                            wr IntKind.i64 D[(2 : Nat)] = D[(2 : Nat)] ∧
                              binV (ctxOf Try.prog) BinOp.rem (3 : Nat) (V.int IntKind.i64 D[(2 : Nat)])
                                    (V.int IntKind.i64 (wr IntKind.i64 ((↑(2 : Nat) : Int) + (1 : Int)))) =
                                  some (i6 (↑(1 : Nat) : Int)) ∧
                                ((0 : Nat) = (0 : Nat) ∧
                                    ((0 : Nat) = (0 : Nat) ∧
                                        (2 : Nat) + (1 : Nat) =
                                            Int.toNat (Option.getD (some (↑(1 : Nat) : Int)) (↑((1 : Nat) + (1 : Nat)) : Int)) -
                                                  Int.toNat (Option.getD none (0 : Int)) +
                                                (1 : Nat) +
                                              (Int.toNat (Option.getD none (↑((1 : Nat) + (1 : Nat)) : Int)) -
                                                Int.toNat (Option.getD (some (↑(1 : Nat) : Int)) (0 : Int))) ∧
                                          True) ∧
                                      (↑(3 : Nat) : Int) = wr IntKind.i64 ((↑(2 : Nat) : Int) + (1 : Int)) ∧ True) ∧
                                  ([sl8 C, V.int IntKind.u16 w, sl8 D] = [sl8 C, V.int IntKind.u16 w, sl8 D] ∧
                                      True ∧ True ∧ True ∧ True) ∧
                                    (ints [a, (↑(2 : Nat) : Int), b] =
                                          V.int IntKind.i64 a ::
                                                List.take._f Nat.zero PUnit.unit
                                                  (List.map._f (V.int IntKind.i64) [b]
                                                    (List.rec ⟨List.map._f (V.int IntKind.i64) [] PUnit.unit, PUnit.unit⟩
                                                      (fun head tail tail_ih =>
                                                        ⟨List.map._f (V.int IntKind.i64) (head :: tail) tail_ih, tail_ih⟩)
                                                      [])) ++
                                              i6 (↑(2 : Nat) : Int) ::
                                                List.take._f Nat.zero PUnit.unit
                                                  (List.append._f [] PUnit.unit
                                                    (rep._f Nat.zero PUnit.unit [V.int IntKind.i64 (0 : Int)])) ++
                                            V.int IntKind.i64 b ::
                                              List.take._f Nat.zero PUnit.unit (List.map._f (V.int IntKind.i64) [] PUnit.unit) ∧
                                        True ∧ True ∧ True ∧ True) ∧
                                      True) = _) ?_
          (repeat' (first | (with_reducible apply And.intro) | (refine fun (_ : True) => ?_))) <;> first | with_reducible (first | rfl | exact trivial | assumption | (refine decide_eq_true ?_ <;> omega) | (refine decide_eq_false ?_ <;> omega) | (refine head_ints1 ?_ <;> omega) | (refine bne_false ?_ <;> omega) | (refine bne_true ?_ <;> omega) | (refine beq_false' ?_ <;> omega) | (refine beq_true' ?_ <;> omega) | (refine wr6' ?_ ?_ ?_ <;> omega) | (refine rem6 ?_ <;> omega) | (refine quo6 ?_ ?_ ?_ <;> omega) | exact HfL_ints _ | omega) | ((with_reducible show (_ : V) = _); rfl) | (intro hk_; exfalso; revert hk_; simp; done) | (intros; simp_all; done) | (split <;> omega) | ((with_reducible show decide _ = true); exact decide_eq_true (by omega)) | ((with_reducible show decide _ = false); exact decide_eq_false (by omega)) | skip
          all_goals first | exact hrem _ _ _ rfl | rfl
        · refine .inl ⟨(3, [a, b, ((2 : Nat) : Int)]), [0, 4], [fn 9 (sl (cardsD C)), yes 11, yes 18, pl 22, ld 23 (.int .u8 D[2]), nu 24 D[2], va 27 (i6 (2 : Nat))], 1000, ⟨hlt, hnx.symm⟩, by dsimp only; omega, ?_⟩
          refine Eq.mp (by kernel_rfl : (((True ∧ True ∧ True ∧ True) ∧ True) ∧
                FnOk Try.prog T.e (17 : Nat)
                    [V.agg
                        [V.im (List.length C) (List.map (V.int IntKind.u8) C), V.int IntKind.u16 w,
                          V.im (List.length D) (List.map (V.int IntKind.u8) D)]]
                    (sl (cardsD C)) ∧
                  True ∧
                    decide ((↑(2 : Nat) : Int) < (↑(List.length (cardsD C)) : Int)) = true ∧
                      decide ((↑(2 : Nat) : Int) < (↑(List.length D) : Int)) = true ∧
                        ((0 : Int) ≤ (↑(2 : Nat) : Int) ∧ (↑(2 : Nat) : Int) < (↑(List.length D) : Int)) ∧
                          headF (List.drop ((2 : Nat) * (1 : Nat)) (List.map (V.int IntKind.u8) D)) =
                              some (V.int IntKind.u8 D[(2 : Nat)]) ∧
                            wr IntKind.i64 D[(2 : Nat)] = D[(2 : Nat)] ∧
                              binV (ctxOf Try.prog) BinOp.rem (3 : Nat) (V.int IntKind.i64 D[(2 : Nat)])
                                    (V.int IntKind.i64 (wr IntKind.i64 ((↑(2 : Nat) : Int) + (1 : Int)))) =
                                  some (i6 (↑(2 : Nat) : Int)) ∧
                                ((0 : Nat) = (0 : Nat) ∧
                                    ((0 : Nat) = (0 : Nat) ∧
                                        (2 : Nat) + (1 : Nat) =
                                            Int.toNat (Option.getD (some (↑(2 : Nat) : Int)) (↑((1 : Nat) + (1 : Nat)) : Int)) -
                                                Int.toNat (Option.getD none (0 : Int)) +
                                              (1 : Nat) ∧
                                          True) ∧
                                      (↑(3 : Nat) : Int) = wr IntKind.i64 ((↑(2 : Nat) : Int) + (1 : Int)) ∧ True) ∧
                                  ([sl8 C, V.int IntKind.u16 w, sl8 D] = [sl8 C, V.int IntKind.u16 w, sl8 D] ∧
                                      True ∧ True ∧ True ∧ True) ∧
                                    (ints [a, b, (↑(2 : Nat) : Int)] =
                                          V.int IntKind.i64 a ::
                                              List.take._f (Nat.succ (0 : Nat))
                                                (Nat.rec ⟨List.take._f Nat.zero PUnit.unit, PUnit.unit⟩
                                                  (fun n n_ih => ⟨List.take._f (Nat.succ n) n_ih, n_ih⟩) (0 : Nat))
                                                (List.map._f (V.int IntKind.i64) [b]
                                                  (List.rec ⟨List.map._f (V.int IntKind.i64) [] PUnit.unit, PUnit.unit⟩
                                                    (fun head tail tail_ih =>
                                                      ⟨List.map._f (V.int IntKind.i64) (head :: tail) tail_ih, tail_ih⟩)
                                                    [])) ++
                                            i6 (↑(2 : Nat) : Int) ::
                                              List.take._f Nat.zero PUnit.unit
                                                (List.append._f [] PUnit.unit
                                                  (rep._f Nat.zero PUnit.unit [V.int IntKind.i64 (0 : Int)])) ∧
                                        True ∧ True ∧ True ∧ True) ∧
                                      True) = _) ?_
          (repeat' (first | (with_reducible apply And.intro) | (refine fun (_ : True) => ?_))) <;> first | with_reducible (first | rfl | exact trivial | assumption | (refine decide_eq_true ?_ <;> omega) | (refine decide_eq_false ?_ <;> omega) | (refine head_ints1 ?_ <;> omega) | (refine bne_false ?_ <;> omega) | (refine bne_true ?_ <;> omega) | (refine beq_false' ?_ <;> omega) | (refine beq_true' ?_ <;> omega) | (refine wr6' ?_ ?_ ?_ <;> omega) | (refine rem6 ?_ <;> omega) | (refine quo6 ?_ ?_ ?_ <;> omega) | exact HfL_ints _ | omega) | ((with_reducible show (_ : V) = _); rfl) | (intro hk_; exfalso; revert hk_; simp; done) | (intros; simp_all; done) | (split <;> omega) | ((with_reducible show decide _ = true); exact decide_eq_true (by omega)) | ((with_reducible show decide _ = false); exact decide_eq_false (by omega)) | skip
          all_goals first | exact hrem _ _ _ rfl | rfl
      · obtain ⟨a, b, c, rfl⟩ : ∃ a b c : Int, out = [a, b, c] := by
          match out, hol with
          | [a, b, c], _ => exact ⟨a, b, c, rfl⟩
        rcases (show p = 0 ∨ p = 1 ∨ p = 2 ∨ p = 3 by omega) with rfl | rfl | rfl | rfl
        · refine .inl ⟨(4, [((3 : Nat) : Int), a, b, c]), [0, 4], [fn 9 (sl (cardsD C)), yes 11, yes 18, pl 22, ld 23 (.int .u8 D[3]), nu 24 D[3], va 27 (i6 (0 : Nat))], 1000, ⟨hlt, hnx.symm⟩, by dsimp only; omega, ?_⟩
          refine Eq.mp (by kernel_rfl : (((True ∧ True ∧ True ∧ True) ∧ True) ∧
                FnOk Try.prog T.e (17 : Nat)
                    [V.agg
                        [V.im (List.length C) (List.map (V.int IntKind.u8) C), V.int IntKind.u16 w,
                          V.im (List.length D) (List.map (V.int IntKind.u8) D)]]
                    (sl (cardsD C)) ∧
                  True ∧
                    decide ((↑(3 : Nat) : Int) < (↑(List.length (cardsD C)) : Int)) = true ∧
                      decide ((↑(3 : Nat) : Int) < (↑(List.length D) : Int)) = true ∧
                        ((0 : Int) ≤ (↑(3 : Nat) : Int) ∧ (↑(3 : Nat) : Int) < (↑(List.length D) : Int)) ∧
                          headF (List.drop ((3 : Nat) * (1 : Nat)) (List.map (V.int IntKind.u8) D)) =
                              some (V.int IntKind.u8 D[(3 : Nat)]) ∧
                            wr IntKind.i64 D[(3 : Nat)] = D[(3 : Nat)] ∧
                              binV (ctxOf Try.prog) BinOp.rem (3 : Nat) (V.int IntKind.i64 D[(3 : Nat)])
                                    (V.int IntKind.i64 (wr IntKind.i64 ((↑(3 : Nat) : Int) + (1 : Int)))) =
                                  some (i6 (↑(0 : Nat) : Int)) ∧
                                ((0 : Nat) = (0 : Nat) ∧
                                    ((0 : Nat) = (0 : Nat) ∧
                                        (3 : Nat) + (1 : Nat) =
                                            (1 : Nat) +
                                              (Int.toNat (Option.getD none (↑((2 : Nat) + (1 : Nat)) : Int)) -
                                                Int.toNat (Option.getD (some (↑(0 : Nat) : Int)) (0 : Int))) ∧
                                          True) ∧
                                      (↑(4 : Nat) : Int) = wr IntKind.i64 ((↑(3 : Nat) : Int) + (1 : Int)) ∧ True) ∧
                                  ([sl8 C, V.int IntKind.u16 w, sl8 D] = [sl8 C, V.int IntKind.u16 w, sl8 D] ∧
                                      True ∧ True ∧ True ∧ True) ∧
                                    (ints [(↑(3 : Nat) : Int), a, b, c] =
                                          i6 (↑(3 : Nat) : Int) ::
                                              List.take._f Nat.zero PUnit.unit
                                                (List.append._f [] PUnit.unit
                                                  (rep._f Nat.zero PUnit.unit [V.int IntKind.i64 (0 : Int)])) ++
                                            V.int IntKind.i64 a ::
                                              List.take._f (Nat.succ (1 : Nat))
                                                (Nat.rec ⟨List.take._f Nat.zero PUnit.unit, PUnit.unit⟩
                                                  (fun n n_ih => ⟨List.take._f (Nat.succ n) n_ih, n_ih⟩) (1 : Nat))
                                                (List.map._f (V.int IntKind.i64) [b, c]
                                                  (List.rec ⟨List.map._f (V.int IntKind.i64) [] PUnit.unit, PUnit.unit⟩
                                                    (fun head tail tail_ih =>
                                                      ⟨List.map._f (V.int IntKind.i64) (head :: tail) tail_ih, tail_ih⟩)
                                                    [c])) ∧
                                        True ∧ True ∧ True ∧ True ∧ True) ∧
                                      True) = _) ?_
          (repeat' (first | (with_reducible apply And.intro) | (refine fun (_ : True) => ?_))) <;> first | with_reducible (first | rfl | exact trivial | assumption | (refine decide_eq_true ?_ <;> omega) | (refine decide_eq_false ?_ <;> omega) | (refine head_ints1 ?_ <;> omega) | (refine bne_false ?_ <;> omega) | (refine bne_true ?_ <;> omega) | (refine beq_false' ?_ <;> omega) | (refine beq_true' ?_ <;> omega) | (refine wr6' ?_ ?_ ?_ <;> omega) | (refine rem6 ?_ <;> omega) | (refine quo6 ?_ ?_ ?_ <;> omega) | exact HfL_ints _ | omega) | ((with_reducible show (_ : V) = _); rfl) | (intro hk_; exfalso; revert hk_; simp; done) | (intros; simp_all; done) | (split <;> omega) | ((with_reducible show decide _ = true); exact decide_eq_true (by omega)) | ((with_reducible show decide _ = false); exact decide_eq_false (by omega)) | skip
          all_goals first | exact hrem _ _ _ rfl | rfl
        · refine .inl ⟨(4, [a, ((3 : Nat) : Int), b, c]), [0, 5], [fn 9 (sl (cardsD C)), yes 11, yes 18, pl 22, ld 23 (.int .u8 D[3]), nu 24 D[3], va 27 (i6 (1 : Nat))], 1000, ⟨hlt, hnx.symm⟩, by dsimp only; omega, ?_⟩
          refine Eq.mp (by kernel_rfl : (((True ∧ True ∧ True ∧ True) ∧ True) ∧
                FnOk Try.prog T.e (17 : Nat)
                    [V.agg
                        [V.im (List.length C) (List.map (V.int IntKind.u8) C), V.int IntKind.u16 w,
                          V.im (List.length D) (List.map (V.int IntKind.u8) D)]]
                    (sl (cardsD C)) ∧
                  True ∧
                    decide ((↑(3 : Nat) : Int) < (↑(List.length (cardsD C)) : Int)) = true ∧
                      decide ((↑(3 : Nat) : Int) < (↑(List.length D) : Int)) = true ∧
                        ((0 : Int) ≤ (↑(3 : Nat) : Int) ∧ (↑(3 : Nat) : Int) < (↑(List.length D) : Int)) ∧
                          headF (List.drop ((3 : Nat) * (1 : Nat)) (List.map (V.int IntKind.u8) D)) =
                              some (V.int IntKind.u8 D[(3 : Nat)]) ∧
                            wr IntKind.i64 D[(3 : Nat)] = D[(3 : Nat)] ∧
                              binV (ctxOf Try.prog) BinOp.rem (3 : Nat) (V.int IntKind.i64 D[(3 : Nat)])
                                    (V.int IntKind.i64 (wr IntKind.i64 ((↑(3 : Nat) : Int) + (1 : Int)))) =
                                  some (i6 (↑(1 : Nat) : Int)) ∧
                                ((0 : Nat) = (0 : Nat) ∧
                                    ((0 : Nat) = (0 : Nat) ∧
                                        (3 : Nat) + (1 : Nat) =
                                            Int.toNat (Option.getD (some (↑(1 : Nat) : Int)) (↑((2 : Nat) + (1 : Nat)) : Int)) -
                                                  Int.toNat (Option.getD none (0 : Int)) +
                                                (1 : Nat) +
                                              (Int.toNat (Option.getD none (↑((2 : Nat) + (1 : Nat)) : Int)) -
                                                Int.toNat (Option.getD (some (↑(1 : Nat) : Int)) (0 : Int))) ∧
                                          True) ∧
                                      (↑(4 : Nat) : Int) = wr IntKind.i64 ((↑(3 : Nat) : Int) + (1 : Int)) ∧ True) ∧
                                  ([sl8 C, V.int IntKind.u16 w, sl8 D] = [sl8 C, V.int IntKind.u16 w, sl8 D] ∧
                                      True ∧ True ∧ True ∧ True) ∧
                                    (ints [a, (↑(3 : Nat) : Int), b, c] =
                                          V.int IntKind.i64 a ::
                                                List.take._f Nat.zero PUnit.unit
                                                  (List.map._f (V.int IntKind.i64) [b, c]
                                                    (List.rec ⟨List.map._f (V.int IntKind.i64) [] PUnit.unit, PUnit.unit⟩
                                                      (fun head tail tail_ih =>
                                                        ⟨List.map._f (V.int IntKind.i64) (head :: tail) tail_ih, tail_ih⟩)
                                                      [c])) ++
                                              i6 (↑(3 : Nat) : Int) ::
                                                List.take._f Nat.zero PUnit.unit
                                                  (List.append._f [] PUnit.unit
                                                    (rep._f Nat.zero PUnit.unit [V.int IntKind.i64 (0 : Int)])) ++
                                            V.int IntKind.i64 b ::
                                              List.take._f (Nat.succ (0 : Nat))
                                                (Nat.rec ⟨List.take._f Nat.zero PUnit.unit, PUnit.unit⟩
                                                  (fun n n_ih => ⟨List.take._f (Nat.succ n) n_ih, n_ih⟩) (0 : Nat))
                                                (List.map._f (V.int IntKind.i64) [c]
                                                  (List.rec ⟨List.map._f (V.int IntKind.i64) [] PUnit.unit, PUnit.unit⟩
                                                    (fun head tail tail_ih =>
                                                      ⟨List.map._f (V.int IntKind.i64) (head :: tail) tail_ih, tail_ih⟩)
                                                    [])) ∧
                                        True ∧ True ∧ True ∧ True ∧ True) ∧
                                      True) = _) ?_
          (repeat' (first | (with_reducible apply And.intro) | (refine fun (_ : True) => ?_))) <;> first | with_reducible (first | rfl | exact trivial | assumption | (refine decide_eq_true ?_ <;> omega) | (refine decide_eq_false ?_ <;> omega) | (refine head_ints1 ?_ <;> omega) | (refine bne_false ?_ <;> omega) | (refine bne_true ?_ <;> omega) | (refine beq_false' ?_ <;> omega) | (refine beq_true' ?_ <;> omega) | (refine wr6' ?_ ?_ ?_ <;> omega) | (refine rem6 ?_ <;> omega) | (refine quo6 ?_ ?_ ?_ <;> omega) | exact HfL_ints _ | omega) | ((with_reducible show (_ : V) = _); rfl) | (intro hk_; exfalso; revert hk_; simp; done) | (intros; simp_all; done) | (split <;> omega) | ((with_reducible show decide _ = true); exact decide_eq_true (by omega)) | ((with_reducible show decide _ = false); exact decide_eq_false (by omega)) | skip
          all_goals first | exact hrem _ _ _ rfl | rfl
        · refine .inl ⟨(4, [a, b, ((3 : Nat) : Int), c]), [0, 5], [fn 9 (sl (cardsD C)), yes 11, yes 18, pl 22, ld 23 (.int .u8 D[3]), nu 24 D[3], va 27 (i6 (2 : Nat))], 1000, ⟨hlt, hnx.symm⟩, by dsimp only; omega, ?_⟩
          refine Eq.mp (by kernel_rfl : (((True ∧ True ∧ True ∧ True) ∧ True) ∧
                FnOk Try.prog T.e (17 : Nat)
                    [V.agg
                        [V.im (List.length C) (List.map (V.int IntKind.u8) C), V.int IntKind.u16 w,
                          V.im (List.length D) (List.map (V.int IntKind.u8) D)]]
                    (sl (cardsD C)) ∧
                  True ∧
                    decide ((↑(3 : Nat) : Int) < (↑(List.length (cardsD C)) : Int)) = true ∧
                      decide ((↑(3 : Nat) : Int) < (↑(List.length D) : Int)) = true ∧
                        ((0 : Int) ≤ (↑(3 : Nat) : Int) ∧ (↑(3 : Nat) : Int) < (↑(List.length D) : Int)) ∧
                          headF (List.drop ((3 : Nat) * (1 : Nat)) (List.map (V.int IntKind.u8) D)) =
                              some (V.int IntKind.u8 D[(3 : Nat)]) ∧
                            wr IntKind.i64 D[(3 : Nat)] = D[(3 : Nat)] ∧
                              binV (ctxOf Try.prog) BinOp.rem (3 : Nat) (V.int IntKind.i64 D[(3 : Nat)])
                                    (V.int IntKind.i64 (wr IntKind.i64 ((↑(3 : Nat) : Int) + (1 : Int)))) =
                                  some (i6 (↑(2 : Nat) : Int)) ∧
                                ((0 : Nat) = (0 : Nat) ∧
                                    ((0 : Nat) = (0 : Nat) ∧
                                        (3 : Nat) + (1 : Nat) =
                                            Int.toNat (Option.getD (some (↑(2 : Nat) : Int)) (↑((2 : Nat) + (1 : Nat)) : Int)) -
                                                  Int.toNat (Option.getD none (0 : Int)) +
                                                (1 : Nat) +
                                              (Int.toNat (Option.getD none (↑((2 : Nat) + (1 : Nat)) : Int)) -
                                                Int.toNat (Option.getD (some (↑(2 : Nat) : Int)) (0 : Int))) ∧
                                          True) ∧
                                      (↑(4 : Nat) : Int) = wr IntKind.i64 ((↑(3 : Nat) : Int) + (1 : Int)) ∧ True) ∧
                                  ([sl8 C, V.int IntKind.u16 w, sl8 D] = [sl8 C, V.int IntKind.u16 w, sl8 D] ∧
                                      True ∧ True ∧ True ∧ True) ∧
                                    (ints [a, b, (↑(3 : Nat) : Int), c] =
                                          V.int IntKind.i64 a ::
                                                List.take._f (Nat.succ (0 : Nat))
                                                  (Nat.rec ⟨List.take._f Nat.zero PUnit.unit, PUnit.unit⟩
                                                    (fun n n_ih => ⟨List.take._f (Nat.succ n) n_ih, n_ih⟩) (0 : Nat))
                                                  (List.map._f (V.int IntKind.i64) [b, c]
                                                    (List.rec ⟨List.map._f (V.int IntKind.i64) [] PUnit.unit, PUnit.unit⟩
                                                      (fun head tail tail_ih =>
                                                        ⟨List.map._f (V.int IntKind.i64) (head :: tail) tail_ih, tail_ih⟩)
                                                      [c])) ++
                                              i6 (↑(3 : Nat) : Int) ::
                                                List.take._f Nat.zero PUnit.unit
                                                  (List.append._f [] PUnit.unit
                                                    (rep._f Nat.zero PUnit.unit [V.int IntKind.i64 (0 : Int)])) ++
                                            V.int IntKind.i64 c ::
                                              List.take._f Nat.zero PUnit.unit (List.map._f (V.int IntKind.i64) [] PUnit.unit) ∧
                                        True ∧ True ∧ True ∧ True ∧ True) ∧
                                      True) = _) ?_
          (repeat' (first | (with_reducible apply And.intro) | (refine fun (_ : True) => ?_))) <;> first | with_reducible (first | rfl | exact trivial | assumption | (refine decide_eq_true ?_ <;> omega) | (refine decide_eq_false ?_ <;> omega) | (refine head_ints1 ?_ <;> omega) | (refine bne_false ?_ <;> omega) | (refine bne_true ?_ <;> omega) | (refine beq_false' ?_ <;> omega) | (refine beq_true' ?_ <;> omega) | (refine wr6' ?_ ?_ ?_ <;> omega) | (refine rem6 ?_ <;> omega) | (refine quo6 ?_ ?_ ?_ <;> omega) | exact HfL_ints _ | omega) | ((with_reducible show (_ : V) = _); rfl) | (intro hk_; exfalso; revert hk_; simp; done) | (intros; simp_all; done) | (split <;> omega) | ((with_reducible show decide _ = true); exact decide_eq_true (by omega)) | ((with_reducible show decide _ = false); exact decide_eq_false (by omega)) | skip
          all_goals first | exact hrem _ _ _ rfl | rfl
        · refine .inl ⟨(4, [a, b, c, ((3 : Nat) : Int)]), [0, 4], [fn 9 (sl (cardsD C)), yes 11, yes 18, pl 22, ld 23 (.int .u8 D[3]), nu 24 D[3], va 27 (i6 (3 : Nat))], 1000, ⟨hlt, hnx.symm⟩, by dsimp only; omega, ?_⟩
          refine Eq.mp (by kernel_rfl : (((True ∧ True ∧ True ∧ True) ∧ True) ∧
                FnOk Try.prog T.e (17 : Nat)
                    [V.agg
                        [V.im (List.length C) (List.map (V.int IntKind.u8) C), V.int IntKind.u16 w,
                          V.im (List.length D) (List.map (V.int IntKind.u8) D)]]
                    (sl (cardsD C)) ∧
                  True ∧
                    decide ((↑(3 : Nat) : Int) < (↑(List.length (cardsD C)) : Int)) = true ∧
                      decide ((↑(3 : Nat) : Int) < (↑(List.length D) : Int)) = true ∧
                        ((0 : Int) ≤ (↑(3 : Nat) : Int) ∧ (↑(3 : Nat) : Int) < (↑(List.length D) : Int)) ∧
                          headF (List.drop ((3 : Nat) * (1 : Nat)) (List.map (V.int IntKind.u8) D)) =
                              some (V.int IntKind.u8 D[(3 : Nat)]) ∧
                            wr IntKind.i64 D[(3 : Nat)] = D[(3 : Nat)] ∧
                              binV (ctxOf Try.prog) BinOp.rem (3 : Nat) (V.int IntKind.i64 D[(3 : Nat)])
                                    (V.int IntKind.i64 (wr IntKind.i64 ((↑(3 : Nat) : Int) + (1 : Int)))) =
                                  some (i6 (↑(3 : Nat) : Int)) ∧
                                ((0 : Nat) = (0 : Nat) ∧
                                    ((0 : Nat) = (0 : Nat) ∧
                                        (3 : Nat) + (1 : Nat) =
                                            Int.toNat (Option.getD (some (↑(3 : Nat) : Int)) (↑((2 : Nat) + (1 : Nat)) : Int)) -
                                                Int.toNat (Option.getD none (0 : Int)) +
                                              (1 : Nat) ∧
                                          True) ∧
                                      (↑(4 : Nat) : Int) = wr IntKind.i64 ((↑(3 : Nat) : Int) + (1 : Int)) ∧ True) ∧
                                  ([sl8 C, V.int IntKind.u16 w, sl8 D] = [sl8 C, V.int IntKind.u16 w, sl8 D] ∧
                                      True ∧ True ∧ True ∧ True) ∧
                                    (ints [a, b, c, (↑(3 : Nat) : Int)] =
                                          V.int IntKind.i64 a ::
                                              List.take._f (Nat.succ (1 : Nat))
                                                (Nat.rec ⟨List.take._f Nat.zero PUnit.unit, PUnit.unit⟩
                                                  (fun n n_ih => ⟨List.take._f (Nat.succ n) n_ih, n_ih⟩) (1 : Nat))
                                                (List.map._f (V.int IntKind.i64) [b, c]
                                                  (List.rec ⟨List.map._f (V.int IntKind.i64) [] PUnit.unit, PUnit.unit⟩
                                                    (fun head tail tail_ih =>
                                                      ⟨List.map._f (V.int IntKind.i64) (head :: tail) tail_ih, tail_ih⟩)
                                                    [c])) ++
                                            i6 (↑(3 : Nat) : Int) ::
                                              List.take._f Nat.zero PUnit.unit
                                                (List.append._f [] PUnit.unit
                                                  (rep._f Nat.zero PUnit.unit [V.int IntKind.i64 (0 : Int)])) ∧
                                        True ∧ True ∧ True ∧ True ∧ True) ∧
                                      True) = _) ?_
          (repeat' (first | (with_reducible apply And.intro) | (refine fun (_ : True) => ?_))) <;> first | with_reducible (first | rfl | exact trivial | assumption | (refine decide_eq_true ?_ <;> omega) | (refine decide_eq_false ?_ <;> omega) | (refine head_ints1 ?_ <;> omega) | (refine bne_false ?_ <;> omega) | (refine bne_true ?_ <;> omega) | (refine beq_false' ?_ <;> omega) | (refine beq_true' ?_ <;> omega) | (refine wr6' ?_ ?_ ?_ <;> omega) | (refine rem6 ?_ <;> omega) | (refine quo6 ?_ ?_ ?_ <;> omega) | exact HfL_ints _ | omega) | ((with_reducible show (_ : V) = _); rfl) | (intro hk_; exfalso; revert hk_; simp; done) | (intros; simp_all; done) | (split <;> omega) | ((with_reducible show decide _ = true); exact decide_eq_true (by omega)) | ((with_reducible show decide _ = false); exact decide_eq_false (by omega)) | skip
          all_goals first | exact hrem _ _ _ rfl | rfl
      · obtain ⟨a, b, c, d, rfl⟩ : ∃ a b c d : Int, out = [a, b, c, d] := by
          match out, hol with
          | [a, b, c, d], _ => exact ⟨a, b, c, d, rfl⟩
        rcases (show p = 0 ∨ p = 1 ∨ p = 2 ∨ p = 3 ∨ p = 4 by omega) with rfl | rfl | rfl | rfl | rfl
        · refine .inl ⟨(5, [((4 : Nat) : Int), a, b, c, d]), [0, 4], [fn 9 (sl (cardsD C)), yes 11, yes 18, pl 22, ld 23 (.int .u8 D[4]), nu 24 D[4], va 27 (i6 (0 : Nat))], 1000, ⟨hlt, hnx.symm⟩, by dsimp only; omega, ?_⟩
          refine Eq.mp (by kernel_rfl : (((True ∧ True ∧ True ∧ True) ∧ True) ∧
                FnOk Try.prog T.e (17 : Nat)
                    [V.agg
                        [V.im (List.length C) (List.map (V.int IntKind.u8) C), V.int IntKind.u16 w,
                          V.im (List.length D) (List.map (V.int IntKind.u8) D)]]
                    (sl (cardsD C)) ∧
                  True ∧
                    decide ((↑(4 : Nat) : Int) < (↑(List.length (cardsD C)) : Int)) = true ∧
                      decide ((↑(4 : Nat) : Int) < (↑(List.length D) : Int)) = true ∧
                        ((0 : Int) ≤ (↑(4 : Nat) : Int) ∧ (↑(4 : Nat) : Int) < (↑(List.length D) : Int)) ∧
                          headF (List.drop ((4 : Nat) * (1 : Nat)) (List.map (V.int IntKind.u8) D)) =
                              some (V.int IntKind.u8 D[(4 : Nat)]) ∧
                            wr IntKind.i64 D[(4 : Nat)] = D[(4 : Nat)] ∧
                              binV (ctxOf Try.prog) BinOp.rem (3 : Nat) (V.int IntKind.i64 D[(4 : Nat)])
                                    (V.int IntKind.i64 (wr IntKind.i64 ((↑(4 : Nat) : Int) + (1 : Int)))) =
                                  some (i6 (↑(0 : Nat) : Int)) ∧
                                ((0 : Nat) = (0 : Nat) ∧
                                    ((0 : Nat) = (0 : Nat) ∧
                                        (4 : Nat) + (1 : Nat) =
                                            (1 : Nat) +
                                              (Int.toNat (Option.getD none (↑((3 : Nat) + (1 : Nat)) : Int)) -
                                                Int.toNat (Option.getD (some (↑(0 : Nat) : Int)) (0 : Int))) ∧
                                          True) ∧
                                      (↑(5 : Nat) : Int) = wr IntKind.i64 ((↑(4 : Nat) : Int) + (1 : Int)) ∧ True) ∧
                                  ([sl8 C, V.int IntKind.u16 w, sl8 D] = [sl8 C, V.int IntKind.u16 w, sl8 D] ∧
                                      True ∧ True ∧ True ∧ True) ∧
                                    (ints [(↑(4 : Nat) : Int), a, b, c, d] =
                                          i6 (↑(4 : Nat) : Int) ::
                                              List.take._f Nat.zero PUnit.unit
                                                (List.append._f [] PUnit.unit
                                                  (rep._f Nat.zero PUnit.unit [V.int IntKind.i64 (0 : Int)])) ++
                                            V.int IntKind.i64 a ::
                                              List.take._f (Nat.succ (2 : Nat))
                                                (Nat.rec ⟨List.take._f Nat.zero PUnit.unit, PUnit.unit⟩
                                                  (fun n n_ih => ⟨List.take._f (Nat.succ n) n_ih, n_ih⟩) (2 : Nat))
                                                (List.map._f (V.int IntKind.i64) [b, c, d]
                                                  (List.rec ⟨List.map._f (V.int IntKind.i64) [] PUnit.unit, PUnit.unit⟩
                                                    (fun head tail tail_ih =>
                                                      ⟨List.map._f (V.int IntKind.i64) (head :: tail) tail_ih, tail_ih⟩)
                                                    [c, d])) ∧
                                        True ∧ True ∧ True ∧ True ∧ True ∧ True) ∧
                                      True) = _) ?_
          (repeat' (first | (with_reducible apply And.intro) | (refine fun (_ : True) => ?_))) <;> first | with_reducible (first | rfl | exact trivial | assumption | (refine decide_eq_true ?_ <;> omega) | (refine decide_eq_false ?_ <;> omega) | (refine head_ints1 ?_ <;> omega) | (refine bne_false ?_ <;> omega) | (refine bne_true ?_ <;> omega) | (refine beq_false' ?_ <;> omega) | (refine beq_true' ?_ <;> omega) | (refine wr6' ?_ ?_ ?_ <;> omega) | (refine rem6 ?_ <;> omega) | (refine quo6 ?_ ?_ ?_ <;> omega) | exact HfL_ints _ | omega) | ((with_reducible show (_ : V) = _); rfl) | (intro hk_; exfalso; revert hk_; simp; done) | (intros; simp_all; done) | (split <;> omega) | ((with_reducible show decide _ = true); exact decide_eq_true (by omega)) | ((with_reducible show decide _ = false); exact decide_eq_false (by omega)) | skip
          all_goals first | exact hrem _ _ _ rfl | rfl
        · refine .inl ⟨(5, [a, ((4 : Nat) : Int), b, c, d]), [0, 5], [fn 9 (sl (cardsD C)), yes 11, yes 18, pl 22, ld 23 (.int .u8 D[4]), nu 24 D[4], va 27 (i6 (1 : Nat))], 1000, ⟨hlt, hnx.symm⟩, by dsimp only; omega, ?_⟩
          refine Eq.mp (by kernel_rfl : (((True ∧ True ∧ True ∧ True) ∧ True) ∧
                FnOk Try.prog T.e (17 : Nat)
                    [V.agg
                        [V.im (List.length C) (List.map (V.int IntKind.u8) C), V.int IntKind.u16 w,
                          V.im (List.length D) (List.map (V.int IntKind.u8) D)]]
                    (sl (cardsD C)) ∧
                  True ∧
                    decide ((↑(4 : Nat) : Int) < (↑(List.length (cardsD C)) : Int)) = true ∧
                      decide ((↑(4 : Nat) : Int) < (↑(List.length D) : Int)) = true ∧
                        ((0 : Int) ≤ (↑(4 : Nat) : Int) ∧ (↑(4 : Nat) : Int) < (↑(List.length D) : Int)) ∧
                          headF (List.drop ((4 : Nat) * (1 : Nat)) (List.map (V.int IntKind.u8) D)) =
                              some (V.int IntKind.u8 D[(4 : Nat)]) ∧
                            wr IntKind.i64 D[(4 : Nat)] = D[(4 : Nat)] ∧
                              binV (ctxOf Try.prog) BinOp.rem (3 : Nat) (V.int IntKind.i64 D[(4 : Nat)])
                                    (V.int IntKind.i64 (wr IntKind.i64 ((↑(4 : Nat) : Int) + (1 : Int)))) =
                                  some (i6 (↑(1 : Nat) : Int)) ∧
                                ((0 : Nat) = (0 : Nat) ∧
                                    ((0 : Nat) = (0 : Nat) ∧
                                        (4 : Nat) + (1 : Nat) =
                                            Int.toNat (Option.getD (some (↑(1 : Nat) : Int)) (↑((3 : Nat) + (1 : Nat)) : Int)) -
                                                  Int.toNat (Option.getD none (0 : Int)) +
                                                (1 : Nat) +
                                              (Int.toNat (Option.getD none (↑((3 : Nat) + (1 : Nat)) : Int)) -
                                                Int.toNat (Option.getD (some (↑(1 : Nat) : Int)) (0 : Int))) ∧
                                          True) ∧
                                      (↑(5 : Nat) : Int) = wr IntKind.i64 ((↑(4 : Nat) : Int) + (1 : Int)) ∧ True) ∧
                                  ([sl8 C, V.int IntKind.u16 w, sl8 D] = [sl8 C, V.int IntKind.u16 w, sl8 D] ∧
                                      True ∧ True ∧ True ∧ True) ∧
                                    (ints [a, (↑(4 : Nat) : Int), b, c, d] =
                                          V.int IntKind.i64 a ::
                                                List.take._f Nat.zero PUnit.unit
                                                  (List.map._f (V.int IntKind.i64) [b, c, d]
                                                    (List.rec ⟨List.map._f (V.int IntKind.i64) [] PUnit.unit, PUnit.unit⟩
                                                      (fun head tail tail_ih =>
                                                        ⟨List.map._f (V.int IntKind.i64) (head :: tail) tail_ih, tail_ih⟩)
                                                      [c, d])) ++
                                              i6 (↑(4 : Nat) : Int) ::
                                                List.take._f Nat.zero PUnit.unit
                                                  (List.append._f [] PUnit.unit
                                                    (rep._f Nat.zero PUnit.unit [V.int IntKind.i64 (0 : Int)])) ++
                                            V.int IntKind.i64 b ::
                                              List.take._f (Nat.succ (1 : Nat))
                                                (Nat.rec ⟨List.take._f Nat.zero PUnit.unit, PUnit.unit⟩
                                                  (fun n n_ih => ⟨List.take._f (Nat.succ n) n_ih, n_ih⟩) (1 : Nat))
                                                (List.map._f (V.int IntKind.i64) [c, d]
                                                  (List.rec ⟨List.map._f (V.int IntKind.i64) [] PUnit.unit, PUnit.unit⟩
                                                    (fun head tail tail_ih =>
                                                      ⟨List.map._f (V.int IntKind.i64) (head :: tail) tail_ih, tail_ih⟩)
                                                    [d])) ∧
                                        True ∧ True ∧ True ∧ True ∧ True ∧ True) ∧
                                      True) = _) ?_
          (repeat' (first | (with_reducible apply And.intro) | (refine fun (_ : True) => ?_))) <;> first | with_reducible (first | rfl | exact trivial | assumption | (refine decide_eq_true ?_ <;> omega) | (refine decide_eq_false ?_ <;> omega) | (refine head_ints1 ?_ <;> omega) | (refine bne_false ?_ <;> omega) | (refine bne_true ?_ <;> omega) | (refine beq_false' ?_ <;> omega) | (refine beq_true' ?_ <;> omega) | (refine wr6' ?_ ?_ ?_ <;> omega) | (refine rem6 ?_ <;> omega) | (refine quo6 ?_ ?_ ?_ <;> omega) | exact HfL_ints _ | omega) | ((with_reducible show (_ : V) = _); rfl) | (intro hk_; exfalso; revert hk_; simp; done) | (intros; simp_all; done) | (split <;> omega) | ((with_reducible show decide _ = true); exact decide_eq_true (by omega)) | ((with_reducible show decide _ = false); exact decide_eq_false (by omega)) | skip
          all_goals first | exact hrem _ _ _ rfl | rfl
        · refine .inl ⟨(5, [a, b, ((4 : Nat) : Int), c, d]), [0, 5], [fn 9 (sl (cardsD C)), yes 11, yes 18, pl 22, ld 23 (.int .u8 D[4]), nu 24 D[4], va 27 (i6 (2 : Nat))], 1000, ⟨hlt, hnx.symm⟩, by dsimp only; omega, ?_⟩
          refine Eq.mp (by kernel_rfl : (((True ∧ True ∧ True ∧ True) ∧ True) ∧
                FnOk Try.prog T.e (17 : Nat)
                    [V.agg
                        [V.im (List.length C) (List.map (V.int IntKind.u8) C), V.int IntKind.u16 w,
                          V.im (List.length D) (List.map (V.int IntKind.u8) D)]]
                    (sl (cardsD C)) ∧
                  True ∧
                    decide ((↑(4 : Nat) : Int) < (↑(List.length (cardsD C)) : Int)) = true ∧
                      decide ((↑(4 : Nat) : Int) < (↑(List.length D) : Int)) = true ∧
                        ((0 : Int) ≤ (↑(4 : Nat) : Int) ∧ (↑(4 : Nat) : Int) < (↑(List.length D) : Int)) ∧
                          headF (List.drop ((4 : Nat) * (1 : Nat)) (List.map (V.int IntKind.u8) D)) =
                              some (V.int IntKind.u8 D[(4 : Nat)]) ∧
                            wr IntKind.i64 D[(4 : Nat)] = D[(4 : Nat)] ∧
                              binV (ctxOf Try.prog) BinOp.rem (3 : Nat) (V.int IntKind.i64 D[(4 : Nat)])
                                    (V.int IntKind.i64 (wr IntKind.i64 ((↑(4 : Nat) : Int) + (1 : Int)))) =
                                  some (i6 (↑(2 : Nat) : Int)) ∧
                                ((0 : Nat) = (0 : Nat) ∧
                                    ((0 : Nat) = (0 : Nat) ∧
                                        (4 : Nat) + (1 : Nat) =
                                            Int.toNat (Option.getD (some (↑(2 : Nat) : Int)) (↑((3 : Nat) + (1 : Nat)) : Int)) -
                                                  Int.toNat (Option.getD none (0 : Int)) +
                                                (1 : Nat) +
                                              (Int.toNat (Option.getD none (↑((3 : Nat) + (1 : Nat)) : Int)) -
                                                Int.toNat (Option.getD (some (↑(2 : Nat) : Int)) (0 : Int))) ∧
                                          True) ∧
                                      (↑(5 : Nat) : Int) = wr IntKind.i64 ((↑(4 : Nat) : Int) + (1 : Int)) ∧ True) ∧
                                  ([sl8 C, V.int IntKind.u16 w, sl8 D] = [sl8 C, V.int IntKind.u16 w, sl8 D] ∧
                                      True ∧ True ∧ True ∧ True) ∧
                                    (ints [a, b, (↑(4 : Nat) : Int), c, d] =
                                          V.int IntKind.i64 a ::
                                                List.take._f (Nat.succ (0 : Nat))
                                                  (Nat.rec ⟨List.take._f Nat.zero PUnit.unit, PUnit.unit⟩
                                                    (fun n n_ih => ⟨List.take._f (Nat.succ n) n_ih, n_ih⟩) (0 : Nat))
                                                  (List.map._f (V.int IntKind.i64) [b, c, d]
                                                    (List.rec ⟨List.map._f (V.int IntKind.i64) [] PUnit.unit, PUnit.unit⟩
                                                      (fun head tail tail_ih =>
                                                        ⟨List.map._f (V.int IntKind.i64) (head :: tail) tail_ih, tail_ih⟩)
                                                      [c, d])) ++
                                              i6 (↑(4 : Nat) : Int) ::
                                                List.take._f Nat.zero PUnit.unit
                                                  (List.append._f [] PUnit.unit
                                                    (rep._f Nat.zero PUnit.unit [V.int IntKind.i64 (0 : Int)])) ++
                                            V.int IntKind.i64 c ::
                                              List.take._f (Nat.succ (0 : Nat))
                                                (Nat.rec ⟨List.take._f Nat.zero PUnit.unit, PUnit.unit⟩
                                                  (fun n n_ih => ⟨List.take._f (Nat.succ n) n_ih, n_ih⟩) (0 : Nat))
                                                (List.map._f (V.int IntKind.i64) [d]
                                                  (List.rec ⟨List.map._f (V.int IntKind.i64) [] PUnit.unit, PUnit.unit⟩
                                                    (fun head tail tail_ih =>
                                                      ⟨List.map._f (V.int IntKind.i64) (head :: tail) tail_ih, tail_ih⟩)
                                                    [])) ∧
                                        True ∧ True ∧ True ∧ True ∧ True ∧ True) ∧
                                      True) = _) ?_
          (repeat' (first | (with_reducible apply And.intro) | (refine fun (_ : True) => ?_))) <;> first | with_reducible (first | rfl | exact trivial | assumption | (refine decide_eq_true ?_ <;> omega) | (refine decide_eq_false ?_ <;> omega) | (refine head_ints1 ?_ <;> omega) | (refine bne_false ?_ <;> omega) | (refine bne_true ?_ <;> omega) | (refine beq_false' ?_ <;> omega) | (refine beq_true' ?_ <;> omega) | (refine wr6' ?_ ?_ ?_ <;> omega) | (refine rem6 ?_ <;> omega) | (refine quo6 ?_ ?_ ?_ <;> omega) | exact HfL_ints _ | omega) | ((with_reducible show (_ : V) = _); rfl) | (intro hk_; exfalso; revert hk_; simp; done) | (intros; simp_all; done) | (split <;> omega) | ((with_reducible show decide _ = true); exact decide_eq_true (by omega)) | ((with_reducible show decide _ = false); exact decide_eq_false (by omega)) | skip
          all_goals first | exact hrem _ _ _ rfl | rfl
        · refine .inl ⟨(5, [a, b, c, ((4 : Nat) : Int), d]), [0, 5], [fn 9 (sl (cardsD C)), yes 11, yes 18, pl 22, ld 23 (.int .u8 D[4]), nu 24 D[4], va 27 (i6 (3 : Nat))], 1000, ⟨hlt, hnx.symm⟩, by dsimp only; omega, ?_⟩
          refine Eq.mp (by kernel_rfl : (((True ∧ True ∧ True ∧ True) ∧ True) ∧
                FnOk Try.prog T.e (17 : Nat)
                    [V.agg
                        [V.im (List.length C) (List.map (V.int IntKind.u8) C), V.int IntKind.u16 w,
                          V.im (List.length D) (List.map (V.int IntKind.u8) D)]]
                    (sl (cardsD C)) ∧
                  True ∧
                    decide ((↑(4 : Nat) : Int) < (↑(List.length (cardsD C)) : Int)) = true ∧
                      decide ((↑(4 : Nat) : Int) < (↑(List.length D) : Int)) = true ∧
                        ((0 : Int) ≤ (↑(4 : Nat) : Int) ∧ (↑(4 : Nat) : Int) < (↑(List.length D) : Int)) ∧
                          headF (List.drop ((4 : Nat) * (1 : Nat)) (List.map (V.int IntKind.u8) D)) =
                              some (V.int IntKind.u8 D[(4 : Nat)]) ∧
                            wr IntKind.i64 D[(4 : Nat)] = D[(4 : Nat)] ∧
                              binV (ctxOf Try.prog) BinOp.rem (3 : Nat) (V.int IntKind.i64 D[(4 : Nat)])
                                    (V.int IntKind.i64 (wr IntKind.i64 ((↑(4 : Nat) : Int) + (1 : Int)))) =
                                  some (i6 (↑(3 : Nat) : Int)) ∧
                                ((0 : Nat) = (0 : Nat) ∧
                                    ((0 : Nat) = (0 : Nat) ∧
                                        (4 : Nat) + (1 : Nat) =
                                            Int.toNat (Option.getD (some (↑(3 : Nat) : Int)) (↑((3 : Nat) + (1 : Nat)) : Int)) -
                                                  Int.toNat (Option.getD none (0 : Int)) +
                                                (1 : Nat) +
                                              (Int.toNat (Option.getD none (↑((3 : Nat) + (1 : Nat)) : Int)) -
                                                Int.toNat (Option.getD (some (↑(3 : Nat) : Int)) (0 : Int))) ∧
                                          True) ∧
                                      (↑(5 : Nat) : Int) = wr IntKind.i64 ((↑(4 : Nat) : Int) + (1 : Int)) ∧ True) ∧
                                  ([sl8 C, V.int IntKind.u16 w, sl8 D] = [sl8 C, V.int IntKind.u16 w, sl8 D] ∧
                                      True ∧ True ∧ True ∧ True) ∧
                                    (ints [a, b, c, (↑(4 : Nat) : Int), d] =
                                          V.int IntKind.i64 a ::
                                                List.take._f (Nat.succ (1 : Nat))
                                                  (Nat.rec ⟨List.take._f Nat.zero PUnit.unit, PUnit.unit⟩
                                                    (fun n n_ih => ⟨List.take._f (Nat.succ n) n_ih, n_ih⟩) (1 : Nat))
                                                  (List.map._f (V.int IntKind.i64) [b, c, d]
                                                    (List.rec ⟨List.map._f (V.int IntKind.i64) [] PUnit.unit, PUnit.unit⟩
                                                      (fun head tail tail_ih =>
                                                        ⟨List.map._f (V.int IntKind.i64) (head :: tail) tail_ih, tail_ih⟩)
                                                      [c, d])) ++
                                              i6 (↑(4 : Nat) : Int) ::
                                                List.take._f Nat.zero PUnit.unit
                                                  (List.append._f [] PUnit.unit
                                                    (rep._f Nat.zero PUnit.unit [V.int IntKind.i64 (0 : Int)])) ++
                                            V.int IntKind.i64 d ::
                                              List.take._f Nat.zero PUnit.unit (List.map._f (V.int IntKind.i64) [] PUnit.unit) ∧
                                        True ∧ True ∧ True ∧ True ∧ True ∧ True) ∧
                                      True) = _) ?_
          (repeat' (first | (with_reducible apply And.intro) | (refine fun (_ : True) => ?_))) <;> first | with_reducible (first | rfl | exact trivial | assumption | (refine decide_eq_true ?_ <;> omega) | (refine decide_eq_false ?_ <;> omega) | (refine head_ints1 ?_ <;> omega) | (refine bne_false ?_ <;> omega) | (refine bne_true ?_ <;> omega) | (refine beq_false' ?_ <;> omega) | (refine beq_true' ?_ <;> omega) | (refine wr6' ?_ ?_ ?_ <;> omega) | (refine rem6 ?_ <;> omega) | (refine quo6 ?_ ?_ ?_ <;> omega) | exact HfL_ints _ | omega) | ((with_reducible show (_ : V) = _); rfl) | (intro hk_; exfalso; revert hk_; simp; done) | (intros; simp_all; done) | (split <;> omega) | ((with_reducible show decide _ = true); exact decide_eq_true (by omega)) | ((with_reducible show decide _ = false); exact decide_eq_false (by omega)) | skip
          all_goals first | exact hrem _ _ _ rfl | rfl
        · refine .inl ⟨(5, [a, b, c, d, ((4 : Nat) : Int)]), [0, 4], [fn 9 (sl (cardsD C)), yes 11, yes 18, pl 22, ld 23 (.int .u8 D[4]), nu 24 D[4], va 27 (i6 (4 : Nat))], 1000, ⟨hlt, hnx.symm⟩, by dsimp only; omega, ?_⟩
          refine Eq.mp (by kernel_rfl : (((True ∧ True ∧ True ∧ True) ∧ True) ∧
                FnOk Try.prog T.e (17 : Nat)
                    [V.agg
                        [V.im (List.length C) (List.map (V.int IntKind.u8) C), V.int IntKind.u16 w,
                          V.im (List.length D) (List.map (V.int IntKind.u8) D)]]
                    (sl (cardsD C)) ∧
                  True ∧
                    decide ((↑(4 : Nat) : Int) < (↑(List.length (cardsD C)) : Int)) = true ∧
                      decide ((↑(4 : Nat) : Int) < (↑(List.length D) : Int)) = true ∧
                        ((0 : Int) ≤ (↑(4 : Nat) : Int) ∧ (↑(4 : Nat) : Int) < (↑(List.length D) : Int)) ∧
                          headF (List.drop ((4 : Nat) * (1 : Nat)) (List.map (V.int IntKind.u8) D)) =
                              some (V.int IntKind.u8 D[(4 : Nat)]) ∧
                            wr IntKind.i64 D[(4 : Nat)] = D[(4 : Nat)] ∧
                              binV (ctxOf Try.prog) BinOp.rem (3 : Nat) (V.int IntKind.i64 D[(4 : Nat)])
                                    (V.int IntKind.i64 (wr IntKind.i64 ((↑(4 : Nat) : Int) + (1 : Int)))) =
                                  some (i6 (↑(4 : Nat) : Int)) ∧
                                ((0 : Nat) = (0 : Nat) ∧
                                    ((0 : Nat) = (0 : Nat) ∧
                                        (4 : Nat) + (1 : Nat) =
                                            Int.toNat (Option.getD (some (↑(4 : Nat) : Int)) (↑((3 : Nat) + (1 : Nat)) : Int)) -
                                                Int.toNat (Option.getD none (0 : Int)) +
                                              (1 : Nat) ∧
                                          True) ∧
                                      (↑(5 : Nat) : Int) = wr IntKind.i64 ((↑(4 : Nat) : Int) + (1 : Int)) ∧ True) ∧
                                  ([sl8 C, V.int IntKind.u16 w, sl8 D] = [sl8 C, V.int IntKind.u16 w, sl8 D] ∧
                                      True ∧ True ∧ True ∧ True) ∧
                                    (ints [a, b, c, d, (↑(4 : Nat) : Int)] =
                                          V.int IntKind.i64 a ::
                                              List.take._f (Nat.succ (2 : Nat))
                                                (Nat.rec ⟨List.take._f Nat.zero PUnit.unit, PUnit.unit⟩
                                                  (fun n n_ih => ⟨List.take._f (Nat.succ n) n_ih, n_ih⟩) (2 : Nat))
                                                (List.map._f (V.int IntKind.i64) [b, c, d]
                                                  (List.rec ⟨List.map._f (V.int IntKind.i64) [] PUnit.unit, PUnit.unit⟩
                                                    (fun head tail tail_ih =>
                                                      ⟨List.map._f (V.int IntKind.i64) (head :: tail) tail_ih, tail_ih⟩)
                                                    [c, d])) ++
                                            i6 (↑(4 : Nat) : Int) ::
                                              List.take._f Nat.zero PUnit.unit
                                                (List.append._f [] PUnit.unit
                                                  (rep._f Nat.zero PUnit.unit [V.int IntKind.i64 (0 : Int)])) ∧
                                        True ∧ True ∧ True ∧ True ∧ True ∧ True) ∧
                                      True) = _) ?_
          (repeat' (first | (with_reducible apply And.intro) | (refine fun (_ : True) => ?_))) <;> first | with_reducible (first | rfl | exact trivial | assumption | (refine decide_eq_true ?_ <;> omega) | (refine decide_eq_false ?_ <;> omega) | (refine head_ints1 ?_ <;> omega) | (refine bne_false ?_ <;> omega) | (refine bne_true ?_ <;> omega) | (refine beq_false' ?_ <;> omega) | (refine beq_true' ?_ <;> omega) | (refine wr6' ?_ ?_ ?_ <;> omega) | (refine rem6 ?_ <;> omega) | (refine quo6 ?_ ?_ ?_ <;> omega) | exact HfL_ints _ | omega) | ((with_reducible show (_ : V) = _); rfl) | (intro hk_; exfalso; revert hk_; simp; done) | (intros; simp_all; done) | (split <;> omega) | ((with_reducible show decide _ = true); exact decide_eq_true (by omega)) | ((with_reducible show decide _ = false); exact decide_eq_false (by omega)) | skip
          all_goals first | exact hrem _ _ _ rfl | rfl
    · rcases (show k = 0 ∨ k = 1 ∨ k = 2 ∨ k = 3 ∨ k = 4 by omega) with rfl | rfl | rfl | rfl | rfl
      · obtain rfl : out = [] := List.eq_nil_of_length_eq_zero hol
        obtain rfl : p = 0 := by rw [posD, dif_neg hDk] at hp; omega
        refine .inl ⟨(1, [((0 : Nat) : Int)]), [0, 2], [fn 9 (sl (cardsD C)), yes 11, no 18], 1000, ⟨hlt, hnx.symm⟩, by dsimp only; omega, ?_⟩
        refine Eq.mp (by kernel_rfl : (((True ∧ True ∧ True ∧ True) ∧ True) ∧
              FnOk Try.prog T.e (17 : Nat)
                  [V.agg
                      [V.im (List.length C) (List.map (V.int IntKind.u8) C), V.int IntKind.u16 w,
                        V.im (List.length D) (List.map (V.int IntKind.u8) D)]]
                  (sl (cardsD C)) ∧
                True ∧
                  decide ((↑(0 : Nat) : Int) < (↑(List.length (cardsD C)) : Int)) = true ∧
                    decide ((↑(0 : Nat) : Int) < (↑(List.length D) : Int)) = false ∧
                      ((0 : Nat) = (0 : Nat) ∧
                          ((0 : Nat) = (0 : Nat) ∧ (0 : Nat) + (1 : Nat) = (1 : Nat) ∧ True) ∧
                            (↑(1 : Nat) : Int) = wr IntKind.i64 ((↑(0 : Nat) : Int) + (1 : Int)) ∧ True) ∧
                        ([sl8 C, V.int IntKind.u16 w, sl8 D] = [sl8 C, V.int IntKind.u16 w, sl8 D] ∧ True ∧ True ∧ True ∧ True) ∧
                          (ints [(↑(0 : Nat) : Int)] =
                                i6 (↑(0 : Nat) : Int) ::
                                  List.take._f Nat.zero PUnit.unit
                                    (List.append._f [] PUnit.unit (rep._f Nat.zero PUnit.unit [V.int IntKind.i64 (0 : Int)])) ∧
                              True ∧ True) ∧
                            True) = _) ?_
        clear hp hnx ho hbd hol
        (repeat' (first | (with_reducible apply And.intro) | (refine fun (_ : True) => ?_))) <;> first | with_reducible (first | rfl | exact trivial | assumption | (refine decide_eq_true ?_ <;> omega) | (refine decide_eq_false ?_ <;> omega) | (refine head_ints1 ?_ <;> omega) | (refine bne_false ?_ <;> omega) | (refine bne_true ?_ <;> omega) | (refine beq_false' ?_ <;> omega) | (refine beq_true' ?_ <;> omega) | (refine wr6' ?_ ?_ ?_ <;> omega) | (refine rem6 ?_ <;> omega) | (refine quo6 ?_ ?_ ?_ <;> omega) | exact HfL_ints _ | omega) | ((with_reducible show (_ : V) = _); rfl) | (intro hk_; exfalso; revert hk_; simp; done) | (intros; simp_all; done) | (split <;> omega) | ((with_reducible show decide _ = true); exact decide_eq_true (by omega)) | ((with_reducible show decide _ = false); exact decide_eq_false (by omega)) | skip
        all_goals rfl
      · obtain ⟨a, rfl⟩ : ∃ a : Int, out = [a] := by
          match out, hol with
          | [a], _ => exact ⟨a, rfl⟩
        obtain rfl : p = 0 := by rw [posD, dif_neg hDk] at hp; omega
        refine .inl ⟨(2, [((1 : Nat) : Int), a]), [0, 4], [fn 9 (sl (cardsD C)), yes 11, no 18], 1000, ⟨hlt, hnx.symm⟩, by dsimp only; omega, ?_⟩
        refine Eq.mp (by kernel_rfl : (((True ∧ True ∧ True ∧ True) ∧ True) ∧
              FnOk Try.prog T.e (17 : Nat)
                  [V.agg
                      [V.im (List.length C) (List.map (V.int IntKind.u8) C), V.int IntKind.u16 w,
                        V.im (List.length D) (List.map (V.int IntKind.u8) D)]]
                  (sl (cardsD C)) ∧
                True ∧
                  decide ((↑(1 : Nat) : Int) < (↑(List.length (cardsD C)) : Int)) = true ∧
                    decide ((↑(1 : Nat) : Int) < (↑(List.length D) : Int)) = false ∧
                      ((0 : Nat) = (0 : Nat) ∧
                          ((0 : Nat) = (0 : Nat) ∧
                              (1 : Nat) + (1 : Nat) =
                                  (1 : Nat) +
                                    (Int.toNat (Option.getD none (↑((0 : Nat) + (1 : Nat)) : Int)) -
                                      Int.toNat (Option.getD (some (0 : Int)) (0 : Int))) ∧
                                True) ∧
                            (↑(2 : Nat) : Int) = wr IntKind.i64 ((↑(1 : Nat) : Int) + (1 : Int)) ∧ True) ∧
                        ([sl8 C, V.int IntKind.u16 w, sl8 D] = [sl8 C, V.int IntKind.u16 w, sl8 D] ∧ True ∧ True ∧ True ∧ True) ∧
                          (ints [(↑(1 : Nat) : Int), a] =
                                i6 (↑(1 : Nat) : Int) ::
                                    List.take._f Nat.zero PUnit.unit
                                      (List.append._f [] PUnit.unit (rep._f Nat.zero PUnit.unit [V.int IntKind.i64 (0 : Int)])) ++
                                  V.int IntKind.i64 a ::
                                    List.take._f Nat.zero PUnit.unit (List.map._f (V.int IntKind.i64) [] PUnit.unit) ∧
                              True ∧ True ∧ True) ∧
                            True) = _) ?_
        clear hp hnx ho hbd hol
        (repeat' (first | (with_reducible apply And.intro) | (refine fun (_ : True) => ?_))) <;> first | with_reducible (first | rfl | exact trivial | assumption | (refine decide_eq_true ?_ <;> omega) | (refine decide_eq_false ?_ <;> omega) | (refine head_ints1 ?_ <;> omega) | (refine bne_false ?_ <;> omega) | (refine bne_true ?_ <;> omega) | (refine beq_false' ?_ <;> omega) | (refine beq_true' ?_ <;> omega) | (refine wr6' ?_ ?_ ?_ <;> omega) | (refine rem6 ?_ <;> omega) | (refine quo6 ?_ ?_ ?_ <;> omega) | exact HfL_ints _ | omega) | ((with_reducible show (_ : V) = _); rfl) | (intro hk_; exfalso; revert hk_; simp; done) | (intros; simp_all; done) | (split <;> omega) | ((with_reducible show decide _ = true); exact decide_eq_true (by omega)) | ((with_reducible show decide _ = false); exact decide_eq_false (by omega)) | skip
        all_goals rfl
      · obtain ⟨a, b, rfl⟩ : ∃ a b : Int, out = [a, b] := by
          match out, hol with
          | [a, b], _ => exact ⟨a, b, rfl⟩
        obtain rfl : p = 0 := by rw [posD, dif_neg hDk] at hp; omega
        refine .inl ⟨(3, [((2 : Nat) : Int), a, b]), [0, 4], [fn 9 (sl (cardsD C)), yes 11, no 18], 1000, ⟨hlt, hnx.symm⟩, by dsimp only; omega, ?_⟩
        refine Eq.mp (by kernel_rfl : (((True ∧ True ∧ True ∧ True) ∧ True) ∧
              FnOk Try.prog T.e (17 : Nat)
                  [V.agg
                      [V.im (List.length C) (List.map (V.int IntKind.u8) C), V.int IntKind.u16 w,
                        V.im (List.length D) (List.map (V.int IntKind.u8) D)]]
                  (sl (cardsD C)) ∧
                True ∧
                  decide ((↑(2 : Nat) : Int) < (↑(List.length (cardsD C)) : Int)) = true ∧
                    decide ((↑(2 : Nat) : Int) < (↑(List.length D) : Int)) = false ∧
                      ((0 : Nat) = (0 : Nat) ∧
                          ((0 : Nat) = (0 : Nat) ∧
                              (2 : Nat) + (1 : Nat) =
                                  (1 : Nat) +
                                    (Int.toNat (Option.getD none (↑((1 : Nat) + (1 : Nat)) : Int)) -
                                      Int.toNat (Option.getD (some (0 : Int)) (0 : Int))) ∧
                                True) ∧
                            (↑(3 : Nat) : Int) = wr IntKind.i64 ((↑(2 : Nat) : Int) + (1 : Int)) ∧ True) ∧
                        ([sl8 C, V.int IntKind.u16 w, sl8 D] = [sl8 C, V.int IntKind.u16 w, sl8 D] ∧ True ∧ True ∧ True ∧ True) ∧
                          (ints [(↑(2 : Nat) : Int), a, b] =
                                i6 (↑(2 : Nat) : Int) ::
                                    List.take._f Nat.zero PUnit.unit
                                      (List.append._f [] PUnit.unit (rep._f Nat.zero PUnit.unit [V.int IntKind.i64 (0 : Int)])) ++
                                  V.int IntKind.i64 a ::
                                    List.take._f (Nat.succ (0 : Nat))
                                      (Nat.rec ⟨List.take._f Nat.zero PUnit.unit, PUnit.unit⟩
                                        (fun n n_ih => ⟨List.take._f (Nat.succ n) n_ih, n_ih⟩) (0 : Nat))
                                      (List.map._f (V.int IntKind.i64) [b]
                                        (List.rec ⟨List.map._f (V.int IntKind.i64) [] PUnit.unit, PUnit.unit⟩
                                          (fun head tail tail_ih =>
                                            ⟨List.map._f (V.int IntKind.i64) (head :: tail) tail_ih, tail_ih⟩)
                                          [])) ∧
                              True ∧ True ∧ True ∧ True) ∧
                            True) = _) ?_
        clear hp hnx ho hbd hol
        (repeat' (first | (with_reducible apply And.intro) | (refine fun (_ : True) => ?_))) <;> first | with_reducible (first | rfl | exact trivial | assumption | (refine decide_eq_true ?_ <;> omega) | (refine decide_eq_false ?_ <;> omega) | (refine head_ints1 ?_ <;> omega) | (refine bne_false ?_ <;> omega) | (refine bne_true ?_ <;> omega) | (refine beq_false' ?_ <;> omega) | (refine beq_true' ?_ <;> omega) | (refine wr6' ?_ ?_ ?_ <;> omega) | (refine rem6 ?_ <;> omega) | (refine quo6 ?_ ?_ ?_ <;> omega) | exact HfL_ints _ | omega) | ((with_reducible show (_ : V) = _); rfl) | (intro hk_; exfalso; revert hk_; simp; done) | (intros; simp_all; done) | (split <;> omega) | ((with_reducible show decide _ = true); exact decide_eq_true (by omega)) | ((with_reducible show decide _ = false); exact decide_eq_false (by omega)) | skip
        all_goals rfl
      · obtain ⟨a, b, c, rfl⟩ : ∃ a b c : Int, out = [a, b, c] := by
          match out, hol with
          | [a, b, c], _ => exact ⟨a, b, c, rfl⟩
        obtain rfl : p = 0 := by rw [posD, dif_neg hDk] at hp; omega
        refine .inl ⟨(4, [((3 : Nat) : Int), a, b, c]), [0, 4], [fn 9 (sl (cardsD C)), yes 11, no 18], 1000, ⟨hlt, hnx.symm⟩, by dsimp only; omega, ?_⟩
        refine Eq.mp (by kernel_rfl : (((True ∧ True ∧ True ∧ True) ∧ True) ∧
              FnOk Try.prog T.e (17 : Nat)
                  [V.agg
                      [V.im (List.length C) (List.map (V.int IntKind.u8) C), V.int IntKind.u16 w,
                        V.im (List.length D) (List.map (V.int IntKind.u8) D)]]
                  (sl (cardsD C)) ∧
                True ∧
                  decide ((↑(3 : Nat) : Int) < (↑(List.length (cardsD C)) : Int)) = true ∧
                    decide ((↑(3 : Nat) : Int) < (↑(List.length D) : Int)) = false ∧
                      ((0 : Nat) = (0 : Nat) ∧
                          ((0 : Nat) = (0 : Nat) ∧
                              (3 : Nat) + (1 : Nat) =
                                  (1 : Nat) +
                                    (Int.toNat (Option.getD none (↑((2 : Nat) + (1 : Nat)) : Int)) -
                                      Int.toNat (Option.getD (some (0 : Int)) (0 : Int))) ∧
                                True) ∧
                            (↑(4 : Nat) : Int) = wr IntKind.i64 ((↑(3 : Nat) : Int) + (1 : Int)) ∧ True) ∧
                        ([sl8 C, V.int IntKind.u16 w, sl8 D] = [sl8 C, V.int IntKind.u16 w, sl8 D] ∧ True ∧ True ∧ True ∧ True) ∧
                          (ints [(↑(3 : Nat) : Int), a, b, c] =
                                i6 (↑(3 : Nat) : Int) ::
                                    List.take._f Nat.zero PUnit.unit
                                      (List.append._f [] PUnit.unit (rep._f Nat.zero PUnit.unit [V.int IntKind.i64 (0 : Int)])) ++
                                  V.int IntKind.i64 a ::
                                    List.take._f (Nat.succ (1 : Nat))
                                      (Nat.rec ⟨List.take._f Nat.zero PUnit.unit, PUnit.unit⟩
                                        (fun n n_ih => ⟨List.take._f (Nat.succ n) n_ih, n_ih⟩) (1 : Nat))
                                      (List.map._f (V.int IntKind.i64) [b, c]
                                        (List.rec ⟨List.map._f (V.int IntKind.i64) [] PUnit.unit, PUnit.unit⟩
                                          (fun head tail tail_ih =>
                                            ⟨List.map._f (V.int IntKind.i64) (head :: tail) tail_ih, tail_ih⟩)
                                          [c])) ∧
                              True ∧ True ∧ True ∧ True ∧ True) ∧
                            True) = _) ?_
        clear hp hnx ho hbd hol
        (repeat' (first | (with_reducible apply And.intro) | (refine fun (_ : True) => ?_))) <;> first | with_reducible (first | rfl | exact trivial | assumption | (refine decide_eq_true ?_ <;> omega) | (refine decide_eq_false ?_ <;> omega) | (refine head_ints1 ?_ <;> omega) | (refine bne_false ?_ <;> omega) | (refine bne_true ?_ <;> omega) | (refine beq_false' ?_ <;> omega) | (refine beq_true' ?_ <;> omega) | (refine wr6' ?_ ?_ ?_ <;> omega) | (refine rem6 ?_ <;> omega) | (refine quo6 ?_ ?_ ?_ <;> omega) | exact HfL_ints _ | omega) | ((with_reducible show (_ : V) = _); rfl) | (intro hk_; exfalso; revert hk_; simp; done) | (intros; simp_all; done) | (split <;> omega) | ((with_reducible show decide _ = true); exact decide_eq_true (by omega)) | ((with_reducible show decide _ = false); exact decide_eq_false (by omega)) | skip
        all_goals rfl
      · obtain ⟨a, b, c, d, rfl⟩ : ∃ a b c d : Int, out = [a, b, c, d] := by
          match out, hol with
          | [a, b, c, d], _ => exact ⟨a, b, c, d, rfl⟩
        obtain rfl : p = 0 := by rw [posD, dif_neg hDk] at hp; omega
        refine .inl ⟨(5, [((4 : Nat) : Int), a, b, c, d]), [0, 4], [fn 9 (sl (cardsD C)), yes 11, no 18], 1000, ⟨hlt, hnx.symm⟩, by dsimp only; omega, ?_⟩
        refine Eq.mp (by kernel_rfl : (((True ∧ True ∧ True ∧ True) ∧ True) ∧
              FnOk Try.prog T.e (17 : Nat)
                  [V.agg
                      [V.im (List.length C) (List.map (V.int IntKind.u8) C), V.int IntKind.u16 w,
                        V.im (List.length D) (List.map (V.int IntKind.u8) D)]]
                  (sl (cardsD C)) ∧
                True ∧
                  decide ((↑(4 : Nat) : Int) < (↑(List.length (cardsD C)) : Int)) = true ∧
                    decide ((↑(4 : Nat) : Int) < (↑(List.length D) : Int)) = false ∧
                      ((0 : Nat) = (0 : Nat) ∧
                          ((0 : Nat) = (0 : Nat) ∧
                              (4 : Nat) + (1 : Nat) =
                                  (1 : Nat) +
                                    (Int.toNat (Option.getD none (↑((3 : Nat) + (1 : Nat)) : Int)) -
                                      Int.toNat (Option.getD (some (0 : Int)) (0 : Int))) ∧
                                True) ∧
                            (↑(5 : Nat) : Int) = wr IntKind.i64 ((↑(4 : Nat) : Int) + (1 : Int)) ∧ True) ∧
                        ([sl8 C, V.int IntKind.u16 w, sl8 D] = [sl8 C, V.int IntKind.u16 w, sl8 D] ∧ True ∧ True ∧ True ∧ True) ∧
                          (ints [(↑(4 : Nat) : Int), a, b, c, d] =
                                i6 (↑(4 : Nat) : Int) ::
                                    List.take._f Nat.zero PUnit.unit
                                      (List.append._f [] PUnit.unit (rep._f Nat.zero PUnit.unit [V.int IntKind.i64 (0 : Int)])) ++
                                  V.int IntKind.i64 a ::
                                    List.take._f (Nat.succ (2 : Nat))
                                      (Nat.rec ⟨List.take._f Nat.zero PUnit.unit, PUnit.unit⟩
                                        (fun n n_ih => ⟨List.take._f (Nat.succ n) n_ih, n_ih⟩) (2 : Nat))
                                      (List.map._f (V.int IntKind.i64) [b, c, d]
                                        (List.rec ⟨List.map._f (V.int IntKind.i64) [] PUnit.unit, PUnit.unit⟩
                                          (fun head tail tail_ih =>
                                            ⟨List.map._f (V.int IntKind.i64) (head :: tail) tail_ih, tail_ih⟩)
                                          [c, d])) ∧
                              True ∧ True ∧ True ∧ True ∧ True ∧ True) ∧
                            True) = _) ?_
        clear hp hnx ho hbd hol
        (repeat' (first | (with_reducible apply And.intro) | (refine fun (_ : True) => ?_))) <;> first | with_reducible (first | rfl | exact trivial | assumption | (refine decide_eq_true ?_ <;> omega) | (refine decide_eq_false ?_ <;> omega) | (refine head_ints1 ?_ <;> omega) | (refine bne_false ?_ <;> omega) | (refine bne_true ?_ <;> omega) | (refine beq_false' ?_ <;> omega) | (refine beq_true' ?_ <;> omega) | (refine wr6' ?_ ?_ ?_ <;> omega) | (refine rem6 ?_ <;> omega) | (refine quo6 ?_ ?_ ?_ <;> omega) | exact HfL_ints _ | omega) | ((with_reducible show (_ : V) = _); rfl) | (intro hk_; exfalso; revert hk_; simp; done) | (intros; simp_all; done) | (split <;> omega) | ((with_reducible show decide _ = true); exact decide_eq_true (by omega)) | ((with_reducible show decide _ = false); exact decide_eq_false (by omega)) | skip
        all_goals rfl
  · have : k = n := by omega
    subst this
    rw [← ho]
    cases k with
    | zero =>
      refine .inr ⟨.exit 0, [], dqX out 0, [fn 9 (sl (cardsD C)), no 11], 1000, .inl ⟨trivial, rfl, rfl⟩, ?_⟩
      refine Eq.mp (by kernel_rfl : (((True ∧ True ∧ True ∧ True) ∧ True) ∧
            FnOk Try.prog T.e (17 : Nat)
                [V.agg
                    [V.im (List.length C) (List.map (V.int IntKind.u8) C), V.int IntKind.u16 w,
                      V.im (List.length D) (List.map (V.int IntKind.u8) D)]]
                (sl (cardsD C)) ∧
              True ∧ decide ((↑(0 : Nat) : Int) < (↑(List.length (cardsD C)) : Int)) = false ∧ (True ∧ True) ∧ True) = _) ?_
      (repeat' (first | (with_reducible apply And.intro) | (refine fun (_ : True) => ?_))) <;> first | with_reducible (first | rfl | exact trivial | assumption | (refine decide_eq_true ?_ <;> omega) | (refine decide_eq_false ?_ <;> omega) | (refine head_ints1 ?_ <;> omega) | (refine bne_false ?_ <;> omega) | (refine bne_true ?_ <;> omega) | (refine beq_false' ?_ <;> omega) | (refine beq_true' ?_ <;> omega) | (refine wr6' ?_ ?_ ?_ <;> omega) | (refine rem6 ?_ <;> omega) | (refine quo6 ?_ ?_ ?_ <;> omega) | exact HfL_ints _ | omega) | ((with_reducible show (_ : V) = _); rfl) | (intro hk_; exfalso; revert hk_; simp; done) | (intros; simp_all; done) | (split <;> omega) | ((with_reducible show decide _ = true); exact decide_eq_true (by omega)) | ((with_reducible show decide _ = false); exact decide_eq_false (by omega)) | skip
    | succ k =>
      refine .inr ⟨.exit 0, [1], dqX out (k + 1), [fn 9 (sl (cardsD C)), no 11], 1000, .inl ⟨trivial, rfl, rfl⟩, ?_⟩
      refine Eq.mp (by kernel_rfl : (((True ∧ True ∧ True ∧ True) ∧ True) ∧
            FnOk Try.prog T.e (17 : Nat)
                [V.agg
                    [V.im (List.length C) (List.map (V.int IntKind.u8) C), V.int IntKind.u16 w,
                      V.im (List.length D) (List.map (V.int IntKind.u8) D)]]
                (sl (cardsD C)) ∧
              True ∧
                decide ((↑(k + (1 : Nat)) : Int) < (↑(List.length (cardsD C)) : Int)) = false ∧
                  (((0 : Nat) = (0 : Nat) ∧ k + (1 : Nat) = k + (1 : Nat) ∧ True) ∧ True) ∧
                    (ints out = ints out ∧ HfL (ints out)) ∧ True) = _) ?_
      (repeat' (first | (with_reducible apply And.intro) | (refine fun (_ : True) => ?_))) <;> first | with_reducible (first | rfl | exact trivial | assumption | (refine decide_eq_true ?_ <;> omega) | (refine decide_eq_false ?_ <;> omega) | (refine head_ints1 ?_ <;> omega) | (refine bne_false ?_ <;> omega) | (refine bne_true ?_ <;> omega) | (refine beq_false' ?_ <;> omega) | (refine beq_true' ?_ <;> omega) | (refine wr6' ?_ ?_ ?_ <;> omega) | (refine rem6 ?_ <;> omega) | (refine quo6 ?_ ?_ ?_ <;> omega) | exact HfL_ints _ | omega) | ((with_reducible show (_ : V) = _); rfl) | (intro hk_; exfalso; revert hk_; simp; done) | (intros; simp_all; done) | (split <;> omega) | ((with_reducible show decide _ = true); exact decide_eq_true (by omega)) | ((with_reducible show decide _ = false); exact decide_eq_false (by omega)) | skip

theorem permdraft_fn (C D : List Int) (w : Int) (hC : u8s C) (hD : u8s D) : FnOk Pg .e 30 [drV C D w] (sl (permD D (cardsD C).length)) := by
  generalize hm : (cardsD C).length = m
  have hlp := permdraft_loop C D w hC hD m hm.symm (0, []) ⟨Nat.zero_le _, rfl⟩
  have hpl := permD_len D m
  cases m with
  | zero =>
    refine FnOk.of_vc vE_ok mixed sp0_ok (n := 1000) (r := []) (S := { sl := [(2, .im 0 [])] }) (hs := [(0, .loop [0] (dqS C D w (0, [])) [(True, .exit 0, dqX [] 0)])]) ?_
    refine Eq.mp (by kernel_rfl : (V.im (0 : Nat) [] = sl (permD D (0 : Nat)) ∧
          (((0 : Nat) = (0 : Nat) ∧ True ∧ (↑(0 : Nat) : Int) = (0 : Int) ∧ True) ∧
              ([sl8 C, V.int IntKind.u16 w, sl8 D] = [sl8 C, V.int IntKind.u16 w, sl8 D] ∧ True ∧ True ∧ True ∧ True) ∧ True) ∧
            Sat Try.prog none (0 : Nat) (at' (30 : Nat) [(1 : Nat), (1 : Nat), (0 : Nat), (1 : Nat), (0 : Nat)])
                (mkSt T.e (42 : Nat) (dqS C D w ((0 : Nat), [])))
                (outsP T.e (42 : Nat) [(True, Ex.exit (0 : Nat), dqX [] (0 : Nat))]) ∧
              (True → ((0 : Nat) = (0 : Nat) ∧ True) ∧ True) ∧ True) = _) ?_
    (repeat' (first | (with_reducible apply And.intro) | (refine fun (_ : True) => ?_))) <;> first | with_reducible (first | rfl | exact trivial | assumption | (refine decide_eq_true ?_ <;> omega) | (refine decide_eq_false ?_ <;> omega) | (refine head_ints1 ?_ <;> omega) | (refine bne_false ?_ <;> omega) | (refine bne_true ?_ <;> omega) | (refine beq_false' ?_ <;> omega) | (refine beq_true' ?_ <;> omega) | (refine wr6' ?_ ?_ ?_ <;> omega) | (refine rem6 ?_ <;> omega) | (refine quo6 ?_ ?_ ?_ <;> omega) | exact HfL_ints _ | omega) | ((with_reducible show (_ : V) = _); rfl) | (intro hk_; exfalso; revert hk_; simp; done) | (intros; simp_all; done) | (split <;> omega) | ((with_reducible show decide _ = true); exact decide_eq_true (by omega)) | ((with_reducible show decide _ = false); exact decide_eq_false (by omega)) | skip
  | succ m =>
    clear hm
    generalize permD D (m + 1) = l at *
    refine FnOk.of_vc vE_ok mixed sp0_ok (n := 1000) (r := []) (S := { sl := [(2, sl l)] }) (hs := [(0, .loop [0] (dqS C D w (0, [])) [(True, .exit 0, dqX l (m + 1))])]) ?_
    refine Eq.mp (by kernel_rfl : (sl l = sl l ∧
          (((0 : Nat) = (0 : Nat) ∧ True ∧ (↑(0 : Nat) : Int) = (0 : Int) ∧ True) ∧
              ([sl8 C, V.int IntKind.u16 w, sl8 D] = [sl8 C, V.int IntKind.u16 w, sl8 D] ∧ True ∧ True ∧ True ∧ True) ∧ True) ∧
            Sat Try.prog none (0 : Nat) (at' (30 : Nat) [(1 : Nat), (1 : Nat), (0 : Nat), (1 : Nat), (0 : Nat)])
                (mkSt T.e (42 : Nat) (dqS C D w ((0 : Nat), [])))
                (outsP T.e (42 : Nat) [(True, Ex.exit (0 : Nat), dqX l (m + (1 : Nat)))]) ∧
              (True → ((List.length l = m + (1 : Nat) ∧ ints l = ints l ∧ HfL (ints l)) ∧ True) ∧ True) ∧ True) = _) ?_
    (repeat' (first | (with_reducible apply And.intro) | (refine fun (_ : True) => ?_))) <;> first | with_reducible (first | rfl | exact trivial | assumption | (refine decide_eq_true ?_ <;> omega) | (refine decide_eq_false ?_ <;> omega) | (refine head_ints1 ?_ <;> omega) | (refine bne_false ?_ <;> omega) | (refine bne_true ?_ <;> omega) | (refine beq_false' ?_ <;> omega) | (refine beq_true' ?_ <;> omega) | (refine wr6' ?_ ?_ ?_ <;> omega) | (refine rem6 ?_ <;> omega) | (refine quo6 ?_ ?_ ?_ <;> omega) | exact HfL_ints _ | omega) | ((with_reducible show (_ : V) = _); rfl) | (intro hk_; exfalso; revert hk_; simp; done) | (intros; simp_all; done) | (split <;> omega) | ((with_reducible show decide _ = true); exact decide_eq_true (by omega)) | ((with_reducible show decide _ = false); exact decide_eq_false (by omega)) | skip

/-! ### plain: what Permute answers -/
def Qf (s : Nat) : Nat → List Int → Int
  | _, [] => 1
  | k, c :: cs => (if s.testBit k = true then 1 else c) * Qf s (k + 1) cs
theorem Qf_or {s p : Nat} (hp : s.testBit p = false) : ∀ (cs : List Int) (k : Nat), k ≤ p → p < k + cs.length → Qf s k cs = cs.getD (p - k) 0 * Qf (s ||| 2 ^ p) k cs
  | [], k, h1, h2 => by simp at h2; omega
  | c :: cs, k, h1, h2 => by
    unfold Qf
    rw [Nat.testBit_or, Nat.testBit_two_pow]
    by_cases hk : p = k
    · subst hk
      have key : ∀ (cs : List Int) (j : Nat), p < j → Qf (s ||| 2 ^ p) j cs = Qf s j cs := by
        intro cs
        induction cs with
        | nil => intro j _; rfl
        | cons c cs ih =>
          intro j hj
          unfold Qf
          rw [ih (j + 1) (by omega), Nat.testBit_or, Nat.testBit_two_pow, decide_eq_false (by omega), Bool.or_false]
      rw [key cs (p + 1) (by omega), hp, Nat.sub_self]
      simp
    · rw [Qf_or hp cs (k + 1) (by omega) (by simp at h2; omega), decide_eq_false hk, Bool.or_false]
      have e : p - k = (p - (k + 1)) + 1 := by omega
      rw [e, List.getD_cons_succ, ← Int.mul_assoc, ← Int.mul_assoc]
      congr 1
      exact Int.mul_comm _ _
theorem Qf_pos {s : Nat} : ∀ (cs : List Int) (k : Nat), (∀ c ∈ cs, 1 ≤ c) → 1 ≤ Qf s k cs
  | [], _, _ => Int.le_refl 1
  | c :: cs, k, h => by
    have h1 := Qf_pos (s := s) cs (k + 1) fun x hx => h x (List.mem_cons_of_mem _ hx)
    have h2 := h c List.mem_cons_self
    unfold Qf
    split
    · omega
    · have := Int.mul_le_mul_of_nonneg_right h2 (show 0 ≤ Qf s (k + 1) cs by omega)
      omega
theorem Qf_zero : ∀ (cs : List Int) (k : Nat), Qf 0 k cs = prodL cs
  | [], _ => rfl
  | c :: cs, k => by
    unfold Qf
    rw [Qf_zero cs (k + 1), Nat.zero_testBit]; rfl
theorem perm_prod {cs : List Int} (hc : ∀ c ∈ cs, 1 ≤ c) : ∀ (ps : List Int) (s : Nat), permC cs.length s ps = true → prodL (atL cs ps) ≤ Qf s 0 cs
  | [], s, _ => Qf_pos cs 0 hc
  | p :: ps, s, h => by
    have e : permC cs.length s (p :: ps) = if p < 0 ∨ cs.length ≤ p ∨ s.testBit p.toNat = true then false else permC cs.length (s ||| 2 ^ p.toNat) ps := rfl
    rw [e] at h
    split at h
    · cases h
    · rename_i hq
      have h1 := perm_prod hc ps _ h
      have hb : s.testBit p.toNat = false := by cases hx : s.testBit p.toNat with
        | false => rfl
        | true => exact absurd (.inr (.inr hx)) hq
      rw [Qf_or hb cs 0 (Nat.zero_le _) (by omega), Nat.sub_zero]
      have hpos : 0 ≤ cs.getD p.toNat 0 := by
        rw [List.getD_eq_getElem?_getD, List.getElem?_eq_getElem (by omega)]
        have := hc _ (List.getElem_mem (show p.toNat < cs.length by omega))
        simp only [Option.getD_some]; omega
      exact Int.mul_le_mul_of_nonneg_left h1 hpos
theorem perm_inL {cs ps : List Int} (h : permC cs.length 0 ps = true) : InL cs ps := permC_mem h
theorem perm_good {cs ps : List Int} (hg : Good cs) (hl : ps.length = cs.length) (h : permC cs.length 0 ps = true) : Good (atL cs ps) := by
  have hin := perm_inL h
  have hlen := hg.len
  refine good_mk (fun c hc => ?_) (by simp only [atL, List.length_map]; omega) ?_
  · obtain ⟨p, hp, rfl⟩ := List.mem_map.1 hc
    have := hin p hp
    unfold atE
    rw [List.getD_eq_getElem?_getD, List.getElem?_eq_getElem (by omega)]
    exact hg.card _ (List.getElem_mem _)
  · have := perm_prod (fun c hc => (hg.card c hc).1) ps 0 h
    rw [Qf_zero] at this
    exact Int.le_trans this hg.le
theorem permNum_idx (cs : List Int) (vs : List Int) (f : Nat → Int) : ∀ (ps : List Int) (n : Int), (∀ p ∈ ps, f p.toNat = vs.getD p.toNat 0) → permNum cs f ps n = n * prodL (atL cs ps) + idxR (atL cs ps) (atL vs ps)
  | [], n, _ => by simp [permNum, atL, prodL, idxR]
  | p :: ps, n, h => by
    unfold permNum
    rw [permNum_idx cs vs f ps _ fun q hq => h q (List.mem_cons_of_mem _ hq), h p List.mem_cons_self]
    simp only [atL, List.map_cons, prodL, idxR, atE]
    rw [Int.add_mul, Int.mul_assoc]; omega
theorem permuteS_ok {cs ps : List Int} {i : Int} (hg : Good cs) (hcnt : count cs = some (prodL cs)) (hl : ps.length = cs.length) (h : permC cs.length 0 ps = true) (h0 : 0 ≤ i) (h1 : i < prodL cs) : PermuteS cs ps i = (partR cs ps i, 0) := by
  have hin := perm_inL h
  simp only [PermuteS, hcnt]
  rw [if_neg (by omega), if_neg (by rw [h]; simp), permNum_idx cs (valL cs i) _ ps 0 (fun p hp => by
    have := hin p hp
    rw [List.getD_eq_getElem?_getD, List.getElem?_eq_getElem (by rw [valL_length]; omega), Option.getD_some, valL_get]), Int.zero_mul, Int.zero_add]
  rfl

end Go.Proofs.Ytmnaidemihcfaaa.Am
