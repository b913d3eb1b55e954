/- IndexBack: the law returns true, whatever it is called with: the walk. -/
import Derived.Test.YtmnaidemihcfaaaV13
namespace Go.Proofs.Ytmnaidemihcfaaa.Am
open Go.RowKit
set_option linter.unusedVariables false
set_option maxHeartbeats 1000000
set_option maxRecDepth 100000

/-! ### a call whose answer is of the caller's own -/
noncomputable def vcFiO (P : Program) (E : Env) (sp : SpecT) (gl : T (List V)) (n : Nat) (ars : List V) (hs : Hs) (r : List Nat) (S : SL) (v : V) : Option FI → Prop
  | some fi => bif Nat.ble ars.length fi.ntmps then retP v (retV E.G (mkSt gl fi.ntmps S).tm (mkSt gl fi.ntmps S).H fi.res) ∧ vc P E sp none 0 n fi.body hs ⟨⟨putAllF (blank fi.ntmps) 0 ars, gl, fi.ntmps⟩, .e, 0, []⟩ (kFin fi.ntmps r S) else False
  | none => False
noncomputable def vcFnO (P : Program) (E : Env) (sp : SpecT) (gl : T (List V)) (n f : Nat) (ars : List V) (hs : Hs) (r : List Nat) (S : SL) (v : V) : Prop := vcFiO P E sp gl n ars hs r S v (E.code f)
theorem CallSpec.of_vc {P : Program} {E : Env} {sp : SpecT} (hE : E.Ok P) (hm : P.follows .mixedOrders = true) {gl : T (List V)} (hsp : SpecOk P gl sp) {n f : Nat} {ars : List V} {hs : Hs} {r : List Nat} {S : SL} {v : V} (h : vcFnO P E sp gl n f ars hs r S v) : CallSpec P gl (.fn f []) ars .e 0 ⟨v, ofOs .e 0 S.os, S.os.length, S.lg⟩ := by
  unfold vcFnO vcFiO at h
  split at h
  · rename_i fi hfi
    obtain ⟨hb, hret, hv⟩ := bif_false h
    have hret' : retV E.G (mkSt gl fi.ntmps S).tm (mkSt gl fi.ntmps S).H fi.res = some v := by
      unfold retP at hret
      split at hret
      · rename_i u e; rw [e, hret]
      · exact hret.elim
    rw [putAllF_eq] at hv
    have hlog : Log T.e.get 0 (ofOs .e 0 S.os).get S.os.length S.lg := by
      refine ⟨Nat.zero_le _, fun i _ hi => ?_⟩
      cases hg : (ofOs .e 0 S.os).get i with
      | none => rfl
      | some o =>
        rcases ofOs_get S.os .e 0 i o hg with ⟨_, h2⟩ | h2
        · have := (List.getElem?_eq_some_iff.1 h2).1
          exact absurd ⟨Nat.zero_le _, by omega⟩ hi
        · cases h2
    refine CallSpec.fnC hE hfi (by rw [List.append_nil]; exact hb) hlog (R := fun e st => (e = .normal ∨ e = .ret) ∧ st = mkSt gl fi.ntmps S) ?_ ?_
    · rw [List.append_nil]
      refine Sat.gc_post (Sat.of_vc hE hm hsp rfl hv fun e hs' st' hg hk => ?_)
      unfold kFin at hk
      have fin : (bif Nat.beq st'.tm.n fi.ntmps then gcP 0 r st' S else False) → ∃ r st2, Gc 0 r st' st2 ∧ st2 = mkSt gl fi.ntmps S := by
        intro hk
        obtain ⟨hb, hk⟩ := bif_false hk
        exact ⟨r, _, gcP_gc hk, by rw [hg, Nat.eq_of_beq_eq_true hb]⟩
      cases e with
      | exit => exact hk.elim
      | normal => obtain ⟨r, st2, h1, h2⟩ := fin hk; exact ⟨r, st2, h1, .inl rfl, h2⟩
      | ret => obtain ⟨r, st2, h1, h2⟩ := fin hk; exact ⟨r, st2, h1, .inr rfl, h2⟩
    · rintro e st ⟨he, rfl⟩
      exact ⟨he, v, hret', fun s w ee w' _ _ hp => hp⟩
  · exact h.elim

/-! ### plain: the order of the values -/
def cmpL : List Int → List Int → Int
  | [], [] => 0
  | [], _ :: _ => -1
  | _ :: _, [] => 1
  | x :: xs, y :: ys => if x < y then -1 else if y < x then 1 else cmpL xs ys
theorem cmpL_drop {xs ys : List Int} {k : Nat} (h : k < xs.length) (h' : k < ys.length) :
    cmpL (xs.drop k) (ys.drop k) = if xs[k] < ys[k] then -1 else if ys[k] < xs[k] then 1 else cmpL (xs.drop (k + 1)) (ys.drop (k + 1)) := by
  rw [List.drop_eq_getElem_cons h, List.drop_eq_getElem_cons h']; rfl
theorem valL_lt : ∀ (cs : List Int), (∀ c ∈ cs, 1 ≤ c) → ∀ a b : Int, 0 ≤ a → a < b → b < prodL cs → cmpL (valL cs a) (valL cs b) = -1
  | [], _, a, b, h0, h1, h2 => by simp [prodL] at h2; omega
  | c :: cs, h, a, b, h0, h1, h2 => by
    have hq := prodL_pos cs (fun x hx => h x (List.mem_cons_of_mem _ hx))
    have hc := h c List.mem_cons_self
    rw [valL_cons hc, valL_cons hc, cmpL]
    have hle : a / prodL cs ≤ b / prodL cs := Int.ediv_le_ediv (by omega) (by omega)
    by_cases hlt : a / prodL cs < b / prodL cs
    · rw [if_pos hlt]
    · rw [if_neg hlt, if_neg (by omega)]
      have heq : a / prodL cs = b / prodL cs := by omega
      have ea := Int.emod_add_mul_ediv a (prodL cs)
      have eb := Int.emod_add_mul_ediv b (prodL cs)
      rw [heq] at ea
      exact valL_lt cs (fun x hx => h x (List.mem_cons_of_mem _ hx)) _ _ (Int.emod_nonneg _ (by omega)) (by omega) (Int.emod_lt_of_pos _ (by omega))

/-! ### slices.Compare -/
theorem nan_fn (x : Int) : FnOk Pg .e 102 [i6 x] (.bool false) := by
  refine FnOk.of_vc vE_ok mixed sp0_ok (n := 1000) (r := []) (S := boE 2 false) (hs := [no 5]) ?_
  refine Eq.mp (by kernel_rfl : (V.bool false = V.bool false ∧ (x != x) = false ∧ (false = false ∧ True) ∧ True) = _) ?_
  (repeat' (first | (with_reducible apply And.intro) | (refine fun (_ : True) => ?_))) <;> first | with_reducible (first | rfl | exact trivial | assumption | (refine decide_eq_true ?_ <;> omega) | (refine decide_eq_false ?_ <;> omega) | (refine head_ints1 ?_ <;> omega) | (refine bne_false ?_ <;> omega) | (refine bne_true ?_ <;> omega) | (refine beq_false' ?_ <;> omega) | (refine beq_true' ?_ <;> omega) | (refine wr6' ?_ ?_ ?_ <;> omega) | (refine rem6 ?_ <;> omega) | (refine quo6 ?_ ?_ ?_ <;> omega) | exact HfL_ints _ | omega) | ((with_reducible show (_ : V) = _); rfl) | (intro hk_; exfalso; revert hk_; simp; done) | (intros; simp_all; done) | (split <;> omega) | ((with_reducible show decide _ = true); exact decide_eq_true (by omega)) | ((with_reducible show decide _ = false); exact decide_eq_false (by omega)) | skip
theorem cmp_lt (a b : Int) (h : a < b) : FnOk Pg .e 79 [i6 a, i6 b] (i6 (-1)) := by
  have h1 := nan_fn a
  have h2 := nan_fn b
  refine FnOk.of_vc vE_ok mixed sp0_ok (n := 1000) (r := []) (S := { sl := [(4, i6 (-1))] }) (hs := [fn 8 (.bool false), fn 10 (.bool false), yes 16]) ?_
  refine Eq.mp (by kernel_rfl : (i6 (-1 : Int) = i6 (-1 : Int) ∧
        (True ∧ True) ∧
          FnOk Try.prog T.e (102 : Nat) [V.int IntKind.i64 a] (V.bool false) ∧
            True ∧
              (True ∧ True) ∧
                FnOk Try.prog T.e (102 : Nat) [V.int IntKind.i64 b] (V.bool false) ∧
                  True ∧ decide (a < b) = true ∧ ((-1 : Int) = (-1 : Int) ∧ True) ∧ True) = _) ?_
  (repeat' (first | (with_reducible apply And.intro) | (refine fun (_ : True) => ?_))) <;> first | with_reducible (first | rfl | exact trivial | assumption | (refine decide_eq_true ?_ <;> omega) | (refine decide_eq_false ?_ <;> omega) | (refine head_ints1 ?_ <;> omega) | (refine bne_false ?_ <;> omega) | (refine bne_true ?_ <;> omega) | (refine beq_false' ?_ <;> omega) | (refine beq_true' ?_ <;> omega) | (refine wr6' ?_ ?_ ?_ <;> omega) | (refine rem6 ?_ <;> omega) | (refine quo6 ?_ ?_ ?_ <;> omega) | exact HfL_ints _ | omega) | ((with_reducible show (_ : V) = _); rfl) | (intro hk_; exfalso; revert hk_; simp; done) | (intros; simp_all; done) | (split <;> omega) | ((with_reducible show decide _ = true); exact decide_eq_true (by omega)) | ((with_reducible show decide _ = false); exact decide_eq_false (by omega)) | skip
theorem cmp_eq (a b : Int) (h : a = b) : FnOk Pg .e 79 [i6 a, i6 b] (i6 0) := by
  have h1 := nan_fn a
  have h2 := nan_fn b
  refine FnOk.of_vc vE_ok mixed sp0_ok (n := 1000) (r := []) (S := { sl := [(4, i6 0)] }) (hs := [fn 8 (.bool false), fn 10 (.bool false), no 16, no 19]) ?_
  refine Eq.mp (by kernel_rfl : (i6 (0 : Int) = i6 (0 : Int) ∧
        (True ∧ True) ∧
          FnOk Try.prog T.e (102 : Nat) [V.int IntKind.i64 a] (V.bool false) ∧
            True ∧
              (True ∧ True) ∧
                FnOk Try.prog T.e (102 : Nat) [V.int IntKind.i64 b] (V.bool false) ∧
                  True ∧ decide (a < b) = false ∧ decide (a > b) = false ∧ ((0 : Int) = (0 : Int) ∧ True) ∧ True) = _) ?_
  (repeat' (first | (with_reducible apply And.intro) | (refine fun (_ : True) => ?_))) <;> first | with_reducible (first | rfl | exact trivial | assumption | (refine decide_eq_true ?_ <;> omega) | (refine decide_eq_false ?_ <;> omega) | (refine head_ints1 ?_ <;> omega) | (refine bne_false ?_ <;> omega) | (refine bne_true ?_ <;> omega) | (refine beq_false' ?_ <;> omega) | (refine beq_true' ?_ <;> omega) | (refine wr6' ?_ ?_ ?_ <;> omega) | (refine rem6 ?_ <;> omega) | (refine quo6 ?_ ?_ ?_ <;> omega) | exact HfL_ints _ | omega) | ((with_reducible show (_ : V) = _); rfl) | (intro hk_; exfalso; revert hk_; simp; done) | (intros; simp_all; done) | (split <;> omega) | ((with_reducible show decide _ = true); exact decide_eq_true (by omega)) | ((with_reducible show decide _ = false); exact decide_eq_false (by omega)) | skip
abbrev cpS (A B : List Int) (k : Nat) : SL := { sl := [(0, sl A), (1, sl B), (9, sl A), (10, i6 A.length), (11, i6 k)] }
abbrev m1E : SL := { sl := [(4, i6 (-1))] }
theorem compare_loop (A B : List Int) (hl : A.length = B.length) (h4 : A.length ≤ 65536) (k : Nat) (hk : k ≤ A.length ∧ cmpL (A.drop k) (B.drop k) = -1) :
    Sat Pg none 0 (at' 46 [1, 0, 1, 0]) (mkSt .e 36 (cpS A B k)) (outsP .e 36 [(True, .ret, m1E)]) := by
  refine loopC vE_ok mixed sp0_ok (b := at' 46 [1, 0, 1, 0, 0]) (by kernel_rfl) (fun k => k ≤ A.length ∧ cmpL (A.drop k) (B.drop k) = -1) (cpS A B) (fun k => A.length - k) (fun k hk => ?_) k hk
  obtain ⟨hk, hc⟩ := hk
  by_cases hlt : k < A.length
  · have hlt' : k < B.length := by omega
    rw [cmpL_drop hlt hlt'] at hc
    by_cases h1 : A[k] < B[k]
    · have hf := cmp_lt A[k] B[k] h1
      refine .inr ⟨.ret, [], m1E, [yes 12, pl 14, ld 15 (i6 A[k]), no 19, pl 22, ld 23 (i6 B[k]), fn 26 (i6 (-1))], 1000, .inl ⟨trivial, rfl, rfl⟩, ?_⟩
      refine Eq.mp (by kernel_rfl : (decide ((↑k : Int) < (↑(List.length A) : Int)) = true ∧
            ((0 : Int) ≤ (↑k : Int) ∧ (↑k : Int) < (↑(List.length A) : Int)) ∧
              headF (List.drop (k * (1 : Nat)) (ints A)) = some (i6 A[k]) ∧
                decide ((↑k : Int) ≥ (↑(List.length B) : Int)) = false ∧
                  ((0 : Int) ≤ (↑k : Int) ∧ (↑k : Int) < (↑(List.length B) : Int)) ∧
                    headF (List.drop (k * (1 : Nat)) (ints B)) = some (i6 B[k]) ∧
                      (True ∧ True ∧ True) ∧
                        FnOk Try.prog T.e (79 : Nat) [V.int IntKind.i64 A[k], V.int IntKind.i64 B[k]] (i6 (-1 : Int)) ∧
                          True ∧ ((-1 : Int) = (-1 : Int) ∧ True) ∧ True) = _) ?_
      (repeat' (first | (with_reducible apply And.intro) | (refine fun (_ : True) => ?_))) <;> first | with_reducible (first | rfl | exact trivial | assumption | (refine decide_eq_true ?_ <;> omega) | (refine decide_eq_false ?_ <;> omega) | (refine head_ints1 ?_ <;> omega) | (refine bne_false ?_ <;> omega) | (refine bne_true ?_ <;> omega) | (refine beq_false' ?_ <;> omega) | (refine beq_true' ?_ <;> omega) | (refine wr6' ?_ ?_ ?_ <;> omega) | (refine rem6 ?_ <;> omega) | (refine quo6 ?_ ?_ ?_ <;> omega) | exact HfL_ints _ | omega) | ((with_reducible show (_ : V) = _); rfl) | (intro hk_; exfalso; revert hk_; simp; done) | (intros; simp_all; done) | (split <;> omega) | ((with_reducible show decide _ = true); exact decide_eq_true (by omega)) | ((with_reducible show decide _ = false); exact decide_eq_false (by omega)) | skip
    · rw [if_neg h1] at hc
      by_cases h2 : B[k] < A[k]
      · rw [if_pos h2] at hc; omega
      · rw [if_neg h2] at hc
        have hf := cmp_eq A[k] B[k] (by omega)
        refine .inl ⟨k + 1, [], [yes 12, pl 14, ld 15 (i6 A[k]), no 19, pl 22, ld 23 (i6 B[k]), fn 26 (i6 0), nu 30 (k + 1 : Nat)], 1000, ⟨hlt, hc⟩, by omega, ?_⟩
        refine Eq.mp (by kernel_rfl : (decide ((↑k : Int) < (↑(List.length A) : Int)) = true ∧
              ((0 : Int) ≤ (↑k : Int) ∧ (↑k : Int) < (↑(List.length A) : Int)) ∧
                headF (List.drop (k * (1 : Nat)) (ints A)) = some (i6 A[k]) ∧
                  decide ((↑k : Int) ≥ (↑(List.length B) : Int)) = false ∧
                    ((0 : Int) ≤ (↑k : Int) ∧ (↑k : Int) < (↑(List.length B) : Int)) ∧
                      headF (List.drop (k * (1 : Nat)) (ints B)) = some (i6 B[k]) ∧
                        (True ∧ True ∧ True) ∧
                          FnOk Try.prog T.e (79 : Nat) [V.int IntKind.i64 A[k], V.int IntKind.i64 B[k]] (i6 (0 : Int)) ∧
                            True ∧
                              wr IntKind.i64 ((↑k : Int) + (1 : Int)) = (↑(k + (1 : Nat)) : Int) ∧
                                ((List.length A = List.length A ∧ ints A = ints A) ∧
                                    (List.length B = List.length B ∧ ints B = ints B) ∧
                                      (List.length A = List.length A ∧ ints A = ints A) ∧
                                        (↑(List.length A) : Int) = (↑(List.length A) : Int) ∧
                                          (↑(k + (1 : Nat)) : Int) = (↑(k + (1 : Nat)) : Int) ∧ True) ∧
                                  True) = _) ?_
        (repeat' (first | (with_reducible apply And.intro) | (refine fun (_ : True) => ?_))) <;> first | with_reducible (first | rfl | exact trivial | assumption | (refine decide_eq_true ?_ <;> omega) | (refine decide_eq_false ?_ <;> omega) | (refine head_ints1 ?_ <;> omega) | (refine bne_false ?_ <;> omega) | (refine bne_true ?_ <;> omega) | (refine beq_false' ?_ <;> omega) | (refine beq_true' ?_ <;> omega) | (refine wr6' ?_ ?_ ?_ <;> omega) | (refine rem6 ?_ <;> omega) | (refine quo6 ?_ ?_ ?_ <;> omega) | exact HfL_ints _ | omega) | ((with_reducible show (_ : V) = _); rfl) | (intro hk_; exfalso; revert hk_; simp; done) | (intros; simp_all; done) | (split <;> omega) | ((with_reducible show decide _ = true); exact decide_eq_true (by omega)) | ((with_reducible show decide _ = false); exact decide_eq_false (by omega)) | skip
  · rw [List.drop_of_length_le (by omega), List.drop_of_length_le (by omega)] at hc
    cases hc
theorem compare_fn (A B : List Int) (hl : A.length = B.length) (h4 : A.length ≤ 65536) (hc : cmpL A B = -1) : FnOk Pg .e 46 [sl A, sl B] (i6 (-1)) := by
  have hlp := compare_loop A B hl h4 0 ⟨Nat.zero_le _, hc⟩
  refine FnOk.of_vc vE_ok mixed sp0_ok (n := 1000) (r := []) (S := m1E) (hs := [(0, .loop [] (cpS A B 0) [(True, .ret, m1E)])]) ?_
  refine Eq.mp (by kernel_rfl : (i6 (-1 : Int) = i6 (-1 : Int) ∧
        (((List.length A = List.length A ∧ ints A = ints A) ∧
              (List.length B = List.length B ∧ ints B = ints B) ∧
                (List.length A = List.length A ∧ ints A = ints A) ∧
                  (↑(List.length A) : Int) = (↑(List.length A) : Int) ∧ (↑(0 : Nat) : Int) = (0 : Int) ∧ True) ∧
            True) ∧
          Sat Try.prog none (0 : Nat) (at' (46 : Nat) [(1 : Nat), (0 : Nat), (1 : Nat), (0 : Nat)])
              (mkSt T.e (36 : Nat) (cpS A B (0 : Nat))) (outsP T.e (36 : Nat) [(True, Ex.ret, m1E)]) ∧
            (True → ((-1 : Int) = (-1 : Int) ∧ True) ∧ True) ∧ True) = _) ?_
  (repeat' (first | (with_reducible apply And.intro) | (refine fun (_ : True) => ?_))) <;> first | with_reducible (first | rfl | exact trivial | assumption | (refine decide_eq_true ?_ <;> omega) | (refine decide_eq_false ?_ <;> omega) | (refine head_ints1 ?_ <;> omega) | (refine bne_false ?_ <;> omega) | (refine bne_true ?_ <;> omega) | (refine beq_false' ?_ <;> omega) | (refine beq_true' ?_ <;> omega) | (refine wr6' ?_ ?_ ?_ <;> omega) | (refine rem6 ?_ <;> omega) | (refine quo6 ?_ ?_ ?_ <;> omega) | exact HfL_ints _ | omega) | ((with_reducible show (_ : V) = _); rfl) | (intro hk_; exfalso; revert hk_; simp; done) | (intros; simp_all; done) | (split <;> omega) | ((with_reducible show decide _ = true); exact decide_eq_true (by omega)) | ((with_reducible show decide _ = false); exact decide_eq_false (by omega)) | skip

/-! ### slices.Clone -/
theorem clone1 (a : Int) : CallSpec Pg .e (.fn 47 []) [.im 1 [i6 a]] .e 0 ⟨.sl 0 0 1 none, ofOs .e 0 [.row 3 (some 1) [i6 a]], 1, []⟩ := by
  refine CallSpec.of_vc vE_ok mixed sp0_ok (n := 1000) (r := [1]) (S := { sl := [(2, .sl 0 0 1 none)], os := [.row 3 (some 1) [i6 a]] }) (hs := []) ?_
  refine Eq.mp (by kernel_rfl : (V.sl (0 : Nat) (0 : Nat) (1 : Nat) none = V.sl (0 : Nat) (0 : Nat) (1 : Nat) none ∧
        (((0 : Nat) = (0 : Nat) ∧ (1 : Nat) = (0 : Nat) + (1 : Nat) ∧ True) ∧ True) ∧
          ([i6 a] = [] ++ i6 a :: List.take._f Nat.zero PUnit.unit [] ∧ True ∧ True) ∧ True) = _) ?_
  (repeat' (first | (with_reducible apply And.intro) | (refine fun (_ : True) => ?_))) <;> first | with_reducible (first | rfl | exact trivial | assumption | (refine decide_eq_true ?_ <;> omega) | (refine decide_eq_false ?_ <;> omega) | (refine head_ints1 ?_ <;> omega) | (refine bne_false ?_ <;> omega) | (refine bne_true ?_ <;> omega) | (refine beq_false' ?_ <;> omega) | (refine beq_true' ?_ <;> omega) | (refine wr6' ?_ ?_ ?_ <;> omega) | (refine rem6 ?_ <;> omega) | (refine quo6 ?_ ?_ ?_ <;> omega) | exact HfL_ints _ | omega) | ((with_reducible show (_ : V) = _); rfl) | (intro hk_; exfalso; revert hk_; simp; done) | (intros; simp_all; done) | (split <;> omega) | ((with_reducible show decide _ = true); exact decide_eq_true (by omega)) | ((with_reducible show decide _ = false); exact decide_eq_false (by omega)) | skip
theorem clone2 (a b : Int) : CallSpec Pg .e (.fn 47 []) [.im 2 [i6 a, i6 b]] .e 0 ⟨.sl 0 0 2 none, ofOs .e 0 [.row 3 (some 1) [i6 a, i6 b]], 1, []⟩ := by
  refine CallSpec.of_vc vE_ok mixed sp0_ok (n := 1000) (r := [1]) (S := { sl := [(2, .sl 0 0 2 none)], os := [.row 3 (some 1) [i6 a, i6 b]] }) (hs := []) ?_
  refine Eq.mp (by kernel_rfl : (V.sl (0 : Nat) (0 : Nat) (2 : Nat) none = V.sl (0 : Nat) (0 : Nat) (2 : Nat) none ∧
        (((0 : Nat) = (0 : Nat) ∧ (2 : Nat) = (0 : Nat) + (2 : Nat) ∧ True) ∧ True) ∧
          ([i6 a, i6 b] =
                [] ++
                  i6 a ::
                    List.take._f (Nat.succ (0 : Nat))
                      (Nat.rec ⟨List.take._f Nat.zero PUnit.unit, PUnit.unit⟩
                        (fun n n_ih => ⟨List.take._f (Nat.succ n) n_ih, n_ih⟩) (0 : Nat))
                      [i6 b] ∧
              True ∧ True ∧ True) ∧
            True) = _) ?_
  (repeat' (first | (with_reducible apply And.intro) | (refine fun (_ : True) => ?_))) <;> first | with_reducible (first | rfl | exact trivial | assumption | (refine decide_eq_true ?_ <;> omega) | (refine decide_eq_false ?_ <;> omega) | (refine head_ints1 ?_ <;> omega) | (refine bne_false ?_ <;> omega) | (refine bne_true ?_ <;> omega) | (refine beq_false' ?_ <;> omega) | (refine beq_true' ?_ <;> omega) | (refine wr6' ?_ ?_ ?_ <;> omega) | (refine rem6 ?_ <;> omega) | (refine quo6 ?_ ?_ ?_ <;> omega) | exact HfL_ints _ | omega) | ((with_reducible show (_ : V) = _); rfl) | (intro hk_; exfalso; revert hk_; simp; done) | (intros; simp_all; done) | (split <;> omega) | ((with_reducible show decide _ = true); exact decide_eq_true (by omega)) | ((with_reducible show decide _ = false); exact decide_eq_false (by omega)) | skip
  all_goals rfl
theorem clone3 (a b c : Int) : CallSpec Pg .e (.fn 47 []) [.im 3 [i6 a, i6 b, i6 c]] .e 0 ⟨.sl 0 0 3 none, ofOs .e 0 [.row 3 (some 1) [i6 a, i6 b, i6 c]], 1, []⟩ := by
  refine CallSpec.of_vc vE_ok mixed sp0_ok (n := 1000) (r := [1]) (S := { sl := [(2, .sl 0 0 3 none)], os := [.row 3 (some 1) [i6 a, i6 b, i6 c]] }) (hs := []) ?_
  refine Eq.mp (by kernel_rfl : (V.sl (0 : Nat) (0 : Nat) (3 : Nat) none = V.sl (0 : Nat) (0 : Nat) (3 : Nat) none ∧
        (((0 : Nat) = (0 : Nat) ∧ (3 : Nat) = (0 : Nat) + (3 : Nat) ∧ True) ∧ True) ∧
          ([i6 a, i6 b, i6 c] =
                [] ++
                  i6 a ::
                    List.take._f (Nat.succ (1 : Nat))
                      (Nat.rec ⟨List.take._f Nat.zero PUnit.unit, PUnit.unit⟩
                        (fun n n_ih => ⟨List.take._f (Nat.succ n) n_ih, n_ih⟩) (1 : Nat))
                      [i6 b, i6 c] ∧
              True ∧ True ∧ True ∧ True) ∧
            True) = _) ?_
  (repeat' (first | (with_reducible apply And.intro) | (refine fun (_ : True) => ?_))) <;> first | with_reducible (first | rfl | exact trivial | assumption | (refine decide_eq_true ?_ <;> omega) | (refine decide_eq_false ?_ <;> omega) | (refine head_ints1 ?_ <;> omega) | (refine bne_false ?_ <;> omega) | (refine bne_true ?_ <;> omega) | (refine beq_false' ?_ <;> omega) | (refine beq_true' ?_ <;> omega) | (refine wr6' ?_ ?_ ?_ <;> omega) | (refine rem6 ?_ <;> omega) | (refine quo6 ?_ ?_ ?_ <;> omega) | exact HfL_ints _ | omega) | ((with_reducible show (_ : V) = _); rfl) | (intro hk_; exfalso; revert hk_; simp; done) | (intros; simp_all; done) | (split <;> omega) | ((with_reducible show decide _ = true); exact decide_eq_true (by omega)) | ((with_reducible show decide _ = false); exact decide_eq_false (by omega)) | skip
  all_goals rfl
theorem clone4 (a b c d : Int) : CallSpec Pg .e (.fn 47 []) [.im 4 [i6 a, i6 b, i6 c, i6 d]] .e 0 ⟨.sl 0 0 4 none, ofOs .e 0 [.row 3 (some 1) [i6 a, i6 b, i6 c, i6 d]], 1, []⟩ := by
  refine CallSpec.of_vc vE_ok mixed sp0_ok (n := 1000) (r := [1]) (S := { sl := [(2, .sl 0 0 4 none)], os := [.row 3 (some 1) [i6 a, i6 b, i6 c, i6 d]] }) (hs := []) ?_
  refine Eq.mp (by kernel_rfl : (V.sl (0 : Nat) (0 : Nat) (4 : Nat) none = V.sl (0 : Nat) (0 : Nat) (4 : Nat) none ∧
        (((0 : Nat) = (0 : Nat) ∧ (4 : Nat) = (0 : Nat) + (4 : Nat) ∧ True) ∧ True) ∧
          ([i6 a, i6 b, i6 c, i6 d] =
                [] ++
                  i6 a ::
                    List.take._f (Nat.succ (2 : Nat))
                      (Nat.rec ⟨List.take._f Nat.zero PUnit.unit, PUnit.unit⟩
                        (fun n n_ih => ⟨List.take._f (Nat.succ n) n_ih, n_ih⟩) (2 : Nat))
                      [i6 b, i6 c, i6 d] ∧
              True ∧ True ∧ True ∧ True ∧ True) ∧
            True) = _) ?_
  (repeat' (first | (with_reducible apply And.intro) | (refine fun (_ : True) => ?_))) <;> first | with_reducible (first | rfl | exact trivial | assumption | (refine decide_eq_true ?_ <;> omega) | (refine decide_eq_false ?_ <;> omega) | (refine head_ints1 ?_ <;> omega) | (refine bne_false ?_ <;> omega) | (refine bne_true ?_ <;> omega) | (refine beq_false' ?_ <;> omega) | (refine beq_true' ?_ <;> omega) | (refine wr6' ?_ ?_ ?_ <;> omega) | (refine rem6 ?_ <;> omega) | (refine quo6 ?_ ?_ ?_ <;> omega) | exact HfL_ints _ | omega) | ((with_reducible show (_ : V) = _); rfl) | (intro hk_; exfalso; revert hk_; simp; done) | (intros; simp_all; done) | (split <;> omega) | ((with_reducible show decide _ = true); exact decide_eq_true (by omega)) | ((with_reducible show decide _ = false); exact decide_eq_false (by omega)) | skip
  all_goals rfl
theorem clone5 (a b c d e : Int) : CallSpec Pg .e (.fn 47 []) [.im 5 [i6 a, i6 b, i6 c, i6 d, i6 e]] .e 0 ⟨.sl 0 0 5 none, ofOs .e 0 [.row 3 (some 1) [i6 a, i6 b, i6 c, i6 d, i6 e]], 1, []⟩ := by
  refine CallSpec.of_vc vE_ok mixed sp0_ok (n := 1000) (r := [1]) (S := { sl := [(2, .sl 0 0 5 none)], os := [.row 3 (some 1) [i6 a, i6 b, i6 c, i6 d, i6 e]] }) (hs := []) ?_
  refine Eq.mp (by kernel_rfl : (V.sl (0 : Nat) (0 : Nat) (5 : Nat) none = V.sl (0 : Nat) (0 : Nat) (5 : Nat) none ∧
        (((0 : Nat) = (0 : Nat) ∧ (5 : Nat) = (0 : Nat) + (5 : Nat) ∧ True) ∧ True) ∧
          ([i6 a, i6 b, i6 c, i6 d, i6 e] =
                [] ++
                  i6 a ::
                    List.take._f (Nat.succ (3 : Nat))
                      (Nat.rec ⟨List.take._f Nat.zero PUnit.unit, PUnit.unit⟩
                        (fun n n_ih => ⟨List.take._f (Nat.succ n) n_ih, n_ih⟩) (3 : Nat))
                      [i6 b, i6 c, i6 d, i6 e] ∧
              True ∧ True ∧ True ∧ True ∧ True ∧ True) ∧
            True) = _) ?_
  (repeat' (first | (with_reducible apply And.intro) | (refine fun (_ : True) => ?_))) <;> first | with_reducible (first | rfl | exact trivial | assumption | (refine decide_eq_true ?_ <;> omega) | (refine decide_eq_false ?_ <;> omega) | (refine head_ints1 ?_ <;> omega) | (refine bne_false ?_ <;> omega) | (refine bne_true ?_ <;> omega) | (refine beq_false' ?_ <;> omega) | (refine beq_true' ?_ <;> omega) | (refine wr6' ?_ ?_ ?_ <;> omega) | (refine rem6 ?_ <;> omega) | (refine quo6 ?_ ?_ ?_ <;> omega) | exact HfL_ints _ | omega) | ((with_reducible show (_ : V) = _); rfl) | (intro hk_; exfalso; revert hk_; simp; done) | (intros; simp_all; done) | (split <;> omega) | ((with_reducible show decide _ = true); exact decide_eq_true (by omega)) | ((with_reducible show decide _ = false); exact decide_eq_false (by omega)) | skip
  all_goals rfl
theorem clone_spec (L : List Int) (k : Nat) (hk : L.length = k + 1) (h5 : k < 5) : CallSpec Pg .e (.fn 47 []) [sl L] .e 0 ⟨.sl 0 0 (k + 1) none, pt .e 0 (.row 3 (some 1) (ints L)), 1, []⟩ := by
  rcases (show k = 0 ∨ k = 1 ∨ k = 2 ∨ k = 3 ∨ k = 4 by omega) with rfl | rfl | rfl | rfl | rfl
  · match L, hk with
    | [a], _ => exact clone1 a
  · match L, hk with
    | [a, b], _ => exact clone2 a b
  · match L, hk with
    | [a, b, c], _ => exact clone3 a b c
  · match L, hk with
    | [a, b, c, d], _ => exact clone4 a b c d
  · match L, hk with
    | [a, b, c, d, e], _ => exact clone5 a b c d e

/-! ### the loops -/
theorem fails_fn : FnOk Pg .e 39 [i6 2] (.fn 75 [.imp [i6 2]]) := by
  refine FnOk.of_vc vE_ok mixed sp0_ok (n := 1000) (r := []) (S := { sl := [(2, .fn 75 [.imp [i6 2]])] }) (hs := []) ?_
  refine Eq.mp (by kernel_rfl : (V.fn (75 : Nat) [V.imp [i6 (2 : Int)]] = V.fn (75 : Nat) [V.imp [i6 (2 : Int)]] ∧
        ((([i6 (2 : Int)] = [i6 (2 : Int)] ∧ True ∧ True) ∧ True) ∧ True) ∧ True) = _) ?_
  (repeat' (first | (with_reducible apply And.intro) | (refine fun (_ : True) => ?_))) <;> first | with_reducible (first | rfl | exact trivial | assumption | (refine decide_eq_true ?_ <;> omega) | (refine decide_eq_false ?_ <;> omega) | (refine head_ints1 ?_ <;> omega) | (refine bne_false ?_ <;> omega) | (refine bne_true ?_ <;> omega) | (refine beq_false' ?_ <;> omega) | (refine beq_true' ?_ <;> omega) | (refine wr6' ?_ ?_ ?_ <;> omega) | (refine rem6 ?_ <;> omega) | (refine quo6 ?_ ?_ ?_ <;> omega) | exact HfL_ints _ | omega) | ((with_reducible show (_ : V) = _); rfl) | (intro hk_; exfalso; revert hk_; simp; done) | (intros; simp_all; done) | (split <;> omega) | ((with_reducible show decide _ = true); exact decide_eq_true (by omega)) | ((with_reducible show decide _ = false); exact decide_eq_false (by omega)) | skip
theorem fails1_fn : FnOk Pg .e 75 [i6 0, i6 2, .imp [i6 2]] (.bool true) := by
  refine FnOk.of_vc vE_ok mixed sp0_ok (n := 1000) (r := []) (S := boE 5 true) (hs := []) ?_
  refine Eq.mp (by kernel_rfl : (V.bool true = V.bool true ∧ (true = ((2 : Int) == (2 : Int)) ∧ True) ∧ True) = _) ?_
  (repeat' (first | (with_reducible apply And.intro) | (refine fun (_ : True) => ?_))) <;> first | with_reducible (first | rfl | exact trivial | assumption | (refine decide_eq_true ?_ <;> omega) | (refine decide_eq_false ?_ <;> omega) | (refine head_ints1 ?_ <;> omega) | (refine bne_false ?_ <;> omega) | (refine bne_true ?_ <;> omega) | (refine beq_false' ?_ <;> omega) | (refine beq_true' ?_ <;> omega) | (refine wr6' ?_ ?_ ?_ <;> omega) | (refine rem6 ?_ <;> omega) | (refine quo6 ?_ ?_ ?_ <;> omega) | exact HfL_ints _ | omega) | ((with_reducible show (_ : V) = _); rfl) | (intro hk_; exfalso; revert hk_; simp; done) | (intros; simp_all; done) | (split <;> omega) | ((with_reducible show decide _ = true); exact decide_eq_true (by omega)) | ((with_reducible show decide _ = false); exact decide_eq_false (by omega)) | skip

def lastL (c : List Int) : Nat → List Int
  | 0 => []
  | k + 1 => valL c k
abbrev bkS (c : List Int) (N : Nat) (q : Nat × List Int) : SL := { sl := [(3, sl c), (4, sl q.2), (15, i6 N), (16, i6 q.1)] }
abbrev bmS (c v : List Int) (N k m : Nat) : SL := { sl := [(3, sl c), (6, sl v), (15, i6 N), (16, i6 k), (55, sl v), (56, i6 v.length), (57, i6 m)] }
abbrev bmX (c v : List Int) (N k : Nat) : SL := { sl := [(3, sl c), (6, sl v), (15, i6 N), (16, i6 k)] }

theorem fitB_at' {L M : List Int} (hf : fitB L M = true) (hl : L.length = M.length) {k : Nat} (h : k < L.length) : 0 ≤ M[k]'(by omega) ∧ M[k]'(by omega) < L[k] := fitB_at hf h (by omega)

theorem back_in (c v : List Int) (N k : Nat) (hv : v.length = c.length) (h12 : c.length ≤ 12) (hf : fitB c v = true) (m : Nat) (hm : m ≤ v.length) :
    Sat Pg none 0 (at' 9 [1, 1, 1, 1, 0, 1, 0, 0, 1, 1, 0, 0, 1, 1, 1, 0, 1, 0]) (mkSt .e 95 (bmS c v N k m)) (outsP .e 95 [(True, .exit 2, bmX c v N k)]) := by
  refine loopC vE_ok mixed sp0_ok (b := at' 9 [1, 1, 1, 1, 0, 1, 0, 0, 1, 1, 0, 0, 1, 1, 1, 0, 1, 0, 0]) (by kernel_rfl) (fun m => m ≤ v.length) (bmS c v N k) (fun m => v.length - m) (fun m hm => ?_) m hm
  by_cases hlt : m < v.length
  · have hlt' : m < c.length := by omega
    have hb := fitB_at' hf hv.symm hlt'
    refine .inl ⟨m + 1, [], [yes 58, pl 60, ld 61 (i6 v[m]), no 63, pl 68, ld 69 (i6 c[m]), no 70, nu 72 (m + 1 : Nat)], 1000, hlt, by omega, ?_⟩
    refine Eq.mp (by kernel_rfl : (decide ((↑m : Int) < (↑(List.length v) : Int)) = true ∧
          ((0 : Int) ≤ (↑m : Int) ∧ (↑m : Int) < (↑(List.length v) : Int)) ∧
            headF (List.drop (m * (1 : Nat)) (ints v)) = some (i6 v[m]) ∧
              decide (v[m] < (0 : Int)) = false ∧
                ((0 : Int) ≤ (↑m : Int) ∧ (↑m : Int) < (↑(List.length c) : Int)) ∧
                  headF (List.drop (m * (1 : Nat)) (ints c)) = some (i6 c[m]) ∧
                    decide (v[m] ≥ c[m]) = false ∧
                      wr IntKind.i64 ((↑m : Int) + (1 : Int)) = (↑(m + (1 : Nat)) : Int) ∧
                        ((List.length c = List.length c ∧ ints c = ints c) ∧
                            (List.length v = List.length v ∧ ints v = ints v) ∧
                              (↑N : Int) = (↑N : Int) ∧
                                (↑k : Int) = (↑k : Int) ∧
                                  (List.length v = List.length v ∧ ints v = ints v) ∧
                                    (↑(List.length v) : Int) = (↑(List.length v) : Int) ∧
                                      (↑(m + (1 : Nat)) : Int) = (↑(m + (1 : Nat)) : Int) ∧ True) ∧
                          True) = _) ?_
    (repeat' (first | (with_reducible apply And.intro) | (refine fun (_ : True) => ?_))) <;> first | with_reducible (first | rfl | exact trivial | assumption | (refine decide_eq_true ?_ <;> omega) | (refine decide_eq_false ?_ <;> omega) | (refine head_ints1 ?_ <;> omega) | (refine bne_false ?_ <;> omega) | (refine bne_true ?_ <;> omega) | (refine beq_false' ?_ <;> omega) | (refine beq_true' ?_ <;> omega) | (refine wr6' ?_ ?_ ?_ <;> omega) | (refine rem6 ?_ <;> omega) | (refine quo6 ?_ ?_ ?_ <;> omega) | exact HfL_ints _ | omega) | ((with_reducible show (_ : V) = _); rfl) | (intro hk_; exfalso; revert hk_; simp; done) | (intros; simp_all; done) | (split <;> omega) | ((with_reducible show decide _ = true); exact decide_eq_true (by omega)) | ((with_reducible show decide _ = false); exact decide_eq_false (by omega)) | skip
  · have : m = v.length := by omega
    subst this
    refine .inr ⟨.exit 2, [], bmX c v N k, [no 58], 1000, .inl ⟨trivial, rfl, rfl⟩, ?_⟩
    refine Eq.mp (by kernel_rfl : (decide ((↑(List.length v) : Int) < (↑(List.length v) : Int)) = false ∧
          ((List.length c = List.length c ∧ ints c = ints c) ∧
              (List.length v = List.length v ∧ ints v = ints v) ∧ (↑N : Int) = (↑N : Int) ∧ (↑k : Int) = (↑k : Int) ∧ True) ∧
            True) = _) ?_
    (repeat' (first | (with_reducible apply And.intro) | (refine fun (_ : True) => ?_))) <;> first | with_reducible (first | rfl | exact trivial | assumption | (refine decide_eq_true ?_ <;> omega) | (refine decide_eq_false ?_ <;> omega) | (refine head_ints1 ?_ <;> omega) | (refine bne_false ?_ <;> omega) | (refine bne_true ?_ <;> omega) | (refine beq_false' ?_ <;> omega) | (refine beq_true' ?_ <;> omega) | (refine wr6' ?_ ?_ ?_ <;> omega) | (refine rem6 ?_ <;> omega) | (refine quo6 ?_ ?_ ?_ <;> omega) | exact HfL_ints _ | omega) | ((with_reducible show (_ : V) = _); rfl) | (intro hk_; exfalso; revert hk_; simp; done) | (intros; simp_all; done) | (split <;> omega) | ((with_reducible show decide _ = true); exact decide_eq_true (by omega)) | ((with_reducible show decide _ = false); exact decide_eq_false (by omega)) | skip

theorem back_loop (c : List Int) (N : Nat) (hg : Good c) (hN : (N : Int) = prodL c) (q : Nat × List Int) (hq : q.1 ≤ N ∧ q.2 = lastL c q.1) :
    Sat Pg none 0 (at' 9 [1, 1, 1, 1, 0, 1, 0]) (mkSt .e 95 (bkS c N q)) (outsP .e 95 [(True, .exit 0, { sl := [(3, sl c), (4, sl (lastL c N))] })]) := by
  refine loopC vE_ok mixed sp0_ok (b := at' 9 [1, 1, 1, 1, 0, 1, 0, 0]) (by kernel_rfl) (fun q => q.1 ≤ N ∧ q.2 = lastL c q.1) (bkS c N) (fun q => N - q.1) (fun q hq => ?_) q hq
  obtain ⟨k, l⟩ := q
  obtain ⟨hk, hl⟩ := hq
  dsimp only at hk hl
  have hle := hg.le
  have h12 := hg.len
  have hcnt := good_count hg
  by_cases hlt : k < N
  · have f1 := values_ok (gl := .e) c k
    rw [show ValuesS c k = (valL c k, 0) by simp only [ValuesS, hcnt]; rw [if_neg (by omega)]] at f1
    have f1' : FnOk Pg .e 36 [sl c, i6 k] (.tup [sl (valL c k), i6 0]) := f1
    have hvl := valL_length c k
    have hfit := valL_fit hg (i := k) (by omega) (by omega)
    have f2 := index_ok (gl := .e) c (valL c k) (by omega)
    rw [indexG_fit hcnt (show combB c (valL c k) = true by simp [combB, hvl, hfit]), idxR_valL c (fun x hx => (hg.card x hx).1) k (by omega) (by omega)] at f2
    have f2' : FnOk Pg .e 41 [sl c, sl (valL c k)] (.tup [i6 k, i6 0]) := f2
    have g1 := is_fn k
    have g2 := is1_fn k
    have lp1 := back_in c (valL c k) N k hvl h12 hfit 0 (Nat.zero_le _)
    cases k with
    | zero =>
      refine .inl ⟨(1, valL c (0 : Nat)), [], [yes 17, fn 22 (.tup [sl (valL c (0 : Nat)), i6 0]), no 32, fn 46 (.fn 74 [.imp [i6 (0 : Nat)]]), fn 49 (.tup [i6 (0 : Nat), i6 0]), fn 52 (.bool true), (0, .loop [] (bmS c (valL c (0 : Nat)) N 0 0) [(True, .exit 2, bmX c (valL c (0 : Nat)) N 0)]), nu 74 1], 1000, ⟨hlt, rfl⟩, by dsimp only; omega, ?_⟩
      refine Eq.mp (by kernel_rfl : (decide ((↑(0 : Nat) : Int) < (↑N : Int)) = true ∧
            (True ∧ True ∧ True) ∧
              FnOk Try.prog T.e (36 : Nat) [V.im (List.length c) (ints c), V.int IntKind.i64 (↑(0 : Nat) : Int)]
                  (V.tup [sl (valL c (↑(0 : Nat) : Int)), i6 (0 : Int)]) ∧
                True ∧
                  ((↑(List.length (valL c (↑(0 : Nat) : Int))) : Int) != (↑(List.length c) : Int)) = false ∧
                    (True ∧ True) ∧
                      FnOk Try.prog T.e (37 : Nat) [V.int IntKind.i64 (↑(0 : Nat) : Int)]
                          (V.fn (74 : Nat) [V.imp [i6 (↑(0 : Nat) : Int)]]) ∧
                        True ∧
                          (True ∧ True ∧ True) ∧
                            FnOk Try.prog T.e (41 : Nat)
                                [V.im (List.length c) (ints c),
                                  V.im (List.length (valL c (↑(0 : Nat) : Int))) (ints (valL c (↑(0 : Nat) : Int)))]
                                (V.tup [i6 (↑(0 : Nat) : Int), i6 (0 : Int)]) ∧
                              ((V.fn (37 : Nat) [] = V.fn (41 : Nat) [] →
                                    [i6 (↑(0 : Nat) : Int)] = [sl c, sl (valL c (↑(0 : Nat) : Int))] →
                                      ofOs T.e (0 : Nat) [] = ofOs T.e (0 : Nat) [] →
                                        (0 : Nat) = (0 : Nat) →
                                          CR.mk (V.fn (74 : Nat) [V.imp [i6 (↑(0 : Nat) : Int)]]) (ofOs T.e (0 : Nat) [])
                                              (0 : Nat) [] =
                                            CR.mk (V.tup [i6 (↑(0 : Nat) : Int), i6 (0 : Int)]) (ofOs T.e (0 : Nat) []) (0 : Nat)
                                              []) ∧
                                  True) ∧
                                (True ∧ True ∧ True ∧ True) ∧
                                  FnOk Try.prog T.e (74 : Nat)
                                      [V.int IntKind.i64 (↑(0 : Nat) : Int), V.int IntKind.i64 (0 : Int),
                                        V.imp [i6 (↑(0 : Nat) : Int)]]
                                      (V.bool true) ∧
                                    ((V.fn (41 : Nat) [] = V.fn (74 : Nat) [V.imp [i6 (↑(0 : Nat) : Int)]] →
                                          [sl c, sl (valL c (↑(0 : Nat) : Int))] = [i6 (↑(0 : Nat) : Int), i6 (0 : Int)] →
                                            ofOs T.e (0 : Nat) [] = ofOs T.e (0 : Nat) [] →
                                              (0 : Nat) = (0 : Nat) →
                                                CR.mk (V.tup [i6 (↑(0 : Nat) : Int), i6 (0 : Int)]) (ofOs T.e (0 : Nat) [])
                                                    (0 : Nat) [] =
                                                  CR.mk (V.bool true) (ofOs T.e (0 : Nat) []) (0 : Nat) []) ∧
                                        (V.fn (37 : Nat) [] = V.fn (74 : Nat) [V.imp [i6 (↑(0 : Nat) : Int)]] →
                                            [i6 (↑(0 : Nat) : Int)] = [i6 (↑(0 : Nat) : Int), i6 (0 : Int)] →
                                              ofOs T.e (0 : Nat) [] = ofOs T.e (0 : Nat) [] →
                                                (0 : Nat) = (0 : Nat) →
                                                  CR.mk (V.fn (74 : Nat) [V.imp [i6 (↑(0 : Nat) : Int)]]) (ofOs T.e (0 : Nat) [])
                                                      (0 : Nat) [] =
                                                    CR.mk (V.bool true) (ofOs T.e (0 : Nat) []) (0 : Nat) []) ∧
                                          True) ∧
                                      (((List.length c = List.length c ∧ ints c = ints c) ∧
                                            (List.length (valL c (↑(0 : Nat) : Int)) = List.length (valL c (↑(0 : Nat) : Int)) ∧
                                                ints (valL c (↑(0 : Nat) : Int)) = ints (valL c (↑(0 : Nat) : Int))) ∧
                                              (↑N : Int) = (↑N : Int) ∧
                                                (↑(0 : Nat) : Int) = (↑(0 : Nat) : Int) ∧
                                                  (List.length (valL c (↑(0 : Nat) : Int)) =
                                                        List.length (valL c (↑(0 : Nat) : Int)) ∧
                                                      ints (valL c (↑(0 : Nat) : Int)) = ints (valL c (↑(0 : Nat) : Int))) ∧
                                                    (↑(List.length (valL c (↑(0 : Nat) : Int))) : Int) =
                                                        (↑(List.length (valL c (↑(0 : Nat) : Int))) : Int) ∧
                                                      (↑(0 : Nat) : Int) = (0 : Int) ∧ True) ∧
                                          True) ∧
                                        Sat Try.prog none (0 : Nat)
                                            (at' (9 : Nat)
                                              [(1 : Nat), (1 : Nat), (1 : Nat), (1 : Nat), (0 : Nat), (1 : Nat), (0 : Nat),
                                                (0 : Nat), (1 : Nat), (1 : Nat), (0 : Nat), (0 : Nat), (1 : Nat), (1 : Nat),
                                                (1 : Nat), (0 : Nat), (1 : Nat), (0 : Nat)])
                                            (mkSt T.e (95 : Nat) (bmS c (valL c (↑(0 : Nat) : Int)) N (0 : Nat) (0 : Nat)))
                                            (outsP T.e (95 : Nat)
                                              [(True, Ex.exit (2 : Nat), bmX c (valL c (↑(0 : Nat) : Int)) N (0 : Nat))]) ∧
                                          (True →
                                              wr IntKind.i64 ((↑(0 : Nat) : Int) + (1 : Int)) = (1 : Int) ∧
                                                ((List.length c = List.length c ∧ ints c = ints c) ∧
                                                    (List.length (valL c (↑(0 : Nat) : Int)) =
                                                          List.length (valL c (↑(0 : Nat) : Int)) ∧
                                                        ints (valL c (↑(0 : Nat) : Int)) = ints (valL c (↑(0 : Nat) : Int))) ∧
                                                      (↑N : Int) = (↑N : Int) ∧ (↑(1 : Nat) : Int) = (1 : Int) ∧ True) ∧
                                                  True) ∧
                                            True) = _) ?_
      (repeat' (first | (with_reducible apply And.intro) | (refine fun (_ : True) => ?_))) <;> first | with_reducible (first | rfl | exact trivial | assumption | (refine decide_eq_true ?_ <;> omega) | (refine decide_eq_false ?_ <;> omega) | (refine head_ints1 ?_ <;> omega) | (refine bne_false ?_ <;> omega) | (refine bne_true ?_ <;> omega) | (refine beq_false' ?_ <;> omega) | (refine beq_true' ?_ <;> omega) | (refine wr6' ?_ ?_ ?_ <;> omega) | (refine rem6 ?_ <;> omega) | (refine quo6 ?_ ?_ ?_ <;> omega) | exact HfL_ints _ | omega) | ((with_reducible show (_ : V) = _); rfl) | (intro hk_; exfalso; revert hk_; simp; done) | (intros; simp_all; done) | (split <;> omega) | ((with_reducible show decide _ = true); exact decide_eq_true (by omega)) | ((with_reducible show decide _ = false); exact decide_eq_false (by omega)) | skip
    | succ k =>
      have hl' : l = valL c k := hl
      subst hl'
      have hvl0 := valL_length c k
      have f3 := compare_fn (valL c k) (valL c (k + 1 : Nat)) (by rw [hvl, hvl0]) (by omega) (valL_lt c (fun x hx => (hg.card x hx).1) k (k + 1 : Nat) (by omega) (by omega) (by omega))
      refine .inl ⟨(k + 1 + 1, valL c (k + 1 : Nat)), [], [yes 17, fn 22 (.tup [sl (valL c (k + 1 : Nat)), i6 0]), no 32, yes 36, fn 40 (i6 (-1)), fn 46 (.fn 74 [.imp [i6 (k + 1 : Nat)]]), fn 49 (.tup [i6 (k + 1 : Nat), i6 0]), fn 52 (.bool true), (0, .loop [] (bmS c (valL c (k + 1 : Nat)) N (k + 1) 0) [(True, .exit 2, bmX c (valL c (k + 1 : Nat)) N (k + 1))]), nu 74 (k + 1 + 1 : Nat)], 1000, ⟨hlt, rfl⟩, by dsimp only; omega, ?_⟩
      refine Eq.mp (by kernel_rfl : (decide ((↑(k + (1 : Nat)) : Int) < (↑N : Int)) = true ∧
            (True ∧ True ∧ True) ∧
              FnOk Try.prog T.e (36 : Nat) [V.im (List.length c) (ints c), V.int IntKind.i64 (↑(k + (1 : Nat)) : Int)]
                  (V.tup [sl (valL c (↑(k + (1 : Nat)) : Int)), i6 (0 : Int)]) ∧
                True ∧
                  ((↑(List.length (valL c (↑(k + (1 : Nat)) : Int))) : Int) != (↑(List.length c) : Int)) = false ∧
                    decide ((↑(k + (1 : Nat)) : Int) > (0 : Int)) = true ∧
                      (True ∧ True ∧ True) ∧
                        FnOk Try.prog T.e (46 : Nat)
                            [V.im (List.length (valL c (↑k : Int))) (ints (valL c (↑k : Int))),
                              V.im (List.length (valL c (↑(k + (1 : Nat)) : Int))) (ints (valL c (↑(k + (1 : Nat)) : Int)))]
                            (i6 (-1 : Int)) ∧
                          True ∧
                            (True ∧ True) ∧
                              FnOk Try.prog T.e (37 : Nat) [V.int IntKind.i64 (↑(k + (1 : Nat)) : Int)]
                                  (V.fn (74 : Nat) [V.imp [i6 (↑(k + (1 : Nat)) : Int)]]) ∧
                                ((V.fn (46 : Nat) [] = V.fn (37 : Nat) [] →
                                      [sl (valL c (↑k : Int)), sl (valL c (↑(k + (1 : Nat)) : Int))] =
                                          [i6 (↑(k + (1 : Nat)) : Int)] →
                                        ofOs T.e (0 : Nat) [] = ofOs T.e (0 : Nat) [] →
                                          (0 : Nat) = (0 : Nat) →
                                            CR.mk (i6 (-1 : Int)) (ofOs T.e (0 : Nat) []) (0 : Nat) [] =
                                              CR.mk (V.fn (74 : Nat) [V.imp [i6 (↑(k + (1 : Nat)) : Int)]])
                                                (ofOs T.e (0 : Nat) []) (0 : Nat) []) ∧
                                    True) ∧
                                  (True ∧ True ∧ True) ∧
                                    FnOk Try.prog T.e (41 : Nat)
                                        [V.im (List.length c) (ints c),
                                          V.im (List.length (valL c (↑(k + (1 : Nat)) : Int)))
                                            (ints (valL c (↑(k + (1 : Nat)) : Int)))]
                                        (V.tup [i6 (↑(k + (1 : Nat)) : Int), i6 (0 : Int)]) ∧
                                      ((V.fn (37 : Nat) [] = V.fn (41 : Nat) [] →
                                            [i6 (↑(k + (1 : Nat)) : Int)] = [sl c, sl (valL c (↑(k + (1 : Nat)) : Int))] →
                                              ofOs T.e (0 : Nat) [] = ofOs T.e (0 : Nat) [] →
                                                (0 : Nat) = (0 : Nat) →
                                                  CR.mk (V.fn (74 : Nat) [V.imp [i6 (↑(k + (1 : Nat)) : Int)]])
                                                      (ofOs T.e (0 : Nat) []) (0 : Nat) [] =
                                                    CR.mk (V.tup [i6 (↑(k + (1 : Nat)) : Int), i6 (0 : Int)])
                                                      (ofOs T.e (0 : Nat) []) (0 : Nat) []) ∧
                                          (V.fn (46 : Nat) [] = V.fn (41 : Nat) [] →
                                              [sl (valL c (↑k : Int)), sl (valL c (↑(k + (1 : Nat)) : Int))] =
                                                  [sl c, sl (valL c (↑(k + (1 : Nat)) : Int))] →
                                                ofOs T.e (0 : Nat) [] = ofOs T.e (0 : Nat) [] →
                                                  (0 : Nat) = (0 : Nat) →
                                                    CR.mk (i6 (-1 : Int)) (ofOs T.e (0 : Nat) []) (0 : Nat) [] =
                                                      CR.mk (V.tup [i6 (↑(k + (1 : Nat)) : Int), i6 (0 : Int)])
                                                        (ofOs T.e (0 : Nat) []) (0 : Nat) []) ∧
                                            True) ∧
                                        (True ∧ True ∧ True ∧ True) ∧
                                          FnOk Try.prog T.e (74 : Nat)
                                              [V.int IntKind.i64 (↑(k + (1 : Nat)) : Int), V.int IntKind.i64 (0 : Int),
                                                V.imp [i6 (↑(k + (1 : Nat)) : Int)]]
                                              (V.bool true) ∧
                                            ((V.fn (41 : Nat) [] = V.fn (74 : Nat) [V.imp [i6 (↑(k + (1 : Nat)) : Int)]] →
                                                  [sl c, sl (valL c (↑(k + (1 : Nat)) : Int))] =
                                                      [i6 (↑(k + (1 : Nat)) : Int), i6 (0 : Int)] →
                                                    ofOs T.e (0 : Nat) [] = ofOs T.e (0 : Nat) [] →
                                                      (0 : Nat) = (0 : Nat) →
                                                        CR.mk (V.tup [i6 (↑(k + (1 : Nat)) : Int), i6 (0 : Int)])
                                                            (ofOs T.e (0 : Nat) []) (0 : Nat) [] =
                                                          CR.mk (V.bool true) (ofOs T.e (0 : Nat) []) (0 : Nat) []) ∧
                                                (V.fn (37 : Nat) [] = V.fn (74 : Nat) [V.imp [i6 (↑(k + (1 : Nat)) : Int)]] →
                                                    [i6 (↑(k + (1 : Nat)) : Int)] = [i6 (↑(k + (1 : Nat)) : Int), i6 (0 : Int)] →
                                                      ofOs T.e (0 : Nat) [] = ofOs T.e (0 : Nat) [] →
                                                        (0 : Nat) = (0 : Nat) →
                                                          CR.mk (V.fn (74 : Nat) [V.imp [i6 (↑(k + (1 : Nat)) : Int)]])
                                                              (ofOs T.e (0 : Nat) []) (0 : Nat) [] =
                                                            CR.mk (V.bool true) (ofOs T.e (0 : Nat) []) (0 : Nat) []) ∧
                                                  (V.fn (46 : Nat) [] = V.fn (74 : Nat) [V.imp [i6 (↑(k + (1 : Nat)) : Int)]] →
                                                      [sl (valL c (↑k : Int)), sl (valL c (↑(k + (1 : Nat)) : Int))] =
                                                          [i6 (↑(k + (1 : Nat)) : Int), i6 (0 : Int)] →
                                                        ofOs T.e (0 : Nat) [] = ofOs T.e (0 : Nat) [] →
                                                          (0 : Nat) = (0 : Nat) →
                                                            CR.mk (i6 (-1 : Int)) (ofOs T.e (0 : Nat) []) (0 : Nat) [] =
                                                              CR.mk (V.bool true) (ofOs T.e (0 : Nat) []) (0 : Nat) []) ∧
                                                    True) ∧
                                              (((List.length c = List.length c ∧ ints c = ints c) ∧
                                                    (List.length (valL c (↑(k + (1 : Nat)) : Int)) =
                                                          List.length (valL c (↑(k + (1 : Nat)) : Int)) ∧
                                                        ints (valL c (↑(k + (1 : Nat)) : Int)) =
                                                          ints (valL c (↑(k + (1 : Nat)) : Int))) ∧
                                                      (↑N : Int) = (↑N : Int) ∧
                                                        (↑(k + (1 : Nat)) : Int) = (↑(k + (1 : Nat)) : Int) ∧
                                                          (List.length (valL c (↑(k + (1 : Nat)) : Int)) =
                                                                List.length (valL c (↑(k + (1 : Nat)) : Int)) ∧
                                                              ints (valL c (↑(k + (1 : Nat)) : Int)) =
                                                                ints (valL c (↑(k + (1 : Nat)) : Int))) ∧
                                                            (↑(List.length (valL c (↑(k + (1 : Nat)) : Int))) : Int) =
                                                                (↑(List.length (valL c (↑(k + (1 : Nat)) : Int))) : Int) ∧
                                                              (↑(0 : Nat) : Int) = (0 : Int) ∧ True) ∧
                                                  True) ∧
                                                Sat Try.prog none (0 : Nat)
                                                    (at' (9 : Nat)
                                                      [(1 : Nat), (1 : Nat), (1 : Nat), (1 : Nat), (0 : Nat), (1 : Nat),
                                                        (0 : Nat), (0 : Nat), (1 : Nat), (1 : Nat), (0 : Nat), (0 : Nat),
                                                        (1 : Nat), (1 : Nat), (1 : Nat), (0 : Nat), (1 : Nat), (0 : Nat)])
                                                    (mkSt T.e (95 : Nat)
                                                      (bmS c (valL c (↑(k + (1 : Nat)) : Int)) N (k + (1 : Nat)) (0 : Nat)))
                                                    (outsP T.e (95 : Nat)
                                                      [(True, Ex.exit (2 : Nat),
                                                          bmX c (valL c (↑(k + (1 : Nat)) : Int)) N (k + (1 : Nat)))]) ∧
                                                  (True →
                                                      wr IntKind.i64 ((↑(k + (1 : Nat)) : Int) + (1 : Int)) =
                                                          (↑(k + (1 : Nat) + (1 : Nat)) : Int) ∧
                                                        ((List.length c = List.length c ∧ ints c = ints c) ∧
                                                            (List.length (valL c (↑(k + (1 : Nat)) : Int)) =
                                                                  List.length (valL c (↑(k + (1 : Nat)) : Int)) ∧
                                                                ints (valL c (↑(k + (1 : Nat)) : Int)) =
                                                                  ints (valL c (↑(k + (1 : Nat)) : Int))) ∧
                                                              (↑N : Int) = (↑N : Int) ∧
                                                                (↑(k + (1 : Nat) + (1 : Nat)) : Int) =
                                                                    (↑(k + (1 : Nat) + (1 : Nat)) : Int) ∧
                                                                  True) ∧
                                                          True) ∧
                                                    True) = _) ?_
      (repeat' (first | (with_reducible apply And.intro) | (refine fun (_ : True) => ?_))) <;> first | with_reducible (first | rfl | exact trivial | assumption | (refine decide_eq_true ?_ <;> omega) | (refine decide_eq_false ?_ <;> omega) | (refine head_ints1 ?_ <;> omega) | (refine bne_false ?_ <;> omega) | (refine bne_true ?_ <;> omega) | (refine beq_false' ?_ <;> omega) | (refine beq_true' ?_ <;> omega) | (refine wr6' ?_ ?_ ?_ <;> omega) | (refine rem6 ?_ <;> omega) | (refine quo6 ?_ ?_ ?_ <;> omega) | exact HfL_ints _ | omega) | ((with_reducible show (_ : V) = _); rfl) | (intro hk_; exfalso; revert hk_; simp; done) | (intros; simp_all; done) | (split <;> omega) | ((with_reducible show decide _ = true); exact decide_eq_true (by omega)) | ((with_reducible show decide _ = false); exact decide_eq_false (by omega)) | skip
  · have : k = N := by omega
    subst this
    rw [← hl]
    refine .inr ⟨.exit 0, [], { sl := [(3, sl c), (4, sl l)] }, [no 17], 1000, .inl ⟨trivial, rfl, rfl⟩, ?_⟩
    refine Eq.mp (by kernel_rfl : (decide ((↑k : Int) < (↑k : Int)) = false ∧
          ((List.length c = List.length c ∧ ints c = ints c) ∧ (List.length l = List.length l ∧ ints l = ints l) ∧ True) ∧ True) = _) ?_
    (repeat' (first | (with_reducible apply And.intro) | (refine fun (_ : True) => ?_))) <;> first | with_reducible (first | rfl | exact trivial | assumption | (refine decide_eq_true ?_ <;> omega) | (refine decide_eq_false ?_ <;> omega) | (refine head_ints1 ?_ <;> omega) | (refine bne_false ?_ <;> omega) | (refine bne_true ?_ <;> omega) | (refine beq_false' ?_ <;> omega) | (refine beq_true' ?_ <;> omega) | (refine wr6' ?_ ?_ ?_ <;> omega) | (refine rem6 ?_ <;> omega) | (refine quo6 ?_ ?_ ?_ <;> omega) | exact HfL_ints _ | omega) | ((with_reducible show (_ : V) = _); rfl) | (intro hk_; exfalso; revert hk_; simp; done) | (intros; simp_all; done) | (split <;> omega) | ((with_reducible show decide _ = true); exact decide_eq_true (by omega)) | ((with_reducible show decide _ = false); exact decide_eq_false (by omega)) | skip

theorem back_nil (D : List Int) (w : Int) : FnOk Pg .e 9 [drV [] D w] (.bool true) := FnOk.of_run vE_ok mixed (n := 100000) rfl (by kernel_rfl)

theorem back_true (C D : List Int) (w : Int) (hC : u8s C) : FnOk Pg .e 9 [drV C D w] (.bool true) := by
  cases hCn : C with
  | nil => exact back_nil D w
  | cons x xs =>
    rw [← hCn]
    have hw := works_ok
    have hcards := cards_fn C D w hC
    have hcl : (cardsD C).length = min xs.length 4 + 1 := by rw [hCn]; simp [cardsD]; omega
    have hg := cardsD_good C
    generalize cardsD C = c at *
    generalize hj : min xs.length 4 = j at *
    have hj5 : j < 5 := by omega
    have hle := hg.le
    have hpos := hg.pos
    have hsz := size2_fn c (fits_good hg) (by omega)
    have hcnt := good_count hg
    obtain ⟨N, hN⟩ : ∃ N : Nat, ((N + 1 : Nat) : Int) = prodL c := ⟨(prodL c - 1).toNat, by omega⟩
    have hvl : (valL c N).length = j + 1 := by rw [valL_length, hcl]
    have l1 := back_loop c (N + 1) hg hN (0, []) ⟨Nat.zero_le _, rfl⟩
    have l1' : Sat Pg none 0 (at' 9 [1, 1, 1, 1, 0, 1, 0]) (mkSt .e 95 (bkS c (N + 1) (0, []))) (outsP .e 95 [(True, .exit 0, { sl := [(3, sl c), (4, sl (valL c N))] })]) := l1
    rw [← hN] at hsz
    have g1 := is_fn (N + 1 : Nat)
    have g2 := is1_fn (N + 1 : Nat)
    have g3 := fails_fn
    have g4 := fails1_fn
    have f1 := size_ok (gl := .e) c
    rw [show sizeG c = (((N + 1 : Nat) : Int), 0) by simp only [sizeG, hcnt, ← hN]] at f1
    have f1' : FnOk Pg .e 38 [sl c] (.tup [i6 (N + 1 : Nat), i6 0]) := f1
    have hcn := clone_spec (valL c N) j hvl hj5
    have f2 := index_ok (gl := .e) c (valL c N ++ [0]) (by simp; omega)
    rw [indexG_len hcnt (by simp; omega), show sl (valL c N ++ [0]) = .im (j + 1 + 1) (ints (valL c N) ++ [i6 0]) by rw [sl, ints_app, List.length_append, hvl]; rfl] at f2
    have f2' : FnOk Pg .e 41 [sl c, .im (j + 1 + 1) (ints (valL c N) ++ [i6 0])] (.tup [i6 0, i6 2]) := f2
    have hHf : HfL (ints (valL c N) ++ [i6 0]) := by have := HfL_ints (valL c N ++ [0]); rw [ints_app] at this; exact this
    have hil : (ints (valL c N)).length = j + 1 := by rw [ints_length, hvl]
    refine FnOk.of_vc vE_ok mixed sp0_ok (n := 1000) (r := []) (S := boE 2 true) (hs := [fn 10 (.bool true), fn 13 (sl c), fn 15 (i6 (N + 1 : Nat)), (0, .loop [] (bkS c (N + 1) (0, [])) [(True, .exit 0, { sl := [(3, sl c), (4, sl (valL c N))] })]), fn 76 (i6 (N + 1 : Nat)), fn 77 (.fn 74 [.imp [i6 (N + 1 : Nat)]]), fn 79 (.tup [i6 (N + 1 : Nat), i6 0]), fn 82 (.bool true), fn 84 (.fn 75 [.imp [i6 2]]), (87, .call ⟨.sl 0 0 (j + 1) none, pt .e 0 (.row 3 (some 1) (ints (valL c N))), 1, []⟩), ap 89, fn 90 (.tup [i6 0, i6 2]), fn 93 (.bool true)]) ?_
    refine Eq.mp (by kernel_rfl : (V.bool true = V.bool true ∧
          True ∧
            FnOk Try.prog T.e (15 : Nat) [] (V.bool true) ∧
              True ∧
                ((True ∧ True ∧ True ∧ True) ∧ True) ∧
                  FnOk Try.prog T.e (17 : Nat)
                      [V.agg
                          [V.im (List.length C) (List.map (V.int IntKind.u8) C), V.int IntKind.u16 w,
                            V.im (List.length D) (List.map (V.int IntKind.u8) D)]]
                      (sl c) ∧
                    True ∧
                      (True ∧ True) ∧
                        FnOk Try.prog T.e (35 : Nat) [V.im (List.length c) (ints c)] (i6 (↑(N + (1 : Nat)) : Int)) ∧
                          True ∧
                            (((List.length c = List.length c ∧ ints c = ints c) ∧
                                  (0 : Nat) = (0 : Nat) ∧
                                    (↑(N + (1 : Nat)) : Int) = (↑(N + (1 : Nat)) : Int) ∧
                                      (↑(0 : Nat) : Int) = (0 : Int) ∧ True) ∧
                                True) ∧
                              Sat Try.prog none (0 : Nat)
                                  (at' (9 : Nat) [(1 : Nat), (1 : Nat), (1 : Nat), (1 : Nat), (0 : Nat), (1 : Nat), (0 : Nat)])
                                  (mkSt T.e (95 : Nat) (bkS c (N + (1 : Nat)) ((0 : Nat), [])))
                                  (outsP T.e (95 : Nat)
                                    [(True, Ex.exit (0 : Nat),
                                        SL.mk [((3 : Nat), sl c), ((4 : Nat), sl (valL c (↑N : Int)))] [] [] [])]) ∧
                                (True →
                                    (True ∧ True) ∧
                                      FnOk Try.prog T.e (35 : Nat) [V.im (List.length c) (ints c)]
                                          (i6 (↑(N + (1 : Nat)) : Int)) ∧
                                        True ∧
                                          (True ∧ True) ∧
                                            FnOk Try.prog T.e (37 : Nat) [V.int IntKind.i64 (↑(N + (1 : Nat)) : Int)]
                                                (V.fn (74 : Nat) [V.imp [i6 (↑(N + (1 : Nat)) : Int)]]) ∧
                                              ((V.fn (35 : Nat) [] = V.fn (37 : Nat) [] →
                                                    [sl c] = [i6 (↑(N + (1 : Nat)) : Int)] →
                                                      ofOs T.e (0 : Nat) [] = ofOs T.e (0 : Nat) [] →
                                                        (0 : Nat) = (0 : Nat) →
                                                          CR.mk (i6 (↑(N + (1 : Nat)) : Int)) (ofOs T.e (0 : Nat) []) (0 : Nat)
                                                              [] =
                                                            CR.mk (V.fn (74 : Nat) [V.imp [i6 (↑(N + (1 : Nat)) : Int)]])
                                                              (ofOs T.e (0 : Nat) []) (0 : Nat) []) ∧
                                                  True) ∧
                                                (True ∧ True) ∧
                                                  FnOk Try.prog T.e (38 : Nat) [V.im (List.length c) (ints c)]
                                                      (V.tup [i6 (↑(N + (1 : Nat)) : Int), i6 (0 : Int)]) ∧
                                                    ((V.fn (37 : Nat) [] = V.fn (38 : Nat) [] →
                                                          [i6 (↑(N + (1 : Nat)) : Int)] = [sl c] →
                                                            ofOs T.e (0 : Nat) [] = ofOs T.e (0 : Nat) [] →
                                                              (0 : Nat) = (0 : Nat) →
                                                                CR.mk (V.fn (74 : Nat) [V.imp [i6 (↑(N + (1 : Nat)) : Int)]])
                                                                    (ofOs T.e (0 : Nat) []) (0 : Nat) [] =
                                                                  CR.mk (V.tup [i6 (↑(N + (1 : Nat)) : Int), i6 (0 : Int)])
                                                                    (ofOs T.e (0 : Nat) []) (0 : Nat) []) ∧
                                                        (V.fn (35 : Nat) [] = V.fn (38 : Nat) [] →
                                                            [sl c] = [sl c] →
                                                              ofOs T.e (0 : Nat) [] = ofOs T.e (0 : Nat) [] →
                                                                (0 : Nat) = (0 : Nat) →
                                                                  CR.mk (i6 (↑(N + (1 : Nat)) : Int)) (ofOs T.e (0 : Nat) [])
                                                                      (0 : Nat) [] =
                                                                    CR.mk (V.tup [i6 (↑(N + (1 : Nat)) : Int), i6 (0 : Int)])
                                                                      (ofOs T.e (0 : Nat) []) (0 : Nat) []) ∧
                                                          True) ∧
                                                      (True ∧ True ∧ True ∧ True) ∧
                                                        FnOk Try.prog T.e (74 : Nat)
                                                            [V.int IntKind.i64 (↑(N + (1 : Nat)) : Int),
                                                              V.int IntKind.i64 (0 : Int), V.imp [i6 (↑(N + (1 : Nat)) : Int)]]
                                                            (V.bool true) ∧
                                                          ((V.fn (38 : Nat) [] =
                                                                  V.fn (74 : Nat) [V.imp [i6 (↑(N + (1 : Nat)) : Int)]] →
                                                                [sl c] = [i6 (↑(N + (1 : Nat)) : Int), i6 (0 : Int)] →
                                                                  ofOs T.e (0 : Nat) [] = ofOs T.e (0 : Nat) [] →
                                                                    (0 : Nat) = (0 : Nat) →
                                                                      CR.mk (V.tup [i6 (↑(N + (1 : Nat)) : Int), i6 (0 : Int)])
                                                                          (ofOs T.e (0 : Nat) []) (0 : Nat) [] =
                                                                        CR.mk (V.bool true) (ofOs T.e (0 : Nat) []) (0 : Nat)
                                                                          []) ∧
                                                              (V.fn (37 : Nat) [] =
                                                                    V.fn (74 : Nat) [V.imp [i6 (↑(N + (1 : Nat)) : Int)]] →
                                                                  [i6 (↑(N + (1 : Nat)) : Int)] =
                                                                      [i6 (↑(N + (1 : Nat)) : Int), i6 (0 : Int)] →
                                                                    ofOs T.e (0 : Nat) [] = ofOs T.e (0 : Nat) [] →
                                                                      (0 : Nat) = (0 : Nat) →
                                                                        CR.mk
                                                                            (V.fn (74 : Nat)
                                                                              [V.imp [i6 (↑(N + (1 : Nat)) : Int)]])
                                                                            (ofOs T.e (0 : Nat) []) (0 : Nat) [] =
                                                                          CR.mk (V.bool true) (ofOs T.e (0 : Nat) []) (0 : Nat)
                                                                            []) ∧
                                                                (V.fn (35 : Nat) [] =
                                                                      V.fn (74 : Nat) [V.imp [i6 (↑(N + (1 : Nat)) : Int)]] →
                                                                    [sl c] = [i6 (↑(N + (1 : Nat)) : Int), i6 (0 : Int)] →
                                                                      ofOs T.e (0 : Nat) [] = ofOs T.e (0 : Nat) [] →
                                                                        (0 : Nat) = (0 : Nat) →
                                                                          CR.mk (i6 (↑(N + (1 : Nat)) : Int))
                                                                              (ofOs T.e (0 : Nat) []) (0 : Nat) [] =
                                                                            CR.mk (V.bool true) (ofOs T.e (0 : Nat) [])
                                                                              (0 : Nat) []) ∧
                                                                  True) ∧
                                                            (True ∧ True) ∧
                                                              FnOk Try.prog T.e (39 : Nat) [V.int IntKind.i64 (2 : Int)]
                                                                  (V.fn (75 : Nat) [V.imp [i6 (2 : Int)]]) ∧
                                                                ((V.fn (74 : Nat) [V.imp [i6 (↑(N + (1 : Nat)) : Int)]] =
                                                                        V.fn (39 : Nat) [] →
                                                                      [i6 (↑(N + (1 : Nat)) : Int), i6 (0 : Int)] =
                                                                          [V.int IntKind.i64 (2 : Int)] →
                                                                        ofOs T.e (0 : Nat) [] = ofOs T.e (0 : Nat) [] →
                                                                          (0 : Nat) = (0 : Nat) →
                                                                            CR.mk (V.bool true) (ofOs T.e (0 : Nat) [])
                                                                                (0 : Nat) [] =
                                                                              CR.mk (V.fn (75 : Nat) [V.imp [i6 (2 : Int)]])
                                                                                (ofOs T.e (0 : Nat) []) (0 : Nat) []) ∧
                                                                    (V.fn (38 : Nat) [] = V.fn (39 : Nat) [] →
                                                                        [sl c] = [V.int IntKind.i64 (2 : Int)] →
                                                                          ofOs T.e (0 : Nat) [] = ofOs T.e (0 : Nat) [] →
                                                                            (0 : Nat) = (0 : Nat) →
                                                                              CR.mk
                                                                                  (V.tup
                                                                                    [i6 (↑(N + (1 : Nat)) : Int), i6 (0 : Int)])
                                                                                  (ofOs T.e (0 : Nat) []) (0 : Nat) [] =
                                                                                CR.mk (V.fn (75 : Nat) [V.imp [i6 (2 : Int)]])
                                                                                  (ofOs T.e (0 : Nat) []) (0 : Nat) []) ∧
                                                                      (V.fn (37 : Nat) [] = V.fn (39 : Nat) [] →
                                                                          [i6 (↑(N + (1 : Nat)) : Int)] =
                                                                              [V.int IntKind.i64 (2 : Int)] →
                                                                            ofOs T.e (0 : Nat) [] = ofOs T.e (0 : Nat) [] →
                                                                              (0 : Nat) = (0 : Nat) →
                                                                                CR.mk
                                                                                    (V.fn (74 : Nat)
                                                                                      [V.imp [i6 (↑(N + (1 : Nat)) : Int)]])
                                                                                    (ofOs T.e (0 : Nat) []) (0 : Nat) [] =
                                                                                  CR.mk (V.fn (75 : Nat) [V.imp [i6 (2 : Int)]])
                                                                                    (ofOs T.e (0 : Nat) []) (0 : Nat) []) ∧
                                                                        (V.fn (35 : Nat) [] = V.fn (39 : Nat) [] →
                                                                            [sl c] = [V.int IntKind.i64 (2 : Int)] →
                                                                              ofOs T.e (0 : Nat) [] = ofOs T.e (0 : Nat) [] →
                                                                                (0 : Nat) = (0 : Nat) →
                                                                                  CR.mk (i6 (↑(N + (1 : Nat)) : Int))
                                                                                      (ofOs T.e (0 : Nat) []) (0 : Nat) [] =
                                                                                    CR.mk
                                                                                      (V.fn (75 : Nat) [V.imp [i6 (2 : Int)]])
                                                                                      (ofOs T.e (0 : Nat) []) (0 : Nat) []) ∧
                                                                          True) ∧
                                                                  CallSpec Try.prog T.e (V.fn (47 : Nat) [])
                                                                      [sl (valL c (↑N : Int))] (ofOs T.e (0 : Nat) []) (0 : Nat)
                                                                      (CR.mk (V.sl (0 : Nat) (0 : Nat) (j + (1 : Nat)) none)
                                                                        (pt T.e (0 : Nat)
                                                                          (O.row (3 : Nat) (some (1 : Nat))
                                                                            (ints (valL c (↑N : Int)))))
                                                                        (1 : Nat) []) ∧
                                                                    ((V.fn (39 : Nat) [] = V.fn (47 : Nat) [] →
                                                                          [V.int IntKind.i64 (2 : Int)] =
                                                                              [sl (valL c (↑N : Int))] →
                                                                            ofOs T.e (0 : Nat) [] = ofOs T.e (0 : Nat) [] →
                                                                              (0 : Nat) = (0 : Nat) →
                                                                                CR.mk (V.fn (75 : Nat) [V.imp [i6 (2 : Int)]])
                                                                                    (ofOs T.e (0 : Nat) []) (0 : Nat) [] =
                                                                                  CR.mk
                                                                                    (V.sl (0 : Nat) (0 : Nat) (j + (1 : Nat))
                                                                                      none)
                                                                                    (pt T.e (0 : Nat)
                                                                                      (O.row (3 : Nat) (some (1 : Nat))
                                                                                        (ints (valL c (↑N : Int)))))
                                                                                    (1 : Nat) []) ∧
                                                                        (V.fn (74 : Nat) [V.imp [i6 (↑(N + (1 : Nat)) : Int)]] =
                                                                              V.fn (47 : Nat) [] →
                                                                            [i6 (↑(N + (1 : Nat)) : Int), i6 (0 : Int)] =
                                                                                [sl (valL c (↑N : Int))] →
                                                                              ofOs T.e (0 : Nat) [] = ofOs T.e (0 : Nat) [] →
                                                                                (0 : Nat) = (0 : Nat) →
                                                                                  CR.mk (V.bool true) (ofOs T.e (0 : Nat) [])
                                                                                      (0 : Nat) [] =
                                                                                    CR.mk
                                                                                      (V.sl (0 : Nat) (0 : Nat) (j + (1 : Nat))
                                                                                        none)
                                                                                      (pt T.e (0 : Nat)
                                                                                        (O.row (3 : Nat) (some (1 : Nat))
                                                                                          (ints (valL c (↑N : Int)))))
                                                                                      (1 : Nat) []) ∧
                                                                          (V.fn (38 : Nat) [] = V.fn (47 : Nat) [] →
                                                                              [sl c] = [sl (valL c (↑N : Int))] →
                                                                                ofOs T.e (0 : Nat) [] = ofOs T.e (0 : Nat) [] →
                                                                                  (0 : Nat) = (0 : Nat) →
                                                                                    CR.mk
                                                                                        (V.tup
                                                                                          [i6 (↑(N + (1 : Nat)) : Int),
                                                                                            i6 (0 : Int)])
                                                                                        (ofOs T.e (0 : Nat) []) (0 : Nat) [] =
                                                                                      CR.mk
                                                                                        (V.sl (0 : Nat) (0 : Nat)
                                                                                          (j + (1 : Nat)) none)
                                                                                        (pt T.e (0 : Nat)
                                                                                          (O.row (3 : Nat) (some (1 : Nat))
                                                                                            (ints (valL c (↑N : Int)))))
                                                                                        (1 : Nat) []) ∧
                                                                            (V.fn (37 : Nat) [] = V.fn (47 : Nat) [] →
                                                                                [i6 (↑(N + (1 : Nat)) : Int)] =
                                                                                    [sl (valL c (↑N : Int))] →
                                                                                  ofOs T.e (0 : Nat) [] =
                                                                                      ofOs T.e (0 : Nat) [] →
                                                                                    (0 : Nat) = (0 : Nat) →
                                                                                      CR.mk
                                                                                          (V.fn (74 : Nat)
                                                                                            [V.imp
                                                                                                [i6 (↑(N + (1 : Nat)) : Int)]])
                                                                                          (ofOs T.e (0 : Nat) []) (0 : Nat) [] =
                                                                                        CR.mk
                                                                                          (V.sl (0 : Nat) (0 : Nat)
                                                                                            (j + (1 : Nat)) none)
                                                                                          (pt T.e (0 : Nat)
                                                                                            (O.row (3 : Nat) (some (1 : Nat))
                                                                                              (ints (valL c (↑N : Int)))))
                                                                                          (1 : Nat) []) ∧
                                                                              (V.fn (35 : Nat) [] = V.fn (47 : Nat) [] →
                                                                                  [sl c] = [sl (valL c (↑N : Int))] →
                                                                                    ofOs T.e (0 : Nat) [] =
                                                                                        ofOs T.e (0 : Nat) [] →
                                                                                      (0 : Nat) = (0 : Nat) →
                                                                                        CR.mk (i6 (↑(N + (1 : Nat)) : Int))
                                                                                            (ofOs T.e (0 : Nat) []) (0 : Nat)
                                                                                            [] =
                                                                                          CR.mk
                                                                                            (V.sl (0 : Nat) (0 : Nat)
                                                                                              (j + (1 : Nat)) none)
                                                                                            (pt T.e (0 : Nat)
                                                                                              (O.row (3 : Nat) (some (1 : Nat))
                                                                                                (ints (valL c (↑N : Int)))))
                                                                                            (1 : Nat) []) ∧
                                                                                True) ∧
                                                                      List.length (ints (valL c (↑N : Int))) =
                                                                          (j + (1 : Nat)) * (1 : Nat) ∧
                                                                        j + (1 : Nat) + (1 : Nat) ≤
                                                                            (9223372036854775807 : Nat) ∧
                                                                          (j + (1 : Nat) + (1 : Nat)) * (8 : Nat) ≤
                                                                              (140737488355328 : Nat) ∧
                                                                            (True ∧
                                                                                HfL
                                                                                    (ints (valL c (↑N : Int)) ++
                                                                                      V.int IntKind.i64 (0 : Int) ::
                                                                                        List.take._f Nat.zero PUnit.unit
                                                                                          (List.append._f [] PUnit.unit
                                                                                            (rep._f Nat.zero PUnit.unit
                                                                                              [V.int IntKind.i64 (0 : Int)]))) ∧
                                                                                  True) ∧
                                                                              FnOk Try.prog T.e (41 : Nat)
                                                                                  [V.im (List.length c) (ints c),
                                                                                    V.im (j + (1 : Nat) + (1 : Nat))
                                                                                      (ints (valL c (↑N : Int)) ++
                                                                                        V.int IntKind.i64 (0 : Int) ::
                                                                                          List.take._f Nat.zero PUnit.unit
                                                                                            (List.append._f [] PUnit.unit
                                                                                              (rep._f Nat.zero PUnit.unit
                                                                                                [V.int IntKind.i64
                                                                                                    (0 : Int)])))]
                                                                                  (V.tup [i6 (0 : Int), i6 (2 : Int)]) ∧
                                                                                ((V.fn (47 : Nat) [] = V.fn (41 : Nat) [] →
                                                                                      [sl (valL c (↑N : Int))] =
                                                                                          [sl c,
                                                                                            V.sl ((1 : Nat) + (1 : Nat))
                                                                                              (0 : Nat)
                                                                                              (j + (1 : Nat) + (1 : Nat))
                                                                                              none] →
                                                                                        ofOs T.e (0 : Nat) [] =
                                                                                            pt
                                                                                              (pt
                                                                                                (pt
                                                                                                  (pt T.e (0 : Nat)
                                                                                                    (O.row (3 : Nat)
                                                                                                      (some (1 : Nat))
                                                                                                      (ints
                                                                                                        (valL c (↑N : Int)))))
                                                                                                  (1 : Nat)
                                                                                                  (O.row (3 : Nat) none
                                                                                                    (V.int IntKind.i64
                                                                                                        (0 : Int) ::
                                                                                                      List.append._f []
                                                                                                        PUnit.unit
                                                                                                        (rep._f Nat.zero
                                                                                                          PUnit.unit
                                                                                                          [V.int IntKind.i64
                                                                                                              (0 : Int)]))))
                                                                                                (0 : Nat) O.dead)
                                                                                              ((1 : Nat) + (1 : Nat))
                                                                                              (O.row (3 : Nat) (some (1 : Nat))
                                                                                                (ints (valL c (↑N : Int)) ++
                                                                                                  V.int IntKind.i64 (0 : Int) ::
                                                                                                    List.take._f Nat.zero
                                                                                                      PUnit.unit
                                                                                                      (List.append._f []
                                                                                                        PUnit.unit
                                                                                                        (rep._f Nat.zero
                                                                                                          PUnit.unit
                                                                                                          [V.int IntKind.i64
                                                                                                              (0 : Int)])))) →
                                                                                          (0 : Nat) =
                                                                                              (1 : Nat) + (1 : Nat) +
                                                                                                (1 : Nat) →
                                                                                            CR.mk
                                                                                                (V.sl (0 : Nat) (0 : Nat)
                                                                                                  (j + (1 : Nat)) none)
                                                                                                (pt T.e (0 : Nat)
                                                                                                  (O.row (3 : Nat)
                                                                                                    (some (1 : Nat))
                                                                                                    (ints (valL c (↑N : Int)))))
                                                                                                (1 : Nat) [] =
                                                                                              CR.mk
                                                                                                (V.tup
                                                                                                  [i6 (0 : Int), i6 (2 : Int)])
                                                                                                (pt
                                                                                                  (pt
                                                                                                    (pt
                                                                                                      (pt T.e (0 : Nat)
                                                                                                        (O.row (3 : Nat)
                                                                                                          (some (1 : Nat))
                                                                                                          (ints
                                                                                                            (valL c
                                                                                                              (↑N : Int)))))
                                                                                                      (1 : Nat)
                                                                                                      (O.row (3 : Nat) none
                                                                                                        (V.int IntKind.i64
                                                                                                            (0 : Int) ::
                                                                                                          List.append._f []
                                                                                                            PUnit.unit
                                                                                                            (rep._f Nat.zero
                                                                                                              PUnit.unit
                                                                                                              [V.int IntKind.i64
                                                                                                                  (0 : Int)]))))
                                                                                                    (0 : Nat) O.dead)
                                                                                                  ((1 : Nat) + (1 : Nat))
                                                                                                  (O.row (3 : Nat)
                                                                                                    (some (1 : Nat))
                                                                                                    (ints (valL c (↑N : Int)) ++
                                                                                                      V.int IntKind.i64
                                                                                                          (0 : Int) ::
                                                                                                        List.take._f Nat.zero
                                                                                                          PUnit.unit
                                                                                                          (List.append._f []
                                                                                                            PUnit.unit
                                                                                                            (rep._f Nat.zero
                                                                                                              PUnit.unit
                                                                                                              [V.int IntKind.i64
                                                                                                                  (0 :
                                                                                                                    Int)])))))
                                                                                                ((1 : Nat) + (1 : Nat) +
                                                                                                  (1 : Nat))
                                                                                                []) ∧
                                                                                    (V.fn (39 : Nat) [] = V.fn (41 : Nat) [] →
                                                                                        [V.int IntKind.i64 (2 : Int)] =
                                                                                            [sl c,
                                                                                              V.sl ((1 : Nat) + (1 : Nat))
                                                                                                (0 : Nat)
                                                                                                (j + (1 : Nat) + (1 : Nat))
                                                                                                none] →
                                                                                          ofOs T.e (0 : Nat) [] =
                                                                                              pt
                                                                                                (pt
                                                                                                  (pt
                                                                                                    (pt T.e (0 : Nat)
                                                                                                      (O.row (3 : Nat)
                                                                                                        (some (1 : Nat))
                                                                                                        (ints
                                                                                                          (valL c (↑N : Int)))))
                                                                                                    (1 : Nat)
                                                                                                    (O.row (3 : Nat) none
                                                                                                      (V.int IntKind.i64
                                                                                                          (0 : Int) ::
                                                                                                        List.append._f []
                                                                                                          PUnit.unit
                                                                                                          (rep._f Nat.zero
                                                                                                            PUnit.unit
                                                                                                            [V.int IntKind.i64
                                                                                                                (0 : Int)]))))
                                                                                                  (0 : Nat) O.dead)
                                                                                                ((1 : Nat) + (1 : Nat))
                                                                                                (O.row (3 : Nat)
                                                                                                  (some (1 : Nat))
                                                                                                  (ints (valL c (↑N : Int)) ++
                                                                                                    V.int IntKind.i64
                                                                                                        (0 : Int) ::
                                                                                                      List.take._f Nat.zero
                                                                                                        PUnit.unit
                                                                                                        (List.append._f []
                                                                                                          PUnit.unit
                                                                                                          (rep._f Nat.zero
                                                                                                            PUnit.unit
                                                                                                            [V.int IntKind.i64
                                                                                                                (0 : Int)])))) →
                                                                                            (0 : Nat) =
                                                                                                (1 : Nat) + (1 : Nat) +
                                                                                                  (1 : Nat) →
                                                                                              CR.mk
                                                                                                  (V.fn (75 : Nat)
                                                                                                    [V.imp [i6 (2 : Int)]])
                                                                                                  (ofOs T.e (0 : Nat) [])
                                                                                                  (0 : Nat) [] =
                                                                                                CR.mk
                                                                                                  (V.tup
                                                                                                    [i6 (0 : Int),
                                                                                                      i6 (2 : Int)])
                                                                                                  (pt
                                                                                                    (pt
                                                                                                      (pt
                                                                                                        (pt T.e (0 : Nat)
                                                                                                          (O.row (3 : Nat)
                                                                                                            (some (1 : Nat))
                                                                                                            (ints
                                                                                                              (valL c
                                                                                                                (↑N : Int)))))
                                                                                                        (1 : Nat)
                                                                                                        (O.row (3 : Nat) none
                                                                                                          (V.int IntKind.i64
                                                                                                              (0 : Int) ::
                                                                                                            List.append._f []
                                                                                                              PUnit.unit
                                                                                                              (rep._f Nat.zero
                                                                                                                PUnit.unit
                                                                                                                [V.int
                                                                                                                    IntKind.i64
                                                                                                                    (0 :
                                                                                                                      Int)]))))
                                                                                                      (0 : Nat) O.dead)
                                                                                                    ((1 : Nat) + (1 : Nat))
                                                                                                    (O.row (3 : Nat)
                                                                                                      (some (1 : Nat))
                                                                                                      (ints
                                                                                                          (valL c (↑N : Int)) ++
                                                                                                        V.int IntKind.i64
                                                                                                            (0 : Int) ::
                                                                                                          List.take._f Nat.zero
                                                                                                            PUnit.unit
                                                                                                            (List.append._f []
                                                                                                              PUnit.unit
                                                                                                              (rep._f Nat.zero
                                                                                                                PUnit.unit
                                                                                                                [V.int
                                                                                                                    IntKind.i64
                                                                                                                    (0 :
                                                                                                                      Int)])))))
                                                                                                  ((1 : Nat) + (1 : Nat) +
                                                                                                    (1 : Nat))
                                                                                                  []) ∧
                                                                                      (V.fn (74 : Nat)
                                                                                              [V.imp
                                                                                                  [i6
                                                                                                      (↑(N + (1 : Nat)) :
                                                                                                        Int)]] =
                                                                                            V.fn (41 : Nat) [] →
                                                                                          [i6 (↑(N + (1 : Nat)) : Int),
                                                                                                i6 (0 : Int)] =
                                                                                              [sl c,
                                                                                                V.sl ((1 : Nat) + (1 : Nat))
                                                                                                  (0 : Nat)
                                                                                                  (j + (1 : Nat) + (1 : Nat))
                                                                                                  none] →
                                                                                            ofOs T.e (0 : Nat) [] =
                                                                                                pt
                                                                                                  (pt
                                                                                                    (pt
                                                                                                      (pt T.e (0 : Nat)
                                                                                                        (O.row (3 : Nat)
                                                                                                          (some (1 : Nat))
                                                                                                          (ints
                                                                                                            (valL c
                                                                                                              (↑N : Int)))))
                                                                                                      (1 : Nat)
                                                                                                      (O.row (3 : Nat) none
                                                                                                        (V.int IntKind.i64
                                                                                                            (0 : Int) ::
                                                                                                          List.append._f []
                                                                                                            PUnit.unit
                                                                                                            (rep._f Nat.zero
                                                                                                              PUnit.unit
                                                                                                              [V.int IntKind.i64
                                                                                                                  (0 : Int)]))))
                                                                                                    (0 : Nat) O.dead)
                                                                                                  ((1 : Nat) + (1 : Nat))
                                                                                                  (O.row (3 : Nat)
                                                                                                    (some (1 : Nat))
                                                                                                    (ints (valL c (↑N : Int)) ++
                                                                                                      V.int IntKind.i64
                                                                                                          (0 : Int) ::
                                                                                                        List.take._f Nat.zero
                                                                                                          PUnit.unit
                                                                                                          (List.append._f []
                                                                                                            PUnit.unit
                                                                                                            (rep._f Nat.zero
                                                                                                              PUnit.unit
                                                                                                              [V.int IntKind.i64
                                                                                                                  (0 :
                                                                                                                    Int)])))) →
                                                                                              (0 : Nat) =
                                                                                                  (1 : Nat) + (1 : Nat) +
                                                                                                    (1 : Nat) →
                                                                                                CR.mk (V.bool true)
                                                                                                    (ofOs T.e (0 : Nat) [])
                                                                                                    (0 : Nat) [] =
                                                                                                  CR.mk
                                                                                                    (V.tup
                                                                                                      [i6 (0 : Int),
                                                                                                        i6 (2 : Int)])
                                                                                                    (pt
                                                                                                      (pt
                                                                                                        (pt
                                                                                                          (pt T.e (0 : Nat)
                                                                                                            (O.row (3 : Nat)
                                                                                                              (some (1 : Nat))
                                                                                                              (ints
                                                                                                                (valL c
                                                                                                                  (↑N : Int)))))
                                                                                                          (1 : Nat)
                                                                                                          (O.row (3 : Nat) none
                                                                                                            (V.int IntKind.i64
                                                                                                                (0 : Int) ::
                                                                                                              List.append._f []
                                                                                                                PUnit.unit
                                                                                                                (rep._f Nat.zero
                                                                                                                  PUnit.unit
                                                                                                                  [V.int
                                                                                                                      IntKind.i64
                                                                                                                      (0 :
                                                                                                                        Int)]))))
                                                                                                        (0 : Nat) O.dead)
                                                                                                      ((1 : Nat) + (1 : Nat))
                                                                                                      (O.row (3 : Nat)
                                                                                                        (some (1 : Nat))
                                                                                                        (ints
                                                                                                            (valL c
                                                                                                              (↑N : Int)) ++
                                                                                                          V.int IntKind.i64
                                                                                                              (0 : Int) ::
                                                                                                            List.take._f
                                                                                                              Nat.zero
                                                                                                              PUnit.unit
                                                                                                              (List.append._f []
                                                                                                                PUnit.unit
                                                                                                                (rep._f Nat.zero
                                                                                                                  PUnit.unit
                                                                                                                  [V.int
                                                                                                                      IntKind.i64
                                                                                                                      (0 :
                                                                                                                        Int)])))))
                                                                                                    ((1 : Nat) + (1 : Nat) +
                                                                                                      (1 : Nat))
                                                                                                    []) ∧
                                                                                        (V.fn (38 : Nat) [] =
                                                                                              V.fn (41 : Nat) [] →
                                                                                            [sl c] =
                                                                                                [sl c,
                                                                                                  V.sl ((1 : Nat) + (1 : Nat))
                                                                                                    (0 : Nat)
                                                                                                    (j + (1 : Nat) + (1 : Nat))
                                                                                                    none] →
                                                                                              ofOs T.e (0 : Nat) [] =
                                                                                                  pt
                                                                                                    (pt
                                                                                                      (pt
                                                                                                        (pt T.e (0 : Nat)
                                                                                                          (O.row (3 : Nat)
                                                                                                            (some (1 : Nat))
                                                                                                            (ints
                                                                                                              (valL c
                                                                                                                (↑N : Int)))))
                                                                                                        (1 : Nat)
                                                                                                        (O.row (3 : Nat) none
                                                                                                          (V.int IntKind.i64
                                                                                                              (0 : Int) ::
                                                                                                            List.append._f []
                                                                                                              PUnit.unit
                                                                                                              (rep._f Nat.zero
                                                                                                                PUnit.unit
                                                                                                                [V.int
                                                                                                                    IntKind.i64
                                                                                                                    (0 :
                                                                                                                      Int)]))))
                                                                                                      (0 : Nat) O.dead)
                                                                                                    ((1 : Nat) + (1 : Nat))
                                                                                                    (O.row (3 : Nat)
                                                                                                      (some (1 : Nat))
                                                                                                      (ints
                                                                                                          (valL c (↑N : Int)) ++
                                                                                                        V.int IntKind.i64
                                                                                                            (0 : Int) ::
                                                                                                          List.take._f Nat.zero
                                                                                                            PUnit.unit
                                                                                                            (List.append._f []
                                                                                                              PUnit.unit
                                                                                                              (rep._f Nat.zero
                                                                                                                PUnit.unit
                                                                                                                [V.int
                                                                                                                    IntKind.i64
                                                                                                                    (0 :
                                                                                                                      Int)])))) →
                                                                                                (0 : Nat) =
                                                                                                    (1 : Nat) + (1 : Nat) +
                                                                                                      (1 : Nat) →
                                                                                                  CR.mk
                                                                                                      (V.tup
                                                                                                        [i6
                                                                                                            (↑(N + (1 : Nat)) :
                                                                                                              Int),
                                                                                                          i6 (0 : Int)])
                                                                                                      (ofOs T.e (0 : Nat) [])
                                                                                                      (0 : Nat) [] =
                                                                                                    CR.mk
                                                                                                      (V.tup
                                                                                                        [i6 (0 : Int),
                                                                                                          i6 (2 : Int)])
                                                                                                      (pt
                                                                                                        (pt
                                                                                                          (pt
                                                                                                            (pt T.e (0 : Nat)
                                                                                                              (O.row (3 : Nat)
                                                                                                                (some (1 : Nat))
                                                                                                                (ints
                                                                                                                  (valL c
                                                                                                                    (↑N :
                                                                                                                      Int)))))
                                                                                                            (1 : Nat)
                                                                                                            (O.row (3 : Nat)
                                                                                                              none
                                                                                                              (V.int IntKind.i64
                                                                                                                  (0 : Int) ::
                                                                                                                List.append._f
                                                                                                                  [] PUnit.unit
                                                                                                                  (rep._f
                                                                                                                    Nat.zero
                                                                                                                    PUnit.unit
                                                                                                                    [V.int
                                                                                                                        IntKind.i64
                                                                                                                        (0 :
                                                                                                                          Int)]))))
                                                                                                          (0 : Nat) O.dead)
                                                                                                        ((1 : Nat) + (1 : Nat))
                                                                                                        (O.row (3 : Nat)
                                                                                                          (some (1 : Nat))
                                                                                                          (ints
                                                                                                              (valL c
                                                                                                                (↑N : Int)) ++
                                                                                                            V.int IntKind.i64
                                                                                                                (0 : Int) ::
                                                                                                              List.take._f
                                                                                                                Nat.zero
                                                                                                                PUnit.unit
                                                                                                                (List.append._f
                                                                                                                  [] PUnit.unit
                                                                                                                  (rep._f
                                                                                                                    Nat.zero
                                                                                                                    PUnit.unit
                                                                                                                    [V.int
                                                                                                                        IntKind.i64
                                                                                                                        (0 :
                                                                                                                          Int)])))))
                                                                                                      ((1 : Nat) + (1 : Nat) +
                                                                                                        (1 : Nat))
                                                                                                      []) ∧
                                                                                          (V.fn (37 : Nat) [] =
                                                                                                V.fn (41 : Nat) [] →
                                                                                              [i6 (↑(N + (1 : Nat)) : Int)] =
                                                                                                  [sl c,
                                                                                                    V.sl ((1 : Nat) + (1 : Nat))
                                                                                                      (0 : Nat)
                                                                                                      (j + (1 : Nat) +
                                                                                                        (1 : Nat))
                                                                                                      none] →
                                                                                                ofOs T.e (0 : Nat) [] =
                                                                                                    pt
                                                                                                      (pt
                                                                                                        (pt
                                                                                                          (pt T.e (0 : Nat)
                                                                                                            (O.row (3 : Nat)
                                                                                                              (some (1 : Nat))
                                                                                                              (ints
                                                                                                                (valL c
                                                                                                                  (↑N : Int)))))
                                                                                                          (1 : Nat)
                                                                                                          (O.row (3 : Nat) none
                                                                                                            (V.int IntKind.i64
                                                                                                                (0 : Int) ::
                                                                                                              List.append._f []
                                                                                                                PUnit.unit
                                                                                                                (rep._f Nat.zero
                                                                                                                  PUnit.unit
                                                                                                                  [V.int
                                                                                                                      IntKind.i64
                                                                                                                      (0 :
                                                                                                                        Int)]))))
                                                                                                        (0 : Nat) O.dead)
                                                                                                      ((1 : Nat) + (1 : Nat))
                                                                                                      (O.row (3 : Nat)
                                                                                                        (some (1 : Nat))
                                                                                                        (ints
                                                                                                            (valL c
                                                                                                              (↑N : Int)) ++
                                                                                                          V.int IntKind.i64
                                                                                                              (0 : Int) ::
                                                                                                            List.take._f
                                                                                                              Nat.zero
                                                                                                              PUnit.unit
                                                                                                              (List.append._f []
                                                                                                                PUnit.unit
                                                                                                                (rep._f Nat.zero
                                                                                                                  PUnit.unit
                                                                                                                  [V.int
                                                                                                                      IntKind.i64
                                                                                                                      (0 :
                                                                                                                        Int)])))) →
                                                                                                  (0 : Nat) =
                                                                                                      (1 : Nat) + (1 : Nat) +
                                                                                                        (1 : Nat) →
                                                                                                    CR.mk
                                                                                                        (V.fn (74 : Nat)
                                                                                                          [V.imp
                                                                                                              [i6
                                                                                                                  (↑(N +
                                                                                                                        (1 :
                                                                                                                          Nat)) :
                                                                                                                    Int)]])
                                                                                                        (ofOs T.e (0 : Nat) [])
                                                                                                        (0 : Nat) [] =
                                                                                                      CR.mk
                                                                                                        (V.tup
                                                                                                          [i6 (0 : Int),
                                                                                                            i6 (2 : Int)])
                                                                                                        (pt
                                                                                                          (pt
                                                                                                            (pt
                                                                                                              (pt T.e (0 : Nat)
                                                                                                                (O.row (3 : Nat)
                                                                                                                  (some
                                                                                                                    (1 : Nat))
                                                                                                                  (ints
                                                                                                                    (valL c
                                                                                                                      (↑N :
                                                                                                                        Int)))))
                                                                                                              (1 : Nat)
                                                                                                              (O.row (3 : Nat)
                                                                                                                none
                                                                                                                (V.int
                                                                                                                    IntKind.i64
                                                                                                                    (0 : Int) ::
                                                                                                                  List.append._f
                                                                                                                    []
                                                                                                                    PUnit.unit
                                                                                                                    (rep._f
                                                                                                                      Nat.zero
                                                                                                                      PUnit.unit
                                                                                                                      [V.int
                                                                                                                          IntKind.i64
                                                                                                                          (0 :
                                                                                                                            Int)]))))
                                                                                                            (0 : Nat) O.dead)
                                                                                                          ((1 : Nat) +
                                                                                                            (1 : Nat))
                                                                                                          (O.row (3 : Nat)
                                                                                                            (some (1 : Nat))
                                                                                                            (ints
                                                                                                                (valL c
                                                                                                                  (↑N : Int)) ++
                                                                                                              V.int IntKind.i64
                                                                                                                  (0 : Int) ::
                                                                                                                List.take._f
                                                                                                                  Nat.zero
                                                                                                                  PUnit.unit
                                                                                                                  (List.append._f
                                                                                                                    []
                                                                                                                    PUnit.unit
                                                                                                                    (rep._f
                                                                                                                      Nat.zero
                                                                                                                      PUnit.unit
                                                                                                                      [V.int
                                                                                                                          IntKind.i64
                                                                                                                          (0 :
                                                                                                                            Int)])))))
                                                                                                        ((1 : Nat) + (1 : Nat) +
                                                                                                          (1 : Nat))
                                                                                                        []) ∧
                                                                                            (V.fn (35 : Nat) [] =
                                                                                                  V.fn (41 : Nat) [] →
                                                                                                [sl c] =
                                                                                                    [sl c,
                                                                                                      V.sl
                                                                                                        ((1 : Nat) + (1 : Nat))
                                                                                                        (0 : Nat)
                                                                                                        (j + (1 : Nat) +
                                                                                                          (1 : Nat))
                                                                                                        none] →
                                                                                                  ofOs T.e (0 : Nat) [] =
                                                                                                      pt
                                                                                                        (pt
                                                                                                          (pt
                                                                                                            (pt T.e (0 : Nat)
                                                                                                              (O.row (3 : Nat)
                                                                                                                (some (1 : Nat))
                                                                                                                (ints
                                                                                                                  (valL c
                                                                                                                    (↑N :
                                                                                                                      Int)))))
                                                                                                            (1 : Nat)
                                                                                                            (O.row (3 : Nat)
                                                                                                              none
                                                                                                              (V.int IntKind.i64
                                                                                                                  (0 : Int) ::
                                                                                                                List.append._f
                                                                                                                  [] PUnit.unit
                                                                                                                  (rep._f
                                                                                                                    Nat.zero
                                                                                                                    PUnit.unit
                                                                                                                    [V.int
                                                                                                                        IntKind.i64
                                                                                                                        (0 :
                                                                                                                          Int)]))))
                                                                                                          (0 : Nat) O.dead)
                                                                                                        ((1 : Nat) + (1 : Nat))
                                                                                                        (O.row (3 : Nat)
                                                                                                          (some (1 : Nat))
                                                                                                          (ints
                                                                                                              (valL c
                                                                                                                (↑N : Int)) ++
                                                                                                            V.int IntKind.i64
                                                                                                                (0 : Int) ::
                                                                                                              List.take._f
                                                                                                                Nat.zero
                                                                                                                PUnit.unit
                                                                                                                (List.append._f
                                                                                                                  [] PUnit.unit
                                                                                                                  (rep._f
                                                                                                                    Nat.zero
                                                                                                                    PUnit.unit
                                                                                                                    [V.int
                                                                                                                        IntKind.i64
                                                                                                                        (0 :
                                                                                                                          Int)])))) →
                                                                                                    (0 : Nat) =
                                                                                                        (1 : Nat) + (1 : Nat) +
                                                                                                          (1 : Nat) →
                                                                                                      CR.mk
                                                                                                          (i6
                                                                                                            (↑(N + (1 : Nat)) :
                                                                                                              Int))
                                                                                                          (ofOs T.e (0 : Nat)
                                                                                                            [])
                                                                                                          (0 : Nat) [] =
                                                                                                        CR.mk
                                                                                                          (V.tup
                                                                                                            [i6 (0 : Int),
                                                                                                              i6 (2 : Int)])
                                                                                                          (pt
                                                                                                            (pt
                                                                                                              (pt
                                                                                                                (pt T.e
                                                                                                                  (0 : Nat)
                                                                                                                  (O.row
                                                                                                                    (3 : Nat)
                                                                                                                    (some
                                                                                                                      (1 : Nat))
                                                                                                                    (ints
                                                                                                                      (valL c
                                                                                                                        (↑N :
                                                                                                                          Int)))))
                                                                                                                (1 : Nat)
                                                                                                                (O.row (3 : Nat)
                                                                                                                  none
                                                                                                                  (V.int
                                                                                                                      IntKind.i64
                                                                                                                      (0 :
                                                                                                                        Int) ::
                                                                                                                    List.append._f
                                                                                                                      []
                                                                                                                      PUnit.unit
                                                                                                                      (rep._f
                                                                                                                        Nat.zero
                                                                                                                        PUnit.unit
                                                                                                                        [V.int
                                                                                                                            IntKind.i64
                                                                                                                            (0 :
                                                                                                                              Int)]))))
                                                                                                              (0 : Nat) O.dead)
                                                                                                            ((1 : Nat) +
                                                                                                              (1 : Nat))
                                                                                                            (O.row (3 : Nat)
                                                                                                              (some (1 : Nat))
                                                                                                              (ints
                                                                                                                  (valL c
                                                                                                                    (↑N :
                                                                                                                      Int)) ++
                                                                                                                V.int
                                                                                                                    IntKind.i64
                                                                                                                    (0 : Int) ::
                                                                                                                  List.take._f
                                                                                                                    Nat.zero
                                                                                                                    PUnit.unit
                                                                                                                    (List.append._f
                                                                                                                      []
                                                                                                                      PUnit.unit
                                                                                                                      (rep._f
                                                                                                                        Nat.zero
                                                                                                                        PUnit.unit
                                                                                                                        [V.int
                                                                                                                            IntKind.i64
                                                                                                                            (0 :
                                                                                                                              Int)])))))
                                                                                                          ((1 : Nat) +
                                                                                                              (1 : Nat) +
                                                                                                            (1 : Nat))
                                                                                                          []) ∧
                                                                                              True) ∧
                                                                                  (True ∧ True ∧ True ∧ True) ∧
                                                                                    FnOk Try.prog T.e (75 : Nat)
                                                                                        [V.int IntKind.i64 (0 : Int),
                                                                                          V.int IntKind.i64 (2 : Int),
                                                                                          V.imp [i6 (2 : Int)]]
                                                                                        (V.bool true) ∧
                                                                                      ((V.fn (41 : Nat) [] =
                                                                                              V.fn (75 : Nat)
                                                                                                [V.imp [i6 (2 : Int)]] →
                                                                                            [sl c,
                                                                                                  V.sl ((1 : Nat) + (1 : Nat))
                                                                                                    (0 : Nat)
                                                                                                    (j + (1 : Nat) + (1 : Nat))
                                                                                                    none] =
                                                                                                [i6 (0 : Int), i6 (2 : Int)] →
                                                                                              pt
                                                                                                    (pt
                                                                                                      (pt
                                                                                                        (pt T.e (0 : Nat)
                                                                                                          (O.row (3 : Nat)
                                                                                                            (some (1 : Nat))
                                                                                                            (ints
                                                                                                              (valL c
                                                                                                                (↑N : Int)))))
                                                                                                        (1 : Nat)
                                                                                                        (O.row (3 : Nat) none
                                                                                                          (V.int IntKind.i64
                                                                                                              (0 : Int) ::
                                                                                                            List.append._f []
                                                                                                              PUnit.unit
                                                                                                              (rep._f Nat.zero
                                                                                                                PUnit.unit
                                                                                                                [V.int
                                                                                                                    IntKind.i64
                                                                                                                    (0 :
                                                                                                                      Int)]))))
                                                                                                      (0 : Nat) O.dead)
                                                                                                    ((1 : Nat) + (1 : Nat))
                                                                                                    (O.row (3 : Nat)
                                                                                                      (some (1 : Nat))
                                                                                                      (ints
                                                                                                          (valL c (↑N : Int)) ++
                                                                                                        V.int IntKind.i64
                                                                                                            (0 : Int) ::
                                                                                                          List.take._f Nat.zero
                                                                                                            PUnit.unit
                                                                                                            (List.append._f []
                                                                                                              PUnit.unit
                                                                                                              (rep._f Nat.zero
                                                                                                                PUnit.unit
                                                                                                                [V.int
                                                                                                                    IntKind.i64
                                                                                                                    (0 :
                                                                                                                      Int)])))) =
                                                                                                  pt
                                                                                                    (pt
                                                                                                      (pt
                                                                                                        (pt T.e (0 : Nat)
                                                                                                          (O.row (3 : Nat)
                                                                                                            (some (1 : Nat))
                                                                                                            (ints
                                                                                                              (valL c
                                                                                                                (↑N : Int)))))
                                                                                                        (1 : Nat)
                                                                                                        (O.row (3 : Nat) none
                                                                                                          (V.int IntKind.i64
                                                                                                              (0 : Int) ::
                                                                                                            List.append._f []
                                                                                                              PUnit.unit
                                                                                                              (rep._f Nat.zero
                                                                                                                PUnit.unit
                                                                                                                [V.int
                                                                                                                    IntKind.i64
                                                                                                                    (0 :
                                                                                                                      Int)]))))
                                                                                                      (0 : Nat) O.dead)
                                                                                                    ((1 : Nat) + (1 : Nat))
                                                                                                    (O.row (3 : Nat)
                                                                                                      (some (1 : Nat))
                                                                                                      (ints
                                                                                                          (valL c (↑N : Int)) ++
                                                                                                        V.int IntKind.i64
                                                                                                            (0 : Int) ::
                                                                                                          List.take._f Nat.zero
                                                                                                            PUnit.unit
                                                                                                            (List.append._f []
                                                                                                              PUnit.unit
                                                                                                              (rep._f Nat.zero
                                                                                                                PUnit.unit
                                                                                                                [V.int
                                                                                                                    IntKind.i64
                                                                                                                    (0 :
                                                                                                                      Int)])))) →
                                                                                                (1 : Nat) + (1 : Nat) +
                                                                                                      (1 : Nat) =
                                                                                                    (1 : Nat) + (1 : Nat) +
                                                                                                      (1 : Nat) →
                                                                                                  CR.mk
                                                                                                      (V.tup
                                                                                                        [i6 (0 : Int),
                                                                                                          i6 (2 : Int)])
                                                                                                      (pt
                                                                                                        (pt
                                                                                                          (pt
                                                                                                            (pt T.e (0 : Nat)
                                                                                                              (O.row (3 : Nat)
                                                                                                                (some (1 : Nat))
                                                                                                                (ints
                                                                                                                  (valL c
                                                                                                                    (↑N :
                                                                                                                      Int)))))
                                                                                                            (1 : Nat)
                                                                                                            (O.row (3 : Nat)
                                                                                                              none
                                                                                                              (V.int IntKind.i64
                                                                                                                  (0 : Int) ::
                                                                                                                List.append._f
                                                                                                                  [] PUnit.unit
                                                                                                                  (rep._f
                                                                                                                    Nat.zero
                                                                                                                    PUnit.unit
                                                                                                                    [V.int
                                                                                                                        IntKind.i64
                                                                                                                        (0 :
                                                                                                                          Int)]))))
                                                                                                          (0 : Nat) O.dead)
                                                                                                        ((1 : Nat) + (1 : Nat))
                                                                                                        (O.row (3 : Nat)
                                                                                                          (some (1 : Nat))
                                                                                                          (ints
                                                                                                              (valL c
                                                                                                                (↑N : Int)) ++
                                                                                                            V.int IntKind.i64
                                                                                                                (0 : Int) ::
                                                                                                              List.take._f
                                                                                                                Nat.zero
                                                                                                                PUnit.unit
                                                                                                                (List.append._f
                                                                                                                  [] PUnit.unit
                                                                                                                  (rep._f
                                                                                                                    Nat.zero
                                                                                                                    PUnit.unit
                                                                                                                    [V.int
                                                                                                                        IntKind.i64
                                                                                                                        (0 :
                                                                                                                          Int)])))))
                                                                                                      ((1 : Nat) + (1 : Nat) +
                                                                                                        (1 : Nat))
                                                                                                      [] =
                                                                                                    CR.mk (V.bool true)
                                                                                                      (pt
                                                                                                        (pt
                                                                                                          (pt
                                                                                                            (pt T.e (0 : Nat)
                                                                                                              (O.row (3 : Nat)
                                                                                                                (some (1 : Nat))
                                                                                                                (ints
                                                                                                                  (valL c
                                                                                                                    (↑N :
                                                                                                                      Int)))))
                                                                                                            (1 : Nat)
                                                                                                            (O.row (3 : Nat)
                                                                                                              none
                                                                                                              (V.int IntKind.i64
                                                                                                                  (0 : Int) ::
                                                                                                                List.append._f
                                                                                                                  [] PUnit.unit
                                                                                                                  (rep._f
                                                                                                                    Nat.zero
                                                                                                                    PUnit.unit
                                                                                                                    [V.int
                                                                                                                        IntKind.i64
                                                                                                                        (0 :
                                                                                                                          Int)]))))
                                                                                                          (0 : Nat) O.dead)
                                                                                                        ((1 : Nat) + (1 : Nat))
                                                                                                        (O.row (3 : Nat)
                                                                                                          (some (1 : Nat))
                                                                                                          (ints
                                                                                                              (valL c
                                                                                                                (↑N : Int)) ++
                                                                                                            V.int IntKind.i64
                                                                                                                (0 : Int) ::
                                                                                                              List.take._f
                                                                                                                Nat.zero
                                                                                                                PUnit.unit
                                                                                                                (List.append._f
                                                                                                                  [] PUnit.unit
                                                                                                                  (rep._f
                                                                                                                    Nat.zero
                                                                                                                    PUnit.unit
                                                                                                                    [V.int
                                                                                                                        IntKind.i64
                                                                                                                        (0 :
                                                                                                                          Int)])))))
                                                                                                      ((1 : Nat) + (1 : Nat) +
                                                                                                        (1 : Nat))
                                                                                                      []) ∧
                                                                                          (V.fn (47 : Nat) [] =
                                                                                                V.fn (75 : Nat)
                                                                                                  [V.imp [i6 (2 : Int)]] →
                                                                                              [sl (valL c (↑N : Int))] =
                                                                                                  [i6 (0 : Int), i6 (2 : Int)] →
                                                                                                ofOs T.e (0 : Nat) [] =
                                                                                                    pt
                                                                                                      (pt
                                                                                                        (pt
                                                                                                          (pt T.e (0 : Nat)
                                                                                                            (O.row (3 : Nat)
                                                                                                              (some (1 : Nat))
                                                                                                              (ints
                                                                                                                (valL c
                                                                                                                  (↑N : Int)))))
                                                                                                          (1 : Nat)
                                                                                                          (O.row (3 : Nat) none
                                                                                                            (V.int IntKind.i64
                                                                                                                (0 : Int) ::
                                                                                                              List.append._f []
                                                                                                                PUnit.unit
                                                                                                                (rep._f Nat.zero
                                                                                                                  PUnit.unit
                                                                                                                  [V.int
                                                                                                                      IntKind.i64
                                                                                                                      (0 :
                                                                                                                        Int)]))))
                                                                                                        (0 : Nat) O.dead)
                                                                                                      ((1 : Nat) + (1 : Nat))
                                                                                                      (O.row (3 : Nat)
                                                                                                        (some (1 : Nat))
                                                                                                        (ints
                                                                                                            (valL c
                                                                                                              (↑N : Int)) ++
                                                                                                          V.int IntKind.i64
                                                                                                              (0 : Int) ::
                                                                                                            List.take._f
                                                                                                              Nat.zero
                                                                                                              PUnit.unit
                                                                                                              (List.append._f []
                                                                                                                PUnit.unit
                                                                                                                (rep._f Nat.zero
                                                                                                                  PUnit.unit
                                                                                                                  [V.int
                                                                                                                      IntKind.i64
                                                                                                                      (0 :
                                                                                                                        Int)])))) →
                                                                                                  (0 : Nat) =
                                                                                                      (1 : Nat) + (1 : Nat) +
                                                                                                        (1 : Nat) →
                                                                                                    CR.mk
                                                                                                        (V.sl (0 : Nat)
                                                                                                          (0 : Nat)
                                                                                                          (j + (1 : Nat)) none)
                                                                                                        (pt T.e (0 : Nat)
                                                                                                          (O.row (3 : Nat)
                                                                                                            (some (1 : Nat))
                                                                                                            (ints
                                                                                                              (valL c
                                                                                                                (↑N : Int)))))
                                                                                                        (1 : Nat) [] =
                                                                                                      CR.mk (V.bool true)
                                                                                                        (pt
                                                                                                          (pt
                                                                                                            (pt
                                                                                                              (pt T.e (0 : Nat)
                                                                                                                (O.row (3 : Nat)
                                                                                                                  (some
                                                                                                                    (1 : Nat))
                                                                                                                  (ints
                                                                                                                    (valL c
                                                                                                                      (↑N :
                                                                                                                        Int)))))
                                                                                                              (1 : Nat)
                                                                                                              (O.row (3 : Nat)
                                                                                                                none
                                                                                                                (V.int
                                                                                                                    IntKind.i64
                                                                                                                    (0 : Int) ::
                                                                                                                  List.append._f
                                                                                                                    []
                                                                                                                    PUnit.unit
                                                                                                                    (rep._f
                                                                                                                      Nat.zero
                                                                                                                      PUnit.unit
                                                                                                                      [V.int
                                                                                                                          IntKind.i64
                                                                                                                          (0 :
                                                                                                                            Int)]))))
                                                                                                            (0 : Nat) O.dead)
                                                                                                          ((1 : Nat) +
                                                                                                            (1 : Nat))
                                                                                                          (O.row (3 : Nat)
                                                                                                            (some (1 : Nat))
                                                                                                            (ints
                                                                                                                (valL c
                                                                                                                  (↑N : Int)) ++
                                                                                                              V.int IntKind.i64
                                                                                                                  (0 : Int) ::
                                                                                                                List.take._f
                                                                                                                  Nat.zero
                                                                                                                  PUnit.unit
                                                                                                                  (List.append._f
                                                                                                                    []
                                                                                                                    PUnit.unit
                                                                                                                    (rep._f
                                                                                                                      Nat.zero
                                                                                                                      PUnit.unit
                                                                                                                      [V.int
                                                                                                                          IntKind.i64
                                                                                                                          (0 :
                                                                                                                            Int)])))))
                                                                                                        ((1 : Nat) + (1 : Nat) +
                                                                                                          (1 : Nat))
                                                                                                        []) ∧
                                                                                            (V.fn (39 : Nat) [] =
                                                                                                  V.fn (75 : Nat)
                                                                                                    [V.imp [i6 (2 : Int)]] →
                                                                                                [V.int IntKind.i64 (2 : Int)] =
                                                                                                    [i6 (0 : Int),
                                                                                                      i6 (2 : Int)] →
                                                                                                  ofOs T.e (0 : Nat) [] =
                                                                                                      pt
                                                                                                        (pt
                                                                                                          (pt
                                                                                                            (pt T.e (0 : Nat)
                                                                                                              (O.row (3 : Nat)
                                                                                                                (some (1 : Nat))
                                                                                                                (ints
                                                                                                                  (valL c
                                                                                                                    (↑N :
                                                                                                                      Int)))))
                                                                                                            (1 : Nat)
                                                                                                            (O.row (3 : Nat)
                                                                                                              none
                                                                                                              (V.int IntKind.i64
                                                                                                                  (0 : Int) ::
                                                                                                                List.append._f
                                                                                                                  [] PUnit.unit
                                                                                                                  (rep._f
                                                                                                                    Nat.zero
                                                                                                                    PUnit.unit
                                                                                                                    [V.int
                                                                                                                        IntKind.i64
                                                                                                                        (0 :
                                                                                                                          Int)]))))
                                                                                                          (0 : Nat) O.dead)
                                                                                                        ((1 : Nat) + (1 : Nat))
                                                                                                        (O.row (3 : Nat)
                                                                                                          (some (1 : Nat))
                                                                                                          (ints
                                                                                                              (valL c
                                                                                                                (↑N : Int)) ++
                                                                                                            V.int IntKind.i64
                                                                                                                (0 : Int) ::
                                                                                                              List.take._f
                                                                                                                Nat.zero
                                                                                                                PUnit.unit
                                                                                                                (List.append._f
                                                                                                                  [] PUnit.unit
                                                                                                                  (rep._f
                                                                                                                    Nat.zero
                                                                                                                    PUnit.unit
                                                                                                                    [V.int
                                                                                                                        IntKind.i64
                                                                                                                        (0 :
                                                                                                                          Int)])))) →
                                                                                                    (0 : Nat) =
                                                                                                        (1 : Nat) + (1 : Nat) +
                                                                                                          (1 : Nat) →
                                                                                                      CR.mk
                                                                                                          (V.fn (75 : Nat)
                                                                                                            [V.imp
                                                                                                                [i6 (2 : Int)]])
                                                                                                          (ofOs T.e (0 : Nat)
                                                                                                            [])
                                                                                                          (0 : Nat) [] =
                                                                                                        CR.mk (V.bool true)
                                                                                                          (pt
                                                                                                            (pt
                                                                                                              (pt
                                                                                                                (pt T.e
                                                                                                                  (0 : Nat)
                                                                                                                  (O.row
                                                                                                                    (3 : Nat)
                                                                                                                    (some
                                                                                                                      (1 : Nat))
                                                                                                                    (ints
                                                                                                                      (valL c
                                                                                                                        (↑N :
                                                                                                                          Int)))))
                                                                                                                (1 : Nat)
                                                                                                                (O.row (3 : Nat)
                                                                                                                  none
                                                                                                                  (V.int
                                                                                                                      IntKind.i64
                                                                                                                      (0 :
                                                                                                                        Int) ::
                                                                                                                    List.append._f
                                                                                                                      []
                                                                                                                      PUnit.unit
                                                                                                                      (rep._f
                                                                                                                        Nat.zero
                                                                                                                        PUnit.unit
                                                                                                                        [V.int
                                                                                                                            IntKind.i64
                                                                                                                            (0 :
                                                                                                                              Int)]))))
                                                                                                              (0 : Nat) O.dead)
                                                                                                            ((1 : Nat) +
                                                                                                              (1 : Nat))
                                                                                                            (O.row (3 : Nat)
                                                                                                              (some (1 : Nat))
                                                                                                              (ints
                                                                                                                  (valL c
                                                                                                                    (↑N :
                                                                                                                      Int)) ++
                                                                                                                V.int
                                                                                                                    IntKind.i64
                                                                                                                    (0 : Int) ::
                                                                                                                  List.take._f
                                                                                                                    Nat.zero
                                                                                                                    PUnit.unit
                                                                                                                    (List.append._f
                                                                                                                      []
                                                                                                                      PUnit.unit
                                                                                                                      (rep._f
                                                                                                                        Nat.zero
                                                                                                                        PUnit.unit
                                                                                                                        [V.int
                                                                                                                            IntKind.i64
                                                                                                                            (0 :
                                                                                                                              Int)])))))
                                                                                                          ((1 : Nat) +
                                                                                                              (1 : Nat) +
                                                                                                            (1 : Nat))
                                                                                                          []) ∧
                                                                                              (V.fn (74 : Nat)
                                                                                                      [V.imp
                                                                                                          [i6
                                                                                                              (↑(N +
                                                                                                                    (1 : Nat)) :
                                                                                                                Int)]] =
                                                                                                    V.fn (75 : Nat)
                                                                                                      [V.imp [i6 (2 : Int)]] →
                                                                                                  [i6 (↑(N + (1 : Nat)) : Int),
                                                                                                        i6 (0 : Int)] =
                                                                                                      [i6 (0 : Int),
                                                                                                        i6 (2 : Int)] →
                                                                                                    ofOs T.e (0 : Nat) [] =
                                                                                                        pt
                                                                                                          (pt
                                                                                                            (pt
                                                                                                              (pt T.e (0 : Nat)
                                                                                                                (O.row (3 : Nat)
                                                                                                                  (some
                                                                                                                    (1 : Nat))
                                                                                                                  (ints
                                                                                                                    (valL c
                                                                                                                      (↑N :
                                                                                                                        Int)))))
                                                                                                              (1 : Nat)
                                                                                                              (O.row (3 : Nat)
                                                                                                                none
                                                                                                                (V.int
                                                                                                                    IntKind.i64
                                                                                                                    (0 : Int) ::
                                                                                                                  List.append._f
                                                                                                                    []
                                                                                                                    PUnit.unit
                                                                                                                    (rep._f
                                                                                                                      Nat.zero
                                                                                                                      PUnit.unit
                                                                                                                      [V.int
                                                                                                                          IntKind.i64
                                                                                                                          (0 :
                                                                                                                            Int)]))))
                                                                                                            (0 : Nat) O.dead)
                                                                                                          ((1 : Nat) +
                                                                                                            (1 : Nat))
                                                                                                          (O.row (3 : Nat)
                                                                                                            (some (1 : Nat))
                                                                                                            (ints
                                                                                                                (valL c
                                                                                                                  (↑N : Int)) ++
                                                                                                              V.int IntKind.i64
                                                                                                                  (0 : Int) ::
                                                                                                                List.take._f
                                                                                                                  Nat.zero
                                                                                                                  PUnit.unit
                                                                                                                  (List.append._f
                                                                                                                    []
                                                                                                                    PUnit.unit
                                                                                                                    (rep._f
                                                                                                                      Nat.zero
                                                                                                                      PUnit.unit
                                                                                                                      [V.int
                                                                                                                          IntKind.i64
                                                                                                                          (0 :
                                                                                                                            Int)])))) →
                                                                                                      (0 : Nat) =
                                                                                                          (1 : Nat) +
                                                                                                              (1 : Nat) +
                                                                                                            (1 : Nat) →
                                                                                                        CR.mk (V.bool true)
                                                                                                            (ofOs T.e (0 : Nat)
                                                                                                              [])
                                                                                                            (0 : Nat) [] =
                                                                                                          CR.mk (V.bool true)
                                                                                                            (pt
                                                                                                              (pt
                                                                                                                (pt
                                                                                                                  (pt T.e
                                                                                                                    (0 : Nat)
                                                                                                                    (O.row
                                                                                                                      (3 : Nat)
                                                                                                                      (some
                                                                                                                        (1 :
                                                                                                                          Nat))
                                                                                                                      (ints
                                                                                                                        (valL c
                                                                                                                          (↑N :
                                                                                                                            Int)))))
                                                                                                                  (1 : Nat)
                                                                                                                  (O.row
                                                                                                                    (3 : Nat)
                                                                                                                    none
                                                                                                                    (V.int
                                                                                                                        IntKind.i64
                                                                                                                        (0 :
                                                                                                                          Int) ::
                                                                                                                      List.append._f
                                                                                                                        []
                                                                                                                        PUnit.unit
                                                                                                                        (rep._f
                                                                                                                          Nat.zero
                                                                                                                          PUnit.unit
                                                                                                                          [V.int
                                                                                                                              IntKind.i64
                                                                                                                              (0 :
                                                                                                                                Int)]))))
                                                                                                                (0 : Nat)
                                                                                                                O.dead)
                                                                                                              ((1 : Nat) +
                                                                                                                (1 : Nat))
                                                                                                              (O.row (3 : Nat)
                                                                                                                (some (1 : Nat))
                                                                                                                (ints
                                                                                                                    (valL c
                                                                                                                      (↑N :
                                                                                                                        Int)) ++
                                                                                                                  V.int
                                                                                                                      IntKind.i64
                                                                                                                      (0 :
                                                                                                                        Int) ::
                                                                                                                    List.take._f
                                                                                                                      Nat.zero
                                                                                                                      PUnit.unit
                                                                                                                      (List.append._f
                                                                                                                        []
                                                                                                                        PUnit.unit
                                                                                                                        (rep._f
                                                                                                                          Nat.zero
                                                                                                                          PUnit.unit
                                                                                                                          [V.int
                                                                                                                              IntKind.i64
                                                                                                                              (0 :
                                                                                                                                Int)])))))
                                                                                                            ((1 : Nat) +
                                                                                                                (1 : Nat) +
                                                                                                              (1 : Nat))
                                                                                                            []) ∧
                                                                                                (V.fn (38 : Nat) [] =
                                                                                                      V.fn (75 : Nat)
                                                                                                        [V.imp [i6 (2 : Int)]] →
                                                                                                    [sl c] =
                                                                                                        [i6 (0 : Int),
                                                                                                          i6 (2 : Int)] →
                                                                                                      ofOs T.e (0 : Nat) [] =
                                                                                                          pt
                                                                                                            (pt
                                                                                                              (pt
                                                                                                                (pt T.e
                                                                                                                  (0 : Nat)
                                                                                                                  (O.row
                                                                                                                    (3 : Nat)
                                                                                                                    (some
                                                                                                                      (1 : Nat))
                                                                                                                    (ints
                                                                                                                      (valL c
                                                                                                                        (↑N :
                                                                                                                          Int)))))
                                                                                                                (1 : Nat)
                                                                                                                (O.row (3 : Nat)
                                                                                                                  none
                                                                                                                  (V.int
                                                                                                                      IntKind.i64
                                                                                                                      (0 :
                                                                                                                        Int) ::
                                                                                                                    List.append._f
                                                                                                                      []
                                                                                                                      PUnit.unit
                                                                                                                      (rep._f
                                                                                                                        Nat.zero
                                                                                                                        PUnit.unit
                                                                                                                        [V.int
                                                                                                                            IntKind.i64
                                                                                                                            (0 :
                                                                                                                              Int)]))))
                                                                                                              (0 : Nat) O.dead)
                                                                                                            ((1 : Nat) +
                                                                                                              (1 : Nat))
                                                                                                            (O.row (3 : Nat)
                                                                                                              (some (1 : Nat))
                                                                                                              (ints
                                                                                                                  (valL c
                                                                                                                    (↑N :
                                                                                                                      Int)) ++
                                                                                                                V.int
                                                                                                                    IntKind.i64
                                                                                                                    (0 : Int) ::
                                                                                                                  List.take._f
                                                                                                                    Nat.zero
                                                                                                                    PUnit.unit
                                                                                                                    (List.append._f
                                                                                                                      []
                                                                                                                      PUnit.unit
                                                                                                                      (rep._f
                                                                                                                        Nat.zero
                                                                                                                        PUnit.unit
                                                                                                                        [V.int
                                                                                                                            IntKind.i64
                                                                                                                            (0 :
                                                                                                                              Int)])))) →
                                                                                                        (0 : Nat) =
                                                                                                            (1 : Nat) +
                                                                                                                (1 : Nat) +
                                                                                                              (1 : Nat) →
                                                                                                          CR.mk
                                                                                                              (V.tup
                                                                                                                [i6
                                                                                                                    (↑(N +
                                                                                                                          (1 :
                                                                                                                            Nat)) :
                                                                                                                      Int),
                                                                                                                  i6 (0 : Int)])
                                                                                                              (ofOs T.e
                                                                                                                (0 : Nat) [])
                                                                                                              (0 : Nat) [] =
                                                                                                            CR.mk (V.bool true)
                                                                                                              (pt
                                                                                                                (pt
                                                                                                                  (pt
                                                                                                                    (pt T.e
                                                                                                                      (0 : Nat)
                                                                                                                      (O.row
                                                                                                                        (3 :
                                                                                                                          Nat)
                                                                                                                        (some
                                                                                                                          (1 :
                                                                                                                            Nat))
                                                                                                                        (ints
                                                                                                                          (valL
                                                                                                                            c
                                                                                                                            (↑N :
                                                                                                                              Int)))))
                                                                                                                    (1 : Nat)
                                                                                                                    (O.row
                                                                                                                      (3 : Nat)
                                                                                                                      none
                                                                                                                      (V.int
                                                                                                                          IntKind.i64
                                                                                                                          (0 :
                                                                                                                            Int) ::
                                                                                                                        List.append._f
                                                                                                                          []
                                                                                                                          PUnit.unit
                                                                                                                          (rep._f
                                                                                                                            Nat.zero
                                                                                                                            PUnit.unit
                                                                                                                            [V.int
                                                                                                                                IntKind.i64
                                                                                                                                (0 :
                                                                                                                                  Int)]))))
                                                                                                                  (0 : Nat)
                                                                                                                  O.dead)
                                                                                                                ((1 : Nat) +
                                                                                                                  (1 : Nat))
                                                                                                                (O.row (3 : Nat)
                                                                                                                  (some
                                                                                                                    (1 : Nat))
                                                                                                                  (ints
                                                                                                                      (valL c
                                                                                                                        (↑N :
                                                                                                                          Int)) ++
                                                                                                                    V.int
                                                                                                                        IntKind.i64
                                                                                                                        (0 :
                                                                                                                          Int) ::
                                                                                                                      List.take._f
                                                                                                                        Nat.zero
                                                                                                                        PUnit.unit
                                                                                                                        (List.append._f
                                                                                                                          []
                                                                                                                          PUnit.unit
                                                                                                                          (rep._f
                                                                                                                            Nat.zero
                                                                                                                            PUnit.unit
                                                                                                                            [V.int
                                                                                                                                IntKind.i64
                                                                                                                                (0 :
                                                                                                                                  Int)])))))
                                                                                                              ((1 : Nat) +
                                                                                                                  (1 : Nat) +
                                                                                                                (1 : Nat))
                                                                                                              []) ∧
                                                                                                  (V.fn (37 : Nat) [] =
                                                                                                        V.fn (75 : Nat)
                                                                                                          [V.imp
                                                                                                              [i6 (2 : Int)]] →
                                                                                                      [i6
                                                                                                              (↑(N +
                                                                                                                    (1 : Nat)) :
                                                                                                                Int)] =
                                                                                                          [i6 (0 : Int),
                                                                                                            i6 (2 : Int)] →
                                                                                                        ofOs T.e (0 : Nat) [] =
                                                                                                            pt
                                                                                                              (pt
                                                                                                                (pt
                                                                                                                  (pt T.e
                                                                                                                    (0 : Nat)
                                                                                                                    (O.row
                                                                                                                      (3 : Nat)
                                                                                                                      (some
                                                                                                                        (1 :
                                                                                                                          Nat))
                                                                                                                      (ints
                                                                                                                        (valL c
                                                                                                                          (↑N :
                                                                                                                            Int)))))
                                                                                                                  (1 : Nat)
                                                                                                                  (O.row
                                                                                                                    (3 : Nat)
                                                                                                                    none
                                                                                                                    (V.int
                                                                                                                        IntKind.i64
                                                                                                                        (0 :
                                                                                                                          Int) ::
                                                                                                                      List.append._f
                                                                                                                        []
                                                                                                                        PUnit.unit
                                                                                                                        (rep._f
                                                                                                                          Nat.zero
                                                                                                                          PUnit.unit
                                                                                                                          [V.int
                                                                                                                              IntKind.i64
                                                                                                                              (0 :
                                                                                                                                Int)]))))
                                                                                                                (0 : Nat)
                                                                                                                O.dead)
                                                                                                              ((1 : Nat) +
                                                                                                                (1 : Nat))
                                                                                                              (O.row (3 : Nat)
                                                                                                                (some (1 : Nat))
                                                                                                                (ints
                                                                                                                    (valL c
                                                                                                                      (↑N :
                                                                                                                        Int)) ++
                                                                                                                  V.int
                                                                                                                      IntKind.i64
                                                                                                                      (0 :
                                                                                                                        Int) ::
                                                                                                                    List.take._f
                                                                                                                      Nat.zero
                                                                                                                      PUnit.unit
                                                                                                                      (List.append._f
                                                                                                                        []
                                                                                                                        PUnit.unit
                                                                                                                        (rep._f
                                                                                                                          Nat.zero
                                                                                                                          PUnit.unit
                                                                                                                          [V.int
                                                                                                                              IntKind.i64
                                                                                                                              (0 :
                                                                                                                                Int)])))) →
                                                                                                          (0 : Nat) =
                                                                                                              (1 : Nat) +
                                                                                                                  (1 : Nat) +
                                                                                                                (1 : Nat) →
                                                                                                            CR.mk
                                                                                                                (V.fn (74 : Nat)
                                                                                                                  [V.imp
                                                                                                                      [i6
                                                                                                                          (↑(N +
                                                                                                                                (1 :
                                                                                                                                  Nat)) :
                                                                                                                            Int)]])
                                                                                                                (ofOs T.e
                                                                                                                  (0 : Nat) [])
                                                                                                                (0 : Nat) [] =
                                                                                                              CR.mk
                                                                                                                (V.bool true)
                                                                                                                (pt
                                                                                                                  (pt
                                                                                                                    (pt
                                                                                                                      (pt T.e
                                                                                                                        (0 :
                                                                                                                          Nat)
                                                                                                                        (O.row
                                                                                                                          (3 :
                                                                                                                            Nat)
                                                                                                                          (some
                                                                                                                            (1 :
                                                                                                                              Nat))
                                                                                                                          (ints
                                                                                                                            (valL
                                                                                                                              c
                                                                                                                              (↑N :
                                                                                                                                Int)))))
                                                                                                                      (1 : Nat)
                                                                                                                      (O.row
                                                                                                                        (3 :
                                                                                                                          Nat)
                                                                                                                        none
                                                                                                                        (V.int
                                                                                                                            IntKind.i64
                                                                                                                            (0 :
                                                                                                                              Int) ::
                                                                                                                          List.append._f
                                                                                                                            []
                                                                                                                            PUnit.unit
                                                                                                                            (rep._f
                                                                                                                              Nat.zero
                                                                                                                              PUnit.unit
                                                                                                                              [V.int
                                                                                                                                  IntKind.i64
                                                                                                                                  (0 :
                                                                                                                                    Int)]))))
                                                                                                                    (0 : Nat)
                                                                                                                    O.dead)
                                                                                                                  ((1 : Nat) +
                                                                                                                    (1 : Nat))
                                                                                                                  (O.row
                                                                                                                    (3 : Nat)
                                                                                                                    (some
                                                                                                                      (1 : Nat))
                                                                                                                    (ints
                                                                                                                        (valL c
                                                                                                                          (↑N :
                                                                                                                            Int)) ++
                                                                                                                      V.int
                                                                                                                          IntKind.i64
                                                                                                                          (0 :
                                                                                                                            Int) ::
                                                                                                                        List.take._f
                                                                                                                          Nat.zero
                                                                                                                          PUnit.unit
                                                                                                                          (List.append._f
                                                                                                                            []
                                                                                                                            PUnit.unit
                                                                                                                            (rep._f
                                                                                                                              Nat.zero
                                                                                                                              PUnit.unit
                                                                                                                              [V.int
                                                                                                                                  IntKind.i64
                                                                                                                                  (0 :
                                                                                                                                    Int)])))))
                                                                                                                ((1 : Nat) +
                                                                                                                    (1 : Nat) +
                                                                                                                  (1 : Nat))
                                                                                                                []) ∧
                                                                                                    (V.fn (35 : Nat) [] =
                                                                                                          V.fn (75 : Nat)
                                                                                                            [V.imp
                                                                                                                [i6
                                                                                                                    (2 :
                                                                                                                      Int)]] →
                                                                                                        [sl c] =
                                                                                                            [i6 (0 : Int),
                                                                                                              i6 (2 : Int)] →
                                                                                                          ofOs T.e (0 : Nat)
                                                                                                                [] =
                                                                                                              pt
                                                                                                                (pt
                                                                                                                  (pt
                                                                                                                    (pt T.e
                                                                                                                      (0 : Nat)
                                                                                                                      (O.row
                                                                                                                        (3 :
                                                                                                                          Nat)
                                                                                                                        (some
                                                                                                                          (1 :
                                                                                                                            Nat))
                                                                                                                        (ints
                                                                                                                          (valL
                                                                                                                            c
                                                                                                                            (↑N :
                                                                                                                              Int)))))
                                                                                                                    (1 : Nat)
                                                                                                                    (O.row
                                                                                                                      (3 : Nat)
                                                                                                                      none
                                                                                                                      (V.int
                                                                                                                          IntKind.i64
                                                                                                                          (0 :
                                                                                                                            Int) ::
                                                                                                                        List.append._f
                                                                                                                          []
                                                                                                                          PUnit.unit
                                                                                                                          (rep._f
                                                                                                                            Nat.zero
                                                                                                                            PUnit.unit
                                                                                                                            [V.int
                                                                                                                                IntKind.i64
                                                                                                                                (0 :
                                                                                                                                  Int)]))))
                                                                                                                  (0 : Nat)
                                                                                                                  O.dead)
                                                                                                                ((1 : Nat) +
                                                                                                                  (1 : Nat))
                                                                                                                (O.row (3 : Nat)
                                                                                                                  (some
                                                                                                                    (1 : Nat))
                                                                                                                  (ints
                                                                                                                      (valL c
                                                                                                                        (↑N :
                                                                                                                          Int)) ++
                                                                                                                    V.int
                                                                                                                        IntKind.i64
                                                                                                                        (0 :
                                                                                                                          Int) ::
                                                                                                                      List.take._f
                                                                                                                        Nat.zero
                                                                                                                        PUnit.unit
                                                                                                                        (List.append._f
                                                                                                                          []
                                                                                                                          PUnit.unit
                                                                                                                          (rep._f
                                                                                                                            Nat.zero
                                                                                                                            PUnit.unit
                                                                                                                            [V.int
                                                                                                                                IntKind.i64
                                                                                                                                (0 :
                                                                                                                                  Int)])))) →
                                                                                                            (0 : Nat) =
                                                                                                                (1 : Nat) +
                                                                                                                    (1 : Nat) +
                                                                                                                  (1 : Nat) →
                                                                                                              CR.mk
                                                                                                                  (i6
                                                                                                                    (↑(N +
                                                                                                                          (1 :
                                                                                                                            Nat)) :
                                                                                                                      Int))
                                                                                                                  (ofOs T.e
                                                                                                                    (0 : Nat)
                                                                                                                    [])
                                                                                                                  (0 : Nat) [] =
                                                                                                                CR.mk
                                                                                                                  (V.bool true)
                                                                                                                  (pt
                                                                                                                    (pt
                                                                                                                      (pt
                                                                                                                        (pt T.e
                                                                                                                          (0 :
                                                                                                                            Nat)
                                                                                                                          (O.row
                                                                                                                            (3 :
                                                                                                                              Nat)
                                                                                                                            (some
                                                                                                                              (1 :
                                                                                                                                Nat))
                                                                                                                            (ints
                                                                                                                              (valL
                                                                                                                                c
                                                                                                                                (↑N :
                                                                                                                                  Int)))))
                                                                                                                        (1 :
                                                                                                                          Nat)
                                                                                                                        (O.row
                                                                                                                          (3 :
                                                                                                                            Nat)
                                                                                                                          none
                                                                                                                          (V.int
                                                                                                                              IntKind.i64
                                                                                                                              (0 :
                                                                                                                                Int) ::
                                                                                                                            List.append._f
                                                                                                                              []
                                                                                                                              PUnit.unit
                                                                                                                              (rep._f
                                                                                                                                Nat.zero
                                                                                                                                PUnit.unit
                                                                                                                                [V.int
                                                                                                                                    IntKind.i64
                                                                                                                                    (0 :
                                                                                                                                      Int)]))))
                                                                                                                      (0 : Nat)
                                                                                                                      O.dead)
                                                                                                                    ((1 : Nat) +
                                                                                                                      (1 : Nat))
                                                                                                                    (O.row
                                                                                                                      (3 : Nat)
                                                                                                                      (some
                                                                                                                        (1 :
                                                                                                                          Nat))
                                                                                                                      (ints
                                                                                                                          (valL
                                                                                                                            c
                                                                                                                            (↑N :
                                                                                                                              Int)) ++
                                                                                                                        V.int
                                                                                                                            IntKind.i64
                                                                                                                            (0 :
                                                                                                                              Int) ::
                                                                                                                          List.take._f
                                                                                                                            Nat.zero
                                                                                                                            PUnit.unit
                                                                                                                            (List.append._f
                                                                                                                              []
                                                                                                                              PUnit.unit
                                                                                                                              (rep._f
                                                                                                                                Nat.zero
                                                                                                                                PUnit.unit
                                                                                                                                [V.int
                                                                                                                                    IntKind.i64
                                                                                                                                    (0 :
                                                                                                                                      Int)])))))
                                                                                                                  ((1 : Nat) +
                                                                                                                      (1 :
                                                                                                                        Nat) +
                                                                                                                    (1 : Nat))
                                                                                                                  []) ∧
                                                                                                      True) ∧
                                                                                        (true = true ∧ True) ∧ True) ∧
                                  True) = _) ?_
    (repeat' (first | (with_reducible apply And.intro) | (refine fun (_ : True) => ?_))) <;> first | with_reducible (first | rfl | exact trivial | assumption | (refine decide_eq_true ?_ <;> omega) | (refine decide_eq_false ?_ <;> omega) | (refine head_ints1 ?_ <;> omega) | (refine bne_false ?_ <;> omega) | (refine bne_true ?_ <;> omega) | (refine beq_false' ?_ <;> omega) | (refine beq_true' ?_ <;> omega) | (refine wr6' ?_ ?_ ?_ <;> omega) | (refine rem6 ?_ <;> omega) | (refine quo6 ?_ ?_ ?_ <;> omega) | exact HfL_ints _ | omega) | ((with_reducible show (_ : V) = _); rfl) | (intro hk_; exfalso; revert hk_; simp; done) | (intros; simp_all; done) | (split <;> omega) | ((with_reducible show decide _ = true); exact decide_eq_true (by omega)) | ((with_reducible show decide _ = false); exact decide_eq_false (by omega)) | skip
    all_goals first | exact hcn | exact hHf
end Go.Proofs.Ytmnaidemihcfaaa.Am
