/- Calls in any memory; slices.Clone and slices.Reverse of lists of lists. -/
import Derived.Test.YtglpoiaedkoecaaDoorE1
namespace Go.Proofs.YtglpoiaedkoecaaDoor.Am
open Go.RowKit
set_option linter.unusedVariables false
set_option maxHeartbeats 1000000
set_option maxRecDepth 100000

/-! ### trees -/
theorem T.set_set {α : Type} : ∀ (f : Nat) (t : T α) (i : Nat) (x y : Option α), i < f → T.set f (T.set f t i x) i y = T.set f t i y
  | 0, _, _, _, _, h => absurd h (Nat.not_lt_zero _)
  | f + 1, t, i, x, y, h => by
    have ih : i ≠ 0 → ∀ t : T α, T.set f (T.set f t (i / 2) x) (i / 2) y = T.set f t (i / 2) y := fun _ t => T.set_set f t (i / 2) x y (by omega)
    have ih2 : i ≠ 0 → ∀ t : T α, T.set f (T.set f t (i / 2 - 1) x) (i / 2 - 1) y = T.set f t (i / 2 - 1) y := fun _ t => T.set_set f t (i / 2 - 1) x y (by omega)
    by_cases h0 : i = 0
    · subst h0; cases t <;> simp [T.set]
    · have hb : Nat.beq i 0 = false := by
        cases hb : Nat.beq i 0 with
        | false => rfl
        | true => exact absurd (Nat.eq_of_beq_eq_true hb) h0
      cases h1 : Nat.beq (i % 2) 1 <;> cases t <;> simp only [T.set, hb, h1, cond_true, cond_false, ih h0, ih2 h0]
theorem T.set_same {α : Type} : ∀ (f : Nat) (t : T α) (i : Nat) (x : α), i < f → t.get i = some x → T.set f t i (some x) = t
  | 0, _, _, _, h, _ => absurd h (Nat.not_lt_zero _)
  | f + 1, .e, _, _, _, h => by simp at h
  | f + 1, .n l v r, i, x, hf, h => by
    unfold T.get at h
    unfold T.set
    cases h0 : Nat.beq i 0 with
    | true => rw [h0, cond_true] at h; rw [cond_true, h]
    | false =>
      have hi : i ≠ 0 := by rintro rfl; cases h0
      rw [h0, cond_false] at h
      rw [cond_false]
      cases h1 : Nat.beq (i % 2) 1 with
      | true => rw [h1, cond_true] at h; rw [cond_true, T.set_same f l (i / 2) x (by omega) h]
      | false => rw [h1, cond_false] at h; rw [cond_false, T.set_same f r (i / 2 - 1) x (by omega) h]
theorem pt_pt {α : Type} (t : T α) (i : Nat) (x y : α) : pt (pt t i x) i y = pt t i y := by
  rw [pt_eq, pt_eq, pt_eq]; exact T.set_set _ _ _ _ _ (Nat.lt_succ_self _)
theorem pt_same {α : Type} {t : T α} {i : Nat} {x : α} (h : gt t i = some x) : pt t i x = t := by
  rw [gt_eq] at h; rw [pt_eq]; exact T.set_same _ _ _ _ (Nat.lt_succ_self _) h

/-! ### calls in any memory -/
/-- a function ends, with this -/
noncomputable def kEq (E : Env) (res : List ResultVar) (r : CR) : KF := fun e _ st => match e with
  | .exit _ => False
  | _ => retP r.v (retV E.G st.tm st.H res) ∧ st.H = r.H ∧ st.nx = r.nx ∧ st.lg = r.lg
noncomputable def vcFiA (P : Program) (E : Env) (sp : SpecT) (gl : T (List V)) (n : Nat) (ars : List V) (H : T O) (nx : Nat) (hs : Hs) (r : CR) : Option FI → Prop
  | some fi => bif Nat.ble ars.length fi.ntmps then vc P E sp none nx n fi.body hs ⟨⟨putAllF (blank fi.ntmps) 0 ars, gl, fi.ntmps⟩, H, nx, []⟩ (kEq E fi.res r) else False
  | none => False
theorem CallSpec.of_vcA {P : Program} {E : Env} {sp : SpecT} (hE : E.Ok P) (hm : P.follows .mixedOrders = true) {gl : T (List V)} (hsp : SpecOk P gl sp) {n f : Nat} {ars : List V} {H : T O} {nx : Nat} {hs : Hs} {r : CR} (hlog : Log H.get nx r.H.get r.nx r.lg) (h : vcFiA P E sp gl n ars H nx hs r (E.code f)) : CallSpec P gl (.fn f []) ars H nx r := by
  unfold vcFiA at h
  split at h
  · rename_i fi hfi
    obtain ⟨hb, hv⟩ := bif_false h
    rw [putAllF_eq] at hv
    refine CallSpec.fn hE hfi (by rw [List.append_nil]; exact hb) hlog ?_
    rw [List.append_nil]
    refine Sat.of_vc hE hm hsp rfl hv fun e hs' st' hg hk => ?_
    have fin : (retP r.v (retV E.G st'.tm st'.H fi.res) ∧ st'.H = r.H ∧ st'.nx = r.nx ∧ st'.lg = r.lg) → retV E.G st'.tm st'.H fi.res = some r.v ∧ st'.H = r.H ∧ st'.nx = r.nx ∧ st'.lg = r.lg := by
      rintro ⟨hret, k⟩
      refine ⟨?_, k⟩
      unfold retP at hret
      split at hret
      · rename_i u e; rw [e, hret]
      · exact hret.elim
    unfold kEq at hk
    cases e with
    | exit => exact hk.elim
    | normal => exact ⟨.inl rfl, fin hk⟩
    | ret => exact ⟨.inr rfl, fin hk⟩
  · exact h.elim

/-! ### slices.Clone -/
/-- a list of lists that nobody writes is copied -/
theorem clone_any (l : List V) (k : Nat) (hl : l.length = k + 1) (hk : k ≤ 1000) (H : T O) (nx : Nat) :
    CallSpec Pg g0 (.fn 49 []) [.im (k + 1) l] H nx ⟨.sl (nx + 1) 0 (k + 1) none, pt (pt H nx (.row 29 none [])) (nx + 1) (.row 29 (some 1) l), nx + 1 + 1, []⟩ := by
  have hsrc : ∀ H' : T O, srcV H' 1 (.im (k + 1) l) = some (k + 1, l) := fun H' => by
    unfold srcV
    dsimp only
    rw [hl, Nat.mul_one, show Nat.ble (k + 1) (k + 1) = true from Nat.ble_eq_true_of_le (Nat.le_refl _), cond_true, List.take_of_length_le (by omega)]
  have hs2 : srcV (pt H nx (.row 29 none [])) 1 (.sl nx 0 0 (some 0)) = some (0, []) := by
    unfold srcV
    dsimp only
    rw [pt_eq, T.get_put, if_pos rfl]; rfl
  refine CallSpec.of_vcA vE_ok mixed sp0_ok (n := 1000) (hs := [no 4, (7, .cp (k + 1) l)]) ?_ ?_
  · refine ⟨by dsimp only; omega, fun i hi hn => ?_⟩
    dsimp only at hn ⊢
    rw [pt_eq, T.get_put, if_neg (by omega), pt_eq, T.get_put, if_neg (by omega)]
  · refine Eq.mp (by kernel_rfl : (false = false ∧ (srcV (pt H nx (O.row 29 none [])) 1 (V.im (k + 1) l) = some (k + 1, l) ∧ srcV (pt H nx (O.row 29 none [])) 1 (V.sl nx 0 0 (some 0)) = some (0, []) ∧ 1 ≤ k + 1 ∧ k + 1 ≤ 9223372036854775807 ∧ (k + 1) * 24 ≤ 140737488355328) ∧ V.sl (nx + 1) 0 (k + 1) none = V.sl (nx + 1) 0 (k + 1) none ∧ pt (pt H nx (O.row 29 none [])) (nx + 1) (O.row 29 (some 1) l) = pt (pt H nx (O.row 29 none [])) (nx + 1) (O.row 29 (some 1) l) ∧ nx + 1 + 1 = nx + 1 + 1 ∧ ([] : List Nat) ++ [] = []) = _) ?_
    (repeat' (first | (with_reducible apply And.intro) | (refine fun (_ : True) => ?_))) <;> first | exact aq | skip
    all_goals first | exact hsrc _ | exact hs2 | skip
end Go.Proofs.YtglpoiaedkoecaaDoor.Am
