/- Chapter 25: Draft.Whole; what drafts hold; functions that end over memory that the kernel does not see. -/
import Derived.Test.YtglpoiaedkoecaaDoorE15
namespace Go.Proofs.YtglpoiaedkoecaaDoor.Am
open Go.RowKit
set_option linter.unusedVariables false
set_option maxHeartbeats 1000000
set_option maxRecDepth 100000

noncomputable def kFinO (gl : T (List V)) (n : Nat) (r : List Nat) (sl : List (Nat × V)) (S : SL) : KF := fun e _ st => match e with
  | .exit _ => False
  | _ => bif Nat.beq st.tm.n n then slotsQ st.tm sl ∧ Gc 0 r (mkSo gl n sl st.H st.nx st.lg) (mkSt gl n S) else False
noncomputable def vcFiO (P : Program) (E : Env) (sp : SpecT) (gl : T (List V)) (n : Nat) (ars : List V) (hs : Hs) (r : List Nat) (sl : List (Nat × V)) (S : SL) (v : V) : Option FI → Prop
  | some fi => bif Nat.ble ars.length fi.ntmps && hfB v then retP v (retV E.G (mkSt gl fi.ntmps S).tm (mkSt gl fi.ntmps S).H fi.res) ∧ vc P E sp none 0 n fi.body hs ⟨⟨putAllF (blank fi.ntmps) 0 ars, gl, fi.ntmps⟩, .e, 0, []⟩ (kFinO gl fi.ntmps r sl S) else False
  | none => False
noncomputable def vcFnX (P : Program) (E : Env) (sp : SpecT) (gl : T (List V)) (n f : Nat) (ars : List V) (hs : Hs) (r : List Nat) (sl : List (Nat × V)) (S : SL) (v : V) : Prop := vcFiO P E sp gl n ars hs r sl S v (E.code f)
theorem FnOk.of_vcX {gl : T (List V)} {n f : Nat} {ars : List V} {hs : Hs} {r : List Nat} {sl : List (Nat × V)} {S : SL} {v : V} (h : vcFnX Pg vE sp0 gl n f ars hs r sl S v) : FnOk Pg gl f ars v := by
  unfold vcFnX vcFiO at h
  split at h
  · rename_i fi hfi
    obtain ⟨hb, hret, hv⟩ := bif_false h
    rw [Bool.and_eq_true] at hb
    have hret' : retV vE.G (mkSt gl fi.ntmps S).tm (mkSt gl fi.ntmps S).H fi.res = some v := by
      unfold retP at hret
      split at hret
      · rename_i u e; rw [e, hret]
      · exact hret.elim
    rw [putAllF_eq] at hv
    refine CallSpec.fnC vE_ok hfi (by rw [List.append_nil]; exact hb.1) (Log.refl _ _ _) (R := fun e st => (e = .normal ∨ e = .ret) ∧ st = mkSt gl fi.ntmps S) ?_ ?_
    · rw [List.append_nil]
      refine Sat.gc_post (Sat.fewer_post (Sat.of_vc vE_ok mixed sp0_ok rfl hv fun e hs' st' hg hk => ?_))
      unfold kFinO at hk
      have fin : (bif Nat.beq st'.tm.n fi.ntmps then slotsQ st'.tm sl ∧ Gc 0 r (mkSo gl fi.ntmps sl st'.H st'.nx st'.lg) (mkSt gl fi.ntmps S) else False) → slotsQ st'.tm sl ∧ Gc 0 r (mkSo st'.tm.gl st'.tm.n sl st'.H st'.nx st'.lg) (mkSt gl fi.ntmps S) := by
        intro hk
        obtain ⟨hb, hk1, hk2⟩ := bif_false hk
        exact ⟨hk1, by rw [hg, Nat.eq_of_beq_eq_true hb]; exact hk2⟩
      cases e with
      | exit => exact hk.elim
      | normal => obtain ⟨h1, h2⟩ := fin hk; exact ⟨sl, h1, r, _, h2, .inl rfl, rfl⟩
      | ret => obtain ⟨h1, h2⟩ := fin hk; exact ⟨sl, h1, r, _, h2, .inr rfl, rfl⟩
    · rintro e st ⟨he, rfl⟩
      refine ⟨he, v, hret', fun s w ee w' hH hn ⟨u, s', h1, g1, g2, g3, _, _⟩ => ?_⟩
      subst h1
      obtain ⟨s'', q1, q2, q3, q4⟩ := drop_core hH g1 (hfB_hf.1 v hb.2) g3 (fun h _ => hn h (Nat.zero_le _)) (fun b hb => g2.old b (.inl hb))
      exact ⟨u, s'', rfl, q1, q2, q3, fun i => by rw [q4]; exact dom_same s _ i, Nat.le_refl _⟩
  · exact h.elim

/-! ### Whole -/
theorem whole_draft (C : List Int) (ks : List (Nat → Int)) (fo : Int) (M : List Int) (h : DrOk C ks fo M) : FnOk Pg g0 18 [dfV C ks fo M] (gV (cardsD C) (dataD C ks fo [])) := by
  have hd := draft_fn C ks fo [] ⟨h.c8, h.k8, h.f8, fun c hc => (by cases hc), by simp⟩
  generalize cardsD C = cards at *
  generalize dataD C ks fo [] = rows at *
  refine FnOk.of_vc vE_ok mixed sp0_ok (n := 1000) (r := [1]) (S := { sl := [(2, .ptr 0 0)], os := [.row 32 none [sl cards, gC rows]] }) (hs := [fn 5 (gV cards rows)]) ?_
  refine Eq.mp (by kernel_rfl : (V.agg [sl cards, gC rows] = gV cards rows ∧ ((True ∧ True ∧ True ∧ True ∧ True) ∧ True) ∧ FnOk Tryd.prog g0 19 [V.agg [V.im (List.length C) (List.map w8 C), V.im (List.length ks) (flatK ks), V.int IntKind.u8 fo, V.im 0 []]] (gV cards rows) ∧ True ∧ (0 = 0 ∧ True) ∧ ([sl cards, gC rows] = [sl cards, gC rows] ∧ True ∧ True ∧ True) ∧ True) = _) ?_
  (repeat' (first | (with_reducible apply And.intro) | (refine fun (_ : True) => ?_)))
  all_goals first | with_reducible rfl | exact trivial | assumption | rfl | exact hd

/-! ### what drafts hold -/
/-- rows of one length -/
def RowsLen (n : Nat) (rows : List (List Int)) : Prop := ∀ c ∈ rows, c.length = n
theorem drows_len (ks : List (Nat → Int)) (fo : Int) (cards : List Int) (m : Nat) : RowsLen cards.length (drows ks fo cards m) := by
  intro c hc
  obtain ⟨f, _, rfl⟩ := List.mem_map.1 hc
  exact rowD_length f fo cards _
theorem miss_len {n : Nat} : ∀ (M : List Int) (rows : List (List Int)), RowsLen n rows → RowsLen n (missL n rows M)
  | [], _, h => h
  | m :: M, rows, h => by
    have h1 : RowsLen n (miss1 n rows m) := by
      intro c hc
      unfold miss1 at hc
      by_cases hr : rows = []
      · subst hr; simp at hc
      · have hp : 0 < rows.length := Nat.pos_of_ne_zero (fun h0 => hr (List.eq_nil_of_length_eq_zero h0))
        have h2 := Int.emod_lt_of_pos (m / 5) (show (0 : Int) < rows.length by omega)
        have h3 := Int.emod_nonneg (m / 5) (show (rows.length : Int) ≠ 0 by omega)
        rcases List.mem_or_eq_of_mem_set hc with hc | rfl
        · exact h c hc
        · rw [List.length_set, List.getD_eq_getElem?_getD, List.getElem?_eq_getElem (by omega)]
          exact h _ (List.getElem_mem (by omega))
    exact miss_len M _ h1
theorem dataD_len (C : List Int) (ks : List (Nat → Int)) (fo : Int) (M : List Int) : RowsLen (cardsD C).length (dataD C ks fo M) ∧ (dataD C ks fo M).length ≤ 40 := by
  refine ⟨miss_len M _ (drows_len ks fo _ _), ?_⟩
  unfold dataD
  rw [missL_length]
  simp only [drows, List.length_map, List.length_take]; omega

end Go.Proofs.YtglpoiaedkoecaaDoor.Am
