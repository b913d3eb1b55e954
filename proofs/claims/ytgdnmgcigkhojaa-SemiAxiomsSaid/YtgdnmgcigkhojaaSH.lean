/- Calls that change what is the caller's. -/
import Derived.Test.YtgdnmgcigkhojaaS0
namespace Go.Proofs.Ytgdnmgcigkhojaa.Am
open Go.RowKit
set_option linter.unusedVariables false
set_option maxHeartbeats 1000000
set_option maxRecDepth 100000

/-! ### a call that may change the caller's objects -/
noncomputable def kFinH (nx0 n : Nat) (r : List Nat) (S : SL) : KF := fun e _ st => match e with
  | .exit _ => False
  | _ => bif Nat.beq st.tm.n n then gcP nx0 r st S else False
noncomputable def vcFiH (P : Program) (E : Env) (sp : SpecT) (gl : T (List V)) (n : Nat) (os0 : List O) (ars : List V) (hs : Hs) (r : List Nat) (S : SL) (v : V) : Option FI → Prop
  | some fi => bif Nat.ble ars.length fi.ntmps then retP v (retV E.G (mkSt gl fi.ntmps S).tm (mkSt gl fi.ntmps S).H fi.res) ∧ vc P E sp none os0.length n fi.body hs ⟨⟨putAllF (blank fi.ntmps) 0 ars, gl, fi.ntmps⟩, ofOs .e 0 os0, os0.length, []⟩ (kFinH os0.length fi.ntmps r S) else False
  | none => False
noncomputable def vcFnH (P : Program) (E : Env) (sp : SpecT) (gl : T (List V)) (n f : Nat) (os0 : List O) (ars : List V) (hs : Hs) (r : List Nat) (S : SL) (v : V) : Prop := vcFiH P E sp gl n os0 ars hs r S v (E.code f)
theorem ofOs_at : ∀ (os : List O) (t : T O) (k i : Nat), k ≤ i → i < k + os.length → (ofOs t k os).get i = os[i - k]?
  | [], _, _, _, h1, h2 => by simp at h2; omega
  | o :: os, t, k, i, h1, h2 => by
    rw [ofOs]
    by_cases hi : i = k
    · subst hi
      have : ∀ (os : List O) (t : T O) (j i : Nat), i < j → (ofOs t j os).get i = t.get i := by
        intro os
        induction os with
        | nil => intro t j i _; rfl
        | cons o os ih =>
          intro t j i h
          rw [ofOs, ih _ _ _ (by omega), pt_eq, T.get_put, if_neg (by omega)]
      rw [this _ _ _ _ (by omega), pt_eq, T.get_put, if_pos rfl]
      simp
    · rw [ofOs_at os _ _ _ (by omega) (by simp at h2; omega)]
      rw [show i - k = (i - (k + 1)) + 1 by omega, List.getElem?_cons_succ]
theorem ofOs_out {os : List O} {i : Nat} (h : os.length ≤ i) : (ofOs .e 0 os).get i = none := by
  cases hg : (ofOs .e 0 os).get i with
  | none => rfl
  | some o =>
    rcases ofOs_get os .e 0 i o hg with ⟨_, h2⟩ | h2
    · have := (List.getElem?_eq_some_iff.1 h2).1
      omega
    · cases h2
theorem CallSpec.of_vcH {P : Program} {E : Env} {sp : SpecT} (hE : E.Ok P) (hm : P.follows .mixedOrders = true) {gl : T (List V)} (hsp : SpecOk P gl sp) {n f : Nat} {os0 : List O} {ars : List V} {hs : Hs} {r : List Nat} {S : SL} {v : V} (hle : os0.length ≤ S.os.length) (hsame : ∀ i, i < os0.length → i ∉ S.lg → S.os[i]? = os0[i]?) (h : vcFnH P E sp gl n f os0 ars hs r S v) : CallSpec P gl (.fn f []) ars (ofOs .e 0 os0) os0.length ⟨v, ofOs .e 0 S.os, S.os.length, S.lg⟩ := by
  unfold vcFnH vcFiH at h
  split at h
  · rename_i fi hfi
    obtain ⟨hb, hret, hv⟩ := bif_false h
    have hret' : retV E.G (mkSt gl fi.ntmps S).tm (mkSt gl fi.ntmps S).H fi.res = some v := by
      unfold retP at hret
      split at hret
      · rename_i u e; rw [e, hret]
      · exact hret.elim
    rw [putAllF_eq] at hv
    have hlog : Log (ofOs .e 0 os0).get os0.length (ofOs .e 0 S.os).get S.os.length S.lg := by
      refine ⟨hle, fun i hi hn => ?_⟩
      by_cases h1 : i < os0.length
      · rw [ofOs_at _ _ _ _ (Nat.zero_le _) (by omega), ofOs_at _ _ _ _ (Nat.zero_le _) (by omega), Nat.sub_zero]
        exact hsame i h1 hi
      · rw [ofOs_out (by omega), ofOs_out (by omega)]
    refine CallSpec.fnC hE hfi (by rw [List.append_nil]; exact hb) hlog (R := fun e st => (e = .normal ∨ e = .ret) ∧ st = mkSt gl fi.ntmps S) ?_ ?_
    · rw [List.append_nil]
      refine Sat.gc_post (Sat.of_vc hE hm hsp rfl hv fun e hs' st' hg hk => ?_)
      unfold kFinH at hk
      have fin : (bif Nat.beq st'.tm.n fi.ntmps then gcP os0.length r st' S else False) → ∃ r st2, Gc os0.length r st' st2 ∧ st2 = mkSt gl fi.ntmps S := by
        intro hk
        obtain ⟨hb, hk⟩ := bif_false hk
        exact ⟨r, _, gcP_gc hk, by rw [hg, Nat.eq_of_beq_eq_true hb]⟩
      cases e with
      | exit => exact hk.elim
      | normal => obtain ⟨r, st2, h1, h2⟩ := fin hk; exact ⟨r, st2, h1, .inl rfl, h2⟩
      | ret => obtain ⟨r, st2, h1, h2⟩ := fin hk; exact ⟨r, st2, h1, .inr rfl, h2⟩
    · rintro e st ⟨he, rfl⟩
      exact ⟨he, v, hret', fun s w ee w' _ _ hp => hp⟩
  · exact h.elim


/-- what a call leaves of its own is forgotten -/
theorem CallSpec.drop {P : Program} {gl : T (List V)} {f0 : Nat} {caps ars : List V} {H H' H'' : T O} {nx nx' : Nat} {v : V} {lg : List Nat} (h : CallSpec P gl (.fn f0 caps) ars H nx ⟨v, H', nx', lg⟩) (hv : Sc (fun i => i < nx) v) (h1 : ∀ i, i < nx → H''.get i = H'.get i) (h2 : ∀ i, nx ≤ i → H''.get i = none) (h3 : ∀ i o, H''.get i = some o → ScO (fun i => i < nx) o) (hlog : Log H.get nx H''.get nx lg) : CallSpec P gl (.fn f0 caps) ars H nx ⟨v, H'', nx, lg⟩ := by
  refine ⟨fun s w fv vals a1 a2 a3 a4 a5 => ?_, hlog⟩
  obtain ⟨next, e1, e2, e3⟩ := h.1 s w fv vals a1 a2 a3 a4 a5
  refine ⟨next, e1, ?_, e3⟩
  obtain ⟨f', ars2, rfl⟩ := e3 ⟨f0, caps, rfl⟩
  refine CallsIn.mono e2 ?_
  rintro e w' ⟨u, s', rfl, g1, g2, g3, g4, g5⟩
  have hdom : ∀ i, s'.dom i ∧ i < nx ↔ s.dom i := fun i => ⟨fun ⟨hd, hi⟩ => ((g4 i).1 hd).elim id (fun ⟨h, _⟩ => absurd hi (by omega)), fun hd => ⟨(g4 i).2 (.inl hd), Nat.lt_of_not_le fun h => a5 i h hd⟩⟩
  refine ⟨u, s'.cut (fun i => i < nx) s'.mark, rfl, RV.cut _ _ g1 hv, ⟨fun i o ho hl => ?_, fun i j o o' ho ho' hl hl' e => ?_, g2.old⟩, ⟨⟨⟨g3.le.μ, g3.le.cp, fun i hd => (hdom i).2 hd, g3.le.fz⟩, g3.le.mark⟩, g3.fz, g3.kept, g3.mod, fun i hd hn => absurd ((hdom i).1 hd) hn⟩, fun i => ⟨fun hd => .inl ((hdom i).1 hd), fun hd => hd.elim (hdom i).2 (fun ⟨a, b⟩ => absurd b (by dsimp only; omega))⟩, Nat.le_refl _⟩
  · have hi : i < nx := Nat.lt_of_not_le fun hle => by rw [h2 i hle] at ho; cases ho
    have ho' := ho
    dsimp only at ho'
    rw [h1 i hi] at ho'
    obtain ⟨b1, b2, b3, b4⟩ := g2.obj i o ho' hl
    exact ⟨⟨b1, hi⟩, b2, b3, RO.cut b4 (h3 i o ho)⟩
  · have hi : i < nx := Nat.lt_of_not_le fun hle => by rw [h2 i hle] at ho; cases ho
    have hj : j < nx := Nat.lt_of_not_le fun hle => by rw [h2 j hle] at ho'; cases ho'
    dsimp only at ho ho'
    rw [h1 i hi] at ho
    rw [h1 j hj] at ho'
    exact g2.inj i j o o' ho ho' hl hl' e
/-- the same for listed objects -/
theorem CallSpec.dropOs {P : Program} {gl : T (List V)} {f0 : Nat} {caps ars : List V} {os os1 os2 : List O} {v : V} {lg : List Nat} (h : CallSpec P gl (.fn f0 caps) ars (ofOs .e 0 os) os.length ⟨v, ofOs .e 0 (os1 ++ os2), (os1 ++ os2).length, lg⟩) (hl : os1.length = os.length) (hv : Sc (fun i => i < os.length) v) (h3 : ∀ o ∈ os1, ScO (fun i => i < os.length) o) (hlog : ∀ i, i < os.length → i ∉ lg → os1[i]? = os[i]?) : CallSpec P gl (.fn f0 caps) ars (ofOs .e 0 os) os.length ⟨v, ofOs .e 0 os1, os.length, lg⟩ := by
  refine CallSpec.drop h hv (fun i hi => ?_) (fun i hi => ofOs_out (by omega)) (fun i o ho => ?_) ⟨Nat.le_refl _, fun i hn hi => ?_⟩
  · rw [ofOs_at _ _ _ _ (Nat.zero_le _) (by omega), ofOs_at _ _ _ _ (Nat.zero_le _) (by rw [List.length_append]; omega), Nat.sub_zero, List.getElem?_append_left (by omega)]
  · rcases ofOs_get os1 .e 0 i o ho with ⟨_, k⟩ | k
    · exact h3 o (List.mem_of_getElem? k)
    · simp at k
  · by_cases h1 : i < os.length
    · rw [ofOs_at _ _ _ _ (Nat.zero_le _) (by omega), ofOs_at _ _ _ _ (Nat.zero_le _) (by omega), Nat.sub_zero]
      exact hlog i h1 hn
    · rw [ofOs_out (by omega), ofOs_out (by omega)]
end Go.Proofs.Ytgdnmgcigkhojaa.Am
