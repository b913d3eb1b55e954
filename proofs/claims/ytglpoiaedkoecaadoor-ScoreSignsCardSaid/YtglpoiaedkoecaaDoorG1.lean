/- math/bits.Mul64; calls that change what is the caller's. -/
import Derived.Test.YtglpoiaedkoecaaDoorE1
import Derived.Test.YtglpoiaedkoecaaDoorG0
import Derived.Lib.Mul64
namespace Go.Proofs.YtglpoiaedkoecaaDoor.Am
open Go.RowKit
set_option linter.unusedVariables false
set_option maxHeartbeats 1000000
set_option maxRecDepth 100000

/-! ### a call that may change the caller's objects -/
noncomputable def kFinH (nx0 n : Nat) (r : List Nat) (S : SL) : KF := fun e _ st => match e with
  | .exit _ => False
  | _ => bif Nat.beq st.tm.n n then gcP nx0 r st S else False
noncomputable def vcFiH (P : Program) (E : Env) (sp : SpecT) (gl : T (List V)) (n : Nat) (os0 : List O) (ars : List V) (hs : Hs) (r : List Nat) (S : SL) (v : V) : Option FI → Prop
  | some fi => bif Nat.ble ars.length fi.ntmps then retP v (retV E.G (mkSt gl fi.ntmps S).tm (mkSt gl fi.ntmps S).H fi.res) ∧ vc P E sp none os0.length n fi.body hs ⟨⟨putAllF (blank fi.ntmps) 0 ars, gl, fi.ntmps⟩, ofOs .e 0 os0, os0.length, []⟩ (kFinH os0.length fi.ntmps r S) else False
  | none => False
noncomputable def vcFnH (P : Program) (E : Env) (sp : SpecT) (gl : T (List V)) (n f : Nat) (os0 : List O) (ars : List V) (hs : Hs) (r : List Nat) (S : SL) (v : V) : Prop := vcFiH P E sp gl n os0 ars hs r S v (E.code f)
theorem ofOs_at : ∀ (os : List O) (t : T O) (k i : Nat), k ≤ i → i < k + os.length → (ofOs t k os).get i = os[i - k]?
  | [], _, _, _, h1, h2 => by simp at h2; omega
  | o :: os, t, k, i, h1, h2 => by
    rw [ofOs]
    by_cases hi : i = k
    · subst hi
      have : ∀ (os : List O) (t : T O) (j i : Nat), i < j → (ofOs t j os).get i = t.get i := by
        intro os
        induction os with
        | nil => intro t j i _; rfl
        | cons o os ih =>
          intro t j i h
          rw [ofOs, ih _ _ _ (by omega), pt_eq, T.get_put, if_neg (by omega)]
      rw [this _ _ _ _ (by omega), pt_eq, T.get_put, if_pos rfl]
      simp
    · rw [ofOs_at os _ _ _ (by omega) (by simp at h2; omega)]
      rw [show i - k = (i - (k + 1)) + 1 by omega, List.getElem?_cons_succ]
theorem ofOs_out {os : List O} {i : Nat} (h : os.length ≤ i) : (ofOs .e 0 os).get i = none := by
  cases hg : (ofOs .e 0 os).get i with
  | none => rfl
  | some o =>
    rcases ofOs_get os .e 0 i o hg with ⟨_, h2⟩ | h2
    · have := (List.getElem?_eq_some_iff.1 h2).1
      omega
    · cases h2
theorem CallSpec.of_vcH {P : Program} {E : Env} {sp : SpecT} (hE : E.Ok P) (hm : P.follows .mixedOrders = true) {gl : T (List V)} (hsp : SpecOk P gl sp) {n f : Nat} {os0 : List O} {ars : List V} {hs : Hs} {r : List Nat} {S : SL} {v : V} (hle : os0.length ≤ S.os.length) (hsame : ∀ i, i < os0.length → i ∉ S.lg → S.os[i]? = os0[i]?) (h : vcFnH P E sp gl n f os0 ars hs r S v) : CallSpec P gl (.fn f []) ars (ofOs .e 0 os0) os0.length ⟨v, ofOs .e 0 S.os, S.os.length, S.lg⟩ := by
  unfold vcFnH vcFiH at h
  split at h
  · rename_i fi hfi
    obtain ⟨hb, hret, hv⟩ := bif_false h
    have hret' : retV E.G (mkSt gl fi.ntmps S).tm (mkSt gl fi.ntmps S).H fi.res = some v := by
      unfold retP at hret
      split at hret
      · rename_i u e; rw [e, hret]
      · exact hret.elim
    rw [putAllF_eq] at hv
    have hlog : Log (ofOs .e 0 os0).get os0.length (ofOs .e 0 S.os).get S.os.length S.lg := by
      refine ⟨hle, fun i hi hn => ?_⟩
      by_cases h1 : i < os0.length
      · rw [ofOs_at _ _ _ _ (Nat.zero_le _) (by omega), ofOs_at _ _ _ _ (Nat.zero_le _) (by omega), Nat.sub_zero]
        exact hsame i h1 hi
      · rw [ofOs_out (by omega), ofOs_out (by omega)]
    refine CallSpec.fnC hE hfi (by rw [List.append_nil]; exact hb) hlog (R := fun e st => (e = .normal ∨ e = .ret) ∧ st = mkSt gl fi.ntmps S) ?_ ?_
    · rw [List.append_nil]
      refine Sat.gc_post (Sat.of_vc hE hm hsp rfl hv fun e hs' st' hg hk => ?_)
      unfold kFinH at hk
      have fin : (bif Nat.beq st'.tm.n fi.ntmps then gcP os0.length r st' S else False) → ∃ r st2, Gc os0.length r st' st2 ∧ st2 = mkSt gl fi.ntmps S := by
        intro hk
        obtain ⟨hb, hk⟩ := bif_false hk
        exact ⟨r, _, gcP_gc hk, by rw [hg, Nat.eq_of_beq_eq_true hb]⟩
      cases e with
      | exit => exact hk.elim
      | normal => obtain ⟨r, st2, h1, h2⟩ := fin hk; exact ⟨r, st2, h1, .inl rfl, h2⟩
      | ret => obtain ⟨r, st2, h1, h2⟩ := fin hk; exact ⟨r, st2, h1, .inr rfl, h2⟩
    · rintro e st ⟨he, rfl⟩
      exact ⟨he, v, hret', fun s w ee w' _ _ hp => hp⟩
  · exact h.elim

/-! ### Mul64 -/
theorem wru {z : Nat} (h : z < 18446744073709551616) : wr .u64 ((z : Nat) : Int) = (z : Int) := wr_in (by simp [lo]) (by simp [hi]; omega)
theorem wru_mod (z : Nat) : wr .u64 ((z : Nat) : Int) = ((z % 18446744073709551616 : Nat) : Int) := by
  rw [wr_eq, IntKind.wrap_u64]; omega
theorem and32_u {G : Ctx} {t : Nat} {x : Nat} : binV G .and t (u6 (x : Int)) (u6 4294967295) = some (u6 ((x % 4294967296 : Nat) : Int)) := by
  have h : (BitVec.ofInt 64 (x : Int) &&& BitVec.ofInt 64 4294967295).toNat = x % 4294967296 := by
    rw [BitVec.toNat_and]
    have h1 : (BitVec.ofInt 64 4294967295).toNat = 2 ^ 32 - 1 := by decide
    rw [h1, Nat.and_two_pow_sub_one_eq_mod]
    have h2 : (BitVec.ofInt 64 (x : Int)).toNat = x % 2 ^ 64 := by
      rw [BitVec.toNat_ofInt]; omega
    rw [h2]; omega
  have hw : IntKind.u64.wrap ((x % 4294967296 : Nat) : Int) = ((x % 4294967296 : Nat) : Int) := by
    rw [← wr_eq]; exact wru (by omega)
  have e : binV G .and t (u6 (x : Int)) (u6 4294967295) = some (.int .u64 (IntKind.u64.wrap ((BitVec.ofInt 64 (x : Int) &&& BitVec.ofInt 64 4294967295).toNat : Int))) := rfl
  rw [e, h, hw]
theorem shr32_u {G : Ctx} {t : Nat} {x : Nat} : binV G .shr t (u6 (x : Int)) (u6 32) = some (u6 ((x / 4294967296 : Nat) : Int)) := by
  have h1 : ((32 : Int) < 0) = False := by simp
  have h2 : 2 ^ min (Int.toNat 32) IntKind.u64.bits = 4294967296 := by decide
  simp only [binV, intV, h1, if_false, h2]
  rw [Int.fdiv_eq_ediv_of_nonneg _ (by omega)]
  rfl
theorem wru' {n : Int} {z : Nat} (e : n = (z : Int)) (h : z < 18446744073709551616) : wr .u64 n = (z : Int) := by rw [e]; exact wru h
abbrev mulV (x y : Nat) : V := .tup [u6 ((x * y / 18446744073709551616 : Nat) : Int), u6 ((x * y % 18446744073709551616 : Nat) : Int)]
theorem mul64_fn (x y : Nat) (hx : x < 18446744073709551616) (hy : y < 18446744073709551616) : FnOk Pg g0 113 [u6 x, u6 y] (mulV x y) := by
  show FnOk Pg g0 113 [u6 x, u6 y] (.tup [u6 ((x * y / 18446744073709551616 : Nat) : Int), u6 ((x * y % 18446744073709551616 : Nat) : Int)])
  obtain ⟨h1, h2, h3, h4⟩ := Go.Lib.mul64_hi x y hx hy
  have x1 := @and32_u (ctxOf Pg) 170 x
  have y1 := @and32_u (ctxOf Pg) 170 y
  have x2 := @shr32_u (ctxOf Pg) 170 x
  have y2 := @shr32_u (ctxOf Pg) 170 y
  have hlo := wru_mod (x * y)
  have hbh : x * y / 18446744073709551616 < 18446744073709551616 := by
    rw [Nat.div_lt_iff_lt_mul (by omega)]
    have := mul_lt_sq hx hy (c := 0) (by omega)
    omega
  generalize x * y / 18446744073709551616 = H at *
  have e0 : ((x * y : Nat) : Int) = (x : Int) * (y : Int) := Int.natCast_mul x y
  rw [e0] at hlo
  generalize x * y % 18446744073709551616 = L at *
  have ha0 : x % 4294967296 < 4294967296 := Nat.mod_lt _ (by omega)
  have hb0 : y % 4294967296 < 4294967296 := Nat.mod_lt _ (by omega)
  have ha1 : x / 4294967296 < 4294967296 := by omega
  have hb1 : y / 4294967296 < 4294967296 := by omega
  generalize x % 4294967296 = a0 at *
  generalize x / 4294967296 = a1 at *
  generalize y % 4294967296 = b0 at *
  generalize y / 4294967296 = b1 at *
  have m00 : (a0 : Int) * (b0 : Int) = ((a0 * b0 : Nat) : Int) := (Int.natCast_mul a0 b0).symm
  have m10 : (a1 : Int) * (b0 : Int) = ((a1 * b0 : Nat) : Int) := (Int.natCast_mul a1 b0).symm
  have m01 : (a0 : Int) * (b1 : Int) = ((a0 * b1 : Nat) : Int) := (Int.natCast_mul a0 b1).symm
  have m11 : (a1 : Int) * (b1 : Int) = ((a1 * b1 : Nat) : Int) := (Int.natCast_mul a1 b1).symm
  have l00 := Go.Lib.half_mul_le (a := a0) (b := b0) (by omega) (by omega)
  have l10 := Go.Lib.half_mul_le (a := a1) (b := b0) (by omega) (by omega)
  have l01 := Go.Lib.half_mul_le (a := a0) (b := b1) (by omega) (by omega)
  have l11 := Go.Lib.half_mul_le (a := a1) (b := b1) (by omega) (by omega)
  generalize a0 * b0 = p at *
  generalize a1 * b0 = q at *
  generalize a0 * b1 = u at *
  generalize a1 * b1 = v at *
  have s1 := @shr32_u (ctxOf Pg) 170 p
  obtain ⟨t, ht⟩ : ∃ t, t = q + p / 4294967296 := ⟨_, rfl⟩
  have s2 := @and32_u (ctxOf Pg) 170 t
  have s3 := @shr32_u (ctxOf Pg) 170 t
  obtain ⟨w1, hw1⟩ : ∃ w1, w1 = t % 4294967296 + u := ⟨_, rfl⟩
  have s4 := @shr32_u (ctxOf Pg) 170 w1
  refine FnOk.of_vc vE_ok mixed sp0_ok (n := 1000) (r := []) (S := { sl := [(4, u6 (H : Int)), (5, u6 (L : Int))] }) (hs := [va 15 (u6 (a0 : Int)), va 17 (u6 (a1 : Int)), va 19 (u6 (b0 : Int)), va 21 (u6 (b1 : Int)), nu 24 (p : Int), nu 27 (q : Int), va 29 (u6 ((p / 4294967296 : Nat) : Int)), nu 30 (t : Int), va 32 (u6 ((t % 4294967296 : Nat) : Int)), va 34 (u6 ((t / 4294967296 : Nat) : Int)), nu 38 (u : Int), nu 39 (w1 : Int), nu 42 (v : Int), nu 44 ((v + t / 4294967296 : Nat) : Int), va 46 (u6 ((w1 / 4294967296 : Nat) : Int)), nu 47 (H : Int), nu 50 (L : Int)]) ?_
  refine Eq.mp (by kernel_rfl : (V.tup [u6 (↑H : Int), u6 (↑L : Int)] = V.tup [u6 (↑H : Int), u6 (↑L : Int)] ∧ binV (ctxOf Tryd.prog) BinOp.and 170 (u6 (↑x : Int)) (V.int IntKind.u64 (4294967295 : Int)) = some (u6 (↑a0 : Int)) ∧ binV (ctxOf Tryd.prog) BinOp.shr 170 (u6 (↑x : Int)) (V.int IntKind.u64 (32 : Int)) = some (u6 (↑a1 : Int)) ∧ binV (ctxOf Tryd.prog) BinOp.and 170 (u6 (↑y : Int)) (V.int IntKind.u64 (4294967295 : Int)) = some (u6 (↑b0 : Int)) ∧ binV (ctxOf Tryd.prog) BinOp.shr 170 (u6 (↑y : Int)) (V.int IntKind.u64 (32 : Int)) = some (u6 (↑b1 : Int)) ∧ wr IntKind.u64 ((↑a0 : Int) * (↑b0 : Int)) = (↑p : Int) ∧ wr IntKind.u64 ((↑a1 : Int) * (↑b0 : Int)) = (↑q : Int) ∧ binV (ctxOf Tryd.prog) BinOp.shr 170 (V.int IntKind.u64 (↑p : Int)) (V.int IntKind.u64 (32 : Int)) = some (u6 (↑(p / 4294967296) : Int)) ∧ wr IntKind.u64 ((↑q : Int) + (↑(p / 4294967296) : Int)) = (↑t : Int) ∧ binV (ctxOf Tryd.prog) BinOp.and 170 (V.int IntKind.u64 (↑t : Int)) (V.int IntKind.u64 (4294967295 : Int)) = some (u6 (↑(t % 4294967296) : Int)) ∧ binV (ctxOf Tryd.prog) BinOp.shr 170 (V.int IntKind.u64 (↑t : Int)) (V.int IntKind.u64 (32 : Int)) = some (u6 (↑(t / 4294967296) : Int)) ∧ wr IntKind.u64 ((↑a0 : Int) * (↑b1 : Int)) = (↑u : Int) ∧ wr IntKind.u64 ((↑(t % 4294967296) : Int) + (↑u : Int)) = (↑w1 : Int) ∧ wr IntKind.u64 ((↑a1 : Int) * (↑b1 : Int)) = (↑v : Int) ∧ wr IntKind.u64 ((↑v : Int) + (↑(t / 4294967296) : Int)) = (↑(v + t / 4294967296) : Int) ∧ binV (ctxOf Tryd.prog) BinOp.shr 170 (V.int IntKind.u64 (↑w1 : Int)) (V.int IntKind.u64 (32 : Int)) = some (u6 (↑(w1 / 4294967296) : Int)) ∧ wr IntKind.u64 ((↑(v + t / 4294967296) : Int) + (↑(w1 / 4294967296) : Int)) = (↑H : Int) ∧ wr IntKind.u64 ((↑x : Int) * (↑y : Int)) = (↑L : Int) ∧ ((↑H : Int) = (↑H : Int) ∧ (↑L : Int) = (↑L : Int) ∧ True) ∧ True) = _) ?_
  (repeat' (first | (with_reducible apply And.intro) | (refine fun (_ : True) => ?_)))
  all_goals first | assumption | rfl | trivial | exact wru' (by omega) (by omega) | (rw [m00]; exact wru (by omega)) | (rw [m10]; exact wru (by omega)) | (rw [m01]; exact wru (by omega)) | (rw [m11]; exact wru (by omega)) | skip
end Go.Proofs.YtglpoiaedkoecaaDoor.Am
