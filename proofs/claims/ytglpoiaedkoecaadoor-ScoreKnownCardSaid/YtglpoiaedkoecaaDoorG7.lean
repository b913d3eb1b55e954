/- ScoreKnown: the law returns true: run by the machine; what the great comparisons answer is known. -/
import Derived.Test.YtglpoiaedkoecaaDoorG5
namespace Go.Proofs.YtglpoiaedkoecaaDoor.Am
open Go.RowKit
set_option linter.unusedVariables false
set_option maxHeartbeats 1000000
set_option maxRecDepth 100000

/-- what a contract says of a call with closed arguments is answered from then on -/
theorem memoFn_ok {P : Program} {f : Nat} {l : List V} {gs : Gs} {v : V} {h : Hook} (hp : plainFuncs P = true) (hh : HookOk P h) (hl : gndL l = true) (hg : glGnd gs = true) (hv : gnd v = true) (hc : (codeOf P f).isSome = true) (hok : FnOk P (glOf gs) f l v) : HookOk P (memo f l gs v h) := by
  intro f' ars H gl u hu s w vals ha hH hgl
  unfold memo at hu
  cases hb : (Nat.beq f' f && beqL ars l && glIn gs gl) with
  | false => rw [hb] at hu; exact hh f' ars H gl u hu s w vals ha hH hgl
  | true =>
    rw [hb, cond_true] at hu
    cases hu
    simp only [Bool.and_eq_true] at hb
    have e1 := Nat.eq_of_beq_eq_true hb.1.1
    have e2 := beqL_eq _ _ hb.1.2
    subst e1 e2
    obtain ⟨fi, hfi⟩ := Option.isSome_iff_exists.1 hc
    obtain ⟨fn, f1, f2, f3, f4, f5⟩ := code_ok hp hfi
    obtain ⟨next, q1, q2, q3⟩ := hok.1 (sg s.fz) w (.func (.func f') #[] #[]) vals ⟨#[], rfl, rfl⟩ (gnd_rl _ _ hl ha) (no_rh (fun b hb => hb.elim (fun hb => hH.old b (.inl hb)) (fun hb => hb.elim))) (glOf_rc (s := s) (s' := sg s.fz) (fun b hb => hb) hgl gs hb.2 hg) (fun _ _ h => h)
    have hn : next = .enter f' vals := by
      have h5 := f5 vals w
      simp [Deferred.ofValue, invoke, h5] at q1
      exact q1.symm
    subst hn
    refine ⟨f5 vals w, (callsIn_wide.1 q2).mono ?_⟩
    rintro e w' ⟨x, s', rfl, g1, g2, g3, g4, g5⟩
    exact ⟨x, rfl, ⟨g3.mod.os, g3.mod.tape, g3.mod.output, g3.mod.size, fun k hk => g3.mod.block k hk (by rintro ⟨h, hm, _⟩; cases hm)⟩, fun s'' w'' => gnd_rv _ _ hv g1⟩

/-- powers, listed -/
def lsF (l : List Int) : Nat → Int := fun k => l.getD k 0
theorem inA_ls {l : List Int} (h : l.all (fun x => decide (-2000 ≤ x) && decide (x ≤ 2000)) = true) : inA (lsF l) = true := by
  unfold inA okA
  rw [List.all_eq_true]
  intro k hk
  unfold lsF
  rw [List.getD_eq_getElem?_getD]
  cases hx : l[k]? with
  | none => rfl
  | some x => exact List.all_eq_true.1 h x (List.mem_of_getElem? hx)
abbrev z16 : List V := [i6 0, i6 0, i6 0, i6 0, i6 0, i6 0, i6 0, i6 0, i6 0, i6 0, i6 0, i6 0, i6 0, i6 0, i6 0, i6 0]
abbrev p2V (a b : Int) : V := .agg (i6 a :: i6 b :: z16)
theorem great (a b c d r : Int) (h1 : [a, b].all (fun x => decide (-2000 ≤ x) && decide (x ≤ 2000)) = true) (h2 : [c, d].all (fun x => decide (-2000 ≤ x) && decide (x ≤ 2000)) = true) (hr : cmpF (lsF [a, b]) (lsF [c, d]) = r) : FnOk Pg (glOf gs0) 45 [p2V a b, p2V c d] (.tup [i6 r, i6 0]) := by
  have h := cmp_ok (lsF [a, b]) (lsF [c, d]) (inA_ls h1) (inA_ls h2)
  rw [hr] at h
  exact h
theorem great1 : FnOk Pg (glOf gs0) 45 [p2V 2000 0, p2V 0 1261] (.tup [i6 1, i6 0]) := great _ _ _ _ _ rfl rfl (by kernel_rfl)
theorem great2 : FnOk Pg (glOf gs0) 45 [p2V 2000 0, p2V 0 1262] (.tup [i6 (-1), i6 0]) := great _ _ _ _ _ rfl rfl (by kernel_rfl)
theorem great3 : FnOk Pg (glOf gs0) 45 [p2V (-2000) 0, p2V 2000 0] (.tup [i6 (-1), i6 0]) := great _ _ _ _ _ rfl rfl (by kernel_rfl)

def hookA : Hook := memo 25 [] gs0 (.bool true) hook1
def hookB : Hook := memo 45 [p2V 2000 0, p2V 0 1261] gs0 (.tup [i6 1, i6 0]) hookA
def hookC : Hook := memo 45 [p2V 2000 0, p2V 0 1262] gs0 (.tup [i6 (-1), i6 0]) hookB
def hookD : Hook := memo 45 [p2V (-2000) 0, p2V 2000 0] gs0 (.tup [i6 (-1), i6 0]) hookC
theorem hookA_ok : HookOk Tryd.prog hookA := memoFn_ok plain hook1_ok rfl gs0_gnd rfl (by kernel_rfl) works_ok
theorem hookB_ok : HookOk Tryd.prog hookB := memoFn_ok plain hookA_ok rfl gs0_gnd rfl (by kernel_rfl) great1
theorem hookC_ok : HookOk Tryd.prog hookC := memoFn_ok plain hookB_ok rfl gs0_gnd rfl (by kernel_rfl) great2
theorem hookD_ok : HookOk Tryd.prog hookD := memoFn_ok plain hookC_ok rfl gs0_gnd rfl (by kernel_rfl) great3
noncomputable def env2 : Env := envOf Tryd.prog hookD extF
theorem env2_ok : env2.Ok Tryd.prog := env_ok plain hookD_ok ext_ok
theorem known_true : FnOk Pg g0 8 [] (.bool true) := FnOk.of_run env2_ok mixed (n := 100000) rfl (by kernel_rfl)
end Go.Proofs.YtglpoiaedkoecaaDoor.Am
