/- slices.Grow of nil, by the kit's walk. -/
import Derived.Test.YtglpoiaedkoecaaDoorJ0
import Derived.Lib.AppendZerosOnto
import Derived.Lib.Walk
import Derived.Lib.SliceRun
import Derived.Shelf.RegionOpenPlain
namespace Go.Proofs.YtglpoiaedkoecaaDoor.Am
open Go.RowKit
set_option linter.unusedVariables false
set_option maxHeartbeats 2000000
set_option maxRecDepth 100000

theorem und30 : Tryd.prog.underlying 30 = some (.slice 29) := Tryd.underlying30
theorem und3 : Tryd.prog.underlying 3 = some (.int .i64) := Tryd.underlying3
theorem info29 : ∃ i z, Tryd.prog.info? 29 = some i ∧ i.zero = some z ∧ i.size = 1 ∧ i.bytes = 24 ∧ z.cells.size = 1 := by
  obtain ⟨f, f1, f2, f3, f4, _, f6⟩ := (ctx_ok Tryd.prog).ty 29 _ ty29x
  obtain ⟨v, z1, z2, _⟩ := f6 _ rfl
  exact ⟨f, v, f1, z1, f3, f4, by rw [z2, f3]⟩
where ty29x : (ctxOf Pg).ty 29 = some { desc := .slice 3, size := 1, bytes := 24, agg := false, zero := some [.nils] } := by kernel_rfl
theorem grow_calls (n : Nat) (h1 : 1 ≤ n) (h2 : n ≤ 1000) (w : World) : Calls Tryd.prog 94 #[.slice none 0 0, .int .i64 n] w fun e w' => ∃ rest : Array Value, rest.size = grownCap w n 0 29 ∧ e = .returned (.slice (some ⟨w.heap.size, 0, none⟩) 0 (grownCap w n 0 29)) ∧ w' = w.drew.alloc (.cells rest 29) := by
  obtain ⟨i0, z, hi0, hz0, hsz, hby, hzc⟩ := info29
  have hold : (Builtin.firstCells i0.size 0 (.slice none 0 0)).run Tryd.prog w.drew = .ok ([] : List Value).toArray w.drew := run_firstCells_none w.drew i0.size 0 0 0
  have hrz : ∀ ty, (Builtin.append_ #[30, 3] ty #[.slice none 0 0, .int .i64 (n : Int)]).run Tryd.prog w =
      .ok (.slice (some ⟨w.heap.size, 0, none⟩) n (grownCap w n 0 29)) (w.drew.alloc (.cells (([] : List Value).toArray ++ Builtin.zeroCells z.cells n ++ Builtin.zeroCells z.cells (grownCap w n 0 29 - n)) 29)) := fun ty => by
    have h := Lib.run_append_grow_zeros w 30 3 ty 29 i0 z .i64 .i64 und30 und3 hi0 hz0 none 0 0 [] hold n (by omega) (by omega) (by omega) (by omega) (by rw [hby]; omega)
      (growslice_fits (by omega) (by rw [hby]; omega))
    simpa only [Nat.zero_add] using h
  have hGn : n ≤ grownCap w n 0 29 := grownCap_ge w _ _ _
  have hsize : (([] : List Value).toArray ++ Builtin.zeroCells z.cells n ++ Builtin.zeroCells z.cells (grownCap w n 0 29 - n)).size = grownCap w n 0 29 := by
    simp only [Array.size_append, size_zeroCells, hzc]
    simp; omega
  obtain ⟨G, hG⟩ : ∃ G, G = grownCap w n 0 29 := ⟨_, rfl⟩
  have hG63 : G ≤ 9223372036854775807 := by
    have := grownCap_le_maxLen w n 0 29 (by unfold maxLen; omega)
    rw [← hG] at this
    unfold maxLen at this
    omega
  rw [← hG] at hrz hGn hsize ⊢
  generalize (([] : List Value).toArray ++ Builtin.zeroCells z.cells n ++ Builtin.zeroCells z.cells (G - n)) = rest at *
  have k1 : ¬ ((n : Int) < 0) := by omega
  have k2 : wrap64 ((0 : Int) - (0 : Int)) = 0 := by unfold wrap64; omega
  have k3 : wrap64 ((n : Int) - 0) = (n : Int) := by unfold wrap64; omega
  have k4 : (n : Int) > 0 := by omega
  clear hold hG
  go_enter Tryd.func94, Tryd.ntmps94
  go_wp2_with (at_builtin; refine Lib.wpList_append_run _ rfl _ _ _ _ rfl _ _ rfl rfl _ _ (hrz _) ?_)
  all_goals (go_ret; exact ⟨rest, hsize, rfl, rfl⟩)
theorem grow_any (n : Nat) (h1 : 1 ≤ n) (h2 : n ≤ 1000) (H : T O) (nx : Nat) : CallSpec Pg g0 (.fn 94 []) [.nils, i6 n] H nx ⟨.sl nx 0 0 none, pt H nx (.row 29 (some 1) []), nx + 1, []⟩ := by
  refine ⟨fun s w fv vals hc hargs hH hgl hn => ?_, ?_⟩
  · obtain ⟨vs, rfl, hcaps⟩ := hc
    have hvs : vs = #[] := by
      have : vs.toList = [] := hcaps
      cases vs; simp_all
    subst hvs
    obtain ⟨v1, r1, e1, q1, v2, r2, e2, q2, e3⟩ := hargs
    have hv1 : v1 = .slice none 0 0 := q1
    have hv2 : v2 = .int .i64 n := q2
    subst hv1 hv2 e3 e2
    have hvals : vals = #[.slice none 0 0, .int .i64 n] := by
      rw [← Array.toArray_toList (xs := vals), e1]
    subst hvals
    obtain ⟨fi, hfi⟩ : ∃ fi, codeOf Tryd.prog 94 = some fi := ⟨_, rfl⟩
    obtain ⟨fn, f1, f2, f3, f4, f5⟩ := code_ok plain hfi
    refine ⟨.enter 94 #[.slice none 0 0, .int .i64 n], ?_, ?_, fun _ => ⟨_, _, rfl⟩⟩
    · simp [Deferred.ofValue, invoke, f5]
    · refine callsIn_wide.2 ((grow_calls n h1 h2 w).mono ?_)
      rintro e w' ⟨rest, hs, rfl, rfl⟩
      have hnn : ¬ s.dom nx := hn nx (Nat.le_refl _)
      obtain ⟨s', g1, g2, g3, g4⟩ := grown_step (e := 29) (sz := 1) (need := 0) (cap := grownCap w n 0 29) (c := []) (us := []) (rest := rest) hH hnn (by simp [RL]) rfl (by rw [hs]; omega) (Nat.zero_le _)
      have harr : (([] : List Value).toArray ++ rest) = rest := by simp
      rw [harr] at g1 g2 g3
      refine ⟨_, s', rfl, g1, ?_, g3, fun i => ?_, Nat.le_succ _⟩
      · show RH s' _ (pt H nx (.row 29 (some 1) [])).get
        rw [pt_eq, get_put_upd]; exact g2
      · rw [g4]
        constructor
        · rintro (h | rfl)
          · exact .inl h
          · exact .inr ⟨Nat.le_refl _, Nat.lt_succ_self _⟩
        · rintro (h | ⟨h3, h4⟩)
          · exact .inl h
          · exact .inr (by dsimp only at h4; omega)
  · refine ⟨Nat.le_succ _, fun i hi hn => ?_⟩
    dsimp only at hn ⊢
    rw [pt_eq, T.get_put, if_neg (by omega)]
end Go.Proofs.YtglpoiaedkoecaaDoor.Am
