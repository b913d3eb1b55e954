/- WitnessCompares: for every input the law returns true, and what lay in memory lies as it lay. No condition. -/
import Derived.Test.YtifdkhfldbkkpaaGreatRows
import Derived.Test.YtifdkhfldbkkpaaGreatCC14
namespace Go.Proofs.YtifdkhfldbkkpaaGreat.witnessCompares
open Go.ChangeShapes Go.WideShapes Go.ChangeAt Go.RowKit Go.Proofs.YtifdkhfldbkkpaaGreat.Am
set_option linter.unusedVariables false

theorem own : ownKnob Tryz.prog.godebug = none := by kernel_rfl
theorem MD : laidOutB Tryz.prog = true := by kernel_rfl

set_option maxRecDepth 100000 in
theorem GS (os : Os) (started : os.Started) (H : Type) (enc : TypeId × Value → H) :
    ReturnsInHanded {} Tryz.checked os 3 .any (Rows.witnessComparesSpec.pre6 enc Tryz.prog Tryz.f3 Rows.witnessComparesRow.domain false) (Rows.witnessComparesSpec.post enc Tryz.prog Tryz.f3 false true false false) := by
  refine returnsInHanded_of_change (C := Tryz.checked) own started (by kernel_rfl) Tryz.func3
    (ChangeSpec.witness6 (enc := enc) (C := Tryz.checked) false ⟨#[], #[.agg #[.int .u8 0, .slice none 0 0, .slice none 0 0, .slice none 0 0, .slice none 0 0], .agg #[.int .u8 0, .slice none 0 0, .slice none 0 0, .slice none 0 0, .slice none 0 0], .agg #[.int .u8 0, .int .u8 0, .int .u8 0, .int .i64 0], .agg #[.int .u8 0, .int .u8 0, .int .u8 0, .int .i64 0], .int .u64 0, .int .u64 0], []⟩ 8 (by kernel_rfl) (by kernel_rfl) (by kernel_rfl) (by kernel_rfl)) ?_
  intro W base args ds gs before hval0 hW hcnd _
  have hval : ∀ (j : Nat) t v, Tryz.f3.params[j]? = some t → args[j]? = some v → Value.okWide Tryz.prog W .any base t v := hval0
  have hW' := hW
  obtain ⟨p, q, hA0, hV, rfl, hfz, hnd⟩ := hW
  have hA : DataW.TrodAll enc Tryz.prog W 0 (fun _ => true) true Tryz.f3.params.toList args.toList ds p := hA0
  rw [Tryz.params3] at hA hval
  obtain ⟨v0, vs0, d0, ds0, p0, q0, hargs, rfl, rfl, h0, r0⟩ := trodAll_cons hA
  obtain ⟨v1, vs1, d1, ds1, p1, q1, rfl, rfl, rfl, h1, r1⟩ := trodAll_cons r0
  obtain ⟨v2, vs2, d2, ds2, p2, q2, rfl, rfl, rfl, h2, r2⟩ := trodAll_cons r1
  obtain ⟨v3, vs3, d3, ds3, p3, q3, rfl, rfl, rfl, h3, r3⟩ := trodAll_cons r2
  obtain ⟨v4, vs4, d4, ds4, p4, q4, rfl, rfl, rfl, h4, r4⟩ := trodAll_cons r3
  obtain ⟨v5, vs5, d5, ds5, p5, q5, rfl, rfl, rfl, h5, r5⟩ := trodAll_cons r4
  obtain ⟨rfl, rfl, rfl⟩ := trodAll_nil r5
  obtain rfl : args = #[v0, v1, v2, v3, v4, v5] := by cases args; simp_all
  obtain ⟨rfl, rfl⟩ := trodVars_none hV
  clear hA0 hval0
  have lt0 : ∀ x ∈ p0, x.block < W.heap.size := by obtain ⟨m, hm⟩ := h0; exact DataW.trod_lt m _ _ _ hm
  obtain ⟨gr, P0, SS, Wq, Q, rv0, dk0⟩ := xL (okWide_struct Tryz.underlying26 (hval 0 26 v0 rfl rfl)) h0
  have lt1 : ∀ x ∈ p1, x.block < W.heap.size := by obtain ⟨m, hm⟩ := h1; exact DataW.trod_lt m _ _ _ hm
  obtain ⟨gr', P1, SS', Wq', Q', rv1, dk1⟩ := xL (okWide_struct Tryz.underlying26 (hval 1 26 v1 rfl rfl)) h1
  have lt2 : ∀ x ∈ p2, x.block < W.heap.size := by obtain ⟨m, hm⟩ := h2; exact DataW.trod_lt m _ _ _ hm
  obtain ⟨b1, b2, b3, bn, rv2, ba2, bb2, bc2⟩ := wX (okWide_struct Tryz.underlying28 (hval 2 28 v2 rfl rfl)) h2
  have lt3 : ∀ x ∈ p3, x.block < W.heap.size := by obtain ⟨m, hm⟩ := h3; exact DataW.trod_lt m _ _ _ hm
  obtain ⟨c1, c2, c3, cn, rv3, ba3, bb3, bc3⟩ := wX (okWide_struct Tryz.underlying28 (hval 3 28 v3 rfl rfl)) h3
  have lt4 : ∀ x ∈ p4, x.block < W.heap.size := by obtain ⟨m, hm⟩ := h4; exact DataW.trod_lt m _ _ _ hm
  obtain ⟨xs0, e4, _, _, w4⟩ := open_int Tryz.underlying29 (hval 4 29 v4 rfl rfl) h4
  subst e4
  obtain ⟨xs, rfl, ok4⟩ := qU w4
  have lt5 : ∀ x ∈ p5, x.block < W.heap.size := by obtain ⟨m, hm⟩ := h5; exact DataW.trod_lt m _ _ _ hm
  obtain ⟨ys0, e5, _, _, w5⟩ := open_int Tryz.underlying29 (hval 5 29 v5 rfl rfl) h5
  subst e5
  obtain ⟨ys, rfl, ok5⟩ := qU w5
  have ha : RL (sg (Gw W)) W [.agg (Ia gr P0 SS Wq Q), .agg (Ia gr' P1 SS' Wq' Q'), .agg [w8 (b1 : Nat), w8 (b2 : Nat), w8 (b3 : Nat), i6 bn], .agg [w8 (c1 : Nat), w8 (c2 : Nat), w8 (c3 : Nat), i6 cn], .int .u64 ((xs : Nat) : Int), .int .u64 ((ys : Nat) : Int)] (#[v0, v1, v2, v3, .int .u64 ((xs : Nat) : Int), .int .u64 ((ys : Nat) : Int)] : Array Value).toList := ⟨_, _, rfl, rv0, _, _, rfl, rv1, _, _, rfl, rv2, _, _, rfl, rv3, _, _, rfl, rfl, _, _, rfl, rfl, rfl⟩
  refine (eo (jy dk0 dk1 ba2 bb2 bc2 ba3 bb3 bc3 xs ys ok4 ok5) (by kernel_rfl) ha).mono fun e W' ⟨he, bel⟩ => ?_
  subst he
  exact ⟨_, rfl, _, _, _, [], _, [], hW', trodAll_mk1 (shut_bool Tryz.underlying4 _), (trodAll_cons_mk (Below.trod MD (by kernel_rfl) (of_decide_eq_true (by kernel_rfl)) h0 bel lt0) (trodAll_cons_mk (Below.trod MD (by kernel_rfl) (of_decide_eq_true (by kernel_rfl)) h1 bel lt1) (trodAll_cons_mk (Below.trod MD (by kernel_rfl) (of_decide_eq_true (by kernel_rfl)) h2 bel lt2) (trodAll_cons_mk (Below.trod MD (by kernel_rfl) (of_decide_eq_true (by kernel_rfl)) h3 bel lt3) (trodAll_cons_mk (Below.trod MD (by kernel_rfl) (of_decide_eq_true (by kernel_rfl)) h4 bel lt4) (trodAll_cons_mk (Below.trod MD (by kernel_rfl) (of_decide_eq_true (by kernel_rfl)) h5 bel lt5) trodAll_mk0)))))), rfl, bel.frame _, fun h => by cases h⟩

theorem PA : Rows.witnessComparesRow.holds Tryz.pinned (OpenSpec.ofChange Rows.witnessComparesSpec) :=
  OpenClaim.holds_of_wide 3 Tryz.f3 rfl rfl rfl rfl rfl rfl rfl ⟨rfl, rfl, rfl, rfl, rfl⟩ rfl rfl rfl rfl rfl (by kernel_rfl) Tryz.func3 (by kernel_rfl)
    (of_decide_eq_true (by kernel_rfl)) (by unfold Func.isWrapper; first | (rw [if_pos (by decide +kernel)]; kernel_rfl) | (rw [if_neg (by decide +kernel)]; exact ⟨rfl, rfl⟩))
    (fun os started H enc _ => GS os started H enc)

/-- the statement -/
theorem proved : Rows.WitnessComparesSaid := PA
#print axioms proved
end Go.Proofs.YtifdkhfldbkkpaaGreat.witnessCompares
