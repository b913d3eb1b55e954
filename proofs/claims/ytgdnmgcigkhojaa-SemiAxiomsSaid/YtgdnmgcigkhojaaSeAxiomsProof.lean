/- SemiAxioms: for every input the law returns true, and what lay in memory lies as it lay. No condition. -/
import Derived.Test.YtgdnmgcigkhojaaRows
import Derived.Test.YtgdnmgcigkhojaaSA
import Derived.Test.YtgdnmgcigkhojaaS8
namespace Go.Proofs.Ytgdnmgcigkhojaa.semiAxioms
open Go.ChangeShapes Go.WideShapes Go.ChangeAt Go.RowKit Go.Proofs.Ytgdnmgcigkhojaa.Am
set_option linter.unusedVariables false

theorem own : ownKnob Try.prog.godebug = none := by kernel_rfl
theorem laidOut : laidOutB Try.prog = true := by kernel_rfl

set_option maxRecDepth 100000 in
theorem lifted (os : Os) (started : os.Started) (H : Type) (enc : TypeId × Value → H) :
    ReturnsInHanded {} Try.checked os 5 .any (Rows.semiAxiomsSpec.pre6 enc Try.prog Try.f5 Rows.semiAxiomsRow.domain false) (Rows.semiAxiomsSpec.post enc Try.prog Try.f5 false true false false) := by
  refine returnsInHanded_of_change (C := Try.checked) own started (by kernel_rfl) Try.func5
    (ChangeSpec.witness6 (enc := enc) (C := Try.checked) false ⟨#[], #[.agg #[.int .u8 0, .int .u8 0, .int .u8 0, .int .u8 0, .int .u8 0, .int .u8 0]], []⟩ 8 (by kernel_rfl) (by kernel_rfl) (by kernel_rfl) (by kernel_rfl)) ?_
  intro W base args ds gs before hval0 hW hcnd _
  have hval : ∀ (j : Nat) t v, Try.f5.params[j]? = some t → args[j]? = some v → Value.okWide Try.prog W .any base t v := hval0
  have hW' := hW
  obtain ⟨p, q, hA0, hV, rfl, hfz, hnd⟩ := hW
  have hA : DataW.TrodAll enc Try.prog W 0 (fun _ => true) true Try.f5.params.toList args.toList ds p := hA0
  rw [Try.params5] at hA hval
  obtain ⟨v0, vs0, d0, ds0, p0, q0, hargs, rfl, rfl, h0, r0⟩ := trodAll_cons hA
  obtain ⟨rfl, rfl, rfl⟩ := trodAll_nil r0
  obtain rfl : args = #[v0] := by cases args; simp_all
  obtain ⟨rfl, rfl⟩ := trodVars_none hV
  clear hA0 hval0
  have lt0 : ∀ x ∈ p0, x.block < W.heap.size := by obtain ⟨m, hm⟩ := h0; exact DataW.trod_lt m _ _ _ hm
  obtain ⟨x0, x1, x2, x3, x4, x5, rv0, okx0, okx1, okx2, okx3, okx4, okx5⟩ := arg_small6 Try.underlying53 Try.underlying5 (by kernel_rfl) (by kernel_rfl) (okWide_arr Try.underlying53 (hval 0 53 v0 rfl rfl)) h0
  have ha : RL (sg (allB W)) W [.agg [.int .u8 ((x0 : Nat) : Int), .int .u8 ((x1 : Nat) : Int), .int .u8 ((x2 : Nat) : Int), .int .u8 ((x3 : Nat) : Int), .int .u8 ((x4 : Nat) : Int), .int .u8 ((x5 : Nat) : Int)]] (#[v0] : Array Value).toList := ⟨_, _, rfl, rv0, rfl⟩
  refine (law_calls (axioms_true x0 x1 x2 x3 x4 x5 okx0 okx1 okx2 okx3 okx4 okx5) (by kernel_rfl) ha).mono fun e W' ⟨he, bel⟩ => ?_
  subst he
  exact ⟨_, rfl, _, _, _, [], _, [], hW', trodAll_mk1 (shut_bool Try.underlying4 _), (trodAll_cons_mk (Below.trod laidOut (by kernel_rfl) (of_decide_eq_true (by kernel_rfl)) h0 bel lt0) trodAll_mk0), rfl, bel.frame _, fun h => by cases h⟩

theorem over : Rows.semiAxiomsRow.holds Try.pinned (OpenSpec.ofChange Rows.semiAxiomsSpec) :=
  OpenClaim.holds_of_wide 5 Try.f5 rfl rfl rfl rfl rfl rfl rfl ⟨rfl, rfl, rfl, rfl, rfl⟩ rfl rfl rfl rfl rfl (by kernel_rfl) Try.func5 (by kernel_rfl)
    (of_decide_eq_true (by kernel_rfl)) (by unfold Func.isWrapper; first | (rw [if_pos (by decide +kernel)]; kernel_rfl) | (rw [if_neg (by decide +kernel)]; exact ⟨rfl, rfl⟩))
    (fun os started H enc _ => lifted os started H enc)

/-- the statement -/
theorem proved : Rows.SemiAxiomsSaid := over
#print axioms proved
end Go.Proofs.Ytgdnmgcigkhojaa.semiAxioms
