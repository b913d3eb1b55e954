/- The frame's lemma for an array of five small numbers. -/
import Derived.Test.YtglpoiaedkoecaaDoorE26
namespace Go.Proofs.YtglpoiaedkoecaaDoor.Am
open Go.RowKit Go.ChangeShapes Go.WideShapes
set_option linter.unusedVariables false
set_option maxRecDepth 100000

section
variable {H : Type} {enc : TypeId × Value → H} {w : World}
theorem five_of {ns : List Int} (h : ns.length = 5) : ns.map (V.int .u8) = five (fun k => ns.getD k 0) := by
  match ns, h with
  | [a0, a1, a2, a3, a4], _ => rfl
theorem arg_arr5 {t e : TypeId} {v : Value} {d : DataW H} {p : List MemPlace} (ht : Pg.underlying t = some (.array 5 e)) (he : Pg.underlying e = some (.int .u8)) (hce : Pg.cellsOf e = 1) (hct : Pg.cellsOf t = 5) (hv : ∃ cs, v = .agg cs) (h : DataW.Trod enc Pg w 0 (fun _ => true) true t v d p) :
    ∃ c : Nat → Int, RV (sg (allB w)) w (.agg (five c)) v ∧ ∀ i, i < 5 → 0 ≤ c i ∧ c i ≤ 255 := by
  obtain ⟨cs, rfl⟩ := hv
  obtain ⟨fuel, hf⟩ := h
  obtain ⟨ns, h1, h2, _, h3⟩ := arr_trod ht he hce hct hf
  have h2' : cs.toList = ns.map (Value.int .u8) := h2
  refine ⟨fun k => ns.getD k 0, ?_, fun i hi => ?_⟩
  · rw [← five_of h1]
    exact ⟨cs, rfl, by rw [h2']; exact RL_map ns⟩
  · dsimp only
    rw [List.getD_eq_getElem?_getD, List.getElem?_eq_getElem (by omega)]
    exact wf8 (h3 _ (List.getElem_mem _))
end
end Go.Proofs.YtglpoiaedkoecaaDoor.Am
