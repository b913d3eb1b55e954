/- TopScores: the tied card. -/
import Derived.Test.YtcmeiecgijmdjaaDoorCTop12
import Derived.Test.YtcmeiecgijmdjaaDoorCards
import Derived.Test.YtcmeiecgijmdjaaDoorTie
import Derived.SevenTiedAt
namespace Go.Proofs.YtcmeiecgijmdjaaDoor.topScores
open Go

/-- the statement -/
theorem card : Rows.TopScoresCardSaid :=
  Claim7.holds_tied_plain_at .later [] [.data] true (true, "c7cf1a86ae82946ea0fba81c661f2359e06b3606acdc2297acc4cf338a6f0575") false
    over (fun _ h => by cases h) (by kernel_rfl) (fun _ h => by cases h) topScores_row_tie rfl ⟨rfl, rfl⟩ (by kernel_rfl) rfl
    (fun f fn hf hfn => by
      obtain rfl : f = 3 := Option.some.inj ((show Tryd.prog.funcNamed "haruspex/haruspextop.TopScores" = some 3 by kernel_rfl).symm.trans hf) |>.symm
      obtain rfl : fn = Tryd.f3 := (Option.some.inj (Tryd.func3.symm.trans hfn)).symm
      exact ⟨by kernel_rfl, fun j t ht => by
        rw [Tryd.params3] at ht
        have hm : t ∈ [25, 5, 26, 26] := by simpa using Array.mem_of_getElem? ht
        have hall : ([25, 5, 26, 26].all fun u => !Tryd.prog.wantsStandIn u) = true := by kernel_rfl
        exact (show Tryd.prog.wantsStandIn t = false by simpa using List.all_eq_true.1 hall t hm)⟩)
    (by kernel_rfl)
#print axioms card
end Go.Proofs.YtcmeiecgijmdjaaDoor.topScores
