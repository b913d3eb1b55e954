/- SearchGrows: the tied card. -/
import Derived.Test.YtglpoiaedkoecaaDoorCGrows10
import Derived.Test.YtglpoiaedkoecaaDoorCards
import Derived.Test.YtglpoiaedkoecaaDoorTie
import Derived.SevenTiedAt
namespace Go.Proofs.YtglpoiaedkoecaaDoor.searchGrows
open Go

/-- the statement -/
theorem card : Rows.SearchGrowsCardSaid :=
  Claim7.holds_tied_plain_at .later [] [.data] true (true, "6fcc52998393d7949d79dd0e025525d9b68e07bd05591da69b138b078effbff6") false
    over (fun _ h => by cases h) (by kernel_rfl) (fun _ h => by cases h) searchGrows_row_tie rfl ⟨rfl, rfl⟩ (by kernel_rfl) rfl
    (fun f fn hf hfn => by
      obtain rfl : f = 17 := Option.some.inj ((show Tryd.prog.funcNamed "haruspex/haruspexlaw29.SearchGrows" = some 17 by kernel_rfl).symm.trans hf) |>.symm
      obtain rfl : fn = Tryd.f17 := (Option.some.inj (Tryd.func17.symm.trans hfn)).symm
      exact ⟨by kernel_rfl, fun j t ht => by
        rw [Tryd.params17] at ht
        have hm : t ∈ [25, 5] := by simpa using Array.mem_of_getElem? ht
        have hall : ([25, 5].all fun u => !Tryd.prog.wantsStandIn u) = true := by kernel_rfl
        exact (show Tryd.prog.wantsStandIn t = false by simpa using List.all_eq_true.1 hall t hm)⟩)
    (by kernel_rfl)
#print axioms card
end Go.Proofs.YtglpoiaedkoecaaDoor.searchGrows
