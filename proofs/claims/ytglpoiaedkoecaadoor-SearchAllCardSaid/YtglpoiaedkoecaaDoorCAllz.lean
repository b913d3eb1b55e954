/- SearchAll: the tied card. -/
import Derived.Test.YtglpoiaedkoecaaDoorCAll11
import Derived.Test.YtglpoiaedkoecaaDoorCards
import Derived.Test.YtglpoiaedkoecaaDoorTie
import Derived.SevenTiedAt
namespace Go.Proofs.YtglpoiaedkoecaaDoor.searchAll
open Go

/-- the statement -/
theorem card : Rows.SearchAllCardSaid :=
  Claim7.holds_tied_plain_at .later [] [.data] true (true, "6fcc52998393d7949d79dd0e025525d9b68e07bd05591da69b138b078effbff6") false
    over (fun _ h => by cases h) (by kernel_rfl) (fun _ h => by cases h) searchAll_row_tie rfl ⟨rfl, rfl⟩ (by kernel_rfl) rfl
    (fun f fn hf hfn => by
      obtain rfl : f = 16 := Option.some.inj ((show Tryd.prog.funcNamed "haruspex/haruspexlaw29.SearchAll" = some 16 by kernel_rfl).symm.trans hf) |>.symm
      obtain rfl : fn = Tryd.f16 := (Option.some.inj (Tryd.func16.symm.trans hfn)).symm
      exact ⟨by kernel_rfl, fun j t ht => by
        rw [Tryd.params16] at ht
        have hm : t ∈ [25, 101, 5] := by simpa using Array.mem_of_getElem? ht
        have hall : ([25, 101, 5].all fun u => !Tryd.prog.wantsStandIn u) = true := by kernel_rfl
        exact (show Tryd.prog.wantsStandIn t = false by simpa using List.all_eq_true.1 hall t hm)⟩)
    (by kernel_rfl)
#print axioms card
end Go.Proofs.YtglpoiaedkoecaaDoor.searchAll
