/- SearchRights: the tied card. -/
import Derived.Test.YtakfneapahohkaaDoorCRights13
import Derived.Test.YtakfneapahohkaaDoorCards
import Derived.Test.YtakfneapahohkaaDoorTie
import Derived.SevenTiedAt
namespace Go.Proofs.YtakfneapahohkaaDoor.searchRights
open Go

/-- the statement -/
theorem card : Rows.SearchRightsCardSaid :=
  Claim7.holds_tied_plain_at .later [] [.data] true (true, "8fae3298d35c205856fd94e64a72e5372080c7f83701647c43df029ae16638c8") false
    over (fun _ h => by cases h) (by kernel_rfl) (fun _ h => by cases h) searchRights_row_tie rfl ⟨rfl, rfl⟩ (by kernel_rfl) rfl
    (fun f fn hf hfn => by
      obtain rfl : f = 4 := Option.some.inj ((show Tryd.prog.funcNamed "haruspex/haruspexlaw29.SearchRights" = some 4 by kernel_rfl).symm.trans hf) |>.symm
      obtain rfl : fn = Tryd.f4 := (Option.some.inj (Tryd.func4.symm.trans hfn)).symm
      exact ⟨by kernel_rfl, fun j t ht => by
        rw [Tryd.params4] at ht
        have hm : t ∈ [25, 27, 3, 55, 56, 43] := by simpa using Array.mem_of_getElem? ht
        have jf : ([25, 27, 3, 55, 56, 43].all fun u => !Tryd.prog.wantsStandIn u) = true := by kernel_rfl
        exact (show Tryd.prog.wantsStandIn t = false by simpa using List.all_eq_true.1 jf t hm)⟩)
    (by kernel_rfl)
#print axioms card
end Go.Proofs.YtakfneapahohkaaDoor.searchRights
