/-
  DERIVED. GIVEN WITH THE SEED: THE CARDS: each row of YtakfneapahohkaaDoorRows.lean that lists a variable, with what it lists TIED to the program's text (the seventh form; the later family's looks); each row that meets fmt, with fmt's text TOLD by the authors' own Lean function (tested against real Go, not proved from fmt's source: count such statements apart). THE CARD IS WHAT COUNTS. Prove the row's statement (the work); the ties are given (YtakfneapahohkaaDoorTie.lean); close each card by the builder's one call (the guide's Derived/Test/ToyasCard.lean, 'card_holds'). Laid BY PROGRAM, IN A SANDBOX (cutbox-door.mjs). By AI agents, Wed Nov 11 2026. No macro, syntax, notation, axiom, sorry.
-/
import Derived.Test.YtakfneapahohkaaDoorRows
import GoSem.ClaimSeven
namespace Go.Proofs.YtakfneapahohkaaDoor
namespace Rows

/-- THE TIED CARD OF 'haruspexlaw29.SearchTops'. -/
def searchTopsCard : Claim7 := { stood := { row := searchTopsRow, standIns := [], harness := (true, "8fae3298d35c205856fd94e64a72e5372080c7f83701647c43df029ae16638c8"), looks := false }, kinds := [], alts := [], laidByText := true, laidKinds := [.data], laidTests := true, laidLooks := .later }
def SearchTopsCardSaid : Prop := Claim7.holds Tryd.pinned (.plain (OpenSpec.ofChange searchTopsSpec)) searchTopsCard

/-- THE TIED CARD OF 'haruspexlaw29.SearchRights'. -/
def searchRightsCard : Claim7 := { stood := { row := searchRightsRow, standIns := [], harness := (true, "8fae3298d35c205856fd94e64a72e5372080c7f83701647c43df029ae16638c8"), looks := false }, kinds := [], alts := [], laidByText := true, laidKinds := [.data], laidTests := true, laidLooks := .later }
def SearchRightsCardSaid : Prop := Claim7.holds Tryd.pinned (.plain (OpenSpec.ofChange searchRightsSpec)) searchRightsCard

/-- THE SECOND FORM's CARD OF 'haruspexlaw29.SearchTops'. -/
def searchTopsUptoCard : Claim7 := { stood := { row := searchTopsUptoRow, standIns := [], harness := (true, "8fae3298d35c205856fd94e64a72e5372080c7f83701647c43df029ae16638c8"), looks := false }, kinds := [], alts := [], laidByText := true, laidKinds := [.data], laidTests := true, laidLooks := .later }
def SearchTopsUptoCardSaid : Prop := Claim7.holds Tryd.pinned (.plain (OpenSpec.upto searchTopsSpec)) searchTopsUptoCard

/-- THE SECOND FORM's CARD OF 'haruspexlaw29.SearchRights'. -/
def searchRightsUptoCard : Claim7 := { stood := { row := searchRightsUptoRow, standIns := [], harness := (true, "8fae3298d35c205856fd94e64a72e5372080c7f83701647c43df029ae16638c8"), looks := false }, kinds := [], alts := [], laidByText := true, laidKinds := [.data], laidTests := true, laidLooks := .later }
def SearchRightsUptoCardSaid : Prop := Claim7.holds Tryd.pinned (.plain (OpenSpec.upto searchRightsSpec)) searchRightsUptoCard
end Rows
end Go.Proofs.YtakfneapahohkaaDoor
