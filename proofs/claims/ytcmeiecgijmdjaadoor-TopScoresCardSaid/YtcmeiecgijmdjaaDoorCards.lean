/-
  DERIVED. GIVEN WITH THE SEED: THE CARDS: each row of YtcmeiecgijmdjaaDoorRows.lean that lists a variable, with what it lists TIED to the program's text (the seventh form; the later family's looks); each row that meets fmt, with fmt's text TOLD by the authors' own Lean function (tested against real Go, not proved from fmt's source: count such statements apart). THE CARD IS WHAT COUNTS. Prove the row's statement (the work); the ties are given (YtcmeiecgijmdjaaDoorTie.lean); close each card by the builder's one call (the guide's Derived/Test/ToyasCard.lean, 'card_holds'). Laid BY PROGRAM, IN A SANDBOX (cutbox-door.mjs). By AI agents, Wed Nov 11 2026. No macro, syntax, notation, axiom, sorry.
-/
import Derived.Test.YtcmeiecgijmdjaaDoorRows
import GoSem.ClaimSeven
namespace Go.Proofs.YtcmeiecgijmdjaaDoor
namespace Rows

/-- THE TIED CARD OF 'haruspextop.TopScores'. -/
def topScoresCard : Claim7 := { stood := { row := topScoresRow, standIns := [], harness := (true, "c7cf1a86ae82946ea0fba81c661f2359e06b3606acdc2297acc4cf338a6f0575"), looks := false }, kinds := [], alts := [], laidByText := true, laidKinds := [.data], laidTests := true, laidLooks := .later }
def TopScoresCardSaid : Prop := Claim7.holds Tryd.pinned (.plain (OpenSpec.ofChange topScoresSpec)) topScoresCard

/-- THE SECOND FORM's CARD OF 'haruspextop.TopScores'. -/
def topScoresUptoCard : Claim7 := { stood := { row := topScoresUptoRow, standIns := [], harness := (true, "c7cf1a86ae82946ea0fba81c661f2359e06b3606acdc2297acc4cf338a6f0575"), looks := false }, kinds := [], alts := [], laidByText := true, laidKinds := [.data], laidTests := true, laidLooks := .later }
def TopScoresUptoCardSaid : Prop := Claim7.holds Tryd.pinned (.plain (OpenSpec.upto topScoresSpec)) topScoresUptoCard
end Rows
end Go.Proofs.YtcmeiecgijmdjaaDoor
