/-
  DERIVED. GIVEN WITH THE SEED: THE CARDS: each row of YtglpoiaedkoecaaDoorRows.lean that lists a variable, with what it lists TIED to the program's text (the seventh form; the later family's looks); each row that meets fmt, with fmt's text TOLD by the authors' own Lean function (tested against real Go, not proved from fmt's source: count such statements apart). THE CARD IS WHAT COUNTS. Prove the row's statement (the work); the ties are given (YtglpoiaedkoecaaDoorTie.lean); close each card by the builder's one call (the guide's Derived/Test/ToyasCard.lean, 'card_holds'). Laid BY PROGRAM, IN A SANDBOX (cutbox-door.mjs). By AI agents, Wed Nov 11 2026. No macro, syntax, notation, axiom, sorry.
-/
import Derived.Test.YtglpoiaedkoecaaDoorRows
import GoSem.ClaimSeven
namespace Go.Proofs.YtglpoiaedkoecaaDoor
namespace Rows

/-- THE TIED CARD OF 'haruspexlaw28.ScoreFamilies'. -/
def scoreFamiliesCard : Claim7 := { stood := { row := scoreFamiliesRow, standIns := [], harness := (true, "6fcc52998393d7949d79dd0e025525d9b68e07bd05591da69b138b078effbff6"), looks := false }, kinds := [], alts := [], laidByText := true, laidKinds := [.data], laidTests := true, laidLooks := .later }
def ScoreFamiliesCardSaid : Prop := Claim7.holds Tryd.pinned (.plain (OpenSpec.ofChange scoreFamiliesSpec)) scoreFamiliesCard

/-- THE TIED CARD OF 'haruspexlaw28.ScoreGraphs'. -/
def scoreGraphsCard : Claim7 := { stood := { row := scoreGraphsRow, standIns := [], harness := (true, "6fcc52998393d7949d79dd0e025525d9b68e07bd05591da69b138b078effbff6"), looks := false }, kinds := [], alts := [], laidByText := true, laidKinds := [.data], laidTests := true, laidLooks := .later }
def ScoreGraphsCardSaid : Prop := Claim7.holds Tryd.pinned (.plain (OpenSpec.ofChange scoreGraphsSpec)) scoreGraphsCard

/-- THE TIED CARD OF 'haruspexlaw28.ScoreNumbers'. -/
def scoreNumbersCard : Claim7 := { stood := { row := scoreNumbersRow, standIns := [], harness := (true, "6fcc52998393d7949d79dd0e025525d9b68e07bd05591da69b138b078effbff6"), looks := false }, kinds := [], alts := [], laidByText := true, laidKinds := [.data], laidTests := true, laidLooks := .later }
def ScoreNumbersCardSaid : Prop := Claim7.holds Tryd.pinned (.plain (OpenSpec.ofChange scoreNumbersSpec)) scoreNumbersCard

/-- THE TIED CARD OF 'haruspextop.TopScores'. -/
def topScoresCard : Claim7 := { stood := { row := topScoresRow, standIns := [], harness := (true, "6fcc52998393d7949d79dd0e025525d9b68e07bd05591da69b138b078effbff6"), looks := false }, kinds := [], alts := [], laidByText := true, laidKinds := [.data], laidTests := true, laidLooks := .later }
def TopScoresCardSaid : Prop := Claim7.holds Tryd.pinned (.plain (OpenSpec.ofChange topScoresSpec)) topScoresCard

/-- THE TIED CARD OF 'haruspexlaw28.ScoreSigns'. -/
def scoreSignsCard : Claim7 := { stood := { row := scoreSignsRow, standIns := [], harness := (true, "6fcc52998393d7949d79dd0e025525d9b68e07bd05591da69b138b078effbff6"), looks := false }, kinds := [], alts := [], laidByText := true, laidKinds := [.data], laidTests := true, laidLooks := .later }
def ScoreSignsCardSaid : Prop := Claim7.holds Tryd.pinned (.plain (OpenSpec.ofChange scoreSignsSpec)) scoreSignsCard

/-- THE TIED CARD OF 'haruspexlaw28.ScoreKnown'. -/
def scoreKnownCard : Claim7 := { stood := { row := scoreKnownRow, standIns := [], harness := (true, "6fcc52998393d7949d79dd0e025525d9b68e07bd05591da69b138b078effbff6"), looks := false }, kinds := [], alts := [], laidByText := true, laidKinds := [.data], laidTests := true, laidLooks := .later }
def ScoreKnownCardSaid : Prop := Claim7.holds Tryd.pinned (.plain (OpenSpec.ofChange scoreKnownSpec)) scoreKnownCard

/-- THE TIED CARD OF 'haruspexlaw28.ScoreGrows'. -/
def scoreGrowsCard : Claim7 := { stood := { row := scoreGrowsRow, standIns := [], harness := (true, "6fcc52998393d7949d79dd0e025525d9b68e07bd05591da69b138b078effbff6"), looks := false }, kinds := [], alts := [], laidByText := true, laidKinds := [.data], laidTests := true, laidLooks := .later }
def ScoreGrowsCardSaid : Prop := Claim7.holds Tryd.pinned (.plain (OpenSpec.ofChange scoreGrowsSpec)) scoreGrowsCard

/-- THE TIED CARD OF 'haruspexlaw28.ScoreOrder'. -/
def scoreOrderCard : Claim7 := { stood := { row := scoreOrderRow, standIns := [], harness := (true, "6fcc52998393d7949d79dd0e025525d9b68e07bd05591da69b138b078effbff6"), looks := false }, kinds := [], alts := [], laidByText := true, laidKinds := [.data], laidTests := true, laidLooks := .later }
def ScoreOrderCardSaid : Prop := Claim7.holds Tryd.pinned (.plain (OpenSpec.ofChange scoreOrderSpec)) scoreOrderCard

/-- THE TIED CARD OF 'haruspexlaw29.SearchLadders'. -/
def searchLaddersCard : Claim7 := { stood := { row := searchLaddersRow, standIns := [], harness := (true, "6fcc52998393d7949d79dd0e025525d9b68e07bd05591da69b138b078effbff6"), looks := false }, kinds := [], alts := [], laidByText := true, laidKinds := [.data], laidTests := true, laidLooks := .later }
def SearchLaddersCardSaid : Prop := Claim7.holds Tryd.pinned (.plain (OpenSpec.ofChange searchLaddersSpec)) searchLaddersCard

/-- THE TIED CARD OF 'haruspexlaw29.SearchTops'. -/
def searchTopsCard : Claim7 := { stood := { row := searchTopsRow, standIns := [], harness := (true, "6fcc52998393d7949d79dd0e025525d9b68e07bd05591da69b138b078effbff6"), looks := false }, kinds := [], alts := [], laidByText := true, laidKinds := [.data], laidTests := true, laidLooks := .later }
def SearchTopsCardSaid : Prop := Claim7.holds Tryd.pinned (.plain (OpenSpec.ofChange searchTopsSpec)) searchTopsCard

/-- THE TIED CARD OF 'haruspexlaw29.SearchRights'. -/
def searchRightsCard : Claim7 := { stood := { row := searchRightsRow, standIns := [], harness := (true, "6fcc52998393d7949d79dd0e025525d9b68e07bd05591da69b138b078effbff6"), looks := false }, kinds := [], alts := [], laidByText := true, laidKinds := [.data], laidTests := true, laidLooks := .later }
def SearchRightsCardSaid : Prop := Claim7.holds Tryd.pinned (.plain (OpenSpec.ofChange searchRightsSpec)) searchRightsCard

/-- THE TIED CARD OF 'haruspexlaw29.SearchKnown'. -/
def searchKnownCard : Claim7 := { stood := { row := searchKnownRow, standIns := [], harness := (true, "6fcc52998393d7949d79dd0e025525d9b68e07bd05591da69b138b078effbff6"), looks := false }, kinds := [], alts := [], laidByText := true, laidKinds := [.data], laidTests := true, laidLooks := .later }
def SearchKnownCardSaid : Prop := Claim7.holds Tryd.pinned (.plain (OpenSpec.ofChange searchKnownSpec)) searchKnownCard

/-- THE TIED CARD OF 'haruspexlaw29.SearchBest'. -/
def searchBestCard : Claim7 := { stood := { row := searchBestRow, standIns := [], harness := (true, "6fcc52998393d7949d79dd0e025525d9b68e07bd05591da69b138b078effbff6"), looks := false }, kinds := [], alts := [], laidByText := true, laidKinds := [.data], laidTests := true, laidLooks := .later }
def SearchBestCardSaid : Prop := Claim7.holds Tryd.pinned (.plain (OpenSpec.ofChange searchBestSpec)) searchBestCard

/-- THE TIED CARD OF 'haruspexlaw29.SearchAll'. -/
def searchAllCard : Claim7 := { stood := { row := searchAllRow, standIns := [], harness := (true, "6fcc52998393d7949d79dd0e025525d9b68e07bd05591da69b138b078effbff6"), looks := false }, kinds := [], alts := [], laidByText := true, laidKinds := [.data], laidTests := true, laidLooks := .later }
def SearchAllCardSaid : Prop := Claim7.holds Tryd.pinned (.plain (OpenSpec.ofChange searchAllSpec)) searchAllCard

/-- THE TIED CARD OF 'haruspexlaw29.SearchGrows'. -/
def searchGrowsCard : Claim7 := { stood := { row := searchGrowsRow, standIns := [], harness := (true, "6fcc52998393d7949d79dd0e025525d9b68e07bd05591da69b138b078effbff6"), looks := false }, kinds := [], alts := [], laidByText := true, laidKinds := [.data], laidTests := true, laidLooks := .later }
def SearchGrowsCardSaid : Prop := Claim7.holds Tryd.pinned (.plain (OpenSpec.ofChange searchGrowsSpec)) searchGrowsCard

/-- THE SECOND FORM's CARD OF 'haruspexlaw28.ScoreFamilies'. -/
def scoreFamiliesUptoCard : Claim7 := { stood := { row := scoreFamiliesUptoRow, standIns := [], harness := (true, "6fcc52998393d7949d79dd0e025525d9b68e07bd05591da69b138b078effbff6"), looks := false }, kinds := [], alts := [], laidByText := true, laidKinds := [.data], laidTests := true, laidLooks := .later }
def ScoreFamiliesUptoCardSaid : Prop := Claim7.holds Tryd.pinned (.plain (OpenSpec.upto scoreFamiliesSpec)) scoreFamiliesUptoCard

/-- THE SECOND FORM's CARD OF 'haruspexlaw28.ScoreGraphs'. -/
def scoreGraphsUptoCard : Claim7 := { stood := { row := scoreGraphsUptoRow, standIns := [], harness := (true, "6fcc52998393d7949d79dd0e025525d9b68e07bd05591da69b138b078effbff6"), looks := false }, kinds := [], alts := [], laidByText := true, laidKinds := [.data], laidTests := true, laidLooks := .later }
def ScoreGraphsUptoCardSaid : Prop := Claim7.holds Tryd.pinned (.plain (OpenSpec.upto scoreGraphsSpec)) scoreGraphsUptoCard

/-- THE SECOND FORM's CARD OF 'haruspexlaw28.ScoreNumbers'. -/
def scoreNumbersUptoCard : Claim7 := { stood := { row := scoreNumbersUptoRow, standIns := [], harness := (true, "6fcc52998393d7949d79dd0e025525d9b68e07bd05591da69b138b078effbff6"), looks := false }, kinds := [], alts := [], laidByText := true, laidKinds := [.data], laidTests := true, laidLooks := .later }
def ScoreNumbersUptoCardSaid : Prop := Claim7.holds Tryd.pinned (.plain (OpenSpec.upto scoreNumbersSpec)) scoreNumbersUptoCard

/-- THE SECOND FORM's CARD OF 'haruspextop.TopScores'. -/
def topScoresUptoCard : Claim7 := { stood := { row := topScoresUptoRow, standIns := [], harness := (true, "6fcc52998393d7949d79dd0e025525d9b68e07bd05591da69b138b078effbff6"), looks := false }, kinds := [], alts := [], laidByText := true, laidKinds := [.data], laidTests := true, laidLooks := .later }
def TopScoresUptoCardSaid : Prop := Claim7.holds Tryd.pinned (.plain (OpenSpec.upto topScoresSpec)) topScoresUptoCard

/-- THE SECOND FORM's CARD OF 'haruspexlaw28.ScoreSigns'. -/
def scoreSignsUptoCard : Claim7 := { stood := { row := scoreSignsUptoRow, standIns := [], harness := (true, "6fcc52998393d7949d79dd0e025525d9b68e07bd05591da69b138b078effbff6"), looks := false }, kinds := [], alts := [], laidByText := true, laidKinds := [.data], laidTests := true, laidLooks := .later }
def ScoreSignsUptoCardSaid : Prop := Claim7.holds Tryd.pinned (.plain (OpenSpec.upto scoreSignsSpec)) scoreSignsUptoCard

/-- THE SECOND FORM's CARD OF 'haruspexlaw28.ScoreKnown'. -/
def scoreKnownUptoCard : Claim7 := { stood := { row := scoreKnownUptoRow, standIns := [], harness := (true, "6fcc52998393d7949d79dd0e025525d9b68e07bd05591da69b138b078effbff6"), looks := false }, kinds := [], alts := [], laidByText := true, laidKinds := [.data], laidTests := true, laidLooks := .later }
def ScoreKnownUptoCardSaid : Prop := Claim7.holds Tryd.pinned (.plain (OpenSpec.upto scoreKnownSpec)) scoreKnownUptoCard

/-- THE SECOND FORM's CARD OF 'haruspexlaw28.ScoreGrows'. -/
def scoreGrowsUptoCard : Claim7 := { stood := { row := scoreGrowsUptoRow, standIns := [], harness := (true, "6fcc52998393d7949d79dd0e025525d9b68e07bd05591da69b138b078effbff6"), looks := false }, kinds := [], alts := [], laidByText := true, laidKinds := [.data], laidTests := true, laidLooks := .later }
def ScoreGrowsUptoCardSaid : Prop := Claim7.holds Tryd.pinned (.plain (OpenSpec.upto scoreGrowsSpec)) scoreGrowsUptoCard

/-- THE SECOND FORM's CARD OF 'haruspexlaw28.ScoreOrder'. -/
def scoreOrderUptoCard : Claim7 := { stood := { row := scoreOrderUptoRow, standIns := [], harness := (true, "6fcc52998393d7949d79dd0e025525d9b68e07bd05591da69b138b078effbff6"), looks := false }, kinds := [], alts := [], laidByText := true, laidKinds := [.data], laidTests := true, laidLooks := .later }
def ScoreOrderUptoCardSaid : Prop := Claim7.holds Tryd.pinned (.plain (OpenSpec.upto scoreOrderSpec)) scoreOrderUptoCard

/-- THE SECOND FORM's CARD OF 'haruspexlaw29.SearchLadders'. -/
def searchLaddersUptoCard : Claim7 := { stood := { row := searchLaddersUptoRow, standIns := [], harness := (true, "6fcc52998393d7949d79dd0e025525d9b68e07bd05591da69b138b078effbff6"), looks := false }, kinds := [], alts := [], laidByText := true, laidKinds := [.data], laidTests := true, laidLooks := .later }
def SearchLaddersUptoCardSaid : Prop := Claim7.holds Tryd.pinned (.plain (OpenSpec.upto searchLaddersSpec)) searchLaddersUptoCard

/-- THE SECOND FORM's CARD OF 'haruspexlaw29.SearchTops'. -/
def searchTopsUptoCard : Claim7 := { stood := { row := searchTopsUptoRow, standIns := [], harness := (true, "6fcc52998393d7949d79dd0e025525d9b68e07bd05591da69b138b078effbff6"), looks := false }, kinds := [], alts := [], laidByText := true, laidKinds := [.data], laidTests := true, laidLooks := .later }
def SearchTopsUptoCardSaid : Prop := Claim7.holds Tryd.pinned (.plain (OpenSpec.upto searchTopsSpec)) searchTopsUptoCard

/-- THE SECOND FORM's CARD OF 'haruspexlaw29.SearchRights'. -/
def searchRightsUptoCard : Claim7 := { stood := { row := searchRightsUptoRow, standIns := [], harness := (true, "6fcc52998393d7949d79dd0e025525d9b68e07bd05591da69b138b078effbff6"), looks := false }, kinds := [], alts := [], laidByText := true, laidKinds := [.data], laidTests := true, laidLooks := .later }
def SearchRightsUptoCardSaid : Prop := Claim7.holds Tryd.pinned (.plain (OpenSpec.upto searchRightsSpec)) searchRightsUptoCard

/-- THE SECOND FORM's CARD OF 'haruspexlaw29.SearchKnown'. -/
def searchKnownUptoCard : Claim7 := { stood := { row := searchKnownUptoRow, standIns := [], harness := (true, "6fcc52998393d7949d79dd0e025525d9b68e07bd05591da69b138b078effbff6"), looks := false }, kinds := [], alts := [], laidByText := true, laidKinds := [.data], laidTests := true, laidLooks := .later }
def SearchKnownUptoCardSaid : Prop := Claim7.holds Tryd.pinned (.plain (OpenSpec.upto searchKnownSpec)) searchKnownUptoCard

/-- THE SECOND FORM's CARD OF 'haruspexlaw29.SearchBest'. -/
def searchBestUptoCard : Claim7 := { stood := { row := searchBestUptoRow, standIns := [], harness := (true, "6fcc52998393d7949d79dd0e025525d9b68e07bd05591da69b138b078effbff6"), looks := false }, kinds := [], alts := [], laidByText := true, laidKinds := [.data], laidTests := true, laidLooks := .later }
def SearchBestUptoCardSaid : Prop := Claim7.holds Tryd.pinned (.plain (OpenSpec.upto searchBestSpec)) searchBestUptoCard

/-- THE SECOND FORM's CARD OF 'haruspexlaw29.SearchAll'. -/
def searchAllUptoCard : Claim7 := { stood := { row := searchAllUptoRow, standIns := [], harness := (true, "6fcc52998393d7949d79dd0e025525d9b68e07bd05591da69b138b078effbff6"), looks := false }, kinds := [], alts := [], laidByText := true, laidKinds := [.data], laidTests := true, laidLooks := .later }
def SearchAllUptoCardSaid : Prop := Claim7.holds Tryd.pinned (.plain (OpenSpec.upto searchAllSpec)) searchAllUptoCard

/-- THE SECOND FORM's CARD OF 'haruspexlaw29.SearchGrows'. -/
def searchGrowsUptoCard : Claim7 := { stood := { row := searchGrowsUptoRow, standIns := [], harness := (true, "6fcc52998393d7949d79dd0e025525d9b68e07bd05591da69b138b078effbff6"), looks := false }, kinds := [], alts := [], laidByText := true, laidKinds := [.data], laidTests := true, laidLooks := .later }
def SearchGrowsUptoCardSaid : Prop := Claim7.holds Tryd.pinned (.plain (OpenSpec.upto searchGrowsSpec)) searchGrowsUptoCard
end Rows
end Go.Proofs.YtglpoiaedkoecaaDoor
