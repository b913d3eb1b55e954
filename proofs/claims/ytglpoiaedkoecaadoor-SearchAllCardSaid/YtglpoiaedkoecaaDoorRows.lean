/-
  NARROWER THAN 'FOR EVERY INPUT', by the rows' own cells (each row's printed sentence says how): ScoreFamilies: laid · ScoreGraphs: laid · ScoreNumbers: laid · TopScores: laid · ScoreSigns: laid · ScoreKnown: laid · ScoreGrows: laid · ScoreOrder: laid · SearchLadders: laid · SearchTops: laid · SearchRights: laid · SearchKnown: laid · SearchBest: laid · SearchAll: laid · SearchGrows: laid.
  DERIVED. THE GIVEN ROWS OF THIS SEAT. 15 by the template 'for every input the law returns true; each argument reads behind the call as it read before'; 0 by the template 'total and deterministic' (their statements: YtglpoiaedkoecaaDoorTotals.lean).
  GIVEN WITH THE SEED: the statements are not yours to turn. If you find one false, say at which input.
  Laid BY PROGRAM, IN A SANDBOX (cutbox-rows.mjs): the forced cells as the released guide's own fill.sh prints them over the translation 6ed292d41e83aa64… (all of the seat's roots in one cut). By AI agents, Wed Nov 11 2026. No macro, syntax, notation, axiom, sorry.
-/
import Derived.Test.YtglpoiaedkoecaaDoorChecked
import GoSem.Claim
import GoSem.ClaimJoined
import GoSem.ClaimMapViews
import Derived.JoinedTies
import Derived.KernelRfl
namespace Go.Proofs.YtglpoiaedkoecaaDoor
/- THE CELL 'sum', in the pinned program and in every row, IS THE sha256 OF THE DUMP (.gsa) THAT YtglpoiaedkoecaaDoorProg.lean LOADS. Nothing in Lean hashes anything: it is a label: what it is worth is what the hold of that sum in a sandbox is worth. -/
noncomputable def Tryd.pinned : Pinned := { name := "ytglpoiaedkoecaadoor", sum := "6ed292d41e83aa646e0451086c6904a0e02fc6d5df6eece4753a92311b09a362", checked := Tryd.checked }
namespace Rows
def none {H : Type} : Left H := { results := [], args := [] }

/- WHAT THE LISTED PACKAGE-LEVEL VARIABLES READ AS WHEN THE CALL BEGINS. Each datum BY PROGRAM (the guide's laid-datum.mjs) off the statement by which the dump's own 'gosem.cut.vars' lays the variable. In a bare row this is a premise. The card (YtglpoiaedkoecaaDoorCards.lean) ties it to the program's text. -/
def laid_haruspex_score_primes {H : Type} : DataW H := .agg [.lit (.int .i64 2), .lit (.int .i64 3), .lit (.int .i64 5), .lit (.int .i64 7), .lit (.int .i64 11), .lit (.int .i64 13), .lit (.int .i64 17), .lit (.int .i64 19), .lit (.int .i64 23), .lit (.int .i64 29), .lit (.int .i64 31), .lit (.int .i64 37), .lit (.int .i64 41), .lit (.int .i64 43), .lit (.int .i64 47), .lit (.int .i64 53), .lit (.int .i64 59), .lit (.int .i64 61)]

/-- 'haruspexlaw28.ScoreFamilies': WHATEVER THE INPUT: true; the input reads as it did. -/
def scoreFamiliesSpec : ChangeSpec := { name := "scoreFamilies", fn := fun _ => fun
  | [d1, d2, d3, d4] => { results := [.lit (.bool true)], args := [d1, d2, d3, d4] }
  | _ => none }
def scoreFamiliesRow : OpenClaim := { program := "ytglpoiaedkoecaadoor", sum := "6ed292d41e83aa646e0451086c6904a0e02fc6d5df6eece4753a92311b09a362", func := "haruspex/haruspexlaw28.ScoreFamilies", spec := "scoreFamilies", inPlace := ["math/bits.Add64"], unfollowed := true, recurses := true, named := ["haruspex/score.primes"], plainKeys := false, apart := false, laid := [("haruspex/score.primes", laid_haruspex_score_primes)] }
def ScoreFamiliesSaid : Prop := scoreFamiliesRow.holds Tryd.pinned (OpenSpec.ofChange scoreFamiliesSpec)

/-- ITS FALSE NEIGHBOUR: 'it returns false'. Refute it at one input. -/
def scoreFamiliesWrong : ChangeSpec := { name := "scoreFamilies", fn := fun _ => fun
  | [d1, d2, d3, d4] => { results := [.lit (.bool false)], args := [d1, d2, d3, d4] }
  | _ => none }
def ScoreFamiliesWrongFalsely : Prop := scoreFamiliesRow.holds Tryd.pinned (OpenSpec.ofChange scoreFamiliesWrong)

/-- 'haruspexlaw28.ScoreGraphs': WHATEVER THE INPUT: true; the input reads as it did. -/
def scoreGraphsSpec : ChangeSpec := { name := "scoreGraphs", fn := fun _ => fun
  | [d1, d2, d3, d4, d5] => { results := [.lit (.bool true)], args := [d1, d2, d3, d4, d5] }
  | _ => none }
def scoreGraphsRow : OpenClaim := { program := "ytglpoiaedkoecaadoor", sum := "6ed292d41e83aa646e0451086c6904a0e02fc6d5df6eece4753a92311b09a362", func := "haruspex/haruspexlaw28.ScoreGraphs", spec := "scoreGraphs", inPlace := ["math/bits.Add64"], unfollowed := true, recurses := true, named := ["haruspex/score.primes"], plainKeys := false, apart := false, laid := [("haruspex/score.primes", laid_haruspex_score_primes)] }
def ScoreGraphsSaid : Prop := scoreGraphsRow.holds Tryd.pinned (OpenSpec.ofChange scoreGraphsSpec)

/-- ITS FALSE NEIGHBOUR: 'it returns false'. Refute it at one input. -/
def scoreGraphsWrong : ChangeSpec := { name := "scoreGraphs", fn := fun _ => fun
  | [d1, d2, d3, d4, d5] => { results := [.lit (.bool false)], args := [d1, d2, d3, d4, d5] }
  | _ => none }
def ScoreGraphsWrongFalsely : Prop := scoreGraphsRow.holds Tryd.pinned (OpenSpec.ofChange scoreGraphsWrong)

/-- 'haruspexlaw28.ScoreNumbers': WHATEVER THE INPUT: true; the input reads as it did. -/
def scoreNumbersSpec : ChangeSpec := { name := "scoreNumbers", fn := fun _ => fun
  | [d1, d2, d3, d4, d5, d6] => { results := [.lit (.bool true)], args := [d1, d2, d3, d4, d5, d6] }
  | _ => none }
def scoreNumbersRow : OpenClaim := { program := "ytglpoiaedkoecaadoor", sum := "6ed292d41e83aa646e0451086c6904a0e02fc6d5df6eece4753a92311b09a362", func := "haruspex/haruspexlaw28.ScoreNumbers", spec := "scoreNumbers", inPlace := ["math/bits.Add64"], unfollowed := true, recurses := true, named := ["haruspex/score.primes"], plainKeys := false, apart := false, laid := [("haruspex/score.primes", laid_haruspex_score_primes)] }
def ScoreNumbersSaid : Prop := scoreNumbersRow.holds Tryd.pinned (OpenSpec.ofChange scoreNumbersSpec)

/-- ITS FALSE NEIGHBOUR: 'it returns false'. Refute it at one input. -/
def scoreNumbersWrong : ChangeSpec := { name := "scoreNumbers", fn := fun _ => fun
  | [d1, d2, d3, d4, d5, d6] => { results := [.lit (.bool false)], args := [d1, d2, d3, d4, d5, d6] }
  | _ => none }
def ScoreNumbersWrongFalsely : Prop := scoreNumbersRow.holds Tryd.pinned (OpenSpec.ofChange scoreNumbersWrong)

/-- 'haruspextop.TopScores': WHATEVER THE INPUT: true; the input reads as it did. -/
def topScoresSpec : ChangeSpec := { name := "topScores", fn := fun _ => fun
  | [d1, d2, d3, d4] => { results := [.lit (.bool true)], args := [d1, d2, d3, d4] }
  | _ => none }
def topScoresRow : OpenClaim := { program := "ytglpoiaedkoecaadoor", sum := "6ed292d41e83aa646e0451086c6904a0e02fc6d5df6eece4753a92311b09a362", func := "haruspex/haruspextop.TopScores", spec := "topScores", inPlace := ["slices.overlaps[int]", "math/bits.Add64"], unfollowed := true, recurses := true, named := ["haruspex/score.primes"], plainKeys := false, apart := false, laid := [("haruspex/score.primes", laid_haruspex_score_primes)] }
def TopScoresSaid : Prop := topScoresRow.holds Tryd.pinned (OpenSpec.ofChange topScoresSpec)

/-- ITS FALSE NEIGHBOUR: 'it returns false'. Refute it at one input. -/
def topScoresWrong : ChangeSpec := { name := "topScores", fn := fun _ => fun
  | [d1, d2, d3, d4] => { results := [.lit (.bool false)], args := [d1, d2, d3, d4] }
  | _ => none }
def TopScoresWrongFalsely : Prop := topScoresRow.holds Tryd.pinned (OpenSpec.ofChange topScoresWrong)

/-- 'haruspexlaw28.ScoreSigns': WHATEVER THE INPUT: true; the input reads as it did. -/
def scoreSignsSpec : ChangeSpec := { name := "scoreSigns", fn := fun _ => fun
  | [d1, d2, d3, d4, d5] => { results := [.lit (.bool true)], args := [d1, d2, d3, d4, d5] }
  | _ => none }
def scoreSignsRow : OpenClaim := { program := "ytglpoiaedkoecaadoor", sum := "6ed292d41e83aa646e0451086c6904a0e02fc6d5df6eece4753a92311b09a362", func := "haruspex/haruspexlaw28.ScoreSigns", spec := "scoreSigns", inPlace := ["math/bits.Add64"], unfollowed := true, recurses := true, named := ["haruspex/score.primes"], plainKeys := false, apart := false, laid := [("haruspex/score.primes", laid_haruspex_score_primes)] }
def ScoreSignsSaid : Prop := scoreSignsRow.holds Tryd.pinned (OpenSpec.ofChange scoreSignsSpec)

/-- ITS FALSE NEIGHBOUR: 'it returns false'. Refute it at one input. -/
def scoreSignsWrong : ChangeSpec := { name := "scoreSigns", fn := fun _ => fun
  | [d1, d2, d3, d4, d5] => { results := [.lit (.bool false)], args := [d1, d2, d3, d4, d5] }
  | _ => none }
def ScoreSignsWrongFalsely : Prop := scoreSignsRow.holds Tryd.pinned (OpenSpec.ofChange scoreSignsWrong)

/-- 'haruspexlaw28.ScoreKnown': WHATEVER THE INPUT: true; the input reads as it did. -/
def scoreKnownSpec : ChangeSpec := { name := "scoreKnown", fn := fun _ => fun
  | [] => { results := [.lit (.bool true)], args := [] }
  | _ => none }
def scoreKnownRow : OpenClaim := { program := "ytglpoiaedkoecaadoor", sum := "6ed292d41e83aa646e0451086c6904a0e02fc6d5df6eece4753a92311b09a362", func := "haruspex/haruspexlaw28.ScoreKnown", spec := "scoreKnown", inPlace := ["math/bits.Add64"], unfollowed := true, recurses := true, named := ["haruspex/score.primes"], plainKeys := false, apart := false, laid := [("haruspex/score.primes", laid_haruspex_score_primes)] }
def ScoreKnownSaid : Prop := scoreKnownRow.holds Tryd.pinned (OpenSpec.ofChange scoreKnownSpec)

/-- ITS FALSE NEIGHBOUR: 'it returns false'. Refute it at one input. -/
def scoreKnownWrong : ChangeSpec := { name := "scoreKnown", fn := fun _ => fun
  | [] => { results := [.lit (.bool false)], args := [] }
  | _ => none }
def ScoreKnownWrongFalsely : Prop := scoreKnownRow.holds Tryd.pinned (OpenSpec.ofChange scoreKnownWrong)

/-- 'haruspexlaw28.ScoreGrows': WHATEVER THE INPUT: true; the input reads as it did. -/
def scoreGrowsSpec : ChangeSpec := { name := "scoreGrows", fn := fun _ => fun
  | [d1, d2, d3, d4] => { results := [.lit (.bool true)], args := [d1, d2, d3, d4] }
  | _ => none }
def scoreGrowsRow : OpenClaim := { program := "ytglpoiaedkoecaadoor", sum := "6ed292d41e83aa646e0451086c6904a0e02fc6d5df6eece4753a92311b09a362", func := "haruspex/haruspexlaw28.ScoreGrows", spec := "scoreGrows", inPlace := ["math/bits.Add64"], unfollowed := true, recurses := true, named := ["haruspex/score.primes"], plainKeys := false, apart := false, laid := [("haruspex/score.primes", laid_haruspex_score_primes)] }
def ScoreGrowsSaid : Prop := scoreGrowsRow.holds Tryd.pinned (OpenSpec.ofChange scoreGrowsSpec)

/-- ITS FALSE NEIGHBOUR: 'it returns false'. Refute it at one input. -/
def scoreGrowsWrong : ChangeSpec := { name := "scoreGrows", fn := fun _ => fun
  | [d1, d2, d3, d4] => { results := [.lit (.bool false)], args := [d1, d2, d3, d4] }
  | _ => none }
def ScoreGrowsWrongFalsely : Prop := scoreGrowsRow.holds Tryd.pinned (OpenSpec.ofChange scoreGrowsWrong)

/-- 'haruspexlaw28.ScoreOrder': WHATEVER THE INPUT: true; the input reads as it did. -/
def scoreOrderSpec : ChangeSpec := { name := "scoreOrder", fn := fun _ => fun
  | [d1, d2, d3] => { results := [.lit (.bool true)], args := [d1, d2, d3] }
  | _ => none }
def scoreOrderRow : OpenClaim := { program := "ytglpoiaedkoecaadoor", sum := "6ed292d41e83aa646e0451086c6904a0e02fc6d5df6eece4753a92311b09a362", func := "haruspex/haruspexlaw28.ScoreOrder", spec := "scoreOrder", inPlace := ["math/bits.Add64"], unfollowed := true, recurses := true, named := ["haruspex/score.primes"], plainKeys := false, apart := false, laid := [("haruspex/score.primes", laid_haruspex_score_primes)] }
def ScoreOrderSaid : Prop := scoreOrderRow.holds Tryd.pinned (OpenSpec.ofChange scoreOrderSpec)

/-- ITS FALSE NEIGHBOUR: 'it returns false'. Refute it at one input. -/
def scoreOrderWrong : ChangeSpec := { name := "scoreOrder", fn := fun _ => fun
  | [d1, d2, d3] => { results := [.lit (.bool false)], args := [d1, d2, d3] }
  | _ => none }
def ScoreOrderWrongFalsely : Prop := scoreOrderRow.holds Tryd.pinned (OpenSpec.ofChange scoreOrderWrong)

/-- 'haruspexlaw29.SearchLadders': WHATEVER THE INPUT: true; the input reads as it did. -/
def searchLaddersSpec : ChangeSpec := { name := "searchLadders", fn := fun _ => fun
  | [d1, d2, d3] => { results := [.lit (.bool true)], args := [d1, d2, d3] }
  | _ => none }
def searchLaddersRow : OpenClaim := { program := "ytglpoiaedkoecaadoor", sum := "6ed292d41e83aa646e0451086c6904a0e02fc6d5df6eece4753a92311b09a362", func := "haruspex/haruspexlaw29.SearchLadders", spec := "searchLadders", inPlace := ["math/bits.Add64"], unfollowed := true, recurses := true, named := ["haruspex/score.primes"], plainKeys := false, apart := false, laid := [("haruspex/score.primes", laid_haruspex_score_primes)] }
def SearchLaddersSaid : Prop := searchLaddersRow.holds Tryd.pinned (OpenSpec.ofChange searchLaddersSpec)

/-- ITS FALSE NEIGHBOUR: 'it returns false'. Refute it at one input. -/
def searchLaddersWrong : ChangeSpec := { name := "searchLadders", fn := fun _ => fun
  | [d1, d2, d3] => { results := [.lit (.bool false)], args := [d1, d2, d3] }
  | _ => none }
def SearchLaddersWrongFalsely : Prop := searchLaddersRow.holds Tryd.pinned (OpenSpec.ofChange searchLaddersWrong)

/-- 'haruspexlaw29.SearchTops': WHATEVER THE INPUT: true; the input reads as it did. -/
def searchTopsSpec : ChangeSpec := { name := "searchTops", fn := fun _ => fun
  | [d1, d2, d3, d4] => { results := [.lit (.bool true)], args := [d1, d2, d3, d4] }
  | _ => none }
def searchTopsRow : OpenClaim := { program := "ytglpoiaedkoecaadoor", sum := "6ed292d41e83aa646e0451086c6904a0e02fc6d5df6eece4753a92311b09a362", func := "haruspex/haruspexlaw29.SearchTops", spec := "searchTops", inPlace := ["math/bits.Add64"], unfollowed := true, recurses := true, named := ["haruspex/score.primes"], plainKeys := false, apart := false, laid := [("haruspex/score.primes", laid_haruspex_score_primes)] }
def SearchTopsSaid : Prop := searchTopsRow.holds Tryd.pinned (OpenSpec.ofChange searchTopsSpec)

/-- ITS FALSE NEIGHBOUR: 'it returns false'. Refute it at one input. -/
def searchTopsWrong : ChangeSpec := { name := "searchTops", fn := fun _ => fun
  | [d1, d2, d3, d4] => { results := [.lit (.bool false)], args := [d1, d2, d3, d4] }
  | _ => none }
def SearchTopsWrongFalsely : Prop := searchTopsRow.holds Tryd.pinned (OpenSpec.ofChange searchTopsWrong)

/-- 'haruspexlaw29.SearchRights': WHATEVER THE INPUT: true; the input reads as it did. -/
def searchRightsSpec : ChangeSpec := { name := "searchRights", fn := fun _ => fun
  | [d1, d2, d3, d4, d5, d6] => { results := [.lit (.bool true)], args := [d1, d2, d3, d4, d5, d6] }
  | _ => none }
def searchRightsRow : OpenClaim := { program := "ytglpoiaedkoecaadoor", sum := "6ed292d41e83aa646e0451086c6904a0e02fc6d5df6eece4753a92311b09a362", func := "haruspex/haruspexlaw29.SearchRights", spec := "searchRights", inPlace := ["math/bits.Add64"], unfollowed := true, recurses := true, named := ["haruspex/score.primes"], plainKeys := false, apart := false, laid := [("haruspex/score.primes", laid_haruspex_score_primes)] }
def SearchRightsSaid : Prop := searchRightsRow.holds Tryd.pinned (OpenSpec.ofChange searchRightsSpec)

/-- ITS FALSE NEIGHBOUR: 'it returns false'. Refute it at one input. -/
def searchRightsWrong : ChangeSpec := { name := "searchRights", fn := fun _ => fun
  | [d1, d2, d3, d4, d5, d6] => { results := [.lit (.bool false)], args := [d1, d2, d3, d4, d5, d6] }
  | _ => none }
def SearchRightsWrongFalsely : Prop := searchRightsRow.holds Tryd.pinned (OpenSpec.ofChange searchRightsWrong)

/-- 'haruspexlaw29.SearchKnown': WHATEVER THE INPUT: true; the input reads as it did. -/
def searchKnownSpec : ChangeSpec := { name := "searchKnown", fn := fun _ => fun
  | [] => { results := [.lit (.bool true)], args := [] }
  | _ => none }
def searchKnownRow : OpenClaim := { program := "ytglpoiaedkoecaadoor", sum := "6ed292d41e83aa646e0451086c6904a0e02fc6d5df6eece4753a92311b09a362", func := "haruspex/haruspexlaw29.SearchKnown", spec := "searchKnown", inPlace := ["math/bits.Add64"], unfollowed := true, recurses := true, named := ["haruspex/score.primes"], plainKeys := false, apart := false, laid := [("haruspex/score.primes", laid_haruspex_score_primes)] }
def SearchKnownSaid : Prop := searchKnownRow.holds Tryd.pinned (OpenSpec.ofChange searchKnownSpec)

/-- ITS FALSE NEIGHBOUR: 'it returns false'. Refute it at one input. -/
def searchKnownWrong : ChangeSpec := { name := "searchKnown", fn := fun _ => fun
  | [] => { results := [.lit (.bool false)], args := [] }
  | _ => none }
def SearchKnownWrongFalsely : Prop := searchKnownRow.holds Tryd.pinned (OpenSpec.ofChange searchKnownWrong)

/-- 'haruspexlaw29.SearchBest': WHATEVER THE INPUT: true; the input reads as it did. -/
def searchBestSpec : ChangeSpec := { name := "searchBest", fn := fun _ => fun
  | [d1, d2, d3] => { results := [.lit (.bool true)], args := [d1, d2, d3] }
  | _ => none }
def searchBestRow : OpenClaim := { program := "ytglpoiaedkoecaadoor", sum := "6ed292d41e83aa646e0451086c6904a0e02fc6d5df6eece4753a92311b09a362", func := "haruspex/haruspexlaw29.SearchBest", spec := "searchBest", inPlace := ["math/bits.Add64"], unfollowed := true, recurses := true, named := ["haruspex/score.primes"], plainKeys := false, apart := false, laid := [("haruspex/score.primes", laid_haruspex_score_primes)] }
def SearchBestSaid : Prop := searchBestRow.holds Tryd.pinned (OpenSpec.ofChange searchBestSpec)

/-- ITS FALSE NEIGHBOUR: 'it returns false'. Refute it at one input. -/
def searchBestWrong : ChangeSpec := { name := "searchBest", fn := fun _ => fun
  | [d1, d2, d3] => { results := [.lit (.bool false)], args := [d1, d2, d3] }
  | _ => none }
def SearchBestWrongFalsely : Prop := searchBestRow.holds Tryd.pinned (OpenSpec.ofChange searchBestWrong)

/-- 'haruspexlaw29.SearchAll': WHATEVER THE INPUT: true; the input reads as it did. -/
def searchAllSpec : ChangeSpec := { name := "searchAll", fn := fun _ => fun
  | [d1, d2, d3] => { results := [.lit (.bool true)], args := [d1, d2, d3] }
  | _ => none }
def searchAllRow : OpenClaim := { program := "ytglpoiaedkoecaadoor", sum := "6ed292d41e83aa646e0451086c6904a0e02fc6d5df6eece4753a92311b09a362", func := "haruspex/haruspexlaw29.SearchAll", spec := "searchAll", inPlace := ["math/bits.Add64"], unfollowed := true, recurses := true, named := ["haruspex/score.primes"], plainKeys := false, apart := false, laid := [("haruspex/score.primes", laid_haruspex_score_primes)] }
def SearchAllSaid : Prop := searchAllRow.holds Tryd.pinned (OpenSpec.ofChange searchAllSpec)

/-- ITS FALSE NEIGHBOUR: 'it returns false'. Refute it at one input. -/
def searchAllWrong : ChangeSpec := { name := "searchAll", fn := fun _ => fun
  | [d1, d2, d3] => { results := [.lit (.bool false)], args := [d1, d2, d3] }
  | _ => none }
def SearchAllWrongFalsely : Prop := searchAllRow.holds Tryd.pinned (OpenSpec.ofChange searchAllWrong)

/-- 'haruspexlaw29.SearchGrows': WHATEVER THE INPUT: true; the input reads as it did. -/
def searchGrowsSpec : ChangeSpec := { name := "searchGrows", fn := fun _ => fun
  | [d1, d2] => { results := [.lit (.bool true)], args := [d1, d2] }
  | _ => none }
def searchGrowsRow : OpenClaim := { program := "ytglpoiaedkoecaadoor", sum := "6ed292d41e83aa646e0451086c6904a0e02fc6d5df6eece4753a92311b09a362", func := "haruspex/haruspexlaw29.SearchGrows", spec := "searchGrows", inPlace := ["math/bits.Add64"], unfollowed := true, recurses := true, named := ["haruspex/score.primes"], plainKeys := false, apart := false, laid := [("haruspex/score.primes", laid_haruspex_score_primes)] }
def SearchGrowsSaid : Prop := searchGrowsRow.holds Tryd.pinned (OpenSpec.ofChange searchGrowsSpec)

/-- ITS FALSE NEIGHBOUR: 'it returns false'. Refute it at one input. -/
def searchGrowsWrong : ChangeSpec := { name := "searchGrows", fn := fun _ => fun
  | [d1, d2] => { results := [.lit (.bool false)], args := [d1, d2] }
  | _ => none }
def SearchGrowsWrongFalsely : Prop := searchGrowsRow.holds Tryd.pinned (OpenSpec.ofChange searchGrowsWrong)

/- THE SECOND FORM. 'bulk': how many values and letters a reading holds, each counted each time it is reached (what is shared counts as often as it is met; a slice's spare places count too). A statement '..UptoSaid' is the law's where the arguments, and the package variables that the reading takes, are together of bulk at most 1048576: NARROWER than '..Said'. Prove '..Said' where nothing that the law and all that it calls make is longer than what came in: it says more and counts as full. Else prove '..UptoSaid'. A law counts once. -/
mutual
def uptoBulk {H : Type} : DataW H → Nat
  | .lit (.string bytes) => bytes.length + 1
  | .lit _ => 1
  | .nil => 1
  | .ptr d => uptoBulk d + 1
  | .slice elems spare => uptoBulkAll elems + uptoBulkAll spare + 1
  | .agg parts => uptoBulkAll parts + 1
  | .iface _ d => uptoBulk d + 1
  | .map entries => uptoBulkEntries entries + 1
  | .held _ => 1
def uptoBulkAll {H : Type} : List (DataW H) → Nat
  | [] => 0
  | d :: r => uptoBulk d + uptoBulkAll r
def uptoBulkEntries {H : Type} : List (Lit × DataW H) → Nat
  | [] => 0
  | x :: r => uptoBulkEntry x + uptoBulkEntries r
def uptoBulkEntry {H : Type} : Lit × DataW H → Nat
  | (.string bytes, d) => bytes.length + uptoBulk d + 1
  | (_, d) => uptoBulk d + 1
 end
def uptoSmall : (H : Type) → List (DataW H) → Bool := fun _ ds => decide (uptoBulkAll ds ≤ 1048576)
def OpenSpec.upto (s : _root_.Go.ChangeSpec) : _root_.Go.OpenSpec := { _root_.Go.OpenSpec.ofChange s with cond := some uptoSmall }

/-- 'haruspexlaw28.ScoreFamilies', WHERE WHAT IT READS IS OF BULK AT MOST 1048576: true; the input reads as it did. -/
def scoreFamiliesUptoRow : OpenClaim := { program := "ytglpoiaedkoecaadoor", sum := "6ed292d41e83aa646e0451086c6904a0e02fc6d5df6eece4753a92311b09a362", func := "haruspex/haruspexlaw28.ScoreFamilies", spec := "scoreFamilies", inPlace := ["math/bits.Add64"], unfollowed := true, recurses := true, named := ["haruspex/score.primes"], plainKeys := false, apart := false, laid := [("haruspex/score.primes", laid_haruspex_score_primes)], narrowed := true }
def ScoreFamiliesUptoSaid : Prop := scoreFamiliesUptoRow.holds Tryd.pinned (OpenSpec.upto scoreFamiliesSpec)

/-- 'haruspexlaw28.ScoreGraphs', WHERE WHAT IT READS IS OF BULK AT MOST 1048576: true; the input reads as it did. -/
def scoreGraphsUptoRow : OpenClaim := { program := "ytglpoiaedkoecaadoor", sum := "6ed292d41e83aa646e0451086c6904a0e02fc6d5df6eece4753a92311b09a362", func := "haruspex/haruspexlaw28.ScoreGraphs", spec := "scoreGraphs", inPlace := ["math/bits.Add64"], unfollowed := true, recurses := true, named := ["haruspex/score.primes"], plainKeys := false, apart := false, laid := [("haruspex/score.primes", laid_haruspex_score_primes)], narrowed := true }
def ScoreGraphsUptoSaid : Prop := scoreGraphsUptoRow.holds Tryd.pinned (OpenSpec.upto scoreGraphsSpec)

/-- 'haruspexlaw28.ScoreNumbers', WHERE WHAT IT READS IS OF BULK AT MOST 1048576: true; the input reads as it did. -/
def scoreNumbersUptoRow : OpenClaim := { program := "ytglpoiaedkoecaadoor", sum := "6ed292d41e83aa646e0451086c6904a0e02fc6d5df6eece4753a92311b09a362", func := "haruspex/haruspexlaw28.ScoreNumbers", spec := "scoreNumbers", inPlace := ["math/bits.Add64"], unfollowed := true, recurses := true, named := ["haruspex/score.primes"], plainKeys := false, apart := false, laid := [("haruspex/score.primes", laid_haruspex_score_primes)], narrowed := true }
def ScoreNumbersUptoSaid : Prop := scoreNumbersUptoRow.holds Tryd.pinned (OpenSpec.upto scoreNumbersSpec)

/-- 'haruspextop.TopScores', WHERE WHAT IT READS IS OF BULK AT MOST 1048576: true; the input reads as it did. -/
def topScoresUptoRow : OpenClaim := { program := "ytglpoiaedkoecaadoor", sum := "6ed292d41e83aa646e0451086c6904a0e02fc6d5df6eece4753a92311b09a362", func := "haruspex/haruspextop.TopScores", spec := "topScores", inPlace := ["slices.overlaps[int]", "math/bits.Add64"], unfollowed := true, recurses := true, named := ["haruspex/score.primes"], plainKeys := false, apart := false, laid := [("haruspex/score.primes", laid_haruspex_score_primes)], narrowed := true }
def TopScoresUptoSaid : Prop := topScoresUptoRow.holds Tryd.pinned (OpenSpec.upto topScoresSpec)

/-- 'haruspexlaw28.ScoreSigns', WHERE WHAT IT READS IS OF BULK AT MOST 1048576: true; the input reads as it did. -/
def scoreSignsUptoRow : OpenClaim := { program := "ytglpoiaedkoecaadoor", sum := "6ed292d41e83aa646e0451086c6904a0e02fc6d5df6eece4753a92311b09a362", func := "haruspex/haruspexlaw28.ScoreSigns", spec := "scoreSigns", inPlace := ["math/bits.Add64"], unfollowed := true, recurses := true, named := ["haruspex/score.primes"], plainKeys := false, apart := false, laid := [("haruspex/score.primes", laid_haruspex_score_primes)], narrowed := true }
def ScoreSignsUptoSaid : Prop := scoreSignsUptoRow.holds Tryd.pinned (OpenSpec.upto scoreSignsSpec)

/-- 'haruspexlaw28.ScoreKnown', WHERE WHAT IT READS IS OF BULK AT MOST 1048576: true; the input reads as it did. -/
def scoreKnownUptoRow : OpenClaim := { program := "ytglpoiaedkoecaadoor", sum := "6ed292d41e83aa646e0451086c6904a0e02fc6d5df6eece4753a92311b09a362", func := "haruspex/haruspexlaw28.ScoreKnown", spec := "scoreKnown", inPlace := ["math/bits.Add64"], unfollowed := true, recurses := true, named := ["haruspex/score.primes"], plainKeys := false, apart := false, laid := [("haruspex/score.primes", laid_haruspex_score_primes)], narrowed := true }
def ScoreKnownUptoSaid : Prop := scoreKnownUptoRow.holds Tryd.pinned (OpenSpec.upto scoreKnownSpec)

/-- 'haruspexlaw28.ScoreGrows', WHERE WHAT IT READS IS OF BULK AT MOST 1048576: true; the input reads as it did. -/
def scoreGrowsUptoRow : OpenClaim := { program := "ytglpoiaedkoecaadoor", sum := "6ed292d41e83aa646e0451086c6904a0e02fc6d5df6eece4753a92311b09a362", func := "haruspex/haruspexlaw28.ScoreGrows", spec := "scoreGrows", inPlace := ["math/bits.Add64"], unfollowed := true, recurses := true, named := ["haruspex/score.primes"], plainKeys := false, apart := false, laid := [("haruspex/score.primes", laid_haruspex_score_primes)], narrowed := true }
def ScoreGrowsUptoSaid : Prop := scoreGrowsUptoRow.holds Tryd.pinned (OpenSpec.upto scoreGrowsSpec)

/-- 'haruspexlaw28.ScoreOrder', WHERE WHAT IT READS IS OF BULK AT MOST 1048576: true; the input reads as it did. -/
def scoreOrderUptoRow : OpenClaim := { program := "ytglpoiaedkoecaadoor", sum := "6ed292d41e83aa646e0451086c6904a0e02fc6d5df6eece4753a92311b09a362", func := "haruspex/haruspexlaw28.ScoreOrder", spec := "scoreOrder", inPlace := ["math/bits.Add64"], unfollowed := true, recurses := true, named := ["haruspex/score.primes"], plainKeys := false, apart := false, laid := [("haruspex/score.primes", laid_haruspex_score_primes)], narrowed := true }
def ScoreOrderUptoSaid : Prop := scoreOrderUptoRow.holds Tryd.pinned (OpenSpec.upto scoreOrderSpec)

/-- 'haruspexlaw29.SearchLadders', WHERE WHAT IT READS IS OF BULK AT MOST 1048576: true; the input reads as it did. -/
def searchLaddersUptoRow : OpenClaim := { program := "ytglpoiaedkoecaadoor", sum := "6ed292d41e83aa646e0451086c6904a0e02fc6d5df6eece4753a92311b09a362", func := "haruspex/haruspexlaw29.SearchLadders", spec := "searchLadders", inPlace := ["math/bits.Add64"], unfollowed := true, recurses := true, named := ["haruspex/score.primes"], plainKeys := false, apart := false, laid := [("haruspex/score.primes", laid_haruspex_score_primes)], narrowed := true }
def SearchLaddersUptoSaid : Prop := searchLaddersUptoRow.holds Tryd.pinned (OpenSpec.upto searchLaddersSpec)

/-- 'haruspexlaw29.SearchTops', WHERE WHAT IT READS IS OF BULK AT MOST 1048576: true; the input reads as it did. -/
def searchTopsUptoRow : OpenClaim := { program := "ytglpoiaedkoecaadoor", sum := "6ed292d41e83aa646e0451086c6904a0e02fc6d5df6eece4753a92311b09a362", func := "haruspex/haruspexlaw29.SearchTops", spec := "searchTops", inPlace := ["math/bits.Add64"], unfollowed := true, recurses := true, named := ["haruspex/score.primes"], plainKeys := false, apart := false, laid := [("haruspex/score.primes", laid_haruspex_score_primes)], narrowed := true }
def SearchTopsUptoSaid : Prop := searchTopsUptoRow.holds Tryd.pinned (OpenSpec.upto searchTopsSpec)

/-- 'haruspexlaw29.SearchRights', WHERE WHAT IT READS IS OF BULK AT MOST 1048576: true; the input reads as it did. -/
def searchRightsUptoRow : OpenClaim := { program := "ytglpoiaedkoecaadoor", sum := "6ed292d41e83aa646e0451086c6904a0e02fc6d5df6eece4753a92311b09a362", func := "haruspex/haruspexlaw29.SearchRights", spec := "searchRights", inPlace := ["math/bits.Add64"], unfollowed := true, recurses := true, named := ["haruspex/score.primes"], plainKeys := false, apart := false, laid := [("haruspex/score.primes", laid_haruspex_score_primes)], narrowed := true }
def SearchRightsUptoSaid : Prop := searchRightsUptoRow.holds Tryd.pinned (OpenSpec.upto searchRightsSpec)

/-- 'haruspexlaw29.SearchKnown', WHERE WHAT IT READS IS OF BULK AT MOST 1048576: true; the input reads as it did. -/
def searchKnownUptoRow : OpenClaim := { program := "ytglpoiaedkoecaadoor", sum := "6ed292d41e83aa646e0451086c6904a0e02fc6d5df6eece4753a92311b09a362", func := "haruspex/haruspexlaw29.SearchKnown", spec := "searchKnown", inPlace := ["math/bits.Add64"], unfollowed := true, recurses := true, named := ["haruspex/score.primes"], plainKeys := false, apart := false, laid := [("haruspex/score.primes", laid_haruspex_score_primes)], narrowed := true }
def SearchKnownUptoSaid : Prop := searchKnownUptoRow.holds Tryd.pinned (OpenSpec.upto searchKnownSpec)

/-- 'haruspexlaw29.SearchBest', WHERE WHAT IT READS IS OF BULK AT MOST 1048576: true; the input reads as it did. -/
def searchBestUptoRow : OpenClaim := { program := "ytglpoiaedkoecaadoor", sum := "6ed292d41e83aa646e0451086c6904a0e02fc6d5df6eece4753a92311b09a362", func := "haruspex/haruspexlaw29.SearchBest", spec := "searchBest", inPlace := ["math/bits.Add64"], unfollowed := true, recurses := true, named := ["haruspex/score.primes"], plainKeys := false, apart := false, laid := [("haruspex/score.primes", laid_haruspex_score_primes)], narrowed := true }
def SearchBestUptoSaid : Prop := searchBestUptoRow.holds Tryd.pinned (OpenSpec.upto searchBestSpec)

/-- 'haruspexlaw29.SearchAll', WHERE WHAT IT READS IS OF BULK AT MOST 1048576: true; the input reads as it did. -/
def searchAllUptoRow : OpenClaim := { program := "ytglpoiaedkoecaadoor", sum := "6ed292d41e83aa646e0451086c6904a0e02fc6d5df6eece4753a92311b09a362", func := "haruspex/haruspexlaw29.SearchAll", spec := "searchAll", inPlace := ["math/bits.Add64"], unfollowed := true, recurses := true, named := ["haruspex/score.primes"], plainKeys := false, apart := false, laid := [("haruspex/score.primes", laid_haruspex_score_primes)], narrowed := true }
def SearchAllUptoSaid : Prop := searchAllUptoRow.holds Tryd.pinned (OpenSpec.upto searchAllSpec)

/-- 'haruspexlaw29.SearchGrows', WHERE WHAT IT READS IS OF BULK AT MOST 1048576: true; the input reads as it did. -/
def searchGrowsUptoRow : OpenClaim := { program := "ytglpoiaedkoecaadoor", sum := "6ed292d41e83aa646e0451086c6904a0e02fc6d5df6eece4753a92311b09a362", func := "haruspex/haruspexlaw29.SearchGrows", spec := "searchGrows", inPlace := ["math/bits.Add64"], unfollowed := true, recurses := true, named := ["haruspex/score.primes"], plainKeys := false, apart := false, laid := [("haruspex/score.primes", laid_haruspex_score_primes)], narrowed := true }
def SearchGrowsUptoSaid : Prop := searchGrowsUptoRow.holds Tryd.pinned (OpenSpec.upto searchGrowsSpec)

end Rows
end Go.Proofs.YtglpoiaedkoecaaDoor
