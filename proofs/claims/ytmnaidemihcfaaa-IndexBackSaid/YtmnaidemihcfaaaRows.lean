/-
  No cell of these rows narrows 'for every input' (looked for: loops, veiled, ifaces, maps, wideKeys, modest, calm, conditions, laid).
  DERIVED. THE GIVEN ROWS OF THIS SEAT. 12 by the template 'for every input the law returns true; each argument reads behind the call as it read before'; 0 by the template 'total and deterministic' (their statements: YtmnaidemihcfaaaTotals.lean).
  GIVEN WITH THE SEED: the statements are not yours to turn. If you find one false, say at which input.
  Laid BY PROGRAM, IN A SANDBOX (cutbox-rows.mjs): the forced cells as the released guide's own fill.sh prints them over the translation 24ebc703649108b7… (all of the seat's roots in one cut). By AI agents, Wed Nov 11 2026. No macro, syntax, notation, axiom, sorry.
-/
import Derived.Test.YtmnaidemihcfaaaChecked
import GoSem.Claim
import GoSem.ClaimJoined
import GoSem.ClaimMapViews
import Derived.JoinedTies
import Derived.KernelRfl
namespace Go.Proofs.Ytmnaidemihcfaaa
/- THE CELL 'sum', in the pinned program and in every row, IS THE sha256 OF THE DUMP (.gsa) THAT YtmnaidemihcfaaaProg.lean LOADS. Nothing in Lean hashes anything: it is a label: what it is worth is what the hold of that sum in a sandbox is worth. -/
noncomputable def Try.pinned : Pinned := { name := "ytmnaidemihcfaaa", sum := "24ebc703649108b70fc275b7bcfd09629a360eb026382f82bd7f674f318c8028", checked := Try.checked }
namespace Rows
def none {H : Type} : Left H := { results := [], args := [] }

/-- 'haruspexlaw02.IndexParts': WHATEVER THE INPUT: true; the input reads as it did. -/
def indexPartsSpec : ChangeSpec := { name := "indexParts", fn := fun _ => fun
  | [d1, d2, d3, d4, d5] => { results := [.lit (.bool true)], args := [d1, d2, d3, d4, d5] }
  | _ => none }
def indexPartsRow : OpenClaim := { program := "ytmnaidemihcfaaa", sum := "24ebc703649108b70fc275b7bcfd09629a360eb026382f82bd7f674f318c8028", func := "haruspex/haruspexlaw02.IndexParts", spec := "indexParts", unfollowed := true, recurses := true, apart := false }
def IndexPartsSaid : Prop := indexPartsRow.holds Try.pinned (OpenSpec.ofChange indexPartsSpec)

/-- ITS FALSE NEIGHBOUR: 'it returns false'. Refute it at one input. -/
def indexPartsWrong : ChangeSpec := { name := "indexParts", fn := fun _ => fun
  | [d1, d2, d3, d4, d5] => { results := [.lit (.bool false)], args := [d1, d2, d3, d4, d5] }
  | _ => none }
def IndexPartsWrongFalsely : Prop := indexPartsRow.holds Try.pinned (OpenSpec.ofChange indexPartsWrong)

/-- 'haruspexlaw02.IndexPermutes': WHATEVER THE INPUT: true; the input reads as it did. -/
def indexPermutesSpec : ChangeSpec := { name := "indexPermutes", fn := fun _ => fun
  | [d1, d2, d3, d4, d5] => { results := [.lit (.bool true)], args := [d1, d2, d3, d4, d5] }
  | _ => none }
def indexPermutesRow : OpenClaim := { program := "ytmnaidemihcfaaa", sum := "24ebc703649108b70fc275b7bcfd09629a360eb026382f82bd7f674f318c8028", func := "haruspex/haruspexlaw02.IndexPermutes", spec := "indexPermutes", unfollowed := true, recurses := true, apart := false }
def IndexPermutesSaid : Prop := indexPermutesRow.holds Try.pinned (OpenSpec.ofChange indexPermutesSpec)

/-- ITS FALSE NEIGHBOUR: 'it returns false'. Refute it at one input. -/
def indexPermutesWrong : ChangeSpec := { name := "indexPermutes", fn := fun _ => fun
  | [d1, d2, d3, d4, d5] => { results := [.lit (.bool false)], args := [d1, d2, d3, d4, d5] }
  | _ => none }
def IndexPermutesWrongFalsely : Prop := indexPermutesRow.holds Try.pinned (OpenSpec.ofChange indexPermutesWrong)

/-- 'haruspexlaw02.IndexTurns': WHATEVER THE INPUT: true; the input reads as it did. -/
def indexTurnsSpec : ChangeSpec := { name := "indexTurns", fn := fun _ => fun
  | [d1, d2] => { results := [.lit (.bool true)], args := [d1, d2] }
  | _ => none }
def indexTurnsRow : OpenClaim := { program := "ytmnaidemihcfaaa", sum := "24ebc703649108b70fc275b7bcfd09629a360eb026382f82bd7f674f318c8028", func := "haruspex/haruspexlaw02.IndexTurns", spec := "indexTurns", unfollowed := true, recurses := true, apart := false }
def IndexTurnsSaid : Prop := indexTurnsRow.holds Try.pinned (OpenSpec.ofChange indexTurnsSpec)

/-- ITS FALSE NEIGHBOUR: 'it returns false'. Refute it at one input. -/
def indexTurnsWrong : ChangeSpec := { name := "indexTurns", fn := fun _ => fun
  | [d1, d2] => { results := [.lit (.bool false)], args := [d1, d2] }
  | _ => none }
def IndexTurnsWrongFalsely : Prop := indexTurnsRow.holds Try.pinned (OpenSpec.ofChange indexTurnsWrong)

/-- 'haruspexlaw02.IndexKnown': WHATEVER THE INPUT: true; the input reads as it did. -/
def indexKnownSpec : ChangeSpec := { name := "indexKnown", fn := fun _ => fun
  | [] => { results := [.lit (.bool true)], args := [] }
  | _ => none }
def indexKnownRow : OpenClaim := { program := "ytmnaidemihcfaaa", sum := "24ebc703649108b70fc275b7bcfd09629a360eb026382f82bd7f674f318c8028", func := "haruspex/haruspexlaw02.IndexKnown", spec := "indexKnown", unfollowed := true, recurses := true, apart := false }
def IndexKnownSaid : Prop := indexKnownRow.holds Try.pinned (OpenSpec.ofChange indexKnownSpec)

/-- ITS FALSE NEIGHBOUR: 'it returns false'. Refute it at one input. -/
def indexKnownWrong : ChangeSpec := { name := "indexKnown", fn := fun _ => fun
  | [] => { results := [.lit (.bool false)], args := [] }
  | _ => none }
def IndexKnownWrongFalsely : Prop := indexKnownRow.holds Try.pinned (OpenSpec.ofChange indexKnownWrong)

/-- 'haruspexlaw02.IndexNumbers': WHATEVER THE INPUT: true; the input reads as it did. -/
def indexNumbersSpec : ChangeSpec := { name := "indexNumbers", fn := fun _ => fun
  | [d1, d2, d3, d4, d5] => { results := [.lit (.bool true)], args := [d1, d2, d3, d4, d5] }
  | _ => none }
def indexNumbersRow : OpenClaim := { program := "ytmnaidemihcfaaa", sum := "24ebc703649108b70fc275b7bcfd09629a360eb026382f82bd7f674f318c8028", func := "haruspex/haruspexlaw02.IndexNumbers", spec := "indexNumbers", unfollowed := true, recurses := true, apart := false }
def IndexNumbersSaid : Prop := indexNumbersRow.holds Try.pinned (OpenSpec.ofChange indexNumbersSpec)

/-- ITS FALSE NEIGHBOUR: 'it returns false'. Refute it at one input. -/
def indexNumbersWrong : ChangeSpec := { name := "indexNumbers", fn := fun _ => fun
  | [d1, d2, d3, d4, d5] => { results := [.lit (.bool false)], args := [d1, d2, d3, d4, d5] }
  | _ => none }
def IndexNumbersWrongFalsely : Prop := indexNumbersRow.holds Try.pinned (OpenSpec.ofChange indexNumbersWrong)

/-- 'haruspexlaw02.IndexCovers': WHATEVER THE INPUT: true; the input reads as it did. -/
def indexCoversSpec : ChangeSpec := { name := "indexCovers", fn := fun _ => fun
  | [d] => { results := [.lit (.bool true)], args := [d] }
  | _ => none }
def indexCoversRow : OpenClaim := { program := "ytmnaidemihcfaaa", sum := "24ebc703649108b70fc275b7bcfd09629a360eb026382f82bd7f674f318c8028", func := "haruspex/haruspexlaw02.IndexCovers", spec := "indexCovers", unfollowed := true, recurses := true, apart := false }
def IndexCoversSaid : Prop := indexCoversRow.holds Try.pinned (OpenSpec.ofChange indexCoversSpec)

/-- ITS FALSE NEIGHBOUR: 'it returns false'. Refute it at one input. -/
def indexCoversWrong : ChangeSpec := { name := "indexCovers", fn := fun _ => fun
  | [d] => { results := [.lit (.bool false)], args := [d] }
  | _ => none }
def IndexCoversWrongFalsely : Prop := indexCoversRow.holds Try.pinned (OpenSpec.ofChange indexCoversWrong)

/-- 'haruspexlaw02.IndexBack': WHATEVER THE INPUT: true; the input reads as it did. -/
def indexBackSpec : ChangeSpec := { name := "indexBack", fn := fun _ => fun
  | [d] => { results := [.lit (.bool true)], args := [d] }
  | _ => none }
def indexBackRow : OpenClaim := { program := "ytmnaidemihcfaaa", sum := "24ebc703649108b70fc275b7bcfd09629a360eb026382f82bd7f674f318c8028", func := "haruspex/haruspexlaw02.IndexBack", spec := "indexBack", unfollowed := true, recurses := true, apart := false }
def IndexBackSaid : Prop := indexBackRow.holds Try.pinned (OpenSpec.ofChange indexBackSpec)

/-- ITS FALSE NEIGHBOUR: 'it returns false'. Refute it at one input. -/
def indexBackWrong : ChangeSpec := { name := "indexBack", fn := fun _ => fun
  | [d] => { results := [.lit (.bool false)], args := [d] }
  | _ => none }
def IndexBackWrongFalsely : Prop := indexBackRow.holds Try.pinned (OpenSpec.ofChange indexBackWrong)

/-- 'haruspexlaw04.SemiElements': WHATEVER THE INPUT: true; the input reads as it did. -/
def semiElementsSpec : ChangeSpec := { name := "semiElements", fn := fun _ => fun
  | [d1, d2, d3, d4] => { results := [.lit (.bool true)], args := [d1, d2, d3, d4] }
  | _ => none }
def semiElementsRow : OpenClaim := { program := "ytmnaidemihcfaaa", sum := "24ebc703649108b70fc275b7bcfd09629a360eb026382f82bd7f674f318c8028", func := "haruspex/haruspexlaw04.SemiElements", spec := "semiElements", unfollowed := true, recurses := true, apart := false }
def SemiElementsSaid : Prop := semiElementsRow.holds Try.pinned (OpenSpec.ofChange semiElementsSpec)

/-- ITS FALSE NEIGHBOUR: 'it returns false'. Refute it at one input. -/
def semiElementsWrong : ChangeSpec := { name := "semiElements", fn := fun _ => fun
  | [d1, d2, d3, d4] => { results := [.lit (.bool false)], args := [d1, d2, d3, d4] }
  | _ => none }
def SemiElementsWrongFalsely : Prop := semiElementsRow.holds Try.pinned (OpenSpec.ofChange semiElementsWrong)

/-- 'haruspexlaw04.SemiCombines': WHATEVER THE INPUT: true; the input reads as it did. -/
def semiCombinesSpec : ChangeSpec := { name := "semiCombines", fn := fun _ => fun
  | [d1, d2, d3, d4, d5] => { results := [.lit (.bool true)], args := [d1, d2, d3, d4, d5] }
  | _ => none }
def semiCombinesRow : OpenClaim := { program := "ytmnaidemihcfaaa", sum := "24ebc703649108b70fc275b7bcfd09629a360eb026382f82bd7f674f318c8028", func := "haruspex/haruspexlaw04.SemiCombines", spec := "semiCombines", unfollowed := true, recurses := true, apart := false }
def SemiCombinesSaid : Prop := semiCombinesRow.holds Try.pinned (OpenSpec.ofChange semiCombinesSpec)

/-- ITS FALSE NEIGHBOUR: 'it returns false'. Refute it at one input. -/
def semiCombinesWrong : ChangeSpec := { name := "semiCombines", fn := fun _ => fun
  | [d1, d2, d3, d4, d5] => { results := [.lit (.bool false)], args := [d1, d2, d3, d4, d5] }
  | _ => none }
def SemiCombinesWrongFalsely : Prop := semiCombinesRow.holds Try.pinned (OpenSpec.ofChange semiCombinesWrong)

/-- 'haruspexlaw04.SemiAxioms': WHATEVER THE INPUT: true; the input reads as it did. -/
def semiAxiomsSpec : ChangeSpec := { name := "semiAxioms", fn := fun _ => fun
  | [d] => { results := [.lit (.bool true)], args := [d] }
  | _ => none }
def semiAxiomsRow : OpenClaim := { program := "ytmnaidemihcfaaa", sum := "24ebc703649108b70fc275b7bcfd09629a360eb026382f82bd7f674f318c8028", func := "haruspex/haruspexlaw04.SemiAxioms", spec := "semiAxioms", unfollowed := true, recurses := true, apart := false }
def SemiAxiomsSaid : Prop := semiAxiomsRow.holds Try.pinned (OpenSpec.ofChange semiAxiomsSpec)

/-- ITS FALSE NEIGHBOUR: 'it returns false'. Refute it at one input. -/
def semiAxiomsWrong : ChangeSpec := { name := "semiAxioms", fn := fun _ => fun
  | [d] => { results := [.lit (.bool false)], args := [d] }
  | _ => none }
def SemiAxiomsWrongFalsely : Prop := semiAxiomsRow.holds Try.pinned (OpenSpec.ofChange semiAxiomsWrong)

/-- 'haruspexlaw04.SemiLeaves': WHATEVER THE INPUT: true; the input reads as it did. -/
def semiLeavesSpec : ChangeSpec := { name := "semiLeaves", fn := fun _ => fun
  | [d1, d2, d3, d4, d5] => { results := [.lit (.bool true)], args := [d1, d2, d3, d4, d5] }
  | _ => none }
def semiLeavesRow : OpenClaim := { program := "ytmnaidemihcfaaa", sum := "24ebc703649108b70fc275b7bcfd09629a360eb026382f82bd7f674f318c8028", func := "haruspex/haruspexlaw04.SemiLeaves", spec := "semiLeaves", unfollowed := true, recurses := true, apart := false }
def SemiLeavesSaid : Prop := semiLeavesRow.holds Try.pinned (OpenSpec.ofChange semiLeavesSpec)

/-- ITS FALSE NEIGHBOUR: 'it returns false'. Refute it at one input. -/
def semiLeavesWrong : ChangeSpec := { name := "semiLeaves", fn := fun _ => fun
  | [d1, d2, d3, d4, d5] => { results := [.lit (.bool false)], args := [d1, d2, d3, d4, d5] }
  | _ => none }
def SemiLeavesWrongFalsely : Prop := semiLeavesRow.holds Try.pinned (OpenSpec.ofChange semiLeavesWrong)

/-- 'haruspexlaw04.SemiAgrees': WHATEVER THE INPUT: true; the input reads as it did. -/
def semiAgreesSpec : ChangeSpec := { name := "semiAgrees", fn := fun _ => fun
  | [d1, d2] => { results := [.lit (.bool true)], args := [d1, d2] }
  | _ => none }
def semiAgreesRow : OpenClaim := { program := "ytmnaidemihcfaaa", sum := "24ebc703649108b70fc275b7bcfd09629a360eb026382f82bd7f674f318c8028", func := "haruspex/haruspexlaw04.SemiAgrees", spec := "semiAgrees", unfollowed := true, recurses := true, apart := false }
def SemiAgreesSaid : Prop := semiAgreesRow.holds Try.pinned (OpenSpec.ofChange semiAgreesSpec)

/-- ITS FALSE NEIGHBOUR: 'it returns false'. Refute it at one input. -/
def semiAgreesWrong : ChangeSpec := { name := "semiAgrees", fn := fun _ => fun
  | [d1, d2] => { results := [.lit (.bool false)], args := [d1, d2] }
  | _ => none }
def SemiAgreesWrongFalsely : Prop := semiAgreesRow.holds Try.pinned (OpenSpec.ofChange semiAgreesWrong)

/- THE SECOND FORM. 'bulk': how many values and letters a reading holds, each counted each time it is reached (what is shared counts as often as it is met; a slice's spare places count too). A statement '..UptoSaid' is the law's where the arguments, and the package variables that the reading takes, are together of bulk at most 1048576: NARROWER than '..Said'. Prove '..Said' where nothing that the law and all that it calls make is longer than what came in: it says more and counts as full. Else prove '..UptoSaid'. A law counts once. -/
mutual
def uptoBulk {H : Type} : DataW H → Nat
  | .lit (.string bytes) => bytes.length + 1
  | .lit _ => 1
  | .nil => 1
  | .ptr d => uptoBulk d + 1
  | .slice elems spare => uptoBulkAll elems + uptoBulkAll spare + 1
  | .agg parts => uptoBulkAll parts + 1
  | .iface _ d => uptoBulk d + 1
  | .map entries => uptoBulkEntries entries + 1
  | .held _ => 1
def uptoBulkAll {H : Type} : List (DataW H) → Nat
  | [] => 0
  | d :: r => uptoBulk d + uptoBulkAll r
def uptoBulkEntries {H : Type} : List (Lit × DataW H) → Nat
  | [] => 0
  | x :: r => uptoBulkEntry x + uptoBulkEntries r
def uptoBulkEntry {H : Type} : Lit × DataW H → Nat
  | (.string bytes, d) => bytes.length + uptoBulk d + 1
  | (_, d) => uptoBulk d + 1
 end
def uptoSmall : (H : Type) → List (DataW H) → Bool := fun _ ds => decide (uptoBulkAll ds ≤ 1048576)
def OpenSpec.upto (s : _root_.Go.ChangeSpec) : _root_.Go.OpenSpec := { _root_.Go.OpenSpec.ofChange s with cond := some uptoSmall }

/-- 'haruspexlaw02.IndexParts', WHERE WHAT IT READS IS OF BULK AT MOST 1048576: true; the input reads as it did. -/
def indexPartsUptoRow : OpenClaim := { program := "ytmnaidemihcfaaa", sum := "24ebc703649108b70fc275b7bcfd09629a360eb026382f82bd7f674f318c8028", func := "haruspex/haruspexlaw02.IndexParts", spec := "indexParts", unfollowed := true, recurses := true, apart := false, narrowed := true }
def IndexPartsUptoSaid : Prop := indexPartsUptoRow.holds Try.pinned (OpenSpec.upto indexPartsSpec)

/-- 'haruspexlaw02.IndexPermutes', WHERE WHAT IT READS IS OF BULK AT MOST 1048576: true; the input reads as it did. -/
def indexPermutesUptoRow : OpenClaim := { program := "ytmnaidemihcfaaa", sum := "24ebc703649108b70fc275b7bcfd09629a360eb026382f82bd7f674f318c8028", func := "haruspex/haruspexlaw02.IndexPermutes", spec := "indexPermutes", unfollowed := true, recurses := true, apart := false, narrowed := true }
def IndexPermutesUptoSaid : Prop := indexPermutesUptoRow.holds Try.pinned (OpenSpec.upto indexPermutesSpec)

/-- 'haruspexlaw02.IndexTurns', WHERE WHAT IT READS IS OF BULK AT MOST 1048576: true; the input reads as it did. -/
def indexTurnsUptoRow : OpenClaim := { program := "ytmnaidemihcfaaa", sum := "24ebc703649108b70fc275b7bcfd09629a360eb026382f82bd7f674f318c8028", func := "haruspex/haruspexlaw02.IndexTurns", spec := "indexTurns", unfollowed := true, recurses := true, apart := false, narrowed := true }
def IndexTurnsUptoSaid : Prop := indexTurnsUptoRow.holds Try.pinned (OpenSpec.upto indexTurnsSpec)

/-- 'haruspexlaw02.IndexKnown', WHERE WHAT IT READS IS OF BULK AT MOST 1048576: true; the input reads as it did. -/
def indexKnownUptoRow : OpenClaim := { program := "ytmnaidemihcfaaa", sum := "24ebc703649108b70fc275b7bcfd09629a360eb026382f82bd7f674f318c8028", func := "haruspex/haruspexlaw02.IndexKnown", spec := "indexKnown", unfollowed := true, recurses := true, apart := false, narrowed := true }
def IndexKnownUptoSaid : Prop := indexKnownUptoRow.holds Try.pinned (OpenSpec.upto indexKnownSpec)

/-- 'haruspexlaw02.IndexNumbers', WHERE WHAT IT READS IS OF BULK AT MOST 1048576: true; the input reads as it did. -/
def indexNumbersUptoRow : OpenClaim := { program := "ytmnaidemihcfaaa", sum := "24ebc703649108b70fc275b7bcfd09629a360eb026382f82bd7f674f318c8028", func := "haruspex/haruspexlaw02.IndexNumbers", spec := "indexNumbers", unfollowed := true, recurses := true, apart := false, narrowed := true }
def IndexNumbersUptoSaid : Prop := indexNumbersUptoRow.holds Try.pinned (OpenSpec.upto indexNumbersSpec)

/-- 'haruspexlaw02.IndexCovers', WHERE WHAT IT READS IS OF BULK AT MOST 1048576: true; the input reads as it did. -/
def indexCoversUptoRow : OpenClaim := { program := "ytmnaidemihcfaaa", sum := "24ebc703649108b70fc275b7bcfd09629a360eb026382f82bd7f674f318c8028", func := "haruspex/haruspexlaw02.IndexCovers", spec := "indexCovers", unfollowed := true, recurses := true, apart := false, narrowed := true }
def IndexCoversUptoSaid : Prop := indexCoversUptoRow.holds Try.pinned (OpenSpec.upto indexCoversSpec)

/-- 'haruspexlaw02.IndexBack', WHERE WHAT IT READS IS OF BULK AT MOST 1048576: true; the input reads as it did. -/
def indexBackUptoRow : OpenClaim := { program := "ytmnaidemihcfaaa", sum := "24ebc703649108b70fc275b7bcfd09629a360eb026382f82bd7f674f318c8028", func := "haruspex/haruspexlaw02.IndexBack", spec := "indexBack", unfollowed := true, recurses := true, apart := false, narrowed := true }
def IndexBackUptoSaid : Prop := indexBackUptoRow.holds Try.pinned (OpenSpec.upto indexBackSpec)

/-- 'haruspexlaw04.SemiElements', WHERE WHAT IT READS IS OF BULK AT MOST 1048576: true; the input reads as it did. -/
def semiElementsUptoRow : OpenClaim := { program := "ytmnaidemihcfaaa", sum := "24ebc703649108b70fc275b7bcfd09629a360eb026382f82bd7f674f318c8028", func := "haruspex/haruspexlaw04.SemiElements", spec := "semiElements", unfollowed := true, recurses := true, apart := false, narrowed := true }
def SemiElementsUptoSaid : Prop := semiElementsUptoRow.holds Try.pinned (OpenSpec.upto semiElementsSpec)

/-- 'haruspexlaw04.SemiCombines', WHERE WHAT IT READS IS OF BULK AT MOST 1048576: true; the input reads as it did. -/
def semiCombinesUptoRow : OpenClaim := { program := "ytmnaidemihcfaaa", sum := "24ebc703649108b70fc275b7bcfd09629a360eb026382f82bd7f674f318c8028", func := "haruspex/haruspexlaw04.SemiCombines", spec := "semiCombines", unfollowed := true, recurses := true, apart := false, narrowed := true }
def SemiCombinesUptoSaid : Prop := semiCombinesUptoRow.holds Try.pinned (OpenSpec.upto semiCombinesSpec)

/-- 'haruspexlaw04.SemiAxioms', WHERE WHAT IT READS IS OF BULK AT MOST 1048576: true; the input reads as it did. -/
def semiAxiomsUptoRow : OpenClaim := { program := "ytmnaidemihcfaaa", sum := "24ebc703649108b70fc275b7bcfd09629a360eb026382f82bd7f674f318c8028", func := "haruspex/haruspexlaw04.SemiAxioms", spec := "semiAxioms", unfollowed := true, recurses := true, apart := false, narrowed := true }
def SemiAxiomsUptoSaid : Prop := semiAxiomsUptoRow.holds Try.pinned (OpenSpec.upto semiAxiomsSpec)

/-- 'haruspexlaw04.SemiLeaves', WHERE WHAT IT READS IS OF BULK AT MOST 1048576: true; the input reads as it did. -/
def semiLeavesUptoRow : OpenClaim := { program := "ytmnaidemihcfaaa", sum := "24ebc703649108b70fc275b7bcfd09629a360eb026382f82bd7f674f318c8028", func := "haruspex/haruspexlaw04.SemiLeaves", spec := "semiLeaves", unfollowed := true, recurses := true, apart := false, narrowed := true }
def SemiLeavesUptoSaid : Prop := semiLeavesUptoRow.holds Try.pinned (OpenSpec.upto semiLeavesSpec)

/-- 'haruspexlaw04.SemiAgrees', WHERE WHAT IT READS IS OF BULK AT MOST 1048576: true; the input reads as it did. -/
def semiAgreesUptoRow : OpenClaim := { program := "ytmnaidemihcfaaa", sum := "24ebc703649108b70fc275b7bcfd09629a360eb026382f82bd7f674f318c8028", func := "haruspex/haruspexlaw04.SemiAgrees", spec := "semiAgrees", unfollowed := true, recurses := true, apart := false, narrowed := true }
def SemiAgreesUptoSaid : Prop := semiAgreesUptoRow.holds Try.pinned (OpenSpec.upto semiAgreesSpec)

end Rows
end Go.Proofs.Ytmnaidemihcfaaa
