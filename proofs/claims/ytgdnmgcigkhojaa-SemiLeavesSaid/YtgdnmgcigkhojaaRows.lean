/-
  No cell of these rows narrows 'for every input' (looked for: loops, veiled, ifaces, maps, wideKeys, modest, calm, conditions, laid).
  DERIVED. THE GIVEN ROWS OF THIS SEAT. 5 by the template 'for every input the law returns true; each argument reads behind the call as it read before'; 0 by the template 'total and deterministic' (their statements: YtgdnmgcigkhojaaTotals.lean).
  GIVEN WITH THE SEED: the statements are not yours to turn. If you find one false, say at which input.
  Laid BY PROGRAM, IN A SANDBOX (cutbox-rows.mjs): the forced cells as the released guide's own fill.sh prints them over the translation e482cb0d83c83c8d… (all of the seat's roots in one cut). By AI agents, Wed Nov 11 2026. No macro, syntax, notation, axiom, sorry.
-/
import Derived.Test.YtgdnmgcigkhojaaChecked
import GoSem.Claim
import GoSem.ClaimJoined
import GoSem.ClaimMapViews
import Derived.JoinedTies
import Derived.KernelRfl
namespace Go.Proofs.Ytgdnmgcigkhojaa
/- THE CELL 'sum', in the pinned program and in every row, IS THE sha256 OF THE DUMP (.gsa) THAT YtgdnmgcigkhojaaProg.lean LOADS. Nothing in Lean hashes anything: it is a label: what it is worth is what the hold of that sum in a sandbox is worth. -/
noncomputable def Try.pinned : Pinned := { name := "ytgdnmgcigkhojaa", sum := "e482cb0d83c83c8d10c332d239f7e1b39dc2e210aa4a093182a35ac583a65b25", checked := Try.checked }
namespace Rows
def none {H : Type} : Left H := { results := [], args := [] }

/-- 'haruspexlaw04.SemiElements': WHATEVER THE INPUT: true; the input reads as it did. -/
def semiElementsSpec : ChangeSpec := { name := "semiElements", fn := fun _ => fun
  | [d1, d2, d3, d4] => { results := [.lit (.bool true)], args := [d1, d2, d3, d4] }
  | _ => none }
def semiElementsRow : OpenClaim := { program := "ytgdnmgcigkhojaa", sum := "e482cb0d83c83c8d10c332d239f7e1b39dc2e210aa4a093182a35ac583a65b25", func := "haruspex/haruspexlaw04.SemiElements", spec := "semiElements", unfollowed := true, recurses := true, apart := false }
def SemiElementsSaid : Prop := semiElementsRow.holds Try.pinned (OpenSpec.ofChange semiElementsSpec)

/-- ITS FALSE NEIGHBOUR: 'it returns false'. Refute it at one input. -/
def semiElementsWrong : ChangeSpec := { name := "semiElements", fn := fun _ => fun
  | [d1, d2, d3, d4] => { results := [.lit (.bool false)], args := [d1, d2, d3, d4] }
  | _ => none }
def SemiElementsWrongFalsely : Prop := semiElementsRow.holds Try.pinned (OpenSpec.ofChange semiElementsWrong)

/-- 'haruspexlaw04.SemiCombines': WHATEVER THE INPUT: true; the input reads as it did. -/
def semiCombinesSpec : ChangeSpec := { name := "semiCombines", fn := fun _ => fun
  | [d1, d2, d3, d4, d5] => { results := [.lit (.bool true)], args := [d1, d2, d3, d4, d5] }
  | _ => none }
def semiCombinesRow : OpenClaim := { program := "ytgdnmgcigkhojaa", sum := "e482cb0d83c83c8d10c332d239f7e1b39dc2e210aa4a093182a35ac583a65b25", func := "haruspex/haruspexlaw04.SemiCombines", spec := "semiCombines", unfollowed := true, recurses := true, apart := false }
def SemiCombinesSaid : Prop := semiCombinesRow.holds Try.pinned (OpenSpec.ofChange semiCombinesSpec)

/-- ITS FALSE NEIGHBOUR: 'it returns false'. Refute it at one input. -/
def semiCombinesWrong : ChangeSpec := { name := "semiCombines", fn := fun _ => fun
  | [d1, d2, d3, d4, d5] => { results := [.lit (.bool false)], args := [d1, d2, d3, d4, d5] }
  | _ => none }
def SemiCombinesWrongFalsely : Prop := semiCombinesRow.holds Try.pinned (OpenSpec.ofChange semiCombinesWrong)

/-- 'haruspexlaw04.SemiAxioms': WHATEVER THE INPUT: true; the input reads as it did. -/
def semiAxiomsSpec : ChangeSpec := { name := "semiAxioms", fn := fun _ => fun
  | [d] => { results := [.lit (.bool true)], args := [d] }
  | _ => none }
def semiAxiomsRow : OpenClaim := { program := "ytgdnmgcigkhojaa", sum := "e482cb0d83c83c8d10c332d239f7e1b39dc2e210aa4a093182a35ac583a65b25", func := "haruspex/haruspexlaw04.SemiAxioms", spec := "semiAxioms", unfollowed := true, recurses := true, apart := false }
def SemiAxiomsSaid : Prop := semiAxiomsRow.holds Try.pinned (OpenSpec.ofChange semiAxiomsSpec)

/-- ITS FALSE NEIGHBOUR: 'it returns false'. Refute it at one input. -/
def semiAxiomsWrong : ChangeSpec := { name := "semiAxioms", fn := fun _ => fun
  | [d] => { results := [.lit (.bool false)], args := [d] }
  | _ => none }
def SemiAxiomsWrongFalsely : Prop := semiAxiomsRow.holds Try.pinned (OpenSpec.ofChange semiAxiomsWrong)

/-- 'haruspexlaw04.SemiLeaves': WHATEVER THE INPUT: true; the input reads as it did. -/
def semiLeavesSpec : ChangeSpec := { name := "semiLeaves", fn := fun _ => fun
  | [d1, d2, d3, d4, d5] => { results := [.lit (.bool true)], args := [d1, d2, d3, d4, d5] }
  | _ => none }
def semiLeavesRow : OpenClaim := { program := "ytgdnmgcigkhojaa", sum := "e482cb0d83c83c8d10c332d239f7e1b39dc2e210aa4a093182a35ac583a65b25", func := "haruspex/haruspexlaw04.SemiLeaves", spec := "semiLeaves", unfollowed := true, recurses := true, apart := false }
def SemiLeavesSaid : Prop := semiLeavesRow.holds Try.pinned (OpenSpec.ofChange semiLeavesSpec)

/-- ITS FALSE NEIGHBOUR: 'it returns false'. Refute it at one input. -/
def semiLeavesWrong : ChangeSpec := { name := "semiLeaves", fn := fun _ => fun
  | [d1, d2, d3, d4, d5] => { results := [.lit (.bool false)], args := [d1, d2, d3, d4, d5] }
  | _ => none }
def SemiLeavesWrongFalsely : Prop := semiLeavesRow.holds Try.pinned (OpenSpec.ofChange semiLeavesWrong)

/-- 'haruspexlaw04.SemiAgrees': WHATEVER THE INPUT: true; the input reads as it did. -/
def semiAgreesSpec : ChangeSpec := { name := "semiAgrees", fn := fun _ => fun
  | [d1, d2] => { results := [.lit (.bool true)], args := [d1, d2] }
  | _ => none }
def semiAgreesRow : OpenClaim := { program := "ytgdnmgcigkhojaa", sum := "e482cb0d83c83c8d10c332d239f7e1b39dc2e210aa4a093182a35ac583a65b25", func := "haruspex/haruspexlaw04.SemiAgrees", spec := "semiAgrees", unfollowed := true, recurses := true, apart := false }
def SemiAgreesSaid : Prop := semiAgreesRow.holds Try.pinned (OpenSpec.ofChange semiAgreesSpec)

/-- ITS FALSE NEIGHBOUR: 'it returns false'. Refute it at one input. -/
def semiAgreesWrong : ChangeSpec := { name := "semiAgrees", fn := fun _ => fun
  | [d1, d2] => { results := [.lit (.bool false)], args := [d1, d2] }
  | _ => none }
def SemiAgreesWrongFalsely : Prop := semiAgreesRow.holds Try.pinned (OpenSpec.ofChange semiAgreesWrong)

/- THE SECOND FORM. 'bulk': how many values and letters a reading holds, each counted each time it is reached (what is shared counts as often as it is met; a slice's spare places count too). A statement '..UptoSaid' is the law's where the arguments, and the package variables that the reading takes, are together of bulk at most 1048576: NARROWER than '..Said'. Prove '..Said' where nothing that the law and all that it calls make is longer than what came in: it says more and counts as full. Else prove '..UptoSaid'. A law counts once. -/
mutual
def uptoBulk {H : Type} : DataW H → Nat
  | .lit (.string bytes) => bytes.length + 1
  | .lit _ => 1
  | .nil => 1
  | .ptr d => uptoBulk d + 1
  | .slice elems spare => uptoBulkAll elems + uptoBulkAll spare + 1
  | .agg parts => uptoBulkAll parts + 1
  | .iface _ d => uptoBulk d + 1
  | .map entries => uptoBulkEntries entries + 1
  | .held _ => 1
def uptoBulkAll {H : Type} : List (DataW H) → Nat
  | [] => 0
  | d :: r => uptoBulk d + uptoBulkAll r
def uptoBulkEntries {H : Type} : List (Lit × DataW H) → Nat
  | [] => 0
  | x :: r => uptoBulkEntry x + uptoBulkEntries r
def uptoBulkEntry {H : Type} : Lit × DataW H → Nat
  | (.string bytes, d) => bytes.length + uptoBulk d + 1
  | (_, d) => uptoBulk d + 1
 end
def uptoSmall : (H : Type) → List (DataW H) → Bool := fun _ ds => decide (uptoBulkAll ds ≤ 1048576)
def OpenSpec.upto (s : _root_.Go.ChangeSpec) : _root_.Go.OpenSpec := { _root_.Go.OpenSpec.ofChange s with cond := some uptoSmall }

/-- 'haruspexlaw04.SemiElements', WHERE WHAT IT READS IS OF BULK AT MOST 1048576: true; the input reads as it did. -/
def semiElementsUptoRow : OpenClaim := { program := "ytgdnmgcigkhojaa", sum := "e482cb0d83c83c8d10c332d239f7e1b39dc2e210aa4a093182a35ac583a65b25", func := "haruspex/haruspexlaw04.SemiElements", spec := "semiElements", unfollowed := true, recurses := true, apart := false, narrowed := true }
def SemiElementsUptoSaid : Prop := semiElementsUptoRow.holds Try.pinned (OpenSpec.upto semiElementsSpec)

/-- 'haruspexlaw04.SemiCombines', WHERE WHAT IT READS IS OF BULK AT MOST 1048576: true; the input reads as it did. -/
def semiCombinesUptoRow : OpenClaim := { program := "ytgdnmgcigkhojaa", sum := "e482cb0d83c83c8d10c332d239f7e1b39dc2e210aa4a093182a35ac583a65b25", func := "haruspex/haruspexlaw04.SemiCombines", spec := "semiCombines", unfollowed := true, recurses := true, apart := false, narrowed := true }
def SemiCombinesUptoSaid : Prop := semiCombinesUptoRow.holds Try.pinned (OpenSpec.upto semiCombinesSpec)

/-- 'haruspexlaw04.SemiAxioms', WHERE WHAT IT READS IS OF BULK AT MOST 1048576: true; the input reads as it did. -/
def semiAxiomsUptoRow : OpenClaim := { program := "ytgdnmgcigkhojaa", sum := "e482cb0d83c83c8d10c332d239f7e1b39dc2e210aa4a093182a35ac583a65b25", func := "haruspex/haruspexlaw04.SemiAxioms", spec := "semiAxioms", unfollowed := true, recurses := true, apart := false, narrowed := true }
def SemiAxiomsUptoSaid : Prop := semiAxiomsUptoRow.holds Try.pinned (OpenSpec.upto semiAxiomsSpec)

/-- 'haruspexlaw04.SemiLeaves', WHERE WHAT IT READS IS OF BULK AT MOST 1048576: true; the input reads as it did. -/
def semiLeavesUptoRow : OpenClaim := { program := "ytgdnmgcigkhojaa", sum := "e482cb0d83c83c8d10c332d239f7e1b39dc2e210aa4a093182a35ac583a65b25", func := "haruspex/haruspexlaw04.SemiLeaves", spec := "semiLeaves", unfollowed := true, recurses := true, apart := false, narrowed := true }
def SemiLeavesUptoSaid : Prop := semiLeavesUptoRow.holds Try.pinned (OpenSpec.upto semiLeavesSpec)

/-- 'haruspexlaw04.SemiAgrees', WHERE WHAT IT READS IS OF BULK AT MOST 1048576: true; the input reads as it did. -/
def semiAgreesUptoRow : OpenClaim := { program := "ytgdnmgcigkhojaa", sum := "e482cb0d83c83c8d10c332d239f7e1b39dc2e210aa4a093182a35ac583a65b25", func := "haruspex/haruspexlaw04.SemiAgrees", spec := "semiAgrees", unfollowed := true, recurses := true, apart := false, narrowed := true }
def SemiAgreesUptoSaid : Prop := semiAgreesUptoRow.holds Try.pinned (OpenSpec.upto semiAgreesSpec)

end Rows
end Go.Proofs.Ytgdnmgcigkhojaa
