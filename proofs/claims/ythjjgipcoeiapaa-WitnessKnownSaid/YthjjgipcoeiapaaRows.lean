/-
  No cell of these rows narrows 'for every input' (looked for: loops, veiled, ifaces, maps, wideKeys, modest, calm, conditions, laid).
  DERIVED. THE GIVEN ROWS OF THIS SEAT. 3 by the template 'for every input the law returns true; each argument reads behind the call as it read before'; 0 by the template 'total and deterministic' (their statements: YthjjgipcoeiapaaTotals.lean).
  GIVEN WITH THE SEED: the statements are not yours to turn. If you find one false, say at which input.
  Laid BY PROGRAM, IN A SANDBOX (cutbox-rows.mjs): the forced cells as the released guide's own fill.sh prints them over the translation 6c557a7bcff8e62e… (all of the seat's roots in one cut). By AI agents, Wed Nov 11 2026. No macro, syntax, notation, axiom, sorry.
-/
import Derived.Test.YthjjgipcoeiapaaChecked
import GoSem.Claim
import GoSem.ClaimJoined
import GoSem.ClaimMapViews
import Derived.JoinedTies
import Derived.KernelRfl
namespace Go.Proofs.Ythjjgipcoeiapaa
/- THE CELL 'sum', in the pinned program and in every row, IS THE sha256 OF THE DUMP (.gsa) THAT YthjjgipcoeiapaaProg.lean LOADS. Nothing in Lean hashes anything: it is a label: what it is worth is what the hold of that sum in a sandbox is worth. -/
noncomputable def Try.pinned : Pinned := { name := "ythjjgipcoeiapaa", sum := "6c557a7bcff8e62eef01fa9a095da5b8207173e266e521c217d2230faa549275", checked := Try.checked }
namespace Rows
def none {H : Type} : Left H := { results := [], args := [] }

/-- 'haruspexlaw36.WitnessKnown': WHATEVER THE INPUT: true; the input reads as it did. -/
def witnessKnownSpec : ChangeSpec := { name := "witnessKnown", fn := fun _ => fun
  | [] => { results := [.lit (.bool true)], args := [] }
  | _ => none }
def witnessKnownRow : OpenClaim := { program := "ythjjgipcoeiapaa", sum := "6c557a7bcff8e62eef01fa9a095da5b8207173e266e521c217d2230faa549275", func := "haruspex/haruspexlaw36.WitnessKnown", spec := "witnessKnown", unfollowed := true, recurses := true, apart := false }
def WitnessKnownSaid : Prop := witnessKnownRow.holds Try.pinned (OpenSpec.ofChange witnessKnownSpec)

/-- ITS FALSE NEIGHBOUR: 'it returns false'. Refute it at one input. -/
def witnessKnownWrong : ChangeSpec := { name := "witnessKnown", fn := fun _ => fun
  | [] => { results := [.lit (.bool false)], args := [] }
  | _ => none }
def WitnessKnownWrongFalsely : Prop := witnessKnownRow.holds Try.pinned (OpenSpec.ofChange witnessKnownWrong)

/-- 'haruspexlaw36.WitnessMore': WHATEVER THE INPUT: true; the input reads as it did. -/
def witnessMoreSpec : ChangeSpec := { name := "witnessMore", fn := fun _ => fun
  | [d1, d2, d3, d4, d5] => { results := [.lit (.bool true)], args := [d1, d2, d3, d4, d5] }
  | _ => none }
def witnessMoreRow : OpenClaim := { program := "ythjjgipcoeiapaa", sum := "6c557a7bcff8e62eef01fa9a095da5b8207173e266e521c217d2230faa549275", func := "haruspex/haruspexlaw36.WitnessMore", spec := "witnessMore", unfollowed := true, recurses := true, apart := false }
def WitnessMoreSaid : Prop := witnessMoreRow.holds Try.pinned (OpenSpec.ofChange witnessMoreSpec)

/-- ITS FALSE NEIGHBOUR: 'it returns false'. Refute it at one input. -/
def witnessMoreWrong : ChangeSpec := { name := "witnessMore", fn := fun _ => fun
  | [d1, d2, d3, d4, d5] => { results := [.lit (.bool false)], args := [d1, d2, d3, d4, d5] }
  | _ => none }
def WitnessMoreWrongFalsely : Prop := witnessMoreRow.holds Try.pinned (OpenSpec.ofChange witnessMoreWrong)

/-- 'haruspexlaw36.WitnessShows': WHATEVER THE INPUT: true; the input reads as it did. -/
def witnessShowsSpec : ChangeSpec := { name := "witnessShows", fn := fun _ => fun
  | [d1, d2, d3] => { results := [.lit (.bool true)], args := [d1, d2, d3] }
  | _ => none }
def witnessShowsRow : OpenClaim := { program := "ythjjgipcoeiapaa", sum := "6c557a7bcff8e62eef01fa9a095da5b8207173e266e521c217d2230faa549275", func := "haruspex/haruspexlaw36.WitnessShows", spec := "witnessShows", unfollowed := true, recurses := true, apart := false }
def WitnessShowsSaid : Prop := witnessShowsRow.holds Try.pinned (OpenSpec.ofChange witnessShowsSpec)

/-- ITS FALSE NEIGHBOUR: 'it returns false'. Refute it at one input. -/
def witnessShowsWrong : ChangeSpec := { name := "witnessShows", fn := fun _ => fun
  | [d1, d2, d3] => { results := [.lit (.bool false)], args := [d1, d2, d3] }
  | _ => none }
def WitnessShowsWrongFalsely : Prop := witnessShowsRow.holds Try.pinned (OpenSpec.ofChange witnessShowsWrong)

/- THE SECOND FORM. 'bulk': how many values and letters a reading holds, each counted each time it is reached (what is shared counts as often as it is met; a slice's spare places count too). A statement '..UptoSaid' is the law's where the arguments, and the package variables that the reading takes, are together of bulk at most 1048576: NARROWER than '..Said'. Prove '..Said' where nothing that the law and all that it calls make is longer than what came in: it says more and counts as full. Else prove '..UptoSaid'. A law counts once. -/
mutual
def uptoBulk {H : Type} : DataW H → Nat
  | .lit (.string bytes) => bytes.length + 1
  | .lit _ => 1
  | .nil => 1
  | .ptr d => uptoBulk d + 1
  | .slice elems spare => uptoBulkAll elems + uptoBulkAll spare + 1
  | .agg parts => uptoBulkAll parts + 1
  | .iface _ d => uptoBulk d + 1
  | .map entries => uptoBulkEntries entries + 1
  | .held _ => 1
def uptoBulkAll {H : Type} : List (DataW H) → Nat
  | [] => 0
  | d :: r => uptoBulk d + uptoBulkAll r
def uptoBulkEntries {H : Type} : List (Lit × DataW H) → Nat
  | [] => 0
  | x :: r => uptoBulkEntry x + uptoBulkEntries r
def uptoBulkEntry {H : Type} : Lit × DataW H → Nat
  | (.string bytes, d) => bytes.length + uptoBulk d + 1
  | (_, d) => uptoBulk d + 1
 end
def uptoSmall : (H : Type) → List (DataW H) → Bool := fun _ ds => decide (uptoBulkAll ds ≤ 1048576)
def OpenSpec.upto (s : _root_.Go.ChangeSpec) : _root_.Go.OpenSpec := { _root_.Go.OpenSpec.ofChange s with cond := some uptoSmall }

/-- 'haruspexlaw36.WitnessKnown', WHERE WHAT IT READS IS OF BULK AT MOST 1048576: true; the input reads as it did. -/
def witnessKnownUptoRow : OpenClaim := { program := "ythjjgipcoeiapaa", sum := "6c557a7bcff8e62eef01fa9a095da5b8207173e266e521c217d2230faa549275", func := "haruspex/haruspexlaw36.WitnessKnown", spec := "witnessKnown", unfollowed := true, recurses := true, apart := false, narrowed := true }
def WitnessKnownUptoSaid : Prop := witnessKnownUptoRow.holds Try.pinned (OpenSpec.upto witnessKnownSpec)

/-- 'haruspexlaw36.WitnessMore', WHERE WHAT IT READS IS OF BULK AT MOST 1048576: true; the input reads as it did. -/
def witnessMoreUptoRow : OpenClaim := { program := "ythjjgipcoeiapaa", sum := "6c557a7bcff8e62eef01fa9a095da5b8207173e266e521c217d2230faa549275", func := "haruspex/haruspexlaw36.WitnessMore", spec := "witnessMore", unfollowed := true, recurses := true, apart := false, narrowed := true }
def WitnessMoreUptoSaid : Prop := witnessMoreUptoRow.holds Try.pinned (OpenSpec.upto witnessMoreSpec)

/-- 'haruspexlaw36.WitnessShows', WHERE WHAT IT READS IS OF BULK AT MOST 1048576: true; the input reads as it did. -/
def witnessShowsUptoRow : OpenClaim := { program := "ythjjgipcoeiapaa", sum := "6c557a7bcff8e62eef01fa9a095da5b8207173e266e521c217d2230faa549275", func := "haruspex/haruspexlaw36.WitnessShows", spec := "witnessShows", unfollowed := true, recurses := true, apart := false, narrowed := true }
def WitnessShowsUptoSaid : Prop := witnessShowsUptoRow.holds Try.pinned (OpenSpec.upto witnessShowsSpec)

end Rows
end Go.Proofs.Ythjjgipcoeiapaa
