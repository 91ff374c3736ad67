/-
  No cell of these rows narrows 'for every input' (looked for: loops, veiled, ifaces, maps, wideKeys, modest, calm, conditions, laid).
  DERIVED. THE GIVEN ROWS OF THIS SEAT. 5 by the template 'for every input the law returns true; each argument reads behind the call as it read before'; 0 by the template 'total and deterministic' (their statements: YtbabdbiolofjdaaTotals.lean).
  GIVEN WITH THE SEED: the statements are not yours to turn. If you find one false, say at which input.
  Laid BY PROGRAM, IN A SANDBOX (cutbox-rows.mjs): the forced cells as the released guide's own fill.sh prints them over the translation 5d593b9ba0a00a61… (all of the seat's roots in one cut). By AI agents, Wed Nov 11 2026. No macro, syntax, notation, axiom, sorry.
-/
import Derived.Test.YtbabdbiolofjdaaChecked
import GoSem.Claim
import GoSem.ClaimJoined
import GoSem.ClaimMapViews
import Derived.JoinedTies
import Derived.KernelRfl
namespace Go.Proofs.Ytbabdbiolofjdaa
/- THE CELL 'sum', in the pinned program and in every row, IS THE sha256 OF THE DUMP (.gsa) THAT YtbabdbiolofjdaaProg.lean LOADS. Nothing in Lean hashes anything: it is a label: what it is worth is what the hold of that sum in a sandbox is worth. -/
noncomputable def Try.pinned : Pinned := { name := "ytbabdbiolofjdaa", sum := "5d593b9ba0a00a61fd4795c939bcd94fe1456de2c5843c196bf70654f57d8371", checked := Try.checked }
namespace Rows
def none {H : Type} : Left H := { results := [], args := [] }

/-- 'isinglasslaw04.ArraysLaws': WHATEVER THE INPUT: true; the input reads as it did. -/
def arraysLawsSpec : ChangeSpec := { name := "arraysLaws", fn := fun _ => fun
  | [d1, d2] => { results := [.lit (.bool true)], args := [d1, d2] }
  | _ => none }
def arraysLawsRow : OpenClaim := { program := "ytbabdbiolofjdaa", sum := "5d593b9ba0a00a61fd4795c939bcd94fe1456de2c5843c196bf70654f57d8371", func := "isinglass/isinglasslaw04.ArraysLaws", spec := "arraysLaws", unfollowed := true, recurses := true, apart := false }
def ArraysLawsSaid : Prop := arraysLawsRow.holds Try.pinned (OpenSpec.ofChange arraysLawsSpec)

/-- ITS FALSE NEIGHBOUR: 'it returns false'. Refute it at one input. -/
def arraysLawsWrong : ChangeSpec := { name := "arraysLaws", fn := fun _ => fun
  | [d1, d2] => { results := [.lit (.bool false)], args := [d1, d2] }
  | _ => none }
def ArraysLawsWrongFalsely : Prop := arraysLawsRow.holds Try.pinned (OpenSpec.ofChange arraysLawsWrong)

/-- 'isinglasslaw04.ArraysWithin': WHATEVER THE INPUT: true; the input reads as it did. -/
def arraysWithinSpec : ChangeSpec := { name := "arraysWithin", fn := fun _ => fun
  | [d1, d2] => { results := [.lit (.bool true)], args := [d1, d2] }
  | _ => none }
def arraysWithinRow : OpenClaim := { program := "ytbabdbiolofjdaa", sum := "5d593b9ba0a00a61fd4795c939bcd94fe1456de2c5843c196bf70654f57d8371", func := "isinglass/isinglasslaw04.ArraysWithin", spec := "arraysWithin", unfollowed := true, recurses := true, apart := false }
def ArraysWithinSaid : Prop := arraysWithinRow.holds Try.pinned (OpenSpec.ofChange arraysWithinSpec)

/-- ITS FALSE NEIGHBOUR: 'it returns false'. Refute it at one input. -/
def arraysWithinWrong : ChangeSpec := { name := "arraysWithin", fn := fun _ => fun
  | [d1, d2] => { results := [.lit (.bool false)], args := [d1, d2] }
  | _ => none }
def ArraysWithinWrongFalsely : Prop := arraysWithinRow.holds Try.pinned (OpenSpec.ofChange arraysWithinWrong)

/-- 'isinglasslaw04.ArraysFind': WHATEVER THE INPUT: true; the input reads as it did. -/
def arraysFindSpec : ChangeSpec := { name := "arraysFind", fn := fun _ => fun
  | [d1, d2, d3] => { results := [.lit (.bool true)], args := [d1, d2, d3] }
  | _ => none }
def arraysFindRow : OpenClaim := { program := "ytbabdbiolofjdaa", sum := "5d593b9ba0a00a61fd4795c939bcd94fe1456de2c5843c196bf70654f57d8371", func := "isinglass/isinglasslaw04.ArraysFind", spec := "arraysFind", inPlace := ["slices.overlaps[uint16]"], unfollowed := true, recurses := true, apart := false }
def ArraysFindSaid : Prop := arraysFindRow.holds Try.pinned (OpenSpec.ofChange arraysFindSpec)

/-- ITS FALSE NEIGHBOUR: 'it returns false'. Refute it at one input. -/
def arraysFindWrong : ChangeSpec := { name := "arraysFind", fn := fun _ => fun
  | [d1, d2, d3] => { results := [.lit (.bool false)], args := [d1, d2, d3] }
  | _ => none }
def ArraysFindWrongFalsely : Prop := arraysFindRow.holds Try.pinned (OpenSpec.ofChange arraysFindWrong)

/-- 'isinglasslaw04.ArraysRuns': WHATEVER THE INPUT: true; the input reads as it did. -/
def arraysRunsSpec : ChangeSpec := { name := "arraysRuns", fn := fun _ => fun
  | [d1, d2, d3] => { results := [.lit (.bool true)], args := [d1, d2, d3] }
  | _ => none }
def arraysRunsRow : OpenClaim := { program := "ytbabdbiolofjdaa", sum := "5d593b9ba0a00a61fd4795c939bcd94fe1456de2c5843c196bf70654f57d8371", func := "isinglass/isinglasslaw04.ArraysRuns", spec := "arraysRuns", inPlace := ["slices.overlaps[uint16]"], unfollowed := true, recurses := true, apart := false }
def ArraysRunsSaid : Prop := arraysRunsRow.holds Try.pinned (OpenSpec.ofChange arraysRunsSpec)

/-- ITS FALSE NEIGHBOUR: 'it returns false'. Refute it at one input. -/
def arraysRunsWrong : ChangeSpec := { name := "arraysRuns", fn := fun _ => fun
  | [d1, d2, d3] => { results := [.lit (.bool false)], args := [d1, d2, d3] }
  | _ => none }
def ArraysRunsWrongFalsely : Prop := arraysRunsRow.holds Try.pinned (OpenSpec.ofChange arraysRunsWrong)

/-- 'isinglasslaw04.ArraysSets': WHATEVER THE INPUT: true; the input reads as it did. -/
def arraysSetsSpec : ChangeSpec := { name := "arraysSets", fn := fun _ => fun
  | [d1, d2, d3] => { results := [.lit (.bool true)], args := [d1, d2, d3] }
  | _ => none }
def arraysSetsRow : OpenClaim := { program := "ytbabdbiolofjdaa", sum := "5d593b9ba0a00a61fd4795c939bcd94fe1456de2c5843c196bf70654f57d8371", func := "isinglass/isinglasslaw04.ArraysSets", spec := "arraysSets", inPlace := ["slices.overlaps[uint16]"], unfollowed := true, recurses := true, apart := false }
def ArraysSetsSaid : Prop := arraysSetsRow.holds Try.pinned (OpenSpec.ofChange arraysSetsSpec)

/-- ITS FALSE NEIGHBOUR: 'it returns false'. Refute it at one input. -/
def arraysSetsWrong : ChangeSpec := { name := "arraysSets", fn := fun _ => fun
  | [d1, d2, d3] => { results := [.lit (.bool false)], args := [d1, d2, d3] }
  | _ => none }
def ArraysSetsWrongFalsely : Prop := arraysSetsRow.holds Try.pinned (OpenSpec.ofChange arraysSetsWrong)

/- THE SECOND FORM. 'bulk': how many values and letters a reading holds, each counted each time it is reached (what is shared counts as often as it is met; a slice's spare places count too). A statement '..UptoSaid' is the law's where the arguments, and the package variables that the reading takes, are together of bulk at most 1048576: NARROWER than '..Said'. Prove '..Said' where nothing that the law and all that it calls make is longer than what came in: it says more and counts as full. Else prove '..UptoSaid'. A law counts once. -/
mutual
def uptoBulk {H : Type} : DataW H → Nat
  | .lit (.string bytes) => bytes.length + 1
  | .lit _ => 1
  | .nil => 1
  | .ptr d => uptoBulk d + 1
  | .slice elems spare => uptoBulkAll elems + uptoBulkAll spare + 1
  | .agg parts => uptoBulkAll parts + 1
  | .iface _ d => uptoBulk d + 1
  | .map entries => uptoBulkEntries entries + 1
  | .held _ => 1
def uptoBulkAll {H : Type} : List (DataW H) → Nat
  | [] => 0
  | d :: r => uptoBulk d + uptoBulkAll r
def uptoBulkEntries {H : Type} : List (Lit × DataW H) → Nat
  | [] => 0
  | x :: r => uptoBulkEntry x + uptoBulkEntries r
def uptoBulkEntry {H : Type} : Lit × DataW H → Nat
  | (.string bytes, d) => bytes.length + uptoBulk d + 1
  | (_, d) => uptoBulk d + 1
 end
def uptoSmall : (H : Type) → List (DataW H) → Bool := fun _ ds => decide (uptoBulkAll ds ≤ 1048576)
def OpenSpec.upto (s : _root_.Go.ChangeSpec) : _root_.Go.OpenSpec := { _root_.Go.OpenSpec.ofChange s with cond := some uptoSmall }

/-- 'isinglasslaw04.ArraysLaws', WHERE WHAT IT READS IS OF BULK AT MOST 1048576: true; the input reads as it did. -/
def arraysLawsUptoRow : OpenClaim := { program := "ytbabdbiolofjdaa", sum := "5d593b9ba0a00a61fd4795c939bcd94fe1456de2c5843c196bf70654f57d8371", func := "isinglass/isinglasslaw04.ArraysLaws", spec := "arraysLaws", unfollowed := true, recurses := true, apart := false, narrowed := true }
def ArraysLawsUptoSaid : Prop := arraysLawsUptoRow.holds Try.pinned (OpenSpec.upto arraysLawsSpec)

/-- 'isinglasslaw04.ArraysWithin', WHERE WHAT IT READS IS OF BULK AT MOST 1048576: true; the input reads as it did. -/
def arraysWithinUptoRow : OpenClaim := { program := "ytbabdbiolofjdaa", sum := "5d593b9ba0a00a61fd4795c939bcd94fe1456de2c5843c196bf70654f57d8371", func := "isinglass/isinglasslaw04.ArraysWithin", spec := "arraysWithin", unfollowed := true, recurses := true, apart := false, narrowed := true }
def ArraysWithinUptoSaid : Prop := arraysWithinUptoRow.holds Try.pinned (OpenSpec.upto arraysWithinSpec)

/-- 'isinglasslaw04.ArraysFind', WHERE WHAT IT READS IS OF BULK AT MOST 1048576: true; the input reads as it did. -/
def arraysFindUptoRow : OpenClaim := { program := "ytbabdbiolofjdaa", sum := "5d593b9ba0a00a61fd4795c939bcd94fe1456de2c5843c196bf70654f57d8371", func := "isinglass/isinglasslaw04.ArraysFind", spec := "arraysFind", inPlace := ["slices.overlaps[uint16]"], unfollowed := true, recurses := true, apart := false, narrowed := true }
def ArraysFindUptoSaid : Prop := arraysFindUptoRow.holds Try.pinned (OpenSpec.upto arraysFindSpec)

/-- 'isinglasslaw04.ArraysRuns', WHERE WHAT IT READS IS OF BULK AT MOST 1048576: true; the input reads as it did. -/
def arraysRunsUptoRow : OpenClaim := { program := "ytbabdbiolofjdaa", sum := "5d593b9ba0a00a61fd4795c939bcd94fe1456de2c5843c196bf70654f57d8371", func := "isinglass/isinglasslaw04.ArraysRuns", spec := "arraysRuns", inPlace := ["slices.overlaps[uint16]"], unfollowed := true, recurses := true, apart := false, narrowed := true }
def ArraysRunsUptoSaid : Prop := arraysRunsUptoRow.holds Try.pinned (OpenSpec.upto arraysRunsSpec)

/-- 'isinglasslaw04.ArraysSets', WHERE WHAT IT READS IS OF BULK AT MOST 1048576: true; the input reads as it did. -/
def arraysSetsUptoRow : OpenClaim := { program := "ytbabdbiolofjdaa", sum := "5d593b9ba0a00a61fd4795c939bcd94fe1456de2c5843c196bf70654f57d8371", func := "isinglass/isinglasslaw04.ArraysSets", spec := "arraysSets", inPlace := ["slices.overlaps[uint16]"], unfollowed := true, recurses := true, apart := false, narrowed := true }
def ArraysSetsUptoSaid : Prop := arraysSetsUptoRow.holds Try.pinned (OpenSpec.upto arraysSetsSpec)

end Rows
end Go.Proofs.Ytbabdbiolofjdaa
