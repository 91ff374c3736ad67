/-
  No cell of these rows narrows 'for every input' (looked for: loops, veiled, ifaces, maps, wideKeys, modest, calm, conditions, laid).
  DERIVED. THE GIVEN ROWS OF THIS SEAT. 4 by the template 'for every input the law returns true; each argument reads behind the call as it read before'; 0 by the template 'total and deterministic' (their statements: YtjllghcgomphaaaTotals.lean).
  GIVEN WITH THE SEED: the statements are not yours to turn. If you find one false, say at which input.
  Laid BY PROGRAM, IN A SANDBOX (cutbox-rows.mjs): the forced cells as the released guide's own fill.sh prints them over the translation e1df0360616ec164… (all of the seat's roots in one cut). By AI agents, Wed Nov 11 2026. No macro, syntax, notation, axiom, sorry.
-/
import Derived.Test.YtjllghcgomphaaaChecked
import GoSem.Claim
import GoSem.ClaimJoined
import GoSem.ClaimMapViews
import Derived.JoinedTies
import Derived.KernelRfl
namespace Go.Proofs.Ytjllghcgomphaaa
/- THE CELL 'sum', in the pinned program and in every row, IS THE sha256 OF THE DUMP (.gsa) THAT YtjllghcgomphaaaProg.lean LOADS. Nothing in Lean hashes anything: it is a label: what it is worth is what the hold of that sum in a sandbox is worth. -/
noncomputable def Try.pinned : Pinned := { name := "ytjllghcgomphaaa", sum := "e1df0360616ec164e4bd5d055383f1ea9e1d84fd4f8281183e195dec45f7a4d2", checked := Try.checked }
namespace Rows
def none {H : Type} : Left H := { results := [], args := [] }

/-- 'isinglasslaw16.SortedRows': WHATEVER THE INPUT: true; the input reads as it did. -/
def sortedRowsSpec : ChangeSpec := { name := "sortedRows", fn := fun _ => fun
  | [d1, d2, d3, d4] => { results := [.lit (.bool true)], args := [d1, d2, d3, d4] }
  | _ => none }
def sortedRowsRow : OpenClaim := { program := "ytjllghcgomphaaa", sum := "e1df0360616ec164e4bd5d055383f1ea9e1d84fd4f8281183e195dec45f7a4d2", func := "isinglass/isinglasslaw16.SortedRows", spec := "sortedRows", apart := false }
def SortedRowsSaid : Prop := sortedRowsRow.holds Try.pinned (OpenSpec.ofChange sortedRowsSpec)

/-- ITS FALSE NEIGHBOUR: 'it returns false'. Refute it at one input. -/
def sortedRowsWrong : ChangeSpec := { name := "sortedRows", fn := fun _ => fun
  | [d1, d2, d3, d4] => { results := [.lit (.bool false)], args := [d1, d2, d3, d4] }
  | _ => none }
def SortedRowsWrongFalsely : Prop := sortedRowsRow.holds Try.pinned (OpenSpec.ofChange sortedRowsWrong)

/-- 'isinglasslaw16.SortedReads': WHATEVER THE INPUT: true; the input reads as it did. -/
def sortedReadsSpec : ChangeSpec := { name := "sortedReads", fn := fun _ => fun
  | [d1, d2, d3] => { results := [.lit (.bool true)], args := [d1, d2, d3] }
  | _ => none }
def sortedReadsRow : OpenClaim := { program := "ytjllghcgomphaaa", sum := "e1df0360616ec164e4bd5d055383f1ea9e1d84fd4f8281183e195dec45f7a4d2", func := "isinglass/isinglasslaw16.SortedReads", spec := "sortedReads", apart := false }
def SortedReadsSaid : Prop := sortedReadsRow.holds Try.pinned (OpenSpec.ofChange sortedReadsSpec)

/-- ITS FALSE NEIGHBOUR: 'it returns false'. Refute it at one input. -/
def sortedReadsWrong : ChangeSpec := { name := "sortedReads", fn := fun _ => fun
  | [d1, d2, d3] => { results := [.lit (.bool false)], args := [d1, d2, d3] }
  | _ => none }
def SortedReadsWrongFalsely : Prop := sortedReadsRow.holds Try.pinned (OpenSpec.ofChange sortedReadsWrong)

/-- 'isinglasslaw16.SortedIndexes': WHATEVER THE INPUT: true; the input reads as it did. -/
def sortedIndexesSpec : ChangeSpec := { name := "sortedIndexes", fn := fun _ => fun
  | [d1, d2, d3, d4] => { results := [.lit (.bool true)], args := [d1, d2, d3, d4] }
  | _ => none }
def sortedIndexesRow : OpenClaim := { program := "ytjllghcgomphaaa", sum := "e1df0360616ec164e4bd5d055383f1ea9e1d84fd4f8281183e195dec45f7a4d2", func := "isinglass/isinglasslaw16.SortedIndexes", spec := "sortedIndexes", apart := false }
def SortedIndexesSaid : Prop := sortedIndexesRow.holds Try.pinned (OpenSpec.ofChange sortedIndexesSpec)

/-- ITS FALSE NEIGHBOUR: 'it returns false'. Refute it at one input. -/
def sortedIndexesWrong : ChangeSpec := { name := "sortedIndexes", fn := fun _ => fun
  | [d1, d2, d3, d4] => { results := [.lit (.bool false)], args := [d1, d2, d3, d4] }
  | _ => none }
def SortedIndexesWrongFalsely : Prop := sortedIndexesRow.holds Try.pinned (OpenSpec.ofChange sortedIndexesWrong)

/-- 'isinglasslaw16.SortedWhole': WHATEVER THE INPUT: true; the input reads as it did. -/
def sortedWholeSpec : ChangeSpec := { name := "sortedWhole", fn := fun _ => fun
  | [d1, d2] => { results := [.lit (.bool true)], args := [d1, d2] }
  | _ => none }
def sortedWholeRow : OpenClaim := { program := "ytjllghcgomphaaa", sum := "e1df0360616ec164e4bd5d055383f1ea9e1d84fd4f8281183e195dec45f7a4d2", func := "isinglass/isinglasslaw16.SortedWhole", spec := "sortedWhole", apart := false }
def SortedWholeSaid : Prop := sortedWholeRow.holds Try.pinned (OpenSpec.ofChange sortedWholeSpec)

/-- ITS FALSE NEIGHBOUR: 'it returns false'. Refute it at one input. -/
def sortedWholeWrong : ChangeSpec := { name := "sortedWhole", fn := fun _ => fun
  | [d1, d2] => { results := [.lit (.bool false)], args := [d1, d2] }
  | _ => none }
def SortedWholeWrongFalsely : Prop := sortedWholeRow.holds Try.pinned (OpenSpec.ofChange sortedWholeWrong)

/- THE SECOND FORM. 'bulk': how many values and letters a reading holds, each counted each time it is reached (what is shared counts as often as it is met; a slice's spare places count too). A statement '..UptoSaid' is the law's where the arguments, and the package variables that the reading takes, are together of bulk at most 1048576: NARROWER than '..Said'. Prove '..Said' where nothing that the law and all that it calls make is longer than what came in: it says more and counts as full. Else prove '..UptoSaid'. A law counts once. -/
mutual
def uptoBulk {H : Type} : DataW H → Nat
  | .lit (.string bytes) => bytes.length + 1
  | .lit _ => 1
  | .nil => 1
  | .ptr d => uptoBulk d + 1
  | .slice elems spare => uptoBulkAll elems + uptoBulkAll spare + 1
  | .agg parts => uptoBulkAll parts + 1
  | .iface _ d => uptoBulk d + 1
  | .map entries => uptoBulkEntries entries + 1
  | .held _ => 1
def uptoBulkAll {H : Type} : List (DataW H) → Nat
  | [] => 0
  | d :: r => uptoBulk d + uptoBulkAll r
def uptoBulkEntries {H : Type} : List (Lit × DataW H) → Nat
  | [] => 0
  | x :: r => uptoBulkEntry x + uptoBulkEntries r
def uptoBulkEntry {H : Type} : Lit × DataW H → Nat
  | (.string bytes, d) => bytes.length + uptoBulk d + 1
  | (_, d) => uptoBulk d + 1
 end
def uptoSmall : (H : Type) → List (DataW H) → Bool := fun _ ds => decide (uptoBulkAll ds ≤ 1048576)
def OpenSpec.upto (s : _root_.Go.ChangeSpec) : _root_.Go.OpenSpec := { _root_.Go.OpenSpec.ofChange s with cond := some uptoSmall }

/-- 'isinglasslaw16.SortedRows', WHERE WHAT IT READS IS OF BULK AT MOST 1048576: true; the input reads as it did. -/
def sortedRowsUptoRow : OpenClaim := { program := "ytjllghcgomphaaa", sum := "e1df0360616ec164e4bd5d055383f1ea9e1d84fd4f8281183e195dec45f7a4d2", func := "isinglass/isinglasslaw16.SortedRows", spec := "sortedRows", apart := false, narrowed := true }
def SortedRowsUptoSaid : Prop := sortedRowsUptoRow.holds Try.pinned (OpenSpec.upto sortedRowsSpec)

/-- 'isinglasslaw16.SortedReads', WHERE WHAT IT READS IS OF BULK AT MOST 1048576: true; the input reads as it did. -/
def sortedReadsUptoRow : OpenClaim := { program := "ytjllghcgomphaaa", sum := "e1df0360616ec164e4bd5d055383f1ea9e1d84fd4f8281183e195dec45f7a4d2", func := "isinglass/isinglasslaw16.SortedReads", spec := "sortedReads", apart := false, narrowed := true }
def SortedReadsUptoSaid : Prop := sortedReadsUptoRow.holds Try.pinned (OpenSpec.upto sortedReadsSpec)

/-- 'isinglasslaw16.SortedIndexes', WHERE WHAT IT READS IS OF BULK AT MOST 1048576: true; the input reads as it did. -/
def sortedIndexesUptoRow : OpenClaim := { program := "ytjllghcgomphaaa", sum := "e1df0360616ec164e4bd5d055383f1ea9e1d84fd4f8281183e195dec45f7a4d2", func := "isinglass/isinglasslaw16.SortedIndexes", spec := "sortedIndexes", apart := false, narrowed := true }
def SortedIndexesUptoSaid : Prop := sortedIndexesUptoRow.holds Try.pinned (OpenSpec.upto sortedIndexesSpec)

/-- 'isinglasslaw16.SortedWhole', WHERE WHAT IT READS IS OF BULK AT MOST 1048576: true; the input reads as it did. -/
def sortedWholeUptoRow : OpenClaim := { program := "ytjllghcgomphaaa", sum := "e1df0360616ec164e4bd5d055383f1ea9e1d84fd4f8281183e195dec45f7a4d2", func := "isinglass/isinglasslaw16.SortedWhole", spec := "sortedWhole", apart := false, narrowed := true }
def SortedWholeUptoSaid : Prop := sortedWholeUptoRow.holds Try.pinned (OpenSpec.upto sortedWholeSpec)

end Rows
end Go.Proofs.Ytjllghcgomphaaa
