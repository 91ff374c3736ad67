/-
  NARROWER THAN 'FOR EVERY INPUT', by the rows' own cells (each row's printed sentence says how): WordsBack: laid · WordsRanges: laid · WordsAlgebra: laid · WordsSets: laid · WordsArrays: laid · RunsWords: laid.
  DERIVED. THE GIVEN ROWS OF THIS SEAT. 6 by the template 'for every input the law returns true; each argument reads behind the call as it read before'; 0 by the template 'total and deterministic' (their statements: YthcpljmibcacaaaDoorTotals.lean).
  GIVEN WITH THE SEED: the statements are not yours to turn. If you find one false, say at which input.
  Laid BY PROGRAM, IN A SANDBOX (cutbox-rows.mjs): the forced cells as the released guide's own fill.sh prints them over the translation cf503870f2111a16… (all of the seat's roots in one cut). By AI agents, Wed Nov 11 2026. No macro, syntax, notation, axiom, sorry.
-/
import Derived.Test.YthcpljmibcacaaaDoorChecked
import GoSem.Claim
import GoSem.ClaimJoined
import GoSem.ClaimMapViews
import Derived.JoinedTies
import Derived.KernelRfl
namespace Go.Proofs.YthcpljmibcacaaaDoor
/- THE CELL 'sum', in the pinned program and in every row, IS THE sha256 OF THE DUMP (.gsa) THAT YthcpljmibcacaaaDoorProg.lean LOADS. Nothing in Lean hashes anything: it is a label: what it is worth is what the hold of that sum in a sandbox is worth. -/
noncomputable def Tryd.pinned : Pinned := { name := "ythcpljmibcacaaadoor", sum := "cf503870f2111a1652fd293ec96c1d93cfdc8e9771240d97478fc572220def97", checked := Tryd.checked }
namespace Rows
def none {H : Type} : Left H := { results := [], args := [] }

/- WHAT THE LISTED PACKAGE-LEVEL VARIABLES READ AS WHEN THE CALL BEGINS. Each datum BY PROGRAM (the guide's laid-datum.mjs) off the statement by which the dump's own 'gosem.cut.vars' lays the variable. In a bare row this is a premise. The card (YthcpljmibcacaaaDoorCards.lean) ties it to the program's text. -/
def laid_math_bits_deBruijn64tab {H : Type} : DataW H := .agg [.lit (.int .u8 0), .lit (.int .u8 1), .lit (.int .u8 56), .lit (.int .u8 2), .lit (.int .u8 57), .lit (.int .u8 49), .lit (.int .u8 28), .lit (.int .u8 3), .lit (.int .u8 61), .lit (.int .u8 58), .lit (.int .u8 42), .lit (.int .u8 50), .lit (.int .u8 38), .lit (.int .u8 29), .lit (.int .u8 17), .lit (.int .u8 4), .lit (.int .u8 62), .lit (.int .u8 47), .lit (.int .u8 59), .lit (.int .u8 36), .lit (.int .u8 45), .lit (.int .u8 43), .lit (.int .u8 51), .lit (.int .u8 22), .lit (.int .u8 53), .lit (.int .u8 39), .lit (.int .u8 33), .lit (.int .u8 30), .lit (.int .u8 24), .lit (.int .u8 18), .lit (.int .u8 12), .lit (.int .u8 5), .lit (.int .u8 63), .lit (.int .u8 55), .lit (.int .u8 48), .lit (.int .u8 27), .lit (.int .u8 60), .lit (.int .u8 41), .lit (.int .u8 37), .lit (.int .u8 16), .lit (.int .u8 46), .lit (.int .u8 35), .lit (.int .u8 44), .lit (.int .u8 21), .lit (.int .u8 52), .lit (.int .u8 32), .lit (.int .u8 23), .lit (.int .u8 11), .lit (.int .u8 54), .lit (.int .u8 26), .lit (.int .u8 40), .lit (.int .u8 15), .lit (.int .u8 34), .lit (.int .u8 20), .lit (.int .u8 31), .lit (.int .u8 10), .lit (.int .u8 25), .lit (.int .u8 14), .lit (.int .u8 19), .lit (.int .u8 9), .lit (.int .u8 13), .lit (.int .u8 8), .lit (.int .u8 7), .lit (.int .u8 6)]

/-- 'isinglasslaw05.WordsBack': WHATEVER THE INPUT: true; the input reads as it did. -/
def wordsBackSpec : ChangeSpec := { name := "wordsBack", fn := fun _ => fun
  | [d1, d2, d3] => { results := [.lit (.bool true)], args := [d1, d2, d3] }
  | _ => none }
def wordsBackRow : OpenClaim := { program := "ythcpljmibcacaaadoor", sum := "cf503870f2111a1652fd293ec96c1d93cfdc8e9771240d97478fc572220def97", func := "isinglass/isinglasslaw05.WordsBack", spec := "wordsBack", named := ["math/bits.deBruijn64tab"], apart := false, laid := [("math/bits.deBruijn64tab", laid_math_bits_deBruijn64tab)] }
def WordsBackSaid : Prop := wordsBackRow.holds Tryd.pinned (OpenSpec.ofChange wordsBackSpec)

/-- ITS FALSE NEIGHBOUR: 'it returns false'. Refute it at one input. -/
def wordsBackWrong : ChangeSpec := { name := "wordsBack", fn := fun _ => fun
  | [d1, d2, d3] => { results := [.lit (.bool false)], args := [d1, d2, d3] }
  | _ => none }
def WordsBackWrongFalsely : Prop := wordsBackRow.holds Tryd.pinned (OpenSpec.ofChange wordsBackWrong)

/-- 'isinglasslaw05.WordsRanges': WHATEVER THE INPUT: true; the input reads as it did. -/
def wordsRangesSpec : ChangeSpec := { name := "wordsRanges", fn := fun _ => fun
  | [d1, d2, d3] => { results := [.lit (.bool true)], args := [d1, d2, d3] }
  | _ => none }
def wordsRangesRow : OpenClaim := { program := "ythcpljmibcacaaadoor", sum := "cf503870f2111a1652fd293ec96c1d93cfdc8e9771240d97478fc572220def97", func := "isinglass/isinglasslaw05.WordsRanges", spec := "wordsRanges", unfollowed := true, recurses := true, named := ["math/bits.deBruijn64tab"], apart := false, laid := [("math/bits.deBruijn64tab", laid_math_bits_deBruijn64tab)] }
def WordsRangesSaid : Prop := wordsRangesRow.holds Tryd.pinned (OpenSpec.ofChange wordsRangesSpec)

/-- ITS FALSE NEIGHBOUR: 'it returns false'. Refute it at one input. -/
def wordsRangesWrong : ChangeSpec := { name := "wordsRanges", fn := fun _ => fun
  | [d1, d2, d3] => { results := [.lit (.bool false)], args := [d1, d2, d3] }
  | _ => none }
def WordsRangesWrongFalsely : Prop := wordsRangesRow.holds Tryd.pinned (OpenSpec.ofChange wordsRangesWrong)

/-- 'isinglasslaw05.WordsAlgebra': WHATEVER THE INPUT: true; the input reads as it did. -/
def wordsAlgebraSpec : ChangeSpec := { name := "wordsAlgebra", fn := fun _ => fun
  | [d1, d2, d3, d4] => { results := [.lit (.bool true)], args := [d1, d2, d3, d4] }
  | _ => none }
def wordsAlgebraRow : OpenClaim := { program := "ythcpljmibcacaaadoor", sum := "cf503870f2111a1652fd293ec96c1d93cfdc8e9771240d97478fc572220def97", func := "isinglass/isinglasslaw05.WordsAlgebra", spec := "wordsAlgebra", unfollowed := true, recurses := true, named := ["math/bits.deBruijn64tab"], apart := false, laid := [("math/bits.deBruijn64tab", laid_math_bits_deBruijn64tab)] }
def WordsAlgebraSaid : Prop := wordsAlgebraRow.holds Tryd.pinned (OpenSpec.ofChange wordsAlgebraSpec)

/-- ITS FALSE NEIGHBOUR: 'it returns false'. Refute it at one input. -/
def wordsAlgebraWrong : ChangeSpec := { name := "wordsAlgebra", fn := fun _ => fun
  | [d1, d2, d3, d4] => { results := [.lit (.bool false)], args := [d1, d2, d3, d4] }
  | _ => none }
def WordsAlgebraWrongFalsely : Prop := wordsAlgebraRow.holds Tryd.pinned (OpenSpec.ofChange wordsAlgebraWrong)

/-- 'isinglasslaw05.WordsSets': WHATEVER THE INPUT: true; the input reads as it did. -/
def wordsSetsSpec : ChangeSpec := { name := "wordsSets", fn := fun _ => fun
  | [d1, d2, d3, d4, d5] => { results := [.lit (.bool true)], args := [d1, d2, d3, d4, d5] }
  | _ => none }
def wordsSetsRow : OpenClaim := { program := "ythcpljmibcacaaadoor", sum := "cf503870f2111a1652fd293ec96c1d93cfdc8e9771240d97478fc572220def97", func := "isinglass/isinglasslaw05.WordsSets", spec := "wordsSets", unfollowed := true, recurses := true, named := ["math/bits.deBruijn64tab"], apart := false, laid := [("math/bits.deBruijn64tab", laid_math_bits_deBruijn64tab)] }
def WordsSetsSaid : Prop := wordsSetsRow.holds Tryd.pinned (OpenSpec.ofChange wordsSetsSpec)

/-- ITS FALSE NEIGHBOUR: 'it returns false'. Refute it at one input. -/
def wordsSetsWrong : ChangeSpec := { name := "wordsSets", fn := fun _ => fun
  | [d1, d2, d3, d4, d5] => { results := [.lit (.bool false)], args := [d1, d2, d3, d4, d5] }
  | _ => none }
def WordsSetsWrongFalsely : Prop := wordsSetsRow.holds Tryd.pinned (OpenSpec.ofChange wordsSetsWrong)

/-- 'isinglasslaw05.WordsArrays': WHATEVER THE INPUT: true; the input reads as it did. -/
def wordsArraysSpec : ChangeSpec := { name := "wordsArrays", fn := fun _ => fun
  | [d1, d2] => { results := [.lit (.bool true)], args := [d1, d2] }
  | _ => none }
def wordsArraysRow : OpenClaim := { program := "ythcpljmibcacaaadoor", sum := "cf503870f2111a1652fd293ec96c1d93cfdc8e9771240d97478fc572220def97", func := "isinglass/isinglasslaw05.WordsArrays", spec := "wordsArrays", unfollowed := true, recurses := true, named := ["math/bits.deBruijn64tab"], apart := false, laid := [("math/bits.deBruijn64tab", laid_math_bits_deBruijn64tab)] }
def WordsArraysSaid : Prop := wordsArraysRow.holds Tryd.pinned (OpenSpec.ofChange wordsArraysSpec)

/-- ITS FALSE NEIGHBOUR: 'it returns false'. Refute it at one input. -/
def wordsArraysWrong : ChangeSpec := { name := "wordsArrays", fn := fun _ => fun
  | [d1, d2] => { results := [.lit (.bool false)], args := [d1, d2] }
  | _ => none }
def WordsArraysWrongFalsely : Prop := wordsArraysRow.holds Tryd.pinned (OpenSpec.ofChange wordsArraysWrong)

/-- 'isinglasslaw06.RunsWords': WHATEVER THE INPUT: true; the input reads as it did. -/
def runsWordsSpec : ChangeSpec := { name := "runsWords", fn := fun _ => fun
  | [d1, d2] => { results := [.lit (.bool true)], args := [d1, d2] }
  | _ => none }
def runsWordsRow : OpenClaim := { program := "ythcpljmibcacaaadoor", sum := "cf503870f2111a1652fd293ec96c1d93cfdc8e9771240d97478fc572220def97", func := "isinglass/isinglasslaw06.RunsWords", spec := "runsWords", unfollowed := true, recurses := true, named := ["math/bits.deBruijn64tab"], apart := false, laid := [("math/bits.deBruijn64tab", laid_math_bits_deBruijn64tab)] }
def RunsWordsSaid : Prop := runsWordsRow.holds Tryd.pinned (OpenSpec.ofChange runsWordsSpec)

/-- ITS FALSE NEIGHBOUR: 'it returns false'. Refute it at one input. -/
def runsWordsWrong : ChangeSpec := { name := "runsWords", fn := fun _ => fun
  | [d1, d2] => { results := [.lit (.bool false)], args := [d1, d2] }
  | _ => none }
def RunsWordsWrongFalsely : Prop := runsWordsRow.holds Tryd.pinned (OpenSpec.ofChange runsWordsWrong)

/- THE SECOND FORM. 'bulk': how many values and letters a reading holds, each counted each time it is reached (what is shared counts as often as it is met; a slice's spare places count too). A statement '..UptoSaid' is the law's where the arguments, and the package variables that the reading takes, are together of bulk at most 1048576: NARROWER than '..Said'. Prove '..Said' where nothing that the law and all that it calls make is longer than what came in: it says more and counts as full. Else prove '..UptoSaid'. A law counts once. -/
mutual
def uptoBulk {H : Type} : DataW H → Nat
  | .lit (.string bytes) => bytes.length + 1
  | .lit _ => 1
  | .nil => 1
  | .ptr d => uptoBulk d + 1
  | .slice elems spare => uptoBulkAll elems + uptoBulkAll spare + 1
  | .agg parts => uptoBulkAll parts + 1
  | .iface _ d => uptoBulk d + 1
  | .map entries => uptoBulkEntries entries + 1
  | .held _ => 1
def uptoBulkAll {H : Type} : List (DataW H) → Nat
  | [] => 0
  | d :: r => uptoBulk d + uptoBulkAll r
def uptoBulkEntries {H : Type} : List (Lit × DataW H) → Nat
  | [] => 0
  | x :: r => uptoBulkEntry x + uptoBulkEntries r
def uptoBulkEntry {H : Type} : Lit × DataW H → Nat
  | (.string bytes, d) => bytes.length + uptoBulk d + 1
  | (_, d) => uptoBulk d + 1
 end
def uptoSmall : (H : Type) → List (DataW H) → Bool := fun _ ds => decide (uptoBulkAll ds ≤ 1048576)
def OpenSpec.upto (s : _root_.Go.ChangeSpec) : _root_.Go.OpenSpec := { _root_.Go.OpenSpec.ofChange s with cond := some uptoSmall }

/-- 'isinglasslaw05.WordsBack', WHERE WHAT IT READS IS OF BULK AT MOST 1048576: true; the input reads as it did. -/
def wordsBackUptoRow : OpenClaim := { program := "ythcpljmibcacaaadoor", sum := "cf503870f2111a1652fd293ec96c1d93cfdc8e9771240d97478fc572220def97", func := "isinglass/isinglasslaw05.WordsBack", spec := "wordsBack", named := ["math/bits.deBruijn64tab"], apart := false, laid := [("math/bits.deBruijn64tab", laid_math_bits_deBruijn64tab)], narrowed := true }
def WordsBackUptoSaid : Prop := wordsBackUptoRow.holds Tryd.pinned (OpenSpec.upto wordsBackSpec)

/-- 'isinglasslaw05.WordsRanges', WHERE WHAT IT READS IS OF BULK AT MOST 1048576: true; the input reads as it did. -/
def wordsRangesUptoRow : OpenClaim := { program := "ythcpljmibcacaaadoor", sum := "cf503870f2111a1652fd293ec96c1d93cfdc8e9771240d97478fc572220def97", func := "isinglass/isinglasslaw05.WordsRanges", spec := "wordsRanges", unfollowed := true, recurses := true, named := ["math/bits.deBruijn64tab"], apart := false, laid := [("math/bits.deBruijn64tab", laid_math_bits_deBruijn64tab)], narrowed := true }
def WordsRangesUptoSaid : Prop := wordsRangesUptoRow.holds Tryd.pinned (OpenSpec.upto wordsRangesSpec)

/-- 'isinglasslaw05.WordsAlgebra', WHERE WHAT IT READS IS OF BULK AT MOST 1048576: true; the input reads as it did. -/
def wordsAlgebraUptoRow : OpenClaim := { program := "ythcpljmibcacaaadoor", sum := "cf503870f2111a1652fd293ec96c1d93cfdc8e9771240d97478fc572220def97", func := "isinglass/isinglasslaw05.WordsAlgebra", spec := "wordsAlgebra", unfollowed := true, recurses := true, named := ["math/bits.deBruijn64tab"], apart := false, laid := [("math/bits.deBruijn64tab", laid_math_bits_deBruijn64tab)], narrowed := true }
def WordsAlgebraUptoSaid : Prop := wordsAlgebraUptoRow.holds Tryd.pinned (OpenSpec.upto wordsAlgebraSpec)

/-- 'isinglasslaw05.WordsSets', WHERE WHAT IT READS IS OF BULK AT MOST 1048576: true; the input reads as it did. -/
def wordsSetsUptoRow : OpenClaim := { program := "ythcpljmibcacaaadoor", sum := "cf503870f2111a1652fd293ec96c1d93cfdc8e9771240d97478fc572220def97", func := "isinglass/isinglasslaw05.WordsSets", spec := "wordsSets", unfollowed := true, recurses := true, named := ["math/bits.deBruijn64tab"], apart := false, laid := [("math/bits.deBruijn64tab", laid_math_bits_deBruijn64tab)], narrowed := true }
def WordsSetsUptoSaid : Prop := wordsSetsUptoRow.holds Tryd.pinned (OpenSpec.upto wordsSetsSpec)

/-- 'isinglasslaw05.WordsArrays', WHERE WHAT IT READS IS OF BULK AT MOST 1048576: true; the input reads as it did. -/
def wordsArraysUptoRow : OpenClaim := { program := "ythcpljmibcacaaadoor", sum := "cf503870f2111a1652fd293ec96c1d93cfdc8e9771240d97478fc572220def97", func := "isinglass/isinglasslaw05.WordsArrays", spec := "wordsArrays", unfollowed := true, recurses := true, named := ["math/bits.deBruijn64tab"], apart := false, laid := [("math/bits.deBruijn64tab", laid_math_bits_deBruijn64tab)], narrowed := true }
def WordsArraysUptoSaid : Prop := wordsArraysUptoRow.holds Tryd.pinned (OpenSpec.upto wordsArraysSpec)

/-- 'isinglasslaw06.RunsWords', WHERE WHAT IT READS IS OF BULK AT MOST 1048576: true; the input reads as it did. -/
def runsWordsUptoRow : OpenClaim := { program := "ythcpljmibcacaaadoor", sum := "cf503870f2111a1652fd293ec96c1d93cfdc8e9771240d97478fc572220def97", func := "isinglass/isinglasslaw06.RunsWords", spec := "runsWords", unfollowed := true, recurses := true, named := ["math/bits.deBruijn64tab"], apart := false, laid := [("math/bits.deBruijn64tab", laid_math_bits_deBruijn64tab)], narrowed := true }
def RunsWordsUptoSaid : Prop := runsWordsUptoRow.holds Tryd.pinned (OpenSpec.upto runsWordsSpec)

end Rows
end Go.Proofs.YthcpljmibcacaaaDoor
