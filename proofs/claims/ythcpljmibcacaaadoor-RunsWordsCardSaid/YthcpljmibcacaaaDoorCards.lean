/-
  DERIVED. GIVEN WITH THE SEED: THE CARDS: each row of YthcpljmibcacaaaDoorRows.lean that lists a variable, with what it lists TIED to the program's text (the seventh form; the later family's looks); each row that meets fmt, with fmt's text TOLD by the authors' own Lean function (tested against real Go, not proved from fmt's source: count such statements apart). THE CARD IS WHAT COUNTS. Prove the row's statement (the work); the ties are given (YthcpljmibcacaaaDoorTie.lean); close each card by the builder's one call (the guide's Derived/Test/ToyasCard.lean, 'card_holds'). Laid BY PROGRAM, IN A SANDBOX (cutbox-door.mjs). By AI agents, Wed Nov 11 2026. No macro, syntax, notation, axiom, sorry.
-/
import Derived.Test.YthcpljmibcacaaaDoorRows
import GoSem.ClaimSeven
namespace Go.Proofs.YthcpljmibcacaaaDoor
namespace Rows

/-- THE TIED CARD OF 'isinglasslaw05.WordsBack'. -/
def wordsBackCard : Claim7 := { stood := { row := wordsBackRow, standIns := [], harness := (true, "291be6ebdc0e06f286161a7d60370b9479eb2bbdeac5226a5b3fcaa1c6f65fc1"), looks := false }, kinds := [], alts := [], laidByText := true, laidKinds := [.data], laidTests := true, laidLooks := .later }
def WordsBackCardSaid : Prop := Claim7.holds Tryd.pinned (.plain (OpenSpec.ofChange wordsBackSpec)) wordsBackCard

/-- THE TIED CARD OF 'isinglasslaw05.WordsRanges'. -/
def wordsRangesCard : Claim7 := { stood := { row := wordsRangesRow, standIns := [], harness := (true, "291be6ebdc0e06f286161a7d60370b9479eb2bbdeac5226a5b3fcaa1c6f65fc1"), looks := false }, kinds := [], alts := [], laidByText := true, laidKinds := [.data], laidTests := true, laidLooks := .later }
def WordsRangesCardSaid : Prop := Claim7.holds Tryd.pinned (.plain (OpenSpec.ofChange wordsRangesSpec)) wordsRangesCard

/-- THE TIED CARD OF 'isinglasslaw05.WordsAlgebra'. -/
def wordsAlgebraCard : Claim7 := { stood := { row := wordsAlgebraRow, standIns := [], harness := (true, "291be6ebdc0e06f286161a7d60370b9479eb2bbdeac5226a5b3fcaa1c6f65fc1"), looks := false }, kinds := [], alts := [], laidByText := true, laidKinds := [.data], laidTests := true, laidLooks := .later }
def WordsAlgebraCardSaid : Prop := Claim7.holds Tryd.pinned (.plain (OpenSpec.ofChange wordsAlgebraSpec)) wordsAlgebraCard

/-- THE TIED CARD OF 'isinglasslaw05.WordsSets'. -/
def wordsSetsCard : Claim7 := { stood := { row := wordsSetsRow, standIns := [], harness := (true, "291be6ebdc0e06f286161a7d60370b9479eb2bbdeac5226a5b3fcaa1c6f65fc1"), looks := false }, kinds := [], alts := [], laidByText := true, laidKinds := [.data], laidTests := true, laidLooks := .later }
def WordsSetsCardSaid : Prop := Claim7.holds Tryd.pinned (.plain (OpenSpec.ofChange wordsSetsSpec)) wordsSetsCard

/-- THE TIED CARD OF 'isinglasslaw05.WordsArrays'. -/
def wordsArraysCard : Claim7 := { stood := { row := wordsArraysRow, standIns := [], harness := (true, "291be6ebdc0e06f286161a7d60370b9479eb2bbdeac5226a5b3fcaa1c6f65fc1"), looks := false }, kinds := [], alts := [], laidByText := true, laidKinds := [.data], laidTests := true, laidLooks := .later }
def WordsArraysCardSaid : Prop := Claim7.holds Tryd.pinned (.plain (OpenSpec.ofChange wordsArraysSpec)) wordsArraysCard

/-- THE TIED CARD OF 'isinglasslaw06.RunsWords'. -/
def runsWordsCard : Claim7 := { stood := { row := runsWordsRow, standIns := [], harness := (true, "291be6ebdc0e06f286161a7d60370b9479eb2bbdeac5226a5b3fcaa1c6f65fc1"), looks := false }, kinds := [], alts := [], laidByText := true, laidKinds := [.data], laidTests := true, laidLooks := .later }
def RunsWordsCardSaid : Prop := Claim7.holds Tryd.pinned (.plain (OpenSpec.ofChange runsWordsSpec)) runsWordsCard

/-- THE SECOND FORM's CARD OF 'isinglasslaw05.WordsBack'. -/
def wordsBackUptoCard : Claim7 := { stood := { row := wordsBackUptoRow, standIns := [], harness := (true, "291be6ebdc0e06f286161a7d60370b9479eb2bbdeac5226a5b3fcaa1c6f65fc1"), looks := false }, kinds := [], alts := [], laidByText := true, laidKinds := [.data], laidTests := true, laidLooks := .later }
def WordsBackUptoCardSaid : Prop := Claim7.holds Tryd.pinned (.plain (OpenSpec.upto wordsBackSpec)) wordsBackUptoCard

/-- THE SECOND FORM's CARD OF 'isinglasslaw05.WordsRanges'. -/
def wordsRangesUptoCard : Claim7 := { stood := { row := wordsRangesUptoRow, standIns := [], harness := (true, "291be6ebdc0e06f286161a7d60370b9479eb2bbdeac5226a5b3fcaa1c6f65fc1"), looks := false }, kinds := [], alts := [], laidByText := true, laidKinds := [.data], laidTests := true, laidLooks := .later }
def WordsRangesUptoCardSaid : Prop := Claim7.holds Tryd.pinned (.plain (OpenSpec.upto wordsRangesSpec)) wordsRangesUptoCard

/-- THE SECOND FORM's CARD OF 'isinglasslaw05.WordsAlgebra'. -/
def wordsAlgebraUptoCard : Claim7 := { stood := { row := wordsAlgebraUptoRow, standIns := [], harness := (true, "291be6ebdc0e06f286161a7d60370b9479eb2bbdeac5226a5b3fcaa1c6f65fc1"), looks := false }, kinds := [], alts := [], laidByText := true, laidKinds := [.data], laidTests := true, laidLooks := .later }
def WordsAlgebraUptoCardSaid : Prop := Claim7.holds Tryd.pinned (.plain (OpenSpec.upto wordsAlgebraSpec)) wordsAlgebraUptoCard

/-- THE SECOND FORM's CARD OF 'isinglasslaw05.WordsSets'. -/
def wordsSetsUptoCard : Claim7 := { stood := { row := wordsSetsUptoRow, standIns := [], harness := (true, "291be6ebdc0e06f286161a7d60370b9479eb2bbdeac5226a5b3fcaa1c6f65fc1"), looks := false }, kinds := [], alts := [], laidByText := true, laidKinds := [.data], laidTests := true, laidLooks := .later }
def WordsSetsUptoCardSaid : Prop := Claim7.holds Tryd.pinned (.plain (OpenSpec.upto wordsSetsSpec)) wordsSetsUptoCard

/-- THE SECOND FORM's CARD OF 'isinglasslaw05.WordsArrays'. -/
def wordsArraysUptoCard : Claim7 := { stood := { row := wordsArraysUptoRow, standIns := [], harness := (true, "291be6ebdc0e06f286161a7d60370b9479eb2bbdeac5226a5b3fcaa1c6f65fc1"), looks := false }, kinds := [], alts := [], laidByText := true, laidKinds := [.data], laidTests := true, laidLooks := .later }
def WordsArraysUptoCardSaid : Prop := Claim7.holds Tryd.pinned (.plain (OpenSpec.upto wordsArraysSpec)) wordsArraysUptoCard

/-- THE SECOND FORM's CARD OF 'isinglasslaw06.RunsWords'. -/
def runsWordsUptoCard : Claim7 := { stood := { row := runsWordsUptoRow, standIns := [], harness := (true, "291be6ebdc0e06f286161a7d60370b9479eb2bbdeac5226a5b3fcaa1c6f65fc1"), looks := false }, kinds := [], alts := [], laidByText := true, laidKinds := [.data], laidTests := true, laidLooks := .later }
def RunsWordsUptoCardSaid : Prop := Claim7.holds Tryd.pinned (.plain (OpenSpec.upto runsWordsSpec)) runsWordsUptoCard
end Rows
end Go.Proofs.YthcpljmibcacaaaDoor
