/-
  DERIVED. GIVEN WITH THE SEED: THE CARDS: each row of YtadpcgjohleglaaGreatDoorRows.lean that lists a variable, with what it lists TIED to the program's text (the seventh form; the later family's looks); each row that meets fmt, with fmt's text TOLD by the authors' own Lean function (tested against real Go, not proved from fmt's source: count such statements apart). THE CARD IS WHAT COUNTS. Prove the row's statement (the work); the ties are given (YtadpcgjohleglaaGreatDoorTie.lean); close each card by the builder's one call (the guide's Derived/Test/ToyasCard.lean, 'card_holds'). Laid BY PROGRAM, IN A SANDBOX (cutbox-door.mjs). By AI agents, Wed Nov 11 2026. No macro, syntax, notation, axiom, sorry.
-/
import Derived.Test.YtadpcgjohleglaaGreatDoorRows
import GoSem.ClaimSeven
namespace Go.Proofs.YtadpcgjohleglaaGreatDoor
namespace Rows

/-- THE TIED CARD OF 'isinglasslaw16.SortedInverted'. -/
def sortedInvertedCard : Claim7 := { stood := { row := sortedInvertedRow, standIns := [], harness := (true, "8acac55cdf00588eb179dc08457b46dda3096e7d4f9945bf72b0366ee948cd14"), looks := false }, kinds := [], alts := [], laidByText := true, laidKinds := [.data], laidTests := true, laidLooks := .later }
def SortedInvertedCardSaid : Prop := Claim7.holds Tryz.pinned (.plain (OpenSpec.ofChange sortedInvertedSpec)) sortedInvertedCard

/-- THE TIED CARD OF 'isinglasslaw15.RangedInverted'. -/
def rangedInvertedCard : Claim7 := { stood := { row := rangedInvertedRow, standIns := [], harness := (true, "8acac55cdf00588eb179dc08457b46dda3096e7d4f9945bf72b0366ee948cd14"), looks := false }, kinds := [], alts := [], laidByText := true, laidKinds := [.data], laidTests := true, laidLooks := .later }
def RangedInvertedCardSaid : Prop := Claim7.holds Tryz.pinned (.plain (OpenSpec.ofChange rangedInvertedSpec)) rangedInvertedCard

/-- THE TIED CARD OF 'isinglasslaw14.InvertedOnce'. -/
def invertedOnceCard : Claim7 := { stood := { row := invertedOnceRow, standIns := [], harness := (true, "8acac55cdf00588eb179dc08457b46dda3096e7d4f9945bf72b0366ee948cd14"), looks := false }, kinds := [], alts := [], laidByText := true, laidKinds := [.data], laidTests := true, laidLooks := .later }
def InvertedOnceCardSaid : Prop := Claim7.holds Tryz.pinned (.plain (OpenSpec.ofChange invertedOnceSpec)) invertedOnceCard

/-- THE TIED CARD OF 'isinglasslaw15.RangedSums'. -/
def rangedSumsCard : Claim7 := { stood := { row := rangedSumsRow, standIns := [], harness := (true, "8acac55cdf00588eb179dc08457b46dda3096e7d4f9945bf72b0366ee948cd14"), looks := false }, kinds := [], alts := [], laidByText := true, laidKinds := [.data], laidTests := true, laidLooks := .later }
def RangedSumsCardSaid : Prop := Claim7.holds Tryz.pinned (.plain (OpenSpec.ofChange rangedSumsSpec)) rangedSumsCard

/-- THE TIED CARD OF 'isinglasslaw14.InvertedAmong'. -/
def invertedAmongCard : Claim7 := { stood := { row := invertedAmongRow, standIns := [], harness := (true, "8acac55cdf00588eb179dc08457b46dda3096e7d4f9945bf72b0366ee948cd14"), looks := false }, kinds := [], alts := [], laidByText := true, laidKinds := [.data], laidTests := true, laidLooks := .later }
def InvertedAmongCardSaid : Prop := Claim7.holds Tryz.pinned (.plain (OpenSpec.ofChange invertedAmongSpec)) invertedAmongCard

/-- THE SECOND FORM's CARD OF 'isinglasslaw16.SortedInverted'. -/
def sortedInvertedUptoCard : Claim7 := { stood := { row := sortedInvertedUptoRow, standIns := [], harness := (true, "8acac55cdf00588eb179dc08457b46dda3096e7d4f9945bf72b0366ee948cd14"), looks := false }, kinds := [], alts := [], laidByText := true, laidKinds := [.data], laidTests := true, laidLooks := .later }
def SortedInvertedUptoCardSaid : Prop := Claim7.holds Tryz.pinned (.plain (OpenSpec.upto sortedInvertedSpec)) sortedInvertedUptoCard

/-- THE SECOND FORM's CARD OF 'isinglasslaw15.RangedInverted'. -/
def rangedInvertedUptoCard : Claim7 := { stood := { row := rangedInvertedUptoRow, standIns := [], harness := (true, "8acac55cdf00588eb179dc08457b46dda3096e7d4f9945bf72b0366ee948cd14"), looks := false }, kinds := [], alts := [], laidByText := true, laidKinds := [.data], laidTests := true, laidLooks := .later }
def RangedInvertedUptoCardSaid : Prop := Claim7.holds Tryz.pinned (.plain (OpenSpec.upto rangedInvertedSpec)) rangedInvertedUptoCard

/-- THE SECOND FORM's CARD OF 'isinglasslaw14.InvertedOnce'. -/
def invertedOnceUptoCard : Claim7 := { stood := { row := invertedOnceUptoRow, standIns := [], harness := (true, "8acac55cdf00588eb179dc08457b46dda3096e7d4f9945bf72b0366ee948cd14"), looks := false }, kinds := [], alts := [], laidByText := true, laidKinds := [.data], laidTests := true, laidLooks := .later }
def InvertedOnceUptoCardSaid : Prop := Claim7.holds Tryz.pinned (.plain (OpenSpec.upto invertedOnceSpec)) invertedOnceUptoCard

/-- THE SECOND FORM's CARD OF 'isinglasslaw15.RangedSums'. -/
def rangedSumsUptoCard : Claim7 := { stood := { row := rangedSumsUptoRow, standIns := [], harness := (true, "8acac55cdf00588eb179dc08457b46dda3096e7d4f9945bf72b0366ee948cd14"), looks := false }, kinds := [], alts := [], laidByText := true, laidKinds := [.data], laidTests := true, laidLooks := .later }
def RangedSumsUptoCardSaid : Prop := Claim7.holds Tryz.pinned (.plain (OpenSpec.upto rangedSumsSpec)) rangedSumsUptoCard

/-- THE SECOND FORM's CARD OF 'isinglasslaw14.InvertedAmong'. -/
def invertedAmongUptoCard : Claim7 := { stood := { row := invertedAmongUptoRow, standIns := [], harness := (true, "8acac55cdf00588eb179dc08457b46dda3096e7d4f9945bf72b0366ee948cd14"), looks := false }, kinds := [], alts := [], laidByText := true, laidKinds := [.data], laidTests := true, laidLooks := .later }
def InvertedAmongUptoCardSaid : Prop := Claim7.holds Tryz.pinned (.plain (OpenSpec.upto invertedAmongSpec)) invertedAmongUptoCard
end Rows
end Go.Proofs.YtadpcgjohleglaaGreatDoor
