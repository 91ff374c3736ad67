/-
  DERIVED. GIVEN WITH THE SEED: THE CARDS: each row of YtbokphkfojijoaaGreatDoorRows.lean that lists a variable, with what it lists TIED to the program's text (the seventh form; the later family's looks); each row that meets fmt, with fmt's text TOLD by the authors' own Lean function (tested against real Go, not proved from fmt's source: count such statements apart). THE CARD IS WHAT COUNTS. Prove the row's statement (the work); the ties are given (YtbokphkfojijoaaGreatDoorTie.lean); close each card by the builder's one call (the guide's Derived/Test/ToyasCard.lean, 'card_holds'). Laid BY PROGRAM, IN A SANDBOX (cutbox-door.mjs). By AI agents, Wed Nov 11 2026. No macro, syntax, notation, axiom, sorry.
-/
import Derived.Test.YtbokphkfojijoaaGreatDoorRows
import GoSem.ClaimSeven
namespace Go.Proofs.YtbokphkfojijoaaGreatDoor
namespace Rows

/-- THE TIED CARD OF 'isinglasslaw09.PortableKinds'. -/
def portableKindsCard : Claim7 := { stood := { row := portableKindsRow, standIns := [], harness := (true, "dc9f637ba7512781b4d5086854fca5e3cf45261c087daba7694b5cbb7c55982c"), looks := false }, kinds := [], alts := [], laidByText := true, laidKinds := [.data], laidTests := true, laidLooks := .later }
def PortableKindsCardSaid : Prop := Claim7.holds Tryz.pinned (.plain (OpenSpec.ofChange portableKindsSpec)) portableKindsCard

/-- THE TIED CARD OF 'isinglasslaw14.InvertedWhole'. -/
def invertedWholeCard : Claim7 := { stood := { row := invertedWholeRow, standIns := [], harness := (true, "dc9f637ba7512781b4d5086854fca5e3cf45261c087daba7694b5cbb7c55982c"), looks := false }, kinds := [], alts := [], laidByText := true, laidKinds := [.data], laidTests := true, laidLooks := .later }
def InvertedWholeCardSaid : Prop := Claim7.holds Tryz.pinned (.plain (OpenSpec.ofChange invertedWholeSpec)) invertedWholeCard

/-- THE TIED CARD OF 'isinglasslaw15.RangedWhole'. -/
def rangedWholeCard : Claim7 := { stood := { row := rangedWholeRow, standIns := [], harness := (true, "dc9f637ba7512781b4d5086854fca5e3cf45261c087daba7694b5cbb7c55982c"), looks := false }, kinds := [], alts := [], laidByText := true, laidKinds := [.data], laidTests := true, laidLooks := .later }
def RangedWholeCardSaid : Prop := Claim7.holds Tryz.pinned (.plain (OpenSpec.ofChange rangedWholeSpec)) rangedWholeCard

/-- THE TIED CARD OF 'isinglasslaw14.InvertedIndexes'. -/
def invertedIndexesCard : Claim7 := { stood := { row := invertedIndexesRow, standIns := [], harness := (true, "dc9f637ba7512781b4d5086854fca5e3cf45261c087daba7694b5cbb7c55982c"), looks := false }, kinds := [], alts := [], laidByText := true, laidKinds := [.data], laidTests := true, laidLooks := .later }
def InvertedIndexesCardSaid : Prop := Claim7.holds Tryz.pinned (.plain (OpenSpec.ofChange invertedIndexesSpec)) invertedIndexesCard

/-- THE TIED CARD OF 'isinglasslaw15.RangedIndexes'. -/
def rangedIndexesCard : Claim7 := { stood := { row := rangedIndexesRow, standIns := [], harness := (true, "dc9f637ba7512781b4d5086854fca5e3cf45261c087daba7694b5cbb7c55982c"), looks := false }, kinds := [], alts := [], laidByText := true, laidKinds := [.data], laidTests := true, laidLooks := .later }
def RangedIndexesCardSaid : Prop := Claim7.holds Tryz.pinned (.plain (OpenSpec.ofChange rangedIndexesSpec)) rangedIndexesCard

/-- THE SECOND FORM's CARD OF 'isinglasslaw09.PortableKinds'. -/
def portableKindsUptoCard : Claim7 := { stood := { row := portableKindsUptoRow, standIns := [], harness := (true, "dc9f637ba7512781b4d5086854fca5e3cf45261c087daba7694b5cbb7c55982c"), looks := false }, kinds := [], alts := [], laidByText := true, laidKinds := [.data], laidTests := true, laidLooks := .later }
def PortableKindsUptoCardSaid : Prop := Claim7.holds Tryz.pinned (.plain (OpenSpec.upto portableKindsSpec)) portableKindsUptoCard

/-- THE SECOND FORM's CARD OF 'isinglasslaw14.InvertedWhole'. -/
def invertedWholeUptoCard : Claim7 := { stood := { row := invertedWholeUptoRow, standIns := [], harness := (true, "dc9f637ba7512781b4d5086854fca5e3cf45261c087daba7694b5cbb7c55982c"), looks := false }, kinds := [], alts := [], laidByText := true, laidKinds := [.data], laidTests := true, laidLooks := .later }
def InvertedWholeUptoCardSaid : Prop := Claim7.holds Tryz.pinned (.plain (OpenSpec.upto invertedWholeSpec)) invertedWholeUptoCard

/-- THE SECOND FORM's CARD OF 'isinglasslaw15.RangedWhole'. -/
def rangedWholeUptoCard : Claim7 := { stood := { row := rangedWholeUptoRow, standIns := [], harness := (true, "dc9f637ba7512781b4d5086854fca5e3cf45261c087daba7694b5cbb7c55982c"), looks := false }, kinds := [], alts := [], laidByText := true, laidKinds := [.data], laidTests := true, laidLooks := .later }
def RangedWholeUptoCardSaid : Prop := Claim7.holds Tryz.pinned (.plain (OpenSpec.upto rangedWholeSpec)) rangedWholeUptoCard

/-- THE SECOND FORM's CARD OF 'isinglasslaw14.InvertedIndexes'. -/
def invertedIndexesUptoCard : Claim7 := { stood := { row := invertedIndexesUptoRow, standIns := [], harness := (true, "dc9f637ba7512781b4d5086854fca5e3cf45261c087daba7694b5cbb7c55982c"), looks := false }, kinds := [], alts := [], laidByText := true, laidKinds := [.data], laidTests := true, laidLooks := .later }
def InvertedIndexesUptoCardSaid : Prop := Claim7.holds Tryz.pinned (.plain (OpenSpec.upto invertedIndexesSpec)) invertedIndexesUptoCard

/-- THE SECOND FORM's CARD OF 'isinglasslaw15.RangedIndexes'. -/
def rangedIndexesUptoCard : Claim7 := { stood := { row := rangedIndexesUptoRow, standIns := [], harness := (true, "dc9f637ba7512781b4d5086854fca5e3cf45261c087daba7694b5cbb7c55982c"), looks := false }, kinds := [], alts := [], laidByText := true, laidKinds := [.data], laidTests := true, laidLooks := .later }
def RangedIndexesUptoCardSaid : Prop := Claim7.holds Tryz.pinned (.plain (OpenSpec.upto rangedIndexesSpec)) rangedIndexesUptoCard
end Rows
end Go.Proofs.YtbokphkfojijoaaGreatDoor
