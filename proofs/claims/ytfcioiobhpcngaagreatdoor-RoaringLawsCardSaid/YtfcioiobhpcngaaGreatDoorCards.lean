/-
  DERIVED. GIVEN WITH THE SEED: THE CARDS: each row of YtfcioiobhpcngaaGreatDoorRows.lean that lists a variable, with what it lists TIED to the program's text (the seventh form; the later family's looks); each row that meets fmt, with fmt's text TOLD by the authors' own Lean function (tested against real Go, not proved from fmt's source: count such statements apart). THE CARD IS WHAT COUNTS. Prove the row's statement (the work); the ties are given (YtfcioiobhpcngaaGreatDoorTie.lean); close each card by the builder's one call (the guide's Derived/Test/ToyasCard.lean, 'card_holds'). Laid BY PROGRAM, IN A SANDBOX (cutbox-door.mjs). By AI agents, Wed Nov 11 2026. No macro, syntax, notation, axiom, sorry.
-/
import Derived.Test.YtfcioiobhpcngaaGreatDoorRows
import GoSem.ClaimSeven
namespace Go.Proofs.YtfcioiobhpcngaaGreatDoor
namespace Rows

/-- THE TIED CARD OF 'isinglasslaw08.RoaringTop'. -/
def roaringTopCard : Claim7 := { stood := { row := roaringTopRow, standIns := [], harness := (true, "f05d0b1286024193624f9f426e94e4cc2e81ad9b3464dee9242ea372d8e2d98b"), looks := false }, kinds := [], alts := [], laidByText := true, laidKinds := [.data], laidTests := true, laidLooks := .later }
def RoaringTopCardSaid : Prop := Claim7.holds Tryz.pinned (.plain (OpenSpec.ofChange roaringTopSpec)) roaringTopCard

/-- THE TIED CARD OF 'isinglasslaw08.RoaringCopies'. -/
def roaringCopiesCard : Claim7 := { stood := { row := roaringCopiesRow, standIns := [], harness := (true, "f05d0b1286024193624f9f426e94e4cc2e81ad9b3464dee9242ea372d8e2d98b"), looks := false }, kinds := [], alts := [], laidByText := true, laidKinds := [.data], laidTests := true, laidLooks := .later }
def RoaringCopiesCardSaid : Prop := Claim7.holds Tryz.pinned (.plain (OpenSpec.ofChange roaringCopiesSpec)) roaringCopiesCard

/-- THE TIED CARD OF 'isinglasslaw08.RoaringTells'. -/
def roaringTellsCard : Claim7 := { stood := { row := roaringTellsRow, standIns := [], harness := (true, "f05d0b1286024193624f9f426e94e4cc2e81ad9b3464dee9242ea372d8e2d98b"), looks := false }, kinds := [], alts := [], laidByText := true, laidKinds := [.data], laidTests := true, laidLooks := .later }
def RoaringTellsCardSaid : Prop := Claim7.holds Tryz.pinned (.plain (OpenSpec.ofChange roaringTellsSpec)) roaringTellsCard

/-- THE TIED CARD OF 'isinglasslaw08.RoaringLaws'. -/
def roaringLawsCard : Claim7 := { stood := { row := roaringLawsRow, standIns := [], harness := (true, "f05d0b1286024193624f9f426e94e4cc2e81ad9b3464dee9242ea372d8e2d98b"), looks := false }, kinds := [], alts := [], laidByText := true, laidKinds := [.data], laidTests := true, laidLooks := .later }
def RoaringLawsCardSaid : Prop := Claim7.holds Tryz.pinned (.plain (OpenSpec.ofChange roaringLawsSpec)) roaringLawsCard

/-- THE TIED CARD OF 'isinglasslaw08.RoaringCuts'. -/
def roaringCutsCard : Claim7 := { stood := { row := roaringCutsRow, standIns := [], harness := (true, "f05d0b1286024193624f9f426e94e4cc2e81ad9b3464dee9242ea372d8e2d98b"), looks := false }, kinds := [], alts := [], laidByText := true, laidKinds := [.data], laidTests := true, laidLooks := .later }
def RoaringCutsCardSaid : Prop := Claim7.holds Tryz.pinned (.plain (OpenSpec.ofChange roaringCutsSpec)) roaringCutsCard

/-- THE TIED CARD OF 'isinglasslaw08.RoaringJoins'. -/
def roaringJoinsCard : Claim7 := { stood := { row := roaringJoinsRow, standIns := [], harness := (true, "f05d0b1286024193624f9f426e94e4cc2e81ad9b3464dee9242ea372d8e2d98b"), looks := false }, kinds := [], alts := [], laidByText := true, laidKinds := [.data], laidTests := true, laidLooks := .later }
def RoaringJoinsCardSaid : Prop := Claim7.holds Tryz.pinned (.plain (OpenSpec.ofChange roaringJoinsSpec)) roaringJoinsCard

/-- THE TIED CARD OF 'isinglasslaw08.RoaringPlays'. -/
def roaringPlaysCard : Claim7 := { stood := { row := roaringPlaysRow, standIns := [], harness := (true, "f05d0b1286024193624f9f426e94e4cc2e81ad9b3464dee9242ea372d8e2d98b"), looks := false }, kinds := [], alts := [], laidByText := true, laidKinds := [.data], laidTests := true, laidLooks := .later }
def RoaringPlaysCardSaid : Prop := Claim7.holds Tryz.pinned (.plain (OpenSpec.ofChange roaringPlaysSpec)) roaringPlaysCard

/-- THE SECOND FORM's CARD OF 'isinglasslaw08.RoaringTop'. -/
def roaringTopUptoCard : Claim7 := { stood := { row := roaringTopUptoRow, standIns := [], harness := (true, "f05d0b1286024193624f9f426e94e4cc2e81ad9b3464dee9242ea372d8e2d98b"), looks := false }, kinds := [], alts := [], laidByText := true, laidKinds := [.data], laidTests := true, laidLooks := .later }
def RoaringTopUptoCardSaid : Prop := Claim7.holds Tryz.pinned (.plain (OpenSpec.upto roaringTopSpec)) roaringTopUptoCard

/-- THE SECOND FORM's CARD OF 'isinglasslaw08.RoaringCopies'. -/
def roaringCopiesUptoCard : Claim7 := { stood := { row := roaringCopiesUptoRow, standIns := [], harness := (true, "f05d0b1286024193624f9f426e94e4cc2e81ad9b3464dee9242ea372d8e2d98b"), looks := false }, kinds := [], alts := [], laidByText := true, laidKinds := [.data], laidTests := true, laidLooks := .later }
def RoaringCopiesUptoCardSaid : Prop := Claim7.holds Tryz.pinned (.plain (OpenSpec.upto roaringCopiesSpec)) roaringCopiesUptoCard

/-- THE SECOND FORM's CARD OF 'isinglasslaw08.RoaringTells'. -/
def roaringTellsUptoCard : Claim7 := { stood := { row := roaringTellsUptoRow, standIns := [], harness := (true, "f05d0b1286024193624f9f426e94e4cc2e81ad9b3464dee9242ea372d8e2d98b"), looks := false }, kinds := [], alts := [], laidByText := true, laidKinds := [.data], laidTests := true, laidLooks := .later }
def RoaringTellsUptoCardSaid : Prop := Claim7.holds Tryz.pinned (.plain (OpenSpec.upto roaringTellsSpec)) roaringTellsUptoCard

/-- THE SECOND FORM's CARD OF 'isinglasslaw08.RoaringLaws'. -/
def roaringLawsUptoCard : Claim7 := { stood := { row := roaringLawsUptoRow, standIns := [], harness := (true, "f05d0b1286024193624f9f426e94e4cc2e81ad9b3464dee9242ea372d8e2d98b"), looks := false }, kinds := [], alts := [], laidByText := true, laidKinds := [.data], laidTests := true, laidLooks := .later }
def RoaringLawsUptoCardSaid : Prop := Claim7.holds Tryz.pinned (.plain (OpenSpec.upto roaringLawsSpec)) roaringLawsUptoCard

/-- THE SECOND FORM's CARD OF 'isinglasslaw08.RoaringCuts'. -/
def roaringCutsUptoCard : Claim7 := { stood := { row := roaringCutsUptoRow, standIns := [], harness := (true, "f05d0b1286024193624f9f426e94e4cc2e81ad9b3464dee9242ea372d8e2d98b"), looks := false }, kinds := [], alts := [], laidByText := true, laidKinds := [.data], laidTests := true, laidLooks := .later }
def RoaringCutsUptoCardSaid : Prop := Claim7.holds Tryz.pinned (.plain (OpenSpec.upto roaringCutsSpec)) roaringCutsUptoCard

/-- THE SECOND FORM's CARD OF 'isinglasslaw08.RoaringJoins'. -/
def roaringJoinsUptoCard : Claim7 := { stood := { row := roaringJoinsUptoRow, standIns := [], harness := (true, "f05d0b1286024193624f9f426e94e4cc2e81ad9b3464dee9242ea372d8e2d98b"), looks := false }, kinds := [], alts := [], laidByText := true, laidKinds := [.data], laidTests := true, laidLooks := .later }
def RoaringJoinsUptoCardSaid : Prop := Claim7.holds Tryz.pinned (.plain (OpenSpec.upto roaringJoinsSpec)) roaringJoinsUptoCard

/-- THE SECOND FORM's CARD OF 'isinglasslaw08.RoaringPlays'. -/
def roaringPlaysUptoCard : Claim7 := { stood := { row := roaringPlaysUptoRow, standIns := [], harness := (true, "f05d0b1286024193624f9f426e94e4cc2e81ad9b3464dee9242ea372d8e2d98b"), looks := false }, kinds := [], alts := [], laidByText := true, laidKinds := [.data], laidTests := true, laidLooks := .later }
def RoaringPlaysUptoCardSaid : Prop := Claim7.holds Tryz.pinned (.plain (OpenSpec.upto roaringPlaysSpec)) roaringPlaysUptoCard
end Rows
end Go.Proofs.YtfcioiobhpcngaaGreatDoor
