/-
  DERIVED. GIVEN WITH THE SEED: THE CARDS: each row of YtlnaebejmjmepaaGreatDoorRows.lean that lists a variable, with what it lists TIED to the program's text (the seventh form; the later family's looks); each row that meets fmt, with fmt's text TOLD by the authors' own Lean function (tested against real Go, not proved from fmt's source: count such statements apart). THE CARD IS WHAT COUNTS. Prove the row's statement (the work); the ties are given (YtlnaebejmjmepaaGreatDoorTie.lean); close each card by the builder's one call (the guide's Derived/Test/ToyasCard.lean, 'card_holds'). Laid BY PROGRAM, IN A SANDBOX (cutbox-door.mjs). By AI agents, Wed Nov 11 2026. No macro, syntax, notation, axiom, sorry.
-/
import Derived.Test.YtlnaebejmjmepaaGreatDoorRows
import GoSem.ClaimSeven
namespace Go.Proofs.YtlnaebejmjmepaaGreatDoor
namespace Rows

/-- THE TIED CARD OF 'isinglasslaw08.RoaringJoins'. -/
def roaringJoinsCard : Claim7 := { stood := { row := roaringJoinsRow, standIns := [], harness := (true, "72a7a2c619b5a2709d64fa2d64a6d379b64ca087525d997bdcfa4944c7b5f533"), looks := false }, kinds := [], alts := [], laidByText := true, laidKinds := [.data], laidTests := true, laidLooks := .later }
def RoaringJoinsCardSaid : Prop := Claim7.holds Tryz.pinned (.plain (OpenSpec.ofChange roaringJoinsSpec)) roaringJoinsCard

/-- THE TIED CARD OF 'isinglasslaw08.RoaringPlays'. -/
def roaringPlaysCard : Claim7 := { stood := { row := roaringPlaysRow, standIns := [], harness := (true, "72a7a2c619b5a2709d64fa2d64a6d379b64ca087525d997bdcfa4944c7b5f533"), looks := false }, kinds := [], alts := [], laidByText := true, laidKinds := [.data], laidTests := true, laidLooks := .later }
def RoaringPlaysCardSaid : Prop := Claim7.holds Tryz.pinned (.plain (OpenSpec.ofChange roaringPlaysSpec)) roaringPlaysCard

/-- THE SECOND FORM's CARD OF 'isinglasslaw08.RoaringJoins'. -/
def roaringJoinsUptoCard : Claim7 := { stood := { row := roaringJoinsUptoRow, standIns := [], harness := (true, "72a7a2c619b5a2709d64fa2d64a6d379b64ca087525d997bdcfa4944c7b5f533"), looks := false }, kinds := [], alts := [], laidByText := true, laidKinds := [.data], laidTests := true, laidLooks := .later }
def RoaringJoinsUptoCardSaid : Prop := Claim7.holds Tryz.pinned (.plain (OpenSpec.upto roaringJoinsSpec)) roaringJoinsUptoCard

/-- THE SECOND FORM's CARD OF 'isinglasslaw08.RoaringPlays'. -/
def roaringPlaysUptoCard : Claim7 := { stood := { row := roaringPlaysUptoRow, standIns := [], harness := (true, "72a7a2c619b5a2709d64fa2d64a6d379b64ca087525d997bdcfa4944c7b5f533"), looks := false }, kinds := [], alts := [], laidByText := true, laidKinds := [.data], laidTests := true, laidLooks := .later }
def RoaringPlaysUptoCardSaid : Prop := Claim7.holds Tryz.pinned (.plain (OpenSpec.upto roaringPlaysSpec)) roaringPlaysUptoCard
end Rows
end Go.Proofs.YtlnaebejmjmepaaGreatDoor
