/-
  DERIVED. GIVEN WITH THE SEED: THE CARDS: each row of YtjiacignpmabcaaDoorRows.lean that lists a variable, with what it lists TIED to the program's text (the seventh form; the later family's looks); each row that meets fmt, with fmt's text TOLD by the authors' own Lean function (tested against real Go, not proved from fmt's source: count such statements apart). THE CARD IS WHAT COUNTS. Prove the row's statement (the work); the ties are given (YtjiacignpmabcaaDoorTie.lean); close each card by the builder's one call (the guide's Derived/Test/ToyasCard.lean, 'card_holds'). Laid BY PROGRAM, IN A SANDBOX (cutbox-door.mjs). By AI agents, Wed Nov 11 2026. No macro, syntax, notation, axiom, sorry.
-/
import Derived.Test.YtjiacignpmabcaaDoorRows
import GoSem.ClaimSeven
namespace Go.Proofs.YtjiacignpmabcaaDoor
namespace Rows

/-- THE TIED CARD OF 'isinglasslaw07.ContainerOne'. -/
def containerOneCard : Claim7 := { stood := { row := containerOneRow, standIns := [], harness := (true, "165099ff23f80ebde91c7b4235aec810109603696abac3b8337e964db2f323b7"), looks := false }, kinds := [], alts := [], laidByText := true, laidKinds := [.data], laidTests := true, laidLooks := .later }
def ContainerOneCardSaid : Prop := Claim7.holds Tryd.pinned (.plain (OpenSpec.ofChange containerOneSpec)) containerOneCard

/-- THE TIED CARD OF 'isinglasslaw07.ContainerSmall'. -/
def containerSmallCard : Claim7 := { stood := { row := containerSmallRow, standIns := [], harness := (true, "165099ff23f80ebde91c7b4235aec810109603696abac3b8337e964db2f323b7"), looks := false }, kinds := [], alts := [], laidByText := true, laidKinds := [.data], laidTests := true, laidLooks := .later }
def ContainerSmallCardSaid : Prop := Claim7.holds Tryd.pinned (.plain (OpenSpec.ofChange containerSmallSpec)) containerSmallCard

/-- THE TIED CARD OF 'isinglasslaw07.ContainerPairs'. -/
def containerPairsCard : Claim7 := { stood := { row := containerPairsRow, standIns := [], harness := (true, "165099ff23f80ebde91c7b4235aec810109603696abac3b8337e964db2f323b7"), looks := false }, kinds := [], alts := [], laidByText := true, laidKinds := [.data], laidTests := true, laidLooks := .later }
def ContainerPairsCardSaid : Prop := Claim7.holds Tryd.pinned (.plain (OpenSpec.ofChange containerPairsSpec)) containerPairsCard

/-- THE TIED CARD OF 'isinglasslaw07.ContainerLaws'. -/
def containerLawsCard : Claim7 := { stood := { row := containerLawsRow, standIns := [], harness := (true, "165099ff23f80ebde91c7b4235aec810109603696abac3b8337e964db2f323b7"), looks := false }, kinds := [], alts := [], laidByText := true, laidKinds := [.data], laidTests := true, laidLooks := .later }
def ContainerLawsCardSaid : Prop := Claim7.holds Tryd.pinned (.plain (OpenSpec.ofChange containerLawsSpec)) containerLawsCard

/-- THE SECOND FORM's CARD OF 'isinglasslaw07.ContainerOne'. -/
def containerOneUptoCard : Claim7 := { stood := { row := containerOneUptoRow, standIns := [], harness := (true, "165099ff23f80ebde91c7b4235aec810109603696abac3b8337e964db2f323b7"), looks := false }, kinds := [], alts := [], laidByText := true, laidKinds := [.data], laidTests := true, laidLooks := .later }
def ContainerOneUptoCardSaid : Prop := Claim7.holds Tryd.pinned (.plain (OpenSpec.upto containerOneSpec)) containerOneUptoCard

/-- THE SECOND FORM's CARD OF 'isinglasslaw07.ContainerSmall'. -/
def containerSmallUptoCard : Claim7 := { stood := { row := containerSmallUptoRow, standIns := [], harness := (true, "165099ff23f80ebde91c7b4235aec810109603696abac3b8337e964db2f323b7"), looks := false }, kinds := [], alts := [], laidByText := true, laidKinds := [.data], laidTests := true, laidLooks := .later }
def ContainerSmallUptoCardSaid : Prop := Claim7.holds Tryd.pinned (.plain (OpenSpec.upto containerSmallSpec)) containerSmallUptoCard

/-- THE SECOND FORM's CARD OF 'isinglasslaw07.ContainerPairs'. -/
def containerPairsUptoCard : Claim7 := { stood := { row := containerPairsUptoRow, standIns := [], harness := (true, "165099ff23f80ebde91c7b4235aec810109603696abac3b8337e964db2f323b7"), looks := false }, kinds := [], alts := [], laidByText := true, laidKinds := [.data], laidTests := true, laidLooks := .later }
def ContainerPairsUptoCardSaid : Prop := Claim7.holds Tryd.pinned (.plain (OpenSpec.upto containerPairsSpec)) containerPairsUptoCard

/-- THE SECOND FORM's CARD OF 'isinglasslaw07.ContainerLaws'. -/
def containerLawsUptoCard : Claim7 := { stood := { row := containerLawsUptoRow, standIns := [], harness := (true, "165099ff23f80ebde91c7b4235aec810109603696abac3b8337e964db2f323b7"), looks := false }, kinds := [], alts := [], laidByText := true, laidKinds := [.data], laidTests := true, laidLooks := .later }
def ContainerLawsUptoCardSaid : Prop := Claim7.holds Tryd.pinned (.plain (OpenSpec.upto containerLawsSpec)) containerLawsUptoCard
end Rows
end Go.Proofs.YtjiacignpmabcaaDoor
