/-
  DERIVED. GIVEN WITH THE SEED: THE CARDS: each row of YtodmckckapmmoaaGreatDoorRows.lean that lists a variable, with what it lists TIED to the program's text (the seventh form; the later family's looks); each row that meets fmt, with fmt's text TOLD by the authors' own Lean function (tested against real Go, not proved from fmt's source: count such statements apart). THE CARD IS WHAT COUNTS. Prove the row's statement (the work); the ties are given (YtodmckckapmmoaaGreatDoorTie.lean); close each card by the builder's one call (the guide's Derived/Test/ToyasCard.lean, 'card_holds'). Laid BY PROGRAM, IN A SANDBOX (cutbox-door.mjs). By AI agents, Wed Nov 11 2026. No macro, syntax, notation, axiom, sorry.
-/
import Derived.Test.YtodmckckapmmoaaGreatDoorRows
import GoSem.ClaimSeven
namespace Go.Proofs.YtodmckckapmmoaaGreatDoor
namespace Rows

/-- THE TIED CARD OF 'spoondriftlaw16.DensityMakes'. -/
def densityMakesCard : Claim7 := { stood := { row := densityMakesRow, standIns := [], harness := (true, "9aeebd5c05ecba59b773b5f45a0a0e86dc3dea2ba20c39fb0b997fe145ce3af5"), looks := false }, kinds := [], alts := [], laidByText := true, laidKinds := [.data, .data], laidTests := true, laidLooks := .later }
def DensityMakesCardSaid : Prop := Claim7.holds Tryz.pinned (.plain (OpenSpec.ofChange densityMakesSpec)) densityMakesCard

/-- THE TIED CARD OF 'spoondriftlaw16.DensityApplies'. -/
def densityAppliesCard : Claim7 := { stood := { row := densityAppliesRow, standIns := [], harness := (true, "9aeebd5c05ecba59b773b5f45a0a0e86dc3dea2ba20c39fb0b997fe145ce3af5"), looks := false }, kinds := [], alts := [], laidByText := true, laidKinds := [.data, .data], laidTests := true, laidLooks := .later }
def DensityAppliesCardSaid : Prop := Claim7.holds Tryz.pinned (.plain (OpenSpec.ofChange densityAppliesSpec)) densityAppliesCard

/-- THE TIED CARD OF 'spoondriftlaw16.DensityRuns'. -/
def densityRunsCard : Claim7 := { stood := { row := densityRunsRow, standIns := [], harness := (true, "9aeebd5c05ecba59b773b5f45a0a0e86dc3dea2ba20c39fb0b997fe145ce3af5"), looks := false }, kinds := [], alts := [], laidByText := true, laidKinds := [.data, .data], laidTests := true, laidLooks := .later }
def DensityRunsCardSaid : Prop := Claim7.holds Tryz.pinned (.plain (OpenSpec.ofChange densityRunsSpec)) densityRunsCard

/-- THE TIED CARD OF 'spoondriftlaw16.DensityChecks'. -/
def densityChecksCard : Claim7 := { stood := { row := densityChecksRow, standIns := [], harness := (true, "9aeebd5c05ecba59b773b5f45a0a0e86dc3dea2ba20c39fb0b997fe145ce3af5"), looks := false }, kinds := [], alts := [], laidByText := true, laidKinds := [.data, .data], laidTests := true, laidLooks := .later }
def DensityChecksCardSaid : Prop := Claim7.holds Tryz.pinned (.plain (OpenSpec.ofChange densityChecksSpec)) densityChecksCard

/-- THE TIED CARD OF 'spoondriftlaw16.DensitySmall'. -/
def densitySmallCard : Claim7 := { stood := { row := densitySmallRow, standIns := [], harness := (true, "9aeebd5c05ecba59b773b5f45a0a0e86dc3dea2ba20c39fb0b997fe145ce3af5"), looks := false }, kinds := [], alts := [], laidByText := true, laidKinds := [.data, .data], laidTests := true, laidLooks := .later }
def DensitySmallCardSaid : Prop := Claim7.holds Tryz.pinned (.plain (OpenSpec.ofChange densitySmallSpec)) densitySmallCard

/-- THE SECOND FORM's CARD OF 'spoondriftlaw16.DensityMakes'. -/
def densityMakesUptoCard : Claim7 := { stood := { row := densityMakesUptoRow, standIns := [], harness := (true, "9aeebd5c05ecba59b773b5f45a0a0e86dc3dea2ba20c39fb0b997fe145ce3af5"), looks := false }, kinds := [], alts := [], laidByText := true, laidKinds := [.data, .data], laidTests := true, laidLooks := .later }
def DensityMakesUptoCardSaid : Prop := Claim7.holds Tryz.pinned (.plain (OpenSpec.upto densityMakesSpec)) densityMakesUptoCard

/-- THE SECOND FORM's CARD OF 'spoondriftlaw16.DensityApplies'. -/
def densityAppliesUptoCard : Claim7 := { stood := { row := densityAppliesUptoRow, standIns := [], harness := (true, "9aeebd5c05ecba59b773b5f45a0a0e86dc3dea2ba20c39fb0b997fe145ce3af5"), looks := false }, kinds := [], alts := [], laidByText := true, laidKinds := [.data, .data], laidTests := true, laidLooks := .later }
def DensityAppliesUptoCardSaid : Prop := Claim7.holds Tryz.pinned (.plain (OpenSpec.upto densityAppliesSpec)) densityAppliesUptoCard

/-- THE SECOND FORM's CARD OF 'spoondriftlaw16.DensityRuns'. -/
def densityRunsUptoCard : Claim7 := { stood := { row := densityRunsUptoRow, standIns := [], harness := (true, "9aeebd5c05ecba59b773b5f45a0a0e86dc3dea2ba20c39fb0b997fe145ce3af5"), looks := false }, kinds := [], alts := [], laidByText := true, laidKinds := [.data, .data], laidTests := true, laidLooks := .later }
def DensityRunsUptoCardSaid : Prop := Claim7.holds Tryz.pinned (.plain (OpenSpec.upto densityRunsSpec)) densityRunsUptoCard

/-- THE SECOND FORM's CARD OF 'spoondriftlaw16.DensityChecks'. -/
def densityChecksUptoCard : Claim7 := { stood := { row := densityChecksUptoRow, standIns := [], harness := (true, "9aeebd5c05ecba59b773b5f45a0a0e86dc3dea2ba20c39fb0b997fe145ce3af5"), looks := false }, kinds := [], alts := [], laidByText := true, laidKinds := [.data, .data], laidTests := true, laidLooks := .later }
def DensityChecksUptoCardSaid : Prop := Claim7.holds Tryz.pinned (.plain (OpenSpec.upto densityChecksSpec)) densityChecksUptoCard

/-- THE SECOND FORM's CARD OF 'spoondriftlaw16.DensitySmall'. -/
def densitySmallUptoCard : Claim7 := { stood := { row := densitySmallUptoRow, standIns := [], harness := (true, "9aeebd5c05ecba59b773b5f45a0a0e86dc3dea2ba20c39fb0b997fe145ce3af5"), looks := false }, kinds := [], alts := [], laidByText := true, laidKinds := [.data, .data], laidTests := true, laidLooks := .later }
def DensitySmallUptoCardSaid : Prop := Claim7.holds Tryz.pinned (.plain (OpenSpec.upto densitySmallSpec)) densitySmallUptoCard
end Rows
end Go.Proofs.YtodmckckapmmoaaGreatDoor
