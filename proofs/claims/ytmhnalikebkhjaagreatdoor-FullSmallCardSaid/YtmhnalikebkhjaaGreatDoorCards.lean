/-
  DERIVED. GIVEN WITH THE SEED: THE CARDS: each row of YtmhnalikebkhjaaGreatDoorRows.lean that lists a variable, with what it lists TIED to the program's text (the seventh form; the later family's looks); each row that meets fmt, with fmt's text TOLD by the authors' own Lean function (tested against real Go, not proved from fmt's source: count such statements apart). THE CARD IS WHAT COUNTS. Prove the row's statement (the work); the ties are given (YtmhnalikebkhjaaGreatDoorTie.lean); close each card by the builder's one call (the guide's Derived/Test/ToyasCard.lean, 'card_holds'). Laid BY PROGRAM, IN A SANDBOX (cutbox-door.mjs). By AI agents, Wed Nov 11 2026. No macro, syntax, notation, axiom, sorry.
-/
import Derived.Test.YtmhnalikebkhjaaGreatDoorRows
import GoSem.ClaimSeven
namespace Go.Proofs.YtmhnalikebkhjaaGreatDoor
namespace Rows

/-- THE TIED CARD OF 'spoondriftlaw06.FullRuns'. -/
def fullRunsCard : Claim7 := { stood := { row := fullRunsRow, standIns := [], harness := (true, "6597e68025a6170eec4ccb96e4618d67b43c7319b28aa00cc88288d271488392"), looks := false }, kinds := [], alts := [], laidByText := true, laidKinds := [.data, .data], laidTests := true, laidLooks := .later }
def FullRunsCardSaid : Prop := Claim7.holds Tryz.pinned (.plain (OpenSpec.ofChange fullRunsSpec)) fullRunsCard

/-- THE TIED CARD OF 'spoondriftlaw06.FullApplies'. -/
def fullAppliesCard : Claim7 := { stood := { row := fullAppliesRow, standIns := [], harness := (true, "6597e68025a6170eec4ccb96e4618d67b43c7319b28aa00cc88288d271488392"), looks := false }, kinds := [], alts := [], laidByText := true, laidKinds := [.data, .data], laidTests := true, laidLooks := .later }
def FullAppliesCardSaid : Prop := Claim7.holds Tryz.pinned (.plain (OpenSpec.ofChange fullAppliesSpec)) fullAppliesCard

/-- THE TIED CARD OF 'spoondriftlaw06.FullMatrix'. -/
def fullMatrixCard : Claim7 := { stood := { row := fullMatrixRow, standIns := [], harness := (true, "6597e68025a6170eec4ccb96e4618d67b43c7319b28aa00cc88288d271488392"), looks := false }, kinds := [], alts := [], laidByText := true, laidKinds := [.data, .data], laidTests := true, laidLooks := .later }
def FullMatrixCardSaid : Prop := Claim7.holds Tryz.pinned (.plain (OpenSpec.ofChange fullMatrixSpec)) fullMatrixCard

/-- THE TIED CARD OF 'spoondriftlaw06.FullStates'. -/
def fullStatesCard : Claim7 := { stood := { row := fullStatesRow, standIns := [], harness := (true, "6597e68025a6170eec4ccb96e4618d67b43c7319b28aa00cc88288d271488392"), looks := false }, kinds := [], alts := [], laidByText := true, laidKinds := [.data, .data], laidTests := true, laidLooks := .later }
def FullStatesCardSaid : Prop := Claim7.holds Tryz.pinned (.plain (OpenSpec.ofChange fullStatesSpec)) fullStatesCard

/-- THE TIED CARD OF 'spoondriftlaw06.FullSmall'. -/
def fullSmallCard : Claim7 := { stood := { row := fullSmallRow, standIns := [], harness := (true, "6597e68025a6170eec4ccb96e4618d67b43c7319b28aa00cc88288d271488392"), looks := false }, kinds := [], alts := [], laidByText := true, laidKinds := [.data, .data], laidTests := true, laidLooks := .later }
def FullSmallCardSaid : Prop := Claim7.holds Tryz.pinned (.plain (OpenSpec.ofChange fullSmallSpec)) fullSmallCard

/-- THE SECOND FORM's CARD OF 'spoondriftlaw06.FullRuns'. -/
def fullRunsUptoCard : Claim7 := { stood := { row := fullRunsUptoRow, standIns := [], harness := (true, "6597e68025a6170eec4ccb96e4618d67b43c7319b28aa00cc88288d271488392"), looks := false }, kinds := [], alts := [], laidByText := true, laidKinds := [.data, .data], laidTests := true, laidLooks := .later }
def FullRunsUptoCardSaid : Prop := Claim7.holds Tryz.pinned (.plain (OpenSpec.upto fullRunsSpec)) fullRunsUptoCard

/-- THE SECOND FORM's CARD OF 'spoondriftlaw06.FullApplies'. -/
def fullAppliesUptoCard : Claim7 := { stood := { row := fullAppliesUptoRow, standIns := [], harness := (true, "6597e68025a6170eec4ccb96e4618d67b43c7319b28aa00cc88288d271488392"), looks := false }, kinds := [], alts := [], laidByText := true, laidKinds := [.data, .data], laidTests := true, laidLooks := .later }
def FullAppliesUptoCardSaid : Prop := Claim7.holds Tryz.pinned (.plain (OpenSpec.upto fullAppliesSpec)) fullAppliesUptoCard

/-- THE SECOND FORM's CARD OF 'spoondriftlaw06.FullMatrix'. -/
def fullMatrixUptoCard : Claim7 := { stood := { row := fullMatrixUptoRow, standIns := [], harness := (true, "6597e68025a6170eec4ccb96e4618d67b43c7319b28aa00cc88288d271488392"), looks := false }, kinds := [], alts := [], laidByText := true, laidKinds := [.data, .data], laidTests := true, laidLooks := .later }
def FullMatrixUptoCardSaid : Prop := Claim7.holds Tryz.pinned (.plain (OpenSpec.upto fullMatrixSpec)) fullMatrixUptoCard

/-- THE SECOND FORM's CARD OF 'spoondriftlaw06.FullStates'. -/
def fullStatesUptoCard : Claim7 := { stood := { row := fullStatesUptoRow, standIns := [], harness := (true, "6597e68025a6170eec4ccb96e4618d67b43c7319b28aa00cc88288d271488392"), looks := false }, kinds := [], alts := [], laidByText := true, laidKinds := [.data, .data], laidTests := true, laidLooks := .later }
def FullStatesUptoCardSaid : Prop := Claim7.holds Tryz.pinned (.plain (OpenSpec.upto fullStatesSpec)) fullStatesUptoCard

/-- THE SECOND FORM's CARD OF 'spoondriftlaw06.FullSmall'. -/
def fullSmallUptoCard : Claim7 := { stood := { row := fullSmallUptoRow, standIns := [], harness := (true, "6597e68025a6170eec4ccb96e4618d67b43c7319b28aa00cc88288d271488392"), looks := false }, kinds := [], alts := [], laidByText := true, laidKinds := [.data, .data], laidTests := true, laidLooks := .later }
def FullSmallUptoCardSaid : Prop := Claim7.holds Tryz.pinned (.plain (OpenSpec.upto fullSmallSpec)) fullSmallUptoCard
end Rows
end Go.Proofs.YtmhnalikebkhjaaGreatDoor
