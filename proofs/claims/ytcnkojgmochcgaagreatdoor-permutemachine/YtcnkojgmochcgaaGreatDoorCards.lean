/-
  DERIVED. GIVEN WITH THE SEED: THE CARDS: each row of YtcnkojgmochcgaaGreatDoorRows.lean that lists a variable, with what it lists TIED to the program's text (the seventh form; the later family's looks); each row that meets fmt, with fmt's text TOLD by the authors' own Lean function (tested against real Go, not proved from fmt's source: count such statements apart). THE CARD IS WHAT COUNTS. Prove the row's statement (the work); the ties are given (YtcnkojgmochcgaaGreatDoorTie.lean); close each card by the builder's one call (the guide's Derived/Test/ToyasCard.lean, 'card_holds'). Laid BY PROGRAM, IN A SANDBOX (cutbox-door.mjs). By AI agents, Wed Nov 11 2026. No macro, syntax, notation, axiom, sorry.
-/
import Derived.Test.YtcnkojgmochcgaaGreatDoorRows
import GoSem.ClaimSeven
namespace Go.Proofs.YtcnkojgmochcgaaGreatDoor
namespace Rows

/-- THE TIED CARD OF 'plaitlaw20.ExecSteps'. -/
def execStepsCard : Claim7 := { stood := { row := execStepsRow, standIns := [], harness := (true, "3e6d6a84e5d95fbf1a8ed5bf290f374ca0faa95fd8534a7cee7c521ba30e73dc"), looks := false }, kinds := [], alts := [], laidByText := true, laidKinds := [.data, .data, .data, .pinned], laidTests := true, laidLooks := .later }
def ExecStepsCardSaid : Prop := Claim7.holds Tryz.pinned (.plain (OpenSpec.ofChange execStepsSpec)) execStepsCard

/-- THE TIED CARD OF 'plaitlaw20.ExecMoves'. -/
def execMovesCard : Claim7 := { stood := { row := execMovesRow, standIns := [], harness := (true, "3e6d6a84e5d95fbf1a8ed5bf290f374ca0faa95fd8534a7cee7c521ba30e73dc"), looks := false }, kinds := [], alts := [], laidByText := true, laidKinds := [.data, .data, .data, .pinned], laidTests := true, laidLooks := .later }
def ExecMovesCardSaid : Prop := Claim7.holds Tryz.pinned (.plain (OpenSpec.ofChange execMovesSpec)) execMovesCard

/-- THE TIED CARD OF 'plaitlaw20.ExecRuns'. -/
def execRunsCard : Claim7 := { stood := { row := execRunsRow, standIns := [], harness := (true, "3e6d6a84e5d95fbf1a8ed5bf290f374ca0faa95fd8534a7cee7c521ba30e73dc"), looks := false }, kinds := [], alts := [], laidByText := true, laidKinds := [.data, .data, .data, .pinned], laidTests := true, laidLooks := .later }
def ExecRunsCardSaid : Prop := Claim7.holds Tryz.pinned (.plain (OpenSpec.ofChange execRunsSpec)) execRunsCard

/-- THE TIED CARD OF 'plaitlaw20.ExecKeeps'. -/
def execKeepsCard : Claim7 := { stood := { row := execKeepsRow, standIns := [], harness := (true, "3e6d6a84e5d95fbf1a8ed5bf290f374ca0faa95fd8534a7cee7c521ba30e73dc"), looks := false }, kinds := [], alts := [], laidByText := true, laidKinds := [.data, .data, .data, .pinned], laidTests := true, laidLooks := .later }
def ExecKeepsCardSaid : Prop := Claim7.holds Tryz.pinned (.plain (OpenSpec.ofChange execKeepsSpec)) execKeepsCard

/-- THE TIED CARD OF 'plaitlaw20.ExecHeights'. -/
def execHeightsCard : Claim7 := { stood := { row := execHeightsRow, standIns := [], harness := (true, "3e6d6a84e5d95fbf1a8ed5bf290f374ca0faa95fd8534a7cee7c521ba30e73dc"), looks := false }, kinds := [], alts := [], laidByText := true, laidKinds := [.data, .data, .data, .pinned], laidTests := true, laidLooks := .later }
def ExecHeightsCardSaid : Prop := Claim7.holds Tryz.pinned (.plain (OpenSpec.ofChange execHeightsSpec)) execHeightsCard

/-- THE TIED CARD OF 'plaitlaw23.PermuteMachine'. -/
def permuteMachineCard : Claim7 := { stood := { row := permuteMachineRow, standIns := [], harness := (true, "3e6d6a84e5d95fbf1a8ed5bf290f374ca0faa95fd8534a7cee7c521ba30e73dc"), looks := false }, kinds := [], alts := [], laidByText := true, laidKinds := [.data, .data, .data, .pinned], laidTests := true, laidLooks := .later }
def PermuteMachineCardSaid : Prop := Claim7.holds Tryz.pinned (.plain (OpenSpec.ofChange permuteMachineSpec)) permuteMachineCard

/-- THE TIED CARD OF 'plaitlaw22.SwarMachine'. -/
def swarMachineCard : Claim7 := { stood := { row := swarMachineRow, standIns := [], harness := (true, "3e6d6a84e5d95fbf1a8ed5bf290f374ca0faa95fd8534a7cee7c521ba30e73dc"), looks := false }, kinds := [], alts := [], laidByText := true, laidKinds := [.data, .data, .data, .pinned], laidTests := true, laidLooks := .later }
def SwarMachineCardSaid : Prop := Claim7.holds Tryz.pinned (.plain (OpenSpec.ofChange swarMachineSpec)) swarMachineCard

/-- THE SECOND FORM's CARD OF 'plaitlaw20.ExecSteps'. -/
def execStepsUptoCard : Claim7 := { stood := { row := execStepsUptoRow, standIns := [], harness := (true, "3e6d6a84e5d95fbf1a8ed5bf290f374ca0faa95fd8534a7cee7c521ba30e73dc"), looks := false }, kinds := [], alts := [], laidByText := true, laidKinds := [.data, .data, .data, .pinned], laidTests := true, laidLooks := .later }
def ExecStepsUptoCardSaid : Prop := Claim7.holds Tryz.pinned (.plain (OpenSpec.upto execStepsSpec)) execStepsUptoCard

/-- THE SECOND FORM's CARD OF 'plaitlaw20.ExecMoves'. -/
def execMovesUptoCard : Claim7 := { stood := { row := execMovesUptoRow, standIns := [], harness := (true, "3e6d6a84e5d95fbf1a8ed5bf290f374ca0faa95fd8534a7cee7c521ba30e73dc"), looks := false }, kinds := [], alts := [], laidByText := true, laidKinds := [.data, .data, .data, .pinned], laidTests := true, laidLooks := .later }
def ExecMovesUptoCardSaid : Prop := Claim7.holds Tryz.pinned (.plain (OpenSpec.upto execMovesSpec)) execMovesUptoCard

/-- THE SECOND FORM's CARD OF 'plaitlaw20.ExecRuns'. -/
def execRunsUptoCard : Claim7 := { stood := { row := execRunsUptoRow, standIns := [], harness := (true, "3e6d6a84e5d95fbf1a8ed5bf290f374ca0faa95fd8534a7cee7c521ba30e73dc"), looks := false }, kinds := [], alts := [], laidByText := true, laidKinds := [.data, .data, .data, .pinned], laidTests := true, laidLooks := .later }
def ExecRunsUptoCardSaid : Prop := Claim7.holds Tryz.pinned (.plain (OpenSpec.upto execRunsSpec)) execRunsUptoCard

/-- THE SECOND FORM's CARD OF 'plaitlaw20.ExecKeeps'. -/
def execKeepsUptoCard : Claim7 := { stood := { row := execKeepsUptoRow, standIns := [], harness := (true, "3e6d6a84e5d95fbf1a8ed5bf290f374ca0faa95fd8534a7cee7c521ba30e73dc"), looks := false }, kinds := [], alts := [], laidByText := true, laidKinds := [.data, .data, .data, .pinned], laidTests := true, laidLooks := .later }
def ExecKeepsUptoCardSaid : Prop := Claim7.holds Tryz.pinned (.plain (OpenSpec.upto execKeepsSpec)) execKeepsUptoCard

/-- THE SECOND FORM's CARD OF 'plaitlaw20.ExecHeights'. -/
def execHeightsUptoCard : Claim7 := { stood := { row := execHeightsUptoRow, standIns := [], harness := (true, "3e6d6a84e5d95fbf1a8ed5bf290f374ca0faa95fd8534a7cee7c521ba30e73dc"), looks := false }, kinds := [], alts := [], laidByText := true, laidKinds := [.data, .data, .data, .pinned], laidTests := true, laidLooks := .later }
def ExecHeightsUptoCardSaid : Prop := Claim7.holds Tryz.pinned (.plain (OpenSpec.upto execHeightsSpec)) execHeightsUptoCard

/-- THE SECOND FORM's CARD OF 'plaitlaw23.PermuteMachine'. -/
def permuteMachineUptoCard : Claim7 := { stood := { row := permuteMachineUptoRow, standIns := [], harness := (true, "3e6d6a84e5d95fbf1a8ed5bf290f374ca0faa95fd8534a7cee7c521ba30e73dc"), looks := false }, kinds := [], alts := [], laidByText := true, laidKinds := [.data, .data, .data, .pinned], laidTests := true, laidLooks := .later }
def PermuteMachineUptoCardSaid : Prop := Claim7.holds Tryz.pinned (.plain (OpenSpec.upto permuteMachineSpec)) permuteMachineUptoCard

/-- THE SECOND FORM's CARD OF 'plaitlaw22.SwarMachine'. -/
def swarMachineUptoCard : Claim7 := { stood := { row := swarMachineUptoRow, standIns := [], harness := (true, "3e6d6a84e5d95fbf1a8ed5bf290f374ca0faa95fd8534a7cee7c521ba30e73dc"), looks := false }, kinds := [], alts := [], laidByText := true, laidKinds := [.data, .data, .data, .pinned], laidTests := true, laidLooks := .later }
def SwarMachineUptoCardSaid : Prop := Claim7.holds Tryz.pinned (.plain (OpenSpec.upto swarMachineSpec)) swarMachineUptoCard
end Rows
end Go.Proofs.YtcnkojgmochcgaaGreatDoor
