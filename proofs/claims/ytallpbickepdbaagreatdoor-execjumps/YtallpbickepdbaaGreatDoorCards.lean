/-
  DERIVED. GIVEN WITH THE SEED: THE CARDS: each row of YtallpbickepdbaaGreatDoorRows.lean that lists a variable, with what it lists TIED to the program's text (the seventh form; the later family's looks); each row that meets fmt, with fmt's text TOLD by the authors' own Lean function (tested against real Go, not proved from fmt's source: count such statements apart). THE CARD IS WHAT COUNTS. Prove the row's statement (the work); the ties are given (YtallpbickepdbaaGreatDoorTie.lean); close each card by the builder's one call (the guide's Derived/Test/ToyasCard.lean, 'card_holds'). Laid BY PROGRAM, IN A SANDBOX (cutbox-door.mjs). By AI agents, Wed Nov 11 2026. No macro, syntax, notation, axiom, sorry.
-/
import Derived.Test.YtallpbickepdbaaGreatDoorRows
import GoSem.ClaimSeven
namespace Go.Proofs.YtallpbickepdbaaGreatDoor
namespace Rows

/-- THE TIED CARD OF 'plaitlaw20.ExecLimits'. -/
def execLimitsCard : Claim7 := { stood := { row := execLimitsRow, standIns := [], harness := (true, "b35b83e2852c4823e47734c2134cb29850ed5c9062a874d0b7a819812e247b3a"), looks := false }, kinds := [], alts := [], laidByText := true, laidKinds := [.data, .data, .data, .pinned], laidTests := true, laidLooks := .later }
def ExecLimitsCardSaid : Prop := Claim7.holds Tryz.pinned (.plain (OpenSpec.ofChange execLimitsSpec)) execLimitsCard

/-- THE TIED CARD OF 'plaitlaw20.ExecJumps'. -/
def execJumpsCard : Claim7 := { stood := { row := execJumpsRow, standIns := [], harness := (true, "b35b83e2852c4823e47734c2134cb29850ed5c9062a874d0b7a819812e247b3a"), looks := false }, kinds := [], alts := [], laidByText := true, laidKinds := [.data, .data, .data, .pinned], laidTests := true, laidLooks := .later }
def ExecJumpsCardSaid : Prop := Claim7.holds Tryz.pinned (.plain (OpenSpec.ofChange execJumpsSpec)) execJumpsCard

/-- THE TIED CARD OF 'plaitlaw20.ExecMoves'. -/
def execMovesCard : Claim7 := { stood := { row := execMovesRow, standIns := [], harness := (true, "b35b83e2852c4823e47734c2134cb29850ed5c9062a874d0b7a819812e247b3a"), looks := false }, kinds := [], alts := [], laidByText := true, laidKinds := [.data, .data, .data, .pinned], laidTests := true, laidLooks := .later }
def ExecMovesCardSaid : Prop := Claim7.holds Tryz.pinned (.plain (OpenSpec.ofChange execMovesSpec)) execMovesCard

/-- THE TIED CARD OF 'plaitlaw20.ExecSteps'. -/
def execStepsCard : Claim7 := { stood := { row := execStepsRow, standIns := [], harness := (true, "b35b83e2852c4823e47734c2134cb29850ed5c9062a874d0b7a819812e247b3a"), looks := false }, kinds := [], alts := [], laidByText := true, laidKinds := [.data, .data, .data, .pinned], laidTests := true, laidLooks := .later }
def ExecStepsCardSaid : Prop := Claim7.holds Tryz.pinned (.plain (OpenSpec.ofChange execStepsSpec)) execStepsCard

/-- THE SECOND FORM's CARD OF 'plaitlaw20.ExecLimits'. -/
def execLimitsUptoCard : Claim7 := { stood := { row := execLimitsUptoRow, standIns := [], harness := (true, "b35b83e2852c4823e47734c2134cb29850ed5c9062a874d0b7a819812e247b3a"), looks := false }, kinds := [], alts := [], laidByText := true, laidKinds := [.data, .data, .data, .pinned], laidTests := true, laidLooks := .later }
def ExecLimitsUptoCardSaid : Prop := Claim7.holds Tryz.pinned (.plain (OpenSpec.upto execLimitsSpec)) execLimitsUptoCard

/-- THE SECOND FORM's CARD OF 'plaitlaw20.ExecJumps'. -/
def execJumpsUptoCard : Claim7 := { stood := { row := execJumpsUptoRow, standIns := [], harness := (true, "b35b83e2852c4823e47734c2134cb29850ed5c9062a874d0b7a819812e247b3a"), looks := false }, kinds := [], alts := [], laidByText := true, laidKinds := [.data, .data, .data, .pinned], laidTests := true, laidLooks := .later }
def ExecJumpsUptoCardSaid : Prop := Claim7.holds Tryz.pinned (.plain (OpenSpec.upto execJumpsSpec)) execJumpsUptoCard

/-- THE SECOND FORM's CARD OF 'plaitlaw20.ExecMoves'. -/
def execMovesUptoCard : Claim7 := { stood := { row := execMovesUptoRow, standIns := [], harness := (true, "b35b83e2852c4823e47734c2134cb29850ed5c9062a874d0b7a819812e247b3a"), looks := false }, kinds := [], alts := [], laidByText := true, laidKinds := [.data, .data, .data, .pinned], laidTests := true, laidLooks := .later }
def ExecMovesUptoCardSaid : Prop := Claim7.holds Tryz.pinned (.plain (OpenSpec.upto execMovesSpec)) execMovesUptoCard

/-- THE SECOND FORM's CARD OF 'plaitlaw20.ExecSteps'. -/
def execStepsUptoCard : Claim7 := { stood := { row := execStepsUptoRow, standIns := [], harness := (true, "b35b83e2852c4823e47734c2134cb29850ed5c9062a874d0b7a819812e247b3a"), looks := false }, kinds := [], alts := [], laidByText := true, laidKinds := [.data, .data, .data, .pinned], laidTests := true, laidLooks := .later }
def ExecStepsUptoCardSaid : Prop := Claim7.holds Tryz.pinned (.plain (OpenSpec.upto execStepsSpec)) execStepsUptoCard
end Rows
end Go.Proofs.YtallpbickepdbaaGreatDoor
