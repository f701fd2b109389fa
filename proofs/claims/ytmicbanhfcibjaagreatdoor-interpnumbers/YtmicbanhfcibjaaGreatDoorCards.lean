/-
  DERIVED. GIVEN WITH THE SEED: THE CARDS: each row of YtmicbanhfcibjaaGreatDoorRows.lean that lists a variable, with what it lists TIED to the program's text (the seventh form; the later family's looks); each row that meets fmt, with fmt's text TOLD by the authors' own Lean function (tested against real Go, not proved from fmt's source: count such statements apart). THE CARD IS WHAT COUNTS. Prove the row's statement (the work); the ties are given (YtmicbanhfcibjaaGreatDoorTie.lean); close each card by the builder's one call (the guide's Derived/Test/ToyasCard.lean, 'card_holds'). Laid BY PROGRAM, IN A SANDBOX (cutbox-door.mjs). By AI agents, Wed Nov 11 2026. No macro, syntax, notation, axiom, sorry.
-/
import Derived.Test.YtmicbanhfcibjaaGreatDoorRows
import GoSem.ClaimSeven
namespace Go.Proofs.YtmicbanhfcibjaaGreatDoor
namespace Rows

/-- THE TIED CARD OF 'plaitlaw18.InterpNumbers'. -/
def interpNumbersCard : Claim7 := { stood := { row := interpNumbersRow, standIns := [], harness := (true, "576206adb8fda9165f41ca420750b19c3bb72274e6975a59e20d4a6ac27ff753"), looks := false }, kinds := [], alts := [], laidByText := true, laidKinds := [.data, .data, .data, .pinned], laidTests := true, laidLooks := .later }
def InterpNumbersCardSaid : Prop := Claim7.holds Tryz.pinned (.plain (OpenSpec.ofChange interpNumbersSpec)) interpNumbersCard

/-- THE TIED CARD OF 'plaitlaw18.InterpVectors'. -/
def interpVectorsCard : Claim7 := { stood := { row := interpVectorsRow, standIns := [], harness := (true, "576206adb8fda9165f41ca420750b19c3bb72274e6975a59e20d4a6ac27ff753"), looks := false }, kinds := [], alts := [], laidByText := true, laidKinds := [.data, .data, .data, .pinned], laidTests := true, laidLooks := .later }
def InterpVectorsCardSaid : Prop := Claim7.holds Tryz.pinned (.plain (OpenSpec.ofChange interpVectorsSpec)) interpVectorsCard

/-- THE TIED CARD OF 'plaitlaw18.InterpMemory'. -/
def interpMemoryCard : Claim7 := { stood := { row := interpMemoryRow, standIns := [], harness := (true, "576206adb8fda9165f41ca420750b19c3bb72274e6975a59e20d4a6ac27ff753"), looks := false }, kinds := [], alts := [], laidByText := true, laidKinds := [.data, .data, .data, .pinned], laidTests := true, laidLooks := .later }
def InterpMemoryCardSaid : Prop := Claim7.holds Tryz.pinned (.plain (OpenSpec.ofChange interpMemorySpec)) interpMemoryCard

/-- THE SECOND FORM's CARD OF 'plaitlaw18.InterpNumbers'. -/
def interpNumbersUptoCard : Claim7 := { stood := { row := interpNumbersUptoRow, standIns := [], harness := (true, "576206adb8fda9165f41ca420750b19c3bb72274e6975a59e20d4a6ac27ff753"), looks := false }, kinds := [], alts := [], laidByText := true, laidKinds := [.data, .data, .data, .pinned], laidTests := true, laidLooks := .later }
def InterpNumbersUptoCardSaid : Prop := Claim7.holds Tryz.pinned (.plain (OpenSpec.upto interpNumbersSpec)) interpNumbersUptoCard

/-- THE SECOND FORM's CARD OF 'plaitlaw18.InterpVectors'. -/
def interpVectorsUptoCard : Claim7 := { stood := { row := interpVectorsUptoRow, standIns := [], harness := (true, "576206adb8fda9165f41ca420750b19c3bb72274e6975a59e20d4a6ac27ff753"), looks := false }, kinds := [], alts := [], laidByText := true, laidKinds := [.data, .data, .data, .pinned], laidTests := true, laidLooks := .later }
def InterpVectorsUptoCardSaid : Prop := Claim7.holds Tryz.pinned (.plain (OpenSpec.upto interpVectorsSpec)) interpVectorsUptoCard

/-- THE SECOND FORM's CARD OF 'plaitlaw18.InterpMemory'. -/
def interpMemoryUptoCard : Claim7 := { stood := { row := interpMemoryUptoRow, standIns := [], harness := (true, "576206adb8fda9165f41ca420750b19c3bb72274e6975a59e20d4a6ac27ff753"), looks := false }, kinds := [], alts := [], laidByText := true, laidKinds := [.data, .data, .data, .pinned], laidTests := true, laidLooks := .later }
def InterpMemoryUptoCardSaid : Prop := Claim7.holds Tryz.pinned (.plain (OpenSpec.upto interpMemorySpec)) interpMemoryUptoCard
end Rows
end Go.Proofs.YtmicbanhfcibjaaGreatDoor
