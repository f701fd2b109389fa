/-
  DERIVED. GIVEN WITH THE SEED: THE CARDS: each row of YtjeanplhkkpdmaaGreatDoorRows.lean that lists a variable, with what it lists TIED to the program's text (the seventh form; the later family's looks); each row that meets fmt, with fmt's text TOLD by the authors' own Lean function (tested against real Go, not proved from fmt's source: count such statements apart). THE CARD IS WHAT COUNTS. Prove the row's statement (the work); the ties are given (YtjeanplhkkpdmaaGreatDoorTie.lean); close each card by the builder's one call (the guide's Derived/Test/ToyasCard.lean, 'card_holds'). Laid BY PROGRAM, IN A SANDBOX (cutbox-door.mjs). By AI agents, Wed Nov 11 2026. No macro, syntax, notation, axiom, sorry.
-/
import Derived.Test.YtjeanplhkkpdmaaGreatDoorRows
import GoSem.ClaimSeven
namespace Go.Proofs.YtjeanplhkkpdmaaGreatDoor
namespace Rows

/-- THE TIED CARD OF 'plaitlaw18.InterpVectors'. -/
def interpVectorsCard : Claim7 := { stood := { row := interpVectorsRow, standIns := [], harness := (true, "1f6ee752934f7cec237e9218cc724cbcdf4eaad030786f8f19a2cd58b53a571f"), looks := false }, kinds := [], alts := [], laidByText := true, laidKinds := [.data, .data, .data, .pinned], laidTests := true, laidLooks := .later }
def InterpVectorsCardSaid : Prop := Claim7.holds Tryz.pinned (.plain (OpenSpec.ofChange interpVectorsSpec)) interpVectorsCard

/-- THE TIED CARD OF 'plaitlaw18.InterpMemory'. -/
def interpMemoryCard : Claim7 := { stood := { row := interpMemoryRow, standIns := [], harness := (true, "1f6ee752934f7cec237e9218cc724cbcdf4eaad030786f8f19a2cd58b53a571f"), looks := false }, kinds := [], alts := [], laidByText := true, laidKinds := [.data, .data, .data, .pinned], laidTests := true, laidLooks := .later }
def InterpMemoryCardSaid : Prop := Claim7.holds Tryz.pinned (.plain (OpenSpec.ofChange interpMemorySpec)) interpMemoryCard

/-- THE SECOND FORM's CARD OF 'plaitlaw18.InterpVectors'. -/
def interpVectorsUptoCard : Claim7 := { stood := { row := interpVectorsUptoRow, standIns := [], harness := (true, "1f6ee752934f7cec237e9218cc724cbcdf4eaad030786f8f19a2cd58b53a571f"), looks := false }, kinds := [], alts := [], laidByText := true, laidKinds := [.data, .data, .data, .pinned], laidTests := true, laidLooks := .later }
def InterpVectorsUptoCardSaid : Prop := Claim7.holds Tryz.pinned (.plain (OpenSpec.upto interpVectorsSpec)) interpVectorsUptoCard

/-- THE SECOND FORM's CARD OF 'plaitlaw18.InterpMemory'. -/
def interpMemoryUptoCard : Claim7 := { stood := { row := interpMemoryUptoRow, standIns := [], harness := (true, "1f6ee752934f7cec237e9218cc724cbcdf4eaad030786f8f19a2cd58b53a571f"), looks := false }, kinds := [], alts := [], laidByText := true, laidKinds := [.data, .data, .data, .pinned], laidTests := true, laidLooks := .later }
def InterpMemoryUptoCardSaid : Prop := Claim7.holds Tryz.pinned (.plain (OpenSpec.upto interpMemorySpec)) interpMemoryUptoCard
end Rows
end Go.Proofs.YtjeanplhkkpdmaaGreatDoor
