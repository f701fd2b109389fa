/-
  DERIVED. GIVEN WITH THE SEED: THE CARDS: each row of YtbplobpobnagkaaGreatDoorRows.lean that lists a variable, with what it lists TIED to the program's text (the seventh form; the later family's looks); each row that meets fmt, with fmt's text TOLD by the authors' own Lean function (tested against real Go, not proved from fmt's source: count such statements apart). THE CARD IS WHAT COUNTS. Prove the row's statement (the work); the ties are given (YtbplobpobnagkaaGreatDoorTie.lean); close each card by the builder's one call (the guide's Derived/Test/ToyasCard.lean, 'card_holds'). Laid BY PROGRAM, IN A SANDBOX (cutbox-door.mjs). By AI agents, Wed Nov 11 2026. No macro, syntax, notation, axiom, sorry.
-/
import Derived.Test.YtbplobpobnagkaaGreatDoorRows
import GoSem.ClaimSeven
namespace Go.Proofs.YtbplobpobnagkaaGreatDoor
namespace Rows

/-- THE TIED CARD OF 'plaitlaw17.StoreTable'. -/
def storeTableCard : Claim7 := { stood := { row := storeTableRow, standIns := [], harness := (true, "9b6564bd28683b7fa07f1fddbc14fa365c98ac89f3a163b13a645ade08acb871"), looks := false }, kinds := [], alts := [], laidByText := true, laidKinds := [.data, .pinned], laidTests := true, laidLooks := .later }
def StoreTableCardSaid : Prop := Claim7.holds Tryz.pinned (.plain (OpenSpec.ofChange storeTableSpec)) storeTableCard

/-- THE TIED CARD OF 'plaitlaw17.StoreLaid'. -/
def storeLaidCard : Claim7 := { stood := { row := storeLaidRow, standIns := [], harness := (true, "9b6564bd28683b7fa07f1fddbc14fa365c98ac89f3a163b13a645ade08acb871"), looks := false }, kinds := [], alts := [], laidByText := true, laidKinds := [.data, .pinned], laidTests := true, laidLooks := .later }
def StoreLaidCardSaid : Prop := Claim7.holds Tryz.pinned (.plain (OpenSpec.ofChange storeLaidSpec)) storeLaidCard

/-- THE TIED CARD OF 'plaitlaw17.StoreSlots'. -/
def storeSlotsCard : Claim7 := { stood := { row := storeSlotsRow, standIns := [], harness := (true, "9b6564bd28683b7fa07f1fddbc14fa365c98ac89f3a163b13a645ade08acb871"), looks := false }, kinds := [], alts := [], laidByText := true, laidKinds := [.data, .pinned], laidTests := true, laidLooks := .later }
def StoreSlotsCardSaid : Prop := Claim7.holds Tryz.pinned (.plain (OpenSpec.ofChange storeSlotsSpec)) storeSlotsCard

/-- THE SECOND FORM's CARD OF 'plaitlaw17.StoreTable'. -/
def storeTableUptoCard : Claim7 := { stood := { row := storeTableUptoRow, standIns := [], harness := (true, "9b6564bd28683b7fa07f1fddbc14fa365c98ac89f3a163b13a645ade08acb871"), looks := false }, kinds := [], alts := [], laidByText := true, laidKinds := [.data, .pinned], laidTests := true, laidLooks := .later }
def StoreTableUptoCardSaid : Prop := Claim7.holds Tryz.pinned (.plain (OpenSpec.upto storeTableSpec)) storeTableUptoCard

/-- THE SECOND FORM's CARD OF 'plaitlaw17.StoreLaid'. -/
def storeLaidUptoCard : Claim7 := { stood := { row := storeLaidUptoRow, standIns := [], harness := (true, "9b6564bd28683b7fa07f1fddbc14fa365c98ac89f3a163b13a645ade08acb871"), looks := false }, kinds := [], alts := [], laidByText := true, laidKinds := [.data, .pinned], laidTests := true, laidLooks := .later }
def StoreLaidUptoCardSaid : Prop := Claim7.holds Tryz.pinned (.plain (OpenSpec.upto storeLaidSpec)) storeLaidUptoCard

/-- THE SECOND FORM's CARD OF 'plaitlaw17.StoreSlots'. -/
def storeSlotsUptoCard : Claim7 := { stood := { row := storeSlotsUptoRow, standIns := [], harness := (true, "9b6564bd28683b7fa07f1fddbc14fa365c98ac89f3a163b13a645ade08acb871"), looks := false }, kinds := [], alts := [], laidByText := true, laidKinds := [.data, .pinned], laidTests := true, laidLooks := .later }
def StoreSlotsUptoCardSaid : Prop := Claim7.holds Tryz.pinned (.plain (OpenSpec.upto storeSlotsSpec)) storeSlotsUptoCard
end Rows
end Go.Proofs.YtbplobpobnagkaaGreatDoor
