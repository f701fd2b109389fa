/-
  DERIVED. GIVEN WITH THE SEED: THE CARDS: each row of YtooeifemoidnoaaDoorRows.lean that lists a variable, with what it lists TIED to the program's text (the seventh form; the later family's looks); each row that meets fmt, with fmt's text TOLD by the authors' own Lean function (tested against real Go, not proved from fmt's source: count such statements apart). THE CARD IS WHAT COUNTS. Prove the row's statement (the work); the ties are given (YtooeifemoidnoaaDoorTie.lean); close each card by the builder's one call (the guide's Derived/Test/ToyasCard.lean, 'card_holds'). Laid BY PROGRAM, IN A SANDBOX (cutbox-door.mjs). By AI agents, Wed Nov 11 2026. No macro, syntax, notation, axiom, sorry.
-/
import Derived.Test.YtooeifemoidnoaaDoorRows
import GoSem.ClaimSeven
namespace Go.Proofs.YtooeifemoidnoaaDoor
namespace Rows

/-- THE TIED CARD OF 'plaitlaw15.ValidMarks'. -/
def validMarksCard : Claim7 := { stood := { row := validMarksRow, standIns := [], harness := (true, "89771e60ebf9d606a47374b3bd7031c75d115b8b92299e3346af4811873ef9db"), looks := false }, kinds := [], alts := [], laidByText := true, laidKinds := [.data, .pinned], laidTests := true, laidLooks := .later }
def ValidMarksCardSaid : Prop := Claim7.holds Tryd.pinned (.plain (OpenSpec.ofChange validMarksSpec)) validMarksCard

/-- THE TIED CARD OF 'plaitlaw15.ValidDead'. -/
def validDeadCard : Claim7 := { stood := { row := validDeadRow, standIns := [], harness := (true, "89771e60ebf9d606a47374b3bd7031c75d115b8b92299e3346af4811873ef9db"), looks := false }, kinds := [], alts := [], laidByText := true, laidKinds := [.data, .pinned], laidTests := true, laidLooks := .later }
def ValidDeadCardSaid : Prop := Claim7.holds Tryd.pinned (.plain (OpenSpec.ofChange validDeadSpec)) validDeadCard

/-- THE TIED CARD OF 'plaitlaw15.ValidGrows'. -/
def validGrowsCard : Claim7 := { stood := { row := validGrowsRow, standIns := [], harness := (true, "89771e60ebf9d606a47374b3bd7031c75d115b8b92299e3346af4811873ef9db"), looks := false }, kinds := [], alts := [], laidByText := true, laidKinds := [.data, .pinned], laidTests := true, laidLooks := .later }
def ValidGrowsCardSaid : Prop := Claim7.holds Tryd.pinned (.plain (OpenSpec.ofChange validGrowsSpec)) validGrowsCard

/-- THE TIED CARD OF 'plaitlaw15.ValidKeeps'. -/
def validKeepsCard : Claim7 := { stood := { row := validKeepsRow, standIns := [], harness := (true, "89771e60ebf9d606a47374b3bd7031c75d115b8b92299e3346af4811873ef9db"), looks := false }, kinds := [], alts := [], laidByText := true, laidKinds := [.data, .pinned], laidTests := true, laidLooks := .later }
def ValidKeepsCardSaid : Prop := Claim7.holds Tryd.pinned (.plain (OpenSpec.ofChange validKeepsSpec)) validKeepsCard

/-- THE SECOND FORM's CARD OF 'plaitlaw15.ValidMarks'. -/
def validMarksUptoCard : Claim7 := { stood := { row := validMarksUptoRow, standIns := [], harness := (true, "89771e60ebf9d606a47374b3bd7031c75d115b8b92299e3346af4811873ef9db"), looks := false }, kinds := [], alts := [], laidByText := true, laidKinds := [.data, .pinned], laidTests := true, laidLooks := .later }
def ValidMarksUptoCardSaid : Prop := Claim7.holds Tryd.pinned (.plain (OpenSpec.upto validMarksSpec)) validMarksUptoCard

/-- THE SECOND FORM's CARD OF 'plaitlaw15.ValidDead'. -/
def validDeadUptoCard : Claim7 := { stood := { row := validDeadUptoRow, standIns := [], harness := (true, "89771e60ebf9d606a47374b3bd7031c75d115b8b92299e3346af4811873ef9db"), looks := false }, kinds := [], alts := [], laidByText := true, laidKinds := [.data, .pinned], laidTests := true, laidLooks := .later }
def ValidDeadUptoCardSaid : Prop := Claim7.holds Tryd.pinned (.plain (OpenSpec.upto validDeadSpec)) validDeadUptoCard

/-- THE SECOND FORM's CARD OF 'plaitlaw15.ValidGrows'. -/
def validGrowsUptoCard : Claim7 := { stood := { row := validGrowsUptoRow, standIns := [], harness := (true, "89771e60ebf9d606a47374b3bd7031c75d115b8b92299e3346af4811873ef9db"), looks := false }, kinds := [], alts := [], laidByText := true, laidKinds := [.data, .pinned], laidTests := true, laidLooks := .later }
def ValidGrowsUptoCardSaid : Prop := Claim7.holds Tryd.pinned (.plain (OpenSpec.upto validGrowsSpec)) validGrowsUptoCard

/-- THE SECOND FORM's CARD OF 'plaitlaw15.ValidKeeps'. -/
def validKeepsUptoCard : Claim7 := { stood := { row := validKeepsUptoRow, standIns := [], harness := (true, "89771e60ebf9d606a47374b3bd7031c75d115b8b92299e3346af4811873ef9db"), looks := false }, kinds := [], alts := [], laidByText := true, laidKinds := [.data, .pinned], laidTests := true, laidLooks := .later }
def ValidKeepsUptoCardSaid : Prop := Claim7.holds Tryd.pinned (.plain (OpenSpec.upto validKeepsSpec)) validKeepsUptoCard
end Rows
end Go.Proofs.YtooeifemoidnoaaDoor
