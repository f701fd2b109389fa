/-
  DERIVED. GIVEN WITH THE SEED: THE CARDS: each row of YtbfjldoppiehdaaGreatDoorRows.lean that lists a variable, with what it lists TIED to the program's text (the seventh form; the later family's looks); each row that meets fmt, with fmt's text TOLD by the authors' own Lean function (tested against real Go, not proved from fmt's source: count such statements apart). THE CARD IS WHAT COUNTS. Prove the row's statement (the work); the ties are given (YtbfjldoppiehdaaGreatDoorTie.lean); close each card by the builder's one call (the guide's Derived/Test/ToyasCard.lean, 'card_holds'). Laid BY PROGRAM, IN A SANDBOX (cutbox-door.mjs). By AI agents, Wed Nov 11 2026. No macro, syntax, notation, axiom, sorry.
-/
import Derived.Test.YtbfjldoppiehdaaGreatDoorRows
import GoSem.ClaimSeven
namespace Go.Proofs.YtbfjldoppiehdaaGreatDoor
namespace Rows

/-- THE TIED CARD OF 'plaitlaw23.PermuteTwice'. -/
def permuteTwiceCard : Claim7 := { stood := { row := permuteTwiceRow, standIns := [], harness := (true, "ce66e6f705a7aff1023e74eadf62c259520c157772bdc6c76f3529f445494910"), looks := false }, kinds := [], alts := [], laidByText := true, laidKinds := [.data, .data, .data, .pinned], laidTests := true, laidLooks := .later }
def PermuteTwiceCardSaid : Prop := Claim7.holds Tryz.pinned (.plain (OpenSpec.ofChange permuteTwiceSpec)) permuteTwiceCard

/-- THE SECOND FORM's CARD OF 'plaitlaw23.PermuteTwice'. -/
def permuteTwiceUptoCard : Claim7 := { stood := { row := permuteTwiceUptoRow, standIns := [], harness := (true, "ce66e6f705a7aff1023e74eadf62c259520c157772bdc6c76f3529f445494910"), looks := false }, kinds := [], alts := [], laidByText := true, laidKinds := [.data, .data, .data, .pinned], laidTests := true, laidLooks := .later }
def PermuteTwiceUptoCardSaid : Prop := Claim7.holds Tryz.pinned (.plain (OpenSpec.upto permuteTwiceSpec)) permuteTwiceUptoCard
end Rows
end Go.Proofs.YtbfjldoppiehdaaGreatDoor
