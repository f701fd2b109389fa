/-
  NARROWER THAN 'FOR EVERY INPUT', by the rows' own cells (each row's printed sentence says how): ValidMarks: laid · ValidDead: laid · ValidGrows: laid · ValidKeeps: laid.
  DERIVED. THE GIVEN ROWS OF THIS SEAT. 4 by the template 'for every input the law returns true; each argument reads behind the call as it read before'; 0 by the template 'total and deterministic' (their statements: YtooeifemoidnoaaDoorTotals.lean).
  GIVEN WITH THE SEED: the statements are not yours to turn. If you find one false, say at which input.
  Laid BY PROGRAM, IN A SANDBOX (cutbox-rows.mjs): the forced cells as the released guide's own fill.sh prints them over the translation b862d85932c73292… (all of the seat's roots in one cut). By AI agents, Wed Nov 11 2026. No macro, syntax, notation, axiom, sorry.
-/
import Derived.Test.YtooeifemoidnoaaDoorChecked
import GoSem.PinnedTables
import GoSem.Claim
import GoSem.ClaimJoined
import GoSem.ClaimMapViews
import Derived.JoinedTies
import Derived.KernelRfl
namespace Go.Proofs.YtooeifemoidnoaaDoor
/- THE CELL 'sum', in the pinned program and in every row, IS THE sha256 OF THE DUMP (.gsa) THAT YtooeifemoidnoaaDoorProg.lean LOADS. Nothing in Lean hashes anything: it is a label: what it is worth is what the hold of that sum in a sandbox is worth. -/
noncomputable def Tryd.pinned : Pinned := { name := "ytooeifemoidnoaadoor", sum := "b862d85932c732929364a36cdbf9d9a8942a9673e924f860aa10e996890ba0a9", checked := Tryd.checked }
namespace Rows
def none {H : Type} : Left H := { results := [], args := [] }

/- WHAT THE LISTED PACKAGE-LEVEL VARIABLES READ AS WHEN THE CALL BEGINS. Each datum BY PROGRAM (the guide's laid-datum.mjs) off the statement by which the dump's own 'gosem.cut.vars' lays the variable. In a bare row this is a premise. The card (YtooeifemoidnoaaDoorCards.lean) ties it to the program's text. -/
def laid_unicode_utf8_acceptRanges {H : Type} : DataW H := .agg [.agg [.lit (.int .u8 128), .lit (.int .u8 191)], .agg [.lit (.int .u8 160), .lit (.int .u8 191)], .agg [.lit (.int .u8 128), .lit (.int .u8 159)], .agg [.lit (.int .u8 144), .lit (.int .u8 191)], .agg [.lit (.int .u8 128), .lit (.int .u8 143)], .agg [.lit (.int .u8 0), .lit (.int .u8 0)], .agg [.lit (.int .u8 0), .lit (.int .u8 0)], .agg [.lit (.int .u8 0), .lit (.int .u8 0)], .agg [.lit (.int .u8 0), .lit (.int .u8 0)], .agg [.lit (.int .u8 0), .lit (.int .u8 0)], .agg [.lit (.int .u8 0), .lit (.int .u8 0)], .agg [.lit (.int .u8 0), .lit (.int .u8 0)], .agg [.lit (.int .u8 0), .lit (.int .u8 0)], .agg [.lit (.int .u8 0), .lit (.int .u8 0)], .agg [.lit (.int .u8 0), .lit (.int .u8 0)], .agg [.lit (.int .u8 0), .lit (.int .u8 0)]]
/-- One of Go's own tables, pinned by name: the form's constant. -/
def laid_unicode_utf8_first : DataW Unit := Go.Pinned.utf8First

/-- 'plaitlaw15.ValidMarks': WHATEVER THE INPUT: true; the input reads as it did. -/
def validMarksSpec : ChangeSpec := { name := "validMarks", fn := fun _ => fun
  | [d1, d2] => { results := [.lit (.bool true)], args := [d1, d2] }
  | _ => none }
def validMarksRow : OpenClaim := { program := "ytooeifemoidnoaadoor", sum := "b862d85932c732929364a36cdbf9d9a8942a9673e924f860aa10e996890ba0a9", func := "plait/plaitlaw15.ValidMarks", spec := "validMarks", unfollowed := true, recurses := true, named := ["unicode/utf8.first", "unicode/utf8.acceptRanges"], apart := false, laid := [("unicode/utf8.acceptRanges", laid_unicode_utf8_acceptRanges), ("unicode/utf8.first", laid_unicode_utf8_first)] }
def ValidMarksSaid : Prop := validMarksRow.holds Tryd.pinned (OpenSpec.ofChange validMarksSpec)

/-- ITS FALSE NEIGHBOUR: 'it returns false'. Refute it at one input. -/
def validMarksWrong : ChangeSpec := { name := "validMarks", fn := fun _ => fun
  | [d1, d2] => { results := [.lit (.bool false)], args := [d1, d2] }
  | _ => none }
def ValidMarksWrongFalsely : Prop := validMarksRow.holds Tryd.pinned (OpenSpec.ofChange validMarksWrong)

/-- 'plaitlaw15.ValidDead': WHATEVER THE INPUT: true; the input reads as it did. -/
def validDeadSpec : ChangeSpec := { name := "validDead", fn := fun _ => fun
  | [d1, d2] => { results := [.lit (.bool true)], args := [d1, d2] }
  | _ => none }
def validDeadRow : OpenClaim := { program := "ytooeifemoidnoaadoor", sum := "b862d85932c732929364a36cdbf9d9a8942a9673e924f860aa10e996890ba0a9", func := "plait/plaitlaw15.ValidDead", spec := "validDead", unfollowed := true, recurses := true, named := ["unicode/utf8.first", "unicode/utf8.acceptRanges"], apart := false, laid := [("unicode/utf8.acceptRanges", laid_unicode_utf8_acceptRanges), ("unicode/utf8.first", laid_unicode_utf8_first)] }
def ValidDeadSaid : Prop := validDeadRow.holds Tryd.pinned (OpenSpec.ofChange validDeadSpec)

/-- ITS FALSE NEIGHBOUR: 'it returns false'. Refute it at one input. -/
def validDeadWrong : ChangeSpec := { name := "validDead", fn := fun _ => fun
  | [d1, d2] => { results := [.lit (.bool false)], args := [d1, d2] }
  | _ => none }
def ValidDeadWrongFalsely : Prop := validDeadRow.holds Tryd.pinned (OpenSpec.ofChange validDeadWrong)

/-- 'plaitlaw15.ValidGrows': WHATEVER THE INPUT: true; the input reads as it did. -/
def validGrowsSpec : ChangeSpec := { name := "validGrows", fn := fun _ => fun
  | [d1, d2] => { results := [.lit (.bool true)], args := [d1, d2] }
  | _ => none }
def validGrowsRow : OpenClaim := { program := "ytooeifemoidnoaadoor", sum := "b862d85932c732929364a36cdbf9d9a8942a9673e924f860aa10e996890ba0a9", func := "plait/plaitlaw15.ValidGrows", spec := "validGrows", unfollowed := true, recurses := true, named := ["unicode/utf8.first", "unicode/utf8.acceptRanges"], apart := false, laid := [("unicode/utf8.acceptRanges", laid_unicode_utf8_acceptRanges), ("unicode/utf8.first", laid_unicode_utf8_first)] }
def ValidGrowsSaid : Prop := validGrowsRow.holds Tryd.pinned (OpenSpec.ofChange validGrowsSpec)

/-- ITS FALSE NEIGHBOUR: 'it returns false'. Refute it at one input. -/
def validGrowsWrong : ChangeSpec := { name := "validGrows", fn := fun _ => fun
  | [d1, d2] => { results := [.lit (.bool false)], args := [d1, d2] }
  | _ => none }
def ValidGrowsWrongFalsely : Prop := validGrowsRow.holds Tryd.pinned (OpenSpec.ofChange validGrowsWrong)

/-- 'plaitlaw15.ValidKeeps': WHATEVER THE INPUT: true; the input reads as it did. -/
def validKeepsSpec : ChangeSpec := { name := "validKeeps", fn := fun _ => fun
  | [d1, d2] => { results := [.lit (.bool true)], args := [d1, d2] }
  | _ => none }
def validKeepsRow : OpenClaim := { program := "ytooeifemoidnoaadoor", sum := "b862d85932c732929364a36cdbf9d9a8942a9673e924f860aa10e996890ba0a9", func := "plait/plaitlaw15.ValidKeeps", spec := "validKeeps", unfollowed := true, recurses := true, named := ["unicode/utf8.first", "unicode/utf8.acceptRanges"], apart := false, laid := [("unicode/utf8.acceptRanges", laid_unicode_utf8_acceptRanges), ("unicode/utf8.first", laid_unicode_utf8_first)] }
def ValidKeepsSaid : Prop := validKeepsRow.holds Tryd.pinned (OpenSpec.ofChange validKeepsSpec)

/-- ITS FALSE NEIGHBOUR: 'it returns false'. Refute it at one input. -/
def validKeepsWrong : ChangeSpec := { name := "validKeeps", fn := fun _ => fun
  | [d1, d2] => { results := [.lit (.bool false)], args := [d1, d2] }
  | _ => none }
def ValidKeepsWrongFalsely : Prop := validKeepsRow.holds Tryd.pinned (OpenSpec.ofChange validKeepsWrong)

/- THE SECOND FORM. 'bulk': how many values and letters a reading holds, each counted each time it is reached (what is shared counts as often as it is met; a slice's spare places count too). A statement '..UptoSaid' is the law's where the arguments, and the package variables that the reading takes, are together of bulk at most 1048576: NARROWER than '..Said'. Prove '..Said' where nothing that the law and all that it calls make is longer than what came in: it says more and counts as full. Else prove '..UptoSaid'. A law counts once. -/
mutual
def uptoBulk {H : Type} : DataW H → Nat
  | .lit (.string bytes) => bytes.length + 1
  | .lit _ => 1
  | .nil => 1
  | .ptr d => uptoBulk d + 1
  | .slice elems spare => uptoBulkAll elems + uptoBulkAll spare + 1
  | .agg parts => uptoBulkAll parts + 1
  | .iface _ d => uptoBulk d + 1
  | .map entries => uptoBulkEntries entries + 1
  | .held _ => 1
def uptoBulkAll {H : Type} : List (DataW H) → Nat
  | [] => 0
  | d :: r => uptoBulk d + uptoBulkAll r
def uptoBulkEntries {H : Type} : List (Lit × DataW H) → Nat
  | [] => 0
  | x :: r => uptoBulkEntry x + uptoBulkEntries r
def uptoBulkEntry {H : Type} : Lit × DataW H → Nat
  | (.string bytes, d) => bytes.length + uptoBulk d + 1
  | (_, d) => uptoBulk d + 1
 end
def uptoSmall : (H : Type) → List (DataW H) → Bool := fun _ ds => decide (uptoBulkAll ds ≤ 1048576)
def OpenSpec.upto (s : _root_.Go.ChangeSpec) : _root_.Go.OpenSpec := { _root_.Go.OpenSpec.ofChange s with cond := some uptoSmall }

/-- 'plaitlaw15.ValidMarks', WHERE WHAT IT READS IS OF BULK AT MOST 1048576: true; the input reads as it did. -/
def validMarksUptoRow : OpenClaim := { program := "ytooeifemoidnoaadoor", sum := "b862d85932c732929364a36cdbf9d9a8942a9673e924f860aa10e996890ba0a9", func := "plait/plaitlaw15.ValidMarks", spec := "validMarks", unfollowed := true, recurses := true, named := ["unicode/utf8.first", "unicode/utf8.acceptRanges"], apart := false, laid := [("unicode/utf8.acceptRanges", laid_unicode_utf8_acceptRanges), ("unicode/utf8.first", laid_unicode_utf8_first)], narrowed := true }
def ValidMarksUptoSaid : Prop := validMarksUptoRow.holds Tryd.pinned (OpenSpec.upto validMarksSpec)

/-- 'plaitlaw15.ValidDead', WHERE WHAT IT READS IS OF BULK AT MOST 1048576: true; the input reads as it did. -/
def validDeadUptoRow : OpenClaim := { program := "ytooeifemoidnoaadoor", sum := "b862d85932c732929364a36cdbf9d9a8942a9673e924f860aa10e996890ba0a9", func := "plait/plaitlaw15.ValidDead", spec := "validDead", unfollowed := true, recurses := true, named := ["unicode/utf8.first", "unicode/utf8.acceptRanges"], apart := false, laid := [("unicode/utf8.acceptRanges", laid_unicode_utf8_acceptRanges), ("unicode/utf8.first", laid_unicode_utf8_first)], narrowed := true }
def ValidDeadUptoSaid : Prop := validDeadUptoRow.holds Tryd.pinned (OpenSpec.upto validDeadSpec)

/-- 'plaitlaw15.ValidGrows', WHERE WHAT IT READS IS OF BULK AT MOST 1048576: true; the input reads as it did. -/
def validGrowsUptoRow : OpenClaim := { program := "ytooeifemoidnoaadoor", sum := "b862d85932c732929364a36cdbf9d9a8942a9673e924f860aa10e996890ba0a9", func := "plait/plaitlaw15.ValidGrows", spec := "validGrows", unfollowed := true, recurses := true, named := ["unicode/utf8.first", "unicode/utf8.acceptRanges"], apart := false, laid := [("unicode/utf8.acceptRanges", laid_unicode_utf8_acceptRanges), ("unicode/utf8.first", laid_unicode_utf8_first)], narrowed := true }
def ValidGrowsUptoSaid : Prop := validGrowsUptoRow.holds Tryd.pinned (OpenSpec.upto validGrowsSpec)

/-- 'plaitlaw15.ValidKeeps', WHERE WHAT IT READS IS OF BULK AT MOST 1048576: true; the input reads as it did. -/
def validKeepsUptoRow : OpenClaim := { program := "ytooeifemoidnoaadoor", sum := "b862d85932c732929364a36cdbf9d9a8942a9673e924f860aa10e996890ba0a9", func := "plait/plaitlaw15.ValidKeeps", spec := "validKeeps", unfollowed := true, recurses := true, named := ["unicode/utf8.first", "unicode/utf8.acceptRanges"], apart := false, laid := [("unicode/utf8.acceptRanges", laid_unicode_utf8_acceptRanges), ("unicode/utf8.first", laid_unicode_utf8_first)], narrowed := true }
def ValidKeepsUptoSaid : Prop := validKeepsUptoRow.holds Tryd.pinned (OpenSpec.upto validKeepsSpec)

end Rows
end Go.Proofs.YtooeifemoidnoaaDoor
