/-
  No cell of these rows narrows 'for every input' (looked for: loops, veiled, ifaces, maps, wideKeys, modest, calm, conditions, laid).
  DERIVED. THE GIVEN ROWS OF THIS SEAT. 5 by the template 'for every input the law returns true; each argument reads behind the call as it read before'; 0 by the template 'total and deterministic' (their statements: YtfdjdnphbakjoaaTotals.lean).
  GIVEN WITH THE SEED: the statements are not yours to turn. If you find one false, say at which input.
  Laid BY PROGRAM, IN A SANDBOX (cutbox-rows.mjs): the forced cells as the released guide's own fill.sh prints them over the translation 9e5878a029aaa95f… (all of the seat's roots in one cut). By AI agents, Wed Nov 11 2026. No macro, syntax, notation, axiom, sorry.
-/
import Derived.Test.YtfdjdnphbakjoaaChecked
import GoSem.Claim
import GoSem.ClaimJoined
import GoSem.ClaimMapViews
import Derived.JoinedTies
import Derived.KernelRfl
namespace Go.Proofs.Ytfdjdnphbakjoaa
/- THE CELL 'sum', in the pinned program and in every row, IS THE sha256 OF THE DUMP (.gsa) THAT YtfdjdnphbakjoaaProg.lean LOADS. Nothing in Lean hashes anything: it is a label: what it is worth is what the hold of that sum in a sandbox is worth. -/
noncomputable def Try.pinned : Pinned := { name := "ytfdjdnphbakjoaa", sum := "9e5878a029aaa95f8392dbf7c3be34ee9143f89259536ca59963ce3699e072ff", checked := Try.checked }
namespace Rows
def none {H : Type} : Left H := { results := [], args := [] }

/-- 'plaitlaw23.PermuteSeqs': WHATEVER THE INPUT: true; the input reads as it did. -/
def permuteSeqsSpec : ChangeSpec := { name := "permuteSeqs", fn := fun _ => fun
  | [d1, d2] => { results := [.lit (.bool true)], args := [d1, d2] }
  | _ => none }
def permuteSeqsRow : OpenClaim := { program := "ytfdjdnphbakjoaa", sum := "9e5878a029aaa95f8392dbf7c3be34ee9143f89259536ca59963ce3699e072ff", func := "plait/plaitlaw23.PermuteSeqs", spec := "permuteSeqs", unfollowed := true, recurses := true, apart := false }
def PermuteSeqsSaid : Prop := permuteSeqsRow.holds Try.pinned (OpenSpec.ofChange permuteSeqsSpec)

/-- ITS FALSE NEIGHBOUR: 'it returns false'. Refute it at one input. -/
def permuteSeqsWrong : ChangeSpec := { name := "permuteSeqs", fn := fun _ => fun
  | [d1, d2] => { results := [.lit (.bool false)], args := [d1, d2] }
  | _ => none }
def PermuteSeqsWrongFalsely : Prop := permuteSeqsRow.holds Try.pinned (OpenSpec.ofChange permuteSeqsWrong)

/-- 'plaitlaw23.PermuteBases': WHATEVER THE INPUT: true; the input reads as it did. -/
def permuteBasesSpec : ChangeSpec := { name := "permuteBases", fn := fun _ => fun
  | [d1, d2] => { results := [.lit (.bool true)], args := [d1, d2] }
  | _ => none }
def permuteBasesRow : OpenClaim := { program := "ytfdjdnphbakjoaa", sum := "9e5878a029aaa95f8392dbf7c3be34ee9143f89259536ca59963ce3699e072ff", func := "plait/plaitlaw23.PermuteBases", spec := "permuteBases", unfollowed := true, recurses := true, apart := false }
def PermuteBasesSaid : Prop := permuteBasesRow.holds Try.pinned (OpenSpec.ofChange permuteBasesSpec)

/-- ITS FALSE NEIGHBOUR: 'it returns false'. Refute it at one input. -/
def permuteBasesWrong : ChangeSpec := { name := "permuteBases", fn := fun _ => fun
  | [d1, d2] => { results := [.lit (.bool false)], args := [d1, d2] }
  | _ => none }
def PermuteBasesWrongFalsely : Prop := permuteBasesRow.holds Try.pinned (OpenSpec.ofChange permuteBasesWrong)

/-- 'plaitlaw23.PermuteApart': WHATEVER THE INPUT: true; the input reads as it did. -/
def permuteApartSpec : ChangeSpec := { name := "permuteApart", fn := fun _ => fun
  | [d] => { results := [.lit (.bool true)], args := [d] }
  | _ => none }
def permuteApartRow : OpenClaim := { program := "ytfdjdnphbakjoaa", sum := "9e5878a029aaa95f8392dbf7c3be34ee9143f89259536ca59963ce3699e072ff", func := "plait/plaitlaw23.PermuteApart", spec := "permuteApart", unfollowed := true, recurses := true, apart := false }
def PermuteApartSaid : Prop := permuteApartRow.holds Try.pinned (OpenSpec.ofChange permuteApartSpec)

/-- ITS FALSE NEIGHBOUR: 'it returns false'. Refute it at one input. -/
def permuteApartWrong : ChangeSpec := { name := "permuteApart", fn := fun _ => fun
  | [d] => { results := [.lit (.bool false)], args := [d] }
  | _ => none }
def PermuteApartWrongFalsely : Prop := permuteApartRow.holds Try.pinned (OpenSpec.ofChange permuteApartWrong)

/-- 'plaitlaw22.SwarFew': WHATEVER THE INPUT: true; the input reads as it did. -/
def swarFewSpec : ChangeSpec := { name := "swarFew", fn := fun _ => fun
  | [d] => { results := [.lit (.bool true)], args := [d] }
  | _ => none }
def swarFewRow : OpenClaim := { program := "ytfdjdnphbakjoaa", sum := "9e5878a029aaa95f8392dbf7c3be34ee9143f89259536ca59963ce3699e072ff", func := "plait/plaitlaw22.SwarFew", spec := "swarFew", unfollowed := true, recurses := true, apart := false }
def SwarFewSaid : Prop := swarFewRow.holds Try.pinned (OpenSpec.ofChange swarFewSpec)

/-- ITS FALSE NEIGHBOUR: 'it returns false'. Refute it at one input. -/
def swarFewWrong : ChangeSpec := { name := "swarFew", fn := fun _ => fun
  | [d] => { results := [.lit (.bool false)], args := [d] }
  | _ => none }
def SwarFewWrongFalsely : Prop := swarFewRow.holds Try.pinned (OpenSpec.ofChange swarFewWrong)

/-- 'plaitlaw22.SwarBases': WHATEVER THE INPUT: true; the input reads as it did. -/
def swarBasesSpec : ChangeSpec := { name := "swarBases", fn := fun _ => fun
  | [d1, d2, d3] => { results := [.lit (.bool true)], args := [d1, d2, d3] }
  | _ => none }
def swarBasesRow : OpenClaim := { program := "ytfdjdnphbakjoaa", sum := "9e5878a029aaa95f8392dbf7c3be34ee9143f89259536ca59963ce3699e072ff", func := "plait/plaitlaw22.SwarBases", spec := "swarBases", unfollowed := true, recurses := true, apart := false }
def SwarBasesSaid : Prop := swarBasesRow.holds Try.pinned (OpenSpec.ofChange swarBasesSpec)

/-- ITS FALSE NEIGHBOUR: 'it returns false'. Refute it at one input. -/
def swarBasesWrong : ChangeSpec := { name := "swarBases", fn := fun _ => fun
  | [d1, d2, d3] => { results := [.lit (.bool false)], args := [d1, d2, d3] }
  | _ => none }
def SwarBasesWrongFalsely : Prop := swarBasesRow.holds Try.pinned (OpenSpec.ofChange swarBasesWrong)

/- THE SECOND FORM. 'bulk': how many values and letters a reading holds, each counted each time it is reached (what is shared counts as often as it is met; a slice's spare places count too). A statement '..UptoSaid' is the law's where the arguments, and the package variables that the reading takes, are together of bulk at most 1048576: NARROWER than '..Said'. Prove '..Said' where nothing that the law and all that it calls make is longer than what came in: it says more and counts as full. Else prove '..UptoSaid'. A law counts once. -/
mutual
def uptoBulk {H : Type} : DataW H → Nat
  | .lit (.string bytes) => bytes.length + 1
  | .lit _ => 1
  | .nil => 1
  | .ptr d => uptoBulk d + 1
  | .slice elems spare => uptoBulkAll elems + uptoBulkAll spare + 1
  | .agg parts => uptoBulkAll parts + 1
  | .iface _ d => uptoBulk d + 1
  | .map entries => uptoBulkEntries entries + 1
  | .held _ => 1
def uptoBulkAll {H : Type} : List (DataW H) → Nat
  | [] => 0
  | d :: r => uptoBulk d + uptoBulkAll r
def uptoBulkEntries {H : Type} : List (Lit × DataW H) → Nat
  | [] => 0
  | x :: r => uptoBulkEntry x + uptoBulkEntries r
def uptoBulkEntry {H : Type} : Lit × DataW H → Nat
  | (.string bytes, d) => bytes.length + uptoBulk d + 1
  | (_, d) => uptoBulk d + 1
 end
def uptoSmall : (H : Type) → List (DataW H) → Bool := fun _ ds => decide (uptoBulkAll ds ≤ 1048576)
def OpenSpec.upto (s : _root_.Go.ChangeSpec) : _root_.Go.OpenSpec := { _root_.Go.OpenSpec.ofChange s with cond := some uptoSmall }

/-- 'plaitlaw23.PermuteSeqs', WHERE WHAT IT READS IS OF BULK AT MOST 1048576: true; the input reads as it did. -/
def permuteSeqsUptoRow : OpenClaim := { program := "ytfdjdnphbakjoaa", sum := "9e5878a029aaa95f8392dbf7c3be34ee9143f89259536ca59963ce3699e072ff", func := "plait/plaitlaw23.PermuteSeqs", spec := "permuteSeqs", unfollowed := true, recurses := true, apart := false, narrowed := true }
def PermuteSeqsUptoSaid : Prop := permuteSeqsUptoRow.holds Try.pinned (OpenSpec.upto permuteSeqsSpec)

/-- 'plaitlaw23.PermuteBases', WHERE WHAT IT READS IS OF BULK AT MOST 1048576: true; the input reads as it did. -/
def permuteBasesUptoRow : OpenClaim := { program := "ytfdjdnphbakjoaa", sum := "9e5878a029aaa95f8392dbf7c3be34ee9143f89259536ca59963ce3699e072ff", func := "plait/plaitlaw23.PermuteBases", spec := "permuteBases", unfollowed := true, recurses := true, apart := false, narrowed := true }
def PermuteBasesUptoSaid : Prop := permuteBasesUptoRow.holds Try.pinned (OpenSpec.upto permuteBasesSpec)

/-- 'plaitlaw23.PermuteApart', WHERE WHAT IT READS IS OF BULK AT MOST 1048576: true; the input reads as it did. -/
def permuteApartUptoRow : OpenClaim := { program := "ytfdjdnphbakjoaa", sum := "9e5878a029aaa95f8392dbf7c3be34ee9143f89259536ca59963ce3699e072ff", func := "plait/plaitlaw23.PermuteApart", spec := "permuteApart", unfollowed := true, recurses := true, apart := false, narrowed := true }
def PermuteApartUptoSaid : Prop := permuteApartUptoRow.holds Try.pinned (OpenSpec.upto permuteApartSpec)

/-- 'plaitlaw22.SwarFew', WHERE WHAT IT READS IS OF BULK AT MOST 1048576: true; the input reads as it did. -/
def swarFewUptoRow : OpenClaim := { program := "ytfdjdnphbakjoaa", sum := "9e5878a029aaa95f8392dbf7c3be34ee9143f89259536ca59963ce3699e072ff", func := "plait/plaitlaw22.SwarFew", spec := "swarFew", unfollowed := true, recurses := true, apart := false, narrowed := true }
def SwarFewUptoSaid : Prop := swarFewUptoRow.holds Try.pinned (OpenSpec.upto swarFewSpec)

/-- 'plaitlaw22.SwarBases', WHERE WHAT IT READS IS OF BULK AT MOST 1048576: true; the input reads as it did. -/
def swarBasesUptoRow : OpenClaim := { program := "ytfdjdnphbakjoaa", sum := "9e5878a029aaa95f8392dbf7c3be34ee9143f89259536ca59963ce3699e072ff", func := "plait/plaitlaw22.SwarBases", spec := "swarBases", unfollowed := true, recurses := true, apart := false, narrowed := true }
def SwarBasesUptoSaid : Prop := swarBasesUptoRow.holds Try.pinned (OpenSpec.upto swarBasesSpec)

end Rows
end Go.Proofs.Ytfdjdnphbakjoaa
