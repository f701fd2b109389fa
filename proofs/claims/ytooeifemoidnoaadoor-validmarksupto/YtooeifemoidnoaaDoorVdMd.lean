
noncomputable section
namespace Go.Proofs
abbrev Nx:=ByteArray×Int×Int
def memB(s:ByteArray)(ns:List ByteArray):Bool:= @decide (s∈ns) (Classical.propDecidable _)
theorem memB_eq{s:ByteArray}{ns:List ByteArray}{c:Int}(h:0<c↔s∈ns):memB s ns=decide (0<c):=by
 unfold memB
 by_cases e:0<c
 ·rw[decide_eq_true e];exact @decide_eq_true _ (Classical.propDecidable _) (h.1 e)
 ·rw[decide_eq_false e];exact @decide_eq_false _ (Classical.propDecidable _) (fun q=>e (h.2 q))
def nmOk(cs:List Int)(xs:List Nx)(k:Nat):Bool:= !(memB (xs.getD k (ByteArray.empty,0,0)).1 ((xs.take k).map Prod.fst))&& !decide (cs.getD (xs.getD k (ByteArray.empty,0,0)).2.1.toNat 0<=(xs.getD k (ByteArray.empty,0,0)).2.2)
def nmAll(cs:List Int)(xs:List Nx):Bool:=(List.range xs.length).all (nmOk cs xs)
end Go.Proofs
