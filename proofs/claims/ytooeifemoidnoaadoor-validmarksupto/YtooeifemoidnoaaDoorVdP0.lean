import Derived.Test.YtooeifemoidnoaaDoorEnvD
import Derived.WalkKit
import Derived.Lib.Walk
import Derived.Lib.SliceRun
noncomputable section
namespace Go.Proofs
open Go.RowKit Go.Lib
set_option maxRecDepth 100000
set_option maxHeartbeats 400000 in
theorem Tryd.clone0(ad:Addr)(c:Nat)(w:World):
 Calls Tryd.prog 63 #[.slice (some ad) 0 c] w fun e w'=> ∃ a,e=.returned (.slice a 0 0)/\Below w.heap.size w w':=by
 have u24:=Tryd.underlying24
 have mixed:=Tryd.mixed
 have q22: ∀ (w:World) (a:Option Addr) (n c n2 c2:Nat),(binOp .eql 24 (.slice a n c) (.slice none n2 c2)).run Tryd.prog w=.ok (.bool a.isNone) w:=fun w a n c n2 c2=>Lib.run_eql_slice_nil w _ _ a n c n2 c2 u24
 go_enter Tryd.func63,Tryd.ntmps63
 go_wp2
 go_ret
 exact⟨_,rfl,(Below.refl _ w).alloc (Nat.le_refl _) _⟩
set_option maxHeartbeats 400000 in
theorem Tryd.clone1(c:Nat)(w:World):
 Calls Tryd.prog 63 #[.slice none 0 c] w fun e w'=> ∃ a,e=.returned (.slice a 0 0)/\Below w.heap.size w w':=by
 have u24:=Tryd.underlying24
 have mixed:=Tryd.mixed
 have q22: ∀ (w:World) (a:Option Addr) (n c n2 c2:Nat),(binOp .eql 24 (.slice a n c) (.slice none n2 c2)).run Tryd.prog w=.ok (.bool a.isNone) w:=fun w a n c n2 c2=>Lib.run_eql_slice_nil w _ _ a n c n2 c2 u24
 go_enter Tryd.func63,Tryd.ntmps63
 go_wp2
 go_ret
 exact⟨_,rfl,Below.refl _ w⟩
#print axioms Tryd.clone0
#print axioms Tryd.clone1
end Go.Proofs
