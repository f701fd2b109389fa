import Derived.Test.YtjeanplhkkpdmaaGreatDoorEnvI
import Derived.Test.YtjeanplhkkpdmaaGreatDoorRows
import Derived.Test.YtjeanplhkkpdmaaGreatDoorCards
import Derived.Test.YtjeanplhkkpdmaaGreatDoorTie
import Derived.SevenTiedAt
import Derived.MakeChecks
import Derived.Stop.Joined
namespace Go.Proofs.YtjeanplhkkpdmaaGreatDoor.InterpVectorsLaw
open Go.Proofs.YtjeanplhkkpdmaaGreatDoor.Rows
set_option maxRecDepth 1000000
theorem c1:interpVectorsRow.wfByText (OpenSpec.ofChange interpVectorsSpec)=true:=by kernel_rfl
theorem c2:Tryz.pinned.checked.prog.mainIs=some (true,"1f6ee752934f7cec237e9218cc724cbcdf4eaad030786f8f19a2cd58b53a571f".toList):=by kernel_rfl
theorem c3:false=Tryz.prog.looks []:=by kernel_rfl
theorem c4:([25,26].all fun u=> !Tryz.prog.wantsStandIn u)=true:=by kernel_rfl
theorem c5:Tryz.prog.funcNamed "plait/plaitlaw18.InterpVectors" =some 3:=by kernel_rfl
end Go.Proofs.YtjeanplhkkpdmaaGreatDoor.InterpVectorsLaw
