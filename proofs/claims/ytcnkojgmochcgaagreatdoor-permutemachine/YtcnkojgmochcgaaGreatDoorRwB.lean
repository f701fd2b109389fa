import Derived.Test.YtcnkojgmochcgaaGreatDoorEnvQ
import Derived.Test.YtcnkojgmochcgaaGreatDoorRows
import Derived.Test.YtcnkojgmochcgaaGreatDoorCards
import Derived.Test.YtcnkojgmochcgaaGreatDoorTie
import Derived.SevenTiedAt
import Derived.MakeChecks
import Derived.Stop.Joined
namespace Go.Proofs.YtcnkojgmochcgaaGreatDoor.PermuteMachineLaw
open Go.Proofs.YtcnkojgmochcgaaGreatDoor.Rows
set_option maxRecDepth 1000000
theorem c1:permuteMachineRow.wfByText (OpenSpec.ofChange permuteMachineSpec)=true:=by kernel_rfl
theorem c2:Tryz.pinned.checked.prog.mainIs=some (true,"3e6d6a84e5d95fbf1a8ed5bf290f374ca0faa95fd8534a7cee7c521ba30e73dc".toList):=by kernel_rfl
theorem c3:false=Tryz.prog.looks []:=by kernel_rfl
theorem c4:([100,101].all fun u=> !Tryz.prog.wantsStandIn u)=true:=by kernel_rfl
theorem c5:Tryz.prog.funcNamed "plait/plaitlaw23.PermuteMachine" =some 8:=by kernel_rfl
end Go.Proofs.YtcnkojgmochcgaaGreatDoor.PermuteMachineLaw
