import Derived.Test.YtbplobpobnagkaaGreatDoorEnvS
import Derived.Test.YtbplobpobnagkaaGreatDoorRows
import Derived.Test.YtbplobpobnagkaaGreatDoorCards
import Derived.Test.YtbplobpobnagkaaGreatDoorTie
import Derived.SevenTiedAt
import Derived.MakeChecks
import Derived.Stop.Joined
namespace Go.Proofs.YtbplobpobnagkaaGreatDoor.StoreLaidLaw
open Go.Proofs.YtbplobpobnagkaaGreatDoor.Rows
set_option maxRecDepth 1000000
theorem c1:storeLaidUptoRow.wfByText (OpenSpec.upto storeLaidSpec)=true:=by kernel_rfl
theorem c2:Tryz.pinned.checked.prog.mainIs=some (true,"9b6564bd28683b7fa07f1fddbc14fa365c98ac89f3a163b13a645ade08acb871".toList):=by kernel_rfl
theorem c3:false=Tryz.prog.looks []:=by kernel_rfl
theorem c4:([22].all fun u=> !Tryz.prog.wantsStandIn u)=true:=by kernel_rfl
theorem c5:Tryz.prog.funcNamed "plait/plaitlaw17.StoreLaid" =some 4:=by kernel_rfl
end Go.Proofs.YtbplobpobnagkaaGreatDoor.StoreLaidLaw
