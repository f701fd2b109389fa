import Derived.Test.YtcnkojgmochcgaaGreatDoorEnvQ
import Derived.Test.YtcnkojgmochcgaaGreatDoorRows
import Derived.Test.YtcnkojgmochcgaaGreatDoorCards
import Derived.Test.YtcnkojgmochcgaaGreatDoorTie
import Derived.SevenTiedAt
import Derived.MakeChecks
import Derived.Stop.Joined
namespace Go.Proofs.YtcnkojgmochcgaaGreatDoor.SwarMachineLaw
open Go.Proofs.YtcnkojgmochcgaaGreatDoor.Rows
set_option maxRecDepth 1000000
theorem c6:false=swarMachineRow.goesBy Tryz.prog:=by kernel_rfl
end Go.Proofs.YtcnkojgmochcgaaGreatDoor.SwarMachineLaw
