import Derived.Test.YtbplobpobnagkaaGreatDoorEnvS
import Derived.Test.YtbplobpobnagkaaGreatDoorRows
import Derived.Test.YtbplobpobnagkaaGreatDoorCards
import Derived.Test.YtbplobpobnagkaaGreatDoorTie
import Derived.SevenTiedAt
import Derived.MakeChecks
import Derived.Stop.Joined
namespace Go.Proofs.YtbplobpobnagkaaGreatDoor.StoreLaidLaw
open Go.Proofs.YtbplobpobnagkaaGreatDoor.Rows
set_option maxRecDepth 1000000
theorem c6:false=storeLaidUptoRow.goesBy Tryz.prog:=by kernel_rfl
end Go.Proofs.YtbplobpobnagkaaGreatDoor.StoreLaidLaw
