import Derived.Test.YtbplobpobnagkaaGreatDoorEnvS
import Derived.Test.YtbplobpobnagkaaGreatDoorRows
import Derived.Test.YtbplobpobnagkaaGreatDoorCards
import Derived.Test.YtbplobpobnagkaaGreatDoorTie
import Derived.SevenTiedAt
import Derived.MakeChecks
import Derived.Stop.Joined
namespace Go.Proofs.YtbplobpobnagkaaGreatDoor.StoreTableLaw
open Go.Proofs.YtbplobpobnagkaaGreatDoor.Rows
set_option maxRecDepth 1000000
theorem fA{a b:Bool}(h1:a=true)(h2:b=true):(a&&b)=true:=by rw[h1,h2];rfl
theorem k0:(storeTableRow.wf (OpenSpec.ofChange storeTableSpec))=true:=by kernel_rfl
theorem k1:(laidOutB Tryz.prog)=true:=by kernel_rfl
theorem k2:(mapsRowed Tryz.prog)=true:=by kernel_rfl
theorem k3:(Tryz.f3.params.all (Tryz.prog.readableRec ·))=true:=by kernel_rfl
theorem k4:(namedTie Tryz.prog storeTableRow.named storeTableSpec.vars)=true:=by kernel_rfl
theorem k5:((storeTableRow.stops == []))=true:=by kernel_rfl
theorem k6:((Tryz.prog.stops == []))=true:=by kernel_rfl
theorem k7:((storeTableRow.knobs == []))=true:=by kernel_rfl
theorem k8:((Tryz.prog.stopKnobs == []))=true:=by kernel_rfl
theorem k9:((storeTableRow.inPlace == Tryz.prog.inPlace 3))=true:=by kernel_rfl
theorem k10:((storeTableRow.unfollowed == Tryz.prog.unfollowed 3))=true:=by kernel_rfl
theorem k11:((storeTableRow.recurses == Tryz.prog.recurses 3))=true:=by kernel_rfl
theorem k12:((storeTableRow.named == Tryz.prog.varsNamed 3))=true:=by kernel_rfl
theorem k13:((storeTableRow.maps == (Tryz.f3.params.toList++storeTableSpec.plain.varTypes Tryz.prog).any (Tryz.prog.mapsRec ·)))=true:=by kernel_rfl
theorem k14:((storeTableRow.ifaces == (Tryz.f3.params.toList++storeTableSpec.plain.varTypes Tryz.prog).any (Tryz.prog.ifacesRec ·)))=true:=by kernel_rfl
theorem k15:((storeTableRow.mapsOut == Tryz.prog.mapsAmong Tryz.f3.resultTypes.toList))=true:=by kernel_rfl
theorem k16:((storeTableRow.loops == (Tryz.f3.params.toList++storeTableSpec.plain.varTypes Tryz.prog).any (Tryz.prog.loopsFrom ·)))=true:=by kernel_rfl
theorem k17:((storeTableRow.wideKeys == (Tryz.f3.params.toList++storeTableSpec.plain.varTypes Tryz.prog++Tryz.f3.resultTypes.toList).any (Tryz.prog.wideKeysFrom ·)))=true:=by kernel_rfl
theorem k18:(storeTableSpec.vars.all (Tryz.prog.varReadable ·))=true:=by kernel_rfl
theorem k19:(Tryz.f3.resultTypes.all (fun t=>Tryz.prog.readableRec t&&decide (t<Tryz.prog.types.size)))=true:=by kernel_rfl
theorem k20:((storeTableRow.ifacesOut == Tryz.f3.resultTypes.toList.any (Tryz.prog.ifacesRec ·)))=true:=by kernel_rfl
theorem k21:((storeTableRow.loopsOut == Tryz.f3.resultTypes.toList.any (Tryz.prog.loopsFrom ·)))=true:=by kernel_rfl
theorem k22:((storeTableRow.plainKeys == Tryz.prog.plainKeys))=true:=by kernel_rfl
theorem k23:(storeTableRow.shortTexts.isNone)=true:=by kernel_rfl
theorem k24:(Tryz.prog.stopsHeard)=true:=by kernel_rfl
theorem k25:(Tryz.prog.mayEnter)=true:=by kernel_rfl
theorem k26:((storeTableRow.lifted == Tryz.prog.liftsFinal))=true:=by kernel_rfl
theorem k27:((Tryz.prog.make == some storeTableRow.make))=true:=by kernel_rfl
theorem k28:((storeTableRow.kinds == (if storeTableRow.domain.isEmpty then []else Tryz.f3.params.toList.map fun t=>match Tryz.prog.underlying t with|some (.int k)=>some k| _=>none)))=true:=by kernel_rfl
theorem k29:((storeTableRow.pinned == storeTableRow.pinnedBy))=true:=by kernel_rfl
theorem k30:((storeTableRow.veiled == (Tryz.f3.params.toList++storeTableSpec.plain.varTypes Tryz.prog++Tryz.f3.resultTypes.toList).any (Tryz.prog.veiledRec ·)))=true:=by kernel_rfl
theorem k31:(storeTableRow.veiledFits Tryz.prog Tryz.f3.params.toList (Tryz.f3.params.toList++storeTableSpec.plain.varTypes Tryz.prog++Tryz.f3.resultTypes.toList))=true:=by kernel_rfl
theorem closed:joinedFacts Tryz.prog 3 Tryz.f3 storeTableSpec storeTableRow=true:=by
 unfold joinedFacts
 exact(fA (fA (fA (fA (fA (fA (fA (fA (fA (fA (fA (fA (fA (fA (fA (fA (fA (fA (fA (fA (fA (fA (fA (fA (fA (fA (fA (fA (fA (fA (fA k0 k1) k2) k3) k4) k5) k6) k7) k8) k9) k10) k11) k12) k13) k14) k15) k16) k17) k18) k19) k20) k21) k22) k23) k24) k25) k26) k27) k28) k29) k30) k31)
end Go.Proofs.YtbplobpobnagkaaGreatDoor.StoreTableLaw
