import Derived.Test.YtcnkojgmochcgaaGreatDoorEnvQ
import Derived.Test.YtcnkojgmochcgaaGreatDoorRows
import Derived.Test.YtcnkojgmochcgaaGreatDoorCards
import Derived.Test.YtcnkojgmochcgaaGreatDoorTie
import Derived.SevenTiedAt
import Derived.MakeChecks
import Derived.Stop.Joined
namespace Go.Proofs.YtcnkojgmochcgaaGreatDoor.ExecStepsLaw
open Go.Proofs.YtcnkojgmochcgaaGreatDoor.Rows
set_option maxRecDepth 1000000
theorem dz{a b:Bool}(h1:a=true)(h2:b=true):(a&&b)=true:=by rw[h1,h2];rfl
theorem k0:(execStepsRow.wf (OpenSpec.ofChange execStepsSpec))=true:=by kernel_rfl
theorem k1:(laidOutB Tryz.prog)=true:=by kernel_rfl
theorem k2:(mapsRowed Tryz.prog)=true:=by kernel_rfl
theorem k3:(Tryz.f3.params.all (Tryz.prog.readableRec ·))=true:=by kernel_rfl
theorem k4:(namedTie Tryz.prog execStepsRow.named execStepsSpec.vars)=true:=by kernel_rfl
theorem k5:((execStepsRow.stops == []))=true:=by kernel_rfl
theorem k6:((Tryz.prog.stops == []))=true:=by kernel_rfl
theorem k7:((execStepsRow.knobs == []))=true:=by kernel_rfl
theorem k8:((Tryz.prog.stopKnobs == []))=true:=by kernel_rfl
theorem k9:((execStepsRow.inPlace == Tryz.prog.inPlace 3))=true:=by kernel_rfl
theorem k10:((execStepsRow.unfollowed == Tryz.prog.unfollowed 3))=true:=by kernel_rfl
theorem yN:((execStepsRow.recurses == Tryz.prog.recurses 3))=true:=by kernel_rfl
theorem wU:((execStepsRow.named == Tryz.prog.varsNamed 3))=true:=by kernel_rfl
theorem wV:((execStepsRow.maps == (Tryz.f3.params.toList++execStepsSpec.plain.varTypes Tryz.prog).any (Tryz.prog.mapsRec ·)))=true:=by kernel_rfl
theorem PX:((execStepsRow.ifaces == (Tryz.f3.params.toList++execStepsSpec.plain.varTypes Tryz.prog).any (Tryz.prog.ifacesRec ·)))=true:=by kernel_rfl
theorem k15:((execStepsRow.mapsOut == Tryz.prog.mapsAmong Tryz.f3.resultTypes.toList))=true:=by kernel_rfl
theorem CC:((execStepsRow.loops == (Tryz.f3.params.toList++execStepsSpec.plain.varTypes Tryz.prog).any (Tryz.prog.loopsFrom ·)))=true:=by kernel_rfl
theorem k17:((execStepsRow.wideKeys == (Tryz.f3.params.toList++execStepsSpec.plain.varTypes Tryz.prog++Tryz.f3.resultTypes.toList).any (Tryz.prog.wideKeysFrom ·)))=true:=by kernel_rfl
theorem k18:(execStepsSpec.vars.all (Tryz.prog.varReadable ·))=true:=by kernel_rfl
theorem k19:(Tryz.f3.resultTypes.all (fun t=>Tryz.prog.readableRec t&&decide (t<Tryz.prog.types.size)))=true:=by kernel_rfl
theorem k20:((execStepsRow.ifacesOut == Tryz.f3.resultTypes.toList.any (Tryz.prog.ifacesRec ·)))=true:=by kernel_rfl
theorem k21:((execStepsRow.loopsOut == Tryz.f3.resultTypes.toList.any (Tryz.prog.loopsFrom ·)))=true:=by kernel_rfl
theorem QN:((execStepsRow.plainKeys == Tryz.prog.plainKeys))=true:=by kernel_rfl
theorem Xd:(execStepsRow.shortTexts.isNone)=true:=by kernel_rfl
theorem k24:(Tryz.prog.stopsHeard)=true:=by kernel_rfl
theorem Xf:(Tryz.prog.mayEnter)=true:=by kernel_rfl
theorem k26:((execStepsRow.lifted == Tryz.prog.liftsFinal))=true:=by kernel_rfl
theorem k27:((Tryz.prog.make == some execStepsRow.make))=true:=by kernel_rfl
theorem k28:((execStepsRow.kinds == (if execStepsRow.domain.isEmpty then []else Tryz.f3.params.toList.map fun t=>match Tryz.prog.underlying t with|some (.int k)=>some k| _=>none)))=true:=by kernel_rfl
theorem k29:((execStepsRow.pinned == execStepsRow.pinnedBy))=true:=by kernel_rfl
theorem k30:((execStepsRow.veiled == (Tryz.f3.params.toList++execStepsSpec.plain.varTypes Tryz.prog++Tryz.f3.resultTypes.toList).any (Tryz.prog.veiledRec ·)))=true:=by kernel_rfl
theorem k31:(execStepsRow.veiledFits Tryz.prog Tryz.f3.params.toList (Tryz.f3.params.toList++execStepsSpec.plain.varTypes Tryz.prog++Tryz.f3.resultTypes.toList))=true:=by kernel_rfl
theorem closed:joinedFacts Tryz.prog 3 Tryz.f3 execStepsSpec execStepsRow=true:=by
 unfold joinedFacts
 exact(dz (dz (dz (dz (dz (dz (dz (dz (dz (dz (dz (dz (dz (dz (dz (dz (dz (dz (dz (dz (dz (dz (dz (dz (dz (dz (dz (dz (dz (dz (dz k0 k1) k2) k3) k4) k5) k6) k7) k8) k9) k10) yN) wU) wV) PX) k15) CC) k17) k18) k19) k20) k21) QN) Xd) k24) Xf) k26) k27) k28) k29) k30) k31)
end Go.Proofs.YtcnkojgmochcgaaGreatDoor.ExecStepsLaw
