import Derived.Test.YtcnkojgmochcgaaGreatDoorEnvQ
import Derived.Test.YtcnkojgmochcgaaGreatDoorRows
import Derived.Test.YtcnkojgmochcgaaGreatDoorCards
import Derived.Test.YtcnkojgmochcgaaGreatDoorTie
import Derived.SevenTiedAt
import Derived.MakeChecks
import Derived.Stop.Joined
namespace Go.Proofs.YtcnkojgmochcgaaGreatDoor.SwarMachineLaw
open Go.Proofs.YtcnkojgmochcgaaGreatDoor.Rows
set_option maxRecDepth 1000000
theorem oW{a b:Bool}(h1:a=true)(h2:b=true):(a&&b)=true:=by rw[h1,h2];rfl
theorem k0:(swarMachineRow.wf (OpenSpec.ofChange swarMachineSpec))=true:=by kernel_rfl
theorem k1:(laidOutB Tryz.prog)=true:=by kernel_rfl
theorem k2:(mapsRowed Tryz.prog)=true:=by kernel_rfl
theorem k3:(Tryz.f9.params.all (Tryz.prog.readableRec ·))=true:=by kernel_rfl
theorem k4:(namedTie Tryz.prog swarMachineRow.named swarMachineSpec.vars)=true:=by kernel_rfl
theorem k5:((swarMachineRow.stops == []))=true:=by kernel_rfl
theorem k6:((Tryz.prog.stops == []))=true:=by kernel_rfl
theorem k7:((swarMachineRow.knobs == []))=true:=by kernel_rfl
theorem k8:((Tryz.prog.stopKnobs == []))=true:=by kernel_rfl
theorem k9:((swarMachineRow.inPlace == Tryz.prog.inPlace 9))=true:=by kernel_rfl
theorem k10:((swarMachineRow.unfollowed == Tryz.prog.unfollowed 9))=true:=by kernel_rfl
theorem xz:((swarMachineRow.recurses == Tryz.prog.recurses 9))=true:=by kernel_rfl
theorem G2:((swarMachineRow.named == Tryz.prog.varsNamed 9))=true:=by kernel_rfl
theorem VV:((swarMachineRow.maps == (Tryz.f9.params.toList++swarMachineSpec.plain.varTypes Tryz.prog).any (Tryz.prog.mapsRec ·)))=true:=by kernel_rfl
theorem k14:((swarMachineRow.ifaces == (Tryz.f9.params.toList++swarMachineSpec.plain.varTypes Tryz.prog).any (Tryz.prog.ifacesRec ·)))=true:=by kernel_rfl
theorem k15:((swarMachineRow.mapsOut == Tryz.prog.mapsAmong Tryz.f9.resultTypes.toList))=true:=by kernel_rfl
theorem k16:((swarMachineRow.loops == (Tryz.f9.params.toList++swarMachineSpec.plain.varTypes Tryz.prog).any (Tryz.prog.loopsFrom ·)))=true:=by kernel_rfl
theorem k17:((swarMachineRow.wideKeys == (Tryz.f9.params.toList++swarMachineSpec.plain.varTypes Tryz.prog++Tryz.f9.resultTypes.toList).any (Tryz.prog.wideKeysFrom ·)))=true:=by kernel_rfl
theorem k18:(swarMachineSpec.vars.all (Tryz.prog.varReadable ·))=true:=by kernel_rfl
theorem k19:(Tryz.f9.resultTypes.all (fun t=>Tryz.prog.readableRec t&&decide (t<Tryz.prog.types.size)))=true:=by kernel_rfl
theorem k20:((swarMachineRow.ifacesOut == Tryz.f9.resultTypes.toList.any (Tryz.prog.ifacesRec ·)))=true:=by kernel_rfl
theorem k21:((swarMachineRow.loopsOut == Tryz.f9.resultTypes.toList.any (Tryz.prog.loopsFrom ·)))=true:=by kernel_rfl
theorem k22:((swarMachineRow.plainKeys == Tryz.prog.plainKeys))=true:=by kernel_rfl
theorem k23:(swarMachineRow.shortTexts.isNone)=true:=by kernel_rfl
theorem k24:(Tryz.prog.stopsHeard)=true:=by kernel_rfl
theorem k25:(Tryz.prog.mayEnter)=true:=by kernel_rfl
theorem k26:((swarMachineRow.lifted == Tryz.prog.liftsFinal))=true:=by kernel_rfl
theorem k27:((Tryz.prog.make == some swarMachineRow.make))=true:=by kernel_rfl
theorem k28:((swarMachineRow.kinds == (if swarMachineRow.domain.isEmpty then []else Tryz.f9.params.toList.map fun t=>match Tryz.prog.underlying t with|some (.int k)=>some k| _=>none)))=true:=by kernel_rfl
theorem k29:((swarMachineRow.pinned == swarMachineRow.pinnedBy))=true:=by kernel_rfl
theorem k30:((swarMachineRow.veiled == (Tryz.f9.params.toList++swarMachineSpec.plain.varTypes Tryz.prog++Tryz.f9.resultTypes.toList).any (Tryz.prog.veiledRec ·)))=true:=by kernel_rfl
theorem k31:(swarMachineRow.veiledFits Tryz.prog Tryz.f9.params.toList (Tryz.f9.params.toList++swarMachineSpec.plain.varTypes Tryz.prog++Tryz.f9.resultTypes.toList))=true:=by kernel_rfl
theorem closed:joinedFacts Tryz.prog 9 Tryz.f9 swarMachineSpec swarMachineRow=true:=by
 unfold joinedFacts
 exact(oW (oW (oW (oW (oW (oW (oW (oW (oW (oW (oW (oW (oW (oW (oW (oW (oW (oW (oW (oW (oW (oW (oW (oW (oW (oW (oW (oW (oW (oW (oW k0 k1) k2) k3) k4) k5) k6) k7) k8) k9) k10) xz) G2) VV) k14) k15) k16) k17) k18) k19) k20) k21) k22) k23) k24) k25) k26) k27) k28) k29) k30) k31)
end Go.Proofs.YtcnkojgmochcgaaGreatDoor.SwarMachineLaw
