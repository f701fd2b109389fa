import Derived.Test.YtcnkojgmochcgaaGreatDoorEnvQ
import Derived.Test.YtcnkojgmochcgaaGreatDoorRows
import Derived.Test.YtcnkojgmochcgaaGreatDoorCards
import Derived.Test.YtcnkojgmochcgaaGreatDoorTie
import Derived.SevenTiedAt
import Derived.MakeChecks
import Derived.Stop.Joined
namespace Go.Proofs.YtcnkojgmochcgaaGreatDoor.PermuteMachineLaw
open Go.Proofs.YtcnkojgmochcgaaGreatDoor.Rows
set_option maxRecDepth 1000000
theorem oz{a b:Bool}(h1:a=true)(h2:b=true):(a&&b)=true:=by rw[h1,h2];rfl
theorem k0:(permuteMachineRow.wf (OpenSpec.ofChange permuteMachineSpec))=true:=by kernel_rfl
theorem k1:(laidOutB Tryz.prog)=true:=by kernel_rfl
theorem k2:(mapsRowed Tryz.prog)=true:=by kernel_rfl
theorem k3:(Tryz.f8.params.all (Tryz.prog.readableRec ·))=true:=by kernel_rfl
theorem k4:(namedTie Tryz.prog permuteMachineRow.named permuteMachineSpec.vars)=true:=by kernel_rfl
theorem k5:((permuteMachineRow.stops == []))=true:=by kernel_rfl
theorem k6:((Tryz.prog.stops == []))=true:=by kernel_rfl
theorem k7:((permuteMachineRow.knobs == []))=true:=by kernel_rfl
theorem k8:((Tryz.prog.stopKnobs == []))=true:=by kernel_rfl
theorem k9:((permuteMachineRow.inPlace == Tryz.prog.inPlace 8))=true:=by kernel_rfl
theorem k10:((permuteMachineRow.unfollowed == Tryz.prog.unfollowed 8))=true:=by kernel_rfl
theorem wP:((permuteMachineRow.recurses == Tryz.prog.recurses 8))=true:=by kernel_rfl
theorem F':((permuteMachineRow.named == Tryz.prog.varsNamed 8))=true:=by kernel_rfl
theorem Xe:((permuteMachineRow.maps == (Tryz.f8.params.toList++permuteMachineSpec.plain.varTypes Tryz.prog).any (Tryz.prog.mapsRec ·)))=true:=by kernel_rfl
theorem k14:((permuteMachineRow.ifaces == (Tryz.f8.params.toList++permuteMachineSpec.plain.varTypes Tryz.prog).any (Tryz.prog.ifacesRec ·)))=true:=by kernel_rfl
theorem k15:((permuteMachineRow.mapsOut == Tryz.prog.mapsAmong Tryz.f8.resultTypes.toList))=true:=by kernel_rfl
theorem k16:((permuteMachineRow.loops == (Tryz.f8.params.toList++permuteMachineSpec.plain.varTypes Tryz.prog).any (Tryz.prog.loopsFrom ·)))=true:=by kernel_rfl
theorem k17:((permuteMachineRow.wideKeys == (Tryz.f8.params.toList++permuteMachineSpec.plain.varTypes Tryz.prog++Tryz.f8.resultTypes.toList).any (Tryz.prog.wideKeysFrom ·)))=true:=by kernel_rfl
theorem k18:(permuteMachineSpec.vars.all (Tryz.prog.varReadable ·))=true:=by kernel_rfl
theorem k19:(Tryz.f8.resultTypes.all (fun t=>Tryz.prog.readableRec t&&decide (t<Tryz.prog.types.size)))=true:=by kernel_rfl
theorem k20:((permuteMachineRow.ifacesOut == Tryz.f8.resultTypes.toList.any (Tryz.prog.ifacesRec ·)))=true:=by kernel_rfl
theorem k21:((permuteMachineRow.loopsOut == Tryz.f8.resultTypes.toList.any (Tryz.prog.loopsFrom ·)))=true:=by kernel_rfl
theorem k22:((permuteMachineRow.plainKeys == Tryz.prog.plainKeys))=true:=by kernel_rfl
theorem k23:(permuteMachineRow.shortTexts.isNone)=true:=by kernel_rfl
theorem k24:(Tryz.prog.stopsHeard)=true:=by kernel_rfl
theorem k25:(Tryz.prog.mayEnter)=true:=by kernel_rfl
theorem k26:((permuteMachineRow.lifted == Tryz.prog.liftsFinal))=true:=by kernel_rfl
theorem k27:((Tryz.prog.make == some permuteMachineRow.make))=true:=by kernel_rfl
theorem k28:((permuteMachineRow.kinds == (if permuteMachineRow.domain.isEmpty then []else Tryz.f8.params.toList.map fun t=>match Tryz.prog.underlying t with|some (.int k)=>some k| _=>none)))=true:=by kernel_rfl
theorem k29:((permuteMachineRow.pinned == permuteMachineRow.pinnedBy))=true:=by kernel_rfl
theorem k30:((permuteMachineRow.veiled == (Tryz.f8.params.toList++permuteMachineSpec.plain.varTypes Tryz.prog++Tryz.f8.resultTypes.toList).any (Tryz.prog.veiledRec ·)))=true:=by kernel_rfl
theorem k31:(permuteMachineRow.veiledFits Tryz.prog Tryz.f8.params.toList (Tryz.f8.params.toList++permuteMachineSpec.plain.varTypes Tryz.prog++Tryz.f8.resultTypes.toList))=true:=by kernel_rfl
theorem closed:joinedFacts Tryz.prog 8 Tryz.f8 permuteMachineSpec permuteMachineRow=true:=by
 unfold joinedFacts
 exact(oz (oz (oz (oz (oz (oz (oz (oz (oz (oz (oz (oz (oz (oz (oz (oz (oz (oz (oz (oz (oz (oz (oz (oz (oz (oz (oz (oz (oz (oz (oz k0 k1) k2) k3) k4) k5) k6) k7) k8) k9) k10) wP) F') Xe) k14) k15) k16) k17) k18) k19) k20) k21) k22) k23) k24) k25) k26) k27) k28) k29) k30) k31)
end Go.Proofs.YtcnkojgmochcgaaGreatDoor.PermuteMachineLaw
