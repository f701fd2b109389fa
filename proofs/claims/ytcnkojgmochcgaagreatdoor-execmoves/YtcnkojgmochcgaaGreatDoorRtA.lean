import Derived.Test.YtcnkojgmochcgaaGreatDoorEnvQ
import Derived.Test.YtcnkojgmochcgaaGreatDoorRows
import Derived.Test.YtcnkojgmochcgaaGreatDoorCards
import Derived.Test.YtcnkojgmochcgaaGreatDoorTie
import Derived.SevenTiedAt
import Derived.MakeChecks
import Derived.Stop.Joined
namespace Go.Proofs.YtcnkojgmochcgaaGreatDoor.ExecMovesLaw
open Go.Proofs.YtcnkojgmochcgaaGreatDoor.Rows
set_option maxRecDepth 1000000
theorem dw{a b:Bool}(h1:a=true)(h2:b=true):(a&&b)=true:=by rw[h1,h2];rfl
theorem k0:(execMovesRow.wf (OpenSpec.ofChange execMovesSpec))=true:=by kernel_rfl
theorem k1:(laidOutB Tryz.prog)=true:=by kernel_rfl
theorem k2:(mapsRowed Tryz.prog)=true:=by kernel_rfl
theorem k3:(Tryz.f4.params.all (Tryz.prog.readableRec ·))=true:=by kernel_rfl
theorem k4:(namedTie Tryz.prog execMovesRow.named execMovesSpec.vars)=true:=by kernel_rfl
theorem k5:((execMovesRow.stops == []))=true:=by kernel_rfl
theorem k6:((Tryz.prog.stops == []))=true:=by kernel_rfl
theorem k7:((execMovesRow.knobs == []))=true:=by kernel_rfl
theorem k8:((Tryz.prog.stopKnobs == []))=true:=by kernel_rfl
theorem k9:((execMovesRow.inPlace == Tryz.prog.inPlace 4))=true:=by kernel_rfl
theorem k10:((execMovesRow.unfollowed == Tryz.prog.unfollowed 4))=true:=by kernel_rfl
theorem LY:((execMovesRow.recurses == Tryz.prog.recurses 4))=true:=by kernel_rfl
theorem YO:((execMovesRow.named == Tryz.prog.varsNamed 4))=true:=by kernel_rfl
theorem YP:((execMovesRow.maps == (Tryz.f4.params.toList++execMovesSpec.plain.varTypes Tryz.prog).any (Tryz.prog.mapsRec ·)))=true:=by kernel_rfl
theorem GU:((execMovesRow.ifaces == (Tryz.f4.params.toList++execMovesSpec.plain.varTypes Tryz.prog).any (Tryz.prog.ifacesRec ·)))=true:=by kernel_rfl
theorem k15:((execMovesRow.mapsOut == Tryz.prog.mapsAmong Tryz.f4.resultTypes.toList))=true:=by kernel_rfl
theorem GS:((execMovesRow.loops == (Tryz.f4.params.toList++execMovesSpec.plain.varTypes Tryz.prog).any (Tryz.prog.loopsFrom ·)))=true:=by kernel_rfl
theorem k17:((execMovesRow.wideKeys == (Tryz.f4.params.toList++execMovesSpec.plain.varTypes Tryz.prog++Tryz.f4.resultTypes.toList).any (Tryz.prog.wideKeysFrom ·)))=true:=by kernel_rfl
theorem k18:(execMovesSpec.vars.all (Tryz.prog.varReadable ·))=true:=by kernel_rfl
theorem k19:(Tryz.f4.resultTypes.all (fun t=>Tryz.prog.readableRec t&&decide (t<Tryz.prog.types.size)))=true:=by kernel_rfl
theorem k20:((execMovesRow.ifacesOut == Tryz.f4.resultTypes.toList.any (Tryz.prog.ifacesRec ·)))=true:=by kernel_rfl
theorem k21:((execMovesRow.loopsOut == Tryz.f4.resultTypes.toList.any (Tryz.prog.loopsFrom ·)))=true:=by kernel_rfl
theorem QZ:((execMovesRow.plainKeys == Tryz.prog.plainKeys))=true:=by kernel_rfl
theorem Xy:(execMovesRow.shortTexts.isNone)=true:=by kernel_rfl
theorem k24:(Tryz.prog.stopsHeard)=true:=by kernel_rfl
theorem XA:(Tryz.prog.mayEnter)=true:=by kernel_rfl
theorem k26:((execMovesRow.lifted == Tryz.prog.liftsFinal))=true:=by kernel_rfl
theorem k27:((Tryz.prog.make == some execMovesRow.make))=true:=by kernel_rfl
theorem k28:((execMovesRow.kinds == (if execMovesRow.domain.isEmpty then []else Tryz.f4.params.toList.map fun t=>match Tryz.prog.underlying t with|some (.int k)=>some k| _=>none)))=true:=by kernel_rfl
theorem k29:((execMovesRow.pinned == execMovesRow.pinnedBy))=true:=by kernel_rfl
theorem k30:((execMovesRow.veiled == (Tryz.f4.params.toList++execMovesSpec.plain.varTypes Tryz.prog++Tryz.f4.resultTypes.toList).any (Tryz.prog.veiledRec ·)))=true:=by kernel_rfl
theorem k31:(execMovesRow.veiledFits Tryz.prog Tryz.f4.params.toList (Tryz.f4.params.toList++execMovesSpec.plain.varTypes Tryz.prog++Tryz.f4.resultTypes.toList))=true:=by kernel_rfl
theorem closed:joinedFacts Tryz.prog 4 Tryz.f4 execMovesSpec execMovesRow=true:=by
 unfold joinedFacts
 exact(dw (dw (dw (dw (dw (dw (dw (dw (dw (dw (dw (dw (dw (dw (dw (dw (dw (dw (dw (dw (dw (dw (dw (dw (dw (dw (dw (dw (dw (dw (dw k0 k1) k2) k3) k4) k5) k6) k7) k8) k9) k10) LY) YO) YP) GU) k15) GS) k17) k18) k19) k20) k21) QZ) Xy) k24) XA) k26) k27) k28) k29) k30) k31)
end Go.Proofs.YtcnkojgmochcgaaGreatDoor.ExecMovesLaw
