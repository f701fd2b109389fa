import Derived.Test.YtcnkojgmochcgaaGreatDoorEnvQ
import Derived.Test.YtcnkojgmochcgaaGreatDoorRows
import Derived.Test.YtcnkojgmochcgaaGreatDoorCards
import Derived.Test.YtcnkojgmochcgaaGreatDoorTie
import Derived.SevenTiedAt
import Derived.MakeChecks
import Derived.Stop.Joined
namespace Go.Proofs.YtcnkojgmochcgaaGreatDoor.ExecHeightsLaw
open Go.Proofs.YtcnkojgmochcgaaGreatDoor.Rows
set_option maxRecDepth 1000000
theorem eX{a b:Bool}(h1:a=true)(h2:b=true):(a&&b)=true:=by rw[h1,h2];rfl
theorem k0:(execHeightsUptoRow.wf (OpenSpec.ofChange (OpenSpec.upto execHeightsSpec).bare))=true:=by kernel_rfl
theorem k1:(laidOutB Tryz.prog)=true:=by kernel_rfl
theorem k2:(mapsRowed Tryz.prog)=true:=by kernel_rfl
theorem k3:(Tryz.f7.params.all (Tryz.prog.readableRec ·))=true:=by kernel_rfl
theorem k4:(namedTie Tryz.prog execHeightsUptoRow.named (OpenSpec.upto execHeightsSpec).bare.vars)=true:=by kernel_rfl
theorem k5:((execHeightsUptoRow.stops == []))=true:=by kernel_rfl
theorem k6:((Tryz.prog.stops == []))=true:=by kernel_rfl
theorem k7:((execHeightsUptoRow.knobs == []))=true:=by kernel_rfl
theorem k8:((Tryz.prog.stopKnobs == []))=true:=by kernel_rfl
theorem k9:((execHeightsUptoRow.inPlace == Tryz.prog.inPlace 7))=true:=by kernel_rfl
theorem k10:((execHeightsUptoRow.unfollowed == Tryz.prog.unfollowed 7))=true:=by kernel_rfl
theorem CV:((execHeightsUptoRow.recurses == Tryz.prog.recurses 7))=true:=by kernel_rfl
theorem Ui:((execHeightsUptoRow.named == Tryz.prog.varsNamed 7))=true:=by kernel_rfl
theorem Up:((execHeightsUptoRow.maps == (Tryz.f7.params.toList++(OpenSpec.upto execHeightsSpec).bare.plain.varTypes Tryz.prog).any (Tryz.prog.mapsRec ·)))=true:=by kernel_rfl
theorem k14:((execHeightsUptoRow.ifaces == (Tryz.f7.params.toList++(OpenSpec.upto execHeightsSpec).bare.plain.varTypes Tryz.prog).any (Tryz.prog.ifacesRec ·)))=true:=by kernel_rfl
theorem k15:((execHeightsUptoRow.mapsOut == Tryz.prog.mapsAmong Tryz.f7.resultTypes.toList))=true:=by kernel_rfl
theorem k16:((execHeightsUptoRow.loops == (Tryz.f7.params.toList++(OpenSpec.upto execHeightsSpec).bare.plain.varTypes Tryz.prog).any (Tryz.prog.loopsFrom ·)))=true:=by kernel_rfl
theorem k17:((execHeightsUptoRow.wideKeys == (Tryz.f7.params.toList++(OpenSpec.upto execHeightsSpec).bare.plain.varTypes Tryz.prog++Tryz.f7.resultTypes.toList).any (Tryz.prog.wideKeysFrom ·)))=true:=by kernel_rfl
theorem k18:((OpenSpec.upto execHeightsSpec).bare.vars.all (Tryz.prog.varReadable ·))=true:=by kernel_rfl
theorem k19:(Tryz.f7.resultTypes.all (fun t=>Tryz.prog.readableRec t&&decide (t<Tryz.prog.types.size)))=true:=by kernel_rfl
theorem k20:((execHeightsUptoRow.ifacesOut == Tryz.f7.resultTypes.toList.any (Tryz.prog.ifacesRec ·)))=true:=by kernel_rfl
theorem k21:((execHeightsUptoRow.loopsOut == Tryz.f7.resultTypes.toList.any (Tryz.prog.loopsFrom ·)))=true:=by kernel_rfl
theorem Wy:((execHeightsUptoRow.plainKeys == Tryz.prog.plainKeys))=true:=by kernel_rfl
theorem Wx:(execHeightsUptoRow.shortTexts.isNone)=true:=by kernel_rfl
theorem k24:(Tryz.prog.stopsHeard)=true:=by kernel_rfl
theorem k25:(Tryz.prog.mayEnter)=true:=by kernel_rfl
theorem k26:((execHeightsUptoRow.lifted == Tryz.prog.liftsFinal))=true:=by kernel_rfl
theorem k27:((Tryz.prog.make == some execHeightsUptoRow.make))=true:=by kernel_rfl
theorem k28:((execHeightsUptoRow.kinds == (if execHeightsUptoRow.domain.isEmpty then []else Tryz.f7.params.toList.map fun t=>match Tryz.prog.underlying t with|some (.int k)=>some k| _=>none)))=true:=by kernel_rfl
theorem k29:((execHeightsUptoRow.pinned == execHeightsUptoRow.pinnedBy))=true:=by kernel_rfl
theorem k30:((execHeightsUptoRow.veiled == (Tryz.f7.params.toList++(OpenSpec.upto execHeightsSpec).bare.plain.varTypes Tryz.prog++Tryz.f7.resultTypes.toList).any (Tryz.prog.veiledRec ·)))=true:=by kernel_rfl
theorem k31:(execHeightsUptoRow.veiledFits Tryz.prog Tryz.f7.params.toList (Tryz.f7.params.toList++(OpenSpec.upto execHeightsSpec).bare.plain.varTypes Tryz.prog++Tryz.f7.resultTypes.toList))=true:=by kernel_rfl
theorem closed:joinedFacts Tryz.prog 7 Tryz.f7 (OpenSpec.upto execHeightsSpec).bare execHeightsUptoRow=true:=by
 unfold joinedFacts
 exact(eX (eX (eX (eX (eX (eX (eX (eX (eX (eX (eX (eX (eX (eX (eX (eX (eX (eX (eX (eX (eX (eX (eX (eX (eX (eX (eX (eX (eX (eX (eX k0 k1) k2) k3) k4) k5) k6) k7) k8) k9) k10) CV) Ui) Up) k14) k15) k16) k17) k18) k19) k20) k21) Wy) Wx) k24) k25) k26) k27) k28) k29) k30) k31)
end Go.Proofs.YtcnkojgmochcgaaGreatDoor.ExecHeightsLaw
