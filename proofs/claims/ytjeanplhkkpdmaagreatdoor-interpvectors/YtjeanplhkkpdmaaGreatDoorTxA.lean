import Derived.Test.YtjeanplhkkpdmaaGreatDoorEnvI
import Derived.Test.YtjeanplhkkpdmaaGreatDoorRows
import Derived.Test.YtjeanplhkkpdmaaGreatDoorCards
import Derived.Test.YtjeanplhkkpdmaaGreatDoorTie
import Derived.SevenTiedAt
import Derived.MakeChecks
import Derived.Stop.Joined
namespace Go.Proofs.YtjeanplhkkpdmaaGreatDoor.InterpVectorsLaw
open Go.Proofs.YtjeanplhkkpdmaaGreatDoor.Rows
set_option maxRecDepth 1000000
theorem mL{a b:Bool}(h1:a=true)(h2:b=true):(a&&b)=true:=by rw[h1,h2];rfl
theorem k0:(interpVectorsRow.wf (OpenSpec.ofChange interpVectorsSpec))=true:=by kernel_rfl
theorem k1:(laidOutB Tryz.prog)=true:=by kernel_rfl
theorem k2:(mapsRowed Tryz.prog)=true:=by kernel_rfl
theorem k3:(Tryz.f3.params.all (Tryz.prog.readableRec ·))=true:=by kernel_rfl
theorem k4:(namedTie Tryz.prog interpVectorsRow.named interpVectorsSpec.vars)=true:=by kernel_rfl
theorem k5:((interpVectorsRow.stops == []))=true:=by kernel_rfl
theorem k6:((Tryz.prog.stops == []))=true:=by kernel_rfl
theorem k7:((interpVectorsRow.knobs == []))=true:=by kernel_rfl
theorem k8:((Tryz.prog.stopKnobs == []))=true:=by kernel_rfl
theorem k9:((interpVectorsRow.inPlace == Tryz.prog.inPlace 3))=true:=by kernel_rfl
theorem k10:((interpVectorsRow.unfollowed == Tryz.prog.unfollowed 3))=true:=by kernel_rfl
theorem k11:((interpVectorsRow.recurses == Tryz.prog.recurses 3))=true:=by kernel_rfl
theorem k12:((interpVectorsRow.named == Tryz.prog.varsNamed 3))=true:=by kernel_rfl
theorem k13:((interpVectorsRow.maps == (Tryz.f3.params.toList++interpVectorsSpec.plain.varTypes Tryz.prog).any (Tryz.prog.mapsRec ·)))=true:=by kernel_rfl
theorem k14:((interpVectorsRow.ifaces == (Tryz.f3.params.toList++interpVectorsSpec.plain.varTypes Tryz.prog).any (Tryz.prog.ifacesRec ·)))=true:=by kernel_rfl
theorem k15:((interpVectorsRow.mapsOut == Tryz.prog.mapsAmong Tryz.f3.resultTypes.toList))=true:=by kernel_rfl
theorem k16:((interpVectorsRow.loops == (Tryz.f3.params.toList++interpVectorsSpec.plain.varTypes Tryz.prog).any (Tryz.prog.loopsFrom ·)))=true:=by kernel_rfl
theorem k17:((interpVectorsRow.wideKeys == (Tryz.f3.params.toList++interpVectorsSpec.plain.varTypes Tryz.prog++Tryz.f3.resultTypes.toList).any (Tryz.prog.wideKeysFrom ·)))=true:=by kernel_rfl
theorem k18:(interpVectorsSpec.vars.all (Tryz.prog.varReadable ·))=true:=by kernel_rfl
theorem k19:(Tryz.f3.resultTypes.all (fun t=>Tryz.prog.readableRec t&&decide (t<Tryz.prog.types.size)))=true:=by kernel_rfl
theorem k20:((interpVectorsRow.ifacesOut == Tryz.f3.resultTypes.toList.any (Tryz.prog.ifacesRec ·)))=true:=by kernel_rfl
theorem k21:((interpVectorsRow.loopsOut == Tryz.f3.resultTypes.toList.any (Tryz.prog.loopsFrom ·)))=true:=by kernel_rfl
theorem k22:((interpVectorsRow.plainKeys == Tryz.prog.plainKeys))=true:=by kernel_rfl
theorem k23:(interpVectorsRow.shortTexts.isNone)=true:=by kernel_rfl
theorem k24:(Tryz.prog.stopsHeard)=true:=by kernel_rfl
theorem k25:(Tryz.prog.mayEnter)=true:=by kernel_rfl
theorem k26:((interpVectorsRow.lifted == Tryz.prog.liftsFinal))=true:=by kernel_rfl
theorem k27:((Tryz.prog.make == some interpVectorsRow.make))=true:=by kernel_rfl
theorem k28:((interpVectorsRow.kinds == (if interpVectorsRow.domain.isEmpty then []else Tryz.f3.params.toList.map fun t=>match Tryz.prog.underlying t with|some (.int k)=>some k| _=>none)))=true:=by kernel_rfl
theorem k29:((interpVectorsRow.pinned == interpVectorsRow.pinnedBy))=true:=by kernel_rfl
theorem k30:((interpVectorsRow.veiled == (Tryz.f3.params.toList++interpVectorsSpec.plain.varTypes Tryz.prog++Tryz.f3.resultTypes.toList).any (Tryz.prog.veiledRec ·)))=true:=by kernel_rfl
theorem k31:(interpVectorsRow.veiledFits Tryz.prog Tryz.f3.params.toList (Tryz.f3.params.toList++interpVectorsSpec.plain.varTypes Tryz.prog++Tryz.f3.resultTypes.toList))=true:=by kernel_rfl
theorem closed:joinedFacts Tryz.prog 3 Tryz.f3 interpVectorsSpec interpVectorsRow=true:=by
 unfold joinedFacts;exact(mL (mL (mL (mL (mL (mL (mL (mL (mL (mL (mL (mL (mL (mL (mL (mL (mL (mL (mL (mL (mL (mL (mL (mL (mL (mL (mL (mL (mL (mL (mL k0 k1) k2) k3) k4) k5) k6) k7) k8) k9) k10) k11) k12) k13) k14) k15) k16) k17) k18) k19) k20) k21) k22) k23) k24) k25) k26) k27) k28) k29) k30) k31)
end Go.Proofs.YtjeanplhkkpdmaaGreatDoor.InterpVectorsLaw
