import Derived.Test.YtjeanplhkkpdmaaGreatDoorEnvI
import Derived.Test.YtjeanplhkkpdmaaGreatDoorRows
import Derived.Test.YtjeanplhkkpdmaaGreatDoorCards
import Derived.Test.YtjeanplhkkpdmaaGreatDoorTie
import Derived.SevenTiedAt
import Derived.MakeChecks
import Derived.Stop.Joined
namespace Go.Proofs.YtjeanplhkkpdmaaGreatDoor.InterpMemoryLaw
open Go.Proofs.YtjeanplhkkpdmaaGreatDoor.Rows
set_option maxRecDepth 1000000
theorem j2{a b:Bool}(h1:a=true)(h2:b=true):(a&&b)=true:=by rw[h1,h2];rfl
theorem k0:(interpMemoryRow.wf (OpenSpec.ofChange interpMemorySpec))=true:=by kernel_rfl
theorem k1:(laidOutB Tryz.prog)=true:=by kernel_rfl
theorem k2:(mapsRowed Tryz.prog)=true:=by kernel_rfl
theorem k3:(Tryz.f4.params.all (Tryz.prog.readableRec ·))=true:=by kernel_rfl
theorem k4:(namedTie Tryz.prog interpMemoryRow.named interpMemorySpec.vars)=true:=by kernel_rfl
theorem k5:((interpMemoryRow.stops == []))=true:=by kernel_rfl
theorem k6:((Tryz.prog.stops == []))=true:=by kernel_rfl
theorem k7:((interpMemoryRow.knobs == []))=true:=by kernel_rfl
theorem k8:((Tryz.prog.stopKnobs == []))=true:=by kernel_rfl
theorem k9:((interpMemoryRow.inPlace == Tryz.prog.inPlace 4))=true:=by kernel_rfl
theorem k10:((interpMemoryRow.unfollowed == Tryz.prog.unfollowed 4))=true:=by kernel_rfl
theorem k11:((interpMemoryRow.recurses == Tryz.prog.recurses 4))=true:=by kernel_rfl
theorem k12:((interpMemoryRow.named == Tryz.prog.varsNamed 4))=true:=by kernel_rfl
theorem k13:((interpMemoryRow.maps == (Tryz.f4.params.toList++interpMemorySpec.plain.varTypes Tryz.prog).any (Tryz.prog.mapsRec ·)))=true:=by kernel_rfl
theorem k14:((interpMemoryRow.ifaces == (Tryz.f4.params.toList++interpMemorySpec.plain.varTypes Tryz.prog).any (Tryz.prog.ifacesRec ·)))=true:=by kernel_rfl
theorem k15:((interpMemoryRow.mapsOut == Tryz.prog.mapsAmong Tryz.f4.resultTypes.toList))=true:=by kernel_rfl
theorem k16:((interpMemoryRow.loops == (Tryz.f4.params.toList++interpMemorySpec.plain.varTypes Tryz.prog).any (Tryz.prog.loopsFrom ·)))=true:=by kernel_rfl
theorem k17:((interpMemoryRow.wideKeys == (Tryz.f4.params.toList++interpMemorySpec.plain.varTypes Tryz.prog++Tryz.f4.resultTypes.toList).any (Tryz.prog.wideKeysFrom ·)))=true:=by kernel_rfl
theorem k18:(interpMemorySpec.vars.all (Tryz.prog.varReadable ·))=true:=by kernel_rfl
theorem k19:(Tryz.f4.resultTypes.all (fun t=>Tryz.prog.readableRec t&&decide (t<Tryz.prog.types.size)))=true:=by kernel_rfl
theorem k20:((interpMemoryRow.ifacesOut == Tryz.f4.resultTypes.toList.any (Tryz.prog.ifacesRec ·)))=true:=by kernel_rfl
theorem k21:((interpMemoryRow.loopsOut == Tryz.f4.resultTypes.toList.any (Tryz.prog.loopsFrom ·)))=true:=by kernel_rfl
theorem k22:((interpMemoryRow.plainKeys == Tryz.prog.plainKeys))=true:=by kernel_rfl
theorem k23:(interpMemoryRow.shortTexts.isNone)=true:=by kernel_rfl
theorem k24:(Tryz.prog.stopsHeard)=true:=by kernel_rfl
theorem k25:(Tryz.prog.mayEnter)=true:=by kernel_rfl
theorem k26:((interpMemoryRow.lifted == Tryz.prog.liftsFinal))=true:=by kernel_rfl
theorem k27:((Tryz.prog.make == some interpMemoryRow.make))=true:=by kernel_rfl
theorem k28:((interpMemoryRow.kinds == (if interpMemoryRow.domain.isEmpty then []else Tryz.f4.params.toList.map fun t=>match Tryz.prog.underlying t with|some (.int k)=>some k| _=>none)))=true:=by kernel_rfl
theorem k29:((interpMemoryRow.pinned == interpMemoryRow.pinnedBy))=true:=by kernel_rfl
theorem k30:((interpMemoryRow.veiled == (Tryz.f4.params.toList++interpMemorySpec.plain.varTypes Tryz.prog++Tryz.f4.resultTypes.toList).any (Tryz.prog.veiledRec ·)))=true:=by kernel_rfl
theorem k31:(interpMemoryRow.veiledFits Tryz.prog Tryz.f4.params.toList (Tryz.f4.params.toList++interpMemorySpec.plain.varTypes Tryz.prog++Tryz.f4.resultTypes.toList))=true:=by kernel_rfl
theorem closed:joinedFacts Tryz.prog 4 Tryz.f4 interpMemorySpec interpMemoryRow=true:=by
 unfold joinedFacts
 exact(j2 (j2 (j2 (j2 (j2 (j2 (j2 (j2 (j2 (j2 (j2 (j2 (j2 (j2 (j2 (j2 (j2 (j2 (j2 (j2 (j2 (j2 (j2 (j2 (j2 (j2 (j2 (j2 (j2 (j2 (j2 k0 k1) k2) k3) k4) k5) k6) k7) k8) k9) k10) k11) k12) k13) k14) k15) k16) k17) k18) k19) k20) k21) k22) k23) k24) k25) k26) k27) k28) k29) k30) k31)
end Go.Proofs.YtjeanplhkkpdmaaGreatDoor.InterpMemoryLaw
