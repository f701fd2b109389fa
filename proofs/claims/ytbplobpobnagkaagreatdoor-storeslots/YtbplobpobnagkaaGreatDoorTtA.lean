import Derived.Test.YtbplobpobnagkaaGreatDoorEnvS
import Derived.Test.YtbplobpobnagkaaGreatDoorRows
import Derived.Test.YtbplobpobnagkaaGreatDoorCards
import Derived.Test.YtbplobpobnagkaaGreatDoorTie
import Derived.SevenTiedAt
import Derived.MakeChecks
import Derived.Stop.Joined
namespace Go.Proofs.YtbplobpobnagkaaGreatDoor.StoreSlotsLaw
open Go.Proofs.YtbplobpobnagkaaGreatDoor.Rows
set_option maxRecDepth 1000000
theorem fw{a b:Bool}(h1:a=true)(h2:b=true):(a&&b)=true:=by rw[h1,h2];rfl
theorem k0:(storeSlotsRow.wf (OpenSpec.ofChange storeSlotsSpec))=true:=by kernel_rfl
theorem k1:(laidOutB Tryz.prog)=true:=by kernel_rfl
theorem k2:(mapsRowed Tryz.prog)=true:=by kernel_rfl
theorem k3:(Tryz.f5.params.all (Tryz.prog.readableRec ·))=true:=by kernel_rfl
theorem k4:(namedTie Tryz.prog storeSlotsRow.named storeSlotsSpec.vars)=true:=by kernel_rfl
theorem k5:((storeSlotsRow.stops == []))=true:=by kernel_rfl
theorem k6:((Tryz.prog.stops == []))=true:=by kernel_rfl
theorem k7:((storeSlotsRow.knobs == []))=true:=by kernel_rfl
theorem k8:((Tryz.prog.stopKnobs == []))=true:=by kernel_rfl
theorem k9:((storeSlotsRow.inPlace == Tryz.prog.inPlace 5))=true:=by kernel_rfl
theorem k10:((storeSlotsRow.unfollowed == Tryz.prog.unfollowed 5))=true:=by kernel_rfl
theorem k11:((storeSlotsRow.recurses == Tryz.prog.recurses 5))=true:=by kernel_rfl
theorem k12:((storeSlotsRow.named == Tryz.prog.varsNamed 5))=true:=by kernel_rfl
theorem k13:((storeSlotsRow.maps == (Tryz.f5.params.toList++storeSlotsSpec.plain.varTypes Tryz.prog).any (Tryz.prog.mapsRec ·)))=true:=by kernel_rfl
theorem k14:((storeSlotsRow.ifaces == (Tryz.f5.params.toList++storeSlotsSpec.plain.varTypes Tryz.prog).any (Tryz.prog.ifacesRec ·)))=true:=by kernel_rfl
theorem k15:((storeSlotsRow.mapsOut == Tryz.prog.mapsAmong Tryz.f5.resultTypes.toList))=true:=by kernel_rfl
theorem k16:((storeSlotsRow.loops == (Tryz.f5.params.toList++storeSlotsSpec.plain.varTypes Tryz.prog).any (Tryz.prog.loopsFrom ·)))=true:=by kernel_rfl
theorem k17:((storeSlotsRow.wideKeys == (Tryz.f5.params.toList++storeSlotsSpec.plain.varTypes Tryz.prog++Tryz.f5.resultTypes.toList).any (Tryz.prog.wideKeysFrom ·)))=true:=by kernel_rfl
theorem k18:(storeSlotsSpec.vars.all (Tryz.prog.varReadable ·))=true:=by kernel_rfl
theorem k19:(Tryz.f5.resultTypes.all (fun t=>Tryz.prog.readableRec t&&decide (t<Tryz.prog.types.size)))=true:=by kernel_rfl
theorem k20:((storeSlotsRow.ifacesOut == Tryz.f5.resultTypes.toList.any (Tryz.prog.ifacesRec ·)))=true:=by kernel_rfl
theorem k21:((storeSlotsRow.loopsOut == Tryz.f5.resultTypes.toList.any (Tryz.prog.loopsFrom ·)))=true:=by kernel_rfl
theorem k22:((storeSlotsRow.plainKeys == Tryz.prog.plainKeys))=true:=by kernel_rfl
theorem k23:(storeSlotsRow.shortTexts.isNone)=true:=by kernel_rfl
theorem k24:(Tryz.prog.stopsHeard)=true:=by kernel_rfl
theorem k25:(Tryz.prog.mayEnter)=true:=by kernel_rfl
theorem k26:((storeSlotsRow.lifted == Tryz.prog.liftsFinal))=true:=by kernel_rfl
theorem k27:((Tryz.prog.make == some storeSlotsRow.make))=true:=by kernel_rfl
theorem k28:((storeSlotsRow.kinds == (if storeSlotsRow.domain.isEmpty then []else Tryz.f5.params.toList.map fun t=>match Tryz.prog.underlying t with|some (.int k)=>some k| _=>none)))=true:=by kernel_rfl
theorem k29:((storeSlotsRow.pinned == storeSlotsRow.pinnedBy))=true:=by kernel_rfl
theorem k30:((storeSlotsRow.veiled == (Tryz.f5.params.toList++storeSlotsSpec.plain.varTypes Tryz.prog++Tryz.f5.resultTypes.toList).any (Tryz.prog.veiledRec ·)))=true:=by kernel_rfl
theorem k31:(storeSlotsRow.veiledFits Tryz.prog Tryz.f5.params.toList (Tryz.f5.params.toList++storeSlotsSpec.plain.varTypes Tryz.prog++Tryz.f5.resultTypes.toList))=true:=by kernel_rfl
theorem closed:joinedFacts Tryz.prog 5 Tryz.f5 storeSlotsSpec storeSlotsRow=true:=by
 unfold joinedFacts
 exact(fw (fw (fw (fw (fw (fw (fw (fw (fw (fw (fw (fw (fw (fw (fw (fw (fw (fw (fw (fw (fw (fw (fw (fw (fw (fw (fw (fw (fw (fw (fw k0 k1) k2) k3) k4) k5) k6) k7) k8) k9) k10) k11) k12) k13) k14) k15) k16) k17) k18) k19) k20) k21) k22) k23) k24) k25) k26) k27) k28) k29) k30) k31)
end Go.Proofs.YtbplobpobnagkaaGreatDoor.StoreSlotsLaw
