import Derived.Shelf.Unicode.ValidAny
import Derived.Test.YtooeifemoidnoaaDoorProg
noncomputable section
namespace Go.Proofs
open Go.Shelf
set_option maxRecDepth 100000
def Tryd.ren66:Go.Shelf.Ren:=⟨fun|196=>66|259=>78|n=>n,fun|119=>147|138=>149|139=>150|46=>36|n=>n,fun|3=>0|4=>1|n=>n⟩
theorem Tryd.lays66:Go.Proofs.Lays.n196 Tryd.prog Tryd.ren66:={
 mixed:=by kernel_rfl
 f196:=Tryd.func66.trans (congrArg some (by kernel_rfl))
 f259:=Tryd.func78.trans (congrArg some (by kernel_rfl))
 t0:=Tryd.underlying0
 a0:=Tryd.isAgg0
 z0:=Tryd.sizeOf0
 v0:=Tryd.zeroValue0
 t3:=Tryd.underlying3
 a3:=Tryd.isAgg3
 z3:=Tryd.sizeOf3
 v3:=Tryd.zeroValue3
 t4:=Tryd.underlying4
 a4:=Tryd.isAgg4
 z4:=Tryd.sizeOf4
 v4:=Tryd.zeroValue4
 t5:=Tryd.underlying5
 a5:=Tryd.isAgg5
 z5:=Tryd.sizeOf5
 v5:=Tryd.zeroValue5
 t9:=Tryd.underlying9
 a9:=Tryd.isAgg9
 z9:=Tryd.sizeOf9
 v9:=Tryd.zeroValue9
 t12:=Tryd.underlying12
 a12:=Tryd.isAgg12
 z12:=Tryd.sizeOf12
 v12:=Tryd.zeroValue12
 t46:=Tryd.underlying36
 a46:=Tryd.isAgg36
 z46:=Tryd.sizeOf36
 v46:=Tryd.zeroValue36
 t53:=Tryd.underlying53
 a53:=Tryd.isAgg53
 z53:=Tryd.sizeOf53
 v53:=Tryd.zeroValue53
 t119:=Tryd.underlying147
 a119:=Tryd.isAgg147
 z119:=Tryd.sizeOf147
 t138:=Tryd.underlying149
 a138:=Tryd.isAgg149
 z138:=Tryd.sizeOf149
 v138:=Tryd.zeroValue149
 t139:=Tryd.underlying150
 a139:=Tryd.isAgg150
 z139:=Tryd.sizeOf150
 v139:=Tryd.zeroValue150
 g3:=by kernel_rfl
 g4:=by kernel_rfl}
end Go.Proofs
