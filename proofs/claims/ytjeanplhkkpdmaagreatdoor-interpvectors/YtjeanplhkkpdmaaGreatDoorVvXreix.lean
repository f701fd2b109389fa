import Derived.Test.YtjeanplhkkpdmaaGreatDoorIE
noncomputable section
namespace Go.Proofs.Vv
open Go.Ab Go.Ab.Lf Go.Proofs.Vd
set_option maxRecDepth 1000000
theorem ahD(n:Int):LV zf (pg n 127) false 3 2 (dg 80 0x2240bd2c579f96fdf80eb065f82fa8b5):=fun V Z D op A B lo hi L a b c d e=>by kernel_rfl
theorem apR(n:Int):LV Rf (pg n 126) true 3 2 (dg 408 0x1f2c97e1e25c8b805bd0d64afa08e941f3cdfc7455742454161e3ce722453b89b5e17b9a820e9ae5038201ebd508357b9891647b9cb75a902f12e59b3ee511e85803cd6a240bae9cf58ead9441282d79cc):=fun V Z D op A B lo hi L a b c d e=>by kernel_rfl
theorem ahE(n:Int):LV zf (pg n 126) false 3 2 (dg 80 0x2240bd2c579f96fdf80eb065f82fa8b5):=fun V Z D op A B lo hi L a b c d e=>by kernel_rfl
end Go.Proofs.Vv
