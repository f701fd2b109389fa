import Derived.Test.YtjeanplhkkpdmaaGreatDoorIE
noncomputable section
namespace Go.Proofs.Vv
open Go.Ab Go.Ab.Lf Go.Proofs.Vd
set_option maxRecDepth 1000000
theorem qn(I:den kE):LV ahy I true 6 2 (dg 22 0x23f8673b8):=fun V Z D op A B lo hi L a b c d e=>by kernel_rfl
end Go.Proofs.Vv
