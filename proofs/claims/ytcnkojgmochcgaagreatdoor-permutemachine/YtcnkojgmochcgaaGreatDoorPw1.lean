import Derived.Test.YtcnkojgmochcgaaGreatDoorPnA
import Derived.Test.YtcnkojgmochcgaaGreatDoorPmJ
noncomputable section
namespace Go.Proofs.Vq
open Go.Ab Go.Ab.Lf Go.Proofs.Sw
set_option maxRecDepth 1000000
theorem Wc(A B lo hi:Int)(L:List Int):mU 64782 A B lo hi L:=VX (N:=4) (Lr:=2) (sm:=false) (l:=aa7) (sc:=5) ⟨fun A B lo hi L a b c d=>⟨.inr (by kernel_rfl),.inr (by kernel_rfl),.inr (by kernel_rfl),.inr (by kernel_rfl),.inl rfl⟩,fun A B lo hi L b=>by kernel_rfl,fun g A B lo hi L x0 x1 x2 x3=>by kernel_rfl,by kernel_rfl,by kernel_rfl,by kernel_rfl⟩ (by decide) (.inr rfl) (abu fun A B lo hi L a b c d=>by kernel_rfl)
end Go.Proofs.Vq
