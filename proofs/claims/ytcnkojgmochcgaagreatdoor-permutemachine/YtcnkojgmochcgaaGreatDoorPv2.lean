import Derived.Test.YtcnkojgmochcgaaGreatDoorPmJ
noncomputable section
namespace Go.Proofs.Vq
open Go.Ab Go.Ab.Lf Go.Proofs.Sw
set_option maxRecDepth 1000000
theorem We(A B lo hi:Int)(L:List Int):mU 64901 A B lo hi L:=Gw (w:=16) (l:=(-32768)) (h:=32767) (.inr rfl) (by decide) (by decide) (by decide) (by decide) ⟨fun A B lo hi L a b c d=>by kernel_rfl,fun A B lo hi L a b c d=>⟨.inr (by kernel_rfl),.inr (by kernel_rfl),.inr (by kernel_rfl),.inr (by kernel_rfl),.inl rfl⟩,fun A B lo hi L b=>by kernel_rfl,fun g A B lo hi L x0 x1 x2 x3=>by kernel_rfl,by kernel_rfl,by kernel_rfl,by kernel_rfl⟩ (fun a b=>by kernel_rfl)
theorem Wf(A B lo hi:Int)(L:List Int):mU 64989 A B lo hi L:=sB (w:=32) (b:=1) (sd:=true) ⟨.inr (.inr rfl)⟩ (by decide) ⟨fun A B lo hi L a b c d=>by kernel_rfl,fun A B lo hi L a b c d=>⟨.inr (by kernel_rfl),.inr (by kernel_rfl),.inr (by kernel_rfl),.inr (by kernel_rfl),.inl rfl⟩,fun A B lo hi L b=>by kernel_rfl,fun g A B lo hi L x0 x1 x2 x3=>by kernel_rfl,by kernel_rfl,by kernel_rfl,by kernel_rfl⟩ (fun a b=>by kernel_rfl)
theorem Wg(A B lo hi:Int)(L:List Int):mU 64954 A B lo hi L:=agQ ⟨fun A B lo hi L a b c d=>by kernel_rfl,fun A B lo hi L a b c d=>⟨.inr (by kernel_rfl),.inr (by kernel_rfl),.inr (by kernel_rfl),.inr (by kernel_rfl),.inl rfl⟩,fun A B lo hi L b=>by kernel_rfl,fun g A B lo hi L x0 x1 x2 x3=>by kernel_rfl,by kernel_rfl,by kernel_rfl,by kernel_rfl⟩ (fun a b=>by kernel_rfl)
theorem Wh(A B lo hi:Int)(L:List Int):mU 64967 A B lo hi L:=sA (w:=32) (b:=0) (sd:=true) ⟨.inr (.inr rfl)⟩ (by decide) ⟨fun A B lo hi L a b=>by kernel_rfl,fun A B lo hi L a b c d=>⟨.inr (by kernel_rfl),.inr (by kernel_rfl),.inl rfl,.inr (by kernel_rfl),.inr (by kernel_rfl)⟩,fun A B lo hi L b=>by kernel_rfl,fun g A B lo hi L x0 x1 x2 x3=>by kernel_rfl,by kernel_rfl,by kernel_rfl,by kernel_rfl⟩ (fun y=>by kernel_rfl)
end Go.Proofs.Vq
