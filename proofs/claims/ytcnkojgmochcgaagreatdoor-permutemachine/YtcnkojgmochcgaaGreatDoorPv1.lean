import Derived.Test.YtcnkojgmochcgaaGreatDoorPmJ
noncomputable section
namespace Go.Proofs.Vq
open Go.Ab Go.Ab.Lf Go.Proofs.Sw
set_option maxRecDepth 1000000
theorem V9(A B lo hi:Int)(L:List Int):mU 64870 A B lo hi L:=Gw (w:=8) (l:=(0)) (h:=255) (.inl rfl) (by decide) (by decide) (by decide) (by decide) ⟨fun A B lo hi L a b c d=>by kernel_rfl,fun A B lo hi L a b c d=>⟨.inr (by kernel_rfl),.inr (by kernel_rfl),.inr (by kernel_rfl),.inr (by kernel_rfl),.inl rfl⟩,fun A B lo hi L b=>by kernel_rfl,fun g A B lo hi L x0 x1 x2 x3=>by kernel_rfl,by kernel_rfl,by kernel_rfl,by kernel_rfl⟩ (fun a b=>by kernel_rfl)
theorem V'(A B lo hi:Int)(L:List Int):mU 64988 A B lo hi L:=sB (w:=32) (b:=0) (sd:=true) ⟨.inr (.inr rfl)⟩ (by decide) ⟨fun A B lo hi L a b c d=>by kernel_rfl,fun A B lo hi L a b c d=>⟨.inr (by kernel_rfl),.inr (by kernel_rfl),.inr (by kernel_rfl),.inr (by kernel_rfl),.inl rfl⟩,fun A B lo hi L b=>by kernel_rfl,fun g A B lo hi L x0 x1 x2 x3=>by kernel_rfl,by kernel_rfl,by kernel_rfl,by kernel_rfl⟩ (fun a b=>by kernel_rfl)
theorem Wa(A B lo hi:Int)(L:List Int):mU 64895 A B lo hi L:=Bx (w:=16) (sd:=false) ⟨.inr (.inl rfl)⟩ ⟨fun A B lo hi L a b=>by kernel_rfl,fun A B lo hi L a b c d=>⟨.inr (by kernel_rfl),.inr (by kernel_rfl),.inl rfl,.inr (by kernel_rfl),.inr (by kernel_rfl)⟩,fun A B lo hi L b=>by kernel_rfl,fun g A B lo hi L x0 x1 x2 x3=>by kernel_rfl,by kernel_rfl,by kernel_rfl,by kernel_rfl⟩ (fun y=>by kernel_rfl)
theorem Wb(A B lo hi:Int)(L:List Int):mU 64938 A B lo hi L:=sA (w:=16) (b:=1) (sd:=false) ⟨.inr (.inl rfl)⟩ (by decide) ⟨fun A B lo hi L a b=>by kernel_rfl,fun A B lo hi L a b c d=>⟨.inr (by kernel_rfl),.inr (by kernel_rfl),.inl rfl,.inr (by kernel_rfl),.inr (by kernel_rfl)⟩,fun A B lo hi L b=>by kernel_rfl,fun g A B lo hi L x0 x1 x2 x3=>by kernel_rfl,by kernel_rfl,by kernel_rfl,by kernel_rfl⟩ (fun y=>by kernel_rfl)
end Go.Proofs.Vq
