import Derived.Test.YtcnkojgmochcgaaGreatDoorPmJ
noncomputable section
namespace Go.Proofs.Vq
open Go.Ab Go.Ab.Lf Go.Proofs.Sw
set_option maxRecDepth 1000000
theorem V4(A B lo hi:Int)(L:List Int):mU 64869 A B lo hi L:=Gw (w:=8) (l:=(-128)) (h:=127) (.inl rfl) (by decide) (by decide) (by decide) (by decide) ⟨fun A B lo hi L a b c d=>by kernel_rfl,fun A B lo hi L a b c d=>⟨.inr (by kernel_rfl),.inr (by kernel_rfl),.inr (by kernel_rfl),.inr (by kernel_rfl),.inl rfl⟩,fun A B lo hi L b=>by kernel_rfl,fun g A B lo hi L x0 x1 x2 x3=>by kernel_rfl,by kernel_rfl,by kernel_rfl,by kernel_rfl⟩ (fun a b=>by kernel_rfl)
theorem V5(A B lo hi:Int)(L:List Int):mU 64959 A B lo hi L:=sB (w:=16) (b:=1) (sd:=false) ⟨.inr (.inl rfl)⟩ (by decide) ⟨fun A B lo hi L a b c d=>by kernel_rfl,fun A B lo hi L a b c d=>⟨.inr (by kernel_rfl),.inr (by kernel_rfl),.inr (by kernel_rfl),.inr (by kernel_rfl),.inl rfl⟩,fun A B lo hi L b=>by kernel_rfl,fun g A B lo hi L x0 x1 x2 x3=>by kernel_rfl,by kernel_rfl,by kernel_rfl,by kernel_rfl⟩ (fun a b=>by kernel_rfl)
theorem V6(A B lo hi:Int)(L:List Int):mU 64894 A B lo hi L:=Bx (w:=16) (sd:=true) ⟨.inr (.inl rfl)⟩ ⟨fun A B lo hi L a b=>by kernel_rfl,fun A B lo hi L a b c d=>⟨.inr (by kernel_rfl),.inr (by kernel_rfl),.inl rfl,.inr (by kernel_rfl),.inr (by kernel_rfl)⟩,fun A B lo hi L b=>by kernel_rfl,fun g A B lo hi L x0 x1 x2 x3=>by kernel_rfl,by kernel_rfl,by kernel_rfl,by kernel_rfl⟩ (fun y=>by kernel_rfl)
theorem V7(A B lo hi:Int)(L:List Int):mU 64937 A B lo hi L:=sA (w:=16) (b:=0) (sd:=false) ⟨.inr (.inl rfl)⟩ (by decide) ⟨fun A B lo hi L a b=>by kernel_rfl,fun A B lo hi L a b c d=>⟨.inr (by kernel_rfl),.inr (by kernel_rfl),.inl rfl,.inr (by kernel_rfl),.inr (by kernel_rfl)⟩,fun A B lo hi L b=>by kernel_rfl,fun g A B lo hi L x0 x1 x2 x3=>by kernel_rfl,by kernel_rfl,by kernel_rfl,by kernel_rfl⟩ (fun y=>by kernel_rfl)
end Go.Proofs.Vq
