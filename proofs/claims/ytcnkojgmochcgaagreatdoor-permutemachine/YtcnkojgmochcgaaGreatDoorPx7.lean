import Derived.Test.YtcnkojgmochcgaaGreatDoorPmJ
noncomputable section
namespace Go.Proofs.Vq
open Go.Ab Go.Ab.Lf Go.Proofs.Sw
set_option maxRecDepth 1000000
theorem QF{A:Int}(h:A<0∨16<=A)(B lo hi:Int)(L:List Int):mU 64789 A B lo hi L:=EP (lim:=16) (p:=[false,false,false,false,false,false,false,false,false,false,false,false,false,false,false,false,false,false,false,false,true,true]) (p2:=[false,false,false,false,false,false,false,true]) h (fun A B lo hi L a b=>by kernel_rfl) (fun A B lo hi L a b c d=>⟨.inr (by kernel_rfl),.inr (by kernel_rfl),.inl rfl,.inr (by kernel_rfl),.inr (by kernel_rfl)⟩) (fun A B lo hi L=>by kernel_rfl) (fun g A B lo hi L x0 x1 x2 x3=>by kernel_rfl)
theorem QG{A:Int}(h:A<0∨2<=A)(B lo hi:Int)(L:List Int):mU 64797 A B lo hi L:=EP (lim:=2) (p:=[false,false,false,false,false,false,false,false,false,false,false,false,false,false,false,false,false,false,false,false,false,false,false,false,false,false,false,false,true,true]) (p2:=[false,false,false,false,false,false,false,true]) h (fun A B lo hi L a b=>by kernel_rfl) (fun A B lo hi L a b c d=>⟨.inr (by kernel_rfl),.inr (by kernel_rfl),.inl rfl,.inr (by kernel_rfl),.inr (by kernel_rfl)⟩) (fun A B lo hi L=>by kernel_rfl) (fun g A B lo hi L x0 x1 x2 x3=>by kernel_rfl)
end Go.Proofs.Vq

noncomputable section
namespace Go.Proofs.Vq
open Go.Ab Go.Ab.Lf Go.Proofs.Sw
set_option maxRecDepth 1000000
theorem QH{A:Int}(h:A<0∨16<=A)(B lo hi:Int)(L:List Int):mU 64790 A B lo hi L:=EP (lim:=16) (p:=[false,false,false,false,false,false,false,false,false,false,false,false,false,false,false,false,false,false,false,false,false,true,true]) (p2:=[false,false,false,false,false,false,false,true]) h (fun A B lo hi L a b=>by kernel_rfl) (fun A B lo hi L a b c d=>⟨.inr (by kernel_rfl),.inr (by kernel_rfl),.inl rfl,.inr (by kernel_rfl),.inr (by kernel_rfl)⟩) (fun A B lo hi L=>by kernel_rfl) (fun g A B lo hi L x0 x1 x2 x3=>by kernel_rfl)
theorem QI{A:Int}(h:A<0∨16<=A)(B lo hi:Int)(L:List Int):mU 64791 A B lo hi L:=OS (sm:=true) (lim:=16) (p:=[false,false,false,false,false,false,false,false,false,false,false,false,false,false,false,false,false,false,false,false,false,false,false,false,false,false,false,false,false,false,false,false,false,false,true,true]) (p2:=[false,false,false,false,false,false,false,true]) h (fun A B lo hi L a b c=>by kernel_rfl) (fun A B lo hi L a b c d=>⟨.inr (by kernel_rfl),.inr (by kernel_rfl),.inr (by kernel_rfl),.inl rfl,.inr (by kernel_rfl)⟩) (fun A B lo hi L=>by kernel_rfl) (fun g A B lo hi L x0 x1 x2 x3=>by kernel_rfl)
end Go.Proofs.Vq

noncomputable section
namespace Go.Proofs.Vq
open Go.Ab Go.Ab.Lf Go.Proofs.Sw
set_option maxRecDepth 1000000
theorem QJ{A:Int}(h:A<0∨8<=A)(B lo hi:Int)(L:List Int):mU 64792 A B lo hi L:=EP (lim:=8) (p:=[false,false,false,false,false,false,false,false,false,false,false,false,false,false,false,false,false,false,false,false,false,false,false,true,true]) (p2:=[false,false,false,false,false,false,false,true]) h (fun A B lo hi L a b=>by kernel_rfl) (fun A B lo hi L a b c d=>⟨.inr (by kernel_rfl),.inr (by kernel_rfl),.inl rfl,.inr (by kernel_rfl),.inr (by kernel_rfl)⟩) (fun A B lo hi L=>by kernel_rfl) (fun g A B lo hi L x0 x1 x2 x3=>by kernel_rfl)
theorem QK{A:Int}(h:A<0∨8<=A)(B lo hi:Int)(L:List Int):mU 64794 A B lo hi L:=OS (sm:=true) (lim:=8) (p:=[false,false,false,false,false,false,false,false,false,false,false,false,false,false,false,false,false,false,false,false,false,false,false,false,false,false,false,false,false,false,false,false,false,false,false,false,false,true,true]) (p2:=[false,false,false,false,false,false,false,true]) h (fun A B lo hi L a b c=>by kernel_rfl) (fun A B lo hi L a b c d=>⟨.inr (by kernel_rfl),.inr (by kernel_rfl),.inr (by kernel_rfl),.inl rfl,.inr (by kernel_rfl)⟩) (fun A B lo hi L=>by kernel_rfl) (fun g A B lo hi L x0 x1 x2 x3=>by kernel_rfl)
end Go.Proofs.Vq

noncomputable section
namespace Go.Proofs.Vq
open Go.Ab Go.Ab.Lf Go.Proofs.Sw
set_option maxRecDepth 1000000
theorem QL{A:Int}(h:A<0∨8<=A)(B lo hi:Int)(L:List Int):mU 64793 A B lo hi L:=EP (lim:=8) (p:=[false,false,false,false,false,false,false,false,false,false,false,false,false,false,false,false,false,false,false,false,false,false,false,false,true,true]) (p2:=[false,false,false,false,false,false,false,true]) h (fun A B lo hi L a b=>by kernel_rfl) (fun A B lo hi L a b c d=>⟨.inr (by kernel_rfl),.inr (by kernel_rfl),.inl rfl,.inr (by kernel_rfl),.inr (by kernel_rfl)⟩) (fun A B lo hi L=>by kernel_rfl) (fun g A B lo hi L x0 x1 x2 x3=>by kernel_rfl)
theorem QM{A:Int}(h:A<0∨4<=A)(B lo hi:Int)(L:List Int):mU 64796 A B lo hi L:=OS (sm:=true) (lim:=4) (p:=[false,false,false,false,false,false,false,false,false,false,false,false,false,false,false,false,false,false,false,false,false,false,false,false,false,false,false,false,false,false,false,false,false,false,false,false,false,false,false,true,true]) (p2:=[false,false,false,false,false,false,false,true]) h (fun A B lo hi L a b c=>by kernel_rfl) (fun A B lo hi L a b c d=>⟨.inr (by kernel_rfl),.inr (by kernel_rfl),.inr (by kernel_rfl),.inl rfl,.inr (by kernel_rfl)⟩) (fun A B lo hi L=>by kernel_rfl) (fun g A B lo hi L x0 x1 x2 x3=>by kernel_rfl)
end Go.Proofs.Vq

noncomputable section
namespace Go.Proofs.Vq
open Go.Ab Go.Ab.Lf Go.Proofs.Sw
set_option maxRecDepth 1000000
theorem QN{A:Int}(h:A<0∨4<=A)(B lo hi:Int)(L:List Int):mU 64795 A B lo hi L:=EP (lim:=4) (p:=[false,false,false,false,false,false,false,false,false,false,false,false,false,false,false,false,false,false,false,false,false,false,false,false,false,false,true,true]) (p2:=[false,false,false,false,false,false,false,true]) h (fun A B lo hi L a b=>by kernel_rfl) (fun A B lo hi L a b c d=>⟨.inr (by kernel_rfl),.inr (by kernel_rfl),.inl rfl,.inr (by kernel_rfl),.inr (by kernel_rfl)⟩) (fun A B lo hi L=>by kernel_rfl) (fun g A B lo hi L x0 x1 x2 x3=>by kernel_rfl)
theorem QO{A:Int}(h:A<0∨2<=A)(B lo hi:Int)(L:List Int):mU 64798 A B lo hi L:=OS (sm:=false) (lim:=2) (p:=[false,false,false,false,false,false,false,false,false,false,false,false,false,false,false,false,false,false,false,false,false,false,false,false,false,false,false,false,false,false,false,false,false,false,false,false,false,false,false,false,false,false,true,true]) (p2:=[false,false,false,false,false,false,false,true]) h (fun A B lo hi L a b c=>by kernel_rfl) (fun A B lo hi L a b c d=>⟨.inr (by kernel_rfl),.inr (by kernel_rfl),.inr (by kernel_rfl),.inl rfl,.inr (by kernel_rfl)⟩) (fun A B lo hi L=>by kernel_rfl) (fun g A B lo hi L x0 x1 x2 x3=>by kernel_rfl)
end Go.Proofs.Vq
