import Derived.Test.YtcnkojgmochcgaaGreatDoorPnA
import Derived.Test.YtcnkojgmochcgaaGreatDoorPmJ
noncomputable section
namespace Go.Proofs.Vq
open Go.Ab Go.Ab.Lf Go.Proofs.Sw
set_option maxRecDepth 1000000
theorem WY{A B:Int}{lo hi:Nat}{L:List Int}(hs: ∀ j,j<16->rb lo hi j<32):V2 64781 A B (lo:Int) (hi:Int) L:=abP hs (fun A B lo hi L a b c d=>by kernel_rfl) (fun A B lo hi L a b c d=>⟨.inr (by kernel_rfl),.inr (by kernel_rfl),.inr (by kernel_rfl),.inr (by kernel_rfl),.inl rfl⟩) (fun g A B lo hi L x0 x1 x2 x3=>by kernel_rfl)
theorem QE{A B:Int}{lo hi:Nat}{L:List Int}{k:Nat}(hk:k<16)(hs:32<=rb lo hi k):V2 64781 A B (lo:Int) (hi:Int) L:=Lu hk hs (fun A B lo hi L a b c d=>by kernel_rfl) (fun A B lo hi L a b c d=>⟨.inr (by kernel_rfl),.inr (by kernel_rfl),.inr (by kernel_rfl),.inr (by kernel_rfl),.inl rfl⟩) (fun g A B lo hi L x0 x1 x2 x3=>by kernel_rfl)
theorem ag4(A B:Int)(lo hi:Nat)(L:List Int):V2 64781 A B (lo:Int) (hi:Int) L:=by
 by_cases h: ∀ j,j<16->rb lo hi j<32
 ·exact WY h
 ·obtain⟨k,h⟩:=Classical.not_forall.1 h
  obtain⟨hk,h⟩:=Classical.not_imp.1 h
  exact QE hk (Nat.le_of_not_lt h)
end Go.Proofs.Vq
