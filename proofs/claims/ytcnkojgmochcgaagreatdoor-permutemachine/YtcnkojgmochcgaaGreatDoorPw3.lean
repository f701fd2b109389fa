import Derived.Test.YtcnkojgmochcgaaGreatDoorPnA
import Derived.Test.YtcnkojgmochcgaaGreatDoorPmJ
noncomputable section
namespace Go.Proofs.Vq
open Go.Ab Go.Ab.Lf Go.Proofs.Sw
set_option maxRecDepth 1000000
theorem n8:LE 64790 2 1 false:=fun g A B lo hi L x0 x1 x2 x3=>by kernel_rfl
theorem LY(B lo hi:Int)(L:List Int):mU 64790 (0:Nat) B lo hi L:=mR (N:=2) (Lr:=1) (l:=nB 8 0 false) (sc:=2) ⟨fun B lo hi L a b c d=>⟨.inr (by kernel_rfl),.inr (by kernel_rfl),.inl rfl,.inr (by kernel_rfl),.inr (by kernel_rfl)⟩,fun B lo hi L b=>by kernel_rfl,n8,by kernel_rfl,by kernel_rfl,by kernel_rfl⟩ (by decide) (.inl rfl) (na ⟨.inl rfl⟩ (by decide) (fun B lo hi L a b=>by kernel_rfl))
theorem LZ(B lo hi:Int)(L:List Int):mU 64790 (1:Nat) B lo hi L:=mR (N:=2) (Lr:=1) (l:=nB 8 1 false) (sc:=2) ⟨fun B lo hi L a b c d=>⟨.inr (by kernel_rfl),.inr (by kernel_rfl),.inl rfl,.inr (by kernel_rfl),.inr (by kernel_rfl)⟩,fun B lo hi L b=>by kernel_rfl,n8,by kernel_rfl,by kernel_rfl,by kernel_rfl⟩ (by decide) (.inl rfl) (na ⟨.inl rfl⟩ (by decide) (fun B lo hi L a b=>by kernel_rfl))
theorem L1(B lo hi:Int)(L:List Int):mU 64790 (2:Nat) B lo hi L:=mR (N:=2) (Lr:=1) (l:=nB 8 2 false) (sc:=2) ⟨fun B lo hi L a b c d=>⟨.inr (by kernel_rfl),.inr (by kernel_rfl),.inl rfl,.inr (by kernel_rfl),.inr (by kernel_rfl)⟩,fun B lo hi L b=>by kernel_rfl,n8,by kernel_rfl,by kernel_rfl,by kernel_rfl⟩ (by decide) (.inl rfl) (na ⟨.inl rfl⟩ (by decide) (fun B lo hi L a b=>by kernel_rfl))
theorem L2(B lo hi:Int)(L:List Int):mU 64790 (3:Nat) B lo hi L:=mR (N:=2) (Lr:=1) (l:=nB 8 3 false) (sc:=2) ⟨fun B lo hi L a b c d=>⟨.inr (by kernel_rfl),.inr (by kernel_rfl),.inl rfl,.inr (by kernel_rfl),.inr (by kernel_rfl)⟩,fun B lo hi L b=>by kernel_rfl,n8,by kernel_rfl,by kernel_rfl,by kernel_rfl⟩ (by decide) (.inl rfl) (na ⟨.inl rfl⟩ (by decide) (fun B lo hi L a b=>by kernel_rfl))
theorem L3(B lo hi:Int)(L:List Int):mU 64790 (4:Nat) B lo hi L:=mR (N:=2) (Lr:=1) (l:=nB 8 4 false) (sc:=2) ⟨fun B lo hi L a b c d=>⟨.inr (by kernel_rfl),.inr (by kernel_rfl),.inl rfl,.inr (by kernel_rfl),.inr (by kernel_rfl)⟩,fun B lo hi L b=>by kernel_rfl,n8,by kernel_rfl,by kernel_rfl,by kernel_rfl⟩ (by decide) (.inl rfl) (na ⟨.inl rfl⟩ (by decide) (fun B lo hi L a b=>by kernel_rfl))
theorem L4(B lo hi:Int)(L:List Int):mU 64790 (5:Nat) B lo hi L:=mR (N:=2) (Lr:=1) (l:=nB 8 5 false) (sc:=2) ⟨fun B lo hi L a b c d=>⟨.inr (by kernel_rfl),.inr (by kernel_rfl),.inl rfl,.inr (by kernel_rfl),.inr (by kernel_rfl)⟩,fun B lo hi L b=>by kernel_rfl,n8,by kernel_rfl,by kernel_rfl,by kernel_rfl⟩ (by decide) (.inl rfl) (na ⟨.inl rfl⟩ (by decide) (fun B lo hi L a b=>by kernel_rfl))
theorem L5(B lo hi:Int)(L:List Int):mU 64790 (6:Nat) B lo hi L:=mR (N:=2) (Lr:=1) (l:=nB 8 6 false) (sc:=2) ⟨fun B lo hi L a b c d=>⟨.inr (by kernel_rfl),.inr (by kernel_rfl),.inl rfl,.inr (by kernel_rfl),.inr (by kernel_rfl)⟩,fun B lo hi L b=>by kernel_rfl,n8,by kernel_rfl,by kernel_rfl,by kernel_rfl⟩ (by decide) (.inl rfl) (na ⟨.inl rfl⟩ (by decide) (fun B lo hi L a b=>by kernel_rfl))
theorem L6(B lo hi:Int)(L:List Int):mU 64790 (7:Nat) B lo hi L:=mR (N:=2) (Lr:=1) (l:=nB 8 7 false) (sc:=2) ⟨fun B lo hi L a b c d=>⟨.inr (by kernel_rfl),.inr (by kernel_rfl),.inl rfl,.inr (by kernel_rfl),.inr (by kernel_rfl)⟩,fun B lo hi L b=>by kernel_rfl,n8,by kernel_rfl,by kernel_rfl,by kernel_rfl⟩ (by decide) (.inl rfl) (na ⟨.inl rfl⟩ (by decide) (fun B lo hi L a b=>by kernel_rfl))
theorem L7(B lo hi:Int)(L:List Int):mU 64790 (8:Nat) B lo hi L:=mR (N:=2) (Lr:=1) (l:=nB 8 8 false) (sc:=2) ⟨fun B lo hi L a b c d=>⟨.inr (by kernel_rfl),.inr (by kernel_rfl),.inl rfl,.inr (by kernel_rfl),.inr (by kernel_rfl)⟩,fun B lo hi L b=>by kernel_rfl,n8,by kernel_rfl,by kernel_rfl,by kernel_rfl⟩ (by decide) (.inl rfl) (na ⟨.inl rfl⟩ (by decide) (fun B lo hi L a b=>by kernel_rfl))
theorem L8(B lo hi:Int)(L:List Int):mU 64790 (9:Nat) B lo hi L:=mR (N:=2) (Lr:=1) (l:=nB 8 9 false) (sc:=2) ⟨fun B lo hi L a b c d=>⟨.inr (by kernel_rfl),.inr (by kernel_rfl),.inl rfl,.inr (by kernel_rfl),.inr (by kernel_rfl)⟩,fun B lo hi L b=>by kernel_rfl,n8,by kernel_rfl,by kernel_rfl,by kernel_rfl⟩ (by decide) (.inl rfl) (na ⟨.inl rfl⟩ (by decide) (fun B lo hi L a b=>by kernel_rfl))
theorem Jn(B lo hi:Int)(L:List Int):mU 64790 (10:Nat) B lo hi L:=mR (N:=2) (Lr:=1) (l:=nB 8 10 false) (sc:=2) ⟨fun B lo hi L a b c d=>⟨.inr (by kernel_rfl),.inr (by kernel_rfl),.inl rfl,.inr (by kernel_rfl),.inr (by kernel_rfl)⟩,fun B lo hi L b=>by kernel_rfl,n8,by kernel_rfl,by kernel_rfl,by kernel_rfl⟩ (by decide) (.inl rfl) (na ⟨.inl rfl⟩ (by decide) (fun B lo hi L a b=>by kernel_rfl))
theorem Jo(B lo hi:Int)(L:List Int):mU 64790 (11:Nat) B lo hi L:=mR (N:=2) (Lr:=1) (l:=nB 8 11 false) (sc:=2) ⟨fun B lo hi L a b c d=>⟨.inr (by kernel_rfl),.inr (by kernel_rfl),.inl rfl,.inr (by kernel_rfl),.inr (by kernel_rfl)⟩,fun B lo hi L b=>by kernel_rfl,n8,by kernel_rfl,by kernel_rfl,by kernel_rfl⟩ (by decide) (.inl rfl) (na ⟨.inl rfl⟩ (by decide) (fun B lo hi L a b=>by kernel_rfl))
theorem Jp(B lo hi:Int)(L:List Int):mU 64790 (12:Nat) B lo hi L:=mR (N:=2) (Lr:=1) (l:=nB 8 12 false) (sc:=2) ⟨fun B lo hi L a b c d=>⟨.inr (by kernel_rfl),.inr (by kernel_rfl),.inl rfl,.inr (by kernel_rfl),.inr (by kernel_rfl)⟩,fun B lo hi L b=>by kernel_rfl,n8,by kernel_rfl,by kernel_rfl,by kernel_rfl⟩ (by decide) (.inl rfl) (na ⟨.inl rfl⟩ (by decide) (fun B lo hi L a b=>by kernel_rfl))
theorem Jq(B lo hi:Int)(L:List Int):mU 64790 (13:Nat) B lo hi L:=mR (N:=2) (Lr:=1) (l:=nB 8 13 false) (sc:=2) ⟨fun B lo hi L a b c d=>⟨.inr (by kernel_rfl),.inr (by kernel_rfl),.inl rfl,.inr (by kernel_rfl),.inr (by kernel_rfl)⟩,fun B lo hi L b=>by kernel_rfl,n8,by kernel_rfl,by kernel_rfl,by kernel_rfl⟩ (by decide) (.inl rfl) (na ⟨.inl rfl⟩ (by decide) (fun B lo hi L a b=>by kernel_rfl))
theorem Jr(B lo hi:Int)(L:List Int):mU 64790 (14:Nat) B lo hi L:=mR (N:=2) (Lr:=1) (l:=nB 8 14 false) (sc:=2) ⟨fun B lo hi L a b c d=>⟨.inr (by kernel_rfl),.inr (by kernel_rfl),.inl rfl,.inr (by kernel_rfl),.inr (by kernel_rfl)⟩,fun B lo hi L b=>by kernel_rfl,n8,by kernel_rfl,by kernel_rfl,by kernel_rfl⟩ (by decide) (.inl rfl) (na ⟨.inl rfl⟩ (by decide) (fun B lo hi L a b=>by kernel_rfl))
theorem Js(B lo hi:Int)(L:List Int):mU 64790 (15:Nat) B lo hi L:=mR (N:=2) (Lr:=1) (l:=nB 8 15 false) (sc:=2) ⟨fun B lo hi L a b c d=>⟨.inr (by kernel_rfl),.inr (by kernel_rfl),.inl rfl,.inr (by kernel_rfl),.inr (by kernel_rfl)⟩,fun B lo hi L b=>by kernel_rfl,n8,by kernel_rfl,by kernel_rfl,by kernel_rfl⟩ (by decide) (.inl rfl) (na ⟨.inl rfl⟩ (by decide) (fun B lo hi L a b=>by kernel_rfl))
theorem Ws(A:Nat)(h:A<16)(B lo hi:Int)(L:List Int):mU 64790 (A:Nat) B lo hi L:=
 match A,h with
 |0,_=>LY B lo hi L
 |1,_=>LZ B lo hi L
 |2,_=>L1 B lo hi L
 |3,_=>L2 B lo hi L
 |4,_=>L3 B lo hi L
 |5,_=>L4 B lo hi L
 |6,_=>L5 B lo hi L
 |7,_=>L6 B lo hi L
 |8,_=>L7 B lo hi L
 |9,_=>L8 B lo hi L
 |10,_=>Jn B lo hi L
 |11,_=>Jo B lo hi L
 |12,_=>Jp B lo hi L
 |13,_=>Jq B lo hi L
 |14,_=>Jr B lo hi L
 |15,_=>Js B lo hi L
 |n+16,h=>absurd h (by omega)
theorem Jt:LE 64798 3 2 false:=fun g A B lo hi L x0 x1 x2 x3=>by kernel_rfl
theorem L9(B lo hi:Int)(L:List Int):mU 64798 (0:Nat) B lo hi L:=mR (N:=3) (Lr:=2) (l:=qb 64 0) (sc:=3) ⟨fun B lo hi L a b c d=>⟨.inr (by kernel_rfl),.inr (by kernel_rfl),.inr (by kernel_rfl),.inl rfl,.inr (by kernel_rfl)⟩,fun B lo hi L b=>by kernel_rfl,Jt,by kernel_rfl,by kernel_rfl,by kernel_rfl⟩ (by decide) (.inr rfl) (mW (w:=64) (by simp) (by decide) (fun B lo hi L a b c=>by kernel_rfl))
theorem L'(B lo hi:Int)(L:List Int):mU 64798 (1:Nat) B lo hi L:=mR (N:=3) (Lr:=2) (l:=qb 64 1) (sc:=3) ⟨fun B lo hi L a b c d=>⟨.inr (by kernel_rfl),.inr (by kernel_rfl),.inr (by kernel_rfl),.inl rfl,.inr (by kernel_rfl)⟩,fun B lo hi L b=>by kernel_rfl,Jt,by kernel_rfl,by kernel_rfl,by kernel_rfl⟩ (by decide) (.inr rfl) (mW (w:=64) (by simp) (by decide) (fun B lo hi L a b c=>by kernel_rfl))
theorem Wt(A:Nat)(h:A<2)(B lo hi:Int)(L:List Int):mU 64798 (A:Nat) B lo hi L:=
 match A,h with
 |0,_=>L9 B lo hi L
 |1,_=>L' B lo hi L
end Go.Proofs.Vq
