import Derived.Test.YtcnkojgmochcgaaGreatDoorPnA
import Derived.Test.YtcnkojgmochcgaaGreatDoorPmJ
noncomputable section
namespace Go.Proofs.Vq
open Go.Ab Go.Ab.Lf Go.Proofs.Sw
set_option maxRecDepth 1000000
theorem n7:LE 64789 2 1 false:=fun g A B lo hi L x0 x1 x2 x3=>by kernel_rfl
theorem LH(B lo hi:Int)(L:List Int):mU 64789 (0:Nat) B lo hi L:=mR (N:=2) (Lr:=1) (l:=nB 8 0 true) (sc:=2) ⟨fun B lo hi L a b c d=>⟨.inr (by kernel_rfl),.inr (by kernel_rfl),.inl rfl,.inr (by kernel_rfl),.inr (by kernel_rfl)⟩,fun B lo hi L b=>by kernel_rfl,n7,by kernel_rfl,by kernel_rfl,by kernel_rfl⟩ (by decide) (.inl rfl) (mY ⟨.inl rfl⟩ (by decide) (fun B lo hi L a b=>by kernel_rfl))
theorem LI(B lo hi:Int)(L:List Int):mU 64789 (1:Nat) B lo hi L:=mR (N:=2) (Lr:=1) (l:=nB 8 1 true) (sc:=2) ⟨fun B lo hi L a b c d=>⟨.inr (by kernel_rfl),.inr (by kernel_rfl),.inl rfl,.inr (by kernel_rfl),.inr (by kernel_rfl)⟩,fun B lo hi L b=>by kernel_rfl,n7,by kernel_rfl,by kernel_rfl,by kernel_rfl⟩ (by decide) (.inl rfl) (mY ⟨.inl rfl⟩ (by decide) (fun B lo hi L a b=>by kernel_rfl))
theorem LJ(B lo hi:Int)(L:List Int):mU 64789 (2:Nat) B lo hi L:=mR (N:=2) (Lr:=1) (l:=nB 8 2 true) (sc:=2) ⟨fun B lo hi L a b c d=>⟨.inr (by kernel_rfl),.inr (by kernel_rfl),.inl rfl,.inr (by kernel_rfl),.inr (by kernel_rfl)⟩,fun B lo hi L b=>by kernel_rfl,n7,by kernel_rfl,by kernel_rfl,by kernel_rfl⟩ (by decide) (.inl rfl) (mY ⟨.inl rfl⟩ (by decide) (fun B lo hi L a b=>by kernel_rfl))
theorem LK(B lo hi:Int)(L:List Int):mU 64789 (3:Nat) B lo hi L:=mR (N:=2) (Lr:=1) (l:=nB 8 3 true) (sc:=2) ⟨fun B lo hi L a b c d=>⟨.inr (by kernel_rfl),.inr (by kernel_rfl),.inl rfl,.inr (by kernel_rfl),.inr (by kernel_rfl)⟩,fun B lo hi L b=>by kernel_rfl,n7,by kernel_rfl,by kernel_rfl,by kernel_rfl⟩ (by decide) (.inl rfl) (mY ⟨.inl rfl⟩ (by decide) (fun B lo hi L a b=>by kernel_rfl))
theorem LL(B lo hi:Int)(L:List Int):mU 64789 (4:Nat) B lo hi L:=mR (N:=2) (Lr:=1) (l:=nB 8 4 true) (sc:=2) ⟨fun B lo hi L a b c d=>⟨.inr (by kernel_rfl),.inr (by kernel_rfl),.inl rfl,.inr (by kernel_rfl),.inr (by kernel_rfl)⟩,fun B lo hi L b=>by kernel_rfl,n7,by kernel_rfl,by kernel_rfl,by kernel_rfl⟩ (by decide) (.inl rfl) (mY ⟨.inl rfl⟩ (by decide) (fun B lo hi L a b=>by kernel_rfl))
theorem LM(B lo hi:Int)(L:List Int):mU 64789 (5:Nat) B lo hi L:=mR (N:=2) (Lr:=1) (l:=nB 8 5 true) (sc:=2) ⟨fun B lo hi L a b c d=>⟨.inr (by kernel_rfl),.inr (by kernel_rfl),.inl rfl,.inr (by kernel_rfl),.inr (by kernel_rfl)⟩,fun B lo hi L b=>by kernel_rfl,n7,by kernel_rfl,by kernel_rfl,by kernel_rfl⟩ (by decide) (.inl rfl) (mY ⟨.inl rfl⟩ (by decide) (fun B lo hi L a b=>by kernel_rfl))
theorem LO(B lo hi:Int)(L:List Int):mU 64789 (6:Nat) B lo hi L:=mR (N:=2) (Lr:=1) (l:=nB 8 6 true) (sc:=2) ⟨fun B lo hi L a b c d=>⟨.inr (by kernel_rfl),.inr (by kernel_rfl),.inl rfl,.inr (by kernel_rfl),.inr (by kernel_rfl)⟩,fun B lo hi L b=>by kernel_rfl,n7,by kernel_rfl,by kernel_rfl,by kernel_rfl⟩ (by decide) (.inl rfl) (mY ⟨.inl rfl⟩ (by decide) (fun B lo hi L a b=>by kernel_rfl))
theorem LP(B lo hi:Int)(L:List Int):mU 64789 (7:Nat) B lo hi L:=mR (N:=2) (Lr:=1) (l:=nB 8 7 true) (sc:=2) ⟨fun B lo hi L a b c d=>⟨.inr (by kernel_rfl),.inr (by kernel_rfl),.inl rfl,.inr (by kernel_rfl),.inr (by kernel_rfl)⟩,fun B lo hi L b=>by kernel_rfl,n7,by kernel_rfl,by kernel_rfl,by kernel_rfl⟩ (by decide) (.inl rfl) (mY ⟨.inl rfl⟩ (by decide) (fun B lo hi L a b=>by kernel_rfl))
theorem LQ(B lo hi:Int)(L:List Int):mU 64789 (8:Nat) B lo hi L:=mR (N:=2) (Lr:=1) (l:=nB 8 8 true) (sc:=2) ⟨fun B lo hi L a b c d=>⟨.inr (by kernel_rfl),.inr (by kernel_rfl),.inl rfl,.inr (by kernel_rfl),.inr (by kernel_rfl)⟩,fun B lo hi L b=>by kernel_rfl,n7,by kernel_rfl,by kernel_rfl,by kernel_rfl⟩ (by decide) (.inl rfl) (mY ⟨.inl rfl⟩ (by decide) (fun B lo hi L a b=>by kernel_rfl))
theorem LS(B lo hi:Int)(L:List Int):mU 64789 (9:Nat) B lo hi L:=mR (N:=2) (Lr:=1) (l:=nB 8 9 true) (sc:=2) ⟨fun B lo hi L a b c d=>⟨.inr (by kernel_rfl),.inr (by kernel_rfl),.inl rfl,.inr (by kernel_rfl),.inr (by kernel_rfl)⟩,fun B lo hi L b=>by kernel_rfl,n7,by kernel_rfl,by kernel_rfl,by kernel_rfl⟩ (by decide) (.inl rfl) (mY ⟨.inl rfl⟩ (by decide) (fun B lo hi L a b=>by kernel_rfl))
theorem Jh(B lo hi:Int)(L:List Int):mU 64789 (10:Nat) B lo hi L:=mR (N:=2) (Lr:=1) (l:=nB 8 10 true) (sc:=2) ⟨fun B lo hi L a b c d=>⟨.inr (by kernel_rfl),.inr (by kernel_rfl),.inl rfl,.inr (by kernel_rfl),.inr (by kernel_rfl)⟩,fun B lo hi L b=>by kernel_rfl,n7,by kernel_rfl,by kernel_rfl,by kernel_rfl⟩ (by decide) (.inl rfl) (mY ⟨.inl rfl⟩ (by decide) (fun B lo hi L a b=>by kernel_rfl))
theorem Ji(B lo hi:Int)(L:List Int):mU 64789 (11:Nat) B lo hi L:=mR (N:=2) (Lr:=1) (l:=nB 8 11 true) (sc:=2) ⟨fun B lo hi L a b c d=>⟨.inr (by kernel_rfl),.inr (by kernel_rfl),.inl rfl,.inr (by kernel_rfl),.inr (by kernel_rfl)⟩,fun B lo hi L b=>by kernel_rfl,n7,by kernel_rfl,by kernel_rfl,by kernel_rfl⟩ (by decide) (.inl rfl) (mY ⟨.inl rfl⟩ (by decide) (fun B lo hi L a b=>by kernel_rfl))
theorem Jj(B lo hi:Int)(L:List Int):mU 64789 (12:Nat) B lo hi L:=mR (N:=2) (Lr:=1) (l:=nB 8 12 true) (sc:=2) ⟨fun B lo hi L a b c d=>⟨.inr (by kernel_rfl),.inr (by kernel_rfl),.inl rfl,.inr (by kernel_rfl),.inr (by kernel_rfl)⟩,fun B lo hi L b=>by kernel_rfl,n7,by kernel_rfl,by kernel_rfl,by kernel_rfl⟩ (by decide) (.inl rfl) (mY ⟨.inl rfl⟩ (by decide) (fun B lo hi L a b=>by kernel_rfl))
theorem Jk(B lo hi:Int)(L:List Int):mU 64789 (13:Nat) B lo hi L:=mR (N:=2) (Lr:=1) (l:=nB 8 13 true) (sc:=2) ⟨fun B lo hi L a b c d=>⟨.inr (by kernel_rfl),.inr (by kernel_rfl),.inl rfl,.inr (by kernel_rfl),.inr (by kernel_rfl)⟩,fun B lo hi L b=>by kernel_rfl,n7,by kernel_rfl,by kernel_rfl,by kernel_rfl⟩ (by decide) (.inl rfl) (mY ⟨.inl rfl⟩ (by decide) (fun B lo hi L a b=>by kernel_rfl))
theorem Jl(B lo hi:Int)(L:List Int):mU 64789 (14:Nat) B lo hi L:=mR (N:=2) (Lr:=1) (l:=nB 8 14 true) (sc:=2) ⟨fun B lo hi L a b c d=>⟨.inr (by kernel_rfl),.inr (by kernel_rfl),.inl rfl,.inr (by kernel_rfl),.inr (by kernel_rfl)⟩,fun B lo hi L b=>by kernel_rfl,n7,by kernel_rfl,by kernel_rfl,by kernel_rfl⟩ (by decide) (.inl rfl) (mY ⟨.inl rfl⟩ (by decide) (fun B lo hi L a b=>by kernel_rfl))
theorem Jm(B lo hi:Int)(L:List Int):mU 64789 (15:Nat) B lo hi L:=mR (N:=2) (Lr:=1) (l:=nB 8 15 true) (sc:=2) ⟨fun B lo hi L a b c d=>⟨.inr (by kernel_rfl),.inr (by kernel_rfl),.inl rfl,.inr (by kernel_rfl),.inr (by kernel_rfl)⟩,fun B lo hi L b=>by kernel_rfl,n7,by kernel_rfl,by kernel_rfl,by kernel_rfl⟩ (by decide) (.inl rfl) (mY ⟨.inl rfl⟩ (by decide) (fun B lo hi L a b=>by kernel_rfl))
theorem Wi(A:Nat)(h:A<16)(B lo hi:Int)(L:List Int):mU 64789 (A:Nat) B lo hi L:=
 match A,h with
 |0,_=>LH B lo hi L
 |1,_=>LI B lo hi L
 |2,_=>LJ B lo hi L
 |3,_=>LK B lo hi L
 |4,_=>LL B lo hi L
 |5,_=>LM B lo hi L
 |6,_=>LO B lo hi L
 |7,_=>LP B lo hi L
 |8,_=>LQ B lo hi L
 |9,_=>LS B lo hi L
 |10,_=>Jh B lo hi L
 |11,_=>Ji B lo hi L
 |12,_=>Jj B lo hi L
 |13,_=>Jk B lo hi L
 |14,_=>Jl B lo hi L
 |15,_=>Jm B lo hi L
 |n+16,h=>absurd h (by omega)
theorem zi:LE 64795 2 1 false:=fun g A B lo hi L x0 x1 x2 x3=>by kernel_rfl
theorem LU(B lo hi:Int)(L:List Int):mU 64795 (0:Nat) B lo hi L:=mR (N:=2) (Lr:=1) (l:=nB 32 0 false) (sc:=2) ⟨fun B lo hi L a b c d=>⟨.inr (by kernel_rfl),.inr (by kernel_rfl),.inl rfl,.inr (by kernel_rfl),.inr (by kernel_rfl)⟩,fun B lo hi L b=>by kernel_rfl,zi,by kernel_rfl,by kernel_rfl,by kernel_rfl⟩ (by decide) (.inl rfl) (na ⟨.inr (.inr rfl)⟩ (by decide) (fun B lo hi L a b=>by kernel_rfl))
theorem LV(B lo hi:Int)(L:List Int):mU 64795 (1:Nat) B lo hi L:=mR (N:=2) (Lr:=1) (l:=nB 32 1 false) (sc:=2) ⟨fun B lo hi L a b c d=>⟨.inr (by kernel_rfl),.inr (by kernel_rfl),.inl rfl,.inr (by kernel_rfl),.inr (by kernel_rfl)⟩,fun B lo hi L b=>by kernel_rfl,zi,by kernel_rfl,by kernel_rfl,by kernel_rfl⟩ (by decide) (.inl rfl) (na ⟨.inr (.inr rfl)⟩ (by decide) (fun B lo hi L a b=>by kernel_rfl))
theorem LW(B lo hi:Int)(L:List Int):mU 64795 (2:Nat) B lo hi L:=mR (N:=2) (Lr:=1) (l:=nB 32 2 false) (sc:=2) ⟨fun B lo hi L a b c d=>⟨.inr (by kernel_rfl),.inr (by kernel_rfl),.inl rfl,.inr (by kernel_rfl),.inr (by kernel_rfl)⟩,fun B lo hi L b=>by kernel_rfl,zi,by kernel_rfl,by kernel_rfl,by kernel_rfl⟩ (by decide) (.inl rfl) (na ⟨.inr (.inr rfl)⟩ (by decide) (fun B lo hi L a b=>by kernel_rfl))
theorem LX(B lo hi:Int)(L:List Int):mU 64795 (3:Nat) B lo hi L:=mR (N:=2) (Lr:=1) (l:=nB 32 3 false) (sc:=2) ⟨fun B lo hi L a b c d=>⟨.inr (by kernel_rfl),.inr (by kernel_rfl),.inl rfl,.inr (by kernel_rfl),.inr (by kernel_rfl)⟩,fun B lo hi L b=>by kernel_rfl,zi,by kernel_rfl,by kernel_rfl,by kernel_rfl⟩ (by decide) (.inl rfl) (na ⟨.inr (.inr rfl)⟩ (by decide) (fun B lo hi L a b=>by kernel_rfl))
theorem Wj(A:Nat)(h:A<4)(B lo hi:Int)(L:List Int):mU 64795 (A:Nat) B lo hi L:=
 match A,h with
 |0,_=>LU B lo hi L
 |1,_=>LV B lo hi L
 |2,_=>LW B lo hi L
 |3,_=>LX B lo hi L
end Go.Proofs.Vq
