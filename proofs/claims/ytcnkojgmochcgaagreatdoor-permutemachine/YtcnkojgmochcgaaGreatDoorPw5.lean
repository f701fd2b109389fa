import Derived.Test.YtcnkojgmochcgaaGreatDoorPnA
import Derived.Test.YtcnkojgmochcgaaGreatDoorPmJ
noncomputable section
namespace Go.Proofs.Vq
open Go.Ab Go.Ab.Lf Go.Proofs.Sw
set_option maxRecDepth 1000000
theorem r5:LE 64792 2 1 false:=fun g A B lo hi L x0 x1 x2 x3=>by kernel_rfl
theorem Mi(B lo hi:Int)(L:List Int):mU 64792 (0:Nat) B lo hi L:=mR (N:=2) (Lr:=1) (l:=nB 16 0 true) (sc:=2) ⟨fun B lo hi L a b c d=>⟨.inr (by kernel_rfl),.inr (by kernel_rfl),.inl rfl,.inr (by kernel_rfl),.inr (by kernel_rfl)⟩,fun B lo hi L b=>by kernel_rfl,r5,by kernel_rfl,by kernel_rfl,by kernel_rfl⟩ (by decide) (.inl rfl) (mY ⟨.inr (.inl rfl)⟩ (by decide) (fun B lo hi L a b=>by kernel_rfl))
theorem Mj(B lo hi:Int)(L:List Int):mU 64792 (1:Nat) B lo hi L:=mR (N:=2) (Lr:=1) (l:=nB 16 1 true) (sc:=2) ⟨fun B lo hi L a b c d=>⟨.inr (by kernel_rfl),.inr (by kernel_rfl),.inl rfl,.inr (by kernel_rfl),.inr (by kernel_rfl)⟩,fun B lo hi L b=>by kernel_rfl,r5,by kernel_rfl,by kernel_rfl,by kernel_rfl⟩ (by decide) (.inl rfl) (mY ⟨.inr (.inl rfl)⟩ (by decide) (fun B lo hi L a b=>by kernel_rfl))
theorem Mk(B lo hi:Int)(L:List Int):mU 64792 (2:Nat) B lo hi L:=mR (N:=2) (Lr:=1) (l:=nB 16 2 true) (sc:=2) ⟨fun B lo hi L a b c d=>⟨.inr (by kernel_rfl),.inr (by kernel_rfl),.inl rfl,.inr (by kernel_rfl),.inr (by kernel_rfl)⟩,fun B lo hi L b=>by kernel_rfl,r5,by kernel_rfl,by kernel_rfl,by kernel_rfl⟩ (by decide) (.inl rfl) (mY ⟨.inr (.inl rfl)⟩ (by decide) (fun B lo hi L a b=>by kernel_rfl))
theorem Ml(B lo hi:Int)(L:List Int):mU 64792 (3:Nat) B lo hi L:=mR (N:=2) (Lr:=1) (l:=nB 16 3 true) (sc:=2) ⟨fun B lo hi L a b c d=>⟨.inr (by kernel_rfl),.inr (by kernel_rfl),.inl rfl,.inr (by kernel_rfl),.inr (by kernel_rfl)⟩,fun B lo hi L b=>by kernel_rfl,r5,by kernel_rfl,by kernel_rfl,by kernel_rfl⟩ (by decide) (.inl rfl) (mY ⟨.inr (.inl rfl)⟩ (by decide) (fun B lo hi L a b=>by kernel_rfl))
theorem Mm(B lo hi:Int)(L:List Int):mU 64792 (4:Nat) B lo hi L:=mR (N:=2) (Lr:=1) (l:=nB 16 4 true) (sc:=2) ⟨fun B lo hi L a b c d=>⟨.inr (by kernel_rfl),.inr (by kernel_rfl),.inl rfl,.inr (by kernel_rfl),.inr (by kernel_rfl)⟩,fun B lo hi L b=>by kernel_rfl,r5,by kernel_rfl,by kernel_rfl,by kernel_rfl⟩ (by decide) (.inl rfl) (mY ⟨.inr (.inl rfl)⟩ (by decide) (fun B lo hi L a b=>by kernel_rfl))
theorem Mn(B lo hi:Int)(L:List Int):mU 64792 (5:Nat) B lo hi L:=mR (N:=2) (Lr:=1) (l:=nB 16 5 true) (sc:=2) ⟨fun B lo hi L a b c d=>⟨.inr (by kernel_rfl),.inr (by kernel_rfl),.inl rfl,.inr (by kernel_rfl),.inr (by kernel_rfl)⟩,fun B lo hi L b=>by kernel_rfl,r5,by kernel_rfl,by kernel_rfl,by kernel_rfl⟩ (by decide) (.inl rfl) (mY ⟨.inr (.inl rfl)⟩ (by decide) (fun B lo hi L a b=>by kernel_rfl))
theorem Mo(B lo hi:Int)(L:List Int):mU 64792 (6:Nat) B lo hi L:=mR (N:=2) (Lr:=1) (l:=nB 16 6 true) (sc:=2) ⟨fun B lo hi L a b c d=>⟨.inr (by kernel_rfl),.inr (by kernel_rfl),.inl rfl,.inr (by kernel_rfl),.inr (by kernel_rfl)⟩,fun B lo hi L b=>by kernel_rfl,r5,by kernel_rfl,by kernel_rfl,by kernel_rfl⟩ (by decide) (.inl rfl) (mY ⟨.inr (.inl rfl)⟩ (by decide) (fun B lo hi L a b=>by kernel_rfl))
theorem Mp(B lo hi:Int)(L:List Int):mU 64792 (7:Nat) B lo hi L:=mR (N:=2) (Lr:=1) (l:=nB 16 7 true) (sc:=2) ⟨fun B lo hi L a b c d=>⟨.inr (by kernel_rfl),.inr (by kernel_rfl),.inl rfl,.inr (by kernel_rfl),.inr (by kernel_rfl)⟩,fun B lo hi L b=>by kernel_rfl,r5,by kernel_rfl,by kernel_rfl,by kernel_rfl⟩ (by decide) (.inl rfl) (mY ⟨.inr (.inl rfl)⟩ (by decide) (fun B lo hi L a b=>by kernel_rfl))
theorem WJ(A:Nat)(h:A<8)(B lo hi:Int)(L:List Int):mU 64792 (A:Nat) B lo hi L:=
 match A,h with
 |0,_=>Mi B lo hi L
 |1,_=>Mj B lo hi L
 |2,_=>Mk B lo hi L
 |3,_=>Ml B lo hi L
 |4,_=>Mm B lo hi L
 |5,_=>Mn B lo hi L
 |6,_=>Mo B lo hi L
 |7,_=>Mp B lo hi L
theorem zj:LE 64796 3 2 true:=fun g A B lo hi L x0 x1 x2 x3=>by kernel_rfl
theorem Mq(B lo hi:Int)(L:List Int):mU 64796 (0:Nat) B lo hi L:=mR (N:=3) (Lr:=2) (l:=qb 32 0) (sc:=3) ⟨fun B lo hi L a b c d=>⟨.inr (by kernel_rfl),.inr (by kernel_rfl),.inr (by kernel_rfl),.inl rfl,.inr (by kernel_rfl)⟩,fun B lo hi L b=>by kernel_rfl,zj,by kernel_rfl,by kernel_rfl,by kernel_rfl⟩ (by decide) (.inr rfl) (mW (w:=32) (by simp) (by decide) (fun B lo hi L a b c=>by kernel_rfl))
theorem Mr(B lo hi:Int)(L:List Int):mU 64796 (1:Nat) B lo hi L:=mR (N:=3) (Lr:=2) (l:=qb 32 1) (sc:=3) ⟨fun B lo hi L a b c d=>⟨.inr (by kernel_rfl),.inr (by kernel_rfl),.inr (by kernel_rfl),.inl rfl,.inr (by kernel_rfl)⟩,fun B lo hi L b=>by kernel_rfl,zj,by kernel_rfl,by kernel_rfl,by kernel_rfl⟩ (by decide) (.inr rfl) (mW (w:=32) (by simp) (by decide) (fun B lo hi L a b c=>by kernel_rfl))
theorem Ms(B lo hi:Int)(L:List Int):mU 64796 (2:Nat) B lo hi L:=mR (N:=3) (Lr:=2) (l:=qb 32 2) (sc:=3) ⟨fun B lo hi L a b c d=>⟨.inr (by kernel_rfl),.inr (by kernel_rfl),.inr (by kernel_rfl),.inl rfl,.inr (by kernel_rfl)⟩,fun B lo hi L b=>by kernel_rfl,zj,by kernel_rfl,by kernel_rfl,by kernel_rfl⟩ (by decide) (.inr rfl) (mW (w:=32) (by simp) (by decide) (fun B lo hi L a b c=>by kernel_rfl))
theorem Mt(B lo hi:Int)(L:List Int):mU 64796 (3:Nat) B lo hi L:=mR (N:=3) (Lr:=2) (l:=qb 32 3) (sc:=3) ⟨fun B lo hi L a b c d=>⟨.inr (by kernel_rfl),.inr (by kernel_rfl),.inr (by kernel_rfl),.inl rfl,.inr (by kernel_rfl)⟩,fun B lo hi L b=>by kernel_rfl,zj,by kernel_rfl,by kernel_rfl,by kernel_rfl⟩ (by decide) (.inr rfl) (mW (w:=32) (by simp) (by decide) (fun B lo hi L a b c=>by kernel_rfl))
theorem WK(A:Nat)(h:A<4)(B lo hi:Int)(L:List Int):mU 64796 (A:Nat) B lo hi L:=
 match A,h with
 |0,_=>Mq B lo hi L
 |1,_=>Mr B lo hi L
 |2,_=>Ms B lo hi L
 |3,_=>Mt B lo hi L
theorem WL(A B lo hi:Int)(L:List Int):mU 64786 A B lo hi L:=VX (N:=1) (Lr:=2) (sm:=false) (l:=Li 64) (sc:=1) ⟨fun A B lo hi L a b c d=>⟨.inr (by kernel_rfl),.inl rfl,.inr (by kernel_rfl),.inr (by kernel_rfl),.inr (by kernel_rfl)⟩,fun A B lo hi L b=>by kernel_rfl,fun g A B lo hi L x0 x1 x2 x3=>by kernel_rfl,by kernel_rfl,by kernel_rfl,by kernel_rfl⟩ (by decide) (.inr rfl) (Bz (by simp) fun A B lo hi L a=>by kernel_rfl)
end Go.Proofs.Vq
