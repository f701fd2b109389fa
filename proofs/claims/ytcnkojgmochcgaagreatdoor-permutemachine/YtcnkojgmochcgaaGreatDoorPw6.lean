import Derived.Test.YtcnkojgmochcgaaGreatDoorPnA
import Derived.Test.YtcnkojgmochcgaaGreatDoorPmJ
noncomputable section
namespace Go.Proofs.Vq
open Go.Ab Go.Ab.Lf Go.Proofs.Sw
set_option maxRecDepth 1000000
theorem r6:LE 64793 2 1 false:=fun g A B lo hi L x0 x1 x2 x3=>by kernel_rfl
theorem Mu(B lo hi:Int)(L:List Int):mU 64793 (0:Nat) B lo hi L:=mR (N:=2) (Lr:=1) (l:=nB 16 0 false) (sc:=2) ⟨fun B lo hi L a b c d=>⟨.inr (by kernel_rfl),.inr (by kernel_rfl),.inl rfl,.inr (by kernel_rfl),.inr (by kernel_rfl)⟩,fun B lo hi L b=>by kernel_rfl,r6,by kernel_rfl,by kernel_rfl,by kernel_rfl⟩ (by decide) (.inl rfl) (na ⟨.inr (.inl rfl)⟩ (by decide) (fun B lo hi L a b=>by kernel_rfl))
theorem Mv(B lo hi:Int)(L:List Int):mU 64793 (1:Nat) B lo hi L:=mR (N:=2) (Lr:=1) (l:=nB 16 1 false) (sc:=2) ⟨fun B lo hi L a b c d=>⟨.inr (by kernel_rfl),.inr (by kernel_rfl),.inl rfl,.inr (by kernel_rfl),.inr (by kernel_rfl)⟩,fun B lo hi L b=>by kernel_rfl,r6,by kernel_rfl,by kernel_rfl,by kernel_rfl⟩ (by decide) (.inl rfl) (na ⟨.inr (.inl rfl)⟩ (by decide) (fun B lo hi L a b=>by kernel_rfl))
theorem Mw(B lo hi:Int)(L:List Int):mU 64793 (2:Nat) B lo hi L:=mR (N:=2) (Lr:=1) (l:=nB 16 2 false) (sc:=2) ⟨fun B lo hi L a b c d=>⟨.inr (by kernel_rfl),.inr (by kernel_rfl),.inl rfl,.inr (by kernel_rfl),.inr (by kernel_rfl)⟩,fun B lo hi L b=>by kernel_rfl,r6,by kernel_rfl,by kernel_rfl,by kernel_rfl⟩ (by decide) (.inl rfl) (na ⟨.inr (.inl rfl)⟩ (by decide) (fun B lo hi L a b=>by kernel_rfl))
theorem Mx(B lo hi:Int)(L:List Int):mU 64793 (3:Nat) B lo hi L:=mR (N:=2) (Lr:=1) (l:=nB 16 3 false) (sc:=2) ⟨fun B lo hi L a b c d=>⟨.inr (by kernel_rfl),.inr (by kernel_rfl),.inl rfl,.inr (by kernel_rfl),.inr (by kernel_rfl)⟩,fun B lo hi L b=>by kernel_rfl,r6,by kernel_rfl,by kernel_rfl,by kernel_rfl⟩ (by decide) (.inl rfl) (na ⟨.inr (.inl rfl)⟩ (by decide) (fun B lo hi L a b=>by kernel_rfl))
theorem My(B lo hi:Int)(L:List Int):mU 64793 (4:Nat) B lo hi L:=mR (N:=2) (Lr:=1) (l:=nB 16 4 false) (sc:=2) ⟨fun B lo hi L a b c d=>⟨.inr (by kernel_rfl),.inr (by kernel_rfl),.inl rfl,.inr (by kernel_rfl),.inr (by kernel_rfl)⟩,fun B lo hi L b=>by kernel_rfl,r6,by kernel_rfl,by kernel_rfl,by kernel_rfl⟩ (by decide) (.inl rfl) (na ⟨.inr (.inl rfl)⟩ (by decide) (fun B lo hi L a b=>by kernel_rfl))
theorem Mz(B lo hi:Int)(L:List Int):mU 64793 (5:Nat) B lo hi L:=mR (N:=2) (Lr:=1) (l:=nB 16 5 false) (sc:=2) ⟨fun B lo hi L a b c d=>⟨.inr (by kernel_rfl),.inr (by kernel_rfl),.inl rfl,.inr (by kernel_rfl),.inr (by kernel_rfl)⟩,fun B lo hi L b=>by kernel_rfl,r6,by kernel_rfl,by kernel_rfl,by kernel_rfl⟩ (by decide) (.inl rfl) (na ⟨.inr (.inl rfl)⟩ (by decide) (fun B lo hi L a b=>by kernel_rfl))
theorem MA(B lo hi:Int)(L:List Int):mU 64793 (6:Nat) B lo hi L:=mR (N:=2) (Lr:=1) (l:=nB 16 6 false) (sc:=2) ⟨fun B lo hi L a b c d=>⟨.inr (by kernel_rfl),.inr (by kernel_rfl),.inl rfl,.inr (by kernel_rfl),.inr (by kernel_rfl)⟩,fun B lo hi L b=>by kernel_rfl,r6,by kernel_rfl,by kernel_rfl,by kernel_rfl⟩ (by decide) (.inl rfl) (na ⟨.inr (.inl rfl)⟩ (by decide) (fun B lo hi L a b=>by kernel_rfl))
theorem MB(B lo hi:Int)(L:List Int):mU 64793 (7:Nat) B lo hi L:=mR (N:=2) (Lr:=1) (l:=nB 16 7 false) (sc:=2) ⟨fun B lo hi L a b c d=>⟨.inr (by kernel_rfl),.inr (by kernel_rfl),.inl rfl,.inr (by kernel_rfl),.inr (by kernel_rfl)⟩,fun B lo hi L b=>by kernel_rfl,r6,by kernel_rfl,by kernel_rfl,by kernel_rfl⟩ (by decide) (.inl rfl) (na ⟨.inr (.inl rfl)⟩ (by decide) (fun B lo hi L a b=>by kernel_rfl))
theorem WU(A:Nat)(h:A<8)(B lo hi:Int)(L:List Int):mU 64793 (A:Nat) B lo hi L:=
 match A,h with
 |0,_=>Mu B lo hi L
 |1,_=>Mv B lo hi L
 |2,_=>Mw B lo hi L
 |3,_=>Mx B lo hi L
 |4,_=>My B lo hi L
 |5,_=>Mz B lo hi L
 |6,_=>MA B lo hi L
 |7,_=>MB B lo hi L
theorem WV(A B lo hi:Int)(L:List Int):mU 64783 A B lo hi L:=VX (N:=1) (Lr:=2) (sm:=true) (l:=Li 8) (sc:=1) ⟨fun A B lo hi L a b c d=>⟨.inr (by kernel_rfl),.inl rfl,.inr (by kernel_rfl),.inr (by kernel_rfl),.inr (by kernel_rfl)⟩,fun A B lo hi L b=>by kernel_rfl,fun g A B lo hi L x0 x1 x2 x3=>by kernel_rfl,by kernel_rfl,by kernel_rfl,by kernel_rfl⟩ (by decide) (.inr rfl) (Bz (by simp) fun A B lo hi L a=>by kernel_rfl)
theorem WW(A B lo hi:Int)(L:List Int):mU 64785 A B lo hi L:=VX (N:=1) (Lr:=2) (sm:=true) (l:=Li 32) (sc:=1) ⟨fun A B lo hi L a b c d=>⟨.inr (by kernel_rfl),.inl rfl,.inr (by kernel_rfl),.inr (by kernel_rfl),.inr (by kernel_rfl)⟩,fun A B lo hi L b=>by kernel_rfl,fun g A B lo hi L x0 x1 x2 x3=>by kernel_rfl,by kernel_rfl,by kernel_rfl,by kernel_rfl⟩ (by decide) (.inr rfl) (Bz (by simp) fun A B lo hi L a=>by kernel_rfl)
theorem Ju:LE 64797 2 1 false:=fun g A B lo hi L x0 x1 x2 x3=>by kernel_rfl
theorem MC(B lo hi:Int)(L:List Int):mU 64797 (0:Nat) B lo hi L:=mR (N:=2) (Lr:=1) (l:=nB 64 0 false) (sc:=2) ⟨fun B lo hi L a b c d=>⟨.inr (by kernel_rfl),.inr (by kernel_rfl),.inl rfl,.inr (by kernel_rfl),.inr (by kernel_rfl)⟩,fun B lo hi L b=>by kernel_rfl,Ju,by kernel_rfl,by kernel_rfl,by kernel_rfl⟩ (by decide) (.inl rfl) (EO (by decide) (fun B lo hi L a b=>by kernel_rfl))
theorem MD(B lo hi:Int)(L:List Int):mU 64797 (1:Nat) B lo hi L:=mR (N:=2) (Lr:=1) (l:=nB 64 1 false) (sc:=2) ⟨fun B lo hi L a b c d=>⟨.inr (by kernel_rfl),.inr (by kernel_rfl),.inl rfl,.inr (by kernel_rfl),.inr (by kernel_rfl)⟩,fun B lo hi L b=>by kernel_rfl,Ju,by kernel_rfl,by kernel_rfl,by kernel_rfl⟩ (by decide) (.inl rfl) (EO (by decide) (fun B lo hi L a b=>by kernel_rfl))
theorem WX(A:Nat)(h:A<2)(B lo hi:Int)(L:List Int):mU 64797 (A:Nat) B lo hi L:=
 match A,h with
 |0,_=>MC B lo hi L
 |1,_=>MD B lo hi L
end Go.Proofs.Vq
