import Derived.Test.YtcnkojgmochcgaaGreatDoorPnA
import Derived.Test.YtcnkojgmochcgaaGreatDoorPmJ
noncomputable section
namespace Go.Proofs.Vq
open Go.Ab Go.Ab.Lf Go.Proofs.Sw
set_option maxRecDepth 1000000
theorem rZ:LE 64794 3 2 true:=fun g A B lo hi L x0 x1 x2 x3=>by kernel_rfl
theorem Ma(B lo hi:Int)(L:List Int):mU 64794 (0:Nat) B lo hi L:=mR (N:=3) (Lr:=2) (l:=qb 16 0) (sc:=3) ⟨fun B lo hi L a b c d=>⟨.inr (by kernel_rfl),.inr (by kernel_rfl),.inr (by kernel_rfl),.inl rfl,.inr (by kernel_rfl)⟩,fun B lo hi L b=>by kernel_rfl,rZ,by kernel_rfl,by kernel_rfl,by kernel_rfl⟩ (by decide) (.inr rfl) (mW (w:=16) (by simp) (by decide) (fun B lo hi L a b c=>by kernel_rfl))
theorem Mb(B lo hi:Int)(L:List Int):mU 64794 (1:Nat) B lo hi L:=mR (N:=3) (Lr:=2) (l:=qb 16 1) (sc:=3) ⟨fun B lo hi L a b c d=>⟨.inr (by kernel_rfl),.inr (by kernel_rfl),.inr (by kernel_rfl),.inl rfl,.inr (by kernel_rfl)⟩,fun B lo hi L b=>by kernel_rfl,rZ,by kernel_rfl,by kernel_rfl,by kernel_rfl⟩ (by decide) (.inr rfl) (mW (w:=16) (by simp) (by decide) (fun B lo hi L a b c=>by kernel_rfl))
theorem Mc(B lo hi:Int)(L:List Int):mU 64794 (2:Nat) B lo hi L:=mR (N:=3) (Lr:=2) (l:=qb 16 2) (sc:=3) ⟨fun B lo hi L a b c d=>⟨.inr (by kernel_rfl),.inr (by kernel_rfl),.inr (by kernel_rfl),.inl rfl,.inr (by kernel_rfl)⟩,fun B lo hi L b=>by kernel_rfl,rZ,by kernel_rfl,by kernel_rfl,by kernel_rfl⟩ (by decide) (.inr rfl) (mW (w:=16) (by simp) (by decide) (fun B lo hi L a b c=>by kernel_rfl))
theorem Md(B lo hi:Int)(L:List Int):mU 64794 (3:Nat) B lo hi L:=mR (N:=3) (Lr:=2) (l:=qb 16 3) (sc:=3) ⟨fun B lo hi L a b c d=>⟨.inr (by kernel_rfl),.inr (by kernel_rfl),.inr (by kernel_rfl),.inl rfl,.inr (by kernel_rfl)⟩,fun B lo hi L b=>by kernel_rfl,rZ,by kernel_rfl,by kernel_rfl,by kernel_rfl⟩ (by decide) (.inr rfl) (mW (w:=16) (by simp) (by decide) (fun B lo hi L a b c=>by kernel_rfl))
theorem Me(B lo hi:Int)(L:List Int):mU 64794 (4:Nat) B lo hi L:=mR (N:=3) (Lr:=2) (l:=qb 16 4) (sc:=3) ⟨fun B lo hi L a b c d=>⟨.inr (by kernel_rfl),.inr (by kernel_rfl),.inr (by kernel_rfl),.inl rfl,.inr (by kernel_rfl)⟩,fun B lo hi L b=>by kernel_rfl,rZ,by kernel_rfl,by kernel_rfl,by kernel_rfl⟩ (by decide) (.inr rfl) (mW (w:=16) (by simp) (by decide) (fun B lo hi L a b c=>by kernel_rfl))
theorem Mf(B lo hi:Int)(L:List Int):mU 64794 (5:Nat) B lo hi L:=mR (N:=3) (Lr:=2) (l:=qb 16 5) (sc:=3) ⟨fun B lo hi L a b c d=>⟨.inr (by kernel_rfl),.inr (by kernel_rfl),.inr (by kernel_rfl),.inl rfl,.inr (by kernel_rfl)⟩,fun B lo hi L b=>by kernel_rfl,rZ,by kernel_rfl,by kernel_rfl,by kernel_rfl⟩ (by decide) (.inr rfl) (mW (w:=16) (by simp) (by decide) (fun B lo hi L a b c=>by kernel_rfl))
theorem Mg(B lo hi:Int)(L:List Int):mU 64794 (6:Nat) B lo hi L:=mR (N:=3) (Lr:=2) (l:=qb 16 6) (sc:=3) ⟨fun B lo hi L a b c d=>⟨.inr (by kernel_rfl),.inr (by kernel_rfl),.inr (by kernel_rfl),.inl rfl,.inr (by kernel_rfl)⟩,fun B lo hi L b=>by kernel_rfl,rZ,by kernel_rfl,by kernel_rfl,by kernel_rfl⟩ (by decide) (.inr rfl) (mW (w:=16) (by simp) (by decide) (fun B lo hi L a b c=>by kernel_rfl))
theorem Mh(B lo hi:Int)(L:List Int):mU 64794 (7:Nat) B lo hi L:=mR (N:=3) (Lr:=2) (l:=qb 16 7) (sc:=3) ⟨fun B lo hi L a b c d=>⟨.inr (by kernel_rfl),.inr (by kernel_rfl),.inr (by kernel_rfl),.inl rfl,.inr (by kernel_rfl)⟩,fun B lo hi L b=>by kernel_rfl,rZ,by kernel_rfl,by kernel_rfl,by kernel_rfl⟩ (by decide) (.inr rfl) (mW (w:=16) (by simp) (by decide) (fun B lo hi L a b c=>by kernel_rfl))
theorem Wz(A:Nat)(h:A<8)(B lo hi:Int)(L:List Int):mU 64794 (A:Nat) B lo hi L:=
 match A,h with
 |0,_=>Ma B lo hi L
 |1,_=>Mb B lo hi L
 |2,_=>Mc B lo hi L
 |3,_=>Md B lo hi L
 |4,_=>Me B lo hi L
 |5,_=>Mf B lo hi L
 |6,_=>Mg B lo hi L
 |7,_=>Mh B lo hi L
theorem WA(A B lo hi:Int)(L:List Int):mU 64784 A B lo hi L:=VX (N:=1) (Lr:=2) (sm:=true) (l:=Li 16) (sc:=1) ⟨fun A B lo hi L a b c d=>⟨.inr (by kernel_rfl),.inl rfl,.inr (by kernel_rfl),.inr (by kernel_rfl),.inr (by kernel_rfl)⟩,fun A B lo hi L b=>by kernel_rfl,fun g A B lo hi L x0 x1 x2 x3=>by kernel_rfl,by kernel_rfl,by kernel_rfl,by kernel_rfl⟩ (by decide) (.inr rfl) (Bz (by simp) fun A B lo hi L a=>by kernel_rfl)
theorem WB(A B:Int){lo hi:Nat}(hl:lo<nh)(hh:hi<nh)(L:List Int):mU 64780 A B (lo:Int) (hi:Int) L:=atQ hl hh (fun A B lo hi L a b c d=>⟨.inl rfl,.inr (by kernel_rfl),.inr (by kernel_rfl),.inr (by kernel_rfl),.inr (by kernel_rfl)⟩) (fun A B lo hi L b=>by kernel_rfl) (fun g A B lo hi L x0 x1 x2 x3=>by kernel_rfl) (fun A B lo hi L=>by kernel_rfl)
end Go.Proofs.Vq
