import Derived.Test.YtcnkojgmochcgaaGreatDoorPnA
import Derived.Test.YtcnkojgmochcgaaGreatDoorPmJ
noncomputable section
namespace Go.Proofs.Vq
open Go.Ab Go.Ab.Lf Go.Proofs.Sw
set_option maxRecDepth 1000000
theorem n5:LE 64791 3 2 true:=fun g A B lo hi L x0 x1 x2 x3=>by kernel_rfl
theorem Lv(B lo hi:Int)(L:List Int):mU 64791 (0:Nat) B lo hi L:=mR (N:=3) (Lr:=2) (l:=qb 8 0) (sc:=3) ⟨fun B lo hi L a b c d=>⟨.inr (by kernel_rfl),.inr (by kernel_rfl),.inr (by kernel_rfl),.inl rfl,.inr (by kernel_rfl)⟩,fun B lo hi L b=>by kernel_rfl,n5,by kernel_rfl,by kernel_rfl,by kernel_rfl⟩ (by decide) (.inr rfl) (mW (w:=8) (by simp) (by decide) (fun B lo hi L a b c=>by kernel_rfl))
theorem Lw(B lo hi:Int)(L:List Int):mU 64791 (1:Nat) B lo hi L:=mR (N:=3) (Lr:=2) (l:=qb 8 1) (sc:=3) ⟨fun B lo hi L a b c d=>⟨.inr (by kernel_rfl),.inr (by kernel_rfl),.inr (by kernel_rfl),.inl rfl,.inr (by kernel_rfl)⟩,fun B lo hi L b=>by kernel_rfl,n5,by kernel_rfl,by kernel_rfl,by kernel_rfl⟩ (by decide) (.inr rfl) (mW (w:=8) (by simp) (by decide) (fun B lo hi L a b c=>by kernel_rfl))
theorem Lx(B lo hi:Int)(L:List Int):mU 64791 (2:Nat) B lo hi L:=mR (N:=3) (Lr:=2) (l:=qb 8 2) (sc:=3) ⟨fun B lo hi L a b c d=>⟨.inr (by kernel_rfl),.inr (by kernel_rfl),.inr (by kernel_rfl),.inl rfl,.inr (by kernel_rfl)⟩,fun B lo hi L b=>by kernel_rfl,n5,by kernel_rfl,by kernel_rfl,by kernel_rfl⟩ (by decide) (.inr rfl) (mW (w:=8) (by simp) (by decide) (fun B lo hi L a b c=>by kernel_rfl))
theorem Ly(B lo hi:Int)(L:List Int):mU 64791 (3:Nat) B lo hi L:=mR (N:=3) (Lr:=2) (l:=qb 8 3) (sc:=3) ⟨fun B lo hi L a b c d=>⟨.inr (by kernel_rfl),.inr (by kernel_rfl),.inr (by kernel_rfl),.inl rfl,.inr (by kernel_rfl)⟩,fun B lo hi L b=>by kernel_rfl,n5,by kernel_rfl,by kernel_rfl,by kernel_rfl⟩ (by decide) (.inr rfl) (mW (w:=8) (by simp) (by decide) (fun B lo hi L a b c=>by kernel_rfl))
theorem Lz(B lo hi:Int)(L:List Int):mU 64791 (4:Nat) B lo hi L:=mR (N:=3) (Lr:=2) (l:=qb 8 4) (sc:=3) ⟨fun B lo hi L a b c d=>⟨.inr (by kernel_rfl),.inr (by kernel_rfl),.inr (by kernel_rfl),.inl rfl,.inr (by kernel_rfl)⟩,fun B lo hi L b=>by kernel_rfl,n5,by kernel_rfl,by kernel_rfl,by kernel_rfl⟩ (by decide) (.inr rfl) (mW (w:=8) (by simp) (by decide) (fun B lo hi L a b c=>by kernel_rfl))
theorem LA(B lo hi:Int)(L:List Int):mU 64791 (5:Nat) B lo hi L:=mR (N:=3) (Lr:=2) (l:=qb 8 5) (sc:=3) ⟨fun B lo hi L a b c d=>⟨.inr (by kernel_rfl),.inr (by kernel_rfl),.inr (by kernel_rfl),.inl rfl,.inr (by kernel_rfl)⟩,fun B lo hi L b=>by kernel_rfl,n5,by kernel_rfl,by kernel_rfl,by kernel_rfl⟩ (by decide) (.inr rfl) (mW (w:=8) (by simp) (by decide) (fun B lo hi L a b c=>by kernel_rfl))
theorem LC(B lo hi:Int)(L:List Int):mU 64791 (6:Nat) B lo hi L:=mR (N:=3) (Lr:=2) (l:=qb 8 6) (sc:=3) ⟨fun B lo hi L a b c d=>⟨.inr (by kernel_rfl),.inr (by kernel_rfl),.inr (by kernel_rfl),.inl rfl,.inr (by kernel_rfl)⟩,fun B lo hi L b=>by kernel_rfl,n5,by kernel_rfl,by kernel_rfl,by kernel_rfl⟩ (by decide) (.inr rfl) (mW (w:=8) (by simp) (by decide) (fun B lo hi L a b c=>by kernel_rfl))
theorem LD(B lo hi:Int)(L:List Int):mU 64791 (7:Nat) B lo hi L:=mR (N:=3) (Lr:=2) (l:=qb 8 7) (sc:=3) ⟨fun B lo hi L a b c d=>⟨.inr (by kernel_rfl),.inr (by kernel_rfl),.inr (by kernel_rfl),.inl rfl,.inr (by kernel_rfl)⟩,fun B lo hi L b=>by kernel_rfl,n5,by kernel_rfl,by kernel_rfl,by kernel_rfl⟩ (by decide) (.inr rfl) (mW (w:=8) (by simp) (by decide) (fun B lo hi L a b c=>by kernel_rfl))
theorem LF(B lo hi:Int)(L:List Int):mU 64791 (8:Nat) B lo hi L:=mR (N:=3) (Lr:=2) (l:=qb 8 8) (sc:=3) ⟨fun B lo hi L a b c d=>⟨.inr (by kernel_rfl),.inr (by kernel_rfl),.inr (by kernel_rfl),.inl rfl,.inr (by kernel_rfl)⟩,fun B lo hi L b=>by kernel_rfl,n5,by kernel_rfl,by kernel_rfl,by kernel_rfl⟩ (by decide) (.inr rfl) (mW (w:=8) (by simp) (by decide) (fun B lo hi L a b c=>by kernel_rfl))
theorem LG(B lo hi:Int)(L:List Int):mU 64791 (9:Nat) B lo hi L:=mR (N:=3) (Lr:=2) (l:=qb 8 9) (sc:=3) ⟨fun B lo hi L a b c d=>⟨.inr (by kernel_rfl),.inr (by kernel_rfl),.inr (by kernel_rfl),.inl rfl,.inr (by kernel_rfl)⟩,fun B lo hi L b=>by kernel_rfl,n5,by kernel_rfl,by kernel_rfl,by kernel_rfl⟩ (by decide) (.inr rfl) (mW (w:=8) (by simp) (by decide) (fun B lo hi L a b c=>by kernel_rfl))
theorem Jb(B lo hi:Int)(L:List Int):mU 64791 (10:Nat) B lo hi L:=mR (N:=3) (Lr:=2) (l:=qb 8 10) (sc:=3) ⟨fun B lo hi L a b c d=>⟨.inr (by kernel_rfl),.inr (by kernel_rfl),.inr (by kernel_rfl),.inl rfl,.inr (by kernel_rfl)⟩,fun B lo hi L b=>by kernel_rfl,n5,by kernel_rfl,by kernel_rfl,by kernel_rfl⟩ (by decide) (.inr rfl) (mW (w:=8) (by simp) (by decide) (fun B lo hi L a b c=>by kernel_rfl))
theorem Jc(B lo hi:Int)(L:List Int):mU 64791 (11:Nat) B lo hi L:=mR (N:=3) (Lr:=2) (l:=qb 8 11) (sc:=3) ⟨fun B lo hi L a b c d=>⟨.inr (by kernel_rfl),.inr (by kernel_rfl),.inr (by kernel_rfl),.inl rfl,.inr (by kernel_rfl)⟩,fun B lo hi L b=>by kernel_rfl,n5,by kernel_rfl,by kernel_rfl,by kernel_rfl⟩ (by decide) (.inr rfl) (mW (w:=8) (by simp) (by decide) (fun B lo hi L a b c=>by kernel_rfl))
theorem Jd(B lo hi:Int)(L:List Int):mU 64791 (12:Nat) B lo hi L:=mR (N:=3) (Lr:=2) (l:=qb 8 12) (sc:=3) ⟨fun B lo hi L a b c d=>⟨.inr (by kernel_rfl),.inr (by kernel_rfl),.inr (by kernel_rfl),.inl rfl,.inr (by kernel_rfl)⟩,fun B lo hi L b=>by kernel_rfl,n5,by kernel_rfl,by kernel_rfl,by kernel_rfl⟩ (by decide) (.inr rfl) (mW (w:=8) (by simp) (by decide) (fun B lo hi L a b c=>by kernel_rfl))
theorem Je(B lo hi:Int)(L:List Int):mU 64791 (13:Nat) B lo hi L:=mR (N:=3) (Lr:=2) (l:=qb 8 13) (sc:=3) ⟨fun B lo hi L a b c d=>⟨.inr (by kernel_rfl),.inr (by kernel_rfl),.inr (by kernel_rfl),.inl rfl,.inr (by kernel_rfl)⟩,fun B lo hi L b=>by kernel_rfl,n5,by kernel_rfl,by kernel_rfl,by kernel_rfl⟩ (by decide) (.inr rfl) (mW (w:=8) (by simp) (by decide) (fun B lo hi L a b c=>by kernel_rfl))
theorem Jf(B lo hi:Int)(L:List Int):mU 64791 (14:Nat) B lo hi L:=mR (N:=3) (Lr:=2) (l:=qb 8 14) (sc:=3) ⟨fun B lo hi L a b c d=>⟨.inr (by kernel_rfl),.inr (by kernel_rfl),.inr (by kernel_rfl),.inl rfl,.inr (by kernel_rfl)⟩,fun B lo hi L b=>by kernel_rfl,n5,by kernel_rfl,by kernel_rfl,by kernel_rfl⟩ (by decide) (.inr rfl) (mW (w:=8) (by simp) (by decide) (fun B lo hi L a b c=>by kernel_rfl))
theorem Jg(B lo hi:Int)(L:List Int):mU 64791 (15:Nat) B lo hi L:=mR (N:=3) (Lr:=2) (l:=qb 8 15) (sc:=3) ⟨fun B lo hi L a b c d=>⟨.inr (by kernel_rfl),.inr (by kernel_rfl),.inr (by kernel_rfl),.inl rfl,.inr (by kernel_rfl)⟩,fun B lo hi L b=>by kernel_rfl,n5,by kernel_rfl,by kernel_rfl,by kernel_rfl⟩ (by decide) (.inr rfl) (mW (w:=8) (by simp) (by decide) (fun B lo hi L a b c=>by kernel_rfl))
theorem V8(A:Nat)(h:A<16)(B lo hi:Int)(L:List Int):mU 64791 (A:Nat) B lo hi L:=
 match A,h with
 |0,_=>Lv B lo hi L
 |1,_=>Lw B lo hi L
 |2,_=>Lx B lo hi L
 |3,_=>Ly B lo hi L
 |4,_=>Lz B lo hi L
 |5,_=>LA B lo hi L
 |6,_=>LC B lo hi L
 |7,_=>LD B lo hi L
 |8,_=>LF B lo hi L
 |9,_=>LG B lo hi L
 |10,_=>Jb B lo hi L
 |11,_=>Jc B lo hi L
 |12,_=>Jd B lo hi L
 |13,_=>Je B lo hi L
 |14,_=>Jf B lo hi L
 |15,_=>Jg B lo hi L
 |n+16,h=>absurd h (by omega)
end Go.Proofs.Vq
