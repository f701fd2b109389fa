import Derived.Test.YtmicbanhfcibjaaGreatDoorInE
namespace Go.Proofs
open Go.Ab
set_option maxRecDepth 1000000
noncomputable def Tryz.w47z : List Kn := ⟨29, [.int .i64 1, Tryz.XI 1, Tryz.XI 2], .sym .u64 (.var 60) 0 18446744073709551615 0⟩ :: Tryz.of47 :: Tryz.r0
theorem Tryz.w47zA : isT (Tryz.kC Tryz.w47z 3 [Tryz.opA 2, Tryz.B 1, Tryz.B 2] (nilH 0)) = true := by kernel_rfl
theorem Tryz.w47zN : isT (Tryz.kC Tryz.w47z 3 [Tryz.opN 2, Tryz.B 1, Tryz.B 2] (nilH 0)) = true := by kernel_rfl
noncomputable def Tryz.w4bz : List Kn := ⟨29, [.int .i64 5, Tryz.XI 1, Tryz.XI 2], .sym .u64 (.var 60) 0 18446744073709551615 0⟩ :: Tryz.of4b :: Tryz.r0
theorem Tryz.w4bzA : isT (Tryz.kC Tryz.w4bz 3 [Tryz.opA 6, Tryz.B 1, Tryz.B 2] (nilH 0)) = true := by kernel_rfl
theorem Tryz.w4bzN : isT (Tryz.kC Tryz.w4bz 3 [Tryz.opN 6, Tryz.B 1, Tryz.B 2] (nilH 0)) = true := by kernel_rfl
noncomputable def Tryz.w4fz : List Kn := ⟨29, [.int .i64 9, Tryz.XI 1, Tryz.XI 2], .sym .u64 (.var 60) 0 18446744073709551615 0⟩ :: Tryz.of4f :: Tryz.r0
theorem Tryz.w4fzA : isT (Tryz.kC Tryz.w4fz 3 [Tryz.opA 10, Tryz.B 1, Tryz.B 2] (nilH 0)) = true := by kernel_rfl
theorem Tryz.w4fzN : isT (Tryz.kC Tryz.w4fz 3 [Tryz.opN 10, Tryz.B 1, Tryz.B 2] (nilH 0)) = true := by kernel_rfl
noncomputable def Tryz.w53z : List Kn := ⟨29, [.int .i64 2, Tryz.XW 1, Tryz.XW 2], .sym .u64 (.var 60) 0 18446744073709551615 0⟩ :: Tryz.of53 :: Tryz.r0
theorem Tryz.w53zA : isT (Tryz.kC Tryz.w53z 3 [Tryz.opA 14, Tryz.B 1, Tryz.B 2] (nilH 0)) = true := by kernel_rfl
theorem Tryz.w53zN : isT (Tryz.kC Tryz.w53z 3 [Tryz.opN 14, Tryz.B 1, Tryz.B 2] (nilH 0)) = true := by kernel_rfl
noncomputable def Tryz.w57z : List Kn := ⟨29, [.int .i64 6, Tryz.XW 1, Tryz.XW 2], .sym .u64 (.var 60) 0 18446744073709551615 0⟩ :: Tryz.of57 :: Tryz.r0
theorem Tryz.w57zA : isT (Tryz.kC Tryz.w57z 3 [Tryz.opA 18, Tryz.B 1, Tryz.B 2] (nilH 0)) = true := by kernel_rfl
theorem Tryz.w57zN : isT (Tryz.kC Tryz.w57z 3 [Tryz.opN 18, Tryz.B 1, Tryz.B 2] (nilH 0)) = true := by kernel_rfl
noncomputable def Tryz.w67z : List Kn := ⟨33, [Tryz.X32 1], .sym .i64 (.var 60) 0 64 0⟩ :: Tryz.of67 :: Tryz.r0
theorem Tryz.w67zA : isT (Tryz.kC Tryz.w67z 3 [Tryz.opA 34, Tryz.B 1, Tryz.B 2] (nilH 0)) = true := by kernel_rfl
theorem Tryz.w67zN : isT (Tryz.kC Tryz.w67z 3 [Tryz.opN 34, Tryz.B 1, Tryz.B 2] (nilH 0)) = true := by kernel_rfl
noncomputable def Tryz.w6be0 : List Kn := ⟨30, [.int .i64 107, Tryz.X32 1, Tryz.X32 2], .tup [.sym .u32 (.var 60) 0 4294967295 0, .int .i64 0]⟩ :: Tryz.of6b :: Tryz.r0
theorem Tryz.w6be0A : isT (Tryz.kC Tryz.w6be0 3 [Tryz.opA 38, Tryz.B 1, Tryz.B 2] (nilH 0)) = true := by kernel_rfl
theorem Tryz.w6be0N : isT (Tryz.kC Tryz.w6be0 3 [Tryz.opN 38, Tryz.B 1, Tryz.B 2] (nilH 0)) = true := by kernel_rfl
noncomputable def Tryz.w6de22 : List Kn := ⟨30, [.int .i64 109, Tryz.X32 1, Tryz.X32 2], .tup [.sym .u32 (.var 60) 0 4294967295 0, .int .i64 22]⟩ :: Tryz.of6d :: Tryz.r0
theorem Tryz.w6de22A : isT (Tryz.kC Tryz.w6de22 3 [Tryz.opA 40, Tryz.B 1, Tryz.B 2] (nilH 0)) = true := by kernel_rfl
theorem Tryz.w6de22N : isT (Tryz.kC Tryz.w6de22 3 [Tryz.opN 40, Tryz.B 1, Tryz.B 2] (nilH 0)) = true := by kernel_rfl
noncomputable def Tryz.w6fe21 : List Kn := ⟨30, [.int .i64 111, Tryz.X32 1, Tryz.X32 2], .tup [.sym .u32 (.var 60) 0 4294967295 0, .int .i64 21]⟩ :: Tryz.of6f :: Tryz.r0
theorem Tryz.w6fe21A : isT (Tryz.kC Tryz.w6fe21 3 [Tryz.opA 42, Tryz.B 1, Tryz.B 2] (nilH 0)) = true := by kernel_rfl
theorem Tryz.w6fe21N : isT (Tryz.kC Tryz.w6fe21 3 [Tryz.opN 42, Tryz.B 1, Tryz.B 2] (nilH 0)) = true := by kernel_rfl
noncomputable def Tryz.w72e0 : List Kn := ⟨30, [.int .i64 114, Tryz.X32 1, Tryz.X32 2], .tup [.sym .u32 (.var 60) 0 4294967295 0, .int .i64 0]⟩ :: Tryz.of72 :: Tryz.r0
theorem Tryz.w72e0A : isT (Tryz.kC Tryz.w72e0 3 [Tryz.opA 45, Tryz.B 1, Tryz.B 2] (nilH 0)) = true := by kernel_rfl
theorem Tryz.w72e0N : isT (Tryz.kC Tryz.w72e0 3 [Tryz.opN 45, Tryz.B 1, Tryz.B 2] (nilH 0)) = true := by kernel_rfl
noncomputable def Tryz.w76e0 : List Kn := ⟨30, [.int .i64 118, Tryz.X32 1, Tryz.X32 2], .tup [.sym .u32 (.var 60) 0 4294967295 0, .int .i64 0]⟩ :: Tryz.of76 :: Tryz.r0
theorem Tryz.w76e0A : isT (Tryz.kC Tryz.w76e0 3 [Tryz.opA 49, Tryz.B 1, Tryz.B 2] (nilH 0)) = true := by kernel_rfl
theorem Tryz.w76e0N : isT (Tryz.kC Tryz.w76e0 3 [Tryz.opN 49, Tryz.B 1, Tryz.B 2] (nilH 0)) = true := by kernel_rfl
noncomputable def Tryz.w7az : List Kn := ⟨37, [Tryz.B 1], .sym .i64 (.var 60) 0 64 0⟩ :: Tryz.of7a :: Tryz.r0
theorem Tryz.w7azA : isT (Tryz.kC Tryz.w7az 3 [Tryz.opA 53, Tryz.B 1, Tryz.B 2] (nilH 0)) = true := by kernel_rfl
theorem Tryz.w7azN : isT (Tryz.kC Tryz.w7az 3 [Tryz.opN 53, Tryz.B 1, Tryz.B 2] (nilH 0)) = true := by kernel_rfl
noncomputable def Tryz.w7ee0 : List Kn := ⟨31, [.int .i64 126, Tryz.B 1, Tryz.B 2], .tup [.sym .u64 (.var 60) 0 18446744073709551615 0, .int .i64 0]⟩ :: Tryz.of7e :: Tryz.r0
theorem Tryz.w7ee0A : isT (Tryz.kC Tryz.w7ee0 3 [Tryz.opA 57, Tryz.B 1, Tryz.B 2] (nilH 0)) = true := by kernel_rfl
theorem Tryz.w7ee0N : isT (Tryz.kC Tryz.w7ee0 3 [Tryz.opN 57, Tryz.B 1, Tryz.B 2] (nilH 0)) = true := by kernel_rfl
noncomputable def Tryz.w80e0 : List Kn := ⟨31, [.int .i64 128, Tryz.B 1, Tryz.B 2], .tup [.sym .u64 (.var 60) 0 18446744073709551615 0, .int .i64 0]⟩ :: Tryz.of80 :: Tryz.r0
theorem Tryz.w80e0A : isT (Tryz.kC Tryz.w80e0 3 [Tryz.opA 59, Tryz.B 1, Tryz.B 2] (nilH 0)) = true := by kernel_rfl
theorem Tryz.w80e0N : isT (Tryz.kC Tryz.w80e0 3 [Tryz.opN 59, Tryz.B 1, Tryz.B 2] (nilH 0)) = true := by kernel_rfl
noncomputable def Tryz.w82e0 : List Kn := ⟨31, [.int .i64 130, Tryz.B 1, Tryz.B 2], .tup [.sym .u64 (.var 60) 0 18446744073709551615 0, .int .i64 0]⟩ :: Tryz.of82 :: Tryz.r0
theorem Tryz.w82e0A : isT (Tryz.kC Tryz.w82e0 3 [Tryz.opA 61, Tryz.B 1, Tryz.B 2] (nilH 0)) = true := by kernel_rfl
theorem Tryz.w82e0N : isT (Tryz.kC Tryz.w82e0 3 [Tryz.opN 61, Tryz.B 1, Tryz.B 2] (nilH 0)) = true := by kernel_rfl
noncomputable def Tryz.w85e0 : List Kn := ⟨31, [.int .i64 133, Tryz.B 1, Tryz.B 2], .tup [.sym .u64 (.var 60) 0 18446744073709551615 0, .int .i64 0]⟩ :: Tryz.of85 :: Tryz.r0
theorem Tryz.w85e0A : isT (Tryz.kC Tryz.w85e0 3 [Tryz.opA 64, Tryz.B 1, Tryz.B 2] (nilH 0)) = true := by kernel_rfl
theorem Tryz.w85e0N : isT (Tryz.kC Tryz.w85e0 3 [Tryz.opN 64, Tryz.B 1, Tryz.B 2] (nilH 0)) = true := by kernel_rfl
noncomputable def Tryz.w89e0 : List Kn := ⟨31, [.int .i64 137, Tryz.B 1, Tryz.B 2], .tup [.sym .u64 (.var 60) 0 18446744073709551615 0, .int .i64 0]⟩ :: Tryz.of89 :: Tryz.r0
theorem Tryz.w89e0A : isT (Tryz.kC Tryz.w89e0 3 [Tryz.opA 68, Tryz.B 1, Tryz.B 2] (nilH 0)) = true := by kernel_rfl
theorem Tryz.w89e0N : isT (Tryz.kC Tryz.w89e0 3 [Tryz.opN 68, Tryz.B 1, Tryz.B 2] (nilH 0)) = true := by kernel_rfl
noncomputable def Tryz.wadz : List Kn := Tryz.ofad :: Tryz.r0
theorem Tryz.wadzA : isT (Tryz.kC Tryz.wadz 3 [Tryz.opA 104, Tryz.B 1, Tryz.B 2] (nilH 0)) = true := by kernel_rfl
theorem Tryz.wadzN : isT (Tryz.kC Tryz.wadz 3 [Tryz.opN 104, Tryz.B 1, Tryz.B 2] (nilH 0)) = true := by kernel_rfl
noncomputable def Tryz.wc3z : List Kn := Tryz.ofc3 :: Tryz.r0
theorem Tryz.wc3zA : isT (Tryz.kC Tryz.wc3z 3 [Tryz.opA 126, Tryz.B 1, Tryz.B 2] (nilH 0)) = true := by kernel_rfl
theorem Tryz.wc3zN : isT (Tryz.kC Tryz.wc3z 3 [Tryz.opN 126, Tryz.B 1, Tryz.B 2] (nilH 0)) = true := by kernel_rfl
end Go.Proofs
