import Derived.Test.YtmicbanhfcibjaaGreatDoorInE
namespace Go.Proofs
open Go.Ab
set_option maxRecDepth 1000000
noncomputable def Tryz.w45z1 : List Kn := ⟨9, [.int .i64 69, Tryz.B 1], .tup [.int .u64 1, .int .i64 0]⟩ :: ⟨9, [.int .i64 69, Tryz.XL 1], .tup [.int .u64 1, .int .i64 0]⟩ :: Tryz.of45 :: Tryz.r0
theorem Tryz.w45z1A : isT (Tryz.kC Tryz.w45z1 3 [Tryz.opA 0, Tryz.B 1, Tryz.B 2] (nilH 0)) = true := by kernel_rfl
theorem Tryz.w45z1N : isT (Tryz.kC Tryz.w45z1 3 [Tryz.opN 0, Tryz.B 1, Tryz.B 2] (nilH 0)) = true := by kernel_rfl
noncomputable def Tryz.w48z : List Kn := ⟨29, [.int .i64 2, Tryz.XI 1, Tryz.XI 2], .sym .u64 (.var 60) 0 18446744073709551615 0⟩ :: Tryz.of48 :: Tryz.r0
theorem Tryz.w48zA : isT (Tryz.kC Tryz.w48z 3 [Tryz.opA 3, Tryz.B 1, Tryz.B 2] (nilH 0)) = true := by kernel_rfl
theorem Tryz.w48zN : isT (Tryz.kC Tryz.w48z 3 [Tryz.opN 3, Tryz.B 1, Tryz.B 2] (nilH 0)) = true := by kernel_rfl
noncomputable def Tryz.w4cz : List Kn := ⟨29, [.int .i64 6, Tryz.XI 1, Tryz.XI 2], .sym .u64 (.var 60) 0 18446744073709551615 0⟩ :: Tryz.of4c :: Tryz.r0
theorem Tryz.w4czA : isT (Tryz.kC Tryz.w4cz 3 [Tryz.opA 7, Tryz.B 1, Tryz.B 2] (nilH 0)) = true := by kernel_rfl
theorem Tryz.w4czN : isT (Tryz.kC Tryz.w4cz 3 [Tryz.opN 7, Tryz.B 1, Tryz.B 2] (nilH 0)) = true := by kernel_rfl
noncomputable def Tryz.w50z : List Kn := ⟨9, [.int .i64 80, Tryz.B 1], .tup [.sym .u64 (.var 60) 0 18446744073709551615 0, .int .i64 0]⟩ :: Tryz.of50 :: Tryz.r0
theorem Tryz.w50zA : isT (Tryz.kC Tryz.w50z 3 [Tryz.opA 11, Tryz.B 1, Tryz.B 2] (nilH 0)) = true := by kernel_rfl
theorem Tryz.w50zN : isT (Tryz.kC Tryz.w50z 3 [Tryz.opN 11, Tryz.B 1, Tryz.B 2] (nilH 0)) = true := by kernel_rfl
noncomputable def Tryz.w54z : List Kn := ⟨29, [.int .i64 3, Tryz.XW 1, Tryz.XW 2], .sym .u64 (.var 60) 0 18446744073709551615 0⟩ :: Tryz.of54 :: Tryz.r0
theorem Tryz.w54zA : isT (Tryz.kC Tryz.w54z 3 [Tryz.opA 15, Tryz.B 1, Tryz.B 2] (nilH 0)) = true := by kernel_rfl
theorem Tryz.w54zN : isT (Tryz.kC Tryz.w54z 3 [Tryz.opN 15, Tryz.B 1, Tryz.B 2] (nilH 0)) = true := by kernel_rfl
noncomputable def Tryz.w58z : List Kn := ⟨29, [.int .i64 7, Tryz.XW 1, Tryz.XW 2], .sym .u64 (.var 60) 0 18446744073709551615 0⟩ :: Tryz.of58 :: Tryz.r0
theorem Tryz.w58zA : isT (Tryz.kC Tryz.w58z 3 [Tryz.opA 19, Tryz.B 1, Tryz.B 2] (nilH 0)) = true := by kernel_rfl
theorem Tryz.w58zN : isT (Tryz.kC Tryz.w58z 3 [Tryz.opN 19, Tryz.B 1, Tryz.B 2] (nilH 0)) = true := by kernel_rfl
noncomputable def Tryz.w68z : List Kn := ⟨34, [Tryz.X32 1], .sym .i64 (.var 60) 0 64 0⟩ :: Tryz.of68 :: Tryz.r0
theorem Tryz.w68zA : isT (Tryz.kC Tryz.w68z 3 [Tryz.opA 35, Tryz.B 1, Tryz.B 2] (nilH 0)) = true := by kernel_rfl
theorem Tryz.w68zN : isT (Tryz.kC Tryz.w68z 3 [Tryz.opN 35, Tryz.B 1, Tryz.B 2] (nilH 0)) = true := by kernel_rfl
noncomputable def Tryz.w6ce0 : List Kn := ⟨30, [.int .i64 108, Tryz.X32 1, Tryz.X32 2], .tup [.sym .u32 (.var 60) 0 4294967295 0, .int .i64 0]⟩ :: Tryz.of6c :: Tryz.r0
theorem Tryz.w6ce0A : isT (Tryz.kC Tryz.w6ce0 3 [Tryz.opA 39, Tryz.B 1, Tryz.B 2] (nilH 0)) = true := by kernel_rfl
theorem Tryz.w6ce0N : isT (Tryz.kC Tryz.w6ce0 3 [Tryz.opN 39, Tryz.B 1, Tryz.B 2] (nilH 0)) = true := by kernel_rfl
noncomputable def Tryz.w6ee0 : List Kn := ⟨30, [.int .i64 110, Tryz.X32 1, Tryz.X32 2], .tup [.sym .u32 (.var 60) 0 4294967295 0, .int .i64 0]⟩ :: Tryz.of6e :: Tryz.r0
theorem Tryz.w6ee0A : isT (Tryz.kC Tryz.w6ee0 3 [Tryz.opA 41, Tryz.B 1, Tryz.B 2] (nilH 0)) = true := by kernel_rfl
theorem Tryz.w6ee0N : isT (Tryz.kC Tryz.w6ee0 3 [Tryz.opN 41, Tryz.B 1, Tryz.B 2] (nilH 0)) = true := by kernel_rfl
noncomputable def Tryz.w70e0 : List Kn := ⟨30, [.int .i64 112, Tryz.X32 1, Tryz.X32 2], .tup [.sym .u32 (.var 60) 0 4294967295 0, .int .i64 0]⟩ :: Tryz.of70 :: Tryz.r0
theorem Tryz.w70e0A : isT (Tryz.kC Tryz.w70e0 3 [Tryz.opA 43, Tryz.B 1, Tryz.B 2] (nilH 0)) = true := by kernel_rfl
theorem Tryz.w70e0N : isT (Tryz.kC Tryz.w70e0 3 [Tryz.opN 43, Tryz.B 1, Tryz.B 2] (nilH 0)) = true := by kernel_rfl
noncomputable def Tryz.w73e0 : List Kn := ⟨30, [.int .i64 115, Tryz.X32 1, Tryz.X32 2], .tup [.sym .u32 (.var 60) 0 4294967295 0, .int .i64 0]⟩ :: Tryz.of73 :: Tryz.r0
theorem Tryz.w73e0A : isT (Tryz.kC Tryz.w73e0 3 [Tryz.opA 46, Tryz.B 1, Tryz.B 2] (nilH 0)) = true := by kernel_rfl
theorem Tryz.w73e0N : isT (Tryz.kC Tryz.w73e0 3 [Tryz.opN 46, Tryz.B 1, Tryz.B 2] (nilH 0)) = true := by kernel_rfl
noncomputable def Tryz.w77e0 : List Kn := ⟨30, [.int .i64 119, Tryz.X32 1, Tryz.X32 2], .tup [.sym .u32 (.var 60) 0 4294967295 0, .int .i64 0]⟩ :: Tryz.of77 :: Tryz.r0
theorem Tryz.w77e0A : isT (Tryz.kC Tryz.w77e0 3 [Tryz.opA 50, Tryz.B 1, Tryz.B 2] (nilH 0)) = true := by kernel_rfl
theorem Tryz.w77e0N : isT (Tryz.kC Tryz.w77e0 3 [Tryz.opN 50, Tryz.B 1, Tryz.B 2] (nilH 0)) = true := by kernel_rfl
noncomputable def Tryz.w7bz : List Kn := Tryz.of7b :: Tryz.r0
theorem Tryz.w7bzA : isT (Tryz.kC Tryz.w7bz 3 [Tryz.opA 54, Tryz.B 1, Tryz.B 2] (nilH 0)) = true := by kernel_rfl
theorem Tryz.w7bzN : isT (Tryz.kC Tryz.w7bz 3 [Tryz.opN 54, Tryz.B 1, Tryz.B 2] (nilH 0)) = true := by kernel_rfl
noncomputable def Tryz.w7fe0 : List Kn := ⟨31, [.int .i64 127, Tryz.B 1, Tryz.B 2], .tup [.sym .u64 (.var 60) 0 18446744073709551615 0, .int .i64 0]⟩ :: Tryz.of7f :: Tryz.r0
theorem Tryz.w7fe0A : isT (Tryz.kC Tryz.w7fe0 3 [Tryz.opA 58, Tryz.B 1, Tryz.B 2] (nilH 0)) = true := by kernel_rfl
theorem Tryz.w7fe0N : isT (Tryz.kC Tryz.w7fe0 3 [Tryz.opN 58, Tryz.B 1, Tryz.B 2] (nilH 0)) = true := by kernel_rfl
noncomputable def Tryz.w80e21 : List Kn := ⟨31, [.int .i64 128, Tryz.B 1, Tryz.B 2], .tup [.sym .u64 (.var 60) 0 18446744073709551615 0, .int .i64 21]⟩ :: Tryz.of80 :: Tryz.r0
theorem Tryz.w80e21A : isT (Tryz.kC Tryz.w80e21 3 [Tryz.opA 59, Tryz.B 1, Tryz.B 2] (nilH 0)) = true := by kernel_rfl
theorem Tryz.w80e21N : isT (Tryz.kC Tryz.w80e21 3 [Tryz.opN 59, Tryz.B 1, Tryz.B 2] (nilH 0)) = true := by kernel_rfl
noncomputable def Tryz.w82e21 : List Kn := ⟨31, [.int .i64 130, Tryz.B 1, Tryz.B 2], .tup [.sym .u64 (.var 60) 0 18446744073709551615 0, .int .i64 21]⟩ :: Tryz.of82 :: Tryz.r0
theorem Tryz.w82e21A : isT (Tryz.kC Tryz.w82e21 3 [Tryz.opA 61, Tryz.B 1, Tryz.B 2] (nilH 0)) = true := by kernel_rfl
theorem Tryz.w82e21N : isT (Tryz.kC Tryz.w82e21 3 [Tryz.opN 61, Tryz.B 1, Tryz.B 2] (nilH 0)) = true := by kernel_rfl
noncomputable def Tryz.w86e0 : List Kn := ⟨31, [.int .i64 134, Tryz.B 1, Tryz.B 2], .tup [.sym .u64 (.var 60) 0 18446744073709551615 0, .int .i64 0]⟩ :: Tryz.of86 :: Tryz.r0
theorem Tryz.w86e0A : isT (Tryz.kC Tryz.w86e0 3 [Tryz.opA 65, Tryz.B 1, Tryz.B 2] (nilH 0)) = true := by kernel_rfl
theorem Tryz.w86e0N : isT (Tryz.kC Tryz.w86e0 3 [Tryz.opN 65, Tryz.B 1, Tryz.B 2] (nilH 0)) = true := by kernel_rfl
noncomputable def Tryz.w8ae0 : List Kn := ⟨31, [.int .i64 138, Tryz.B 1, Tryz.B 2], .tup [.sym .u64 (.var 60) 0 18446744073709551615 0, .int .i64 0]⟩ :: Tryz.of8a :: Tryz.r0
theorem Tryz.w8ae0A : isT (Tryz.kC Tryz.w8ae0 3 [Tryz.opA 69, Tryz.B 1, Tryz.B 2] (nilH 0)) = true := by kernel_rfl
theorem Tryz.w8ae0N : isT (Tryz.kC Tryz.w8ae0 3 [Tryz.opN 69, Tryz.B 1, Tryz.B 2] (nilH 0)) = true := by kernel_rfl
noncomputable def Tryz.wc0z : List Kn := Tryz.ofc0 :: Tryz.r0
theorem Tryz.wc0zA : isT (Tryz.kC Tryz.wc0z 3 [Tryz.opA 123, Tryz.B 1, Tryz.B 2] (nilH 0)) = true := by kernel_rfl
theorem Tryz.wc0zN : isT (Tryz.kC Tryz.wc0z 3 [Tryz.opN 123, Tryz.B 1, Tryz.B 2] (nilH 0)) = true := by kernel_rfl
noncomputable def Tryz.wc4z : List Kn := Tryz.ofc4 :: Tryz.r0
theorem Tryz.wc4zA : isT (Tryz.kC Tryz.wc4z 3 [Tryz.opA 127, Tryz.B 1, Tryz.B 2] (nilH 0)) = true := by kernel_rfl
theorem Tryz.wc4zN : isT (Tryz.kC Tryz.wc4z 3 [Tryz.opN 127, Tryz.B 1, Tryz.B 2] (nilH 0)) = true := by kernel_rfl
end Go.Proofs
