import Derived.Test.YtmicbanhfcibjaaGreatDoorInE
namespace Go.Proofs
open Go.Ab
set_option maxRecDepth 1000000
noncomputable def Tryz.w45z0 : List Kn := ⟨9, [.int .i64 69, Tryz.B 1], .tup [.int .u64 0, .int .i64 0]⟩ :: ⟨9, [.int .i64 69, Tryz.XL 1], .tup [.int .u64 0, .int .i64 0]⟩ :: Tryz.of45 :: Tryz.r0
theorem Tryz.w45z0A : isT (Tryz.kC Tryz.w45z0 3 [Tryz.opA 0, Tryz.B 1, Tryz.B 2] (nilH 0)) = true := by kernel_rfl
theorem Tryz.w45z0N : isT (Tryz.kC Tryz.w45z0 3 [Tryz.opN 0, Tryz.B 1, Tryz.B 2] (nilH 0)) = true := by kernel_rfl
noncomputable def Tryz.w49z : List Kn := ⟨29, [.int .i64 3, Tryz.XI 1, Tryz.XI 2], .sym .u64 (.var 60) 0 18446744073709551615 0⟩ :: Tryz.of49 :: Tryz.r0
theorem Tryz.w49zA : isT (Tryz.kC Tryz.w49z 3 [Tryz.opA 4, Tryz.B 1, Tryz.B 2] (nilH 0)) = true := by kernel_rfl
theorem Tryz.w49zN : isT (Tryz.kC Tryz.w49z 3 [Tryz.opN 4, Tryz.B 1, Tryz.B 2] (nilH 0)) = true := by kernel_rfl
noncomputable def Tryz.w4dz : List Kn := ⟨29, [.int .i64 7, Tryz.XI 1, Tryz.XI 2], .sym .u64 (.var 60) 0 18446744073709551615 0⟩ :: Tryz.of4d :: Tryz.r0
theorem Tryz.w4dzA : isT (Tryz.kC Tryz.w4dz 3 [Tryz.opA 8, Tryz.B 1, Tryz.B 2] (nilH 0)) = true := by kernel_rfl
theorem Tryz.w4dzN : isT (Tryz.kC Tryz.w4dz 3 [Tryz.opN 8, Tryz.B 1, Tryz.B 2] (nilH 0)) = true := by kernel_rfl
noncomputable def Tryz.w51z : List Kn := ⟨29, [.int .i64 0, Tryz.XW 1, Tryz.XW 2], .sym .u64 (.var 60) 0 18446744073709551615 0⟩ :: Tryz.of51 :: Tryz.r0
theorem Tryz.w51zA : isT (Tryz.kC Tryz.w51z 3 [Tryz.opA 12, Tryz.B 1, Tryz.B 2] (nilH 0)) = true := by kernel_rfl
theorem Tryz.w51zN : isT (Tryz.kC Tryz.w51z 3 [Tryz.opN 12, Tryz.B 1, Tryz.B 2] (nilH 0)) = true := by kernel_rfl
noncomputable def Tryz.w55z : List Kn := ⟨29, [.int .i64 4, Tryz.XW 1, Tryz.XW 2], .sym .u64 (.var 60) 0 18446744073709551615 0⟩ :: Tryz.of55 :: Tryz.r0
theorem Tryz.w55zA : isT (Tryz.kC Tryz.w55z 3 [Tryz.opA 16, Tryz.B 1, Tryz.B 2] (nilH 0)) = true := by kernel_rfl
theorem Tryz.w55zN : isT (Tryz.kC Tryz.w55z 3 [Tryz.opN 16, Tryz.B 1, Tryz.B 2] (nilH 0)) = true := by kernel_rfl
noncomputable def Tryz.w59z : List Kn := ⟨29, [.int .i64 8, Tryz.XW 1, Tryz.XW 2], .sym .u64 (.var 60) 0 18446744073709551615 0⟩ :: Tryz.of59 :: Tryz.r0
theorem Tryz.w59zA : isT (Tryz.kC Tryz.w59z 3 [Tryz.opA 20, Tryz.B 1, Tryz.B 2] (nilH 0)) = true := by kernel_rfl
theorem Tryz.w59zN : isT (Tryz.kC Tryz.w59z 3 [Tryz.opN 20, Tryz.B 1, Tryz.B 2] (nilH 0)) = true := by kernel_rfl
noncomputable def Tryz.w69z : List Kn := Tryz.of69 :: Tryz.r0
theorem Tryz.w69zA : isT (Tryz.kC Tryz.w69z 3 [Tryz.opA 36, Tryz.B 1, Tryz.B 2] (nilH 0)) = true := by kernel_rfl
theorem Tryz.w69zN : isT (Tryz.kC Tryz.w69z 3 [Tryz.opN 36, Tryz.B 1, Tryz.B 2] (nilH 0)) = true := by kernel_rfl
noncomputable def Tryz.w6de0 : List Kn := ⟨30, [.int .i64 109, Tryz.X32 1, Tryz.X32 2], .tup [.sym .u32 (.var 60) 0 4294967295 0, .int .i64 0]⟩ :: Tryz.of6d :: Tryz.r0
theorem Tryz.w6de0A : isT (Tryz.kC Tryz.w6de0 3 [Tryz.opA 40, Tryz.B 1, Tryz.B 2] (nilH 0)) = true := by kernel_rfl
theorem Tryz.w6de0N : isT (Tryz.kC Tryz.w6de0 3 [Tryz.opN 40, Tryz.B 1, Tryz.B 2] (nilH 0)) = true := by kernel_rfl
noncomputable def Tryz.w6ee21 : List Kn := ⟨30, [.int .i64 110, Tryz.X32 1, Tryz.X32 2], .tup [.sym .u32 (.var 60) 0 4294967295 0, .int .i64 21]⟩ :: Tryz.of6e :: Tryz.r0
theorem Tryz.w6ee21A : isT (Tryz.kC Tryz.w6ee21 3 [Tryz.opA 41, Tryz.B 1, Tryz.B 2] (nilH 0)) = true := by kernel_rfl
theorem Tryz.w6ee21N : isT (Tryz.kC Tryz.w6ee21 3 [Tryz.opN 41, Tryz.B 1, Tryz.B 2] (nilH 0)) = true := by kernel_rfl
noncomputable def Tryz.w70e21 : List Kn := ⟨30, [.int .i64 112, Tryz.X32 1, Tryz.X32 2], .tup [.sym .u32 (.var 60) 0 4294967295 0, .int .i64 21]⟩ :: Tryz.of70 :: Tryz.r0
theorem Tryz.w70e21A : isT (Tryz.kC Tryz.w70e21 3 [Tryz.opA 43, Tryz.B 1, Tryz.B 2] (nilH 0)) = true := by kernel_rfl
theorem Tryz.w70e21N : isT (Tryz.kC Tryz.w70e21 3 [Tryz.opN 43, Tryz.B 1, Tryz.B 2] (nilH 0)) = true := by kernel_rfl
noncomputable def Tryz.w74e0 : List Kn := ⟨30, [.int .i64 116, Tryz.X32 1, Tryz.X32 2], .tup [.sym .u32 (.var 60) 0 4294967295 0, .int .i64 0]⟩ :: Tryz.of74 :: Tryz.r0
theorem Tryz.w74e0A : isT (Tryz.kC Tryz.w74e0 3 [Tryz.opA 47, Tryz.B 1, Tryz.B 2] (nilH 0)) = true := by kernel_rfl
theorem Tryz.w74e0N : isT (Tryz.kC Tryz.w74e0 3 [Tryz.opN 47, Tryz.B 1, Tryz.B 2] (nilH 0)) = true := by kernel_rfl
noncomputable def Tryz.w78e0 : List Kn := ⟨30, [.int .i64 120, Tryz.X32 1, Tryz.X32 2], .tup [.sym .u32 (.var 60) 0 4294967295 0, .int .i64 0]⟩ :: Tryz.of78 :: Tryz.r0
theorem Tryz.w78e0A : isT (Tryz.kC Tryz.w78e0 3 [Tryz.opA 51, Tryz.B 1, Tryz.B 2] (nilH 0)) = true := by kernel_rfl
theorem Tryz.w78e0N : isT (Tryz.kC Tryz.w78e0 3 [Tryz.opN 51, Tryz.B 1, Tryz.B 2] (nilH 0)) = true := by kernel_rfl
noncomputable def Tryz.w7ce0 : List Kn := ⟨31, [.int .i64 124, Tryz.B 1, Tryz.B 2], .tup [.sym .u64 (.var 60) 0 18446744073709551615 0, .int .i64 0]⟩ :: Tryz.of7c :: Tryz.r0
theorem Tryz.w7ce0A : isT (Tryz.kC Tryz.w7ce0 3 [Tryz.opA 55, Tryz.B 1, Tryz.B 2] (nilH 0)) = true := by kernel_rfl
theorem Tryz.w7ce0N : isT (Tryz.kC Tryz.w7ce0 3 [Tryz.opN 55, Tryz.B 1, Tryz.B 2] (nilH 0)) = true := by kernel_rfl
noncomputable def Tryz.w7fe21 : List Kn := ⟨31, [.int .i64 127, Tryz.B 1, Tryz.B 2], .tup [.sym .u64 (.var 60) 0 18446744073709551615 0, .int .i64 21]⟩ :: Tryz.of7f :: Tryz.r0
theorem Tryz.w7fe21A : isT (Tryz.kC Tryz.w7fe21 3 [Tryz.opA 58, Tryz.B 1, Tryz.B 2] (nilH 0)) = true := by kernel_rfl
theorem Tryz.w7fe21N : isT (Tryz.kC Tryz.w7fe21 3 [Tryz.opN 58, Tryz.B 1, Tryz.B 2] (nilH 0)) = true := by kernel_rfl
noncomputable def Tryz.w81e0 : List Kn := ⟨31, [.int .i64 129, Tryz.B 1, Tryz.B 2], .tup [.sym .u64 (.var 60) 0 18446744073709551615 0, .int .i64 0]⟩ :: Tryz.of81 :: Tryz.r0
theorem Tryz.w81e0A : isT (Tryz.kC Tryz.w81e0 3 [Tryz.opA 60, Tryz.B 1, Tryz.B 2] (nilH 0)) = true := by kernel_rfl
theorem Tryz.w81e0N : isT (Tryz.kC Tryz.w81e0 3 [Tryz.opN 60, Tryz.B 1, Tryz.B 2] (nilH 0)) = true := by kernel_rfl
noncomputable def Tryz.w83e0 : List Kn := ⟨31, [.int .i64 131, Tryz.B 1, Tryz.B 2], .tup [.sym .u64 (.var 60) 0 18446744073709551615 0, .int .i64 0]⟩ :: Tryz.of83 :: Tryz.r0
theorem Tryz.w83e0A : isT (Tryz.kC Tryz.w83e0 3 [Tryz.opA 62, Tryz.B 1, Tryz.B 2] (nilH 0)) = true := by kernel_rfl
theorem Tryz.w83e0N : isT (Tryz.kC Tryz.w83e0 3 [Tryz.opN 62, Tryz.B 1, Tryz.B 2] (nilH 0)) = true := by kernel_rfl
noncomputable def Tryz.w87e0 : List Kn := ⟨31, [.int .i64 135, Tryz.B 1, Tryz.B 2], .tup [.sym .u64 (.var 60) 0 18446744073709551615 0, .int .i64 0]⟩ :: Tryz.of87 :: Tryz.r0
theorem Tryz.w87e0A : isT (Tryz.kC Tryz.w87e0 3 [Tryz.opA 66, Tryz.B 1, Tryz.B 2] (nilH 0)) = true := by kernel_rfl
theorem Tryz.w87e0N : isT (Tryz.kC Tryz.w87e0 3 [Tryz.opN 66, Tryz.B 1, Tryz.B 2] (nilH 0)) = true := by kernel_rfl
noncomputable def Tryz.wa7z : List Kn := Tryz.ofa7 :: Tryz.r0
theorem Tryz.wa7zA : isT (Tryz.kC Tryz.wa7z 3 [Tryz.opA 98, Tryz.B 1, Tryz.B 2] (nilH 0)) = true := by kernel_rfl
theorem Tryz.wa7zN : isT (Tryz.kC Tryz.wa7z 3 [Tryz.opN 98, Tryz.B 1, Tryz.B 2] (nilH 0)) = true := by kernel_rfl
noncomputable def Tryz.wc1z : List Kn := Tryz.ofc1 :: Tryz.r0
theorem Tryz.wc1zA : isT (Tryz.kC Tryz.wc1z 3 [Tryz.opA 124, Tryz.B 1, Tryz.B 2] (nilH 0)) = true := by kernel_rfl
theorem Tryz.wc1zN : isT (Tryz.kC Tryz.wc1z 3 [Tryz.opN 124, Tryz.B 1, Tryz.B 2] (nilH 0)) = true := by kernel_rfl
end Go.Proofs
