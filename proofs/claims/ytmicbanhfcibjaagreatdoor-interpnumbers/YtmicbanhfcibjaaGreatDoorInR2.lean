import Derived.Test.YtmicbanhfcibjaaGreatDoorInE
namespace Go.Proofs
open Go.Ab
set_option maxRecDepth 1000000
noncomputable def Tryz.w46z : List Kn := ⟨29, [.int .i64 0, Tryz.XI 1, Tryz.XI 2], .sym .u64 (.var 60) 0 18446744073709551615 0⟩ :: Tryz.of46 :: Tryz.r0
theorem Tryz.w46zA : isT (Tryz.kC Tryz.w46z 3 [Tryz.opA 1, Tryz.B 1, Tryz.B 2] (nilH 0)) = true := by kernel_rfl
theorem Tryz.w46zN : isT (Tryz.kC Tryz.w46z 3 [Tryz.opN 1, Tryz.B 1, Tryz.B 2] (nilH 0)) = true := by kernel_rfl
noncomputable def Tryz.w4az : List Kn := ⟨29, [.int .i64 4, Tryz.XI 1, Tryz.XI 2], .sym .u64 (.var 60) 0 18446744073709551615 0⟩ :: Tryz.of4a :: Tryz.r0
theorem Tryz.w4azA : isT (Tryz.kC Tryz.w4az 3 [Tryz.opA 5, Tryz.B 1, Tryz.B 2] (nilH 0)) = true := by kernel_rfl
theorem Tryz.w4azN : isT (Tryz.kC Tryz.w4az 3 [Tryz.opN 5, Tryz.B 1, Tryz.B 2] (nilH 0)) = true := by kernel_rfl
noncomputable def Tryz.w4ez : List Kn := ⟨29, [.int .i64 8, Tryz.XI 1, Tryz.XI 2], .sym .u64 (.var 60) 0 18446744073709551615 0⟩ :: Tryz.of4e :: Tryz.r0
theorem Tryz.w4ezA : isT (Tryz.kC Tryz.w4ez 3 [Tryz.opA 9, Tryz.B 1, Tryz.B 2] (nilH 0)) = true := by kernel_rfl
theorem Tryz.w4ezN : isT (Tryz.kC Tryz.w4ez 3 [Tryz.opN 9, Tryz.B 1, Tryz.B 2] (nilH 0)) = true := by kernel_rfl
noncomputable def Tryz.w52z : List Kn := ⟨29, [.int .i64 1, Tryz.XW 1, Tryz.XW 2], .sym .u64 (.var 60) 0 18446744073709551615 0⟩ :: Tryz.of52 :: Tryz.r0
theorem Tryz.w52zA : isT (Tryz.kC Tryz.w52z 3 [Tryz.opA 13, Tryz.B 1, Tryz.B 2] (nilH 0)) = true := by kernel_rfl
theorem Tryz.w52zN : isT (Tryz.kC Tryz.w52z 3 [Tryz.opN 13, Tryz.B 1, Tryz.B 2] (nilH 0)) = true := by kernel_rfl
noncomputable def Tryz.w56z : List Kn := ⟨29, [.int .i64 5, Tryz.XW 1, Tryz.XW 2], .sym .u64 (.var 60) 0 18446744073709551615 0⟩ :: Tryz.of56 :: Tryz.r0
theorem Tryz.w56zA : isT (Tryz.kC Tryz.w56z 3 [Tryz.opA 17, Tryz.B 1, Tryz.B 2] (nilH 0)) = true := by kernel_rfl
theorem Tryz.w56zN : isT (Tryz.kC Tryz.w56z 3 [Tryz.opN 17, Tryz.B 1, Tryz.B 2] (nilH 0)) = true := by kernel_rfl
noncomputable def Tryz.w5az : List Kn := ⟨29, [.int .i64 9, Tryz.XW 1, Tryz.XW 2], .sym .u64 (.var 60) 0 18446744073709551615 0⟩ :: Tryz.of5a :: Tryz.r0
theorem Tryz.w5azA : isT (Tryz.kC Tryz.w5az 3 [Tryz.opA 21, Tryz.B 1, Tryz.B 2] (nilH 0)) = true := by kernel_rfl
theorem Tryz.w5azN : isT (Tryz.kC Tryz.w5az 3 [Tryz.opN 21, Tryz.B 1, Tryz.B 2] (nilH 0)) = true := by kernel_rfl
noncomputable def Tryz.w6ae0 : List Kn := ⟨30, [.int .i64 106, Tryz.X32 1, Tryz.X32 2], .tup [.sym .u32 (.var 60) 0 4294967295 0, .int .i64 0]⟩ :: Tryz.of6a :: Tryz.r0
theorem Tryz.w6ae0A : isT (Tryz.kC Tryz.w6ae0 3 [Tryz.opA 37, Tryz.B 1, Tryz.B 2] (nilH 0)) = true := by kernel_rfl
theorem Tryz.w6ae0N : isT (Tryz.kC Tryz.w6ae0 3 [Tryz.opN 37, Tryz.B 1, Tryz.B 2] (nilH 0)) = true := by kernel_rfl
noncomputable def Tryz.w6de21 : List Kn := ⟨30, [.int .i64 109, Tryz.X32 1, Tryz.X32 2], .tup [.sym .u32 (.var 60) 0 4294967295 0, .int .i64 21]⟩ :: Tryz.of6d :: Tryz.r0
theorem Tryz.w6de21A : isT (Tryz.kC Tryz.w6de21 3 [Tryz.opA 40, Tryz.B 1, Tryz.B 2] (nilH 0)) = true := by kernel_rfl
theorem Tryz.w6de21N : isT (Tryz.kC Tryz.w6de21 3 [Tryz.opN 40, Tryz.B 1, Tryz.B 2] (nilH 0)) = true := by kernel_rfl
noncomputable def Tryz.w6fe0 : List Kn := ⟨30, [.int .i64 111, Tryz.X32 1, Tryz.X32 2], .tup [.sym .u32 (.var 60) 0 4294967295 0, .int .i64 0]⟩ :: Tryz.of6f :: Tryz.r0
theorem Tryz.w6fe0A : isT (Tryz.kC Tryz.w6fe0 3 [Tryz.opA 42, Tryz.B 1, Tryz.B 2] (nilH 0)) = true := by kernel_rfl
theorem Tryz.w6fe0N : isT (Tryz.kC Tryz.w6fe0 3 [Tryz.opN 42, Tryz.B 1, Tryz.B 2] (nilH 0)) = true := by kernel_rfl
noncomputable def Tryz.w71e0 : List Kn := ⟨30, [.int .i64 113, Tryz.X32 1, Tryz.X32 2], .tup [.sym .u32 (.var 60) 0 4294967295 0, .int .i64 0]⟩ :: Tryz.of71 :: Tryz.r0
theorem Tryz.w71e0A : isT (Tryz.kC Tryz.w71e0 3 [Tryz.opA 44, Tryz.B 1, Tryz.B 2] (nilH 0)) = true := by kernel_rfl
theorem Tryz.w71e0N : isT (Tryz.kC Tryz.w71e0 3 [Tryz.opN 44, Tryz.B 1, Tryz.B 2] (nilH 0)) = true := by kernel_rfl
noncomputable def Tryz.w75e0 : List Kn := ⟨30, [.int .i64 117, Tryz.X32 1, Tryz.X32 2], .tup [.sym .u32 (.var 60) 0 4294967295 0, .int .i64 0]⟩ :: Tryz.of75 :: Tryz.r0
theorem Tryz.w75e0A : isT (Tryz.kC Tryz.w75e0 3 [Tryz.opA 48, Tryz.B 1, Tryz.B 2] (nilH 0)) = true := by kernel_rfl
theorem Tryz.w75e0N : isT (Tryz.kC Tryz.w75e0 3 [Tryz.opN 48, Tryz.B 1, Tryz.B 2] (nilH 0)) = true := by kernel_rfl
noncomputable def Tryz.w79z : List Kn := ⟨36, [Tryz.B 1], .sym .i64 (.var 60) 0 64 0⟩ :: Tryz.of79 :: Tryz.r0
theorem Tryz.w79zA : isT (Tryz.kC Tryz.w79z 3 [Tryz.opA 52, Tryz.B 1, Tryz.B 2] (nilH 0)) = true := by kernel_rfl
theorem Tryz.w79zN : isT (Tryz.kC Tryz.w79z 3 [Tryz.opN 52, Tryz.B 1, Tryz.B 2] (nilH 0)) = true := by kernel_rfl
noncomputable def Tryz.w7de0 : List Kn := ⟨31, [.int .i64 125, Tryz.B 1, Tryz.B 2], .tup [.sym .u64 (.var 60) 0 18446744073709551615 0, .int .i64 0]⟩ :: Tryz.of7d :: Tryz.r0
theorem Tryz.w7de0A : isT (Tryz.kC Tryz.w7de0 3 [Tryz.opA 56, Tryz.B 1, Tryz.B 2] (nilH 0)) = true := by kernel_rfl
theorem Tryz.w7de0N : isT (Tryz.kC Tryz.w7de0 3 [Tryz.opN 56, Tryz.B 1, Tryz.B 2] (nilH 0)) = true := by kernel_rfl
noncomputable def Tryz.w7fe22 : List Kn := ⟨31, [.int .i64 127, Tryz.B 1, Tryz.B 2], .tup [.sym .u64 (.var 60) 0 18446744073709551615 0, .int .i64 22]⟩ :: Tryz.of7f :: Tryz.r0
theorem Tryz.w7fe22A : isT (Tryz.kC Tryz.w7fe22 3 [Tryz.opA 58, Tryz.B 1, Tryz.B 2] (nilH 0)) = true := by kernel_rfl
theorem Tryz.w7fe22N : isT (Tryz.kC Tryz.w7fe22 3 [Tryz.opN 58, Tryz.B 1, Tryz.B 2] (nilH 0)) = true := by kernel_rfl
noncomputable def Tryz.w81e21 : List Kn := ⟨31, [.int .i64 129, Tryz.B 1, Tryz.B 2], .tup [.sym .u64 (.var 60) 0 18446744073709551615 0, .int .i64 21]⟩ :: Tryz.of81 :: Tryz.r0
theorem Tryz.w81e21A : isT (Tryz.kC Tryz.w81e21 3 [Tryz.opA 60, Tryz.B 1, Tryz.B 2] (nilH 0)) = true := by kernel_rfl
theorem Tryz.w81e21N : isT (Tryz.kC Tryz.w81e21 3 [Tryz.opN 60, Tryz.B 1, Tryz.B 2] (nilH 0)) = true := by kernel_rfl
noncomputable def Tryz.w84e0 : List Kn := ⟨31, [.int .i64 132, Tryz.B 1, Tryz.B 2], .tup [.sym .u64 (.var 60) 0 18446744073709551615 0, .int .i64 0]⟩ :: Tryz.of84 :: Tryz.r0
theorem Tryz.w84e0A : isT (Tryz.kC Tryz.w84e0 3 [Tryz.opA 63, Tryz.B 1, Tryz.B 2] (nilH 0)) = true := by kernel_rfl
theorem Tryz.w84e0N : isT (Tryz.kC Tryz.w84e0 3 [Tryz.opN 63, Tryz.B 1, Tryz.B 2] (nilH 0)) = true := by kernel_rfl
noncomputable def Tryz.w88e0 : List Kn := ⟨31, [.int .i64 136, Tryz.B 1, Tryz.B 2], .tup [.sym .u64 (.var 60) 0 18446744073709551615 0, .int .i64 0]⟩ :: Tryz.of88 :: Tryz.r0
theorem Tryz.w88e0A : isT (Tryz.kC Tryz.w88e0 3 [Tryz.opA 67, Tryz.B 1, Tryz.B 2] (nilH 0)) = true := by kernel_rfl
theorem Tryz.w88e0N : isT (Tryz.kC Tryz.w88e0 3 [Tryz.opN 67, Tryz.B 1, Tryz.B 2] (nilH 0)) = true := by kernel_rfl
noncomputable def Tryz.wacz : List Kn := Tryz.ofac :: Tryz.r0
theorem Tryz.waczA : isT (Tryz.kC Tryz.wacz 3 [Tryz.opA 103, Tryz.B 1, Tryz.B 2] (nilH 0)) = true := by kernel_rfl
theorem Tryz.waczN : isT (Tryz.kC Tryz.wacz 3 [Tryz.opN 103, Tryz.B 1, Tryz.B 2] (nilH 0)) = true := by kernel_rfl
noncomputable def Tryz.wc2z : List Kn := Tryz.ofc2 :: Tryz.r0
theorem Tryz.wc2zA : isT (Tryz.kC Tryz.wc2z 3 [Tryz.opA 125, Tryz.B 1, Tryz.B 2] (nilH 0)) = true := by kernel_rfl
theorem Tryz.wc2zN : isT (Tryz.kC Tryz.wc2z 3 [Tryz.opN 125, Tryz.B 1, Tryz.B 2] (nilH 0)) = true := by kernel_rfl
end Go.Proofs
