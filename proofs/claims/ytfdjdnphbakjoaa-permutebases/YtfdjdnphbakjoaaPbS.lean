import Derived.Test.YtfdjdnphbakjoaaPbHead
namespace Go.Proofs
open Go.Ab
set_option maxRecDepth 1000000
theorem pbS_0 : pbS 0 = true := by kernel_rfl
theorem pbS_1 : pbS 1 = true := by kernel_rfl
theorem pbS_2 : pbS 2 = true := by kernel_rfl
theorem pbS_3 : pbS 3 = true := by kernel_rfl
theorem pbS_4 : pbS 4 = true := by kernel_rfl
theorem pbS_5 : pbS 5 = true := by kernel_rfl
theorem pbS_6 : pbS 6 = true := by kernel_rfl
theorem pbS_7 : pbS 7 = true := by kernel_rfl
theorem pbS_8 : pbS 8 = true := by kernel_rfl
theorem pbS_9 : pbS 9 = true := by kernel_rfl
theorem pbS_10 : pbS 10 = true := by kernel_rfl
theorem pbS_11 : pbS 11 = true := by kernel_rfl
theorem pbS_12 : pbS 12 = true := by kernel_rfl
theorem pbS_13 : pbS 13 = true := by kernel_rfl
theorem pbS_14 : pbS 14 = true := by kernel_rfl
theorem pbS_15 : pbS 15 = true := by kernel_rfl
theorem pbS_16 : pbS 16 = true := by kernel_rfl
theorem pbBad_all : (upto 16 fun j => pbR (lBad j) (.int .i64 64781) .any) = true := by kernel_rfl
theorem pbS_all : ∀ z, z < 17 → pbS z = true := by
  intro z hz
  match z, hz with
  | 0, _ => exact pbS_0
  | 1, _ => exact pbS_1
  | 2, _ => exact pbS_2
  | 3, _ => exact pbS_3
  | 4, _ => exact pbS_4
  | 5, _ => exact pbS_5
  | 6, _ => exact pbS_6
  | 7, _ => exact pbS_7
  | 8, _ => exact pbS_8
  | 9, _ => exact pbS_9
  | 10, _ => exact pbS_10
  | 11, _ => exact pbS_11
  | 12, _ => exact pbS_12
  | 13, _ => exact pbS_13
  | 14, _ => exact pbS_14
  | 15, _ => exact pbS_15
  | 16, _ => exact pbS_16
  | k + 17, h => omega
end Go.Proofs
