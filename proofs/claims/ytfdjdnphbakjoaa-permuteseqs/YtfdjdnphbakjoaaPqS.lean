import Derived.Test.YtfdjdnphbakjoaaPqMain
namespace Go.Proofs
open Go.Ab
set_option maxRecDepth 1000000
theorem pqS_0 : pqS 0 = true := by kernel_rfl
theorem pqS_1 : pqS 1 = true := by kernel_rfl
theorem pqS_2 : pqS 2 = true := by kernel_rfl
theorem pqS_3 : pqS 3 = true := by kernel_rfl
theorem pqS_4 : pqS 4 = true := by kernel_rfl
theorem pqS_5 : pqS 5 = true := by kernel_rfl
theorem pqS_6 : pqS 6 = true := by kernel_rfl
theorem pqS_7 : pqS 7 = true := by kernel_rfl
theorem pqS_8 : pqS 8 = true := by kernel_rfl
theorem pqS_9 : pqS 9 = true := by kernel_rfl
theorem pqS_10 : pqS 10 = true := by kernel_rfl
theorem pqS_11 : pqS 11 = true := by kernel_rfl
theorem pqS_12 : pqS 12 = true := by kernel_rfl
theorem pqS_13 : pqS 13 = true := by kernel_rfl
theorem pqS_14 : pqS 14 = true := by kernel_rfl
theorem pqS_15 : pqS 15 = true := by kernel_rfl
theorem pqS_16 : pqS 16 = true := by kernel_rfl
theorem pqBad_all : (upto 16 fun j => pqR (lBad j) (.int .i64 64781) .any 0 4032) = true := by kernel_rfl
theorem pq13_n : PqB 64781 64781 (-9223372036854775808) (-1) := pq_int (by kernel_rfl)
theorem pq13_p : PqB 64781 64781 4033 9223372036854775807 := pq_int (by kernel_rfl)
theorem pqS_all : ∀ z, z < 17 → pqS z = true := by
  intro z hz
  match z, hz with
  | 0, _ => exact pqS_0
  | 1, _ => exact pqS_1
  | 2, _ => exact pqS_2
  | 3, _ => exact pqS_3
  | 4, _ => exact pqS_4
  | 5, _ => exact pqS_5
  | 6, _ => exact pqS_6
  | 7, _ => exact pqS_7
  | 8, _ => exact pqS_8
  | 9, _ => exact pqS_9
  | 10, _ => exact pqS_10
  | 11, _ => exact pqS_11
  | 12, _ => exact pqS_12
  | 13, _ => exact pqS_13
  | 14, _ => exact pqS_14
  | 15, _ => exact pqS_15
  | 16, _ => exact pqS_16
  | k + 17, h => omega
end Go.Proofs
