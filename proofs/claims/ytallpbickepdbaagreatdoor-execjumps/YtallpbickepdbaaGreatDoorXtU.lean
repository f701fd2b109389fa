import Derived.Test.YtallpbickepdbaaGreatDoorXtT0
import Derived.Test.YtallpbickepdbaaGreatDoorXtT1
import Derived.Test.YtallpbickepdbaaGreatDoorXtT2
import Derived.Test.YtallpbickepdbaaGreatDoorXtT3
import Derived.Test.YtallpbickepdbaaGreatDoorXtT4
import Derived.Test.YtallpbickepdbaaGreatDoorXtT5
import Derived.Test.YtallpbickepdbaaGreatDoorXtT6
import Derived.Test.YtallpbickepdbaaGreatDoorXtT7
import Derived.Test.YtallpbickepdbaaGreatDoorXtT8
import Derived.Test.YtallpbickepdbaaGreatDoorXtT9
import Derived.Test.YtallpbickepdbaaGreatDoorXtT10
import Derived.Test.YtallpbickepdbaaGreatDoorXtT11
import Derived.Test.YtallpbickepdbaaGreatDoorXtDef
import Derived.Test.YtallpbickepdbaaGreatDoorAb27
namespace Go.Proofs
open Go.Ab
set_option maxRecDepth 1000000
def Tryz.tLo (k i : Nat) : Int := Int.ofNat (bif Nat.ble i k then i else k + 1)
def Tryz.tHi (k i : Nat) : Int := Int.ofNat (bif Nat.ble i k then i else 4294967295)
def Tryz.tM (k : Nat) : Int := Int.ofNat (bif Nat.ble k 15 then 240 else 210)
def Tryz.tA (k i : Nat) : List AV := [.sym .u64 (.pr 5 (Tryz.tLo k i) (Tryz.tHi k i) 6) (Tryz.tLo k i) (Int.add (Tryz.tHi k i) 18446744069414584320) 0, .sym .u8 (.lin 7 30) 0 (Tryz.tM k) (Int.ofNat k)]
theorem Tryz.tb_0 [Io] : ∀ i, i ≤ 1 → KnownF Tryz.prog 13 (Tryz.tA 0 i) (.bool true)
  | 0, _ => Tryz.tb_0_0
  | 1, _ => Tryz.tb_0_1
  | n + 2, h => absurd h (by omega)
theorem Tryz.tb_1 [Io] : ∀ i, i ≤ 2 → KnownF Tryz.prog 13 (Tryz.tA 1 i) (.bool true)
  | 0, _ => Tryz.tb_1_0
  | 1, _ => Tryz.tb_1_1
  | 2, _ => Tryz.tb_1_2
  | n + 3, h => absurd h (by omega)
theorem Tryz.tb_2 [Io] : ∀ i, i ≤ 3 → KnownF Tryz.prog 13 (Tryz.tA 2 i) (.bool true)
  | 0, _ => Tryz.tb_2_0
  | 1, _ => Tryz.tb_2_1
  | 2, _ => Tryz.tb_2_2
  | 3, _ => Tryz.tb_2_3
  | n + 4, h => absurd h (by omega)
theorem Tryz.tb_3 [Io] : ∀ i, i ≤ 4 → KnownF Tryz.prog 13 (Tryz.tA 3 i) (.bool true)
  | 0, _ => Tryz.tb_3_0
  | 1, _ => Tryz.tb_3_1
  | 2, _ => Tryz.tb_3_2
  | 3, _ => Tryz.tb_3_3
  | 4, _ => Tryz.tb_3_4
  | n + 5, h => absurd h (by omega)
theorem Tryz.tb_4 [Io] : ∀ i, i ≤ 5 → KnownF Tryz.prog 13 (Tryz.tA 4 i) (.bool true)
  | 0, _ => Tryz.tb_4_0
  | 1, _ => Tryz.tb_4_1
  | 2, _ => Tryz.tb_4_2
  | 3, _ => Tryz.tb_4_3
  | 4, _ => Tryz.tb_4_4
  | 5, _ => Tryz.tb_4_5
  | n + 6, h => absurd h (by omega)
theorem Tryz.tb_5 [Io] : ∀ i, i ≤ 6 → KnownF Tryz.prog 13 (Tryz.tA 5 i) (.bool true)
  | 0, _ => Tryz.tb_5_0
  | 1, _ => Tryz.tb_5_1
  | 2, _ => Tryz.tb_5_2
  | 3, _ => Tryz.tb_5_3
  | 4, _ => Tryz.tb_5_4
  | 5, _ => Tryz.tb_5_5
  | 6, _ => Tryz.tb_5_6
  | n + 7, h => absurd h (by omega)
theorem Tryz.tb_6 [Io] : ∀ i, i ≤ 7 → KnownF Tryz.prog 13 (Tryz.tA 6 i) (.bool true)
  | 0, _ => Tryz.tb_6_0
  | 1, _ => Tryz.tb_6_1
  | 2, _ => Tryz.tb_6_2
  | 3, _ => Tryz.tb_6_3
  | 4, _ => Tryz.tb_6_4
  | 5, _ => Tryz.tb_6_5
  | 6, _ => Tryz.tb_6_6
  | 7, _ => Tryz.tb_6_7
  | n + 8, h => absurd h (by omega)
theorem Tryz.tb_7 [Io] : ∀ i, i ≤ 8 → KnownF Tryz.prog 13 (Tryz.tA 7 i) (.bool true)
  | 0, _ => Tryz.tb_7_0
  | 1, _ => Tryz.tb_7_1
  | 2, _ => Tryz.tb_7_2
  | 3, _ => Tryz.tb_7_3
  | 4, _ => Tryz.tb_7_4
  | 5, _ => Tryz.tb_7_5
  | 6, _ => Tryz.tb_7_6
  | 7, _ => Tryz.tb_7_7
  | 8, _ => Tryz.tb_7_8
  | n + 9, h => absurd h (by omega)
theorem Tryz.tb_8 [Io] : ∀ i, i ≤ 9 → KnownF Tryz.prog 13 (Tryz.tA 8 i) (.bool true)
  | 0, _ => Tryz.tb_8_0
  | 1, _ => Tryz.tb_8_1
  | 2, _ => Tryz.tb_8_2
  | 3, _ => Tryz.tb_8_3
  | 4, _ => Tryz.tb_8_4
  | 5, _ => Tryz.tb_8_5
  | 6, _ => Tryz.tb_8_6
  | 7, _ => Tryz.tb_8_7
  | 8, _ => Tryz.tb_8_8
  | 9, _ => Tryz.tb_8_9
  | n + 10, h => absurd h (by omega)
theorem Tryz.tb_9 [Io] : ∀ i, i ≤ 10 → KnownF Tryz.prog 13 (Tryz.tA 9 i) (.bool true)
  | 0, _ => Tryz.tb_9_0
  | 1, _ => Tryz.tb_9_1
  | 2, _ => Tryz.tb_9_2
  | 3, _ => Tryz.tb_9_3
  | 4, _ => Tryz.tb_9_4
  | 5, _ => Tryz.tb_9_5
  | 6, _ => Tryz.tb_9_6
  | 7, _ => Tryz.tb_9_7
  | 8, _ => Tryz.tb_9_8
  | 9, _ => Tryz.tb_9_9
  | 10, _ => Tryz.tb_9_10
  | n + 11, h => absurd h (by omega)
theorem Tryz.tb_10 [Io] : ∀ i, i ≤ 11 → KnownF Tryz.prog 13 (Tryz.tA 10 i) (.bool true)
  | 0, _ => Tryz.tb_10_0
  | 1, _ => Tryz.tb_10_1
  | 2, _ => Tryz.tb_10_2
  | 3, _ => Tryz.tb_10_3
  | 4, _ => Tryz.tb_10_4
  | 5, _ => Tryz.tb_10_5
  | 6, _ => Tryz.tb_10_6
  | 7, _ => Tryz.tb_10_7
  | 8, _ => Tryz.tb_10_8
  | 9, _ => Tryz.tb_10_9
  | 10, _ => Tryz.tb_10_10
  | 11, _ => Tryz.tb_10_11
  | n + 12, h => absurd h (by omega)
theorem Tryz.tb_11 [Io] : ∀ i, i ≤ 12 → KnownF Tryz.prog 13 (Tryz.tA 11 i) (.bool true)
  | 0, _ => Tryz.tb_11_0
  | 1, _ => Tryz.tb_11_1
  | 2, _ => Tryz.tb_11_2
  | 3, _ => Tryz.tb_11_3
  | 4, _ => Tryz.tb_11_4
  | 5, _ => Tryz.tb_11_5
  | 6, _ => Tryz.tb_11_6
  | 7, _ => Tryz.tb_11_7
  | 8, _ => Tryz.tb_11_8
  | 9, _ => Tryz.tb_11_9
  | 10, _ => Tryz.tb_11_10
  | 11, _ => Tryz.tb_11_11
  | 12, _ => Tryz.tb_11_12
  | n + 13, h => absurd h (by omega)
theorem Tryz.tb_12 [Io] : ∀ i, i ≤ 13 → KnownF Tryz.prog 13 (Tryz.tA 12 i) (.bool true)
  | 0, _ => Tryz.tb_12_0
  | 1, _ => Tryz.tb_12_1
  | 2, _ => Tryz.tb_12_2
  | 3, _ => Tryz.tb_12_3
  | 4, _ => Tryz.tb_12_4
  | 5, _ => Tryz.tb_12_5
  | 6, _ => Tryz.tb_12_6
  | 7, _ => Tryz.tb_12_7
  | 8, _ => Tryz.tb_12_8
  | 9, _ => Tryz.tb_12_9
  | 10, _ => Tryz.tb_12_10
  | 11, _ => Tryz.tb_12_11
  | 12, _ => Tryz.tb_12_12
  | 13, _ => Tryz.tb_12_13
  | n + 14, h => absurd h (by omega)
theorem Tryz.tb_13 [Io] : ∀ i, i ≤ 14 → KnownF Tryz.prog 13 (Tryz.tA 13 i) (.bool true)
  | 0, _ => Tryz.tb_13_0
  | 1, _ => Tryz.tb_13_1
  | 2, _ => Tryz.tb_13_2
  | 3, _ => Tryz.tb_13_3
  | 4, _ => Tryz.tb_13_4
  | 5, _ => Tryz.tb_13_5
  | 6, _ => Tryz.tb_13_6
  | 7, _ => Tryz.tb_13_7
  | 8, _ => Tryz.tb_13_8
  | 9, _ => Tryz.tb_13_9
  | 10, _ => Tryz.tb_13_10
  | 11, _ => Tryz.tb_13_11
  | 12, _ => Tryz.tb_13_12
  | 13, _ => Tryz.tb_13_13
  | 14, _ => Tryz.tb_13_14
  | n + 15, h => absurd h (by omega)
theorem Tryz.tb_14 [Io] : ∀ i, i ≤ 15 → KnownF Tryz.prog 13 (Tryz.tA 14 i) (.bool true)
  | 0, _ => Tryz.tb_14_0
  | 1, _ => Tryz.tb_14_1
  | 2, _ => Tryz.tb_14_2
  | 3, _ => Tryz.tb_14_3
  | 4, _ => Tryz.tb_14_4
  | 5, _ => Tryz.tb_14_5
  | 6, _ => Tryz.tb_14_6
  | 7, _ => Tryz.tb_14_7
  | 8, _ => Tryz.tb_14_8
  | 9, _ => Tryz.tb_14_9
  | 10, _ => Tryz.tb_14_10
  | 11, _ => Tryz.tb_14_11
  | 12, _ => Tryz.tb_14_12
  | 13, _ => Tryz.tb_14_13
  | 14, _ => Tryz.tb_14_14
  | 15, _ => Tryz.tb_14_15
  | n + 16, h => absurd h (by omega)
theorem Tryz.tb_15 [Io] : ∀ i, i ≤ 16 → KnownF Tryz.prog 13 (Tryz.tA 15 i) (.bool true)
  | 0, _ => Tryz.tb_15_0
  | 1, _ => Tryz.tb_15_1
  | 2, _ => Tryz.tb_15_2
  | 3, _ => Tryz.tb_15_3
  | 4, _ => Tryz.tb_15_4
  | 5, _ => Tryz.tb_15_5
  | 6, _ => Tryz.tb_15_6
  | 7, _ => Tryz.tb_15_7
  | 8, _ => Tryz.tb_15_8
  | 9, _ => Tryz.tb_15_9
  | 10, _ => Tryz.tb_15_10
  | 11, _ => Tryz.tb_15_11
  | 12, _ => Tryz.tb_15_12
  | 13, _ => Tryz.tb_15_13
  | 14, _ => Tryz.tb_15_14
  | 15, _ => Tryz.tb_15_15
  | 16, _ => Tryz.tb_15_16
  | n + 17, h => absurd h (by omega)
theorem Tryz.tb_16 [Io] : ∀ i, i ≤ 17 → KnownF Tryz.prog 13 (Tryz.tA 16 i) (.bool true)
  | 0, _ => Tryz.tb_16_0
  | 1, _ => Tryz.tb_16_1
  | 2, _ => Tryz.tb_16_2
  | 3, _ => Tryz.tb_16_3
  | 4, _ => Tryz.tb_16_4
  | 5, _ => Tryz.tb_16_5
  | 6, _ => Tryz.tb_16_6
  | 7, _ => Tryz.tb_16_7
  | 8, _ => Tryz.tb_16_8
  | 9, _ => Tryz.tb_16_9
  | 10, _ => Tryz.tb_16_10
  | 11, _ => Tryz.tb_16_11
  | 12, _ => Tryz.tb_16_12
  | 13, _ => Tryz.tb_16_13
  | 14, _ => Tryz.tb_16_14
  | 15, _ => Tryz.tb_16_15
  | 16, _ => Tryz.tb_16_16
  | 17, _ => Tryz.tb_16_17
  | n + 18, h => absurd h (by omega)
theorem Tryz.tb_17 [Io] : ∀ i, i ≤ 18 → KnownF Tryz.prog 13 (Tryz.tA 17 i) (.bool true)
  | 0, _ => Tryz.tb_17_0
  | 1, _ => Tryz.tb_17_1
  | 2, _ => Tryz.tb_17_2
  | 3, _ => Tryz.tb_17_3
  | 4, _ => Tryz.tb_17_4
  | 5, _ => Tryz.tb_17_5
  | 6, _ => Tryz.tb_17_6
  | 7, _ => Tryz.tb_17_7
  | 8, _ => Tryz.tb_17_8
  | 9, _ => Tryz.tb_17_9
  | 10, _ => Tryz.tb_17_10
  | 11, _ => Tryz.tb_17_11
  | 12, _ => Tryz.tb_17_12
  | 13, _ => Tryz.tb_17_13
  | 14, _ => Tryz.tb_17_14
  | 15, _ => Tryz.tb_17_15
  | 16, _ => Tryz.tb_17_16
  | 17, _ => Tryz.tb_17_17
  | 18, _ => Tryz.tb_17_18
  | n + 19, h => absurd h (by omega)
theorem Tryz.tb_18 [Io] : ∀ i, i ≤ 19 → KnownF Tryz.prog 13 (Tryz.tA 18 i) (.bool true)
  | 0, _ => Tryz.tb_18_0
  | 1, _ => Tryz.tb_18_1
  | 2, _ => Tryz.tb_18_2
  | 3, _ => Tryz.tb_18_3
  | 4, _ => Tryz.tb_18_4
  | 5, _ => Tryz.tb_18_5
  | 6, _ => Tryz.tb_18_6
  | 7, _ => Tryz.tb_18_7
  | 8, _ => Tryz.tb_18_8
  | 9, _ => Tryz.tb_18_9
  | 10, _ => Tryz.tb_18_10
  | 11, _ => Tryz.tb_18_11
  | 12, _ => Tryz.tb_18_12
  | 13, _ => Tryz.tb_18_13
  | 14, _ => Tryz.tb_18_14
  | 15, _ => Tryz.tb_18_15
  | 16, _ => Tryz.tb_18_16
  | 17, _ => Tryz.tb_18_17
  | 18, _ => Tryz.tb_18_18
  | 19, _ => Tryz.tb_18_19
  | n + 20, h => absurd h (by omega)
theorem Tryz.tb_19 [Io] : ∀ i, i ≤ 20 → KnownF Tryz.prog 13 (Tryz.tA 19 i) (.bool true)
  | 0, _ => Tryz.tb_19_0
  | 1, _ => Tryz.tb_19_1
  | 2, _ => Tryz.tb_19_2
  | 3, _ => Tryz.tb_19_3
  | 4, _ => Tryz.tb_19_4
  | 5, _ => Tryz.tb_19_5
  | 6, _ => Tryz.tb_19_6
  | 7, _ => Tryz.tb_19_7
  | 8, _ => Tryz.tb_19_8
  | 9, _ => Tryz.tb_19_9
  | 10, _ => Tryz.tb_19_10
  | 11, _ => Tryz.tb_19_11
  | 12, _ => Tryz.tb_19_12
  | 13, _ => Tryz.tb_19_13
  | 14, _ => Tryz.tb_19_14
  | 15, _ => Tryz.tb_19_15
  | 16, _ => Tryz.tb_19_16
  | 17, _ => Tryz.tb_19_17
  | 18, _ => Tryz.tb_19_18
  | 19, _ => Tryz.tb_19_19
  | 20, _ => Tryz.tb_19_20
  | n + 21, h => absurd h (by omega)
theorem Tryz.tb_20 [Io] : ∀ i, i ≤ 21 → KnownF Tryz.prog 13 (Tryz.tA 20 i) (.bool true)
  | 0, _ => Tryz.tb_20_0
  | 1, _ => Tryz.tb_20_1
  | 2, _ => Tryz.tb_20_2
  | 3, _ => Tryz.tb_20_3
  | 4, _ => Tryz.tb_20_4
  | 5, _ => Tryz.tb_20_5
  | 6, _ => Tryz.tb_20_6
  | 7, _ => Tryz.tb_20_7
  | 8, _ => Tryz.tb_20_8
  | 9, _ => Tryz.tb_20_9
  | 10, _ => Tryz.tb_20_10
  | 11, _ => Tryz.tb_20_11
  | 12, _ => Tryz.tb_20_12
  | 13, _ => Tryz.tb_20_13
  | 14, _ => Tryz.tb_20_14
  | 15, _ => Tryz.tb_20_15
  | 16, _ => Tryz.tb_20_16
  | 17, _ => Tryz.tb_20_17
  | 18, _ => Tryz.tb_20_18
  | 19, _ => Tryz.tb_20_19
  | 20, _ => Tryz.tb_20_20
  | 21, _ => Tryz.tb_20_21
  | n + 22, h => absurd h (by omega)
theorem Tryz.tb_21 [Io] : ∀ i, i ≤ 22 → KnownF Tryz.prog 13 (Tryz.tA 21 i) (.bool true)
  | 0, _ => Tryz.tb_21_0
  | 1, _ => Tryz.tb_21_1
  | 2, _ => Tryz.tb_21_2
  | 3, _ => Tryz.tb_21_3
  | 4, _ => Tryz.tb_21_4
  | 5, _ => Tryz.tb_21_5
  | 6, _ => Tryz.tb_21_6
  | 7, _ => Tryz.tb_21_7
  | 8, _ => Tryz.tb_21_8
  | 9, _ => Tryz.tb_21_9
  | 10, _ => Tryz.tb_21_10
  | 11, _ => Tryz.tb_21_11
  | 12, _ => Tryz.tb_21_12
  | 13, _ => Tryz.tb_21_13
  | 14, _ => Tryz.tb_21_14
  | 15, _ => Tryz.tb_21_15
  | 16, _ => Tryz.tb_21_16
  | 17, _ => Tryz.tb_21_17
  | 18, _ => Tryz.tb_21_18
  | 19, _ => Tryz.tb_21_19
  | 20, _ => Tryz.tb_21_20
  | 21, _ => Tryz.tb_21_21
  | 22, _ => Tryz.tb_21_22
  | n + 23, h => absurd h (by omega)
theorem Tryz.tb_22 [Io] : ∀ i, i ≤ 23 → KnownF Tryz.prog 13 (Tryz.tA 22 i) (.bool true)
  | 0, _ => Tryz.tb_22_0
  | 1, _ => Tryz.tb_22_1
  | 2, _ => Tryz.tb_22_2
  | 3, _ => Tryz.tb_22_3
  | 4, _ => Tryz.tb_22_4
  | 5, _ => Tryz.tb_22_5
  | 6, _ => Tryz.tb_22_6
  | 7, _ => Tryz.tb_22_7
  | 8, _ => Tryz.tb_22_8
  | 9, _ => Tryz.tb_22_9
  | 10, _ => Tryz.tb_22_10
  | 11, _ => Tryz.tb_22_11
  | 12, _ => Tryz.tb_22_12
  | 13, _ => Tryz.tb_22_13
  | 14, _ => Tryz.tb_22_14
  | 15, _ => Tryz.tb_22_15
  | 16, _ => Tryz.tb_22_16
  | 17, _ => Tryz.tb_22_17
  | 18, _ => Tryz.tb_22_18
  | 19, _ => Tryz.tb_22_19
  | 20, _ => Tryz.tb_22_20
  | 21, _ => Tryz.tb_22_21
  | 22, _ => Tryz.tb_22_22
  | 23, _ => Tryz.tb_22_23
  | n + 24, h => absurd h (by omega)
theorem Tryz.tb_23 [Io] : ∀ i, i ≤ 24 → KnownF Tryz.prog 13 (Tryz.tA 23 i) (.bool true)
  | 0, _ => Tryz.tb_23_0
  | 1, _ => Tryz.tb_23_1
  | 2, _ => Tryz.tb_23_2
  | 3, _ => Tryz.tb_23_3
  | 4, _ => Tryz.tb_23_4
  | 5, _ => Tryz.tb_23_5
  | 6, _ => Tryz.tb_23_6
  | 7, _ => Tryz.tb_23_7
  | 8, _ => Tryz.tb_23_8
  | 9, _ => Tryz.tb_23_9
  | 10, _ => Tryz.tb_23_10
  | 11, _ => Tryz.tb_23_11
  | 12, _ => Tryz.tb_23_12
  | 13, _ => Tryz.tb_23_13
  | 14, _ => Tryz.tb_23_14
  | 15, _ => Tryz.tb_23_15
  | 16, _ => Tryz.tb_23_16
  | 17, _ => Tryz.tb_23_17
  | 18, _ => Tryz.tb_23_18
  | 19, _ => Tryz.tb_23_19
  | 20, _ => Tryz.tb_23_20
  | 21, _ => Tryz.tb_23_21
  | 22, _ => Tryz.tb_23_22
  | 23, _ => Tryz.tb_23_23
  | 24, _ => Tryz.tb_23_24
  | n + 25, h => absurd h (by omega)
theorem Tryz.tb_24 [Io] : ∀ i, i ≤ 25 → KnownF Tryz.prog 13 (Tryz.tA 24 i) (.bool true)
  | 0, _ => Tryz.tb_24_0
  | 1, _ => Tryz.tb_24_1
  | 2, _ => Tryz.tb_24_2
  | 3, _ => Tryz.tb_24_3
  | 4, _ => Tryz.tb_24_4
  | 5, _ => Tryz.tb_24_5
  | 6, _ => Tryz.tb_24_6
  | 7, _ => Tryz.tb_24_7
  | 8, _ => Tryz.tb_24_8
  | 9, _ => Tryz.tb_24_9
  | 10, _ => Tryz.tb_24_10
  | 11, _ => Tryz.tb_24_11
  | 12, _ => Tryz.tb_24_12
  | 13, _ => Tryz.tb_24_13
  | 14, _ => Tryz.tb_24_14
  | 15, _ => Tryz.tb_24_15
  | 16, _ => Tryz.tb_24_16
  | 17, _ => Tryz.tb_24_17
  | 18, _ => Tryz.tb_24_18
  | 19, _ => Tryz.tb_24_19
  | 20, _ => Tryz.tb_24_20
  | 21, _ => Tryz.tb_24_21
  | 22, _ => Tryz.tb_24_22
  | 23, _ => Tryz.tb_24_23
  | 24, _ => Tryz.tb_24_24
  | 25, _ => Tryz.tb_24_25
  | n + 26, h => absurd h (by omega)
theorem Tryz.tb_25 [Io] : ∀ i, i ≤ 26 → KnownF Tryz.prog 13 (Tryz.tA 25 i) (.bool true)
  | 0, _ => Tryz.tb_25_0
  | 1, _ => Tryz.tb_25_1
  | 2, _ => Tryz.tb_25_2
  | 3, _ => Tryz.tb_25_3
  | 4, _ => Tryz.tb_25_4
  | 5, _ => Tryz.tb_25_5
  | 6, _ => Tryz.tb_25_6
  | 7, _ => Tryz.tb_25_7
  | 8, _ => Tryz.tb_25_8
  | 9, _ => Tryz.tb_25_9
  | 10, _ => Tryz.tb_25_10
  | 11, _ => Tryz.tb_25_11
  | 12, _ => Tryz.tb_25_12
  | 13, _ => Tryz.tb_25_13
  | 14, _ => Tryz.tb_25_14
  | 15, _ => Tryz.tb_25_15
  | 16, _ => Tryz.tb_25_16
  | 17, _ => Tryz.tb_25_17
  | 18, _ => Tryz.tb_25_18
  | 19, _ => Tryz.tb_25_19
  | 20, _ => Tryz.tb_25_20
  | 21, _ => Tryz.tb_25_21
  | 22, _ => Tryz.tb_25_22
  | 23, _ => Tryz.tb_25_23
  | 24, _ => Tryz.tb_25_24
  | 25, _ => Tryz.tb_25_25
  | 26, _ => Tryz.tb_25_26
  | n + 27, h => absurd h (by omega)
theorem Tryz.tb_26 [Io] : ∀ i, i ≤ 27 → KnownF Tryz.prog 13 (Tryz.tA 26 i) (.bool true)
  | 0, _ => Tryz.tb_26_0
  | 1, _ => Tryz.tb_26_1
  | 2, _ => Tryz.tb_26_2
  | 3, _ => Tryz.tb_26_3
  | 4, _ => Tryz.tb_26_4
  | 5, _ => Tryz.tb_26_5
  | 6, _ => Tryz.tb_26_6
  | 7, _ => Tryz.tb_26_7
  | 8, _ => Tryz.tb_26_8
  | 9, _ => Tryz.tb_26_9
  | 10, _ => Tryz.tb_26_10
  | 11, _ => Tryz.tb_26_11
  | 12, _ => Tryz.tb_26_12
  | 13, _ => Tryz.tb_26_13
  | 14, _ => Tryz.tb_26_14
  | 15, _ => Tryz.tb_26_15
  | 16, _ => Tryz.tb_26_16
  | 17, _ => Tryz.tb_26_17
  | 18, _ => Tryz.tb_26_18
  | 19, _ => Tryz.tb_26_19
  | 20, _ => Tryz.tb_26_20
  | 21, _ => Tryz.tb_26_21
  | 22, _ => Tryz.tb_26_22
  | 23, _ => Tryz.tb_26_23
  | 24, _ => Tryz.tb_26_24
  | 25, _ => Tryz.tb_26_25
  | 26, _ => Tryz.tb_26_26
  | 27, _ => Tryz.tb_26_27
  | n + 28, h => absurd h (by omega)
theorem Tryz.tb_27 [Io] : ∀ i, i ≤ 28 → KnownF Tryz.prog 13 (Tryz.tA 27 i) (.bool true)
  | 0, _ => Tryz.tb_27_0
  | 1, _ => Tryz.tb_27_1
  | 2, _ => Tryz.tb_27_2
  | 3, _ => Tryz.tb_27_3
  | 4, _ => Tryz.tb_27_4
  | 5, _ => Tryz.tb_27_5
  | 6, _ => Tryz.tb_27_6
  | 7, _ => Tryz.tb_27_7
  | 8, _ => Tryz.tb_27_8
  | 9, _ => Tryz.tb_27_9
  | 10, _ => Tryz.tb_27_10
  | 11, _ => Tryz.tb_27_11
  | 12, _ => Tryz.tb_27_12
  | 13, _ => Tryz.tb_27_13
  | 14, _ => Tryz.tb_27_14
  | 15, _ => Tryz.tb_27_15
  | 16, _ => Tryz.tb_27_16
  | 17, _ => Tryz.tb_27_17
  | 18, _ => Tryz.tb_27_18
  | 19, _ => Tryz.tb_27_19
  | 20, _ => Tryz.tb_27_20
  | 21, _ => Tryz.tb_27_21
  | 22, _ => Tryz.tb_27_22
  | 23, _ => Tryz.tb_27_23
  | 24, _ => Tryz.tb_27_24
  | 25, _ => Tryz.tb_27_25
  | 26, _ => Tryz.tb_27_26
  | 27, _ => Tryz.tb_27_27
  | 28, _ => Tryz.tb_27_28
  | n + 29, h => absurd h (by omega)
theorem Tryz.tb_28 [Io] : ∀ i, i ≤ 29 → KnownF Tryz.prog 13 (Tryz.tA 28 i) (.bool true)
  | 0, _ => Tryz.tb_28_0
  | 1, _ => Tryz.tb_28_1
  | 2, _ => Tryz.tb_28_2
  | 3, _ => Tryz.tb_28_3
  | 4, _ => Tryz.tb_28_4
  | 5, _ => Tryz.tb_28_5
  | 6, _ => Tryz.tb_28_6
  | 7, _ => Tryz.tb_28_7
  | 8, _ => Tryz.tb_28_8
  | 9, _ => Tryz.tb_28_9
  | 10, _ => Tryz.tb_28_10
  | 11, _ => Tryz.tb_28_11
  | 12, _ => Tryz.tb_28_12
  | 13, _ => Tryz.tb_28_13
  | 14, _ => Tryz.tb_28_14
  | 15, _ => Tryz.tb_28_15
  | 16, _ => Tryz.tb_28_16
  | 17, _ => Tryz.tb_28_17
  | 18, _ => Tryz.tb_28_18
  | 19, _ => Tryz.tb_28_19
  | 20, _ => Tryz.tb_28_20
  | 21, _ => Tryz.tb_28_21
  | 22, _ => Tryz.tb_28_22
  | 23, _ => Tryz.tb_28_23
  | 24, _ => Tryz.tb_28_24
  | 25, _ => Tryz.tb_28_25
  | 26, _ => Tryz.tb_28_26
  | 27, _ => Tryz.tb_28_27
  | 28, _ => Tryz.tb_28_28
  | 29, _ => Tryz.tb_28_29
  | n + 30, h => absurd h (by omega)
theorem Tryz.tb_29 [Io] : ∀ i, i ≤ 30 → KnownF Tryz.prog 13 (Tryz.tA 29 i) (.bool true)
  | 0, _ => Tryz.tb_29_0
  | 1, _ => Tryz.tb_29_1
  | 2, _ => Tryz.tb_29_2
  | 3, _ => Tryz.tb_29_3
  | 4, _ => Tryz.tb_29_4
  | 5, _ => Tryz.tb_29_5
  | 6, _ => Tryz.tb_29_6
  | 7, _ => Tryz.tb_29_7
  | 8, _ => Tryz.tb_29_8
  | 9, _ => Tryz.tb_29_9
  | 10, _ => Tryz.tb_29_10
  | 11, _ => Tryz.tb_29_11
  | 12, _ => Tryz.tb_29_12
  | 13, _ => Tryz.tb_29_13
  | 14, _ => Tryz.tb_29_14
  | 15, _ => Tryz.tb_29_15
  | 16, _ => Tryz.tb_29_16
  | 17, _ => Tryz.tb_29_17
  | 18, _ => Tryz.tb_29_18
  | 19, _ => Tryz.tb_29_19
  | 20, _ => Tryz.tb_29_20
  | 21, _ => Tryz.tb_29_21
  | 22, _ => Tryz.tb_29_22
  | 23, _ => Tryz.tb_29_23
  | 24, _ => Tryz.tb_29_24
  | 25, _ => Tryz.tb_29_25
  | 26, _ => Tryz.tb_29_26
  | 27, _ => Tryz.tb_29_27
  | 28, _ => Tryz.tb_29_28
  | 29, _ => Tryz.tb_29_29
  | 30, _ => Tryz.tb_29_30
  | n + 31, h => absurd h (by omega)
theorem Tryz.tb_all [Io] : ∀ k, k < 30 → ∀ i, i ≤ k + 1 → KnownF Tryz.prog 13 (Tryz.tA k i) (.bool true)
  | 0, _ => Tryz.tb_0
  | 1, _ => Tryz.tb_1
  | 2, _ => Tryz.tb_2
  | 3, _ => Tryz.tb_3
  | 4, _ => Tryz.tb_4
  | 5, _ => Tryz.tb_5
  | 6, _ => Tryz.tb_6
  | 7, _ => Tryz.tb_7
  | 8, _ => Tryz.tb_8
  | 9, _ => Tryz.tb_9
  | 10, _ => Tryz.tb_10
  | 11, _ => Tryz.tb_11
  | 12, _ => Tryz.tb_12
  | 13, _ => Tryz.tb_13
  | 14, _ => Tryz.tb_14
  | 15, _ => Tryz.tb_15
  | 16, _ => Tryz.tb_16
  | 17, _ => Tryz.tb_17
  | 18, _ => Tryz.tb_18
  | 19, _ => Tryz.tb_19
  | 20, _ => Tryz.tb_20
  | 21, _ => Tryz.tb_21
  | 22, _ => Tryz.tb_22
  | 23, _ => Tryz.tb_23
  | 24, _ => Tryz.tb_24
  | 25, _ => Tryz.tb_25
  | 26, _ => Tryz.tb_26
  | 27, _ => Tryz.tb_27
  | 28, _ => Tryz.tb_28
  | 29, _ => Tryz.tb_29
  | n + 30, h => absurd h (by omega)
end Go.Proofs

namespace Go.Proofs
open Go.Ab
set_option maxRecDepth 1000000
def Tryz.uB (lo hi q : Int) : Nat → Int := fun i => match i with | 5 => lo | 6 => hi | 7 => q | _ => 0
theorem Tryz.tv {x y : Int} {k i : Nat} (hx : 0 ≤ x ∧ x ≤ 18446744073709551615) (hy : 0 ≤ y ∧ y ≤ 255) (hk : (k : Int) = y % 30) (hi : (i : Int) = min (x % 4294967296) ((k : Int) + 1)) (g : G) (w : World) :
    @VRs ⟨Tryz.uB (x % 4294967296) (x / 4294967296) (y / 30)⟩ g w (Tryz.tA k i) [.int .u64 x, .int .u8 y] := by
  have hl : Tryz.tLo k i ≤ x % 4294967296 ∧ x % 4294967296 ≤ Tryz.tHi k i := by
    unfold Tryz.tLo Tryz.tHi
    cases hb : Nat.ble i k with
    | true =>
      have := Nat.le_of_ble_eq_true hb
      simp only [cond_true, Int.ofNat_eq_natCast]
      omega
    | false =>
      have : ¬ i ≤ k := fun h => by rw [Nat.ble_eq_true_of_le h] at hb; cases hb
      simp only [cond_false, Int.ofNat_eq_natCast]
      omega
  have hc : clamp (Tryz.tLo k i) (Tryz.tHi k i) (x % 4294967296) = x % 4294967296 := by
    unfold clamp
    omega
  have e1 : @evalSV ⟨Tryz.uB (x % 4294967296) (x / 4294967296) (y / 30)⟩ (.pr 5 (Tryz.tLo k i) (Tryz.tHi k i) 6) = x := by
    show clamp (Tryz.tLo k i) (Tryz.tHi k i) (x % 4294967296) + 4294967296 * (x / 4294967296) = x
    rw [hc]; omega
  have e2 : @evalSV ⟨Tryz.uB (x % 4294967296) (x / 4294967296) (y / 30)⟩ (.lin 7 30) = 30 * (y / 30) := rfl
  have hm : 30 * (y / 30) ≤ Tryz.tM k := by
    unfold Tryz.tM
    cases hb : Nat.ble k 15 with
    | true => simp only [cond_true, Int.ofNat_eq_natCast]; omega
    | false =>
      have : ¬ k ≤ 15 := fun h => by rw [Nat.ble_eq_true_of_le h] at hb; cases hb
      simp only [cond_false, Int.ofNat_eq_natCast]; omega
  unfold Tryz.tA
  simp only [VRs, VR]
  refine ⟨_, _, rfl, ⟨by rw [e1, Int.add_zero], by rw [e1]; omega, by rw [e1]; show x ≤ Tryz.tHi k i + 18446744069414584320; omega⟩, _, _, rfl, ⟨?_, by rw [e2]; omega, by rw [e2]; exact hm⟩, rfl⟩
  rw [e2]
  congr 1
  simp only [Int.ofNat_eq_natCast]
  omega
theorem Tryz.tb_gen {I : Nat → Int} : @KnownF ⟨I⟩ Tryz.prog 13 [.sym .u64 (.var 3) 0 18446744073709551615 0, .sym .u8 (.var 2) 0 255 0] (.bool true) := by
  refine ⟨(@Tryz.tb_0_0 ⟨I⟩).1, fun g w vs hi hv => ?_⟩
  have key : ∃ x y : Int, vs = [.int .u64 x, .int .u8 y] ∧ (0 ≤ x ∧ x ≤ 18446744073709551615) ∧ 0 ≤ y ∧ y ≤ 255 := by
    simp only [VRs] at hv
    obtain ⟨v, l, rfl, h1, v2, l2, rfl, h2, rfl⟩ := hv
    simp only [VR] at h1 h2
    obtain ⟨rfl, a1, a2⟩ := h1
    obtain ⟨rfl, b1, b2⟩ := h2
    have a1 : 0 ≤ I 3 := a1
    have a2 : I 3 ≤ 18446744073709551615 := a2
    have b1 : 0 ≤ I 2 := b1
    have b2 : I 2 ≤ 255 := b2
    refine ⟨I 3 + 0, I 2 + 0, rfl, ?_, ?_⟩ <;> omega
  obtain ⟨x, y, rfl, hx, hy⟩ := key
  have hk : (((y % 30).toNat : Nat) : Int) = y % 30 := by omega
  have hi2 : (((min (x % 4294967296) ((((y % 30).toNat : Nat) : Int) + 1)).toNat : Nat) : Int) = min (x % 4294967296) ((((y % 30).toNat : Nat) : Int) + 1) := by omega
  have h := @Tryz.tb_all ⟨Tryz.uB (x % 4294967296) (x / 4294967296) (y / 30)⟩ (y % 30).toNat (by omega) (min (x % 4294967296) ((((y % 30).toNat : Nat) : Int) + 1)).toNat (by omega)
  refine (h.2 g w _ hi (Tryz.tv hx hy hk hi2 g w)).mono ?_
  rintro e w' ⟨x, rfl, K, hx⟩
  refine ⟨x, rfl, K, ?_⟩
  simpa only [VR] using hx
end Go.Proofs

namespace Go.Proofs
open Go.Ab
set_option maxRecDepth 1000000
theorem Tryz.jkA [Io] : KnownF Tryz.prog 7 [] (.bool true) := knownF_of (Tryz.ok 1000 60) (by kernel_rfl) (by kernel_rfl)
noncomputable def Tryz.jHas (f : FuncId) : Bool := bif Nat.beq f 7 then true else bif Nat.beq f 12 then true else Nat.beq f 13
noncomputable def Tryz.jRows : List Kn := [⟨7, [], .bool true⟩, ⟨12, [.sym .u16 (.var 0) 0 65535 0, .sym .u16 (.var 1) 0 65535 0], .bool true⟩, ⟨13, [.sym .u64 (.var 3) 0 18446744073709551615 0, .sym .u8 (.var 2) 0 255 0], .bool true⟩]
noncomputable def Tryz.jC : CallF := fCall Tryz.fb.get Tryz.jHas Tryz.jRows 1000 60
theorem Tryz.jC_ok {I : Nat → Int} : @CallOk ⟨I⟩ Tryz.prog Tryz.jC :=
  @fCall_ok ⟨I⟩ _ _ (@draw_ok ⟨I⟩ _ Tryz.mixed) _ (fun f b e => by simpa using Tryz.fbs.get f b e) _ _ (@KT.cons ⟨I⟩ _ _ _ _ _ (@Tryz.jkA ⟨I⟩) (@KT.cons ⟨I⟩ _ _ _ _ _ Tryz.tt_all (@KT.cons ⟨I⟩ _ _ _ _ _ Tryz.tb_gen (@KT.nil ⟨I⟩ _)))) 1000 60
theorem Tryz.jl : isT (Tryz.jC 4 [.agg [.sym .u16 (.var 0) 0 65535 0, .sym .u16 (.var 1) 0 65535 0, .sym .u8 (.var 2) 0 255 0], .sym .u64 (.var 3) 0 18446744073709551615 0] (nilH 0)) = true := by kernel_rfl
def Tryz.jB (n f y x : Int) : Nat → Int := fun i => match i with | 0 => n | 1 => f | 2 => y | _ => x
theorem Tryz.j_all (n f y x : Int) (hn : 0 ≤ n ∧ n ≤ 65535) (hf : 0 ≤ f ∧ f ≤ 65535) (hy : 0 ≤ y ∧ y ≤ 255) (hx : 0 ≤ x ∧ x ≤ 18446744073709551615) (w : World) :
    Calls Tryz.prog 4 #[.agg #[.int .u16 n, .int .u16 f, .int .u8 y], .int .u64 x] w fun e w' => e = .returned (.bool true) ∧ Go.RowKit.Below w.heap.size w w' := by
  refine @law_ok ⟨Tryz.jB n f y x⟩ _ _ Tryz.jC_ok 4 _ [.agg #[.int .u16 n, .int .u16 f, .int .u8 y], .int .u64 x] Tryz.jl w ?_
  simp only [VRs, VR]
  exact ⟨_, _, rfl, ⟨#[.int .u16 n, .int .u16 f, .int .u8 y], rfl, ⟨_, _, rfl, ⟨by show Value.int .u16 n = Value.int .u16 (n + 0); rw [Int.add_zero], hn.1, hn.2⟩, _, _, rfl, ⟨by show Value.int .u16 f = Value.int .u16 (f + 0); rw [Int.add_zero], hf.1, hf.2⟩,
    _, _, rfl, ⟨by show Value.int .u8 y = Value.int .u8 (y + 0); rw [Int.add_zero], hy.1, hy.2⟩, rfl⟩⟩, _, _, rfl, ⟨by show Value.int .u64 x = Value.int .u64 (x + 0); rw [Int.add_zero], hx.1, hx.2⟩, rfl⟩
end Go.Proofs
