import Derived.Test.YtfdjdnphbakjoaaOfScan
namespace Go.Proofs
open Go.Ab
set_option maxRecDepth 1000000

def ofI : List (Int × Int) := [(0, 0), (1, 1), (2, 4), (5, 5), (11, 11), (12, 13), (14, 14), (15, 15), (16, 16), (17, 17), (26, 27), (32, 36), (40, 40), (41, 41), (44, 45), (46, 47), (48, 49), (50, 51), (52, 53), (54, 54), (55, 55), (58, 58), (59, 59), (60, 60), (61, 61), (62, 62), (63, 63), (64, 64), (65, 65), (66, 66), (69, 69), (70, 79), (80, 80), (81, 90), (103, 105), (106, 120), (121, 123), (124, 138), (167, 167), (172, 173), (192, 193), (194, 196), (64768, 64768), (64769, 64774), (64775, 64775), (64776, 64776), (64777, 64777), (64778, 64778), (64779, 64779), (64780, 64780), (64781, 64781), (64782, 64782), (64783, 64785), (64786, 64786), (64789, 64790), (64791, 64791), (64792, 64793), (64794, 64794), (64795, 64795), (64796, 64796), (64797, 64797), (64798, 64798), (64803, 64832), (64845, 64845), (64846, 64849), (64850, 64850), (64851, 64851), (64852, 64852), (64853, 64853), (64854, 64854), (64855, 64855), (64856, 64856), (64857, 64857), (64858, 64858), (64859, 64859), (64860, 64860), (64861, 64861), (64864, 64866), (64867, 64868), (64869, 64870), (64875, 64877), (64878, 64883), (64886, 64889), (64891, 64891), (64892, 64897), (64898, 64898), (64899, 64900), (64901, 64902), (64903, 64906), (64907, 64909), (64910, 64915), (64917, 64921), (64923, 64927), (64928, 64929), (64931, 64932), (64935, 64938), (64939, 64941), (64942, 64942), (64945, 64945), (64949, 64954), (64956, 64959), (64960, 64961), (64963, 64964), (64967, 64970), (64971, 64973), (64974, 64974), (64977, 64977), (64981, 64991)]
def ofOut (j : Nat) (x : Int) : Prop := ∀ p, ofI[j]? = some p → x < p.1 ∨ p.2 < x
theorem ofA0 (x : Int) (h1 : (-9223372036854775808) ≤ x) (h2 : x ≤ 9223372036854775807) (h : ofOut 0 x) : ∃ A B, OfGo 0 A B ∧ A ≤ x ∧ x ≤ B := by
  rcases h (0, 0) rfl with h | h
  · exact ⟨_, _, ofL0, h1, by simp only at h; omega⟩
  · exact ⟨_, _, ofG0, by simp only at h; omega, h2⟩
theorem ofA1 (x : Int) (h1 : (-9223372036854775808) ≤ x) (h2 : x ≤ 9223372036854775807) (h : ofOut 1 x) : ∃ A B, OfGo 1 A B ∧ A ≤ x ∧ x ≤ B := by
  rcases h (1, 1) rfl with h | h
  · exact ⟨_, _, ofL1, h1, by simp only at h; omega⟩
  · exact ⟨_, _, ofG1, by simp only at h; omega, h2⟩
theorem ofA2 (x : Int) (h1 : (-9223372036854775808) ≤ x) (h2 : x ≤ 9223372036854775807) (h : ofOut 2 x) : ∃ A B, OfGo 2 A B ∧ A ≤ x ∧ x ≤ B := by
  rcases h (2, 4) rfl with h | h
  · exact ⟨_, _, ofL2, h1, by simp only at h; omega⟩
  · exact ⟨_, _, ofG2, by simp only at h; omega, h2⟩
theorem ofA3 (x : Int) (h1 : (-9223372036854775808) ≤ x) (h2 : x ≤ 9223372036854775807) (h : ofOut 3 x) : ∃ A B, OfGo 3 A B ∧ A ≤ x ∧ x ≤ B := by
  rcases h (5, 5) rfl with h | h
  · exact ⟨_, _, ofL3, h1, by simp only at h; omega⟩
  · exact ⟨_, _, ofG3, by simp only at h; omega, h2⟩
theorem ofA4 (x : Int) (h1 : (-9223372036854775808) ≤ x) (h2 : x ≤ 9223372036854775807) (h : ofOut 4 x) : ∃ A B, OfGo 4 A B ∧ A ≤ x ∧ x ≤ B := by
  rcases h (11, 11) rfl with h | h
  · exact ⟨_, _, ofL4, h1, by simp only at h; omega⟩
  · exact ⟨_, _, ofG4, by simp only at h; omega, h2⟩
theorem ofA5 (x : Int) (h1 : (-9223372036854775808) ≤ x) (h2 : x ≤ 9223372036854775807) (h : ofOut 5 x) : ∃ A B, OfGo 5 A B ∧ A ≤ x ∧ x ≤ B := by
  rcases h (12, 13) rfl with h | h
  · exact ⟨_, _, ofL5, h1, by simp only at h; omega⟩
  · exact ⟨_, _, ofG5, by simp only at h; omega, h2⟩
theorem ofA6 (x : Int) (h1 : (-9223372036854775808) ≤ x) (h2 : x ≤ 9223372036854775807) (h : ofOut 6 x) : ∃ A B, OfGo 6 A B ∧ A ≤ x ∧ x ≤ B := by
  rcases h (14, 14) rfl with h | h
  · exact ⟨_, _, ofL6, h1, by simp only at h; omega⟩
  · exact ⟨_, _, ofG6, by simp only at h; omega, h2⟩
theorem ofA7 (x : Int) (h1 : (-9223372036854775808) ≤ x) (h2 : x ≤ 9223372036854775807) (h : ofOut 7 x) : ∃ A B, OfGo 7 A B ∧ A ≤ x ∧ x ≤ B := by
  rcases h (15, 15) rfl with h | h
  · exact ⟨_, _, ofL7, h1, by simp only at h; omega⟩
  · exact ⟨_, _, ofG7, by simp only at h; omega, h2⟩
theorem ofA8 (x : Int) (h1 : (-9223372036854775808) ≤ x) (h2 : x ≤ 9223372036854775807) (h : ofOut 8 x) : ∃ A B, OfGo 8 A B ∧ A ≤ x ∧ x ≤ B := by
  rcases h (16, 16) rfl with h | h
  · exact ⟨_, _, ofL8, h1, by simp only at h; omega⟩
  · exact ⟨_, _, ofG8, by simp only at h; omega, h2⟩
theorem ofA9 (x : Int) (h1 : (-9223372036854775808) ≤ x) (h2 : x ≤ 9223372036854775807) (h : ofOut 9 x) : ∃ A B, OfGo 9 A B ∧ A ≤ x ∧ x ≤ B := by
  rcases h (17, 17) rfl with h | h
  · exact ⟨_, _, ofL9, h1, by simp only at h; omega⟩
  · exact ⟨_, _, ofG9, by simp only at h; omega, h2⟩
theorem ofA10 (x : Int) (h1 : (-9223372036854775808) ≤ x) (h2 : x ≤ 9223372036854775807) (h : ofOut 10 x) : ∃ A B, OfGo 10 A B ∧ A ≤ x ∧ x ≤ B := by
  rcases h (26, 27) rfl with h | h
  · exact ⟨_, _, ofL10, h1, by simp only at h; omega⟩
  · exact ⟨_, _, ofG10, by simp only at h; omega, h2⟩
theorem ofA11 (x : Int) (h1 : (-9223372036854775808) ≤ x) (h2 : x ≤ 9223372036854775807) (h : ofOut 11 x) : ∃ A B, OfGo 11 A B ∧ A ≤ x ∧ x ≤ B := by
  rcases h (32, 36) rfl with h | h
  · exact ⟨_, _, ofL11, h1, by simp only at h; omega⟩
  · exact ⟨_, _, ofG11, by simp only at h; omega, h2⟩
theorem ofA12 (x : Int) (h1 : (-9223372036854775808) ≤ x) (h2 : x ≤ 9223372036854775807) (h : ofOut 12 x) : ∃ A B, OfGo 12 A B ∧ A ≤ x ∧ x ≤ B := by
  rcases h (40, 40) rfl with h | h
  · exact ⟨_, _, ofL12, h1, by simp only at h; omega⟩
  · exact ⟨_, _, ofG12, by simp only at h; omega, h2⟩
theorem ofA13 (x : Int) (h1 : (-9223372036854775808) ≤ x) (h2 : x ≤ 9223372036854775807) (h : ofOut 13 x) : ∃ A B, OfGo 13 A B ∧ A ≤ x ∧ x ≤ B := by
  rcases h (41, 41) rfl with h | h
  · exact ⟨_, _, ofL13, h1, by simp only at h; omega⟩
  · exact ⟨_, _, ofG13, by simp only at h; omega, h2⟩
theorem ofA14 (x : Int) (h1 : (-9223372036854775808) ≤ x) (h2 : x ≤ 9223372036854775807) (h : ofOut 14 x) : ∃ A B, OfGo 14 A B ∧ A ≤ x ∧ x ≤ B := by
  rcases h (44, 45) rfl with h | h
  · exact ⟨_, _, ofL14, h1, by simp only at h; omega⟩
  · exact ⟨_, _, ofG14, by simp only at h; omega, h2⟩
theorem ofA15 (x : Int) (h1 : (-9223372036854775808) ≤ x) (h2 : x ≤ 9223372036854775807) (h : ofOut 15 x) : ∃ A B, OfGo 15 A B ∧ A ≤ x ∧ x ≤ B := by
  rcases h (46, 47) rfl with h | h
  · exact ⟨_, _, ofL15, h1, by simp only at h; omega⟩
  · exact ⟨_, _, ofG15, by simp only at h; omega, h2⟩
theorem ofA16 (x : Int) (h1 : (-9223372036854775808) ≤ x) (h2 : x ≤ 9223372036854775807) (h : ofOut 16 x) : ∃ A B, OfGo 16 A B ∧ A ≤ x ∧ x ≤ B := by
  rcases h (48, 49) rfl with h | h
  · exact ⟨_, _, ofL16, h1, by simp only at h; omega⟩
  · exact ⟨_, _, ofG16, by simp only at h; omega, h2⟩
theorem ofA17 (x : Int) (h1 : (-9223372036854775808) ≤ x) (h2 : x ≤ 9223372036854775807) (h : ofOut 17 x) : ∃ A B, OfGo 17 A B ∧ A ≤ x ∧ x ≤ B := by
  rcases h (50, 51) rfl with h | h
  · exact ⟨_, _, ofL17, h1, by simp only at h; omega⟩
  · exact ⟨_, _, ofG17, by simp only at h; omega, h2⟩
theorem ofA18 (x : Int) (h1 : (-9223372036854775808) ≤ x) (h2 : x ≤ 9223372036854775807) (h : ofOut 18 x) : ∃ A B, OfGo 18 A B ∧ A ≤ x ∧ x ≤ B := by
  rcases h (52, 53) rfl with h | h
  · exact ⟨_, _, ofL18, h1, by simp only at h; omega⟩
  · exact ⟨_, _, ofG18, by simp only at h; omega, h2⟩
theorem ofA19 (x : Int) (h1 : (-9223372036854775808) ≤ x) (h2 : x ≤ 9223372036854775807) (h : ofOut 19 x) : ∃ A B, OfGo 19 A B ∧ A ≤ x ∧ x ≤ B := by
  rcases h (54, 54) rfl with h | h
  · exact ⟨_, _, ofL19, h1, by simp only at h; omega⟩
  · exact ⟨_, _, ofG19, by simp only at h; omega, h2⟩
theorem ofA20 (x : Int) (h1 : (-9223372036854775808) ≤ x) (h2 : x ≤ 9223372036854775807) (h : ofOut 20 x) : ∃ A B, OfGo 20 A B ∧ A ≤ x ∧ x ≤ B := by
  rcases h (55, 55) rfl with h | h
  · exact ⟨_, _, ofL20, h1, by simp only at h; omega⟩
  · exact ⟨_, _, ofG20, by simp only at h; omega, h2⟩
theorem ofA21 (x : Int) (h1 : (-9223372036854775808) ≤ x) (h2 : x ≤ 9223372036854775807) (h : ofOut 21 x) : ∃ A B, OfGo 21 A B ∧ A ≤ x ∧ x ≤ B := by
  rcases h (58, 58) rfl with h | h
  · exact ⟨_, _, ofL21, h1, by simp only at h; omega⟩
  · exact ⟨_, _, ofG21, by simp only at h; omega, h2⟩
theorem ofA22 (x : Int) (h1 : (-9223372036854775808) ≤ x) (h2 : x ≤ 9223372036854775807) (h : ofOut 22 x) : ∃ A B, OfGo 22 A B ∧ A ≤ x ∧ x ≤ B := by
  rcases h (59, 59) rfl with h | h
  · exact ⟨_, _, ofL22, h1, by simp only at h; omega⟩
  · exact ⟨_, _, ofG22, by simp only at h; omega, h2⟩
theorem ofA23 (x : Int) (h1 : (-9223372036854775808) ≤ x) (h2 : x ≤ 9223372036854775807) (h : ofOut 23 x) : ∃ A B, OfGo 23 A B ∧ A ≤ x ∧ x ≤ B := by
  rcases h (60, 60) rfl with h | h
  · exact ⟨_, _, ofL23, h1, by simp only at h; omega⟩
  · exact ⟨_, _, ofG23, by simp only at h; omega, h2⟩
theorem ofA24 (x : Int) (h1 : (-9223372036854775808) ≤ x) (h2 : x ≤ 9223372036854775807) (h : ofOut 24 x) : ∃ A B, OfGo 24 A B ∧ A ≤ x ∧ x ≤ B := by
  rcases h (61, 61) rfl with h | h
  · exact ⟨_, _, ofL24, h1, by simp only at h; omega⟩
  · exact ⟨_, _, ofG24, by simp only at h; omega, h2⟩
theorem ofA25 (x : Int) (h1 : (-9223372036854775808) ≤ x) (h2 : x ≤ 9223372036854775807) (h : ofOut 25 x) : ∃ A B, OfGo 25 A B ∧ A ≤ x ∧ x ≤ B := by
  rcases h (62, 62) rfl with h | h
  · exact ⟨_, _, ofL25, h1, by simp only at h; omega⟩
  · exact ⟨_, _, ofG25, by simp only at h; omega, h2⟩
theorem ofA26 (x : Int) (h1 : (-9223372036854775808) ≤ x) (h2 : x ≤ 9223372036854775807) (h : ofOut 26 x) : ∃ A B, OfGo 26 A B ∧ A ≤ x ∧ x ≤ B := by
  rcases h (63, 63) rfl with h | h
  · exact ⟨_, _, ofL26, h1, by simp only at h; omega⟩
  · exact ⟨_, _, ofG26, by simp only at h; omega, h2⟩
theorem ofA27 (x : Int) (h1 : (-9223372036854775808) ≤ x) (h2 : x ≤ 9223372036854775807) (h : ofOut 27 x) : ∃ A B, OfGo 27 A B ∧ A ≤ x ∧ x ≤ B := by
  rcases h (64, 64) rfl with h | h
  · exact ⟨_, _, ofL27, h1, by simp only at h; omega⟩
  · exact ⟨_, _, ofG27, by simp only at h; omega, h2⟩
theorem ofA28 (x : Int) (h1 : (-9223372036854775808) ≤ x) (h2 : x ≤ 9223372036854775807) (h : ofOut 28 x) : ∃ A B, OfGo 28 A B ∧ A ≤ x ∧ x ≤ B := by
  rcases h (65, 65) rfl with h | h
  · exact ⟨_, _, ofL28, h1, by simp only at h; omega⟩
  · exact ⟨_, _, ofG28, by simp only at h; omega, h2⟩
theorem ofA29 (x : Int) (h1 : (-9223372036854775808) ≤ x) (h2 : x ≤ 9223372036854775807) (h : ofOut 29 x) : ∃ A B, OfGo 29 A B ∧ A ≤ x ∧ x ≤ B := by
  rcases h (66, 66) rfl with h | h
  · exact ⟨_, _, ofL29, h1, by simp only at h; omega⟩
  · exact ⟨_, _, ofG29, by simp only at h; omega, h2⟩
theorem ofA30 (x : Int) (h1 : (-9223372036854775808) ≤ x) (h2 : x ≤ 9223372036854775807) (h : ofOut 30 x) : ∃ A B, OfGo 30 A B ∧ A ≤ x ∧ x ≤ B := by
  rcases h (69, 69) rfl with h | h
  · exact ⟨_, _, ofL30, h1, by simp only at h; omega⟩
  · exact ⟨_, _, ofG30, by simp only at h; omega, h2⟩
theorem ofA31 (x : Int) (h1 : (-9223372036854775808) ≤ x) (h2 : x ≤ 9223372036854775807) (h : ofOut 31 x) : ∃ A B, OfGo 31 A B ∧ A ≤ x ∧ x ≤ B := by
  rcases h (70, 79) rfl with h | h
  · exact ⟨_, _, ofL31, h1, by simp only at h; omega⟩
  · exact ⟨_, _, ofG31, by simp only at h; omega, h2⟩
theorem ofA32 (x : Int) (h1 : (-9223372036854775808) ≤ x) (h2 : x ≤ 9223372036854775807) (h : ofOut 32 x) : ∃ A B, OfGo 32 A B ∧ A ≤ x ∧ x ≤ B := by
  rcases h (80, 80) rfl with h | h
  · exact ⟨_, _, ofL32, h1, by simp only at h; omega⟩
  · exact ⟨_, _, ofG32, by simp only at h; omega, h2⟩
theorem ofA33 (x : Int) (h1 : (-9223372036854775808) ≤ x) (h2 : x ≤ 9223372036854775807) (h : ofOut 33 x) : ∃ A B, OfGo 33 A B ∧ A ≤ x ∧ x ≤ B := by
  rcases h (81, 90) rfl with h | h
  · exact ⟨_, _, ofL33, h1, by simp only at h; omega⟩
  · exact ⟨_, _, ofG33, by simp only at h; omega, h2⟩
theorem ofA34 (x : Int) (h1 : (-9223372036854775808) ≤ x) (h2 : x ≤ 9223372036854775807) (h : ofOut 34 x) : ∃ A B, OfGo 34 A B ∧ A ≤ x ∧ x ≤ B := by
  rcases h (103, 105) rfl with h | h
  · exact ⟨_, _, ofL34, h1, by simp only at h; omega⟩
  · exact ⟨_, _, ofG34, by simp only at h; omega, h2⟩
theorem ofA35 (x : Int) (h1 : (-9223372036854775808) ≤ x) (h2 : x ≤ 9223372036854775807) (h : ofOut 35 x) : ∃ A B, OfGo 35 A B ∧ A ≤ x ∧ x ≤ B := by
  rcases h (106, 120) rfl with h | h
  · exact ⟨_, _, ofL35, h1, by simp only at h; omega⟩
  · exact ⟨_, _, ofG35, by simp only at h; omega, h2⟩
theorem ofA36 (x : Int) (h1 : (-9223372036854775808) ≤ x) (h2 : x ≤ 9223372036854775807) (h : ofOut 36 x) : ∃ A B, OfGo 36 A B ∧ A ≤ x ∧ x ≤ B := by
  rcases h (121, 123) rfl with h | h
  · exact ⟨_, _, ofL36, h1, by simp only at h; omega⟩
  · exact ⟨_, _, ofG36, by simp only at h; omega, h2⟩
theorem ofA37 (x : Int) (h1 : (-9223372036854775808) ≤ x) (h2 : x ≤ 9223372036854775807) (h : ofOut 37 x) : ∃ A B, OfGo 37 A B ∧ A ≤ x ∧ x ≤ B := by
  rcases h (124, 138) rfl with h | h
  · exact ⟨_, _, ofL37, h1, by simp only at h; omega⟩
  · exact ⟨_, _, ofG37, by simp only at h; omega, h2⟩
theorem ofA38 (x : Int) (h1 : (-9223372036854775808) ≤ x) (h2 : x ≤ 9223372036854775807) (h : ofOut 38 x) : ∃ A B, OfGo 38 A B ∧ A ≤ x ∧ x ≤ B := by
  rcases h (167, 167) rfl with h | h
  · exact ⟨_, _, ofL38, h1, by simp only at h; omega⟩
  · exact ⟨_, _, ofG38, by simp only at h; omega, h2⟩
theorem ofA39 (x : Int) (h1 : (-9223372036854775808) ≤ x) (h2 : x ≤ 9223372036854775807) (h : ofOut 39 x) : ∃ A B, OfGo 39 A B ∧ A ≤ x ∧ x ≤ B := by
  rcases h (172, 173) rfl with h | h
  · exact ⟨_, _, ofL39, h1, by simp only at h; omega⟩
  · exact ⟨_, _, ofG39, by simp only at h; omega, h2⟩
theorem ofA40 (x : Int) (h1 : (-9223372036854775808) ≤ x) (h2 : x ≤ 9223372036854775807) (h : ofOut 40 x) : ∃ A B, OfGo 40 A B ∧ A ≤ x ∧ x ≤ B := by
  rcases h (192, 193) rfl with h | h
  · exact ⟨_, _, ofL40, h1, by simp only at h; omega⟩
  · exact ⟨_, _, ofG40, by simp only at h; omega, h2⟩
theorem ofA41 (x : Int) (h1 : (-9223372036854775808) ≤ x) (h2 : x ≤ 9223372036854775807) (h : ofOut 41 x) : ∃ A B, OfGo 41 A B ∧ A ≤ x ∧ x ≤ B := by
  rcases h (194, 196) rfl with h | h
  · exact ⟨_, _, ofL41, h1, by simp only at h; omega⟩
  · exact ⟨_, _, ofG41, by simp only at h; omega, h2⟩
theorem ofA42 (x : Int) (h1 : (-9223372036854775808) ≤ x) (h2 : x ≤ 9223372036854775807) (h : ofOut 42 x) : ∃ A B, OfGo 42 A B ∧ A ≤ x ∧ x ≤ B := by
  rcases h (64768, 64768) rfl with h | h
  · exact ⟨_, _, ofL42, h1, by simp only at h; omega⟩
  · exact ⟨_, _, ofG42, by simp only at h; omega, h2⟩
theorem ofA43 (x : Int) (h1 : (-9223372036854775808) ≤ x) (h2 : x ≤ 9223372036854775807) (h : ofOut 43 x) : ∃ A B, OfGo 43 A B ∧ A ≤ x ∧ x ≤ B := by
  rcases h (64769, 64774) rfl with h | h
  · exact ⟨_, _, ofL43, h1, by simp only at h; omega⟩
  · exact ⟨_, _, ofG43, by simp only at h; omega, h2⟩
theorem ofA44 (x : Int) (h1 : (-9223372036854775808) ≤ x) (h2 : x ≤ 9223372036854775807) (h : ofOut 44 x) : ∃ A B, OfGo 44 A B ∧ A ≤ x ∧ x ≤ B := by
  rcases h (64775, 64775) rfl with h | h
  · exact ⟨_, _, ofL44, h1, by simp only at h; omega⟩
  · exact ⟨_, _, ofG44, by simp only at h; omega, h2⟩
theorem ofA45 (x : Int) (h1 : (-9223372036854775808) ≤ x) (h2 : x ≤ 9223372036854775807) (h : ofOut 45 x) : ∃ A B, OfGo 45 A B ∧ A ≤ x ∧ x ≤ B := by
  rcases h (64776, 64776) rfl with h | h
  · exact ⟨_, _, ofL45, h1, by simp only at h; omega⟩
  · exact ⟨_, _, ofG45, by simp only at h; omega, h2⟩
theorem ofA46 (x : Int) (h1 : (-9223372036854775808) ≤ x) (h2 : x ≤ 9223372036854775807) (h : ofOut 46 x) : ∃ A B, OfGo 46 A B ∧ A ≤ x ∧ x ≤ B := by
  rcases h (64777, 64777) rfl with h | h
  · exact ⟨_, _, ofL46, h1, by simp only at h; omega⟩
  · exact ⟨_, _, ofG46, by simp only at h; omega, h2⟩
theorem ofA47 (x : Int) (h1 : (-9223372036854775808) ≤ x) (h2 : x ≤ 9223372036854775807) (h : ofOut 47 x) : ∃ A B, OfGo 47 A B ∧ A ≤ x ∧ x ≤ B := by
  rcases h (64778, 64778) rfl with h | h
  · exact ⟨_, _, ofL47, h1, by simp only at h; omega⟩
  · exact ⟨_, _, ofG47, by simp only at h; omega, h2⟩
theorem ofA48 (x : Int) (h1 : (-9223372036854775808) ≤ x) (h2 : x ≤ 9223372036854775807) (h : ofOut 48 x) : ∃ A B, OfGo 48 A B ∧ A ≤ x ∧ x ≤ B := by
  rcases h (64779, 64779) rfl with h | h
  · exact ⟨_, _, ofL48, h1, by simp only at h; omega⟩
  · exact ⟨_, _, ofG48, by simp only at h; omega, h2⟩
theorem ofA49 (x : Int) (h1 : (-9223372036854775808) ≤ x) (h2 : x ≤ 9223372036854775807) (h : ofOut 49 x) : ∃ A B, OfGo 49 A B ∧ A ≤ x ∧ x ≤ B := by
  rcases h (64780, 64780) rfl with h | h
  · exact ⟨_, _, ofL49, h1, by simp only at h; omega⟩
  · exact ⟨_, _, ofG49, by simp only at h; omega, h2⟩
theorem ofA50 (x : Int) (h1 : (-9223372036854775808) ≤ x) (h2 : x ≤ 9223372036854775807) (h : ofOut 50 x) : ∃ A B, OfGo 50 A B ∧ A ≤ x ∧ x ≤ B := by
  rcases h (64781, 64781) rfl with h | h
  · exact ⟨_, _, ofL50, h1, by simp only at h; omega⟩
  · exact ⟨_, _, ofG50, by simp only at h; omega, h2⟩
theorem ofA51 (x : Int) (h1 : (-9223372036854775808) ≤ x) (h2 : x ≤ 9223372036854775807) (h : ofOut 51 x) : ∃ A B, OfGo 51 A B ∧ A ≤ x ∧ x ≤ B := by
  rcases h (64782, 64782) rfl with h | h
  · exact ⟨_, _, ofL51, h1, by simp only at h; omega⟩
  · exact ⟨_, _, ofG51, by simp only at h; omega, h2⟩
theorem ofA52 (x : Int) (h1 : (-9223372036854775808) ≤ x) (h2 : x ≤ 9223372036854775807) (h : ofOut 52 x) : ∃ A B, OfGo 52 A B ∧ A ≤ x ∧ x ≤ B := by
  rcases h (64783, 64785) rfl with h | h
  · exact ⟨_, _, ofL52, h1, by simp only at h; omega⟩
  · exact ⟨_, _, ofG52, by simp only at h; omega, h2⟩
theorem ofA53 (x : Int) (h1 : (-9223372036854775808) ≤ x) (h2 : x ≤ 9223372036854775807) (h : ofOut 53 x) : ∃ A B, OfGo 53 A B ∧ A ≤ x ∧ x ≤ B := by
  rcases h (64786, 64786) rfl with h | h
  · exact ⟨_, _, ofL53, h1, by simp only at h; omega⟩
  · exact ⟨_, _, ofG53, by simp only at h; omega, h2⟩
theorem ofA54 (x : Int) (h1 : (-9223372036854775808) ≤ x) (h2 : x ≤ 9223372036854775807) (h : ofOut 54 x) : ∃ A B, OfGo 54 A B ∧ A ≤ x ∧ x ≤ B := by
  rcases h (64789, 64790) rfl with h | h
  · exact ⟨_, _, ofL54, h1, by simp only at h; omega⟩
  · exact ⟨_, _, ofG54, by simp only at h; omega, h2⟩
theorem ofA55 (x : Int) (h1 : (-9223372036854775808) ≤ x) (h2 : x ≤ 9223372036854775807) (h : ofOut 55 x) : ∃ A B, OfGo 55 A B ∧ A ≤ x ∧ x ≤ B := by
  rcases h (64791, 64791) rfl with h | h
  · exact ⟨_, _, ofL55, h1, by simp only at h; omega⟩
  · exact ⟨_, _, ofG55, by simp only at h; omega, h2⟩
theorem ofA56 (x : Int) (h1 : (-9223372036854775808) ≤ x) (h2 : x ≤ 9223372036854775807) (h : ofOut 56 x) : ∃ A B, OfGo 56 A B ∧ A ≤ x ∧ x ≤ B := by
  rcases h (64792, 64793) rfl with h | h
  · exact ⟨_, _, ofL56, h1, by simp only at h; omega⟩
  · exact ⟨_, _, ofG56, by simp only at h; omega, h2⟩
theorem ofA57 (x : Int) (h1 : (-9223372036854775808) ≤ x) (h2 : x ≤ 9223372036854775807) (h : ofOut 57 x) : ∃ A B, OfGo 57 A B ∧ A ≤ x ∧ x ≤ B := by
  rcases h (64794, 64794) rfl with h | h
  · exact ⟨_, _, ofL57, h1, by simp only at h; omega⟩
  · exact ⟨_, _, ofG57, by simp only at h; omega, h2⟩
theorem ofA58 (x : Int) (h1 : (-9223372036854775808) ≤ x) (h2 : x ≤ 9223372036854775807) (h : ofOut 58 x) : ∃ A B, OfGo 58 A B ∧ A ≤ x ∧ x ≤ B := by
  rcases h (64795, 64795) rfl with h | h
  · exact ⟨_, _, ofL58, h1, by simp only at h; omega⟩
  · exact ⟨_, _, ofG58, by simp only at h; omega, h2⟩
theorem ofA59 (x : Int) (h1 : (-9223372036854775808) ≤ x) (h2 : x ≤ 9223372036854775807) (h : ofOut 59 x) : ∃ A B, OfGo 59 A B ∧ A ≤ x ∧ x ≤ B := by
  rcases h (64796, 64796) rfl with h | h
  · exact ⟨_, _, ofL59, h1, by simp only at h; omega⟩
  · exact ⟨_, _, ofG59, by simp only at h; omega, h2⟩
theorem ofA60 (x : Int) (h1 : (-9223372036854775808) ≤ x) (h2 : x ≤ 9223372036854775807) (h : ofOut 60 x) : ∃ A B, OfGo 60 A B ∧ A ≤ x ∧ x ≤ B := by
  rcases h (64797, 64797) rfl with h | h
  · exact ⟨_, _, ofL60, h1, by simp only at h; omega⟩
  · exact ⟨_, _, ofG60, by simp only at h; omega, h2⟩
theorem ofA61 (x : Int) (h1 : (-9223372036854775808) ≤ x) (h2 : x ≤ 9223372036854775807) (h : ofOut 61 x) : ∃ A B, OfGo 61 A B ∧ A ≤ x ∧ x ≤ B := by
  rcases h (64798, 64798) rfl with h | h
  · exact ⟨_, _, ofL61, h1, by simp only at h; omega⟩
  · exact ⟨_, _, ofG61, by simp only at h; omega, h2⟩
theorem ofA62 (x : Int) (h1 : (-9223372036854775808) ≤ x) (h2 : x ≤ 9223372036854775807) (h : ofOut 62 x) : ∃ A B, OfGo 62 A B ∧ A ≤ x ∧ x ≤ B := by
  rcases h (64803, 64832) rfl with h | h
  · exact ⟨_, _, ofL62, h1, by simp only at h; omega⟩
  · exact ⟨_, _, ofG62, by simp only at h; omega, h2⟩
theorem ofA63 (x : Int) (h1 : (-9223372036854775808) ≤ x) (h2 : x ≤ 9223372036854775807) (h : ofOut 63 x) : ∃ A B, OfGo 63 A B ∧ A ≤ x ∧ x ≤ B := by
  rcases h (64845, 64845) rfl with h | h
  · exact ⟨_, _, ofL63, h1, by simp only at h; omega⟩
  · exact ⟨_, _, ofG63, by simp only at h; omega, h2⟩
theorem ofA64 (x : Int) (h1 : (-9223372036854775808) ≤ x) (h2 : x ≤ 9223372036854775807) (h : ofOut 64 x) : ∃ A B, OfGo 64 A B ∧ A ≤ x ∧ x ≤ B := by
  rcases h (64846, 64849) rfl with h | h
  · exact ⟨_, _, ofL64, h1, by simp only at h; omega⟩
  · exact ⟨_, _, ofG64, by simp only at h; omega, h2⟩
theorem ofA65 (x : Int) (h1 : (-9223372036854775808) ≤ x) (h2 : x ≤ 9223372036854775807) (h : ofOut 65 x) : ∃ A B, OfGo 65 A B ∧ A ≤ x ∧ x ≤ B := by
  rcases h (64850, 64850) rfl with h | h
  · exact ⟨_, _, ofL65, h1, by simp only at h; omega⟩
  · exact ⟨_, _, ofG65, by simp only at h; omega, h2⟩
theorem ofA66 (x : Int) (h1 : (-9223372036854775808) ≤ x) (h2 : x ≤ 9223372036854775807) (h : ofOut 66 x) : ∃ A B, OfGo 66 A B ∧ A ≤ x ∧ x ≤ B := by
  rcases h (64851, 64851) rfl with h | h
  · exact ⟨_, _, ofL66, h1, by simp only at h; omega⟩
  · exact ⟨_, _, ofG66, by simp only at h; omega, h2⟩
theorem ofA67 (x : Int) (h1 : (-9223372036854775808) ≤ x) (h2 : x ≤ 9223372036854775807) (h : ofOut 67 x) : ∃ A B, OfGo 67 A B ∧ A ≤ x ∧ x ≤ B := by
  rcases h (64852, 64852) rfl with h | h
  · exact ⟨_, _, ofL67, h1, by simp only at h; omega⟩
  · exact ⟨_, _, ofG67, by simp only at h; omega, h2⟩
theorem ofA68 (x : Int) (h1 : (-9223372036854775808) ≤ x) (h2 : x ≤ 9223372036854775807) (h : ofOut 68 x) : ∃ A B, OfGo 68 A B ∧ A ≤ x ∧ x ≤ B := by
  rcases h (64853, 64853) rfl with h | h
  · exact ⟨_, _, ofL68, h1, by simp only at h; omega⟩
  · exact ⟨_, _, ofG68, by simp only at h; omega, h2⟩
theorem ofA69 (x : Int) (h1 : (-9223372036854775808) ≤ x) (h2 : x ≤ 9223372036854775807) (h : ofOut 69 x) : ∃ A B, OfGo 69 A B ∧ A ≤ x ∧ x ≤ B := by
  rcases h (64854, 64854) rfl with h | h
  · exact ⟨_, _, ofL69, h1, by simp only at h; omega⟩
  · exact ⟨_, _, ofG69, by simp only at h; omega, h2⟩
theorem ofA70 (x : Int) (h1 : (-9223372036854775808) ≤ x) (h2 : x ≤ 9223372036854775807) (h : ofOut 70 x) : ∃ A B, OfGo 70 A B ∧ A ≤ x ∧ x ≤ B := by
  rcases h (64855, 64855) rfl with h | h
  · exact ⟨_, _, ofL70, h1, by simp only at h; omega⟩
  · exact ⟨_, _, ofG70, by simp only at h; omega, h2⟩
theorem ofA71 (x : Int) (h1 : (-9223372036854775808) ≤ x) (h2 : x ≤ 9223372036854775807) (h : ofOut 71 x) : ∃ A B, OfGo 71 A B ∧ A ≤ x ∧ x ≤ B := by
  rcases h (64856, 64856) rfl with h | h
  · exact ⟨_, _, ofL71, h1, by simp only at h; omega⟩
  · exact ⟨_, _, ofG71, by simp only at h; omega, h2⟩
theorem ofA72 (x : Int) (h1 : (-9223372036854775808) ≤ x) (h2 : x ≤ 9223372036854775807) (h : ofOut 72 x) : ∃ A B, OfGo 72 A B ∧ A ≤ x ∧ x ≤ B := by
  rcases h (64857, 64857) rfl with h | h
  · exact ⟨_, _, ofL72, h1, by simp only at h; omega⟩
  · exact ⟨_, _, ofG72, by simp only at h; omega, h2⟩
theorem ofA73 (x : Int) (h1 : (-9223372036854775808) ≤ x) (h2 : x ≤ 9223372036854775807) (h : ofOut 73 x) : ∃ A B, OfGo 73 A B ∧ A ≤ x ∧ x ≤ B := by
  rcases h (64858, 64858) rfl with h | h
  · exact ⟨_, _, ofL73, h1, by simp only at h; omega⟩
  · exact ⟨_, _, ofG73, by simp only at h; omega, h2⟩
theorem ofA74 (x : Int) (h1 : (-9223372036854775808) ≤ x) (h2 : x ≤ 9223372036854775807) (h : ofOut 74 x) : ∃ A B, OfGo 74 A B ∧ A ≤ x ∧ x ≤ B := by
  rcases h (64859, 64859) rfl with h | h
  · exact ⟨_, _, ofL74, h1, by simp only at h; omega⟩
  · exact ⟨_, _, ofG74, by simp only at h; omega, h2⟩
theorem ofA75 (x : Int) (h1 : (-9223372036854775808) ≤ x) (h2 : x ≤ 9223372036854775807) (h : ofOut 75 x) : ∃ A B, OfGo 75 A B ∧ A ≤ x ∧ x ≤ B := by
  rcases h (64860, 64860) rfl with h | h
  · exact ⟨_, _, ofL75, h1, by simp only at h; omega⟩
  · exact ⟨_, _, ofG75, by simp only at h; omega, h2⟩
theorem ofA76 (x : Int) (h1 : (-9223372036854775808) ≤ x) (h2 : x ≤ 9223372036854775807) (h : ofOut 76 x) : ∃ A B, OfGo 76 A B ∧ A ≤ x ∧ x ≤ B := by
  rcases h (64861, 64861) rfl with h | h
  · exact ⟨_, _, ofL76, h1, by simp only at h; omega⟩
  · exact ⟨_, _, ofG76, by simp only at h; omega, h2⟩
theorem ofA77 (x : Int) (h1 : (-9223372036854775808) ≤ x) (h2 : x ≤ 9223372036854775807) (h : ofOut 77 x) : ∃ A B, OfGo 77 A B ∧ A ≤ x ∧ x ≤ B := by
  rcases h (64864, 64866) rfl with h | h
  · exact ⟨_, _, ofL77, h1, by simp only at h; omega⟩
  · exact ⟨_, _, ofG77, by simp only at h; omega, h2⟩
theorem ofA78 (x : Int) (h1 : (-9223372036854775808) ≤ x) (h2 : x ≤ 9223372036854775807) (h : ofOut 78 x) : ∃ A B, OfGo 78 A B ∧ A ≤ x ∧ x ≤ B := by
  rcases h (64867, 64868) rfl with h | h
  · exact ⟨_, _, ofL78, h1, by simp only at h; omega⟩
  · exact ⟨_, _, ofG78, by simp only at h; omega, h2⟩
theorem ofA79 (x : Int) (h1 : (-9223372036854775808) ≤ x) (h2 : x ≤ 9223372036854775807) (h : ofOut 79 x) : ∃ A B, OfGo 79 A B ∧ A ≤ x ∧ x ≤ B := by
  rcases h (64869, 64870) rfl with h | h
  · exact ⟨_, _, ofL79, h1, by simp only at h; omega⟩
  · exact ⟨_, _, ofG79, by simp only at h; omega, h2⟩
theorem ofA80 (x : Int) (h1 : (-9223372036854775808) ≤ x) (h2 : x ≤ 9223372036854775807) (h : ofOut 80 x) : ∃ A B, OfGo 80 A B ∧ A ≤ x ∧ x ≤ B := by
  rcases h (64875, 64877) rfl with h | h
  · exact ⟨_, _, ofL80, h1, by simp only at h; omega⟩
  · exact ⟨_, _, ofG80, by simp only at h; omega, h2⟩
theorem ofA81 (x : Int) (h1 : (-9223372036854775808) ≤ x) (h2 : x ≤ 9223372036854775807) (h : ofOut 81 x) : ∃ A B, OfGo 81 A B ∧ A ≤ x ∧ x ≤ B := by
  rcases h (64878, 64883) rfl with h | h
  · exact ⟨_, _, ofL81, h1, by simp only at h; omega⟩
  · exact ⟨_, _, ofG81, by simp only at h; omega, h2⟩
theorem ofA82 (x : Int) (h1 : (-9223372036854775808) ≤ x) (h2 : x ≤ 9223372036854775807) (h : ofOut 82 x) : ∃ A B, OfGo 82 A B ∧ A ≤ x ∧ x ≤ B := by
  rcases h (64886, 64889) rfl with h | h
  · exact ⟨_, _, ofL82, h1, by simp only at h; omega⟩
  · exact ⟨_, _, ofG82, by simp only at h; omega, h2⟩
theorem ofA83 (x : Int) (h1 : (-9223372036854775808) ≤ x) (h2 : x ≤ 9223372036854775807) (h : ofOut 83 x) : ∃ A B, OfGo 83 A B ∧ A ≤ x ∧ x ≤ B := by
  rcases h (64891, 64891) rfl with h | h
  · exact ⟨_, _, ofL83, h1, by simp only at h; omega⟩
  · exact ⟨_, _, ofG83, by simp only at h; omega, h2⟩
theorem ofA84 (x : Int) (h1 : (-9223372036854775808) ≤ x) (h2 : x ≤ 9223372036854775807) (h : ofOut 84 x) : ∃ A B, OfGo 84 A B ∧ A ≤ x ∧ x ≤ B := by
  rcases h (64892, 64897) rfl with h | h
  · exact ⟨_, _, ofL84, h1, by simp only at h; omega⟩
  · exact ⟨_, _, ofG84, by simp only at h; omega, h2⟩
theorem ofA85 (x : Int) (h1 : (-9223372036854775808) ≤ x) (h2 : x ≤ 9223372036854775807) (h : ofOut 85 x) : ∃ A B, OfGo 85 A B ∧ A ≤ x ∧ x ≤ B := by
  rcases h (64898, 64898) rfl with h | h
  · exact ⟨_, _, ofL85, h1, by simp only at h; omega⟩
  · exact ⟨_, _, ofG85, by simp only at h; omega, h2⟩
theorem ofA86 (x : Int) (h1 : (-9223372036854775808) ≤ x) (h2 : x ≤ 9223372036854775807) (h : ofOut 86 x) : ∃ A B, OfGo 86 A B ∧ A ≤ x ∧ x ≤ B := by
  rcases h (64899, 64900) rfl with h | h
  · exact ⟨_, _, ofL86, h1, by simp only at h; omega⟩
  · exact ⟨_, _, ofG86, by simp only at h; omega, h2⟩
theorem ofA87 (x : Int) (h1 : (-9223372036854775808) ≤ x) (h2 : x ≤ 9223372036854775807) (h : ofOut 87 x) : ∃ A B, OfGo 87 A B ∧ A ≤ x ∧ x ≤ B := by
  rcases h (64901, 64902) rfl with h | h
  · exact ⟨_, _, ofL87, h1, by simp only at h; omega⟩
  · exact ⟨_, _, ofG87, by simp only at h; omega, h2⟩
theorem ofA88 (x : Int) (h1 : (-9223372036854775808) ≤ x) (h2 : x ≤ 9223372036854775807) (h : ofOut 88 x) : ∃ A B, OfGo 88 A B ∧ A ≤ x ∧ x ≤ B := by
  rcases h (64903, 64906) rfl with h | h
  · exact ⟨_, _, ofL88, h1, by simp only at h; omega⟩
  · exact ⟨_, _, ofG88, by simp only at h; omega, h2⟩
theorem ofA89 (x : Int) (h1 : (-9223372036854775808) ≤ x) (h2 : x ≤ 9223372036854775807) (h : ofOut 89 x) : ∃ A B, OfGo 89 A B ∧ A ≤ x ∧ x ≤ B := by
  rcases h (64907, 64909) rfl with h | h
  · exact ⟨_, _, ofL89, h1, by simp only at h; omega⟩
  · exact ⟨_, _, ofG89, by simp only at h; omega, h2⟩
theorem ofA90 (x : Int) (h1 : (-9223372036854775808) ≤ x) (h2 : x ≤ 9223372036854775807) (h : ofOut 90 x) : ∃ A B, OfGo 90 A B ∧ A ≤ x ∧ x ≤ B := by
  rcases h (64910, 64915) rfl with h | h
  · exact ⟨_, _, ofL90, h1, by simp only at h; omega⟩
  · exact ⟨_, _, ofG90, by simp only at h; omega, h2⟩
theorem ofA91 (x : Int) (h1 : (-9223372036854775808) ≤ x) (h2 : x ≤ 9223372036854775807) (h : ofOut 91 x) : ∃ A B, OfGo 91 A B ∧ A ≤ x ∧ x ≤ B := by
  rcases h (64917, 64921) rfl with h | h
  · exact ⟨_, _, ofL91, h1, by simp only at h; omega⟩
  · exact ⟨_, _, ofG91, by simp only at h; omega, h2⟩
theorem ofA92 (x : Int) (h1 : (-9223372036854775808) ≤ x) (h2 : x ≤ 9223372036854775807) (h : ofOut 92 x) : ∃ A B, OfGo 92 A B ∧ A ≤ x ∧ x ≤ B := by
  rcases h (64923, 64927) rfl with h | h
  · exact ⟨_, _, ofL92, h1, by simp only at h; omega⟩
  · exact ⟨_, _, ofG92, by simp only at h; omega, h2⟩
theorem ofA93 (x : Int) (h1 : (-9223372036854775808) ≤ x) (h2 : x ≤ 9223372036854775807) (h : ofOut 93 x) : ∃ A B, OfGo 93 A B ∧ A ≤ x ∧ x ≤ B := by
  rcases h (64928, 64929) rfl with h | h
  · exact ⟨_, _, ofL93, h1, by simp only at h; omega⟩
  · exact ⟨_, _, ofG93, by simp only at h; omega, h2⟩
theorem ofA94 (x : Int) (h1 : (-9223372036854775808) ≤ x) (h2 : x ≤ 9223372036854775807) (h : ofOut 94 x) : ∃ A B, OfGo 94 A B ∧ A ≤ x ∧ x ≤ B := by
  rcases h (64931, 64932) rfl with h | h
  · exact ⟨_, _, ofL94, h1, by simp only at h; omega⟩
  · exact ⟨_, _, ofG94, by simp only at h; omega, h2⟩
theorem ofA95 (x : Int) (h1 : (-9223372036854775808) ≤ x) (h2 : x ≤ 9223372036854775807) (h : ofOut 95 x) : ∃ A B, OfGo 95 A B ∧ A ≤ x ∧ x ≤ B := by
  rcases h (64935, 64938) rfl with h | h
  · exact ⟨_, _, ofL95, h1, by simp only at h; omega⟩
  · exact ⟨_, _, ofG95, by simp only at h; omega, h2⟩
theorem ofA96 (x : Int) (h1 : (-9223372036854775808) ≤ x) (h2 : x ≤ 9223372036854775807) (h : ofOut 96 x) : ∃ A B, OfGo 96 A B ∧ A ≤ x ∧ x ≤ B := by
  rcases h (64939, 64941) rfl with h | h
  · exact ⟨_, _, ofL96, h1, by simp only at h; omega⟩
  · exact ⟨_, _, ofG96, by simp only at h; omega, h2⟩
theorem ofA97 (x : Int) (h1 : (-9223372036854775808) ≤ x) (h2 : x ≤ 9223372036854775807) (h : ofOut 97 x) : ∃ A B, OfGo 97 A B ∧ A ≤ x ∧ x ≤ B := by
  rcases h (64942, 64942) rfl with h | h
  · exact ⟨_, _, ofL97, h1, by simp only at h; omega⟩
  · exact ⟨_, _, ofG97, by simp only at h; omega, h2⟩
theorem ofA98 (x : Int) (h1 : (-9223372036854775808) ≤ x) (h2 : x ≤ 9223372036854775807) (h : ofOut 98 x) : ∃ A B, OfGo 98 A B ∧ A ≤ x ∧ x ≤ B := by
  rcases h (64945, 64945) rfl with h | h
  · exact ⟨_, _, ofL98, h1, by simp only at h; omega⟩
  · exact ⟨_, _, ofG98, by simp only at h; omega, h2⟩
theorem ofA99 (x : Int) (h1 : (-9223372036854775808) ≤ x) (h2 : x ≤ 9223372036854775807) (h : ofOut 99 x) : ∃ A B, OfGo 99 A B ∧ A ≤ x ∧ x ≤ B := by
  rcases h (64949, 64954) rfl with h | h
  · exact ⟨_, _, ofL99, h1, by simp only at h; omega⟩
  · exact ⟨_, _, ofG99, by simp only at h; omega, h2⟩
theorem ofA100 (x : Int) (h1 : (-9223372036854775808) ≤ x) (h2 : x ≤ 9223372036854775807) (h : ofOut 100 x) : ∃ A B, OfGo 100 A B ∧ A ≤ x ∧ x ≤ B := by
  rcases h (64956, 64959) rfl with h | h
  · exact ⟨_, _, ofL100, h1, by simp only at h; omega⟩
  · exact ⟨_, _, ofG100, by simp only at h; omega, h2⟩
theorem ofA101 (x : Int) (h1 : (-9223372036854775808) ≤ x) (h2 : x ≤ 9223372036854775807) (h : ofOut 101 x) : ∃ A B, OfGo 101 A B ∧ A ≤ x ∧ x ≤ B := by
  rcases h (64960, 64961) rfl with h | h
  · exact ⟨_, _, ofL101, h1, by simp only at h; omega⟩
  · exact ⟨_, _, ofG101, by simp only at h; omega, h2⟩
theorem ofA102 (x : Int) (h1 : (-9223372036854775808) ≤ x) (h2 : x ≤ 9223372036854775807) (h : ofOut 102 x) : ∃ A B, OfGo 102 A B ∧ A ≤ x ∧ x ≤ B := by
  rcases h (64963, 64964) rfl with h | h
  · exact ⟨_, _, ofL102, h1, by simp only at h; omega⟩
  · exact ⟨_, _, ofG102, by simp only at h; omega, h2⟩
theorem ofA103 (x : Int) (h1 : (-9223372036854775808) ≤ x) (h2 : x ≤ 9223372036854775807) (h : ofOut 103 x) : ∃ A B, OfGo 103 A B ∧ A ≤ x ∧ x ≤ B := by
  rcases h (64967, 64970) rfl with h | h
  · exact ⟨_, _, ofL103, h1, by simp only at h; omega⟩
  · exact ⟨_, _, ofG103, by simp only at h; omega, h2⟩
theorem ofA104 (x : Int) (h1 : (-9223372036854775808) ≤ x) (h2 : x ≤ 9223372036854775807) (h : ofOut 104 x) : ∃ A B, OfGo 104 A B ∧ A ≤ x ∧ x ≤ B := by
  rcases h (64971, 64973) rfl with h | h
  · exact ⟨_, _, ofL104, h1, by simp only at h; omega⟩
  · exact ⟨_, _, ofG104, by simp only at h; omega, h2⟩
theorem ofA105 (x : Int) (h1 : (-9223372036854775808) ≤ x) (h2 : x ≤ 9223372036854775807) (h : ofOut 105 x) : ∃ A B, OfGo 105 A B ∧ A ≤ x ∧ x ≤ B := by
  rcases h (64974, 64974) rfl with h | h
  · exact ⟨_, _, ofL105, h1, by simp only at h; omega⟩
  · exact ⟨_, _, ofG105, by simp only at h; omega, h2⟩
theorem ofA106 (x : Int) (h1 : (-9223372036854775808) ≤ x) (h2 : x ≤ 9223372036854775807) (h : ofOut 106 x) : ∃ A B, OfGo 106 A B ∧ A ≤ x ∧ x ≤ B := by
  rcases h (64977, 64977) rfl with h | h
  · exact ⟨_, _, ofL106, h1, by simp only at h; omega⟩
  · exact ⟨_, _, ofG106, by simp only at h; omega, h2⟩
theorem ofA107 (x : Int) (h1 : (-9223372036854775808) ≤ x) (h2 : x ≤ 9223372036854775807) (h : ofOut 107 x) : ∃ A B, OfGo 107 A B ∧ A ≤ x ∧ x ≤ B := by
  rcases h (64981, 64991) rfl with h | h
  · exact ⟨_, _, ofL107, h1, by simp only at h; omega⟩
  · exact ⟨_, _, ofG107, by simp only at h; omega, h2⟩
theorem ofAny (x : Int) (h1 : (-9223372036854775808) ≤ x) (h2 : x ≤ 9223372036854775807) : ∀ j, j < 108 → ofOut j x → ∃ A B, OfGo j A B ∧ A ≤ x ∧ x ≤ B := by
  intro j hj
  match j, hj with
  | 0, _ => exact ofA0 x h1 h2
  | 1, _ => exact ofA1 x h1 h2
  | 2, _ => exact ofA2 x h1 h2
  | 3, _ => exact ofA3 x h1 h2
  | 4, _ => exact ofA4 x h1 h2
  | 5, _ => exact ofA5 x h1 h2
  | 6, _ => exact ofA6 x h1 h2
  | 7, _ => exact ofA7 x h1 h2
  | 8, _ => exact ofA8 x h1 h2
  | 9, _ => exact ofA9 x h1 h2
  | 10, _ => exact ofA10 x h1 h2
  | 11, _ => exact ofA11 x h1 h2
  | 12, _ => exact ofA12 x h1 h2
  | 13, _ => exact ofA13 x h1 h2
  | 14, _ => exact ofA14 x h1 h2
  | 15, _ => exact ofA15 x h1 h2
  | 16, _ => exact ofA16 x h1 h2
  | 17, _ => exact ofA17 x h1 h2
  | 18, _ => exact ofA18 x h1 h2
  | 19, _ => exact ofA19 x h1 h2
  | 20, _ => exact ofA20 x h1 h2
  | 21, _ => exact ofA21 x h1 h2
  | 22, _ => exact ofA22 x h1 h2
  | 23, _ => exact ofA23 x h1 h2
  | 24, _ => exact ofA24 x h1 h2
  | 25, _ => exact ofA25 x h1 h2
  | 26, _ => exact ofA26 x h1 h2
  | 27, _ => exact ofA27 x h1 h2
  | 28, _ => exact ofA28 x h1 h2
  | 29, _ => exact ofA29 x h1 h2
  | 30, _ => exact ofA30 x h1 h2
  | 31, _ => exact ofA31 x h1 h2
  | 32, _ => exact ofA32 x h1 h2
  | 33, _ => exact ofA33 x h1 h2
  | 34, _ => exact ofA34 x h1 h2
  | 35, _ => exact ofA35 x h1 h2
  | 36, _ => exact ofA36 x h1 h2
  | 37, _ => exact ofA37 x h1 h2
  | 38, _ => exact ofA38 x h1 h2
  | 39, _ => exact ofA39 x h1 h2
  | 40, _ => exact ofA40 x h1 h2
  | 41, _ => exact ofA41 x h1 h2
  | 42, _ => exact ofA42 x h1 h2
  | 43, _ => exact ofA43 x h1 h2
  | 44, _ => exact ofA44 x h1 h2
  | 45, _ => exact ofA45 x h1 h2
  | 46, _ => exact ofA46 x h1 h2
  | 47, _ => exact ofA47 x h1 h2
  | 48, _ => exact ofA48 x h1 h2
  | 49, _ => exact ofA49 x h1 h2
  | 50, _ => exact ofA50 x h1 h2
  | 51, _ => exact ofA51 x h1 h2
  | 52, _ => exact ofA52 x h1 h2
  | 53, _ => exact ofA53 x h1 h2
  | 54, _ => exact ofA54 x h1 h2
  | 55, _ => exact ofA55 x h1 h2
  | 56, _ => exact ofA56 x h1 h2
  | 57, _ => exact ofA57 x h1 h2
  | 58, _ => exact ofA58 x h1 h2
  | 59, _ => exact ofA59 x h1 h2
  | 60, _ => exact ofA60 x h1 h2
  | 61, _ => exact ofA61 x h1 h2
  | 62, _ => exact ofA62 x h1 h2
  | 63, _ => exact ofA63 x h1 h2
  | 64, _ => exact ofA64 x h1 h2
  | 65, _ => exact ofA65 x h1 h2
  | 66, _ => exact ofA66 x h1 h2
  | 67, _ => exact ofA67 x h1 h2
  | 68, _ => exact ofA68 x h1 h2
  | 69, _ => exact ofA69 x h1 h2
  | 70, _ => exact ofA70 x h1 h2
  | 71, _ => exact ofA71 x h1 h2
  | 72, _ => exact ofA72 x h1 h2
  | 73, _ => exact ofA73 x h1 h2
  | 74, _ => exact ofA74 x h1 h2
  | 75, _ => exact ofA75 x h1 h2
  | 76, _ => exact ofA76 x h1 h2
  | 77, _ => exact ofA77 x h1 h2
  | 78, _ => exact ofA78 x h1 h2
  | 79, _ => exact ofA79 x h1 h2
  | 80, _ => exact ofA80 x h1 h2
  | 81, _ => exact ofA81 x h1 h2
  | 82, _ => exact ofA82 x h1 h2
  | 83, _ => exact ofA83 x h1 h2
  | 84, _ => exact ofA84 x h1 h2
  | 85, _ => exact ofA85 x h1 h2
  | 86, _ => exact ofA86 x h1 h2
  | 87, _ => exact ofA87 x h1 h2
  | 88, _ => exact ofA88 x h1 h2
  | 89, _ => exact ofA89 x h1 h2
  | 90, _ => exact ofA90 x h1 h2
  | 91, _ => exact ofA91 x h1 h2
  | 92, _ => exact ofA92 x h1 h2
  | 93, _ => exact ofA93 x h1 h2
  | 94, _ => exact ofA94 x h1 h2
  | 95, _ => exact ofA95 x h1 h2
  | 96, _ => exact ofA96 x h1 h2
  | 97, _ => exact ofA97 x h1 h2
  | 98, _ => exact ofA98 x h1 h2
  | 99, _ => exact ofA99 x h1 h2
  | 100, _ => exact ofA100 x h1 h2
  | 101, _ => exact ofA101 x h1 h2
  | 102, _ => exact ofA102 x h1 h2
  | 103, _ => exact ofA103 x h1 h2
  | 104, _ => exact ofA104 x h1 h2
  | 105, _ => exact ofA105 x h1 h2
  | 106, _ => exact ofA106 x h1 h2
  | 107, _ => exact ofA107 x h1 h2
  | k + 108, h => omega
section
variable [Io]
theorem of_scan {x : Int} (hx : Io.io 0 = x) (m : Nat) : ∀ (k i : Nat), (∀ j, i ≤ j → j < i + k → ∃ A B, OfGo j A B ∧ A ≤ x ∧ x ≤ B) → ∀ (g : G) (w : World) (a : Act) (Q : Exit → Act → World → Prop), HR g w (ofH i) → OfFr g w x i a.tmps → a.defers = [] →
    (∀ g' w' a', Ext g w (ofH i) g' w' (ofH (i + k)) → HR g' w' (ofH (i + k)) → OfFr g' w' x (i + k) a'.tmps → a'.defers = [] → Code.rounds Try.prog ofB Q m a' w') → Code.rounds Try.prog ofB Q (m + k) a w
  | 0, i, _, g, w, a, Q, H, F, D, K => K g w a (Ext.refl _ _ _) H F D
  | k + 1, i, hgo, g, w, a, Q, H, F, D, K => by
    obtain ⟨A, B, h0, h1, h2⟩ := hgo i (Nat.le_refl _) (by omega)
    refine of_step h0 hx h1 h2 H F D (Exit.then (Code.rounds Try.prog ofB Q (m + k)) Q) fun g' w' a' E' H' F' D' => ?_
    have ih := of_scan hx m k (i + 1) (fun j hj hk => hgo j (by omega) (by omega)) g' w' a' Q H' F' D'
    rw [show i + 1 + k = i + (k + 1) by omega] at ih
    exact ih fun g2 w2 a2 E2 H2 F2 D2 => K g2 w2 a2 (E'.trans E2) H2 F2 D2

/-- The whole function, out of what its last round does. -/
theorem of_calls0 {x : Int} {vs : List Value} (hx : Io.io 0 = x) (h1 : (-9223372036854775808) ≤ x) (h2 : x ≤ 9223372036854775807) {r : Nat} (hr : r ≤ 108) (hout : ∀ j, j < r → ofOut j x) {imm : Nat → Prop} {w : World} (hi : ∀ b, imm b → b < w.heap.size) {v : AV} (hv : VRs (gE imm) w [ofFull] vs)
    (K : ∀ g' w' a', Ext (gE imm) w (nilH 0) g' w' (ofH r) → HR g' w' (ofH r) → OfFr g' w' x r a'.tmps → a'.defers = [] →
      ofB.wp Try.prog (Exit.then (Code.rounds Try.prog ofB (Exit.inBlock 0 (Exit.then (ofE.wp Try.prog (bodyPost Try.prog Try.f28 (OfQ imm w v))) (bodyPost Try.prog Try.f28 (OfQ imm w v)))) 0) (Exit.inBlock 0 (Exit.then (ofE.wp Try.prog (bodyPost Try.prog Try.f28 (OfQ imm w v))) (bodyPost Try.prog Try.f28 (OfQ imm w v))))) a' w') :
    Calls Try.prog 28 vs.toArray w (OfQ imm w v) := by
  refine calls_of_wp Try.func28 body28 ?_
  rw [ofC_eq, nt28]
  have T0 := enter_tr (nt := 73) (by decide) hv (by decide)
  have h0 := of0
  unfold obs0 at h0
  split at h0
  · rename_i t h hr0
    simp only [Option.some.injEq, Prod.mk.injEq] at h0
    obtain ⟨e0, e2, e4, e5, er, en⟩ := h0
    refine three_ok (ofO_code _) (ofO_code _) (ofO_code _) hr0 (hr_empty hi) T0 rfl fun g3 w3 a3 E3 H3 T3 D3 => ?_
    refine wp_block (wp_loop_rounds (1 + r) ?_)
    have S := ofH_sub (i := 0) H3 er (by have := Nat.le_of_ble_eq_true en; omega)
    have F3 : OfFr g3 w3 x 0 a3.tmps := ⟨T3.2.1, by
      have := (T3.2.2 0 _ (by decide) e0).2
      unfold ofFull at this
      simp only [VR] at this
      rw [this.1, show evalSV (.var 0) = Io.io 0 from rfl, hx, Int.add_zero], (T3.2.2 2 _ (by decide) e2).2, (T3.2.2 4 _ (by decide) e4).2, (T3.2.2 5 _ (by decide) e5).2⟩
    refine of_scan hx 1 r 0 (fun j _ hj => ofAny x h1 h2 j (by omega) (hout j (by omega))) g3 w3 a3 _ S.2 F3 D3 fun g4 w4 a4 E4 H4 F4 D4 => ?_
    rw [Nat.zero_add] at E4 H4 F4
    exact K g4 w4 a4 ((E3.trans S.1).trans E4) H4 F4 D4
  · cases h0
theorem of_calls {x : Int} (hx : Io.io 0 = x) (h1 : (-9223372036854775808) ≤ x) (h2 : x ≤ 9223372036854775807) {r : Nat} (hr : r ≤ 108) (hout : ∀ j, j < r → ofOut j x) {imm : Nat → Prop} {w : World} (hi : ∀ b, imm b → b < w.heap.size) {v : AV}
    (K : ∀ g' w' a', Ext (gE imm) w (nilH 0) g' w' (ofH r) → HR g' w' (ofH r) → OfFr g' w' x r a'.tmps → a'.defers = [] →
      ofB.wp Try.prog (Exit.then (Code.rounds Try.prog ofB (Exit.inBlock 0 (Exit.then (ofE.wp Try.prog (bodyPost Try.prog Try.f28 (OfQ imm w v))) (bodyPost Try.prog Try.f28 (OfQ imm w v)))) 0) (Exit.inBlock 0 (Exit.then (ofE.wp Try.prog (bodyPost Try.prog Try.f28 (OfQ imm w v))) (bodyPost Try.prog Try.f28 (OfQ imm w v))))) a' w') :
    Calls Try.prog 28 #[.int .i64 x] w (OfQ imm w v) := by
  have hv : VRs (gE imm) w [ofFull] [.int .i64 x] := by
    unfold ofFull
    simp only [VRs, VR]
    exact ⟨_, _, rfl, ⟨by rw [show evalSV (.var 0) = Io.io 0 from rfl, hx, Int.add_zero], by rw [show evalSV (.var 0) = Io.io 0 from rfl, hx]; exact h1, by rw [show evalSV (.var 0) = Io.io 0 from rfl, hx]; exact h2⟩, rfl⟩
  exact of_calls0 hx h1 h2 hr hout hi hv K
theorem of_hit {x A B : Int} {r : Nat} {v : AV} (hx : Io.io 0 = x) (h1 : (-9223372036854775808) ≤ x) (h2 : x ≤ 9223372036854775807) (hr : r ≤ 108) (hout : ∀ j, j < r → ofOut j x) (hh : OfHit r A B v ∨ (A = B ∧ OfHit1 r A v)) (ha : A ≤ x) (hb : x ≤ B)
    {imm : Nat → Prop} {w : World} (hi : ∀ b, imm b → b < w.heap.size) : Calls Try.prog 28 #[.int .i64 x] w (OfQ imm w v) := by
  refine of_calls hx h1 h2 hr hout hi fun g' w' a' E' H' F' D' => ?_
  have key : ∀ op, VR g' w' op (.int .i64 x) → obsR (ofBb ofCall 1000 (ofT op r) (ofH r)) = some v → ofB.wp Try.prog (Exit.then (Code.rounds Try.prog ofB (Exit.inBlock 0 (Exit.then (ofE.wp Try.prog (bodyPost Try.prog Try.f28 (OfQ imm w v))) (bodyPost Try.prog Try.f28 (OfQ imm w v)))) 0) (Exit.inBlock 0 (Exit.then (ofE.wp Try.prog (bodyPost Try.prog Try.f28 (OfQ imm w v))) (bodyPost Try.prog Try.f28 (OfQ imm w v))))) a' w' := by
    intro op ho e
    have hb := of_body g' w' _ _ a' (Exit.then (Code.rounds Try.prog ofB (Exit.inBlock 0 (Exit.then (ofE.wp Try.prog (bodyPost Try.prog Try.f28 (OfQ imm w v))) (bodyPost Try.prog Try.f28 (OfQ imm w v)))) 0) (Exit.inBlock 0 (Exit.then (ofE.wp Try.prog (bodyPost Try.prog Try.f28 (OfQ imm w v))) (bodyPost Try.prog Try.f28 (OfQ imm w v))))) H' (F'.tr ho) D'
    cases hr : ofBb ofCall 1000 (ofT op r) (ofH r) with
    | bad => rw [hr] at e; cases e
    | norm t h => rw [hr] at e; cases e
    | exit i t h => rw [hr] at e; cases e
    | ret t h =>
      rw [hr] at hb e
      exact hb fun g2 w2 a2 E2 H2 T2 D2 => of_ret e (E'.trans E2) H2 T2 D2
  rcases hh with hh | ⟨rfl, hh⟩
  · exact key _ (by simp only [VR]; exact ⟨by rw [show evalSV (.var 0) = Io.io 0 from rfl, hx, Int.add_zero], by rw [show evalSV (.var 0) = Io.io 0 from rfl, hx]; exact ha, by rw [show evalSV (.var 0) = Io.io 0 from rfl, hx]; exact hb⟩) hh
  · obtain rfl : x = A := by omega
    exact key _ (by simp only [VR]) hh
theorem of_miss {x : Int} (hx : Io.io 0 = x) (h1 : (-9223372036854775808) ≤ x) (h2 : x ≤ 9223372036854775807) (hout : ∀ j, j < 108 → ofOut j x)
    {imm : Nat → Prop} {w : World} (hi : ∀ b, imm b → b < w.heap.size) : Calls Try.prog 28 #[.int .i64 x] w (OfQ imm w ofV0) := by
  refine of_calls hx h1 h2 (Nat.le_refl _) hout hi fun g' w' a' E' H' F' D' => ?_
  have hb := of_body g' w' _ _ a' (Exit.then (Code.rounds Try.prog ofB (Exit.inBlock 0 (Exit.then (ofE.wp Try.prog (bodyPost Try.prog Try.f28 (OfQ imm w ofV0))) (bodyPost Try.prog Try.f28 (OfQ imm w ofV0)))) 0) (Exit.inBlock 0 (Exit.then (ofE.wp Try.prog (bodyPost Try.prog Try.f28 (OfQ imm w ofV0))) (bodyPost Try.prog Try.f28 (OfQ imm w ofV0))))) H' (F'.tr (op := ofFull) (by
    unfold ofFull
    simp only [VR]
    exact ⟨by rw [show evalSV (.var 0) = Io.io 0 from rfl, hx, Int.add_zero], by rw [show evalSV (.var 0) = Io.io 0 from rfl, hx]; exact h1, by rw [show evalSV (.var 0) = Io.io 0 from rfl, hx]; exact h2⟩)) D'
  have hX := ofX
  unfold obsX at hX
  split at hX
  · rename_i i t h hr
    rw [hr] at hb
    simp only [Option.some.injEq, Prod.mk.injEq] at hX
    obtain ⟨e2, er, rfl, en⟩ := hX
    refine hb fun g2 w2 a2 E2 H2 T2 D2 => ?_
    simp only [Exit.then, Exit.inBlock, if_true]
    have S := ofH_sub (i := 108) H2 er (Nat.le_of_ble_eq_true en)
    have T3 : TR g2 w2 73 (Tm.none.put 2 (some (.ref 0 0))) a2.tmps := T2.less fun j v hj e => by
      rw [Tm.at_put _ _ _ _ (by decide) hj] at e
      by_cases h2 : j = 2
      · subst h2; rw [if_pos rfl] at e; cases e; exact e2
      · rw [if_neg h2, Tm.at_none j hj] at e; cases e
    have hE := of_code ofE g2 w2 _ _ a2 (bodyPost Try.prog Try.f28 (OfQ imm w ofV0)) S.2 T3 D2
    have hO := ofEnd
    cases hr : cdO ofCall ofE (Tm.none.put 2 (some (.ref 0 0))) (ofH 108) with
    | bad => rw [hr] at hO; cases hO
    | norm t h => rw [hr] at hO; cases hO
    | exit i t h => rw [hr] at hO; cases hO
    | ret t h =>
      rw [hr] at hE hO
      exact hE fun g3 w3 a3 E3 H3 T3 D3 => of_ret hO ((E'.trans (E2.trans S.1)).trans E3) H3 T3 D3
  · cases hX
end
/-- No row meets the stretch. -/
noncomputable def ofDis (n : Nat) (A B : Int) : Bool := allB (fun p => ltI B p.1 || ltI p.2 A) (tk n ofI)
theorem ofDis_ok {n : Nat} {A B x : Int} (h : ofDis n A B = true) (h1 : A ≤ x) (h2 : x ≤ B) : ∀ j, j < n → ofOut j x := by
  intro j hj p e
  unfold ofDis at h
  rw [allB_eq, tk_eq, List.all_eq_true] at h
  have := h p (List.mem_of_getElem? (by rw [List.getElem?_take, if_pos hj]; exact e))
  rw [Bool.or_eq_true, ltI_iff, ltI_iff] at this
  omega
theorem of_rowN {A B : Int} (h : ofDis 108 A B = true) (h1 : -9223372036854775808 ≤ A) (h2 : B ≤ 9223372036854775807) : KnownR Try.prog 28 .i64 A B ofV0 :=
  ⟨Try.call28, fun I x ha hb g w hi => by
    have := @of_miss ⟨fun _ => x⟩ x rfl (by omega) (by omega) (ofDis_ok h ha hb) g.imm w hi
    exact this.mono fun e w' ⟨y, e1, k, hv⟩ => ⟨y, e1, k, VR.io ⟨fun _ => x⟩ I ofV0 y rfl hv⟩⟩
theorem of_row {r : Nat} {A B C D : Int} {v : AV} (hh : OfHit r C D v ∨ (C = D ∧ OfHit1 r C v)) (hr : r < 108) (h : ofDis r A B = true) (h1 : -9223372036854775808 ≤ A) (h2 : B ≤ 9223372036854775807) (hC : C ≤ A) (hD : B ≤ D) (hn : noSym v = true) : KnownR Try.prog 28 .i64 A B v :=
  ⟨Try.call28, fun I x ha hb g w hi => by
    have := @of_hit ⟨fun _ => x⟩ x C D r v rfl (by omega) (by omega) (by omega) (ofDis_ok h ha hb) hh (by omega) (by omega) g.imm w hi
    exact this.mono fun e w' ⟨y, e1, k, hv⟩ => ⟨y, e1, k, VR.io ⟨fun _ => x⟩ I v y hn hv⟩⟩
theorem Try.k28_0 : KnownR Try.prog 28 .i64 (-9223372036854775808) (-1) ofV0 := of_rowN (by kernel_rfl) (by decide) (by decide)
theorem Try.k28_1 : KnownR Try.prog 28 .i64 (0) (0) (.tup [(.agg [(.int .i64 1), (.int .i64 0), (.bool false), .esl, .esl]), (.bool true)]) := of_row (.inr ⟨rfl, ofX0⟩) (by decide) (by kernel_rfl) (by decide) (by decide) (by decide) (by decide) (by kernel_rfl)
theorem Try.k28_2 : KnownR Try.prog 28 .i64 (1) (1) (.tup [(.agg [(.int .i64 1), (.int .i64 0), (.bool true), .esl, .esl]), (.bool true)]) := of_row (.inr ⟨rfl, ofX1⟩) (by decide) (by kernel_rfl) (by decide) (by decide) (by decide) (by decide) (by kernel_rfl)
theorem Try.k28_3 : KnownR Try.prog 28 .i64 (2) (4) (.tup [(.agg [(.int .i64 2), (.int .i64 0), (.bool false), .esl, .esl]), (.bool true)]) := of_row (.inl ofX2) (by decide) (by kernel_rfl) (by decide) (by decide) (by decide) (by decide) (by kernel_rfl)
theorem Try.k28_4 : KnownR Try.prog 28 .i64 (5) (5) (.tup [(.agg [(.int .i64 1), (.int .i64 0), (.bool false), .esl, .esl]), (.bool true)]) := of_row (.inr ⟨rfl, ofX3⟩) (by decide) (by kernel_rfl) (by decide) (by decide) (by decide) (by decide) (by kernel_rfl)
theorem Try.k28_5 : KnownR Try.prog 28 .i64 (6) (10) ofV0 := of_rowN (by kernel_rfl) (by decide) (by decide)
theorem Try.k28_6 : KnownR Try.prog 28 .i64 (11) (11) (.tup [(.agg [(.int .i64 1), (.int .i64 0), (.bool false), .esl, .esl]), (.bool true)]) := of_row (.inr ⟨rfl, ofX4⟩) (by decide) (by kernel_rfl) (by decide) (by decide) (by decide) (by decide) (by kernel_rfl)
theorem Try.k28_7 : KnownR Try.prog 28 .i64 (12) (13) (.tup [(.agg [(.int .i64 3), (.int .i64 0), (.bool false), .esl, .esl]), (.bool true)]) := of_row (.inl ofX5) (by decide) (by kernel_rfl) (by decide) (by decide) (by decide) (by decide) (by kernel_rfl)
theorem Try.k28_8 : KnownR Try.prog 28 .i64 (14) (14) (.tup [(.agg [(.int .i64 4), (.int .i64 0), (.bool false), .esl, .esl]), (.bool true)]) := of_row (.inr ⟨rfl, ofX6⟩) (by decide) (by kernel_rfl) (by decide) (by decide) (by decide) (by decide) (by kernel_rfl)
theorem Try.k28_9 : KnownR Try.prog 28 .i64 (15) (15) (.tup [(.agg [(.int .i64 1), (.int .i64 0), (.bool false), .esl, .esl]), (.bool true)]) := of_row (.inr ⟨rfl, ofX7⟩) (by decide) (by kernel_rfl) (by decide) (by decide) (by decide) (by decide) (by kernel_rfl)
theorem Try.k28_10 : KnownR Try.prog 28 .i64 (16) (16) (.tup [(.agg [(.int .i64 5), (.int .i64 0), (.bool false), .esl, .esl]), (.bool true)]) := of_row (.inr ⟨rfl, ofX8⟩) (by decide) (by kernel_rfl) (by decide) (by decide) (by decide) (by decide) (by kernel_rfl)
theorem Try.k28_11 : KnownR Try.prog 28 .i64 (17) (17) (.tup [(.agg [(.int .i64 6), (.int .i64 0), (.bool false), .esl, .esl]), (.bool true)]) := of_row (.inr ⟨rfl, ofX9⟩) (by decide) (by kernel_rfl) (by decide) (by decide) (by decide) (by decide) (by kernel_rfl)
theorem Try.k28_12 : KnownR Try.prog 28 .i64 (18) (25) ofV0 := of_rowN (by kernel_rfl) (by decide) (by decide)
theorem Try.k28_13 : KnownR Try.prog 28 .i64 (26) (27) (.tup [(.agg [(.int .i64 1), (.int .i64 0), (.bool false), .esl, .esl]), (.bool true)]) := of_row (.inl ofX10) (by decide) (by kernel_rfl) (by decide) (by decide) (by decide) (by decide) (by kernel_rfl)
theorem Try.k28_14 : KnownR Try.prog 28 .i64 (28) (31) ofV0 := of_rowN (by kernel_rfl) (by decide) (by decide)
theorem Try.k28_15 : KnownR Try.prog 28 .i64 (32) (36) (.tup [(.agg [(.int .i64 5), (.int .i64 0), (.bool false), .esl, .esl]), (.bool true)]) := of_row (.inl ofX11) (by decide) (by kernel_rfl) (by decide) (by decide) (by decide) (by decide) (by kernel_rfl)
theorem Try.k28_16 : KnownR Try.prog 28 .i64 (37) (39) ofV0 := of_rowN (by kernel_rfl) (by decide) (by decide)
theorem Try.k28_17 : KnownR Try.prog 28 .i64 (40) (40) (.tup [(.agg [(.int .i64 7), (.int .i64 2), (.bool true), (.isl 1 [(.int .i64 127)]), (.isl 1 [(.int .i64 127)])]), (.bool true)]) := of_row (.inr ⟨rfl, ofX12⟩) (by decide) (by kernel_rfl) (by decide) (by decide) (by decide) (by decide) (by kernel_rfl)
theorem Try.k28_18 : KnownR Try.prog 28 .i64 (41) (41) (.tup [(.agg [(.int .i64 7), (.int .i64 3), (.bool true), (.isl 1 [(.int .i64 127)]), (.isl 1 [(.int .i64 126)])]), (.bool true)]) := of_row (.inr ⟨rfl, ofX13⟩) (by decide) (by kernel_rfl) (by decide) (by decide) (by decide) (by decide) (by kernel_rfl)
theorem Try.k28_19 : KnownR Try.prog 28 .i64 (42) (43) ofV0 := of_rowN (by kernel_rfl) (by decide) (by decide)
theorem Try.k28_20 : KnownR Try.prog 28 .i64 (44) (45) (.tup [(.agg [(.int .i64 7), (.int .i64 0), (.bool true), (.isl 1 [(.int .i64 127)]), (.isl 1 [(.int .i64 127)])]), (.bool true)]) := of_row (.inl ofX14) (by decide) (by kernel_rfl) (by decide) (by decide) (by decide) (by decide) (by kernel_rfl)
theorem Try.k28_21 : KnownR Try.prog 28 .i64 (46) (47) (.tup [(.agg [(.int .i64 7), (.int .i64 1), (.bool true), (.isl 1 [(.int .i64 127)]), (.isl 1 [(.int .i64 127)])]), (.bool true)]) := of_row (.inl ofX15) (by decide) (by kernel_rfl) (by decide) (by decide) (by decide) (by decide) (by kernel_rfl)
theorem Try.k28_22 : KnownR Try.prog 28 .i64 (48) (49) (.tup [(.agg [(.int .i64 7), (.int .i64 0), (.bool true), (.isl 1 [(.int .i64 127)]), (.isl 1 [(.int .i64 126)])]), (.bool true)]) := of_row (.inl ofX16) (by decide) (by kernel_rfl) (by decide) (by decide) (by decide) (by decide) (by kernel_rfl)
theorem Try.k28_23 : KnownR Try.prog 28 .i64 (50) (51) (.tup [(.agg [(.int .i64 7), (.int .i64 1), (.bool true), (.isl 1 [(.int .i64 127)]), (.isl 1 [(.int .i64 126)])]), (.bool true)]) := of_row (.inl ofX17) (by decide) (by kernel_rfl) (by decide) (by decide) (by decide) (by decide) (by kernel_rfl)
theorem Try.k28_24 : KnownR Try.prog 28 .i64 (52) (53) (.tup [(.agg [(.int .i64 7), (.int .i64 2), (.bool true), (.isl 1 [(.int .i64 127)]), (.isl 1 [(.int .i64 126)])]), (.bool true)]) := of_row (.inl ofX18) (by decide) (by kernel_rfl) (by decide) (by decide) (by decide) (by decide) (by kernel_rfl)
theorem Try.k28_25 : KnownR Try.prog 28 .i64 (54) (54) (.tup [(.agg [(.int .i64 7), (.int .i64 2), (.bool true), (.isl 2 [(.int .i64 127), (.int .i64 127)]), .esl]), (.bool true)]) := of_row (.inr ⟨rfl, ofX19⟩) (by decide) (by kernel_rfl) (by decide) (by decide) (by decide) (by decide) (by kernel_rfl)
theorem Try.k28_26 : KnownR Try.prog 28 .i64 (55) (55) (.tup [(.agg [(.int .i64 7), (.int .i64 3), (.bool true), (.isl 2 [(.int .i64 127), (.int .i64 126)]), .esl]), (.bool true)]) := of_row (.inr ⟨rfl, ofX20⟩) (by decide) (by kernel_rfl) (by decide) (by decide) (by decide) (by decide) (by kernel_rfl)
theorem Try.k28_27 : KnownR Try.prog 28 .i64 (56) (57) ofV0 := of_rowN (by kernel_rfl) (by decide) (by decide)
theorem Try.k28_28 : KnownR Try.prog 28 .i64 (58) (58) (.tup [(.agg [(.int .i64 7), (.int .i64 0), (.bool true), (.isl 2 [(.int .i64 127), (.int .i64 127)]), .esl]), (.bool true)]) := of_row (.inr ⟨rfl, ofX21⟩) (by decide) (by kernel_rfl) (by decide) (by decide) (by decide) (by decide) (by kernel_rfl)
theorem Try.k28_29 : KnownR Try.prog 28 .i64 (59) (59) (.tup [(.agg [(.int .i64 7), (.int .i64 1), (.bool true), (.isl 2 [(.int .i64 127), (.int .i64 127)]), .esl]), (.bool true)]) := of_row (.inr ⟨rfl, ofX22⟩) (by decide) (by kernel_rfl) (by decide) (by decide) (by decide) (by decide) (by kernel_rfl)
theorem Try.k28_30 : KnownR Try.prog 28 .i64 (60) (60) (.tup [(.agg [(.int .i64 7), (.int .i64 0), (.bool true), (.isl 2 [(.int .i64 127), (.int .i64 126)]), .esl]), (.bool true)]) := of_row (.inr ⟨rfl, ofX23⟩) (by decide) (by kernel_rfl) (by decide) (by decide) (by decide) (by decide) (by kernel_rfl)
theorem Try.k28_31 : KnownR Try.prog 28 .i64 (61) (61) (.tup [(.agg [(.int .i64 7), (.int .i64 1), (.bool true), (.isl 2 [(.int .i64 127), (.int .i64 126)]), .esl]), (.bool true)]) := of_row (.inr ⟨rfl, ofX24⟩) (by decide) (by kernel_rfl) (by decide) (by decide) (by decide) (by decide) (by kernel_rfl)
theorem Try.k28_32 : KnownR Try.prog 28 .i64 (62) (62) (.tup [(.agg [(.int .i64 7), (.int .i64 2), (.bool true), (.isl 2 [(.int .i64 127), (.int .i64 126)]), .esl]), (.bool true)]) := of_row (.inr ⟨rfl, ofX25⟩) (by decide) (by kernel_rfl) (by decide) (by decide) (by decide) (by decide) (by kernel_rfl)
theorem Try.k28_33 : KnownR Try.prog 28 .i64 (63) (63) (.tup [(.agg [(.int .i64 14), (.int .i64 0), (.bool true), .esl, (.isl 1 [(.int .i64 127)])]), (.bool true)]) := of_row (.inr ⟨rfl, ofX26⟩) (by decide) (by kernel_rfl) (by decide) (by decide) (by decide) (by decide) (by kernel_rfl)
theorem Try.k28_34 : KnownR Try.prog 28 .i64 (64) (64) (.tup [(.agg [(.int .i64 14), (.int .i64 0), (.bool true), (.isl 1 [(.int .i64 127)]), (.isl 1 [(.int .i64 127)])]), (.bool true)]) := of_row (.inr ⟨rfl, ofX27⟩) (by decide) (by kernel_rfl) (by decide) (by decide) (by decide) (by decide) (by kernel_rfl)
theorem Try.k28_35 : KnownR Try.prog 28 .i64 (65) (65) (.tup [(.agg [(.int .i64 9), (.int .i64 0), (.bool true), .esl, (.isl 1 [(.int .i64 127)])]), (.bool true)]) := of_row (.inr ⟨rfl, ofX28⟩) (by decide) (by kernel_rfl) (by decide) (by decide) (by decide) (by decide) (by kernel_rfl)
theorem Try.k28_36 : KnownR Try.prog 28 .i64 (66) (66) (.tup [(.agg [(.int .i64 10), (.int .i64 0), (.bool true), .esl, (.isl 1 [(.int .i64 126)])]), (.bool true)]) := of_row (.inr ⟨rfl, ofX29⟩) (by decide) (by kernel_rfl) (by decide) (by decide) (by decide) (by decide) (by kernel_rfl)
theorem Try.k28_37 : KnownR Try.prog 28 .i64 (67) (68) ofV0 := of_rowN (by kernel_rfl) (by decide) (by decide)
theorem Try.k28_38 : KnownR Try.prog 28 .i64 (69) (69) (.tup [(.agg [(.int .i64 1), (.int .i64 0), (.bool true), (.isl 1 [(.int .i64 127)]), (.isl 1 [(.int .i64 127)])]), (.bool true)]) := of_row (.inr ⟨rfl, ofX30⟩) (by decide) (by kernel_rfl) (by decide) (by decide) (by decide) (by decide) (by kernel_rfl)
theorem Try.k28_39 : KnownR Try.prog 28 .i64 (70) (79) (.tup [(.agg [(.int .i64 1), (.int .i64 0), (.bool true), (.isl 2 [(.int .i64 127), (.int .i64 127)]), (.isl 1 [(.int .i64 127)])]), (.bool true)]) := of_row (.inl ofX31) (by decide) (by kernel_rfl) (by decide) (by decide) (by decide) (by decide) (by kernel_rfl)
theorem Try.k28_40 : KnownR Try.prog 28 .i64 (80) (80) (.tup [(.agg [(.int .i64 1), (.int .i64 0), (.bool true), (.isl 1 [(.int .i64 126)]), (.isl 1 [(.int .i64 127)])]), (.bool true)]) := of_row (.inr ⟨rfl, ofX32⟩) (by decide) (by kernel_rfl) (by decide) (by decide) (by decide) (by decide) (by kernel_rfl)
theorem Try.k28_41 : KnownR Try.prog 28 .i64 (81) (90) (.tup [(.agg [(.int .i64 1), (.int .i64 0), (.bool true), (.isl 2 [(.int .i64 126), (.int .i64 126)]), (.isl 1 [(.int .i64 127)])]), (.bool true)]) := of_row (.inl ofX33) (by decide) (by kernel_rfl) (by decide) (by decide) (by decide) (by decide) (by kernel_rfl)
theorem Try.k28_42 : KnownR Try.prog 28 .i64 (91) (102) ofV0 := of_rowN (by kernel_rfl) (by decide) (by decide)
theorem Try.k28_43 : KnownR Try.prog 28 .i64 (103) (105) (.tup [(.agg [(.int .i64 1), (.int .i64 0), (.bool true), (.isl 1 [(.int .i64 127)]), (.isl 1 [(.int .i64 127)])]), (.bool true)]) := of_row (.inl ofX34) (by decide) (by kernel_rfl) (by decide) (by decide) (by decide) (by decide) (by kernel_rfl)
theorem Try.k28_44 : KnownR Try.prog 28 .i64 (106) (120) (.tup [(.agg [(.int .i64 1), (.int .i64 0), (.bool true), (.isl 2 [(.int .i64 127), (.int .i64 127)]), (.isl 1 [(.int .i64 127)])]), (.bool true)]) := of_row (.inl ofX35) (by decide) (by kernel_rfl) (by decide) (by decide) (by decide) (by decide) (by kernel_rfl)
theorem Try.k28_45 : KnownR Try.prog 28 .i64 (121) (123) (.tup [(.agg [(.int .i64 1), (.int .i64 0), (.bool true), (.isl 1 [(.int .i64 126)]), (.isl 1 [(.int .i64 126)])]), (.bool true)]) := of_row (.inl ofX36) (by decide) (by kernel_rfl) (by decide) (by decide) (by decide) (by decide) (by kernel_rfl)
theorem Try.k28_46 : KnownR Try.prog 28 .i64 (124) (138) (.tup [(.agg [(.int .i64 1), (.int .i64 0), (.bool true), (.isl 2 [(.int .i64 126), (.int .i64 126)]), (.isl 1 [(.int .i64 126)])]), (.bool true)]) := of_row (.inl ofX37) (by decide) (by kernel_rfl) (by decide) (by decide) (by decide) (by decide) (by kernel_rfl)
theorem Try.k28_47 : KnownR Try.prog 28 .i64 (139) (166) ofV0 := of_rowN (by kernel_rfl) (by decide) (by decide)
theorem Try.k28_48 : KnownR Try.prog 28 .i64 (167) (167) (.tup [(.agg [(.int .i64 1), (.int .i64 0), (.bool true), (.isl 1 [(.int .i64 126)]), (.isl 1 [(.int .i64 127)])]), (.bool true)]) := of_row (.inr ⟨rfl, ofX38⟩) (by decide) (by kernel_rfl) (by decide) (by decide) (by decide) (by decide) (by kernel_rfl)
theorem Try.k28_49 : KnownR Try.prog 28 .i64 (168) (171) ofV0 := of_rowN (by kernel_rfl) (by decide) (by decide)
theorem Try.k28_50 : KnownR Try.prog 28 .i64 (172) (173) (.tup [(.agg [(.int .i64 1), (.int .i64 0), (.bool true), (.isl 1 [(.int .i64 127)]), (.isl 1 [(.int .i64 126)])]), (.bool true)]) := of_row (.inl ofX39) (by decide) (by kernel_rfl) (by decide) (by decide) (by decide) (by decide) (by kernel_rfl)
theorem Try.k28_51 : KnownR Try.prog 28 .i64 (174) (191) ofV0 := of_rowN (by kernel_rfl) (by decide) (by decide)
theorem Try.k28_52 : KnownR Try.prog 28 .i64 (192) (193) (.tup [(.agg [(.int .i64 1), (.int .i64 0), (.bool true), (.isl 1 [(.int .i64 127)]), (.isl 1 [(.int .i64 127)])]), (.bool true)]) := of_row (.inl ofX40) (by decide) (by kernel_rfl) (by decide) (by decide) (by decide) (by decide) (by kernel_rfl)
theorem Try.k28_53 : KnownR Try.prog 28 .i64 (194) (196) (.tup [(.agg [(.int .i64 1), (.int .i64 0), (.bool true), (.isl 1 [(.int .i64 126)]), (.isl 1 [(.int .i64 126)])]), (.bool true)]) := of_row (.inl ofX41) (by decide) (by kernel_rfl) (by decide) (by decide) (by decide) (by decide) (by kernel_rfl)
theorem Try.k28_54 : KnownR Try.prog 28 .i64 (197) (64767) ofV0 := of_rowN (by kernel_rfl) (by decide) (by decide)
theorem Try.k28_55 : KnownR Try.prog 28 .i64 (64768) (64768) (.tup [(.agg [(.int .i64 7), (.int .i64 4), (.bool true), (.isl 1 [(.int .i64 127)]), (.isl 1 [(.int .i64 123)])]), (.bool true)]) := of_row (.inr ⟨rfl, ofX42⟩) (by decide) (by kernel_rfl) (by decide) (by decide) (by decide) (by decide) (by kernel_rfl)
theorem Try.k28_56 : KnownR Try.prog 28 .i64 (64769) (64774) (.tup [(.agg [(.int .i64 7), (.int .i64 3), (.bool true), (.isl 1 [(.int .i64 127)]), (.isl 1 [(.int .i64 123)])]), (.bool true)]) := of_row (.inl ofX43) (by decide) (by kernel_rfl) (by decide) (by decide) (by decide) (by decide) (by kernel_rfl)
theorem Try.k28_57 : KnownR Try.prog 28 .i64 (64775) (64775) (.tup [(.agg [(.int .i64 7), (.int .i64 0), (.bool true), (.isl 1 [(.int .i64 127)]), (.isl 1 [(.int .i64 123)])]), (.bool true)]) := of_row (.inr ⟨rfl, ofX44⟩) (by decide) (by kernel_rfl) (by decide) (by decide) (by decide) (by decide) (by kernel_rfl)
theorem Try.k28_58 : KnownR Try.prog 28 .i64 (64776) (64776) (.tup [(.agg [(.int .i64 7), (.int .i64 1), (.bool true), (.isl 1 [(.int .i64 127)]), (.isl 1 [(.int .i64 123)])]), (.bool true)]) := of_row (.inr ⟨rfl, ofX45⟩) (by decide) (by kernel_rfl) (by decide) (by decide) (by decide) (by decide) (by kernel_rfl)
theorem Try.k28_59 : KnownR Try.prog 28 .i64 (64777) (64777) (.tup [(.agg [(.int .i64 7), (.int .i64 2), (.bool true), (.isl 1 [(.int .i64 127)]), (.isl 1 [(.int .i64 123)])]), (.bool true)]) := of_row (.inr ⟨rfl, ofX46⟩) (by decide) (by kernel_rfl) (by decide) (by decide) (by decide) (by decide) (by kernel_rfl)
theorem Try.k28_60 : KnownR Try.prog 28 .i64 (64778) (64778) (.tup [(.agg [(.int .i64 7), (.int .i64 3), (.bool true), (.isl 1 [(.int .i64 127)]), (.isl 1 [(.int .i64 123)])]), (.bool true)]) := of_row (.inr ⟨rfl, ofX47⟩) (by decide) (by kernel_rfl) (by decide) (by decide) (by decide) (by decide) (by kernel_rfl)
theorem Try.k28_61 : KnownR Try.prog 28 .i64 (64779) (64779) (.tup [(.agg [(.int .i64 7), (.int .i64 4), (.bool true), (.isl 2 [(.int .i64 127), (.int .i64 123)]), .esl]), (.bool true)]) := of_row (.inr ⟨rfl, ofX48⟩) (by decide) (by kernel_rfl) (by decide) (by decide) (by decide) (by decide) (by kernel_rfl)
theorem Try.k28_62 : KnownR Try.prog 28 .i64 (64780) (64780) (.tup [(.agg [(.int .i64 11), (.int .i64 0), (.bool true), .esl, (.isl 1 [(.int .i64 123)])]), (.bool true)]) := of_row (.inr ⟨rfl, ofX49⟩) (by decide) (by kernel_rfl) (by decide) (by decide) (by decide) (by decide) (by kernel_rfl)
theorem Try.k28_63 : KnownR Try.prog 28 .i64 (64781) (64781) (.tup [(.agg [(.int .i64 12), (.int .i64 0), (.bool true), (.isl 2 [(.int .i64 123), (.int .i64 123)]), (.isl 1 [(.int .i64 123)])]), (.bool true)]) := of_row (.inr ⟨rfl, ofX50⟩) (by decide) (by kernel_rfl) (by decide) (by decide) (by decide) (by decide) (by kernel_rfl)
theorem Try.k28_64 : KnownR Try.prog 28 .i64 (64782) (64782) (.tup [(.agg [(.int .i64 1), (.int .i64 0), (.bool true), (.isl 2 [(.int .i64 123), (.int .i64 123)]), (.isl 1 [(.int .i64 123)])]), (.bool true)]) := of_row (.inr ⟨rfl, ofX51⟩) (by decide) (by kernel_rfl) (by decide) (by decide) (by decide) (by decide) (by kernel_rfl)
theorem Try.k28_65 : KnownR Try.prog 28 .i64 (64783) (64785) (.tup [(.agg [(.int .i64 1), (.int .i64 0), (.bool true), (.isl 1 [(.int .i64 127)]), (.isl 1 [(.int .i64 123)])]), (.bool true)]) := of_row (.inl ofX52) (by decide) (by kernel_rfl) (by decide) (by decide) (by decide) (by decide) (by kernel_rfl)
theorem Try.k28_66 : KnownR Try.prog 28 .i64 (64786) (64786) (.tup [(.agg [(.int .i64 1), (.int .i64 0), (.bool true), (.isl 1 [(.int .i64 126)]), (.isl 1 [(.int .i64 123)])]), (.bool true)]) := of_row (.inr ⟨rfl, ofX53⟩) (by decide) (by kernel_rfl) (by decide) (by decide) (by decide) (by decide) (by kernel_rfl)
theorem Try.k28_67 : KnownR Try.prog 28 .i64 (64787) (64788) ofV0 := of_rowN (by kernel_rfl) (by decide) (by decide)
theorem Try.k28_68 : KnownR Try.prog 28 .i64 (64789) (64790) (.tup [(.agg [(.int .i64 13), (.int .i64 16), (.bool true), (.isl 1 [(.int .i64 123)]), (.isl 1 [(.int .i64 127)])]), (.bool true)]) := of_row (.inl ofX54) (by decide) (by kernel_rfl) (by decide) (by decide) (by decide) (by decide) (by kernel_rfl)
theorem Try.k28_69 : KnownR Try.prog 28 .i64 (64791) (64791) (.tup [(.agg [(.int .i64 13), (.int .i64 16), (.bool true), (.isl 2 [(.int .i64 123), (.int .i64 127)]), (.isl 1 [(.int .i64 123)])]), (.bool true)]) := of_row (.inr ⟨rfl, ofX55⟩) (by decide) (by kernel_rfl) (by decide) (by decide) (by decide) (by decide) (by kernel_rfl)
theorem Try.k28_70 : KnownR Try.prog 28 .i64 (64792) (64793) (.tup [(.agg [(.int .i64 13), (.int .i64 8), (.bool true), (.isl 1 [(.int .i64 123)]), (.isl 1 [(.int .i64 127)])]), (.bool true)]) := of_row (.inl ofX56) (by decide) (by kernel_rfl) (by decide) (by decide) (by decide) (by decide) (by kernel_rfl)
theorem Try.k28_71 : KnownR Try.prog 28 .i64 (64794) (64794) (.tup [(.agg [(.int .i64 13), (.int .i64 8), (.bool true), (.isl 2 [(.int .i64 123), (.int .i64 127)]), (.isl 1 [(.int .i64 123)])]), (.bool true)]) := of_row (.inr ⟨rfl, ofX57⟩) (by decide) (by kernel_rfl) (by decide) (by decide) (by decide) (by decide) (by kernel_rfl)
theorem Try.k28_72 : KnownR Try.prog 28 .i64 (64795) (64795) (.tup [(.agg [(.int .i64 13), (.int .i64 4), (.bool true), (.isl 1 [(.int .i64 123)]), (.isl 1 [(.int .i64 127)])]), (.bool true)]) := of_row (.inr ⟨rfl, ofX58⟩) (by decide) (by kernel_rfl) (by decide) (by decide) (by decide) (by decide) (by kernel_rfl)
theorem Try.k28_73 : KnownR Try.prog 28 .i64 (64796) (64796) (.tup [(.agg [(.int .i64 13), (.int .i64 4), (.bool true), (.isl 2 [(.int .i64 123), (.int .i64 127)]), (.isl 1 [(.int .i64 123)])]), (.bool true)]) := of_row (.inr ⟨rfl, ofX59⟩) (by decide) (by kernel_rfl) (by decide) (by decide) (by decide) (by decide) (by kernel_rfl)
theorem Try.k28_74 : KnownR Try.prog 28 .i64 (64797) (64797) (.tup [(.agg [(.int .i64 13), (.int .i64 2), (.bool true), (.isl 1 [(.int .i64 123)]), (.isl 1 [(.int .i64 126)])]), (.bool true)]) := of_row (.inr ⟨rfl, ofX60⟩) (by decide) (by kernel_rfl) (by decide) (by decide) (by decide) (by decide) (by kernel_rfl)
theorem Try.k28_75 : KnownR Try.prog 28 .i64 (64798) (64798) (.tup [(.agg [(.int .i64 13), (.int .i64 2), (.bool true), (.isl 2 [(.int .i64 123), (.int .i64 126)]), (.isl 1 [(.int .i64 123)])]), (.bool true)]) := of_row (.inr ⟨rfl, ofX61⟩) (by decide) (by kernel_rfl) (by decide) (by decide) (by decide) (by decide) (by kernel_rfl)
theorem Try.k28_76 : KnownR Try.prog 28 .i64 (64799) (64802) ofV0 := of_rowN (by kernel_rfl) (by decide) (by decide)
theorem Try.k28_77 : KnownR Try.prog 28 .i64 (64803) (64832) (.tup [(.agg [(.int .i64 1), (.int .i64 0), (.bool true), (.isl 2 [(.int .i64 123), (.int .i64 123)]), (.isl 1 [(.int .i64 123)])]), (.bool true)]) := of_row (.inl ofX62) (by decide) (by kernel_rfl) (by decide) (by decide) (by decide) (by decide) (by kernel_rfl)
theorem Try.k28_78 : KnownR Try.prog 28 .i64 (64833) (64844) ofV0 := of_rowN (by kernel_rfl) (by decide) (by decide)
theorem Try.k28_79 : KnownR Try.prog 28 .i64 (64845) (64845) (.tup [(.agg [(.int .i64 1), (.int .i64 0), (.bool true), (.isl 1 [(.int .i64 123)]), (.isl 1 [(.int .i64 123)])]), (.bool true)]) := of_row (.inr ⟨rfl, ofX63⟩) (by decide) (by kernel_rfl) (by decide) (by decide) (by decide) (by decide) (by kernel_rfl)
theorem Try.k28_80 : KnownR Try.prog 28 .i64 (64846) (64849) (.tup [(.agg [(.int .i64 1), (.int .i64 0), (.bool true), (.isl 2 [(.int .i64 123), (.int .i64 123)]), (.isl 1 [(.int .i64 123)])]), (.bool true)]) := of_row (.inl ofX64) (by decide) (by kernel_rfl) (by decide) (by decide) (by decide) (by decide) (by kernel_rfl)
theorem Try.k28_81 : KnownR Try.prog 28 .i64 (64850) (64850) (.tup [(.agg [(.int .i64 1), (.int .i64 0), (.bool true), (.isl 3 [(.int .i64 123), (.int .i64 123), (.int .i64 123)]), (.isl 1 [(.int .i64 123)])]), (.bool true)]) := of_row (.inr ⟨rfl, ofX65⟩) (by decide) (by kernel_rfl) (by decide) (by decide) (by decide) (by decide) (by kernel_rfl)
theorem Try.k28_82 : KnownR Try.prog 28 .i64 (64851) (64851) (.tup [(.agg [(.int .i64 1), (.int .i64 0), (.bool true), (.isl 1 [(.int .i64 123)]), (.isl 1 [(.int .i64 127)])]), (.bool true)]) := of_row (.inr ⟨rfl, ofX66⟩) (by decide) (by kernel_rfl) (by decide) (by decide) (by decide) (by decide) (by kernel_rfl)
theorem Try.k28_83 : KnownR Try.prog 28 .i64 (64852) (64852) (.tup [(.agg [(.int .i64 8), (.int .i64 0), (.bool true), (.isl 2 [(.int .i64 127), (.int .i64 123)]), (.isl 1 [(.int .i64 123)])]), (.bool true)]) := of_row (.inr ⟨rfl, ofX67⟩) (by decide) (by kernel_rfl) (by decide) (by decide) (by decide) (by decide) (by kernel_rfl)
theorem Try.k28_84 : KnownR Try.prog 28 .i64 (64853) (64853) (.tup [(.agg [(.int .i64 8), (.int .i64 1), (.bool true), (.isl 2 [(.int .i64 127), (.int .i64 123)]), (.isl 1 [(.int .i64 123)])]), (.bool true)]) := of_row (.inr ⟨rfl, ofX68⟩) (by decide) (by kernel_rfl) (by decide) (by decide) (by decide) (by decide) (by kernel_rfl)
theorem Try.k28_85 : KnownR Try.prog 28 .i64 (64854) (64854) (.tup [(.agg [(.int .i64 8), (.int .i64 2), (.bool true), (.isl 2 [(.int .i64 127), (.int .i64 123)]), (.isl 1 [(.int .i64 123)])]), (.bool true)]) := of_row (.inr ⟨rfl, ofX69⟩) (by decide) (by kernel_rfl) (by decide) (by decide) (by decide) (by decide) (by kernel_rfl)
theorem Try.k28_86 : KnownR Try.prog 28 .i64 (64855) (64855) (.tup [(.agg [(.int .i64 8), (.int .i64 3), (.bool true), (.isl 2 [(.int .i64 127), (.int .i64 123)]), (.isl 1 [(.int .i64 123)])]), (.bool true)]) := of_row (.inr ⟨rfl, ofX70⟩) (by decide) (by kernel_rfl) (by decide) (by decide) (by decide) (by decide) (by kernel_rfl)
theorem Try.k28_87 : KnownR Try.prog 28 .i64 (64856) (64856) (.tup [(.agg [(.int .i64 8), (.int .i64 0), (.bool true), (.isl 2 [(.int .i64 127), (.int .i64 123)]), .esl]), (.bool true)]) := of_row (.inr ⟨rfl, ofX71⟩) (by decide) (by kernel_rfl) (by decide) (by decide) (by decide) (by decide) (by kernel_rfl)
theorem Try.k28_88 : KnownR Try.prog 28 .i64 (64857) (64857) (.tup [(.agg [(.int .i64 8), (.int .i64 1), (.bool true), (.isl 2 [(.int .i64 127), (.int .i64 123)]), .esl]), (.bool true)]) := of_row (.inr ⟨rfl, ofX72⟩) (by decide) (by kernel_rfl) (by decide) (by decide) (by decide) (by decide) (by kernel_rfl)
theorem Try.k28_89 : KnownR Try.prog 28 .i64 (64858) (64858) (.tup [(.agg [(.int .i64 8), (.int .i64 2), (.bool true), (.isl 2 [(.int .i64 127), (.int .i64 123)]), .esl]), (.bool true)]) := of_row (.inr ⟨rfl, ofX73⟩) (by decide) (by kernel_rfl) (by decide) (by decide) (by decide) (by decide) (by kernel_rfl)
theorem Try.k28_90 : KnownR Try.prog 28 .i64 (64859) (64859) (.tup [(.agg [(.int .i64 8), (.int .i64 3), (.bool true), (.isl 2 [(.int .i64 127), (.int .i64 123)]), .esl]), (.bool true)]) := of_row (.inr ⟨rfl, ofX74⟩) (by decide) (by kernel_rfl) (by decide) (by decide) (by decide) (by decide) (by kernel_rfl)
theorem Try.k28_91 : KnownR Try.prog 28 .i64 (64860) (64860) (.tup [(.agg [(.int .i64 7), (.int .i64 2), (.bool true), (.isl 1 [(.int .i64 127)]), (.isl 1 [(.int .i64 123)])]), (.bool true)]) := of_row (.inr ⟨rfl, ofX75⟩) (by decide) (by kernel_rfl) (by decide) (by decide) (by decide) (by decide) (by kernel_rfl)
theorem Try.k28_92 : KnownR Try.prog 28 .i64 (64861) (64861) (.tup [(.agg [(.int .i64 7), (.int .i64 3), (.bool true), (.isl 1 [(.int .i64 127)]), (.isl 1 [(.int .i64 123)])]), (.bool true)]) := of_row (.inr ⟨rfl, ofX76⟩) (by decide) (by kernel_rfl) (by decide) (by decide) (by decide) (by decide) (by kernel_rfl)
theorem Try.k28_93 : KnownR Try.prog 28 .i64 (64862) (64863) ofV0 := of_rowN (by kernel_rfl) (by decide) (by decide)
theorem Try.k28_94 : KnownR Try.prog 28 .i64 (64864) (64866) (.tup [(.agg [(.int .i64 1), (.int .i64 0), (.bool true), (.isl 1 [(.int .i64 123)]), (.isl 1 [(.int .i64 123)])]), (.bool true)]) := of_row (.inl ofX77) (by decide) (by kernel_rfl) (by decide) (by decide) (by decide) (by decide) (by kernel_rfl)
theorem Try.k28_95 : KnownR Try.prog 28 .i64 (64867) (64868) (.tup [(.agg [(.int .i64 1), (.int .i64 0), (.bool true), (.isl 1 [(.int .i64 123)]), (.isl 1 [(.int .i64 127)])]), (.bool true)]) := of_row (.inl ofX78) (by decide) (by kernel_rfl) (by decide) (by decide) (by decide) (by decide) (by kernel_rfl)
theorem Try.k28_96 : KnownR Try.prog 28 .i64 (64869) (64870) (.tup [(.agg [(.int .i64 1), (.int .i64 0), (.bool true), (.isl 2 [(.int .i64 123), (.int .i64 123)]), (.isl 1 [(.int .i64 123)])]), (.bool true)]) := of_row (.inl ofX79) (by decide) (by kernel_rfl) (by decide) (by decide) (by decide) (by decide) (by kernel_rfl)
theorem Try.k28_97 : KnownR Try.prog 28 .i64 (64871) (64874) ofV0 := of_rowN (by kernel_rfl) (by decide) (by decide)
theorem Try.k28_98 : KnownR Try.prog 28 .i64 (64875) (64877) (.tup [(.agg [(.int .i64 1), (.int .i64 0), (.bool true), (.isl 2 [(.int .i64 123), (.int .i64 127)]), (.isl 1 [(.int .i64 123)])]), (.bool true)]) := of_row (.inl ofX80) (by decide) (by kernel_rfl) (by decide) (by decide) (by decide) (by decide) (by kernel_rfl)
theorem Try.k28_99 : KnownR Try.prog 28 .i64 (64878) (64883) (.tup [(.agg [(.int .i64 1), (.int .i64 0), (.bool true), (.isl 2 [(.int .i64 123), (.int .i64 123)]), (.isl 1 [(.int .i64 123)])]), (.bool true)]) := of_row (.inl ofX81) (by decide) (by kernel_rfl) (by decide) (by decide) (by decide) (by decide) (by kernel_rfl)
theorem Try.k28_100 : KnownR Try.prog 28 .i64 (64884) (64885) ofV0 := of_rowN (by kernel_rfl) (by decide) (by decide)
theorem Try.k28_101 : KnownR Try.prog 28 .i64 (64886) (64889) (.tup [(.agg [(.int .i64 1), (.int .i64 0), (.bool true), (.isl 2 [(.int .i64 123), (.int .i64 123)]), (.isl 1 [(.int .i64 123)])]), (.bool true)]) := of_row (.inl ofX82) (by decide) (by kernel_rfl) (by decide) (by decide) (by decide) (by decide) (by kernel_rfl)
theorem Try.k28_102 : KnownR Try.prog 28 .i64 (64890) (64890) ofV0 := of_rowN (by kernel_rfl) (by decide) (by decide)
theorem Try.k28_103 : KnownR Try.prog 28 .i64 (64891) (64891) (.tup [(.agg [(.int .i64 1), (.int .i64 0), (.bool true), (.isl 2 [(.int .i64 123), (.int .i64 123)]), (.isl 1 [(.int .i64 123)])]), (.bool true)]) := of_row (.inr ⟨rfl, ofX83⟩) (by decide) (by kernel_rfl) (by decide) (by decide) (by decide) (by decide) (by kernel_rfl)
theorem Try.k28_104 : KnownR Try.prog 28 .i64 (64892) (64897) (.tup [(.agg [(.int .i64 1), (.int .i64 0), (.bool true), (.isl 1 [(.int .i64 123)]), (.isl 1 [(.int .i64 123)])]), (.bool true)]) := of_row (.inl ofX84) (by decide) (by kernel_rfl) (by decide) (by decide) (by decide) (by decide) (by kernel_rfl)
theorem Try.k28_105 : KnownR Try.prog 28 .i64 (64898) (64898) (.tup [(.agg [(.int .i64 1), (.int .i64 0), (.bool true), (.isl 2 [(.int .i64 123), (.int .i64 123)]), (.isl 1 [(.int .i64 123)])]), (.bool true)]) := of_row (.inr ⟨rfl, ofX85⟩) (by decide) (by kernel_rfl) (by decide) (by decide) (by decide) (by decide) (by kernel_rfl)
theorem Try.k28_106 : KnownR Try.prog 28 .i64 (64899) (64900) (.tup [(.agg [(.int .i64 1), (.int .i64 0), (.bool true), (.isl 1 [(.int .i64 123)]), (.isl 1 [(.int .i64 127)])]), (.bool true)]) := of_row (.inl ofX86) (by decide) (by kernel_rfl) (by decide) (by decide) (by decide) (by decide) (by kernel_rfl)
theorem Try.k28_107 : KnownR Try.prog 28 .i64 (64901) (64902) (.tup [(.agg [(.int .i64 1), (.int .i64 0), (.bool true), (.isl 2 [(.int .i64 123), (.int .i64 123)]), (.isl 1 [(.int .i64 123)])]), (.bool true)]) := of_row (.inl ofX87) (by decide) (by kernel_rfl) (by decide) (by decide) (by decide) (by decide) (by kernel_rfl)
theorem Try.k28_108 : KnownR Try.prog 28 .i64 (64903) (64906) (.tup [(.agg [(.int .i64 1), (.int .i64 0), (.bool true), (.isl 1 [(.int .i64 123)]), (.isl 1 [(.int .i64 123)])]), (.bool true)]) := of_row (.inl ofX88) (by decide) (by kernel_rfl) (by decide) (by decide) (by decide) (by decide) (by kernel_rfl)
theorem Try.k28_109 : KnownR Try.prog 28 .i64 (64907) (64909) (.tup [(.agg [(.int .i64 1), (.int .i64 0), (.bool true), (.isl 2 [(.int .i64 123), (.int .i64 127)]), (.isl 1 [(.int .i64 123)])]), (.bool true)]) := of_row (.inl ofX89) (by decide) (by kernel_rfl) (by decide) (by decide) (by decide) (by decide) (by kernel_rfl)
theorem Try.k28_110 : KnownR Try.prog 28 .i64 (64910) (64915) (.tup [(.agg [(.int .i64 1), (.int .i64 0), (.bool true), (.isl 2 [(.int .i64 123), (.int .i64 123)]), (.isl 1 [(.int .i64 123)])]), (.bool true)]) := of_row (.inl ofX90) (by decide) (by kernel_rfl) (by decide) (by decide) (by decide) (by decide) (by kernel_rfl)
theorem Try.k28_111 : KnownR Try.prog 28 .i64 (64916) (64916) ofV0 := of_rowN (by kernel_rfl) (by decide) (by decide)
theorem Try.k28_112 : KnownR Try.prog 28 .i64 (64917) (64921) (.tup [(.agg [(.int .i64 1), (.int .i64 0), (.bool true), (.isl 2 [(.int .i64 123), (.int .i64 123)]), (.isl 1 [(.int .i64 123)])]), (.bool true)]) := of_row (.inl ofX91) (by decide) (by kernel_rfl) (by decide) (by decide) (by decide) (by decide) (by kernel_rfl)
theorem Try.k28_113 : KnownR Try.prog 28 .i64 (64922) (64922) ofV0 := of_rowN (by kernel_rfl) (by decide) (by decide)
theorem Try.k28_114 : KnownR Try.prog 28 .i64 (64923) (64927) (.tup [(.agg [(.int .i64 1), (.int .i64 0), (.bool true), (.isl 2 [(.int .i64 123), (.int .i64 123)]), (.isl 1 [(.int .i64 123)])]), (.bool true)]) := of_row (.inl ofX92) (by decide) (by kernel_rfl) (by decide) (by decide) (by decide) (by decide) (by kernel_rfl)
theorem Try.k28_115 : KnownR Try.prog 28 .i64 (64928) (64929) (.tup [(.agg [(.int .i64 1), (.int .i64 0), (.bool true), (.isl 1 [(.int .i64 123)]), (.isl 1 [(.int .i64 123)])]), (.bool true)]) := of_row (.inl ofX93) (by decide) (by kernel_rfl) (by decide) (by decide) (by decide) (by decide) (by kernel_rfl)
theorem Try.k28_116 : KnownR Try.prog 28 .i64 (64930) (64930) ofV0 := of_rowN (by kernel_rfl) (by decide) (by decide)
theorem Try.k28_117 : KnownR Try.prog 28 .i64 (64931) (64932) (.tup [(.agg [(.int .i64 1), (.int .i64 0), (.bool true), (.isl 1 [(.int .i64 123)]), (.isl 1 [(.int .i64 127)])]), (.bool true)]) := of_row (.inl ofX94) (by decide) (by kernel_rfl) (by decide) (by decide) (by decide) (by decide) (by kernel_rfl)
theorem Try.k28_118 : KnownR Try.prog 28 .i64 (64933) (64934) ofV0 := of_rowN (by kernel_rfl) (by decide) (by decide)
theorem Try.k28_119 : KnownR Try.prog 28 .i64 (64935) (64938) (.tup [(.agg [(.int .i64 1), (.int .i64 0), (.bool true), (.isl 1 [(.int .i64 123)]), (.isl 1 [(.int .i64 123)])]), (.bool true)]) := of_row (.inl ofX95) (by decide) (by kernel_rfl) (by decide) (by decide) (by decide) (by decide) (by kernel_rfl)
theorem Try.k28_120 : KnownR Try.prog 28 .i64 (64939) (64941) (.tup [(.agg [(.int .i64 1), (.int .i64 0), (.bool true), (.isl 2 [(.int .i64 123), (.int .i64 127)]), (.isl 1 [(.int .i64 123)])]), (.bool true)]) := of_row (.inl ofX96) (by decide) (by kernel_rfl) (by decide) (by decide) (by decide) (by decide) (by kernel_rfl)
theorem Try.k28_121 : KnownR Try.prog 28 .i64 (64942) (64942) (.tup [(.agg [(.int .i64 1), (.int .i64 0), (.bool true), (.isl 2 [(.int .i64 123), (.int .i64 123)]), (.isl 1 [(.int .i64 123)])]), (.bool true)]) := of_row (.inr ⟨rfl, ofX97⟩) (by decide) (by kernel_rfl) (by decide) (by decide) (by decide) (by decide) (by kernel_rfl)
theorem Try.k28_122 : KnownR Try.prog 28 .i64 (64943) (64944) ofV0 := of_rowN (by kernel_rfl) (by decide) (by decide)
theorem Try.k28_123 : KnownR Try.prog 28 .i64 (64945) (64945) (.tup [(.agg [(.int .i64 1), (.int .i64 0), (.bool true), (.isl 2 [(.int .i64 123), (.int .i64 123)]), (.isl 1 [(.int .i64 123)])]), (.bool true)]) := of_row (.inr ⟨rfl, ofX98⟩) (by decide) (by kernel_rfl) (by decide) (by decide) (by decide) (by decide) (by kernel_rfl)
theorem Try.k28_124 : KnownR Try.prog 28 .i64 (64946) (64948) ofV0 := of_rowN (by kernel_rfl) (by decide) (by decide)
theorem Try.k28_125 : KnownR Try.prog 28 .i64 (64949) (64954) (.tup [(.agg [(.int .i64 1), (.int .i64 0), (.bool true), (.isl 2 [(.int .i64 123), (.int .i64 123)]), (.isl 1 [(.int .i64 123)])]), (.bool true)]) := of_row (.inl ofX99) (by decide) (by kernel_rfl) (by decide) (by decide) (by decide) (by decide) (by kernel_rfl)
theorem Try.k28_126 : KnownR Try.prog 28 .i64 (64955) (64955) ofV0 := of_rowN (by kernel_rfl) (by decide) (by decide)
theorem Try.k28_127 : KnownR Try.prog 28 .i64 (64956) (64959) (.tup [(.agg [(.int .i64 1), (.int .i64 0), (.bool true), (.isl 2 [(.int .i64 123), (.int .i64 123)]), (.isl 1 [(.int .i64 123)])]), (.bool true)]) := of_row (.inl ofX100) (by decide) (by kernel_rfl) (by decide) (by decide) (by decide) (by decide) (by kernel_rfl)
theorem Try.k28_128 : KnownR Try.prog 28 .i64 (64960) (64961) (.tup [(.agg [(.int .i64 1), (.int .i64 0), (.bool true), (.isl 1 [(.int .i64 123)]), (.isl 1 [(.int .i64 123)])]), (.bool true)]) := of_row (.inl ofX101) (by decide) (by kernel_rfl) (by decide) (by decide) (by decide) (by decide) (by kernel_rfl)
theorem Try.k28_129 : KnownR Try.prog 28 .i64 (64962) (64962) ofV0 := of_rowN (by kernel_rfl) (by decide) (by decide)
theorem Try.k28_130 : KnownR Try.prog 28 .i64 (64963) (64964) (.tup [(.agg [(.int .i64 1), (.int .i64 0), (.bool true), (.isl 1 [(.int .i64 123)]), (.isl 1 [(.int .i64 127)])]), (.bool true)]) := of_row (.inl ofX102) (by decide) (by kernel_rfl) (by decide) (by decide) (by decide) (by decide) (by kernel_rfl)
theorem Try.k28_131 : KnownR Try.prog 28 .i64 (64965) (64966) ofV0 := of_rowN (by kernel_rfl) (by decide) (by decide)
theorem Try.k28_132 : KnownR Try.prog 28 .i64 (64967) (64970) (.tup [(.agg [(.int .i64 1), (.int .i64 0), (.bool true), (.isl 1 [(.int .i64 123)]), (.isl 1 [(.int .i64 123)])]), (.bool true)]) := of_row (.inl ofX103) (by decide) (by kernel_rfl) (by decide) (by decide) (by decide) (by decide) (by kernel_rfl)
theorem Try.k28_133 : KnownR Try.prog 28 .i64 (64971) (64973) (.tup [(.agg [(.int .i64 1), (.int .i64 0), (.bool true), (.isl 2 [(.int .i64 123), (.int .i64 127)]), (.isl 1 [(.int .i64 123)])]), (.bool true)]) := of_row (.inl ofX104) (by decide) (by kernel_rfl) (by decide) (by decide) (by decide) (by decide) (by kernel_rfl)
theorem Try.k28_134 : KnownR Try.prog 28 .i64 (64974) (64974) (.tup [(.agg [(.int .i64 1), (.int .i64 0), (.bool true), (.isl 2 [(.int .i64 123), (.int .i64 123)]), (.isl 1 [(.int .i64 123)])]), (.bool true)]) := of_row (.inr ⟨rfl, ofX105⟩) (by decide) (by kernel_rfl) (by decide) (by decide) (by decide) (by decide) (by kernel_rfl)
theorem Try.k28_135 : KnownR Try.prog 28 .i64 (64975) (64976) ofV0 := of_rowN (by kernel_rfl) (by decide) (by decide)
theorem Try.k28_136 : KnownR Try.prog 28 .i64 (64977) (64977) (.tup [(.agg [(.int .i64 1), (.int .i64 0), (.bool true), (.isl 2 [(.int .i64 123), (.int .i64 123)]), (.isl 1 [(.int .i64 123)])]), (.bool true)]) := of_row (.inr ⟨rfl, ofX106⟩) (by decide) (by kernel_rfl) (by decide) (by decide) (by decide) (by decide) (by kernel_rfl)
theorem Try.k28_137 : KnownR Try.prog 28 .i64 (64978) (64980) ofV0 := of_rowN (by kernel_rfl) (by decide) (by decide)
theorem Try.k28_138 : KnownR Try.prog 28 .i64 (64981) (64991) (.tup [(.agg [(.int .i64 1), (.int .i64 0), (.bool true), (.isl 2 [(.int .i64 123), (.int .i64 123)]), (.isl 1 [(.int .i64 123)])]), (.bool true)]) := of_row (.inl ofX107) (by decide) (by kernel_rfl) (by decide) (by decide) (by decide) (by decide) (by kernel_rfl)
theorem Try.k28_139 : KnownR Try.prog 28 .i64 (64992) (9223372036854775807) ofV0 := of_rowN (by kernel_rfl) (by decide) (by decide)
noncomputable def Try.rows28 : List Row := [⟨.i64, (-9223372036854775808), (-1), ofV0⟩, ⟨.i64, (0), (0), (.tup [(.agg [(.int .i64 1), (.int .i64 0), (.bool false), .esl, .esl]), (.bool true)])⟩, ⟨.i64, (1), (1), (.tup [(.agg [(.int .i64 1), (.int .i64 0), (.bool true), .esl, .esl]), (.bool true)])⟩, ⟨.i64, (2), (4), (.tup [(.agg [(.int .i64 2), (.int .i64 0), (.bool false), .esl, .esl]), (.bool true)])⟩, ⟨.i64, (5), (5), (.tup [(.agg [(.int .i64 1), (.int .i64 0), (.bool false), .esl, .esl]), (.bool true)])⟩, ⟨.i64, (6), (10), ofV0⟩, ⟨.i64, (11), (11), (.tup [(.agg [(.int .i64 1), (.int .i64 0), (.bool false), .esl, .esl]), (.bool true)])⟩, ⟨.i64, (12), (13), (.tup [(.agg [(.int .i64 3), (.int .i64 0), (.bool false), .esl, .esl]), (.bool true)])⟩, ⟨.i64, (14), (14), (.tup [(.agg [(.int .i64 4), (.int .i64 0), (.bool false), .esl, .esl]), (.bool true)])⟩, ⟨.i64, (15), (15), (.tup [(.agg [(.int .i64 1), (.int .i64 0), (.bool false), .esl, .esl]), (.bool true)])⟩, ⟨.i64, (16), (16), (.tup [(.agg [(.int .i64 5), (.int .i64 0), (.bool false), .esl, .esl]), (.bool true)])⟩, ⟨.i64, (17), (17), (.tup [(.agg [(.int .i64 6), (.int .i64 0), (.bool false), .esl, .esl]), (.bool true)])⟩, ⟨.i64, (18), (25), ofV0⟩, ⟨.i64, (26), (27), (.tup [(.agg [(.int .i64 1), (.int .i64 0), (.bool false), .esl, .esl]), (.bool true)])⟩, ⟨.i64, (28), (31), ofV0⟩, ⟨.i64, (32), (36), (.tup [(.agg [(.int .i64 5), (.int .i64 0), (.bool false), .esl, .esl]), (.bool true)])⟩, ⟨.i64, (37), (39), ofV0⟩, ⟨.i64, (40), (40), (.tup [(.agg [(.int .i64 7), (.int .i64 2), (.bool true), (.isl 1 [(.int .i64 127)]), (.isl 1 [(.int .i64 127)])]), (.bool true)])⟩, ⟨.i64, (41), (41), (.tup [(.agg [(.int .i64 7), (.int .i64 3), (.bool true), (.isl 1 [(.int .i64 127)]), (.isl 1 [(.int .i64 126)])]), (.bool true)])⟩, ⟨.i64, (42), (43), ofV0⟩, ⟨.i64, (44), (45), (.tup [(.agg [(.int .i64 7), (.int .i64 0), (.bool true), (.isl 1 [(.int .i64 127)]), (.isl 1 [(.int .i64 127)])]), (.bool true)])⟩, ⟨.i64, (46), (47), (.tup [(.agg [(.int .i64 7), (.int .i64 1), (.bool true), (.isl 1 [(.int .i64 127)]), (.isl 1 [(.int .i64 127)])]), (.bool true)])⟩, ⟨.i64, (48), (49), (.tup [(.agg [(.int .i64 7), (.int .i64 0), (.bool true), (.isl 1 [(.int .i64 127)]), (.isl 1 [(.int .i64 126)])]), (.bool true)])⟩, ⟨.i64, (50), (51), (.tup [(.agg [(.int .i64 7), (.int .i64 1), (.bool true), (.isl 1 [(.int .i64 127)]), (.isl 1 [(.int .i64 126)])]), (.bool true)])⟩, ⟨.i64, (52), (53), (.tup [(.agg [(.int .i64 7), (.int .i64 2), (.bool true), (.isl 1 [(.int .i64 127)]), (.isl 1 [(.int .i64 126)])]), (.bool true)])⟩, ⟨.i64, (54), (54), (.tup [(.agg [(.int .i64 7), (.int .i64 2), (.bool true), (.isl 2 [(.int .i64 127), (.int .i64 127)]), .esl]), (.bool true)])⟩, ⟨.i64, (55), (55), (.tup [(.agg [(.int .i64 7), (.int .i64 3), (.bool true), (.isl 2 [(.int .i64 127), (.int .i64 126)]), .esl]), (.bool true)])⟩, ⟨.i64, (56), (57), ofV0⟩, ⟨.i64, (58), (58), (.tup [(.agg [(.int .i64 7), (.int .i64 0), (.bool true), (.isl 2 [(.int .i64 127), (.int .i64 127)]), .esl]), (.bool true)])⟩, ⟨.i64, (59), (59), (.tup [(.agg [(.int .i64 7), (.int .i64 1), (.bool true), (.isl 2 [(.int .i64 127), (.int .i64 127)]), .esl]), (.bool true)])⟩, ⟨.i64, (60), (60), (.tup [(.agg [(.int .i64 7), (.int .i64 0), (.bool true), (.isl 2 [(.int .i64 127), (.int .i64 126)]), .esl]), (.bool true)])⟩, ⟨.i64, (61), (61), (.tup [(.agg [(.int .i64 7), (.int .i64 1), (.bool true), (.isl 2 [(.int .i64 127), (.int .i64 126)]), .esl]), (.bool true)])⟩, ⟨.i64, (62), (62), (.tup [(.agg [(.int .i64 7), (.int .i64 2), (.bool true), (.isl 2 [(.int .i64 127), (.int .i64 126)]), .esl]), (.bool true)])⟩, ⟨.i64, (63), (63), (.tup [(.agg [(.int .i64 14), (.int .i64 0), (.bool true), .esl, (.isl 1 [(.int .i64 127)])]), (.bool true)])⟩, ⟨.i64, (64), (64), (.tup [(.agg [(.int .i64 14), (.int .i64 0), (.bool true), (.isl 1 [(.int .i64 127)]), (.isl 1 [(.int .i64 127)])]), (.bool true)])⟩, ⟨.i64, (65), (65), (.tup [(.agg [(.int .i64 9), (.int .i64 0), (.bool true), .esl, (.isl 1 [(.int .i64 127)])]), (.bool true)])⟩, ⟨.i64, (66), (66), (.tup [(.agg [(.int .i64 10), (.int .i64 0), (.bool true), .esl, (.isl 1 [(.int .i64 126)])]), (.bool true)])⟩, ⟨.i64, (67), (68), ofV0⟩, ⟨.i64, (69), (69), (.tup [(.agg [(.int .i64 1), (.int .i64 0), (.bool true), (.isl 1 [(.int .i64 127)]), (.isl 1 [(.int .i64 127)])]), (.bool true)])⟩, ⟨.i64, (70), (79), (.tup [(.agg [(.int .i64 1), (.int .i64 0), (.bool true), (.isl 2 [(.int .i64 127), (.int .i64 127)]), (.isl 1 [(.int .i64 127)])]), (.bool true)])⟩, ⟨.i64, (80), (80), (.tup [(.agg [(.int .i64 1), (.int .i64 0), (.bool true), (.isl 1 [(.int .i64 126)]), (.isl 1 [(.int .i64 127)])]), (.bool true)])⟩, ⟨.i64, (81), (90), (.tup [(.agg [(.int .i64 1), (.int .i64 0), (.bool true), (.isl 2 [(.int .i64 126), (.int .i64 126)]), (.isl 1 [(.int .i64 127)])]), (.bool true)])⟩, ⟨.i64, (91), (102), ofV0⟩, ⟨.i64, (103), (105), (.tup [(.agg [(.int .i64 1), (.int .i64 0), (.bool true), (.isl 1 [(.int .i64 127)]), (.isl 1 [(.int .i64 127)])]), (.bool true)])⟩, ⟨.i64, (106), (120), (.tup [(.agg [(.int .i64 1), (.int .i64 0), (.bool true), (.isl 2 [(.int .i64 127), (.int .i64 127)]), (.isl 1 [(.int .i64 127)])]), (.bool true)])⟩, ⟨.i64, (121), (123), (.tup [(.agg [(.int .i64 1), (.int .i64 0), (.bool true), (.isl 1 [(.int .i64 126)]), (.isl 1 [(.int .i64 126)])]), (.bool true)])⟩, ⟨.i64, (124), (138), (.tup [(.agg [(.int .i64 1), (.int .i64 0), (.bool true), (.isl 2 [(.int .i64 126), (.int .i64 126)]), (.isl 1 [(.int .i64 126)])]), (.bool true)])⟩, ⟨.i64, (139), (166), ofV0⟩, ⟨.i64, (167), (167), (.tup [(.agg [(.int .i64 1), (.int .i64 0), (.bool true), (.isl 1 [(.int .i64 126)]), (.isl 1 [(.int .i64 127)])]), (.bool true)])⟩, ⟨.i64, (168), (171), ofV0⟩, ⟨.i64, (172), (173), (.tup [(.agg [(.int .i64 1), (.int .i64 0), (.bool true), (.isl 1 [(.int .i64 127)]), (.isl 1 [(.int .i64 126)])]), (.bool true)])⟩, ⟨.i64, (174), (191), ofV0⟩, ⟨.i64, (192), (193), (.tup [(.agg [(.int .i64 1), (.int .i64 0), (.bool true), (.isl 1 [(.int .i64 127)]), (.isl 1 [(.int .i64 127)])]), (.bool true)])⟩, ⟨.i64, (194), (196), (.tup [(.agg [(.int .i64 1), (.int .i64 0), (.bool true), (.isl 1 [(.int .i64 126)]), (.isl 1 [(.int .i64 126)])]), (.bool true)])⟩, ⟨.i64, (197), (64767), ofV0⟩, ⟨.i64, (64768), (64768), (.tup [(.agg [(.int .i64 7), (.int .i64 4), (.bool true), (.isl 1 [(.int .i64 127)]), (.isl 1 [(.int .i64 123)])]), (.bool true)])⟩, ⟨.i64, (64769), (64774), (.tup [(.agg [(.int .i64 7), (.int .i64 3), (.bool true), (.isl 1 [(.int .i64 127)]), (.isl 1 [(.int .i64 123)])]), (.bool true)])⟩, ⟨.i64, (64775), (64775), (.tup [(.agg [(.int .i64 7), (.int .i64 0), (.bool true), (.isl 1 [(.int .i64 127)]), (.isl 1 [(.int .i64 123)])]), (.bool true)])⟩, ⟨.i64, (64776), (64776), (.tup [(.agg [(.int .i64 7), (.int .i64 1), (.bool true), (.isl 1 [(.int .i64 127)]), (.isl 1 [(.int .i64 123)])]), (.bool true)])⟩, ⟨.i64, (64777), (64777), (.tup [(.agg [(.int .i64 7), (.int .i64 2), (.bool true), (.isl 1 [(.int .i64 127)]), (.isl 1 [(.int .i64 123)])]), (.bool true)])⟩, ⟨.i64, (64778), (64778), (.tup [(.agg [(.int .i64 7), (.int .i64 3), (.bool true), (.isl 1 [(.int .i64 127)]), (.isl 1 [(.int .i64 123)])]), (.bool true)])⟩, ⟨.i64, (64779), (64779), (.tup [(.agg [(.int .i64 7), (.int .i64 4), (.bool true), (.isl 2 [(.int .i64 127), (.int .i64 123)]), .esl]), (.bool true)])⟩, ⟨.i64, (64780), (64780), (.tup [(.agg [(.int .i64 11), (.int .i64 0), (.bool true), .esl, (.isl 1 [(.int .i64 123)])]), (.bool true)])⟩, ⟨.i64, (64781), (64781), (.tup [(.agg [(.int .i64 12), (.int .i64 0), (.bool true), (.isl 2 [(.int .i64 123), (.int .i64 123)]), (.isl 1 [(.int .i64 123)])]), (.bool true)])⟩, ⟨.i64, (64782), (64782), (.tup [(.agg [(.int .i64 1), (.int .i64 0), (.bool true), (.isl 2 [(.int .i64 123), (.int .i64 123)]), (.isl 1 [(.int .i64 123)])]), (.bool true)])⟩, ⟨.i64, (64783), (64785), (.tup [(.agg [(.int .i64 1), (.int .i64 0), (.bool true), (.isl 1 [(.int .i64 127)]), (.isl 1 [(.int .i64 123)])]), (.bool true)])⟩, ⟨.i64, (64786), (64786), (.tup [(.agg [(.int .i64 1), (.int .i64 0), (.bool true), (.isl 1 [(.int .i64 126)]), (.isl 1 [(.int .i64 123)])]), (.bool true)])⟩, ⟨.i64, (64787), (64788), ofV0⟩, ⟨.i64, (64789), (64790), (.tup [(.agg [(.int .i64 13), (.int .i64 16), (.bool true), (.isl 1 [(.int .i64 123)]), (.isl 1 [(.int .i64 127)])]), (.bool true)])⟩, ⟨.i64, (64791), (64791), (.tup [(.agg [(.int .i64 13), (.int .i64 16), (.bool true), (.isl 2 [(.int .i64 123), (.int .i64 127)]), (.isl 1 [(.int .i64 123)])]), (.bool true)])⟩, ⟨.i64, (64792), (64793), (.tup [(.agg [(.int .i64 13), (.int .i64 8), (.bool true), (.isl 1 [(.int .i64 123)]), (.isl 1 [(.int .i64 127)])]), (.bool true)])⟩, ⟨.i64, (64794), (64794), (.tup [(.agg [(.int .i64 13), (.int .i64 8), (.bool true), (.isl 2 [(.int .i64 123), (.int .i64 127)]), (.isl 1 [(.int .i64 123)])]), (.bool true)])⟩, ⟨.i64, (64795), (64795), (.tup [(.agg [(.int .i64 13), (.int .i64 4), (.bool true), (.isl 1 [(.int .i64 123)]), (.isl 1 [(.int .i64 127)])]), (.bool true)])⟩, ⟨.i64, (64796), (64796), (.tup [(.agg [(.int .i64 13), (.int .i64 4), (.bool true), (.isl 2 [(.int .i64 123), (.int .i64 127)]), (.isl 1 [(.int .i64 123)])]), (.bool true)])⟩, ⟨.i64, (64797), (64797), (.tup [(.agg [(.int .i64 13), (.int .i64 2), (.bool true), (.isl 1 [(.int .i64 123)]), (.isl 1 [(.int .i64 126)])]), (.bool true)])⟩, ⟨.i64, (64798), (64798), (.tup [(.agg [(.int .i64 13), (.int .i64 2), (.bool true), (.isl 2 [(.int .i64 123), (.int .i64 126)]), (.isl 1 [(.int .i64 123)])]), (.bool true)])⟩, ⟨.i64, (64799), (64802), ofV0⟩, ⟨.i64, (64803), (64832), (.tup [(.agg [(.int .i64 1), (.int .i64 0), (.bool true), (.isl 2 [(.int .i64 123), (.int .i64 123)]), (.isl 1 [(.int .i64 123)])]), (.bool true)])⟩, ⟨.i64, (64833), (64844), ofV0⟩, ⟨.i64, (64845), (64845), (.tup [(.agg [(.int .i64 1), (.int .i64 0), (.bool true), (.isl 1 [(.int .i64 123)]), (.isl 1 [(.int .i64 123)])]), (.bool true)])⟩, ⟨.i64, (64846), (64849), (.tup [(.agg [(.int .i64 1), (.int .i64 0), (.bool true), (.isl 2 [(.int .i64 123), (.int .i64 123)]), (.isl 1 [(.int .i64 123)])]), (.bool true)])⟩, ⟨.i64, (64850), (64850), (.tup [(.agg [(.int .i64 1), (.int .i64 0), (.bool true), (.isl 3 [(.int .i64 123), (.int .i64 123), (.int .i64 123)]), (.isl 1 [(.int .i64 123)])]), (.bool true)])⟩, ⟨.i64, (64851), (64851), (.tup [(.agg [(.int .i64 1), (.int .i64 0), (.bool true), (.isl 1 [(.int .i64 123)]), (.isl 1 [(.int .i64 127)])]), (.bool true)])⟩, ⟨.i64, (64852), (64852), (.tup [(.agg [(.int .i64 8), (.int .i64 0), (.bool true), (.isl 2 [(.int .i64 127), (.int .i64 123)]), (.isl 1 [(.int .i64 123)])]), (.bool true)])⟩, ⟨.i64, (64853), (64853), (.tup [(.agg [(.int .i64 8), (.int .i64 1), (.bool true), (.isl 2 [(.int .i64 127), (.int .i64 123)]), (.isl 1 [(.int .i64 123)])]), (.bool true)])⟩, ⟨.i64, (64854), (64854), (.tup [(.agg [(.int .i64 8), (.int .i64 2), (.bool true), (.isl 2 [(.int .i64 127), (.int .i64 123)]), (.isl 1 [(.int .i64 123)])]), (.bool true)])⟩, ⟨.i64, (64855), (64855), (.tup [(.agg [(.int .i64 8), (.int .i64 3), (.bool true), (.isl 2 [(.int .i64 127), (.int .i64 123)]), (.isl 1 [(.int .i64 123)])]), (.bool true)])⟩, ⟨.i64, (64856), (64856), (.tup [(.agg [(.int .i64 8), (.int .i64 0), (.bool true), (.isl 2 [(.int .i64 127), (.int .i64 123)]), .esl]), (.bool true)])⟩, ⟨.i64, (64857), (64857), (.tup [(.agg [(.int .i64 8), (.int .i64 1), (.bool true), (.isl 2 [(.int .i64 127), (.int .i64 123)]), .esl]), (.bool true)])⟩, ⟨.i64, (64858), (64858), (.tup [(.agg [(.int .i64 8), (.int .i64 2), (.bool true), (.isl 2 [(.int .i64 127), (.int .i64 123)]), .esl]), (.bool true)])⟩, ⟨.i64, (64859), (64859), (.tup [(.agg [(.int .i64 8), (.int .i64 3), (.bool true), (.isl 2 [(.int .i64 127), (.int .i64 123)]), .esl]), (.bool true)])⟩, ⟨.i64, (64860), (64860), (.tup [(.agg [(.int .i64 7), (.int .i64 2), (.bool true), (.isl 1 [(.int .i64 127)]), (.isl 1 [(.int .i64 123)])]), (.bool true)])⟩, ⟨.i64, (64861), (64861), (.tup [(.agg [(.int .i64 7), (.int .i64 3), (.bool true), (.isl 1 [(.int .i64 127)]), (.isl 1 [(.int .i64 123)])]), (.bool true)])⟩, ⟨.i64, (64862), (64863), ofV0⟩, ⟨.i64, (64864), (64866), (.tup [(.agg [(.int .i64 1), (.int .i64 0), (.bool true), (.isl 1 [(.int .i64 123)]), (.isl 1 [(.int .i64 123)])]), (.bool true)])⟩, ⟨.i64, (64867), (64868), (.tup [(.agg [(.int .i64 1), (.int .i64 0), (.bool true), (.isl 1 [(.int .i64 123)]), (.isl 1 [(.int .i64 127)])]), (.bool true)])⟩, ⟨.i64, (64869), (64870), (.tup [(.agg [(.int .i64 1), (.int .i64 0), (.bool true), (.isl 2 [(.int .i64 123), (.int .i64 123)]), (.isl 1 [(.int .i64 123)])]), (.bool true)])⟩, ⟨.i64, (64871), (64874), ofV0⟩, ⟨.i64, (64875), (64877), (.tup [(.agg [(.int .i64 1), (.int .i64 0), (.bool true), (.isl 2 [(.int .i64 123), (.int .i64 127)]), (.isl 1 [(.int .i64 123)])]), (.bool true)])⟩, ⟨.i64, (64878), (64883), (.tup [(.agg [(.int .i64 1), (.int .i64 0), (.bool true), (.isl 2 [(.int .i64 123), (.int .i64 123)]), (.isl 1 [(.int .i64 123)])]), (.bool true)])⟩, ⟨.i64, (64884), (64885), ofV0⟩, ⟨.i64, (64886), (64889), (.tup [(.agg [(.int .i64 1), (.int .i64 0), (.bool true), (.isl 2 [(.int .i64 123), (.int .i64 123)]), (.isl 1 [(.int .i64 123)])]), (.bool true)])⟩, ⟨.i64, (64890), (64890), ofV0⟩, ⟨.i64, (64891), (64891), (.tup [(.agg [(.int .i64 1), (.int .i64 0), (.bool true), (.isl 2 [(.int .i64 123), (.int .i64 123)]), (.isl 1 [(.int .i64 123)])]), (.bool true)])⟩, ⟨.i64, (64892), (64897), (.tup [(.agg [(.int .i64 1), (.int .i64 0), (.bool true), (.isl 1 [(.int .i64 123)]), (.isl 1 [(.int .i64 123)])]), (.bool true)])⟩, ⟨.i64, (64898), (64898), (.tup [(.agg [(.int .i64 1), (.int .i64 0), (.bool true), (.isl 2 [(.int .i64 123), (.int .i64 123)]), (.isl 1 [(.int .i64 123)])]), (.bool true)])⟩, ⟨.i64, (64899), (64900), (.tup [(.agg [(.int .i64 1), (.int .i64 0), (.bool true), (.isl 1 [(.int .i64 123)]), (.isl 1 [(.int .i64 127)])]), (.bool true)])⟩, ⟨.i64, (64901), (64902), (.tup [(.agg [(.int .i64 1), (.int .i64 0), (.bool true), (.isl 2 [(.int .i64 123), (.int .i64 123)]), (.isl 1 [(.int .i64 123)])]), (.bool true)])⟩, ⟨.i64, (64903), (64906), (.tup [(.agg [(.int .i64 1), (.int .i64 0), (.bool true), (.isl 1 [(.int .i64 123)]), (.isl 1 [(.int .i64 123)])]), (.bool true)])⟩, ⟨.i64, (64907), (64909), (.tup [(.agg [(.int .i64 1), (.int .i64 0), (.bool true), (.isl 2 [(.int .i64 123), (.int .i64 127)]), (.isl 1 [(.int .i64 123)])]), (.bool true)])⟩, ⟨.i64, (64910), (64915), (.tup [(.agg [(.int .i64 1), (.int .i64 0), (.bool true), (.isl 2 [(.int .i64 123), (.int .i64 123)]), (.isl 1 [(.int .i64 123)])]), (.bool true)])⟩, ⟨.i64, (64916), (64916), ofV0⟩, ⟨.i64, (64917), (64921), (.tup [(.agg [(.int .i64 1), (.int .i64 0), (.bool true), (.isl 2 [(.int .i64 123), (.int .i64 123)]), (.isl 1 [(.int .i64 123)])]), (.bool true)])⟩, ⟨.i64, (64922), (64922), ofV0⟩, ⟨.i64, (64923), (64927), (.tup [(.agg [(.int .i64 1), (.int .i64 0), (.bool true), (.isl 2 [(.int .i64 123), (.int .i64 123)]), (.isl 1 [(.int .i64 123)])]), (.bool true)])⟩, ⟨.i64, (64928), (64929), (.tup [(.agg [(.int .i64 1), (.int .i64 0), (.bool true), (.isl 1 [(.int .i64 123)]), (.isl 1 [(.int .i64 123)])]), (.bool true)])⟩, ⟨.i64, (64930), (64930), ofV0⟩, ⟨.i64, (64931), (64932), (.tup [(.agg [(.int .i64 1), (.int .i64 0), (.bool true), (.isl 1 [(.int .i64 123)]), (.isl 1 [(.int .i64 127)])]), (.bool true)])⟩, ⟨.i64, (64933), (64934), ofV0⟩, ⟨.i64, (64935), (64938), (.tup [(.agg [(.int .i64 1), (.int .i64 0), (.bool true), (.isl 1 [(.int .i64 123)]), (.isl 1 [(.int .i64 123)])]), (.bool true)])⟩, ⟨.i64, (64939), (64941), (.tup [(.agg [(.int .i64 1), (.int .i64 0), (.bool true), (.isl 2 [(.int .i64 123), (.int .i64 127)]), (.isl 1 [(.int .i64 123)])]), (.bool true)])⟩, ⟨.i64, (64942), (64942), (.tup [(.agg [(.int .i64 1), (.int .i64 0), (.bool true), (.isl 2 [(.int .i64 123), (.int .i64 123)]), (.isl 1 [(.int .i64 123)])]), (.bool true)])⟩, ⟨.i64, (64943), (64944), ofV0⟩, ⟨.i64, (64945), (64945), (.tup [(.agg [(.int .i64 1), (.int .i64 0), (.bool true), (.isl 2 [(.int .i64 123), (.int .i64 123)]), (.isl 1 [(.int .i64 123)])]), (.bool true)])⟩, ⟨.i64, (64946), (64948), ofV0⟩, ⟨.i64, (64949), (64954), (.tup [(.agg [(.int .i64 1), (.int .i64 0), (.bool true), (.isl 2 [(.int .i64 123), (.int .i64 123)]), (.isl 1 [(.int .i64 123)])]), (.bool true)])⟩, ⟨.i64, (64955), (64955), ofV0⟩, ⟨.i64, (64956), (64959), (.tup [(.agg [(.int .i64 1), (.int .i64 0), (.bool true), (.isl 2 [(.int .i64 123), (.int .i64 123)]), (.isl 1 [(.int .i64 123)])]), (.bool true)])⟩, ⟨.i64, (64960), (64961), (.tup [(.agg [(.int .i64 1), (.int .i64 0), (.bool true), (.isl 1 [(.int .i64 123)]), (.isl 1 [(.int .i64 123)])]), (.bool true)])⟩, ⟨.i64, (64962), (64962), ofV0⟩, ⟨.i64, (64963), (64964), (.tup [(.agg [(.int .i64 1), (.int .i64 0), (.bool true), (.isl 1 [(.int .i64 123)]), (.isl 1 [(.int .i64 127)])]), (.bool true)])⟩, ⟨.i64, (64965), (64966), ofV0⟩, ⟨.i64, (64967), (64970), (.tup [(.agg [(.int .i64 1), (.int .i64 0), (.bool true), (.isl 1 [(.int .i64 123)]), (.isl 1 [(.int .i64 123)])]), (.bool true)])⟩, ⟨.i64, (64971), (64973), (.tup [(.agg [(.int .i64 1), (.int .i64 0), (.bool true), (.isl 2 [(.int .i64 123), (.int .i64 127)]), (.isl 1 [(.int .i64 123)])]), (.bool true)])⟩, ⟨.i64, (64974), (64974), (.tup [(.agg [(.int .i64 1), (.int .i64 0), (.bool true), (.isl 2 [(.int .i64 123), (.int .i64 123)]), (.isl 1 [(.int .i64 123)])]), (.bool true)])⟩, ⟨.i64, (64975), (64976), ofV0⟩, ⟨.i64, (64977), (64977), (.tup [(.agg [(.int .i64 1), (.int .i64 0), (.bool true), (.isl 2 [(.int .i64 123), (.int .i64 123)]), (.isl 1 [(.int .i64 123)])]), (.bool true)])⟩, ⟨.i64, (64978), (64980), ofV0⟩, ⟨.i64, (64981), (64991), (.tup [(.agg [(.int .i64 1), (.int .i64 0), (.bool true), (.isl 2 [(.int .i64 123), (.int .i64 123)]), (.isl 1 [(.int .i64 123)])]), (.bool true)])⟩, ⟨.i64, (64992), (9223372036854775807), ofV0⟩]
theorem Try.rows28_ok : KR Try.prog 28 Try.rows28 := .cons Try.k28_0 <| .cons Try.k28_1 <| .cons Try.k28_2 <| .cons Try.k28_3 <| .cons Try.k28_4 <| .cons Try.k28_5 <| .cons Try.k28_6 <| .cons Try.k28_7 <| .cons Try.k28_8 <| .cons Try.k28_9 <| .cons Try.k28_10 <| .cons Try.k28_11 <| .cons Try.k28_12 <| .cons Try.k28_13 <| .cons Try.k28_14 <| .cons Try.k28_15 <| .cons Try.k28_16 <| .cons Try.k28_17 <| .cons Try.k28_18 <| .cons Try.k28_19 <| .cons Try.k28_20 <| .cons Try.k28_21 <| .cons Try.k28_22 <| .cons Try.k28_23 <| .cons Try.k28_24 <| .cons Try.k28_25 <| .cons Try.k28_26 <| .cons Try.k28_27 <| .cons Try.k28_28 <| .cons Try.k28_29 <| .cons Try.k28_30 <| .cons Try.k28_31 <| .cons Try.k28_32 <| .cons Try.k28_33 <| .cons Try.k28_34 <| .cons Try.k28_35 <| .cons Try.k28_36 <| .cons Try.k28_37 <| .cons Try.k28_38 <| .cons Try.k28_39 <| .cons Try.k28_40 <| .cons Try.k28_41 <| .cons Try.k28_42 <| .cons Try.k28_43 <| .cons Try.k28_44 <| .cons Try.k28_45 <| .cons Try.k28_46 <| .cons Try.k28_47 <| .cons Try.k28_48 <| .cons Try.k28_49 <| .cons Try.k28_50 <| .cons Try.k28_51 <| .cons Try.k28_52 <| .cons Try.k28_53 <| .cons Try.k28_54 <| .cons Try.k28_55 <| .cons Try.k28_56 <| .cons Try.k28_57 <| .cons Try.k28_58 <| .cons Try.k28_59 <| .cons Try.k28_60 <| .cons Try.k28_61 <| .cons Try.k28_62 <| .cons Try.k28_63 <| .cons Try.k28_64 <| .cons Try.k28_65 <| .cons Try.k28_66 <| .cons Try.k28_67 <| .cons Try.k28_68 <| .cons Try.k28_69 <| .cons Try.k28_70 <| .cons Try.k28_71 <| .cons Try.k28_72 <| .cons Try.k28_73 <| .cons Try.k28_74 <| .cons Try.k28_75 <| .cons Try.k28_76 <| .cons Try.k28_77 <| .cons Try.k28_78 <| .cons Try.k28_79 <| .cons Try.k28_80 <| .cons Try.k28_81 <| .cons Try.k28_82 <| .cons Try.k28_83 <| .cons Try.k28_84 <| .cons Try.k28_85 <| .cons Try.k28_86 <| .cons Try.k28_87 <| .cons Try.k28_88 <| .cons Try.k28_89 <| .cons Try.k28_90 <| .cons Try.k28_91 <| .cons Try.k28_92 <| .cons Try.k28_93 <| .cons Try.k28_94 <| .cons Try.k28_95 <| .cons Try.k28_96 <| .cons Try.k28_97 <| .cons Try.k28_98 <| .cons Try.k28_99 <| .cons Try.k28_100 <| .cons Try.k28_101 <| .cons Try.k28_102 <| .cons Try.k28_103 <| .cons Try.k28_104 <| .cons Try.k28_105 <| .cons Try.k28_106 <| .cons Try.k28_107 <| .cons Try.k28_108 <| .cons Try.k28_109 <| .cons Try.k28_110 <| .cons Try.k28_111 <| .cons Try.k28_112 <| .cons Try.k28_113 <| .cons Try.k28_114 <| .cons Try.k28_115 <| .cons Try.k28_116 <| .cons Try.k28_117 <| .cons Try.k28_118 <| .cons Try.k28_119 <| .cons Try.k28_120 <| .cons Try.k28_121 <| .cons Try.k28_122 <| .cons Try.k28_123 <| .cons Try.k28_124 <| .cons Try.k28_125 <| .cons Try.k28_126 <| .cons Try.k28_127 <| .cons Try.k28_128 <| .cons Try.k28_129 <| .cons Try.k28_130 <| .cons Try.k28_131 <| .cons Try.k28_132 <| .cons Try.k28_133 <| .cons Try.k28_134 <| .cons Try.k28_135 <| .cons Try.k28_136 <| .cons Try.k28_137 <| .cons Try.k28_138 <| .cons Try.k28_139 <| .nil
end Go.Proofs
