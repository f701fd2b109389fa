import Derived.Test.YtmicbanhfcibjaaGreatDoorInA
import Derived.Test.YtmicbanhfcibjaaGreatDoorInR0
import Derived.Test.YtmicbanhfcibjaaGreatDoorInR1
import Derived.Test.YtmicbanhfcibjaaGreatDoorInR2
import Derived.Test.YtmicbanhfcibjaaGreatDoorInR3
namespace Go.Proofs
open Go.Ab
set_option maxRecDepth 1000000
theorem Tryz.kc {x y q z : Int} {f : FuncId} {args : List AV} {v : AV} {l : List Kn} (h : @KnownF (Tryz.io x y q z) Tryz.prog f args v) (t : @KT (Tryz.io x y q z) Tryz.prog l) : @KT (Tryz.io x y q z) Tryz.prog (⟨f, args, v⟩ :: l) :=
  @KT.cons (Tryz.io x y q z) _ _ _ _ _ h t
theorem Tryz.fk {x y q z : Int} {T : List (Nat × List Value)} {f : FuncId} {vs : List Value} {r : Value} (h : FnR Tryz.prog T f vs r) {args : List AV} {v : AV} (ha : ∀ g w us, @VRs (Tryz.io x y q z) g w args us → us = vs)
    (hv : ∀ g w, @VR (Tryz.io x y q z) g w v r) (ht : ∀ p, p ∈ T → p ∈ Tryz.T) : @KnownF (Tryz.io x y q z) Tryz.prog f args v := @FnR.known (Tryz.io x y q z) _ _ _ _ _ h _ _ ha hv ht
theorem Tryz.l45 : Tryz.LawC 0 := by
  intro x y q w hx hx2 hy hy2 hq hq2 ht
  have z : Int := 0
  rcases (by omega : x % 4294967296 = 0 ∨ 1 ≤ x % 4294967296) with h | h
  · exact Tryz.law (x := x) (y := y) (z := z) (l := Tryz.w45z1) (Tryz.kc (Tryz.fk (Tryz.u45z ⟨hx, hx2⟩ h) (@Tryz.args2 (Tryz.io x y q z) _ _ _ _ (@Tryz.num_int (Tryz.io x y q z) _ _) (@Tryz.num_of (Tryz.io x y q z) _ _ _ _ _ _ (@Tryz.B_ok (Tryz.io x y q z) 1 hx hx2))) (fun g w => @Tryz.res2i (Tryz.io x y q z) _ _ _ g w) (fun _ hp => by cases hp)) (Tryz.kc (Tryz.fk (Tryz.u45z (x := x % 4294967296) (by omega) (by omega)) (@Tryz.args2 (Tryz.io x y q z) _ _ _ _ (@Tryz.num_int (Tryz.io x y q z) _ _) (@Tryz.num_of (Tryz.io x y q z) _ _ _ _ _ _ (@Tryz.XL_ok (Tryz.io x y q z) 1 hx hx2))) (fun g w => @Tryz.res2i (Tryz.io x y q z) _ _ _ g w) (fun _ hp => by cases hp)) (Tryz.kc (@Tryz.kof45 (Tryz.io x y q z)) (@Tryz.kr0 (Tryz.io x y q z))))) (by decide) Tryz.w45z1A Tryz.w45z1N hx hx2 hy hy2 hq hq2 ht
  · exact Tryz.law (x := x) (y := y) (z := z) (l := Tryz.w45z0) (Tryz.kc (Tryz.fk (Tryz.u45n ⟨hx, hx2⟩ h) (@Tryz.args2 (Tryz.io x y q z) _ _ _ _ (@Tryz.num_int (Tryz.io x y q z) _ _) (@Tryz.num_of (Tryz.io x y q z) _ _ _ _ _ _ (@Tryz.B_ok (Tryz.io x y q z) 1 hx hx2))) (fun g w => @Tryz.res2i (Tryz.io x y q z) _ _ _ g w) (fun _ hp => by cases hp)) (Tryz.kc (Tryz.fk (Tryz.u45n (x := x % 4294967296) (by omega) (by omega)) (@Tryz.args2 (Tryz.io x y q z) _ _ _ _ (@Tryz.num_int (Tryz.io x y q z) _ _) (@Tryz.num_of (Tryz.io x y q z) _ _ _ _ _ _ (@Tryz.XL_ok (Tryz.io x y q z) 1 hx hx2))) (fun g w => @Tryz.res2i (Tryz.io x y q z) _ _ _ g w) (fun _ hp => by cases hp)) (Tryz.kc (@Tryz.kof45 (Tryz.io x y q z)) (@Tryz.kr0 (Tryz.io x y q z))))) (by decide) Tryz.w45z0A Tryz.w45z0N hx hx2 hy hy2 hq hq2 ht
theorem Tryz.l46 : Tryz.LawC 1 := by
  intro x y q w hx hx2 hy hy2 hq hq2 ht
  have a := wrapF_in .i32 (x % 4294967296)
  have b := wrapF_in .i32 (y % 4294967296)
  simp only [loK, hiK] at a b
  obtain ⟨z, h1, h2, hz⟩ := Tryz.cm0 (x := wrapF .i32 (x % 4294967296)) (y := wrapF .i32 (y % 4294967296)) (by omega) (by omega)
  exact Tryz.law (x := x) (y := y) (z := z) (l := Tryz.w46z) (Tryz.kc (Tryz.fk hz (@Tryz.args3 (Tryz.io x y q z) _ _ _ _ _ _ (@Tryz.num_int (Tryz.io x y q z) _ _) (@Tryz.num_of (Tryz.io x y q z) _ _ _ _ _ _ (@Tryz.XI_ok (Tryz.io x y q z) 1 hx hx2)) (@Tryz.num_of (Tryz.io x y q z) _ _ _ _ _ _ (@Tryz.XI_ok (Tryz.io x y q z) 2 hy hy2))) (fun g w => @Tryz.res1 (Tryz.io x y q z) _ z _ _ rfl h1 h2 g w) (fun _ hp => by cases hp)) (Tryz.kc (@Tryz.kof46 (Tryz.io x y q z)) (@Tryz.kr0 (Tryz.io x y q z)))) (by decide) Tryz.w46zA Tryz.w46zN hx hx2 hy hy2 hq hq2 ht
theorem Tryz.l47 : Tryz.LawC 2 := by
  intro x y q w hx hx2 hy hy2 hq hq2 ht
  have a := wrapF_in .i32 (x % 4294967296)
  have b := wrapF_in .i32 (y % 4294967296)
  simp only [loK, hiK] at a b
  obtain ⟨z, h1, h2, hz⟩ := Tryz.cm1 (x := wrapF .i32 (x % 4294967296)) (y := wrapF .i32 (y % 4294967296)) (by omega) (by omega)
  exact Tryz.law (x := x) (y := y) (z := z) (l := Tryz.w47z) (Tryz.kc (Tryz.fk hz (@Tryz.args3 (Tryz.io x y q z) _ _ _ _ _ _ (@Tryz.num_int (Tryz.io x y q z) _ _) (@Tryz.num_of (Tryz.io x y q z) _ _ _ _ _ _ (@Tryz.XI_ok (Tryz.io x y q z) 1 hx hx2)) (@Tryz.num_of (Tryz.io x y q z) _ _ _ _ _ _ (@Tryz.XI_ok (Tryz.io x y q z) 2 hy hy2))) (fun g w => @Tryz.res1 (Tryz.io x y q z) _ z _ _ rfl h1 h2 g w) (fun _ hp => by cases hp)) (Tryz.kc (@Tryz.kof47 (Tryz.io x y q z)) (@Tryz.kr0 (Tryz.io x y q z)))) (by decide) Tryz.w47zA Tryz.w47zN hx hx2 hy hy2 hq hq2 ht
theorem Tryz.l48 : Tryz.LawC 3 := by
  intro x y q w hx hx2 hy hy2 hq hq2 ht
  have a := wrapF_in .i32 (x % 4294967296)
  have b := wrapF_in .i32 (y % 4294967296)
  simp only [loK, hiK] at a b
  obtain ⟨z, h1, h2, hz⟩ := Tryz.cm2 (x := wrapF .i32 (x % 4294967296)) (y := wrapF .i32 (y % 4294967296)) (by omega) (by omega)
  exact Tryz.law (x := x) (y := y) (z := z) (l := Tryz.w48z) (Tryz.kc (Tryz.fk hz (@Tryz.args3 (Tryz.io x y q z) _ _ _ _ _ _ (@Tryz.num_int (Tryz.io x y q z) _ _) (@Tryz.num_of (Tryz.io x y q z) _ _ _ _ _ _ (@Tryz.XI_ok (Tryz.io x y q z) 1 hx hx2)) (@Tryz.num_of (Tryz.io x y q z) _ _ _ _ _ _ (@Tryz.XI_ok (Tryz.io x y q z) 2 hy hy2))) (fun g w => @Tryz.res1 (Tryz.io x y q z) _ z _ _ rfl h1 h2 g w) (fun _ hp => by cases hp)) (Tryz.kc (@Tryz.kof48 (Tryz.io x y q z)) (@Tryz.kr0 (Tryz.io x y q z)))) (by decide) Tryz.w48zA Tryz.w48zN hx hx2 hy hy2 hq hq2 ht
theorem Tryz.l49 : Tryz.LawC 4 := by
  intro x y q w hx hx2 hy hy2 hq hq2 ht
  have a := wrapF_in .i32 (x % 4294967296)
  have b := wrapF_in .i32 (y % 4294967296)
  simp only [loK, hiK] at a b
  obtain ⟨z, h1, h2, hz⟩ := Tryz.cm3 (x := wrapF .i32 (x % 4294967296)) (y := wrapF .i32 (y % 4294967296)) (by omega) (by omega)
  exact Tryz.law (x := x) (y := y) (z := z) (l := Tryz.w49z) (Tryz.kc (Tryz.fk hz (@Tryz.args3 (Tryz.io x y q z) _ _ _ _ _ _ (@Tryz.num_int (Tryz.io x y q z) _ _) (@Tryz.num_of (Tryz.io x y q z) _ _ _ _ _ _ (@Tryz.XI_ok (Tryz.io x y q z) 1 hx hx2)) (@Tryz.num_of (Tryz.io x y q z) _ _ _ _ _ _ (@Tryz.XI_ok (Tryz.io x y q z) 2 hy hy2))) (fun g w => @Tryz.res1 (Tryz.io x y q z) _ z _ _ rfl h1 h2 g w) (fun _ hp => by cases hp)) (Tryz.kc (@Tryz.kof49 (Tryz.io x y q z)) (@Tryz.kr0 (Tryz.io x y q z)))) (by decide) Tryz.w49zA Tryz.w49zN hx hx2 hy hy2 hq hq2 ht
theorem Tryz.l4a : Tryz.LawC 5 := by
  intro x y q w hx hx2 hy hy2 hq hq2 ht
  have a := wrapF_in .i32 (x % 4294967296)
  have b := wrapF_in .i32 (y % 4294967296)
  simp only [loK, hiK] at a b
  obtain ⟨z, h1, h2, hz⟩ := Tryz.cm4 (x := wrapF .i32 (x % 4294967296)) (y := wrapF .i32 (y % 4294967296)) (by omega) (by omega)
  exact Tryz.law (x := x) (y := y) (z := z) (l := Tryz.w4az) (Tryz.kc (Tryz.fk hz (@Tryz.args3 (Tryz.io x y q z) _ _ _ _ _ _ (@Tryz.num_int (Tryz.io x y q z) _ _) (@Tryz.num_of (Tryz.io x y q z) _ _ _ _ _ _ (@Tryz.XI_ok (Tryz.io x y q z) 1 hx hx2)) (@Tryz.num_of (Tryz.io x y q z) _ _ _ _ _ _ (@Tryz.XI_ok (Tryz.io x y q z) 2 hy hy2))) (fun g w => @Tryz.res1 (Tryz.io x y q z) _ z _ _ rfl h1 h2 g w) (fun _ hp => by cases hp)) (Tryz.kc (@Tryz.kof4a (Tryz.io x y q z)) (@Tryz.kr0 (Tryz.io x y q z)))) (by decide) Tryz.w4azA Tryz.w4azN hx hx2 hy hy2 hq hq2 ht
theorem Tryz.l4b : Tryz.LawC 6 := by
  intro x y q w hx hx2 hy hy2 hq hq2 ht
  have a := wrapF_in .i32 (x % 4294967296)
  have b := wrapF_in .i32 (y % 4294967296)
  simp only [loK, hiK] at a b
  obtain ⟨z, h1, h2, hz⟩ := Tryz.cm5 (x := wrapF .i32 (x % 4294967296)) (y := wrapF .i32 (y % 4294967296)) (by omega) (by omega)
  exact Tryz.law (x := x) (y := y) (z := z) (l := Tryz.w4bz) (Tryz.kc (Tryz.fk hz (@Tryz.args3 (Tryz.io x y q z) _ _ _ _ _ _ (@Tryz.num_int (Tryz.io x y q z) _ _) (@Tryz.num_of (Tryz.io x y q z) _ _ _ _ _ _ (@Tryz.XI_ok (Tryz.io x y q z) 1 hx hx2)) (@Tryz.num_of (Tryz.io x y q z) _ _ _ _ _ _ (@Tryz.XI_ok (Tryz.io x y q z) 2 hy hy2))) (fun g w => @Tryz.res1 (Tryz.io x y q z) _ z _ _ rfl h1 h2 g w) (fun _ hp => by cases hp)) (Tryz.kc (@Tryz.kof4b (Tryz.io x y q z)) (@Tryz.kr0 (Tryz.io x y q z)))) (by decide) Tryz.w4bzA Tryz.w4bzN hx hx2 hy hy2 hq hq2 ht
theorem Tryz.l4c : Tryz.LawC 7 := by
  intro x y q w hx hx2 hy hy2 hq hq2 ht
  have a := wrapF_in .i32 (x % 4294967296)
  have b := wrapF_in .i32 (y % 4294967296)
  simp only [loK, hiK] at a b
  obtain ⟨z, h1, h2, hz⟩ := Tryz.cm6 (x := wrapF .i32 (x % 4294967296)) (y := wrapF .i32 (y % 4294967296)) (by omega) (by omega)
  exact Tryz.law (x := x) (y := y) (z := z) (l := Tryz.w4cz) (Tryz.kc (Tryz.fk hz (@Tryz.args3 (Tryz.io x y q z) _ _ _ _ _ _ (@Tryz.num_int (Tryz.io x y q z) _ _) (@Tryz.num_of (Tryz.io x y q z) _ _ _ _ _ _ (@Tryz.XI_ok (Tryz.io x y q z) 1 hx hx2)) (@Tryz.num_of (Tryz.io x y q z) _ _ _ _ _ _ (@Tryz.XI_ok (Tryz.io x y q z) 2 hy hy2))) (fun g w => @Tryz.res1 (Tryz.io x y q z) _ z _ _ rfl h1 h2 g w) (fun _ hp => by cases hp)) (Tryz.kc (@Tryz.kof4c (Tryz.io x y q z)) (@Tryz.kr0 (Tryz.io x y q z)))) (by decide) Tryz.w4czA Tryz.w4czN hx hx2 hy hy2 hq hq2 ht
theorem Tryz.l4d : Tryz.LawC 8 := by
  intro x y q w hx hx2 hy hy2 hq hq2 ht
  have a := wrapF_in .i32 (x % 4294967296)
  have b := wrapF_in .i32 (y % 4294967296)
  simp only [loK, hiK] at a b
  obtain ⟨z, h1, h2, hz⟩ := Tryz.cm7 (x := wrapF .i32 (x % 4294967296)) (y := wrapF .i32 (y % 4294967296)) (by omega) (by omega)
  exact Tryz.law (x := x) (y := y) (z := z) (l := Tryz.w4dz) (Tryz.kc (Tryz.fk hz (@Tryz.args3 (Tryz.io x y q z) _ _ _ _ _ _ (@Tryz.num_int (Tryz.io x y q z) _ _) (@Tryz.num_of (Tryz.io x y q z) _ _ _ _ _ _ (@Tryz.XI_ok (Tryz.io x y q z) 1 hx hx2)) (@Tryz.num_of (Tryz.io x y q z) _ _ _ _ _ _ (@Tryz.XI_ok (Tryz.io x y q z) 2 hy hy2))) (fun g w => @Tryz.res1 (Tryz.io x y q z) _ z _ _ rfl h1 h2 g w) (fun _ hp => by cases hp)) (Tryz.kc (@Tryz.kof4d (Tryz.io x y q z)) (@Tryz.kr0 (Tryz.io x y q z)))) (by decide) Tryz.w4dzA Tryz.w4dzN hx hx2 hy hy2 hq hq2 ht
theorem Tryz.l4e : Tryz.LawC 9 := by
  intro x y q w hx hx2 hy hy2 hq hq2 ht
  have a := wrapF_in .i32 (x % 4294967296)
  have b := wrapF_in .i32 (y % 4294967296)
  simp only [loK, hiK] at a b
  obtain ⟨z, h1, h2, hz⟩ := Tryz.cm8 (x := wrapF .i32 (x % 4294967296)) (y := wrapF .i32 (y % 4294967296)) (by omega) (by omega)
  exact Tryz.law (x := x) (y := y) (z := z) (l := Tryz.w4ez) (Tryz.kc (Tryz.fk hz (@Tryz.args3 (Tryz.io x y q z) _ _ _ _ _ _ (@Tryz.num_int (Tryz.io x y q z) _ _) (@Tryz.num_of (Tryz.io x y q z) _ _ _ _ _ _ (@Tryz.XI_ok (Tryz.io x y q z) 1 hx hx2)) (@Tryz.num_of (Tryz.io x y q z) _ _ _ _ _ _ (@Tryz.XI_ok (Tryz.io x y q z) 2 hy hy2))) (fun g w => @Tryz.res1 (Tryz.io x y q z) _ z _ _ rfl h1 h2 g w) (fun _ hp => by cases hp)) (Tryz.kc (@Tryz.kof4e (Tryz.io x y q z)) (@Tryz.kr0 (Tryz.io x y q z)))) (by decide) Tryz.w4ezA Tryz.w4ezN hx hx2 hy hy2 hq hq2 ht
theorem Tryz.l4f : Tryz.LawC 10 := by
  intro x y q w hx hx2 hy hy2 hq hq2 ht
  have a := wrapF_in .i32 (x % 4294967296)
  have b := wrapF_in .i32 (y % 4294967296)
  simp only [loK, hiK] at a b
  obtain ⟨z, h1, h2, hz⟩ := Tryz.cm9 (x := wrapF .i32 (x % 4294967296)) (y := wrapF .i32 (y % 4294967296)) (by omega) (by omega)
  exact Tryz.law (x := x) (y := y) (z := z) (l := Tryz.w4fz) (Tryz.kc (Tryz.fk hz (@Tryz.args3 (Tryz.io x y q z) _ _ _ _ _ _ (@Tryz.num_int (Tryz.io x y q z) _ _) (@Tryz.num_of (Tryz.io x y q z) _ _ _ _ _ _ (@Tryz.XI_ok (Tryz.io x y q z) 1 hx hx2)) (@Tryz.num_of (Tryz.io x y q z) _ _ _ _ _ _ (@Tryz.XI_ok (Tryz.io x y q z) 2 hy hy2))) (fun g w => @Tryz.res1 (Tryz.io x y q z) _ z _ _ rfl h1 h2 g w) (fun _ hp => by cases hp)) (Tryz.kc (@Tryz.kof4f (Tryz.io x y q z)) (@Tryz.kr0 (Tryz.io x y q z)))) (by decide) Tryz.w4fzA Tryz.w4fzN hx hx2 hy hy2 hq hq2 ht
theorem Tryz.l50 : Tryz.LawC 11 := by
  intro x y q w hx hx2 hy hy2 hq hq2 ht
  obtain ⟨z, h1, h2, hz⟩ := Tryz.u50 ⟨hx, hx2⟩
  exact Tryz.law (x := x) (y := y) (z := z) (l := Tryz.w50z) (Tryz.kc (Tryz.fk hz (@Tryz.args2 (Tryz.io x y q z) _ _ _ _ (@Tryz.num_int (Tryz.io x y q z) _ _) (@Tryz.num_of (Tryz.io x y q z) _ _ _ _ _ _ (@Tryz.B_ok (Tryz.io x y q z) 1 hx hx2))) (fun g w => @Tryz.res2 (Tryz.io x y q z) _ z _ _ _ rfl h1 h2 g w) (fun _ hp => by cases hp)) (Tryz.kc (@Tryz.kof50 (Tryz.io x y q z)) (@Tryz.kr0 (Tryz.io x y q z)))) (by decide) Tryz.w50zA Tryz.w50zN hx hx2 hy hy2 hq hq2 ht
theorem Tryz.l51 : Tryz.LawC 12 := by
  intro x y q w hx hx2 hy hy2 hq hq2 ht
  have a := wrapF_in .i64 x
  have b := wrapF_in .i64 y
  simp only [loK, hiK] at a b
  obtain ⟨z, h1, h2, hz⟩ := Tryz.cm0 (x := wrapF .i64 x) (y := wrapF .i64 y) (by omega) (by omega)
  exact Tryz.law (x := x) (y := y) (z := z) (l := Tryz.w51z) (Tryz.kc (Tryz.fk hz (@Tryz.args3 (Tryz.io x y q z) _ _ _ _ _ _ (@Tryz.num_int (Tryz.io x y q z) _ _) (@Tryz.num_of (Tryz.io x y q z) _ _ _ _ _ _ (@Tryz.XW_ok (Tryz.io x y q z) 1 hx hx2)) (@Tryz.num_of (Tryz.io x y q z) _ _ _ _ _ _ (@Tryz.XW_ok (Tryz.io x y q z) 2 hy hy2))) (fun g w => @Tryz.res1 (Tryz.io x y q z) _ z _ _ rfl h1 h2 g w) (fun _ hp => by cases hp)) (Tryz.kc (@Tryz.kof51 (Tryz.io x y q z)) (@Tryz.kr0 (Tryz.io x y q z)))) (by decide) Tryz.w51zA Tryz.w51zN hx hx2 hy hy2 hq hq2 ht
theorem Tryz.l52 : Tryz.LawC 13 := by
  intro x y q w hx hx2 hy hy2 hq hq2 ht
  have a := wrapF_in .i64 x
  have b := wrapF_in .i64 y
  simp only [loK, hiK] at a b
  obtain ⟨z, h1, h2, hz⟩ := Tryz.cm1 (x := wrapF .i64 x) (y := wrapF .i64 y) (by omega) (by omega)
  exact Tryz.law (x := x) (y := y) (z := z) (l := Tryz.w52z) (Tryz.kc (Tryz.fk hz (@Tryz.args3 (Tryz.io x y q z) _ _ _ _ _ _ (@Tryz.num_int (Tryz.io x y q z) _ _) (@Tryz.num_of (Tryz.io x y q z) _ _ _ _ _ _ (@Tryz.XW_ok (Tryz.io x y q z) 1 hx hx2)) (@Tryz.num_of (Tryz.io x y q z) _ _ _ _ _ _ (@Tryz.XW_ok (Tryz.io x y q z) 2 hy hy2))) (fun g w => @Tryz.res1 (Tryz.io x y q z) _ z _ _ rfl h1 h2 g w) (fun _ hp => by cases hp)) (Tryz.kc (@Tryz.kof52 (Tryz.io x y q z)) (@Tryz.kr0 (Tryz.io x y q z)))) (by decide) Tryz.w52zA Tryz.w52zN hx hx2 hy hy2 hq hq2 ht
theorem Tryz.l53 : Tryz.LawC 14 := by
  intro x y q w hx hx2 hy hy2 hq hq2 ht
  have a := wrapF_in .i64 x
  have b := wrapF_in .i64 y
  simp only [loK, hiK] at a b
  obtain ⟨z, h1, h2, hz⟩ := Tryz.cm2 (x := wrapF .i64 x) (y := wrapF .i64 y) (by omega) (by omega)
  exact Tryz.law (x := x) (y := y) (z := z) (l := Tryz.w53z) (Tryz.kc (Tryz.fk hz (@Tryz.args3 (Tryz.io x y q z) _ _ _ _ _ _ (@Tryz.num_int (Tryz.io x y q z) _ _) (@Tryz.num_of (Tryz.io x y q z) _ _ _ _ _ _ (@Tryz.XW_ok (Tryz.io x y q z) 1 hx hx2)) (@Tryz.num_of (Tryz.io x y q z) _ _ _ _ _ _ (@Tryz.XW_ok (Tryz.io x y q z) 2 hy hy2))) (fun g w => @Tryz.res1 (Tryz.io x y q z) _ z _ _ rfl h1 h2 g w) (fun _ hp => by cases hp)) (Tryz.kc (@Tryz.kof53 (Tryz.io x y q z)) (@Tryz.kr0 (Tryz.io x y q z)))) (by decide) Tryz.w53zA Tryz.w53zN hx hx2 hy hy2 hq hq2 ht
theorem Tryz.l54 : Tryz.LawC 15 := by
  intro x y q w hx hx2 hy hy2 hq hq2 ht
  have a := wrapF_in .i64 x
  have b := wrapF_in .i64 y
  simp only [loK, hiK] at a b
  obtain ⟨z, h1, h2, hz⟩ := Tryz.cm3 (x := wrapF .i64 x) (y := wrapF .i64 y) (by omega) (by omega)
  exact Tryz.law (x := x) (y := y) (z := z) (l := Tryz.w54z) (Tryz.kc (Tryz.fk hz (@Tryz.args3 (Tryz.io x y q z) _ _ _ _ _ _ (@Tryz.num_int (Tryz.io x y q z) _ _) (@Tryz.num_of (Tryz.io x y q z) _ _ _ _ _ _ (@Tryz.XW_ok (Tryz.io x y q z) 1 hx hx2)) (@Tryz.num_of (Tryz.io x y q z) _ _ _ _ _ _ (@Tryz.XW_ok (Tryz.io x y q z) 2 hy hy2))) (fun g w => @Tryz.res1 (Tryz.io x y q z) _ z _ _ rfl h1 h2 g w) (fun _ hp => by cases hp)) (Tryz.kc (@Tryz.kof54 (Tryz.io x y q z)) (@Tryz.kr0 (Tryz.io x y q z)))) (by decide) Tryz.w54zA Tryz.w54zN hx hx2 hy hy2 hq hq2 ht
theorem Tryz.l55 : Tryz.LawC 16 := by
  intro x y q w hx hx2 hy hy2 hq hq2 ht
  have a := wrapF_in .i64 x
  have b := wrapF_in .i64 y
  simp only [loK, hiK] at a b
  obtain ⟨z, h1, h2, hz⟩ := Tryz.cm4 (x := wrapF .i64 x) (y := wrapF .i64 y) (by omega) (by omega)
  exact Tryz.law (x := x) (y := y) (z := z) (l := Tryz.w55z) (Tryz.kc (Tryz.fk hz (@Tryz.args3 (Tryz.io x y q z) _ _ _ _ _ _ (@Tryz.num_int (Tryz.io x y q z) _ _) (@Tryz.num_of (Tryz.io x y q z) _ _ _ _ _ _ (@Tryz.XW_ok (Tryz.io x y q z) 1 hx hx2)) (@Tryz.num_of (Tryz.io x y q z) _ _ _ _ _ _ (@Tryz.XW_ok (Tryz.io x y q z) 2 hy hy2))) (fun g w => @Tryz.res1 (Tryz.io x y q z) _ z _ _ rfl h1 h2 g w) (fun _ hp => by cases hp)) (Tryz.kc (@Tryz.kof55 (Tryz.io x y q z)) (@Tryz.kr0 (Tryz.io x y q z)))) (by decide) Tryz.w55zA Tryz.w55zN hx hx2 hy hy2 hq hq2 ht
theorem Tryz.l56 : Tryz.LawC 17 := by
  intro x y q w hx hx2 hy hy2 hq hq2 ht
  have a := wrapF_in .i64 x
  have b := wrapF_in .i64 y
  simp only [loK, hiK] at a b
  obtain ⟨z, h1, h2, hz⟩ := Tryz.cm5 (x := wrapF .i64 x) (y := wrapF .i64 y) (by omega) (by omega)
  exact Tryz.law (x := x) (y := y) (z := z) (l := Tryz.w56z) (Tryz.kc (Tryz.fk hz (@Tryz.args3 (Tryz.io x y q z) _ _ _ _ _ _ (@Tryz.num_int (Tryz.io x y q z) _ _) (@Tryz.num_of (Tryz.io x y q z) _ _ _ _ _ _ (@Tryz.XW_ok (Tryz.io x y q z) 1 hx hx2)) (@Tryz.num_of (Tryz.io x y q z) _ _ _ _ _ _ (@Tryz.XW_ok (Tryz.io x y q z) 2 hy hy2))) (fun g w => @Tryz.res1 (Tryz.io x y q z) _ z _ _ rfl h1 h2 g w) (fun _ hp => by cases hp)) (Tryz.kc (@Tryz.kof56 (Tryz.io x y q z)) (@Tryz.kr0 (Tryz.io x y q z)))) (by decide) Tryz.w56zA Tryz.w56zN hx hx2 hy hy2 hq hq2 ht
theorem Tryz.l57 : Tryz.LawC 18 := by
  intro x y q w hx hx2 hy hy2 hq hq2 ht
  have a := wrapF_in .i64 x
  have b := wrapF_in .i64 y
  simp only [loK, hiK] at a b
  obtain ⟨z, h1, h2, hz⟩ := Tryz.cm6 (x := wrapF .i64 x) (y := wrapF .i64 y) (by omega) (by omega)
  exact Tryz.law (x := x) (y := y) (z := z) (l := Tryz.w57z) (Tryz.kc (Tryz.fk hz (@Tryz.args3 (Tryz.io x y q z) _ _ _ _ _ _ (@Tryz.num_int (Tryz.io x y q z) _ _) (@Tryz.num_of (Tryz.io x y q z) _ _ _ _ _ _ (@Tryz.XW_ok (Tryz.io x y q z) 1 hx hx2)) (@Tryz.num_of (Tryz.io x y q z) _ _ _ _ _ _ (@Tryz.XW_ok (Tryz.io x y q z) 2 hy hy2))) (fun g w => @Tryz.res1 (Tryz.io x y q z) _ z _ _ rfl h1 h2 g w) (fun _ hp => by cases hp)) (Tryz.kc (@Tryz.kof57 (Tryz.io x y q z)) (@Tryz.kr0 (Tryz.io x y q z)))) (by decide) Tryz.w57zA Tryz.w57zN hx hx2 hy hy2 hq hq2 ht
theorem Tryz.l58 : Tryz.LawC 19 := by
  intro x y q w hx hx2 hy hy2 hq hq2 ht
  have a := wrapF_in .i64 x
  have b := wrapF_in .i64 y
  simp only [loK, hiK] at a b
  obtain ⟨z, h1, h2, hz⟩ := Tryz.cm7 (x := wrapF .i64 x) (y := wrapF .i64 y) (by omega) (by omega)
  exact Tryz.law (x := x) (y := y) (z := z) (l := Tryz.w58z) (Tryz.kc (Tryz.fk hz (@Tryz.args3 (Tryz.io x y q z) _ _ _ _ _ _ (@Tryz.num_int (Tryz.io x y q z) _ _) (@Tryz.num_of (Tryz.io x y q z) _ _ _ _ _ _ (@Tryz.XW_ok (Tryz.io x y q z) 1 hx hx2)) (@Tryz.num_of (Tryz.io x y q z) _ _ _ _ _ _ (@Tryz.XW_ok (Tryz.io x y q z) 2 hy hy2))) (fun g w => @Tryz.res1 (Tryz.io x y q z) _ z _ _ rfl h1 h2 g w) (fun _ hp => by cases hp)) (Tryz.kc (@Tryz.kof58 (Tryz.io x y q z)) (@Tryz.kr0 (Tryz.io x y q z)))) (by decide) Tryz.w58zA Tryz.w58zN hx hx2 hy hy2 hq hq2 ht
theorem Tryz.l59 : Tryz.LawC 20 := by
  intro x y q w hx hx2 hy hy2 hq hq2 ht
  have a := wrapF_in .i64 x
  have b := wrapF_in .i64 y
  simp only [loK, hiK] at a b
  obtain ⟨z, h1, h2, hz⟩ := Tryz.cm8 (x := wrapF .i64 x) (y := wrapF .i64 y) (by omega) (by omega)
  exact Tryz.law (x := x) (y := y) (z := z) (l := Tryz.w59z) (Tryz.kc (Tryz.fk hz (@Tryz.args3 (Tryz.io x y q z) _ _ _ _ _ _ (@Tryz.num_int (Tryz.io x y q z) _ _) (@Tryz.num_of (Tryz.io x y q z) _ _ _ _ _ _ (@Tryz.XW_ok (Tryz.io x y q z) 1 hx hx2)) (@Tryz.num_of (Tryz.io x y q z) _ _ _ _ _ _ (@Tryz.XW_ok (Tryz.io x y q z) 2 hy hy2))) (fun g w => @Tryz.res1 (Tryz.io x y q z) _ z _ _ rfl h1 h2 g w) (fun _ hp => by cases hp)) (Tryz.kc (@Tryz.kof59 (Tryz.io x y q z)) (@Tryz.kr0 (Tryz.io x y q z)))) (by decide) Tryz.w59zA Tryz.w59zN hx hx2 hy hy2 hq hq2 ht
theorem Tryz.l5a : Tryz.LawC 21 := by
  intro x y q w hx hx2 hy hy2 hq hq2 ht
  have a := wrapF_in .i64 x
  have b := wrapF_in .i64 y
  simp only [loK, hiK] at a b
  obtain ⟨z, h1, h2, hz⟩ := Tryz.cm9 (x := wrapF .i64 x) (y := wrapF .i64 y) (by omega) (by omega)
  exact Tryz.law (x := x) (y := y) (z := z) (l := Tryz.w5az) (Tryz.kc (Tryz.fk hz (@Tryz.args3 (Tryz.io x y q z) _ _ _ _ _ _ (@Tryz.num_int (Tryz.io x y q z) _ _) (@Tryz.num_of (Tryz.io x y q z) _ _ _ _ _ _ (@Tryz.XW_ok (Tryz.io x y q z) 1 hx hx2)) (@Tryz.num_of (Tryz.io x y q z) _ _ _ _ _ _ (@Tryz.XW_ok (Tryz.io x y q z) 2 hy hy2))) (fun g w => @Tryz.res1 (Tryz.io x y q z) _ z _ _ rfl h1 h2 g w) (fun _ hp => by cases hp)) (Tryz.kc (@Tryz.kof5a (Tryz.io x y q z)) (@Tryz.kr0 (Tryz.io x y q z)))) (by decide) Tryz.w5azA Tryz.w5azN hx hx2 hy hy2 hq hq2 ht
theorem Tryz.l67 : Tryz.LawC 34 := by
  intro x y q w hx hx2 hy hy2 hq hq2 ht
  obtain ⟨z, h1, h2, hz⟩ := Tryz.lz32 (x := x % 4294967296) (by omega) (by omega)
  exact Tryz.law (x := x) (y := y) (z := z) (l := Tryz.w67z) (Tryz.kc (Tryz.fk hz (@Tryz.args1 (Tryz.io x y q z) _ _ (@Tryz.num_of (Tryz.io x y q z) _ _ _ _ _ _ (@Tryz.X32_ok (Tryz.io x y q z) 1 hx hx2))) (fun g w => @Tryz.res1 (Tryz.io x y q z) _ z _ _ rfl h1 h2 g w) (fun _ hp => by cases hp)) (Tryz.kc (@Tryz.kof67 (Tryz.io x y q z)) (@Tryz.kr0 (Tryz.io x y q z)))) (by decide) Tryz.w67zA Tryz.w67zN hx hx2 hy hy2 hq hq2 ht
theorem Tryz.l68 : Tryz.LawC 35 := by
  intro x y q w hx hx2 hy hy2 hq hq2 ht
  obtain ⟨z, h1, h2, hz⟩ := Tryz.tz32 (x := x % 4294967296) (by omega) (by omega)
  exact Tryz.law (x := x) (y := y) (z := z) (l := Tryz.w68z) (Tryz.kc (Tryz.fk hz (@Tryz.args1 (Tryz.io x y q z) _ _ (@Tryz.num_of (Tryz.io x y q z) _ _ _ _ _ _ (@Tryz.X32_ok (Tryz.io x y q z) 1 hx hx2))) (fun g w => @Tryz.res1 (Tryz.io x y q z) _ z _ _ rfl h1 h2 g w) (fun _ hp => hp)) (Tryz.kc (@Tryz.kof68 (Tryz.io x y q z)) (@Tryz.kr0 (Tryz.io x y q z)))) (by decide) Tryz.w68zA Tryz.w68zN hx hx2 hy hy2 hq hq2 ht
theorem Tryz.l69 : Tryz.LawC 36 := by
  intro x y q w hx hx2 hy hy2 hq hq2 ht
  have z : Int := 0
  exact Tryz.law (x := x) (y := y) (z := z) (l := Tryz.w69z) (Tryz.kc (@Tryz.kof69 (Tryz.io x y q z)) (@Tryz.kr0 (Tryz.io x y q z))) (by decide) Tryz.w69zA Tryz.w69zN hx hx2 hy hy2 hq hq2 ht
theorem Tryz.l6a : Tryz.LawC 37 := by
  intro x y q w hx hx2 hy hy2 hq hq2 ht
  obtain ⟨e, he, z, h1, h2, hz⟩ := Tryz.sn6a (x := x % 4294967296) (y := y % 4294967296) (by omega) (by omega)
  simp only [List.mem_cons, List.not_mem_nil, or_false] at he
  subst he
  exact Tryz.law (x := x) (y := y) (z := z) (l := Tryz.w6ae0) (Tryz.kc (Tryz.fk hz (@Tryz.args3 (Tryz.io x y q z) _ _ _ _ _ _ (@Tryz.num_int (Tryz.io x y q z) _ _) (@Tryz.num_of (Tryz.io x y q z) _ _ _ _ _ _ (@Tryz.X32_ok (Tryz.io x y q z) 1 hx hx2)) (@Tryz.num_of (Tryz.io x y q z) _ _ _ _ _ _ (@Tryz.X32_ok (Tryz.io x y q z) 2 hy hy2))) (fun g w => @Tryz.res2 (Tryz.io x y q z) _ z _ _ _ rfl h1 h2 g w) (fun _ hp => by cases hp)) (Tryz.kc (@Tryz.kof6a (Tryz.io x y q z)) (@Tryz.kr0 (Tryz.io x y q z)))) (by decide) Tryz.w6ae0A Tryz.w6ae0N hx hx2 hy hy2 hq hq2 ht
theorem Tryz.l6b : Tryz.LawC 38 := by
  intro x y q w hx hx2 hy hy2 hq hq2 ht
  obtain ⟨e, he, z, h1, h2, hz⟩ := Tryz.sn6b (x := x % 4294967296) (y := y % 4294967296) (by omega) (by omega)
  simp only [List.mem_cons, List.not_mem_nil, or_false] at he
  subst he
  exact Tryz.law (x := x) (y := y) (z := z) (l := Tryz.w6be0) (Tryz.kc (Tryz.fk hz (@Tryz.args3 (Tryz.io x y q z) _ _ _ _ _ _ (@Tryz.num_int (Tryz.io x y q z) _ _) (@Tryz.num_of (Tryz.io x y q z) _ _ _ _ _ _ (@Tryz.X32_ok (Tryz.io x y q z) 1 hx hx2)) (@Tryz.num_of (Tryz.io x y q z) _ _ _ _ _ _ (@Tryz.X32_ok (Tryz.io x y q z) 2 hy hy2))) (fun g w => @Tryz.res2 (Tryz.io x y q z) _ z _ _ _ rfl h1 h2 g w) (fun _ hp => by cases hp)) (Tryz.kc (@Tryz.kof6b (Tryz.io x y q z)) (@Tryz.kr0 (Tryz.io x y q z)))) (by decide) Tryz.w6be0A Tryz.w6be0N hx hx2 hy hy2 hq hq2 ht
theorem Tryz.l6c : Tryz.LawC 39 := by
  intro x y q w hx hx2 hy hy2 hq hq2 ht
  obtain ⟨e, he, z, h1, h2, hz⟩ := Tryz.sn6c (x := x % 4294967296) (y := y % 4294967296) (by omega) (by omega)
  simp only [List.mem_cons, List.not_mem_nil, or_false] at he
  subst he
  exact Tryz.law (x := x) (y := y) (z := z) (l := Tryz.w6ce0) (Tryz.kc (Tryz.fk hz (@Tryz.args3 (Tryz.io x y q z) _ _ _ _ _ _ (@Tryz.num_int (Tryz.io x y q z) _ _) (@Tryz.num_of (Tryz.io x y q z) _ _ _ _ _ _ (@Tryz.X32_ok (Tryz.io x y q z) 1 hx hx2)) (@Tryz.num_of (Tryz.io x y q z) _ _ _ _ _ _ (@Tryz.X32_ok (Tryz.io x y q z) 2 hy hy2))) (fun g w => @Tryz.res2 (Tryz.io x y q z) _ z _ _ _ rfl h1 h2 g w) (fun _ hp => by cases hp)) (Tryz.kc (@Tryz.kof6c (Tryz.io x y q z)) (@Tryz.kr0 (Tryz.io x y q z)))) (by decide) Tryz.w6ce0A Tryz.w6ce0N hx hx2 hy hy2 hq hq2 ht
theorem Tryz.l6d : Tryz.LawC 40 := by
  intro x y q w hx hx2 hy hy2 hq hq2 ht
  obtain ⟨e, he, z, h1, h2, hz⟩ := Tryz.sn6d (x := x % 4294967296) (y := y % 4294967296) (by omega) (by omega)
  simp only [List.mem_cons, List.not_mem_nil, or_false] at he
  rcases he with rfl | rfl | rfl
  · exact Tryz.law (x := x) (y := y) (z := z) (l := Tryz.w6de0) (Tryz.kc (Tryz.fk hz (@Tryz.args3 (Tryz.io x y q z) _ _ _ _ _ _ (@Tryz.num_int (Tryz.io x y q z) _ _) (@Tryz.num_of (Tryz.io x y q z) _ _ _ _ _ _ (@Tryz.X32_ok (Tryz.io x y q z) 1 hx hx2)) (@Tryz.num_of (Tryz.io x y q z) _ _ _ _ _ _ (@Tryz.X32_ok (Tryz.io x y q z) 2 hy hy2))) (fun g w => @Tryz.res2 (Tryz.io x y q z) _ z _ _ _ rfl h1 h2 g w) (fun _ hp => by cases hp)) (Tryz.kc (@Tryz.kof6d (Tryz.io x y q z)) (@Tryz.kr0 (Tryz.io x y q z)))) (by decide) Tryz.w6de0A Tryz.w6de0N hx hx2 hy hy2 hq hq2 ht
  · exact Tryz.law (x := x) (y := y) (z := z) (l := Tryz.w6de21) (Tryz.kc (Tryz.fk hz (@Tryz.args3 (Tryz.io x y q z) _ _ _ _ _ _ (@Tryz.num_int (Tryz.io x y q z) _ _) (@Tryz.num_of (Tryz.io x y q z) _ _ _ _ _ _ (@Tryz.X32_ok (Tryz.io x y q z) 1 hx hx2)) (@Tryz.num_of (Tryz.io x y q z) _ _ _ _ _ _ (@Tryz.X32_ok (Tryz.io x y q z) 2 hy hy2))) (fun g w => @Tryz.res2 (Tryz.io x y q z) _ z _ _ _ rfl h1 h2 g w) (fun _ hp => by cases hp)) (Tryz.kc (@Tryz.kof6d (Tryz.io x y q z)) (@Tryz.kr0 (Tryz.io x y q z)))) (by decide) Tryz.w6de21A Tryz.w6de21N hx hx2 hy hy2 hq hq2 ht
  · exact Tryz.law (x := x) (y := y) (z := z) (l := Tryz.w6de22) (Tryz.kc (Tryz.fk hz (@Tryz.args3 (Tryz.io x y q z) _ _ _ _ _ _ (@Tryz.num_int (Tryz.io x y q z) _ _) (@Tryz.num_of (Tryz.io x y q z) _ _ _ _ _ _ (@Tryz.X32_ok (Tryz.io x y q z) 1 hx hx2)) (@Tryz.num_of (Tryz.io x y q z) _ _ _ _ _ _ (@Tryz.X32_ok (Tryz.io x y q z) 2 hy hy2))) (fun g w => @Tryz.res2 (Tryz.io x y q z) _ z _ _ _ rfl h1 h2 g w) (fun _ hp => by cases hp)) (Tryz.kc (@Tryz.kof6d (Tryz.io x y q z)) (@Tryz.kr0 (Tryz.io x y q z)))) (by decide) Tryz.w6de22A Tryz.w6de22N hx hx2 hy hy2 hq hq2 ht
theorem Tryz.l6e : Tryz.LawC 41 := by
  intro x y q w hx hx2 hy hy2 hq hq2 ht
  obtain ⟨e, he, z, h1, h2, hz⟩ := Tryz.sn6e (x := x % 4294967296) (y := y % 4294967296) (by omega) (by omega)
  simp only [List.mem_cons, List.not_mem_nil, or_false] at he
  rcases he with rfl | rfl
  · exact Tryz.law (x := x) (y := y) (z := z) (l := Tryz.w6ee0) (Tryz.kc (Tryz.fk hz (@Tryz.args3 (Tryz.io x y q z) _ _ _ _ _ _ (@Tryz.num_int (Tryz.io x y q z) _ _) (@Tryz.num_of (Tryz.io x y q z) _ _ _ _ _ _ (@Tryz.X32_ok (Tryz.io x y q z) 1 hx hx2)) (@Tryz.num_of (Tryz.io x y q z) _ _ _ _ _ _ (@Tryz.X32_ok (Tryz.io x y q z) 2 hy hy2))) (fun g w => @Tryz.res2 (Tryz.io x y q z) _ z _ _ _ rfl h1 h2 g w) (fun _ hp => by cases hp)) (Tryz.kc (@Tryz.kof6e (Tryz.io x y q z)) (@Tryz.kr0 (Tryz.io x y q z)))) (by decide) Tryz.w6ee0A Tryz.w6ee0N hx hx2 hy hy2 hq hq2 ht
  · exact Tryz.law (x := x) (y := y) (z := z) (l := Tryz.w6ee21) (Tryz.kc (Tryz.fk hz (@Tryz.args3 (Tryz.io x y q z) _ _ _ _ _ _ (@Tryz.num_int (Tryz.io x y q z) _ _) (@Tryz.num_of (Tryz.io x y q z) _ _ _ _ _ _ (@Tryz.X32_ok (Tryz.io x y q z) 1 hx hx2)) (@Tryz.num_of (Tryz.io x y q z) _ _ _ _ _ _ (@Tryz.X32_ok (Tryz.io x y q z) 2 hy hy2))) (fun g w => @Tryz.res2 (Tryz.io x y q z) _ z _ _ _ rfl h1 h2 g w) (fun _ hp => by cases hp)) (Tryz.kc (@Tryz.kof6e (Tryz.io x y q z)) (@Tryz.kr0 (Tryz.io x y q z)))) (by decide) Tryz.w6ee21A Tryz.w6ee21N hx hx2 hy hy2 hq hq2 ht
theorem Tryz.l6f : Tryz.LawC 42 := by
  intro x y q w hx hx2 hy hy2 hq hq2 ht
  obtain ⟨e, he, z, h1, h2, hz⟩ := Tryz.sn6f (x := x % 4294967296) (y := y % 4294967296) (by omega) (by omega)
  simp only [List.mem_cons, List.not_mem_nil, or_false] at he
  rcases he with rfl | rfl
  · exact Tryz.law (x := x) (y := y) (z := z) (l := Tryz.w6fe0) (Tryz.kc (Tryz.fk hz (@Tryz.args3 (Tryz.io x y q z) _ _ _ _ _ _ (@Tryz.num_int (Tryz.io x y q z) _ _) (@Tryz.num_of (Tryz.io x y q z) _ _ _ _ _ _ (@Tryz.X32_ok (Tryz.io x y q z) 1 hx hx2)) (@Tryz.num_of (Tryz.io x y q z) _ _ _ _ _ _ (@Tryz.X32_ok (Tryz.io x y q z) 2 hy hy2))) (fun g w => @Tryz.res2 (Tryz.io x y q z) _ z _ _ _ rfl h1 h2 g w) (fun _ hp => by cases hp)) (Tryz.kc (@Tryz.kof6f (Tryz.io x y q z)) (@Tryz.kr0 (Tryz.io x y q z)))) (by decide) Tryz.w6fe0A Tryz.w6fe0N hx hx2 hy hy2 hq hq2 ht
  · exact Tryz.law (x := x) (y := y) (z := z) (l := Tryz.w6fe21) (Tryz.kc (Tryz.fk hz (@Tryz.args3 (Tryz.io x y q z) _ _ _ _ _ _ (@Tryz.num_int (Tryz.io x y q z) _ _) (@Tryz.num_of (Tryz.io x y q z) _ _ _ _ _ _ (@Tryz.X32_ok (Tryz.io x y q z) 1 hx hx2)) (@Tryz.num_of (Tryz.io x y q z) _ _ _ _ _ _ (@Tryz.X32_ok (Tryz.io x y q z) 2 hy hy2))) (fun g w => @Tryz.res2 (Tryz.io x y q z) _ z _ _ _ rfl h1 h2 g w) (fun _ hp => by cases hp)) (Tryz.kc (@Tryz.kof6f (Tryz.io x y q z)) (@Tryz.kr0 (Tryz.io x y q z)))) (by decide) Tryz.w6fe21A Tryz.w6fe21N hx hx2 hy hy2 hq hq2 ht
theorem Tryz.l70 : Tryz.LawC 43 := by
  intro x y q w hx hx2 hy hy2 hq hq2 ht
  obtain ⟨e, he, z, h1, h2, hz⟩ := Tryz.sn70 (x := x % 4294967296) (y := y % 4294967296) (by omega) (by omega)
  simp only [List.mem_cons, List.not_mem_nil, or_false] at he
  rcases he with rfl | rfl
  · exact Tryz.law (x := x) (y := y) (z := z) (l := Tryz.w70e0) (Tryz.kc (Tryz.fk hz (@Tryz.args3 (Tryz.io x y q z) _ _ _ _ _ _ (@Tryz.num_int (Tryz.io x y q z) _ _) (@Tryz.num_of (Tryz.io x y q z) _ _ _ _ _ _ (@Tryz.X32_ok (Tryz.io x y q z) 1 hx hx2)) (@Tryz.num_of (Tryz.io x y q z) _ _ _ _ _ _ (@Tryz.X32_ok (Tryz.io x y q z) 2 hy hy2))) (fun g w => @Tryz.res2 (Tryz.io x y q z) _ z _ _ _ rfl h1 h2 g w) (fun _ hp => by cases hp)) (Tryz.kc (@Tryz.kof70 (Tryz.io x y q z)) (@Tryz.kr0 (Tryz.io x y q z)))) (by decide) Tryz.w70e0A Tryz.w70e0N hx hx2 hy hy2 hq hq2 ht
  · exact Tryz.law (x := x) (y := y) (z := z) (l := Tryz.w70e21) (Tryz.kc (Tryz.fk hz (@Tryz.args3 (Tryz.io x y q z) _ _ _ _ _ _ (@Tryz.num_int (Tryz.io x y q z) _ _) (@Tryz.num_of (Tryz.io x y q z) _ _ _ _ _ _ (@Tryz.X32_ok (Tryz.io x y q z) 1 hx hx2)) (@Tryz.num_of (Tryz.io x y q z) _ _ _ _ _ _ (@Tryz.X32_ok (Tryz.io x y q z) 2 hy hy2))) (fun g w => @Tryz.res2 (Tryz.io x y q z) _ z _ _ _ rfl h1 h2 g w) (fun _ hp => by cases hp)) (Tryz.kc (@Tryz.kof70 (Tryz.io x y q z)) (@Tryz.kr0 (Tryz.io x y q z)))) (by decide) Tryz.w70e21A Tryz.w70e21N hx hx2 hy hy2 hq hq2 ht
theorem Tryz.l71 : Tryz.LawC 44 := by
  intro x y q w hx hx2 hy hy2 hq hq2 ht
  obtain ⟨e, he, z, h1, h2, hz⟩ := Tryz.sn71 (x := x % 4294967296) (y := y % 4294967296) (by omega) (by omega)
  simp only [List.mem_cons, List.not_mem_nil, or_false] at he
  subst he
  exact Tryz.law (x := x) (y := y) (z := z) (l := Tryz.w71e0) (Tryz.kc (Tryz.fk hz (@Tryz.args3 (Tryz.io x y q z) _ _ _ _ _ _ (@Tryz.num_int (Tryz.io x y q z) _ _) (@Tryz.num_of (Tryz.io x y q z) _ _ _ _ _ _ (@Tryz.X32_ok (Tryz.io x y q z) 1 hx hx2)) (@Tryz.num_of (Tryz.io x y q z) _ _ _ _ _ _ (@Tryz.X32_ok (Tryz.io x y q z) 2 hy hy2))) (fun g w => @Tryz.res2 (Tryz.io x y q z) _ z _ _ _ rfl h1 h2 g w) (fun _ hp => by cases hp)) (Tryz.kc (@Tryz.kof71 (Tryz.io x y q z)) (@Tryz.kr0 (Tryz.io x y q z)))) (by decide) Tryz.w71e0A Tryz.w71e0N hx hx2 hy hy2 hq hq2 ht
theorem Tryz.l72 : Tryz.LawC 45 := by
  intro x y q w hx hx2 hy hy2 hq hq2 ht
  obtain ⟨e, he, z, h1, h2, hz⟩ := Tryz.sn72 (x := x % 4294967296) (y := y % 4294967296) (by omega) (by omega)
  simp only [List.mem_cons, List.not_mem_nil, or_false] at he
  subst he
  exact Tryz.law (x := x) (y := y) (z := z) (l := Tryz.w72e0) (Tryz.kc (Tryz.fk hz (@Tryz.args3 (Tryz.io x y q z) _ _ _ _ _ _ (@Tryz.num_int (Tryz.io x y q z) _ _) (@Tryz.num_of (Tryz.io x y q z) _ _ _ _ _ _ (@Tryz.X32_ok (Tryz.io x y q z) 1 hx hx2)) (@Tryz.num_of (Tryz.io x y q z) _ _ _ _ _ _ (@Tryz.X32_ok (Tryz.io x y q z) 2 hy hy2))) (fun g w => @Tryz.res2 (Tryz.io x y q z) _ z _ _ _ rfl h1 h2 g w) (fun _ hp => by cases hp)) (Tryz.kc (@Tryz.kof72 (Tryz.io x y q z)) (@Tryz.kr0 (Tryz.io x y q z)))) (by decide) Tryz.w72e0A Tryz.w72e0N hx hx2 hy hy2 hq hq2 ht
theorem Tryz.l73 : Tryz.LawC 46 := by
  intro x y q w hx hx2 hy hy2 hq hq2 ht
  obtain ⟨e, he, z, h1, h2, hz⟩ := Tryz.sn73 (x := x % 4294967296) (y := y % 4294967296) (by omega) (by omega)
  simp only [List.mem_cons, List.not_mem_nil, or_false] at he
  subst he
  exact Tryz.law (x := x) (y := y) (z := z) (l := Tryz.w73e0) (Tryz.kc (Tryz.fk hz (@Tryz.args3 (Tryz.io x y q z) _ _ _ _ _ _ (@Tryz.num_int (Tryz.io x y q z) _ _) (@Tryz.num_of (Tryz.io x y q z) _ _ _ _ _ _ (@Tryz.X32_ok (Tryz.io x y q z) 1 hx hx2)) (@Tryz.num_of (Tryz.io x y q z) _ _ _ _ _ _ (@Tryz.X32_ok (Tryz.io x y q z) 2 hy hy2))) (fun g w => @Tryz.res2 (Tryz.io x y q z) _ z _ _ _ rfl h1 h2 g w) (fun _ hp => by cases hp)) (Tryz.kc (@Tryz.kof73 (Tryz.io x y q z)) (@Tryz.kr0 (Tryz.io x y q z)))) (by decide) Tryz.w73e0A Tryz.w73e0N hx hx2 hy hy2 hq hq2 ht
theorem Tryz.l74 : Tryz.LawC 47 := by
  intro x y q w hx hx2 hy hy2 hq hq2 ht
  obtain ⟨e, he, z, h1, h2, hz⟩ := Tryz.sn74 (x := x % 4294967296) (y := y % 4294967296) (by omega) (by omega)
  simp only [List.mem_cons, List.not_mem_nil, or_false] at he
  subst he
  exact Tryz.law (x := x) (y := y) (z := z) (l := Tryz.w74e0) (Tryz.kc (Tryz.fk hz (@Tryz.args3 (Tryz.io x y q z) _ _ _ _ _ _ (@Tryz.num_int (Tryz.io x y q z) _ _) (@Tryz.num_of (Tryz.io x y q z) _ _ _ _ _ _ (@Tryz.X32_ok (Tryz.io x y q z) 1 hx hx2)) (@Tryz.num_of (Tryz.io x y q z) _ _ _ _ _ _ (@Tryz.X32_ok (Tryz.io x y q z) 2 hy hy2))) (fun g w => @Tryz.res2 (Tryz.io x y q z) _ z _ _ _ rfl h1 h2 g w) (fun _ hp => by cases hp)) (Tryz.kc (@Tryz.kof74 (Tryz.io x y q z)) (@Tryz.kr0 (Tryz.io x y q z)))) (by decide) Tryz.w74e0A Tryz.w74e0N hx hx2 hy hy2 hq hq2 ht
theorem Tryz.l75 : Tryz.LawC 48 := by
  intro x y q w hx hx2 hy hy2 hq hq2 ht
  obtain ⟨e, he, z, h1, h2, hz⟩ := Tryz.sn75 (x := x % 4294967296) (y := y % 4294967296) (by omega) (by omega)
  simp only [List.mem_cons, List.not_mem_nil, or_false] at he
  subst he
  exact Tryz.law (x := x) (y := y) (z := z) (l := Tryz.w75e0) (Tryz.kc (Tryz.fk hz (@Tryz.args3 (Tryz.io x y q z) _ _ _ _ _ _ (@Tryz.num_int (Tryz.io x y q z) _ _) (@Tryz.num_of (Tryz.io x y q z) _ _ _ _ _ _ (@Tryz.X32_ok (Tryz.io x y q z) 1 hx hx2)) (@Tryz.num_of (Tryz.io x y q z) _ _ _ _ _ _ (@Tryz.X32_ok (Tryz.io x y q z) 2 hy hy2))) (fun g w => @Tryz.res2 (Tryz.io x y q z) _ z _ _ _ rfl h1 h2 g w) (fun _ hp => by cases hp)) (Tryz.kc (@Tryz.kof75 (Tryz.io x y q z)) (@Tryz.kr0 (Tryz.io x y q z)))) (by decide) Tryz.w75e0A Tryz.w75e0N hx hx2 hy hy2 hq hq2 ht
theorem Tryz.l76 : Tryz.LawC 49 := by
  intro x y q w hx hx2 hy hy2 hq hq2 ht
  obtain ⟨e, he, z, h1, h2, hz⟩ := Tryz.sn76 (x := x % 4294967296) (y := y % 4294967296) (by omega) (by omega)
  simp only [List.mem_cons, List.not_mem_nil, or_false] at he
  subst he
  exact Tryz.law (x := x) (y := y) (z := z) (l := Tryz.w76e0) (Tryz.kc (Tryz.fk hz (@Tryz.args3 (Tryz.io x y q z) _ _ _ _ _ _ (@Tryz.num_int (Tryz.io x y q z) _ _) (@Tryz.num_of (Tryz.io x y q z) _ _ _ _ _ _ (@Tryz.X32_ok (Tryz.io x y q z) 1 hx hx2)) (@Tryz.num_of (Tryz.io x y q z) _ _ _ _ _ _ (@Tryz.X32_ok (Tryz.io x y q z) 2 hy hy2))) (fun g w => @Tryz.res2 (Tryz.io x y q z) _ z _ _ _ rfl h1 h2 g w) (fun _ hp => by cases hp)) (Tryz.kc (@Tryz.kof76 (Tryz.io x y q z)) (@Tryz.kr0 (Tryz.io x y q z)))) (by decide) Tryz.w76e0A Tryz.w76e0N hx hx2 hy hy2 hq hq2 ht
theorem Tryz.l77 : Tryz.LawC 50 := by
  intro x y q w hx hx2 hy hy2 hq hq2 ht
  obtain ⟨e, he, z, h1, h2, hz⟩ := Tryz.sn77 (x := x % 4294967296) (y := y % 4294967296) (by omega) (by omega)
  simp only [List.mem_cons, List.not_mem_nil, or_false] at he
  subst he
  exact Tryz.law (x := x) (y := y) (z := z) (l := Tryz.w77e0) (Tryz.kc (Tryz.fk hz (@Tryz.args3 (Tryz.io x y q z) _ _ _ _ _ _ (@Tryz.num_int (Tryz.io x y q z) _ _) (@Tryz.num_of (Tryz.io x y q z) _ _ _ _ _ _ (@Tryz.X32_ok (Tryz.io x y q z) 1 hx hx2)) (@Tryz.num_of (Tryz.io x y q z) _ _ _ _ _ _ (@Tryz.X32_ok (Tryz.io x y q z) 2 hy hy2))) (fun g w => @Tryz.res2 (Tryz.io x y q z) _ z _ _ _ rfl h1 h2 g w) (fun _ hp => by cases hp)) (Tryz.kc (@Tryz.kof77 (Tryz.io x y q z)) (@Tryz.kr0 (Tryz.io x y q z)))) (by decide) Tryz.w77e0A Tryz.w77e0N hx hx2 hy hy2 hq hq2 ht
theorem Tryz.l78 : Tryz.LawC 51 := by
  intro x y q w hx hx2 hy hy2 hq hq2 ht
  obtain ⟨e, he, z, h1, h2, hz⟩ := Tryz.sn78 (x := x % 4294967296) (y := y % 4294967296) (by omega) (by omega)
  simp only [List.mem_cons, List.not_mem_nil, or_false] at he
  subst he
  exact Tryz.law (x := x) (y := y) (z := z) (l := Tryz.w78e0) (Tryz.kc (Tryz.fk hz (@Tryz.args3 (Tryz.io x y q z) _ _ _ _ _ _ (@Tryz.num_int (Tryz.io x y q z) _ _) (@Tryz.num_of (Tryz.io x y q z) _ _ _ _ _ _ (@Tryz.X32_ok (Tryz.io x y q z) 1 hx hx2)) (@Tryz.num_of (Tryz.io x y q z) _ _ _ _ _ _ (@Tryz.X32_ok (Tryz.io x y q z) 2 hy hy2))) (fun g w => @Tryz.res2 (Tryz.io x y q z) _ z _ _ _ rfl h1 h2 g w) (fun _ hp => by cases hp)) (Tryz.kc (@Tryz.kof78 (Tryz.io x y q z)) (@Tryz.kr0 (Tryz.io x y q z)))) (by decide) Tryz.w78e0A Tryz.w78e0N hx hx2 hy hy2 hq hq2 ht
theorem Tryz.l79 : Tryz.LawC 52 := by
  intro x y q w hx hx2 hy hy2 hq hq2 ht
  obtain ⟨z, h1, h2, hz⟩ := Tryz.lz64 hx hx2
  exact Tryz.law (x := x) (y := y) (z := z) (l := Tryz.w79z) (Tryz.kc (Tryz.fk hz (@Tryz.args1 (Tryz.io x y q z) _ _ (@Tryz.num_of (Tryz.io x y q z) _ _ _ _ _ _ (@Tryz.B_ok (Tryz.io x y q z) 1 hx hx2))) (fun g w => @Tryz.res1 (Tryz.io x y q z) _ z _ _ rfl h1 h2 g w) (fun _ hp => by cases hp)) (Tryz.kc (@Tryz.kof79 (Tryz.io x y q z)) (@Tryz.kr0 (Tryz.io x y q z)))) (by decide) Tryz.w79zA Tryz.w79zN hx hx2 hy hy2 hq hq2 ht
theorem Tryz.l7a : Tryz.LawC 53 := by
  intro x y q w hx hx2 hy hy2 hq hq2 ht
  obtain ⟨z, h1, h2, hz⟩ := Tryz.tz64 hx hx2
  exact Tryz.law (x := x) (y := y) (z := z) (l := Tryz.w7az) (Tryz.kc (Tryz.fk hz (@Tryz.args1 (Tryz.io x y q z) _ _ (@Tryz.num_of (Tryz.io x y q z) _ _ _ _ _ _ (@Tryz.B_ok (Tryz.io x y q z) 1 hx hx2))) (fun g w => @Tryz.res1 (Tryz.io x y q z) _ z _ _ rfl h1 h2 g w) (fun _ hp => hp)) (Tryz.kc (@Tryz.kof7a (Tryz.io x y q z)) (@Tryz.kr0 (Tryz.io x y q z)))) (by decide) Tryz.w7azA Tryz.w7azN hx hx2 hy hy2 hq hq2 ht
theorem Tryz.l7b : Tryz.LawC 54 := by
  intro x y q w hx hx2 hy hy2 hq hq2 ht
  have z : Int := 0
  exact Tryz.law (x := x) (y := y) (z := z) (l := Tryz.w7bz) (Tryz.kc (@Tryz.kof7b (Tryz.io x y q z)) (@Tryz.kr0 (Tryz.io x y q z))) (by decide) Tryz.w7bzA Tryz.w7bzN hx hx2 hy hy2 hq hq2 ht
theorem Tryz.l7c : Tryz.LawC 55 := by
  intro x y q w hx hx2 hy hy2 hq hq2 ht
  obtain ⟨e, he, z, h1, h2, hz⟩ := Tryz.gs7c ⟨hx, hx2⟩ ⟨hy, hy2⟩
  simp only [List.mem_cons, List.not_mem_nil, or_false] at he
  subst he
  exact Tryz.law (x := x) (y := y) (z := z) (l := Tryz.w7ce0) (Tryz.kc (Tryz.fk hz (@Tryz.args3 (Tryz.io x y q z) _ _ _ _ _ _ (@Tryz.num_int (Tryz.io x y q z) _ _) (@Tryz.num_of (Tryz.io x y q z) _ _ _ _ _ _ (@Tryz.B_ok (Tryz.io x y q z) 1 hx hx2)) (@Tryz.num_of (Tryz.io x y q z) _ _ _ _ _ _ (@Tryz.B_ok (Tryz.io x y q z) 2 hy hy2))) (fun g w => @Tryz.res2 (Tryz.io x y q z) _ z _ _ _ rfl h1 h2 g w) (fun _ hp => by cases hp)) (Tryz.kc (@Tryz.kof7c (Tryz.io x y q z)) (@Tryz.kr0 (Tryz.io x y q z)))) (by decide) Tryz.w7ce0A Tryz.w7ce0N hx hx2 hy hy2 hq hq2 ht
theorem Tryz.l7d : Tryz.LawC 56 := by
  intro x y q w hx hx2 hy hy2 hq hq2 ht
  obtain ⟨e, he, z, h1, h2, hz⟩ := Tryz.gs7d ⟨hx, hx2⟩ ⟨hy, hy2⟩
  simp only [List.mem_cons, List.not_mem_nil, or_false] at he
  subst he
  exact Tryz.law (x := x) (y := y) (z := z) (l := Tryz.w7de0) (Tryz.kc (Tryz.fk hz (@Tryz.args3 (Tryz.io x y q z) _ _ _ _ _ _ (@Tryz.num_int (Tryz.io x y q z) _ _) (@Tryz.num_of (Tryz.io x y q z) _ _ _ _ _ _ (@Tryz.B_ok (Tryz.io x y q z) 1 hx hx2)) (@Tryz.num_of (Tryz.io x y q z) _ _ _ _ _ _ (@Tryz.B_ok (Tryz.io x y q z) 2 hy hy2))) (fun g w => @Tryz.res2 (Tryz.io x y q z) _ z _ _ _ rfl h1 h2 g w) (fun _ hp => by cases hp)) (Tryz.kc (@Tryz.kof7d (Tryz.io x y q z)) (@Tryz.kr0 (Tryz.io x y q z)))) (by decide) Tryz.w7de0A Tryz.w7de0N hx hx2 hy hy2 hq hq2 ht
theorem Tryz.l7e : Tryz.LawC 57 := by
  intro x y q w hx hx2 hy hy2 hq hq2 ht
  obtain ⟨e, he, z, h1, h2, hz⟩ := Tryz.gs7e ⟨hx, hx2⟩ ⟨hy, hy2⟩
  simp only [List.mem_cons, List.not_mem_nil, or_false] at he
  subst he
  exact Tryz.law (x := x) (y := y) (z := z) (l := Tryz.w7ee0) (Tryz.kc (Tryz.fk hz (@Tryz.args3 (Tryz.io x y q z) _ _ _ _ _ _ (@Tryz.num_int (Tryz.io x y q z) _ _) (@Tryz.num_of (Tryz.io x y q z) _ _ _ _ _ _ (@Tryz.B_ok (Tryz.io x y q z) 1 hx hx2)) (@Tryz.num_of (Tryz.io x y q z) _ _ _ _ _ _ (@Tryz.B_ok (Tryz.io x y q z) 2 hy hy2))) (fun g w => @Tryz.res2 (Tryz.io x y q z) _ z _ _ _ rfl h1 h2 g w) (fun _ hp => by cases hp)) (Tryz.kc (@Tryz.kof7e (Tryz.io x y q z)) (@Tryz.kr0 (Tryz.io x y q z)))) (by decide) Tryz.w7ee0A Tryz.w7ee0N hx hx2 hy hy2 hq hq2 ht
theorem Tryz.l7f : Tryz.LawC 58 := by
  intro x y q w hx hx2 hy hy2 hq hq2 ht
  obtain ⟨e, he, z, h1, h2, hz⟩ := Tryz.gs7f ⟨hx, hx2⟩ ⟨hy, hy2⟩
  simp only [List.mem_cons, List.not_mem_nil, or_false] at he
  rcases he with rfl | rfl | rfl
  · exact Tryz.law (x := x) (y := y) (z := z) (l := Tryz.w7fe0) (Tryz.kc (Tryz.fk hz (@Tryz.args3 (Tryz.io x y q z) _ _ _ _ _ _ (@Tryz.num_int (Tryz.io x y q z) _ _) (@Tryz.num_of (Tryz.io x y q z) _ _ _ _ _ _ (@Tryz.B_ok (Tryz.io x y q z) 1 hx hx2)) (@Tryz.num_of (Tryz.io x y q z) _ _ _ _ _ _ (@Tryz.B_ok (Tryz.io x y q z) 2 hy hy2))) (fun g w => @Tryz.res2 (Tryz.io x y q z) _ z _ _ _ rfl h1 h2 g w) (fun _ hp => by cases hp)) (Tryz.kc (@Tryz.kof7f (Tryz.io x y q z)) (@Tryz.kr0 (Tryz.io x y q z)))) (by decide) Tryz.w7fe0A Tryz.w7fe0N hx hx2 hy hy2 hq hq2 ht
  · exact Tryz.law (x := x) (y := y) (z := z) (l := Tryz.w7fe21) (Tryz.kc (Tryz.fk hz (@Tryz.args3 (Tryz.io x y q z) _ _ _ _ _ _ (@Tryz.num_int (Tryz.io x y q z) _ _) (@Tryz.num_of (Tryz.io x y q z) _ _ _ _ _ _ (@Tryz.B_ok (Tryz.io x y q z) 1 hx hx2)) (@Tryz.num_of (Tryz.io x y q z) _ _ _ _ _ _ (@Tryz.B_ok (Tryz.io x y q z) 2 hy hy2))) (fun g w => @Tryz.res2 (Tryz.io x y q z) _ z _ _ _ rfl h1 h2 g w) (fun _ hp => by cases hp)) (Tryz.kc (@Tryz.kof7f (Tryz.io x y q z)) (@Tryz.kr0 (Tryz.io x y q z)))) (by decide) Tryz.w7fe21A Tryz.w7fe21N hx hx2 hy hy2 hq hq2 ht
  · exact Tryz.law (x := x) (y := y) (z := z) (l := Tryz.w7fe22) (Tryz.kc (Tryz.fk hz (@Tryz.args3 (Tryz.io x y q z) _ _ _ _ _ _ (@Tryz.num_int (Tryz.io x y q z) _ _) (@Tryz.num_of (Tryz.io x y q z) _ _ _ _ _ _ (@Tryz.B_ok (Tryz.io x y q z) 1 hx hx2)) (@Tryz.num_of (Tryz.io x y q z) _ _ _ _ _ _ (@Tryz.B_ok (Tryz.io x y q z) 2 hy hy2))) (fun g w => @Tryz.res2 (Tryz.io x y q z) _ z _ _ _ rfl h1 h2 g w) (fun _ hp => by cases hp)) (Tryz.kc (@Tryz.kof7f (Tryz.io x y q z)) (@Tryz.kr0 (Tryz.io x y q z)))) (by decide) Tryz.w7fe22A Tryz.w7fe22N hx hx2 hy hy2 hq hq2 ht
theorem Tryz.l80 : Tryz.LawC 59 := by
  intro x y q w hx hx2 hy hy2 hq hq2 ht
  obtain ⟨e, he, z, h1, h2, hz⟩ := Tryz.gs80 ⟨hx, hx2⟩ ⟨hy, hy2⟩
  simp only [List.mem_cons, List.not_mem_nil, or_false] at he
  rcases he with rfl | rfl
  · exact Tryz.law (x := x) (y := y) (z := z) (l := Tryz.w80e0) (Tryz.kc (Tryz.fk hz (@Tryz.args3 (Tryz.io x y q z) _ _ _ _ _ _ (@Tryz.num_int (Tryz.io x y q z) _ _) (@Tryz.num_of (Tryz.io x y q z) _ _ _ _ _ _ (@Tryz.B_ok (Tryz.io x y q z) 1 hx hx2)) (@Tryz.num_of (Tryz.io x y q z) _ _ _ _ _ _ (@Tryz.B_ok (Tryz.io x y q z) 2 hy hy2))) (fun g w => @Tryz.res2 (Tryz.io x y q z) _ z _ _ _ rfl h1 h2 g w) (fun _ hp => by cases hp)) (Tryz.kc (@Tryz.kof80 (Tryz.io x y q z)) (@Tryz.kr0 (Tryz.io x y q z)))) (by decide) Tryz.w80e0A Tryz.w80e0N hx hx2 hy hy2 hq hq2 ht
  · exact Tryz.law (x := x) (y := y) (z := z) (l := Tryz.w80e21) (Tryz.kc (Tryz.fk hz (@Tryz.args3 (Tryz.io x y q z) _ _ _ _ _ _ (@Tryz.num_int (Tryz.io x y q z) _ _) (@Tryz.num_of (Tryz.io x y q z) _ _ _ _ _ _ (@Tryz.B_ok (Tryz.io x y q z) 1 hx hx2)) (@Tryz.num_of (Tryz.io x y q z) _ _ _ _ _ _ (@Tryz.B_ok (Tryz.io x y q z) 2 hy hy2))) (fun g w => @Tryz.res2 (Tryz.io x y q z) _ z _ _ _ rfl h1 h2 g w) (fun _ hp => by cases hp)) (Tryz.kc (@Tryz.kof80 (Tryz.io x y q z)) (@Tryz.kr0 (Tryz.io x y q z)))) (by decide) Tryz.w80e21A Tryz.w80e21N hx hx2 hy hy2 hq hq2 ht
theorem Tryz.l81 : Tryz.LawC 60 := by
  intro x y q w hx hx2 hy hy2 hq hq2 ht
  obtain ⟨e, he, z, h1, h2, hz⟩ := Tryz.gs81 ⟨hx, hx2⟩ ⟨hy, hy2⟩
  simp only [List.mem_cons, List.not_mem_nil, or_false] at he
  rcases he with rfl | rfl
  · exact Tryz.law (x := x) (y := y) (z := z) (l := Tryz.w81e0) (Tryz.kc (Tryz.fk hz (@Tryz.args3 (Tryz.io x y q z) _ _ _ _ _ _ (@Tryz.num_int (Tryz.io x y q z) _ _) (@Tryz.num_of (Tryz.io x y q z) _ _ _ _ _ _ (@Tryz.B_ok (Tryz.io x y q z) 1 hx hx2)) (@Tryz.num_of (Tryz.io x y q z) _ _ _ _ _ _ (@Tryz.B_ok (Tryz.io x y q z) 2 hy hy2))) (fun g w => @Tryz.res2 (Tryz.io x y q z) _ z _ _ _ rfl h1 h2 g w) (fun _ hp => by cases hp)) (Tryz.kc (@Tryz.kof81 (Tryz.io x y q z)) (@Tryz.kr0 (Tryz.io x y q z)))) (by decide) Tryz.w81e0A Tryz.w81e0N hx hx2 hy hy2 hq hq2 ht
  · exact Tryz.law (x := x) (y := y) (z := z) (l := Tryz.w81e21) (Tryz.kc (Tryz.fk hz (@Tryz.args3 (Tryz.io x y q z) _ _ _ _ _ _ (@Tryz.num_int (Tryz.io x y q z) _ _) (@Tryz.num_of (Tryz.io x y q z) _ _ _ _ _ _ (@Tryz.B_ok (Tryz.io x y q z) 1 hx hx2)) (@Tryz.num_of (Tryz.io x y q z) _ _ _ _ _ _ (@Tryz.B_ok (Tryz.io x y q z) 2 hy hy2))) (fun g w => @Tryz.res2 (Tryz.io x y q z) _ z _ _ _ rfl h1 h2 g w) (fun _ hp => by cases hp)) (Tryz.kc (@Tryz.kof81 (Tryz.io x y q z)) (@Tryz.kr0 (Tryz.io x y q z)))) (by decide) Tryz.w81e21A Tryz.w81e21N hx hx2 hy hy2 hq hq2 ht
theorem Tryz.l82 : Tryz.LawC 61 := by
  intro x y q w hx hx2 hy hy2 hq hq2 ht
  obtain ⟨e, he, z, h1, h2, hz⟩ := Tryz.gs82 ⟨hx, hx2⟩ ⟨hy, hy2⟩
  simp only [List.mem_cons, List.not_mem_nil, or_false] at he
  rcases he with rfl | rfl
  · exact Tryz.law (x := x) (y := y) (z := z) (l := Tryz.w82e0) (Tryz.kc (Tryz.fk hz (@Tryz.args3 (Tryz.io x y q z) _ _ _ _ _ _ (@Tryz.num_int (Tryz.io x y q z) _ _) (@Tryz.num_of (Tryz.io x y q z) _ _ _ _ _ _ (@Tryz.B_ok (Tryz.io x y q z) 1 hx hx2)) (@Tryz.num_of (Tryz.io x y q z) _ _ _ _ _ _ (@Tryz.B_ok (Tryz.io x y q z) 2 hy hy2))) (fun g w => @Tryz.res2 (Tryz.io x y q z) _ z _ _ _ rfl h1 h2 g w) (fun _ hp => by cases hp)) (Tryz.kc (@Tryz.kof82 (Tryz.io x y q z)) (@Tryz.kr0 (Tryz.io x y q z)))) (by decide) Tryz.w82e0A Tryz.w82e0N hx hx2 hy hy2 hq hq2 ht
  · exact Tryz.law (x := x) (y := y) (z := z) (l := Tryz.w82e21) (Tryz.kc (Tryz.fk hz (@Tryz.args3 (Tryz.io x y q z) _ _ _ _ _ _ (@Tryz.num_int (Tryz.io x y q z) _ _) (@Tryz.num_of (Tryz.io x y q z) _ _ _ _ _ _ (@Tryz.B_ok (Tryz.io x y q z) 1 hx hx2)) (@Tryz.num_of (Tryz.io x y q z) _ _ _ _ _ _ (@Tryz.B_ok (Tryz.io x y q z) 2 hy hy2))) (fun g w => @Tryz.res2 (Tryz.io x y q z) _ z _ _ _ rfl h1 h2 g w) (fun _ hp => by cases hp)) (Tryz.kc (@Tryz.kof82 (Tryz.io x y q z)) (@Tryz.kr0 (Tryz.io x y q z)))) (by decide) Tryz.w82e21A Tryz.w82e21N hx hx2 hy hy2 hq hq2 ht
theorem Tryz.l83 : Tryz.LawC 62 := by
  intro x y q w hx hx2 hy hy2 hq hq2 ht
  obtain ⟨e, he, z, h1, h2, hz⟩ := Tryz.gs83 ⟨hx, hx2⟩ ⟨hy, hy2⟩
  simp only [List.mem_cons, List.not_mem_nil, or_false] at he
  subst he
  exact Tryz.law (x := x) (y := y) (z := z) (l := Tryz.w83e0) (Tryz.kc (Tryz.fk hz (@Tryz.args3 (Tryz.io x y q z) _ _ _ _ _ _ (@Tryz.num_int (Tryz.io x y q z) _ _) (@Tryz.num_of (Tryz.io x y q z) _ _ _ _ _ _ (@Tryz.B_ok (Tryz.io x y q z) 1 hx hx2)) (@Tryz.num_of (Tryz.io x y q z) _ _ _ _ _ _ (@Tryz.B_ok (Tryz.io x y q z) 2 hy hy2))) (fun g w => @Tryz.res2 (Tryz.io x y q z) _ z _ _ _ rfl h1 h2 g w) (fun _ hp => by cases hp)) (Tryz.kc (@Tryz.kof83 (Tryz.io x y q z)) (@Tryz.kr0 (Tryz.io x y q z)))) (by decide) Tryz.w83e0A Tryz.w83e0N hx hx2 hy hy2 hq hq2 ht
theorem Tryz.l84 : Tryz.LawC 63 := by
  intro x y q w hx hx2 hy hy2 hq hq2 ht
  obtain ⟨e, he, z, h1, h2, hz⟩ := Tryz.gs84 ⟨hx, hx2⟩ ⟨hy, hy2⟩
  simp only [List.mem_cons, List.not_mem_nil, or_false] at he
  subst he
  exact Tryz.law (x := x) (y := y) (z := z) (l := Tryz.w84e0) (Tryz.kc (Tryz.fk hz (@Tryz.args3 (Tryz.io x y q z) _ _ _ _ _ _ (@Tryz.num_int (Tryz.io x y q z) _ _) (@Tryz.num_of (Tryz.io x y q z) _ _ _ _ _ _ (@Tryz.B_ok (Tryz.io x y q z) 1 hx hx2)) (@Tryz.num_of (Tryz.io x y q z) _ _ _ _ _ _ (@Tryz.B_ok (Tryz.io x y q z) 2 hy hy2))) (fun g w => @Tryz.res2 (Tryz.io x y q z) _ z _ _ _ rfl h1 h2 g w) (fun _ hp => by cases hp)) (Tryz.kc (@Tryz.kof84 (Tryz.io x y q z)) (@Tryz.kr0 (Tryz.io x y q z)))) (by decide) Tryz.w84e0A Tryz.w84e0N hx hx2 hy hy2 hq hq2 ht
theorem Tryz.l85 : Tryz.LawC 64 := by
  intro x y q w hx hx2 hy hy2 hq hq2 ht
  obtain ⟨e, he, z, h1, h2, hz⟩ := Tryz.gs85 ⟨hx, hx2⟩ ⟨hy, hy2⟩
  simp only [List.mem_cons, List.not_mem_nil, or_false] at he
  subst he
  exact Tryz.law (x := x) (y := y) (z := z) (l := Tryz.w85e0) (Tryz.kc (Tryz.fk hz (@Tryz.args3 (Tryz.io x y q z) _ _ _ _ _ _ (@Tryz.num_int (Tryz.io x y q z) _ _) (@Tryz.num_of (Tryz.io x y q z) _ _ _ _ _ _ (@Tryz.B_ok (Tryz.io x y q z) 1 hx hx2)) (@Tryz.num_of (Tryz.io x y q z) _ _ _ _ _ _ (@Tryz.B_ok (Tryz.io x y q z) 2 hy hy2))) (fun g w => @Tryz.res2 (Tryz.io x y q z) _ z _ _ _ rfl h1 h2 g w) (fun _ hp => by cases hp)) (Tryz.kc (@Tryz.kof85 (Tryz.io x y q z)) (@Tryz.kr0 (Tryz.io x y q z)))) (by decide) Tryz.w85e0A Tryz.w85e0N hx hx2 hy hy2 hq hq2 ht
theorem Tryz.l86 : Tryz.LawC 65 := by
  intro x y q w hx hx2 hy hy2 hq hq2 ht
  obtain ⟨e, he, z, h1, h2, hz⟩ := Tryz.gs86 ⟨hx, hx2⟩ ⟨hy, hy2⟩
  simp only [List.mem_cons, List.not_mem_nil, or_false] at he
  subst he
  exact Tryz.law (x := x) (y := y) (z := z) (l := Tryz.w86e0) (Tryz.kc (Tryz.fk hz (@Tryz.args3 (Tryz.io x y q z) _ _ _ _ _ _ (@Tryz.num_int (Tryz.io x y q z) _ _) (@Tryz.num_of (Tryz.io x y q z) _ _ _ _ _ _ (@Tryz.B_ok (Tryz.io x y q z) 1 hx hx2)) (@Tryz.num_of (Tryz.io x y q z) _ _ _ _ _ _ (@Tryz.B_ok (Tryz.io x y q z) 2 hy hy2))) (fun g w => @Tryz.res2 (Tryz.io x y q z) _ z _ _ _ rfl h1 h2 g w) (fun _ hp => by cases hp)) (Tryz.kc (@Tryz.kof86 (Tryz.io x y q z)) (@Tryz.kr0 (Tryz.io x y q z)))) (by decide) Tryz.w86e0A Tryz.w86e0N hx hx2 hy hy2 hq hq2 ht
theorem Tryz.l87 : Tryz.LawC 66 := by
  intro x y q w hx hx2 hy hy2 hq hq2 ht
  obtain ⟨e, he, z, h1, h2, hz⟩ := Tryz.gs87 ⟨hx, hx2⟩ ⟨hy, hy2⟩
  simp only [List.mem_cons, List.not_mem_nil, or_false] at he
  subst he
  exact Tryz.law (x := x) (y := y) (z := z) (l := Tryz.w87e0) (Tryz.kc (Tryz.fk hz (@Tryz.args3 (Tryz.io x y q z) _ _ _ _ _ _ (@Tryz.num_int (Tryz.io x y q z) _ _) (@Tryz.num_of (Tryz.io x y q z) _ _ _ _ _ _ (@Tryz.B_ok (Tryz.io x y q z) 1 hx hx2)) (@Tryz.num_of (Tryz.io x y q z) _ _ _ _ _ _ (@Tryz.B_ok (Tryz.io x y q z) 2 hy hy2))) (fun g w => @Tryz.res2 (Tryz.io x y q z) _ z _ _ _ rfl h1 h2 g w) (fun _ hp => by cases hp)) (Tryz.kc (@Tryz.kof87 (Tryz.io x y q z)) (@Tryz.kr0 (Tryz.io x y q z)))) (by decide) Tryz.w87e0A Tryz.w87e0N hx hx2 hy hy2 hq hq2 ht
theorem Tryz.l88 : Tryz.LawC 67 := by
  intro x y q w hx hx2 hy hy2 hq hq2 ht
  obtain ⟨e, he, z, h1, h2, hz⟩ := Tryz.gs88 ⟨hx, hx2⟩ ⟨hy, hy2⟩
  simp only [List.mem_cons, List.not_mem_nil, or_false] at he
  subst he
  exact Tryz.law (x := x) (y := y) (z := z) (l := Tryz.w88e0) (Tryz.kc (Tryz.fk hz (@Tryz.args3 (Tryz.io x y q z) _ _ _ _ _ _ (@Tryz.num_int (Tryz.io x y q z) _ _) (@Tryz.num_of (Tryz.io x y q z) _ _ _ _ _ _ (@Tryz.B_ok (Tryz.io x y q z) 1 hx hx2)) (@Tryz.num_of (Tryz.io x y q z) _ _ _ _ _ _ (@Tryz.B_ok (Tryz.io x y q z) 2 hy hy2))) (fun g w => @Tryz.res2 (Tryz.io x y q z) _ z _ _ _ rfl h1 h2 g w) (fun _ hp => by cases hp)) (Tryz.kc (@Tryz.kof88 (Tryz.io x y q z)) (@Tryz.kr0 (Tryz.io x y q z)))) (by decide) Tryz.w88e0A Tryz.w88e0N hx hx2 hy hy2 hq hq2 ht
theorem Tryz.l89 : Tryz.LawC 68 := by
  intro x y q w hx hx2 hy hy2 hq hq2 ht
  obtain ⟨e, he, z, h1, h2, hz⟩ := Tryz.gs89 ⟨hx, hx2⟩ ⟨hy, hy2⟩
  simp only [List.mem_cons, List.not_mem_nil, or_false] at he
  subst he
  exact Tryz.law (x := x) (y := y) (z := z) (l := Tryz.w89e0) (Tryz.kc (Tryz.fk hz (@Tryz.args3 (Tryz.io x y q z) _ _ _ _ _ _ (@Tryz.num_int (Tryz.io x y q z) _ _) (@Tryz.num_of (Tryz.io x y q z) _ _ _ _ _ _ (@Tryz.B_ok (Tryz.io x y q z) 1 hx hx2)) (@Tryz.num_of (Tryz.io x y q z) _ _ _ _ _ _ (@Tryz.B_ok (Tryz.io x y q z) 2 hy hy2))) (fun g w => @Tryz.res2 (Tryz.io x y q z) _ z _ _ _ rfl h1 h2 g w) (fun _ hp => by cases hp)) (Tryz.kc (@Tryz.kof89 (Tryz.io x y q z)) (@Tryz.kr0 (Tryz.io x y q z)))) (by decide) Tryz.w89e0A Tryz.w89e0N hx hx2 hy hy2 hq hq2 ht
theorem Tryz.l8a : Tryz.LawC 69 := by
  intro x y q w hx hx2 hy hy2 hq hq2 ht
  obtain ⟨e, he, z, h1, h2, hz⟩ := Tryz.gs8a ⟨hx, hx2⟩ ⟨hy, hy2⟩
  simp only [List.mem_cons, List.not_mem_nil, or_false] at he
  subst he
  exact Tryz.law (x := x) (y := y) (z := z) (l := Tryz.w8ae0) (Tryz.kc (Tryz.fk hz (@Tryz.args3 (Tryz.io x y q z) _ _ _ _ _ _ (@Tryz.num_int (Tryz.io x y q z) _ _) (@Tryz.num_of (Tryz.io x y q z) _ _ _ _ _ _ (@Tryz.B_ok (Tryz.io x y q z) 1 hx hx2)) (@Tryz.num_of (Tryz.io x y q z) _ _ _ _ _ _ (@Tryz.B_ok (Tryz.io x y q z) 2 hy hy2))) (fun g w => @Tryz.res2 (Tryz.io x y q z) _ z _ _ _ rfl h1 h2 g w) (fun _ hp => by cases hp)) (Tryz.kc (@Tryz.kof8a (Tryz.io x y q z)) (@Tryz.kr0 (Tryz.io x y q z)))) (by decide) Tryz.w8ae0A Tryz.w8ae0N hx hx2 hy hy2 hq hq2 ht
theorem Tryz.la7 : Tryz.LawC 98 := by
  intro x y q w hx hx2 hy hy2 hq hq2 ht
  have z : Int := 0
  exact Tryz.law (x := x) (y := y) (z := z) (l := Tryz.wa7z) (Tryz.kc (@Tryz.kofa7 (Tryz.io x y q z)) (@Tryz.kr0 (Tryz.io x y q z))) (by decide) Tryz.wa7zA Tryz.wa7zN hx hx2 hy hy2 hq hq2 ht
theorem Tryz.lac : Tryz.LawC 103 := by
  intro x y q w hx hx2 hy hy2 hq hq2 ht
  have z : Int := 0
  exact Tryz.law (x := x) (y := y) (z := z) (l := Tryz.wacz) (Tryz.kc (@Tryz.kofac (Tryz.io x y q z)) (@Tryz.kr0 (Tryz.io x y q z))) (by decide) Tryz.waczA Tryz.waczN hx hx2 hy hy2 hq hq2 ht
theorem Tryz.lad : Tryz.LawC 104 := by
  intro x y q w hx hx2 hy hy2 hq hq2 ht
  have z : Int := 0
  exact Tryz.law (x := x) (y := y) (z := z) (l := Tryz.wadz) (Tryz.kc (@Tryz.kofad (Tryz.io x y q z)) (@Tryz.kr0 (Tryz.io x y q z))) (by decide) Tryz.wadzA Tryz.wadzN hx hx2 hy hy2 hq hq2 ht
theorem Tryz.lc0 : Tryz.LawC 123 := by
  intro x y q w hx hx2 hy hy2 hq hq2 ht
  have z : Int := 0
  exact Tryz.law (x := x) (y := y) (z := z) (l := Tryz.wc0z) (Tryz.kc (@Tryz.kofc0 (Tryz.io x y q z)) (@Tryz.kr0 (Tryz.io x y q z))) (by decide) Tryz.wc0zA Tryz.wc0zN hx hx2 hy hy2 hq hq2 ht
theorem Tryz.lc1 : Tryz.LawC 124 := by
  intro x y q w hx hx2 hy hy2 hq hq2 ht
  have z : Int := 0
  exact Tryz.law (x := x) (y := y) (z := z) (l := Tryz.wc1z) (Tryz.kc (@Tryz.kofc1 (Tryz.io x y q z)) (@Tryz.kr0 (Tryz.io x y q z))) (by decide) Tryz.wc1zA Tryz.wc1zN hx hx2 hy hy2 hq hq2 ht
theorem Tryz.lc2 : Tryz.LawC 125 := by
  intro x y q w hx hx2 hy hy2 hq hq2 ht
  have z : Int := 0
  exact Tryz.law (x := x) (y := y) (z := z) (l := Tryz.wc2z) (Tryz.kc (@Tryz.kofc2 (Tryz.io x y q z)) (@Tryz.kr0 (Tryz.io x y q z))) (by decide) Tryz.wc2zA Tryz.wc2zN hx hx2 hy hy2 hq hq2 ht
theorem Tryz.lc3 : Tryz.LawC 126 := by
  intro x y q w hx hx2 hy hy2 hq hq2 ht
  have z : Int := 0
  exact Tryz.law (x := x) (y := y) (z := z) (l := Tryz.wc3z) (Tryz.kc (@Tryz.kofc3 (Tryz.io x y q z)) (@Tryz.kr0 (Tryz.io x y q z))) (by decide) Tryz.wc3zA Tryz.wc3zN hx hx2 hy hy2 hq hq2 ht
theorem Tryz.lc4 : Tryz.LawC 127 := by
  intro x y q w hx hx2 hy hy2 hq hq2 ht
  have z : Int := 0
  exact Tryz.law (x := x) (y := y) (z := z) (l := Tryz.wc4z) (Tryz.kc (@Tryz.kofc4 (Tryz.io x y q z)) (@Tryz.kr0 (Tryz.io x y q z))) (by decide) Tryz.wc4zA Tryz.wc4zN hx hx2 hy hy2 hq hq2 ht
theorem Tryz.d22A : isT (Tryz.kC Tryz.r0 3 [Tryz.opA 22, Tryz.B 1, Tryz.B 2] (nilH 0)) = true := by kernel_rfl
theorem Tryz.d22N : isT (Tryz.kC Tryz.r0 3 [Tryz.opN 22, Tryz.B 1, Tryz.B 2] (nilH 0)) = true := by kernel_rfl
theorem Tryz.l5b : Tryz.LawC 22 := by
  intro x y q w hx hx2 hy hy2 hq hq2 ht
  exact Tryz.law (x := x) (y := y) (z := 0) (l := Tryz.r0) (@Tryz.kr0 (Tryz.io x y q 0)) (by decide) Tryz.d22A Tryz.d22N hx hx2 hy hy2 hq hq2 ht
theorem Tryz.d23A : isT (Tryz.kC Tryz.r0 3 [Tryz.opA 23, Tryz.B 1, Tryz.B 2] (nilH 0)) = true := by kernel_rfl
theorem Tryz.d23N : isT (Tryz.kC Tryz.r0 3 [Tryz.opN 23, Tryz.B 1, Tryz.B 2] (nilH 0)) = true := by kernel_rfl
theorem Tryz.l5c : Tryz.LawC 23 := by
  intro x y q w hx hx2 hy hy2 hq hq2 ht
  exact Tryz.law (x := x) (y := y) (z := 0) (l := Tryz.r0) (@Tryz.kr0 (Tryz.io x y q 0)) (by decide) Tryz.d23A Tryz.d23N hx hx2 hy hy2 hq hq2 ht
theorem Tryz.d24A : isT (Tryz.kC Tryz.r0 3 [Tryz.opA 24, Tryz.B 1, Tryz.B 2] (nilH 0)) = true := by kernel_rfl
theorem Tryz.d24N : isT (Tryz.kC Tryz.r0 3 [Tryz.opN 24, Tryz.B 1, Tryz.B 2] (nilH 0)) = true := by kernel_rfl
theorem Tryz.l5d : Tryz.LawC 24 := by
  intro x y q w hx hx2 hy hy2 hq hq2 ht
  exact Tryz.law (x := x) (y := y) (z := 0) (l := Tryz.r0) (@Tryz.kr0 (Tryz.io x y q 0)) (by decide) Tryz.d24A Tryz.d24N hx hx2 hy hy2 hq hq2 ht
theorem Tryz.d25A : isT (Tryz.kC Tryz.r0 3 [Tryz.opA 25, Tryz.B 1, Tryz.B 2] (nilH 0)) = true := by kernel_rfl
theorem Tryz.d25N : isT (Tryz.kC Tryz.r0 3 [Tryz.opN 25, Tryz.B 1, Tryz.B 2] (nilH 0)) = true := by kernel_rfl
theorem Tryz.l5e : Tryz.LawC 25 := by
  intro x y q w hx hx2 hy hy2 hq hq2 ht
  exact Tryz.law (x := x) (y := y) (z := 0) (l := Tryz.r0) (@Tryz.kr0 (Tryz.io x y q 0)) (by decide) Tryz.d25A Tryz.d25N hx hx2 hy hy2 hq hq2 ht
theorem Tryz.d26A : isT (Tryz.kC Tryz.r0 3 [Tryz.opA 26, Tryz.B 1, Tryz.B 2] (nilH 0)) = true := by kernel_rfl
theorem Tryz.d26N : isT (Tryz.kC Tryz.r0 3 [Tryz.opN 26, Tryz.B 1, Tryz.B 2] (nilH 0)) = true := by kernel_rfl
theorem Tryz.l5f : Tryz.LawC 26 := by
  intro x y q w hx hx2 hy hy2 hq hq2 ht
  exact Tryz.law (x := x) (y := y) (z := 0) (l := Tryz.r0) (@Tryz.kr0 (Tryz.io x y q 0)) (by decide) Tryz.d26A Tryz.d26N hx hx2 hy hy2 hq hq2 ht
theorem Tryz.d27A : isT (Tryz.kC Tryz.r0 3 [Tryz.opA 27, Tryz.B 1, Tryz.B 2] (nilH 0)) = true := by kernel_rfl
theorem Tryz.d27N : isT (Tryz.kC Tryz.r0 3 [Tryz.opN 27, Tryz.B 1, Tryz.B 2] (nilH 0)) = true := by kernel_rfl
theorem Tryz.l60 : Tryz.LawC 27 := by
  intro x y q w hx hx2 hy hy2 hq hq2 ht
  exact Tryz.law (x := x) (y := y) (z := 0) (l := Tryz.r0) (@Tryz.kr0 (Tryz.io x y q 0)) (by decide) Tryz.d27A Tryz.d27N hx hx2 hy hy2 hq hq2 ht
theorem Tryz.d28A : isT (Tryz.kC Tryz.r0 3 [Tryz.opA 28, Tryz.B 1, Tryz.B 2] (nilH 0)) = true := by kernel_rfl
theorem Tryz.d28N : isT (Tryz.kC Tryz.r0 3 [Tryz.opN 28, Tryz.B 1, Tryz.B 2] (nilH 0)) = true := by kernel_rfl
theorem Tryz.l61 : Tryz.LawC 28 := by
  intro x y q w hx hx2 hy hy2 hq hq2 ht
  exact Tryz.law (x := x) (y := y) (z := 0) (l := Tryz.r0) (@Tryz.kr0 (Tryz.io x y q 0)) (by decide) Tryz.d28A Tryz.d28N hx hx2 hy hy2 hq hq2 ht
theorem Tryz.d29A : isT (Tryz.kC Tryz.r0 3 [Tryz.opA 29, Tryz.B 1, Tryz.B 2] (nilH 0)) = true := by kernel_rfl
theorem Tryz.d29N : isT (Tryz.kC Tryz.r0 3 [Tryz.opN 29, Tryz.B 1, Tryz.B 2] (nilH 0)) = true := by kernel_rfl
theorem Tryz.l62 : Tryz.LawC 29 := by
  intro x y q w hx hx2 hy hy2 hq hq2 ht
  exact Tryz.law (x := x) (y := y) (z := 0) (l := Tryz.r0) (@Tryz.kr0 (Tryz.io x y q 0)) (by decide) Tryz.d29A Tryz.d29N hx hx2 hy hy2 hq hq2 ht
theorem Tryz.d30A : isT (Tryz.kC Tryz.r0 3 [Tryz.opA 30, Tryz.B 1, Tryz.B 2] (nilH 0)) = true := by kernel_rfl
theorem Tryz.d30N : isT (Tryz.kC Tryz.r0 3 [Tryz.opN 30, Tryz.B 1, Tryz.B 2] (nilH 0)) = true := by kernel_rfl
theorem Tryz.l63 : Tryz.LawC 30 := by
  intro x y q w hx hx2 hy hy2 hq hq2 ht
  exact Tryz.law (x := x) (y := y) (z := 0) (l := Tryz.r0) (@Tryz.kr0 (Tryz.io x y q 0)) (by decide) Tryz.d30A Tryz.d30N hx hx2 hy hy2 hq hq2 ht
theorem Tryz.d31A : isT (Tryz.kC Tryz.r0 3 [Tryz.opA 31, Tryz.B 1, Tryz.B 2] (nilH 0)) = true := by kernel_rfl
theorem Tryz.d31N : isT (Tryz.kC Tryz.r0 3 [Tryz.opN 31, Tryz.B 1, Tryz.B 2] (nilH 0)) = true := by kernel_rfl
theorem Tryz.l64 : Tryz.LawC 31 := by
  intro x y q w hx hx2 hy hy2 hq hq2 ht
  exact Tryz.law (x := x) (y := y) (z := 0) (l := Tryz.r0) (@Tryz.kr0 (Tryz.io x y q 0)) (by decide) Tryz.d31A Tryz.d31N hx hx2 hy hy2 hq hq2 ht
theorem Tryz.d32A : isT (Tryz.kC Tryz.r0 3 [Tryz.opA 32, Tryz.B 1, Tryz.B 2] (nilH 0)) = true := by kernel_rfl
theorem Tryz.d32N : isT (Tryz.kC Tryz.r0 3 [Tryz.opN 32, Tryz.B 1, Tryz.B 2] (nilH 0)) = true := by kernel_rfl
theorem Tryz.l65 : Tryz.LawC 32 := by
  intro x y q w hx hx2 hy hy2 hq hq2 ht
  exact Tryz.law (x := x) (y := y) (z := 0) (l := Tryz.r0) (@Tryz.kr0 (Tryz.io x y q 0)) (by decide) Tryz.d32A Tryz.d32N hx hx2 hy hy2 hq hq2 ht
theorem Tryz.d33A : isT (Tryz.kC Tryz.r0 3 [Tryz.opA 33, Tryz.B 1, Tryz.B 2] (nilH 0)) = true := by kernel_rfl
theorem Tryz.d33N : isT (Tryz.kC Tryz.r0 3 [Tryz.opN 33, Tryz.B 1, Tryz.B 2] (nilH 0)) = true := by kernel_rfl
theorem Tryz.l66 : Tryz.LawC 33 := by
  intro x y q w hx hx2 hy hy2 hq hq2 ht
  exact Tryz.law (x := x) (y := y) (z := 0) (l := Tryz.r0) (@Tryz.kr0 (Tryz.io x y q 0)) (by decide) Tryz.d33A Tryz.d33N hx hx2 hy hy2 hq hq2 ht
theorem Tryz.d70A : isT (Tryz.kC Tryz.r0 3 [Tryz.opA 70, Tryz.B 1, Tryz.B 2] (nilH 0)) = true := by kernel_rfl
theorem Tryz.d70N : isT (Tryz.kC Tryz.r0 3 [Tryz.opN 70, Tryz.B 1, Tryz.B 2] (nilH 0)) = true := by kernel_rfl
theorem Tryz.l8b : Tryz.LawC 70 := by
  intro x y q w hx hx2 hy hy2 hq hq2 ht
  exact Tryz.law (x := x) (y := y) (z := 0) (l := Tryz.r0) (@Tryz.kr0 (Tryz.io x y q 0)) (by decide) Tryz.d70A Tryz.d70N hx hx2 hy hy2 hq hq2 ht
theorem Tryz.d71A : isT (Tryz.kC Tryz.r0 3 [Tryz.opA 71, Tryz.B 1, Tryz.B 2] (nilH 0)) = true := by kernel_rfl
theorem Tryz.d71N : isT (Tryz.kC Tryz.r0 3 [Tryz.opN 71, Tryz.B 1, Tryz.B 2] (nilH 0)) = true := by kernel_rfl
theorem Tryz.l8c : Tryz.LawC 71 := by
  intro x y q w hx hx2 hy hy2 hq hq2 ht
  exact Tryz.law (x := x) (y := y) (z := 0) (l := Tryz.r0) (@Tryz.kr0 (Tryz.io x y q 0)) (by decide) Tryz.d71A Tryz.d71N hx hx2 hy hy2 hq hq2 ht
theorem Tryz.d72A : isT (Tryz.kC Tryz.r0 3 [Tryz.opA 72, Tryz.B 1, Tryz.B 2] (nilH 0)) = true := by kernel_rfl
theorem Tryz.d72N : isT (Tryz.kC Tryz.r0 3 [Tryz.opN 72, Tryz.B 1, Tryz.B 2] (nilH 0)) = true := by kernel_rfl
theorem Tryz.l8d : Tryz.LawC 72 := by
  intro x y q w hx hx2 hy hy2 hq hq2 ht
  exact Tryz.law (x := x) (y := y) (z := 0) (l := Tryz.r0) (@Tryz.kr0 (Tryz.io x y q 0)) (by decide) Tryz.d72A Tryz.d72N hx hx2 hy hy2 hq hq2 ht
theorem Tryz.d73A : isT (Tryz.kC Tryz.r0 3 [Tryz.opA 73, Tryz.B 1, Tryz.B 2] (nilH 0)) = true := by kernel_rfl
theorem Tryz.d73N : isT (Tryz.kC Tryz.r0 3 [Tryz.opN 73, Tryz.B 1, Tryz.B 2] (nilH 0)) = true := by kernel_rfl
theorem Tryz.l8e : Tryz.LawC 73 := by
  intro x y q w hx hx2 hy hy2 hq hq2 ht
  exact Tryz.law (x := x) (y := y) (z := 0) (l := Tryz.r0) (@Tryz.kr0 (Tryz.io x y q 0)) (by decide) Tryz.d73A Tryz.d73N hx hx2 hy hy2 hq hq2 ht
theorem Tryz.d74A : isT (Tryz.kC Tryz.r0 3 [Tryz.opA 74, Tryz.B 1, Tryz.B 2] (nilH 0)) = true := by kernel_rfl
theorem Tryz.d74N : isT (Tryz.kC Tryz.r0 3 [Tryz.opN 74, Tryz.B 1, Tryz.B 2] (nilH 0)) = true := by kernel_rfl
theorem Tryz.l8f : Tryz.LawC 74 := by
  intro x y q w hx hx2 hy hy2 hq hq2 ht
  exact Tryz.law (x := x) (y := y) (z := 0) (l := Tryz.r0) (@Tryz.kr0 (Tryz.io x y q 0)) (by decide) Tryz.d74A Tryz.d74N hx hx2 hy hy2 hq hq2 ht
theorem Tryz.d75A : isT (Tryz.kC Tryz.r0 3 [Tryz.opA 75, Tryz.B 1, Tryz.B 2] (nilH 0)) = true := by kernel_rfl
theorem Tryz.d75N : isT (Tryz.kC Tryz.r0 3 [Tryz.opN 75, Tryz.B 1, Tryz.B 2] (nilH 0)) = true := by kernel_rfl
theorem Tryz.l90 : Tryz.LawC 75 := by
  intro x y q w hx hx2 hy hy2 hq hq2 ht
  exact Tryz.law (x := x) (y := y) (z := 0) (l := Tryz.r0) (@Tryz.kr0 (Tryz.io x y q 0)) (by decide) Tryz.d75A Tryz.d75N hx hx2 hy hy2 hq hq2 ht
theorem Tryz.d76A : isT (Tryz.kC Tryz.r0 3 [Tryz.opA 76, Tryz.B 1, Tryz.B 2] (nilH 0)) = true := by kernel_rfl
theorem Tryz.d76N : isT (Tryz.kC Tryz.r0 3 [Tryz.opN 76, Tryz.B 1, Tryz.B 2] (nilH 0)) = true := by kernel_rfl
theorem Tryz.l91 : Tryz.LawC 76 := by
  intro x y q w hx hx2 hy hy2 hq hq2 ht
  exact Tryz.law (x := x) (y := y) (z := 0) (l := Tryz.r0) (@Tryz.kr0 (Tryz.io x y q 0)) (by decide) Tryz.d76A Tryz.d76N hx hx2 hy hy2 hq hq2 ht
theorem Tryz.d77A : isT (Tryz.kC Tryz.r0 3 [Tryz.opA 77, Tryz.B 1, Tryz.B 2] (nilH 0)) = true := by kernel_rfl
theorem Tryz.d77N : isT (Tryz.kC Tryz.r0 3 [Tryz.opN 77, Tryz.B 1, Tryz.B 2] (nilH 0)) = true := by kernel_rfl
theorem Tryz.l92 : Tryz.LawC 77 := by
  intro x y q w hx hx2 hy hy2 hq hq2 ht
  exact Tryz.law (x := x) (y := y) (z := 0) (l := Tryz.r0) (@Tryz.kr0 (Tryz.io x y q 0)) (by decide) Tryz.d77A Tryz.d77N hx hx2 hy hy2 hq hq2 ht
theorem Tryz.d78A : isT (Tryz.kC Tryz.r0 3 [Tryz.opA 78, Tryz.B 1, Tryz.B 2] (nilH 0)) = true := by kernel_rfl
theorem Tryz.d78N : isT (Tryz.kC Tryz.r0 3 [Tryz.opN 78, Tryz.B 1, Tryz.B 2] (nilH 0)) = true := by kernel_rfl
theorem Tryz.l93 : Tryz.LawC 78 := by
  intro x y q w hx hx2 hy hy2 hq hq2 ht
  exact Tryz.law (x := x) (y := y) (z := 0) (l := Tryz.r0) (@Tryz.kr0 (Tryz.io x y q 0)) (by decide) Tryz.d78A Tryz.d78N hx hx2 hy hy2 hq hq2 ht
theorem Tryz.d79A : isT (Tryz.kC Tryz.r0 3 [Tryz.opA 79, Tryz.B 1, Tryz.B 2] (nilH 0)) = true := by kernel_rfl
theorem Tryz.d79N : isT (Tryz.kC Tryz.r0 3 [Tryz.opN 79, Tryz.B 1, Tryz.B 2] (nilH 0)) = true := by kernel_rfl
theorem Tryz.l94 : Tryz.LawC 79 := by
  intro x y q w hx hx2 hy hy2 hq hq2 ht
  exact Tryz.law (x := x) (y := y) (z := 0) (l := Tryz.r0) (@Tryz.kr0 (Tryz.io x y q 0)) (by decide) Tryz.d79A Tryz.d79N hx hx2 hy hy2 hq hq2 ht
theorem Tryz.d80A : isT (Tryz.kC Tryz.r0 3 [Tryz.opA 80, Tryz.B 1, Tryz.B 2] (nilH 0)) = true := by kernel_rfl
theorem Tryz.d80N : isT (Tryz.kC Tryz.r0 3 [Tryz.opN 80, Tryz.B 1, Tryz.B 2] (nilH 0)) = true := by kernel_rfl
theorem Tryz.l95 : Tryz.LawC 80 := by
  intro x y q w hx hx2 hy hy2 hq hq2 ht
  exact Tryz.law (x := x) (y := y) (z := 0) (l := Tryz.r0) (@Tryz.kr0 (Tryz.io x y q 0)) (by decide) Tryz.d80A Tryz.d80N hx hx2 hy hy2 hq hq2 ht
theorem Tryz.d81A : isT (Tryz.kC Tryz.r0 3 [Tryz.opA 81, Tryz.B 1, Tryz.B 2] (nilH 0)) = true := by kernel_rfl
theorem Tryz.d81N : isT (Tryz.kC Tryz.r0 3 [Tryz.opN 81, Tryz.B 1, Tryz.B 2] (nilH 0)) = true := by kernel_rfl
theorem Tryz.l96 : Tryz.LawC 81 := by
  intro x y q w hx hx2 hy hy2 hq hq2 ht
  exact Tryz.law (x := x) (y := y) (z := 0) (l := Tryz.r0) (@Tryz.kr0 (Tryz.io x y q 0)) (by decide) Tryz.d81A Tryz.d81N hx hx2 hy hy2 hq hq2 ht
theorem Tryz.d82A : isT (Tryz.kC Tryz.r0 3 [Tryz.opA 82, Tryz.B 1, Tryz.B 2] (nilH 0)) = true := by kernel_rfl
theorem Tryz.d82N : isT (Tryz.kC Tryz.r0 3 [Tryz.opN 82, Tryz.B 1, Tryz.B 2] (nilH 0)) = true := by kernel_rfl
theorem Tryz.l97 : Tryz.LawC 82 := by
  intro x y q w hx hx2 hy hy2 hq hq2 ht
  exact Tryz.law (x := x) (y := y) (z := 0) (l := Tryz.r0) (@Tryz.kr0 (Tryz.io x y q 0)) (by decide) Tryz.d82A Tryz.d82N hx hx2 hy hy2 hq hq2 ht
theorem Tryz.d83A : isT (Tryz.kC Tryz.r0 3 [Tryz.opA 83, Tryz.B 1, Tryz.B 2] (nilH 0)) = true := by kernel_rfl
theorem Tryz.d83N : isT (Tryz.kC Tryz.r0 3 [Tryz.opN 83, Tryz.B 1, Tryz.B 2] (nilH 0)) = true := by kernel_rfl
theorem Tryz.l98 : Tryz.LawC 83 := by
  intro x y q w hx hx2 hy hy2 hq hq2 ht
  exact Tryz.law (x := x) (y := y) (z := 0) (l := Tryz.r0) (@Tryz.kr0 (Tryz.io x y q 0)) (by decide) Tryz.d83A Tryz.d83N hx hx2 hy hy2 hq hq2 ht
theorem Tryz.d84A : isT (Tryz.kC Tryz.r0 3 [Tryz.opA 84, Tryz.B 1, Tryz.B 2] (nilH 0)) = true := by kernel_rfl
theorem Tryz.d84N : isT (Tryz.kC Tryz.r0 3 [Tryz.opN 84, Tryz.B 1, Tryz.B 2] (nilH 0)) = true := by kernel_rfl
theorem Tryz.l99 : Tryz.LawC 84 := by
  intro x y q w hx hx2 hy hy2 hq hq2 ht
  exact Tryz.law (x := x) (y := y) (z := 0) (l := Tryz.r0) (@Tryz.kr0 (Tryz.io x y q 0)) (by decide) Tryz.d84A Tryz.d84N hx hx2 hy hy2 hq hq2 ht
theorem Tryz.d85A : isT (Tryz.kC Tryz.r0 3 [Tryz.opA 85, Tryz.B 1, Tryz.B 2] (nilH 0)) = true := by kernel_rfl
theorem Tryz.d85N : isT (Tryz.kC Tryz.r0 3 [Tryz.opN 85, Tryz.B 1, Tryz.B 2] (nilH 0)) = true := by kernel_rfl
theorem Tryz.l9a : Tryz.LawC 85 := by
  intro x y q w hx hx2 hy hy2 hq hq2 ht
  exact Tryz.law (x := x) (y := y) (z := 0) (l := Tryz.r0) (@Tryz.kr0 (Tryz.io x y q 0)) (by decide) Tryz.d85A Tryz.d85N hx hx2 hy hy2 hq hq2 ht
theorem Tryz.d86A : isT (Tryz.kC Tryz.r0 3 [Tryz.opA 86, Tryz.B 1, Tryz.B 2] (nilH 0)) = true := by kernel_rfl
theorem Tryz.d86N : isT (Tryz.kC Tryz.r0 3 [Tryz.opN 86, Tryz.B 1, Tryz.B 2] (nilH 0)) = true := by kernel_rfl
theorem Tryz.l9b : Tryz.LawC 86 := by
  intro x y q w hx hx2 hy hy2 hq hq2 ht
  exact Tryz.law (x := x) (y := y) (z := 0) (l := Tryz.r0) (@Tryz.kr0 (Tryz.io x y q 0)) (by decide) Tryz.d86A Tryz.d86N hx hx2 hy hy2 hq hq2 ht
theorem Tryz.d87A : isT (Tryz.kC Tryz.r0 3 [Tryz.opA 87, Tryz.B 1, Tryz.B 2] (nilH 0)) = true := by kernel_rfl
theorem Tryz.d87N : isT (Tryz.kC Tryz.r0 3 [Tryz.opN 87, Tryz.B 1, Tryz.B 2] (nilH 0)) = true := by kernel_rfl
theorem Tryz.l9c : Tryz.LawC 87 := by
  intro x y q w hx hx2 hy hy2 hq hq2 ht
  exact Tryz.law (x := x) (y := y) (z := 0) (l := Tryz.r0) (@Tryz.kr0 (Tryz.io x y q 0)) (by decide) Tryz.d87A Tryz.d87N hx hx2 hy hy2 hq hq2 ht
theorem Tryz.d88A : isT (Tryz.kC Tryz.r0 3 [Tryz.opA 88, Tryz.B 1, Tryz.B 2] (nilH 0)) = true := by kernel_rfl
theorem Tryz.d88N : isT (Tryz.kC Tryz.r0 3 [Tryz.opN 88, Tryz.B 1, Tryz.B 2] (nilH 0)) = true := by kernel_rfl
theorem Tryz.l9d : Tryz.LawC 88 := by
  intro x y q w hx hx2 hy hy2 hq hq2 ht
  exact Tryz.law (x := x) (y := y) (z := 0) (l := Tryz.r0) (@Tryz.kr0 (Tryz.io x y q 0)) (by decide) Tryz.d88A Tryz.d88N hx hx2 hy hy2 hq hq2 ht
theorem Tryz.d89A : isT (Tryz.kC Tryz.r0 3 [Tryz.opA 89, Tryz.B 1, Tryz.B 2] (nilH 0)) = true := by kernel_rfl
theorem Tryz.d89N : isT (Tryz.kC Tryz.r0 3 [Tryz.opN 89, Tryz.B 1, Tryz.B 2] (nilH 0)) = true := by kernel_rfl
theorem Tryz.l9e : Tryz.LawC 89 := by
  intro x y q w hx hx2 hy hy2 hq hq2 ht
  exact Tryz.law (x := x) (y := y) (z := 0) (l := Tryz.r0) (@Tryz.kr0 (Tryz.io x y q 0)) (by decide) Tryz.d89A Tryz.d89N hx hx2 hy hy2 hq hq2 ht
theorem Tryz.d90A : isT (Tryz.kC Tryz.r0 3 [Tryz.opA 90, Tryz.B 1, Tryz.B 2] (nilH 0)) = true := by kernel_rfl
theorem Tryz.d90N : isT (Tryz.kC Tryz.r0 3 [Tryz.opN 90, Tryz.B 1, Tryz.B 2] (nilH 0)) = true := by kernel_rfl
theorem Tryz.l9f : Tryz.LawC 90 := by
  intro x y q w hx hx2 hy hy2 hq hq2 ht
  exact Tryz.law (x := x) (y := y) (z := 0) (l := Tryz.r0) (@Tryz.kr0 (Tryz.io x y q 0)) (by decide) Tryz.d90A Tryz.d90N hx hx2 hy hy2 hq hq2 ht
theorem Tryz.d91A : isT (Tryz.kC Tryz.r0 3 [Tryz.opA 91, Tryz.B 1, Tryz.B 2] (nilH 0)) = true := by kernel_rfl
theorem Tryz.d91N : isT (Tryz.kC Tryz.r0 3 [Tryz.opN 91, Tryz.B 1, Tryz.B 2] (nilH 0)) = true := by kernel_rfl
theorem Tryz.la0 : Tryz.LawC 91 := by
  intro x y q w hx hx2 hy hy2 hq hq2 ht
  exact Tryz.law (x := x) (y := y) (z := 0) (l := Tryz.r0) (@Tryz.kr0 (Tryz.io x y q 0)) (by decide) Tryz.d91A Tryz.d91N hx hx2 hy hy2 hq hq2 ht
theorem Tryz.d92A : isT (Tryz.kC Tryz.r0 3 [Tryz.opA 92, Tryz.B 1, Tryz.B 2] (nilH 0)) = true := by kernel_rfl
theorem Tryz.d92N : isT (Tryz.kC Tryz.r0 3 [Tryz.opN 92, Tryz.B 1, Tryz.B 2] (nilH 0)) = true := by kernel_rfl
theorem Tryz.la1 : Tryz.LawC 92 := by
  intro x y q w hx hx2 hy hy2 hq hq2 ht
  exact Tryz.law (x := x) (y := y) (z := 0) (l := Tryz.r0) (@Tryz.kr0 (Tryz.io x y q 0)) (by decide) Tryz.d92A Tryz.d92N hx hx2 hy hy2 hq hq2 ht
theorem Tryz.d93A : isT (Tryz.kC Tryz.r0 3 [Tryz.opA 93, Tryz.B 1, Tryz.B 2] (nilH 0)) = true := by kernel_rfl
theorem Tryz.d93N : isT (Tryz.kC Tryz.r0 3 [Tryz.opN 93, Tryz.B 1, Tryz.B 2] (nilH 0)) = true := by kernel_rfl
theorem Tryz.la2 : Tryz.LawC 93 := by
  intro x y q w hx hx2 hy hy2 hq hq2 ht
  exact Tryz.law (x := x) (y := y) (z := 0) (l := Tryz.r0) (@Tryz.kr0 (Tryz.io x y q 0)) (by decide) Tryz.d93A Tryz.d93N hx hx2 hy hy2 hq hq2 ht
theorem Tryz.d94A : isT (Tryz.kC Tryz.r0 3 [Tryz.opA 94, Tryz.B 1, Tryz.B 2] (nilH 0)) = true := by kernel_rfl
theorem Tryz.d94N : isT (Tryz.kC Tryz.r0 3 [Tryz.opN 94, Tryz.B 1, Tryz.B 2] (nilH 0)) = true := by kernel_rfl
theorem Tryz.la3 : Tryz.LawC 94 := by
  intro x y q w hx hx2 hy hy2 hq hq2 ht
  exact Tryz.law (x := x) (y := y) (z := 0) (l := Tryz.r0) (@Tryz.kr0 (Tryz.io x y q 0)) (by decide) Tryz.d94A Tryz.d94N hx hx2 hy hy2 hq hq2 ht
theorem Tryz.d95A : isT (Tryz.kC Tryz.r0 3 [Tryz.opA 95, Tryz.B 1, Tryz.B 2] (nilH 0)) = true := by kernel_rfl
theorem Tryz.d95N : isT (Tryz.kC Tryz.r0 3 [Tryz.opN 95, Tryz.B 1, Tryz.B 2] (nilH 0)) = true := by kernel_rfl
theorem Tryz.la4 : Tryz.LawC 95 := by
  intro x y q w hx hx2 hy hy2 hq hq2 ht
  exact Tryz.law (x := x) (y := y) (z := 0) (l := Tryz.r0) (@Tryz.kr0 (Tryz.io x y q 0)) (by decide) Tryz.d95A Tryz.d95N hx hx2 hy hy2 hq hq2 ht
theorem Tryz.d96A : isT (Tryz.kC Tryz.r0 3 [Tryz.opA 96, Tryz.B 1, Tryz.B 2] (nilH 0)) = true := by kernel_rfl
theorem Tryz.d96N : isT (Tryz.kC Tryz.r0 3 [Tryz.opN 96, Tryz.B 1, Tryz.B 2] (nilH 0)) = true := by kernel_rfl
theorem Tryz.la5 : Tryz.LawC 96 := by
  intro x y q w hx hx2 hy hy2 hq hq2 ht
  exact Tryz.law (x := x) (y := y) (z := 0) (l := Tryz.r0) (@Tryz.kr0 (Tryz.io x y q 0)) (by decide) Tryz.d96A Tryz.d96N hx hx2 hy hy2 hq hq2 ht
theorem Tryz.d97A : isT (Tryz.kC Tryz.r0 3 [Tryz.opA 97, Tryz.B 1, Tryz.B 2] (nilH 0)) = true := by kernel_rfl
theorem Tryz.d97N : isT (Tryz.kC Tryz.r0 3 [Tryz.opN 97, Tryz.B 1, Tryz.B 2] (nilH 0)) = true := by kernel_rfl
theorem Tryz.la6 : Tryz.LawC 97 := by
  intro x y q w hx hx2 hy hy2 hq hq2 ht
  exact Tryz.law (x := x) (y := y) (z := 0) (l := Tryz.r0) (@Tryz.kr0 (Tryz.io x y q 0)) (by decide) Tryz.d97A Tryz.d97N hx hx2 hy hy2 hq hq2 ht
theorem Tryz.d99A : isT (Tryz.kC Tryz.r0 3 [Tryz.opA 99, Tryz.B 1, Tryz.B 2] (nilH 0)) = true := by kernel_rfl
theorem Tryz.d99N : isT (Tryz.kC Tryz.r0 3 [Tryz.opN 99, Tryz.B 1, Tryz.B 2] (nilH 0)) = true := by kernel_rfl
theorem Tryz.la8 : Tryz.LawC 99 := by
  intro x y q w hx hx2 hy hy2 hq hq2 ht
  exact Tryz.law (x := x) (y := y) (z := 0) (l := Tryz.r0) (@Tryz.kr0 (Tryz.io x y q 0)) (by decide) Tryz.d99A Tryz.d99N hx hx2 hy hy2 hq hq2 ht
theorem Tryz.d100A : isT (Tryz.kC Tryz.r0 3 [Tryz.opA 100, Tryz.B 1, Tryz.B 2] (nilH 0)) = true := by kernel_rfl
theorem Tryz.d100N : isT (Tryz.kC Tryz.r0 3 [Tryz.opN 100, Tryz.B 1, Tryz.B 2] (nilH 0)) = true := by kernel_rfl
theorem Tryz.la9 : Tryz.LawC 100 := by
  intro x y q w hx hx2 hy hy2 hq hq2 ht
  exact Tryz.law (x := x) (y := y) (z := 0) (l := Tryz.r0) (@Tryz.kr0 (Tryz.io x y q 0)) (by decide) Tryz.d100A Tryz.d100N hx hx2 hy hy2 hq hq2 ht
theorem Tryz.d101A : isT (Tryz.kC Tryz.r0 3 [Tryz.opA 101, Tryz.B 1, Tryz.B 2] (nilH 0)) = true := by kernel_rfl
theorem Tryz.d101N : isT (Tryz.kC Tryz.r0 3 [Tryz.opN 101, Tryz.B 1, Tryz.B 2] (nilH 0)) = true := by kernel_rfl
theorem Tryz.laa : Tryz.LawC 101 := by
  intro x y q w hx hx2 hy hy2 hq hq2 ht
  exact Tryz.law (x := x) (y := y) (z := 0) (l := Tryz.r0) (@Tryz.kr0 (Tryz.io x y q 0)) (by decide) Tryz.d101A Tryz.d101N hx hx2 hy hy2 hq hq2 ht
theorem Tryz.d102A : isT (Tryz.kC Tryz.r0 3 [Tryz.opA 102, Tryz.B 1, Tryz.B 2] (nilH 0)) = true := by kernel_rfl
theorem Tryz.d102N : isT (Tryz.kC Tryz.r0 3 [Tryz.opN 102, Tryz.B 1, Tryz.B 2] (nilH 0)) = true := by kernel_rfl
theorem Tryz.lab : Tryz.LawC 102 := by
  intro x y q w hx hx2 hy hy2 hq hq2 ht
  exact Tryz.law (x := x) (y := y) (z := 0) (l := Tryz.r0) (@Tryz.kr0 (Tryz.io x y q 0)) (by decide) Tryz.d102A Tryz.d102N hx hx2 hy hy2 hq hq2 ht
theorem Tryz.d105A : isT (Tryz.kC Tryz.r0 3 [Tryz.opA 105, Tryz.B 1, Tryz.B 2] (nilH 0)) = true := by kernel_rfl
theorem Tryz.d105N : isT (Tryz.kC Tryz.r0 3 [Tryz.opN 105, Tryz.B 1, Tryz.B 2] (nilH 0)) = true := by kernel_rfl
theorem Tryz.lae : Tryz.LawC 105 := by
  intro x y q w hx hx2 hy hy2 hq hq2 ht
  exact Tryz.law (x := x) (y := y) (z := 0) (l := Tryz.r0) (@Tryz.kr0 (Tryz.io x y q 0)) (by decide) Tryz.d105A Tryz.d105N hx hx2 hy hy2 hq hq2 ht
theorem Tryz.d106A : isT (Tryz.kC Tryz.r0 3 [Tryz.opA 106, Tryz.B 1, Tryz.B 2] (nilH 0)) = true := by kernel_rfl
theorem Tryz.d106N : isT (Tryz.kC Tryz.r0 3 [Tryz.opN 106, Tryz.B 1, Tryz.B 2] (nilH 0)) = true := by kernel_rfl
theorem Tryz.laf : Tryz.LawC 106 := by
  intro x y q w hx hx2 hy hy2 hq hq2 ht
  exact Tryz.law (x := x) (y := y) (z := 0) (l := Tryz.r0) (@Tryz.kr0 (Tryz.io x y q 0)) (by decide) Tryz.d106A Tryz.d106N hx hx2 hy hy2 hq hq2 ht
theorem Tryz.d107A : isT (Tryz.kC Tryz.r0 3 [Tryz.opA 107, Tryz.B 1, Tryz.B 2] (nilH 0)) = true := by kernel_rfl
theorem Tryz.d107N : isT (Tryz.kC Tryz.r0 3 [Tryz.opN 107, Tryz.B 1, Tryz.B 2] (nilH 0)) = true := by kernel_rfl
theorem Tryz.lb0 : Tryz.LawC 107 := by
  intro x y q w hx hx2 hy hy2 hq hq2 ht
  exact Tryz.law (x := x) (y := y) (z := 0) (l := Tryz.r0) (@Tryz.kr0 (Tryz.io x y q 0)) (by decide) Tryz.d107A Tryz.d107N hx hx2 hy hy2 hq hq2 ht
theorem Tryz.d108A : isT (Tryz.kC Tryz.r0 3 [Tryz.opA 108, Tryz.B 1, Tryz.B 2] (nilH 0)) = true := by kernel_rfl
theorem Tryz.d108N : isT (Tryz.kC Tryz.r0 3 [Tryz.opN 108, Tryz.B 1, Tryz.B 2] (nilH 0)) = true := by kernel_rfl
theorem Tryz.lb1 : Tryz.LawC 108 := by
  intro x y q w hx hx2 hy hy2 hq hq2 ht
  exact Tryz.law (x := x) (y := y) (z := 0) (l := Tryz.r0) (@Tryz.kr0 (Tryz.io x y q 0)) (by decide) Tryz.d108A Tryz.d108N hx hx2 hy hy2 hq hq2 ht
theorem Tryz.d109A : isT (Tryz.kC Tryz.r0 3 [Tryz.opA 109, Tryz.B 1, Tryz.B 2] (nilH 0)) = true := by kernel_rfl
theorem Tryz.d109N : isT (Tryz.kC Tryz.r0 3 [Tryz.opN 109, Tryz.B 1, Tryz.B 2] (nilH 0)) = true := by kernel_rfl
theorem Tryz.lb2 : Tryz.LawC 109 := by
  intro x y q w hx hx2 hy hy2 hq hq2 ht
  exact Tryz.law (x := x) (y := y) (z := 0) (l := Tryz.r0) (@Tryz.kr0 (Tryz.io x y q 0)) (by decide) Tryz.d109A Tryz.d109N hx hx2 hy hy2 hq hq2 ht
theorem Tryz.d110A : isT (Tryz.kC Tryz.r0 3 [Tryz.opA 110, Tryz.B 1, Tryz.B 2] (nilH 0)) = true := by kernel_rfl
theorem Tryz.d110N : isT (Tryz.kC Tryz.r0 3 [Tryz.opN 110, Tryz.B 1, Tryz.B 2] (nilH 0)) = true := by kernel_rfl
theorem Tryz.lb3 : Tryz.LawC 110 := by
  intro x y q w hx hx2 hy hy2 hq hq2 ht
  exact Tryz.law (x := x) (y := y) (z := 0) (l := Tryz.r0) (@Tryz.kr0 (Tryz.io x y q 0)) (by decide) Tryz.d110A Tryz.d110N hx hx2 hy hy2 hq hq2 ht
theorem Tryz.d111A : isT (Tryz.kC Tryz.r0 3 [Tryz.opA 111, Tryz.B 1, Tryz.B 2] (nilH 0)) = true := by kernel_rfl
theorem Tryz.d111N : isT (Tryz.kC Tryz.r0 3 [Tryz.opN 111, Tryz.B 1, Tryz.B 2] (nilH 0)) = true := by kernel_rfl
theorem Tryz.lb4 : Tryz.LawC 111 := by
  intro x y q w hx hx2 hy hy2 hq hq2 ht
  exact Tryz.law (x := x) (y := y) (z := 0) (l := Tryz.r0) (@Tryz.kr0 (Tryz.io x y q 0)) (by decide) Tryz.d111A Tryz.d111N hx hx2 hy hy2 hq hq2 ht
theorem Tryz.d112A : isT (Tryz.kC Tryz.r0 3 [Tryz.opA 112, Tryz.B 1, Tryz.B 2] (nilH 0)) = true := by kernel_rfl
theorem Tryz.d112N : isT (Tryz.kC Tryz.r0 3 [Tryz.opN 112, Tryz.B 1, Tryz.B 2] (nilH 0)) = true := by kernel_rfl
theorem Tryz.lb5 : Tryz.LawC 112 := by
  intro x y q w hx hx2 hy hy2 hq hq2 ht
  exact Tryz.law (x := x) (y := y) (z := 0) (l := Tryz.r0) (@Tryz.kr0 (Tryz.io x y q 0)) (by decide) Tryz.d112A Tryz.d112N hx hx2 hy hy2 hq hq2 ht
theorem Tryz.d113A : isT (Tryz.kC Tryz.r0 3 [Tryz.opA 113, Tryz.B 1, Tryz.B 2] (nilH 0)) = true := by kernel_rfl
theorem Tryz.d113N : isT (Tryz.kC Tryz.r0 3 [Tryz.opN 113, Tryz.B 1, Tryz.B 2] (nilH 0)) = true := by kernel_rfl
theorem Tryz.lb6 : Tryz.LawC 113 := by
  intro x y q w hx hx2 hy hy2 hq hq2 ht
  exact Tryz.law (x := x) (y := y) (z := 0) (l := Tryz.r0) (@Tryz.kr0 (Tryz.io x y q 0)) (by decide) Tryz.d113A Tryz.d113N hx hx2 hy hy2 hq hq2 ht
theorem Tryz.d114A : isT (Tryz.kC Tryz.r0 3 [Tryz.opA 114, Tryz.B 1, Tryz.B 2] (nilH 0)) = true := by kernel_rfl
theorem Tryz.d114N : isT (Tryz.kC Tryz.r0 3 [Tryz.opN 114, Tryz.B 1, Tryz.B 2] (nilH 0)) = true := by kernel_rfl
theorem Tryz.lb7 : Tryz.LawC 114 := by
  intro x y q w hx hx2 hy hy2 hq hq2 ht
  exact Tryz.law (x := x) (y := y) (z := 0) (l := Tryz.r0) (@Tryz.kr0 (Tryz.io x y q 0)) (by decide) Tryz.d114A Tryz.d114N hx hx2 hy hy2 hq hq2 ht
theorem Tryz.d115A : isT (Tryz.kC Tryz.r0 3 [Tryz.opA 115, Tryz.B 1, Tryz.B 2] (nilH 0)) = true := by kernel_rfl
theorem Tryz.d115N : isT (Tryz.kC Tryz.r0 3 [Tryz.opN 115, Tryz.B 1, Tryz.B 2] (nilH 0)) = true := by kernel_rfl
theorem Tryz.lb8 : Tryz.LawC 115 := by
  intro x y q w hx hx2 hy hy2 hq hq2 ht
  exact Tryz.law (x := x) (y := y) (z := 0) (l := Tryz.r0) (@Tryz.kr0 (Tryz.io x y q 0)) (by decide) Tryz.d115A Tryz.d115N hx hx2 hy hy2 hq hq2 ht
theorem Tryz.d116A : isT (Tryz.kC Tryz.r0 3 [Tryz.opA 116, Tryz.B 1, Tryz.B 2] (nilH 0)) = true := by kernel_rfl
theorem Tryz.d116N : isT (Tryz.kC Tryz.r0 3 [Tryz.opN 116, Tryz.B 1, Tryz.B 2] (nilH 0)) = true := by kernel_rfl
theorem Tryz.lb9 : Tryz.LawC 116 := by
  intro x y q w hx hx2 hy hy2 hq hq2 ht
  exact Tryz.law (x := x) (y := y) (z := 0) (l := Tryz.r0) (@Tryz.kr0 (Tryz.io x y q 0)) (by decide) Tryz.d116A Tryz.d116N hx hx2 hy hy2 hq hq2 ht
theorem Tryz.d117A : isT (Tryz.kC Tryz.r0 3 [Tryz.opA 117, Tryz.B 1, Tryz.B 2] (nilH 0)) = true := by kernel_rfl
theorem Tryz.d117N : isT (Tryz.kC Tryz.r0 3 [Tryz.opN 117, Tryz.B 1, Tryz.B 2] (nilH 0)) = true := by kernel_rfl
theorem Tryz.lba : Tryz.LawC 117 := by
  intro x y q w hx hx2 hy hy2 hq hq2 ht
  exact Tryz.law (x := x) (y := y) (z := 0) (l := Tryz.r0) (@Tryz.kr0 (Tryz.io x y q 0)) (by decide) Tryz.d117A Tryz.d117N hx hx2 hy hy2 hq hq2 ht
theorem Tryz.d118A : isT (Tryz.kC Tryz.r0 3 [Tryz.opA 118, Tryz.B 1, Tryz.B 2] (nilH 0)) = true := by kernel_rfl
theorem Tryz.d118N : isT (Tryz.kC Tryz.r0 3 [Tryz.opN 118, Tryz.B 1, Tryz.B 2] (nilH 0)) = true := by kernel_rfl
theorem Tryz.lbb : Tryz.LawC 118 := by
  intro x y q w hx hx2 hy hy2 hq hq2 ht
  exact Tryz.law (x := x) (y := y) (z := 0) (l := Tryz.r0) (@Tryz.kr0 (Tryz.io x y q 0)) (by decide) Tryz.d118A Tryz.d118N hx hx2 hy hy2 hq hq2 ht
theorem Tryz.d119A : isT (Tryz.kC Tryz.r0 3 [Tryz.opA 119, Tryz.B 1, Tryz.B 2] (nilH 0)) = true := by kernel_rfl
theorem Tryz.d119N : isT (Tryz.kC Tryz.r0 3 [Tryz.opN 119, Tryz.B 1, Tryz.B 2] (nilH 0)) = true := by kernel_rfl
theorem Tryz.lbc : Tryz.LawC 119 := by
  intro x y q w hx hx2 hy hy2 hq hq2 ht
  exact Tryz.law (x := x) (y := y) (z := 0) (l := Tryz.r0) (@Tryz.kr0 (Tryz.io x y q 0)) (by decide) Tryz.d119A Tryz.d119N hx hx2 hy hy2 hq hq2 ht
theorem Tryz.d120A : isT (Tryz.kC Tryz.r0 3 [Tryz.opA 120, Tryz.B 1, Tryz.B 2] (nilH 0)) = true := by kernel_rfl
theorem Tryz.d120N : isT (Tryz.kC Tryz.r0 3 [Tryz.opN 120, Tryz.B 1, Tryz.B 2] (nilH 0)) = true := by kernel_rfl
theorem Tryz.lbd : Tryz.LawC 120 := by
  intro x y q w hx hx2 hy hy2 hq hq2 ht
  exact Tryz.law (x := x) (y := y) (z := 0) (l := Tryz.r0) (@Tryz.kr0 (Tryz.io x y q 0)) (by decide) Tryz.d120A Tryz.d120N hx hx2 hy hy2 hq hq2 ht
theorem Tryz.d121A : isT (Tryz.kC Tryz.r0 3 [Tryz.opA 121, Tryz.B 1, Tryz.B 2] (nilH 0)) = true := by kernel_rfl
theorem Tryz.d121N : isT (Tryz.kC Tryz.r0 3 [Tryz.opN 121, Tryz.B 1, Tryz.B 2] (nilH 0)) = true := by kernel_rfl
theorem Tryz.lbe : Tryz.LawC 121 := by
  intro x y q w hx hx2 hy hy2 hq hq2 ht
  exact Tryz.law (x := x) (y := y) (z := 0) (l := Tryz.r0) (@Tryz.kr0 (Tryz.io x y q 0)) (by decide) Tryz.d121A Tryz.d121N hx hx2 hy hy2 hq hq2 ht
theorem Tryz.d122A : isT (Tryz.kC Tryz.r0 3 [Tryz.opA 122, Tryz.B 1, Tryz.B 2] (nilH 0)) = true := by kernel_rfl
theorem Tryz.d122N : isT (Tryz.kC Tryz.r0 3 [Tryz.opN 122, Tryz.B 1, Tryz.B 2] (nilH 0)) = true := by kernel_rfl
theorem Tryz.lbf : Tryz.LawC 122 := by
  intro x y q w hx hx2 hy hy2 hq hq2 ht
  exact Tryz.law (x := x) (y := y) (z := 0) (l := Tryz.r0) (@Tryz.kr0 (Tryz.io x y q 0)) (by decide) Tryz.d122A Tryz.d122N hx hx2 hy hy2 hq hq2 ht
theorem Tryz.lall : ∀ c : Nat, c < 128 → Tryz.LawC c
  | 0, _ => Tryz.l45
  | 1, _ => Tryz.l46
  | 2, _ => Tryz.l47
  | 3, _ => Tryz.l48
  | 4, _ => Tryz.l49
  | 5, _ => Tryz.l4a
  | 6, _ => Tryz.l4b
  | 7, _ => Tryz.l4c
  | 8, _ => Tryz.l4d
  | 9, _ => Tryz.l4e
  | 10, _ => Tryz.l4f
  | 11, _ => Tryz.l50
  | 12, _ => Tryz.l51
  | 13, _ => Tryz.l52
  | 14, _ => Tryz.l53
  | 15, _ => Tryz.l54
  | 16, _ => Tryz.l55
  | 17, _ => Tryz.l56
  | 18, _ => Tryz.l57
  | 19, _ => Tryz.l58
  | 20, _ => Tryz.l59
  | 21, _ => Tryz.l5a
  | 22, _ => Tryz.l5b
  | 23, _ => Tryz.l5c
  | 24, _ => Tryz.l5d
  | 25, _ => Tryz.l5e
  | 26, _ => Tryz.l5f
  | 27, _ => Tryz.l60
  | 28, _ => Tryz.l61
  | 29, _ => Tryz.l62
  | 30, _ => Tryz.l63
  | 31, _ => Tryz.l64
  | 32, _ => Tryz.l65
  | 33, _ => Tryz.l66
  | 34, _ => Tryz.l67
  | 35, _ => Tryz.l68
  | 36, _ => Tryz.l69
  | 37, _ => Tryz.l6a
  | 38, _ => Tryz.l6b
  | 39, _ => Tryz.l6c
  | 40, _ => Tryz.l6d
  | 41, _ => Tryz.l6e
  | 42, _ => Tryz.l6f
  | 43, _ => Tryz.l70
  | 44, _ => Tryz.l71
  | 45, _ => Tryz.l72
  | 46, _ => Tryz.l73
  | 47, _ => Tryz.l74
  | 48, _ => Tryz.l75
  | 49, _ => Tryz.l76
  | 50, _ => Tryz.l77
  | 51, _ => Tryz.l78
  | 52, _ => Tryz.l79
  | 53, _ => Tryz.l7a
  | 54, _ => Tryz.l7b
  | 55, _ => Tryz.l7c
  | 56, _ => Tryz.l7d
  | 57, _ => Tryz.l7e
  | 58, _ => Tryz.l7f
  | 59, _ => Tryz.l80
  | 60, _ => Tryz.l81
  | 61, _ => Tryz.l82
  | 62, _ => Tryz.l83
  | 63, _ => Tryz.l84
  | 64, _ => Tryz.l85
  | 65, _ => Tryz.l86
  | 66, _ => Tryz.l87
  | 67, _ => Tryz.l88
  | 68, _ => Tryz.l89
  | 69, _ => Tryz.l8a
  | 70, _ => Tryz.l8b
  | 71, _ => Tryz.l8c
  | 72, _ => Tryz.l8d
  | 73, _ => Tryz.l8e
  | 74, _ => Tryz.l8f
  | 75, _ => Tryz.l90
  | 76, _ => Tryz.l91
  | 77, _ => Tryz.l92
  | 78, _ => Tryz.l93
  | 79, _ => Tryz.l94
  | 80, _ => Tryz.l95
  | 81, _ => Tryz.l96
  | 82, _ => Tryz.l97
  | 83, _ => Tryz.l98
  | 84, _ => Tryz.l99
  | 85, _ => Tryz.l9a
  | 86, _ => Tryz.l9b
  | 87, _ => Tryz.l9c
  | 88, _ => Tryz.l9d
  | 89, _ => Tryz.l9e
  | 90, _ => Tryz.l9f
  | 91, _ => Tryz.la0
  | 92, _ => Tryz.la1
  | 93, _ => Tryz.la2
  | 94, _ => Tryz.la3
  | 95, _ => Tryz.la4
  | 96, _ => Tryz.la5
  | 97, _ => Tryz.la6
  | 98, _ => Tryz.la7
  | 99, _ => Tryz.la8
  | 100, _ => Tryz.la9
  | 101, _ => Tryz.laa
  | 102, _ => Tryz.lab
  | 103, _ => Tryz.lac
  | 104, _ => Tryz.lad
  | 105, _ => Tryz.lae
  | 106, _ => Tryz.laf
  | 107, _ => Tryz.lb0
  | 108, _ => Tryz.lb1
  | 109, _ => Tryz.lb2
  | 110, _ => Tryz.lb3
  | 111, _ => Tryz.lb4
  | 112, _ => Tryz.lb5
  | 113, _ => Tryz.lb6
  | 114, _ => Tryz.lb7
  | 115, _ => Tryz.lb8
  | 116, _ => Tryz.lb9
  | 117, _ => Tryz.lba
  | 118, _ => Tryz.lbb
  | 119, _ => Tryz.lbc
  | 120, _ => Tryz.lbd
  | 121, _ => Tryz.lbe
  | 122, _ => Tryz.lbf
  | 123, _ => Tryz.lc0
  | 124, _ => Tryz.lc1
  | 125, _ => Tryz.lc2
  | 126, _ => Tryz.lc3
  | 127, _ => Tryz.lc4
  | n + 128, h => absurd h (by omega)
/-- InterpNumbers of every three numbers is true; nothing old turns. -/
theorem Tryz.in_all (o x y : Int) (ho : -9223372036854775808 ≤ o ∧ o ≤ 9223372036854775807) (hx : 0 ≤ x ∧ x ≤ 18446744073709551615) (hy : 0 ≤ y ∧ y ≤ 18446744073709551615) (w : World) (ht : Tryz.TabW w) :
    Calls Tryz.prog 3 #[.int .i64 o, .int .u64 x, .int .u64 y] w fun e w' => e = .returned (.bool true) ∧ Go.RowKit.Below w.heap.size w w' := by
  obtain ⟨c, hc, e⟩ : ∃ c : Nat, c < 128 ∧ 128 * (o / 128) + (c : Int) = o := ⟨(o % 128).toNat, by omega, by omega⟩
  have := Tryz.lall c hc x y (o / 128) w hx.1 hx.2 hy.1 hy.2 (by omega) (by omega) ht
  rwa [e] at this
end Go.Proofs
