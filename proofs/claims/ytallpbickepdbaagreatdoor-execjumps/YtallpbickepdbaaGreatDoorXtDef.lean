import Derived.Test.YtallpbickepdbaaGreatDoorXlBody
import Derived.Test.YtallpbickepdbaaGreatDoorAb42
import Derived.KernelRfl
namespace Go.Proofs
open Go.Ab
set_option maxRecDepth 1000000
noncomputable def Tryz.c0 : CallF := aCall Tryz.fb.get 1000 40
theorem Tryz.lB49_ok (J : Io) (c : CallF) (hc : @CallOk J Tryz.prog c) (n : Nat) : @CdOk J Tryz.prog 101 (lpOf 6 (bodyOf Tryz.f49)) (Tryz.lB49 c n) := by
  rw [Tryz.lB49_eq]
  exact code_ok hc (fun id ops => draw_ok Tryz.mixed _ _ hc id ops) n _
theorem Tryz.body49 : Tryz.f49.body = some (bodyOf Tryz.f49) := by
  have h : Tryz.f49.body.isSome = true := by kernel_rfl
  unfold bodyOf
  cases e : Tryz.f49.body with
  | none => rw [e] at h; cases h
  | some c => rfl
theorem Tryz.cls [Io] (c : CallF) (hc : CallOk Tryz.prog c) (n : Nat) : CdOk Tryz.prog 101 (.loop (lpOf 6 (bodyOf Tryz.f49))) (cLp n (Tryz.lB49 c n)) := by
  have := code_ok hc (draw := cDraw Tryz.prog c 101) (nt := 101) (fun id ops => draw_ok Tryz.mixed _ _ hc id ops) n (.loop (lpOf 6 (bodyOf Tryz.f49)))
  rw [Tryz.lB49_eq]
  exact this
noncomputable def Tryz.tLt : List (Nat × AV) := [(0, .ref 906 0), (6, .sc (.slice none 0 0)), (7, .ref 902 0), (8, .ref 908 0)]
noncomputable def Tryz.tRows (fuel hops x stack scell : AV) (scells : List AV) (at' err : Int) : List (Nat × List AV) := [(906, [.any, fuel, hops, .int .i64 1, .int .i64 err]),
  (908, [.ref 906 0, .ref 902 0, .int .i64 at', stack, .hsl 907 0 1 1]), (902, [.int .i64 (-1), .int .i64 0, .int .i64 1, .int .i64 1, .int .i64 0, .hsl 903 0 10 3, .any]),
  (903, [.int .i64 257, .int .i64 0, .int .u64 0, .int .i64 32, .int .i64 0, .int .u64 0, .int .i64 66, .int .i64 0, .int .u64 1, .int .i64 125, .int .i64 0, .int .u64 0, .int .i64 34, .int .i64 0, .int .u64 0, .int .i64 66, .int .i64 0, .int .u64 0, .int .i64 82, .int .i64 0, .int .u64 0, .int .i64 13, .int .i64 0, .int .u64 0, .int .i64 32, .int .i64 0, .int .u64 0, .int .i64 15, .int .i64 0, .int .u64 0]),
  (907, [x]), (909, scells)]
-- enough fuel
noncomputable def Tryz.gRows (flo xlo : Int) (hhi : Int) : List (Nat × List AV) := Tryz.tRows (.sym .i64 (.ad 52 53 0 65534) flo 65535 0) (.sym .i64 (.var 50) 0 hhi 0) (.sym .u64 (.var 52) xlo 65535 0) (.hsl 909 0 0 1) .any [.any] 0 0
noncomputable def Tryz.gRowsF : List (Nat × List AV) := Tryz.tRows (.sym .i64 (.cl 53 0 65534) 0 65534 1) (.sym .i64 (.var 50) 0 65535 0) (.int .u64 1) (.hsl 909 0 0 1) .any [.any] 0 0
noncomputable def Tryz.gRowsE : List (Nat × List AV) := Tryz.tRows (.sym .i64 (.cl 53 0 65534) 0 65534 0) .any (.int .u64 0) (.hsl 909 0 1 1) .any [.int .u64 0] (-1) 0
/-- The rows at the loop's begin. -/
noncomputable def Tryz.tRows0 (fuel x : AV) : List (Nat × List AV) := List.take 5 (Tryz.tRows fuel (.int .i64 0) x (.sc (.slice none 0 0)) .any [] 0 0)
end Go.Proofs

namespace Go.Proofs
open Go.Ab
set_option maxRecDepth 1000000
noncomputable def Tryz.gTn : Tn := ⟨8, 8, 14, 909, 934, 935, 941, 52, 50, 65535, 65534, 0, [(52, some (.var 0), 0), (50, none, 1)], Tryz.tLt, Tryz.gRows 0 1 65535, Tryz.tLt, Tryz.gRows 2 2 65534, Tryz.tLt, Tryz.gRowsF, Tryz.tLt, Tryz.gRowsE⟩
noncomputable def Tryz.gTu : Tn2 := ⟨Tryz.gTn, Tryz.tLt, Tryz.tRows0 (.sym .i64 (.ad 0 53 0 65534) 1 65534 1) (.sym .u64 (.var 0) 1 65535 1)⟩
theorem Tryz.gOk : TnOk2 Tryz.gTu (Tryz.lB49 Tryz.c0 1000) := ⟨⟨by decide, by kernel_rfl, by kernel_rfl, by kernel_rfl, by kernel_rfl, fun c1 c2 => by kernel_rfl⟩, by kernel_rfl, by kernel_rfl⟩
end Go.Proofs

namespace Go.Proofs
open Go.Ab
set_option maxRecDepth 1000000
-- too little fuel
noncomputable def Tryz.bRows (jlo xlo hhi : Int) : List (Nat × List AV) := Tryz.tRows (.sym .i64 (.var 52) jlo 65535 (-1)) (.sym .i64 (.var 50) 0 hhi 0) (.sym .u64 (.ad 52 53 0 65534) xlo 65535 0) (.hsl 909 0 0 1) .any [.any] 0 0
noncomputable def Tryz.bRowsF : List (Nat × List AV) := Tryz.tRows (.int .i64 0) (.sym .i64 (.var 50) 0 65535 0) (.sym .u64 (.cl 53 0 65534) 0 65534 1) (.hsl 909 0 0 1) .any [.any] 0 0
noncomputable def Tryz.bRowsE : List (Nat × List AV) := Tryz.tRows (.int .i64 0) .any .any (.hsl 909 0 0 1) .any [.any] 1 27
noncomputable def Tryz.bTn : Tn := ⟨8, 8, 14, 909, 934, 935, 909, 52, 50, 65535, 65534, 0, [(52, some (.var 2), 0), (50, none, 1)], Tryz.tLt, Tryz.bRows 1 1 65535, Tryz.tLt, Tryz.bRows 2 2 65534, Tryz.tLt, Tryz.bRowsF, Tryz.tLt, Tryz.bRowsE⟩
noncomputable def Tryz.bTu : Tn2 := ⟨Tryz.bTn, Tryz.tLt, Tryz.tRows0 (.sym .i64 (.var 2) 1 65535 0) (.sym .u64 (.ad 2 53 0 65534) 1 65535 1)⟩
theorem Tryz.bOk : TnOk2 Tryz.bTu (Tryz.lB49 Tryz.c0 1000) := ⟨⟨by decide, by kernel_rfl, by kernel_rfl, by kernel_rfl, by kernel_rfl, fun c1 c2 => by kernel_rfl⟩, by kernel_rfl, by kernel_rfl⟩
noncomputable def Tryz.tnC (e : Tn2) : CallF := hCall Tryz.fb.get 49 Tryz.bH49 (fun c n => cLpU e (cLp n (Tryz.lB49 c n))) (fun c => c) 1000 60
theorem Tryz.tnC_ok {e : Tn2} (ok : TnOk2 e (Tryz.lB49 Tryz.c0 1000)) {I : Nat → Int} (h1 : 1 ≤ (apIo e.eE I).io e.jx) (h2 : (apIo e.eE I).io e.jx ≤ e.XM) (h3 : 0 ≤ (apIo e.eE I).io e.jh) (h4 : (apIo e.eE I).io e.jh + (apIo e.eE I).io e.jx ≤ e.HM + 2)
    (hag : ∀ i, i ≠ e.jx → i ≠ e.jh → (apIo e.eE I).io i = I i) : @CallOk ⟨I⟩ Tryz.prog (Tryz.tnC e) :=
  @hCall_ok ⟨I⟩ _ _ (@draw_ok ⟨I⟩ _ Tryz.mixed) _ (fun f b e => by simpa using Tryz.fbs.get f b e) 1000 49 Tryz.bH49 (fun c n => cLpU e (cLp n (Tryz.lB49 c n))) (fun c => c) (fun _ h => h) Tryz.b49 Tryz.f49 (bodyOf Tryz.f49) (by kernel_rfl) Tryz.func49 Tryz.body49 (by kernel_rfl) (by decide) (by kernel_rfl) 6 Tryz.bH49_eq
    (fun c hc => cd_lpU (fun J => Tryz.lB49_ok J _ (Tryz.ok 1000 40) 1000) ok (@Tryz.cls ⟨I⟩ c hc 1000) h1 h2 h3 h4 hag) 60
theorem Tryz.gC_ok {I : Nat → Int} (h1 : 1 ≤ I 0) (h2 : I 0 ≤ 65535) : @CallOk ⟨I⟩ Tryz.prog (Tryz.tnC Tryz.gTu) := by
  have e1 : (apIo Tryz.gTu.eE I).io Tryz.gTu.jx = I 0 + 0 := rfl
  have e2 : (apIo Tryz.gTu.eE I).io Tryz.gTu.jh = 0 + 1 := rfl
  have x1 : (Tryz.gTu.XM : Int) = 65535 := rfl
  have x2 : (Tryz.gTu.HM : Int) = 65534 := rfl
  exact Tryz.tnC_ok Tryz.gOk (by rw [e1]; omega) (by rw [e1, x1]; omega) (by rw [e2]; omega) (by rw [e1, e2, x2]; omega)
    (fun i a b => apIo_none (e := [(52, some (.var 0), 0), (50, none, 1)]) (B := I) (j := i) ((evGet2 (show i ≠ 52 from a) _ _).trans ((evGet2 (show i ≠ 50 from b) _ _).trans rfl)))
theorem Tryz.bC_ok {I : Nat → Int} (h1 : 1 ≤ I 2) (h2 : I 2 ≤ 65535) : @CallOk ⟨I⟩ Tryz.prog (Tryz.tnC Tryz.bTu) := by
  have e1 : (apIo Tryz.bTu.eE I).io Tryz.bTu.jx = I 2 + 0 := rfl
  have e2 : (apIo Tryz.bTu.eE I).io Tryz.bTu.jh = 0 + 1 := rfl
  have x1 : (Tryz.bTu.XM : Int) = 65535 := rfl
  have x2 : (Tryz.bTu.HM : Int) = 65534 := rfl
  exact Tryz.tnC_ok Tryz.bOk (by rw [e1]; omega) (by rw [e1, x1]; omega) (by rw [e2]; omega) (by rw [e1, e2, x2]; omega)
    (fun i a b => apIo_none (e := [(52, some (.var 2), 0), (50, none, 1)]) (B := I) (j := i) ((evGet2 (show i ≠ 52 from a) _ _).trans ((evGet2 (show i ≠ 50 from b) _ _).trans rfl)))
end Go.Proofs

namespace Go.Proofs
open Go.Ab
set_option maxRecDepth 1000000
noncomputable def Tryz.tr_g : Kn := ⟨8, [.agg [.isl 1 [.isl 1 [.int .i64 126], .isl 1 [.int .i64 126]], .isl 1 [.int .i64 (-1), .int .i64 0, .int .i64 1, .int .i64 1, .int .i64 0, .isl 10 [.int .i64 257, .int .i64 0, .int .u64 0, .int .i64 32, .int .i64 0, .int .u64 0, .int .i64 66, .int .i64 0, .int .u64 1, .int .i64 125, .int .i64 0, .int .u64 0, .int .i64 34, .int .i64 0, .int .u64 0, .int .i64 66, .int .i64 0, .int .u64 0, .int .i64 82, .int .i64 0, .int .u64 0, .int .i64 13, .int .i64 0, .int .u64 0, .int .i64 32, .int .i64 0, .int .u64 0, .int .i64 15, .int .i64 0, .int .u64 0], .sc (.slice none 0 0)]], .isl 1 [.sym .u64 (.var 0) 1 65535 1], .sym .i64 (.ad 0 53 0 65534) 1 65534 1], (.tup [(.agg [(.int .i64 0), (.int .u32 0), (.isl 1 [(.int .u64 0)]), (.sym .i64 (.cl 53 0 65534) 0 65534 0)]), (.iptr [(.isl 4 [(.int .u64 7), (.int .u64 1), (.int .u64 2), (.int .u64 9)]), (.isl 4 [(.int .i64 1), (.int .i64 0), (.int .i64 0), (.int .i64 0)]), (.isl 3 [(.int .i64 0), (.int .i64 1), (.int .i64 3)]), (.isl 6 [(.int .i64 0), (.int .i64 1), (.int .i64 2), (.int .i64 3), (.int .i64 (-1)), (.int .i64 (-1))]), (.isl 2 [(.sc (.slice none 0 0)), (.sc (.slice none 0 0)), .any, .any]), (.isl 1 [(.sc (.string ⟨#[104, 111, 115, 116]⟩)), (.sc (.string ⟨#[102]⟩)), (.int .i64 1)]), (.isl 3 [(.int .i64 0), (.int .i64 0), (.int .i64 0)]), (.isl 1 [(.int .i64 6), (.int .i64 (-1))]), (.isl 1 [(.int .i64 1), (.int .i64 2)]), (.isl 3 [(.int .i64 127), (.bool false), .any, (.int .i64 123), (.bool false), .any, (.int .i64 126), (.bool false), .any]), (.sc (.slice none 0 0)), (.int .i64 (-1)), (.isl 1 [.any, .any]), (.isl 3 [(.sc (.slice none 0 0)), .any, (.sc (.slice none 0 0)), .any, (.sc (.slice none 0 0)), .any]), (.sc (.slice none 0 0)), (.iptr [.any, (.int .i64 2)])])])⟩
theorem Tryz.tk_g {B : Nat → Int} (h1 : 1 ≤ B 0) (h2 : B 0 ≤ 65535) : @KnownF ⟨B⟩ Tryz.prog Tryz.tr_g.f Tryz.tr_g.args Tryz.tr_g.v := @knownK_of ⟨B⟩ _ _ (Tryz.gC_ok h1 h2) _ _ _ 3 (by kernel_rfl) (by kernel_rfl)
noncomputable def Tryz.tr_b : Kn := ⟨8, [.agg [.isl 1 [.isl 1 [.int .i64 126], .isl 1 [.int .i64 126]], .isl 1 [.int .i64 (-1), .int .i64 0, .int .i64 1, .int .i64 1, .int .i64 0, .isl 10 [.int .i64 257, .int .i64 0, .int .u64 0, .int .i64 32, .int .i64 0, .int .u64 0, .int .i64 66, .int .i64 0, .int .u64 1, .int .i64 125, .int .i64 0, .int .u64 0, .int .i64 34, .int .i64 0, .int .u64 0, .int .i64 66, .int .i64 0, .int .u64 0, .int .i64 82, .int .i64 0, .int .u64 0, .int .i64 13, .int .i64 0, .int .u64 0, .int .i64 32, .int .i64 0, .int .u64 0, .int .i64 15, .int .i64 0, .int .u64 0], .sc (.slice none 0 0)]], .isl 1 [.sym .u64 (.ad 2 53 0 65534) 1 65535 1], .sym .i64 (.var 2) 1 65535 0], (.tup [(.agg [(.int .i64 27), (.int .u32 0), (.sc (.slice none 0 0)), (.int .i64 0)]), (.iptr [(.isl 4 [(.int .u64 7), (.int .u64 1), (.int .u64 2), (.int .u64 9)]), (.isl 4 [(.int .i64 1), (.int .i64 0), (.int .i64 0), (.int .i64 0)]), (.isl 3 [(.int .i64 0), (.int .i64 1), (.int .i64 3)]), (.isl 6 [(.int .i64 0), (.int .i64 1), (.int .i64 2), (.int .i64 3), (.int .i64 (-1)), (.int .i64 (-1))]), (.isl 2 [(.sc (.slice none 0 0)), (.sc (.slice none 0 0)), .any, .any]), (.isl 1 [(.sc (.string ⟨#[104, 111, 115, 116]⟩)), (.sc (.string ⟨#[102]⟩)), (.int .i64 1)]), (.isl 3 [(.int .i64 0), (.int .i64 0), (.int .i64 0)]), (.isl 1 [(.int .i64 6), (.int .i64 (-1))]), (.isl 1 [(.int .i64 1), (.int .i64 2)]), (.isl 3 [(.int .i64 127), (.bool false), .any, (.int .i64 123), (.bool false), .any, (.int .i64 126), (.bool false), .any]), (.sc (.slice none 0 0)), (.int .i64 (-1)), (.isl 1 [.any, .any]), (.isl 3 [(.sc (.slice none 0 0)), .any, (.sc (.slice none 0 0)), .any, (.sc (.slice none 0 0)), .any]), (.sc (.slice none 0 0)), (.iptr [.any, (.int .i64 2)])])])⟩
theorem Tryz.tk_b {B : Nat → Int} (h1 : 1 ≤ B 2) (h2 : B 2 ≤ 65535) : @KnownF ⟨B⟩ Tryz.prog Tryz.tr_b.f Tryz.tr_b.args Tryz.tr_b.v := @knownK_of ⟨B⟩ _ _ (Tryz.bC_ok h1 h2) _ _ _ 3 (by kernel_rfl) (by kernel_rfl)
noncomputable def Tryz.tr_f0 : Kn := ⟨8, [.agg [.isl 1 [.isl 1 [.int .i64 126], .isl 1 [.int .i64 126]], .isl 1 [.int .i64 (-1), .int .i64 0, .int .i64 1, .int .i64 1, .int .i64 0, .isl 10 [.int .i64 257, .int .i64 0, .int .u64 0, .int .i64 32, .int .i64 0, .int .u64 0, .int .i64 66, .int .i64 0, .int .u64 1, .int .i64 125, .int .i64 0, .int .u64 0, .int .i64 34, .int .i64 0, .int .u64 0, .int .i64 66, .int .i64 0, .int .u64 0, .int .i64 82, .int .i64 0, .int .u64 0, .int .i64 13, .int .i64 0, .int .u64 0, .int .i64 32, .int .i64 0, .int .u64 0, .int .i64 15, .int .i64 0, .int .u64 0], .sc (.slice none 0 0)]], .isl 1 [.sym .u64 (.var 0) 0 65535 1], .int .i64 0], (.tup [(.agg [(.int .i64 27), (.int .u32 0), (.sc (.slice none 0 0)), (.int .i64 0)]), (.iptr [(.isl 4 [(.int .u64 7), (.int .u64 1), (.int .u64 2), (.int .u64 9)]), (.isl 4 [(.int .i64 1), (.int .i64 0), (.int .i64 0), (.int .i64 0)]), (.isl 3 [(.int .i64 0), (.int .i64 1), (.int .i64 3)]), (.isl 6 [(.int .i64 0), (.int .i64 1), (.int .i64 2), (.int .i64 3), (.int .i64 (-1)), (.int .i64 (-1))]), (.isl 2 [(.sc (.slice none 0 0)), (.sc (.slice none 0 0)), .any, .any]), (.isl 1 [(.sc (.string ⟨#[104, 111, 115, 116]⟩)), (.sc (.string ⟨#[102]⟩)), (.int .i64 1)]), (.isl 3 [(.int .i64 0), (.int .i64 0), (.int .i64 0)]), (.isl 1 [(.int .i64 6), (.int .i64 (-1))]), (.isl 1 [(.int .i64 1), (.int .i64 2)]), (.isl 3 [(.int .i64 127), (.bool false), .any, (.int .i64 123), (.bool false), .any, (.int .i64 126), (.bool false), .any]), (.sc (.slice none 0 0)), (.int .i64 (-1)), (.isl 1 [.any, .any]), (.isl 3 [(.sc (.slice none 0 0)), .any, (.sc (.slice none 0 0)), .any, (.sc (.slice none 0 0)), .any]), (.sc (.slice none 0 0)), (.iptr [.any, (.int .i64 2)])])])⟩
theorem Tryz.tk_f0 {B : Nat → Int} : @KnownF ⟨B⟩ Tryz.prog Tryz.tr_f0.f Tryz.tr_f0.args Tryz.tr_f0.v := @knownK_of ⟨B⟩ _ _ (@Tryz.ok ⟨B⟩ 1000 60) _ _ _ 3 (by kernel_rfl) (by kernel_rfl)
noncomputable def Tryz.tr_n0 : Kn := ⟨8, [.agg [.isl 1 [.isl 1 [.int .i64 126], .isl 1 [.int .i64 126]], .isl 1 [.int .i64 (-1), .int .i64 0, .int .i64 1, .int .i64 1, .int .i64 0, .isl 10 [.int .i64 257, .int .i64 0, .int .u64 0, .int .i64 32, .int .i64 0, .int .u64 0, .int .i64 66, .int .i64 0, .int .u64 1, .int .i64 125, .int .i64 0, .int .u64 0, .int .i64 34, .int .i64 0, .int .u64 0, .int .i64 66, .int .i64 0, .int .u64 0, .int .i64 82, .int .i64 0, .int .u64 0, .int .i64 13, .int .i64 0, .int .u64 0, .int .i64 32, .int .i64 0, .int .u64 0, .int .i64 15, .int .i64 0, .int .u64 0], .sc (.slice none 0 0)]], .isl 1 [.int .u64 1], .sym .i64 (.var 2) 1 65535 0], (.tup [(.agg [(.int .i64 0), (.int .u32 0), (.isl 1 [(.int .u64 0)]), (.sym .i64 (.var 2) 1 65535 (-1))]), (.iptr [(.isl 4 [(.int .u64 7), (.int .u64 1), (.int .u64 2), (.int .u64 9)]), (.isl 4 [(.int .i64 1), (.int .i64 0), (.int .i64 0), (.int .i64 0)]), (.isl 3 [(.int .i64 0), (.int .i64 1), (.int .i64 3)]), (.isl 6 [(.int .i64 0), (.int .i64 1), (.int .i64 2), (.int .i64 3), (.int .i64 (-1)), (.int .i64 (-1))]), (.isl 2 [(.sc (.slice none 0 0)), (.sc (.slice none 0 0)), .any, .any]), (.isl 1 [(.sc (.string ⟨#[104, 111, 115, 116]⟩)), (.sc (.string ⟨#[102]⟩)), (.int .i64 1)]), (.isl 3 [(.int .i64 0), (.int .i64 0), (.int .i64 0)]), (.isl 1 [(.int .i64 6), (.int .i64 (-1))]), (.isl 1 [(.int .i64 1), (.int .i64 2)]), (.isl 3 [(.int .i64 127), (.bool false), .any, (.int .i64 123), (.bool false), .any, (.int .i64 126), (.bool false), .any]), (.sc (.slice none 0 0)), (.int .i64 (-1)), (.isl 1 [.any, .any]), (.isl 3 [(.sc (.slice none 0 0)), .any, (.sc (.slice none 0 0)), .any, (.sc (.slice none 0 0)), .any]), (.sc (.slice none 0 0)), (.iptr [.any, (.int .i64 2)])])])⟩
theorem Tryz.tk_n0 {B : Nat → Int} : @KnownF ⟨B⟩ Tryz.prog Tryz.tr_n0.f Tryz.tr_n0.args Tryz.tr_n0.v := @knownK_of ⟨B⟩ _ _ (@Tryz.ok ⟨B⟩ 1000 60) _ _ _ 3 (by kernel_rfl) (by kernel_rfl)
noncomputable def Tryz.tHas (f : FuncId) : Bool := Nat.beq f 8
noncomputable def Tryz.tTC (r : Kn) : CallF := fCall Tryz.fb.get Tryz.tHas [r] 1000 60
theorem Tryz.tTC_ok {B : Nat → Int} {r : Kn} (hr : @KnownF ⟨B⟩ Tryz.prog r.f r.args r.v) : @CallOk ⟨B⟩ Tryz.prog (Tryz.tTC r) :=
  @fCall_ok ⟨B⟩ _ _ (@draw_ok ⟨B⟩ _ Tryz.mixed) _ (fun f b e => by simpa using Tryz.fbs.get f b e) _ _ (@KT.cons ⟨B⟩ _ _ _ _ _ hr (@KT.nil ⟨B⟩ _)) 1000 60
theorem Tryz.tt_g {B : Nat → Int} (h1 : 1 ≤ B 0) (h2 : B 0 ≤ 65535) : @KnownF ⟨B⟩ Tryz.prog 12 [.sym .u16 (.var 0) 1 65535 0, .sym .u16 (.ad 0 53 0 65534) 1 65534 1] (.bool true) := @knownF_of ⟨B⟩ _ _ (Tryz.tTC_ok (Tryz.tk_g h1 h2)) _ _ _ (by kernel_rfl) (by kernel_rfl)
theorem Tryz.tt_b {B : Nat → Int} (h1 : 1 ≤ B 2) (h2 : B 2 ≤ 65535) : @KnownF ⟨B⟩ Tryz.prog 12 [.sym .u16 (.ad 2 53 0 65534) 1 65535 0, .sym .u16 (.var 2) 1 65535 0] (.bool true) := @knownF_of ⟨B⟩ _ _ (Tryz.tTC_ok (Tryz.tk_b h1 h2)) _ _ _ (by kernel_rfl) (by kernel_rfl)
theorem Tryz.tt_f0 {B : Nat → Int} : @KnownF ⟨B⟩ Tryz.prog 12 [.sym .u16 (.var 0) 0 65535 0, .int .u16 0] (.bool true) := @knownF_of ⟨B⟩ _ _ (Tryz.tTC_ok (Tryz.tk_f0)) _ _ _ (by kernel_rfl) (by kernel_rfl)
theorem Tryz.tt_n0 {B : Nat → Int} : @KnownF ⟨B⟩ Tryz.prog 12 [.int .u16 0, .sym .u16 (.var 2) 1 65535 0] (.bool true) := @knownF_of ⟨B⟩ _ _ (Tryz.tTC_ok (Tryz.tk_n0)) _ _ _ (by kernel_rfl) (by kernel_rfl)
end Go.Proofs

namespace Go.Proofs
open Go.Ab
def Tryz.tB (a b c : Int) : Nat → Int := fun i => match i with | 0 => a | 2 => b | 53 => c | _ => 0
theorem Tryz.clampE {c : Int} (h1 : 0 ≤ c) (h2 : c ≤ 65534) : clamp 0 65534 c = c := by
  unfold clamp
  omega
theorem Tryz.tt_fin {I J : Nat → Int} {args : List AV} {vs : List Value} (h : @KnownF ⟨J⟩ Tryz.prog 12 args (.bool true)) (g : G) (w : World) (hi : ∀ b, g.imm b → b < w.heap.size) (hv : @VRs ⟨J⟩ g w args vs) :
    Calls Tryz.prog 12 vs.toArray w fun e w' => ∃ x, e = .returned x ∧ Keep w w' ∧ @VR ⟨I⟩ (gE fun b => w.heap.size ≤ b ∧ b < w'.heap.size) w' (.bool true) x := by
  refine (h.2 g w vs hi hv).mono ?_
  rintro e w' ⟨x, rfl, K, hx⟩
  refine ⟨x, rfl, K, ?_⟩
  simpa only [VR] using hx
theorem Tryz.tt_all {I : Nat → Int} : @KnownF ⟨I⟩ Tryz.prog 12 [.sym .u16 (.var 0) 0 65535 0, .sym .u16 (.var 1) 0 65535 0] (.bool true) := by
  refine ⟨(Tryz.tt_f0 (B := I)).1, fun g w vs hi hv => ?_⟩
  have key : ∃ n f : Int, vs = [.int .u16 n, .int .u16 f] ∧ (0 ≤ n ∧ n ≤ 65535) ∧ 0 ≤ f ∧ f ≤ 65535 := by
    simp only [VRs] at hv
    obtain ⟨v, l, rfl, h1, v2, l2, rfl, h2, rfl⟩ := hv
    simp only [VR] at h1 h2
    obtain ⟨rfl, a1, a2⟩ := h1
    obtain ⟨rfl, b1, b2⟩ := h2
    have a1 : 0 ≤ I 0 := a1
    have a2 : I 0 ≤ 65535 := a2
    have b1 : 0 ≤ I 1 := b1
    have b2 : I 1 ≤ 65535 := b2
    refine ⟨I 0 + 0, I 1 + 0, rfl, ?_, ?_⟩ <;> omega
  obtain ⟨n, f, rfl, hn, hf⟩ := key
  have hc : f = 0 ∨ (1 ≤ f ∧ n = 0) ∨ (1 ≤ n ∧ n + 1 ≤ f) ∨ (1 ≤ n ∧ 1 ≤ f ∧ f ≤ n) := by omega
  have cl : ∀ c : Int, 0 ≤ c → c ≤ 65534 → max 0 (min c 65534) = c := fun c _ _ => by omega
  rcases hc with rfl | ⟨h1, rfl⟩ | ⟨h1, h2⟩ | ⟨h1, h2, h3⟩
  · refine Tryz.tt_fin (Tryz.tt_f0 (B := Tryz.tB n 0 0)) g w hi ?_
    simp only [VRs, VR]
    exact ⟨_, _, rfl, ⟨by show Value.int .u16 n = Value.int .u16 (n + 0); rw [Int.add_zero], hn.1, hn.2⟩, _, _, rfl, rfl, rfl⟩
  · refine Tryz.tt_fin (Tryz.tt_n0 (B := Tryz.tB 0 f 0) ) g w hi ?_
    simp only [VRs, VR]
    exact ⟨_, _, rfl, rfl, _, _, rfl, ⟨by show Value.int .u16 f = Value.int .u16 (f + 0); rw [Int.add_zero], h1, hf.2⟩, rfl⟩
  · refine Tryz.tt_fin (Tryz.tt_g (B := Tryz.tB n 0 (f - n - 1)) h1 hn.2) g w hi ?_
    simp only [VRs, VR]
    have e : @evalSV ⟨Tryz.tB n 0 (f - n - 1)⟩ (.ad 0 53 0 65534) = f - 1 := by
      show n + clamp 0 65534 (f - n - 1) = f - 1
      rw [Tryz.clampE (by omega) (by omega)]; omega
    exact ⟨_, _, rfl, ⟨by show Value.int .u16 n = Value.int .u16 (n + 0); rw [Int.add_zero], h1, hn.2⟩, _, _, rfl, ⟨by rw [e]; congr 1; omega, by rw [e]; omega, by rw [e]; omega⟩, rfl⟩
  · refine Tryz.tt_fin (Tryz.tt_b (B := Tryz.tB 0 f (n - f)) h2 hf.2) g w hi ?_
    simp only [VRs, VR]
    have e : @evalSV ⟨Tryz.tB 0 f (n - f)⟩ (.ad 2 53 0 65534) = n := by
      show f + clamp 0 65534 (n - f) = n
      rw [Tryz.clampE (by omega) (by omega)]; omega
    exact ⟨_, _, rfl, ⟨by rw [e]; congr 1; omega, by rw [e]; omega, by rw [e]; omega⟩, _, _, rfl, ⟨by show Value.int .u16 f = Value.int .u16 (f + 0); rw [Int.add_zero], h2, hf.2⟩, rfl⟩
end Go.Proofs
