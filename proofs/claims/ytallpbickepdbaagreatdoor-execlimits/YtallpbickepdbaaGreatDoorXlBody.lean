import Derived.Test.YtallpbickepdbaaGreatDoorOkX
import Derived.Test.YtallpbickepdbaaGreatDoorAb36
import Derived.KernelRfl
namespace Go.Proofs
open Go.Ab
set_option maxRecDepth 1000000
noncomputable def Tryz.bH49 : CallF → Nat → CdF → CdF := fun c n f => (cSq (cRg (st s6 (kMove (oC (.sc (.slice none 0 0)))) fi)) (cSq (cRg (st s9 (kMove p0) (st s10 (kNil p9) (st s11 (kFieldAddr 0 p10) (st s12 (kLoad 1 false p11) (st s13 (kNil p12) (st s14 (kFieldAddr 0 p13) (st s15 (kFieldAddr 1 p14) (st s16 (kLoad 1 false p15) (st s17 (kMove p1) (st s18 (kIxS 7 p16 p17) (st s7 (kMove p18) fi)))))))))))) (cSq (cSq (cRg (st s19 (kMove p7) (st s20 (kNil p19) (st s21 (kFieldAddr 0 p20) (st s22 (kLoad 1 false p21) (st s23 (kBin bGeqS p22 (oC (.int .i64 0))) fi)))))) (cIf p23 (cSq (cRg (st s24 (kMove p0) (st s25 (kMove p7) (st s26 (kMove p2) (st s27 (kCall c 71 [p24, p25, p26]) (st s6 (kMove p27) fi)))))) cRt) cSk)) (cSq (cSq (cRg (st s28 (kMove p0) (st s29 (kNil p28) (st s30 (kFieldAddr 3 p29) (st s31 (kLoad 1 false p30) (st s32 (kBin (bEqIS false) p31 (oC (.int .i64 64))) fi)))))) (cIf p32 (cSq (cRg (st s33 (kMove p0) (st s34 (kCall c 72 [p33, (oC (.int .i64 26))]) fi))) (cSq (cRg (st s6 (kMove (oC (.sc (.slice none 0 0)))) fi)) cRt)) cSk)) (cSq (cRg (st s35 (kMove p0) (st s36 (kMove p7) (st s37 (kMove p2) (st s39 (kMove p7) (st s40 (kNil p39) (st s41 (kFieldAddr 4 p40) (st s42 (kLoad 1 false p41) (st s38 (mn (kCall c 48 [p37])) (ck p42 (kLoad 1 false p41) (st s43 (mn (kAppZ 1 8 [(.int .u64 0)] p38 p42)) (st s44 (kBuild [(.sc (.pointer none)), (.sc (.pointer none)), (.int .i64 0), (.sc (.slice none 0 0)), (.sc (.slice none 0 0))] [(0, 1, p35), (1, 1, p36), (4, 1, p43)]) (st s45 (kBox p44) (st s8 (kMove p45) fi)))))))))))))) (cSq (cRg (st s46 (kMove p0) (st s47 (kNil p46) (st s48 (kFieldAddr 3 p47) (st s49 (kLoad 1 false p48) (st s50 (kBin bAddS p49 (oC (.int .i64 1))) (st s51 (kNil p46) (st s52 (kFieldAddr 3 p51) (sn (kStore 1 p52 p50) fi))))))))) (cSq (cBl 0 f) (cSq (cRg (st s89 (kMove p0) (st s90 (kNil p89) (st s91 (kFieldAddr 3 p90) (st s92 (kLoad 1 false p91) (st s93 (kBin bSubS p92 (oC (.int .i64 1))) (st s94 (kNil p89) (st s95 (kFieldAddr 3 p94) (sn (kStore 1 p95 p93) fi))))))))) (cSq (cRg (st s96 (kMove p8) (st s97 (kNil p96) (st s98 (kFieldAddr 3 p97) (st s99 (kLoad 1 false p98) (st s100 (kCall c 48 [p99]) (st s6 (kMove p100) fi))))))) cRt)))))))))
noncomputable def Tryz.lB49 : CallF → Nat → CdF := fun c n => (cSq (cSq (cRg (st s53 (kMove p0) (st s54 (kNil p53) (st s55 (kFieldAddr 4 p54) (st s56 (kLoad 1 false p55) (st s57 (kBin (bEqIS false) p56 (oC (.int .i64 0))) (st s58 (kMove p57) (st s59 (gF p58 true (kMove p8)) (st s60 (gF p58 true (kNil p59)) (st s61 (gF p58 true (kFieldAddr 2 p60)) (st s62 (gF p58 true (kLoad 1 false p61)) (st s63 (gF p58 true (kBin bGeqS p62 (oC (.int .i64 0)))) (st s64 (kPick p58 p63 (oC (.bool false))) fi))))))))))))) (cIf p64 cSk (cEx 0))) (cBl 1 (cSq (cSq (cRg (st s65 (kMove p8) (st s66 (kNil p65) (st s67 (kFieldAddr 2 p66) (st s68 (kLoad 1 false p67) (st s69 (kMove p7) (st s70 (kNil p69) (st s71 (kFieldAddr 5 p70) (st s72 (kLoad 1 false p71) (st s73 (kLen (wO p72)) (st s74 (kBin bGeqS p68 p73) fi))))))))))) (cIf p74 (cSq (cRg (st s75 (kMove p0) (st s76 (kCall c 72 [p75, (oC (.int .i64 40))]) fi))) (cEx 0)) cSk)) (cRg (st s77 (kMove p8) (st s78 (kMove p7) (st s79 (kNil p78) (st s80 (kFieldAddr 5 p79) (st s81 (kLoad 1 false p80) (st s82 (kMove p8) (st s83 (kNil p82) (st s84 (kFieldAddr 2 p83) (st s85 (kLoad 1 false p84) (st s86 (kIxS 3 p81 p85) (st s87 (kLoad 3 true p86) (st s88 (mn (kCall c 73 [p77, p87])) fi))))))))))))))))
theorem Tryz.bH49_eq : Tryz.bH49 = fun c n f => cRep Tryz.prog (cDraw Tryz.prog c 101) c n 101 f 6 (bodyOf Tryz.f49) := by kernel_rfl
theorem Tryz.lB49_eq : Tryz.lB49 = fun c n => cCode Tryz.prog (cDraw Tryz.prog c 101) c n 101 (lpOf 6 (bodyOf Tryz.f49)) := by kernel_rfl
end Go.Proofs

namespace Go.Proofs
open Go.Ab
set_option maxRecDepth 1000000
noncomputable def Tryz.Fu : AV := .sym .i64 (.var 2) 0 65535 0
noncomputable def Tryz.c0 : CallF := aCall Tryz.fb.get 1000 40
noncomputable def Tryz.hopLt : List (Nat × AV) := [(0, .ref 879 0), (6, .sc (.slice none 0 0)), (7, .ref 876 0), (8, .ref 880 0)]
noncomputable def Tryz.hopRows (hops : AV) (err : Int) : List (Nat × List AV) := [(879, [.any, Tryz.Fu, hops, .int .i64 1, .int .i64 err]), (880, [.ref 879 0, .ref 876 0, .int .i64 0, .sc (.slice none 0 0), .sc (.slice none 0 0)]),
  (876, [.int .i64 (-1), .int .i64 0, .int .i64 0, .int .i64 0, .int .i64 0, .hsl 877 0 2 3, .sc (.slice none 0 0)]), (877, [.int .i64 12, .int .i64 0, .int .u64 0, .int .i64 15, .int .i64 0, .int .u64 0])]
noncomputable def Tryz.hopLe : Le := ⟨Tryz.hopLt, 881, Tryz.hopRows (.int .i64 0) 0, 0, Tryz.hopLt, Tryz.hopRows (.int .i64 262144) 41⟩
theorem Tryz.lB49_ok (J : Io) (c : CallF) (hc : @CallOk J Tryz.prog c) (n : Nat) : @CdOk J Tryz.prog 101 (lpOf 6 (bodyOf Tryz.f49)) (Tryz.lB49 c n) := by
  rw [Tryz.lB49_eq]
  exact code_ok hc (fun id ops => draw_ok Tryz.mixed _ _ hc id ops) n _
theorem Tryz.hop_at (B : Io) : CdAt B Tryz.prog 101 (.loop (lpOf 6 (bodyOf Tryz.f49))) Tryz.hopLe.lt Tryz.hopLe.N Tryz.hopLe.rows Tryz.hopLe.i Tryz.hopLe.ltE Tryz.hopLe.rowsE :=
  loop_at (j := 50) (K := 262143) (m := 3) (bd := Tryz.lB49 Tryz.c0 1000) (lt := Tryz.hopLt) (ltK := Tryz.hopLt) (rows := Tryz.hopRows (.sym .i64 (.var 50) 0 262143 0) 0) (rowsK := Tryz.hopRows (.int .i64 262144) 0)
    (fun J => Tryz.lB49_ok J _ (Tryz.ok 1000 40) 1000) (by kernel_rfl) (by kernel_rfl) (by kernel_rfl) B
theorem Tryz.hop_le : leC Tryz.hopLe = true := by kernel_rfl
end Go.Proofs

namespace Go.Proofs
open Go.Ab
set_option maxRecDepth 1000000
noncomputable def Tryz.FuR : AV := .sym .i64 (.var 2) 0 65535 0
noncomputable def Tryz.V10 (lo hi o : Int) : AV := .sym .u64 (.var 10) lo hi o
noncomputable def Tryz.V11 (lo hi o : Int) : AV := .sym .i64 (.var 11) lo hi o
noncomputable def Tryz.rRows (hops depth : AV) (err : Int) : List (Nat × List AV) := [(902, [.ref 894 0, Tryz.FuR, hops, depth, .int .i64 err]),
  (894, [.any, .hsl 898 0 1 7, .any, .any, .any, .any, .any, .any, .any, .any, .any, .any, .any, .any, .any, .any]),
  (898, [.int .i64 (-1), .int .i64 0, .int .i64 1, .int .i64 0, .int .i64 0, .hsl 899 0 9 3, .any]),
  (899, [.int .i64 32, .int .i64 0, .int .u64 0, .int .i64 66, .int .i64 0, .int .u64 1, .int .i64 125, .int .i64 0, .int .u64 0, .int .i64 34, .int .i64 0, .int .u64 0, .int .i64 80, .int .i64 0, .int .u64 0, .int .i64 13, .int .i64 8, .int .u64 0, .int .i64 32, .int .i64 0, .int .u64 0, .int .i64 16, .int .i64 0, .int .u64 0, .int .i64 15, .int .i64 0, .int .u64 0])]
noncomputable def Tryz.rArgs (n : AV) : List AV := [.ref 902 0, .int .i64 0, .isl 1 [n]]
theorem Tryz.enter49 (l : Array Value) (w : World) : (callFunc 49 l).run Tryz.prog w = .ok (.enter 49 l) w := Tryz.call49 l w

-- enough room: it ends well
noncomputable def Tryz.sB : CallF := aCall Tryz.fb.get 1000 40
theorem Tryz.s_base (B : Nat → Int) : CallAt ⟨B⟩ Tryz.prog 49 (Tryz.rArgs (.int .u64 1)) 1000 (Tryz.rRows (Tryz.V11 0 63 0) (Tryz.V11 0 63 0) 0) .esl (Tryz.rRows .any (Tryz.V11 0 63 0) 0) :=
  callAt_of (@Tryz.ok ⟨B⟩ 1000 40) (by kernel_rfl)
noncomputable def Tryz.sEn : En := ⟨49, Tryz.rArgs (Tryz.V10 2 64 (-1)), 1000, Tryz.rRows (Tryz.V11 0 63 1) (Tryz.V11 0 63 1) 0, .esl, Tryz.rRows .any (Tryz.V11 0 63 1) 0⟩
noncomputable def Tryz.sC : CallF := gCall Tryz.fb.get (orE Tryz.sEn) 1000 40
theorem Tryz.s_run : atC 1000 (Tryz.rRows (Tryz.V11 0 63 0) (Tryz.V11 0 63 0) 0) .esl (Tryz.rRows .any (Tryz.V11 0 63 0) 0) (Tryz.sC 49 (Tryz.rArgs (Tryz.V10 2 64 0)) (mkH 1000 (Tryz.rRows (Tryz.V11 0 63 0) (Tryz.V11 0 63 0) 0))) = true := by kernel_rfl
theorem Tryz.s_all : ∀ (k : Nat) (B : Nat → Int), B 10 = (k : Int) + 1 → 0 ≤ B 11 → B 10 + B 11 ≤ 64 →
    CallAt ⟨B⟩ Tryz.prog 49 (Tryz.rArgs (Tryz.V10 1 64 0)) 1000 (Tryz.rRows (Tryz.V11 0 63 0) (Tryz.V11 0 63 0) 0) .esl (Tryz.rRows .any (Tryz.V11 0 63 0) 0) := by
  intro k
  induction k with
  | zero =>
    intro B h10 h11 hs
    have hI : apIo [(10, none, 1)] B = ⟨B⟩ := by
      unfold apIo
      congr 1
      funext i
      by_cases e : i = 10
      · subst e
        show (1 : Int) = B 10
        rw [h10]; rfl
      · have : Nat.beq 10 i = false := by rw [Bool.eq_false_iff]; intro q; exact e (Nat.eq_of_beq_eq_true q).symm
        simp only [evGet, this, cond_false]
    rw [← hI]
    exact callAt_conv (eJ := []) (hb := []) (hb' := []) (Tryz.s_base B) HbOk.none HbOk.none (by kernel_rfl)
  | succ k ih =>
    intro B h10 h11 hs
    have hJ := ih (apIo [(10, some 10, -1), (11, some 11, 1)] B).io (by show B 10 + (-1) = _; rw [h10]; push_cast; omega) (by show 0 ≤ B 11 + 1; omega) (by show B 10 + (-1) + (B 11 + 1) ≤ 64; omega)
    have hEn : CallAt ⟨B⟩ Tryz.prog Tryz.sEn.f Tryz.sEn.args Tryz.sEn.N Tryz.sEn.rows Tryz.sEn.v Tryz.sEn.rows' := by
      refine callAt_conv (B := B) (eI := []) (eJ := [(10, some 10, -1), (11, some 11, 1)]) (hb := [(11, 0, 63)]) (hb' := [(11, 0, 63)]) hJ ?_ ?_ (by kernel_rfl)
      · intro x hx
        rw [List.mem_singleton] at hx
        subst hx
        show (0 : Int) ≤ B 11 + 1 ∧ B 11 + 1 ≤ 63
        push_cast at h10
        omega
      · intro x hx
        rw [List.mem_singleton] at hx
        subst hx
        show (0 : Int) ≤ B 11 ∧ B 11 ≤ 63
        push_cast at h10
        omega
    have hc : @CallOk ⟨B⟩ Tryz.prog Tryz.sC := @gCall_ok ⟨B⟩ _ _ (@draw_ok ⟨B⟩ _ Tryz.mixed) _ (fun f b e => by simpa using Tryz.fbs.get f b e) _ (fun c hc => orE_ok Tryz.enter49 (by kernel_rfl) hEn hc) 1000 40
    refine callAt_conv (B := B) (eI := []) (eJ := []) (hb := [(10, 2, 64)]) (hb' := []) (callAt_of hc Tryz.s_run) ?_ HbOk.none (by kernel_rfl)
    intro x hx
    rw [List.mem_singleton] at hx
    subst hx
    show (2 : Int) ≤ B 10 ∧ B 10 ≤ 64
    push_cast at h10
    omega
end Go.Proofs

namespace Go.Proofs
open Go.Ab
set_option maxRecDepth 1000000
-- too deep: it ends with the trap
theorem Tryz.f_base (B : Nat → Int) : CallAt ⟨B⟩ Tryz.prog 49 (Tryz.rArgs (Tryz.V10 1 70 0)) 1000 (Tryz.rRows (.int .i64 64) (.int .i64 64) 0) .esl (Tryz.rRows .any (.int .i64 64) 26) :=
  callAt_of (@Tryz.ok ⟨B⟩ 1000 40) (by kernel_rfl)
noncomputable def Tryz.fEn : En := ⟨49, Tryz.rArgs (Tryz.V10 2 70 (-1)), 1000, Tryz.rRows (Tryz.V11 0 63 1) (Tryz.V11 0 63 1) 0, .esl, Tryz.rRows .any (Tryz.V11 0 63 1) 26⟩
noncomputable def Tryz.fC : CallF := gCall Tryz.fb.get (orE Tryz.fEn) 1000 40
theorem Tryz.f_run : atC 1000 (Tryz.rRows (Tryz.V11 0 63 0) (Tryz.V11 0 63 0) 0) .esl (Tryz.rRows .any (Tryz.V11 0 63 0) 26) (Tryz.fC 49 (Tryz.rArgs (Tryz.V10 2 70 0)) (mkH 1000 (Tryz.rRows (Tryz.V11 0 63 0) (Tryz.V11 0 63 0) 0))) = true := by kernel_rfl
theorem Tryz.f_all : ∀ (k : Nat) (B : Nat → Int), B 11 = 64 - (k : Int) → 0 ≤ B 11 → 1 ≤ B 10 → B 10 ≤ 70 → 65 ≤ B 10 + B 11 →
    CallAt ⟨B⟩ Tryz.prog 49 (Tryz.rArgs (Tryz.V10 1 70 0)) 1000 (Tryz.rRows (Tryz.V11 0 64 0) (Tryz.V11 0 64 0) 0) .esl (Tryz.rRows .any (Tryz.V11 0 64 0) 26) := by
  intro k
  induction k with
  | zero =>
    intro B h11 _ h1 h70 hs
    have hI : apIo [(11, none, 64)] B = ⟨B⟩ := by
      unfold apIo
      congr 1
      funext i
      by_cases e : i = 11
      · subst e
        show (64 : Int) = B 11
        rw [h11]; rfl
      · have : Nat.beq 11 i = false := by rw [Bool.eq_false_iff]; intro q; exact e (Nat.eq_of_beq_eq_true q).symm
        simp only [evGet, this, cond_false]
    rw [← hI]
    exact callAt_conv (eJ := []) (hb := []) (hb' := []) (Tryz.f_base B) HbOk.none HbOk.none (by kernel_rfl)
  | succ k ih =>
    intro B h11 h0 h1 h70 hs
    push_cast at h11
    have hJ := ih (apIo [(10, some 10, -1), (11, some 11, 1)] B).io (by show B 11 + 1 = _; omega) (by show 0 ≤ B 11 + 1; omega) (by show 1 ≤ B 10 + (-1); omega) (by show B 10 + (-1) ≤ 70; omega) (by show 65 ≤ B 10 + (-1) + (B 11 + 1); omega)
    have hEn : CallAt ⟨B⟩ Tryz.prog Tryz.fEn.f Tryz.fEn.args Tryz.fEn.N Tryz.fEn.rows Tryz.fEn.v Tryz.fEn.rows' := by
      refine callAt_conv (B := B) (eI := []) (eJ := [(10, some 10, -1), (11, some 11, 1)]) (hb := []) (hb' := [(11, 0, 63)]) hJ HbOk.none ?_ (by kernel_rfl)
      intro x hx
      rw [List.mem_singleton] at hx
      subst hx
      show (0 : Int) ≤ B 11 ∧ B 11 ≤ 63
      omega
    have hc : @CallOk ⟨B⟩ Tryz.prog Tryz.fC := @gCall_ok ⟨B⟩ _ _ (@draw_ok ⟨B⟩ _ Tryz.mixed) _ (fun f b e => by simpa using Tryz.fbs.get f b e) _ (fun c hc => orE_ok Tryz.enter49 (by kernel_rfl) hEn hc) 1000 40
    refine callAt_conv (B := B) (eI := []) (eJ := []) (hb := [(10, 2, 70), (11, 0, 63)]) (hb' := []) (callAt_of hc Tryz.f_run) ?_ HbOk.none (by kernel_rfl)
    intro x hx
    simp only [List.mem_cons, List.mem_nil_iff, or_false] at hx
    rcases hx with rfl | rfl
    · show (2 : Int) ≤ B 10 ∧ B 10 ≤ 70
      omega
    · show (0 : Int) ≤ B 11 ∧ B 11 ≤ 63
      omega
end Go.Proofs

namespace Go.Proofs
open Go.Ab
set_option maxRecDepth 1000000
theorem Tryz.body49 : Tryz.f49.body = some (bodyOf Tryz.f49) := by
  have h : Tryz.f49.body.isSome = true := by kernel_rfl
  unfold bodyOf
  cases e : Tryz.f49.body with
  | none => rw [e] at h; cases h
  | some c => rfl
theorem Tryz.cls [Io] (c : CallF) (hc : CallOk Tryz.prog c) (n : Nat) : CdOk Tryz.prog 101 (.loop (lpOf 6 (bodyOf Tryz.f49))) (cLp n (Tryz.lB49 c n)) := by
  have := code_ok hc (draw := cDraw Tryz.prog c 101) (nt := 101) (fun id ops => draw_ok Tryz.mixed _ _ hc id ops) n (.loop (lpOf 6 (bodyOf Tryz.f49)))
  rw [Tryz.lB49_eq]
  exact this
noncomputable def Tryz.hopC : CallF := hCall Tryz.fb.get 49 Tryz.bH49 (fun c n => cLpE Tryz.hopLe (cLp n (Tryz.lB49 c n))) (fun c => c) 1000 60
theorem Tryz.hopC_ok [I : Io] : CallOk Tryz.prog Tryz.hopC :=
  hCall_ok (draw_ok Tryz.mixed) (fun f b e => by simpa using Tryz.fbs.get f b e) 1000 (fH := 49) (bH := Tryz.bH49) (lp := fun c n => cLpE Tryz.hopLe (cLp n (Tryz.lB49 c n))) (wr := fun c => c) (fun _ h => h) (b := Tryz.b49) (F := Tryz.f49) (cd := bodyOf Tryz.f49) (by kernel_rfl) Tryz.func49 Tryz.body49 (by kernel_rfl) (by decide) (by kernel_rfl) 6 Tryz.bH49_eq
    (fun c hc => cd_lpE (I := I) (Tryz.cls c hc 1000) Tryz.hop_le (Tryz.hop_at I)) 60
/-- The call that a run begins with. -/
noncomputable def Tryz.tEn (w : AV) (err : Int) : En := ⟨49, Tryz.rArgs w, 1000, Tryz.rRows (.int .i64 0) (.int .i64 0) 0, .esl, Tryz.rRows .any (.int .i64 0) err⟩
noncomputable def Tryz.W (lo hi o : Int) : AV := .sym .u64 (.var 0) lo hi o
noncomputable def Tryz.tC (w : AV) (err : Int) : CallF := gCall Tryz.fb.get (orE (Tryz.tEn w err)) 1000 60
theorem Tryz.tC_ok {B : Nat → Int} {w : AV} {err : Int} (hk : enC (Tryz.tEn w err) = true) (h : CallAt ⟨B⟩ Tryz.prog 49 (Tryz.rArgs w) 1000 (Tryz.rRows (.int .i64 0) (.int .i64 0) 0) .esl (Tryz.rRows .any (.int .i64 0) err)) : @CallOk ⟨B⟩ Tryz.prog (Tryz.tC w err) :=
  @gCall_ok ⟨B⟩ _ _ (@draw_ok ⟨B⟩ _ Tryz.mixed) _ (fun f b e => by simpa using Tryz.fbs.get f b e) _ (fun c hc => orE_ok (e := Tryz.tEn w err) Tryz.enter49 hk h hc) 1000 60
/-- Enough room. -/
theorem Tryz.t_s {B : Nat → Int} (o : Int) (h1 : 1 ≤ B 0 + o) (h2 : B 0 + o ≤ 64) {w : AV} (c : (relHb [] [] [(10, some 0, o), (11, none, 0)] 1000 (mkH 1000 (Tryz.rRows (.int .i64 0) (.int .i64 0) 0)) (Tryz.rRows (Tryz.V11 0 63 0) (Tryz.V11 0 63 0) 0) (Tryz.rRows (Tryz.V11 0 63 0) (Tryz.V11 0 63 0) 0) &&
    (relAs [] [] [(10, some 0, o), (11, none, 0)] (domR (Tryz.rRows (Tryz.V11 0 63 0) (Tryz.V11 0 63 0) 0)) true (Tryz.rArgs w) (Tryz.rArgs (Tryz.V10 1 64 0)) &&
    (relHb [] [(10, some 0, o), (11, none, 0)] [] 1000 (mkH 1000 (Tryz.rRows .any (Tryz.V11 0 63 0) 0)) (Tryz.rRows .any (.int .i64 0) 0) (Tryz.rRows .any (.int .i64 0) 0) && (relA [] [(10, some 0, o), (11, none, 0)] [] (domR (Tryz.rRows .any (.int .i64 0) 0)) false .esl .esl &&
    (eqDom (Tryz.rRows (.int .i64 0) (.int .i64 0) 0) (Tryz.rRows (Tryz.V11 0 63 0) (Tryz.V11 0 63 0) 0) && (eqDom (Tryz.rRows (Tryz.V11 0 63 0) (Tryz.V11 0 63 0) 0) (Tryz.rRows .any (Tryz.V11 0 63 0) 0) && eqDom (Tryz.rRows .any (Tryz.V11 0 63 0) 0) (Tryz.rRows .any (.int .i64 0) 0))))))) = true) :
    CallAt ⟨B⟩ Tryz.prog 49 (Tryz.rArgs w) 1000 (Tryz.rRows (.int .i64 0) (.int .i64 0) 0) .esl (Tryz.rRows .any (.int .i64 0) 0) :=
  callAt_conv (B := B) (eI := []) (eJ := [(10, some 0, o), (11, none, 0)]) (hb := []) (hb' := [])
    (Tryz.s_all (B 0 + o - 1).toNat (apIo [(10, some 0, o), (11, none, 0)] B).io (by show B 0 + o = _; omega) (by show (0 : Int) ≤ 0; omega) (by show B 0 + o + 0 ≤ 64; omega)) HbOk.none HbOk.none c
/-- Too deep. -/
theorem Tryz.t_f {B : Nat → Int} (o : Int) (h1 : 65 ≤ B 0 + o) (h2 : B 0 + o ≤ 70) {w : AV} (c : (relHb [] [] [(10, some 0, o), (11, none, 0)] 1000 (mkH 1000 (Tryz.rRows (.int .i64 0) (.int .i64 0) 0)) (Tryz.rRows (Tryz.V11 0 64 0) (Tryz.V11 0 64 0) 0) (Tryz.rRows (Tryz.V11 0 64 0) (Tryz.V11 0 64 0) 0) &&
    (relAs [] [] [(10, some 0, o), (11, none, 0)] (domR (Tryz.rRows (Tryz.V11 0 64 0) (Tryz.V11 0 64 0) 0)) true (Tryz.rArgs w) (Tryz.rArgs (Tryz.V10 1 70 0)) &&
    (relHb [] [(10, some 0, o), (11, none, 0)] [] 1000 (mkH 1000 (Tryz.rRows .any (Tryz.V11 0 64 0) 26)) (Tryz.rRows .any (.int .i64 0) 26) (Tryz.rRows .any (.int .i64 0) 26) && (relA [] [(10, some 0, o), (11, none, 0)] [] (domR (Tryz.rRows .any (.int .i64 0) 26)) false .esl .esl &&
    (eqDom (Tryz.rRows (.int .i64 0) (.int .i64 0) 0) (Tryz.rRows (Tryz.V11 0 64 0) (Tryz.V11 0 64 0) 0) && (eqDom (Tryz.rRows (Tryz.V11 0 64 0) (Tryz.V11 0 64 0) 0) (Tryz.rRows .any (Tryz.V11 0 64 0) 26) && eqDom (Tryz.rRows .any (Tryz.V11 0 64 0) 26) (Tryz.rRows .any (.int .i64 0) 26))))))) = true) :
    CallAt ⟨B⟩ Tryz.prog 49 (Tryz.rArgs w) 1000 (Tryz.rRows (.int .i64 0) (.int .i64 0) 0) .esl (Tryz.rRows .any (.int .i64 0) 26) :=
  callAt_conv (B := B) (eI := []) (eJ := [(10, some 0, o), (11, none, 0)]) (hb := []) (hb' := [])
    (Tryz.f_all 64 (apIo [(10, some 0, o), (11, none, 0)] B).io (by show (0 : Int) = _; rfl) (by show (0 : Int) ≤ 0; omega) (by show 1 ≤ B 0 + o; omega) (by show B 0 + o ≤ 70; omega) (by show 65 ≤ B 0 + o + 0; omega)) HbOk.none HbOk.none c
end Go.Proofs
