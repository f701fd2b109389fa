import Derived.Test.YtooeifemoidnoaaDoorVdU2
noncomputable section
variable {V : ByteArray → Bool} {cal : Go.Ab.Lf.CallN}
namespace Go.Proofs.Vd
open Go.Ab Go.Ab.Lf
set_option maxRecDepth 100000
def s7 : Fsp := mkF .nil [] (Ps [.bo]) [] [.bool] fun _ => .ok (true, ())
structure WorldL (V : ByteArray -> Bool) (cal : CallN) : Prop extends WorldN V cal where
 aw : s7.Ok 7 cal
abbrev ti13 : List Ty := [i64, i64, i64, u64, u64, .sli i64, i64, i64, .bool, .sli i64, .sli i64]
abbrev to13 : List Ty := [.bool]
def e13  : List (Nat × Fsp) := []
theorem e13_ok (W : WorldL V cal) : EnOk cal (e13) := .nil
def t13  (x : denT ti13) : Lf.T (List Pl) := fnT (Ps [pI, pInf]) [] (Ps [.bo]) (fun _ => none) Tryd.x13 10 (inD (e13) 10) (ofT ti13 x)
def k13  (x : denT ti13) : Bool := okV1 to13 (t13 x)
def m13  (x : denT ti13) : denT to13 := outV1 to13 (t13 x)
def s13  : Fsp := mkF (Ps [pI, pInf]) [] (Ps [.bo]) ti13 to13 fun x => .ck (k13 x) (.ok (m13 x))
theorem s13_ok (W : WorldL V cal) : (s13).Ok 13 cal :=
 auto_ok (W.toWorld.in (e13_ok W) 10) (W.toWorld.st 13 _ rfl) rfl (okL_none _) (m := 10) rfl (fun _ => rfl) (fun _ => rfl)
abbrev ti14 : List Ty := [.sli i64, .sli tI]
abbrev to14 : List Ty := [.sli tSig, .sli tImp, .sli i64, .sli tLim, .sli tLim, .sli tGlo, .sli tExp, i64, .sli tEle, .sli tCod, .sli tDat]
def e14  : List (Nat × Fsp) := []
theorem e14_ok (W : WorldL V cal) : EnOk cal (e14) := .nil
def t14  (x : denT ti14) : Lf.T (List Pl) := fnT (Ps [.im i64, .im tI]) [] (Ps [pM]) (fun _ => none) Tryd.x14 3 (inD (e14) 3) (ofT ti14 x)
def k14  (x : denT ti14) : Bool := okV1 to14 (t14 x)
def m14  (x : denT ti14) : denT to14 := outV1 to14 (t14 x)
def s14  : Fsp := mkF (Ps [.im i64, .im tI]) [] (Ps [pM]) ti14 to14 fun x => .ck (k14 x) (.ok (m14 x))
theorem s14_ok (W : WorldL V cal) : (s14).Ok 14 cal :=
 auto_ok (W.toWorld.in (e14_ok W) 3) (W.toWorld.st 14 _ rfl) rfl (okL_none _) (m := 3) rfl (fun _ => rfl) (fun _ => rfl)
abbrev ti4 : List Ty := [i64, i64, i64, u64, u64, .sli i64, .sli i64]
abbrev to4 : List Ty := [.bool]
def e4 (V : ByteArray -> Bool) : List (Nat × Fsp) := [(7, s7), (8, s8 V), (9, s9 V), (11, s11), (13, s13), (14, s14)]
theorem e4_ok (W : WorldL V cal) : EnOk cal (e4 V) := (.cons W.aw (.cons (s8_ok W.toWorldN) (.cons (s9_ok W.toWorldN) (.cons (s11_ok W.toWorld) (.cons (s13_ok W) (.cons (s14_ok W) .nil))))))
def t4 (V : ByteArray -> Bool) (x : denT ti4) : Lf.T (List Pl) := fnT (Ps [pI, .im i64]) [] (Ps [.bo]) (fun _ => none) Tryd.x4 3 (inD (e4 V) 3) (ofT ti4 x)
def k4 (V : ByteArray -> Bool) (x : denT ti4) : Bool := okV1 to4 (t4 V x)
def m4 (V : ByteArray -> Bool) (x : denT ti4) : denT to4 := outV1 to4 (t4 V x)
def s4 (V : ByteArray -> Bool) : Fsp := mkF (Ps [pI, .im i64]) [] (Ps [.bo]) ti4 to4 fun x => .ck (k4 V x) (.ok (m4 V x))
theorem s4_ok (W : WorldL V cal) : (s4 V).Ok 4 cal :=
 auto_ok (W.toWorld.in (e4_ok W) 3) (W.toWorld.st 4 _ rfl) rfl (okL_none _) (m := 3) rfl (fun _ => rfl) (fun _ => rfl)
end Go.Proofs.Vd

noncomputable section
namespace Go.Proofs.Vd
open Go.Ab Go.Ab.Lf
set_option maxRecDepth 100000
abbrev uI (o : Int) : den tI := (o, 0, 0, 0, 0, [])
def pBody (out : List Int) (c : List (den tI)) : denT tM := ([([], out)], [], [0], [], [], [], [], -1, [], [([], c ++ [uI 11])], [], ())
theorem eq14 (out : List Int) (c : List (den tI)) : (t14 (out, c, ())).val = ckO (roomy 64 (0 + c.length)) (ckO (roomy 64 ((app [] c).length + 1)) (some (ofT to14 ([([], out)], [], [0], [], [], [], [], -1, [], [([], app (app [] c) [uI 11])], [], ())))) := by kernel_rfl
theorem sem14 (out : List Int) (c : List (den tI)) (h : c.length <= 1073741824) : k14 (out, c, ()) = true /\ m14 (out, c, ()) = pBody out c := by
 refine sem_of (t := t14 (out, c, ())) ?_
 have e : app [] c = c := by rw [app_eq]; rfl
 rw [eq14, e, roomy_le (by omega) (by omega), roomy_le (by omega) (by omega), app_eq]
 rfl
abbrev wkG (x : den tI) (f : denT tInf) : denT ti13 := (x.1, x.2.1, x.2.2.1, x.2.2.2.1, x.2.2.2.2.1, x.2.2.2.2.2, f.1, f.2.1, f.2.2.1, f.2.2.2.1, f.2.2.2.2.1, ())
theorem eq13 (x : den tI) (f : denT tInf) : (t13 (wkG x f)).val =
  (let R := fun b : Bool => some (ofT to13 (b, ()))
  bif decide (f.1 = 7) then R (decide (x.2.1 <= f.2.1)) else
  bif decide (f.1 = 8) then ckO (bif decide (x.2.1 <= f.2.1) then decide (0 <= cvtW .u64 f.2.1) else true) (R (bif decide (x.2.1 <= f.2.1) then decide (x.2.2.2.1 < shrW .u64 16 (cvtW .u64 f.2.1)) else false)) else
  bif decide (f.1 = 13) then R (decide (x.2.1 < f.2.1)) else
  bif decide (f.1 = 12) then (bif (bif decide (31 < cvtW .u8 (shrW .u64 x.2.2.2.1 0)) then true else decide (31 < cvtW .u8 (shrW .u64 x.2.2.2.2.1 0))) then R false else bif (bif decide (31 < cvtW .u8 (shrW .u64 x.2.2.2.1 8)) then true else decide (31 < cvtW .u8 (shrW .u64 x.2.2.2.2.1 8))) then R false else bif (bif decide (31 < cvtW .u8 (shrW .u64 x.2.2.2.1 16)) then true else decide (31 < cvtW .u8 (shrW .u64 x.2.2.2.2.1 16))) then R false else bif (bif decide (31 < cvtW .u8 (shrW .u64 x.2.2.2.1 24)) then true else decide (31 < cvtW .u8 (shrW .u64 x.2.2.2.2.1 24))) then R false else bif (bif decide (31 < cvtW .u8 (shrW .u64 x.2.2.2.1 32)) then true else decide (31 < cvtW .u8 (shrW .u64 x.2.2.2.2.1 32))) then R false else bif (bif decide (31 < cvtW .u8 (shrW .u64 x.2.2.2.1 40)) then true else decide (31 < cvtW .u8 (shrW .u64 x.2.2.2.2.1 40))) then R false else bif (bif decide (31 < cvtW .u8 (shrW .u64 x.2.2.2.1 48)) then true else decide (31 < cvtW .u8 (shrW .u64 x.2.2.2.2.1 48))) then R false else bif (bif decide (31 < cvtW .u8 (shrW .u64 x.2.2.2.1 56)) then true else decide (31 < cvtW .u8 (shrW .u64 x.2.2.2.2.1 56))) then R false else R true) else R true) := by kernel_rfl
theorem eq4 (V : ByteArray -> Bool) (x : den tI) (out : List Int) (X : den tI) (hX : X = (x.1, x.2.1, x.2.2.1, x.2.2.2.1, x.2.2.2.2.1, [])) (f : denT tInf) (hf : f = mOf x.1) (z : denT to14) (hz : z = m14 (out, [uI 0, X, uI 0], ())) (y : denT to14) (hy : y = m14 (out, [X, uI 0], ()))
  (e : Int) (he : e = (m8 V (z.1, z.2.1, z.2.2.1, z.2.2.2.1, [(1, -1)], z.2.2.2.2.2.1, z.2.2.2.2.2.2.1, z.2.2.2.2.2.2.2.1, z.2.2.2.2.2.2.2.2.1, z.2.2.2.2.2.2.2.2.2.1, z.2.2.2.2.2.2.2.2.2.2.1, ())).1) (mk : denT to9) (hm : mk = m9 V (z.1, z.2.1, z.2.2.1, z.2.2.2.1, [(1, -1)], z.2.2.2.2.2.1, z.2.2.2.2.2.2.1, z.2.2.2.2.2.2.2.1, z.2.2.2.2.2.2.2.2.1, z.2.2.2.2.2.2.2.2.2.1, z.2.2.2.2.2.2.2.2.2.2.1, 0, ())) : (t4 V (x.1, x.2.1, x.2.2.1, x.2.2.2.1, x.2.2.2.2.1, x.2.2.2.2.2, out, ())).val =
  (let R := fun b : Bool => some (ofT to4 (b, ()))
  bif !mIs x.1 then R true else bif !f.2.2.1 then R true else
  ckO (k13 (wkG x f)) (bif !(m13 (wkG x f)).1 then R true else bif decide (20 < (out.length : Int)) then R true else
  ckO (k14 (out, [uI 0, X, uI 0], ())) (ckO (k8 V (z.1, z.2.1, z.2.2.1, z.2.2.2.1, [(1, -1)], z.2.2.2.2.2.1, z.2.2.2.2.2.2.1, z.2.2.2.2.2.2.2.1, z.2.2.2.2.2.2.2.2.1, z.2.2.2.2.2.2.2.2.2.1, z.2.2.2.2.2.2.2.2.2.2.1, ())) (bif decide (e = 1) then R true else
  ckO (k9 V (z.1, z.2.1, z.2.2.1, z.2.2.2.1, [(1, -1)], z.2.2.2.2.2.1, z.2.2.2.2.2.2.1, z.2.2.2.2.2.2.2.1, z.2.2.2.2.2.2.2.2.1, z.2.2.2.2.2.2.2.2.2.1, z.2.2.2.2.2.2.2.2.2.2.1, 0, ())) (
   ckO (bif !decide (e = 0) then true else bif !decide (mk.2.1 = 0) then true else bif !decide ((mk.1.length : Int) = 4) then true else (ixOk 1 (mk.1.length : Int) && bif (mk.1.getD 1 (dflt tMk)).1 then true else (ixOk 2 (mk.1.length : Int) && bif (mk.1.getD 2 (dflt tMk)).1 then true else ixOk 3 (mk.1.length : Int)))) (
   bif (bif !decide (e = 0) then true else bif !decide (mk.2.1 = 0) then true else bif !decide ((mk.1.length : Int) = 4) then true else bif (mk.1.getD 1 (dflt tMk)).1 then true else bif (mk.1.getD 2 (dflt tMk)).1 then true else (mk.1.getD 3 (dflt tMk)).1) then R false else
   ckO (k14 (out, [X, uI 0], ())) (ckO (k8 V (y.1, y.2.1, y.2.2.1, y.2.2.2.1, [(1, -1)], y.2.2.2.2.2.1, y.2.2.2.2.2.2.1, y.2.2.2.2.2.2.2.1, y.2.2.2.2.2.2.2.2.1, y.2.2.2.2.2.2.2.2.2.1, y.2.2.2.2.2.2.2.2.2.2.1, ())) (R (!(xor (decide ((m8 V (y.1, y.2.1, y.2.2.1, y.2.2.2.1, [(1, -1)], y.2.2.2.2.2.1, y.2.2.2.2.2.2.1, y.2.2.2.2.2.2.2.1, y.2.2.2.2.2.2.2.2.1, y.2.2.2.2.2.2.2.2.2.1, y.2.2.2.2.2.2.2.2.2.2.1, ())).1 = 0)) (decide ((f.2.2.2.1.length : Int) = 0)))))))))))) := by
 subst hm; subst he; subst hy; subst hz; subst hf; subst hX
 kernel_rfl
end Go.Proofs.Vd

noncomputable section
namespace Go.Proofs.Vd
open Go.Ab Go.Ab.Lf
set_option maxRecDepth 100000
def pSh (x : den tI) : Bool := bif (bif decide (31 < cvtW .u8 (shrW .u64 x.2.2.2.1 0)) then true else decide (31 < cvtW .u8 (shrW .u64 x.2.2.2.2.1 0))) then false else bif (bif decide (31 < cvtW .u8 (shrW .u64 x.2.2.2.1 8)) then true else decide (31 < cvtW .u8 (shrW .u64 x.2.2.2.2.1 8))) then false else bif (bif decide (31 < cvtW .u8 (shrW .u64 x.2.2.2.1 16)) then true else decide (31 < cvtW .u8 (shrW .u64 x.2.2.2.2.1 16))) then false else bif (bif decide (31 < cvtW .u8 (shrW .u64 x.2.2.2.1 24)) then true else decide (31 < cvtW .u8 (shrW .u64 x.2.2.2.2.1 24))) then false else bif (bif decide (31 < cvtW .u8 (shrW .u64 x.2.2.2.1 32)) then true else decide (31 < cvtW .u8 (shrW .u64 x.2.2.2.2.1 32))) then false else bif (bif decide (31 < cvtW .u8 (shrW .u64 x.2.2.2.1 40)) then true else decide (31 < cvtW .u8 (shrW .u64 x.2.2.2.2.1 40))) then false else bif (bif decide (31 < cvtW .u8 (shrW .u64 x.2.2.2.1 48)) then true else decide (31 < cvtW .u8 (shrW .u64 x.2.2.2.2.1 48))) then false else bif (bif decide (31 < cvtW .u8 (shrW .u64 x.2.2.2.1 56)) then true else decide (31 < cvtW .u8 (shrW .u64 x.2.2.2.2.1 56))) then false else true
def pG13 (x : den tI) (f : denT tInf) : Bool :=
 bif decide (f.1 = 7) then decide (x.2.1 <= f.2.1) else
 bif decide (f.1 = 8) then (bif decide (x.2.1 <= f.2.1) then decide (x.2.2.2.1 < shrW .u64 16 (cvtW .u64 f.2.1)) else false) else
 bif decide (f.1 = 13) then decide (x.2.1 < f.2.1) else
 bif decide (f.1 = 12) then pSh x else true
theorem sem13 (x : den tI) (f : denT tInf) : k13 (wkG x f) = true /\ m13 (wkG x f) = (pG13 x f, ()) := by
 refine sem_of (t := t13 (wkG x f)) ?_
 have c : (bif decide (x.2.1 <= f.2.1) then decide (0 <= cvtW .u64 f.2.1) else true) = true := by
  cases decide (x.2.1 <= f.2.1) with
  | true => exact decide_eq_true (cvt_u64 f.2.1).1
  | false => rfl
 rw [eq13]
 dsimp only
 rw [c]
 unfold pG13 pSh
 cases decide (f.1 = 7) <;> cases decide (f.1 = 8) <;> cases decide (f.1 = 13) <;> cases decide (f.1 = 12) <;> try rfl
 simp only [cond_true, cond_false]
 cases (bif decide (31 < cvtW .u8 (shrW .u64 x.2.2.2.1 0)) then true else decide (31 < cvtW .u8 (shrW .u64 x.2.2.2.2.1 0)))
 case true => rfl
 cases (bif decide (31 < cvtW .u8 (shrW .u64 x.2.2.2.1 8)) then true else decide (31 < cvtW .u8 (shrW .u64 x.2.2.2.2.1 8)))
 case true => rfl
 cases (bif decide (31 < cvtW .u8 (shrW .u64 x.2.2.2.1 16)) then true else decide (31 < cvtW .u8 (shrW .u64 x.2.2.2.2.1 16)))
 case true => rfl
 cases (bif decide (31 < cvtW .u8 (shrW .u64 x.2.2.2.1 24)) then true else decide (31 < cvtW .u8 (shrW .u64 x.2.2.2.2.1 24)))
 case true => rfl
 cases (bif decide (31 < cvtW .u8 (shrW .u64 x.2.2.2.1 32)) then true else decide (31 < cvtW .u8 (shrW .u64 x.2.2.2.2.1 32)))
 case true => rfl
 cases (bif decide (31 < cvtW .u8 (shrW .u64 x.2.2.2.1 40)) then true else decide (31 < cvtW .u8 (shrW .u64 x.2.2.2.2.1 40)))
 case true => rfl
 cases (bif decide (31 < cvtW .u8 (shrW .u64 x.2.2.2.1 48)) then true else decide (31 < cvtW .u8 (shrW .u64 x.2.2.2.2.1 48)))
 case true => rfl
 cases (bif decide (31 < cvtW .u8 (shrW .u64 x.2.2.2.1 56)) then true else decide (31 < cvtW .u8 (shrW .u64 x.2.2.2.2.1 56)))
 case true => rfl
 rfl
theorem join_eq (lo hi : Int) : mJoin (lo, hi, ()) = (cvtW .u8 (shrW .u64 lo 0), cvtW .u8 (shrW .u64 lo 8), cvtW .u8 (shrW .u64 lo 16), cvtW .u8 (shrW .u64 lo 24), cvtW .u8 (shrW .u64 lo 32), cvtW .u8 (shrW .u64 lo 40), cvtW .u8 (shrW .u64 lo 48), cvtW .u8 (shrW .u64 lo 56), cvtW .u8 (shrW .u64 hi 0), cvtW .u8 (shrW .u64 hi 8), cvtW .u8 (shrW .u64 hi 16), cvtW .u8 (shrW .u64 hi 24), cvtW .u8 (shrW .u64 hi 32), cvtW .u8 (shrW .u64 hi 40), cvtW .u8 (shrW .u64 hi 48), cvtW .u8 (shrW .u64 hi 56), ()) := by
 refine (sem_of (to := tV) (t := fnT (Ps [.ag (Ps [.n .u64, .n .u64])]) [] (Ps [pV]) (fun _ => none) Tryd.x81 20 (inD [] 20) (ofT [u64, u64] (lo, hi, ()))) ?_).2
 kernel_rfl
theorem pSh_ok {x : den tI} (h : pSh x = true) : ∀ c, c ∈ mVL x.2.2.2.1 x.2.2.2.2.1 -> decide (c < 32) = true := by
 unfold pSh at h
 unfold mVL
 rw [join_eq]
 have key : ∀ (a b : Int) (r : Bool), (bif (bif decide (31 < a) then true else decide (31 < b)) then false else r) = true -> a < 32 /\ b < 32 /\ r = true := by
  intro a b r h
  by_cases h1 : 31 < a
  ·rw [decide_eq_true h1] at h; cases h
  ·by_cases h2 : 31 < b
   ·rw [decide_eq_false h1, decide_eq_true h2] at h; cases h
   ·rw [decide_eq_false h1, decide_eq_false h2] at h
    exact ⟨by omega, by omega, h⟩
 obtain ⟨a0, b0, h⟩ := key _ _ _ h
 obtain ⟨a1, b1, h⟩ := key _ _ _ h
 obtain ⟨a2, b2, h⟩ := key _ _ _ h
 obtain ⟨a3, b3, h⟩ := key _ _ _ h
 obtain ⟨a4, b4, h⟩ := key _ _ _ h
 obtain ⟨a5, b5, h⟩ := key _ _ _ h
 obtain ⟨a6, b6, h⟩ := key _ _ _ h
 obtain ⟨a7, b7, h⟩ := key _ _ _ h
 intro c hc
 have hc : c ∈ [cvtW .u8 (shrW .u64 x.2.2.2.1 0), cvtW .u8 (shrW .u64 x.2.2.2.1 8), cvtW .u8 (shrW .u64 x.2.2.2.1 16), cvtW .u8 (shrW .u64 x.2.2.2.1 24), cvtW .u8 (shrW .u64 x.2.2.2.1 32), cvtW .u8 (shrW .u64 x.2.2.2.1 40), cvtW .u8 (shrW .u64 x.2.2.2.1 48), cvtW .u8 (shrW .u64 x.2.2.2.1 56), cvtW .u8 (shrW .u64 x.2.2.2.2.1 0), cvtW .u8 (shrW .u64 x.2.2.2.2.1 8), cvtW .u8 (shrW .u64 x.2.2.2.2.1 16), cvtW .u8 (shrW .u64 x.2.2.2.2.1 24), cvtW .u8 (shrW .u64 x.2.2.2.2.1 32), cvtW .u8 (shrW .u64 x.2.2.2.2.1 40), cvtW .u8 (shrW .u64 x.2.2.2.2.1 48), cvtW .u8 (shrW .u64 x.2.2.2.2.1 56)] := hc
 refine decide_eq_true ?_
 simp only [List.mem_cons, List.not_mem_nil, or_false] at hc
 rcases hc with e | e | e | e | e | e | e | e | e | e | e | e | e | e | e | e
 ·rw [e]; exact a0
 ·rw [e]; exact a1
 ·rw [e]; exact a2
 ·rw [e]; exact a3
 ·rw [e]; exact a4
 ·rw [e]; exact a5
 ·rw [e]; exact a6
 ·rw [e]; exact a7
 ·rw [e]; exact b0
 ·rw [e]; exact b1
 ·rw [e]; exact b2
 ·rw [e]; exact b3
 ·rw [e]; exact b4
 ·rw [e]; exact b5
 ·rw [e]; exact b6
 ·rw [e]; exact b7
theorem pShuf_ok {x : den tI} (h : pSh x = true) (w : W3) : pShuf w x = w := by
 have hc := pSh_ok h
 unfold pShuf
 generalize mVL x.2.2.2.1 x.2.2.2.2.1 = l at hc ⊢
 induction l generalizing w with
 | nil => rfl
 | cons a l ih =>
  show l.foldl _ (pMst w (decide (a < 32))) = w
  rw [hc a List.mem_cons_self]
  have e : pMst w true = w := by
   show (w.1, w.2.1, w.2.2 || !true) = w
   rw [Bool.not_true, Bool.or_false]
  rw [e]
  exact ih w fun c hc' => hc c (List.mem_cons_of_mem _ hc')
end Go.Proofs.Vd

noncomputable section
namespace Go.Proofs.Vd
open Go.Ab Go.Ab.Lf
set_option maxRecDepth 100000
theorem rest_a (o a b lo hi : Int) (l : List Int) (f : Int) (h : (mRest (o, a, b, lo, hi, l, f, ())).1 = true) (h14 : f = 14) : a = 0 := by
 have e : (fnT (Ps [pI, .n .i64]) [] (Ps [.bo]) (fun _ => none) Tryd.x87 3 (inD [] 3) (ofT t87 (o, a, b, lo, hi, l, f, ()))).val =
   (let R := fun (x : Bool) => some (ofT [.bool] (x, ()))
   bif (bif !decide (f = 4) then decide (0 < (l.length : Int)) else false) then R false else
   bif decide (f = 2) then R (zb b (zb lo (decide (hi = 0)))) else bif decide (f = 3) then R (zb b (zb lo (decide (hi = 0)))) else bif decide (f = 5) then R (zb b (zb lo (decide (hi = 0)))) else bif decide (f = 4) then R (zb b (zb lo (decide (hi = 0)))) else bif decide (f = 13) then R (zb b (zb lo (decide (hi = 0)))) else
   bif decide (f = 6) then R (zb lo (decide (hi = 0))) else bif decide (f = 7) then R (zb lo (decide (hi = 0))) else
   bif decide (f = 8) then R (decide (hi = 0)) else
   bif decide (f = 9) then R (zb a (zb b (decide (hi = 0)))) else bif decide (f = 10) then R (zb a (zb b (decide (hi = 0)))) else
   bif decide (f = 11) then R (zb a (zb b true)) else bif decide (f = 12) then R (zb a (zb b true)) else R (zb a (zb b (zb lo (decide (hi = 0)))))) := by kernel_rfl
 by_cases ha : a = 0
 ·exact ha
 ·exfalso
  subst h14
  have e2 : (fnT (Ps [pI, .n .i64]) [] (Ps [.bo]) (fun _ => none) Tryd.x87 3 (inD [] 3) (ofT t87 (o, a, b, lo, hi, l, 14, ()))).val = some (ofT [.bool] (false, ())) := by
   rw [e]
   cases (bif !decide ((14 : Int) = 4) then decide (0 < (l.length : Int)) else false) with
   | true => rfl
   | false =>
    show some (ofT [.bool] (bif decide (a = 0) then _ else false, ())) = _
    rw [decide_eq_false ha]
    rfl
  have := (sem_of (to := [.bool]) (y := (false, ())) e2).2
  unfold mRest at h
  rw [this] at h
  cases h
theorem put_rest {x : den tI} (hI : okI (mI x) = true) (h : (mPut (mI x)).2 = true) : (mRest (x.1, x.2.1, x.2.2.1, x.2.2.2.1, x.2.2.2.2.1, x.2.2.2.2.2, (mOf x.1).1, ())).1 = true := by
 have e := (mPut_gd hI).2 (List Int × Bool) Prod.mk
 rw [h] at e
 have e : mPutX Prod.mk x.1 x.2.1 x.2.2.1 x.2.2.2.1 x.2.2.2.2.1 x.2.2.2.2.2 = some ((mPut (mI x)).1, true) := e
 unfold mPutX at e
 dsimp only at e
 cases h1 : mIs x.1 with
 | false =>
  rw [h1] at e
  injection e with e
  have e2 : false = true := congrArg Prod.snd e
  cases e2
 | true =>
  rw [h1] at e
  simp only [Bool.not_true, cond_false] at e
  cases h2 : (mRest (x.1, x.2.1, x.2.2.1, x.2.2.2.1, x.2.2.2.2.1, x.2.2.2.2.2, (mOf x.1).1, ())).1 with
  | false =>
   rw [h2] at e
   injection e with e
   have e2 : false = true := congrArg Prod.snd e
   cases e2
  | true => rfl
abbrev pQ (out : List Int) (c : List (den tI)) : denT tM := ([([], out)], [], [0], [], [(1, -1)], [], [], -1, [], [([], c ++ [uI 11])], [], ())
theorem wrX_some : ∀ (c : List (den tI)) (out : List Int), (∀ x, x ∈ c -> (mPut (mI x)).2 = true) -> (mWrX c out).isSome = true
 | [], _, _ => rfl
 | x :: c, out, h => by
  rw [wrX_cons, h x List.mem_cons_self, cond_true]
  exact wrX_some c _ fun z hz => h z (List.mem_cons_of_mem _ hz)
theorem closed_plain (c : List (den tI)) (h : ∀ x, x ∈ c -> ¬ ((2 : Int) <= x.1 /\ (x.1 : Int) <= 5) /\ (x.1 : Int) ≠ 11) : Clo [] (c ++ [uI 11]) := by
 induction c with
 | nil =>
  unfold Clo
  rfl
 | cons x c ih =>
  obtain ⟨h1, h2⟩ := h x List.mem_cons_self
  have ih := ih fun z hz => h z (List.mem_cons_of_mem _ hz)
  have e : mClG [] x (c ++ [uI 11]) = .inl [] := by
   unfold mClG
   have k : ∀ o : Int, ¬ (2 <= o /\ o <= 5) -> ¬ (o = 2 ∨ o = 3 ∨ o = 4) /\ ¬ o = 5 := fun o _ => by omega
   rw [if_neg (k _ h1).1, if_neg (k _ h1).2, if_neg h2]
  unfold Clo at ih ⊢
  show foldR mClG (fun _ => (none : Option Bool)) (x :: (c ++ [uI 11])) [] = some true
  rw [foldR, e]
  exact ih
theorem wrE_of {c : List (den tI)} (hc : Clo [] c) (h : ∀ x, x ∈ c -> (mPut (mI x)).2 = true) : mWrE c = 0 := by
 unfold mWrE mWrO mClosed mClX
 have hc : foldR mClG (fun _ => (none : Option Bool)) c [] = some true := hc
 rw [hc]
 simp only [Option.getD_some, cond_true]
 rw [wrX_some c [] h]
 rfl
theorem wrE_put {c : List (den tI)} (hc : okIs c = true) (h : mWrE c = 0) : ∀ x, x ∈ c -> (mPut (mI x)).2 = true := by
 unfold mWrE at h
 cases ho : mWrO c with
 | none => rw [ho] at h; cases h
 | some B =>
  unfold mWrO at ho
  cases hcl : mClosed c with
  | false => rw [hcl] at ho; cases ho
  | true =>
   rw [hcl, cond_true] at ho
   exact (wrX_ok c [] B hc ho).1
theorem nOk_of {n : Nat} (h : n < 4294967296) : nOk (n : Int) = true := by
 unfold nOk
 rw [decide_eq_true (by omega), decide_eq_true (by omega)]
 rfl
theorem encQ_wt' (V : ByteArray -> Bool) {out : List Int} {c : List (den tI)} (ho : out.length <= 20) (hc : mWt (c ++ [uI 11]) <= 200) : 8 + wt18 V (pQ out c) <= 1000 := by
 have e : wt18 V (pQ out c) = 0 + ((21 + ((0 + (1 + (10 + (([] : List Int).length + (10 + out.length))))) + 0)) + ((21 + 0) + ((21 + (10 + 0)) + ((21 + 0) + ((21 + (21 + 0)) + ((21 + 0) + ((21 + 0) + (0 + (21 + ((21 + 0) + ((21 + ((20 + 11 * ([] : List Int).length + mWt (c ++ [uI 11])) + 0)) + (21 + 0)))))))))))) := rfl
 rw [e]
 simp only [List.length_nil]
 omega
theorem okEQ (V : ByteArray -> Bool) {out : List Int} {c : List (den tI)} (ho : out.length <= 20) (hc : mWt (c ++ [uI 11]) <= 200) (hi : okIs (c ++ [uI 11]) = true) : okE V (pQ out c) = true := by
 have hC : okC (c ++ [uI 11]) = true := by
  unfold okC
  rw [hi, decide_eq_true (by omega)]
  rfl
 unfold okE
 have hM : okM V (pQ out c) = true := by
  have e : okM V (pQ out c) = (true && (true && (true && (true && (true && (true && (true && (true && ((bif okC (c ++ [uI 11]) then true else false) && true))))))))) := rfl
  rw [e, hC]
  rfl
 rw [hM, decide_eq_true (by have := encQ_wt' V ho hc; omega)]
 rfl
theorem enPQ (V : ByteArray -> Bool) (out : List Int) (c : List (den tI)) : enP V (pQ out c) = (secP A30x 256 [([], out)] && secP A52x 512 [([], c ++ [uI 11])]) := by
 have e : enP V (pQ out c) = (true && ((secP A30x 256 [([], out)] && (true && (secP A38x 512 [0] && (true && (secP A42x 512 [(1, -1)] && (true && true)))))) && (true && (true && (secP A52x 512 [([], c ++ [uI 11])] && true))))) := by kernel_rfl
 have h38 : secP A38x 512 [0] = true := by kernel_rfl
 have h42 : secP A42x 512 [(1, -1)] = true := by kernel_rfl
 rw [e, h38, h42]
 simp only [Bool.true_and, Bool.and_true]
theorem secC {c : List (den tI)} (hi : okIs c = true) (hc : mWt c <= 200) (hw : mWrE c = 0) : secP A52x 512 [([], c)] = true := by
 have hC : okC c = true := by
  unfold okC
  rw [hi, decide_eq_true (by omega)]
  rfl
 have h52 := (F52_wx ([], c) hC).1
 have e52 : wt52 (([] : List Int), c, ()) = 20 + 11 * ([] : List Int).length + mWt c := rfl
 have h52 : (nb ((cdB ([], c)).length : Int) ++ cdB ([], c)).length <= 20 + 11 * ([] : List Int).length + mWt c := h52
 simp only [List.length_nil] at h52
 rw [List.length_append] at h52
 have hl : (rowB A52x [(([], c) : den tCod)]).length <= 300 := by
  have := rowB_len A52x [(([], c) : den tCod)] (by show (bif okC c then true else false) = true; rw [hC]; rfl)
  have e : wtL A52.wt [(([], c) : den tCod)] = (20 + 11 * ([] : List Int).length + mWt c) + 0 := rfl
  rw [e] at this
  simp only [List.length_nil] at this
  omega
 have hn := nb_len (([(([], c) : den tCod)].length : Nat) : Int)
 have hp : A52x.p ([], c) = true := by
  have e : A52x.p ([], c) = (decide ((([] : List Int).length : Int) <= 512) && ((nOk (mRuns [] 0) && (lcP [] ([] : List Int).length 0 && decide (mWrE c = 0))) && nOk ((cdB ([], c)).length : Int))) := rfl
  have h1 : nOk (mRuns [] 0) = true := by kernel_rfl
  rw [e, h1, hw, nOk_of (by omega)]
  rfl
 have e : secP A52x 512 [([], c)] = (true && bif false then true else ((true && (A52x.p ([], c) && true)) && nOk (((nb (([(([], c) : den tCod)].length : Nat) : Int) ++ rowB A52x [([], c)]).length : Nat) : Int))) := by kernel_rfl
 rw [e, hp, nOk_of (by rw [List.length_append]; omega)]
 rfl
theorem encQ (V : ByteArray -> Bool) {out : List Int} {c : List (den tI)} (ho : out.length <= 20) (hc : mWt (c ++ [uI 11]) <= 200) (hi : okIs (c ++ [uI 11]) = true) : mEncE V (pQ out c) = bif enP V (pQ out c) then 0 else 1 := by
 have hE := okEQ V ho hc hi
 have hl := mEnc_len hE
 have hw := encQ_wt' V ho hc
 have e := mEnc_eq hE
 unfold mEncE
 rw [decide_eq_false (by omega), e]
 cases enP V (pQ out c) <;> rfl
theorem outQ (out : List Int) (c : List (den tI)) : pOuter (pQ out c) = true := by kernel_rfl
end Go.Proofs.Vd
