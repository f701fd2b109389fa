import Derived.Test.YtooeifemoidnoaaDoorVdX1
import Derived.Test.YtooeifemoidnoaaDoorVdP0
import Derived.Test.YtooeifemoidnoaaDoorVdL4
import Derived.OpenShut
import Derived.ChangeSlices
noncomputable section
variable {V : ByteArray → Bool} {cal : Go.Ab.Lf.CallN}
namespace Go.Proofs.Vd
open Go.Ab Go.Ab.Lf
set_option maxRecDepth 100000
abbrev ti570 : List Ty := [.sli tSig, .sli tImp, .sli i64, .sli tLim, .sli tLim, .sli tGlo, .sli tExp, i64, .sli tEle, .sli tCod, .sli tDat, .sli tExp, i64, i64]
abbrev to570_0 : List Ty := [.sli tSig, .sli tImp, .sli i64, .sli tLim, .sli tLim, .sli tGlo, .sli tExp, i64, .sli tEle, .sli tCod, .sli tDat]
abbrev to570_1 : List Ty := [.bool]
def l570 : Lop := ⟨0, lpOf Tryd.x57.code 0, [2, 24, 25, 26], (Ps [pMb, .im tExp, .n .i64, .n .i64]), [⟨.brk, [2], Ps [pMb]⟩, ⟨.rt, [4], Ps [.bo]⟩]⟩
def e570  : List (Nat × Fsp) := []
theorem e570_ok (W : WorldC V cal) : EnOk cal (e570) := .nil
def f570  : List Pl -> Lf.T Rs := l570.step (fun _ => none) (inD (e570) 3) 3
def c570  : CdR := mkL2 l570 (f570) ti570 to570_0 to570_1
theorem c570_ok (W : WorldC V cal) : SimD Rx.w (c570) (fun n d => aCd (cal n d) n (.bl 0 (.lp l570.body))) := mkL2_ok (W.toWorld.in (e570_ok W) 3) (okL_none _) (m := 3) ti570 to570_0 to570_1
def L57  : Nat -> Option CdR := pcL [(0, c570)]
abbrev ti57 : List Ty := [.sli tSig, .sli tImp, .sli i64, .sli tLim, .sli tLim, .sli tGlo, .sli tExp, i64, .sli tEle, .sli tCod, .sli tDat, i64]
abbrev to57 : List Ty := [.bool]
def e57  : List (Nat × Fsp) := [(10, s10)]
theorem e57_ok (W : WorldC V cal) : EnOk cal (e57) := (.cons (s10_ok W) .nil)
def t57  (x : denT ti57) : Lf.T (List Pl) := fnT (Ps [pM, .n .i64]) [] (Ps [.bo]) L57 Tryd.x57 3 (inD (e57) 3) (ofT ti57 x)
def k57  (x : denT ti57) : Bool := okV1 to57 (t57 x)
def m57  (x : denT ti57) : denT to57 := outV1 to57 (t57 x)
def sq57  : Fsp := mkF (Ps [pM, .n .i64]) [] (Ps [.bo]) ti57 to57 fun x => .ck (k57 x) (.ok (m57 x))
theorem sq57_ok (W : WorldC V cal) : (sq57).Ok 57 cal :=
 auto_ok (W.toWorld.in (e57_ok W) 3) (W.toWorld.st 57 _ rfl) rfl (PcOk.okL (.cons (b := l570.body) (by kernel_rfl) (c570_ok W) .nil)) (m := 3) rfl (fun _ => rfl) (fun _ => rfl)
end Go.Proofs.Vd

noncomputable section
namespace Go.Proofs.Vd
open Go.Ab Go.Ab.Lf
set_option maxRecDepth 100000
theorem eq57 (y : denT tM) (k : Int) (a : denT ti570) (ha : a = (y.1, y.2.1, y.2.2.1, y.2.2.2.1, y.2.2.2.2.1, y.2.2.2.2.2.1, y.2.2.2.2.2.2.1, y.2.2.2.2.2.2.2.1, y.2.2.2.2.2.2.2.2.1, y.2.2.2.2.2.2.2.2.2.1, y.2.2.2.2.2.2.2.2.2.2.1, y.2.2.2.2.2.2.1, (y.2.2.2.2.2.2.1.length : Int), 0, ())) (z : denT to570_0) (hz : z = lo1 f570 ti570 to570_0 a) (S : den tSig) (hS : S = mKindS z.1 (mSigK z.2.1 z.2.2.1 z.2.2.2.2.2.2.2.1)) (o : Bool) (ho : o = mKindO z.1 (mSigK z.2.1 z.2.2.1 z.2.2.2.2.2.2.2.1)) : (t57 (y.1, y.2.1, y.2.2.1, y.2.2.2.1, y.2.2.2.2.1, y.2.2.2.2.2.1, y.2.2.2.2.2.2.1, y.2.2.2.2.2.2.2.1, y.2.2.2.2.2.2.2.2.1, y.2.2.2.2.2.2.2.2.2.1, y.2.2.2.2.2.2.2.2.2.2.1, k, ())).val =
  ckO (lk2 f570 ti570 to570_0 to570_1 a) (bif lb2 f570 ti570 a then
   bif decide (z.2.2.2.2.2.2.2.1 = -1) then some (ofT to57 (true, ())) else
   ckO (gT z.1 && (decide (z.2.2.2.2.2.2.2.1 < 9223372036854775808) && decide (z.2.1.length <= 1099511627776))) (some (ofT to57 (bif o then (bif decide ((S.1.length : Int) = 0) then decide ((S.2.length : Int) = 0) else false) else false, ())))
   else some (ofT to57 ((lo1 f570 ti570 to570_1 a).1, ()))) := by
 subst hS; subst ho; subst hz; subst ha
 kernel_rfl
end Go.Proofs.Vd

noncomputable section
variable {V : ByteArray → Bool}
namespace Go.Proofs.Vd
open Go.Ab Go.Ab.Lf
set_option maxRecDepth 100000
theorem mkF_of {P : Pat} {ptr : List Nat} {Q : Pat} {ti to : List Ty} {g : denT ti -> Lf.T (denT to)} {x : denT ti} {y : denT to} (h : (g x).val = some y) : ((mkF P ptr Q ti to g).f (ofT ti x)).val = some (ofT to y) := by
 show (match toT ti (ofT ti x) with | some x => (g x).map (ofT to) | none => .bad).val = _
 rw [toT_of]
 show ((g x).bd fun a => Lf.T.ok (ofT to a)).val = _
 rw [Lf.T.val_bd, h]
 rfl
theorem rch570 (y : denT tM) : Rch f570 (ofT ti570 (y.1, y.2.1, y.2.2.1, y.2.2.2.1, y.2.2.2.2.1, y.2.2.2.2.2.1, y.2.2.2.2.2.2.1, y.2.2.2.2.2.2.2.1, y.2.2.2.2.2.2.2.2.1, y.2.2.2.2.2.2.2.2.2.1, y.2.2.2.2.2.2.2.2.2.2.1, [], 0, 0, ())) 0 (ofT to570_0 (y.1, y.2.1, y.2.2.1, y.2.2.2.1, y.2.2.2.2.1, y.2.2.2.2.2.1, y.2.2.2.2.2.2.1, y.2.2.2.2.2.2.2.1, y.2.2.2.2.2.2.2.2.1, y.2.2.2.2.2.2.2.2.2.1, y.2.2.2.2.2.2.2.2.2.2.1, ())) := by
 refine .last ?_
 kernel_rfl
theorem sem57 {x : denT tMN} (h : okNm x = true) : (t57 x).val = some (ofT to57 (mNm x, ())) := by
 obtain ⟨t, im, fs, tb, me, gl, ex, st, el, co, da, k, ⟨⟩⟩ := x
 unfold okNm at h
 simp only [Bool.and_eq_true] at h
 obtain ⟨⟨⟨_, hg, _⟩, hx⟩, hT⟩ := h
 have hx : ex = [] := List.eq_nil_of_length_eq_zero (of_decide_eq_true hx)
 subst hx
 have v := l2_eq0 (t0 := to570_0) (t1 := to570_1) (rch570 (t, im, fs, tb, me, gl, [], st, el, co, da, ()))
 refine Eq.trans (eq57 (t, im, fs, tb, me, gl, [], st, el, co, da, ()) k _ rfl (t, im, fs, tb, me, gl, [], st, el, co, da, ()) v.2.2.symm _ rfl _ rfl) ?_
 have a1 : lk2 f570 ti570 to570_0 to570_1 (t, im, fs, tb, me, gl, [], st, el, co, da, [], ((List.length ([] : List (den tExp)) : Nat) : Int), 0, ()) = true := v.1
 have a2 : lb2 f570 ti570 (t, im, fs, tb, me, gl, [], st, el, co, da, [], ((List.length ([] : List (den tExp)) : Nat) : Int), 0, ()) = true := v.2.1
 have hg2 : (decide (st < 9223372036854775808) && decide (List.length im <= 1099511627776)) = true := by rw [Bool.and_eq_true]; exact hg
 dsimp only
 rw [a1, a2, hT, hg2]
 have e : mNm (t, im, fs, tb, me, gl, [], st, el, co, da, k, ()) = mNmS t im fs st := rfl
 rw [e]
 unfold mNmS
 cases decide (st = -1) with
 | true => rfl
 | false => rfl
theorem s57_cal (W : WorldC V Tryd.cal) : s57.Ok 57 Tryd.cal := by
 intro pl q args H0 E0 h az e hP hv hS
 obtain ⟨x, y, rfl, h1, rfl⟩ := mkF_pl e
 obtain ⟨h2, h3⟩ := Lf.T.ck_some h1
 injection h3 with h3
 have s := sem_of (sem57 h2)
 refine sq57_ok W _ _ args H0 E0 h az (mkF_of (g := fun x => .ck (k57 x) (.ok (m57 x))) (y := y) ?_) hP hv hS
 show (bif k57 x then some (m57 x) else none) = some y
 rw [show k57 x = true from s.1, show m57 x = _ from s.2, <- h3]
 rfl
theorem worldL (V : ByteArray -> Bool) : WorldL V Tryd.cal :=
 have W : WorldC V Tryd.cal := ⟨⟨world_cal, s66_cal V⟩, s63_cal⟩
 ⟨⟨W, s57_cal W⟩, s7_cal⟩
theorem s4_of {x : denT ti4} {y : denT to4} (h : k4 V x = true /\ m4 V x = y) : ((s4 V).f (ofT ti4 x)).val = some (ofT to4 y) := by
 refine mkF_of (to := to4) (g := fun x => .ck (k4 V x) (.ok (m4 V x))) ?_
 show (bif k4 V x then some (m4 V x) else none) = some y
 rw [h.1, h.2]
 rfl
theorem law4_cal (V : ByteArray -> Bool) (x : den tI) (out : List Int) (h1 : -9223372036854775808 <= (x.2.1 : Int)) (h2 : (x.2.1 : Int) < 9223372036854775808) : ((s4 V).f (ofT ti4 (x.1, x.2.1, x.2.2.1, x.2.2.2.1, x.2.2.2.2.1, x.2.2.2.2.2, out, ()))).val = some (ofT to4 (true, ())) :=
 s4_of (sem_of (law4 V x out h1 h2))
end Go.Proofs.Vd

noncomputable section
namespace Go.Proofs.Vd
open Go.Ab Go.Ab.Lf
set_option maxRecDepth 100000
abbrev aL (l : List Int) : AV := .isl l.length (l.map (AV.int .i64))
theorem ev_i64 (l : List Int) : Els (EV (fun _ => none) i64) l (l.map (AV.int .i64)) := by
 induction l with
 | nil => rfl
 | cons a l ih => exact ⟨[.int .i64 a], _, rfl, rfl, ih⟩
theorem ev_L (l : List Int) : EV (fun _ => none) (.sli i64) l [aL l] := ⟨_, rfl, .inr ⟨_, ev_i64 l, .inl rfl⟩⟩
theorem dead_at (o a b lo hi : Int) (L out : List Int) (h1 : -9223372036854775808 <= a) (h2 : a < 9223372036854775808) : ∃ n, isT (Tryd.cal n n 4 [.agg [.int .i64 o, .int .i64 a, .int .i64 b, .int .u64 lo, .int .u64 hi, aL L], aL out] (nilH 0)) = true := by
 obtain ⟨E0, hE⟩ : ∃ E0 : En, E0 = ⟨fun _ => ⟨.any, 0⟩, fun r => if r = 1 then aL L else aL out, fun _ => none, fun _ => .any⟩ := ⟨_, rfl⟩
 have e := law4_cal (fun _ => false) (o, a, b, lo, hi, L) out h1 h2
 have hP : fillP (Ps [pI, .im i64]) (ofT ti4 (o, a, b, lo, hi, L, out, ())) Lf.e1 = some ([.ag [.c 0 i64 o, .c 0 i64 a, .c 0 i64 b, .c 0 u64 lo, .c 0 u64 hi, .c 1 (.sli i64) L], .c 2 (.sli i64) out], [], ⟨3, .nil⟩) := rfl
 have hS : SR E0 (tagAll ⟨3, .nil⟩) (nilH 0) := by
  have et : tagAll ⟨3, .nil⟩ = (⟨3, .nil⟩ : Hq) := rfl
  rw [et]
  have no : ∀ r R, ¬ (Tr.nil : Tr Lf.Row).get r = some R := fun r R h => by
   have h : (none : Option Lf.Row) = some R := h
   cases h
  refine ⟨?_, ?_, ?_, ?_⟩
  ·intro r R h; exact (no r R h).elim
  ·rintro r r' id ⟨R, h, _⟩; exact (no r R h).elim
  ·rintro r id ⟨R, h, _⟩; exact (no r R h).elim
  ·intro id row h
   subst hE
   cases h
 have hv : Vs E0 3 [.ag [.c 0 i64 o, .c 0 i64 a, .c 0 i64 b, .c 0 u64 lo, .c 0 u64 hi, .c 1 (.sli i64) L], .c 2 (.sli i64) out] [.agg [.int .i64 o, .int .i64 a, .int .i64 b, .int .u64 lo, .int .u64 hi, aL L], aL out] := by
  subst hE
  refine .cons (.ag (.cons (.c rfl fun k => (k rfl).elim) (.cons (.c rfl fun k => (k rfl).elim) (.cons (.c rfl fun k => (k rfl).elim) (.cons (.c rfl fun k => (k rfl).elim) (.cons (.c rfl fun k => (k rfl).elim) (.cons (.c (ev_L L) fun _ => ⟨by decide, rfl⟩) .nil))))))) (.cons (.c (ev_L out) fun _ => ⟨by decide, rfl⟩) .nil)
 obtain ⟨c, h', E1, ws, H1, ⟨M, hM⟩, _, _, hQ, hV⟩ := s4_ok (worldL fun _ => false) _ _ _ _ E0 (nilH 0) _ e hP hv hS
 have hM : Tryd.cal M M 4 [.agg [.int .i64 o, .int .i64 a, .int .i64 b, .int .u64 lo, .int .u64 hi, aL L], aL out] (nilH 0) = .ok c h' := hM M M (Nat.le_refl _) (Nat.le_refl _)
 have hQ : some (([.c 0 .bool true] : List Sv), ([] : List Pl), Lf.e1) = some (ws, [], H1) := hQ
 cases hQ
 cases hV with
 | cons k _ =>
  cases k with
  | c k _ =>
   have k : [c] = [.bool true] := k
   injection k with k
   subst k
   exact ⟨M, by rw [hM]; rfl⟩
end Go.Proofs.Vd

noncomputable section
namespace Go.Proofs.Vd
open Go.Ab Go.Ab.Lf Go.ChangeShapes Go.WideShapes Go.ChangeAt Go.RowKit
set_option maxRecDepth 100000
instance ioN : Io := ⟨fun _ => 0, []⟩
abbrev gW (W : Go.World) : G := gE fun b => b < W.heap.size
theorem cell_lt {W : Go.World} {b o : Nat} {v : Value} (h : W.cell? ⟨b, o, none⟩ = some v) : b < W.heap.size := by
 by_cases hb : b < W.heap.size
 ·exact hb
 ·exfalso
  have e : W.heap[b]? = none := Array.getElem?_eq_none (by omega)
  unfold Go.World.cell? at h
  dsimp only at h
  rw [e] at h
  cases h
theorem vrs_L {g : G} {W : Go.World} (l : List Int) : VRs g W (l.map (AV.int .i64)) (l.map (Value.int .i64)) := by
 induction l with
 | nil => simp only [List.map_nil, VRs]
 | cons a l ih =>
  simp only [List.map_cons, VRs]
  exact ⟨_, _, rfl, by simp only [VR], ih⟩
theorem vr_L {H : Type} {enc : TypeId × Value -> H} {W : Go.World} {fuel : Nat} {v : Value} {y : DataW H × List MemPlace} (h : DataW.trod enc Tryd.prog W 0 (fun _ => true) true fuel 24 [v] = some y) : ∃ L, VR (gW W) W (aL L) v := by
 rcases Go.ChangeShapes.open_ints Tryd.underlying24 Tryd.underlying3 (by kernel_rfl) h with ⟨hv, _⟩ | ⟨a, len, cap, zs, hv, _, hlc, _, hz, _, hc, _⟩
 ·injection hv with hv
  subst hv
  refine ⟨[], ?_⟩
  simp only [VR]
  exact ⟨none, 0, rfl, Nat.le_refl _, .inl ⟨rfl, rfl⟩⟩
 ·injection hv with hv
  subst hv
  have hz : zs.length = cap := by simpa using hz
  refine ⟨zs.take len, ?_⟩
  have hl : (zs.take len).length = len := by rw [List.length_take]; omega
  simp only [VR]
  rw [hl]
  refine ⟨some a, cap, rfl, hlc, ?_⟩
  by_cases h0 : len = 0
  ·subst h0
   exact .inl ⟨rfl, by rw [List.take_zero]; rfl⟩
  ·obtain ⟨b, off, rfl, hq⟩ := ints_at hc (by omega)
   refine .inr ⟨b, off, (zs.take len).map (Value.int .i64), rfl, cell_lt (hq 0 (by omega)), fun j u hj => ?_, vrs_L _⟩
   rw [List.getElem?_map, Option.map_eq_some_iff] at hj
   obtain ⟨n, hn, rfl⟩ := hj
   have hjl := (List.getElem?_eq_some_iff.1 hn).1
   rw [hl] at hjl
   rw [hq j (by omega), List.getD_eq_getElem?_getD]
   rw [List.getElem?_take_of_lt hjl] at hn
   rw [hn]
   rfl
theorem dead_all {W : Go.World} {o a b lo hi : Int} {vL vo : Value} {L out : List Int} (h1 : -9223372036854775808 <= a) (h2 : a <= 9223372036854775807) (hL : VR (gW W) W (aL L) vL) (ho : VR (gW W) W (aL out) vo) :
  Calls Tryd.prog 4 #[.agg #[.int .i64 o, .int .i64 a, .int .i64 b, .int .u64 lo, .int .u64 hi, vL], vo] W fun e W' => e = .returned (.bool true) /\ Below W.heap.size W W' := by
 obtain ⟨n, hn⟩ := dead_at o a b lo hi L out h1 (by omega)
 refine law_ok (Tryd.cal_ok n n) hn W (imm := fun b => b < W.heap.size) (vs := [.agg #[.int .i64 o, .int .i64 a, .int .i64 b, .int .u64 lo, .int .u64 hi, vL], vo]) (fun b h => h) (fun p hp => by cases hp) ?_
 simp only [VRs]
 refine ⟨_, _, rfl, ?_, _, _, rfl, ho, rfl⟩
 rw [VR]
 refine ⟨_, rfl, ?_⟩
 simp only [VRs]
 exact ⟨_, _, rfl, by simp only [VR], _, _, rfl, by simp only [VR], _, _, rfl, by simp only [VR], _, _, rfl, by simp only [VR], _, _, rfl, by simp only [VR], _, _, rfl, hL, rfl⟩
end Go.Proofs.Vd
