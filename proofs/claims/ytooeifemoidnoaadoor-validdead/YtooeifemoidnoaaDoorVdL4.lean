import Derived.Test.YtooeifemoidnoaaDoorVdN4
noncomputable section
namespace Go.Proofs.Vd
open Go.Ab Go.Ab.Lf
set_option maxRecDepth 100000
abbrev bB (out : List Int) (d : Bool) : List (den tBlk) := [(2, 0, [], out, d, true)]
theorem step_u (y : denT tM) (lo : List Int) (w : W3) : pStep y lo w (uI 0) = pDie w := by kernel_rfl
theorem step_e (y : denT tM) (lo : List Int) (w : W3) : pStep y lo w (uI 11) = pClose w 11 := by kernel_rfl
theorem take_dead (out L : List Int) : ∀ (n : Nat), mTks L (bB out true) n [] false = ([], false)
 | 0 => rfl
 | n + 1 => by
  have e : mTake [] (bB out true) false (L.getD n (dflt i64)) = (L.getD n (dflt i64), [], false) := rfl
  show mTks L (bB out true) n (mTake [] (bB out true) false (L.getD n (dflt i64))).2.1 (mTake [] (bB out true) false (L.getD n (dflt i64))).2.2 = _
  rw [e]
  exact take_dead out L n
theorem take_bad (bl : List (den tBlk)) (L : List Int) : ∀ (n : Nat) (s : List Int), (mTks L bl n s true).2 = true
 | 0, _ => rfl
 | n + 1, s => by
  have e : (mTake s bl true (L.getD n (dflt i64))).2.2 = true := by
   unfold mTake
   cases decide ((s.length : Int) = (mTop bl).2.1) <;> simp
  show (mTks L bl n (mTake s bl true (L.getD n (dflt i64))).2.1 (mTake s bl true (L.getD n (dflt i64))).2.2).2 = true
  rw [e]
  exact take_bad bl L n _
theorem take_live (out L : List Int) : (mTks L (bB out false) L.length [] false).2 = !decide ((L.length : Int) = 0) := by
 cases L with
 | nil => rfl
 | cons a L =>
  have e : mTake [] (bB out false) false ((a :: L).getD L.length (dflt i64)) = ((a :: L).getD L.length (dflt i64), [], true) := rfl
  have h : (mTks (a :: L) (bB out false) (L.length + 1) [] false).2 = true := by
   show (mTks (a :: L) (bB out false) L.length (mTake [] (bB out false) false ((a :: L).getD L.length (dflt i64))).2.1 (mTake [] (bB out false) false ((a :: L).getD L.length (dflt i64))).2.2).2 = true
   rw [e]
   exact take_bad _ _ _ _
  rw [show (a :: L).length = L.length + 1 from rfl, h, decide_eq_false (by omega)]
  rfl
theorem close_dead (out s : List Int) : pClose (pDie (s, bB out true, false)) 11 = (out, [], false) := by
 have e : pDie (s, bB out true, false) = ([], bB out true, false) := by
  show (s.take 0, _, _) = _
  rw [List.take_zero]
  rfl
 rw [e]
 have h : pClS ([], bB out true, false) = ([], false) := take_dead out out out.length
 have hb : pClB ([], bB out true, false) = false := by unfold pClB; rw [h]; rfl
 unfold pClose
 rw [hb, h]
 rfl
theorem close_live (out s : List Int) : pClose (pDie (s, bB out false, false)) 11 = (out, [], false) := by
 have e : pDie (s, bB out false, false) = ([], bB out true, false) := by
  show (s.take 0, _, _) = _
  rw [List.take_zero]
  rfl
 rw [e]
 have h : pClS ([], bB out true, false) = ([], false) := take_dead out out out.length
 have hb : pClB ([], bB out true, false) = false := by unfold pClB; rw [h]; rfl
 unfold pClose
 rw [hb, h]
 rfl
theorem mst_t (w : W3) : pMst w true = w := by
 show (w.1, w.2.1, w.2.2 || !true) = w
 rw [Bool.not_true, Bool.or_false]
theorem cvt_lim {n : Int} (h0 : 0 <= n) (h1 : n < 18446744073709551616) : cvtW .u64 n = n := by
 show wrapF .u64 n = n
 exact wrap_u64 h0 h1
theorem fld_id {out : List Int} {c : List (den tI)} {w : W3} {x : den tI} (hl : (mOf x.1).2.1 < 18446744073709551616) (hg : pG13 x (mOf x.1) = true) (h14 : (mOf x.1).1 = 14 -> x.2.1 = 0) : pFld (pQ out c) w x (mOf x.1) = w := by
 have h0 := (of_lim x.1).1
 have hm : decide (0 < (((pQ out c).2.2.2.2.1).length : Int)) = true := rfl
 unfold pG13 at hg
 unfold pFld
 rw [hm, cond_true]
 dsimp only
 by_cases h7 : (mOf x.1).1 = 7
 ·rw [decide_eq_true h7, cond_true] at hg
  rw [decide_eq_true h7, cond_true, hg, mst_t, decide_eq_false (show ¬ (mOf x.1).1 = 8 by rw [h7]; decide)]
  exact mst_t w
 rw [decide_eq_false h7, cond_false] at hg
 rw [decide_eq_false h7, cond_false]
 by_cases h8 : (mOf x.1).1 = 8
 ·rw [decide_eq_true h8, cond_true] at hg
  rw [decide_eq_true h8, cond_true]
  cases ha : decide (x.2.1 <= (mOf x.1).2.1) with
  | false => rw [ha] at hg; cases hg
  | true =>
   rw [ha, cond_true, cvt_lim h0 hl] at hg
   rw [mst_t]
   show pMst w (decide (x.2.2.2.1 < shrW .u64 16 (mOf x.1).2.1)) = w
   rw [hg, mst_t]
 rw [decide_eq_false h8, cond_false] at hg
 rw [decide_eq_false h8, cond_false]
 by_cases h4 : (mOf x.1).1 = 14
 ·rw [decide_eq_true h4, cond_true]
  have : decide (x.2.1 <= (mOf x.1).2.1) = true := decide_eq_true (by rw [h14 h4]; exact h0)
  rw [this, mst_t]
  exact mst_t w
 rw [decide_eq_false h4, cond_false]
 by_cases h3 : (mOf x.1).1 = 13
 ·rw [decide_eq_true h3, cond_true] at hg
  rw [decide_eq_true h3, cond_true, hg, mst_t]
 rw [decide_eq_false h3, cond_false] at hg
 rw [decide_eq_false h3, cond_false]
 by_cases h2 : (mOf x.1).1 = 12
 ·rw [decide_eq_true h2, cond_true] at hg
  rw [decide_eq_true h2, cond_true]
  exact pShuf_ok hg w
 rw [decide_eq_false h2, cond_false]
theorem w0Q (out : List Int) (c : List (den tI)) : pW0 (pQ out c) 0 = ([], bB out false, false) := by kernel_rfl
theorem loQ (out : List Int) (c : List (den tI)) : pLo (pQ out c) 0 = [] := by kernel_rfl
section
variable {out : List Int} {x : den tI} (hp : (mOf x.1).2.2.1 = true)
include hp
theorem step_x (y : denT tM) (lo : List Int) (w : W3) (hf : pFld y w x (mOf x.1) = w) : pStep y lo w x = pGiv (pTks w (mOf x.1).2.2.2.1) (mOf x.1).2.2.2.2.1 := by
 unfold pStep
 rw [hp, cond_true]
 unfold pPln
 rw [hf]
theorem typed1 (hf : ∀ w, pFld (pQ out [uI 0, x, uI 0]) w x (mOf x.1) = w) : pTyped (pQ out [uI 0, x, uI 0]) 0 = some [(true, 0, 0), (false, 0, 0), (false, 0, 0), (false, 0, 0)] := by
 unfold pTyped
 rw [w0Q, loQ]
 have hc : (pCode (pQ out [uI 0, x, uI 0]) 0).2 = [uI 0, x, uI 0, uI 11] := rfl
 rw [hc]
 generalize pQ out [uI 0, x, uI 0] = y at hf ⊢
 have e1 : pStep y [] ([], bB out false, false) (uI 0) = ([], bB out true, false) := (step_u _ _ _).trans rfl
 have e2 : pStep y [] ([], bB out true, false) x = ((mOf x.1).2.2.2.2.1, bB out true, false) := by
  rw [step_x hp y [] _ (hf _)]
  have : pTks ([], bB out true, false) (mOf x.1).2.2.2.1 = ([], bB out true, false) := by
   show ((mTks (mOf x.1).2.2.2.1 (bB out true) _ [] false).1, _, (mTks (mOf x.1).2.2.2.1 (bB out true) _ [] false).2) = _
   rw [take_dead]
  rw [this]
  rfl
 have e3 : pStep y [] ((mOf x.1).2.2.2.2.1, bB out true, false) (uI 0) = pDie ((mOf x.1).2.2.2.2.1, bB out true, false) := step_u _ _ _
 have e4 : pStep y [] (pDie ((mOf x.1).2.2.2.2.1, bB out true, false)) (uI 11) = (out, [], false) := (step_e _ _ _).trans (close_dead _ _)
 have p1 : pTyp y [] ([], bB out false, false) [uI 0, x, uI 0, uI 11] = bif (pStep y [] ([], bB out false, false) (uI 0)).2.2 then none else (pTyp y [] (pStep y [] ([], bB out false, false) (uI 0)) [x, uI 0, uI 11]).map (pMk ([], bB out false, false) :: ·) := rfl
 have p2 : pTyp y [] ([], bB out true, false) [x, uI 0, uI 11] = bif (pStep y [] ([], bB out true, false) x).2.2 then none else (pTyp y [] (pStep y [] ([], bB out true, false) x) [uI 0, uI 11]).map (pMk ([], bB out true, false) :: ·) := rfl
 rw [p1, e1]
 simp only [cond_false]
 rw [p2, e2]
 simp only [cond_false]
 generalize (mOf x.1).2.2.2.2.1 = O at e3 e4 ⊢
 have p3 : pTyp y [] (O, bB out true, false) [uI 0, uI 11] = bif (pStep y [] (O, bB out true, false) (uI 0)).2.2 then none else (pTyp y [] (pStep y [] (O, bB out true, false) (uI 0)) [uI 11]).map (pMk (O, bB out true, false) :: ·) := rfl
 rw [p3, e3]
 have d : (pDie (O, bB out true, false)).2.2 = false := rfl
 rw [d]
 simp only [cond_false]
 have p4 : pTyp y [] (pDie (O, bB out true, false)) [uI 11] = bif (pStep y [] (pDie (O, bB out true, false)) (uI 11)).2.2 then none else (pTyp y [] (pStep y [] (pDie (O, bB out true, false)) (uI 11)) []).map (pMk (pDie (O, bB out true, false)) :: ·) := rfl
 rw [p4, e4]
 rfl
theorem typed2 (hf : ∀ w, pFld (pQ out [x, uI 0]) w x (mOf x.1) = w) : (pTyped (pQ out [x, uI 0]) 0).isSome = decide (((mOf x.1).2.2.2.1.length : Int) = 0) := by
 unfold pTyped
 rw [w0Q, loQ]
 have hc : (pCode (pQ out [x, uI 0]) 0).2 = [x, uI 0, uI 11] := rfl
 rw [hc]
 generalize pQ out [x, uI 0] = y at hf ⊢
 have e1 := step_x hp y [] ([], bB out false, false) (hf _)
 have eb := take_live out (mOf x.1).2.2.2.1
 have p1 : pTyp y [] ([], bB out false, false) [x, uI 0, uI 11] = bif (pStep y [] ([], bB out false, false) x).2.2 then none else (pTyp y [] (pStep y [] ([], bB out false, false) x) [uI 0, uI 11]).map (pMk ([], bB out false, false) :: ·) := rfl
 have eb2 : (pStep y [] ([], bB out false, false) x).2.2 = !decide (((mOf x.1).2.2.2.1.length : Int) = 0) := by rw [e1]; exact eb
 rw [p1, eb2]
 cases hd : decide (((mOf x.1).2.2.2.1.length : Int) = 0) with
 | false => rfl
 | true =>
  have hn : (mOf x.1).2.2.2.1 = [] := List.eq_nil_of_length_eq_zero (by have := of_decide_eq_true hd; omega)
  have e2 : pStep y [] ([], bB out false, false) x = ((mOf x.1).2.2.2.2.1, bB out false, false) := by rw [e1, hn]; rfl
  rw [e2]
  simp only [Bool.not_true, cond_false]
  generalize (mOf x.1).2.2.2.2.1 = O
  have e3 : pStep y [] (O, bB out false, false) (uI 0) = pDie (O, bB out false, false) := step_u _ _ _
  have e4 : pStep y [] (pDie (O, bB out false, false)) (uI 11) = (out, [], false) := (step_e _ _ _).trans (close_live _ _)
  have p3 : pTyp y [] (O, bB out false, false) [uI 0, uI 11] = bif (pStep y [] (O, bB out false, false) (uI 0)).2.2 then none else (pTyp y [] (pStep y [] (O, bB out false, false) (uI 0)) [uI 11]).map (pMk (O, bB out false, false) :: ·) := rfl
  have p4 : pTyp y [] (pDie (O, bB out false, false)) [uI 11] = bif (pStep y [] (pDie (O, bB out false, false)) (uI 11)).2.2 then none else (pTyp y [] (pStep y [] (pDie (O, bB out false, false)) (uI 11)) []).map (pMk (pDie (O, bB out false, false)) :: ·) := rfl
  have d : (pDie (O, bB out false, false)).2.2 = false := rfl
  rw [p3, e3, d]
  simp only [cond_false]
  rw [p4, e4]
  rfl
end
end Go.Proofs.Vd

noncomputable section
variable {V : ByteArray → Bool}
namespace Go.Proofs.Vd
open Go.Ab Go.Ab.Lf
set_option maxRecDepth 100000
theorem of_rowG {P : den tRow -> Bool} (hr : (allB P mSca && allB P mVec) = true) {o : Int} (h : mIs o = true) : ∃ r, P r = true /\ mOf o = mInf r := by
 unfold mIs at h
 unfold mOf
 cases hf : mOfO o with
 | none => rw [hf] at h; cases h
 | some f =>
  rw [Bool.and_eq_true] at hr
  unfold mOfO at hf
  cases hc : decide (64768 <= o) with
  | true =>
   rw [hc] at hf
   obtain ⟨r, a, b, c⟩ := mOfX_spec hf
   exact ⟨r, allB_mem hr.2 r a, c⟩
  | false =>
   rw [hc] at hf
   obtain ⟨r, a, b, c⟩ := mOfX_spec hf
   exact ⟨r, allB_mem hr.1 r a, c⟩
theorem lim_rows : (allB (fun r : den tRow => decide ((mInf r).2.1 < 4294967296)) mSca && allB (fun r : den tRow => decide ((mInf r).2.1 < 4294967296)) mVec) = true := by kernel_rfl
theorem lim_lt (o : Int) : (mOf o).2.1 < 4294967296 := by
 cases h : mIs o with
 | false => rw [of_not h]; decide
 | true =>
  obtain ⟨r, a, c⟩ := of_rowG lim_rows h
  rw [c]
  exact of_decide_eq_true a
theorem sec_wr {c : List (den tI)} (h : secP A52x 512 [([], c)] = true) : mWrE c = 0 := by
 have hl : A52x.p ([], c) = true := by
  have e : secP A52x 512 [([], c)] = (true && bif false then true else ((true && (A52x.p ([], c) && true)) && nOk (((nb (([(([], c) : den tCod)].length : Nat) : Int) ++ rowB A52x [([], c)]).length : Nat) : Int))) := by kernel_rfl
  rw [e] at h
  cases hp : A52x.p ([], c) with
  | true => rfl
  | false => rw [hp] at h; cases h
 have e : A52x.p ([], c) = (decide ((([] : List Int).length : Int) <= 512) && ((nOk (mRuns [] 0) && (lcP [] ([] : List Int).length 0 && decide (mWrE c = 0))) && nOk ((cdB ([], c)).length : Int))) := rfl
 rw [e] at hl
 simp only [Bool.and_eq_true, decide_eq_true_eq] at hl
 exact hl.2.1.2.2
theorem checkQ (V : ByteArray -> Bool) {out : List Int} {c : List (den tI)} (ho : out.length <= 20) (hc : mWt (c ++ [uI 11]) <= 200) (hi : okIs (c ++ [uI 11]) = true) : pCheck V (pQ out c) = bif enP V (pQ out c) then (bif (pTyped (pQ out c) 0).isSome then 0 else 12) else 1 := by
 unfold pCheck
 rw [encQ V ho hc hi, outQ]
 have e : pBod (pQ out c) = ((pTyped (pQ out c) 0).isSome && true) := rfl
 rw [e]
 cases enP V (pQ out c) <;> cases (pTyped (pQ out c) 0).isSome <;> rfl
theorem okI_x {o a b lo hi : Int} (h1 : -9223372036854775808 <= a) (h2 : a < 9223372036854775808) : okI (mI (o, a, b, lo, hi, [])) = true := by
 have e : okI (mI (o, a, b, lo, hi, [])) = ((decide (-9223372036854775808 <= a) && decide (a < 9223372036854775808)) && true) := rfl
 rw [e, decide_eq_true h1, decide_eq_true h2]
 rfl
theorem ok1 {x : den tI} (hi : okI (mI x) = true) (_ : x.2.2.2.2.2 = []) : okIs ([uI 0, x, uI 0] ++ [uI 11]) = true := by
 have e : okIs ([uI 0, x, uI 0] ++ [uI 11]) = bif okI (mI x) then true else false := rfl
 rw [e, hi]
 rfl
theorem ok2 {x : den tI} (hi : okI (mI x) = true) (_ : x.2.2.2.2.2 = []) : okIs ([x, uI 0] ++ [uI 11]) = true := by
 have e : okIs ([x, uI 0] ++ [uI 11]) = bif okI (mI x) then true else false := rfl
 rw [e, hi]
 rfl
theorem wt1 {x : den tI} (_ : okI (mI x) = true) (hL : x.2.2.2.2.2 = []) : mWt ([uI 0, x, uI 0] ++ [uI 11]) <= 200 := by
 have e : mWt ([uI 0, x, uI 0] ++ [uI 11]) = 41 + (41 + 10 * List.length x.2.2.2.2.2 + 82) := rfl
 rw [e, hL]
 decide
theorem wt2 {x : den tI} (_ : okI (mI x) = true) (hL : x.2.2.2.2.2 = []) : mWt ([x, uI 0] ++ [uI 11]) <= 200 := by
 have e : mWt ([x, uI 0] ++ [uI 11]) = 41 + 10 * List.length x.2.2.2.2.2 + 82 := rfl
 rw [e, hL]
 decide
theorem enc12 {out : List Int} {x : den tI} (hi : okI (mI x) = true) (hL : x.2.2.2.2.2 = []) (hp : (mOf x.1).2.2.1 = true) (h : enP V (pQ out [uI 0, x, uI 0]) = true) : enP V (pQ out [x, uI 0]) = true /\ ((mOf x.1).1 = 14 -> x.2.1 = 0) := by
 rw [enPQ, Bool.and_eq_true] at h
 obtain ⟨h1, h2⟩ := h
 have hw := sec_wr h2
 have hputs := wrE_put (ok1 hi hL) hw
 have hx : (mPut (mI x)).2 = true := hputs x (by simp)
 refine ⟨?_, fun h14 => rest_a _ _ _ _ _ _ _ (put_rest hi hx) h14⟩
 rw [enPQ, h1, Bool.true_and]
 have hpl := of_pl hp
 refine secC (ok2 hi hL) (wt2 hi hL) (wrE_of (closed_plain [x, uI 0] fun z hz => ?_) fun z hz => ?_)
 ·rcases List.mem_cons.1 hz with e | hz
  ·subst e; exact hpl
  ·have e : z = uI 0 := by simpa using hz
   subst e
   exact ⟨by decide, by decide⟩
 ·exact hputs z (by
   have hz : z ∈ x :: uI 0 :: uI 11 :: [] := hz
   exact List.mem_cons_of_mem _ hz)
end Go.Proofs.Vd

noncomputable section
namespace Go.Proofs.Vd
open Go.Ab Go.Ab.Lf
set_option maxRecDepth 100000
theorem eq4b (V : ByteArray -> Bool) (x : den tI) (out : List Int) (X : den tI) (hX : X = (x.1, x.2.1, x.2.2.1, x.2.2.2.1, x.2.2.2.2.1, [])) (f : denT tInf) (hf : f = mOf x.1) (z : denT to14) (hz : z = m14 (out, [uI 0, X, uI 0], ())) (y : denT to14) (hy : y = m14 (out, [X, uI 0], ()))
  (e : Int) (he : e = (m8 V (z.1, z.2.1, z.2.2.1, z.2.2.2.1, [(1, -1)], z.2.2.2.2.2.1, z.2.2.2.2.2.2.1, z.2.2.2.2.2.2.2.1, z.2.2.2.2.2.2.2.2.1, z.2.2.2.2.2.2.2.2.2.1, z.2.2.2.2.2.2.2.2.2.2.1, ())).1) (mk : denT to9) (hm : mk = m9 V (z.1, z.2.1, z.2.2.1, z.2.2.2.1, [(1, -1)], z.2.2.2.2.2.1, z.2.2.2.2.2.2.1, z.2.2.2.2.2.2.2.1, z.2.2.2.2.2.2.2.2.1, z.2.2.2.2.2.2.2.2.2.1, z.2.2.2.2.2.2.2.2.2.2.1, 0, ())) (b13 : Bool) (hb13 : b13 = k13 (wkG x f)) (g13 : Bool) (hg13 : g13 = (m13 (wkG x f)).1) (b14a : Bool) (hb14a : b14a = k14 (out, [uI 0, X, uI 0], ())) (b8a : Bool) (hb8a : b8a = k8 V (z.1, z.2.1, z.2.2.1, z.2.2.2.1, [(1, -1)], z.2.2.2.2.2.1, z.2.2.2.2.2.2.1, z.2.2.2.2.2.2.2.1, z.2.2.2.2.2.2.2.2.1, z.2.2.2.2.2.2.2.2.2.1, z.2.2.2.2.2.2.2.2.2.2.1, ())) (b9a : Bool) (hb9a : b9a = k9 V (z.1, z.2.1, z.2.2.1, z.2.2.2.1, [(1, -1)], z.2.2.2.2.2.1, z.2.2.2.2.2.2.1, z.2.2.2.2.2.2.2.1, z.2.2.2.2.2.2.2.2.1, z.2.2.2.2.2.2.2.2.2.1, z.2.2.2.2.2.2.2.2.2.2.1, 0, ())) (b14b : Bool) (hb14b : b14b = k14 (out, [X, uI 0], ())) (b8b : Bool) (hb8b : b8b = k8 V (y.1, y.2.1, y.2.2.1, y.2.2.2.1, [(1, -1)], y.2.2.2.2.2.1, y.2.2.2.2.2.2.1, y.2.2.2.2.2.2.2.1, y.2.2.2.2.2.2.2.2.1, y.2.2.2.2.2.2.2.2.2.1, y.2.2.2.2.2.2.2.2.2.2.1, ())) (e2 : Int) (he2 : e2 = (m8 V (y.1, y.2.1, y.2.2.1, y.2.2.2.1, [(1, -1)], y.2.2.2.2.2.1, y.2.2.2.2.2.2.1, y.2.2.2.2.2.2.2.1, y.2.2.2.2.2.2.2.2.1, y.2.2.2.2.2.2.2.2.2.1, y.2.2.2.2.2.2.2.2.2.2.1, ())).1) : (t4 V (x.1, x.2.1, x.2.2.1, x.2.2.2.1, x.2.2.2.2.1, x.2.2.2.2.2, out, ())).val =
  (let R := fun b : Bool => some (ofT to4 (b, ()))
  bif !mIs x.1 then R true else bif !f.2.2.1 then R true else
  ckO b13 (bif !g13 then R true else bif decide (20 < (out.length : Int)) then R true else
  ckO b14a (ckO b8a (bif decide (e = 1) then R true else
  ckO b9a (
   ckO (bif !decide (e = 0) then true else bif !decide (mk.2.1 = 0) then true else bif !decide ((mk.1.length : Int) = 4) then true else (ixOk 1 (mk.1.length : Int) && bif (mk.1.getD 1 (dflt tMk)).1 then true else (ixOk 2 (mk.1.length : Int) && bif (mk.1.getD 2 (dflt tMk)).1 then true else ixOk 3 (mk.1.length : Int)))) (
   bif (bif !decide (e = 0) then true else bif !decide (mk.2.1 = 0) then true else bif !decide ((mk.1.length : Int) = 4) then true else bif (mk.1.getD 1 (dflt tMk)).1 then true else bif (mk.1.getD 2 (dflt tMk)).1 then true else (mk.1.getD 3 (dflt tMk)).1) then R false else
   ckO b14b (ckO b8b (R (!(xor (decide (e2 = 0)) (decide ((f.2.2.2.1.length : Int) = 0)))))))))))) := by
 subst hb13; subst hg13; subst hb14a; subst hb8a; subst hb9a; subst hb14b; subst hb8b; subst he2
 exact eq4 V x out X hX f hf z hz y hy e he mk hm
theorem law4 (V : ByteArray -> Bool) (x : den tI) (out : List Int) (h1 : -9223372036854775808 <= (x.2.1 : Int)) (h2 : (x.2.1 : Int) < 9223372036854775808) : (t4 V (x.1, x.2.1, x.2.2.1, x.2.2.2.1, x.2.2.2.2.1, x.2.2.2.2.2, out, ())).val = some (ofT to4 (true, ())) := by
 obtain ⟨X, hX⟩ : ∃ X : den tI, X = (x.1, x.2.1, x.2.2.1, x.2.2.2.1, x.2.2.2.2.1, []) := ⟨_, rfl⟩
 have hi : okI (mI X) = true := by rw [hX]; exact okI_x h1 h2
 have hL : X.2.2.2.2.2 = [] := by rw [hX]
 have hx1 : X.1 = x.1 := by rw [hX]
 have hG : pG13 X (mOf x.1) = pG13 x (mOf x.1) := by rw [hX]; rfl
 have s14a := sem14 out [uI 0, X, uI 0] (by simp)
 have s14b := sem14 out [X, uI 0] (by simp)
 have s13 := sem13 x (mOf x.1)
 have g13 : pG13 x (mOf x.1) = (m13 (wkG x (mOf x.1))).1 := (congrArg Prod.fst s13.2).symm
 by_cases ho : (20 : Int) < (out.length : Int)
 ·have q := eq4b V x out X hX (mOf x.1) rfl _ rfl _ rfl _ rfl _ rfl true s13.1.symm (pG13 x (mOf x.1)) g13 _ rfl _ rfl _ rfl _ rfl _ rfl _ rfl
  rw [q]
  rw [decide_eq_true ho]
  cases mIs x.1 <;> cases (mOf x.1).2.2.1 <;> cases pG13 x (mOf x.1) <;> rfl
 have ho' : out.length <= 20 := by omega
 have E1 := okEQ V ho' (wt1 hi hL) (ok1 hi hL)
 have E2 := okEQ V ho' (wt2 hi hL) (ok2 hi hL)
 have gx : ∀ c, gNx (pQ out c).2.2.2.2.2.2.1 = true := fun c => rfl
 have s8a := sem_of (sem8 E1 (gx _))
 have s8b := sem_of (sem8 E2 (gx _))
 have s9a := sem_of (sem9 E1 (gx _) 0)
 have q := eq4b V x out X hX (mOf x.1) rfl (pBody out [uI 0, X, uI 0]) s14a.2.symm (pBody out [X, uI 0]) s14b.2.symm (pCheck V (pQ out [uI 0, X, uI 0])) (congrArg Prod.fst s8a.2).symm ((pMarks V (pQ out [uI 0, X, uI 0]) 0).1, (pMarks V (pQ out [uI 0, X, uI 0]) 0).2, ()) s9a.2.symm true s13.1.symm (pG13 x (mOf x.1)) g13 true s14a.1.symm true s8a.1.symm true s9a.1.symm true s14b.1.symm true s8b.1.symm (pCheck V (pQ out [X, uI 0])) (congrArg Prod.fst s8b.2).symm
 rw [q, decide_eq_false ho]
 clear q
 clear s8a s8b s9a s14a s14b s13 g13
 have C1 := checkQ V ho' (wt1 hi hL) (ok1 hi hL)
 have C2 := checkQ V ho' (wt2 hi hL) (ok2 hi hL)
 cases hm : mIs x.1 with
 | false => rfl
 | true =>
  cases hp : (mOf x.1).2.2.1 with
  | false => rfl
  | true =>
   cases hg : pG13 x (mOf x.1) with
   | false => rfl
   | true =>
    cases he : enP V (pQ out [uI 0, X, uI 0]) with
    | false =>
     rw [he, cond_false] at C1
     rw [C1]
     rfl
    | true =>
     rw [<- hx1] at hp hg hG
     obtain ⟨e2, h14⟩ := enc12 (x := X) hi hL hp he
     have hl := lim_lt X.1
     have T1 := typed1 (out := out) (x := X) hp fun w => fld_id (Int.lt_trans hl (by decide)) (hG.trans hg) h14
     have T2 := typed2 (out := out) (x := X) hp fun w => fld_id (Int.lt_trans hl (by decide)) (hG.trans hg) h14
     rw [he, T1] at C1
     rw [e2, T2, hx1] at C2
     have C1 : pCheck V (pQ out [uI 0, X, uI 0]) = 0 := C1
     have M : pMarks V (pQ out [uI 0, X, uI 0]) 0 = ([(true, 0, 0), (false, 0, 0), (false, 0, 0), (false, 0, 0)], 0) := by
      have e : pMarks V (pQ out [uI 0, X, uI 0]) 0 = bif (bif decide (pCheck V (pQ out [uI 0, X, uI 0]) = 1) then true else false) then ([], 1) else bif !decide (pCheck V (pQ out [uI 0, X, uI 0]) = 0) then ([], pCheck V (pQ out [uI 0, X, uI 0])) else ((pTyped (pQ out [uI 0, X, uI 0]) 0).getD [], 0) := rfl
      rw [e, C1, T1]
      rfl
     rw [C1, C2, M]
     cases decide (((mOf x.1).2.2.2.1.length : Int) = 0) <;> rfl
end Go.Proofs.Vd
