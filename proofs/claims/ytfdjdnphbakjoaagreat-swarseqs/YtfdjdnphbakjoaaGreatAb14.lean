import Derived.Test.YtfdjdnphbakjoaaGreatAb13
namespace Go.Ab
variable [Io]
section
variable {P : Program}

noncomputable def cRV (P : Program) (nt : Nat) : ResultVar → Option RV
  | .tmp i => ifb (Nat.blt i nt) (some (.tmp i)) none
  | .cell i T => match P.underlying T with
    | some d => match P.info? T with
      | some ti => ifb (Nat.blt i nt) (some (.cell i ti.size (isAggD d))) none
      | none => none
    | none => none
noncomputable def cRVs (P : Program) (nt : Nat) (l : List ResultVar) : Option (List RV) :=
  List.rec (some []) (fun r _ ih => match cRV P nt r with
    | some v => match ih with
      | some vs => some (v :: vs)
      | none => none
    | none => none) l

def resSem (tmps : Array Value) : ResultVar → Sem Value
  | .tmp t => pure (tmps.getD t undef)
  | .cell a t => do loadVar t (← asAddr (tmps.getD a undef))

theorem resV_ok {g w nt t h} {tmps : Array Value} (H : HR g w h) (T : TR g w nt t tmps) {r : ResultVar} {rv : RV} {v : AV} (hr : cRV P nt r = some rv) (e : resV t h rv = some v) :
    ∃ x, (resSem tmps r).run P w = .ok x w ∧ VR g w v x := by
  cases r with
  | tmp i =>
    change ifb (Nat.blt i nt) (some (RV.tmp i)) none = some rv at hr
    cases hb : Nat.blt i nt with
    | false => rw [hb] at hr; cases hr
    | true =>
      rw [hb] at hr
      cases hr
      exact ⟨_, rfl, (T.2.2 i v (by have := T.1; have := blt_iff.1 hb; omega) e).2⟩
  | cell i ty =>
    unfold cRV at hr
    cases hd : P.underlying ty with
    | none => simp only [hd] at hr; cases hr
    | some d =>
    simp only [hd] at hr
    cases hi : P.info? ty with
    | none => simp only [hi] at hr; cases hr
    | some ti =>
    simp only [hi] at hr
    cases hb : Nat.blt i nt with
    | false => rw [hb] at hr; cases hr
    | true =>
      rw [hb] at hr
      cases hr
      have hin : @LT.lt Nat _ i 512 := by have := T.1; have := blt_iff.1 hb; omega
      change (match t.at i with | some a => aLoad h ti.size (isAggD d) a | none => none) = some v at e
      split at e
      · rename_i a ha
        have hv := (T.2.2 i a hin ha).2
        unfold aLoad at e
        split at e
        · rename_i id off
          split at e
          · rename_i cs hg
            simp only [VR] at hv
            obtain ⟨b, s, hm, hv⟩ := hv
            obtain ⟨C, el, vs, hw, _, hvs, hc⟩ := H.row hg hm
            obtain ⟨z, hz, hr⟩ := run_loadVar hd hi hvs (cellsAt_row hw hc) e
            exact ⟨z, by simp only [resSem, hv, asAddr, Sem.run_bind, Sem.run_pure, Result.andThen_ok, hz], hr⟩
          · cases e
        · rename_i cs
          simp only [VR] at hv
          obtain ⟨b, s, vs, hv, _, hc, hvs⟩ := hv
          obtain ⟨z, hz, hr⟩ := run_loadVar hd hi hvs hc e
          rw [Nat.add_zero] at hz
          exact ⟨z, by simp only [resSem, hv, asAddr, Sem.run_bind, Sem.run_pure, Result.andThen_ok, hz], hr⟩
        · cases e
      · cases e

theorem resVs_ok {g w nt t h} {tmps : Array Value} (H : HR g w h) (T : TR g w nt t tmps) : ∀ (l : List ResultVar) {rvs : List RV} {vs : List AV}, cRVs P nt l = some rvs → resVs t h rvs = some vs →
    ∃ xs, (l.mapM (resSem tmps)).run P w = .ok xs w ∧ VRs g w vs xs
  | [], rvs, vs, h1, h2 => by
    cases h1
    cases h2
    exact ⟨[], by simp, by simp [VRs]⟩
  | r :: l, rvs, vs, h1, h2 => by
    change (match cRV P nt r with | some v => (match cRVs P nt l with | some vs => some (v :: vs) | none => none) | none => none) = some rvs at h1
    split at h1
    · rename_i rv hrv
      split at h1
      · rename_i rl hrl
        cases h1
        change (match resV t h rv with | some v => (match resVs t h rl with | some vs => some (v :: vs) | none => none) | none => none) = some vs at h2
        split at h2
        · rename_i v hv
          split at h2
          · rename_i us hu
            cases h2
            obtain ⟨x, hx, hxv⟩ := resV_ok H T hrv hv
            obtain ⟨xs, hxs, hxsv⟩ := resVs_ok H T l hrl hu
            refine ⟨x :: xs, ?_, by simp only [VRs]; exact ⟨x, xs, rfl, hxv, hxsv⟩⟩
            simp only [List.mapM_cons, Sem.run_bind, hx, hxs, Result.andThen_ok, Sem.run_pure]
          · cases h2
        · cases h2
      · cases h1
    · cases h1

theorem fin_ok {g w nt t h} {tmps : Array Value} {F : Func} {rvs : List RV} {v : AV} {h' : Hp} (H : HR g w h) (T : TR g w nt t tmps) (hr : cRVs P nt F.results.toList = some rvs) (e : fin rvs t h = .ok v h') :
    h' = h ∧ ∃ x, (results F tmps).run P w = .ok x w ∧ VR g w v x := by
  have key : ∀ vs, resVs t h rvs = some vs → ∃ xs : List Value, (results F tmps).run P w = .ok (if h : xs.toArray.size = 1 then xs.toArray[0] else .tuple xs.toArray) w ∧ VRs g w vs xs := by
    intro vs hvs
    obtain ⟨xs, hxs, hv⟩ := resVs_ok H T F.results.toList hr hvs
    refine ⟨xs, ?_, hv⟩
    show ((F.results.mapM (resSem tmps) >>= fun vs => (pure (if h : vs.size = 1 then vs[0] else .tuple vs) : Sem Value))).run P w = _
    rw [Array.mapM_eq_mapM_toList]
    simp only [Sem.run_bind, Sem.run_map, hxs, Result.andThen_ok, Sem.run_pure]
  unfold fin at e
  split at e
  · rename_i v1 hvs
    cases e
    obtain ⟨xs, hx, hv⟩ := key _ hvs
    simp only [VRs] at hv
    obtain ⟨x, l', rfl, hxv, rfl⟩ := hv
    exact ⟨rfl, x, by rw [hx]; rfl, hxv⟩
  · rename_i vs hne hvs
    cases e
    obtain ⟨xs, hx, hv⟩ := key _ hvs
    refine ⟨rfl, .tuple xs.toArray, ?_, by simp only [VR]; exact ⟨_, rfl, hv⟩⟩
    rw [hx, dif_neg]
    intro h1
    have hl := hv.length
    have : vs.length = 1 := by simpa [← hl] using h1
    match vs, this with
    | [a], _ => exact hne a rfl
  · cases e

/-- The regions that draw their order. -/
def DrawOk (P : Program) (draw : CallF → Nat → Array Oper → RgF) : Prop :=
  ∀ call nt, CallOk P call → ∀ id ops, RgOk P nt (.region id ops true) (draw call nt ops)

/-- A function's body is what it says. -/
structure FbOk (P : Program) (draw : CallF → Nat → Array Oper → RgF) (f : FuncId) (b : Fb) : Prop where
  ex : ∃ F c, P.funcs[f]? = some F ∧ F.body = some c ∧ b.ntmps = F.ntmps ∧ b.ntmps ≤ 512 ∧ cRVs P b.ntmps F.results.toList = some b.res ∧ b.body = fun call n => cCode P (draw call b.ntmps) call n b.ntmps c
  enter : ∀ as w, (callFunc f as).run P w = .ok (.enter f as) w

theorem enter_ok {g w} : ∀ (l : List AV) (vs : List Value) (i nt : Nat) (t : Tm) (tmps : Array Value), VRs g w l vs → i + l.length ≤ nt → TR g w nt t tmps →
    (∀ j v, vs[j]? = some v → tmps[i + j]? = some v) → TR g w nt (enterT l i t) tmps
  | [], vs, i, nt, t, tmps, h, hl, T, hj => T
  | a :: l, vs, i, nt, t, tmps, h, hl, T, hj => by
    simp only [VRs] at h
    obtain ⟨v, l', rfl, hv, h⟩ := h
    simp only [List.length_cons] at hl
    have h0 : tmps[i]? = some v := by simpa using hj 0 v rfl
    have hi : i < tmps.size := (Array.getElem?_eq_some_iff.1 h0).1
    have hset : tmps.setIfInBounds i v = tmps := by
      apply Array.ext
      · simp
      · intro k h1 h2
        rw [Array.getElem_setIfInBounds]
        split
        · rename_i e
          subst e
          exact (Option.some.inj ((Array.getElem?_eq_getElem hi).symm.trans h0)).symm
        · rfl
    have T' := T.put (d := i) (by omega) hv
    rw [hset] at T'
    exact enter_ok l l' (i + 1) nt _ tmps h (by omega) T' (fun j u e => by
      have := hj (j + 1) u (by simpa using e)
      rwa [show i + 1 + j = i + (j + 1) by omega])

theorem aCall_ok {draw : CallF → Nat → Array Oper → RgF} (hd : DrawOk P draw) {fn : FuncId → Option Fb} (hf : ∀ f b, fn f = some b → FbOk P draw f b) (n : Nat) : ∀ d, CallOk P (aCall fn n d) := by
  intro d
  induction d with
  | zero => intro f args h v h' e; cases e
  | succ d ih =>
    intro f args h v h' e
    change (match fn f with
      | none => Ro.bad
      | some b => ifb (Nat.ble (len args) b.ntmps) (match b.body (aCall fn n d) n (enterT args 0 Tm.none) h with | .norm t h => fin b.res t h | .ret t h => fin b.res t h | _ => .bad) .bad) = .ok v h' at e
    cases hb : fn f with
    | none => rw [hb] at e; cases e
    | some b =>
    rw [hb] at e
    simp only at e
    cases hle : Nat.ble (len args) b.ntmps with
    | false => rw [hle] at e; cases e
    | true =>
    rw [hle] at e
    change (match b.body (aCall fn n d) n (enterT args 0 Tm.none) h with | .norm t h => fin b.res t h | .ret t h => fin b.res t h | _ => .bad) = Ro.ok v h' at e
    rw [len_eq] at hle
    have hle' : args.length ≤ b.ntmps := Nat.ble_eq.mp hle
    have F0 := hf f b hb
    obtain ⟨F, c, hF, hc, hnt, h512, hres, hbody⟩ := F0.ex
    refine ⟨F0.enter, fun g w vs H hv => ?_⟩
    rw [hbody] at e
    have hcode := code_ok ih (draw := draw (aCall fn n d) b.ntmps) (nt := b.ntmps) (fun id ops => hd _ _ ih id ops) n c
    have hvl := hv.length
    have hsize : (vs.toArray ++ Array.replicate (F.ntmps - vs.toArray.size) undef).size = b.ntmps := by simp; omega
    have hT0 : TR g w b.ntmps Tm.none (vs.toArray ++ Array.replicate (F.ntmps - vs.toArray.size) undef) :=
      ⟨h512, hsize, fun i v hi e => by rw [Tm.at_none i hi] at e; cases e⟩
    have hT := enter_ok args vs 0 b.ntmps Tm.none _ hv (by omega) hT0 (fun j v e => by
      rw [Array.getElem?_append_left (by have := (List.getElem?_eq_some_iff.1 e).1; simpa using this)]
      simpa using e)
    refine calls_of_wp hF hc ?_
    have := hcode g w _ h { tmps := vs.toArray ++ Array.replicate (F.ntmps - vs.toArray.size) undef, defers := [] }
      (bodyPost P F (fun e w' => ∃ x g', e = .returned x ∧ Ext g w h g' w' h' ∧ HR g' w' h' ∧ VR g' w' v x)) H hT rfl
    have fin' : ∀ t1 h1, fin b.res t1 h1 = .ok v h' → ∀ g' w' (a' : Act), Ext g w h g' w' h1 → HR g' w' h1 → TR g' w' b.ntmps t1 a'.tmps → a'.defers = [] →
        a'.defers = [] ∧ ∃ x, (results F a'.tmps).run P w' = .ok x w' ∧ ∃ y g', Ending.returned x = .returned y ∧ Ext g w h g' w' h' ∧ HR g' w' h' ∧ VR g' w' v y := by
      intro t1 h1 hfin g' w' a' E' H' T' D'
      obtain ⟨rfl, x, hx, hxv⟩ := fin_ok H' T' hres hfin
      exact ⟨D', x, hx, x, g', rfl, E', H', hxv⟩
    simp only at e
    cases hr : cCode P (draw (aCall fn n d) b.ntmps) (aCall fn n d) n b.ntmps c (enterT args 0 Tm.none) h with
    | bad => rw [hr] at e; cases e
    | norm t1 h1 => rw [hr] at e this; exact this (fin' t1 h1 e)
    | ret t1 h1 => rw [hr] at e this; exact this (fin' t1 h1 e)
    | exit i t1 h1 => rw [hr] at e; cases e

end
end Go.Ab
