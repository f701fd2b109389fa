import Derived.Test.YtfdjdnphbakjoaaGreatAb22
namespace Go.Ab
variable [Io]
section
variable {P : Program} {call : CallF}
/-- It leaves the store alone. -/
def LvF (f : OpF) : Prop := ∀ t h v h', f t h = .ok v h' → h' = h
omit [Io] in
theorem cond_ok {b : Bool} {x : Ro} {v : AV} {h : Hp} (e : (bif b then x else .bad) = .ok v h) : x = .ok v h := by cases b; cases e; exact e
omit [Io] in
theorem lv_bad : LvF kBad := by intro t h v h' e; cases e
omit [Io] in
theorem lv_ifb {c : Bool} {f : OpF} (i : LvF f) : LvF (ifb c f kBad) := by cases c; exact lv_bad; exact i
omit [Io] in
theorem lv_load {n : Nat} {b : Bool} {x : Opd} : LvF (kLoad n b x) := by
  intro t h v h' e
  unfold kLoad at e
  split at e
  · split at e
    · cases e; rfl
    · cases e
  · cases e
omit [Io] in
theorem lv_sliceS {x : Opd} {lo hi : Option Opd} : LvF (kSliceS x lo hi) := by
  intro t h v h' e
  unfold kSliceS at e
  split at e
  · split at e
    · cases e; rfl
    · cases e
  · cases e
omit [Io] in
theorem lv_slice {n : Nat} {x : Opd} {lo hi : Option Opd} : LvF (kSlice n x lo hi) := by
  intro t h v h' e
  unfold kSlice at e
  split at e
  · split at e
    · cases e; rfl
    · cases e
  · split at e
    · have e := cond_ok e
      cases e; rfl
    · cases e
  · split at e
    · cases e; rfl
    · cases e
  · cases e
omit [Io] in
theorem lv_sliceA {n m : Nat} {x : Opd} {lo hi : Option Opd} : LvF (kSliceA n m x lo hi) := by
  intro t h v h' e
  unfold kSliceA at e
  split at e
  · split at e
    · split at e
      · have e := cond_ok e
        cases e; rfl
      · cases e
    · cases e
  · cases e
omit [Io] in
theorem cOp_lv {o : Op} (hc : (cOp P call o).1 = .p1) : LvF (cOp P call o).2 := by
  cases o <;> simp only [cOp] at hc ⊢
  case load T x =>
    unfold cLoad
    split
    · split
      · exact lv_load
      · exact lv_bad
    · exact lv_bad
  case slice T x lo hi mx =>
    cases mx with
    | some m => cases hc
    | none =>
      simp only
      unfold cSlice
      split
      · exact lv_sliceS
      · split
        · exact lv_slice
        · exact lv_bad
      · split
        · exact lv_ifb lv_sliceA
        · exact lv_bad
      · exact lv_bad
  case binOp op T x y yT => cases h : cBin P op T <;> rw [h] at hc <;> cases hc
  case unOp op T x => cases h : cUn op <;> rw [h] at hc <;> cases hc
  case convert S D x =>
    cases h : P.underlying D with
    | none => rw [h] at hc; cases hc
    | some d => cases d <;> rw [h] at hc <;> cases hc
  case makeFunc f first caps =>
    cases f <;> try (cases hc; done)
    simp only at hc
    cases h : first.toList <;> rw [h] at hc <;> cases hc
  case call c => cases h : cBuiltin P c <;> rw [h] at hc <;> cases hc
  all_goals (cases hc)

omit [Io] in
theorem gOp_lv {nt : Nat} {all : List Oper} {o : Oper} (hcl : (cOp P call o.op).1 = .p1) : LvF (gOp P call nt all o) := by
  have hf : LvF (cOp P call o.op).2 := cOp_lv hcl
  unfold gOp
  cases o.guard with
  | none => exact hf
  | some p =>
    obtain ⟨j, want⟩ := p
    simp only
    split
    · split
      · refine lv_ifb ?_
        intro t h v h' e
        unfold gF at e
        split at e
        · rename_i b _
          cases hw : ifb want b (!b) with
          | false => rw [hw] at e; cases e; rfl
          | true => rw [hw] at e; exact hf t h v h' e
        · cases e; rfl
        · cases e
      · exact lv_bad
    · exact lv_bad
end

omit [Io] in
theorem eqDst_of {o : Oper} {d : Nat} (h : o.dst = some d) : eqDst o d = true := eqDst_iff h
omit [Io] in
theorem rec_true {b x : Bool} (h : (Bool.rec true x b : Bool) = true) (hb : b = true) : x = true := by subst hb; exact h

namespace Cx
variable {c : Cx}
omit [Io] in
theorem clB_iff {k : Cl} {i : Nat} : clB c.P c.call c.ops.toList k i = true ↔ c.IsCl i k := by
  unfold clB IsCl
  rw [getN_eq]
  constructor
  · intro h
    split at h
    · rename_i o ho
      exact ⟨o, by simpa using ho, eqCl_iff h⟩
    · cases h
  · rintro ⟨o, ho, hk⟩
    have : c.ops.toList[i]? = some o := by simpa using ho
    rw [this, ← hk]
    simp only
    cases (cOp c.P c.call o.op).1 <;> rfl

omit [Io] in
theorem rdB_spec {ran : List Nat} {i : Nat} (h : rdB c.nt c.ops.toList ran i = true) : ∀ u ∈ c.Rds i, u < c.nt ∧ ((∀ j, c.Dst j u → j ∈ ran ∧ c.An i j) ∨ ∀ j, c.Dst j u → j ∉ ran ∧ c.An j i ∧ ¬ c.An i j) := by
  unfold rdB at h
  rw [getN_eq] at h
  unfold Rds
  intro u hu
  cases ho : c.ops[i]? with
  | none => rw [ho] at hu; cases hu
  | some o =>
    rw [ho] at hu
    have : c.ops.toList[i]? = some o := by simpa using ho
    rw [this] at h
    simp only [allB_eq, List.all_eq_true] at h
    have := h u hu
    rw [Bool.and_eq_true] at this
    refine ⟨blt_iff.1 this.1, ?_⟩
    cases h1 : allI (fun j o' => Bool.rec true (memB j ran && anc c.ops.toList i j) (eqDst o' u)) c.ops.toList 0 with
    | true =>
      refine .inl ?_
      rintro j ⟨oj, hoj, hd⟩
      have h2 := rec_true (allI_iff h1 j oj (by simpa using hoj)) (eqDst_iff hd)
      rw [Bool.and_eq_true, memB_iff] at h2
      exact h2
    | false =>
      rw [h1] at this
      refine .inr ?_
      rintro j ⟨oj, hoj, hd⟩
      have h2 := rec_true (allI_iff this.2 j oj (by simpa using hoj)) (eqDst_iff hd)
      simp only [Bool.and_eq_true, Bool.not_eq_true'] at h2
      refine ⟨fun k => ?_, h2.2.1, fun k => ?_⟩
      · rw [memB_iff.2 k] at h2; cases h2.1
      · unfold An at k; rw [k] at h2; cases h2.2.2

def Cov (c : Cx) (ran : List Nat) (u : Nat) : Prop := ∀ j, c.Dst j u → j ∈ ran
/-- The places that are still to be written hold what they held. -/
def FrO (c : Cx) (ran : List Nat) (t : Tm) : Prop := ∀ u, u < 512 → (∀ j, c.Dst j u → j ∉ ran) → t.at u = c.t0.at u
def Fr (c : Cx) (ran : List Nat) (t : Tm) : Prop := ∀ u, u < 512 → c.Cov ran u → c.te.at u = t.at u

omit [Io] in
theorem runI_inv {i : Nat} {k : RgF} {t : Tm} {h : Hp} {te : Tm} {hE : Hp} (e : runI c.P c.call c.nt c.ops.toList i k t h = .ok te hE) :
    ∃ o v h1 t1, c.ops[i]? = some o ∧ gOp c.P c.call c.nt c.ops.toList o t h = .ok v h1 ∧ k t1 h1 = .ok te hE ∧ ((∃ d, o.dst = some d ∧ d < c.nt ∧ t1 = sT d v t) ∨ (o.dst = none ∧ t1 = t)) := by
  unfold runI at e
  rw [getN_eq] at e
  cases ho : c.ops.toList[i]? with
  | none => rw [ho] at e; cases e
  | some o =>
    rw [ho] at e
    simp only at e
    have ho' : c.ops[i]? = some o := by simpa using ho
    cases hd : o.dst with
    | none =>
      rw [hd] at e
      change sn (gOp c.P c.call c.nt c.ops.toList o) k t h = _ at e
      unfold sn at e
      cases hg : gOp c.P c.call c.nt c.ops.toList o t h with
      | bad => rw [hg] at e; cases e
      | ok v h1 => rw [hg] at e; exact ⟨o, v, h1, t, ho', hg, e, .inr ⟨hd, rfl⟩⟩
    | some d =>
      rw [hd] at e
      simp only at e
      cases hb : Nat.blt d c.nt with
      | false => rw [hb] at e; cases e
      | true =>
        rw [hb] at e
        change st (sT d) (gOp c.P c.call c.nt c.ops.toList o) k t h = _ at e
        unfold st at e
        cases hg : gOp c.P c.call c.nt c.ops.toList o t h with
        | bad => rw [hg] at e; cases e
        | ok v h1 => rw [hg] at e; exact ⟨o, v, h1, _, ho', hg, e, .inl ⟨d, hd, blt_iff.1 hb, rfl⟩⟩

omit [Io] in
theorem mn_ok {f : OpF} {t : Tm} {h h' : Hp} {v : AV} (e : mn f t h = .ok v h') : f t h = .ok v h' ∧ h.next ≤ h'.next := by
  unfold mn at e
  cases hf : f t h with
  | bad => rw [hf] at e; cases e
  | ok v1 h1 =>
    rw [hf] at e
    change (Bool.rec Ro.bad (Ro.ok v1 h1) (Nat.ble h.next h1.next) : Ro) = _ at e
    cases hb : Nat.ble h.next h1.next with
    | false => rw [hb] at e; cases e
    | true => rw [hb] at e; cases e; exact ⟨rfl, Nat.ble_eq.mp hb⟩

omit [Io] in
theorem runM_inv {i : Nat} {k : RgF} {t : Tm} {h : Hp} {te : Tm} {hE : Hp} (e : runM c.P c.call c.nt c.ops.toList i k t h = .ok te hE) :
    ∃ o v h1 t1, c.ops[i]? = some o ∧ gOp c.P c.call c.nt c.ops.toList o t h = .ok v h1 ∧ h.next ≤ h1.next ∧ k t1 h1 = .ok te hE ∧ ((∃ d, o.dst = some d ∧ d < c.nt ∧ t1 = sT d v t) ∨ (o.dst = none ∧ t1 = t)) := by
  unfold runM at e
  rw [getN_eq] at e
  cases ho : c.ops.toList[i]? with
  | none => rw [ho] at e; cases e
  | some o =>
    rw [ho] at e
    simp only at e
    have ho' : c.ops[i]? = some o := by simpa using ho
    cases hd : o.dst with
    | none =>
      rw [hd] at e
      change sn (mn (gOp c.P c.call c.nt c.ops.toList o)) k t h = _ at e
      unfold sn at e
      cases hg : mn (gOp c.P c.call c.nt c.ops.toList o) t h with
      | bad => rw [hg] at e; cases e
      | ok v h1 => rw [hg] at e; exact ⟨o, v, h1, t, ho', (mn_ok hg).1, (mn_ok hg).2, e, .inr ⟨hd, rfl⟩⟩
    | some d =>
      rw [hd] at e
      simp only at e
      cases hb : Nat.blt d c.nt with
      | false => rw [hb] at e; cases e
      | true =>
        rw [hb] at e
        change st (sT d) (mn (gOp c.P c.call c.nt c.ops.toList o)) k t h = _ at e
        unfold st at e
        cases hg : mn (gOp c.P c.call c.nt c.ops.toList o) t h with
        | bad => rw [hg] at e; cases e
        | ok v h1 => rw [hg] at e; exact ⟨o, v, h1, _, ho', (mn_ok hg).1, (mn_ok hg).2, e, .inl ⟨d, hd, blt_iff.1 hb, rfl⟩⟩

omit [Io] in
theorem chkI_inv {i : Nat} {k : RgF} {t : Tm} {h : Hp} {te : Tm} {hE : Hp} (hc : c.IsCl i .p1) (e : chkI c.P c.call c.nt c.ops.toList i k t h = .ok te hE) :
    ∃ o v, c.ops[i]? = some o ∧ gOp c.P c.call c.nt c.ops.toList o t h = .ok v h ∧ k t h = .ok te hE ∧ ∀ d, o.dst = some d → d < c.nt ∧ t.at d = some v := by
  unfold chkI at e
  rw [getN_eq] at e
  cases ho : c.ops.toList[i]? with
  | none => rw [ho] at e; cases e
  | some o =>
    rw [ho] at e
    simp only at e
    have ho' : c.ops[i]? = some o := by simpa using ho
    have hlv : ∀ v h1, gOp c.P c.call c.nt c.ops.toList o t h = .ok v h1 → h1 = h := by
      intro v h1 hg
      obtain ⟨o', h1', h2'⟩ := hc
      rw [ho'] at h1'
      cases h1'
      exact gOp_lv h2' _ _ _ _ hg
    cases hd : o.dst with
    | none =>
      rw [hd] at e
      change sn (gOp c.P c.call c.nt c.ops.toList o) k t h = _ at e
      unfold sn at e
      cases hg : gOp c.P c.call c.nt c.ops.toList o t h with
      | bad => rw [hg] at e; cases e
      | ok v h1 =>
        rw [hg] at e
        obtain rfl := hlv v h1 hg
        exact ⟨o, v, ho', hg, e, fun d h => by rw [hd] at h; cases h⟩
    | some d =>
      rw [hd] at e
      simp only at e
      cases hb : Nat.blt d c.nt with
      | false => rw [hb] at e; cases e
      | true =>
        rw [hb] at e
        change ck (oT d) (gOp c.P c.call c.nt c.ops.toList o) k t h = _ at e
        unfold ck at e
        cases hg : gOp c.P c.call c.nt c.ops.toList o t h with
        | bad => rw [hg] at e; cases e
        | ok v h1 =>
          rw [hg] at e
          obtain rfl := hlv v h1 hg
          change (Option.rec Rt.bad (fun u => Bool.rec Rt.bad (k t h1) (eqA u v)) (t.at d) : Rt) = _ at e
          cases ht : t.at d with
          | none => rw [ht] at e; cases e
          | some u =>
            rw [ht] at e
            change (Bool.rec Rt.bad (k t h1) (eqA u v) : Rt) = _ at e
            cases hq : eqA u v with
            | false => rw [hq] at e; cases e
            | true =>
              rw [hq] at e
              obtain rfl := eqA_iff _ _ hq
              exact ⟨o, u, ho', hg, e, fun d' h => by rw [hd] at h; cases h; exact ⟨blt_iff.1 hb, ht⟩⟩

omit [Io] in
theorem fr_step {ran : List Nat} {i : Nat} {o : Oper} {t t1 : Tm} {v : AV} (hnt : c.nt ≤ 512) (ho : c.ops[i]? = some o) (hi : i ∉ ran)
    (ht : (∃ d, o.dst = some d ∧ d < c.nt ∧ t1 = sT d v t) ∨ (o.dst = none ∧ t1 = t)) (F : c.Fr (i :: ran) t1) : c.Fr ran t := by
  intro u hu hc
  rw [F u hu (fun j hj => List.mem_cons_of_mem _ (hc j hj))]
  rcases ht with ⟨d, hd, hdn, rfl⟩ | ⟨_, rfl⟩
  · show (Tm.put t d (some v)).at u = t.at u
    rw [Tm.at_put _ _ _ _ (Nat.lt_of_lt_of_le hdn hnt) hu, if_neg]
    intro e
    subst e
    exact hi (hc i ⟨o, ho, hd⟩)
  · rfl

omit [Io] in
theorem not_memB {i : Nat} {l : List Nat} (h : memB i l = false) : i ∉ l := fun k => by rw [memB_iff.2 k] at h; cases h

omit [Io] in
theorem preF_fr (hnt : c.nt ≤ 512) {k : List Nat → RgF} (hk : ∀ ran t h, k ran t h = .ok c.te c.hE → c.Fr ran t) : ∀ (pre ran : List Nat) (t : Tm) (h : Hp),
    preF c.P c.call c.nt c.ops.toList pre ran k t h = .ok c.te c.hE → c.Fr ran t
  | [], ran, t, h, e => hk ran t h e
  | i :: l, ran, t, h, e => by
    unfold preF at e
    cases h1 : rdB c.nt c.ops.toList ran i with
    | false => rw [h1] at e; cases e
    | true =>
    rw [h1] at e
    simp only [ifb] at e
    cases h2 : memB i ran with
    | true =>
      rw [h2] at e
      cases h3 : clB c.P c.call c.ops.toList .p1 i with
      | false => rw [h3] at e; cases e
      | true =>
        rw [h3] at e
        obtain ⟨o, v, _, _, e, _⟩ := chkI_inv (clB_iff.1 h3) e
        exact preF_fr hnt hk l ran t h e
    | false =>
      rw [h2] at e
      cases h3 : (clB c.P c.call c.ops.toList .p0 i || clB c.P c.call c.ops.toList .p1 i) with
      | false => rw [h3] at e; cases e
      | true =>
        rw [h3] at e
        obtain ⟨o, v, h1', t1, ho, _, e, ht⟩ := runI_inv e
        exact fr_step hnt ho (not_memB h2) ht (preF_fr hnt hk l (i :: ran) t1 h1' e)

omit [Io] in
theorem alsF_fr (hnt : c.nt ≤ 512) {k : List Nat → RgF} (hk : ∀ ran t h, k ran t h = .ok c.te c.hE → c.Fr ran t) : ∀ (als ran : List Nat) (t : Tm) (h : Hp),
    alsF c.P c.call c.nt c.ops.toList als ran k t h = .ok c.te c.hE → c.Fr ran t
  | [], ran, t, h, e => hk ran t h e
  | i :: l, ran, t, h, e => by
    unfold alsF at e
    cases h1 : (rdB c.nt c.ops.toList ran i && (!memB i ran && (clB c.P c.call c.ops.toList .p0 i || clB c.P c.call c.ops.toList .al i))) with
    | false => rw [h1] at e; cases e
    | true =>
      rw [h1] at e
      simp only [ifb] at e
      simp only [Bool.and_eq_true, Bool.not_eq_true'] at h1
      obtain ⟨o, v, h1', t1, ho, _, e, ht⟩ := runI_inv e
      exact fr_step hnt ho (not_memB h1.2.1) ht (alsF_fr hnt hk l (i :: ran) t1 h1' e)

omit [Io] in
theorem planF_fr (hnt : c.nt ≤ 512) : ∀ (pl : Plan) (ran : List Nat) (t : Tm) (h : Hp), planF c.P c.call c.nt c.ops.toList pl ran t h = .ok c.te c.hE → c.Fr ran t
  | .last pre als, ran, t, h, e => by
    unfold planF at e
    refine preF_fr hnt (fun ran t h e => ?_) pre ran t h e
    refine alsF_fr hnt (fun ran t h e => ?_) als ran t h e
    cases hb : allI (fun i _ => memB i ran) c.ops.toList 0 with
    | false => rw [hb] at e; cases e
    | true =>
      rw [hb] at e
      obtain ⟨rfl, _⟩ := Rt.ok.inj e
      exact fun u _ _ => rfl
  | .cons pre als q rest, ran, t, h, e => by
    unfold planF at e
    refine preF_fr hnt (fun ran t h e => ?_) pre ran t h e
    refine alsF_fr hnt (fun ran t h e => ?_) als ran t h e
    cases h1 : (rdB c.nt c.ops.toList ran q && (!memB q ran && clB c.P c.call c.ops.toList .ch q)) with
    | false => rw [h1] at e; cases e
    | true =>
      rw [h1] at e
      simp only [ifb] at e
      simp only [Bool.and_eq_true, Bool.not_eq_true'] at h1
      obtain ⟨o, v, h1', t1, ho, _, _, e, ht⟩ := runM_inv e
      exact fr_step hnt ho (not_memB h1.2.1) ht (planF_fr hnt rest (q :: ran) t1 h1' e)

omit [Io] in
theorem fro_step {ran : List Nat} {i : Nat} {o : Oper} {t t1 : Tm} {v : AV} (hnt : c.nt ≤ 512) (ho : c.ops[i]? = some o)
    (ht : (∃ d, o.dst = some d ∧ d < c.nt ∧ t1 = sT d v t) ∨ (o.dst = none ∧ t1 = t)) (F : c.FrO ran t) : c.FrO (i :: ran) t1 := by
  intro u hu hc
  rw [← F u hu (fun j hj k => hc j hj (List.mem_cons_of_mem _ k))]
  rcases ht with ⟨d, hd, hdn, rfl⟩ | ⟨_, rfl⟩
  · show (Tm.put t d (some v)).at u = t.at u
    rw [Tm.at_put _ _ _ _ (Nat.lt_of_lt_of_le hdn hnt) hu, if_neg]
    intro e
    subst e
    exact hc i ⟨o, ho, hd⟩ List.mem_cons_self
  · rfl

omit [Io] in
theorem rf_at {i u : Nat} (hlt : ∀ u ∈ c.Rds i, u < 512) (hu : u ∈ c.Rds i) : ((∃ j, c.Dst j u ∧ c.An i j) ∧ (c.rf i).at u = c.te.at u) ∨ ((¬ ∃ j, c.Dst j u ∧ c.An i j) ∧ (c.rf i).at u = c.t0.at u) := by
  have key : ∀ (l : List Nat), (∀ u ∈ l, u < 512) → u ∈ l → ((∃ j, c.Dst j u ∧ c.An i j) ∧ (c.rfL i l).at u = c.te.at u) ∨ ((¬ ∃ j, c.Dst j u ∧ c.An i j) ∧ (c.rfL i l).at u = c.t0.at u) := by
    intro l
    induction l with
    | nil => intro _ h; cases h
    | cons x l ih =>
      intro hl hm
      rw [rfL, Tm.at_put _ _ _ _ (hl x List.mem_cons_self) (hl u hm)]
      by_cases hx : u = x
      · subst hx
        rw [if_pos rfl]
        by_cases hw : ∃ j, c.Dst j u ∧ c.An i j
        · rw [if_pos hw]; exact .inl ⟨hw, rfl⟩
        · rw [if_neg hw]; exact .inr ⟨hw, rfl⟩
      · rw [if_neg hx]
        exact ih (fun y hy => hl y (List.mem_cons_of_mem _ hy)) ((List.mem_cons.1 hm).resolve_left hx)
  exact key _ hlt hu

omit [Io] in
/-- What was found of an operation on the frame of that time holds on the frame that it sees. -/
theorem at_te {ran : List Nat} {i : Nat} {o : Oper} {t : Tm} {h h1 : Hp} {v : AV} (hnt : c.nt ≤ 512) (hsame : ∀ u, u < 512 → (∀ j, ¬ c.Dst j u) → c.te.at u = c.t0.at u) (F : c.Fr ran t) (hO : c.FrO ran t) (ho : c.ops[i]? = some o) (hr : rdB c.nt c.ops.toList ran i = true)
    (e : gOp c.P c.call c.nt c.ops.toList o t h = .ok v h1) : c.FE i (c.rf i) h = .ok v h1 := by
  rw [FE_eq ho, ← e]
  refine gOp_dep fun u hu => ?_
  rw [← Rds_eq ho] at hu
  have hlt : ∀ u ∈ c.Rds i, u < 512 := fun u hu => Nat.lt_of_lt_of_le (rdB_spec hr u hu).1 hnt
  obtain ⟨_, hor⟩ := rdB_spec hr u hu
  rcases rf_at hlt hu with ⟨⟨j, hj, hA⟩, er⟩ | ⟨hno, er⟩
  · rw [er]
    rcases hor with h1 | h1
    · exact F u (hlt u hu) (fun j hj => (h1 j hj).1)
    · exact absurd hA (h1 j hj).2.2
  · rw [er]
    rcases hor with h1 | h1
    · have hn : ∀ j, ¬ c.Dst j u := fun j hj => hno ⟨j, hj, (h1 j hj).2⟩
      rw [← hsame u (hlt u hu) hn]
      exact F u (hlt u hu) (fun j hj => absurd hj (hn j))
    · exact (hO u (hlt u hu) (fun j hj => (h1 j hj).1)).symm

omit [Io] in
theorem slot_step {ran : List Nat} {i : Nat} {o : Oper} {t t1 : Tm} {v : AV} (hnt : c.nt ≤ 512) (hds : ∀ i j d, c.Dst i d → c.Dst j d → i = j) (ho : c.ops[i]? = some o)
    (ht : (∃ d, o.dst = some d ∧ d < c.nt ∧ t1 = sT d v t) ∨ (o.dst = none ∧ t1 = t)) (F : c.Fr (i :: ran) t1) : c.Slot i v := by
  intro d hd
  obtain ⟨o', ho', hd'⟩ := id hd
  rw [ho] at ho'
  cases ho'
  rcases ht with ⟨d2, hd2, hdn, rfl⟩ | ⟨hn, _⟩
  · rw [hd'] at hd2
    cases hd2
    refine ⟨hdn, ?_⟩
    rw [F d (Nat.lt_of_lt_of_le hdn hnt) (fun j hj => by rw [hds j i d hj hd]; exact List.mem_cons_self)]
    show (Tm.put t d (some v)).at d = _
    rw [Tm.at_put _ _ _ _ (Nat.lt_of_lt_of_le hdn hnt) (Nat.lt_of_lt_of_le hdn hnt), if_pos rfl]
  · rw [hd'] at hn; cases hn

end Cx
end Go.Ab
