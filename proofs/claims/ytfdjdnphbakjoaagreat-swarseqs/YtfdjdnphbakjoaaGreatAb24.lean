import Derived.Test.YtfdjdnphbakjoaaGreatAb23
namespace Go.Ab
variable [Io]
namespace Cx

def wi (c : Cx) (nx bd : Nat → Nat) : Cx := { c with nx := nx, bd := bd }
def GI (c : Cx) (i : Nat) : Prop :=
  (c.IsCl i .p0 → ∃ v, (∀ h, c.FE i (c.rf i) h = .ok v h) ∧ c.Slot i v ∧ c.RdOk i (c.bd i)) ∧
  (c.IsCl i .al → ∃ v, c.Slot i v ∧ c.RdOk i (c.nx i) ∧ ((c.FE i (c.rf i) (nilH (c.nx i)) = .ok v (nilH (c.nx i)) ∧ c.bd i = c.nx i) ∨
    ∃ cs, c.FE i (c.rf i) (nilH (c.nx i)) = .ok v (newO (nilH (c.nx i)) cs) ∧ c.bd i = c.nx i + 1))
def upd (f : Nat → Nat) (i n : Nat) : Nat → Nat := fun j => if j = i then n else f j
omit [Io] in
theorem upd_self {f : Nat → Nat} {i n : Nat} : upd f i n i = n := if_pos rfl
omit [Io] in
theorem upd_ne {f : Nat → Nat} {i n j : Nat} (h : j ≠ i) : upd f i n j = f j := if_neg h

variable {c : Cx}

omit [Io] in
theorem rfL_wi {nx bd : Nat → Nat} {i : Nat} : ∀ (l : List Nat), (c.wi nx bd).rfL i l = c.rfL i l
  | [] => rfl
  | u :: l => by
    rw [rfL, rfL, rfL_wi l]
    rfl
omit [Io] in
theorem rf_wi {nx bd : Nat → Nat} {i : Nat} : (c.wi nx bd).rf i = c.rf i := rfL_wi _

omit [Io] in
theorem rd_ok {ran : List Nat} {i N : Nat} (hr : rdB c.nt c.ops.toList ran i = true) (hb : ∀ j ∈ ran, c.bd j ≤ N) : c.RdOk i N := by
  intro u hu
  obtain ⟨h1, h2⟩ := rdB_spec hr u hu
  exact ⟨h1, h2.imp (fun h j hj => ⟨(h j hj).2, hb j (h j hj).1⟩) (fun h j hj => (h j hj).2.1)⟩

omit [Io] in
theorem preF_ok (hnt : c.nt ≤ 512) (hsame : ∀ u, u < 512 → (∀ j, ¬ c.Dst j u) → c.te.at u = c.t0.at u) (hds : ∀ i j d, c.Dst i d → c.Dst j d → i = j) {k : List Nat → RgF} (hk : ∀ ran t h, k ran t h = .ok c.te c.hE → c.Fr ran t)
    {Φ : (Nat → Nat) → (Nat → Nat) → List Nat → Prop} {h : Hp}
    (ih : ∀ (ran : List Nat) (t : Tm) (nx0 bd0 : Nat → Nat), k ran t h = .ok c.te c.hE → c.FrO ran t → (∀ j ∈ ran, bd0 j ≤ h.next) → ∃ nx bd, (∀ j ∈ ran, nx j = nx0 j ∧ bd j = bd0 j) ∧ Φ nx bd ran) :
    ∀ (pre ran : List Nat) (t : Tm) (nx0 bd0 : Nat → Nat), preF c.P c.call c.nt c.ops.toList pre ran k t h = .ok c.te c.hE → c.FrO ran t → (∀ j ∈ ran, bd0 j ≤ h.next) →
      ∃ nx bd, (∀ j ∈ ran, nx j = nx0 j ∧ bd j = bd0 j) ∧ (c.wi nx bd).P1s pre h ∧ ∃ ran1, Φ nx bd ran1 ∧ ∀ i ∈ ran1, i ∈ ran ∨ ((c.wi nx bd).GI i ∧ (c.IsCl i .p0 ∨ c.IsCl i .p1))
  | [], ran, t, nx0, bd0, e, hO, hb => by
    obtain ⟨nx, bd, h1, h2⟩ := ih ran t nx0 bd0 e hO hb
    exact ⟨nx, bd, h1, (fun i hi => by cases hi), ran, h2, fun i hi => .inl hi⟩
  | i :: l, ran, t, nx0, bd0, e, hO, hb => by
    have F := preF_fr hnt hk (i :: l) ran t h e
    unfold preF at e
    cases h1 : rdB c.nt c.ops.toList ran i with
    | false => rw [h1] at e; cases e
    | true =>
    rw [h1] at e
    simp only [ifb] at e
    cases h2 : memB i ran with
    | true =>
      rw [h2] at e
      cases h3 : clB c.P c.call c.ops.toList .p1 i with
      | false => rw [h3] at e; cases e
      | true =>
        rw [h3] at e
        obtain ⟨o, v, ho, hg, e, hs⟩ := chkI_inv (clB_iff.1 h3) e
        obtain ⟨nx, bd, a1, a2, ran1, a3, a4⟩ := preF_ok hnt hsame hds hk ih l ran t nx0 bd0 e hO hb
        refine ⟨nx, bd, a1, fun j hj hc => ?_, ran1, a3, a4⟩
        rcases List.mem_cons.1 hj with rfl | hj
        · refine ⟨v, at_te hnt hsame F hO ho h1 hg, ?_, rd_ok (c := c.wi nx bd) h1 (fun j hj => by show bd j ≤ _; rw [(a1 j hj).2]; exact hb j hj)⟩
          intro d hd
          obtain ⟨o', ho', hd'⟩ := id hd
          have ho'' : c.ops[j]? = some o' := ho'
          rw [ho] at ho''
          cases ho''
          obtain ⟨s1, s2⟩ := hs d hd'
          refine ⟨s1, ?_⟩
          show c.te.at d = _
          rw [F d (Nat.lt_of_lt_of_le s1 hnt) (fun x hx => by rw [hds x j d hx hd]; exact memB_iff.1 h2)]
          exact s2
        · exact a2 j hj hc
    | false =>
      rw [h2] at e
      have hni := not_memB h2
      cases h3 : (clB c.P c.call c.ops.toList .p0 i || clB c.P c.call c.ops.toList .p1 i) with
      | false => rw [h3] at e; cases e
      | true =>
        rw [h3] at e
        have hcl : c.IsCl i .p0 ∨ c.IsCl i .p1 := by
          rw [Bool.or_eq_true] at h3
          exact h3.imp clB_iff.1 clB_iff.1
        obtain ⟨o, v, h1', t1, ho, hg, e2, ht⟩ := runI_inv e
        clear e
        have hlv : h1' = h := by
          rcases hcl with ⟨o', ho', hk'⟩ | ⟨o', ho', hk'⟩
          · rw [ho] at ho'; cases ho'
            exact ((gOp_ind hk').ok hg).1
          · rw [ho] at ho'; cases ho'
            exact gOp_lv hk' _ _ _ _ hg
        subst hlv
        have hne : ∀ j ∈ ran, j ≠ i := fun j hj e => hni (e ▸ hj)
        obtain ⟨nx, bd, a1, a2, ran1, a3, a4⟩ := preF_ok hnt hsame hds hk ih l (i :: ran) t1 (upd nx0 i h1'.next) (upd bd0 i h1'.next) e2 (fro_step hnt ho ht hO) (fun j hj => by
          rcases List.mem_cons.1 hj with rfl | hj
          · rw [upd_self]; exact Nat.le_refl _
          · rw [upd_ne (hne j hj)]; exact hb j hj)
        have agree : ∀ j ∈ ran, nx j = nx0 j ∧ bd j = bd0 j := fun j hj => by
          have := a1 j (List.mem_cons_of_mem _ hj)
          rwa [upd_ne (hne j hj), upd_ne (hne j hj)] at this
        have hbi : bd i = h1'.next := by
          have := (a1 i List.mem_cons_self).2
          rwa [upd_self] at this
        have hrd : (c.wi nx bd).RdOk i h1'.next := rd_ok (c := c.wi nx bd) h1 (fun j hj => by show bd j ≤ _; rw [(agree j hj).2]; exact hb j hj)
        have hsl : c.Slot i v := slot_step hnt hds ho ht (preF_fr hnt hk l (i :: ran) t1 h1' e2)
        refine ⟨nx, bd, agree, fun j hj hc => ?_, ran1, a3, fun j hj => ?_⟩
        · rcases List.mem_cons.1 hj with rfl | hj
          · exact ⟨v, at_te hnt hsame F hO ho h1 hg, hsl, hrd⟩
          · exact a2 j hj hc
        · rcases a4 j hj with h | h
          · rcases List.mem_cons.1 h with rfl | h
            · refine .inr ⟨⟨fun hc => ⟨v, ?_, hsl, ?_⟩, fun hc => ?_⟩, hcl⟩
              · obtain ⟨o', ho', hk'⟩ := hc
                have ho'' : c.ops[j]? = some o' := ho'
                rw [ho] at ho''
                cases ho''
                intro h0
                rw [rf_wi]
                show c.FE j (c.rf j) h0 = _
                have := at_te hnt hsame F hO ho h1 hg
                rw [FE_eq ho] at this ⊢
                exact ((gOp_ind hk').ok this).2 h0
              · show Cx.RdOk _ j (bd j)
                rw [hbi]; exact hrd
              · rcases hcl with h | h <;> cases c.cl_al h hc
            · exact .inl h
          · exact .inr h

omit [Io] in
theorem alsF_ok (hnt : c.nt ≤ 512) (hsame : ∀ u, u < 512 → (∀ j, ¬ c.Dst j u) → c.te.at u = c.t0.at u) (hds : ∀ i j d, c.Dst i d → c.Dst j d → i = j) {k : List Nat → RgF} (hk : ∀ ran t h, k ran t h = .ok c.te c.hE → c.Fr ran t)
    {Φ : (Nat → Nat) → (Nat → Nat) → List Nat → Hp → Prop}
    (ih : ∀ (ran : List Nat) (t : Tm) (h : Hp) (nx0 bd0 : Nat → Nat), k ran t h = .ok c.te c.hE → c.FrO ran t → (∀ j ∈ ran, bd0 j ≤ h.next) → ∃ nx bd, (∀ j ∈ ran, nx j = nx0 j ∧ bd j = bd0 j) ∧ Φ nx bd ran h) :
    ∀ (als ran : List Nat) (t : Tm) (h : Hp) (nx0 bd0 : Nat → Nat), alsF c.P c.call c.nt c.ops.toList als ran k t h = .ok c.te c.hE → c.FrO ran t → (∀ j ∈ ran, bd0 j ≤ h.next) →
      ∃ nx bd, (∀ j ∈ ran, nx j = nx0 j ∧ bd j = bd0 j) ∧ ∃ h1 ran1, (c.wi nx bd).AlsP als h h1 ∧ Φ nx bd ran1 h1 ∧ ∀ i ∈ ran1, i ∈ ran ∨ ((c.wi nx bd).GI i ∧ i ∈ als ∧ (c.IsCl i .p0 ∨ c.IsCl i .al))
  | [], ran, t, h, nx0, bd0, e, hO, hb => by
    obtain ⟨nx, bd, h1, h2⟩ := ih ran t h nx0 bd0 e hO hb
    exact ⟨nx, bd, h1, h, ran, rfl, h2, fun i hi => .inl hi⟩
  | i :: l, ran, t, h, nx0, bd0, e, hO, hb => by
    have F := alsF_fr hnt hk (i :: l) ran t h e
    unfold alsF at e
    cases hcond : (rdB c.nt c.ops.toList ran i && (!memB i ran && (clB c.P c.call c.ops.toList .p0 i || clB c.P c.call c.ops.toList .al i))) with
    | false => rw [hcond] at e; cases e
    | true =>
      rw [hcond] at e
      simp only [ifb] at e
      simp only [Bool.and_eq_true, Bool.not_eq_true', Bool.or_eq_true] at hcond
      obtain ⟨h1, h2, h3⟩ := hcond
      have hni := not_memB h2
      have hcl : c.IsCl i .p0 ∨ c.IsCl i .al := h3.imp clB_iff.1 clB_iff.1
      obtain ⟨o, v, h', t1, ho, hg, e2, ht⟩ := runI_inv e
      clear e
      have hne : ∀ j ∈ ran, j ≠ i := fun j hj e => hni (e ▸ hj)
      have hle : h.next ≤ h'.next := by
        rcases hcl with ⟨o', ho', hk'⟩ | ⟨o', ho', hk'⟩
        · rw [ho] at ho'; cases ho'
          rw [((gOp_ind hk').ok hg).1]
          exact Nat.le_refl _
        · rw [ho] at ho'; cases ho'
          rcases gOp_inda hk' _ _ _ _ hg (nilH h.next) rfl with ⟨rfl, _⟩ | ⟨cs, rfl, _⟩
          · exact Nat.le_refl _
          · exact Nat.le_succ _
      obtain ⟨nx, bd, a1, h1', ran1, a2, a3, a4⟩ := alsF_ok hnt hsame hds hk ih l (i :: ran) t1 h' (upd nx0 i h.next) (upd bd0 i h'.next) e2 (fro_step hnt ho ht hO) (fun j hj => by
        rcases List.mem_cons.1 hj with rfl | hj
        · rw [upd_self]; exact Nat.le_refl _
        · rw [upd_ne (hne j hj)]; exact Nat.le_trans (hb j hj) hle)
      have agree : ∀ j ∈ ran, nx j = nx0 j ∧ bd j = bd0 j := fun j hj => by
        have := a1 j (List.mem_cons_of_mem _ hj)
        rwa [upd_ne (hne j hj), upd_ne (hne j hj)] at this
      have hbi : bd i = h'.next := by
        have := (a1 i List.mem_cons_self).2
        rwa [upd_self] at this
      have hni' : nx i = h.next := by
        have := (a1 i List.mem_cons_self).1
        rwa [upd_self] at this
      have hrd : (c.wi nx bd).RdOk i h.next := rd_ok (c := c.wi nx bd) h1 (fun j hj => by show bd j ≤ _; rw [(agree j hj).2]; exact hb j hj)
      have hsl : c.Slot i v := slot_step hnt hds ho ht (alsF_fr hnt hk l (i :: ran) t1 h' e2)
      have hte := at_te hnt hsame F hO ho h1 hg
      rcases hcl with hcl | hcl
      · have hh : h' = h := by
          obtain ⟨o', ho', hk'⟩ := hcl
          rw [ho] at ho'; cases ho'
          exact ((gOp_ind hk').ok hg).1
        subst hh
        refine ⟨nx, bd, agree, h1', ran1, .inl ⟨hcl, a2⟩, a3, fun j hj => ?_⟩
        rcases a4 j hj with h | ⟨h, h5, h6⟩
        · rcases List.mem_cons.1 h with rfl | h
          · refine .inr ⟨⟨fun hc => ⟨v, ?_, hsl, ?_⟩, fun hc => ?_⟩, List.mem_cons_self, .inl hcl⟩
            · obtain ⟨o', ho', hk'⟩ := hcl
              rw [ho] at ho'
              cases ho'
              intro h0
              rw [rf_wi]
              show c.FE j (c.rf j) h0 = _
              rw [FE_eq ho] at hte ⊢
              exact ((gOp_ind hk').ok hte).2 h0
            · show Cx.RdOk _ j (bd j)
              rw [hbi]; exact hrd
            · cases c.cl_al hcl hc
          · exact .inl h
        · exact .inr ⟨h, List.mem_cons_of_mem _ h5, h6⟩
      · have key : (h' = h ∧ c.FE i (c.rf i) (nilH h.next) = .ok v (nilH h.next)) ∨ ∃ cs, h' = newO h cs ∧ c.FE i (c.rf i) (nilH h.next) = .ok v (newO (nilH h.next) cs) := by
          obtain ⟨o', ho', hk'⟩ := hcl
          rw [ho] at ho'; cases ho'
          rw [FE_eq ho] at hte ⊢
          exact gOp_inda hk' _ _ _ _ hte (nilH h.next) rfl
        refine ⟨nx, bd, agree, h1', ran1, .inr ⟨hcl, hni', ?_⟩, a3, fun j hj => ?_⟩
        · rcases key with ⟨rfl, _⟩ | ⟨cs, rfl, hf⟩
          · exact .inl ⟨hbi.trans hni'.symm, a2⟩
          · refine .inr ⟨v, cs, ?_, ?_, a2⟩
            · show bd i = nx i + 1
              rw [hbi, hni']; rfl
            · rw [rf_wi]
              show c.FE i (c.rf i) (nilH (nx i)) = .ok v (newO (nilH (nx i)) cs)
              rw [hni']; exact hf
        · rcases a4 j hj with h0 | ⟨h0, h5, h6⟩
          · rcases List.mem_cons.1 h0 with rfl | h0
            · refine .inr ⟨⟨fun hc => ?_, fun hc => ⟨v, hsl, ?_, ?_⟩⟩, List.mem_cons_self, .inr hcl⟩
              · cases c.cl_al hcl hc
              · show Cx.RdOk _ j (nx j)
                rw [hni']; exact hrd
              · rw [rf_wi]
                show (c.FE j (c.rf j) (nilH (nx j)) = .ok v (nilH (nx j)) ∧ bd j = nx j) ∨ ∃ cs, c.FE j (c.rf j) (nilH (nx j)) = .ok v (newO (nilH (nx j)) cs) ∧ bd j = nx j + 1
                rw [hni', hbi]
                rcases key with ⟨rfl, hf⟩ | ⟨cs, rfl, hf⟩
                · exact .inl ⟨hf, rfl⟩
                · exact .inr ⟨cs, hf, rfl⟩
            · exact .inl h0
          · exact .inr ⟨h0, List.mem_cons_of_mem _ h5, h6⟩

omit [Io] in
/-- All that a plan's run tells. -/
theorem planF_ok (hnt : c.nt ≤ 512) (hsame : ∀ u, u < 512 → (∀ j, ¬ c.Dst j u) → c.te.at u = c.t0.at u) (hds : ∀ i j d, c.Dst i d → c.Dst j d → i = j) : ∀ (pl : Plan) (ran : List Nat) (t : Tm) (h : Hp) (nx0 bd0 : Nat → Nat),
    planF c.P c.call c.nt c.ops.toList pl ran t h = .ok c.te c.hE → c.FrO ran t → (∀ j ∈ ran, bd0 j ≤ h.next) →
      ∃ nx bd, (∀ j ∈ ran, nx j = nx0 j ∧ bd j = bd0 j) ∧ (c.wi nx bd).RunP pl h ∧ (∀ i, i < c.ops.size → bd i ≤ c.hE.next) ∧
        ∀ i, i < c.ops.size → i ∉ ran → (c.wi nx bd).GI i ∧ (c.IsCl i .al → i ∈ pl.als) ∧ (c.IsCl i .ch → i ∈ pl.chs)
  | .last pre als, ran, t, h, nx0, bd0, e, hO, hb => by
    unfold planF at e
    have hlast : ∀ ran t h, (ifb (allI (fun i _ => memB i ran) c.ops.toList 0) fi (fun _ _ => .bad) : RgF) t h = .ok c.te c.hE → (∀ i, i < c.ops.size → i ∈ ran) ∧ t = c.te ∧ h = c.hE := by
      intro ran t h e
      cases hB : allI (fun i _ => memB i ran) c.ops.toList 0 with
      | false => rw [hB] at e; cases e
      | true =>
        rw [hB] at e
        obtain ⟨h1, h2⟩ := Rt.ok.inj e
        refine ⟨fun i hi => ?_, h1, h2⟩
        have := allI_iff hB i c.ops[i] (by simp [hi])
        exact memB_iff.1 this
    have hk : ∀ ran t h, (ifb (allI (fun i _ => memB i ran) c.ops.toList 0) fi (fun _ _ => .bad) : RgF) t h = .ok c.te c.hE → c.Fr ran t := by
      intro ran t h e
      obtain ⟨_, rfl, _⟩ := hlast ran t h e
      exact fun u _ _ => rfl
    obtain ⟨nx, bd, a1, a2, ran1, ⟨h1, ran2, b2, ⟨rfl, b3, b4⟩, b5⟩, a4⟩ := preF_ok (Φ := fun nx bd ran1 => ∃ h1 ran2, (c.wi nx bd).AlsP als h h1 ∧ (h1 = c.hE ∧ (∀ i, i < c.ops.size → i ∈ ran2) ∧ (∀ i ∈ ran2, bd i ≤ c.hE.next)) ∧
        ∀ i ∈ ran2, i ∈ ran1 ∨ ((c.wi nx bd).GI i ∧ i ∈ als ∧ (c.IsCl i .p0 ∨ c.IsCl i .al))) hnt hsame hds (alsF_fr hnt hk als) (fun ran t nx0 bd0 e hO hb => by
      obtain ⟨nx, bd, a1, h1, ran2, a2, a3, a4⟩ := alsF_ok (Φ := fun nx bd ran2 h1 => h1 = c.hE ∧ (∀ i, i < c.ops.size → i ∈ ran2) ∧ (∀ i ∈ ran2, bd i ≤ c.hE.next)) hnt hsame hds hk (fun ran t h nx0 bd0 e hO hb => by
        obtain ⟨h1, _, rfl⟩ := hlast ran t h e
        exact ⟨nx0, bd0, fun _ _ => ⟨rfl, rfl⟩, rfl, h1, hb⟩) als ran t h nx0 bd0 e hO hb
      exact ⟨nx, bd, a1, h1, ran2, a2, a3, a4⟩) pre ran t nx0 bd0 e hO hb
    refine ⟨nx, bd, a1, ⟨a2, b2⟩, fun i hi => b4 i (b3 i hi), fun i hi hn => ?_⟩
    rcases b5 i (b3 i hi) with h | ⟨h, h6, h7⟩
    · rcases a4 i h with h | ⟨h, h5⟩
      · exact absurd h hn
      · refine ⟨h, fun hc => ?_, fun hc => ?_⟩
        · rcases h5 with h5 | h5 <;> cases c.cl_al h5 hc
        · rcases h5 with h5 | h5 <;> cases c.cl_al h5 hc
    · refine ⟨h, fun _ => h6, fun hc => ?_⟩
      rcases h7 with h5 | h5 <;> cases c.cl_al h5 hc
  | .cons pre als q rest, ran, t, h, nx0, bd0, e, hO, hb => by
    unfold planF at e
    have hq : ∀ ran t h, (ifb (rdB c.nt c.ops.toList ran q && (!memB q ran && clB c.P c.call c.ops.toList .ch q)) (runM c.P c.call c.nt c.ops.toList q (planF c.P c.call c.nt c.ops.toList rest (q :: ran))) (fun _ _ => .bad) : RgF) t h = .ok c.te c.hE →
        rdB c.nt c.ops.toList ran q = true ∧ q ∉ ran ∧ c.IsCl q .ch ∧ ∃ o v h1 t1, c.ops[q]? = some o ∧ gOp c.P c.call c.nt c.ops.toList o t h = .ok v h1 ∧ h.next ≤ h1.next ∧ planF c.P c.call c.nt c.ops.toList rest (q :: ran) t1 h1 = .ok c.te c.hE ∧
          ((∃ d, o.dst = some d ∧ d < c.nt ∧ t1 = sT d v t) ∨ (o.dst = none ∧ t1 = t)) := by
      intro ran t h e
      cases h1 : (rdB c.nt c.ops.toList ran q && (!memB q ran && clB c.P c.call c.ops.toList .ch q)) with
      | false => rw [h1] at e; cases e
      | true =>
        rw [h1] at e
        simp only [Bool.and_eq_true, Bool.not_eq_true'] at h1
        exact ⟨h1.1, not_memB h1.2.1, clB_iff.1 h1.2.2, runM_inv e⟩
    have hk : ∀ ran t h, (ifb (rdB c.nt c.ops.toList ran q && (!memB q ran && clB c.P c.call c.ops.toList .ch q)) (runM c.P c.call c.nt c.ops.toList q (planF c.P c.call c.nt c.ops.toList rest (q :: ran))) (fun _ _ => .bad) : RgF) t h = .ok c.te c.hE → c.Fr ran t := by
      intro ran t h e
      obtain ⟨_, hni, _, o, v, h1, t1, ho, _, _, e, ht⟩ := hq ran t h e
      exact fr_step hnt ho hni ht (planF_fr hnt rest (q :: ran) t1 h1 e)
    obtain ⟨nx, bd, a1, a2, ran1, ⟨h1, ran2, b2, ⟨c1, v, h2, c2, c3, c4, c5, c6, c7, c8, c9⟩, b5⟩, a4⟩ := preF_ok (Φ := fun nx bd ran1 => ∃ h1 ran2, (c.wi nx bd).AlsP als h h1 ∧
        (c.IsCl q .ch ∧ ∃ v h2, c.FE q (c.rf q) h1 = .ok v h2 ∧ c.Slot q v ∧ (c.wi nx bd).RdOk q h1.next ∧ bd q = h2.next ∧ h1.next ≤ h2.next ∧ (c.wi nx bd).RunP rest h2 ∧ (∀ i, i < c.ops.size → bd i ≤ c.hE.next) ∧
          ∀ i, i < c.ops.size → i ∉ q :: ran2 → (c.wi nx bd).GI i ∧ (c.IsCl i .al → i ∈ rest.als) ∧ (c.IsCl i .ch → i ∈ rest.chs)) ∧
        ∀ i ∈ ran2, i ∈ ran1 ∨ ((c.wi nx bd).GI i ∧ i ∈ als ∧ (c.IsCl i .p0 ∨ c.IsCl i .al))) hnt hsame hds (alsF_fr hnt hk als) (fun ran t nx0 bd0 e hO hb => by
      obtain ⟨nx, bd, a1, h1, ran2, a2, a3, a4⟩ := alsF_ok (Φ := fun nx bd ran2 h1 => c.IsCl q .ch ∧ ∃ v h2, c.FE q (c.rf q) h1 = .ok v h2 ∧ c.Slot q v ∧ (c.wi nx bd).RdOk q h1.next ∧ bd q = h2.next ∧ h1.next ≤ h2.next ∧ (c.wi nx bd).RunP rest h2 ∧
          (∀ i, i < c.ops.size → bd i ≤ c.hE.next) ∧ ∀ i, i < c.ops.size → i ∉ q :: ran2 → (c.wi nx bd).GI i ∧ (c.IsCl i .al → i ∈ rest.als) ∧ (c.IsCl i .ch → i ∈ rest.chs)) hnt hsame hds hk (fun ran t h nx0 bd0 e hO hb => by
        obtain ⟨hr, hni, hcl, o, v, h1, t1, ho, hg, hle, e, ht⟩ := hq ran t h e
        have hne : ∀ j ∈ ran, j ≠ q := fun j hj e => hni (e ▸ hj)
        have Fq := planF_fr hnt rest (q :: ran) t1 h1 e
        obtain ⟨nx, bd, a1, a2, a3, a4⟩ := planF_ok hnt hsame hds rest (q :: ran) t1 h1 (upd nx0 q h.next) (upd bd0 q h1.next) e (fro_step hnt ho ht hO) (fun j hj => by
          rcases List.mem_cons.1 hj with rfl | hj
          · rw [upd_self]; exact Nat.le_refl _
          · rw [upd_ne (hne j hj)]; exact Nat.le_trans (hb j hj) hle)
        have agree : ∀ j ∈ ran, nx j = nx0 j ∧ bd j = bd0 j := fun j hj => by
          have := a1 j (List.mem_cons_of_mem _ hj)
          rwa [upd_ne (hne j hj), upd_ne (hne j hj)] at this
        have hbq : bd q = h1.next := by
          have := (a1 q List.mem_cons_self).2
          rwa [upd_self] at this
        exact ⟨nx, bd, agree, hcl, v, h1, at_te hnt hsame (fr_step hnt ho hni ht Fq) hO ho hr hg, slot_step hnt hds ho ht Fq,
          rd_ok (c := c.wi nx bd) hr (fun j hj => by show bd j ≤ _; rw [(agree j hj).2]; exact hb j hj), hbq, hle, a2, a3, a4⟩) als ran t h nx0 bd0 e hO hb
      exact ⟨nx, bd, a1, h1, ran2, a2, a3, a4⟩) pre ran t nx0 bd0 e hO hb
    refine ⟨nx, bd, a1, ⟨a2, h1, b2, c1, v, h2, (by rw [rf_wi]; exact c2), c3, c4, c5, c6, c7⟩, c8, fun i hi hn => ?_⟩
    by_cases hiq : i = q
    · subst hiq
      refine ⟨⟨fun hc => ?_, fun hc => ?_⟩, fun hc => ?_, fun _ => List.mem_cons_self⟩
      · cases c.cl_al c1 hc
      · cases c.cl_al c1 hc
      · cases c.cl_al c1 hc
    · by_cases h2' : i ∈ ran2
      · rcases b5 i h2' with h | ⟨h, h6, h7⟩
        · rcases a4 i h with h | ⟨h, h5⟩
          · exact absurd h hn
          · refine ⟨h, fun hc => ?_, fun hc => ?_⟩
            · rcases h5 with h5 | h5 <;> cases c.cl_al h5 hc
            · rcases h5 with h5 | h5 <;> cases c.cl_al h5 hc
        · refine ⟨h, fun _ => List.mem_append_left _ h6, fun hc => ?_⟩
          rcases h7 with h5 | h5 <;> cases c.cl_al h5 hc
      · obtain ⟨r1, r2, r3⟩ := c9 i hi (fun k => by
          rcases List.mem_cons.1 k with k | k
          · exact hiq k
          · exact h2' k)
        exact ⟨r1, fun hc => List.mem_append_right _ (r2 hc), fun hc => List.mem_cons_of_mem _ (r3 hc)⟩

end Cx
end Go.Ab
