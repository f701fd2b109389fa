import Derived.Test.YtfdjdnphbakjoaaGreatAb17
namespace Go.Ab
variable [Io]

/-- The names below a bound alone. -/
def G.to (g : G) (N : Nat) : G := ⟨fun id => if id < N then g.m id else none, g.imm⟩

omit [Io] in
theorem to_to {g : G} {N M : Nat} (h : N ≤ M) : (g.to M).to N = g.to N := by
  unfold G.to
  congr 1
  funext id
  by_cases h1 : id < N
  · simp [h1, Nat.lt_of_lt_of_le h1 h]
  · simp [h1]

omit [Io] in
theorem mono_refl (g : G) (w : World) : Mono g w g w := ⟨fun _ _ e => e, fun _ i => i, fun _ _ => rfl, fun _ => Nat.le_refl _⟩
omit [Io] in
theorem Mono.trans {g w g1 w1 g2 w2} (a : Mono g w g1 w1) (b : Mono g1 w1 g2 w2) : Mono g w g2 w2 :=
  ⟨fun id x e => b.m id x (a.m id x e), fun k i => b.imm k (a.imm k i), fun k i => (b.keep k (a.imm k i)).trans (a.keep k i), fun k => Nat.le_trans (a.rows k) (b.rows k)⟩
omit [Io] in
theorem mono_to (g : G) (w : World) {N M : Nat} (h : N ≤ M) : Mono (g.to N) w (g.to M) w :=
  ⟨(by
    intro id x e
    simp only [G.to] at e ⊢
    by_cases h1 : id < N
    · rw [if_pos h1] at e; rw [if_pos (by omega)]; exact e
    · rw [if_neg h1] at e; cases e), fun _ i => i, fun _ _ => rfl, fun _ => Nat.le_refl _⟩

/-- The store without rows. -/
def nilH (N : Nat) : Hp := ⟨N, .nil⟩
theorem hc_nil {g : G} {w : World} {N : Nat} (h : ∀ b, g.imm b → b < w.heap.size) : HC g w (nilH N) := ⟨(fun _ _ e => by cases e), h⟩

-- a frame cut down to a few places
noncomputable def restr (t : Tm) : List Nat → Tm
  | [] => Tm.none
  | u :: l => Tm.put (restr t l) u (Tm.at t u)
omit [Io] in
theorem restr_at {t : Tm} : ∀ (l : List Nat), (∀ u ∈ l, u < 512) → ∀ u, u < 512 → (restr t l).at u = if u ∈ l then t.at u else Option.none
  | [], _, u, hu => by simp [restr, Tm.at_none u hu]
  | x :: l, hl, u, hu => by
    rw [restr, Tm.at_put _ _ _ _ (hl x List.mem_cons_self) hu]
    by_cases hx : u = x
    · subst hx; simp
    · rw [if_neg hx, restr_at l (fun v hv => hl v (List.mem_cons_of_mem _ hv)) u hu]
      simp [hx]

section
variable {P : Program} {call : CallF} {o : Oper}

theorem guard_cases {ops : Array Oper} {g w nt t h} {a : Act} {v : AV} {h' : Hp} (T : TR g w nt t a.tmps)
    (e : gOp P call nt ops.toList o t h = .ok v h') : (Region.wanted o (yielded ops a.tmps) = true ∧ (cOp P call o.op).2 t h = .ok v h') ∨
      (Region.wanted o (yielded ops a.tmps) = false ∧ v = undefA ∧ h' = h) := by
  unfold gOp at e
  cases hg : o.guard with
  | none =>
    rw [hg] at e
    exact .inl ⟨by simp [Region.wanted, hg], e⟩
  | some p =>
    obtain ⟨j, want⟩ := p
    rw [hg] at e
    simp only [getN_eq] at e
    cases hj : ops.toList[j]? with
    | none => simp only [hj] at e; cases e
    | some oj =>
    simp only [hj] at e
    cases hd : oj.dst with
    | none => simp only [hd] at e; cases e
    | some d =>
    simp only [hd] at e
    cases hb : Nat.blt d nt with
    | false => simp only [hb] at e; cases e
    | true =>
    simp only [hb] at e
    have hdn := blt_iff.1 hb
    change gF (oT d) want (cOp P call o.op).2 t h = .ok v h' at e
    have hj' : ops[j]? = some oj := by simpa using hj
    have hsz := T.2.1
    have hy : ∀ y, a.tmps.getD d undef = y → yielded ops a.tmps j = match y with | .bool b => some b | _ => none := by
      intro y hy
      have : a.tmps[d]? = some y := by
        rw [Array.getD_eq_getD_getElem?] at hy
        rw [Array.getElem?_eq_getElem (by omega)] at hy ⊢
        simpa using hy
      simp [yielded, hj', hd, this]
      cases y <;> rfl
    unfold gF at e
    split at e
    · rename_i b hb2
      have hv := (T.2.2 d _ (by have := T.1; omega) hb2).2
      simp only [VR] at hv
      have hy2 := hy _ hv
      cases hwb : (ifb want b (!b)) with
      | true =>
        rw [hwb] at e
        have : b = want := by cases want <;> cases b <;> simp [ifb] at hwb <;> rfl
        exact .inl ⟨by simp [Region.wanted, hg, hy2, this], e⟩
      | false =>
        rw [hwb] at e
        have : b ≠ want := by cases want <;> cases b <;> simp [ifb] at hwb <;> simp
        cases e
        exact .inr ⟨by simp [Region.wanted, hg, hy2, this], rfl, rfl⟩
    · rename_i hb2
      have hv := (T.2.2 d _ (by have := T.1; omega) hb2).2
      simp only [VR] at hv
      obtain ⟨vs, hv, hvs⟩ := hv
      have hy2 := hy _ hv
      cases e
      exact .inr ⟨by simp [Region.wanted, hg, hy2], rfl, rfl⟩
    · cases e

theorem vr_undef (g : G) (w : World) : VR g w undefA undef := by simp only [undefA, VR]; exact ⟨_, rfl, by simp [VRs]⟩

theorem pure_step (hc : CallOk P call) {ops : Array Oper} {i : Nat} (hi : ops[i]? = some o) {g w nt t h} {a : Act} {v : AV} {h' : Hp} (hcl : (cOp P call o.op).1 = .p0 ∨ (cOp P call o.op).1 = .p1)
    (H : HC g w h) (T : TR g w nt t a.tmps) (e : gOp P call nt ops.toList o t h = .ok v h') {Q : Exit → Act → World → Prop} {rest : List Nat}
    (K : ∀ x, VR g w v x → wpOps P ops Q rest (a.put o.dst x) w) : wpOps P ops Q (i :: rest) a w := by
  rw [wpOps, hi]
  simp only
  have hp : OpPure P o (cOp P call o.op).2 := by
    have := cOp_all (o := o) hc
    cases h : cOp P call o.op with
    | mk c f =>
      rw [h] at this hcl
      cases c
      · exact this
      · exact this
      · rcases hcl with h | h <;> cases h
      · rcases hcl with h | h <;> cases h
  rcases guard_cases T e with ⟨hw, e⟩ | ⟨hw, rfl, rfl⟩
  · rw [if_pos hw]
    obtain ⟨rfl, x, hx, hv⟩ := hp g w nt t h a v h' H T e
    refine .inl ?_
    unfold Oper.wp
    rw [hx]
    exact K x hv
  · rw [if_neg (by simp [hw])]
    exact K undef (vr_undef g w)

theorem new_step (hc : CallOk P call) {ops : Array Oper} {i : Nat} (hi : ops[i]? = some o) {g w nt t h} {a : Act} {v : AV} {h' : Hp} (hcl : (cOp P call o.op).1 = .al)
    (H : HC g w h) (T : TR g w nt t a.tmps) (e : gOp P call nt ops.toList o t h = .ok v h') {Q : Exit → Act → World → Prop} {rest : List Nat}
    (K1 : h' = h → ∀ x w', (w' = w ∨ ∃ ob, w' = w.alloc ob) → (∀ g' w', VR g' w' v x) → wpOps P ops Q rest (a.put o.dst x) w')
    (K2 : ∀ cs C el vs x, h' = newO h cs → VRs g w cs vs → (∀ (j : Nat) (v : Value), vs[j]? = some v → C[j]? = some v) →
      (∀ g' w', g'.m h.next = some (w.heap.size, 0) → C.size ≤ rowSize w' w.heap.size → VR g' w' v x) → wpOps P ops Q rest (a.put o.dst x) (w.alloc (.cells C el))) :
    wpOps P ops Q (i :: rest) a w := by
  rw [wpOps, hi]
  simp only
  have hp : OpNew P o (cOp P call o.op).2 := by
    have := cOp_all (o := o) hc
    cases h : cOp P call o.op with
    | mk c f => rw [h] at this hcl; simp only at hcl; subst hcl; exact this
  rcases guard_cases T e with ⟨hw, e⟩ | ⟨hw, rfl, rfl⟩
  · rw [if_pos hw]
    rcases hp g w nt t h a v h' H T e with ⟨rfl, x, C, el, hr, hv⟩ | ⟨cs, C, el, vs, x, rfl, hr, hvs, hC, hv⟩
    · refine .inl ?_
      unfold Oper.wp
      rw [hr]
      exact K1 rfl x _ (.inr ⟨_, rfl⟩) hv
    · refine .inl ?_
      unfold Oper.wp
      rw [hr]
      exact K2 cs C el vs x rfl hvs hC hv
  · rw [if_neg (by simp [hw])]
    exact K1 rfl undef _ (.inl rfl) (fun g w => vr_undef g w)

omit [Io] in
/-- An operation with its guard that neither looks at the store nor changes it. -/
theorem gOp_ind {nt : Nat} {all : List Oper} (hcl : (cOp P call o.op).1 = .p0) : IndF (gOp P call nt all o) := by
  have hf : IndF (cOp P call o.op).2 := cOp_ind hcl
  unfold gOp
  cases o.guard with
  | none => exact hf
  | some p =>
    obtain ⟨j, want⟩ := p
    simp only
    split
    · split
      · refine ind_ifb ?_
        intro t h h0
        unfold gF
        split
        · rename_i b _
          cases ifb want b (!b)
          · rfl
          · exact hf t h h0
        · rfl
        · rfl
      · exact ind_bad
    · exact ind_bad
omit [Io] in
theorem gOp_inda {nt : Nat} {all : List Oper} (hcl : (cOp P call o.op).1 = .al) : IndA (gOp P call nt all o) := by
  have hf : IndA (cOp P call o.op).2 := cOp_inda hcl
  unfold gOp
  cases o.guard with
  | none => exact hf
  | some p =>
    obtain ⟨j, want⟩ := p
    simp only
    split
    · split
      · refine inda_ifb ?_
        intro t h v h' e h0 hn
        unfold gF at e ⊢
        split at e
        · rename_i b hb
          cases hw : ifb want b (!b) with
          | false => rw [hw] at e; cases e; exact .inl ⟨rfl, rfl⟩
          | true => rw [hw] at e; exact hf t h v h' e h0 hn
        · cases e
          exact .inl ⟨rfl, rfl⟩
        · cases e
      · exact inda_bad
    · exact inda_bad

end
end Go.Ab
