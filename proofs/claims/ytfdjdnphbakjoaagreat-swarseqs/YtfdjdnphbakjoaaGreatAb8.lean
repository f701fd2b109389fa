import Derived.Test.YtfdjdnphbakjoaaGreatAb7
namespace Go.Ab
variable [Io]
section
variable {P : Program} {o : Oper}

theorem drew_ext {g w h} (H : HR g w h) : Ext g w h g w.drew h ∧ HR g w.drew h := by
  have E : Ext g w h g w.drew h :=
    ⟨rfl, rfl, rfl, Nat.le_refl _, Nat.le_refl _, fun _ _ e => e, fun _ _ _ => rfl, fun _ => Nat.le_refl _, fun _ i => i, fun _ i => .inl i, fun _ o => .inl o⟩
  refine ⟨E, H.fresh, ?_, H.inj, H.imm⟩
  intro id cs e
  obtain ⟨b, s, C, el, vs, hm, hw, hi, hv, hc⟩ := H.objs id cs e
  exact ⟨b, s, C, el, vs, hm, hw, hi, VRs.mono H E _ _ hv, hc⟩

/-- A row is forgotten. -/
theorem kill_ext {g w h} (H : HR g w h) (id : Nat) : Ext g w h g w (setO h id none) ∧ HR g w (setO h id none) := by
  have hg : ∀ i, (setO h id none).objs.get i = if i = id then none else h.objs.get i := fun i => Tr.get_set _ _ _ _
  have E : Ext g w h g w (setO h id none) := by
    refine ⟨rfl, rfl, rfl, Nat.le_refl _, Nat.le_refl _, fun _ _ e => e, fun _ _ _ => rfl, fun _ => Nat.le_refl _, fun _ i => i, fun _ i => .inl i, ?_⟩
    rintro b ⟨i, cs, s, e, m⟩
    rw [hg] at e
    by_cases hi : i = id
    · rw [if_pos hi] at e; cases e
    · rw [if_neg hi] at e
      exact .inl ⟨i, cs, s, e, m⟩
  refine ⟨E, H.fresh, ?_, ?_, H.imm⟩
  · intro i cs e
    rw [hg] at e
    by_cases hi : i = id
    · rw [if_pos hi] at e; cases e
    · rw [if_neg hi] at e
      obtain ⟨b, s, C, el, vs, hm, hw, hi, hv, hc⟩ := H.objs i cs e
      exact ⟨b, s, C, el, vs, hm, hw, hi, VRs.mono H E _ _ hv, hc⟩
  · intro i i' b s s' c1 c2 e1 e2
    rw [hg] at e1 e2
    by_cases h1 : i = id
    · rw [if_pos h1] at e1; cases e1
    · by_cases h2 : i' = id
      · rw [if_pos h2] at e2; cases e2
      · rw [if_neg h1] at e1
        rw [if_neg h2] at e2
        exact H.inj i i' b s s' c1 c2 e1 e2

omit [Io] in
theorem setRow_get {w : World} {b : Nat} {C C' : Array Value} {el} (hw : w.heap[b]? = some (.cells C el (0, 0))) (k : Nat) :
    (w.setRow b C').heap[k]? = if k = b then some (.cells C' el (0, 0)) else w.heap[k]? := by
  by_cases hk : k = b
  · subst hk; rw [if_pos rfl]; exact setRow_heap w k C C' el (0, 0) hw
  · rw [if_neg hk]; exact setRow_other w b k C' hk

/-- A row is written; it may get another name, and begin further behind. -/
theorem write_ext {g w h} (H : HR g w h) {id b s s' : Nat} {cs cs' : List AV} {C C' : Array Value} {el : TypeId} {us : List Value} (he : h.objs.get id = some cs) (hm : g.m id = some (b, s))
    (hw : w.heap[b]? = some (.cells C el (0, 0))) (hs : C'.size = C.size) (hv : VRs g w cs' us) (hc : ∀ (j : Nat) (v : Value), us[j]? = some v → C'[s' + j]? = some v) :
    Ext g w h ⟨fun i => if i = h.next then some (b, s') else g.m i, g.imm⟩ (w.setRow b C') (newO (setO h id none) cs') ∧
      HR ⟨fun i => if i = h.next then some (b, s') else g.m i, g.imm⟩ (w.setRow b C') (newO (setO h id none) cs') := by
  have hob : Owned g h b := ⟨id, cs, s, he, hm⟩
  have hg : ∀ i, (newO (setO h id none) cs').objs.get i = if i = h.next then some cs' else if i = id then none else h.objs.get i := by
    intro i
    show ((h.objs.set id none).set h.next (some cs')).get i = _
    rw [Tr.get_set, Tr.get_set]
  have hne : ∀ i x, g.m i = some x → i ≠ h.next := by
    intro i x e hi
    rw [H.fresh i (by omega)] at e; cases e
  have E : Ext g w h ⟨fun i => if i = h.next then some (b, s') else g.m i, g.imm⟩ (w.setRow b C') (newO (setO h id none) cs') := by
    refine ⟨rfl, rfl, rfl, by simp, Nat.le_succ _, ?_, ?_, ?_, fun _ i => i, fun _ i => .inl i, ?_⟩
    · intro i x e
      simp only [if_neg (hne i x e)]
      exact e
    · intro k _ ho
      rw [setRow_get hw, if_neg]
      rintro rfl
      exact ho hob
    · intro k
      unfold rowSize
      rw [setRow_get hw]
      by_cases hk : k = b
      · subst hk; simp [hw, hs]
      · rw [if_neg hk]; exact Nat.le_refl _
    · rintro k ⟨i, c, q, e, m⟩
      rw [hg] at e
      by_cases hi : i = h.next
      · simp only [if_pos hi] at m
        obtain ⟨rfl, _⟩ := Prod.mk.inj (Option.some.inj m)
        exact .inl hob
      · rw [if_neg hi] at e
        simp only [if_neg hi] at m
        by_cases h2 : i = id
        · rw [if_pos h2] at e; cases e
        · rw [if_neg h2] at e
          exact .inl ⟨i, c, q, e, m⟩
  refine ⟨E, ?_, ?_, ?_, ?_⟩
  · intro i hi
    have hi' : h.next + 1 ≤ i := hi
    simp only
    rw [if_neg (by omega)]
    exact H.fresh i (by omega)
  · intro i c e
    rw [hg] at e
    by_cases hi : i = h.next
    · rw [if_pos hi] at e
      cases e
      exact ⟨b, s', C', el, us, by simp [hi], by rw [setRow_get hw, if_pos rfl], fun k => H.not_owned k hob, VRs.mono H E _ _ hv, hc⟩
    · rw [if_neg hi] at e
      by_cases h2 : i = id
      · rw [if_pos h2] at e; cases e
      · rw [if_neg h2] at e
        obtain ⟨b2, s2, C2, el2, vs2, hm2, hw2, hi2, hv2, hc2⟩ := H.objs i c e
        have hb2 : b2 ≠ b := by
          rintro rfl
          exact h2 (H.inj i id b2 s2 s c cs e he hm2 hm)
        exact ⟨b2, s2, C2, el2, vs2, by simp only [if_neg hi]; exact hm2, by rw [setRow_get hw, if_neg hb2]; exact hw2, hi2, VRs.mono H E _ _ hv2, hc2⟩
  · intro i i' k q q' c1 c2 e1 e2 m1 m2
    rw [hg] at e1 e2
    have old : ∀ i c q, i ≠ h.next → (if i = id then none else h.objs.get i) = some c → g.m i = some (b, q) → False := by
      intro i c q _ e m
      by_cases h2 : i = id
      · rw [if_pos h2] at e; cases e
      · rw [if_neg h2] at e
        exact h2 (H.inj i id b q s c cs e he m hm)
    by_cases h1 : i = h.next <;> by_cases h2 : i' = h.next
    · exact h1.trans h2.symm
    · rw [if_neg h2] at e2
      simp only [if_pos h1] at m1
      simp only [if_neg h2] at m2
      obtain ⟨rfl, _⟩ := Prod.mk.inj (Option.some.inj m1)
      exact (old i' _ _ h2 e2 m2).elim
    · rw [if_neg h1] at e1
      simp only [if_neg h1] at m1
      simp only [if_pos h2] at m2
      obtain ⟨rfl, _⟩ := Prod.mk.inj (Option.some.inj m2)
      exact (old i _ _ h1 e1 m1).elim
    · rw [if_neg h1] at e1
      rw [if_neg h2] at e2
      simp only [if_neg h1] at m1
      simp only [if_neg h2] at m2
      by_cases k1 : i = id
      · rw [if_pos k1] at e1; cases e1
      · by_cases k2 : i' = id
        · rw [if_pos k2] at e2; cases e2
        · rw [if_neg k1] at e1
          rw [if_neg k2] at e2
          exact H.inj i i' k q q' c1 c2 e1 e2 m1 m2
  · intro k i
    have := H.imm k i
    simp
    omega

/-- A row is written, in its place. -/
theorem store_ext {g w h} (H : HR g w h) {id b s : Nat} {cs cs' : List AV} {C C' : Array Value} {el : TypeId} {us : List Value} (he : h.objs.get id = some cs) (hm : g.m id = some (b, s))
    (hw : w.heap[b]? = some (.cells C el (0, 0))) (hs : C'.size = C.size) (hv : VRs g w cs' us) (hc : ∀ (j : Nat) (v : Value), us[j]? = some v → C'[s + j]? = some v) :
    Ext g w h g (w.setRow b C') (setO h id (some cs')) ∧ HR g (w.setRow b C') (setO h id (some cs')) := by
  have hob : Owned g h b := ⟨id, cs, s, he, hm⟩
  have hg : ∀ i, (setO h id (some cs')).objs.get i = if i = id then some cs' else h.objs.get i := fun i => Tr.get_set _ _ _ _
  have live : ∀ i c, (if i = id then some cs' else h.objs.get i) = some c → ∃ c', h.objs.get i = some c' := by
    intro i c e
    by_cases hi : i = id
    · exact ⟨cs, by rw [hi]; exact he⟩
    · rw [if_neg hi] at e; exact ⟨c, e⟩
  have E : Ext g w h g (w.setRow b C') (setO h id (some cs')) := by
    refine ⟨rfl, rfl, rfl, by simp, Nat.le_refl _, fun _ _ e => e, ?_, ?_, fun _ i => i, fun _ i => .inl i, ?_⟩
    · intro k _ ho
      rw [setRow_get hw, if_neg]
      rintro rfl
      exact ho hob
    · intro k
      unfold rowSize
      rw [setRow_get hw]
      by_cases hk : k = b
      · subst hk; simp [hw, hs]
      · rw [if_neg hk]; exact Nat.le_refl _
    · rintro k ⟨i, c, q, e, m⟩
      rw [hg] at e
      obtain ⟨c', e'⟩ := live i c e
      exact .inl ⟨i, c', q, e', m⟩
  refine ⟨E, H.fresh, ?_, ?_, ?_⟩
  · intro i c e
    rw [hg] at e
    by_cases hi : i = id
    · rw [if_pos hi] at e
      cases e
      exact ⟨b, s, C', el, us, by rw [hi]; exact hm, by rw [setRow_get hw, if_pos rfl], fun k => H.not_owned k hob, VRs.mono H E _ _ hv, hc⟩
    · rw [if_neg hi] at e
      obtain ⟨b2, s2, C2, el2, vs2, hm2, hw2, hi2, hv2, hc2⟩ := H.objs i c e
      have hb2 : b2 ≠ b := by
        rintro rfl
        exact hi (H.inj i id b2 s2 s c cs e he hm2 hm)
      exact ⟨b2, s2, C2, el2, vs2, hm2, by rw [setRow_get hw, if_neg hb2]; exact hw2, hi2, VRs.mono H E _ _ hv2, hc2⟩
  · intro i i' k q q' c1 c2 e1 e2 m1 m2
    rw [hg] at e1 e2
    obtain ⟨c1', e1'⟩ := live i c1 e1
    obtain ⟨c2', e2'⟩ := live i' c2 e2
    exact H.inj i i' k q q' c1' c2' e1' e2' m1 m2
  · intro k i
    have := H.imm k i
    simp
    omega

omit [Io] in
/-- A segment of a row is replaced: how the cells read. -/
theorem seg_get {C : Array Value} {s off : Nat} {us ns : List Value} (hc : ∀ (j : Nat) (v : Value), us[j]? = some v → C[s + j]? = some v) (h : s + off + ns.length ≤ C.size) :
    ∀ (j : Nat) (v : Value), (us.take off ++ (ns ++ us.drop (off + ns.length)))[j]? = some v →
      off ≤ us.length → (C.toList.take (s + off) ++ ns ++ C.toList.drop (s + off + ns.length)).toArray[s + j]? = some v := by
  intro j v e ho
  have hu : (us.take off).length = off := by simp; omega
  have hC : (C.toList.take (s + off)).length = s + off := by simp; omega
  rw [List.getElem?_toArray, List.append_assoc]
  by_cases h1 : j < off
  · rw [List.getElem?_append_left (by omega), List.getElem?_take_of_lt h1] at e
    rw [List.getElem?_append_left (by omega), List.getElem?_take_of_lt (by omega)]
    simpa using hc j v e
  · rw [List.getElem?_append_right (by omega), hu] at e
    rw [List.getElem?_append_right (by omega), hC, show s + j - (s + off) = j - off by omega]
    by_cases h2 : j - off < ns.length
    · rw [List.getElem?_append_left h2] at e ⊢
      exact e
    · rw [List.getElem?_append_right (by omega), List.getElem?_drop] at e ⊢
      have := hc _ v e
      rw [show s + off + ns.length + (j - off - ns.length) = s + (off + ns.length + (j - off - ns.length)) by omega]
      simpa using this

noncomputable def cStore (P : Program) (T : TypeId) (x y : Operand) : OpF :=
  match P.info? T with
  | some i => ifb (Nat.blt 0 i.size) (kStore i.size (cOpd x) (cOpd y)) kBad
  | none => kBad

theorem run_kStore {T : TypeId} {x y : Operand} (ho : o.op = .store T x y) : OpRun P o (cStore P T x y) := by
  intro g w nt t h a v h' H Tr e
  unfold cStore at e
  cases hi : P.info? T with
  | none => rw [hi] at e; cases e
  | some i =>
  rw [hi] at e
  cases hpos : Nat.blt 0 i.size with
  | false => simp only [hpos] at e; cases e
  | true =>
  simp only [hpos] at e
  have hpos' := blt_iff.1 hpos
  change kStore i.size (cOpd x) (cOpd y) t h = .ok v h' at e
  unfold kStore at e
  split at e
  · rename_i id off hx
    split at e
    · rename_i av hy
      split at e
      · rename_i cs hg
        cases hb : (Nat.beq (len av.cells) i.size && (Nat.ble (Nat.add off (len av.cells)) (len cs) && allB cell1 av.cells)) with
        | false => rw [hb] at e; cases e
        | true =>
          rw [hb] at e
          cases e
          simp only [Bool.and_eq_true, len_eq] at hb
          have h1 := Nat.eq_of_beq_eq_true hb.1
          have h2 : off + av.cells.length ≤ cs.length := Nat.ble_eq.mp hb.2.1
          have hvx := cOpd_ok x _ _ _ _ _ _ Tr hx
          have hvy := cOpd_ok y _ _ _ _ _ _ Tr hy
          simp only [VR] at hvx
          obtain ⟨b, s, hm, hvx⟩ := hvx
          obtain ⟨C, el, vs, hw, _, hvs, hc⟩ := H.row hg hm
          have hcl := hvy.cells
          have hones := VRs.ones hcl hb.2.2
          have hl := hcl.length
          simp only [Array.length_toList] at hl
          have hrow : s + off + (a.eval y).cells.toList.length ≤ C.size := by
            have := VRs.row_le hvs hc h2 (by omega)
            simp only [Array.length_toList]
            omega
          have hst := run_storeCells_at P b (s + off) el (a.eval y).cells.toList 0 C w hw (by simpa using hrow) hones
          simp only [Nat.add_zero] at hst
          have hlen := hvs.length
          obtain ⟨E, H'⟩ := store_ext H (C' := (C.toList.take (s + off) ++ (a.eval y).cells.toList ++ C.toList.drop (s + off + (a.eval y).cells.toList.length)).toArray)
            hg hm hw (by simp at hrow ⊢; omega) (cs' := put cs off av.cells) (us := vs.take off ++ ((a.eval y).cells.toList ++ vs.drop (off + (a.eval y).cells.toList.length)))
            (by rw [put_eq, ← hcl.length]; exact (hvs.take _).append (hcl.append (hvs.drop _)))
            (fun j v e => seg_get hc hrow j v e (by omega))
          refine ⟨g, _, .skip, undef, ?_, .inr ⟨rfl, rfl⟩, E, H', by simp only [undefA, VR]; exact ⟨_, rfl, by simp [VRs]⟩⟩
          have hsz : ¬ (a.eval y).cells.size ≠ i.size := by omega
          simp only [execOp, ho, Instr.storeAt, Instr.sureAddr, hvx, storeVar, sizeOf, typeInfo, hi, hst, Sem.run_bind, Sem.run_pure, Result.andThen_ok, run_program, Sem.run_ite, if_neg hsz]
      · cases e
    · cases e
  · cases e

end
end Go.Ab
