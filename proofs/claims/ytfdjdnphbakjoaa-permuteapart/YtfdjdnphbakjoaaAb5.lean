import Derived.Test.YtfdjdnphbakjoaaAb4
namespace Go.Ab
variable [Io]
section
variable {P : Program} {o : Oper}

omit [Io] in
theorem add_none (b o n : Nat) : (⟨b, o, none⟩ : Addr).add n = ⟨b, o + n, none⟩ := by unfold Addr.add; split <;> simp_all

def isAggD : TypeDesc → Bool
  | .struct _ | .array _ _ => true
  | _ => false

omit [Io] in
theorem run_isAgg {T : TypeId} {d : TypeDesc} {w : World} (h : P.underlying T = some d) : (isAgg T).run P w = .ok (isAggD d) w := by
  unfold isAgg
  simp only [Sem.run_bind, run_underlying h, Result.andThen_ok]
  cases d <;> rfl

omit [Io] in
theorem part_some {agg : Bool} {cs : List AV} {off size : Nat} {v : AV} (h : part agg cs off size = some v) :
    ((cs.drop off).take size).length = size ∧ ((agg = true ∧ v = .agg ((cs.drop off).take size)) ∨ (agg = false ∧ (cs.drop off).take size = [v])) := by
  unfold part at h
  split at h
  · cases h
  · rename_i l e
    obtain ⟨rfl, hl⟩ := segment_some e
    cases agg with
    | true => cases h; exact ⟨hl, .inl ⟨rfl, rfl⟩⟩
    | false =>
      change (match (cs.drop off).take size with | [c] => some c | _ => none) = some v at h
      split at h
      · rename_i c e2
        cases h
        exact ⟨hl, .inr ⟨rfl, e2⟩⟩
      · cases h

/-- What a load of a place of the store answers. -/
theorem run_loadVar {T : TypeId} {d : TypeDesc} {i : TypeInfo} {g : G} {w : World} {cs : List AV} {vs : List Value} {b s off : Nat} {v : AV}
    (hd : P.underlying T = some d) (hi : P.info? T = some i) (hv : VRs g w cs vs) (hc : CellsAt w b s vs) (h : part (isAggD d) cs off i.size = some v) :
    ∃ x, (loadVar T ⟨b, s + off, none⟩).run P w = .ok x w ∧ VR g w v x := by
  obtain ⟨hl, h⟩ := part_some h
  have hvs : VRs g w ((cs.drop off).take i.size) ((vs.drop off).take i.size) := (hv.drop off).take _
  have hcs : CellsAt w b (s + off) ((vs.drop off).take i.size) := (hc.drop off).take _
  have hlen : ((vs.drop off).take i.size).length = i.size := by rw [hvs.length, hl]
  have hsz : (sizeOf T).run P w = .ok i.size w := by simp [sizeOf, typeInfo, hi]
  rcases h with ⟨ha, rfl⟩ | ⟨ha, h⟩
  · have hr := run_loadCells_list (P := P) w ⟨b, s + off, none⟩ ((vs.drop off).take i.size) (fun j v e => by rw [add_none]; exact hcs j v e)
    rw [hlen] at hr
    refine ⟨.agg ((vs.drop off).take i.size).toArray, ?_, ?_⟩
    · unfold loadVar
      simp only [Sem.run_bind, run_isAgg hd, ha, Result.andThen_ok, if_true, hsz, hr, Sem.run_pure]
    · simp only [VR]
      exact ⟨_, rfl, by simpa using hvs⟩
  · rw [h] at hvs
    simp only [VRs] at hvs
    obtain ⟨x, l', e, hx, rfl⟩ := hvs
    have := hcs 0 x (by rw [e]; rfl)
    refine ⟨x, ?_, hx⟩
    unfold loadVar
    simp only [Sem.run_bind, run_isAgg hd, ha, Result.andThen_ok]
    simp only [Nat.add_zero] at this
    simp [run_load, this]

theorem pure_load {T : TypeId} {d : TypeDesc} {i : TypeInfo} {x : Operand} (ho : o.op = .load T x) (hd : P.underlying T = some d) (hi : P.info? T = some i) :
    OpPure P o (kLoad i.size (isAggD d) (cOpd x)) := by
  intro g w nt t h a v h' H Tr e
  unfold kLoad at e
  split at e
  · rename_i av hx
    split at e
    · rename_i r hr
      cases e
      have hv := cOpd_ok x _ _ _ _ _ _ Tr hx
      unfold aLoad at hr
      split at hr
      · rename_i id off
        split at hr
        · rename_i cs hg
          simp only [VR] at hv
          obtain ⟨b, s, hm, hv⟩ := hv
          obtain ⟨C, el, vs, hw, _, hvs, hc⟩ := H.row hg hm
          obtain ⟨z, hz, hr⟩ := run_loadVar hd hi hvs (cellsAt_row hw hc) hr
          exact ⟨rfl, z, by simp [execOp, ho, Instr.loadAt, Instr.sureAddr, hv, hz], hr⟩
        · cases hr
      · rename_i cs
        simp only [VR] at hv
        obtain ⟨b, s, vs, hv, _, hc, hvs⟩ := hv
        obtain ⟨z, hz, hr⟩ := run_loadVar hd hi hvs hc hr
        rw [Nat.add_zero] at hz
        exact ⟨rfl, z, by simp [execOp, ho, Instr.loadAt, Instr.sureAddr, hv, hz], hr⟩
      · cases hr
    · cases e
  · cases e

-- addresses
theorem VR.iptr_drop {g w cs b s vs} (i : g.imm b) (hc : CellsAt w b s vs) (hv : VRs g w cs vs) (n : Nat) :
    VR g w (.iptr (cs.drop n)) (.pointer (some ⟨b, s + n, none⟩)) := by
  simp only [VR]
  exact ⟨b, s + n, vs.drop n, rfl, i, hc.drop n, hv.drop n⟩

theorem pure_fieldAddr {T : TypeId} {fs : Array Field} {n : Nat} {f : Field} {i : TypeInfo} {x : Operand} (ho : o.op = .fieldAddr T x n)
    (hd : P.underlying T = some (.struct fs)) (hf : fs[n]? = some f) (hi : P.info? f.type = some i) (h0 : i.size ≠ 0) : OpPure P o (kFieldAddr f.offset (cOpd x)) := by
  intro g w nt t h a v h' H Tr e
  have hrun : ∀ b s, a.eval x = .pointer (some ⟨b, s, none⟩) → (execOp a.eval o).run P w = .ok (.value (.pointer (some ⟨b, s + f.offset, none⟩))) w := by
    intro b s hx
    simp [execOp, ho, hx, Instr.fieldAt, run_underlying hd, hf, Instr.sureAddr, fieldPlace, sizeOf, typeInfo, hi, h0, add_none]
  unfold kFieldAddr at e
  split at e
  · rename_i id off hx
    have hv := cOpd_ok x _ _ _ _ _ _ Tr hx
    cases e
    simp only [VR] at hv
    obtain ⟨b, s, hm, hv⟩ := hv
    refine ⟨rfl, _, hrun _ _ hv, ?_⟩
    simp only [VR]
    exact ⟨b, s, hm, by rw [Nat.add_assoc]; rfl⟩
  · rename_i cs hx
    have hv := cOpd_ok x _ _ _ _ _ _ Tr hx
    cases e
    simp only [VR] at hv
    obtain ⟨b, s, vs, hv, hi, hc, hvs⟩ := hv
    refine ⟨rfl, _, hrun _ _ hv, ?_⟩
    rw [dp_eq]
    exact VR.iptr_drop hi hc hvs _
  · cases e

/-- A part of a struct or an array that is no variable. -/
theorem run_part {T : TypeId} {d : TypeDesc} {i : TypeInfo} {g : G} {w : World} {cs : List AV} {vs : Array Value} {off : Nat} {v : AV}
    (hd : P.underlying T = some d) (hi : P.info? T = some i) (hv : VRs g w cs vs.toList) (h : part (isAggD d) cs off i.size = some v) :
    ∃ x, (Go.part T vs off).run P w = .ok x w ∧ VR g w v x := by
  obtain ⟨hl, h⟩ := part_some h
  have hvs : VRs g w ((cs.drop off).take i.size) ((vs.toList.drop off).take i.size) := (hv.drop off).take _
  have hsz : (sizeOf T).run P w = .ok i.size w := by simp [sizeOf, typeInfo, hi]
  rcases h with ⟨ha, rfl⟩ | ⟨ha, h⟩
  · refine ⟨.agg (vs.extract off (off + i.size)), ?_, ?_⟩
    · unfold Go.part
      simp only [Sem.run_bind, run_isAgg hd, ha, Result.andThen_ok, if_true, hsz, Sem.run_pure]
    · simp only [VR]
      refine ⟨_, rfl, ?_⟩
      have : (vs.extract off (off + i.size)).toList = (vs.toList.drop off).take i.size := by
        rw [Array.toList_extract]
        simp [List.extract]
      rw [this]; exact hvs
  · rw [h] at hvs
    simp only [VRs] at hvs
    obtain ⟨x, l', e, hx, rfl⟩ := hvs
    have hx0 : vs[off]? = some x := by
      have : ((vs.toList.drop off).take i.size)[0]? = some x := by rw [e]; rfl
      rw [List.getElem?_take] at this
      split at this
      · simpa using this
      · cases this
    refine ⟨x, ?_, hx⟩
    unfold Go.part
    simp only [Sem.run_bind, run_isAgg hd, ha, Result.andThen_ok]
    simp [hx0]

theorem pure_field {T : TypeId} {fs : Array Field} {n : Nat} {f : Field} {d : TypeDesc} {i : TypeInfo} {x : Operand} (ho : o.op = .field T x n)
    (hd : P.underlying T = some (.struct fs)) (hf : fs[n]? = some f) (hd2 : P.underlying f.type = some d) (hi : P.info? f.type = some i) :
    OpPure P o (kField f.offset i.size (isAggD d) (cOpd x)) := by
  intro g w nt t h a v h' H Tr e
  unfold kField at e
  split at e
  · rename_i cs hx
    split at e
    · rename_i r hr
      cases e
      have hv := cOpd_ok x _ _ _ _ _ _ Tr hx
      simp only [VR] at hv
      obtain ⟨vs, hv, hvs⟩ := hv
      obtain ⟨z, hz, hr⟩ := run_part hd2 hi hvs hr
      exact ⟨rfl, z, by simp [execOp, ho, hv, Instr.field, run_underlying hd, hf, asAgg, hz], hr⟩
    · cases e
  · cases e

omit [Io] in
theorem blt_iff {a b : Nat} : Nat.blt a b = true ↔ a < b := by simp [Nat.blt_eq]

theorem pure_ixS {T e : TypeId} {i : TypeInfo} {x y : Operand} (ho : o.op = .indexAddr T x y) (hd : P.underlying T = some (.slice e)) (hi : P.info? e = some i) :
    OpPure P o (kIxS i.size (cOpd x) (cOpd y)) := by
  intro g w nt t h a v h' H Tr e
  have hrun : ∀ b s n c k (j : Nat), a.eval x = .slice (some ⟨b, s, none⟩) n c → a.eval y = .int k j → j < n →
      (execOp a.eval o).run P w = .ok (.value (.pointer (some ⟨b, s + j * i.size, none⟩))) w := by
    intro b s n c k j hx hy hj
    have hn : ¬ n ≤ j := by omega
    simp [execOp, ho, hx, hy, Instr.indexAt, run_underlying hd, asIntOf, hn, sizeOf, typeInfo, hi, add_none]
  unfold kIxS at e
  split at e
  · rename_i k j hy
    have hvy := cOpd_ok y _ _ _ _ _ _ Tr hy
    simp only [VR] at hvy
    split at e
    · rename_i id off n sz hx
      have hv := cOpd_ok x _ _ _ _ _ _ Tr hx
      cases hb : (Nat.blt j n && Nat.beq sz i.size) with
      | false => rw [hb] at e; cases e
      | true =>
        rw [hb] at e
        cases e
        simp only [Bool.and_eq_true] at hb
        have hj := blt_iff.1 hb.1
        obtain rfl := Nat.eq_of_beq_eq_true hb.2
        simp only [VR] at hv
        rcases hv with ⟨h0, _⟩ | ⟨b, s, cap, hm, hv, _, _⟩
        · omega
        · refine ⟨rfl, _, hrun _ _ _ _ _ _ hv hvy hj, ?_⟩
          simp only [VR]
          exact ⟨b, s, hm, by rw [Nat.add_assoc]; rfl⟩
    · rename_i n cs hx
      have hv := cOpd_ok x _ _ _ _ _ _ Tr hx
      cases hb : Nat.blt j n with
      | false => rw [hb] at e; cases e
      | true =>
        rw [hb] at e
        cases e
        have hj := blt_iff.1 hb
        simp only [VR] at hv
        obtain ⟨q, c, hv, hc, hr⟩ := hv
        rcases hr with ⟨h0, _⟩ | ⟨b, s, vs, rfl, hi', hcs, hvs⟩
        · omega
        · refine ⟨rfl, _, hrun _ _ _ _ _ _ hv hvy hj, ?_⟩
          rw [dp_eq]
          exact VR.iptr_drop hi' hcs hvs _
    · cases e
  · cases e

theorem pure_ixA {T e : TypeId} {n : Nat} {i : TypeInfo} {x y : Operand} (ho : o.op = .indexAddr T x y) (hd : P.underlying T = some (.array n e)) (hi : P.info? e = some i) :
    OpPure P o (kIxA n i.size (cOpd x) (cOpd y)) := by
  intro g w nt t h a v h' H Tr e
  have hrun : ∀ b s k (j : Nat), a.eval x = .pointer (some ⟨b, s, none⟩) → a.eval y = .int k j → j < n →
      (execOp a.eval o).run P w = .ok (.value (.pointer (some ⟨b, s + j * i.size, none⟩))) w := by
    intro b s k j hx hy hj
    have hn : ¬ n ≤ j := by omega
    simp [execOp, ho, hx, hy, Instr.indexAt, Instr.sureAddr, run_underlying hd, asIntOf, hn, sizeOf, typeInfo, hi, add_none]
  unfold kIxA at e
  split at e
  · rename_i k j hy
    have hvy := cOpd_ok y _ _ _ _ _ _ Tr hy
    simp only [VR] at hvy
    split at e
    · rename_i id off hx
      have hv := cOpd_ok x _ _ _ _ _ _ Tr hx
      cases hb : Nat.blt j n with
      | false => rw [hb] at e; cases e
      | true =>
        rw [hb] at e
        cases e
        simp only [VR] at hv
        obtain ⟨b, s, hm, hv⟩ := hv
        refine ⟨rfl, _, hrun _ _ _ _ hv hvy (blt_iff.1 hb), ?_⟩
        simp only [VR]
        exact ⟨b, s, hm, by rw [Nat.add_assoc]; rfl⟩
    · rename_i cs hx
      have hv := cOpd_ok x _ _ _ _ _ _ Tr hx
      cases hb : Nat.blt j n with
      | false => rw [hb] at e; cases e
      | true =>
        rw [hb] at e
        cases e
        simp only [VR] at hv
        obtain ⟨b, s, vs, hv, hi', hc, hvs⟩ := hv
        refine ⟨rfl, _, hrun _ _ _ _ hv hvy (blt_iff.1 hb), ?_⟩
        rw [dp_eq]
        exact VR.iptr_drop hi' hc hvs _
    · cases e
  · cases e

theorem pure_index {T e : TypeId} {n : Nat} {d : TypeDesc} {i : TypeInfo} {x y : Operand} (ho : o.op = .index T x y) (hd : P.underlying T = some (.array n e))
    (hd2 : P.underlying e = some d) (hi : P.info? e = some i) : OpPure P o (kIndex n i.size (isAggD d) (cOpd x) (cOpd y)) := by
  intro g w nt t h a v h' H Tr e
  unfold kIndex at e
  split at e
  · rename_i cs hx
    split at e
    · rename_i k j hy
      have hvy := cOpd_ok y _ _ _ _ _ _ Tr hy
      simp only [VR] at hvy
      have hv := cOpd_ok x _ _ _ _ _ _ Tr hx
      simp only [VR] at hv
      obtain ⟨vs, hv, hvs⟩ := hv
      cases hb : Nat.blt j n with
      | false => rw [hb] at e; cases e
      | true =>
        rw [hb] at e
        change (match part (isAggD d) cs (j * i.size) i.size with | some v => Ro.ok v h | none => .bad) = .ok v h' at e
        split at e
        · rename_i r hr
          cases e
          obtain ⟨z, hz, hr⟩ := run_part hd2 hi hvs hr
          have hn : ¬ n ≤ j := by have := blt_iff.1 hb; omega
          have hvy' : a.eval y = .int k ((j : Nat) : Int) := hvy
          exact ⟨rfl, z, by simp [execOp, ho, hv, hvy', Instr.index, run_underlying hd, asIntOf, hn, sizeOf, typeInfo, hi, hz], hr⟩
        · cases e
    · cases e
  · cases e

theorem pure_indexS {T : TypeId} {x y : Operand} (ho : o.op = .index T x y) (hd : P.underlying T = some .string) : OpPure P o (kIndexS (cOpd x) (cOpd y)) := by
  intro g w nt t h a v h' H Tr e
  unfold kIndexS at e
  split at e
  · rename_i s hx
    split at e
    · rename_i k j hy
      have hvy := cOpd_ok y _ _ _ _ _ _ Tr hy
      simp only [VR] at hvy
      have hvy' : a.eval y = .int k ((j : Nat) : Int) := hvy
      have hv := cOpd_ok x _ _ _ _ _ _ Tr hx
      simp only [VR] at hv
      split at e
      · rename_i b hb
        cases e
        rw [getN_eq] at hb
        have hb' : s[j]? = some b := by
          have : s.data[j]? = some b := by simpa using hb
          obtain ⟨hj, e⟩ := Array.getElem?_eq_some_iff.1 this
          rw [getElem?_pos s j hj]
          exact congrArg some e
        exact ⟨rfl, .int .u8 b.toNat, by simp [execOp, ho, hv.1, hvy', Instr.index, run_underlying hd, asIntOf, hb'], by simp only [VR]⟩
      · cases e
    · cases e
  · cases e

-- slices of slices
theorem natArg_some {x : Option Operand} {t : Tm} {d n : Nat} {g w nt} {a : Act} (T : TR g w nt t a.tmps) (h : natArg (x.map cOpd) t d = some n) :
    (x = none ∧ n = d) ∨ ∃ y k, x = some y ∧ a.eval y = .int k ((n : Nat) : Int) := by
  cases x with
  | none => exact .inl ⟨rfl, by simpa [natArg] using h.symm⟩
  | some y =>
    simp only [Option.map_some, natArg] at h
    split at h
    · rename_i k m hy
      cases h
      have hv := cOpd_ok y _ _ _ _ _ _ T hy
      simp only [VR] at hv
      exact .inr ⟨y, k, rfl, hv⟩
    · cases h
theorem bounds_some {lo hi : Option Operand} {t : Tm} {n l e : Nat} {g w nt} {a : Act} (T : TR g w nt t a.tmps) (h : bounds (lo.map cOpd) (hi.map cOpd) t n = some (l, e)) :
    l ≤ e ∧ e ≤ n ∧ ((lo = none ∧ l = 0) ∨ ∃ y k, lo = some y ∧ a.eval y = .int k ((l : Nat) : Int)) ∧ ((hi = none ∧ e = n) ∨ ∃ y k, hi = some y ∧ a.eval y = .int k ((e : Nat) : Int)) := by
  unfold bounds at h
  split at h
  · rename_i l' hl
    split at h
    · rename_i e' he
      cases hb : (Nat.ble l' e' && Nat.ble e' n) with
      | false => rw [hb] at h; cases h
      | true =>
        rw [hb] at h
        cases h
        simp only [Bool.and_eq_true, Nat.ble_eq] at hb
        exact ⟨hb.1, hb.2, natArg_some T hl, natArg_some T he⟩
    · cases h
  · cases h

omit [Io] in
/-- The bounds of a slice expression without a third number. -/
theorem run_bounds {w : World} {isS : Bool} {len cap l e : Nat} {lo hi : Option Value} (h1 : l ≤ e) (h2 : e ≤ cap)
    (hlo : (lo = none ∧ l = 0) ∨ ∃ k, lo = some (.int k ((l : Nat) : Int))) (hhi : (hi = none ∧ e = len) ∨ ∃ k, hi = some (.int k ((e : Nat) : Int))) :
    (Instr.sliceBounds isS len cap lo hi none).run P w = .ok (l, e, cap) w := by
  have b1 : ¬ cap < e := by omega
  have b2 : ¬ e < l := by omega
  rcases hlo with ⟨rfl, rfl⟩ | ⟨k, rfl⟩ <;> rcases hhi with ⟨rfl, rfl⟩ | ⟨k', rfl⟩ <;>
    simp [Instr.sliceBounds, Instr.sliceBound, asIntOf, Nat.not_lt.1 b1, Nat.not_lt.1 b2]

omit [Io] in
theorem lo_val {a : Act} {lo : Option Operand} {l d : Nat} (h : (lo = none ∧ l = d) ∨ ∃ y k, lo = some y ∧ a.eval y = .int k ((l : Nat) : Int)) :
    (lo.map a.eval = none ∧ l = d) ∨ ∃ k, lo.map a.eval = some (.int k ((l : Nat) : Int)) := by
  rcases h with ⟨rfl, rfl⟩ | ⟨y, k, rfl, e⟩
  · exact .inl ⟨rfl, rfl⟩
  · exact .inr ⟨k, by simp [e]⟩

theorem pure_sliceS {T : TypeId} {x : Operand} {lo hi : Option Operand} (ho : o.op = .slice T x lo hi none) (hd : P.underlying T = some .string) :
    OpPure P o (kSliceS (cOpd x) (lo.map cOpd) (hi.map cOpd)) := by
  intro g w nt t h a v h' H Tr e
  unfold kSliceS at e
  split at e
  · rename_i s hx
    have hv := cOpd_ok x _ _ _ _ _ _ Tr hx
    simp only [VR] at hv
    split at e
    · rename_i l e' hb
      cases e
      obtain ⟨h1, h2, h3, h4⟩ := bounds_some Tr hb
      have hr := run_bounds (P := P) (w := w) (isS := false) h1 h2 (lo_val h3) (lo_val h4)
      exact ⟨rfl, .string (s.extract l e'), by simp [execOp, ho, hv.1, Instr.sliceAt, Instr.slice, run_underlying hd, hr], by simp [VR, Value.oneCell']⟩
    · cases e
  · cases e

theorem pure_slice {T el : TypeId} {i : TypeInfo} {x : Operand} {lo hi : Option Operand} (ho : o.op = .slice T x lo hi none) (hd : P.underlying T = some (.slice el)) (hi' : P.info? el = some i) :
    OpPure P o (kSlice i.size (cOpd x) (lo.map cOpd) (hi.map cOpd)) := by
  intro g w nt t h a v h' H Tr e
  have hsz : (sizeOf el).run P w = .ok i.size w := by simp [sizeOf, typeInfo, hi']
  have hrun : ∀ b n c l u, a.eval x = .slice b n c → l ≤ u → u ≤ c → ((lo = none ∧ l = 0) ∨ ∃ y k, lo = some y ∧ a.eval y = .int k ((l : Nat) : Int)) →
      ((hi = none ∧ u = n) ∨ ∃ y k, hi = some y ∧ a.eval y = .int k ((u : Nat) : Int)) →
      (execOp a.eval o).run P w = .ok (.value (.slice (if c = l then b else b.map (·.add (l * i.size))) (u - l) (c - l))) w := by
    intro b n c l u hx h1 h2 h3 h4
    have hr := run_bounds (P := P) (w := w) (isS := true) h1 h2 (lo_val h3) (lo_val h4)
    simp [execOp, ho, hx, Instr.sliceAt, Instr.slice, run_underlying hd, hr, hsz]
  unfold kSlice at e
  split at e
  · rename_i hx
    have hv := cOpd_ok x _ _ _ _ _ _ Tr hx
    simp only [VR] at hv
    obtain ⟨b, hv⟩ := hv
    split at e
    · rename_i p hb
      obtain ⟨l, u⟩ := p
      cases e
      obtain ⟨h1, h2, h3, h4⟩ := bounds_some Tr hb
      refine ⟨rfl, _, hrun _ _ _ _ _ hv h1 h2 h3 h4, ?_⟩
      obtain rfl : l = 0 := by omega
      obtain rfl : u = 0 := by omega
      simp only [VR]
      exact ⟨_, rfl⟩
    · cases e
  · rename_i id off n sz hx
    have hv := cOpd_ok x _ _ _ _ _ _ Tr hx
    simp only [VR] at hv
    split at e
    · rename_i l u hb
      cases hz : Nat.beq sz i.size with
      | false => rw [hz] at e; cases e
      | true =>
        rw [hz] at e
        cases e
        obtain rfl := Nat.eq_of_beq_eq_true hz
        obtain ⟨h1, h2, h3, h4⟩ := bounds_some Tr hb
        rcases hv with ⟨rfl, b, hv⟩ | ⟨b, s, cap, hm, hv, hc, hr⟩
        · refine ⟨rfl, _, hrun _ _ _ _ _ hv h1 h2 h3 h4, ?_⟩
          obtain rfl : l = 0 := by omega
          obtain rfl : u = 0 := by omega
          simp only [VR]
          exact .inl ⟨by first | trivial | rfl, _, rfl⟩
        · refine ⟨rfl, _, hrun _ _ _ _ _ hv h1 (by omega) h3 h4, ?_⟩
          simp only [VR]
          by_cases hcl : cap = l
          · refine .inl ⟨by show u - l = 0; omega, (if cap = l then some (⟨b, s + off, none⟩ : Addr) else Option.map (fun x : Addr => x.add (l * i.size)) (some ⟨b, s + off, none⟩)), ?_⟩
            rw [show u - l = 0 by omega, show cap - l = 0 by omega]
          · refine .inr ⟨b, s, cap - l, hm, ?_, by show u - l ≤ _; omega, ?_⟩
            · rw [if_neg hcl]
              simp only [Option.map_some, add_none]
              congr 3
              show s + off + l * i.size = s + (off + l * i.size)
              omega
            · show s + (off + l * i.size) + (cap - l) * i.size ≤ _
              have : (cap - l) * i.size + l * i.size = cap * i.size := by rw [← Nat.add_mul]; congr 1; omega
              omega
    · cases e
  · rename_i n cs hx
    have hv := cOpd_ok x _ _ _ _ _ _ Tr hx
    simp only [VR] at hv
    obtain ⟨b, cap, hv, hc, hr⟩ := hv
    split at e
    · rename_i l u hb
      cases e
      obtain ⟨h1, h2, h3, h4⟩ := bounds_some Tr hb
      refine ⟨rfl, _, hrun _ _ _ _ _ hv h1 (by omega) h3 h4, ?_⟩
      simp only [VR, tk_eq, dp_eq]
      refine ⟨_, cap - l, rfl, by show u - l ≤ _; omega, ?_⟩
      rcases hr with ⟨rfl, rfl⟩ | ⟨q, s, vs, rfl, hi2, hcs, hvs⟩
      · exact .inl ⟨by show u - l = 0; omega, by simp⟩
      · by_cases hcl : cap = l
        · exact .inl ⟨by show u - l = 0; omega, by
            show List.take ((u - l) * i.size) _ = []
            rw [show u - l = 0 by omega]; simp⟩
        · refine .inr ⟨q, s + l * i.size, _, ?_, hi2, (hcs.drop (l * i.size)).take ((u - l) * i.size), (hvs.drop (l * i.size)).take ((u - l) * i.size)⟩
          rw [if_neg hcl]
          simp only [Option.map_some, add_none]
    · cases e
  · cases e


theorem VRs.row_le {g w} {cs : List AV} {vs : List Value} {s : Nat} {C : Array Value} (hv : VRs g w cs vs) (hc : ∀ (j : Nat) (v : Value), vs[j]? = some v → C[s + j]? = some v) {n : Nat}
    (hn : n ≤ cs.length) (h0 : n ≠ 0) : s + n ≤ C.size := by
  have hl := hv.length
  have hj : n - 1 < vs.length := by omega
  have := hc (n - 1) _ (List.getElem?_eq_getElem hj)
  have := (Array.getElem?_eq_some_iff.1 this).1
  omega

theorem pure_sliceA {T el : TypeId} {n : Nat} {i : TypeInfo} {x : Operand} {lo hi : Option Operand} (ho : o.op = .slice T x lo hi none) (hd : P.underlying T = some (.array n el)) (hi' : P.info? el = some i) (h0 : i.size ≠ 0) :
    OpPure P o (kSliceA n i.size (cOpd x) (lo.map cOpd) (hi.map cOpd)) := by
  intro g w nt t h a v h' H Tr e
  have hsz : (sizeOf el).run P w = .ok i.size w := by simp [sizeOf, typeInfo, hi']
  unfold kSliceA at e
  split at e
  · rename_i id off hx
    have hv := cOpd_ok x _ _ _ _ _ _ Tr hx
    simp only [VR] at hv
    obtain ⟨b, s, hm, hv⟩ := hv
    split at e
    · rename_i l u hb
      split at e
      · rename_i cs hg
        rw [len_eq] at e
        cases hz : Nat.ble (Nat.add off (Nat.mul n i.size)) cs.length with
        | false => rw [hz] at e; cases e
        | true =>
          rw [hz] at e
          cases e
          have hz' : off + n * i.size ≤ cs.length := Nat.ble_eq.mp hz
          obtain ⟨h1, h2, h3, h4⟩ := bounds_some Tr hb
          have hr := run_bounds (P := P) (w := w) (isS := false) h1 h2 (lo_val h3) (lo_val h4)
          refine ⟨rfl, .slice (some (if n = l then ⟨b, s + off, none⟩ else (⟨b, s + off, none⟩ : Addr).add (l * i.size))) (u - l) (n - l), ?_, ?_⟩
          · simp [execOp, ho, hv, Instr.sliceAt, Instr.sureAddr, run_underlying hd, hr, hsz]
          · obtain ⟨C, el', vs, hw, _, hvs, hc⟩ := H.row hg hm
            simp only [VR]
            by_cases hcl : n = l
            · refine .inl ⟨by show u - l = 0; omega, some (if n = l then ⟨b, s + off, none⟩ else (⟨b, s + off, none⟩ : Addr).add (l * i.size)), ?_⟩
              rw [show u - l = 0 by omega, show n - l = 0 by omega]
            · have h00 : (n - l) * i.size ≠ 0 := Nat.mul_ne_zero (by omega) h0
              refine .inr ⟨b, s, n - l, hm, ?_, by show u - l ≤ _; omega, ?_⟩
              · rw [if_neg hcl, add_none]
                congr 3
                show s + off + l * i.size = s + (off + l * i.size)
                omega
              · rw [rowSize_row hw]
                show s + (off + l * i.size) + (n - l) * i.size ≤ _
                have e1 : (n - l) * i.size + l * i.size = n * i.size := by rw [← Nat.add_mul]; congr 1; omega
                have := VRs.row_le hvs hc hz' (by omega)
                omega
      · cases e
    · cases e
  · cases e
end
end Go.Ab
