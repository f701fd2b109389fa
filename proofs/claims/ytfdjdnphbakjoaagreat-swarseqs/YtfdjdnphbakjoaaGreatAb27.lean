import Derived.Test.YtfdjdnphbakjoaaGreatAb26
namespace Go.Ab
variable [Io]

/-- Nothing old has turned. -/
structure Keep (w w' : World) : Prop where
  os : w'.os = w.os
  tape : w'.tape = w.tape
  output : w'.output = w.output
  size : w.heap.size ≤ w'.heap.size
  old : ∀ b, b < w.heap.size → w'.heap[b]? = w.heap[b]?

omit [Io] in
theorem Keep.rows {w w' : World} (K : Keep w w') (b : Nat) : rowSize w b ≤ rowSize w' b := by
  unfold rowSize
  by_cases h : b < w.heap.size
  · rw [K.old b h]; exact Nat.le_refl _
  · rw [Array.getElem?_eq_none (by omega)]; exact Nat.zero_le _
omit [Io] in
theorem Keep.trans {w w1 w2 : World} (a : Keep w w1) (b : Keep w1 w2) : Keep w w2 :=
  ⟨b.os.trans a.os, b.tape.trans a.tape, b.output.trans a.output, Nat.le_trans a.size b.size, fun k h => (b.old k (Nat.lt_of_lt_of_le h a.size)).trans (a.old k h)⟩

/-- Nothing is known beside what nobody writes. -/
def gE (imm : Nat → Prop) : G := ⟨fun _ => none, imm⟩
theorem hr_empty {imm : Nat → Prop} {w : World} (h : ∀ b, imm b → b < w.heap.size) : HR (gE imm) w (nilH 0) :=
  ⟨fun _ _ => rfl, (fun _ _ e => by cases e), (fun _ _ _ _ _ _ _ e => by cases e), h⟩
omit [Io] in
theorem keep_of {imm : Nat → Prop} {w : World} {g' : G} {w' : World} {h' : Hp} (E : Ext (gE imm) w (nilH 0) g' w' h') : Keep w w' :=
  ⟨E.os, E.tape, E.output, E.size, fun b hb => E.old b hb (by rintro ⟨id, cs, s, e, _⟩; cases e)⟩

-- freezing
noncomputable def mapA (f : AV → Option AV) (l : List AV) : Option (List AV) :=
  List.rec (some []) (fun a _ ih => match f a with
    | some b => match ih with
      | some r => some (b :: r)
      | none => none
    | none => none) l
noncomputable def frz (n : Nat) : Hp → AV → Option AV :=
  Nat.rec (fun _ _ => none) (fun _ ih h a => match a with
    | .hsl id off n sz => match h.objs.get id with
      | some cs => match segment cs off (Nat.mul n sz) with
        | some l => match mapA (ih h) l with
          | some l => some (.isl n l)
          | none => none
        | none => none
      | none => none
    | .ref id off => match h.objs.get id with
      | some cs => match mapA (ih h) (dp off cs) with
        | some l => some (.iptr l)
        | none => none
      | none => none
    | .agg l => match mapA (ih h) l with
      | some l => some (.agg l)
      | none => none
    | .tup l => match mapA (ih h) l with
      | some l => some (.tup l)
      | none => none
    | .fn f l => match mapA (ih h) l with
      | some l => some (.fn f l)
      | none => none
    | .isl n l => match mapA (ih h) l with
      | some l => some (.isl n l)
      | none => none
    | .iptr l => match mapA (ih h) l with
      | some l => some (.iptr l)
      | none => none
    | a => some a) n

theorem mapA_ok {g g' : G} {w : World} {f : AV → Option AV} (hf : ∀ a a' v, f a = some a' → VR g w a v → VR g' w a' v) : ∀ {l l' : List AV} {vs : List Value}, mapA f l = some l' → VRs g w l vs → VRs g' w l' vs
  | [], l', vs, e, h => by cases e; simpa only [VRs] using h
  | a :: l, l', vs, e, h => by
    change (match f a with | some b => (match mapA f l with | some r => some (b :: r) | none => none) | none => none) = some l' at e
    simp only [VRs] at h
    obtain ⟨v, r, rfl, hv, hr⟩ := h
    cases h1 : f a with
    | none => rw [h1] at e; cases e
    | some b =>
      cases h2 : mapA f l with
      | none => rw [h1, h2] at e; cases e
      | some r' =>
        rw [h1, h2] at e
        cases e
        simp only [VRs]
        exact ⟨v, r, rfl, hf a b v h1 hv, mapA_ok hf h2 hr⟩

theorem frz_ok {g g' : G} {w : World} {h : Hp} (H : HR g w h) (hi : ∀ b, g.imm b → g'.imm b) (ho : ∀ b, Owned g h b → g'.imm b) : ∀ (n : Nat) (a a' : AV) (v : Value), frz n h a = some a' → VR g w a v → VR g' w a' v := by
  intro n
  induction n with
  | zero => intro a a' v e; cases e
  | succ n ih =>
    intro a a' v e hv
    have hm := @mapA_ok _ g g' w (frz n h) ih
    cases a with
    | int k n => cases e; simpa only [VR] using hv
    | bool b => cases e; simpa only [VR] using hv
    | sc x => cases e; simpa only [VR] using hv
    | esl => cases e; simpa only [VR] using hv
    | sym k s lo hi o => cases e; simpa only [VR] using hv
    | any => cases e; simpa only [VR] using hv
    | agg l =>
      change (match mapA (frz n h) l with | some l => some (AV.agg l) | none => none) = some a' at e
      cases h1 : mapA (frz n h) l with
      | none => rw [h1] at e; cases e
      | some l' =>
        rw [h1] at e
        cases e
        simp only [VR] at hv ⊢
        obtain ⟨vs, e, q⟩ := hv
        exact ⟨vs, e, hm h1 q⟩
    | tup l =>
      change (match mapA (frz n h) l with | some l => some (AV.tup l) | none => none) = some a' at e
      cases h1 : mapA (frz n h) l with
      | none => rw [h1] at e; cases e
      | some l' =>
        rw [h1] at e
        cases e
        simp only [VR] at hv ⊢
        obtain ⟨vs, e, q⟩ := hv
        exact ⟨vs, e, hm h1 q⟩
    | fn f l =>
      change (match mapA (frz n h) l with | some l => some (AV.fn f l) | none => none) = some a' at e
      cases h1 : mapA (frz n h) l with
      | none => rw [h1] at e; cases e
      | some l' =>
        rw [h1] at e
        cases e
        simp only [VR] at hv ⊢
        obtain ⟨vs, e, q⟩ := hv
        exact ⟨vs, e, hm h1 q⟩
    | isl m l =>
      change (match mapA (frz n h) l with | some l => some (AV.isl m l) | none => none) = some a' at e
      cases h1 : mapA (frz n h) l with
      | none => rw [h1] at e; cases e
      | some l' =>
        rw [h1] at e
        cases e
        simp only [VR] at hv ⊢
        obtain ⟨x, cap, e, hle, q⟩ := hv
        refine ⟨x, cap, e, hle, ?_⟩
        rcases q with ⟨q1, rfl⟩ | ⟨b, o, vs, q1, q2, q3, q4⟩
        · cases h1
          exact .inl ⟨q1, rfl⟩
        · exact .inr ⟨b, o, vs, q1, hi b q2, q3, hm h1 q4⟩
    | iptr l =>
      change (match mapA (frz n h) l with | some l => some (AV.iptr l) | none => none) = some a' at e
      cases h1 : mapA (frz n h) l with
      | none => rw [h1] at e; cases e
      | some l' =>
        rw [h1] at e
        cases e
        simp only [VR] at hv ⊢
        obtain ⟨b, o, vs, q1, q2, q3, q4⟩ := hv
        exact ⟨b, o, vs, q1, hi b q2, q3, hm h1 q4⟩
    | ref id off =>
      change (match h.objs.get id with | some cs => (match mapA (frz n h) (dp off cs) with | some l => some (AV.iptr l) | none => none) | none => none) = some a' at e
      cases h0 : h.objs.get id with
      | none => rw [h0] at e; cases e
      | some cs =>
      rw [h0] at e
      simp only at e
      cases h1 : mapA (frz n h) (dp off cs) with
      | none => rw [h1] at e; cases e
      | some l' =>
        rw [h1] at e
        cases e
        simp only [VR] at hv ⊢
        obtain ⟨b, s, hmm, rfl⟩ := hv
        obtain ⟨C, el, vs, hw, _, hvs, hC⟩ := H.row h0 hmm
        rw [dp_eq] at h1
        exact ⟨b, s + off, vs.drop off, rfl, ho b ⟨id, cs, s, h0, hmm⟩, (cellsAt_row hw hC).drop off, hm h1 (hvs.drop off)⟩
    | hsl id off m sz =>
      change (match h.objs.get id with | some cs => (match segment cs off (Nat.mul m sz) with | some l => (match mapA (frz n h) l with | some l => some (AV.isl m l) | none => none) | none => none) | none => none) = some a' at e
      cases h0 : h.objs.get id with
      | none => rw [h0] at e; cases e
      | some cs =>
      rw [h0] at e
      simp only at e
      cases hs : segment cs off (Nat.mul m sz) with
      | none => rw [hs] at e; cases e
      | some l =>
      rw [hs] at e
      simp only at e
      cases h1 : mapA (frz n h) l with
      | none => rw [h1] at e; cases e
      | some l' =>
        rw [h1] at e
        cases e
        obtain ⟨rfl, hlen⟩ := segment_some hs
        simp only [VR] at hv ⊢
        rcases hv with ⟨rfl, x, rfl⟩ | ⟨b, s, cap, hmm, rfl, hle, _⟩
        · refine ⟨x, 0, rfl, Nat.le_refl _, .inl ⟨rfl, ?_⟩⟩
          have hz : Nat.mul 0 sz = 0 := Nat.zero_mul sz
          rw [hz] at h1
          simp only [List.take_zero] at h1
          cases h1
          rfl
        · obtain ⟨C, el, vs, hw, _, hvs, hC⟩ := H.row h0 hmm
          exact ⟨_, cap, rfl, hle, .inr ⟨b, s + off, (vs.drop off).take (Nat.mul m sz), rfl, ho b ⟨id, cs, s, h0, hmm⟩, ((cellsAt_row hw hC).drop off).take _, hm h1 ((hvs.drop off).take _)⟩⟩

/-- A call that turns nothing old, and what it answers, from memory that nobody writes any more. -/
def PureC (P : Program) (f : FuncId) (args : List AV) (v : AV) : Prop :=
  ∀ (imm : Nat → Prop) (w : World) (vs : List Value), (∀ b, imm b → b < w.heap.size) → VRs (gE imm) w args vs →
    Calls P f vs.toArray w fun e w' => ∃ x, e = .returned x ∧ Keep w w' ∧ VR (gE fun b => imm b ∨ (w.heap.size ≤ b ∧ b < w'.heap.size)) w' v x

theorem pureC_of {P : Program} {call : CallF} (hc : CallOk P call) {f : FuncId} {args : List AV} {v v' : AV} {h' : Hp} {n : Nat} (e : call f args (nilH 0) = .ok v h') (hf : frz n h' v = some v') : PureC P f args v' := by
  intro imm w vs hi hv
  obtain ⟨_, hcall⟩ := hc f args (nilH 0) v h' e
  refine (hcall (gE imm) w vs (hr_empty hi) hv).mono ?_
  rintro e w' ⟨x, g', rfl, E, H', hx⟩
  refine ⟨x, rfl, keep_of E, frz_ok H' (fun b k => ?_) (fun b k => ?_) n v v' x hf hx⟩
  · rcases E.imm' b k with k1 | ⟨id, cs, s, e, _⟩ | k1
    · exact .inl k1
    · cases e
    · exact .inr ⟨k1, H'.imm b k⟩
  · rcases E.own' b k with ⟨id, cs, s, e, _⟩ | k1
    · cases e
    · obtain ⟨id, cs, s, e, m⟩ := k
      obtain ⟨_, _, _, hw, _⟩ := H'.row e m
      exact .inr ⟨k1, (Array.getElem?_eq_some_iff.1 hw).1⟩

end Go.Ab
