import Derived.Test.YtmicbanhfcibjaaGreatDoorAb16
import Derived.Below
import Derived.Lib.SmallJoins
namespace Go.Ab
variable [Io]

/-- Nothing old has turned. -/
structure Keep (w w' : World) : Prop where
  os : w'.os = w.os
  tape : w'.tape = w.tape
  output : w'.output = w.output
  size : w.heap.size ≤ w'.heap.size
  old : ∀ b, b < w.heap.size → w'.heap[b]? = w.heap[b]?

omit [Io] in
theorem Keep.rows {w w' : World} (K : Keep w w') (b : Nat) : rowSize w b ≤ rowSize w' b := by
  unfold rowSize
  by_cases h : b < w.heap.size
  · rw [K.old b h]; exact Nat.le_refl _
  · rw [Array.getElem?_eq_none (by omega)]; exact Nat.zero_le _
omit [Io] in
theorem Keep.trans {w w1 w2 : World} (a : Keep w w1) (b : Keep w1 w2) : Keep w w2 :=
  ⟨b.os.trans a.os, b.tape.trans a.tape, b.output.trans a.output, Nat.le_trans a.size b.size, fun k h => (b.old k (Nat.lt_of_lt_of_le h a.size)).trans (a.old k h)⟩

/-- Nothing is known beside what nobody writes. -/
def gE (imm : Nat → Prop) : G := ⟨fun _ => none, imm⟩
theorem hr_empty {imm : Nat → Prop} {w : World} (h : ∀ b, imm b → b < w.heap.size) (t : TbOk (gE imm) w) : HR (gE imm) w (nilH 0) :=
  ⟨fun _ _ => rfl, (fun _ _ e => by cases e), (fun _ _ _ _ _ _ _ e => by cases e), h, t⟩
omit [Io] in
theorem keep_of {imm : Nat → Prop} {w : World} {g' : G} {w' : World} {h' : Hp} (E : Ext (gE imm) w (nilH 0) g' w' h') : Keep w w' :=
  ⟨E.os, E.tape, E.output, E.size, fun b hb => E.old b hb (by rintro ⟨id, cs, s, e, _⟩; cases e)⟩

-- freezing
noncomputable def mapA (f : AV → Option AV) (l : List AV) : Option (List AV) :=
  List.rec (some []) (fun a _ ih => match f a with
    | some b => match ih with
      | some r => some (b :: r)
      | none => none
    | none => none) l
noncomputable def frz (n : Nat) : Hp → AV → Option AV :=
  Nat.rec (fun _ _ => none) (fun _ ih h a => match a with
    | .hsl id off n sz => match h.objs.get id with
      | some cs => match cs.seg off (Nat.mul n sz) with
        | some l => match mapA (ih h) l with
          | some l => some (.isl n l)
          | none => none
        | none => none
      | none => none
    | .ref id off => match h.objs.get id with
      | some cs => match cs.seg off (Nat.sub cs.n off) with
        | some l => match mapA (ih h) l with
          | some l => some (.iptr l)
          | none => none
        | none => none
      | none => none
    | .agg l => match mapA (ih h) l with
      | some l => some (.agg l)
      | none => none
    | .tup l => match mapA (ih h) l with
      | some l => some (.tup l)
      | none => none
    | .fn f l => match mapA (ih h) l with
      | some l => some (.fn f l)
      | none => none
    | .isl n l => match mapA (ih h) l with
      | some l => some (.isl n l)
      | none => none
    | .iptr l => match mapA (ih h) l with
      | some l => some (.iptr l)
      | none => none
    | a => some a) n

theorem mapA_ok {g g' : G} {w : World} {f : AV → Option AV} (hf : ∀ a a' v, f a = some a' → VR g w a v → VR g' w a' v) : ∀ {l l' : List AV} {vs : List Value}, mapA f l = some l' → VRs g w l vs → VRs g' w l' vs
  | [], l', vs, e, h => by cases e; simpa only [VRs] using h
  | a :: l, l', vs, e, h => by
    change (match f a with | some b => (match mapA f l with | some r => some (b :: r) | none => none) | none => none) = some l' at e
    simp only [VRs] at h
    obtain ⟨v, r, rfl, hv, hr⟩ := h
    cases h1 : f a with
    | none => rw [h1] at e; cases e
    | some b =>
      cases h2 : mapA f l with
      | none => rw [h1, h2] at e; cases e
      | some r' =>
        rw [h1, h2] at e
        cases e
        simp only [VRs]
        exact ⟨v, r, rfl, hf a b v h1 hv, mapA_ok hf h2 hr⟩

theorem frz_ok {g g' : G} {w : World} {h : Hp} (H : HR g w h) (hi : ∀ b, g.imm b → g'.imm b) (ho : ∀ b, Owned g h b → g'.imm b) : ∀ (n : Nat) (a a' : AV) (v : Value), frz n h a = some a' → VR g w a v → VR g' w a' v := by
  intro n
  induction n with
  | zero => intro a a' v e; cases e
  | succ n ih =>
    intro a a' v e hv
    have hm := @mapA_ok _ g g' w (frz n h) ih
    cases a with
    | int k n => cases e; simpa only [VR] using hv
    | bool b => cases e; simpa only [VR] using hv
    | sc x => cases e; simpa only [VR] using hv
    | esl => cases e; simpa only [VR] using hv
    | nel => cases e; simpa only [VR] using hv
    | sym k s lo hi o => cases e; simpa only [VR] using hv
    | any => cases e; simpa only [VR] using hv
    | agg l =>
      change (match mapA (frz n h) l with | some l => some (AV.agg l) | none => none) = some a' at e
      cases h1 : mapA (frz n h) l with
      | none => rw [h1] at e; cases e
      | some l' =>
        rw [h1] at e
        cases e
        simp only [VR] at hv ⊢
        obtain ⟨vs, e, q⟩ := hv
        exact ⟨vs, e, hm h1 q⟩
    | tup l =>
      change (match mapA (frz n h) l with | some l => some (AV.tup l) | none => none) = some a' at e
      cases h1 : mapA (frz n h) l with
      | none => rw [h1] at e; cases e
      | some l' =>
        rw [h1] at e
        cases e
        simp only [VR] at hv ⊢
        obtain ⟨vs, e, q⟩ := hv
        exact ⟨vs, e, hm h1 q⟩
    | fn f l =>
      change (match mapA (frz n h) l with | some l => some (AV.fn f l) | none => none) = some a' at e
      cases h1 : mapA (frz n h) l with
      | none => rw [h1] at e; cases e
      | some l' =>
        rw [h1] at e
        cases e
        simp only [VR] at hv ⊢
        obtain ⟨vs, e, q⟩ := hv
        exact ⟨vs, e, hm h1 q⟩
    | isl m l =>
      change (match mapA (frz n h) l with | some l => some (AV.isl m l) | none => none) = some a' at e
      cases h1 : mapA (frz n h) l with
      | none => rw [h1] at e; cases e
      | some l' =>
        rw [h1] at e
        cases e
        simp only [VR] at hv ⊢
        obtain ⟨x, cap, e, hle, q⟩ := hv
        refine ⟨x, cap, e, hle, ?_⟩
        rcases q with ⟨q1, rfl⟩ | ⟨b, o, vs, q1, q2, q3, q4⟩
        · cases h1
          exact .inl ⟨q1, rfl⟩
        · exact .inr ⟨b, o, vs, q1, hi b q2, q3, hm h1 q4⟩
    | iptr l =>
      change (match mapA (frz n h) l with | some l => some (AV.iptr l) | none => none) = some a' at e
      cases h1 : mapA (frz n h) l with
      | none => rw [h1] at e; cases e
      | some l' =>
        rw [h1] at e
        cases e
        simp only [VR] at hv ⊢
        obtain ⟨b, o, vs, q1, q2, q3, q4⟩ := hv
        exact ⟨b, o, vs, q1, hi b q2, q3, hm h1 q4⟩
    | ref id off =>
      change (match h.objs.get id with | some cs => (match cs.seg off (Nat.sub cs.n off) with | some l => (match mapA (frz n h) l with | some l => some (AV.iptr l) | none => none) | none => none) | none => none) = some a' at e
      cases h0 : h.objs.get id with
      | none => rw [h0] at e; cases e
      | some cs =>
      rw [h0] at e
      simp only at e
      cases hs : cs.seg off (Nat.sub cs.n off) with
      | none => rw [hs] at e; cases e
      | some l =>
      rw [hs] at e
      simp only at e
      cases h1 : mapA (frz n h) l with
      | none => rw [h1] at e; cases e
      | some l' =>
        rw [h1] at e
        cases e
        obtain ⟨rfl, _, _⟩ := seg_some hs
        simp only [VR] at hv ⊢
        obtain ⟨b, s, hmm, rfl⟩ := hv
        obtain ⟨C, el, vs, hw, _, hvs, hC⟩ := H.row h0 hmm
        exact ⟨b, s + off, (vs.drop off).take (Nat.sub cs.n off), rfl, ho b ⟨id, cs, s, h0, hmm⟩, ((cellsAt_row hw hC).drop off).take _, hm h1 ((hvs.drop off).take _)⟩
    | hsl id off m sz =>
      change (match h.objs.get id with | some cs => (match cs.seg off (Nat.mul m sz) with | some l => (match mapA (frz n h) l with | some l => some (AV.isl m l) | none => none) | none => none) | none => none) = some a' at e
      cases h0 : h.objs.get id with
      | none => rw [h0] at e; cases e
      | some cs =>
      rw [h0] at e
      simp only at e
      cases hs : cs.seg off (Nat.mul m sz) with
      | none => rw [hs] at e; cases e
      | some l =>
      rw [hs] at e
      simp only at e
      cases h1 : mapA (frz n h) l with
      | none => rw [h1] at e; cases e
      | some l' =>
        rw [h1] at e
        cases e
        obtain ⟨rfl, hlen, _⟩ := seg_some hs
        simp only [VR] at hv ⊢
        rcases hv with ⟨rfl, x, rfl⟩ | ⟨b, s, cap, hmm, rfl, hle, _⟩
        · refine ⟨x, 0, rfl, Nat.le_refl _, .inl ⟨rfl, ?_⟩⟩
          have hz : Nat.mul 0 sz = 0 := Nat.zero_mul sz
          rw [hz] at h1
          simp only [List.take_zero] at h1
          cases h1
          rfl
        · obtain ⟨C, el, vs, hw, _, hvs, hC⟩ := H.row h0 hmm
          exact ⟨_, cap, rfl, hle, .inr ⟨b, s + off, (vs.drop off).take (Nat.mul m sz), rfl, ho b ⟨id, cs, s, h0, hmm⟩, ((cellsAt_row hw hC).drop off).take _, hm h1 ((hvs.drop off).take _)⟩⟩

/-- A call that turns nothing old, and what it answers, from memory that nobody writes any more. -/
def PureC (P : Program) (f : FuncId) (args : List AV) (v : AV) : Prop :=
  ∀ (imm : Nat → Prop) (w : World) (vs : List Value), (∀ b, imm b → b < w.heap.size) → TbOk (gE imm) w → VRs (gE imm) w args vs →
    Calls P f vs.toArray w fun e w' => ∃ x, e = .returned x ∧ Keep w w' ∧ VR (gE fun b => imm b ∨ (w.heap.size ≤ b ∧ b < w'.heap.size)) w' v x

theorem pureC_of {P : Program} {call : CallF} (hc : CallOk P call) {f : FuncId} {args : List AV} {v v' : AV} {h' : Hp} {n : Nat} (e : call f args (nilH 0) = .ok v h') (hf : frz n h' v = some v') : PureC P f args v' := by
  intro imm w vs hi ht hv
  obtain ⟨_, hcall⟩ := hc f args (nilH 0) v h' e
  refine (hcall (gE imm) w vs (hr_empty hi ht) hv).mono ?_
  rintro e w' ⟨x, g', rfl, E, H', hx⟩
  refine ⟨x, rfl, keep_of E, frz_ok H' (fun b k => ?_) (fun b k => ?_) n v v' x hf hx⟩
  · rcases E.imm' b k with k1 | ⟨id, cs, s, e, _⟩ | k1
    · exact .inl k1
    · cases e
    · exact .inr ⟨k1, H'.imm b k⟩
  · rcases E.own' b k with ⟨id, cs, s, e, _⟩ | k1
    · cases e
    · obtain ⟨id, cs, s, e, m⟩ := k
      obtain ⟨_, _, _, hw, _⟩ := H'.row e m
      exact .inr ⟨k1, (Array.getElem?_eq_some_iff.1 hw).1⟩

end Go.Ab

namespace Go.Ab

mutual
def noSym : AV → Bool
  | .sym _ _ _ _ _ => false
  | .agg l => noSyms l
  | .tup l => noSyms l
  | .isl _ l => noSyms l
  | .iptr l => noSyms l
  | .fn _ l => noSyms l
  | .ref _ _ => false
  | .hsl _ _ _ _ => false
  | _ => true
def noSyms : List AV → Bool
  | [] => true
  | a :: l => noSym a && noSyms l
end

mutual
theorem VR.io (I J : Io) {g : @G} {w : World} : ∀ (a : AV) (v : Value), noSym a = true → @VR I g w a v → @VR J g w a v
  | .int _ _, v, n, r => by simpa only [VR] using r
  | .bool _, v, n, r => by simpa only [VR] using r
  | .sc _, v, n, r => by simpa only [VR] using r
  | .esl, v, n, r => by simpa only [VR] using r
  | .nel, v, n, r => by simpa only [VR] using r
  | .any, v, n, r => by simpa only [VR] using r
  | .sym _ _ _ _ _, v, n, r => by cases n
  | .ref _ _, v, n, r => by cases n
  | .hsl _ _ _ _, v, n, r => by cases n
  | .agg cs, v, n, r => by
    simp only [VR] at r ⊢
    obtain ⟨vs, e, q⟩ := r
    exact ⟨vs, e, VRs.io I J cs _ n q⟩
  | .tup cs, v, n, r => by
    simp only [VR] at r ⊢
    obtain ⟨vs, e, q⟩ := r
    exact ⟨vs, e, VRs.io I J cs _ n q⟩
  | .fn f cs, v, n, r => by
    simp only [VR] at r ⊢
    obtain ⟨vs, e, q⟩ := r
    exact ⟨vs, e, VRs.io I J cs _ n q⟩
  | .isl m cs, v, n, r => by
    simp only [VR] at r ⊢
    obtain ⟨a, cap, e, l, r⟩ := r
    refine ⟨a, cap, e, l, ?_⟩
    rcases r with r | ⟨b, o, vs, e, i, c, q⟩
    · exact .inl r
    · exact .inr ⟨b, o, vs, e, i, c, VRs.io I J cs _ n q⟩
  | .iptr cs, v, n, r => by
    simp only [VR] at r ⊢
    obtain ⟨b, o, vs, e, i, c, q⟩ := r
    exact ⟨b, o, vs, e, i, c, VRs.io I J cs _ n q⟩
theorem VRs.io (I J : Io) {g : @G} {w : World} : ∀ (l : List AV) (vs : List Value), noSyms l = true → @VRs I g w l vs → @VRs J g w l vs
  | [], vs, n, r => by simpa only [VRs] using r
  | a :: l, vs, n, r => by
    simp only [noSyms, Bool.and_eq_true] at n
    simp only [VRs] at r ⊢
    obtain ⟨v, l', e, q, r⟩ := r
    exact ⟨v, l', e, VR.io I J a v n.1 q, VRs.io I J l l' n.2 r⟩
end

end Go.Ab

namespace Go.Ab
variable [Io]

/-- A call that is known: nothing old turns, and it answers this. -/
def Known (P : Program) (f : FuncId) (args : List AV) (v : AV) : Prop :=
  (∀ as w, (callFunc f as).run P w = .ok (.enter f as) w) ∧ ∀ (g : G) (w : World) (vs : List Value), (∀ b, g.imm b → b < w.heap.size) → TbOk g w → VRs g w args vs →
    Calls P f vs.toArray w fun e w' => ∃ x, e = .returned x ∧ Keep w w' ∧ VR (gE fun b => g.imm b ∨ (w.heap.size ≤ b ∧ b < w'.heap.size)) w' v x

noncomputable def orc (tbl : FuncId → List AV → Option AV) (call : CallF) : CallF := fun f args h => match tbl f args with
  | some v => .ok v h
  | none => call f args h

theorem orc_ok {P : Program} {tbl : FuncId → List AV → Option AV} {call : CallF} (ht : ∀ f args v, tbl f args = some v → Known P f args v) (hc : CallOk P call) : CallOk P (orc tbl call) := by
  intro f args h v h' e
  unfold orc at e
  cases ht1 : tbl f args with
  | none => rw [ht1] at e; exact hc f args h v h' e
  | some v1 =>
    rw [ht1] at e
    cases e
    obtain ⟨k1, k2⟩ := ht f args v ht1
    refine ⟨k1, fun g w vs H hv => (k2 g w vs H.imm H.tb hv).mono ?_⟩
    rintro e w' ⟨x, rfl, K, hx⟩
    obtain ⟨g', hg'⟩ : ∃ g' : G, g' = ⟨g.m, fun b => g.imm b ∨ (w.heap.size ≤ b ∧ b < w'.heap.size)⟩ := ⟨_, rfl⟩
    have hO : ∀ b, Owned g' h b → Owned g h b := by
      rintro b ⟨id, cs, s, e, m⟩
      rw [hg'] at m
      exact ⟨id, cs, s, e, m⟩
    have M : Mono g w g' w' := ⟨fun _ _ e => by rw [hg']; exact e, fun b i => by rw [hg']; exact .inl i, fun b i => K.old b (H.imm b i), K.rows⟩
    refine ⟨x, g', rfl, ⟨K.os, K.tape, K.output, K.size, Nat.le_refl _, M.m, fun b hb _ => K.old b hb, K.rows, M.imm, fun b i => ?_, fun b o => .inl (hO b o)⟩, ⟨fun id hid => ?_, fun id cs e => ?_, fun id id' b s s' cs cs' e1 e2 m1 m2 => ?_, fun b i => ?_, TbOk.mono M H.tb⟩, ?_⟩
    · rw [hg'] at i
      rcases i with i | i
      · exact .inl i
      · exact .inr (.inr i.1)
    · rw [hg']; exact H.fresh id hid
    · obtain ⟨b, s, C, el, us, h1, h2, h3, h4, h5⟩ := H.objs id cs e
      have hb := (Array.getElem?_eq_some_iff.1 h2).1
      refine ⟨b, s, C, el, us, M.m _ _ h1, by rw [K.old b hb]; exact h2, ?_, VRs.mono' M _ _ h4, h5⟩
      rw [hg']
      rintro (i | i)
      · exact h3 i
      · omega
    · rw [hg'] at m1 m2
      exact H.inj id id' b s s' cs cs' e1 e2 m1 m2
    · rw [hg'] at i
      rcases i with i | i
      · exact Nat.lt_of_lt_of_le (H.imm b i) K.size
      · exact i.2
    · refine VR.mono' (⟨(fun _ _ e => by cases e), (fun b i => by rw [hg']; exact i), fun _ _ => rfl, fun _ => Nat.le_refl _⟩ : Mono _ _ g' w') _ _ hx

-- the ways to know one
/-- Arguments of no memory that are told outright. -/
theorem known_lit {P : Program} {call : CallF} (hc : CallOk P call) {f : FuncId} {args : List AV} {v v' : AV} {h' : Hp} {n : Nat} (e : call f args (nilH 0) = .ok v h') (hf : frz n h' v = some v')
    (ha : ∀ (g : G) (w : World) (vs : List Value), VRs g w args vs → VRs (gE g.imm) w args vs) : Known P f args v' :=
  ⟨(hc f args _ v h' e).1, fun g w vs hi ht hv => pureC_of hc e hf g.imm w vs hi ht (ha g w vs hv)⟩

/-- A whole number between two bounds. -/
def inR (k : IntKind) (A B : Int) (v : Value) : Prop := ∃ x, v = .int k x ∧ A ≤ x ∧ x ≤ B
noncomputable def rngB (k : IntKind) (A B : Int) : List AV → Bool
  | [.int k' n] => eqK k k' && (!(ltI n A) && !(ltI B n))
  | [.sym k' _ lo hi o] => eqK k k' && (!(ltI (Int.add lo o) A) && !(ltI B (Int.add hi o)))
  | _ => false
theorem rngB_ok {k : IntKind} {A B : Int} {args : List AV} (h : rngB k A B args = true) {g : G} {w : World} {vs : List Value} (hv : VRs g w args vs) : ∃ x, vs = [.int k x] ∧ A ≤ x ∧ x ≤ B := by
  unfold rngB at h
  split at h
  · rename_i k' n
    simp only [Bool.and_eq_true, Bool.not_eq_true', ltI_not] at h
    obtain ⟨hk, h1, h2⟩ := h
    obtain rfl := eqK_iff.1 hk
    simp only [VRs, VR] at hv
    obtain ⟨v, l, rfl, rfl, rfl⟩ := hv
    exact ⟨n, rfl, h1, h2⟩
  · rename_i k' s lo hi o
    simp only [Bool.and_eq_true, Bool.not_eq_true', ltI_not] at h
    obtain ⟨hk, h1, h2⟩ := h
    obtain rfl := eqK_iff.1 hk
    simp only [VRs, VR] at hv
    obtain ⟨v, l, rfl, ⟨rfl, h3, h4⟩, rfl⟩ := hv
    have h1' : A ≤ lo + o := h1
    have h2' : hi + o ≤ B := h2
    exact ⟨_, rfl, by omega, by omega⟩
  · cases h

end Go.Ab

namespace Go.Ab
/-- A run with one number between two bounds serves each of them. -/
theorem known_rng {P : Program} {call : CallF} (hc : ∀ J : Io, @CallOk J P call) {f : FuncId} {k : IntKind} {A B : Int} {v v' : AV} {h' : Hp} {n : Nat} (e : call f [.sym k (.var 0) A B 0] (nilH 0) = .ok v h') (hf : frz n h' v = some v') (hn : noSym v' = true)
    (I : Io) {args : List AV} (ha : rngB k A B args = true) : @Known I P f args v' := by
  refine ⟨(@hc I f _ _ v h' e).1, fun g w vs hi _ hv => ?_⟩
  obtain ⟨x, rfl, h1, h2⟩ := rngB_ok ha hv
  let J : Io := ⟨fun _ => x, []⟩
  have := @pureC_of J P call (hc J) f [.sym k (.var 0) A B 0] v v' h' n e hf g.imm w [.int k x] hi (fun _ hp => by cases hp) (by
    simp only [VRs, VR]
    exact ⟨_, [], rfl, ⟨by show _ = Value.int k (x + 0); rw [Int.add_zero], h1, h2⟩, rfl⟩)
  refine this.mono ?_
  rintro e w' ⟨y, rfl, K, hy⟩
  exact ⟨y, rfl, K, VR.io J I v' y hn hy⟩

end Go.Ab

namespace Go.Ab
variable [Io]

noncomputable def runL (l : List CdF) : CdF := List.rec cSk (fun c _ ih => cSq c ih) l

section
variable {P : Program} {call : CallF}

/-- A body's first parts, by the evaluator; what follows, by whatever serves. -/
theorem pre_ok (hc : CallOk P call) {draw : Array Oper → RgF} {nt : Nat} (hd : ∀ id ops, RgOk P nt (.region id ops true) (draw ops)) (n : Nat) (tail : Code) : ∀ (l : List Code) (g : G) (w : World) (t : Tm) (h : Hp) (a : Act) (t1 : Tm) (h1 : Hp)
    (Q : Exit → Act → World → Prop), HR g w h → TR g w nt t a.tmps → a.defers = [] → runL (l.map (cCode P draw call n nt)) t h = .norm t1 h1 → Post g w h nt t1 h1 (tail.wp P Q) → (l.foldr Code.seq tail).wp P Q a w
  | [], g, w, t, h, a, t1, h1, Q, H, T, D, e, K => by
    cases e
    exact K g w a (Ext.refl _ _ _) H T D
  | c :: l, g, w, t, h, a, t1, h1, Q, H, T, D, e, K => by
    change cSq (cCode P draw call n nt c) (runL (l.map (cCode P draw call n nt))) t h = .norm t1 h1 at e
    unfold cSq at e
    have hcd := code_ok hc hd n c g w t h a (Exit.then ((l.foldr Code.seq tail).wp P Q) Q) H T D
    cases hr : cCode P draw call n nt c t h with
    | bad => rw [hr] at e; cases e
    | ret t2 h2 => rw [hr] at e; cases e
    | exit i t2 h2 => rw [hr] at e; cases e
    | norm t2 h2 =>
      rw [hr] at e hcd
      refine wp_seq (hcd fun g2 w2 a2 E2 H2 T2 D2 => ?_)
      exact pre_ok hc hd n tail l g2 w2 t2 h2 a2 t1 h1 Q H2 T2 D2 e (Post.then E2 K)

theorem enter_tr {g : G} {w : World} {nt : Nat} (h512 : nt ≤ 512) {args : List AV} {vs : List Value} (hv : VRs g w args vs) (hl : args.length ≤ nt) :
    TR g w nt (enterT args 0 Tm.none) (vs.toArray ++ Array.replicate (nt - vs.toArray.size) undef) := by
  have hvl := hv.length
  have hsize : (vs.toArray ++ Array.replicate (nt - vs.toArray.size) undef).size = nt := by simp; omega
  exact enter_ok args vs 0 nt Tm.none _ hv (by omega) ⟨h512, hsize, fun i v hi e => by rw [Tm.at_none i hi] at e; cases e⟩ (fun j v e => by
    rw [Array.getElem?_append_left (by have := (List.getElem?_eq_some_iff.1 e).1; simpa using this)]
    simpa using e)

/-- Fewer places known. -/
theorem TR.less {g : G} {w : World} {nt : Nat} {t t' : Tm} {tmps : Array Value} (T : TR g w nt t tmps) (h : ∀ i v, i < 512 → t'.at i = some v → t.at i = some v) : TR g w nt t' tmps :=
  ⟨T.1, T.2.1, fun i v hi e => T.2.2 i v hi (h i v hi e)⟩

/-- Without rows, one starts anew. -/
theorem forget {g : G} {w : World} {h : Hp} (H : HR g w h) : HR (gE g.imm) w (nilH 0) := hr_empty H.imm H.tb
end
end Go.Ab

namespace Go.Ab

/-- A result with its rows frozen. -/
noncomputable def res (r : Ro) : Option AV := Ro.rec none (fun v h => frz 8 h v) r
theorem res_some {r : Ro} {v' : AV} (h : res r = some v') : ∃ v h', r = .ok v h' ∧ frz 8 h' v = some v' := by
  cases r with
  | bad => cases h
  | ok v h' => exact ⟨v, h', rfl, h⟩

/-- A function of one number, on a stretch of numbers. -/
def KnownR (P : Program) (f : FuncId) (k : IntKind) (A B : Int) (v : AV) : Prop :=
  (∀ as w, (callFunc f as).run P w = .ok (.enter f as) w) ∧ ∀ (I : Io) (x : Int), A ≤ x → x ≤ B → ∀ (g : G) (w : World), (∀ b, g.imm b → b < w.heap.size) → @TbOk I g w →
    Calls P f #[.int k x] w fun e w' => ∃ y, e = .returned y ∧ Keep w w' ∧ @VR I (gE fun b => g.imm b ∨ (w.heap.size ≤ b ∧ b < w'.heap.size)) w' v y

theorem KnownR.known {P : Program} {f : FuncId} {k : IntKind} {A B : Int} {v : AV} (h : KnownR P f k A B v) (I : Io) {args : List AV} (ha : rngB k A B args = true) : @Known I P f args v := by
  refine ⟨h.1, fun g w vs hi ht hv => ?_⟩
  obtain ⟨x, rfl, h1, h2⟩ := rngB_ok ha hv
  exact h.2 I x h1 h2 g w hi ht

theorem KnownR.join {P : Program} {f : FuncId} {k : IntKind} {A B C D : Int} {v : AV} (h : KnownR P f k A B v) (h2 : KnownR P f k C D v) (hc : C ≤ B + 1) : KnownR P f k A D v :=
  ⟨h.1, fun I x a b g w hi ht => if hx : x ≤ B then h.2 I x a hx g w hi ht else h2.2 I x (by omega) b g w hi ht⟩

/-- By one run with a number that is not known. -/
theorem knownR_sym {P : Program} {call : CallF} (hc : ∀ J : Io, @CallOk J P call) {f : FuncId} {k : IntKind} {A B : Int} {v : AV} (e : res (call f [.sym k (.var 0) A B 0] (nilH 0)) = some v) (hn : noSym v = true) : KnownR P f k A B v := by
  obtain ⟨v0, h', e1, e2⟩ := res_some e
  refine ⟨(@hc ⟨fun _ => 0, []⟩ f _ _ v0 h' e1).1, fun I x h1 h2 g w hi ht => ?_⟩
  let J : Io := ⟨fun _ => x, []⟩
  have := @pureC_of J P call (hc J) f [.sym k (.var 0) A B 0] v0 v h' 8 e1 e2 g.imm w [.int k x] hi (fun _ hp => by cases hp) (by
    simp only [VRs, VR]
    exact ⟨_, [], rfl, ⟨by show _ = Value.int k (x + 0); rw [Int.add_zero], h1, h2⟩, rfl⟩)
  refine this.mono ?_
  rintro e w' ⟨y, rfl, K, hy⟩
  exact ⟨y, rfl, K, VR.io J I v y hn hy⟩
/-- By one run with the number itself. -/
theorem knownR_int {P : Program} {call : CallF} (hc : ∀ J : Io, @CallOk J P call) {f : FuncId} {k : IntKind} {A : Int} {v : AV} (e : res (call f [.int k A] (nilH 0)) = some v) (hn : noSym v = true) : KnownR P f k A A v := by
  obtain ⟨v0, h', e1, e2⟩ := res_some e
  refine ⟨(@hc ⟨fun _ => 0, []⟩ f _ _ v0 h' e1).1, fun I x h1 h2 g w hi ht => ?_⟩
  obtain rfl : x = A := by omega
  have := @pureC_of I P call (hc I) f [.int k x] v0 v h' 8 e1 e2 g.imm w [.int k x] hi ht (by
    simp only [VRs, VR]
    exact ⟨_, [], rfl, rfl, rfl⟩)
  exact this

structure Row where
  k : IntKind
  A : Int
  B : Int
  v : AV
noncomputable def lookR (rows : List Row) (args : List AV) : Option AV := List.rec none (fun r _ ih => Bool.rec ih (some r.v) (rngB r.k r.A r.B args)) rows
theorem lookR_ok {P : Program} {f : FuncId} : ∀ {rows : List Row}, (∀ r ∈ rows, KnownR P f r.k r.A r.B r.v) → ∀ (I : Io) (args : List AV) (v : AV), lookR rows args = some v → @Known I P f args v
  | [], _, I, args, v, e => by cases e
  | r :: rows, h, I, args, v, e => by
    change (Bool.rec (lookR rows args) (some r.v) (rngB r.k r.A r.B args) : Option AV) = some v at e
    cases hb : rngB r.k r.A r.B args with
    | true =>
      rw [hb] at e
      cases e
      exact (h r List.mem_cons_self).known I hb
    | false =>
      rw [hb] at e
      exact lookR_ok (fun r hr => h r (List.mem_cons_of_mem _ hr)) I args v e

/-- A function without arguments. -/
noncomputable def look0 (v : AV) (args : List AV) : Option AV := List.rec (some v) (fun _ _ _ => none) args
theorem look0_ok {P : Program} {call : CallF} (hc : ∀ J : Io, @CallOk J P call) {f : FuncId} {v0 : AV} (e : res (call f [] (nilH 0)) = some v0) (I : Io) (args : List AV) (v : AV) (h : look0 v0 args = some v) : @Known I P f args v := by
  cases args with
  | cons a l => cases h
  | nil =>
    cases h
    obtain ⟨v1, h', e1, e2⟩ := res_some e
    exact @known_lit I P call (hc I) f [] v1 v0 h' 8 e1 e2 (fun g w vs h => by simpa only [VRs] using h)

/-- The tables, by function. -/
noncomputable def lookF (tbl : List (FuncId × (List AV → Option AV))) (f : FuncId) (args : List AV) : Option AV :=
  List.rec none (fun p _ ih => Bool.rec ih (p.2 args) (Nat.beq p.1 f)) tbl
theorem lookF_ok {P : Program} : ∀ {tbl : List (FuncId × (List AV → Option AV))}, (∀ p ∈ tbl, ∀ (I : Io) (args : List AV) (v : AV), p.2 args = some v → @Known I P p.1 args v) →
    ∀ (I : Io) (f : FuncId) (args : List AV) (v : AV), lookF tbl f args = some v → @Known I P f args v
  | [], _, I, f, args, v, e => by cases e
  | p :: tbl, h, I, f, args, v, e => by
    change (Bool.rec (lookF tbl f args) (p.2 args) (Nat.beq p.1 f) : Option AV) = some v at e
    cases hb : Nat.beq p.1 f with
    | true =>
      rw [hb] at e
      obtain rfl := Nat.eq_of_beq_eq_true hb
      exact h p List.mem_cons_self I args v e
    | false =>
      rw [hb] at e
      exact lookF_ok (fun q hq => h q (List.mem_cons_of_mem _ hq)) I f args v e

end Go.Ab

namespace Go.Ab

/-- The law's answer. -/
noncomputable def isT (r : Ro) : Bool := match r with
  | .ok (.bool b) _ => b
  | _ => false
theorem isT_ok {r : Ro} (h : isT r = true) : ∃ h', r = .ok (.bool true) h' := by
  unfold isT at h
  split at h
  · subst h; exact ⟨_, rfl⟩
  · cases h

theorem Keep.below {w w' : World} (K : Keep w w') : Go.RowKit.Below w.heap.size w w' := ⟨K.os, K.tape, K.output, K.size, K.old⟩

/-- A law that the evaluator finds true: it is true, and turns nothing. -/
theorem law_ok [Io] {P : Program} {call : CallF} (hc : CallOk P call) {f : FuncId} {args : List AV} {vs : List Value} (e : isT (call f args (nilH 0)) = true) (w : World) {imm : Nat → Prop} (hi : ∀ b, imm b → b < w.heap.size) (ht : TbOk (gE imm) w) (hv : VRs (gE imm) w args vs) :
    Calls P f vs.toArray w fun e w' => e = .returned (.bool true) ∧ Go.RowKit.Below w.heap.size w w' := by
  obtain ⟨h', e'⟩ := isT_ok e
  refine ((hc f args (nilH 0) _ h' e').2 (gE imm) w vs (hr_empty hi ht) hv).mono ?_
  rintro e w' ⟨x, g', rfl, E, H', hx⟩
  simp only [VR] at hx
  subst hx
  exact ⟨rfl, (keep_of E).below⟩

/-- A whole number of 64 bits. -/
theorem i64_wf {n : Int} (h : (Lit.int .i64 n).wf = true) : -9223372036854775808 ≤ n ∧ n ≤ 9223372036854775807 := by
  simp [Lit.wf, IntKind.min, IntKind.max, IntKind.bits, IntKind.signed] at h
  omega
theorem u64_wf {n : Int} (h : (Lit.int .u64 n).wf = true) : 0 ≤ n ∧ n ≤ 18446744073709551615 := by
  simp [Lit.wf, IntKind.min, IntKind.max, IntKind.bits, IntKind.signed] at h
  omega
/-- A table that is known row by row. -/
def KR (P : Program) (f : FuncId) (l : List Row) : Prop := ∀ r ∈ l, KnownR P f r.k r.A r.B r.v
theorem KR.nil {P : Program} {f : FuncId} : KR P f [] := fun _ h => by cases h
theorem KR.cons {P : Program} {f : FuncId} {k : IntKind} {A B : Int} {v : AV} {l : List Row} (h : KnownR P f k A B v) (t : KR P f l) : KR P f (⟨k, A, B, v⟩ :: l) := by
  intro r hr
  cases hr with
  | head => exact h
  | tail _ hr => exact t r hr
end Go.Ab

namespace Go.Ab
variable [Io]
section
variable {P : Program}

/-- One call, its own calls by c. -/
noncomputable def aStep (fn : FuncId → Option Fb) (n : Nat) (c : CallF) : CallF := fun f args h => match fn f with
  | none => .bad
  | some b => ifb (Nat.ble (len args) b.ntmps) (match b.body c n (enterT args 0 Tm.none) h with
    | .norm t h => fin b.res t h
    | .ret t h => fin b.res t h
    | _ => .bad) .bad
/-- Calls, a table of known ones laid ahead of each. -/
noncomputable def oCall (fn : FuncId → Option Fb) (tbl : FuncId → List AV → Option AV) (n : Nat) (d : Nat) : CallF :=
  Nat.rec (fun _ _ _ => .bad) (fun _ ih => aStep fn n (orc tbl ih)) d

theorem aStep_ok {draw : CallF → Nat → Array Oper → RgF} (hd : DrawOk P draw) {fn : FuncId → Option Fb} (hf : ∀ f b, fn f = some b → FbOk P draw f b) (n : Nat) {c : CallF} (hc : CallOk P c) : CallOk P (aStep fn n c) := by
  intro f args h v h' e
  change (match fn f with
    | none => Ro.bad
    | some b => ifb (Nat.ble (len args) b.ntmps) (match b.body (c) n (enterT args 0 Tm.none) h with | .norm t h => fin b.res t h | .ret t h => fin b.res t h | _ => .bad) .bad) = .ok v h' at e
  cases hb : fn f with
  | none => rw [hb] at e; cases e
  | some b =>
  rw [hb] at e
  simp only at e
  cases hle : Nat.ble (len args) b.ntmps with
  | false => rw [hle] at e; cases e
  | true =>
  rw [hle] at e
  change (match b.body (c) n (enterT args 0 Tm.none) h with | .norm t h => fin b.res t h | .ret t h => fin b.res t h | _ => .bad) = Ro.ok v h' at e
  rw [len_eq] at hle
  have hle' : args.length ≤ b.ntmps := Nat.ble_eq.mp hle
  have F0 := hf f b hb
  obtain ⟨F, cd, hF, hcb, hnt, h512, hres, hbody⟩ := F0.ex
  refine ⟨F0.enter, fun g w vs H hv => ?_⟩
  rw [hbody] at e
  have hcode := code_ok hc (draw := draw (c) b.ntmps) (nt := b.ntmps) (fun id ops => hd _ _ hc id ops) n cd
  have hvl := hv.length
  have hsize : (vs.toArray ++ Array.replicate (F.ntmps - vs.toArray.size) undef).size = b.ntmps := by simp; omega
  have hT0 : TR g w b.ntmps Tm.none (vs.toArray ++ Array.replicate (F.ntmps - vs.toArray.size) undef) :=
    ⟨h512, hsize, fun i v hi e => by rw [Tm.at_none i hi] at e; cases e⟩
  have hT := enter_ok args vs 0 b.ntmps Tm.none _ hv (by omega) hT0 (fun j v e => by
    rw [Array.getElem?_append_left (by have := (List.getElem?_eq_some_iff.1 e).1; simpa using this)]
    simpa using e)
  refine calls_of_wp hF hcb ?_
  have := hcode g w _ h { tmps := vs.toArray ++ Array.replicate (F.ntmps - vs.toArray.size) undef, defers := [] }
    (bodyPost P F (fun e w' => ∃ x g', e = .returned x ∧ Ext g w h g' w' h' ∧ HR g' w' h' ∧ VR g' w' v x)) H hT rfl
  have fin' : ∀ t1 h1, fin b.res t1 h1 = .ok v h' → ∀ g' w' (a' : Act), Ext g w h g' w' h1 → HR g' w' h1 → TR g' w' b.ntmps t1 a'.tmps → a'.defers = [] →
      a'.defers = [] ∧ ∃ x, (results F a'.tmps).run P w' = .ok x w' ∧ ∃ y g', Ending.returned x = .returned y ∧ Ext g w h g' w' h' ∧ HR g' w' h' ∧ VR g' w' v y := by
    intro t1 h1 hfin g' w' a' E' H' T' D'
    obtain ⟨rfl, x, hx, hxv⟩ := fin_ok H' T' hres hfin
    exact ⟨D', x, hx, x, g', rfl, E', H', hxv⟩
  simp only at e
  cases hr : cCode P (draw (c) b.ntmps) (c) n b.ntmps cd (enterT args 0 Tm.none) h with
  | bad => rw [hr] at e; cases e
  | norm t1 h1 => rw [hr] at e this; exact this (fin' t1 h1 e)
  | ret t1 h1 => rw [hr] at e this; exact this (fin' t1 h1 e)
  | exit i t1 h1 => rw [hr] at e; cases e

theorem oCall_ok {draw : CallF → Nat → Array Oper → RgF} (hd : DrawOk P draw) {fn : FuncId → Option Fb} (hf : ∀ f b, fn f = some b → FbOk P draw f b) {tbl : FuncId → List AV → Option AV}
    (ht : ∀ f args v, tbl f args = some v → Known P f args v) (n : Nat) : ∀ d, CallOk P (oCall fn tbl n d)
  | 0 => by intro f args h v h' e; cases e
  | d + 1 => aStep_ok hd hf n (orc_ok ht (oCall_ok hd hf ht n d))
end
end Go.Ab

namespace Go.Ab
open Go.ChangeShapes Go.WideShapes Go.ChangeAt Go.RowKit Go.Deep Go.Joins

theorem array6 {α : Type} {cs : Array α} (h : cs.size = 6) : ∃ c0 c1 c2 c3 c4 c5, cs = #[c0, c1, c2, c3, c4, c5] := by
  obtain ⟨l⟩ := cs
  match l, h with
  | [c0, c1, c2, c3, c4, c5], _ => exact ⟨c0, c1, c2, c3, c4, c5, rfl⟩

/-- An instruction that came in: three whole numbers, two without sign, a slice. -/
theorem open_instr {H : Type} {enc : TypeId × Value → H} {P : Program} {w : World} {base : Nat} {spare : Nat → Bool} {held : Bool} {r : Reach} {b0 : Nat} {t : TypeId} {f0 f1 f2 f3 f4 f5 : Field} {v : Value} {d : DataW H} {p : List MemPlace}
    (hs : P.underlying t = some (.struct #[f0, f1, f2, f3, f4, f5])) (hone : oneCellFields P #[f0, f1, f2, f3, f4, f5] = true) (hC : P.cellsOf t = 6)
    (u0 : P.underlying f0.type = some (.int .i64)) (u1 : P.underlying f1.type = some (.int .i64)) (u2 : P.underlying f2.type = some (.int .i64)) (u3 : P.underlying f3.type = some (.int .u64)) (u4 : P.underlying f4.type = some (.int .u64))
    {e : TypeId} (u5 : P.underlying f5.type = some (.slice e))
    (hv : Value.okWide P w r b0 t v) (h : DataW.Trod enc P w base spare held t v d p) :
    ∃ (op a b lo hi : Int) (x : Option Addr) (l c : Nat), v = .agg #[.int .i64 op, .int .i64 a, .int .i64 b, .int .u64 lo, .int .u64 hi, .slice x l c] ∧ (Lit.int .i64 op).wf = true ∧ (Lit.int .i64 a).wf = true ∧ (Lit.int .i64 b).wf = true ∧
      (Lit.int .u64 lo).wf = true ∧ (Lit.int .u64 hi).wf = true := by
  obtain ⟨cs, rfl, hsz⟩ := okWide_struct hs hv
  obtain ⟨c0, c1, c2, c3, c4, c5, rfl⟩ := array6 (hsz.trans hC)
  obtain ⟨fuel, hf⟩ := h
  obtain ⟨xs, n, _, _, _, hlen, hg⟩ := DataW.trod_struct hs hf
  match xs, hlen with
  | [y0, y1, y2, y3, y4, y5], _ =>
    have g0 := hg 0 f0 rfl
    have g1 := hg 1 f1 rfl
    have g2 := hg 2 f2 rfl
    have g3 := hg 3 f3 rfl
    have g4 := hg 4 f4 rfl
    have g5 := hg 5 f5 rfl
    obtain ⟨o0, k0⟩ := hone_of hone 0 f0 rfl
    obtain ⟨o1, k1⟩ := hone_of hone 1 f1 rfl
    obtain ⟨o2, k2⟩ := hone_of hone 2 f2 rfl
    obtain ⟨o3, k3⟩ := hone_of hone 3 f3 rfl
    obtain ⟨o4, k4⟩ := hone_of hone 4 f4 rfl
    obtain ⟨o5, k5⟩ := hone_of hone 5 f5 rfl
    simp only [Value.cells, o0, k0, List.drop_zero, List.take_succ_cons, List.take_zero] at g0
    simp only [Value.cells, o1, k1, List.drop_succ_cons, List.drop_zero, List.take_succ_cons, List.take_zero] at g1
    simp only [Value.cells, o2, k2, List.drop_succ_cons, List.drop_zero, List.take_succ_cons, List.take_zero] at g2
    simp only [Value.cells, o3, k3, List.drop_succ_cons, List.drop_zero, List.take_succ_cons, List.take_zero] at g3
    simp only [Value.cells, o4, k4, List.drop_succ_cons, List.drop_zero, List.take_succ_cons, List.take_zero] at g4
    simp only [Value.cells, o5, k5, List.drop_succ_cons, List.drop_zero, List.take_succ_cons, List.take_zero] at g5
    obtain ⟨n0, e0, _, w0⟩ := DataW.trod_int u0 g0
    obtain ⟨n1, e1, _, w1⟩ := DataW.trod_int u1 g1
    obtain ⟨n2, e2, _, w2⟩ := DataW.trod_int u2 g2
    obtain ⟨n3, e3, _, w3⟩ := DataW.trod_int u3 g3
    obtain ⟨n4, e4, _, w4⟩ := DataW.trod_int u4 g4
    obtain ⟨x, l, c, e5⟩ := slice_form u5 g5
    simp only [List.cons.injEq, and_true] at e0 e1 e2 e3 e4 e5
    subst e0; subst e1; subst e2; subst e3; subst e4; subst e5
    exact ⟨n0, n1, n2, n3, n4, x, l, c, rfl, w0, w1, w2, w3, w4⟩
end Go.Ab

namespace Go.Ab
variable [Io]

-- stores, held against each other
noncomputable def eqTrA : Tr AV → Tr AV → Bool
  | .nil, .nil => true
  | .node l (some v) r, .node l' (some v') r' => eqA v v' && (eqTrA l l' && eqTrA r r')
  | .node l none r, .node l' none r' => eqTrA l l' && eqTrA r r'
  | _, _ => false
omit [Io] in
theorem eqTrA_iff : ∀ (a b : Tr AV), eqTrA a b = true → a = b
  | .nil, .nil, _ => rfl
  | .node l (some v) r, .node l' (some v') r', h => by
    simp only [eqTrA, Bool.and_eq_true] at h
    rw [eqA_iff _ _ h.1, eqTrA_iff _ _ h.2.1, eqTrA_iff _ _ h.2.2]
  | .node l none r, .node l' none r', h => by
    simp only [eqTrA, Bool.and_eq_true] at h
    rw [eqTrA_iff _ _ h.1, eqTrA_iff _ _ h.2]
  | .nil, .node _ _ _, h => by cases h
  | .node _ (some _) _, .nil, h => by cases h
  | .node _ none _, .nil, h => by cases h
  | .node _ (some _) _, .node _ none _, h => by cases h
  | .node _ none _, .node _ (some _) _, h => by cases h
noncomputable def eqRw (a b : Rw) : Bool := Nat.beq a.n b.n && (eqAs a.d b.d && eqTrA a.t b.t)
omit [Io] in
theorem eqRw_iff {a b : Rw} (h : eqRw a b = true) : a = b := by
  cases a; cases b
  simp only [eqRw, Bool.and_eq_true] at h
  rw [Nat.eq_of_beq_eq_true h.1, eqAs_iff _ _ h.2.1, eqTrA_iff _ _ h.2.2]
noncomputable def eqTr : Tr Rw → Tr Rw → Bool
  | .nil, .nil => true
  | .node l (some v) r, .node l' (some v') r' => eqRw v v' && (eqTr l l' && eqTr r r')
  | .node l none r, .node l' none r' => eqTr l l' && eqTr r r'
  | _, _ => false
omit [Io] in
theorem eqTr_iff : ∀ (a b : Tr Rw), eqTr a b = true → a = b
  | .nil, .nil, _ => rfl
  | .node l (some v) r, .node l' (some v') r', h => by
    simp only [eqTr, Bool.and_eq_true] at h
    rw [eqRw_iff h.1, eqTr_iff _ _ h.2.1, eqTr_iff _ _ h.2.2]
  | .node l none r, .node l' none r', h => by
    simp only [eqTr, Bool.and_eq_true] at h
    rw [eqTr_iff _ _ h.1, eqTr_iff _ _ h.2]
  | .nil, .node _ _ _, h => by cases h
  | .node _ (some _) _, .nil, h => by cases h
  | .node _ none _, .nil, h => by cases h
  | .node _ (some _) _, .node _ none _, h => by cases h
  | .node _ none _, .node _ (some _) _, h => by cases h
noncomputable def eqHp (a b : Hp) : Bool := Nat.beq a.next b.next && eqTr a.objs b.objs
omit [Io] in
theorem eqHp_iff {a b : Hp} (h : eqHp a b = true) : a = b := by
  cases a; cases b
  simp only [eqHp, Bool.and_eq_true] at h
  rw [Nat.eq_of_beq_eq_true h.1, eqTr_iff _ _ h.2]

/-- One call, out of one store. -/
def CallSt (P : Program) (f : FuncId) (args : List AV) (h : Hp) (v : AV) (h' : Hp) : Prop :=
  (∀ as w, (callFunc f as).run P w = .ok (.enter f as) w) ∧ ∀ (g : G) (w : World) (vs : List Value), HR g w h → VRs g w args vs →
    Calls P f vs.toArray w fun e w' => ∃ x g', e = .returned x ∧ Ext g w h g' w' h' ∧ HR g' w' h' ∧ VR g' w' v x

/-- That one call laid ahead of the others. -/
noncomputable def orAt (f0 : FuncId) (A : List AV) (H : Hp) (v : AV) (h1 : Hp) (call : CallF) : CallF := fun f args h =>
  bif Nat.beq f f0 && (eqAs args A && eqHp h H) then .ok v h1 else call f args h
theorem orAt_ok {P : Program} {f0 : FuncId} {A : List AV} {H : Hp} {v : AV} {h1 : Hp} {call : CallF} (hs : CallSt P f0 A H v h1) (hc : CallOk P call) : CallOk P (orAt f0 A H v h1 call) := by
  intro f args h v' h' e
  unfold orAt at e
  cases hb : (Nat.beq f f0 && (eqAs args A && eqHp h H)) with
  | false => rw [hb] at e; exact hc f args h v' h' e
  | true =>
    rw [hb] at e
    simp only [Bool.and_eq_true] at hb
    obtain rfl := Nat.eq_of_beq_eq_true hb.1
    obtain rfl := eqAs_iff _ _ hb.2.1
    obtain rfl := eqHp_iff hb.2.2
    cases e
    exact hs

/-- Fewer rows, and less known of them. -/
theorem hr_sub {g : G} {w : World} {h h' : Hp} (H : HR g w h) (hn : h'.next = h.next) (ho : ∀ id cs, h'.objs.get id = some cs → ∃ cs', h.objs.get id = some cs' ∧ ∀ vs, VRs g w cs'.toL vs → VRs g w cs.toL vs) :
    Ext g w h g w h' ∧ HR g w h' := by
  refine ⟨⟨rfl, rfl, rfl, Nat.le_refl _, by rw [hn]; exact Nat.le_refl _, fun _ _ e => e, fun _ _ _ => rfl, fun _ => Nat.le_refl _, fun _ i => i, fun _ i => .inl i, ?_⟩, ?_, ?_, ?_, H.imm, H.tb⟩
  · rintro b ⟨i, cs, s, e, m⟩
    obtain ⟨cs', e', _⟩ := ho i cs e
    exact .inl ⟨i, cs', s, e', m⟩
  · intro id hid
    exact H.fresh id (by rw [← hn]; exact hid)
  · intro i cs e
    obtain ⟨cs', e', k⟩ := ho i cs e
    obtain ⟨b, s, C, el, vs, hm, hw, hi, hv, hc⟩ := H.objs i cs' e'
    exact ⟨b, s, C, el, vs, hm, hw, hi, k vs hv, hc⟩
  · intro i i' b s s' c1 c2 e1 e2 m1 m2
    obtain ⟨c1', e1', _⟩ := ho i c1 e1
    obtain ⟨c2', e2', _⟩ := ho i' c2 e2
    exact H.inj i i' b s s' c1' c2' e1' e2' m1 m2

/-- A call that answers a slice of its own, two things beside it, and turns nothing old. -/
def KnownN (P : Program) (f : FuncId) (args : List AV) (n sz : Nat) (cs : List AV) (x y : AV) : Prop :=
  (∀ as w, (callFunc f as).run P w = .ok (.enter f as) w) ∧ ∀ (g : G) (w : World) (vs : List Value), (∀ b, g.imm b → b < w.heap.size) → TbOk g w → VRs g w args vs →
    Calls P f vs.toArray w fun e w' => ∃ b s cap C, ∃ el : FT C, ∃ us u v, e = .returned (.tuple #[.slice (some ⟨b, s, none⟩) n cap, u, v]) ∧ Keep w w' ∧ w.heap.size ≤ b ∧ w'.heap[b]? = some (.cells C el.el el.fz) ∧
      n ≤ cap ∧ s + cap * sz ≤ C.size ∧ VRs (gE fun _ => False) w' cs us ∧ (∀ (j : Nat) (v : Value), us[j]? = some v → C[s + j]? = some v) ∧ VR (gE fun _ => False) w' x u ∧ VR (gE fun _ => False) w' y v

noncomputable def orN (f0 : FuncId) (A : List AV) (n sz : Nat) (cs : List AV) (x y : AV) (call : CallF) : CallF := fun f args h =>
  bif Nat.beq f f0 && eqAs args A then .ok (.tup [.hsl h.next 0 n sz, x, y]) (newO h (ofL cs)) else call f args h

omit [Io] in
theorem gE_mono {imm imm' : Nat → Prop} {g : G} {w : World} (h : ∀ b, imm b → g.imm b) : Mono (gE imm) w g w :=
  ⟨(fun _ _ e => by cases e), h, fun _ _ => rfl, fun _ => Nat.le_refl _⟩

theorem orN_ok {P : Program} {f0 : FuncId} {A : List AV} {n sz : Nat} {cs : List AV} {x y : AV} {call : CallF} (hs : KnownN P f0 A n sz cs x y) (hc : CallOk P call) : CallOk P (orN f0 A n sz cs x y call) := by
  intro f args h v' h' e
  unfold orN at e
  cases hb : (Nat.beq f f0 && eqAs args A) with
  | false => rw [hb] at e; exact hc f args h v' h' e
  | true =>
    rw [hb] at e
    simp only [Bool.and_eq_true] at hb
    obtain rfl := Nat.eq_of_beq_eq_true hb.1
    obtain rfl := eqAs_iff _ _ hb.2
    cases e
    obtain ⟨k1, k2⟩ := hs
    refine ⟨k1, fun g w vs H hv => (k2 g w vs H.imm H.tb hv).mono ?_⟩
    rintro e w' ⟨b, s, cap, C, el, us, u, v, rfl, K, hb, hw, hle, hsz, hcs, hC, hx, hy⟩
    obtain ⟨g', hg'⟩ : ∃ g' : G, g' = ⟨fun i => if i = h.next then some (b, s) else g.m i, g.imm⟩ := ⟨_, rfl⟩
    have hget : ∀ id, (newO h (ofL cs)).objs.get id = if id = h.next then some (ofL cs) else h.objs.get id := fun id => Tr.get_set _ _ _ _
    have hm : ∀ id, g'.m id = if id = h.next then some (b, s) else g.m id := fun id => by rw [hg']
    have hi : g'.imm = g.imm := by rw [hg']
    have M : Mono g w g' w' := ⟨(fun id p e => by
        rw [hm, if_neg]
        · exact e
        · rintro rfl; rw [H.fresh _ (Nat.le_refl _)] at e; cases e), (fun b i => by rw [hi]; exact i), fun b i => K.old b (H.imm b i), K.rows⟩
    have lift : ∀ (a : AV) (z : Value), VR (gE fun _ => False) w' a z → VR g' w' a z := fun a z r => VR.mono' (gE_mono (imm' := g'.imm) fun b i => i.elim) a z r
    have hnb : ∀ id cs0, h.objs.get id = some cs0 → id ≠ h.next := by
      intro id cs0 e he
      obtain ⟨b0, s0, _, _, _, m0, _⟩ := H.objs id cs0 e
      rw [H.fresh id (by omega)] at m0
      cases m0
    have hblk : ∀ id cs0 b0 s0, h.objs.get id = some cs0 → g.m id = some (b0, s0) → b0 < w.heap.size := by
      intro id cs0 b0 s0 e m
      obtain ⟨_, _, _, hw0, _⟩ := H.row e m
      exact (Array.getElem?_eq_some_iff.1 hw0).1
    refine ⟨_, g', rfl, ⟨K.os, K.tape, K.output, K.size, Nat.le_succ _, M.m, fun b hb _ => K.old b hb, K.rows, M.imm, fun b i => .inl (by rw [hi] at i; exact i), ?_⟩, ⟨?_, ?_, ?_, ?_, TbOk.mono M H.tb⟩, ?_⟩
    · rintro b1 ⟨id, cs1, s1, e1, m1⟩
      rw [hget] at e1
      rw [hm] at m1
      by_cases hid : id = h.next
      · rw [if_pos hid] at m1
        obtain ⟨rfl, _⟩ := Prod.mk.inj (Option.some.inj m1)
        exact .inr hb
      · rw [if_neg hid] at e1 m1
        exact .inl ⟨id, cs1, s1, e1, m1⟩
    · intro id hid
      have hid' : h.next + 1 ≤ id := hid
      rw [hm, if_neg (by omega)]
      exact H.fresh id (by omega)
    · intro id cs1 e1
      rw [hget] at e1
      by_cases hid : id = h.next
      · rw [if_pos hid] at e1
        obtain rfl := Option.some.inj e1
        refine ⟨b, s, C, el, us, by rw [hm, if_pos hid], hw, ?_, by rw [toL_ofL]; exact VRs.mono' (gE_mono (imm' := g'.imm) fun b i => i.elim) _ _ hcs, hC⟩
        rw [hi]
        intro i
        exact absurd (H.imm b i) (by omega)
      · rw [if_neg hid] at e1
        obtain ⟨b1, s1, C1, el1, us1, m1, w1, i1, v1, c1⟩ := H.objs id cs1 e1
        exact ⟨b1, s1, C1, el1, us1, by rw [hm, if_neg hid]; exact m1, by rw [K.old b1 ((Array.getElem?_eq_some_iff.1 w1).1)]; exact w1, by rw [hi]; exact i1, VRs.mono' M _ _ v1, c1⟩
    · intro id id' b1 s1 s2 c1 c2 e1 e2 m1 m2
      rw [hget] at e1 e2
      rw [hm] at m1 m2
      by_cases h1 : id = h.next <;> by_cases h2 : id' = h.next
      · exact h1.trans h2.symm
      · rw [if_pos h1] at m1
        rw [if_neg h2] at m2 e2
        obtain ⟨rfl, _⟩ := Prod.mk.inj (Option.some.inj m1)
        have := hblk _ _ _ _ e2 m2
        omega
      · rw [if_pos h2] at m2
        rw [if_neg h1] at m1 e1
        obtain ⟨rfl, _⟩ := Prod.mk.inj (Option.some.inj m2)
        have := hblk _ _ _ _ e1 m1
        omega
      · rw [if_neg h1] at m1 e1
        rw [if_neg h2] at m2 e2
        exact H.inj id id' b1 s1 s2 c1 c2 e1 e2 m1 m2
    · intro b1 i
      rw [hi] at i
      exact Nat.lt_of_lt_of_le (H.imm b1 i) K.size
    · simp only [VR, VRs]
      refine ⟨_, rfl, _, _, rfl, .inr ⟨b, s, cap, by rw [hm, if_pos rfl], rfl, hle, ?_⟩, _, _, rfl, lift _ _ hx, _, _, rfl, lift _ _ hy, rfl⟩
      rw [rowSize_row hw]
      omega

/-- Out of a run from nothing. -/
theorem knownN_of {P : Program} {f : FuncId} {args : List AV} {n sz : Nat} {cs : List AV} {x y : AV} {id : Nat} {h1 : Hp} {row : Rw} (hp : 0 < n) (hs : CallSt P f args (nilH 0) (.tup [.hsl id 0 n sz, x, y]) h1) (hr : h1.objs.get id = some row) (hrow : row.toL = cs)
    (hf : ∀ (g : G) (w : World) vs, VRs g w cs vs → VRs (gE fun _ => False) w cs vs) (hx : ∀ (g : G) (w : World) v, VR g w x v → VR (gE fun _ => False) w x v) (hy : ∀ (g : G) (w : World) v, VR g w y v → VR (gE fun _ => False) w y v)
    (ha : ∀ (g : G) (w : World) (vs : List Value), VRs g w args vs → VRs (gE g.imm) w args vs) : KnownN P f args n sz cs x y := by
  refine ⟨hs.1, fun g w vs hi ht hv => ((hs.2 (gE g.imm) w vs (hr_empty hi ht) (ha g w vs hv))).mono ?_⟩
  rintro e w' ⟨z, g', rfl, E, H', hz⟩
  simp only [VR, VRs] at hz
  obtain ⟨us0, rfl, v0, l0, e0, hv0, v1, l1, rfl, hv1, v2, l2, rfl, hv2, rfl⟩ := hz
  rcases hv0 with ⟨h0, _⟩ | ⟨b, s, cap, hm, rfl, hle, hcap⟩
  · omega
  · obtain ⟨C, el, us, hw, _, hus, hC⟩ := H'.row hr hm
    rw [rowSize_row hw] at hcap
    have hb : w.heap.size ≤ b := by
      rcases E.own' b ⟨id, row, s, hr, hm⟩ with ⟨i, c, s', e, _⟩ | hb
      · cases e
      · exact hb
    have : us0 = #[.slice (some ⟨b, s + 0, none⟩) n cap, v1, v2] := by rw [← Array.toArray_toList (xs := us0), e0]
    subst this
    exact ⟨b, s, cap, C, el, us, v1, v2, rfl, keep_of E, hb, hw, hle, by omega, hf _ _ _ (by rw [← hrow]; exact hus), hC, hx _ _ _ hv1, hy _ _ _ hv2⟩
end Go.Ab

namespace Go.Ab
variable [Io]
section
variable {P : Program}
/-- Calls, whatever is known laid ahead of each. -/
noncomputable def gCall (fn : FuncId → Option Fb) (wr : CallF → CallF) (n : Nat) (d : Nat) : CallF := Nat.rec (fun _ _ _ => .bad) (fun _ ih => aStep fn n (wr ih)) d
theorem gCall_ok {draw : CallF → Nat → Array Oper → RgF} (hd : DrawOk P draw) {fn : FuncId → Option Fb} (hf : ∀ f b, fn f = some b → FbOk P draw f b) {wr : CallF → CallF}
    (hw : ∀ c, CallOk P c → CallOk P (wr c)) (n : Nat) : ∀ d, CallOk P (gCall fn wr n d)
  | 0 => by intro f args h v h' e; cases e
  | d + 1 => aStep_ok hd hf n (hw _ (gCall_ok hd hf hw n d))
theorem KnownN.arg {f : FuncId} {A A' : List AV} {n sz : Nat} {cs : List AV} {x y : AV} (h : KnownN P f A n sz cs x y) (ha : ∀ (g : G) (w : World) (vs : List Value), VRs g w A' vs → VRs g w A vs) : KnownN P f A' n sz cs x y :=
  ⟨h.1, fun g w vs hi ht hv => h.2 g w vs hi ht (ha g w vs hv)⟩
theorem VRs.split {g : G} {w : World} : ∀ {l r : List AV} {vs : List Value}, VRs g w (l ++ r) vs → ∃ us ts, vs = us ++ ts ∧ VRs g w l us ∧ VRs g w r ts
  | [], r, vs, h => ⟨[], vs, rfl, by simp [VRs], h⟩
  | a :: l, r, vs, h => by
    simp only [List.cons_append, VRs] at h
    obtain ⟨v, l', rfl, q, p⟩ := h
    obtain ⟨us, ts, rfl, h1, h2⟩ := VRs.split p
    refine ⟨v :: us, ts, rfl, ?_, h2⟩
    simp only [VRs]
    exact ⟨v, us, rfl, q, h1⟩
/-- Another one in a place. -/
theorem VRs.put1 {g : G} {w : World} {l : List AV} {vs : List Value} {j : Nat} {a b : AV} (h : VRs g w l vs) (e : l[j]? = some a) (hi : ∀ v, VR g w a v → VR g w b v) : VRs g w (put l j [b]) vs := by
  rw [put_eq]
  have hl : l = l.take j ++ (a :: l.drop (j + 1)) := by
    have h1 := List.take_append_drop j l
    rw [List.drop_eq_getElem_cons ((List.getElem?_eq_some_iff.1 e).1), (List.getElem?_eq_some_iff.1 e).2] at h1
    exact h1.symm
  rw [hl] at h
  obtain ⟨us, ts, rfl, h1, h2⟩ := h.split
  refine VRs.append h1 ?_
  simp only [VRs] at h2
  obtain ⟨v, r, rfl, q, p⟩ := h2
  simp only [List.cons_append, List.nil_append, VRs, List.length_cons, List.length_nil, Nat.zero_add]
  exact ⟨v, r, rfl, hi v q, p⟩
theorem VRs.unput1 {g : G} {w : World} {l : List AV} {vs : List Value} {j : Nat} {a b : AV} (h : VRs g w (put l j [b]) vs) (e : l[j]? = some a) (hi : ∀ v, VR g w b v → VR g w a v) : VRs g w l vs := by
  rw [put_eq] at h
  have hl : l = l.take j ++ (a :: l.drop (j + 1)) := by
    have h1 := List.take_append_drop j l
    rw [List.drop_eq_getElem_cons ((List.getElem?_eq_some_iff.1 e).1), (List.getElem?_eq_some_iff.1 e).2] at h1
    exact h1.symm
  rw [hl]
  obtain ⟨us, ts, rfl, h1, h2⟩ := h.split
  refine VRs.append h1 ?_
  simp only [List.cons_append, List.nil_append, VRs, List.length_cons, List.length_nil, Nat.zero_add] at h2
  obtain ⟨v, r, rfl, q, p⟩ := h2
  simp only [VRs]
  exact ⟨v, r, rfl, hi v q, p⟩
end
end Go.Ab

namespace Go.Ab
variable [Io]
/-- The tables, by function, for these numbers. -/
theorem lookF_ok1 {P : Program} : ∀ {tbl : List (FuncId × (List AV → Option AV))}, (∀ p ∈ tbl, ∀ (args : List AV) (v : AV), p.2 args = some v → Known P p.1 args v) → ∀ (f : FuncId) (args : List AV) (v : AV), lookF tbl f args = some v → Known P f args v
  | [], _, f, args, v, e => by cases e
  | p :: tbl, h, f, args, v, e => by
    change (Bool.rec (lookF tbl f args) (p.2 args) (Nat.beq p.1 f) : Option AV) = some v at e
    cases hb : Nat.beq p.1 f with
    | true =>
      rw [hb] at e
      obtain rfl := Nat.eq_of_beq_eq_true hb
      exact h p List.mem_cons_self args v e
    | false =>
      rw [hb] at e
      exact lookF_ok1 (fun q hq => h q (List.mem_cons_of_mem _ hq)) f args v e
end Go.Ab

namespace Go.Ab
variable [Io]

-- results of new memory alone
noncomputable def frzF (n : Nat) : Hp → AV → Option AV :=
  Nat.rec (fun _ _ => none) (fun _ ih h a => match a with
    | .hsl id off n sz => match h.objs.get id with
      | some cs => match cs.seg off (Nat.mul n sz) with
        | some l => match mapA (ih h) l with
          | some l => some (.isl n l)
          | none => none
        | none => none
      | none => none
    | .ref id off => match h.objs.get id with
      | some cs => match cs.seg off (Nat.sub cs.n off) with
        | some l => match mapA (ih h) l with
          | some l => some (.iptr l)
          | none => none
        | none => none
      | none => none
    | .agg l => match mapA (ih h) l with
      | some l => some (.agg l)
      | none => none
    | .tup l => match mapA (ih h) l with
      | some l => some (.tup l)
      | none => none
    | .fn f l => match mapA (ih h) l with
      | some l => some (.fn f l)
      | none => none
    | .isl _ _ => none
    | .iptr _ => none
    | a => some a) n

theorem frzF_ok {g g' : G} {w : World} {h : Hp} (H : HR g w h) (ho : ∀ b, Owned g h b → g'.imm b) : ∀ (n : Nat) (a a' : AV) (v : Value), frzF n h a = some a' → VR g w a v → VR g' w a' v := by
  intro n
  induction n with
  | zero => intro a a' v e; cases e
  | succ n ih =>
    intro a a' v e hv
    have hm := @mapA_ok _ g g' w (frzF n h) ih
    cases a with
    | int k n => cases e; simpa only [VR] using hv
    | bool b => cases e; simpa only [VR] using hv
    | sc x => cases e; simpa only [VR] using hv
    | esl => cases e; simpa only [VR] using hv
    | nel => cases e; simpa only [VR] using hv
    | sym k s lo hi o => cases e; simpa only [VR] using hv
    | any => cases e; simpa only [VR] using hv
    | agg l =>
      change (match mapA (frzF n h) l with | some l => some (AV.agg l) | none => none) = some a' at e
      cases h1 : mapA (frzF n h) l with
      | none => rw [h1] at e; cases e
      | some l' =>
        rw [h1] at e
        cases e
        simp only [VR] at hv ⊢
        obtain ⟨vs, e, q⟩ := hv
        exact ⟨vs, e, hm h1 q⟩
    | tup l =>
      change (match mapA (frzF n h) l with | some l => some (AV.tup l) | none => none) = some a' at e
      cases h1 : mapA (frzF n h) l with
      | none => rw [h1] at e; cases e
      | some l' =>
        rw [h1] at e
        cases e
        simp only [VR] at hv ⊢
        obtain ⟨vs, e, q⟩ := hv
        exact ⟨vs, e, hm h1 q⟩
    | fn f l =>
      change (match mapA (frzF n h) l with | some l => some (AV.fn f l) | none => none) = some a' at e
      cases h1 : mapA (frzF n h) l with
      | none => rw [h1] at e; cases e
      | some l' =>
        rw [h1] at e
        cases e
        simp only [VR] at hv ⊢
        obtain ⟨vs, e, q⟩ := hv
        exact ⟨vs, e, hm h1 q⟩
    | isl m l => cases e
    | iptr l => cases e
    | ref id off =>
      change (match h.objs.get id with | some cs => (match cs.seg off (Nat.sub cs.n off) with | some l => (match mapA (frzF n h) l with | some l => some (AV.iptr l) | none => none) | none => none) | none => none) = some a' at e
      cases h0 : h.objs.get id with
      | none => rw [h0] at e; cases e
      | some cs =>
      rw [h0] at e
      simp only at e
      cases hs : cs.seg off (Nat.sub cs.n off) with
      | none => rw [hs] at e; cases e
      | some l =>
      rw [hs] at e
      simp only at e
      cases h1 : mapA (frzF n h) l with
      | none => rw [h1] at e; cases e
      | some l' =>
        rw [h1] at e
        cases e
        obtain ⟨rfl, _, _⟩ := seg_some hs
        simp only [VR] at hv ⊢
        obtain ⟨b, s, hmm, rfl⟩ := hv
        obtain ⟨C, el, vs, hw, _, hvs, hC⟩ := H.row h0 hmm
        exact ⟨b, s + off, (vs.drop off).take (Nat.sub cs.n off), rfl, ho b ⟨id, cs, s, h0, hmm⟩, ((cellsAt_row hw hC).drop off).take _, hm h1 ((hvs.drop off).take _)⟩
    | hsl id off m sz =>
      change (match h.objs.get id with | some cs => (match cs.seg off (Nat.mul m sz) with | some l => (match mapA (frzF n h) l with | some l => some (AV.isl m l) | none => none) | none => none) | none => none) = some a' at e
      cases h0 : h.objs.get id with
      | none => rw [h0] at e; cases e
      | some cs =>
      rw [h0] at e
      simp only at e
      cases hs : cs.seg off (Nat.mul m sz) with
      | none => rw [hs] at e; cases e
      | some l =>
      rw [hs] at e
      simp only at e
      cases h1 : mapA (frzF n h) l with
      | none => rw [h1] at e; cases e
      | some l' =>
        rw [h1] at e
        cases e
        obtain ⟨rfl, hlen, _⟩ := seg_some hs
        simp only [VR] at hv ⊢
        rcases hv with ⟨rfl, x, rfl⟩ | ⟨b, s, cap, hmm, rfl, hle, _⟩
        · refine ⟨x, 0, rfl, Nat.le_refl _, .inl ⟨rfl, ?_⟩⟩
          have hz : Nat.mul 0 sz = 0 := Nat.zero_mul sz
          rw [hz] at h1
          simp only [List.take_zero] at h1
          cases h1
          rfl
        · obtain ⟨C, el, vs, hw, _, hvs, hC⟩ := H.row h0 hmm
          exact ⟨_, cap, rfl, hle, .inr ⟨b, s + off, (vs.drop off).take (Nat.mul m sz), rfl, ho b ⟨id, cs, s, h0, hmm⟩, ((cellsAt_row hw hC).drop off).take _, hm h1 ((hvs.drop off).take _)⟩⟩


mutual
def noOwn : AV → Bool
  | .agg l => noOwns l
  | .tup l => noOwns l
  | .isl _ l => noOwns l
  | .iptr l => noOwns l
  | .fn _ l => noOwns l
  | .ref _ _ => false
  | .hsl _ _ _ _ => false
  | _ => true
def noOwns : List AV → Bool
  | [] => true
  | a :: l => noOwn a && noOwns l
end
mutual
theorem VR.noOwn {g : G} {w : World} : ∀ (a : AV) (v : Value), noOwn a = true → VR g w a v → VR (gE g.imm) w a v
  | .int _ _, v, n, r => by simpa only [VR] using r
  | .bool _, v, n, r => by simpa only [VR] using r
  | .sc _, v, n, r => by simpa only [VR] using r
  | .esl, v, n, r => by simpa only [VR] using r
  | .nel, v, n, r => by simpa only [VR] using r
  | .any, v, n, r => by simpa only [VR] using r
  | .sym _ _ _ _ _, v, n, r => by simpa only [VR] using r
  | .ref _ _, v, n, r => by cases n
  | .hsl _ _ _ _, v, n, r => by cases n
  | .agg cs, v, n, r => by
    simp only [VR] at r ⊢
    obtain ⟨vs, e, q⟩ := r
    exact ⟨vs, e, VRs.noOwn cs _ n q⟩
  | .tup cs, v, n, r => by
    simp only [VR] at r ⊢
    obtain ⟨vs, e, q⟩ := r
    exact ⟨vs, e, VRs.noOwn cs _ n q⟩
  | .fn f cs, v, n, r => by
    simp only [VR] at r ⊢
    obtain ⟨vs, e, q⟩ := r
    exact ⟨vs, e, VRs.noOwn cs _ n q⟩
  | .isl m cs, v, n, r => by
    simp only [VR] at r ⊢
    obtain ⟨a, cap, e, l, r⟩ := r
    refine ⟨a, cap, e, l, ?_⟩
    rcases r with r | ⟨b, o, vs, e, i, c, q⟩
    · exact .inl r
    · exact .inr ⟨b, o, vs, e, i, c, VRs.noOwn cs _ n q⟩
  | .iptr cs, v, n, r => by
    simp only [VR] at r ⊢
    obtain ⟨b, o, vs, e, i, c, q⟩ := r
    exact ⟨b, o, vs, e, i, c, VRs.noOwn cs _ n q⟩
theorem VRs.noOwn {g : G} {w : World} : ∀ (l : List AV) (vs : List Value), noOwns l = true → VRs g w l vs → VRs (gE g.imm) w l vs
  | [], vs, n, r => by simpa only [VRs] using r
  | a :: l, vs, n, r => by
    simp only [noOwns, Bool.and_eq_true] at n
    simp only [VRs] at r ⊢
    obtain ⟨v, l', e, q, r⟩ := r
    exact ⟨v, l', e, VR.noOwn a v n.1 q, VRs.noOwn l l' n.2 r⟩
end

/-- A call that is known, whose answer lies in new memory alone; it writes nothing old. -/
def KnownF (P : Program) (f : FuncId) (args : List AV) (v : AV) : Prop :=
  (∀ as w, (callFunc f as).run P w = .ok (.enter f as) w) ∧ ∀ (g : G) (w : World) (vs : List Value), (∀ b, g.imm b → b < w.heap.size) → TbOk g w → VRs g w args vs →
    Calls P f vs.toArray w fun e w' => ∃ x, e = .returned x ∧ Keep w w' ∧ VR (gE fun b => w.heap.size ≤ b ∧ b < w'.heap.size) w' v x

/-- By one run. -/
noncomputable def resF (r : Ro) : Option AV := Ro.rec none (fun v h => frzF 8 h v) r
theorem knownF_of {P : Program} {call : CallF} (hc : CallOk P call) {f : FuncId} {args : List AV} {v' : AV} (e : resF (call f args (nilH 0)) = some v') (ha : noOwns args = true) : KnownF P f args v' := by
  cases hr : call f args (nilH 0) with
  | bad => rw [hr] at e; cases e
  | ok v h' =>
  rw [hr] at e
  have hf : frzF 8 h' v = some v' := e
  obtain ⟨hen, hcall⟩ := hc f args (nilH 0) v h' hr
  refine ⟨hen, fun g w vs hi ht hv => (hcall (gE g.imm) w vs (hr_empty hi ht) (VRs.noOwn _ _ ha hv)).mono ?_⟩
  rintro e w' ⟨x, g', rfl, E, H', hx⟩
  refine ⟨x, rfl, keep_of E, frzF_ok H' (fun b k => ?_) 8 v v' x hf hx⟩
  rcases E.own' b k with ⟨id, cs, s, e, _⟩ | k1
  · cases e
  · obtain ⟨id, cs, s, e, m⟩ := k
    obtain ⟨_, _, _, hw, _⟩ := H'.row e m
    exact ⟨k1, (Array.getElem?_eq_some_iff.1 hw).1⟩

/-- Known calls laid ahead: what they are handed is looked at, not kept. -/
noncomputable def orcF (has : FuncId → Bool) (tbl : FuncId → List AV → Option AV) (call : CallF) : CallF := fun f args h => Bool.rec (call f args h) (match mapA (frz 8 h) args with
  | some args' => match tbl f args' with
    | some v => .ok v h
    | none => call f args h
  | none => call f args h) (has f)

theorem orcF_ok {P : Program} {has : FuncId → Bool} {tbl : FuncId → List AV → Option AV} {call : CallF} (ht : ∀ f args v, tbl f args = some v → KnownF P f args v) (hc : CallOk P call) : CallOk P (orcF has tbl call) := by
  intro f args h v h' e
  unfold orcF at e
  cases hh : has f with
  | false => rw [hh] at e; exact hc f args h v h' e
  | true =>
  rw [hh] at e
  simp only at e
  cases hfz : mapA (frz 8 h) args with
  | none => rw [hfz] at e; exact hc f args h v h' e
  | some args' =>
  rw [hfz] at e
  simp only at e
  cases ht1 : tbl f args' with
  | none => rw [ht1] at e; exact hc f args h v h' e
  | some v1 =>
    rw [ht1] at e
    cases e
    obtain ⟨k1, k2⟩ := ht f args' v ht1
    refine ⟨k1, fun g w vs H hv => ?_⟩
    have hv1 : VRs (gE fun b => b < w.heap.size) w args' vs := mapA_ok (g := g) (fun a a' x => frz_ok H (g' := gE fun b => b < w.heap.size) H.imm (fun b ⟨id, cs, s, e, m⟩ => by
      obtain ⟨_, _, _, hw, _⟩ := H.row e m
      exact (Array.getElem?_eq_some_iff.1 hw).1) 8 a a' x) hfz hv
    refine (k2 (gE fun b => b < w.heap.size) w vs (fun b k => k) (fun p hp => ⟨H.imm _ (H.tb p hp).1, (H.tb p hp).2⟩) hv1).mono ?_
    rintro e w' ⟨x, rfl, K, hx⟩
    obtain ⟨g', hg'⟩ : ∃ g' : G, g' = ⟨g.m, fun b => g.imm b ∨ (w.heap.size ≤ b ∧ b < w'.heap.size)⟩ := ⟨_, rfl⟩
    have hO : ∀ b, Owned g' h b → Owned g h b := by
      rintro b ⟨id, cs, s, e, m⟩
      rw [hg'] at m
      exact ⟨id, cs, s, e, m⟩
    have M : Mono g w g' w' := ⟨fun _ _ e => by rw [hg']; exact e, fun b i => by rw [hg']; exact .inl i, fun b i => K.old b (H.imm b i), K.rows⟩
    refine ⟨x, g', rfl, ⟨K.os, K.tape, K.output, K.size, Nat.le_refl _, M.m, fun b hb _ => K.old b hb, K.rows, M.imm, fun b i => ?_, fun b o => .inl (hO b o)⟩, ⟨fun id hid => ?_, fun id cs e => ?_, fun id id' b s s' cs cs' e1 e2 m1 m2 => ?_, fun b i => ?_, TbOk.mono M H.tb⟩, ?_⟩
    · rw [hg'] at i
      rcases i with i | i
      · exact .inl i
      · exact .inr (.inr i.1)
    · rw [hg']; exact H.fresh id hid
    · obtain ⟨b, s, C, el, us, h1, h2, h3, h4, h5⟩ := H.objs id cs e
      have hb := (Array.getElem?_eq_some_iff.1 h2).1
      refine ⟨b, s, C, el, us, M.m _ _ h1, by rw [K.old b hb]; exact h2, ?_, VRs.mono' M _ _ h4, h5⟩
      rw [hg']
      rintro (i | i)
      · exact h3 i
      · omega
    · rw [hg'] at m1 m2
      exact H.inj id id' b s s' cs cs' e1 e2 m1 m2
    · rw [hg'] at i
      rcases i with i | i
      · exact Nat.lt_of_lt_of_le (H.imm b i) K.size
      · exact i.2
    · refine VR.mono' (⟨(fun _ _ e => by cases e), (fun b i => by rw [hg']; exact .inr i), fun _ _ => rfl, fun _ => Nat.le_refl _⟩ : Mono _ _ g' w') _ _ hx

/-- A table of known calls. -/
structure Kn where
  f : FuncId
  args : List AV
  v : AV
noncomputable def lookT (rows : List Kn) (f : FuncId) (args : List AV) : Option AV := List.rec none (fun r _ ih => Bool.rec ih (some r.v) (Nat.beq r.f f && eqAs r.args args)) rows
def KT (P : Program) (rows : List Kn) : Prop := ∀ r ∈ rows, KnownF P r.f r.args r.v
theorem KT.nil {P : Program} : KT P [] := fun _ h => by cases h
theorem KT.cons {P : Program} {f : FuncId} {args : List AV} {v : AV} {l : List Kn} (h : KnownF P f args v) (t : KT P l) : KT P (⟨f, args, v⟩ :: l) := by
  intro r hr
  cases hr with
  | head => exact h
  | tail _ hr => exact t r hr
theorem KT.app {P : Program} {l m : List Kn} (a : KT P l) (b : KT P m) : KT P (l ++ m) := by
  intro r hr
  rcases List.mem_append.1 hr with h | h
  · exact a r h
  · exact b r h
theorem lookT_ok {P : Program} {rows : List Kn} (h : KT P rows) (f : FuncId) (args : List AV) (v : AV) (e : lookT rows f args = some v) : KnownF P f args v := by
  induction rows with
  | nil => cases e
  | cons r rows ih =>
    change (Bool.rec (lookT rows f args) (some r.v) (Nat.beq r.f f && eqAs r.args args) : Option AV) = some v at e
    cases hb : (Nat.beq r.f f && eqAs r.args args) with
    | true =>
      rw [hb] at e
      cases e
      rw [Bool.and_eq_true] at hb
      obtain rfl := Nat.eq_of_beq_eq_true hb.1
      rw [← eqAs_iff _ _ hb.2]
      exact h r List.mem_cons_self
    | false =>
      rw [hb] at e
      exact ih (fun q hq => h q (List.mem_cons_of_mem _ hq)) e
/-- Calls with a table of known ones. -/
noncomputable def fCall (fn : FuncId → Option Fb) (has : FuncId → Bool) (rows : List Kn) (n d : Nat) : CallF := gCall fn (orcF has (lookT rows)) n d
theorem fCall_ok {P : Program} {draw : CallF → Nat → Array Oper → RgF} (hd : DrawOk P draw) {fn : FuncId → Option Fb} (hf : ∀ f b, fn f = some b → FbOk P draw f b) {has : FuncId → Bool} {rows : List Kn} (h : KT P rows) (n d : Nat) : CallOk P (fCall fn has rows n d) :=
  gCall_ok hd hf (fun _ hc => orcF_ok (lookT_ok h) hc) n d
end Go.Ab
