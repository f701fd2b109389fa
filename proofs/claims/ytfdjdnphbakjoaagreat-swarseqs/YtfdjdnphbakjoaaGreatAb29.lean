import Derived.Test.YtfdjdnphbakjoaaGreatAb28
namespace Go.Ab
variable [Io]

/-- A call that is known: nothing old turns, and it answers this. -/
def Known (P : Program) (f : FuncId) (args : List AV) (v : AV) : Prop :=
  (∀ as w, (callFunc f as).run P w = .ok (.enter f as) w) ∧ ∀ (g : G) (w : World) (vs : List Value), (∀ b, g.imm b → b < w.heap.size) → VRs g w args vs →
    Calls P f vs.toArray w fun e w' => ∃ x, e = .returned x ∧ Keep w w' ∧ VR (gE fun b => g.imm b ∨ (w.heap.size ≤ b ∧ b < w'.heap.size)) w' v x

noncomputable def orc (tbl : FuncId → List AV → Option AV) (call : CallF) : CallF := fun f args h => match tbl f args with
  | some v => .ok v h
  | none => call f args h

theorem orc_ok {P : Program} {tbl : FuncId → List AV → Option AV} {call : CallF} (ht : ∀ f args v, tbl f args = some v → Known P f args v) (hc : CallOk P call) : CallOk P (orc tbl call) := by
  intro f args h v h' e
  unfold orc at e
  cases ht1 : tbl f args with
  | none => rw [ht1] at e; exact hc f args h v h' e
  | some v1 =>
    rw [ht1] at e
    cases e
    obtain ⟨k1, k2⟩ := ht f args v ht1
    refine ⟨k1, fun g w vs H hv => (k2 g w vs H.imm hv).mono ?_⟩
    rintro e w' ⟨x, rfl, K, hx⟩
    obtain ⟨g', hg'⟩ : ∃ g' : G, g' = ⟨g.m, fun b => g.imm b ∨ (w.heap.size ≤ b ∧ b < w'.heap.size)⟩ := ⟨_, rfl⟩
    have hO : ∀ b, Owned g' h b → Owned g h b := by
      rintro b ⟨id, cs, s, e, m⟩
      rw [hg'] at m
      exact ⟨id, cs, s, e, m⟩
    have M : Mono g w g' w' := ⟨fun _ _ e => by rw [hg']; exact e, fun b i => by rw [hg']; exact .inl i, fun b i => K.old b (H.imm b i), K.rows⟩
    refine ⟨x, g', rfl, ⟨K.os, K.tape, K.output, K.size, Nat.le_refl _, M.m, fun b hb _ => K.old b hb, K.rows, M.imm, fun b i => ?_, fun b o => .inl (hO b o)⟩, ⟨fun id hid => ?_, fun id cs e => ?_, fun id id' b s s' cs cs' e1 e2 m1 m2 => ?_, fun b i => ?_⟩, ?_⟩
    · rw [hg'] at i
      rcases i with i | i
      · exact .inl i
      · exact .inr (.inr i.1)
    · rw [hg']; exact H.fresh id hid
    · obtain ⟨b, s, C, el, us, h1, h2, h3, h4, h5⟩ := H.objs id cs e
      have hb := (Array.getElem?_eq_some_iff.1 h2).1
      refine ⟨b, s, C, el, us, M.m _ _ h1, by rw [K.old b hb]; exact h2, ?_, VRs.mono' M _ _ h4, h5⟩
      rw [hg']
      rintro (i | i)
      · exact h3 i
      · omega
    · rw [hg'] at m1 m2
      exact H.inj id id' b s s' cs cs' e1 e2 m1 m2
    · rw [hg'] at i
      rcases i with i | i
      · exact Nat.lt_of_lt_of_le (H.imm b i) K.size
      · exact i.2
    · refine VR.mono' (⟨(fun _ _ e => by cases e), (fun b i => by rw [hg']; exact i), fun _ _ => rfl, fun _ => Nat.le_refl _⟩ : Mono _ _ g' w') _ _ hx

-- the ways to know one
/-- Arguments of no memory that are told outright. -/
theorem known_lit {P : Program} {call : CallF} (hc : CallOk P call) {f : FuncId} {args : List AV} {v v' : AV} {h' : Hp} {n : Nat} (e : call f args (nilH 0) = .ok v h') (hf : frz n h' v = some v')
    (ha : ∀ (g : G) (w : World) (vs : List Value), VRs g w args vs → VRs (gE g.imm) w args vs) : Known P f args v' :=
  ⟨(hc f args _ v h' e).1, fun g w vs hi hv => pureC_of hc e hf g.imm w vs hi (ha g w vs hv)⟩

/-- A whole number between two bounds. -/
def inR (k : IntKind) (A B : Int) (v : Value) : Prop := ∃ x, v = .int k x ∧ A ≤ x ∧ x ≤ B
noncomputable def rngB (k : IntKind) (A B : Int) : List AV → Bool
  | [.int k' n] => eqK k k' && (!(ltI n A) && !(ltI B n))
  | [.sym k' _ lo hi o] => eqK k k' && (!(ltI (Int.add lo o) A) && !(ltI B (Int.add hi o)))
  | _ => false
theorem rngB_ok {k : IntKind} {A B : Int} {args : List AV} (h : rngB k A B args = true) {g : G} {w : World} {vs : List Value} (hv : VRs g w args vs) : ∃ x, vs = [.int k x] ∧ A ≤ x ∧ x ≤ B := by
  unfold rngB at h
  split at h
  · rename_i k' n
    simp only [Bool.and_eq_true, Bool.not_eq_true', ltI_not] at h
    obtain ⟨hk, h1, h2⟩ := h
    obtain rfl := eqK_iff.1 hk
    simp only [VRs, VR] at hv
    obtain ⟨v, l, rfl, rfl, rfl⟩ := hv
    exact ⟨n, rfl, h1, h2⟩
  · rename_i k' s lo hi o
    simp only [Bool.and_eq_true, Bool.not_eq_true', ltI_not] at h
    obtain ⟨hk, h1, h2⟩ := h
    obtain rfl := eqK_iff.1 hk
    simp only [VRs, VR] at hv
    obtain ⟨v, l, rfl, ⟨rfl, h3, h4⟩, rfl⟩ := hv
    have h1' : A ≤ lo + o := h1
    have h2' : hi + o ≤ B := h2
    exact ⟨_, rfl, by omega, by omega⟩
  · cases h

end Go.Ab

namespace Go.Ab
/-- A run with one number between two bounds serves each of them. -/
theorem known_rng {P : Program} {call : CallF} (hc : ∀ J : Io, @CallOk J P call) {f : FuncId} {k : IntKind} {A B : Int} {v v' : AV} {h' : Hp} {n : Nat} (e : call f [.sym k (.var 0) A B 0] (nilH 0) = .ok v h') (hf : frz n h' v = some v') (hn : noSym v' = true)
    (I : Io) {args : List AV} (ha : rngB k A B args = true) : @Known I P f args v' := by
  refine ⟨(@hc I f _ _ v h' e).1, fun g w vs hi hv => ?_⟩
  obtain ⟨x, rfl, h1, h2⟩ := rngB_ok ha hv
  let J : Io := ⟨fun _ => x⟩
  have := @pureC_of J P call (hc J) f [.sym k (.var 0) A B 0] v v' h' n e hf g.imm w [.int k x] hi (by
    simp only [VRs, VR]
    exact ⟨_, [], rfl, ⟨by show _ = Value.int k (x + 0); rw [Int.add_zero], h1, h2⟩, rfl⟩)
  refine this.mono ?_
  rintro e w' ⟨y, rfl, K, hy⟩
  exact ⟨y, rfl, K, VR.io J I v' y hn hy⟩

end Go.Ab
