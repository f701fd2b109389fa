import Derived.Test.YtfdjdnphbakjoaaAbS
import Derived.Laws.StructEq
namespace Go.Ab
variable [Io]
section
variable {P : Program}

/-- The fields of a struct that holds whole numbers and bools alone, one cell each, none of them nameless: which are numbers. -/
noncomputable def scalars (P : Program) (n : Nat) (l : List Field) : Option (List Bool) :=
  List.rec (fun _ => some []) (fun f _ ih n => bif Nat.beq f.offset n && !(decide (f.name = "_")) then
    (match P.info? f.type with
    | some i => bif Nat.beq i.size 1 then
      (match P.underlying f.type with
      | some (.int _) => (match ih (Nat.add n 1) with | some r => some (true :: r) | none => none)
      | some .bool => (match ih (Nat.add n 1) with | some r => some (false :: r) | none => none)
      | _ => none) else none
    | none => none) else none) l n

theorem eq1_ok {i : Bool} {x y : AV} {c : Bool} (h : eq1 i x y = some c) {g : G} {w : World} {u v : Value} (hx : VR g w x u) (hy : VR g w y v) {T : TypeId} {d : Nat}
    (hT : (i = true ∧ ∃ k, P.underlying T = some (.int k)) ∨ (i = false ∧ P.underlying T = some .bool)) : (Op.equalIn (d + 1) T u v).run P w = .ok c w := by
  rcases hT with ⟨rfl, k, hT⟩ | ⟨rfl, hT⟩
  · change (match (generalizing := false) x, y with | .int k a, .int k' b => bif eqK k k' then some (eqI a b) else none | _, _ => eqS x y) = some c at h
    split at h
    · rename_i k1 a k2 b
      cases e : eqK k1 k2 with
      | false => rw [e] at h; cases h
      | true =>
        rw [e] at h
        cases h
        obtain rfl := eqK_iff.1 e
        simp only [VR] at hx hy
        subst hx; subst hy
        rw [run_equalIn_int w d T k1 k a b hT, eqI_eq]
    · obtain ⟨k1, m, n, rfl, rfl, rfl⟩ := eqS_ok h hx hy
      rw [run_equalIn_int w d T k1 k m n hT]
      congr 1
  · change (match (generalizing := false) x, y with | .bool a, .bool b => some (!(xor a b)) | _, _ => none) = some c at h
    split at h
    · rename_i a b
      cases h
      simp only [VR] at hx hy
      subst hx; subst hy
      rw [run_equalIn_bool' w d T a b hT]
      cases a <;> cases b <;> rfl
    · cases h

omit [Io] in
theorem part_one {T : TypeId} {td : TypeDesc} {i : TypeInfo} {vs : Array Value} {n : Nat} {v : Value} {w : World} (hd : P.underlying T = some td) (ha : isAggD td = false) (hv : vs[n]? = some v) :
    (Go.part T vs n).run P w = .ok v w := by
  unfold Go.part
  simp only [Sem.run_bind, run_isAgg hd, ha, Result.andThen_ok]
  simp [hv]

theorem eqFields_ok {g : G} {w : World} (d : Nat) : ∀ (fs : List Field) (n : Nat) (l : List Bool) (xs ys : List AV) (us vs : Array Value) (c : Bool), scalars P n fs = some l → eqCs l xs ys = some c →
    VRs g w xs (us.toList.drop n) → VRs g w ys (vs.toList.drop n) → (Op.eqFields (d + 1) us vs fs).run P w = .ok c w
  | [], n, l, xs, ys, us, vs, c, hs, e, hx, hy => by
    cases hs
    cases e
    simp [Op.eqFields]
  | f :: fs, n, l, xs, ys, us, vs, c, hs, e, hx, hy => by
    change (bif Nat.beq f.offset n && !(decide (f.name = "_")) then
      (match P.info? f.type with
      | some i => bif Nat.beq i.size 1 then
        (match P.underlying f.type with
        | some (.int _) => (match scalars P (n + 1) fs with | some r => some (true :: r) | none => none)
        | some .bool => (match scalars P (n + 1) fs with | some r => some (false :: r) | none => none)
        | _ => none) else none
      | none => none) else none) = some l at hs
    replace hs := condS hs
    obtain ⟨h0, hs⟩ := hs
    rw [Bool.and_eq_true] at h0
    have hoff : f.offset = n := Nat.eq_of_beq_eq_true h0.1
    have hname : f.name ≠ "_" := by simpa using h0.2
    split at hs
    · replace hs := condS hs
      obtain ⟨_, hs⟩ := hs
      have key : ∀ (i : Bool) (r : List Bool) (td : TypeDesc), P.underlying f.type = some td → isAggD td = false → scalars P (n + 1) fs = some r → l = i :: r →
          ((i = true ∧ ∃ k, P.underlying f.type = some (.int k)) ∨ (i = false ∧ P.underlying f.type = some .bool)) → (Op.eqFields (d + 1) us vs (f :: fs)).run P w = .ok c w := by
        intro i r td htd hagg hr hl hT
        subst hl
        change (match (generalizing := false) xs with
          | [] => none
          | x :: xs => match (generalizing := false) ys with
            | [] => none
            | y :: ys => match eq1 i x y with
              | none => none
              | some c => (Bool.rec (some false) (eqCs r xs ys) c : Option Bool)) = some c at e
        cases xs with
        | nil => cases e
        | cons x xs =>
        cases ys with
        | nil => cases e
        | cons y ys =>
        simp only at e
        cases h1 : eq1 i x y with
        | none => rw [h1] at e; cases e
        | some c1 =>
        rw [h1] at e
        simp only [VRs] at hx hy
        obtain ⟨u, us', hu, hxu, hxs⟩ := hx
        obtain ⟨v, vs', hv, hyv, hys⟩ := hy
        have hu0 : us[n]? = some u := by
          have : (us.toList.drop n)[0]? = some u := by rw [hu]; rfl
          simpa using this
        have hv0 : vs[n]? = some v := by
          have : (vs.toList.drop n)[0]? = some v := by rw [hv]; rfl
          simpa using this
        have hu1 : us.toList.drop (n + 1) = us' := by rw [← List.drop_drop, hu]; rfl
        have hv1 : vs.toList.drop (n + 1) = vs' := by rw [← List.drop_drop, hv]; rfl
        have pu : (Go.part f.type us f.offset).run P w = .ok u w := by rw [hoff]; exact part_one (i := default) htd hagg hu0
        have pv : (Go.part f.type vs f.offset).run P w = .ok v w := by rw [hoff]; exact part_one (i := default) htd hagg hv0
        simp only [Op.eqFields, if_pos hname, Sem.run_bind, pu, pv, Result.andThen_ok, eq1_ok (P := P) (d := d) h1 hxu hyv hT]
        cases c1 with
        | false => cases e; simp
        | true =>
          simp only [Bool.not_true, Bool.false_eq_true, if_false]
          exact eqFields_ok d fs (n + 1) r xs ys us vs c hr e (by rw [hu1]; exact hxs) (by rw [hv1]; exact hys)
      split at hs
      · rename_i k hT
        split at hs
        · rename_i r hr; cases hs; exact key true r _ hT rfl hr rfl (.inl ⟨rfl, _, hT⟩)
        · cases hs
      · rename_i hT
        split at hs
        · rename_i r hr; cases hs; exact key false r _ hT rfl hr rfl (.inr ⟨rfl, hT⟩)
        · cases hs
      · cases hs
    · cases hs

omit [Io] in
theorem bEqA_some {neg : Bool} {l : List Bool} {x y r : AV} (h : bEqA neg l x y = some r) : ∃ xs ys c, x = .agg xs ∧ y = .agg ys ∧ eqCs l xs ys = some c ∧ r = .bool (bif neg then !c else c) := by
  unfold bEqA at h
  split at h
  · rename_i xs
    split at h
    · rename_i ys
      split at h
      · rename_i c hc
        cases h
        exact ⟨xs, ys, c, rfl, rfl, hc, rfl⟩
      · cases h
    · cases h
  · cases h

theorem eqA_run {T : TypeId} {fs : Array Field} {l : List Bool} (hT : P.underlying T = some (.struct fs)) (hs : P.stoodInHeld T = false) (hl : scalars P 0 fs.toList = some l) {g : G} {w : World}
    {xs ys : List AV} {c : Bool} (hc : eqCs l xs ys = some c) {us vs : Array Value} (hx : VRs g w xs us.toList) (hy : VRs g w ys vs.toList) : (Op.equalIn 10000 T (.agg us) (.agg vs)).run P w = .ok c w := by
  have hf : P.fieldsOf T = fs := by unfold Program.fieldsOf; rw [hT]
  refine (run_equalIn_struct w 9999 T us vs (by rw [hf]; exact hT) hs).trans ?_
  rw [hf]
  exact eqFields_ok 9998 fs.toList 0 l xs ys us vs c hl hc (by simpa using hx) (by simpa using hy)

theorem bin_eqA {T : TypeId} {fs : Array Field} {l : List Bool} (hT : P.underlying T = some (.struct fs)) (hs : P.stoodInHeld T = false) (hg : P.eqGuardType P.depth T = false) (hl : scalars P 0 fs.toList = some l) :
    BinOk P .eql T (bEqA false l) := by
  intro g w a b r u v ha hb h
  obtain ⟨xs, ys, c, rfl, rfl, hc, rfl⟩ := bEqA_some h
  simp only [VR] at ha hb
  obtain ⟨us, rfl, hx⟩ := ha
  obtain ⟨vs, rfl, hy⟩ := hb
  refine ⟨.bool c, ?_, by simp only [VR]; rfl, fun x y => run_eqGuard_agg w .eql T x y us vs hg⟩
  rw [run_eql_struct, eqA_run hT hs hl hc hx hy]
  rfl
theorem bin_neA {T : TypeId} {fs : Array Field} {l : List Bool} (hT : P.underlying T = some (.struct fs)) (hs : P.stoodInHeld T = false) (hg : P.eqGuardType P.depth T = false) (hl : scalars P 0 fs.toList = some l) :
    BinOk P .neq T (bEqA true l) := by
  intro g w a b r u v ha hb h
  obtain ⟨xs, ys, c, rfl, rfl, hc, rfl⟩ := bEqA_some h
  simp only [VR] at ha hb
  obtain ⟨us, rfl, hx⟩ := ha
  obtain ⟨vs, rfl, hy⟩ := hb
  refine ⟨.bool (!c), ?_, by simp only [VR]; rfl, fun x y => run_eqGuard_agg w .neq T x y us vs hg⟩
  rw [run_neq_struct, eqA_run hT hs hl hc hx hy]
  rfl

/-- The equality of a struct's type. -/
noncomputable def cEqA (P : Program) (neg : Bool) (T : TypeId) : Option (AV → AV → Option AV) := match P.underlying T with
  | some (.struct fs) => match P.stoodInHeld T with
    | false => match P.eqGuardType P.depth T with
      | false => match scalars P 0 fs.toList with
        | some l => some (bEqA neg l)
        | none => none
      | true => none
    | true => none
  | _ => none
theorem cEqA_eq {T : TypeId} {f : AV → AV → Option AV} (h : cEqA P false T = some f) : BinOk P .eql T f := by
  unfold cEqA at h
  split at h
  · rename_i fs hT
    split at h
    · rename_i hs
      split at h
      · rename_i hg
        split at h
        · rename_i l hl
          cases h
          exact bin_eqA hT hs hg hl
        · cases h
      · cases h
    · cases h
  · cases h
theorem cEqA_ne {T : TypeId} {f : AV → AV → Option AV} (h : cEqA P true T = some f) : BinOk P .neq T f := by
  unfold cEqA at h
  split at h
  · rename_i fs hT
    split at h
    · rename_i hs
      split at h
      · rename_i hg
        split at h
        · rename_i l hl
          cases h
          exact bin_neA hT hs hg hl
        · cases h
      · cases h
    · cases h
  · cases h
end
end Go.Ab
