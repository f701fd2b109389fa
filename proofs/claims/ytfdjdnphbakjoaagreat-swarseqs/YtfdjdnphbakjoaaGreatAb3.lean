import Derived.Test.YtfdjdnphbakjoaaGreatAb2
import Derived.Laws.Tables
namespace Go.Ab
variable [Io]

-- the arithmetic
omit [Io] in
theorem wrapF_eq (k : IntKind) (n : Int) : wrapF k n = k.wrap n := by
  cases k <;> simp only [wrapF, IntKind.wrap, IntKind.bits, IntKind.signed]
  all_goals simp
  all_goals first
    | rfl
    | (show (n + _) % _ - _ = _; split <;> omega)
omit [Io] in
theorem eqK_iff {k k' : IntKind} : eqK k k' = true ↔ k = k' := by cases k <;> cases k' <;> simp [eqK]
omit [Io] in
theorem ltI_eq (a b : Int) : ltI a b = decide (a < b) := by
  cases a <;> cases b <;> simp only [ltI]
  · rename_i a b
    by_cases h : a < b
    · rw [show Nat.blt a b = true from by simpa [Nat.blt_eq] using h]; simp; omega
    · rw [show Nat.blt a b = false from by rw [Bool.eq_false_iff]; simpa [Nat.blt_eq] using h]; simp; omega
  · simp; omega
  · simp; omega
  · rename_i a b
    by_cases h : b < a
    · rw [show Nat.blt b a = true from by simpa [Nat.blt_eq] using h]; simp; omega
    · rw [show Nat.blt b a = false from by rw [Bool.eq_false_iff]; simpa [Nat.blt_eq] using h]; simp; omega
omit [Io] in
theorem eqI_eq (a b : Int) : eqI a b = (a == b) := by
  have key : eqI a b = true ↔ a = b := by
    cases a <;> cases b <;> simp [eqI]
    omega
  by_cases h : a = b
  · rw [key.2 h]; simp [h]
  · rw [show eqI a b = false from by rw [Bool.eq_false_iff]; exact fun e => h (key.1 e)]; simp [h]
omit [Io] in
theorem bitsF_eq (k : IntKind) : bitsF k = k.bits := by cases k <;> rfl
omit [Io] in
theorem minN_eq (a b : Nat) : minN a b = min a b := by
  unfold minN
  by_cases h : a ≤ b
  · rw [show Nat.ble a b = true from Nat.ble_eq.mpr h]; simp [Nat.min_eq_left h]
  · rw [show Nat.ble a b = false from by rw [Bool.eq_false_iff]; exact fun e => h (Nat.ble_eq.mp e)]; simp; omega

-- constants
theorem leaf_ok {v : Value} {a : AV} (h : leaf v = some a) (g : G) (w : World) : VR g w a v := by
  unfold leaf at h
  split at h <;> first
    | (cases h; done)
    | (cases h; simp [VR, Value.oneCell'])
theorem leaves_ok : ∀ (l : List Value) {r : List AV}, leaves l = some r → ∀ (g : G) (w : World), VRs g w r l
  | [], r, h, g, w => by cases h; simp [VRs]
  | v :: l, r, h, g, w => by
    change (match leaf v with | some a => (match leaves l with | some r => some (a :: r) | none => none) | none => none) = some r at h
    cases h1 : leaf v with
    | none => rw [h1] at h; cases h
    | some a =>
      cases h2 : leaves l with
      | none => rw [h1, h2] at h; cases h
      | some r' =>
        rw [h1, h2] at h
        cases h
        simp only [VRs]
        exact ⟨v, l, rfl, leaf_ok h1 g w, leaves_ok l h2 g w⟩
theorem ofV_ok {v : Value} {a : AV} (h : ofV v = some a) (g : G) (w : World) : VR g w a v := by
  unfold ofV at h
  split at h
  · split at h
    · rename_i cs _ l e
      cases h
      simp only [VR]
      exact ⟨cs, rfl, leaves_ok _ e g w⟩
    · cases h
  · split at h
    · rename_i cs _ l e
      cases h
      simp only [VR]
      exact ⟨cs, rfl, leaves_ok _ e g w⟩
    · cases h
  · exact leaf_ok h g w
omit [Io] in
theorem pureRun_ok {s : Sem Value} {v : Value} (h : pureRun s = some v) (P : Program) (w : World) : s.run P w = .ok v w := by
  cases s <;> simp [pureRun] at h
  subst h; rfl
theorem ofRun_ok {s : Sem Value} {a : AV} (h : ofRun (pureRun s) = some a) (P : Program) (g : G) (w : World) : ∃ v, s.run P w = .ok v w ∧ VR g w a v := by
  cases e : pureRun s with
  | none => rw [e] at h; cases h
  | some v => rw [e] at h; exact ⟨v, pureRun_ok e P w, ofV_ok h g w⟩

-- operands
def OpdOk (x : Operand) (o : Opd) : Prop := ∀ (g : G) (w : World) (nt : Nat) (t : Tm) (a : Act) (v : AV), TR g w nt t a.tmps → o t = some v → VR g w v (a.eval x)

noncomputable def cOpd : Operand → Opd
  | .tmp i => ifb (Nat.blt i 512) (oT i) oX
  | .const v => match ofV v with
    | some a => oC a
    | none => oX
  | .global _ => oX
  | .func f => oC (.fn f [])

theorem cOpd_ok (x : Operand) : OpdOk x (cOpd x) := by
  intro g w nt t a v T e
  cases x with
  | tmp i =>
    change ifb (Nat.blt i 512) (oT i) oX t = some v at e
    cases h : Nat.blt i 512 with
    | false => rw [h] at e; cases e
    | true =>
      rw [h] at e
      exact (T.2.2 i v (by simpa [Nat.blt_eq] using h) e).2
  | const c =>
    change (match ofV c with | some a => oC a | none => oX) t = some v at e
    cases h : ofV c with
    | none => simp only [h] at e; cases e
    | some x =>
      simp only [h] at e
      cases e
      exact ofV_ok h g w
  | global i => cases e
  | func f =>
    cases e
    simp only [VR]
    exact ⟨#[], rfl, by simp [VRs]⟩

theorem opds_ok {g w nt t} {a : Act} (T : TR g w nt t a.tmps) : ∀ (l : List Operand) {vs : List AV}, opds (l.map cOpd) t = some vs → VRs g w vs (l.map a.eval)
  | [], vs, e => by cases e; simp [VRs]
  | x :: l, vs, e => by
    change (Option.rec none (fun v => Option.rec none (fun vs => some (v :: vs)) (opds (l.map cOpd) t)) (cOpd x t) : Option (List AV)) = some vs at e
    cases h1 : cOpd x t with
    | none => rw [h1] at e; cases e
    | some v =>
      cases h2 : opds (l.map cOpd) t with
      | none => rw [h1, h2] at e; cases e
      | some r =>
        rw [h1, h2] at e
        cases e
        simp only [List.map_cons, VRs]
        exact ⟨_, _, rfl, cOpd_ok x _ _ _ _ _ _ T h1, opds_ok T l h2⟩

-- operations that leave the world alone
def OpPure (P : Program) (o : Oper) (f : OpF) : Prop :=
  ∀ (g : G) (w : World) (nt : Nat) (t : Tm) (h : Hp) (a : Act) (v : AV) (h' : Hp), HC g w h → TR g w nt t a.tmps → f t h = .ok v h' →
    h' = h ∧ ∃ x, (execOp a.eval o).run P w = .ok (.value x) w ∧ VR g w v x

section
variable {P : Program} {o : Oper}

theorem pure_bad : OpPure P o kBad := by intro g w nt t h a v h' _ _ e; cases e

omit [Io] in
theorem kMove_some {x : Opd} {t : Tm} {h h' : Hp} {v : AV} (e : kMove x t h = .ok v h') : x t = some v ∧ h' = h := by
  unfold kMove at e
  cases hx : x t with
  | none => rw [hx] at e; cases e
  | some u => rw [hx] at e; cases e; exact ⟨rfl, rfl⟩

theorem pure_move {x : Operand} (ho : o.op = .move x ∨ o.op = .assign x) : OpPure P o (kMove (cOpd x)) := by
  intro g w nt t h a v h' H T e
  obtain ⟨e2, rfl⟩ := kMove_some e
  exact ⟨rfl, a.eval x, by rcases ho with ho | ho <;> simp [execOp, ho], cOpd_ok x _ _ _ _ _ _ T e2⟩

theorem pure_pick {c x y : Operand} (ho : o.op = .pick c x y) : OpPure P o (kPick (cOpd c) (cOpd x) (cOpd y)) := by
  intro g w nt t h a v h' H T e
  unfold kPick at e
  split at e
  · rename_i b hc
    have hb := cOpd_ok c _ _ _ _ _ _ T hc
    simp only [VR] at hb
    cases b
    · obtain ⟨e2, rfl⟩ := kMove_some e
      exact ⟨rfl, a.eval y, by simp [execOp, ho, asBool, hb], cOpd_ok y _ _ _ _ _ _ T e2⟩
    · obtain ⟨e2, rfl⟩ := kMove_some e
      exact ⟨rfl, a.eval x, by simp [execOp, ho, asBool, hb], cOpd_ok x _ _ _ _ _ _ T e2⟩
  · cases e

theorem pure_nil {x : Operand} (ho : o.op = .nilCheck x) : OpPure P o (kNil (cOpd x)) := by
  intro g w nt t h a v h' H T e
  unfold kNil at e
  split at e
  · rename_i i q hx
    have hv := cOpd_ok x _ _ _ _ _ _ T hx
    cases e
    have hv' := hv
    simp only [VR] at hv
    obtain ⟨b, s, hm, hv⟩ := hv
    exact ⟨rfl, a.eval x, by simp [execOp, ho, hv], hv'⟩
  · rename_i cs hx
    have hv := cOpd_ok x _ _ _ _ _ _ T hx
    cases e
    have hv' := hv
    simp only [VR] at hv
    obtain ⟨b, q, vs, hv, _⟩ := hv
    exact ⟨rfl, a.eval x, by simp [execOp, ho, hv], hv'⟩
  · rename_i f c hx
    have hv := cOpd_ok x _ _ _ _ _ _ T hx
    cases e
    have hv' := hv
    simp only [VR] at hv
    obtain ⟨vs, hv, _⟩ := hv
    exact ⟨rfl, a.eval x, by simp [execOp, ho, hv], hv'⟩
  · cases e

/-- An operator on two values: it goes by the related ones as the model's. -/
def BinOk (P : Program) (op : BinOp) (xT : TypeId) (f : AV → AV → Option AV) : Prop :=
  ∀ (g : G) (w : World) (a b r : AV) (u v : Value), VR g w a u → VR g w b v → f a b = some r →
    ∃ z, (binOp op xT u v).run P w = .ok z w ∧ VR g w r z ∧ ∀ x y, (eqGuard op xT x y u v).run P w = .ok () w

theorem pure_bin {op : BinOp} {xT yT : TypeId} {x y : Operand} {f : AV → AV → Option AV} (ho : o.op = .binOp op xT x y yT) (hf : BinOk P op xT f) :
    OpPure P o (kBin f (cOpd x) (cOpd y)) := by
  intro g w nt t h a v h' H T e
  unfold kBin at e
  cases hx : cOpd x t with
  | none => rw [hx] at e; cases e
  | some ax =>
    cases hy : cOpd y t with
    | none => rw [hx, hy] at e; cases e
    | some ay =>
      rw [hx, hy] at e
      cases hr : f ax ay with
      | none => simp only [hr] at e; cases e
      | some r =>
        simp only [hr] at e
        cases e
        obtain ⟨z, hz, hv, hg⟩ := hf g w ax ay v _ _ (cOpd_ok x _ _ _ _ _ _ T hx) (cOpd_ok y _ _ _ _ _ _ T hy) hr
        exact ⟨rfl, z, by simp [execOp, ho, hg, hz], hv⟩

omit [Io] in
theorem eqGuard_int {op : BinOp} {xT : TypeId} {k k' : IntKind} {m n : Int} {w : World} (x y : Operand) : (eqGuard op xT x y (.int k m) (.int k' n)).run P w = .ok () w := by
  unfold eqGuard; split <;> simp
omit [Io] in
theorem eqGuard_bool {op : BinOp} {xT : TypeId} {m n : Bool} {w : World} (x y : Operand) : (eqGuard op xT x y (.bool m) (.bool n)).run P w = .ok () w := by
  unfold eqGuard; split <;> simp
omit [Io] in
theorem eqGuard_string {op : BinOp} {xT : TypeId} {m n : ByteArray} {w : World} (x y : Operand) : (eqGuard op xT x y (.string m) (.string n)).run P w = .ok () w := by
  unfold eqGuard; split <;> simp
omit [Io] in
theorem eqGuard_pointer {op : BinOp} {xT : TypeId} {m n : Option Addr} {w : World} (x y : Operand) : (eqGuard op xT x y (.pointer m) (.pointer n)).run P w = .ok () w := by
  unfold eqGuard; split <;> simp

omit [Io] in
theorem bInt_some {f : IntKind → Int → Int → Option AV} {a b r : AV} (h : bInt f a b = some r) : ∃ k m n, a = .int k m ∧ b = .int k n ∧ f k m n = some r := by
  unfold bInt at h
  split at h
  · rename_i k m k' n
    cases e : eqK k k' with
    | false => rw [e] at h; cases h
    | true =>
      rw [e] at h
      obtain rfl := eqK_iff.1 e
      exact ⟨k, m, n, rfl, rfl, h⟩
  · cases h

/-- An operator on two integers of one kind. -/
theorem bin_int {op : BinOp} {xT : TypeId} {f : IntKind → Int → Int → Option AV}
    (hf : ∀ (g : G) (w : World) k m n r, f k m n = some r → ∃ z, (binOp op xT (.int k m) (.int k n)).run P w = .ok z w ∧ VR g w r z) : BinOk P op xT (bInt f) := by
  intro g w a b r u v ha hb h
  obtain ⟨k, m, n, rfl, rfl, h2⟩ := bInt_some h
  simp only [VR] at ha hb
  subst ha; subst hb
  obtain ⟨z, hz, hv⟩ := hf g w k m n r h2
  exact ⟨z, hz, hv, fun x y => eqGuard_int x y⟩

theorem bin_add (xT : TypeId) : BinOk P .add xT bAdd := bin_int fun g w k m n r h => by
  cases h; exact ⟨.int k (k.wrap (m + n)), by simp [binOp, Op.intArith], by simp only [VR, wrapF_eq]; rfl⟩
theorem bin_sub (xT : TypeId) : BinOk P .sub xT bSub := bin_int fun g w k m n r h => by
  cases h; exact ⟨.int k (k.wrap (m - n)), by simp [binOp, Op.intArith], by simp only [VR, wrapF_eq]; rfl⟩
theorem bin_mul (xT : TypeId) : BinOk P .mul xT bMul := bin_int fun g w k m n r h => by
  cases h; exact ⟨.int k (k.wrap (m * n)), by simp [binOp, Op.intArith], by simp only [VR, wrapF_eq]; rfl⟩
theorem bin_quo (xT : TypeId) : BinOk P .quo xT bQuo := bin_int fun g w k m n r h => by
  rw [eqI_eq] at h
  by_cases h0 : n = 0
  · subst h0; cases h
  · rw [show (n == 0) = false from by simpa using h0] at h
    cases h
    exact ⟨.int k (k.wrap (m.tdiv n)), by simp [binOp, Op.intDiv, h0], by simp only [VR, wrapF_eq]⟩
theorem bin_rem (xT : TypeId) : BinOk P .rem xT bRem := bin_int fun g w k m n r h => by
  rw [eqI_eq] at h
  by_cases h0 : n = 0
  · subst h0; cases h
  · rw [show (n == 0) = false from by simpa using h0] at h
    cases h
    exact ⟨.int k (m.tmod n), by simp [binOp, Op.intDiv, h0], by simp only [VR]⟩
omit [Io] in
theorem notlt (m n : Int) : (!decide (m < n)) = decide (n ≤ m) := by by_cases h : m < n <;> simp [h] <;> omega
theorem bin_lss (xT : TypeId) : BinOk P .lss xT bLss := bin_int fun g w k m n r h => by
  cases h; exact ⟨.bool (m < n), by simp [binOp, Op.intCmp], by simp only [VR, ltI_eq]⟩
theorem bin_gtr (xT : TypeId) : BinOk P .gtr xT bGtr := bin_int fun g w k m n r h => by
  cases h; exact ⟨.bool (m > n), by simp [binOp, Op.intCmp], by simp only [VR, ltI_eq]⟩
theorem bin_leq (xT : TypeId) : BinOk P .leq xT bLeq := bin_int fun g w k m n r h => by
  cases h; exact ⟨.bool (m ≤ n), by simp [binOp, Op.intCmp], by simp only [VR, ltI_eq, notlt]⟩
theorem bin_geq (xT : TypeId) : BinOk P .geq xT bGeq := bin_int fun g w k m n r h => by
  cases h; exact ⟨.bool (m ≥ n), by simp [binOp, Op.intCmp], by simp only [VR, ltI_eq, notlt]⟩
theorem bin_eqI (xT : TypeId) : BinOk P .eql xT (bEqI false) := bin_int fun g w k m n r h => by
  cases h; exact ⟨.bool (m == n), by simp [binOp, Op.intCmp], by simp only [VR, eqI_eq]; rfl⟩
theorem bin_neI (xT : TypeId) : BinOk P .neq xT (bEqI true) := bin_int fun g w k m n r h => by
  cases h; exact ⟨.bool (m != n), by simp [binOp, Op.intCmp], by simp only [VR, eqI_eq]; rfl⟩

end
end Go.Ab
