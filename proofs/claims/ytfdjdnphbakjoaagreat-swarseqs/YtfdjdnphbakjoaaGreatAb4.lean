import Derived.Test.YtfdjdnphbakjoaaGreatAb3
namespace Go.Ab
variable [Io]
section
variable {P : Program} {o : Oper}

-- bits
omit [Io] in
theorem ofInt_lim {k : IntKind} {a : Nat} (h : a < lim k) : (BitVec.ofInt k.bits (.ofNat a)).toNat = a := by
  rw [show (Int.ofNat a) = ((a : Nat) : Int) from rfl, BitVec.ofInt_natCast, BitVec.toNat_ofNat]
  apply Nat.mod_eq_of_lt
  cases k <;> simp only [lim, IntKind.bits] at h ⊢ <;> omega
omit [Io] in
theorem lim_bits {k : IntKind} {a : Nat} (h : a < lim k) : (a : Int) < 2 ^ k.bits ∧ (k.signed = true → (a : Int) < 2 ^ (k.bits - 1)) := by
  cases k <;> simp only [lim, IntKind.bits, IntKind.signed] at h ⊢ <;> constructor <;> first | omega | (intro _; omega) | (intro h; cases h)
omit [Io] in
theorem wrap_lim {k : IntKind} {a : Nat} (h : a < lim k) : k.wrap ((a : Nat) : Int) = (a : Int) := by
  obtain ⟨h1, h2⟩ := lim_bits h
  have e : (a : Int) % (2 ^ k.bits : Int) = a := Int.emod_eq_of_lt (by omega) h1
  unfold IntKind.wrap
  simp only [e]
  rw [if_neg]
  intro c
  simp only [Bool.and_eq_true, decide_eq_true_eq] at c
  have := h2 c.1
  omega
omit [Io] in
theorem and_lim {k : IntKind} {a b : Nat} (h : a < lim k) : a &&& b < lim k := Nat.lt_of_le_of_lt Nat.and_le_left h
omit [Io] in
theorem lim_pow (k : IntKind) : ∃ n, lim k = 2 ^ n := by
  cases k with
  | i8 => exact ⟨7, rfl⟩
  | i16 => exact ⟨15, rfl⟩
  | i32 => exact ⟨31, rfl⟩
  | i64 => exact ⟨63, rfl⟩
  | u8 => exact ⟨8, rfl⟩
  | u16 => exact ⟨16, rfl⟩
  | u32 => exact ⟨32, rfl⟩
  | u64 => exact ⟨64, rfl⟩
omit [Io] in
theorem or_lim {k : IntKind} {a b : Nat} (h : a < lim k) (h2 : b < lim k) : a ||| b < lim k := by
  obtain ⟨n, e⟩ := lim_pow k
  rw [e] at h h2 ⊢
  exact Nat.or_lt_two_pow h h2
omit [Io] in
theorem xor_lim {k : IntKind} {a b : Nat} (h : a < lim k) (h2 : b < lim k) : a ^^^ b < lim k := by
  obtain ⟨n, e⟩ := lim_pow k
  rw [e] at h h2 ⊢
  exact Nat.xor_lt_two_pow h h2
theorem bits_ok {op : BinOp} {f : Nat → Nat → Nat} {xT : TypeId} (hop : ∀ k m n, binOp op xT (.int k m) (.int k n) = Op.intBits op k m n)
    (hf : ∀ (w : World) k a b, a < lim k → b < lim k → (Op.intBits op k (.ofNat a) (.ofNat b)).run P w = .ok (.int k (.ofNat (f a b))) w) : BinOk P op xT (bBits op f) := by
  refine bin_int fun g w k m n r h => ?_
  rw [hop]
  split at h
  · rename_i a b
    cases e : (Nat.blt a (lim k) && Nat.blt b (lim k)) with
    | true =>
      rw [e] at h
      cases h
      simp [Nat.blt_eq] at e
      exact ⟨_, hf w k a b e.1 e.2, by simp only [VR]⟩
    | false =>
      rw [e] at h
      obtain ⟨z, hz, hv⟩ := ofRun_ok h P g w
      exact ⟨z, hz, hv⟩
  · obtain ⟨z, hz, hv⟩ := ofRun_ok h P g w
    exact ⟨z, hz, hv⟩
theorem bin_and (xT : TypeId) : BinOk P .and xT bAnd := bits_ok (fun k m n => by simp [binOp]) (fun w k a b ha hb => by
  have e : k.wrap (((a &&& b : Nat) : Int)) = ((a &&& b : Nat) : Int) := wrap_lim (and_lim ha)
  simp only [Op.intBits, Sem.run_pure, BitVec.toNat_and, ofInt_lim ha, ofInt_lim hb, e]
  rfl)
theorem bin_or (xT : TypeId) : BinOk P .or xT bOr := bits_ok (fun k m n => by simp [binOp]) (fun w k a b ha hb => by
  have e : k.wrap (((a ||| b : Nat) : Int)) = ((a ||| b : Nat) : Int) := wrap_lim (or_lim ha hb)
  simp only [Op.intBits, Sem.run_pure, BitVec.toNat_or, ofInt_lim ha, ofInt_lim hb, e]
  rfl)
theorem bin_xor (xT : TypeId) : BinOk P .xor xT bXor := bits_ok (fun k m n => by simp [binOp]) (fun w k a b ha hb => by
  have e : k.wrap (((a ^^^ b : Nat) : Int)) = ((a ^^^ b : Nat) : Int) := wrap_lim (xor_lim ha hb)
  simp only [Op.intBits, Sem.run_pure, BitVec.toNat_xor, ofInt_lim ha, ofInt_lim hb, e]
  rfl)
theorem bin_andNot (xT : TypeId) : BinOk P .andNot xT bAndNot := bin_int fun g w k m n r h => by
  rw [show binOp .andNot xT (.int k m) (.int k n) = Op.intBits .andNot k m n from by simp [binOp]]
  exact ofRun_ok h P g w

theorem bin_shl (xT : TypeId) : BinOk P .shl xT bShl := by
  intro g w a b r u v ha hb h
  unfold bShl at h
  split at h
  · rename_i k m k' n
    simp only [VR] at ha hb
    subst ha; subst hb
    cases h
    refine ⟨.int k (k.wrap (m * 2 ^ min n k.bits)), by
      have : ¬ ((n : Nat) : Int) < 0 := by omega
      show (binOp .shl xT (.int k m) (.int k' ((n : Nat) : Int))).run P w = _
      simp [binOp, Op.shift, this], ?_, fun x y => eqGuard_int x y⟩
    simp only [VR, wrapF_eq, minN_eq, bitsF_eq]
    rfl
  · cases h
theorem bin_shr (xT : TypeId) : BinOk P .shr xT bShr := by
  intro g w a b r u v ha hb h
  unfold bShr at h
  split at h
  · rename_i k m k' n
    simp only [VR] at ha hb
    subst ha; subst hb
    cases h
    refine ⟨.int k (m.fdiv (2 ^ min n k.bits)), by
      have : ¬ ((n : Nat) : Int) < 0 := by omega
      show (binOp .shr xT (.int k m) (.int k' ((n : Nat) : Int))).run P w = _
      simp [binOp, Op.shift, this], ?_, fun x y => eqGuard_int x y⟩
    simp only [VR, minN_eq, bitsF_eq]
    rfl
  · cases h

-- equality
omit [Io] in
theorem run_equal {xT : TypeId} {w : World} {x y : Value} {b : Bool} (h : ∀ d, (Op.equalIn (d + 1) xT x y).run P w = .ok b w) : (Op.equal xT x y).run P w = .ok b w := h 9999
omit [Io] in
theorem equal_bool {xT : TypeId} {w : World} (a b : Bool) (h : P.underlying xT = some .bool) : (Op.equal xT (.bool a) (.bool b)).run P w = .ok (a == b) w :=
  run_equal fun d => by simp [Op.equalIn, run_underlying h]
omit [Io] in
theorem eql_bool {xT : TypeId} {w : World} (a b : Bool) (h : P.underlying xT = some .bool) : (binOp .eql xT (.bool a) (.bool b)).run P w = .ok (.bool (a == b)) w := by
  show (do pure (.bool (← Op.equal xT (.bool a) (.bool b))) : Sem Value).run P w = _
  simp [equal_bool a b h]
omit [Io] in
theorem neq_bool {xT : TypeId} {w : World} (a b : Bool) (h : P.underlying xT = some .bool) : (binOp .neq xT (.bool a) (.bool b)).run P w = .ok (.bool (!(a == b))) w := by
  show (do pure (.bool (!(← Op.equal xT (.bool a) (.bool b)))) : Sem Value).run P w = _
  simp only [Sem.run_bind, equal_bool a b h, Result.andThen_ok, Sem.run_pure]
theorem bin_eqB {xT : TypeId} (hT : P.underlying xT = some .bool) : BinOk P .eql xT (bEqB false) := by
  intro g w a b r u v ha hb h
  unfold bEqB at h
  split at h
  · rename_i m n
    simp only [VR] at ha hb
    subst ha; subst hb
    cases h
    exact ⟨_, eql_bool m n hT, by simp only [VR]; cases m <;> cases n <;> rfl, fun x y => eqGuard_bool x y⟩
  · cases h
theorem bin_neB {xT : TypeId} (hT : P.underlying xT = some .bool) : BinOk P .neq xT (bEqB true) := by
  intro g w a b r u v ha hb h
  unfold bEqB at h
  split at h
  · rename_i m n
    simp only [VR] at ha hb
    subst ha; subst hb
    cases h
    exact ⟨_, neq_bool m n hT, by simp only [VR]; cases m <;> cases n <;> rfl, fun x y => eqGuard_bool x y⟩
  · cases h
theorem bin_eqS (xT : TypeId) : BinOk P .eql xT (bEqS false) := by
  intro g w a b r u v ha hb h
  unfold bEqS at h
  split at h
  · rename_i m n
    simp only [VR] at ha hb
    obtain ⟨rfl, _⟩ := ha; obtain ⟨rfl, _⟩ := hb
    cases h
    exact ⟨.bool (m.toList == n.toList), by simp [binOp, Op.stringOp], by simp only [VR]; rfl, fun x y => eqGuard_string x y⟩
  · cases h
theorem bin_neS (xT : TypeId) : BinOk P .neq xT (bEqS true) := by
  intro g w a b r u v ha hb h
  unfold bEqS at h
  split at h
  · rename_i m n
    simp only [VR] at ha hb
    obtain ⟨rfl, _⟩ := ha; obtain ⟨rfl, _⟩ := hb
    cases h
    exact ⟨.bool (!(m.toList == n.toList)), by simp [binOp, Op.stringOp], by simp only [VR]; rfl, fun x y => eqGuard_string x y⟩
  · cases h
omit [Io] in
theorem equal_nil {xT e : TypeId} {w : World} (p : Option Addr) (h : P.underlying xT = some (.pointer e)) : (Op.equal xT (.pointer p) (.pointer none)).run P w = .ok p.isNone w :=
  run_equal fun d => by cases p <;> simp [Op.equalIn, run_underlying h]
omit [Io] in
theorem nil_equal {xT e : TypeId} {w : World} (p : Option Addr) (h : P.underlying xT = some (.pointer e)) : (Op.equal xT (.pointer none) (.pointer p)).run P w = .ok p.isNone w :=
  run_equal fun d => by cases p <;> simp [Op.equalIn, run_underlying h]
omit [Io] in
theorem eql_nil {xT e : TypeId} {w : World} (p : Option Addr) (h : P.underlying xT = some (.pointer e)) : (binOp .eql xT (.pointer p) (.pointer none)).run P w = .ok (.bool p.isNone) w := by
  show (do pure (.bool (← Op.equal xT (.pointer p) (.pointer none))) : Sem Value).run P w = _
  simp only [Sem.run_bind, equal_nil p h, Result.andThen_ok, Sem.run_pure]
omit [Io] in
theorem neq_nil {xT e : TypeId} {w : World} (p : Option Addr) (h : P.underlying xT = some (.pointer e)) : (binOp .neq xT (.pointer p) (.pointer none)).run P w = .ok (.bool (!p.isNone)) w := by
  show (do pure (.bool (!(← Op.equal xT (.pointer p) (.pointer none)))) : Sem Value).run P w = _
  simp only [Sem.run_bind, equal_nil p h, Result.andThen_ok, Sem.run_pure]
omit [Io] in
theorem nil_eql {xT e : TypeId} {w : World} (p : Option Addr) (h : P.underlying xT = some (.pointer e)) : (binOp .eql xT (.pointer none) (.pointer p)).run P w = .ok (.bool p.isNone) w := by
  cases p with
  | none => exact eql_nil none h
  | some a =>
    show (do pure (.bool (← Op.equal xT (.pointer none) (.pointer (some a)))) : Sem Value).run P w = _
    simp only [Sem.run_bind, nil_equal (some a) h, Result.andThen_ok, Sem.run_pure]
omit [Io] in
theorem nil_neq {xT e : TypeId} {w : World} (p : Option Addr) (h : P.underlying xT = some (.pointer e)) : (binOp .neq xT (.pointer none) (.pointer p)).run P w = .ok (.bool (!p.isNone)) w := by
  cases p with
  | none => exact neq_nil none h
  | some a =>
    show (do pure (.bool (!(← Op.equal xT (.pointer none) (.pointer (some a))))) : Sem Value).run P w = _
    simp only [Sem.run_bind, nil_equal (some a) h, Result.andThen_ok, Sem.run_pure]
theorem bin_eqP {xT e : TypeId} (hT : P.underlying xT = some (.pointer e)) : BinOk P .eql xT (bEqP false) := by
  intro g w a b r u v ha hb h
  unfold bEqP at h
  split at h <;> try (cases h; done)
  all_goals
    simp only [VR] at ha hb
    cases h
  · obtain ⟨_, _, _, rfl⟩ := ha; obtain ⟨rfl, _⟩ := hb
    exact ⟨_, eql_nil _ hT, by simp [VR], fun x y => eqGuard_pointer x y⟩
  · obtain ⟨_, _, _, rfl, _⟩ := ha; obtain ⟨rfl, _⟩ := hb
    exact ⟨_, eql_nil _ hT, by simp [VR], fun x y => eqGuard_pointer x y⟩
  · obtain ⟨rfl, _⟩ := ha; obtain ⟨_, _, _, rfl⟩ := hb
    exact ⟨_, nil_eql _ hT, by simp [VR], fun x y => eqGuard_pointer x y⟩
  · obtain ⟨rfl, _⟩ := ha; obtain ⟨_, _, _, rfl, _⟩ := hb
    exact ⟨_, nil_eql _ hT, by simp [VR], fun x y => eqGuard_pointer x y⟩
  · obtain ⟨rfl, _⟩ := ha; obtain ⟨rfl, _⟩ := hb
    exact ⟨_, nil_eql _ hT, by simp [VR], fun x y => eqGuard_pointer x y⟩
theorem bin_neP {xT e : TypeId} (hT : P.underlying xT = some (.pointer e)) : BinOk P .neq xT (bEqP true) := by
  intro g w a b r u v ha hb h
  unfold bEqP at h
  split at h <;> try (cases h; done)
  all_goals
    simp only [VR] at ha hb
    cases h
  · obtain ⟨_, _, _, rfl⟩ := ha; obtain ⟨rfl, _⟩ := hb
    exact ⟨_, neq_nil _ hT, by simp [VR], fun x y => eqGuard_pointer x y⟩
  · obtain ⟨_, _, _, rfl, _⟩ := ha; obtain ⟨rfl, _⟩ := hb
    exact ⟨_, neq_nil _ hT, by simp [VR], fun x y => eqGuard_pointer x y⟩
  · obtain ⟨rfl, _⟩ := ha; obtain ⟨_, _, _, rfl⟩ := hb
    exact ⟨_, nil_neq _ hT, by simp [VR], fun x y => eqGuard_pointer x y⟩
  · obtain ⟨rfl, _⟩ := ha; obtain ⟨_, _, _, rfl, _⟩ := hb
    exact ⟨_, nil_neq _ hT, by simp [VR], fun x y => eqGuard_pointer x y⟩
  · obtain ⟨rfl, _⟩ := ha; obtain ⟨rfl, _⟩ := hb
    exact ⟨_, nil_neq _ hT, by simp [VR], fun x y => eqGuard_pointer x y⟩

-- operators of one operand
omit [Io] in
theorem kUn_some {f : AV → Option AV} {x : Opd} {t : Tm} {h h' : Hp} {v : AV} (e : kUn f x t h = .ok v h') : ∃ b, x t = some b ∧ f b = some v ∧ h' = h := by
  unfold kUn at e
  cases hx : x t with
  | none => rw [hx] at e; cases e
  | some u =>
    rw [hx] at e
    cases hr : f u with
    | none => simp only [hr] at e; cases e
    | some r => simp only [hr] at e; cases e; exact ⟨u, rfl, hr, rfl⟩
theorem pure_not {T : TypeId} {x : Operand} (ho : o.op = .unOp .not T x) : OpPure P o (kUn uNot (cOpd x)) := by
  intro g w nt t h a v h' H Tr e
  obtain ⟨b, hb, hf, rfl⟩ := kUn_some e
  have hv := cOpd_ok x _ _ _ _ _ _ Tr hb
  unfold uNot at hf
  split at hf
  · rename_i b
    cases hf
    simp only [VR] at hv
    exact ⟨rfl, .bool (!b), by simp [execOp, ho, hv, Op.unary], by simp only [VR]⟩
  · cases hf
theorem pure_neg {T : TypeId} {x : Operand} (ho : o.op = .unOp .neg T x) : OpPure P o (kUn uNeg (cOpd x)) := by
  intro g w nt t h a v h' H Tr e
  obtain ⟨b, hb, hf, rfl⟩ := kUn_some e
  have hv := cOpd_ok x _ _ _ _ _ _ Tr hb
  unfold uNeg at hf
  split at hf
  · rename_i k n
    cases hf
    simp only [VR] at hv
    exact ⟨rfl, .int k (k.wrap (0 - n)), by simp [execOp, ho, hv, Op.unary, Op.intArith], by simp only [VR, wrapF_eq]; rfl⟩
  · cases hf
theorem pure_xor {T : TypeId} {x : Operand} (ho : o.op = .unOp .xor T x) : OpPure P o (kUn uXor (cOpd x)) := by
  intro g w nt t h a v h' H Tr e
  obtain ⟨b, hb, hf, rfl⟩ := kUn_some e
  have hv := cOpd_ok x _ _ _ _ _ _ Tr hb
  unfold uXor at hf
  split at hf
  · rename_i k n
    simp only [VR] at hv
    obtain ⟨z, hz, hr⟩ := ofRun_ok hf P g w
    exact ⟨rfl, z, by simp [execOp, ho, hv, hz], hr⟩
  · cases hf
theorem pure_cInt {S D : TypeId} {d : TypeDesc} {k : IntKind} {x : Operand} (ho : o.op = .convert S D x) (hS : P.underlying S = some d) (hD : P.underlying D = some (.int k)) :
    OpPure P o (kUn (cInt k) (cOpd x)) := by
  intro g w nt t h a v h' H Tr e
  obtain ⟨b, hb, hf, rfl⟩ := kUn_some e
  have hv := cOpd_ok x _ _ _ _ _ _ Tr hb
  unfold cInt at hf
  split at hf
  · rename_i k' n
    cases hf
    simp only [VR] at hv
    exact ⟨rfl, .int k (k.wrap n), by simp [execOp, ho, hv, convert, run_underlying hS, run_underlying hD, Conv.intToInt], by simp only [VR, wrapF_eq]⟩
  · cases hf

-- makeFunc
theorem pure_fn {f : FuncId} {caps : Array Operand} (ho : o.op = .makeFunc (.func f) #[] caps) : OpPure P o (kFn f (caps.toList.map cOpd)) := by
  intro g w nt t h a v h' H T e
  unfold kFn at e
  split at e
  · rename_i vs hvs
    cases e
    refine ⟨rfl, .func (.func f) #[] (caps.map a.eval), by simp [execOp, ho, Instr.makeFunc], ?_⟩
    simp only [VR]
    exact ⟨_, rfl, by simpa using opds_ok T caps.toList hvs⟩
  · cases e

-- extract
theorem pure_extract {x : Operand} {i : Nat} (ho : o.op = .extract x i) : OpPure P o (kExtract (cOpd x) i) := by
  intro g w nt t h a v h' H T e
  unfold kExtract at e
  split at e
  · rename_i vs hx
    have hv := cOpd_ok x _ _ _ _ _ _ T hx
    simp only [VR] at hv
    obtain ⟨us, hu, hr⟩ := hv
    split at e
    · rename_i r hg
      cases e
      rw [getN_eq] at hg
      obtain ⟨z, hz, hzr⟩ := VRs.get hr i _ hg
      exact ⟨rfl, z, by simp [execOp, ho, Instr.extract, hu, by simpa using hz], hzr⟩
    · cases e
  · cases e

-- len
theorem pure_lenS {x : Operand} {T : TypeId} (ho : o.op = .call { callee := .builtin .len, args := #[x], argTypes := #[T] }) (hT : P.underlying T = some .string) :
    OpPure P o (kLenS (cOpd x)) := by
  intro g w nt t h a v h' H Tr e
  unfold kLenS at e
  split at e
  · rename_i s hx
    have hv := cOpd_ok x _ _ _ _ _ _ Tr hx
    simp only [VR] at hv
    cases e
    exact ⟨rfl, .int .i64 s.size, by simp [execOp, ho, resolve, invoke, builtin, Builtin.len_, hv.1, run_underlying hT, goInt], by simp only [VR]; rfl⟩
  · cases e
theorem pure_lenA {x : Operand} {T e : TypeId} {n : Nat} (ho : o.op = .call { callee := .builtin .len, args := #[x], argTypes := #[T] }) (hT : P.underlying T = some (.array n e)) :
    OpPure P o (kMove (oC (.int .i64 (.ofNat n)))) := by
  intro g w nt t h a v h' H Tr e
  cases e
  exact ⟨rfl, .int .i64 n, by simp [execOp, ho, resolve, invoke, builtin, Builtin.len_, run_underlying hT, goInt], by simp only [VR]; rfl⟩
theorem pure_len {x : Operand} {T e : TypeId} (ho : o.op = .call { callee := .builtin .len, args := #[x], argTypes := #[T] }) (hT : P.underlying T = some (.slice e)) :
    OpPure P o (kLen (cOpd x)) := by
  intro g w nt t h a v h' H Tr e
  have sl : ∀ b n c, a.eval x = .slice b n c → (execOp a.eval o).run P w = .ok (.value (.int .i64 n)) w := by
    intro b n c hx
    simp [execOp, ho, resolve, invoke, builtin, Builtin.len_, hx, run_underlying hT, goInt]
  unfold kLen at e
  split at e
  · rename_i id off n sz hx
    have hv := cOpd_ok x _ _ _ _ _ _ Tr hx
    simp only [VR] at hv
    cases e
    rcases hv with ⟨rfl, b, hv⟩ | ⟨b, s, cap, _, hv, _⟩
    · exact ⟨rfl, _, sl _ _ _ hv, by simp only [VR]; rfl⟩
    · exact ⟨rfl, _, sl _ _ _ hv, by simp only [VR]; rfl⟩
  · rename_i n cs hx
    have hv := cOpd_ok x _ _ _ _ _ _ Tr hx
    simp only [VR] at hv
    cases e
    obtain ⟨b, cap, hv, _⟩ := hv
    exact ⟨rfl, _, sl _ _ _ hv, by simp only [VR]; rfl⟩
  · rename_i hx
    have hv := cOpd_ok x _ _ _ _ _ _ Tr hx
    simp only [VR] at hv
    cases e
    obtain ⟨b, hv⟩ := hv
    exact ⟨rfl, _, sl _ _ _ hv, by simp only [VR]; rfl⟩
  · cases e

end
end Go.Ab
