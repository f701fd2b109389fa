import Derived.Test.YtfdjdnphbakjoaaAbE
namespace Go.Ab
variable [Io]

/-- A call: what it comes to. -/
def CallOk (P : Program) (call : CallF) : Prop :=
  ∀ f args h v h', call f args h = .ok v h' → (∀ as w, (callFunc f as).run P w = .ok (.enter f as) w) ∧
    ∀ (g : G) (w : World) (vs : List Value), HR g w h → VRs g w args vs →
      Calls P f vs.toArray w fun e w' => ∃ x g', e = .returned x ∧ Ext g w h g' w' h' ∧ HR g' w' h' ∧ VR g' w' v x

noncomputable def cBin (P : Program) (op : BinOp) (T : TypeId) : Option (AV → AV → Option AV) :=
  match op with
  | .add => some bAddS | .sub => some bSubS | .mul => some bMul | .quo => some bQuo | .rem => some bRemS
  | .and => some bAnd | .or => some bOr | .xor => some bXor | .andNot => some bAndNot | .shl => some bShl | .shr => some bShr
  | .lss => some bLssS | .leq => some bLeqS | .gtr => some bGtrS | .geq => some bGeqS
  | .eql => match P.underlying T with
    | some (.int _) => some (bEqIS false)
    | some .bool => some (bEqB false)
    | some .string => some (bEqS false)
    | some (.pointer _) => some (bEqP false)
    | some (.struct _) => cEqA P false T
    | _ => none
  | .neq => match P.underlying T with
    | some (.int _) => some (bEqIS true)
    | some .bool => some (bEqB true)
    | some .string => some (bEqS true)
    | some (.pointer _) => some (bEqP true)
    | some (.struct _) => cEqA P true T
    | _ => none

theorem cBin_ok {P : Program} {op : BinOp} {T : TypeId} {f : AV → AV → Option AV} (h : cBin P op T = some f) : BinOk P op T f := by
  unfold cBin at h
  cases op <;> simp only at h
  case eql =>
    split at h
    · cases h; exact bin_eqIS T
    · rename_i hu; cases h; exact bin_eqB hu
    · cases h; exact bin_eqS T
    · rename_i hu; cases h; exact bin_eqP hu
    · exact cEqA_eq h
    · cases h
  case neq =>
    split at h
    · cases h; exact bin_neIS T
    · rename_i hu; cases h; exact bin_neB hu
    · cases h; exact bin_neS T
    · rename_i hu; cases h; exact bin_neP hu
    · exact cEqA_ne h
    · cases h
  all_goals cases h
  case add => exact bin_addS T
  case sub => exact bin_subS T
  case mul => exact bin_mul T
  case quo => exact bin_quo T
  case rem => exact bin_remS T
  case and => exact bin_and T
  case or => exact bin_or T
  case xor => exact bin_xor T
  case shl => exact bin_shl T
  case shr => exact bin_shr T
  case andNot => exact bin_andNot T
  case lss => exact bin_lssS T
  case leq => exact bin_leqS T
  case gtr => exact bin_gtrS T
  case geq => exact bin_geqS T

noncomputable def cUn (op : UnOp) : Option (AV → Option AV) :=
  match op with
  | .not => some uNot
  | .neg => some uNeg
  | .xor => some uXor
  | .plus => none

noncomputable def cLoad (P : Program) (T : TypeId) (x : Operand) : OpF :=
  match P.underlying T with
  | some d => match P.info? T with
    | some i => kLoad i.size (isAggD d) (cOpd x)
    | none => kBad
  | none => kBad
noncomputable def cConv (P : Program) (S D : TypeId) (x : Operand) : OpF :=
  match P.underlying S with
  | some _ => match P.underlying D with
    | some (.int k) => kUn (cIntS k) (cOpd x)
    | _ => kBad
  | none => kBad
noncomputable def cConvB (P : Program) (S D : TypeId) (x : Operand) : OpF :=
  match P.underlying S with
  | some .string => match P.underlying D with
    | some (.slice e) => match P.underlying e with
      | some (.int .u8) => kBytes (cOpd x)
      | _ => kBad
    | _ => kBad
  | _ => kBad
noncomputable def cFieldAddr (P : Program) (T : TypeId) (x : Operand) (n : Nat) : OpF :=
  match P.underlying T with
  | some (.struct fs) => match fs[n]? with
    | some f => match P.info? f.type with
      | some i => ifb (Nat.blt 0 i.size) (kFieldAddr f.offset (cOpd x)) kBad
      | none => kBad
    | none => kBad
  | _ => kBad
noncomputable def cField (P : Program) (T : TypeId) (x : Operand) (n : Nat) : OpF :=
  match P.underlying T with
  | some (.struct fs) => match fs[n]? with
    | some f => match P.underlying f.type with
      | some d => match P.info? f.type with
        | some i => kField f.offset i.size (isAggD d) (cOpd x)
        | none => kBad
      | none => kBad
    | none => kBad
  | _ => kBad
noncomputable def cIndexAddr (P : Program) (T : TypeId) (x y : Operand) : OpF :=
  match P.underlying T with
  | some (.slice e) => match P.info? e with
    | some i => kIxS i.size (cOpd x) (cOpd y)
    | none => kBad
  | some (.array n e) => match P.info? e with
    | some i => kIxA n i.size (cOpd x) (cOpd y)
    | none => kBad
  | _ => kBad
noncomputable def cIndex (P : Program) (T : TypeId) (x y : Operand) : OpF :=
  match P.underlying T with
  | some (.array n e) => match P.underlying e with
    | some d => match P.info? e with
      | some i => kIndex n i.size (isAggD d) (cOpd x) (cOpd y)
      | none => kBad
    | none => kBad
  | some .string => kIndexS (cOpd x) (cOpd y)
  | _ => kBad
noncomputable def cSlice (P : Program) (T : TypeId) (x : Operand) (lo hi : Option Operand) : OpF :=
  match P.underlying T with
  | some .string => kSliceS (cOpd x) (lo.map cOpd) (hi.map cOpd)
  | some (.slice e) => match P.info? e with
    | some i => kSlice i.size (cOpd x) (lo.map cOpd) (hi.map cOpd)
    | none => kBad
  | some (.array n e) => match P.info? e with
    | some i => ifb (Nat.blt 0 i.size) (kSliceA n i.size (cOpd x) (lo.map cOpd) (hi.map cOpd)) kBad
    | none => kBad
  | _ => kBad
noncomputable def cLen (P : Program) (T : TypeId) (x : Operand) : OpF :=
  match P.underlying T with
  | some .string => kLenS (cOpd x)
  | some (.slice _) => kLen (cOpd x)
  | some (.array n _) => kMove (oC (.int .i64 (.ofNat n)))
  | _ => kBad
noncomputable def cNew (P : Program) (T : TypeId) : OpF :=
  match zeroOf P T with
  | some z => kNew z
  | none => kBad

/-- The kinds of operations: that leave the store alone and don't look at it; that look at it; that make a row; all others. -/
inductive Cl where
  | p0 | p1 | al | ch

noncomputable def cCall (P : Program) (call : CallF) (c : Call) : OpF :=
  match c with
  | ⟨.builtin .append, args, ats⟩ => match args.toList, ats.toList with
    | [s, x], [T, T'] => ifb (Nat.beq T T') (cAppend P T s x) kBad
    | _, _ => kBad
  | ⟨.value (.func f), args, _⟩ => kCall call f (args.toList.map cOpd)
  | ⟨.value f, args, _⟩ => kCallV call (cOpd f) (args.toList.map cOpd)
  | _ => kBad
noncomputable def cBuiltin (P : Program) (c : Call) : Option OpF :=
  match c with
  | ⟨.builtin .len, args, ats⟩ => match args.toList, ats.toList with
    | [x], [T] => some (cLen P T x)
    | _, _ => some kBad
  | ⟨.builtin .min, args, _⟩ => match args.toList with
    | [x, y] => some (kMin (cOpd x) (cOpd y))
    | _ => some kBad
  | ⟨.builtin .max, args, _⟩ => match args.toList with
    | [x, y] => some (kMax (cOpd x) (cOpd y))
    | _ => some kBad
  | _ => none

/-- An operation, by what it does. -/
noncomputable def cOp (P : Program) (call : CallF) (o : Op) : Cl × OpF :=
  match o with
  | .move x => (.p0, kMove (cOpd x))
  | .assign x => (.p0, kMove (cOpd x))
  | .pick c x y => (.p0, kPick (cOpd c) (cOpd x) (cOpd y))
  | .alloc T => (.al, cNew P T)
  | .box _ x => (.al, kBox (cOpd x))
  | .build T ps => (.p0, cBuild P T ps.toList)
  | .buildSlice T n ps => (.al, cRow P T n ps.toList)
  | .load T x => (.p1, cLoad P T x)
  | .store T x y => (.ch, cStore P T x y)
  | .nilCheck x => (.p0, kNil (cOpd x))
  | .binOp op T x y _ => match cBin P op T with
    | some f => (.p0, kBin f (cOpd x) (cOpd y))
    | none => (.p0, kBad)
  | .unOp op _ x => match cUn op with
    | some f => (.p0, kUn f (cOpd x))
    | none => (.p0, kBad)
  | .convert S D x => match P.underlying D with
    | some (.slice _) => (.ch, cConvB P S D x)
    | _ => (.p0, cConv P S D x)
  | .makeFunc (.func f) first caps => match first.toList with
    | [] => (.p0, kFn f (caps.toList.map cOpd))
    | _ => (.p0, kBad)
  | .makeSlice T l c => (.al, cMake P T l c)
  | .slice T x lo hi none => (.p1, cSlice P T x lo hi)
  | .fieldAddr T x n => (.p0, cFieldAddr P T x n)
  | .field T x n => (.p0, cField P T x n)
  | .indexAddr T x y => (.p0, cIndexAddr P T x y)
  | .index T x y => (.p0, cIndex P T x y)
  | .extract x i => (.p0, kExtract (cOpd x) i)
  | .call c => match cBuiltin P c with
    | some f => (.p0, f)
    | none => (.ch, cCall P call c)
  | _ => (.ch, kBad)

def OpOk (P : Program) (o : Oper) (f : OpF) : Prop :=
  ∀ (g : G) (w : World) (nt : Nat) (t : Tm) (h : Hp) (a : Act) (v : AV) (h' : Hp), HR g w h → TR g w nt t a.tmps → f t h = .ok v h' →
    ∀ next Q, (∀ g' w' x, Ext g w h g' w' h' → HR g' w' h' → VR g' w' v x → next (a.put o.dst x) w') → o.wp P a w next Q

section
variable {P : Program} {o : Oper}

theorem OpRun.ok {f : OpF} (h : OpRun P o f) : OpOk P o f := by
  intro g w nt t hp a v h' H T e next Q K
  obtain ⟨g', w', nx, x, hr, hnx, E, H', hv⟩ := h g w nt t hp a v h' H T e
  unfold Oper.wp
  rw [hr]
  rcases hnx with rfl | ⟨rfl, rfl⟩
  · exact K g' w' x E H' hv
  · exact K g' w' undef E H' hv
theorem OpPure.ok {f : OpF} (h : OpPure P o f) : OpOk P o f := h.run.ok
theorem OpNew.ok {f : OpF} (h : OpNew P o f) : OpOk P o f := h.run.ok
theorem ok_bad : OpOk P o kBad := by intro g w nt t h a v h' _ _ e; cases e

theorem ok_call {f : FuncId} {args : Array Operand} {ats : Array TypeId} {call : CallF} (hc : CallOk P call) (ho : o.op = .call { callee := .value (.func f), args, argTypes := ats }) :
    OpOk P o (kCall call f (args.toList.map cOpd)) := by
  intro g w nt t h a v h' H T e next Q K
  unfold kCall at e
  split at e
  · rename_i vs hvs
    obtain ⟨hen, hcall⟩ := hc f vs h v h' e
    have hv := opds_ok T args.toList hvs
    have hr : (execOp a.eval o).run P w = .ok (.enter f (args.map a.eval)) w := by
      simp [execOp, ho, resolve, Act.eval, Deferred.ofValue, invoke, hen]
    unfold Oper.wp
    rw [hr, Oper.upon_enter]
    have := hcall g w (args.toList.map a.eval) H hv
    rw [show (args.toList.map a.eval).toArray = args.map a.eval from by rw [← Array.toList_map, Array.toArray_toList]] at this
    refine this.mono ?_
    rintro e w' ⟨x, g', rfl, E, H', hx⟩
    exact K g' w' x E H' hx
  · cases e

theorem ok_callV {f : Operand} {args : Array Operand} {ats : Array TypeId} {call : CallF} (hc : CallOk P call) (ho : o.op = .call { callee := .value f, args, argTypes := ats }) :
    OpOk P o (kCallV call (cOpd f) (args.toList.map cOpd)) := by
  intro g w nt t h a v h' H T e next Q K
  unfold kCallV at e
  split at e
  · rename_i k cap hf
    split at e
    · rename_i vs hvs
      have hfv := cOpd_ok f _ _ _ _ _ _ T hf
      simp only [VR] at hfv
      obtain ⟨caps, hfe, hcaps⟩ := hfv
      obtain ⟨hen, hcall⟩ := hc k _ h v h' e
      have hv := opds_ok T args.toList hvs
      have hr : (execOp a.eval o).run P w = .ok (.enter k (args.map a.eval ++ caps)) w := by
        simp [execOp, ho, resolve, hfe, Deferred.ofValue, invoke, hen]
      unfold Oper.wp
      rw [hr, Oper.upon_enter]
      rw [app_eq] at hcall
      have := hcall g w (args.toList.map a.eval ++ caps.toList) H (hv.append hcaps)
      rw [show (args.toList.map a.eval ++ caps.toList).toArray = args.map a.eval ++ caps from by rw [← Array.toList_map, ← Array.toList_append, Array.toArray_toList]] at this
      refine this.mono ?_
      rintro e w' ⟨x, g', rfl, E, H', hx⟩
      exact K g' w' x E H' hx
    · cases e
  · cases e

end
end Go.Ab
