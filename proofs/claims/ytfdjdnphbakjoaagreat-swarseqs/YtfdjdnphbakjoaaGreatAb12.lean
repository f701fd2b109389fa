import Derived.Test.YtfdjdnphbakjoaaGreatAb11
namespace Go.Ab
variable [Io]
section
variable {P : Program} {o : Oper} {call : CallF}

theorem pure_cLoad {T : TypeId} {x : Operand} (ho : o.op = .load T x) : OpPure P o (cLoad P T x) := by
  unfold cLoad
  split
  · rename_i d hd
    split
    · rename_i i hi; exact pure_load ho hd hi
    · exact pure_bad
  · exact pure_bad
theorem pure_cConv {S D : TypeId} {x : Operand} (ho : o.op = .convert S D x) : OpPure P o (cConv P S D x) := by
  unfold cConv
  split
  · rename_i d hd
    split
    · rename_i k hk; exact pure_cIntS ho hd hk
    · exact pure_bad
  · exact pure_bad
theorem run_cConvB {S D : TypeId} {x : Operand} (ho : o.op = .convert S D x) : OpRun P o (cConvB P S D x) := by
  unfold cConvB
  split
  · rename_i hS
    split
    · rename_i e hD
      split
      · rename_i he; exact run_kBytes ho hS hD he
      · exact pure_bad.run
    · exact pure_bad.run
  · exact pure_bad.run
theorem pure_ifb {c : Bool} {f : OpF} (h : c = true → OpPure P o f) : OpPure P o (ifb c f kBad) := by
  cases c with
  | true => exact h rfl
  | false => exact pure_bad
theorem pure_cFieldAddr {T : TypeId} {x : Operand} {n : Nat} (ho : o.op = .fieldAddr T x n) : OpPure P o (cFieldAddr P T x n) := by
  unfold cFieldAddr
  split
  · rename_i fs hd
    split
    · rename_i f hf
      split
      · rename_i i hi
        exact pure_ifb fun h => pure_fieldAddr ho hd hf hi (by have := blt_iff.1 h; omega)
      · exact pure_bad
    · exact pure_bad
  · exact pure_bad
theorem pure_cField {T : TypeId} {x : Operand} {n : Nat} (ho : o.op = .field T x n) : OpPure P o (cField P T x n) := by
  unfold cField
  split
  · rename_i fs hd
    split
    · rename_i f hf
      split
      · rename_i d hd2
        split
        · rename_i i hi
          exact pure_field ho hd hf hd2 hi
        · exact pure_bad
      · exact pure_bad
    · exact pure_bad
  · exact pure_bad
theorem pure_cIndexAddr {T : TypeId} {x y : Operand} (ho : o.op = .indexAddr T x y) : OpPure P o (cIndexAddr P T x y) := by
  unfold cIndexAddr
  split
  · rename_i e hd
    split
    · rename_i i hi; exact pure_ixS ho hd hi
    · exact pure_bad
  · rename_i n e hd
    split
    · rename_i i hi; exact pure_ixA ho hd hi
    · exact pure_bad
  · exact pure_bad
theorem pure_cIndex {T : TypeId} {x y : Operand} (ho : o.op = .index T x y) : OpPure P o (cIndex P T x y) := by
  unfold cIndex
  split
  · rename_i n e hd
    split
    · rename_i d hd2
      split
      · rename_i i hi; exact pure_index ho hd hd2 hi
      · exact pure_bad
    · exact pure_bad
  · rename_i hd; exact pure_indexS ho hd
  · exact pure_bad
theorem pure_cSlice {T : TypeId} {x : Operand} {lo hi : Option Operand} (ho : o.op = .slice T x lo hi none) : OpPure P o (cSlice P T x lo hi) := by
  unfold cSlice
  split
  · rename_i hd; exact pure_sliceS ho hd
  · rename_i e hd
    split
    · rename_i i hi; exact pure_slice ho hd hi
    · exact pure_bad
  · rename_i n e hd
    split
    · rename_i i hi; exact pure_ifb fun h => pure_sliceA ho hd hi (by have := blt_iff.1 h; omega)
    · exact pure_bad
  · exact pure_bad
theorem pure_cLen {T : TypeId} {x : Operand} (ho : o.op = .call { callee := .builtin .len, args := #[x], argTypes := #[T] }) : OpPure P o (cLen P T x) := by
  unfold cLen
  split
  · rename_i hd; exact pure_lenS ho hd
  · rename_i e hd; exact pure_len ho hd
  · rename_i n e hd; exact pure_lenA ho hd
  · exact pure_bad
theorem new_bad : OpNew P o kBad := by intro g w nt t h a v h' _ _ e; cases e
theorem new_cNew {T : TypeId} (ho : o.op = .alloc T) : OpNew P o (cNew P T) := by
  unfold cNew
  split
  · rename_i z hz; exact run_kNew ho hz
  · exact new_bad
theorem pure_cUn {op : UnOp} {T : TypeId} {x : Operand} {f : AV → Option AV} (ho : o.op = .unOp op T x) (h : cUn op = some f) : OpPure P o (kUn f (cOpd x)) := by
  cases op <;> cases h
  · exact pure_neg ho
  · exact pure_xor ho
  · exact pure_not ho

omit [Io] in
theorem arr1 {α : Type} {a : Array α} {x : α} (h : a.toList = [x]) : a = #[x] := by
  rw [← Array.toArray_toList (xs := a), h]
omit [Io] in
theorem arr2 {α : Type} {a : Array α} {x y : α} (h : a.toList = [x, y]) : a = #[x, y] := by
  rw [← Array.toArray_toList (xs := a), h]

theorem pure_cBuiltin {c : Call} {f : OpF} (ho : o.op = .call c) (h : cBuiltin P c = some f) : OpPure P o f := by
  unfold cBuiltin at h
  split at h
  · rename_i args ats
    split at h
    · rename_i x T h1 h2
      cases h
      rw [arr1 h1, arr1 h2] at ho
      exact pure_cLen ho
    · cases h; exact pure_bad
  · rename_i args ats
    split at h
    · rename_i x y h1
      cases h
      rw [arr2 h1] at ho
      exact pure_min ho
    · cases h; exact pure_bad
  · rename_i args ats
    split at h
    · rename_i x y h1
      cases h
      rw [arr2 h1] at ho
      exact pure_max ho
    · cases h; exact pure_bad
  · cases h

theorem ok_cCall (hc : CallOk P call) {c : Call} (ho : o.op = .call c) : OpOk P o (cCall P call c) := by
  unfold cCall
  split
  · rename_i args ats
    split
    · rename_i s x T T' h1 h2
      rw [arr2 h1, arr2 h2] at ho
      cases h : Nat.beq T T' with
      | true =>
        obtain rfl := Nat.eq_of_beq_eq_true h
        exact (run_kAppend ho).ok
      | false => exact ok_bad
    · exact ok_bad
  · exact ok_call hc ho
  · exact ok_callV hc ho
  · exact ok_bad

/-- An operation of the first two kinds leaves the world alone; one of the third makes a row; each is what it says. -/
theorem cOp_all (hc : CallOk P call) : match cOp P call o.op with
    | (.p0, f) => OpPure P o f
    | (.p1, f) => OpPure P o f
    | (.al, f) => OpNew P o f
    | (.ch, f) => OpOk P o f := by
  cases ho : o.op <;> simp only [cOp]
  case move x => exact pure_move (.inl ho)
  case assign x => exact pure_move (.inr ho)
  case pick c x y => exact pure_pick ho
  case alloc T => exact new_cNew ho
  case box T x => exact run_kBox ho
  case build T ps => exact pure_build ho
  case buildSlice T n ps => exact run_kRow ho
  case load T x => exact pure_cLoad ho
  case store T x y => exact (run_kStore ho).ok
  case nilCheck x => exact pure_nil ho
  case binOp op T x y yT =>
    cases h : cBin P op T with
    | some f => exact pure_bin ho (cBin_ok h)
    | none => exact pure_bad
  case unOp op T x =>
    cases h : cUn op with
    | some f => exact pure_cUn ho h
    | none => exact pure_bad
  case convert S D x =>
    cases h : P.underlying D with
    | none => exact pure_cConv ho
    | some d => cases d <;> first | exact pure_cConv ho | exact (run_cConvB ho).ok
  case makeFunc f first caps =>
    cases f <;> try exact ok_bad
    rename_i f
    simp only
    cases h : first.toList with
    | nil =>
      have : first = #[] := by rw [← Array.toArray_toList (xs := first), h]
      subst this
      exact pure_fn ho
    | cons a l => exact pure_bad
  case makeSlice T l c => exact run_kMake ho
  case slice T x lo hi mx =>
    cases mx with
    | none => exact pure_cSlice ho
    | some m => exact ok_bad
  case fieldAddr T x n => exact pure_cFieldAddr ho
  case field T x n => exact pure_cField ho
  case indexAddr T x y => exact pure_cIndexAddr ho
  case index T x y => exact pure_cIndex ho
  case extract x i => exact pure_extract ho
  case call c =>
    cases h : cBuiltin P c with
    | some f => exact pure_cBuiltin ho h
    | none => exact ok_cCall hc ho
  all_goals exact ok_bad

theorem cOp_ok (hc : CallOk P call) : OpOk P o (cOp P call o.op).2 := by
  have := cOp_all (o := o) hc
  cases h : cOp P call o.op with
  | mk c f =>
    rw [h] at this
    cases c
    · exact OpPure.ok this
    · exact OpPure.ok this
    · exact OpNew.ok this
    · exact this

-- regions in the order of the text
/-- Whether an operation is wanted. -/
noncomputable def gF (j : Opd) (want : Bool) (f : OpF) : OpF := fun t h => match j t with
  | some (.bool b) => ifb (ifb want b (!b)) (f t h) (.ok undefA h)
  | some (.tup []) => .ok undefA h
  | _ => .bad

/-- The operation with its guard. -/
noncomputable def gOp (P : Program) (call : CallF) (nt : Nat) (all : List Oper) (o : Oper) : OpF :=
  match o.guard with
  | none => (cOp P call o.op).2
  | some (j, want) => match getN all j with
    | some oj => match oj.dst with
      | some d => ifb (Nat.blt d nt) (gF (oT d) want (cOp P call o.op).2) kBad
      | none => kBad
    | none => kBad

noncomputable def cRegion (P : Program) (call : CallF) (nt : Nat) (all l : List Oper) : RgF :=
  List.rec fi (fun o _ ih => match o.dst with
    | some d => ifb (Nat.blt d nt) (st (sT d) (gOp P call nt all o) ih) (fun _ _ => .bad)
    | none => sn (gOp P call nt all o) ih) l

/-- One operation of a region. -/
theorem step_ok (hc : CallOk P call) {ops : Array Oper} {i : Nat} (hi : ops[i]? = some o) {g w nt t h} {a : Act} {v : AV} {h' : Hp} (H : HR g w h) (T : TR g w nt t a.tmps)
    (e : gOp P call nt ops.toList o t h = .ok v h') {Q : Exit → Act → World → Prop} {rest : List Nat}
    (K : ∀ g' w' x, Ext g w h g' w' h' → HR g' w' h' → VR g' w' v x → wpOps P ops Q rest (a.put o.dst x) w') : wpOps P ops Q (i :: rest) a w := by
  rw [wpOps, hi]
  simp only
  unfold gOp at e
  cases hg : o.guard with
  | none =>
    rw [hg] at e
    rw [if_pos (by simp [Region.wanted, hg])]
    exact .inl (cOp_ok hc g w nt t h a v h' H T e _ _ K)
  | some p =>
    obtain ⟨j, want⟩ := p
    rw [hg] at e
    simp only [getN_eq] at e
    cases hj : ops.toList[j]? with
    | none => simp only [hj] at e; cases e
    | some oj =>
    simp only [hj] at e
    cases hd : oj.dst with
    | none => simp only [hd] at e; cases e
    | some d =>
    simp only [hd] at e
    cases hb : Nat.blt d nt with
    | false => simp only [hb] at e; cases e
    | true =>
    simp only [hb] at e
    have hdn := blt_iff.1 hb
    change gF (oT d) want (cOp P call o.op).2 t h = .ok v h' at e
    have hj' : ops[j]? = some oj := by simpa using hj
    have hsz := T.2.1
    have hy : ∀ y, a.tmps.getD d undef = y → yielded ops a.tmps j = match y with | .bool b => some b | _ => none := by
      intro y hy
      have : a.tmps[d]? = some y := by
        rw [Array.getD_eq_getD_getElem?] at hy
        rw [Array.getElem?_eq_getElem (by omega)] at hy ⊢
        simpa using hy
      simp [yielded, hj', hd, this]
      cases y <;> rfl
    unfold gF at e
    split at e
    · rename_i b hb2
      have hv := (T.2.2 d _ (by have := T.1; omega) hb2).2
      simp only [VR] at hv
      have hy2 := hy _ hv
      cases hwb : (ifb want b (!b)) with
      | true =>
        rw [hwb] at e
        have : b = want := by cases want <;> cases b <;> simp [ifb] at hwb <;> rfl
        rw [if_pos (by simp [Region.wanted, hg, hy2, this])]
        exact .inl (cOp_ok hc g w nt t h a v h' H T e _ _ K)
      | false =>
        rw [hwb] at e
        have : b ≠ want := by cases want <;> cases b <;> simp [ifb] at hwb <;> simp
        rw [if_neg (by simp [Region.wanted, hg, hy2, this])]
        cases e
        exact K g w undef (Ext.refl _ _ _) H (by simp only [undefA, VR]; exact ⟨_, rfl, by simp [VRs]⟩)
    · rename_i hb2
      have hv := (T.2.2 d _ (by have := T.1; omega) hb2).2
      simp only [VR] at hv
      obtain ⟨vs, hv, hvs⟩ := hv
      have hy2 := hy _ hv
      rw [if_neg (by simp [Region.wanted, hg, hy2])]
      cases e
      exact K g w undef (Ext.refl _ _ _) H (by simp only [undefA, VR]; exact ⟨_, rfl, by simp [VRs]⟩)
    · cases e

end
end Go.Ab
