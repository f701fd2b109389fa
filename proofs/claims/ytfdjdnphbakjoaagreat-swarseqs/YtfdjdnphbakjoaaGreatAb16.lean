import Derived.Test.YtfdjdnphbakjoaaGreatAb15
namespace Go.Ab
variable [Io]
section
variable {P : Program} {call : CallF}

omit [Io] in
theorem opds_dep {t t' : Tm} : ∀ (l : List Operand), (∀ x ∈ l, cOpd x t = cOpd x t') → opds (l.map cOpd) t = opds (l.map cOpd) t'
  | [], _ => rfl
  | x :: l, h => by
    show (Option.rec none (fun v => Option.rec none (fun vs => some (v :: vs)) (opds (l.map cOpd) t)) (cOpd x t) : Option (List AV)) =
      Option.rec none (fun v => Option.rec none (fun vs => some (v :: vs)) (opds (l.map cOpd) t')) (cOpd x t')
    rw [h x List.mem_cons_self, opds_dep l fun y hy => h y (List.mem_cons_of_mem _ hy)]
omit [Io] in
theorem parts2_dep {t t' : Tm} : ∀ (l : List (Nat × Operand)), (∀ x ∈ l.map (·.2), cOpd x t = cOpd x t') → parts2 (cPairs l) t = parts2 (cPairs l) t'
  | [], _ => rfl
  | p :: l, h => by
    show (match cOpd p.2 t with | some v => (match parts2 (cPairs l) t with | some vs => some ((p.1, v) :: vs) | none => none) | none => none) =
      (match cOpd p.2 t' with | some v => (match parts2 (cPairs l) t' with | some vs => some ((p.1, v) :: vs) | none => none) | none => none)
    rw [h p.2 List.mem_cons_self, parts2_dep l fun y hy => h y (List.mem_cons_of_mem _ hy)]
omit [Io] in
theorem parts3_dep {t t' : Tm} {place : Nat → Option (Nat × Nat)} : ∀ (l : List (Nat × Operand)) (ps : List (Nat × Nat × Opd)), cParts place l = some ps → (∀ x ∈ l.map (·.2), cOpd x t = cOpd x t') → parts3 ps t = parts3 ps t'
  | [], ps, e, _ => by cases e; rfl
  | p :: l, ps, e, h => by
    change (match place p.1 with | some (off, size) => (match cParts place l with | some r => some ((off, size, cOpd p.2) :: r) | none => none) | none => none) = some ps at e
    split at e
    · split at e
      · rename_i r hr
        cases e
        show (match cOpd p.2 t with | some v => (match parts3 r t with | some vs => some ((_, _, v) :: vs) | none => none) | none => none) =
          (match cOpd p.2 t' with | some v => (match parts3 r t' with | some vs => some ((_, _, v) :: vs) | none => none) | none => none)
        rw [h p.2 List.mem_cons_self, parts3_dep l r hr fun y hy => h y (List.mem_cons_of_mem _ hy)]
      · cases e
    · cases e
omit [Io] in
theorem natArg_dep {t t' : Tm} {d : Nat} (x : Option Operand) (h : ∀ y ∈ x.toList, cOpd y t = cOpd y t') : natArg (x.map cOpd) t d = natArg (x.map cOpd) t' d := by
  cases x with
  | none => rfl
  | some y => simp only [Option.map_some, natArg, h y (by simp)]
omit [Io] in
theorem bounds_dep {t t' : Tm} {n : Nat} (lo hi : Option Operand) (h1 : ∀ y ∈ lo.toList, cOpd y t = cOpd y t') (h2 : ∀ y ∈ hi.toList, cOpd y t = cOpd y t') :
    bounds (lo.map cOpd) (hi.map cOpd) t n = bounds (lo.map cOpd) (hi.map cOpd) t' n := by
  unfold bounds
  rw [natArg_dep lo h1, natArg_dep hi h2]

/-- It answers the same on two frames. -/
def DepF (t t' : Tm) (h : Hp) (f : OpF) : Prop := f t h = f t' h
omit [Io] in
theorem dep_bad {t t' : Tm} {h : Hp} : DepF t t' h kBad := rfl
omit [Io] in
theorem dep_ifb {t t' : Tm} {h : Hp} {c : Bool} {f : OpF} (e : DepF t t' h f) : DepF t t' h (ifb c f kBad) := by cases c; exact dep_bad; exact e

omit [Io] in
theorem cOp_dep {t t' : Tm} {h : Hp} (o : Op) (e : ∀ x ∈ o.operands.toList, cOpd x t = cOpd x t') : DepF t t' h (cOp P call o).2 := by
  cases o <;> simp only [cOp]
  case move x => simp only [DepF, kMove, e x (by simp [Op.operands])]
  case assign x => simp only [DepF, kMove, e x (by simp [Op.operands])]
  case pick c x y => simp only [DepF, kPick, kMove, e c (by simp [Op.operands]), e x (by simp [Op.operands]), e y (by simp [Op.operands])]
  case alloc T => unfold cNew; split <;> rfl
  case box T x => simp only [DepF, kBox, e x (by simp [Op.operands])]
  case build T ps =>
    unfold cBuild
    split
    · split
      · split
        · rename_i q h3
          simp only [DepF, kBuild, parts3_dep (t := t) (t' := t') ps.toList q h3 (fun x hx => e x (by simpa [Op.operands] using hx))]
        · rfl
      · rfl
    · rfl
  case buildSlice T n ps =>
    have hp := parts2_dep (t := t) (t' := t') ps.toList (fun x hx => e x (by simpa [Op.operands] using hx))
    unfold cRow
    split
    · split
      · split
        · refine dep_ifb ?_
          simp only [DepF, kRow, hp]
        · rfl
      · rfl
    · rfl
  case load T x =>
    unfold cLoad
    split
    · split
      · simp only [DepF, kLoad, e x (by simp [Op.operands])]
      · rfl
    · rfl
  case store T x y =>
    unfold cStore
    split
    · refine dep_ifb ?_
      simp only [DepF, kStore, e x (by simp [Op.operands]), e y (by simp [Op.operands])]
    · rfl
  case nilCheck x => simp only [DepF, kNil, e x (by simp [Op.operands])]
  case binOp op T x y yT =>
    cases cBin P op T with
    | none => rfl
    | some f => simp only [DepF, kBin, e x (by simp [Op.operands]), e y (by simp [Op.operands])]
  case unOp op T x =>
    cases cUn op with
    | none => rfl
    | some f => simp only [DepF, kUn, e x (by simp [Op.operands])]
  case convert S D x =>
    have hx := e x (by simp [Op.operands])
    split
    · simp only [cConvB]
      split
      · split
        · split
          · simp only [DepF, kBytes, hx]
          · rfl
        · rfl
      · rfl
    · simp only [cConv]
      split
      · split
        · simp only [DepF, kUn, hx]
        · rfl
      · rfl
  case makeFunc f first caps =>
    cases f <;> try rfl
    simp only
    split
    · simp only [DepF, kFn, opds_dep (t := t) (t' := t') caps.toList (fun x hx => e x (by simp [Op.operands]; exact .inr (by simpa using hx)))]
    · rfl
  case makeSlice T l c =>
    have h1 := e l (by simp [Op.operands])
    have h2 := e c (by simp [Op.operands])
    unfold cMake
    split
    · split
      · split
        · refine dep_ifb ?_
          simp only [DepF, kMake, h1, h2]
        · rfl
      · rfl
    · rfl
  case slice T x lo hi mx =>
    cases mx with
    | some m => rfl
    | none =>
    have hx := e x (by simp [Op.operands])
    have hl : ∀ y ∈ lo.toList, cOpd y t = cOpd y t' := fun y hy => e y (by simp [Op.operands]; right; left; simpa using hy)
    have hh : ∀ y ∈ hi.toList, cOpd y t = cOpd y t' := fun y hy => e y (by simp [Op.operands]; right; right; simpa using hy)
    have hb : ∀ n, bounds (lo.map cOpd) (hi.map cOpd) t n = bounds (lo.map cOpd) (hi.map cOpd) t' n := fun n => bounds_dep lo hi hl hh
    simp only
    unfold cSlice
    split
    · simp only [DepF, kSliceS, hx, hb]
    · split
      · simp only [DepF, kSlice, hx, hb]
      · rfl
    · split
      · refine dep_ifb ?_
        simp only [DepF, kSliceA, hx, hb]
      · rfl
    · rfl
  case fieldAddr T x n =>
    have hx := e x (by simp [Op.operands])
    unfold cFieldAddr
    split
    · split
      · split
        · refine dep_ifb ?_
          simp only [DepF, kFieldAddr, hx]
        · rfl
      · rfl
    · rfl
  case field T x n =>
    have hx := e x (by simp [Op.operands])
    unfold cField
    split
    · split
      · split
        · split
          · simp only [DepF, kField, hx]
          · rfl
        · rfl
      · rfl
    · rfl
  case indexAddr T x y =>
    have hx := e x (by simp [Op.operands])
    have hy := e y (by simp [Op.operands])
    unfold cIndexAddr
    split
    · split
      · simp only [DepF, kIxS, hx, hy]
      · rfl
    · split
      · simp only [DepF, kIxA, hx, hy]
      · rfl
    · rfl
  case index T x y =>
    have hx := e x (by simp [Op.operands])
    have hy := e y (by simp [Op.operands])
    unfold cIndex
    split
    · split
      · split
        · simp only [DepF, kIndex, hx, hy]
        · rfl
      · rfl
    · simp only [DepF, kIndexS, hx, hy]
    · rfl
  case extract x i => simp only [DepF, kExtract, e x (by simp [Op.operands])]
  case call c =>
    have hargs : ∀ x ∈ c.args.toList, cOpd x t = cOpd x t' := fun x hx => e x (by simp [Op.operands, Call.operands]; right; simpa using hx)
    cases hb : cBuiltin P c with
    | some f =>
      simp only
      unfold cBuiltin at hb
      split at hb
      · split at hb
        · rename_i x T h1 h2
          cases hb
          have hx := hargs x (by simp [h1])
          unfold cLen
          split
          · simp only [DepF, kLenS, hx]
          · simp only [DepF, kLen, hx]
          · rfl
          · rfl
        · cases hb; rfl
      · split at hb
        · rename_i x y h1
          cases hb
          simp only [DepF, kMin, kBin, hargs x (by simp [h1]), hargs y (by simp [h1])]
        · cases hb; rfl
      · split at hb
        · rename_i x y h1
          cases hb
          simp only [DepF, kMax, kBin, hargs x (by simp [h1]), hargs y (by simp [h1])]
        · cases hb; rfl
      · cases hb
    | none =>
      simp only
      unfold cCall
      split
      · split
        · rename_i s x T T' h1 h2
          refine dep_ifb ?_
          have h3 := hargs s (by simp [h1])
          have h4 := hargs x (by simp [h1])
          unfold cAppend
          split
          · split
            · split
              · refine dep_ifb ?_
                simp only [DepF, kAppend, h3, h4]
              · rfl
            · rfl
          · rfl
        · rfl
      · rename_i f args ats
        simp only [DepF, kCall, opds_dep (t := t) (t' := t') args.toList hargs]
      · rename_i f args ats _
        have hf := e f (by simp [Op.operands, Call.operands])
        simp only [DepF, kCallV, hf, opds_dep (t := t) (t' := t') args.toList hargs]
      · rfl
  all_goals rfl

/-- The slots that an operation reads. -/
def tmpOf : Operand → List Nat
  | .tmp i => [i]
  | _ => []
noncomputable def readsOf (all : List Oper) (o : Oper) : List Nat :=
  app (List.rec [] (fun x _ ih => app (tmpOf x) ih) o.op.operands.toList) (match o.guard with
    | none => []
    | some (j, _) => match getN all j with
      | some oj => match oj.dst with
        | some d => [d]
        | none => []
      | none => [])

omit [Io] in
theorem mem_tmps {x : Operand} {i : Nat} : ∀ {l : List Operand}, x ∈ l → i ∈ tmpOf x → i ∈ (List.rec [] (fun x _ ih => app (tmpOf x) ih) l : List Nat)
  | [], h, _ => by cases h
  | y :: l, h, hi => by
    show i ∈ app (tmpOf y) _
    rw [app_eq]
    cases h with
    | head => exact List.mem_append_left _ hi
    | tail _ h => exact List.mem_append_right _ (mem_tmps h hi)

omit [Io] in
theorem gOp_dep {nt : Nat} {all : List Oper} {o : Oper} {t t' : Tm} {h : Hp} (e : ∀ u ∈ readsOf all o, t.at u = t'.at u) : gOp P call nt all o t h = gOp P call nt all o t' h := by
  have hx : ∀ x ∈ o.op.operands.toList, cOpd x t = cOpd x t' := by
    intro x hx
    cases x with
    | tmp i =>
      have := e i (by unfold readsOf; rw [app_eq]; exact List.mem_append_left _ (mem_tmps hx (by simp [tmpOf])))
      show ifb (Nat.blt i 512) (oT i) oX t = ifb (Nat.blt i 512) (oT i) oX t'
      cases Nat.blt i 512
      · rfl
      · exact this
    | const v => show (match ofV v with | some a => oC a | none => oX) t = (match ofV v with | some a => oC a | none => oX) t'; cases ofV v <;> rfl
    | global g => rfl
    | func f => rfl
  have hd := cOp_dep (P := P) (call := call) (h := h) o.op hx
  unfold gOp
  cases hg : o.guard with
  | none => exact hd
  | some p =>
    obtain ⟨j, want⟩ := p
    simp only
    cases hj : getN all j with
    | none => rfl
    | some oj =>
      simp only
      cases hdj : oj.dst with
      | none => rfl
      | some d =>
        simp only
        cases Nat.blt d nt with
        | false => rfl
        | true =>
          have hd2 : t.at d = t'.at d := e d (by
            unfold readsOf
            rw [app_eq, hg]
            refine List.mem_append_right _ ?_
            simp [hj, hdj])
          show gF (oT d) want (cOp P call o.op).2 t h = gF (oT d) want (cOp P call o.op).2 t' h
          unfold gF
          unfold DepF at hd
          rw [hd]
          show (match t.at d with | some (.bool b) => _ | some (.tup []) => _ | _ => _) = (match t'.at d with | some (.bool b) => _ | some (.tup []) => _ | _ => _)
          rw [hd2]

end
end Go.Ab
