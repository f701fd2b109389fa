import Derived.Test.YtfdjdnphbakjoaaAb21
namespace Go.Ab
variable [Io]

-- equality of values, told by the kernel
def eqSc : Value → Value → Bool
  | .string a, .string b => a.data.toList == b.data.toList
  | .pointer none, .pointer none => true
  | .map none, .map none => true
  | .nilFunc, .nilFunc => true
  | .nilIface, .nilIface => true
  | _, _ => false
mutual
def eqA : AV → AV → Bool
  | .int k n, .int k' n' => eqK k k' && eqI n n'
  | .bool a, .bool b => !(xor a b)
  | .sc a, .sc b => eqSc a b
  | .agg a, .agg b => eqAs a b
  | .tup a, .tup b => eqAs a b
  | .ref i o, .ref i' o' => Nat.beq i i' && Nat.beq o o'
  | .hsl i o n s, .hsl i' o' n' s' => Nat.beq i i' && Nat.beq o o' && Nat.beq n n' && Nat.beq s s'
  | .isl n a, .isl m b => Nat.beq n m && eqAs a b
  | .iptr a, .iptr b => eqAs a b
  | .esl, .esl => true
  | .fn f a, .fn f' b => Nat.beq f f' && eqAs a b
  | .sym k s lo hi o, .sym k' s' lo' hi' o' => eqK k k' && (eqSV s s' && (eqI lo lo' && (eqI hi hi' && eqI o o')))
  | .any, .any => true
  | _, _ => false
def eqAs : List AV → List AV → Bool
  | [], [] => true
  | a :: l, b :: r => eqA a b && eqAs l r
  | _, _ => false
end

omit [Io] in
theorem eqI_iff' {a b : Int} (h : eqI a b = true) : a = b := by
  cases a <;> cases b <;> simp [eqI] at h <;> simp [h]
omit [Io] in
theorem bytes_eq {a b : ByteArray} (h : (a.data.toList == b.data.toList) = true) : a = b := by
  cases a with
  | mk a => cases b with
    | mk b =>
      congr 1
      exact Array.toList_inj.1 (by simpa using h)
omit [Io] in
theorem eqSc_iff {a b : Value} (h : eqSc a b = true) : a = b := by
  unfold eqSc at h
  split at h
  · rw [bytes_eq h]
  all_goals first | rfl | cases h
section
omit [Io]
mutual
theorem eqA_iff : ∀ (a b : AV), eqA a b = true → a = b
  | .int k n, b, h => by cases b <;> simp only [eqA, Bool.and_eq_true] at h <;> try cases h
                         rename_i h1 h2
                         rw [eqK_iff.1 h1, eqI_iff' h2]
  | .bool x, b, h => by cases b <;> simp only [eqA] at h <;> try cases h
                        rename_i y
                        cases x <;> cases y <;> first | rfl | cases h
  | .sc x, b, h => by cases b <;> simp only [eqA] at h <;> try cases h
                      rw [eqSc_iff h]
  | .agg x, b, h => by cases b <;> simp only [eqA] at h <;> try cases h
                       rw [eqAs_iff _ _ h]
  | .tup x, b, h => by cases b <;> simp only [eqA] at h <;> try cases h
                       rw [eqAs_iff _ _ h]
  | .ref i o, b, h => by cases b <;> simp only [eqA, Bool.and_eq_true, Nat.beq_eq] at h <;> try cases h
                         rename_i h1 h2
                         rw [h1, h2]
  | .hsl i o n s, b, h => by cases b <;> simp only [eqA, Bool.and_eq_true, Nat.beq_eq] at h <;> try (cases h; done)
                             obtain ⟨⟨⟨h1, h2⟩, h3⟩, h4⟩ := h
                             rw [h1, h2, h3, h4]
  | .isl n x, b, h => by cases b <;> simp only [eqA, Bool.and_eq_true, Nat.beq_eq] at h <;> try cases h
                         rename_i h1 h2
                         rw [h1, eqAs_iff _ _ h2]
  | .iptr x, b, h => by cases b <;> simp only [eqA] at h <;> try cases h
                        rw [eqAs_iff _ _ h]
  | .esl, b, h => by cases b <;> simp only [eqA] at h <;> first | rfl | cases h
  | .any, b, h => by cases b <;> simp only [eqA] at h <;> first | rfl | cases h
  | .sym k s lo hi o, b, h => by cases b <;> simp only [eqA, Bool.and_eq_true] at h <;> try (cases h; done)
                                 obtain ⟨h1, h2, h3, h4, h5⟩ := h
                                 rw [eqK_iff.1 h1, eqSV_iff h2, eqI_iff' h3, eqI_iff' h4, eqI_iff' h5]
  | .fn f x, b, h => by cases b <;> simp only [eqA, Bool.and_eq_true, Nat.beq_eq] at h <;> try cases h
                        rename_i h1 h2
                        rw [h1, eqAs_iff _ _ h2]
theorem eqAs_iff : ∀ (a b : List AV), eqAs a b = true → a = b
  | [], b, h => by cases b with
    | nil => rfl
    | cons _ _ => simp [eqAs] at h
  | a :: l, b, h => by
    cases b with
    | nil => simp [eqAs] at h
    | cons c r =>
      simp only [eqAs, Bool.and_eq_true] at h
      rw [eqA_iff _ _ h.1, eqAs_iff _ _ h.2]
end
end

/-- An operation is looked at once more. -/
noncomputable def ck (s : Opd) (f : OpF) (k : RgF) : RgF := fun t h => Ro.rec Rt.bad (fun v _ => Option.rec Rt.bad (fun u => Bool.rec Rt.bad (k t h) (eqA u v)) (s t)) (f t h)
/-- The store's names grow. -/
noncomputable def mn (f : OpF) : OpF := fun t h => Ro.rec Ro.bad (fun v h' => Bool.rec Ro.bad (Ro.ok v h') (Nat.ble h.next h'.next)) (f t h)

def eqCl : Cl → Cl → Bool
  | .p0, .p0 | .p1, .p1 | .al, .al | .ch, .ch => true
  | _, _ => false
omit [Io] in
theorem eqCl_iff {a b : Cl} (h : eqCl a b = true) : a = b := by cases a <;> cases b <;> first | rfl | cases h
noncomputable def memB (i : Nat) (l : List Nat) : Bool := List.rec false (fun a _ ih => Bool.rec ih true (Nat.beq a i)) l
omit [Io] in
theorem memB_iff {i : Nat} : ∀ {l : List Nat}, memB i l = true ↔ i ∈ l
  | [] => by simp [memB]
  | a :: l => by
    show (Bool.rec (memB i l) true (Nat.beq a i) : Bool) = true ↔ _
    cases h : Nat.beq a i with
    | true =>
      have := Nat.eq_of_beq_eq_true h
      subst this
      simp
    | false =>
      have : ¬ i = a := fun e => by subst e; simp at h
      simp only [List.mem_cons, this, false_or]
      exact memB_iff
noncomputable def anyB (p : Nat → Bool) (l : List Nat) : Bool := List.rec false (fun a _ ih => Bool.rec ih true (p a)) l
omit [Io] in
theorem anyB_iff {p : Nat → Bool} : ∀ {l : List Nat}, anyB p l = true ↔ ∃ i ∈ l, p i = true
  | [] => by simp [anyB]
  | a :: l => by
    show (Bool.rec (anyB p l) true (p a) : Bool) = true ↔ _
    cases h : p a with
    | true => simp [h]
    | false => simp only [List.mem_cons, exists_eq_or_imp, h, Bool.false_eq_true, false_or]; exact anyB_iff
/-- All operations with their numbers. -/
noncomputable def allI (p : Nat → Oper → Bool) (l : List Oper) : Nat → Bool :=
  List.rec (fun _ => true) (fun o _ ih i => Bool.rec false (ih (Nat.add i 1)) (p i o)) l
omit [Io] in
theorem allI_iff' {p : Nat → Oper → Bool} : ∀ {l : List Oper} {k : Nat}, allI p l k = true → ∀ i o, l[i]? = some o → p (k + i) o = true
  | [], k, _, i, o, h => by simp at h
  | a :: l, k, hh, i, o, h => by
    change (Bool.rec false (allI p l (k + 1)) (p k a) : Bool) = true at hh
    cases hp : p k a with
    | false => rw [hp] at hh; cases hh
    | true =>
      rw [hp] at hh
      cases i with
      | zero => simp at h; subst h; exact hp
      | succ i =>
        have := allI_iff' hh i o (by simpa using h)
        rwa [show k + 1 + i = k + (i + 1) by omega] at this
omit [Io] in
theorem allI_iff {p : Nat → Oper → Bool} {l : List Oper} (h : allI p l 0 = true) (i : Nat) (o : Oper) (ho : l[i]? = some o) : p i o = true := by
  have := allI_iff' h i o ho
  simpa using this

noncomputable def downB (l : List Oper) : Bool := allI (fun i o => allB (fun e => Bool.rec true (Nat.blt e.on i) (Region.binds .any e)) o.after.toList) l 0
omit [Io] in
theorem down_of {ops : Array Oper} (h : downB ops.toList = true) : Down ops := by
  intro i o e ho he hb
  have := allI_iff h i o (by simpa using ho)
  rw [allB_eq, List.all_eq_true] at this
  have := this e (by simpa using he)
  rw [hb] at this
  exact blt_iff.1 this

noncomputable def eqDst (o : Oper) (d : Nat) : Bool := match o.dst with
  | some e => Nat.beq e d
  | none => false
omit [Io] in
theorem eqDst_iff {o : Oper} {d : Nat} (h : o.dst = some d) : eqDst o d = true := by unfold eqDst; rw [h]; simp
noncomputable def dstB (l : List Oper) : Bool := allI (fun i o => match o.dst with
  | some d => allI (fun j o' => Bool.rec true (Nat.beq i j) (eqDst o' d)) l 0
  | none => true) l 0

section
variable (P : Program) (call : CallF) (nt : Nat) (L : List Oper)
noncomputable def clB (k : Cl) (i : Nat) : Bool := match getN L i with
  | some o => eqCl (cOp P call o.op).1 k
  | none => false
noncomputable def rdB (ran : List Nat) (i : Nat) : Bool := match getN L i with
  | some o => allB (fun u => Nat.blt u nt && Bool.rec (allI (fun j o' => Bool.rec true (!memB j ran && (anc L j i && !anc L i j)) (eqDst o' u)) L 0) true (allI (fun j o' => Bool.rec true (memB j ran && anc L i j) (eqDst o' u)) L 0)) (readsOf L o)
  | none => false
noncomputable def runI (i : Nat) (k : RgF) : RgF := match getN L i with
  | some o => match o.dst with
    | some d => ifb (Nat.blt d nt) (st (sT d) (gOp P call nt L o) k) (fun _ _ => .bad)
    | none => sn (gOp P call nt L o) k
  | none => fun _ _ => .bad
noncomputable def chkI (i : Nat) (k : RgF) : RgF := match getN L i with
  | some o => match o.dst with
    | some d => ifb (Nat.blt d nt) (ck (oT d) (gOp P call nt L o) k) (fun _ _ => .bad)
    | none => sn (gOp P call nt L o) k
  | none => fun _ _ => .bad
noncomputable def runM (i : Nat) (k : RgF) : RgF := match getN L i with
  | some o => match o.dst with
    | some d => ifb (Nat.blt d nt) (st (sT d) (mn (gOp P call nt L o)) k) (fun _ _ => .bad)
    | none => sn (mn (gOp P call nt L o)) k
  | none => fun _ _ => .bad
noncomputable def preF : List Nat → List Nat → (List Nat → RgF) → RgF
  | [], ran, k => k ran
  | i :: l, ran, k => ifb (rdB nt L ran i) (ifb (memB i ran) (ifb (clB P call L .p1 i) (chkI P call nt L i (preF l ran k)) (fun _ _ => .bad))
      (ifb (clB P call L .p0 i || clB P call L .p1 i) (runI P call nt L i (preF l (i :: ran) k)) (fun _ _ => .bad))) (fun _ _ => .bad)
noncomputable def alsF : List Nat → List Nat → (List Nat → RgF) → RgF
  | [], ran, k => k ran
  | i :: l, ran, k => ifb (rdB nt L ran i && (!memB i ran && (clB P call L .p0 i || clB P call L .al i))) (runI P call nt L i (alsF l (i :: ran) k)) (fun _ _ => .bad)
noncomputable def planF : Plan → List Nat → RgF
  | .last pre als, ran => preF P call nt L pre ran fun ran => alsF P call nt L als ran fun ran => ifb (allI (fun i _ => memB i ran) L 0) fi (fun _ _ => .bad)
  | .cons pre als q rest, ran => preF P call nt L pre ran fun ran => alsF P call nt L als ran fun ran =>
      ifb (rdB nt L ran q && (!memB q ran && clB P call L .ch q)) (runM P call nt L q (planF rest (q :: ran))) (fun _ _ => .bad)
noncomputable def statB : Plan → List Nat → Bool
  | .last pre _, past => allI (fun i _ => Bool.rec true (anyB (fun j => anc L j i) past || memB i pre) (clB P call L .p1 i)) L 0
  | .cons pre als q rest, past => allI (fun i _ => Bool.rec true (anyB (fun j => anc L j i) past || (anyB (fun j => anc L i j) (q :: rest.chs) || memB i pre)) (clB P call L .p1 i)) L 0 &&
      (allB (fun i => Bool.rec true (anc L q i) (clB P call L .al i)) als && (allB (fun q' => anc L q' q) rest.chs && statB rest (q :: past)))
end
end Go.Ab
