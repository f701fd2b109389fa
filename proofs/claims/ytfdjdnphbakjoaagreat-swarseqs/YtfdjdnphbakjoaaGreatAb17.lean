import Derived.Test.YtfdjdnphbakjoaaGreatAb16
namespace Go.Ab
variable [Io]
section
variable {P : Program} {call : CallF}

/-- It neither looks at the store nor changes it. -/
def IndF (f : OpF) : Prop := ∀ t h h0, f t h = (match f t h0 with | .ok v _ => .ok v h | .bad => .bad)

omit [Io] in
theorem IndF.ok {f : OpF} (i : IndF f) {t : Tm} {h h' : Hp} {v : AV} (e : f t h = .ok v h') : h' = h ∧ ∀ h0, f t h0 = .ok v h0 := by
  refine ⟨?_, fun h0 => by rw [i t h0 h, e]⟩
  have := i t h h
  rw [e] at this
  exact (Ro.ok.inj this).2

omit [Io] in
theorem ind_bad : IndF kBad := fun _ _ _ => rfl
omit [Io] in
theorem ind_ifb {c : Bool} {f : OpF} (i : IndF f) : IndF (ifb c f kBad) := by cases c; exact ind_bad; exact i
omit [Io] in
theorem ind_move {x : Opd} : IndF (kMove x) := by intro t h h0; unfold kMove; cases x t <;> rfl
omit [Io] in
theorem ind_pick {c x y : Opd} : IndF (kPick c x y) := by
  intro t h h0; unfold kPick; cases c t <;> try rfl
  rename_i a; cases a <;> try rfl
  rename_i b; cases b
  · exact ind_move t h h0
  · exact ind_move t h h0
omit [Io] in
theorem ind_nil {x : Opd} : IndF (kNil x) := by intro t h h0; unfold kNil; cases x t <;> try rfl
                                                rename_i a; cases a <;> rfl
omit [Io] in
theorem ind_bin {f : AV → AV → Option AV} {x y : Opd} : IndF (kBin f x y) := by
  intro t h h0; unfold kBin; cases x t <;> try rfl
  rename_i a; cases y t <;> try rfl
  rename_i b; simp only; cases f a b <;> rfl
omit [Io] in
theorem ind_un {f : AV → Option AV} {x : Opd} : IndF (kUn f x) := by
  intro t h h0; unfold kUn; cases x t <;> try rfl
  rename_i a; simp only; cases f a <;> rfl
omit [Io] in
theorem ind_fn {f : FuncId} {l : List Opd} : IndF (kFn f l) := by intro t h h0; unfold kFn; cases opds l t <;> rfl
omit [Io] in
theorem ind_build {z : List AV} {ps : List (Nat × Nat × Opd)} : IndF (kBuild z ps) := by
  intro t h h0; unfold kBuild; cases parts3 ps t <;> try rfl
  rename_i vs; simp only; cases fillG vs z <;> rfl
omit [Io] in
theorem ind_fieldAddr {n : Nat} {x : Opd} : IndF (kFieldAddr n x) := by intro t h h0; unfold kFieldAddr; cases x t <;> try rfl
                                                                        rename_i a; cases a <;> rfl
omit [Io] in
theorem ind_field {n m : Nat} {b : Bool} {x : Opd} : IndF (kField n m b x) := by
  intro t h h0; unfold kField; cases x t <;> try rfl
  rename_i a; cases a <;> try rfl
  rename_i cs; simp only; cases part b cs n m <;> rfl
omit [Io] in
theorem ind_ixS {n : Nat} {x y : Opd} : IndF (kIxS n x y) := by
  intro t h h0; unfold kIxS; cases y t <;> try rfl
  rename_i a; cases a <;> try rfl
  rename_i k i; cases i <;> try rfl
  rename_i i; simp only; cases x t <;> try rfl
  rename_i a; cases a <;> try rfl
  · rename_i id off m sz; simp only; cases (Nat.blt i m && Nat.beq sz n) <;> rfl
  · rename_i m cs; simp only; cases Nat.blt i m <;> rfl
omit [Io] in
theorem ind_ixA {m n : Nat} {x y : Opd} : IndF (kIxA m n x y) := by
  intro t h h0; unfold kIxA; cases y t <;> try rfl
  rename_i a; cases a <;> try rfl
  rename_i k i; cases i <;> try rfl
  rename_i i; simp only; cases x t <;> try rfl
  rename_i a; cases a <;> try rfl
  · simp only; cases Nat.blt i m <;> rfl
  · simp only; cases Nat.blt i m <;> rfl
omit [Io] in
theorem ind_index {m n : Nat} {b : Bool} {x y : Opd} : IndF (kIndex m n b x y) := by
  intro t h h0; unfold kIndex; cases x t <;> try rfl
  rename_i a; cases a <;> try rfl
  rename_i cs; simp only; cases y t <;> try rfl
  rename_i a; cases a <;> try rfl
  rename_i k i; cases i <;> try rfl
  rename_i i; simp only; cases Nat.blt i m <;> try rfl
  simp only [cond_true]; cases part b cs (Nat.mul i n) n <;> rfl
omit [Io] in
theorem ind_indexS {x y : Opd} : IndF (kIndexS x y) := by
  intro t h h0; unfold kIndexS; cases x t <;> try rfl
  rename_i a; cases a <;> try rfl
  rename_i v; cases v <;> try rfl
  rename_i s; simp only; cases y t <;> try rfl
  rename_i a; cases a <;> try rfl
  rename_i k i; cases i <;> try rfl
  rename_i i; simp only; cases getN s.data.toList i <;> rfl
omit [Io] in
theorem ind_extract {x : Opd} {i : Nat} : IndF (kExtract x i) := by
  intro t h h0; unfold kExtract; cases x t <;> try rfl
  rename_i a; cases a <;> try rfl
  rename_i vs; simp only; cases getN vs i <;> rfl
omit [Io] in
theorem ind_lenS {x : Opd} : IndF (kLenS x) := by
  intro t h h0; unfold kLenS; cases x t <;> try rfl
  rename_i a; cases a <;> try rfl
  rename_i v; cases v <;> rfl
omit [Io] in
theorem ind_len {x : Opd} : IndF (kLen x) := by
  intro t h h0; unfold kLen; cases x t <;> try rfl
  rename_i a; cases a <;> rfl

omit [Io] in
theorem cOp_ind {o : Op} (hc : (cOp P call o).1 = .p0) : IndF (cOp P call o).2 := by
  cases o <;> simp only [cOp] at hc ⊢
  case move x => exact ind_move
  case assign x => exact ind_move
  case pick c x y => exact ind_pick
  case alloc T => cases hc
  case box T x => cases hc
  case build T ps =>
    unfold cBuild
    split
    · split
      · split
        · exact ind_build
        · exact ind_bad
      · exact ind_bad
    · exact ind_bad
  case buildSlice T n ps => cases hc
  case load T x => cases hc
  case store T x y => cases hc
  case nilCheck x => exact ind_nil
  case binOp op T x y yT =>
    cases cBin P op T with
    | some f => exact ind_bin
    | none => exact ind_bad
  case unOp op T x =>
    cases cUn op with
    | some f => exact ind_un
    | none => exact ind_bad
  case convert S D x =>
    have hcv : IndF (cConv P S D x) := by
      unfold cConv
      split
      · split
        · exact ind_un
        · exact ind_bad
      · exact ind_bad
    split
    · rename_i h
      rw [h] at hc
      cases hc
    · exact hcv
  case makeFunc f first caps =>
    cases f <;> try (cases hc; done)
    simp only
    cases first.toList with
    | nil => exact ind_fn
    | cons a l => exact ind_bad
  case makeSlice T l c => cases hc
  case slice T x lo hi mx => cases mx <;> cases hc
  case fieldAddr T x n =>
    unfold cFieldAddr
    split
    · split
      · split
        · exact ind_ifb ind_fieldAddr
        · exact ind_bad
      · exact ind_bad
    · exact ind_bad
  case field T x n =>
    unfold cField
    split
    · split
      · split
        · split
          · exact ind_field
          · exact ind_bad
        · exact ind_bad
      · exact ind_bad
    · exact ind_bad
  case indexAddr T x y =>
    unfold cIndexAddr
    split
    · split
      · exact ind_ixS
      · exact ind_bad
    · split
      · exact ind_ixA
      · exact ind_bad
    · exact ind_bad
  case index T x y =>
    unfold cIndex
    split
    · split
      · split
        · exact ind_index
        · exact ind_bad
      · exact ind_bad
    · exact ind_indexS
    · exact ind_bad
  case extract x i => exact ind_extract
  case call c =>
    cases hb : cBuiltin P c with
    | none => rw [hb] at hc; cases hc
    | some f =>
      simp only
      unfold cBuiltin at hb
      split at hb
      · split at hb
        · cases hb
          unfold cLen
          split
          · exact ind_lenS
          · exact ind_len
          · exact ind_move
          · exact ind_bad
        · cases hb; exact ind_bad
      · split at hb
        · cases hb; exact ind_bin
        · cases hb; exact ind_bad
      · split at hb
        · cases hb; exact ind_bin
        · cases hb; exact ind_bad
      · cases hb
  all_goals (cases hc)

/-- Making a row looks at nothing of the store but its next name. -/
def IndA (f : OpF) : Prop := ∀ t h v h', f t h = .ok v h' → ∀ h0 : Hp, h0.next = h.next → (h' = h ∧ f t h0 = .ok v h0) ∨ ∃ cs, h' = newO h cs ∧ f t h0 = .ok v (newO h0 cs)

omit [Io] in
theorem inda_bad : IndA kBad := by intro t h v h' e; cases e
omit [Io] in
theorem inda_ifb {c : Bool} {f : OpF} (i : IndA f) : IndA (ifb c f kBad) := by cases c; exact inda_bad; exact i
omit [Io] in
theorem cOp_inda {o : Op} (hc : (cOp P call o).1 = .al) : IndA (cOp P call o).2 := by
  cases o <;> simp only [cOp] at hc ⊢
  case alloc T =>
    unfold cNew
    split
    · intro t h v h' e h0 hn
      cases e
      exact .inr ⟨_, rfl, by unfold kNew; rw [hn]⟩
    · exact inda_bad
  case box T x =>
    intro t h v h' e h0 hn
    unfold kBox at e ⊢
    cases hx : cOpd x t with
    | none => rw [hx] at e; cases e
    | some a => rw [hx] at e; cases e; exact .inr ⟨_, rfl, by rw [hn]⟩
  case buildSlice T n ps =>
    unfold cRow
    split
    · split
      · split
        · refine inda_ifb ?_
          rename_i ie hie _ z hz0
          intro t h v h' e h0 hn
          unfold kRow at e ⊢
          cases hp : parts2 (cPairs ps.toList) t with
          | none => rw [hp] at e; cases e
          | some vs =>
            rw [hp] at e
            simp only at e ⊢
            cases hz : Nat.beq n 0 with
            | true =>
              rw [hz] at e
              cases vs with
              | nil => cases e; exact .inl ⟨rfl, rfl⟩
              | cons _ _ => cases e
            | false =>
              rw [hz] at e
              simp only [cond_false] at e ⊢
              cases hf : fillRow n ie.size z vs with
              | none => rw [hf] at e; cases e
              | some cs => rw [hf] at e; cases e; exact .inr ⟨_, rfl, by rw [hn]⟩
        · exact inda_bad
      · exact inda_bad
    · exact inda_bad
  case makeSlice T l c =>
    unfold cMake
    split
    · split
      · split
        · refine inda_ifb ?_
          rename_i ie hie _ z hz0
          intro t h v h' e h0 hn
          unfold kMake at e ⊢
          cases hl : cOpd l t with
          | none => rw [hl] at e; cases e
          | some a =>
          cases a <;> try (rw [hl] at e; cases e; done)
          rename_i k i
          cases i <;> try (rw [hl] at e; cases e; done)
          rename_i i
          rw [hl] at e
          simp only at e ⊢
          cases hcc : cOpd c t with
          | none => rw [hcc] at e; cases e
          | some a =>
          cases a <;> try (rw [hcc] at e; cases e; done)
          rename_i k2 j
          cases j <;> try (rw [hcc] at e; cases e; done)
          rename_i j
          rw [hcc] at e
          simp only at e ⊢
          cases hb : (Nat.ble i j && Nat.ble (Nat.mul j ie.bytes) 70368744177664) with
          | false => rw [hb] at e; cases e
          | true =>
          rw [hb] at e
          simp only [cond_true] at e ⊢
          cases hz : Nat.beq j 0 with
          | true => rw [hz] at e; cases e; exact .inl ⟨rfl, rfl⟩
          | false => rw [hz] at e; cases e; exact .inr ⟨_, rfl, by simp only [cond_false]; rw [hn]⟩
        · exact inda_bad
      · exact inda_bad
    · exact inda_bad
  case binOp op T x y yT => cases h : cBin P op T <;> rw [h] at hc <;> cases hc
  case unOp op T x => cases h : cUn op <;> rw [h] at hc <;> cases hc
  case convert S D x =>
    cases h : P.underlying D with
    | none => rw [h] at hc; cases hc
    | some d => cases d <;> rw [h] at hc <;> cases hc
  case makeFunc f first caps =>
    cases f <;> try (cases hc; done)
    simp only at hc
    cases h : first.toList <;> rw [h] at hc <;> cases hc
  case slice T x lo hi mx => cases mx <;> cases hc
  case call c => cases h : cBuiltin P c <;> rw [h] at hc <;> cases hc
  all_goals (cases hc)

end
end Go.Ab
