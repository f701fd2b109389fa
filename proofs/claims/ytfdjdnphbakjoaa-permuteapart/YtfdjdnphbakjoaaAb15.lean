import Derived.Test.YtfdjdnphbakjoaaAb14
namespace Go.Ab
variable [Io]

/-- An order that the edges allow, D being done. -/
def LinE (ops : Array Oper) : List Nat → List Nat → Prop
  | D, [] => ∀ i, i < ops.size → i ∈ D
  | D, i :: s => i < ops.size ∧ i ∉ D ∧ (∀ o e, ops[i]? = some o → e ∈ o.after → Region.binds .any e = true → e.on ∈ D) ∧ LinE ops (i :: D) s

omit [Io] in
theorem filter_one {p : Nat → Bool} : ∀ (l : List Nat) (i : Nat), l.Nodup → i ∈ l → p i = true → (l.filter fun x => p x && x != i).length + 1 = (l.filter p).length
  | [], i, _, h, _ => by cases h
  | a :: l, i, hn, h, hp => by
    rw [List.nodup_cons] at hn
    by_cases ha : a = i
    · subst ha
      have : (l.filter fun x => p x && x != a) = l.filter p := by
        apply List.filter_congr
        intro x hx
        have : x ≠ a := fun e => hn.1 (e ▸ hx)
        simp [this]
      simp [List.filter_cons, hp, this]
    · have hi : i ∈ l := by
        cases h with
        | head => exact absurd rfl ha
        | tail _ h => exact h
      have := filter_one l i hn.2 hi hp
      by_cases hpa : p a = true
      · simp only [List.filter_cons, hpa, Bool.true_and, bne_iff_ne, ne_eq, ha, not_false_eq_true, decide_true, if_true, List.length_cons]
        omega
      · simp only [List.filter_cons, hpa, Bool.false_and, Bool.false_eq_true, if_false]
        exact this

omit [Io] in
theorem least {p : Nat → Prop} : ∀ (n : Nat), p n → ∃ m, p m ∧ ∀ k, k < m → ¬ p k := by
  intro n
  induction n using Nat.strongRecOn with
  | _ n ih =>
    intro h
    by_cases hk : ∃ k, k < n ∧ p k
    · obtain ⟨k, hk, hp⟩ := hk
      exact ih k hk hp
    · exact ⟨n, h, fun k hkn hp => hk ⟨k, hkn, hp⟩⟩

/-- Each edge that binds leads to an earlier operation. -/
def Down (ops : Array Oper) : Prop := ∀ (i : Nat) (o : Oper) (e : Edge), ops[i]? = some o → e ∈ o.after → Region.binds .any e = true → e.on < i

omit [Io] in
theorem go_lin {ops : Array Oper} (hd : Down ops) : ∀ (fuel t : Nat) (listed : Array Bool) (acc D : List Nat), listed.size = ops.size → (∀ i, i < ops.size → (listed.getD i false = true ↔ i ∈ D)) →
    ((List.range ops.size).filter fun i => !listed.getD i false).length = fuel → ∃ s, Region.linearise.go .any ops fuel t listed acc = acc.reverse ++ s ∧ LinE ops D s
  | 0, t, listed, acc, D, hs, hD, hc => by
    refine ⟨[], by simp [Region.linearise.go], fun i hi => ?_⟩
    have he : ((List.range ops.size).filter fun i => !listed.getD i false) = [] := List.eq_nil_of_length_eq_zero hc
    rw [List.filter_eq_nil_iff] at he
    have := he i (by simpa using hi)
    exact (hD i hi).1 (by simpa using this)
  | fuel + 1, t, listed, acc, D, hs, hD, hc => by
    have hgd : ∀ i, i < ops.size → listed.getD i true = listed.getD i false := by
      intro i hi
      rw [Array.getD_eq_getD_getElem?, Array.getD_eq_getD_getElem?, Array.getElem?_eq_getElem (by omega)]
      rfl
    obtain ⟨rs, hrs⟩ : ∃ rs, rs = (List.range ops.size).filter (fun i => !listed.getD i true && ((ops[i]?).map (·.after.all fun e => !Region.binds .any e || listed.getD e.on false)).getD false) := ⟨_, rfl⟩
    have hmem : ∀ i, i ∈ rs ↔ i < ops.size ∧ i ∉ D ∧ ∀ o e, ops[i]? = some o → e ∈ o.after → Region.binds .any e = true → e.on ∈ D := by
      intro i
      rw [hrs, List.mem_filter, List.mem_range]
      constructor
      · rintro ⟨hi, h⟩
        simp only [Bool.and_eq_true, Bool.not_eq_true', hgd i hi] at h
        refine ⟨hi, fun h2 => by rw [(hD i hi).2 h2] at h; exact absurd h.1 (by simp), ?_⟩
        intro o e ho he hb
        rw [ho] at h
        simp only [Option.map_some, Option.getD_some, Array.all_eq_true_iff_forall_mem] at h
        have := h.2 e he
        rw [hb] at this
        simp only [Bool.not_true, Bool.false_or] at this
        have hlt : e.on < ops.size := by
          have := hd i o e ho he hb; omega
        exact (hD _ hlt).1 this
      · rintro ⟨hi, h1, h2⟩
        refine ⟨hi, ?_⟩
        have ho : ops[i]? = some ops[i] := Array.getElem?_eq_getElem hi
        have hf : listed.getD i false = false := by
          rw [Bool.eq_false_iff]
          exact fun k => h1 ((hD i hi).1 k)
        simp only [hgd i hi, hf, ho, Bool.not_false, Bool.true_and, Option.map_some, Option.getD_some, Array.all_eq_true_iff_forall_mem]
        intro e he
        cases hb : Region.binds .any e with
        | false => rfl
        | true =>
          have hlt : e.on < ops.size := by have := hd i _ e ho he hb; omega
          simp only [Bool.not_true, Bool.false_or]
          exact (hD _ hlt).2 (h2 _ e ho he hb)
    have hne : rs ≠ [] := by
      have : ((List.range ops.size).filter fun i => !listed.getD i false) ≠ [] := by
        intro h; rw [h] at hc; cases hc
      obtain ⟨x, hx⟩ := List.exists_mem_of_ne_nil _ this
      rw [List.mem_filter, List.mem_range] at hx
      obtain ⟨m, ⟨hm1, hm2⟩, hm3⟩ := least (p := fun i => i < ops.size ∧ i ∉ D) x ⟨hx.1, fun k => by
        have := (hD x hx.1).2 k
        rw [this] at hx; exact absurd hx.2 (by simp)⟩
      have : m ∈ rs := by
        rw [hmem]
        refine ⟨hm1, hm2, fun o e ho he hb => ?_⟩
        have hlt := hd m o e ho he hb
        exact Classical.byContradiction fun k => hm3 _ hlt ⟨by omega, k⟩
      intro h; rw [h] at this; cases this
    have hlen : 0 < rs.length := List.length_pos_iff.2 hne
    have hlt := Nat.mod_lt t hlen
    have hget : rs[t % rs.length]? = some rs[t % rs.length] := List.getElem?_eq_getElem hlt
    obtain ⟨i, hi⟩ : ∃ i, i = rs[t % rs.length] := ⟨_, rfl⟩
    have him : i ∈ rs := by rw [hi]; exact List.getElem_mem hlt
    obtain ⟨hi1, hi2, hi3⟩ := (hmem i).1 him
    have hl : ∀ j, j < ops.size → (listed.setIfInBounds i true).getD j false = (listed.getD j false || j == i) := by
      intro j hj
      rw [Array.getD_eq_getD_getElem?, Array.getD_eq_getD_getElem?]
      by_cases hji : j = i
      · subst hji
        rw [Array.getElem?_setIfInBounds_self_of_lt (by omega)]
        simp
      · rw [Array.getElem?_setIfInBounds_ne (by omega)]
        simp [hji]
    obtain ⟨s, hs1, hs2⟩ := go_lin hd fuel (t / rs.length) (listed.setIfInBounds i true) (i :: acc) (i :: D) (by simpa using hs)
      (fun j hj => by
        rw [hl j hj]
        simp only [Bool.or_eq_true, beq_iff_eq, List.mem_cons, hD j hj]
        exact Or.comm)
      (by
        have hnd : (List.range ops.size).Nodup := List.nodup_range
        have hlf : listed.getD i false = false := by rw [Bool.eq_false_iff]; exact fun k => hi2 ((hD i hi1).1 k)
        have h1 := filter_one (p := fun i => !listed.getD i false) (List.range ops.size) i hnd (by simpa using hi1) (by simp only [hlf]; rfl)
        have h2 : ((List.range ops.size).filter fun j => !(listed.setIfInBounds i true).getD j false) = (List.range ops.size).filter fun x => (!listed.getD x false) && x != i := by
          apply List.filter_congr
          intro x hx
          rw [hl x (by simpa using hx)]
          cases listed.getD x false <;> simp [bne]
        rw [h2]
        omega)
    refine ⟨i :: s, ?_, hi1, hi2, hi3, hs2⟩
    rw [Region.linearise.go]
    simp only [← hrs, hget, ← hi, hs1, List.reverse_cons, List.append_assoc, List.singleton_append]

omit [Io] in
theorem schedule_lin {ops : Array Oper} (hd : Down ops) (t : Nat) : LinE ops [] (Region.schedule true ops t) := by
  have hsize : ∀ i, i < ops.size → (Array.replicate ops.size false).getD i false = false := by
    intro i hi
    rw [Array.getD_eq_getD_getElem?]
    simp [hi]
  obtain ⟨s, h1, h2⟩ := go_lin hd ops.size t (Array.replicate ops.size false) [] [] (by simp) (fun i hi => by rw [hsize i hi]; simp) (by
    have : ((List.range ops.size).filter fun i => !(Array.replicate ops.size false).getD i false) = List.range ops.size := by
      rw [List.filter_eq_self]
      intro i hi
      rw [hsize i (by simpa using hi)]; rfl
    rw [this]; simp)
  have : Region.schedule true ops t = s := by
    simp only [Region.schedule, Bool.true_or, if_true, Region.linearise]
    rw [h1]; simp
  rw [this]
  exact h2

-- all that stands ahead of an operation
noncomputable def maskOf (acc : List Nat) (es : List Edge) : Nat :=
  List.rec 0 (fun e _ ih => ifb (Region.binds .any e) (Nat.lor (Nat.lor (Nat.pow 2 e.on) ((getN acc e.on).getD 0)) ih) ih) es
noncomputable def masks (l : List Oper) : List Nat → List Nat :=
  List.rec (fun acc => acc) (fun o _ ih acc => ih (app acc [maskOf acc o.after.toList])) l

omit [Io] in
theorem maskOf_bit {acc : List Nat} {k : Nat} : ∀ {es : List Edge}, (maskOf acc es).testBit k = true → ∃ e ∈ es, Region.binds .any e = true ∧ (e.on = k ∨ (acc.getD e.on 0).testBit k = true)
  | [], h => by simp [maskOf] at h
  | e :: es, h => by
    change (ifb (Region.binds .any e) (Nat.lor (Nat.lor (Nat.pow 2 e.on) ((getN acc e.on).getD 0)) (maskOf acc es)) (maskOf acc es)).testBit k = true at h
    cases hb : Region.binds .any e with
    | false =>
      rw [hb] at h
      obtain ⟨e', he, h'⟩ := maskOf_bit (es := es) h
      exact ⟨e', List.mem_cons_of_mem _ he, h'⟩
    | true =>
      rw [hb] at h
      change ((2 ^ e.on ||| (getN acc e.on).getD 0) ||| maskOf acc es).testBit k = true at h
      rw [Nat.testBit_or, Nat.testBit_or, Nat.testBit_two_pow, Bool.or_eq_true, Bool.or_eq_true, getN_eq] at h
      rcases h with (h | h) | h
      · exact ⟨e, List.mem_cons_self, hb, .inl (by simpa using h)⟩
      · exact ⟨e, List.mem_cons_self, hb, .inr (by simpa [List.getD] using h)⟩
      · obtain ⟨e', he, h'⟩ := maskOf_bit (es := es) h
        exact ⟨e', List.mem_cons_of_mem _ he, h'⟩

omit [Io] in
theorem masks_spec : ∀ (l : List Oper) (acc : List Nat), (masks l acc).length = acc.length + l.length ∧ (∀ k, k < acc.length → (masks l acc)[k]? = acc[k]?) ∧
    ∀ i o k, l[i]? = some o → ((masks l acc).getD (acc.length + i) 0).testBit k = true → ∃ e ∈ o.after.toList, Region.binds .any e = true ∧ (e.on = k ∨ ((masks l acc).getD e.on 0).testBit k = true)
  | [], acc => ⟨by simp [masks], fun k _ => rfl, fun i o k h => by simp at h⟩
  | o :: l, acc => by
    have hm : masks (o :: l) acc = masks l (acc ++ [maskOf acc o.after.toList]) := by
      show masks l (app acc _) = _
      rw [app_eq]
    obtain ⟨h1, h2, h3⟩ := masks_spec l (acc ++ [maskOf acc o.after.toList])
    rw [← hm] at h1 h2 h3
    refine ⟨by rw [h1]; simp; omega, fun k hk => ?_, ?_⟩
    · rw [h2 k (by simp; omega), List.getElem?_append_left hk]
    · intro i o' k hi hk
      cases i with
      | zero =>
        simp at hi
        subst hi
        have hself : (masks (o :: l) acc)[acc.length]? = some (maskOf acc o.after.toList) := by
          rw [h2 acc.length (by simp)]; simp
        simp only [Nat.add_zero, List.getD, hself, Option.getD_some] at hk
        obtain ⟨e, he, hb, hor⟩ := maskOf_bit hk
        refine ⟨e, he, hb, hor.imp id fun h => ?_⟩
        by_cases hlt : e.on < acc.length
        · simp only [List.getD] at h ⊢
          rw [h2 _ (by simp; omega), List.getElem?_append_left hlt]; exact h
        · simp only [List.getD, List.getElem?_eq_none (Nat.le_of_not_lt hlt)] at h
          simp at h
      | succ i =>
        have := h3 i o' k (by simpa using hi) (by
          simp only [List.length_append, List.length_cons, List.length_nil, Nat.zero_add]
          rw [show acc.length + 1 + i = acc.length + (i + 1) by omega]; exact hk)
        exact this

noncomputable def anc (ops : List Oper) (i k : Nat) : Bool := ((masks ops []).getD i 0).testBit k

/-- What is done is closed under 'ahead of'. -/
def Closed (ops : List Oper) (D : List Nat) : Prop := ∀ j ∈ D, ∀ k, anc ops j k = true → k ∈ D

omit [Io] in
theorem closed_next {ops : Array Oper} {D : List Nat} (hc : Closed ops.toList D) {i : Nat} {o : Oper} (ho : ops[i]? = some o)
    (h : ∀ o e, ops[i]? = some o → e ∈ o.after → Region.binds .any e = true → e.on ∈ D) : (∀ k, anc ops.toList i k = true → k ∈ D) ∧ Closed ops.toList (i :: D) := by
  have h1 : ∀ k, anc ops.toList i k = true → k ∈ D := by
    intro k hk
    obtain ⟨_, _, h3⟩ := masks_spec ops.toList []
    obtain ⟨e, he, hb, hor⟩ := h3 i o k (by simpa using ho) (by simpa [anc] using hk)
    have hin := h o e ho (by simpa using he) hb
    rcases hor with rfl | hor
    · exact hin
    · exact hc _ hin k (by simpa [anc] using hor)
  refine ⟨h1, fun j hj k hk => ?_⟩
  cases hj with
  | head => exact List.mem_cons_of_mem _ (h1 k hk)
  | tail _ hj => exact List.mem_cons_of_mem _ (hc j hj k hk)

end Go.Ab
