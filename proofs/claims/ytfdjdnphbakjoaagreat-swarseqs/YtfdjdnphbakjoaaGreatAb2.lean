import Derived.Test.YtfdjdnphbakjoaaGreatAb1
namespace Go.Ab
variable [Io]

-- lists
omit [Io] in
theorem app_eq {α : Type} (l r : List α) : app l r = l ++ r := by
  induction l with
  | nil => rfl
  | cons a l ih => exact congrArg (a :: ·) ih
omit [Io] in
theorem len_eq' {α : Type} (l : List α) : ∀ n, (List.rec (motive := fun _ => Nat → Nat) (fun n => n) (fun _ _ ih n => ih (Nat.add n 1)) l : Nat → Nat) n = n + l.length := by
  induction l with
  | nil => intro n; rfl
  | cons a l ih => intro n; refine (ih (n + 1)).trans ?_; simp; omega
omit [Io] in
theorem len_eq {α : Type} (l : List α) : len l = l.length := (len_eq' l 0).trans (Nat.zero_add _)
omit [Io] in
theorem beq0 (n : Nat) : Nat.beq (n + 1) 0 = false := rfl
omit [Io] in
theorem tk_eq {α : Type} (l : List α) : ∀ n, tk n l = l.take n := by
  induction l with
  | nil => intro n; cases n <;> rfl
  | cons a l ih => intro n; cases n with
    | zero => rfl
    | succ n => exact congrArg (a :: ·) (ih n)
omit [Io] in
theorem dp_eq {α : Type} (l : List α) : ∀ n, dp n l = l.drop n := by
  induction l with
  | nil => intro n; cases n <;> rfl
  | cons a l ih => intro n; cases n with
    | zero => rfl
    | succ n => exact ih n
omit [Io] in
theorem getN_eq {α : Type} (l : List α) : ∀ n, getN l n = l[n]? := by
  induction l with
  | nil => intro n; rfl
  | cons a l ih => intro n; cases n with
    | zero => rfl
    | succ n => refine (ih n).trans ?_; simp
omit [Io] in
theorem allB_eq {α : Type} (p : α → Bool) (l : List α) : allB p l = l.all p := by
  induction l with
  | nil => rfl
  | cons a l ih => show (bif p a then allB p l else false) = _; rw [ih]; cases h : p a <;> simp [h]
omit [Io] in
theorem put_eq (cs : List AV) (off : Nat) (new : List AV) : put cs off new = cs.take off ++ (new ++ cs.drop (off + new.length)) := by
  unfold put; rw [app_eq, app_eq, tk_eq, dp_eq, len_eq]; rfl
omit [Io] in
theorem segment_some {cs : List AV} {off n : Nat} {l : List AV} (h : segment cs off n = some l) : l = (cs.drop off).take n ∧ l.length = n := by
  change (bif Nat.beq (len (tk n (dp off cs))) n then some (tk n (dp off cs)) else none) = some l at h
  rw [tk_eq, dp_eq, len_eq] at h
  by_cases e : (List.take n (List.drop off cs)).length = n
  · rw [show Nat.beq (List.take n (List.drop off cs)).length n = true from Nat.beq_eq.mpr e] at h
    obtain rfl := Option.some.inj h
    exact ⟨rfl, e⟩
  · rw [show Nat.beq (List.take n (List.drop off cs)).length n = false from Bool.eq_false_iff.mpr (fun k => e (Nat.eq_of_beq_eq_true k))] at h
    cases h

-- the relation on lists
theorem VRs.length {g w} : ∀ {l : List AV} {vs : List Value}, VRs g w l vs → vs.length = l.length
  | [], vs, h => by simp only [VRs] at h; subst h; rfl
  | a :: l, vs, h => by
    simp only [VRs] at h
    obtain ⟨v, l', rfl, _, r⟩ := h
    simp [VRs.length r]
theorem VRs.take {g w} : ∀ {l : List AV} {vs : List Value} (n : Nat), VRs g w l vs → VRs g w (l.take n) (vs.take n)
  | [], vs, n, h => by simp only [VRs] at h; subst h; simp [VRs]
  | a :: l, vs, 0, h => by simp [VRs]
  | a :: l, vs, n + 1, h => by
    simp only [VRs] at h
    obtain ⟨v, l', rfl, q, r⟩ := h
    simp only [List.take_succ_cons, VRs]
    exact ⟨v, _, rfl, q, VRs.take n r⟩
theorem VRs.drop {g w} : ∀ {l : List AV} {vs : List Value} (n : Nat), VRs g w l vs → VRs g w (l.drop n) (vs.drop n)
  | [], vs, n, h => by simp only [VRs] at h; subst h; simp [VRs]
  | a :: l, vs, 0, h => h
  | a :: l, vs, n + 1, h => by
    simp only [VRs] at h
    obtain ⟨v, l', rfl, q, r⟩ := h
    exact VRs.drop n r
theorem VRs.append {g w} : ∀ {l r : List AV} {vs us : List Value}, VRs g w l vs → VRs g w r us → VRs g w (l ++ r) (vs ++ us)
  | [], r, vs, us, h, k => by simp only [VRs] at h; subst h; exact k
  | a :: l, r, vs, us, h, k => by
    simp only [VRs] at h
    obtain ⟨v, l', rfl, q, p⟩ := h
    simp only [List.cons_append, VRs]
    exact ⟨v, _, rfl, q, VRs.append p k⟩
theorem VRs.get {g w} : ∀ {l : List AV} {vs : List Value}, VRs g w l vs → ∀ (i : Nat) (a : AV), l[i]? = some a → ∃ v, vs[i]? = some v ∧ VR g w a v
  | [], vs, h, i, a, e => by simp at e
  | b :: l, vs, h, 0, a, e => by
    simp only [VRs] at h
    obtain ⟨v, l', rfl, q, p⟩ := h
    simp at e; subst e
    exact ⟨v, rfl, q⟩
  | b :: l, vs, h, i + 1, a, e => by
    simp only [VRs] at h
    obtain ⟨v, l', rfl, q, p⟩ := h
    simpa using VRs.get p i a (by simpa using e)
theorem VRs.repeat {g w} {l : List AV} {vs : List Value} (h : VRs g w l vs) : ∀ n, VRs g w (repeatL n l) (List.replicate n vs).flatten
  | 0 => by show VRs g w [] _; simp [VRs]
  | n + 1 => by
    show VRs g w (app l (repeatL n l)) _
    rw [app_eq, List.replicate_succ, List.flatten_cons]
    exact VRs.append h (VRs.repeat h n)
theorem VRs.one {g w} {a : AV} {v : Value} (h : VR g w a v) : VRs g w [a] [v] := by
  simp only [VRs]; exact ⟨v, [], rfl, h, rfl⟩
theorem VR.cells {g w} {a : AV} {v : Value} (h : VR g w a v) : VRs g w a.cells v.cells.toList := by
  cases a with
  | agg cs =>
    simp only [VR] at h
    obtain ⟨vs, rfl, q⟩ := h
    exact q
  | sc x =>
    simp only [VR] at h
    obtain ⟨rfl, h1⟩ := h
    have : v.cells = #[v] := by cases v <;> first | rfl | (simp [Value.oneCell'] at h1)
    rw [this]
    exact VRs.one (by simp [VR, h1])
  | sym k s lo hi off => have h' := h; simp only [VR] at h; obtain ⟨rfl, _⟩ := h; exact VRs.one h'
  | any =>
    have h1 := h
    simp only [VR] at h1
    have : v.cells = #[v] := by cases v <;> first | rfl | (simp [Value.oneCell'] at h1)
    rw [this]
    exact VRs.one h
  | hsl id off n sz =>
    have h' := h
    simp only [VR] at h
    rcases h with ⟨_, a, rfl⟩ | ⟨b, s, cap, _, rfl, _⟩ <;> exact VRs.one h'
  | int k n => have h' := h; simp only [VR] at h; subst h; exact VRs.one h'
  | bool b => have h' := h; simp only [VR] at h; subst h; exact VRs.one h'
  | tup cs => have h' := h; simp only [VR] at h; obtain ⟨_, rfl, _⟩ := h; exact VRs.one h'
  | ref id off => have h' := h; simp only [VR] at h; obtain ⟨_, _, _, rfl⟩ := h; exact VRs.one h'
  | isl n cs => have h' := h; simp only [VR] at h; obtain ⟨_, _, rfl, _⟩ := h; exact VRs.one h'
  | iptr cs => have h' := h; simp only [VR] at h; obtain ⟨_, _, _, rfl, _⟩ := h; exact VRs.one h'
  | esl => have h' := h; simp only [VR] at h; obtain ⟨_, rfl⟩ := h; exact VRs.one h'
  | fn f cap => have h' := h; simp only [VR] at h; obtain ⟨_, rfl, _⟩ := h; exact VRs.one h'
theorem VR.one {g w} {a : AV} {v : Value} (h : VR g w a v) (c : cell1 a = true) : v.oneCell' = true := by
  cases a with
  | agg cs => cases c
  | tup cs => cases c
  | sc x => simp only [VR] at h; obtain ⟨rfl, h1⟩ := h; exact h1
  | sym k s lo hi off => simp only [VR] at h; obtain ⟨rfl, _⟩ := h; rfl
  | any => simpa only [VR] using h
  | hsl id off n sz =>
    simp only [VR] at h
    rcases h with ⟨_, a, rfl⟩ | ⟨b, s, cap, _, rfl, _⟩ <;> rfl
  | int k n => simp only [VR] at h; subst h; rfl
  | bool b => simp only [VR] at h; subst h; rfl
  | ref id off => simp only [VR] at h; obtain ⟨_, _, _, rfl⟩ := h; rfl
  | isl n cs => simp only [VR] at h; obtain ⟨_, _, rfl, _⟩ := h; rfl
  | iptr cs => simp only [VR] at h; obtain ⟨_, _, _, rfl, _⟩ := h; rfl
  | esl => simp only [VR] at h; obtain ⟨_, rfl⟩ := h; rfl
  | fn f cap => simp only [VR] at h; obtain ⟨_, rfl, _⟩ := h; rfl
theorem VRs.ones {g w} : ∀ {l : List AV} {vs : List Value}, VRs g w l vs → allB cell1 l = true → ∀ v ∈ vs, v.oneCell' = true
  | [], vs, h, _, v, e => by simp only [VRs] at h; subst h; cases e
  | a :: l, vs, h, c, v, e => by
    simp only [VRs] at h
    obtain ⟨u, l', rfl, q, p⟩ := h
    rw [allB_eq] at c
    simp at c
    cases e with
    | head => exact VR.one q c.1
    | tail _ e => exact VRs.ones p (by rw [allB_eq]; simpa using c.2) v e
omit [Io] in
theorem CellsAt.drop {w : World} {b o : Nat} {vs : List Value} (h : CellsAt w b o vs) (n : Nat) : CellsAt w b (o + n) (vs.drop n) := by
  intro j v e
  rw [List.getElem?_drop] at e
  have := h (n + j) v e
  rwa [Nat.add_assoc]
omit [Io] in
theorem CellsAt.take {w : World} {b o : Nat} {vs : List Value} (h : CellsAt w b o vs) (n : Nat) : CellsAt w b o (vs.take n) := by
  intro j v e
  rw [List.getElem?_take] at e
  split at e
  · exact h j v e
  · cases e

-- what a row of the store is, in the world
theorem HC.row {g w h} (H : HC g w h) {id : Nat} {cs : List AV} (e : h.objs.get id = some cs) {b s : Nat} (hm : g.m id = some (b, s)) :
    ∃ C el vs, w.heap[b]? = some (.cells C el (0, 0)) ∧ ¬ g.imm b ∧ VRs g w cs vs ∧ (∀ (j : Nat) (v : Value), vs[j]? = some v → C[s + j]? = some v) := by
  obtain ⟨b', s', C, el, vs, hm', hw, hi, hv, hc⟩ := H.objs id cs e
  rw [hm] at hm'
  obtain ⟨rfl, rfl⟩ := Prod.mk.inj (Option.some.inj hm')
  exact ⟨C, el, vs, hw, hi, hv, hc⟩
theorem HR.row {g w h} (H : HR g w h) {id : Nat} {cs : List AV} (e : h.objs.get id = some cs) {b s : Nat} (hm : g.m id = some (b, s)) :
    ∃ C el vs, w.heap[b]? = some (.cells C el (0, 0)) ∧ ¬ g.imm b ∧ VRs g w cs vs ∧ (∀ (j : Nat) (v : Value), vs[j]? = some v → C[s + j]? = some v) := H.toHC.row e hm
omit [Io] in
theorem cellsAt_row {w : World} {b s : Nat} {C : Array Value} {el fz} {vs : List Value} (hw : w.heap[b]? = some (.cells C el fz)) (hc : ∀ (j : Nat) (v : Value), vs[j]? = some v → C[s + j]? = some v) :
    CellsAt w b s vs := by
  intro j v e
  simp [World.cell?, hw, hc j v e]
omit [Io] in
theorem rowSize_row {w : World} {b : Nat} {C : Array Value} {el fz} (hw : w.heap[b]? = some (.cells C el fz)) : rowSize w b = C.size := by
  simp [rowSize, hw]

-- a new row
def G.add (g : G) (id b : Nat) : G := ⟨fun i => if i = id then some (b, 0) else g.m i, g.imm⟩

theorem new_ext {g w h} (H : HR g w h) {cs : List AV} {C : Array Value} (el : TypeId) {vs : List Value} (hv : VRs g w cs vs) (hc : ∀ (j : Nat) (v : Value), vs[j]? = some v → C[j]? = some v) :
    Ext g w h (g.add h.next w.heap.size) (w.alloc (.cells C el)) (newO h cs) ∧ HR (g.add h.next w.heap.size) (w.alloc (.cells C el)) (newO h cs) := by
  have hp : ∀ b, (w.alloc (.cells C el)).heap[b]? = if b = w.heap.size then some (.cells C el) else w.heap[b]? := by
    intro b
    show (w.heap.push _)[b]? = _
    rw [Array.getElem?_push]
  have hg : ∀ id, (newO h cs).objs.get id = if id = h.next then some cs else h.objs.get id := fun id => Tr.get_set _ _ _ _
  have hne : ∀ id x, g.m id = some x → id ≠ h.next := by
    intro id x e he
    rw [H.fresh id (by omega)] at e; cases e
  have E : Ext g w h (g.add h.next w.heap.size) (w.alloc (.cells C el)) (newO h cs) := by
    refine ⟨rfl, rfl, rfl, by simp, Nat.le_succ _, ?_, ?_, ?_, fun _ i => i, fun _ i => .inl i, ?_⟩
    · intro id x e
      simp only [G.add, if_neg (hne id x e)]
      exact e
    · intro b hb _
      rw [hp, if_neg (by omega)]
    · intro b
      unfold rowSize
      rw [hp]
      by_cases hb : b = w.heap.size
      · subst hb; simp
      · rw [if_neg hb]; exact Nat.le_refl _
    · rintro b ⟨id, cs', s, e, m⟩
      rw [hg] at e
      by_cases hid : id = h.next
      · subst hid
        simp only [G.add, if_true] at m
        obtain ⟨rfl, _⟩ := Prod.mk.inj (Option.some.inj m)
        exact .inr (Nat.le_refl _)
      · rw [if_neg hid] at e
        simp only [G.add, if_neg hid] at m
        exact .inl ⟨id, cs', s, e, m⟩
  refine ⟨E, ?_, ?_, ?_, ?_⟩
  · intro id hid
    have hid' : h.next + 1 ≤ id := hid
    simp only [G.add]
    rw [if_neg (by omega)]
    exact H.fresh id (by omega)
  · intro id cs' e
    rw [hg] at e
    by_cases hid : id = h.next
    · subst hid
      rw [if_pos rfl] at e
      obtain rfl := Option.some.inj e
      refine ⟨w.heap.size, 0, C, el, vs, by simp [G.add], by rw [hp, if_pos rfl], ?_, VRs.mono H E _ _ hv, by simpa using hc⟩
      intro i
      exact absurd (H.imm _ i) (by omega)
    · rw [if_neg hid] at e
      obtain ⟨b, s, C', el', vs', hm, hw, hi, hv', hc'⟩ := H.objs id cs' e
      have hb : b < w.heap.size := (Array.getElem?_eq_some_iff.1 hw).1
      exact ⟨b, s, C', el', vs', by simp only [G.add, if_neg hid]; exact hm, by rw [hp, if_neg (by omega)]; exact hw, hi, VRs.mono H E _ _ hv', hc'⟩
  · intro id id' b s s' cs1 cs2 e1 e2 m1 m2
    rw [hg] at e1 e2
    have old : ∀ id x b s, id ≠ h.next → h.objs.get id = some x → g.m id = some (b, s) → b ≠ w.heap.size := by
      intro id x b s _ e m hb
      obtain ⟨_, _, _, hw, _⟩ := H.row e m
      have := (Array.getElem?_eq_some_iff.1 hw).1
      omega
    by_cases h1 : id = h.next <;> by_cases h2 : id' = h.next
    · exact h1.trans h2.symm
    · subst h1
      rw [if_neg h2] at e2
      simp only [G.add, if_true] at m1
      simp only [G.add, if_neg h2] at m2
      obtain ⟨rfl, _⟩ := Prod.mk.inj (Option.some.inj m1)
      exact absurd rfl (old id' _ _ _ h2 e2 m2)
    · subst h2
      rw [if_neg h1] at e1
      simp only [G.add, if_true] at m2
      simp only [G.add, if_neg h1] at m1
      obtain ⟨rfl, _⟩ := Prod.mk.inj (Option.some.inj m2)
      exact absurd rfl (old id _ _ _ h1 e1 m1)
    · rw [if_neg h1] at e1
      rw [if_neg h2] at e2
      simp only [G.add, if_neg h1] at m1
      simp only [G.add, if_neg h2] at m2
      exact H.inj id id' b s s' cs1 cs2 e1 e2 m1 m2
  · intro b i
    have := H.imm b i
    simp
    omega

theorem new_ref {g : G} {w h C el} : VR (g.add h (World.heap w).size) (w.alloc (.cells C el)) (.ref h 0) (.pointer (some ⟨w.heap.size, 0, none⟩)) := by
  simp only [VR]
  exact ⟨w.heap.size, 0, by simp [G.add], rfl⟩
theorem new_hsl {g : G} {w h C el n c sz} (hn : n ≤ c) (hc : c * sz ≤ C.size) :
    VR (g.add h (World.heap w).size) (w.alloc (.cells C el)) (.hsl h 0 n sz) (.slice (some ⟨w.heap.size, 0, none⟩) n c) := by
  simp only [VR]
  refine .inr ⟨w.heap.size, 0, c, by simp [G.add], rfl, hn, ?_⟩
  have : (w.alloc (.cells C el)).heap[w.heap.size]? = some (.cells C el) := by
    show (w.heap.push _)[w.heap.size]? = _
    simp
  rw [rowSize_row this]
  omega

end Go.Ab
