import Derived.Test.YtfdjdnphbakjoaaGreatAb19
namespace Go.Ab
variable [Io]
namespace Cx
variable (c : Cx)

structure Inv (g : G) (w : World) (h : Hp) (a : Act) (D past : List Nat) (pl : Plan) : Prop where
  run : c.RunP pl h
  stat : c.StatP past pl
  closed : Closed c.ops.toList D
  chs : ∀ i, c.IsCl i .ch → i ∈ pl.chs ∨ i ∈ D
  chN : ∀ i ∈ pl.chs, i ∉ D
  pastD : ∀ j ∈ past, j ∈ D
  alc : ∀ i, c.IsCl i .al → i ∈ pl.als ∨ i ∈ D
  st : c.St g w h pl.als D
  dom : ∀ id x, g.m id = some x → id < h.next ∨ ∃ i ∈ pl.als, i ∈ D ∧ c.IsCl i .al ∧ c.bd i = c.nx i + 1 ∧ id = c.nx i
  slots : ∀ j ∈ D, ∀ d, c.Dst j d → d < c.nt ∧ ∃ v, c.te.at d = some v ∧ VR (g.to (max (c.bd j) h.next)) w v (a.tmps.getD d undef)
  free : ∀ u v, u < 512 → (∀ j ∈ D, ¬ c.Dst j u) → c.t0.at u = some v → u < c.nt ∧ VR (g.to h.next) w v (a.tmps.getD u undef)
  size : a.tmps.size = c.nt
  defers : a.defers = []

variable {c}
omit [Io] in
theorem FE_eq {i : Nat} {o : Oper} (ho : c.ops[i]? = some o) : c.FE i = gOp c.P c.call c.nt c.ops.toList o := by unfold FE; rw [ho]
omit [Io] in
theorem Rds_eq {i : Nat} {o : Oper} (ho : c.ops[i]? = some o) : c.Rds i = readsOf c.ops.toList o := by unfold Rds; rw [ho]

omit [Io] in
theorem rfL_at {i : Nat} : ∀ (l : List Nat), (∀ u ∈ l, u < 512) → ∀ u v, u < 512 → (c.rfL i l).at u = some v → u ∈ l ∧ (((∃ j, c.Dst j u ∧ c.An i j) ∧ c.te.at u = some v) ∨ ((¬ ∃ j, c.Dst j u ∧ c.An i j) ∧ c.t0.at u = some v))
  | [], _, u, v, hu, e => by rw [rfL, Tm.at_none u hu] at e; cases e
  | x :: l, hl, u, v, hu, e => by
    rw [rfL, Tm.at_put _ _ _ _ (hl x List.mem_cons_self) hu] at e
    by_cases hx : u = x
    · subst hx
      rw [if_pos rfl] at e
      refine ⟨List.mem_cons_self, ?_⟩
      by_cases hw : ∃ j, c.Dst j u ∧ c.An i j
      · rw [if_pos hw] at e; exact .inl ⟨hw, e⟩
      · rw [if_neg hw] at e; exact .inr ⟨hw, e⟩
    · rw [if_neg hx] at e
      obtain ⟨h1, h2⟩ := rfL_at l (fun y hy => hl y (List.mem_cons_of_mem _ hy)) u v hu e
      exact ⟨List.mem_cons_of_mem _ h1, h2⟩

theorem Inv.reads {g w h a D past pl} (I : c.Inv g w h a D past pl) (hnt : c.nt ≤ 512) {i N M : Nat} (hr : c.RdOk i M) (hiD : i ∉ D) (hD : ∀ j, c.An i j → j ∈ D) (hM : M ≤ N) (hN : h.next ≤ N) :
    TR (g.to N) w c.nt (c.rf i) a.tmps := by
  have hlt : ∀ u ∈ c.Rds i, u < 512 := fun u hu => Nat.lt_of_lt_of_le (hr u hu).1 hnt
  refine ⟨hnt, I.size, fun u v hu e => ?_⟩
  obtain ⟨hm, hor⟩ := rfL_at _ hlt u v hu e
  refine ⟨(hr u hm).1, ?_⟩
  rcases hor with ⟨⟨j, hj, hA⟩, e⟩ | ⟨hno, e⟩
  · rcases (hr u hm).2 with h1 | h1
    · obtain ⟨_, hb⟩ := h1 j hj
      obtain ⟨_, v', e', hv⟩ := I.slots j (hD j hA) u hj
      rw [e] at e'
      cases e'
      exact VR.mono' (mono_to g w (by omega)) _ _ hv
    · exact absurd (I.closed j (hD j hA) i (h1 j hj)) hiD
  · refine VR.mono' (mono_to g w hN) _ _ (I.free u v hu (fun j hjD hj => ?_) e).2
    rcases (hr u hm).2 with h1 | h1
    · exact hno ⟨j, hj, (h1 j hj).1⟩
    · exact hiD (I.closed j hjD i (h1 j hj))

omit [Io] in
theorem rd_lt (hnt : c.nt ≤ 512) {i N : Nat} (h : c.RdOk i N) : ∀ u ∈ c.Rds i, u < 512 := fun u hu => Nat.lt_of_lt_of_le (h u hu).1 hnt

omit [Io] in
theorem put_get {a : Act} {od : Option Nat} {x : Value} {d : Nat} (hd : d < a.tmps.size) : (a.put od x).tmps.getD d undef = if od = some d then x else a.tmps.getD d undef := by
  cases od with
  | none => rfl
  | some e =>
    show (a.tmps.setIfInBounds e x).getD d undef = _
    rw [Array.getD_eq_getD_getElem?, Array.getD_eq_getD_getElem?]
    by_cases he : e = d
    · subst he
      rw [Array.getElem?_setIfInBounds_self_of_lt hd, if_pos rfl]; rfl
    · rw [Array.getElem?_setIfInBounds_ne he, if_neg (fun k => he (Option.some.inj k))]

omit [Io] in
theorem put_size {a : Act} {od : Option Nat} {x : Value} : (a.put od x).tmps.size = a.tmps.size := by
  cases od with
  | none => rfl
  | some e => show (a.tmps.setIfInBounds e x).size = _; simp
omit [Io] in
theorem put_defers {a : Act} {od : Option Nat} {x : Value} : (a.put od x).defers = a.defers := by cases od <;> rfl

/-- The slots, one more of them written. -/
theorem slots_put {g : G} {w w' : World} {g' : G} {a : Act} {D : List Nat} {i : Nat} {o : Oper} {x : Value} {N N' : Nat} (G0 : c.Glob) (ho : c.ops[i]? = some o)
    (hs : a.tmps.size = c.nt)
    (slots : ∀ j ∈ D, ∀ d, c.Dst j d → d < c.nt ∧ ∃ v, c.te.at d = some v ∧ VR (g.to (max (c.bd j) N)) w v (a.tmps.getD d undef))
    (mono : ∀ j ∈ D, Mono (g.to (max (c.bd j) N)) w (g'.to (max (c.bd j) N')) w') (hi : i ∉ D)
    (hx : ∀ d, c.Dst i d → d < c.nt ∧ ∃ v, c.te.at d = some v ∧ VR (g'.to (max (c.bd i) N')) w' v x) :
    ∀ j ∈ i :: D, ∀ d, c.Dst j d → d < c.nt ∧ ∃ v, c.te.at d = some v ∧ VR (g'.to (max (c.bd j) N')) w' v ((a.put o.dst x).tmps.getD d undef) := by
  intro j hj d hd
  by_cases hji : j = i
  · subst hji
    obtain ⟨h1, v, h2, h3⟩ := hx d hd
    refine ⟨h1, v, h2, ?_⟩
    obtain ⟨o', ho', hd'⟩ := hd
    rw [ho] at ho'
    cases ho'
    rw [put_get (by omega), if_pos hd']
    exact h3
  · obtain ⟨h1, v, h2, h3⟩ := slots j ((List.mem_cons.1 hj).resolve_left hji) d hd
    refine ⟨h1, v, h2, ?_⟩
    rw [put_get (by omega), if_neg (fun k => hji (G0.dst j i d hd ⟨o, ho, k⟩))]
    exact VR.mono' (mono j ((List.mem_cons.1 hj).resolve_left hji)) _ _ h3

theorem free_put {g : G} {w w' : World} {g' : G} {a : Act} {D : List Nat} {i : Nat} {o : Oper} {x : Value} {N N' : Nat} (ho : c.ops[i]? = some o) (hs : a.tmps.size = c.nt)
    (free : ∀ u v, u < 512 → (∀ j ∈ D, ¬ c.Dst j u) → c.t0.at u = some v → u < c.nt ∧ VR (g.to N) w v (a.tmps.getD u undef)) (mono : Mono (g.to N) w (g'.to N') w') :
    ∀ u v, u < 512 → (∀ j ∈ i :: D, ¬ c.Dst j u) → c.t0.at u = some v → u < c.nt ∧ VR (g'.to N') w' v ((a.put o.dst x).tmps.getD u undef) := by
  intro u v hu hd e
  obtain ⟨h1, h2⟩ := free u v hu (fun j hj => hd j (List.mem_cons_of_mem _ hj)) e
  refine ⟨h1, ?_⟩
  rw [put_get (by omega), if_neg (fun k => hd i List.mem_cons_self ⟨o, ho, k⟩)]
  exact VR.mono' mono _ _ h2

/-- An operation that leaves the world alone has been carried out. -/
theorem Inv.put {g w h a D past pl} (G0 : c.Glob) (I : c.Inv g w h a D past pl) {i : Nat} {o : Oper} (ho : c.ops[i]? = some o) (hi : i ∉ D) (hC : Closed c.ops.toList (i :: D))
    (hk : c.IsCl i .p0 ∨ c.IsCl i .p1) {v : AV} {x : Value} (hs : c.Slot i v) (hx : VR (g.to (max (c.bd i) h.next)) w v x) : c.Inv g w h (a.put o.dst x) (i :: D) past pl := by
  have nal : ∀ j, c.IsCl j .al → j ∈ i :: D → j ∈ D := by
    intro j hj h
    refine (List.mem_cons.1 h).resolve_left fun e => ?_
    subst e
    rcases hk with hk | hk <;> cases c.cl_al hk hj
  exact
  { run := I.run
    stat := I.stat
    closed := hC
    chs := fun j hj => (I.chs j hj).imp id (List.mem_cons_of_mem _)
    chN := fun j hj h => by
      rcases List.mem_cons.1 h with rfl | h
      · have : c.IsCl j .ch := by
          have key : ∀ {pl : Plan} {h : Hp}, c.RunP pl h → ∀ j ∈ pl.chs, c.IsCl j .ch := by
            intro pl
            induction pl with
            | last pre als => intro h r j hj; cases hj
            | cons pre als q rest ih =>
              intro h r j hj
              obtain ⟨_, h1, _, hq, v, h2, _, _, _, _, _, r⟩ := r
              rcases List.mem_cons.1 hj with rfl | hj
              · exact hq
              · exact ih r j hj
          exact key I.run j hj
        rcases hk with hk | hk <;> cases c.cl_al hk this
      · exact I.chN j hj h
    pastD := fun j hj => List.mem_cons_of_mem _ (I.pastD j hj)
    alc := fun j hj => (I.alc j hj).imp id (List.mem_cons_of_mem _)
    st := ⟨I.st.hr, I.st.ext, fun j hj hD hc => I.st.pend j hj (nal j hc hD) hc, fun j hj k hk jD kD jc kc => I.st.dist j hj k hk (nal j jc jD) (nal k kc kD) jc kc⟩
    dom := fun n y e => (I.dom n y e).imp id fun ⟨j, hj, hD, r⟩ => ⟨j, hj, List.mem_cons_of_mem _ hD, r⟩
    slots := slots_put G0 ho I.size I.slots (fun j _ => mono_refl _ _) hi (fun d hd => ⟨(hs d hd).1, v, (hs d hd).2, hx⟩)
    free := free_put ho I.size I.free (mono_refl _ _)
    size := by rw [put_size]; exact I.size
    defers := by rw [put_defers]; exact I.defers }

omit [Io] in
theorem run_chs : ∀ {pl : Plan} {h : Hp}, c.RunP pl h → ∀ j ∈ pl.chs, c.IsCl j .ch := by
  intro pl
  induction pl with
  | last pre als => intro h r j hj; cases hj
  | cons pre als q rest ih =>
    intro h r j hj
    obtain ⟨_, h1, _, hq, v, h2, _, _, _, _, _, r⟩ := r
    rcases List.mem_cons.1 hj with rfl | hj
    · exact hq
    · exact ih r j hj

omit [Io] in
theorem pre_p1 {pl : Plan} {h : Hp} (r : c.RunP pl h) : c.P1s pl.pre h := by
  cases pl with
  | last pre als => exact r.1
  | cons pre als q rest => exact r.1

omit [Io] in
theorem stat_p1 {past : List Nat} {pl : Plan} (s : c.StatP past pl) : ∀ i, c.IsCl i .p1 → (∃ j ∈ past, c.An j i) ∨ (∃ j ∈ pl.chs, c.An i j) ∨ i ∈ pl.pre := by
  cases pl with
  | last pre als => exact fun i hi => (s i hi).imp id .inr
  | cons pre als q rest => exact s.1

omit [Io] in
theorem alloc_heap {w : World} {ob : Obj} {b : Nat} : (w.alloc ob).heap[b]? = if b = w.heap.size then some ob else w.heap[b]? := by
  show (w.heap.push _)[b]? = _
  rw [Array.getElem?_push]

omit [Io] in
theorem mono_alloc {g g' : G} {w : World} {ob : Obj} (hm : ∀ id x, g.m id = some x → g'.m id = some x) (hi : g'.imm = g.imm) (hb : ∀ b, g.imm b → b < w.heap.size) : Mono g w g' (w.alloc ob) :=
  ⟨hm, fun b i => by rw [hi]; exact i, fun b i => by
    have := hb b i
    rw [alloc_heap, if_neg (by omega)], fun b => by
    unfold rowSize
    rw [alloc_heap]
    by_cases h : b = w.heap.size
    · subst h; simp
    · rw [if_neg h]; exact Nat.le_refl _⟩

theorem pend_alloc {g g' : G} {w : World} {h : Hp} {ob : Obj} {i : Nat} (hm : ∀ id x, g.m id = some x → g'.m id = some x) (hi : g'.imm = g.imm) (hb : ∀ b, g.imm b → b < w.heap.size)
    (hto : g'.to h.next = g.to h.next) (p : c.Pend g w h i) : c.Pend g' (w.alloc ob) h i := by
  rcases p with p | ⟨v, cs, b, C, el, vs, h1, h2, h3, h4, h5, h6, h7, h8, h9⟩
  · exact .inl p
  · have hlt := (Array.getElem?_eq_some_iff.1 h4).1
    refine .inr ⟨v, cs, b, C, el, vs, h1, h2, hm _ _ h3, by rw [alloc_heap, if_neg (by omega)]; exact h4, by rw [hi]; exact h5, by rw [hto]; exact h6, h7, ?_, h9⟩
    refine VRs.mono' ?_ _ _ h8
    refine mono_alloc ?_ (by simp only [G.to]; exact hi) (by simp only [G.to]; exact hb)
    intro id x e
    simp only [G.to] at e ⊢
    by_cases hid : id < c.nx i
    · rw [if_pos hid] at e ⊢; exact hm _ _ e
    · rw [if_neg hid] at e; cases e

end Cx
end Go.Ab
