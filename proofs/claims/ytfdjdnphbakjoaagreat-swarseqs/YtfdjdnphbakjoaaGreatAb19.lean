import Derived.Test.YtfdjdnphbakjoaaGreatAb18
namespace Go.Ab
variable [Io]

inductive Plan where
  | last (pre als : List Nat)
  | cons (pre als : List Nat) (q : Nat) (rest : Plan)
def Plan.pre : Plan → List Nat
  | .last p _ => p
  | .cons p _ _ _ => p
def Plan.als : Plan → List Nat
  | .last _ a => a
  | .cons _ a _ r => a ++ r.als
def Plan.chs : Plan → List Nat
  | .last _ _ => []
  | .cons _ _ q r => q :: r.chs

/-- What stays throughout a region. -/
structure Cx where
  P : Program
  call : CallF
  ops : Array Oper
  nt : Nat
  t0 : Tm
  te : Tm
  nx : Nat → Nat
  bd : Nat → Nat
  g0 : G
  w0 : World
  h0 : Hp
  hE : Hp

namespace Cx
variable (c : Cx)

def IsCl (i : Nat) (k : Cl) : Prop := ∃ o, c.ops[i]? = some o ∧ (cOp c.P c.call o.op).1 = k
noncomputable def FE (i : Nat) : OpF := match c.ops[i]? with
  | some o => gOp c.P c.call c.nt c.ops.toList o
  | none => kBad
def Dst (i d : Nat) : Prop := ∃ o, c.ops[i]? = some o ∧ o.dst = some d
noncomputable def Rds (i : Nat) : List Nat := match c.ops[i]? with
  | some o => readsOf c.ops.toList o
  | none => []
def An (i j : Nat) : Prop := anc c.ops.toList i j = true
/-- What an operation reads: a place behind its writer, or ahead of it. -/
def RdOk (i N : Nat) : Prop := ∀ u ∈ c.Rds i, u < c.nt ∧ ((∀ j, c.Dst j u → c.An i j ∧ c.bd j ≤ N) ∨ ∀ j, c.Dst j u → c.An j i)
open Classical in
noncomputable def rfL (i : Nat) : List Nat → Tm
  | [] => Tm.none
  | u :: l => Tm.put (rfL i l) u (if ∃ j, c.Dst j u ∧ c.An i j then Tm.at c.te u else Tm.at c.t0 u)
/-- The frame that an operation sees. -/
noncomputable def rf (i : Nat) : Tm := c.rfL i (c.Rds i)
def Slot (i : Nat) (v : AV) : Prop := ∀ d, c.Dst i d → d < c.nt ∧ c.te.at d = some v

def P1s (pre : List Nat) (h : Hp) : Prop := ∀ i ∈ pre, c.IsCl i .p1 → ∃ v, c.FE i (c.rf i) h = .ok v h ∧ c.Slot i v ∧ c.RdOk i h.next
def AlsP : List Nat → Hp → Hp → Prop
  | [], h, h1 => h1 = h
  | i :: l, h, h1 => (c.IsCl i .p0 ∧ AlsP l h h1) ∨ (c.IsCl i .al ∧ c.nx i = h.next ∧ ((c.bd i = c.nx i ∧ AlsP l h h1) ∨
      ∃ v cs, c.bd i = c.nx i + 1 ∧ c.FE i (c.rf i) (nilH (c.nx i)) = .ok v (newO (nilH (c.nx i)) cs) ∧ AlsP l (newO h cs) h1))
def RunP : Plan → Hp → Prop
  | .last pre als, h => c.P1s pre h ∧ c.AlsP als h c.hE
  | .cons pre als q rest, h => c.P1s pre h ∧ ∃ h1, c.AlsP als h h1 ∧ c.IsCl q .ch ∧ ∃ v h2, c.FE q (c.rf q) h1 = .ok v h2 ∧ c.Slot q v ∧ c.RdOk q h1.next ∧
      c.bd q = h2.next ∧ h1.next ≤ h2.next ∧ RunP rest h2
def StatP : List Nat → Plan → Prop
  | past, .last pre _ => ∀ i, c.IsCl i .p1 → (∃ j ∈ past, c.An j i) ∨ i ∈ pre
  | past, .cons pre als q rest => (∀ i, c.IsCl i .p1 → (∃ j ∈ past, c.An j i) ∨ (∃ j ∈ q :: rest.chs, c.An i j) ∨ i ∈ pre) ∧ (∀ i ∈ als, c.IsCl i .al → c.An q i) ∧
      (∀ q' ∈ rest.chs, c.An q' q) ∧ StatP (q :: past) rest

/-- What holds of each operation. -/
structure Glob : Prop where
  p0 : ∀ i, c.IsCl i .p0 → ∃ v, (∀ h, c.FE i (c.rf i) h = .ok v h) ∧ c.Slot i v ∧ c.RdOk i (c.bd i)
  al : ∀ i, c.IsCl i .al → ∃ v, c.Slot i v ∧ c.RdOk i (c.nx i) ∧ ((c.FE i (c.rf i) (nilH (c.nx i)) = .ok v (nilH (c.nx i)) ∧ c.bd i = c.nx i) ∨
    ∃ cs, c.FE i (c.rf i) (nilH (c.nx i)) = .ok v (newO (nilH (c.nx i)) cs) ∧ c.bd i = c.nx i + 1)
  dst : ∀ i j d, c.Dst i d → c.Dst j d → i = j
  top : ∀ i, i < c.ops.size → c.bd i ≤ c.hE.next
  same : ∀ u, u < 512 → (∀ j, ¬ c.Dst j u) → c.te.at u = c.t0.at u
  call : CallOk c.P c.call
  nt : c.nt ≤ 512

omit [Io] in
theorem als_le {h1 : Hp} : ∀ {l : List Nat} {h : Hp}, c.AlsP l h h1 → h.next ≤ h1.next
  | [], h, e => by cases e; exact Nat.le_refl _
  | i :: l, h, e => by
    rcases e with ⟨_, e⟩ | ⟨_, _, ⟨_, e⟩ | ⟨v, cs, _, _, e⟩⟩
    · exact als_le e
    · exact als_le e
    · have := als_le e
      exact Nat.le_trans (Nat.le_succ _) this

omit [Io] in
theorem als_nx {h1 : Hp} : ∀ {l : List Nat} {h : Hp}, c.AlsP l h h1 → ∀ i ∈ l, c.IsCl i .al → h.next ≤ c.nx i ∧ (c.bd i = c.nx i + 1 → c.nx i < h1.next)
  | [], h, e, i, hi, _ => by cases hi
  | j :: l, h, e, i, hi, hc => by
    rcases e with ⟨hj, e⟩ | ⟨hj, hn, ⟨hb, e⟩ | ⟨v, cs, hb, _, e⟩⟩
    · rcases List.mem_cons.1 hi with rfl | hi
      · obtain ⟨o, ho, h1⟩ := hj
        obtain ⟨o', ho', h2⟩ := hc
        rw [ho] at ho'
        cases ho'
        rw [h1] at h2
        cases h2
      · exact als_nx e i hi hc
    · rcases List.mem_cons.1 hi with rfl | hi
      · exact ⟨by omega, fun h => by omega⟩
      · exact als_nx e i hi hc
    · rcases List.mem_cons.1 hi with rfl | hi
      · have := als_le c e
        have : h.next + 1 ≤ h1.next := this
        exact ⟨by omega, fun _ => by omega⟩
      · have := als_nx e i hi hc
        have h2 : h.next + 1 ≤ c.nx i := this.1
        exact ⟨by omega, this.2⟩

omit [Io] in
theorem run_nx : ∀ {pl : Plan} {h : Hp}, c.RunP pl h → ∀ i ∈ pl.als, c.IsCl i .al → h.next ≤ c.nx i
  | .last pre als, h, ⟨_, e⟩, i, hi, hc => (c.als_nx e i hi hc).1
  | .cons pre als q rest, h, ⟨_, h1, e, _, v, h2, _, _, _, _, hle, r⟩, i, hi, hc => by
    rcases List.mem_append.1 hi with hi | hi
    · exact (c.als_nx e i hi hc).1
    · exact Nat.le_trans (c.als_le e) (Nat.le_trans hle (run_nx r i hi hc))

omit [Io] in
theorem run_le : ∀ {pl : Plan} {h : Hp}, c.RunP pl h → h.next ≤ c.hE.next
  | .last pre als, h, ⟨_, e⟩ => c.als_le e
  | .cons pre als q rest, h, ⟨_, h1, e, _, v, h2, _, _, _, _, hle, r⟩ => Nat.le_trans (c.als_le e) (Nat.le_trans hle (run_le r))

omit [Io] in
theorem cl_al {i : Nat} {k : Cl} (h : c.IsCl i k) {k' : Cl} (h' : c.IsCl i k') : k = k' := by
  obtain ⟨o, ho, h1⟩ := h
  obtain ⟨o', ho', h2⟩ := h'
  rw [ho] at ho'
  cases ho'
  exact h1.symm.trans h2

omit [Io] in
theorem als_inj {h1 : Hp} : ∀ {l : List Nat} {h : Hp}, c.AlsP l h h1 → ∀ i ∈ l, ∀ j ∈ l, c.IsCl i .al → c.IsCl j .al → c.bd i = c.nx i + 1 → c.bd j = c.nx j + 1 → c.nx i = c.nx j → i = j
  | [], h, e, i, hi, _, _, _, _, _, _, _ => by cases hi
  | k :: l, h, e, i, hi, j, hj, ci, cj, bi, bj, hij => by
    rcases e with ⟨hk, e⟩ | ⟨hk, hn, ⟨hb, e⟩ | ⟨v, cs, hb, _, e⟩⟩
    · have ni : i ≠ k := fun e => by subst e; cases c.cl_al hk ci
      have nj : j ≠ k := fun e => by subst e; cases c.cl_al hk cj
      exact als_inj e i ((List.mem_cons.1 hi).resolve_left ni) j ((List.mem_cons.1 hj).resolve_left nj) ci cj bi bj hij
    · have ni : i ≠ k := fun e => by subst e; omega
      have nj : j ≠ k := fun e => by subst e; omega
      exact als_inj e i ((List.mem_cons.1 hi).resolve_left ni) j ((List.mem_cons.1 hj).resolve_left nj) ci cj bi bj hij
    · by_cases ni : i = k <;> by_cases nj : j = k
      · exact ni.trans nj.symm
      · have := (c.als_nx e j ((List.mem_cons.1 hj).resolve_left nj) cj).1
        have : h.next + 1 ≤ c.nx j := this
        subst ni
        omega
      · have := (c.als_nx e i ((List.mem_cons.1 hi).resolve_left ni) ci).1
        have : h.next + 1 ≤ c.nx i := this
        subst nj
        omega
      · exact als_inj e i ((List.mem_cons.1 hi).resolve_left ni) j ((List.mem_cons.1 hj).resolve_left nj) ci cj bi bj hij

omit [Io] in
theorem run_inj : ∀ {pl : Plan} {h : Hp}, c.RunP pl h → ∀ i ∈ pl.als, ∀ j ∈ pl.als, c.IsCl i .al → c.IsCl j .al → c.bd i = c.nx i + 1 → c.bd j = c.nx j + 1 → c.nx i = c.nx j → i = j
  | .last pre als, h, ⟨_, e⟩, i, hi, j, hj, ci, cj, bi, bj, hij => c.als_inj e i hi j hj ci cj bi bj hij
  | .cons pre als q rest, h, ⟨_, h1, e, _, v, h2, _, _, _, _, hle, r⟩, i, hi, j, hj, ci, cj, bi, bj, hij => by
    rcases List.mem_append.1 hi with hi | hi <;> rcases List.mem_append.1 hj with hj | hj
    · exact c.als_inj e i hi j hj ci cj bi bj hij
    · have := (c.als_nx e i hi ci).2 bi
      have := c.run_nx r j hj cj
      omega
    · have := (c.als_nx e j hj cj).2 bj
      have := c.run_nx r i hi ci
      omega
    · exact run_inj r i hi j hj ci cj bi bj hij

/-- A row that was made ahead of its time. -/
def Pend (g : G) (w : World) (h : Hp) (i : Nat) : Prop :=
  c.bd i = c.nx i ∨ ∃ v cs b C el vs, c.bd i = c.nx i + 1 ∧ c.FE i (c.rf i) (nilH (c.nx i)) = .ok v (newO (nilH (c.nx i)) cs) ∧ g.m (c.nx i) = some (b, 0) ∧ w.heap[b]? = some (.cells C el (0, 0)) ∧
    ¬ g.imm b ∧ ¬ Owned (g.to h.next) h b ∧ c.w0.heap.size ≤ b ∧ VRs (g.to (c.nx i)) w cs vs ∧ ∀ (j : Nat) (v : Value), vs[j]? = some v → C[j]? = some v

structure St (g : G) (w : World) (h : Hp) (A D : List Nat) : Prop where
  hr : HR (g.to h.next) w h
  ext : Ext c.g0 c.w0 c.h0 (g.to h.next) w h
  pend : ∀ i ∈ A, i ∈ D → c.IsCl i .al → c.Pend g w h i
  dist : ∀ i ∈ A, ∀ j ∈ A, i ∈ D → j ∈ D → c.IsCl i .al → c.IsCl j .al → c.bd i = c.nx i + 1 → c.bd j = c.nx j + 1 → ∀ b, g.m (c.nx i) = some (b, 0) → g.m (c.nx j) = some (b, 0) → i = j

omit [Io] in
theorem newO_get {h : Hp} {cs : List AV} {id : Nat} : (newO h cs).objs.get id = if id = h.next then some cs else h.objs.get id := Tr.get_set _ _ _ _

omit [Io] in
theorem newO_inj {h : Hp} {cs cs' : List AV} (e : newO h cs = newO h cs') : cs = cs' := by
  have h1 : (newO h cs).objs.get h.next = some cs := by rw [newO_get, if_pos rfl]
  rw [e, newO_get, if_pos rfl] at h1
  exact (Option.some.inj h1).symm

/-- Such a row takes its place. -/
theorem adopt {g : G} {w : World} {h : Hp} (H : HR (g.to h.next) w h) {b : Nat} {C : Array Value} {el : TypeId} {cs : List AV} {vs : List Value} (hm : g.m h.next = some (b, 0))
    (hw : w.heap[b]? = some (.cells C el (0, 0))) (hi : ¬ g.imm b) (ho : ¬ Owned (g.to h.next) h b) (hv : VRs (g.to h.next) w cs vs) (hC : ∀ (j : Nat) (v : Value), vs[j]? = some v → C[j]? = some v) :
    HR (g.to (newO h cs).next) w (newO h cs) ∧ ∀ b', Owned (g.to (newO h cs).next) (newO h cs) b' → Owned (g.to h.next) h b' ∨ b' = b := by
  have hn : (newO h cs).next = h.next + 1 := rfl
  have hM := mono_to g w (N := h.next) (M := h.next + 1) (by omega)
  have hle : ∀ id cs', h.objs.get id = some cs' → id < h.next := by
    intro id cs' e
    refine Classical.byContradiction fun k => ?_
    obtain ⟨b', s, _, _, _, hm', _⟩ := H.objs id cs' e
    rw [H.fresh id (by omega)] at hm'
    cases hm'
  have hto : ∀ id, id < h.next → (g.to (h.next + 1)).m id = (g.to h.next).m id := by
    intro id k
    simp only [G.to]
    rw [if_pos (by omega), if_pos k]
  have hat : (g.to (h.next + 1)).m h.next = some (b, 0) := by
    simp only [G.to]
    rw [if_pos (by omega)]
    exact hm
  rw [hn]
  refine ⟨⟨?_, ?_, ?_, fun k i => H.imm k i⟩, ?_⟩
  · intro id hid
    have : h.next + 1 ≤ id := hid
    simp only [G.to]
    rw [if_neg (by omega)]
  · intro id cs' e
    rw [newO_get] at e
    by_cases hid : id = h.next
    · subst hid
      rw [if_pos rfl] at e
      cases e
      exact ⟨b, 0, C, el, vs, hat, hw, hi, VRs.mono' hM _ _ hv, by simpa using hC⟩
    · rw [if_neg hid] at e
      obtain ⟨b', s, C', el', vs', hm', hw', hi', hv', hc'⟩ := H.objs id cs' e
      exact ⟨b', s, C', el', vs', by rw [hto id (hle id cs' e)]; exact hm', hw', hi', VRs.mono' hM _ _ hv', hc'⟩
  · intro id id' b1 s s' cs1 cs2 e1 e2 m1 m2
    rw [newO_get] at e1 e2
    by_cases h1 : id = h.next <;> by_cases h2 : id' = h.next
    · exact h1.trans h2.symm
    · subst h1
      rw [if_neg h2] at e2
      rw [hat] at m1
      obtain ⟨rfl, _⟩ := Prod.mk.inj (Option.some.inj m1)
      rw [hto id' (hle id' _ e2)] at m2
      exact absurd ⟨id', cs2, s', e2, m2⟩ ho
    · subst h2
      rw [if_neg h1] at e1
      rw [hat] at m2
      obtain ⟨rfl, _⟩ := Prod.mk.inj (Option.some.inj m2)
      rw [hto id (hle id _ e1)] at m1
      exact absurd ⟨id, cs1, s, e1, m1⟩ ho
    · rw [if_neg h1] at e1
      rw [if_neg h2] at e2
      rw [hto id (hle id _ e1)] at m1
      rw [hto id' (hle id' _ e2)] at m2
      exact H.inj id id' b1 s s' cs1 cs2 e1 e2 m1 m2
  · rintro b' ⟨id, cs', s, e, m⟩
    rw [newO_get] at e
    by_cases hid : id = h.next
    · subst hid
      rw [hat] at m
      obtain ⟨rfl, _⟩ := Prod.mk.inj (Option.some.inj m)
      exact .inr rfl
    · rw [if_neg hid] at e
      rw [hto id (hle id _ e)] at m
      exact .inl ⟨id, cs', s, e, m⟩

omit [Io] in
theorem ext_adopt {g : G} {w : World} {h : Hp} {b : Nat} {cs : List AV} (E : Ext c.g0 c.w0 c.h0 (g.to h.next) w h) (hb : c.w0.heap.size ≤ b)
    (hO : ∀ b', Owned (g.to (newO h cs).next) (newO h cs) b' → Owned (g.to h.next) h b' ∨ b' = b) : Ext c.g0 c.w0 c.h0 (g.to (newO h cs).next) w (newO h cs) where
  os := E.os
  tape := E.tape
  output := E.output
  size := E.size
  next := Nat.le_trans E.next (Nat.le_succ _)
  m := fun id x e => (mono_to g w (N := h.next) (M := h.next + 1) (by omega)).m id x (E.m id x e)
  old := E.old
  rows := E.rows
  imm := E.imm
  imm' := E.imm'
  own' := fun k o => by
    rcases hO k o with o | rfl
    · exact E.own' k o
    · exact .inr hb

theorem settle {g : G} {w : World} {D A : List Nat} {h1 : Hp} : ∀ (l : List Nat) (h : Hp), c.AlsP l h h1 → (∀ i ∈ l, c.IsCl i .al → i ∈ D) → c.St g w h (l ++ A) D →
    (∀ i ∈ A, c.IsCl i .al → h1.next ≤ c.nx i) → c.St g w h1 A D
  | [], h, e, _, S, _ => by cases e; exact S
  | i :: l, h, e, hd, S, hA => by
    have hd' := fun j hj => hd j (List.mem_cons_of_mem i hj)
    have S' : c.St g w h (l ++ A) D := ⟨S.hr, S.ext, fun j hj => S.pend j (List.mem_cons_of_mem _ hj), fun j hj k hk => S.dist j (List.mem_cons_of_mem _ hj) k (List.mem_cons_of_mem _ hk)⟩
    rcases e with ⟨_, e⟩ | ⟨hk, hn, ⟨hb, e⟩ | ⟨v, cs, hb, hF, e⟩⟩
    · exact settle l h e hd' S' hA
    · exact settle l h e hd' S' hA
    · have hiD := hd i List.mem_cons_self hk
      rcases S.pend i List.mem_cons_self hiD hk with hp | ⟨v', cs', b, C, el, vs, _, hF', hm, hw, him, hO, hb0, hv, hC⟩
      · omega
      rw [hF] at hF'
      obtain ⟨rfl, hcs⟩ := Ro.ok.inj hF'
      obtain rfl := newO_inj hcs
      rw [hn] at hm hv
      obtain ⟨hr', hO'⟩ := adopt S.hr hm hw him hO hv hC
      refine settle l (newO h cs) e hd' ⟨hr', c.ext_adopt S.ext hb0 hO', ?_, S'.dist⟩ hA
      intro j hj hjD hjc
      rcases S'.pend j hj hjD hjc with hp | ⟨v2, cs2, b2, C2, el2, vs2, hb2, hF2, hm2, hw2, him2, hO2, hb02, hv2, hC2⟩
      · exact .inl hp
      · refine .inr ⟨v2, cs2, b2, C2, el2, vs2, hb2, hF2, hm2, hw2, him2, fun o => ?_, hb02, hv2, hC2⟩
        rcases hO' _ o with o | rfl
        · exact hO2 o
        · have hjn : h.next + 1 ≤ c.nx j := by
            rcases List.mem_append.1 hj with hj | hj
            · exact (c.als_nx e j hj hjc).1
            · exact Nat.le_trans (c.als_le e) (hA j hj hjc)
          have := S.dist i List.mem_cons_self j (List.mem_cons_of_mem _ hj) hiD hjD hk hjc hb hb2 b2 (by rw [hn]; exact hm) hm2
          subst this
          omega

end Cx
end Go.Ab
