import Derived.Test.YtfdjdnphbakjoaaAb0
import Derived.Laws.AppendOwn
import Derived.Laws.MakeOwn
import Derived.Laws.CopyRow
namespace Go.Ab

/-- The numbers that are not known. -/
class Io where
  io : Nat → Int
variable [Io]
def evalSV : SV → Int
  | .var i => Io.io i
  | .uvar i => Io.io i % 18446744073709551616
  | .umod i c => (Io.io i % 18446744073709551616) % (c : Int)

/-- What is known beside the abstract store: where its rows lie, and which blocks nobody writes any more. -/
structure G where
  m : Nat → Option (Nat × Nat)
  imm : Nat → Prop

def rowSize (w : World) (b : Nat) : Nat := match w.heap[b]? with
  | some (.cells c _ _) => c.size
  | _ => 0

/-- From the place o of block b on lie these values. -/
def CellsAt (w : World) (b o : Nat) (vs : List Value) : Prop := ∀ j v, vs[j]? = some v → w.cell? ⟨b, o + j, none⟩ = some v

mutual
def VR (g : G) (w : World) : AV → Value → Prop
  | .int k n, v => v = .int k n
  | .bool b, v => v = .bool b
  | .sc x, v => v = x ∧ x.oneCell' = true
  | .agg cs, v => ∃ vs, v = .agg vs ∧ VRs g w cs vs.toList
  | .tup cs, v => ∃ vs, v = .tuple vs ∧ VRs g w cs vs.toList
  | .ref id off, v => ∃ b s, g.m id = some (b, s) ∧ v = .pointer (some ⟨b, s + off, none⟩)
  | .hsl id off n sz, v => (n = 0 ∧ ∃ a, v = .slice a 0 0) ∨
      ∃ b s cap, g.m id = some (b, s) ∧ v = .slice (some ⟨b, s + off, none⟩) n cap ∧ n ≤ cap ∧ s + off + cap * sz ≤ rowSize w b
  | .isl n cs, v => ∃ a cap, v = .slice a n cap ∧ n ≤ cap ∧
      ((n = 0 ∧ cs = []) ∨ ∃ b o vs, a = some ⟨b, o, none⟩ ∧ g.imm b ∧ CellsAt w b o vs ∧ VRs g w cs vs)
  | .iptr cs, v => ∃ b o vs, v = .pointer (some ⟨b, o, none⟩) ∧ g.imm b ∧ CellsAt w b o vs ∧ VRs g w cs vs
  | .esl, v => ∃ a, v = .slice a 0 0
  | .fn f cap, v => ∃ vs, v = .func (.func f) #[] vs ∧ VRs g w cap vs.toList
  | .sym k s lo hi off, v => v = .int k (evalSV s + off) ∧ lo ≤ evalSV s ∧ evalSV s ≤ hi
  | .any, v => v.oneCell' = true
def VRs (g : G) (w : World) : List AV → List Value → Prop
  | [], l => l = []
  | a :: r, l => ∃ v l', l = v :: l' ∧ VR g w a v ∧ VRs g w r l'
end

def Owned (g : G) (h : Hp) (b : Nat) : Prop := ∃ id cs s, h.objs.get id = some cs ∧ g.m id = some (b, s)

structure HR (g : G) (w : World) (h : Hp) : Prop where
  fresh : ∀ id, h.next ≤ id → g.m id = none
  objs : ∀ id cs, h.objs.get id = some cs → ∃ b s C el vs, g.m id = some (b, s) ∧ w.heap[b]? = some (.cells C el (0, 0)) ∧ ¬ g.imm b ∧ VRs g w cs vs ∧ (∀ j v, vs[j]? = some v → C[s + j]? = some v)
  inj : ∀ id id' b s s' cs cs', h.objs.get id = some cs → h.objs.get id' = some cs' → g.m id = some (b, s) → g.m id' = some (b, s') → id = id'
  imm : ∀ b, g.imm b → b < w.heap.size

/-- The same, with names given ahead. -/
structure HC (g : G) (w : World) (h : Hp) : Prop where
  objs : ∀ id cs, h.objs.get id = some cs → ∃ b s C el vs, g.m id = some (b, s) ∧ w.heap[b]? = some (.cells C el (0, 0)) ∧ ¬ g.imm b ∧ VRs g w cs vs ∧ (∀ j v, vs[j]? = some v → C[s + j]? = some v)
  imm : ∀ b, g.imm b → b < w.heap.size

theorem HR.toHC {g w h} (H : HR g w h) : HC g w h := ⟨H.objs, H.imm⟩

structure Ext (g : G) (w : World) (h : Hp) (g' : G) (w' : World) (h' : Hp) : Prop where
  os : w'.os = w.os
  tape : w'.tape = w.tape
  output : w'.output = w.output
  size : w.heap.size ≤ w'.heap.size
  next : h.next ≤ h'.next
  m : ∀ id x, g.m id = some x → g'.m id = some x
  old : ∀ b, b < w.heap.size → ¬ Owned g h b → w'.heap[b]? = w.heap[b]?
  rows : ∀ b, rowSize w b ≤ rowSize w' b
  imm : ∀ b, g.imm b → g'.imm b
  imm' : ∀ b, g'.imm b → g.imm b ∨ Owned g h b ∨ w.heap.size ≤ b
  own' : ∀ b, Owned g' h' b → Owned g h b ∨ w.heap.size ≤ b

omit [Io] in
theorem Ext.refl (g : G) (w : World) (h : Hp) : Ext g w h g w h :=
  ⟨rfl, rfl, rfl, Nat.le_refl _, Nat.le_refl _, fun _ _ e => e, fun _ _ _ => rfl, fun _ => Nat.le_refl _, fun _ i => i, fun _ i => .inl i, fun _ o => .inl o⟩

omit [Io] in
theorem Ext.trans {g w h g1 w1 h1 g2 w2 h2} (a : Ext g w h g1 w1 h1) (b : Ext g1 w1 h1 g2 w2 h2) : Ext g w h g2 w2 h2 where
  os := b.os.trans a.os
  tape := b.tape.trans a.tape
  output := b.output.trans a.output
  size := Nat.le_trans a.size b.size
  next := Nat.le_trans a.next b.next
  m := fun id x e => b.m id x (a.m id x e)
  old := fun k hk ho => (b.old k (Nat.lt_of_lt_of_le hk a.size) (fun o => (a.own' k o).elim ho (fun e => absurd hk (Nat.not_lt.2 e)))).trans (a.old k hk ho)
  rows := fun k => Nat.le_trans (a.rows k) (b.rows k)
  imm := fun k i => b.imm k (a.imm k i)
  imm' := fun k i => by
    rcases b.imm' k i with i | o | l
    · exact a.imm' k i
    · rcases a.own' k o with o | l
      · exact .inr (.inl o)
      · exact .inr (.inr l)
    · exact .inr (.inr (Nat.le_trans a.size l))
  own' := fun k o => by
    rcases b.own' k o with o | l
    · exact a.own' k o
    · exact .inr (Nat.le_trans a.size l)

theorem HC.not_owned {g w h} (H : HC g w h) {b : Nat} (i : g.imm b) : ¬ Owned g h b := by
  rintro ⟨id, cs, s, hg, hm⟩
  obtain ⟨b', s', C, el, vs, hm', _, hi, _⟩ := H.objs id cs hg
  rw [hm] at hm'
  obtain ⟨rfl, rfl⟩ := Prod.mk.inj (Option.some.inj hm')
  exact hi i
theorem HR.not_owned {g w h} (H : HR g w h) {b : Nat} (i : g.imm b) : ¬ Owned g h b := H.toHC.not_owned i

/-- What the relation of values leans on. -/
structure Mono (g : G) (w : World) (g' : G) (w' : World) : Prop where
  m : ∀ id x, g.m id = some x → g'.m id = some x
  imm : ∀ b, g.imm b → g'.imm b
  keep : ∀ b, g.imm b → w'.heap[b]? = w.heap[b]?
  rows : ∀ b, rowSize w b ≤ rowSize w' b

theorem Ext.mono {g w h g' w' h'} (H : HC g w h) (E : Ext g w h g' w' h') : Mono g w g' w' :=
  ⟨E.m, E.imm, fun b i => E.old b (H.imm b i) (H.not_owned i), E.rows⟩

omit [Io] in
theorem CellsAt.keep {w w' : World} {b o vs} (h : w'.heap[b]? = w.heap[b]?) (c : CellsAt w b o vs) : CellsAt w' b o vs := by
  intro j v hj
  have := c j v hj
  unfold World.cell? at this ⊢
  rw [h]
  exact this

mutual
theorem VR.mono' {g w g' w'} (E : Mono g w g' w') : ∀ (a : AV) (v : Value), VR g w a v → VR g' w' a v
  | .int _ _, v, r => by simpa only [VR] using r
  | .bool _, v, r => by simpa only [VR] using r
  | .sc _, v, r => by simpa only [VR] using r
  | .esl, v, r => by simpa only [VR] using r
  | .sym _ _ _ _ _, v, r => by simpa only [VR] using r
  | .any, v, r => by simpa only [VR] using r
  | .agg cs, v, r => by
    simp only [VR] at r ⊢
    obtain ⟨vs, e, q⟩ := r
    exact ⟨vs, e, VRs.mono' E cs _ q⟩
  | .tup cs, v, r => by
    simp only [VR] at r ⊢
    obtain ⟨vs, e, q⟩ := r
    exact ⟨vs, e, VRs.mono' E cs _ q⟩
  | .fn f cs, v, r => by
    simp only [VR] at r ⊢
    obtain ⟨vs, e, q⟩ := r
    exact ⟨vs, e, VRs.mono' E cs _ q⟩
  | .ref id off, v, r => by
    simp only [VR] at r ⊢
    obtain ⟨b, s, e, q⟩ := r
    exact ⟨b, s, E.m _ _ e, q⟩
  | .hsl id off n sz, v, r => by
    simp only [VR] at r ⊢
    rcases r with r | ⟨b, s, cap, e, q, l, z⟩
    · exact .inl r
    · exact .inr ⟨b, s, cap, E.m _ _ e, q, l, Nat.le_trans z (E.rows b)⟩
  | .isl n cs, v, r => by
    simp only [VR] at r ⊢
    obtain ⟨a, cap, e, l, r⟩ := r
    refine ⟨a, cap, e, l, ?_⟩
    rcases r with r | ⟨b, o, vs, e, i, c, q⟩
    · exact .inl r
    · exact .inr ⟨b, o, vs, e, E.imm b i, c.keep (E.keep b i), VRs.mono' E cs _ q⟩
  | .iptr cs, v, r => by
    simp only [VR] at r ⊢
    obtain ⟨b, o, vs, e, i, c, q⟩ := r
    exact ⟨b, o, vs, e, E.imm b i, c.keep (E.keep b i), VRs.mono' E cs _ q⟩
theorem VRs.mono' {g w g' w'} (E : Mono g w g' w') : ∀ (l : List AV) (vs : List Value), VRs g w l vs → VRs g' w' l vs
  | [], vs, r => by simpa only [VRs] using r
  | a :: l, vs, r => by
    simp only [VRs] at r ⊢
    obtain ⟨v, l', e, q, r⟩ := r
    exact ⟨v, l', e, VR.mono' E a v q, VRs.mono' E l l' r⟩
end

theorem VR.mono {g w h g' w' h'} (H : HR g w h) (E : Ext g w h g' w' h') (a : AV) (v : Value) (r : VR g w a v) : VR g' w' a v := VR.mono' (E.mono H.toHC) a v r
theorem VRs.mono {g w h g' w' h'} (H : HR g w h) (E : Ext g w h g' w' h') (l : List AV) (vs : List Value) (r : VRs g w l vs) : VRs g' w' l vs := VRs.mono' (E.mono H.toHC) l vs r

-- the trees
omit [Io] in
theorem Tr.get_nil {α : Type} (n : Nat) : (Tr.nil : Tr α).get n = none := rfl
omit [Io] in
theorem Tr.get_node {α : Type} (l r : Tr α) (v : Option α) (n : Nat) :
    (Tr.node l v r).get n = if n = 0 then v else if n % 2 = 1 then l.get (n / 2) else r.get (n / 2 - 1) := by
  show ifb (Nat.beq n 0) v (ifb (Nat.beq (Nat.mod n 2) 1) (l.get (Nat.div n 2)) (r.get (Nat.sub (Nat.div n 2) 1))) = _
  by_cases h : n = 0
  · subst h; rfl
  · rw [if_neg h, show Nat.beq n 0 = false from by cases n with | zero => exact absurd rfl h | succ n => rfl]
    by_cases h2 : n % 2 = 1
    · rw [if_pos h2, show Nat.beq (Nat.mod n 2) 1 = true from by rw [show Nat.mod n 2 = 1 from h2]; rfl]; rfl
    · rw [if_neg h2, show Nat.beq (Nat.mod n 2) 1 = false from by rw [show Nat.mod n 2 = 0 from by show n % 2 = 0; omega]; rfl]; rfl
omit [Io] in
theorem Tr.get_eq {α : Type} (t : Tr α) (n : Nat) :
    t.get n = if n = 0 then t.hd else if n % 2 = 1 then t.lf.get (n / 2) else t.rt.get (n / 2 - 1) := by
  cases t with
  | nil => simp [Tr.get_nil, Tr.hd, Tr.lf, Tr.rt]
  | node l v r => rw [Tr.get_node]; rfl
omit [Io] in
theorem Tr.setF_succ {α : Type} (f : Nat) (t : Tr α) (n : Nat) (x : Option α) :
    Tr.setF (f + 1) t n x = if n = 0 then .node t.lf x t.rt else if n % 2 = 1 then .node (Tr.setF f t.lf (n / 2) x) t.hd t.rt
      else .node t.lf t.hd (Tr.setF f t.rt (n / 2 - 1) x) := by
  show ifb (Nat.beq n 0) (Tr.node t.lf x t.rt) (ifb (Nat.beq (Nat.mod n 2) 1) (Tr.node (Tr.setF f t.lf (Nat.div n 2) x) t.hd t.rt)
    (Tr.node t.lf t.hd (Tr.setF f t.rt (Nat.sub (Nat.div n 2) 1) x))) = _
  by_cases h : n = 0
  · subst h; rfl
  · rw [if_neg h, show Nat.beq n 0 = false from by cases n with | zero => exact absurd rfl h | succ n => rfl]
    by_cases h2 : n % 2 = 1
    · rw [if_pos h2, show Nat.beq (Nat.mod n 2) 1 = true from by rw [show Nat.mod n 2 = 1 from h2]; rfl]; rfl
    · rw [if_neg h2, show Nat.beq (Nat.mod n 2) 1 = false from by rw [show Nat.mod n 2 = 0 from by show n % 2 = 0; omega]; rfl]; rfl
omit [Io] in
theorem Tr.get_setF {α : Type} (f : Nat) : ∀ (t : Tr α) (n : Nat) (x : Option α) (k : Nat), n < f → (Tr.setF f t n x).get k = if k = n then x else t.get k := by
  induction f with
  | zero => intro t n x k h; omega
  | succ f ih =>
    intro t n x k h
    rw [Tr.setF_succ]
    by_cases h0 : n = 0
    · subst h0
      rw [if_pos rfl, Tr.get_node, Tr.get_eq t]
      by_cases hk : k = 0
      · simp [hk]
      · simp [hk]
    · rw [if_neg h0]
      by_cases h1 : n % 2 = 1
      · rw [if_pos h1, Tr.get_node, Tr.get_eq t k]
        by_cases hk : k = 0
        · subst hk; simp; intro e; omega
        · simp only [hk, if_false]
          by_cases hk1 : k % 2 = 1
          · simp only [hk1, if_true]
            rw [ih _ _ _ _ (by omega)]
            by_cases e : k = n
            · subst e; simp
            · rw [if_neg e, if_neg (by omega)]
          · simp only [hk1, if_false]
            rw [if_neg (by intro e; subst e; omega)]
      · rw [if_neg h1, Tr.get_node, Tr.get_eq t k]
        by_cases hk : k = 0
        · subst hk; simp; intro e; omega
        · simp only [hk, if_false]
          by_cases hk1 : k % 2 = 1
          · simp only [hk1, if_true]
            rw [if_neg (by intro e; subst e; omega)]
          · simp only [hk1, if_false]
            rw [ih _ _ _ _ (by omega)]
            by_cases e : k = n
            · subst e; simp
            · rw [if_neg e, if_neg (by omega)]
omit [Io] in
theorem Tr.get_set {α : Type} (t : Tr α) (n : Nat) (x : Option α) (k : Nat) : (t.set n x).get k = if k = n then x else t.get k :=
  Tr.get_setF _ t n x k (Nat.lt_succ_self n)

-- the frames
omit [Io] in
theorem F8.sel_upd {α : Type} (f : F8 α) (x : α) (i j : Nat) (hi : i < 8) (hj : j < 8) : (f.upd x i).sel j = if j = i then x else f.sel j := by
  rcases (by omega : i = 0 ∨ i = 1 ∨ i = 2 ∨ i = 3 ∨ i = 4 ∨ i = 5 ∨ i = 6 ∨ i = 7) with rfl | rfl | rfl | rfl | rfl | rfl | rfl | rfl <;>
  rcases (by omega : j = 0 ∨ j = 1 ∨ j = 2 ∨ j = 3 ∨ j = 4 ∨ j = 5 ∨ j = 6 ∨ j = 7) with rfl | rfl | rfl | rfl | rfl | rfl | rfl | rfl <;> rfl
omit [Io] in
theorem Tm.at_put (t : Tm) (i j : Nat) (x : Option AV) (hi : i < 512) (hj : j < 512) : (t.put i x).at j = if j = i then x else t.at j := by
  unfold Tm.put Tm.at
  rw [F8.sel_upd _ _ _ _ (by omega) (by omega)]
  by_cases h1 : j / 64 = i / 64
  · rw [if_pos h1, F8.sel_upd _ _ _ _ (by omega) (by omega)]
    by_cases h2 : j / 8 % 8 = i / 8 % 8
    · rw [if_pos h2, F8.sel_upd _ _ _ _ (by omega) (by omega)]
      by_cases h3 : j % 8 = i % 8
      · rw [if_pos h3, if_pos (by omega)]
      · rw [if_neg h3, if_neg (by intro e; subst e; exact h3 rfl), h1, h2]
    · rw [if_neg h2, if_neg (by intro e; subst e; exact h2 rfl), h1]
  · rw [if_neg h1, if_neg (by intro e; subst e; exact h1 rfl)]
omit [Io] in
theorem Tm.at_none (j : Nat) (hj : j < 512) : Tm.none.at j = Option.none := by
  unfold Tm.none Tm.at
  rcases (by omega : j / 64 = 0 ∨ j / 64 = 1 ∨ j / 64 = 2 ∨ j / 64 = 3 ∨ j / 64 = 4 ∨ j / 64 = 5 ∨ j / 64 = 6 ∨ j / 64 = 7) with h | h | h | h | h | h | h | h <;> rw [h] <;>
  rcases (by omega : j / 8 % 8 = 0 ∨ j / 8 % 8 = 1 ∨ j / 8 % 8 = 2 ∨ j / 8 % 8 = 3 ∨ j / 8 % 8 = 4 ∨ j / 8 % 8 = 5 ∨ j / 8 % 8 = 6 ∨ j / 8 % 8 = 7) with h | h | h | h | h | h | h | h <;> rw [h] <;>
  rcases (by omega : j % 8 = 0 ∨ j % 8 = 1 ∨ j % 8 = 2 ∨ j % 8 = 3 ∨ j % 8 = 4 ∨ j % 8 = 5 ∨ j % 8 = 6 ∨ j % 8 = 7) with h | h | h | h | h | h | h | h <;> rw [h] <;> rfl

/-- A frame of nt places, and the values that lie there. -/
def TR (g : G) (w : World) (nt : Nat) (t : Tm) (tmps : Array Value) : Prop :=
  nt ≤ 512 ∧ tmps.size = nt ∧ ∀ i v, i < 512 → t.at i = some v → i < nt ∧ VR g w v (tmps.getD i undef)

theorem TR.mono {g w h g' w' h' nt t tmps} (H : HR g w h) (E : Ext g w h g' w' h') (r : TR g w nt t tmps) : TR g' w' nt t tmps :=
  ⟨r.1, r.2.1, fun i v hi e => ⟨(r.2.2 i v hi e).1, VR.mono H E _ _ (r.2.2 i v hi e).2⟩⟩

theorem TR.put {g w nt t tmps} (r : TR g w nt t tmps) {d : Nat} (hd : d < nt) {a : AV} {v : Value} (hv : VR g w a v) :
    TR g w nt (t.put d (some a)) (tmps.setIfInBounds d v) := by
  obtain ⟨h1, h2, h3⟩ := r
  refine ⟨h1, by simpa using h2, fun i x hi e => ?_⟩
  rw [Tm.at_put _ _ _ _ (by omega) hi] at e
  by_cases hid : i = d
  · subst hid
    rw [if_pos rfl] at e
    obtain rfl := Option.some.inj e
    refine ⟨hd, ?_⟩
    rw [Array.getD_eq_getD_getElem?, Array.getElem?_setIfInBounds_self_of_lt (by omega)]
    exact hv
  · rw [if_neg hid] at e
    refine ⟨(h3 i x hi e).1, ?_⟩
    have := (h3 i x hi e).2
    rw [Array.getD_eq_getD_getElem?] at this ⊢
    rw [Array.getElem?_setIfInBounds_ne (by omega)]
    exact this

end Go.Ab
