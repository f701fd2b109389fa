import Derived.Test.YtfdjdnphbakjoaaAb5
namespace Go.Ab
variable [Io]
section
variable {P : Program} {o : Oper}

-- the parts of a literal
omit [Io] in
theorem fold_seg (off : Nat) : ∀ (l : List Value) (k : Nat) (C : Array Value), off + k + l.length ≤ C.size →
    (l.zipIdx k).foldl (fun cs (p : Value × Nat) => cs.setIfInBounds (off + p.2) p.1) C = (C.toList.take (off + k) ++ l ++ C.toList.drop (off + k + l.length)).toArray
  | [], k, C, _ => by simp
  | v :: l, k, C, h => by
    simp only [List.length_cons] at h
    rw [List.zipIdx_cons, List.foldl_cons, fold_seg off l (k + 1) _ (by simp; omega)]
    have e := list_seg_step C.toList (off + k) v l (by simp; omega)
    congr 1
    simpa [Array.toList_setIfInBounds, Nat.add_assoc] using e

/-- Related parts: the places, the things laid there. -/
def PartsR (g : G) (w : World) (place : Nat → Option (Nat × Nat)) : List (Nat × Nat × AV) → List (Nat × Value) → Prop
  | [], l => l = []
  | p :: r, l => ∃ i v l', l = (i, v) :: l' ∧ place i = some (p.1, p.2.1) ∧ VR g w p.2.2 v ∧ PartsR g w place r l'

theorem fill_ok {g w} {place : Nat → Option (Nat × Nat)} : ∀ (ps : List (Nat × Nat × AV)) (qs : List (Nat × Value)) (cs cs' : List AV) (C : Array Value),
    PartsR g w place ps qs → VRs g w cs C.toList → fillG ps cs = some cs' → ∃ C', Instr.fill place C qs = some C' ∧ VRs g w cs' C'.toList ∧ C'.size = C.size
  | [], qs, cs, cs', C, h, hv, e => by
    simp only [PartsR] at h
    subst h
    cases e
    exact ⟨C, rfl, hv, rfl⟩
  | p :: ps, qs, cs, cs', C, h, hv, e => by
    simp only [PartsR] at h
    obtain ⟨i, v, qs', rfl, hp, hr, h⟩ := h
    change (bif Nat.beq (len p.2.2.cells) p.2.1 && Nat.ble (Nat.add p.1 p.2.1) (len cs) then fillG ps (put cs p.1 p.2.2.cells) else none) = some cs' at e
    cases hb : (Nat.beq (len p.2.2.cells) p.2.1 && Nat.ble (Nat.add p.1 p.2.1) (len cs)) with
    | false => rw [hb] at e; cases e
    | true =>
      rw [hb] at e
      simp only [Bool.and_eq_true, len_eq] at hb
      have h1 := Nat.eq_of_beq_eq_true hb.1
      have h2 : p.1 + p.2.1 ≤ cs.length := Nat.ble_eq.mp hb.2
      have hc := hr.cells
      have hl := hc.length
      simp only [Array.length_toList] at hl
      have hC := hv.length
      simp only [Array.length_toList] at hC
      have hn : VRs g w (put cs p.1 p.2.2.cells) ((C.toList.take p.1 ++ v.cells.toList ++ C.toList.drop (p.1 + v.cells.toList.length)).toArray).toList := by
        rw [put_eq]
        simp only [List.append_assoc]
        refine (hv.take _).append (hc.append ?_)
        rw [hc.length]
        exact hv.drop _
      obtain ⟨C', hC', hv', hs⟩ := fill_ok ps qs' _ cs' _ h hn e
      refine ⟨C', ?_, hv', ?_⟩
      · simp only [Instr.fill, hp]
        rw [if_neg (by simp; omega)]
        rw [← hC']
        congr 1
        have hf := fold_seg p.1 v.cells.toList 0 C (by simp; omega)
        simp only [Nat.add_zero] at hf
        rw [← hf, ← Array.foldl_toList, Array.toList_zipIdx]
      · rw [hs]
        simp
        omega

noncomputable def cParts (place : Nat → Option (Nat × Nat)) (l : List (Nat × Operand)) : Option (List (Nat × Nat × Opd)) :=
  List.rec (some []) (fun p _ ih => match place p.1 with
    | some (off, size) => match ih with
      | some r => some ((off, size, cOpd p.2) :: r)
      | none => none
    | none => none) l

theorem cParts_ok {g w nt t} {a : Act} (T : TR g w nt t a.tmps) {place : Nat → Option (Nat × Nat)} : ∀ (l : List (Nat × Operand)) {ps : List (Nat × Nat × Opd)} {vs : List (Nat × Nat × AV)},
    cParts place l = some ps → parts3 ps t = some vs → PartsR g w place vs (l.map fun p => (p.1, a.eval p.2))
  | [], ps, vs, h, e => by
    cases h
    cases e
    simp [PartsR]
  | p :: l, ps, vs, h, e => by
    change (match place p.1 with | some (off, size) => (match cParts place l with | some r => some ((off, size, cOpd p.2) :: r) | none => none) | none => none) = some ps at h
    split at h
    · rename_i off size hp
      split at h
      · rename_i r hr
        cases h
        change (match cOpd p.2 t with | some v => (match parts3 r t with | some vs => some ((off, size, v) :: vs) | none => none) | none => none) = some vs at e
        split at e
        · rename_i v hv
          split at e
          · rename_i us hu
            cases e
            simp only [PartsR, List.map_cons]
            exact ⟨p.1, _, _, rfl, hp, cOpd_ok p.2 _ _ _ _ _ _ T hv, cParts_ok T l hr hu⟩
          · cases e
        · cases e
      · cases h
    · cases h

/-- The places of a struct's fields, or of an array's elements. -/
noncomputable def placesOf (P : Program) (T : TypeId) : Option (Nat → Option (Nat × Nat)) :=
  match P.underlying T with
  | some (.struct fields) => match fields.toList.mapM (fun f => (P.info? f.type).map fun i => (f.offset, i.size)) with
    | some places => some fun i => places.toArray[i]?
    | none => none
  | some (.array _ e) => match P.info? e with
    | some ie => some fun i => some (i * ie.size, ie.size)
    | none => none
  | _ => none
noncomputable def zeroOf (P : Program) (T : TypeId) : Option (List AV) :=
  match P.info? T with
  | some i => match i.zero with
    | some z => leaves z.cells.toList
    | none => none
  | none => none
noncomputable def cBuild (P : Program) (T : TypeId) (parts : List (Nat × Operand)) : OpF :=
  match placesOf P T with
  | some place => match zeroOf P T with
    | some z => match cParts place parts with
      | some ps => kBuild z ps
      | none => kBad
    | none => kBad
  | none => kBad

theorem zeroOf_some {T : TypeId} {z : List AV} (h : zeroOf P T = some z) : ∃ i zv, P.info? T = some i ∧ i.zero = some zv ∧ ∀ g w, VRs g w z zv.cells.toList := by
  unfold zeroOf at h
  cases hi : P.info? T with
  | none => rw [hi] at h; cases h
  | some i =>
    rw [hi] at h
    cases hz : i.zero with
    | none => simp only [hz] at h; cases h
    | some zv => simp only [hz] at h; exact ⟨i, zv, rfl, hz, fun g w => leaves_ok _ h g w⟩

theorem pure_build {T : TypeId} {parts : Array (Nat × Operand)} (ho : o.op = .build T parts) : OpPure P o (cBuild P T parts.toList) := by
  intro g w nt t h a v h' H Tr e
  unfold cBuild at e
  cases hp : placesOf P T with
  | none => rw [hp] at e; cases e
  | some place =>
  rw [hp] at e
  cases hz : zeroOf P T with
  | none => simp only [hz] at e; cases e
  | some z =>
  simp only [hz] at e
  cases hps : cParts place parts.toList with
  | none => simp only [hps] at e; cases e
  | some ps =>
  simp only [hps] at e
  unfold kBuild at e
  split at e
  · rename_i vs hvs
    split at e
    · rename_i cs hcs
      cases e
      obtain ⟨i, zv, hi, hzv, hz⟩ := zeroOf_some hz
      obtain ⟨C', hC', hv', _⟩ := fill_ok vs _ z cs zv.cells (cParts_ok Tr parts.toList hps hvs) (hz g w) hcs
      refine ⟨rfl, .agg C', ?_, by simp only [VR]; exact ⟨_, rfl, hv'⟩⟩
      have hb : P.built T ((parts.map fun p => (p.1, a.eval p.2)).toList) = some C' := by
        unfold placesOf at hp
        unfold Program.built
        split at hp
        · rename_i fields hu
          split at hp
          · rename_i places hpl
            cases hp
            simp only [hi, hu, hzv, hpl, Array.toList_map]
            exact hC'
          · cases hp
        · rename_i n el hu
          split at hp
          · rename_i ie hie
            cases hp
            simp only [hi, hu, hzv, hie, Array.toList_map]
            exact hC'
          · cases hp
        · cases hp
      have hrun := run_build (P := P) w T _ C' hb
      simp only [execOp, ho]
      show ((Instr.build T (parts.map fun p => (p.1, a.eval p.2)) >>= fun v => (pure (.value v) : Sem Next))).run P w = _
      simp only [Sem.run_bind, hrun, Result.andThen_ok, Sem.run_pure]
    · cases e
  · cases e

-- operations that make a row, or leave the world alone
/-- An operation: what it comes to in the model. -/
def OpRun (P : Program) (o : Oper) (f : OpF) : Prop :=
  ∀ (g : G) (w : World) (nt : Nat) (t : Tm) (h : Hp) (a : Act) (v : AV) (h' : Hp), HR g w h → TR g w nt t a.tmps → f t h = .ok v h' →
    ∃ g' w' nx x, (execOp a.eval o).run P w = .ok nx w' ∧ (nx = .value x ∨ (nx = .skip ∧ x = undef)) ∧ Ext g w h g' w' h' ∧ HR g' w' h' ∧ VR g' w' v x

theorem OpPure.run {f : OpF} (h : OpPure P o f) : OpRun P o f := by
  intro g w nt t hp a v h' H T e
  obtain ⟨rfl, x, hx, hv⟩ := h g w nt t hp a v h' H.toHC T e
  exact ⟨g, w, .value x, x, hx, .inl rfl, Ext.refl _ _ _, H, hv⟩

/-- A row that nobody holds. -/
theorem junk_ext {g w h} (H : HR g w h) (ob : Obj) : Ext g w h g (w.alloc ob) h ∧ HR g (w.alloc ob) h := by
  have hp : ∀ b, b < w.heap.size → (w.alloc ob).heap[b]? = w.heap[b]? := by
    intro b hb
    show (w.heap.push _)[b]? = _
    rw [Array.getElem?_push, if_neg (by omega)]
  have E : Ext g w h g (w.alloc ob) h := by
    refine ⟨rfl, rfl, rfl, by simp, Nat.le_refl _, fun _ _ e => e, fun b hb _ => hp b hb, ?_, fun _ i => i, fun _ i => .inl i, fun _ o => .inl o⟩
    intro b
    unfold rowSize
    by_cases hb : b < w.heap.size
    · rw [hp b hb]; exact Nat.le_refl _
    · rw [Array.getElem?_eq_none (by omega)]; exact Nat.zero_le _
  refine ⟨E, H.fresh, ?_, H.inj, fun b i => by have := H.imm b i; simp; omega⟩
  intro id cs e
  obtain ⟨b, s, C, el, vs, hm, hw, hi, hv, hc⟩ := H.objs id cs e
  exact ⟨b, s, C, el, vs, hm, by rw [hp b (Array.getElem?_eq_some_iff.1 hw).1]; exact hw, hi, VRs.mono H E _ _ hv, hc⟩

/-- An operation that makes a row. -/
def OpNew (P : Program) (o : Oper) (f : OpF) : Prop :=
  ∀ (g : G) (w : World) (nt : Nat) (t : Tm) (h : Hp) (a : Act) (v : AV) (h' : Hp), HC g w h → TR g w nt t a.tmps → f t h = .ok v h' →
    (h' = h ∧ ∃ x C el, (execOp a.eval o).run P w = .ok (.value x) (w.alloc (.cells C el)) ∧ ∀ g' w', VR g' w' v x) ∨
    (∃ cs C el vs x, h' = newO h cs ∧ (execOp a.eval o).run P w = .ok (.value x) (w.alloc (.cells C el)) ∧ VRs g w cs vs ∧ (∀ (j : Nat) (v : Value), vs[j]? = some v → C[j]? = some v) ∧
      ∀ g' w', g'.m h.next = some (w.heap.size, 0) → C.size ≤ rowSize w' w.heap.size → VR g' w' v x)

omit [Io] in
theorem rowSize_alloc (w : World) (C : Array Value) (el : TypeId) : rowSize (w.alloc (.cells C el)) w.heap.size = C.size := by
  have : (w.alloc (.cells C el)).heap[w.heap.size]? = some (.cells C el) := by
    show (w.heap.push _)[w.heap.size]? = _
    simp
  exact rowSize_row this

theorem OpNew.run {f : OpF} (h : OpNew P o f) : OpRun P o f := by
  intro g w nt t hp a v h' H T e
  rcases h g w nt t hp a v h' H.toHC T e with ⟨rfl, x, C, el, hr, hv⟩ | ⟨cs, C, el, vs, x, rfl, hr, hvs, hc, hv⟩
  · obtain ⟨E, H'⟩ := junk_ext H (.cells C el)
    exact ⟨g, _, .value x, x, hr, .inl rfl, E, H', hv _ _⟩
  · obtain ⟨E, H'⟩ := new_ext H (C := C) el hvs hc
    exact ⟨_, _, .value x, x, hr, .inl rfl, E, H', hv _ _ (by simp [G.add]) (by rw [rowSize_alloc]; exact Nat.le_refl _)⟩

theorem ref_of {g : G} {w : World} {id b : Nat} (hm : g.m id = some (b, 0)) : VR g w (.ref id 0) (.pointer (some ⟨b, 0, none⟩)) := by
  simp only [VR]
  exact ⟨b, 0, hm, rfl⟩
theorem hsl_of {g : G} {w : World} {id b n c sz m : Nat} (hm : g.m id = some (b, 0)) (hn : n ≤ c) (hc : c * sz ≤ m) (hr : m ≤ rowSize w b) : VR g w (.hsl id 0 n sz) (.slice (some ⟨b, 0, none⟩) n c) := by
  simp only [VR]
  exact .inr ⟨b, 0, c, hm, rfl, hn, by omega⟩
theorem esl_of {g : G} {w : World} {b : Option Addr} : VR g w .esl (.slice b 0 0) := by
  simp only [VR]
  exact ⟨_, rfl⟩

theorem run_kNew {T : TypeId} {z : List AV} (ho : o.op = .alloc T) (hz : zeroOf P T = some z) : OpNew P o (kNew z) := by
  intro g w nt t h a v h' H Tr e
  cases e
  obtain ⟨i, zv, hi, hzv, hz⟩ := zeroOf_some hz
  refine .inr ⟨z, zv.cells, T, zv.cells.toList, .pointer (some ⟨w.heap.size, 0, none⟩), rfl, ?_, hz g w, fun j v e => by simpa using e, fun g' w' hm _ => ref_of hm⟩
  simp [execOp, ho, Instr.alloc, zeroValue, typeInfo, hi, hzv, newVar, newRow]

theorem run_kBox {T : TypeId} {x : Operand} (ho : o.op = .box T x) : OpNew P o (kBox (cOpd x)) := by
  intro g w nt t h a v h' H Tr e
  unfold kBox at e
  split at e
  · rename_i av hx
    cases e
    have hv := cOpd_ok x _ _ _ _ _ _ Tr hx
    refine .inr ⟨_, (a.eval x).cells, T, _, .pointer (some ⟨w.heap.size, 0, none⟩), rfl, ?_, hv.cells, fun j v e => by simpa using e, fun g' w' hm _ => ref_of hm⟩
    simp [execOp, ho, Instr.box, newVar, newRow]
  · cases e

end
end Go.Ab
