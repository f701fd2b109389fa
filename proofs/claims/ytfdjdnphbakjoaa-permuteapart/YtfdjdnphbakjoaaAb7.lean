import Derived.Test.YtfdjdnphbakjoaaAb6
namespace Go.Ab
variable [Io]
section
variable {P : Program} {o : Oper}

omit [Io] in
theorem made_flat (z : List Value) : ∀ c : Nat, (List.range (c * z.length)).map (fun j => z.toArray[j % z.length]!) = (List.replicate c z).flatten
  | 0 => by simp
  | c + 1 => by
    rw [Nat.succ_mul, Nat.add_comm, List.range_add, List.map_append, List.replicate_succ, List.flatten_cons, ← made_flat z c, List.map_map]
    congr 1
    · apply List.ext_getElem?
      intro j
      by_cases hj : j < z.length
      · have : j % z.length = j := Nat.mod_eq_of_lt hj
        simp [hj, this]
      · rw [List.getElem?_eq_none (by simp; omega), List.getElem?_eq_none (by omega)]
    · apply List.map_congr_left
      intro j _
      simp [Function.comp]
omit [Io] in
theorem made_toList (z : Array Value) (c : Nat) : ((Array.range (c * z.size)).map (fun j => z[j % z.size]!)).toList = (List.replicate c z.toList).flatten := by
  rw [Array.toList_map, Array.toList_range]
  exact made_flat z.toList c

/-- The parts of a row. -/
def PartsS (g : G) (w : World) : List (Nat × AV) → List (Nat × Value) → Prop
  | [], l => l = []
  | p :: r, l => ∃ v l', l = (p.1, v) :: l' ∧ VR g w p.2 v ∧ PartsS g w r l'

theorem fillS_ok {g w size} : ∀ (ps : List (Nat × AV)) (i : Nat) (r : List AV) (qs : List (Nat × Value)) (C : Array Value), fillS size ps i = some r → PartsS g w ps qs →
    (i + ps.length) * size ≤ C.size → ∃ C' us, Instr.fill (fun i => some (i * size, size)) C qs = some C' ∧ VRs g w r us ∧ us.length = ps.length * size ∧
      C'.toList = C.toList.take (i * size) ++ us ++ C.toList.drop ((i + ps.length) * size)
  | [], i, r, qs, C, e, h, hC => by
    simp only [PartsS] at h
    subst h
    cases e
    exact ⟨C, [], rfl, by simp [VRs], by simp, by simp⟩
  | p :: ps, i, r, qs, C, e, h, hC => by
    simp only [PartsS] at h
    obtain ⟨v, qs', rfl, hr, h⟩ := h
    change (bif Nat.beq p.1 i && Nat.beq (len p.2.cells) size then (match fillS size ps (Nat.add i 1) with | some r => some (app p.2.cells r) | none => none) else none) = some r at e
    cases hb : (Nat.beq p.1 i && Nat.beq (len p.2.cells) size) with
    | false => rw [hb] at e; cases e
    | true =>
      rw [hb] at e
      simp only [Bool.and_eq_true, len_eq] at hb
      have h1 := Nat.eq_of_beq_eq_true hb.1
      have h2 := Nat.eq_of_beq_eq_true hb.2
      change (match fillS size ps (i + 1) with | some r => some (app p.2.cells r) | none => none) = some r at e
      split at e
      · rename_i r' hr'
        cases e
        have hc := hr.cells
        have hl := hc.length
        rw [h2] at hl
        have e1 : (i + (ps.length + 1)) * size = i * size + size + ps.length * size := by rw [Nat.add_mul, Nat.add_mul]; omega
        have hC1 : i * size + size + ps.length * size ≤ C.size := by rw [List.length_cons, e1] at hC; exact hC
        have hl' : v.cells.size = size := by simpa using hl
        have hf := fold_seg (i * size) v.cells.toList 0 C (by rw [hl]; omega)
        simp only [Nat.add_zero, hl] at hf
        have hsz : (C.toList.take (i * size) ++ v.cells.toList ++ C.toList.drop (i * size + size)).toArray.size = C.size := by
          simp; omega
        obtain ⟨C', us, hC', hus, hlen, htl⟩ := fillS_ok ps (i + 1) r' qs' (C.toList.take (i * size) ++ v.cells.toList ++ C.toList.drop (i * size + size)).toArray hr' h (by
          rw [hsz, show (i + 1 + ps.length) * size = i * size + size + ps.length * size from by rw [Nat.add_mul, Nat.add_mul]; omega]; exact hC1)
        refine ⟨C', v.cells.toList ++ us, ?_, ?_, ?_, ?_⟩
        · rw [h1]
          simp only [Instr.fill]
          rw [if_neg (by simp [hl']; omega)]
          rw [← hC', ← hf, ← Array.foldl_toList, Array.toList_zipIdx]
        · rw [app_eq]; exact hc.append hus
        · rw [List.length_append, hl, hlen, List.length_cons, Nat.succ_mul]; omega
        · rw [htl]
          simp only [List.append_assoc]
          have d1 : (i + 1) * size = i * size + size := by rw [Nat.add_mul]; omega
          rw [d1, show (i + 1 + ps.length) * size = i * size + size + ps.length * size from by rw [Nat.add_mul, Nat.add_mul]; omega, List.length_cons, e1]
          have t1 : (C.toList.take (i * size)).length = i * size := by simp; omega
          have : (C.toList.take (i * size) ++ (v.cells.toList ++ C.toList.drop (i * size + size))) = (C.toList.take (i * size) ++ v.cells.toList) ++ C.toList.drop (i * size + size) := by simp
          rw [this]
          have t2 : (C.toList.take (i * size) ++ v.cells.toList).length = i * size + size := by rw [List.length_append, t1, hl]
          rw [List.take_append_of_le_length (by omega), List.take_of_length_le (by omega)]
          rw [List.drop_append, List.drop_eq_nil_of_le (by omega), t2, List.drop_drop, List.nil_append, List.append_assoc]
          congr 4
          omega
      · cases e

noncomputable def cPairs (l : List (Nat × Operand)) : List (Nat × Opd) := l.map fun p => (p.1, cOpd p.2)
theorem cPairs_ok {g w nt t} {a : Act} (T : TR g w nt t a.tmps) : ∀ (l : List (Nat × Operand)) {vs : List (Nat × AV)}, parts2 (cPairs l) t = some vs → PartsS g w vs (l.map fun p => (p.1, a.eval p.2))
  | [], vs, e => by cases e; simp [PartsS]
  | p :: l, vs, e => by
    change (match cOpd p.2 t with | some v => (match parts2 (cPairs l) t with | some vs => some ((p.1, v) :: vs) | none => none) | none => none) = some vs at e
    split at e
    · rename_i v hv
      split at e
      · rename_i us hu
        cases e
        simp only [PartsS, List.map_cons]
        exact ⟨_, _, rfl, cOpd_ok p.2 _ _ _ _ _ _ T hv, cPairs_ok T l hu⟩
      · cases e
    · cases e
theorem partsS_scale {g w size} : ∀ {ps : List (Nat × AV)} {qs : List (Nat × Value)}, PartsS g w ps qs → PartsR g w (fun i => some (i * size, size)) (scale size ps) qs
  | [], qs, h => by simp only [PartsS] at h; subst h; show PartsR g w _ [] []; simp [PartsR]
  | p :: ps, qs, h => by
    simp only [PartsS] at h
    obtain ⟨v, l', rfl, hv, h⟩ := h
    show PartsR g w _ ((Nat.mul p.1 size, size, p.2) :: scale size ps) _
    simp only [PartsR]
    exact ⟨p.1, v, l', rfl, rfl, hv, partsS_scale h⟩

theorem fillRow_ok {g w n size} {z : List AV} {zv : List Value} {ps : List (Nat × AV)} {qs : List (Nat × Value)} {cs : List AV} (C : Array Value) (h : PartsS g w ps qs)
    (hz : VRs g w (repeatL n z) C.toList) (hC : C.size = n * size) (e : fillRow n size z ps = some cs) (_ : zv = zv) :
    ∃ C', Instr.fill (fun i => some (i * size, size)) C qs = some C' ∧ VRs g w cs C'.toList ∧ C'.size = C.size := by
  unfold fillRow at e
  split at e
  · rename_i cs' hcs
    cases e
    cases hb : Nat.beq (len ps) n with
    | false => rw [hb] at hcs; cases hcs
    | true =>
      rw [hb] at hcs
      rw [len_eq] at hb
      have hl := Nat.eq_of_beq_eq_true hb
      obtain ⟨C', us, hC', hus, hlen, htl⟩ := fillS_ok ps 0 _ qs C hcs h (by rw [hC, Nat.zero_add, hl]; exact Nat.le_refl _)
      have ht : C'.toList = us := by
        rw [htl]
        simp only [Nat.zero_mul, List.take_zero, List.nil_append, Nat.zero_add]
        rw [List.drop_eq_nil_of_le (by rw [hl, ← hC]; simp), List.append_nil]
      refine ⟨C', hC', by rw [ht]; exact hus, ?_⟩
      have : C'.toList.length = C'.size := by simp
      rw [← this, ht, hlen, hl, hC]
  · exact fill_ok _ _ _ _ C (partsS_scale h) hz e

noncomputable def cRow (P : Program) (T : TypeId) (n : Nat) (parts : List (Nat × Operand)) : OpF :=
  match P.underlying T with
  | some (.slice e) => match P.info? e with
    | some ie => match zeroOf P e with
      | some z => ifb (Nat.beq (len z) ie.size && (Nat.ble (Nat.mul n ie.size) 16777216 && Nat.blt 0 ie.size)) (kRow n ie.size z (cPairs parts)) kBad
      | none => kBad
    | none => kBad
  | _ => kBad

theorem run_kRow {T : TypeId} {n : Nat} {parts : Array (Nat × Operand)} (ho : o.op = .buildSlice T n parts) : OpNew P o (cRow P T n parts.toList) := by
  intro g w nt t h a v h' H Tr e
  unfold cRow at e
  cases hu : P.underlying T with
  | none => rw [hu] at e; cases e
  | some d =>
  rw [hu] at e
  cases d <;> try (cases e; done)
  rename_i el
  simp only at e
  cases hie : P.info? el with
  | none => rw [hie] at e; cases e
  | some ie =>
  rw [hie] at e
  cases hz : zeroOf P el with
  | none => simp only [hz] at e; cases e
  | some z =>
  simp only [hz] at e
  cases hb : (Nat.beq (len z) ie.size && (Nat.ble (Nat.mul n ie.size) 16777216 && Nat.blt 0 ie.size)) with
  | false => rw [hb] at e; cases e
  | true =>
  rw [hb] at e
  simp only [Bool.and_eq_true, len_eq] at hb
  have hzl := Nat.eq_of_beq_eq_true hb.1
  have hsm : n * ie.size ≤ 16777216 := Nat.ble_eq.mp hb.2.1
  have h0 : 0 < ie.size := blt_iff.1 hb.2.2
  obtain ⟨i, zv, hi, hzv, hzr⟩ := zeroOf_some hz
  obtain rfl : ie = i := by rw [hie] at hi; exact Option.some.inj hi
  change kRow n ie.size z (cPairs parts.toList) t h = .ok v h' at e
  unfold kRow at e
  split at e
  · rename_i vs hvs
    have hps := cPairs_ok Tr parts.toList hvs
    have hzvl : zv.cells.size = ie.size := by
      have := (hzr g w).length
      simp only [Array.length_toList] at this
      omega
    cases hn : Nat.beq n 0 with
    | true =>
      rw [hn] at e
      obtain rfl := Nat.eq_of_beq_eq_true hn
      cases vs with
      | cons _ _ => cases e
      | nil =>
        cases e
        simp only [PartsS, List.map_eq_nil_iff, Array.toList_eq_nil_iff] at hps
        subst hps
        refine .inl ⟨rfl, .slice (some ⟨w.heap.size, 0, none⟩) 0 0, #[], el, ?_, fun _ _ => esl_of⟩
        · simp [execOp, ho, Instr.buildSlice, run_underlying hu, sizeOf, typeInfo, hie, Instr.fill, newRow, Array.range_zero']
    | false =>
      rw [hn] at e
      have hn0 : n ≠ 0 := fun k => by subst k; cases hn
      have hns : n * ie.size ≠ 0 := Nat.mul_ne_zero hn0 (by omega)
      simp only [cond_false] at e
      split at e
      · rename_i cs hcs
        cases e
        have hmade : VRs g w (repeatL n z) ((Array.range (n * ie.size)).map (fun j => zv.cells[j % zv.cells.size]!)).toList := by
          rw [← hzvl, made_toList]
          exact (hzr g w).repeat n
        obtain ⟨C', hC', hv', hs⟩ := fillRow_ok (zv := []) _ hps hmade (by simp) hcs rfl
        refine .inr ⟨cs, C', el, C'.toList, .slice (some ⟨w.heap.size, 0, none⟩) n n, rfl, ?_, hv', fun j v e => by simpa using e,
          fun g' w' hm hr => hsl_of hm (Nat.le_refl _) (by rw [hs]; simp) hr⟩
        have hsm' : ¬ 16777216 < n * ie.size := by omega
        simp only [execOp, ho]
        show ((Instr.buildSlice T n (parts.map fun p => (p.1, a.eval p.2)) >>= fun v => (pure (.value v) : Sem Next))).run P w = _
        simp [Instr.buildSlice, run_underlying hu, sizeOf, typeInfo, hie, zeroValue, hzv, hsm', hns, hC', newRow]
      · cases e
  · cases e

noncomputable def cMake (P : Program) (T : TypeId) (l c : Operand) : OpF :=
  match P.underlying T with
  | some (.slice e) => match P.info? e with
    | some ie => match zeroOf P e with
      | some z => ifb (Nat.beq (len z) ie.size && Nat.blt 0 ie.bytes) (kMake ie.size ie.bytes z (cOpd l) (cOpd c)) kBad
      | none => kBad
    | none => kBad
  | _ => kBad

theorem run_kMake {T : TypeId} {l c : Operand} (ho : o.op = .makeSlice T l c) : OpNew P o (cMake P T l c) := by
  intro g w nt t h a v h' H Tr e
  unfold cMake at e
  cases hu : P.underlying T with
  | none => rw [hu] at e; cases e
  | some d =>
  rw [hu] at e
  cases d <;> try (cases e; done)
  rename_i el
  simp only at e
  cases hie : P.info? el with
  | none => rw [hie] at e; cases e
  | some ie =>
  rw [hie] at e
  cases hz : zeroOf P el with
  | none => simp only [hz] at e; cases e
  | some z =>
  simp only [hz] at e
  cases hb : (Nat.beq (len z) ie.size && Nat.blt 0 ie.bytes) with
  | false => rw [hb] at e; cases e
  | true =>
  rw [hb] at e
  simp only [Bool.and_eq_true, len_eq] at hb
  have hzl := Nat.eq_of_beq_eq_true hb.1
  have h0 : 0 < ie.bytes := blt_iff.1 hb.2
  obtain ⟨i, zv, hi, hzv, hzr⟩ := zeroOf_some hz
  obtain rfl : ie = i := by rw [hie] at hi; exact Option.some.inj hi
  have hzvl : zv.cells.size = ie.size := by
    have := (hzr g w).length
    simp only [Array.length_toList] at this
    omega
  change kMake ie.size ie.bytes z (cOpd l) (cOpd c) t h = .ok v h' at e
  unfold kMake at e
  split at e
  · rename_i kl ln hl
    split at e
    · rename_i kc cn hc
      have hvl := cOpd_ok l _ _ _ _ _ _ Tr hl
      have hvc := cOpd_ok c _ _ _ _ _ _ Tr hc
      simp only [VR] at hvl hvc
      cases hle : (Nat.ble ln cn && Nat.ble (Nat.mul cn ie.bytes) 70368744177664) with
      | false => rw [hle] at e; cases e
      | true =>
        rw [hle] at e
        simp only [Bool.and_eq_true] at hle
        have h1 : ln ≤ cn := Nat.ble_eq.mp hle.1
        have h2 : cn * ie.bytes ≤ 70368744177664 := Nat.ble_eq.mp hle.2
        have h3 : cn ≤ cn * ie.bytes := Nat.le_mul_of_pos_right _ h0
        have hr := run_make (P := P) w T el ie zv hu hie hzv kl kc (Int.ofNat ln) (Int.ofNat cn) (Int.natCast_nonneg ln) (by show ((ln : Nat) : Int) ≤ (cn : Nat); omega) (by
          show ((ie.bytes : Nat) : Int) * ((cn : Nat) : Int) ≤ _
          rw [← Int.natCast_mul, Nat.mul_comm]; omega) (by show ((cn : Nat) : Int) ≤ _; omega)
        have hex : (execOp a.eval o).run P w = .ok (.value (.slice (some ⟨w.heap.size, 0, none⟩) ln cn)) (w.alloc (.cells (madeCells zv.cells (cn * ie.size)) el)) := by
          simp only [execOp, ho, hvl, hvc, Sem.run_bind, hr, Result.andThen_ok, Sem.run_pure]
          rfl
        cases hc0 : Nat.beq cn 0 with
        | true =>
          rw [hc0] at e
          cases e
          obtain rfl := Nat.eq_of_beq_eq_true hc0
          obtain rfl : ln = 0 := by omega
          exact .inl ⟨rfl, _, _, _, hex, fun _ _ => esl_of⟩
        | false =>
          rw [hc0] at e
          cases e
          have hmade : VRs g w (repeatL cn z) (madeCells zv.cells (cn * ie.size)).toList := by
            unfold madeCells
            rw [← hzvl, made_toList]
            exact (hzr g w).repeat cn
          exact .inr ⟨_, _, _, _, _, rfl, hex, hmade, fun j v e => by simpa using e, fun g' w' hm hr => hsl_of hm h1 (by rw [size_madeCells]; exact Nat.le_refl _) hr⟩
    · cases e
  · cases e
end
end Go.Ab
