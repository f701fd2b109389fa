import Derived.Test.YtfdjdnphbakjoaaAb9
namespace Go.Ab
variable [Io]
section
variable {P : Program} {o : Oper}

/-- A new block that nobody will write. -/
theorem imm_ext {g w h} (H : HR g w h) {w' : World} (h1 : w'.os = w.os) (h2 : w'.tape = w.tape) (h3 : w'.output = w.output) (h4 : w'.heap.size = w.heap.size + 1)
    (h5 : ∀ b, b < w.heap.size → w'.heap[b]? = w.heap[b]?) :
    Ext g w h ⟨g.m, fun b => g.imm b ∨ b = w.heap.size⟩ w' h ∧ HR ⟨g.m, fun b => g.imm b ∨ b = w.heap.size⟩ w' h := by
  have hown : ∀ b, Owned g h b → b < w.heap.size := by
    rintro b ⟨id, cs, s, e, m⟩
    obtain ⟨_, _, _, hw, _⟩ := H.row e m
    exact (Array.getElem?_eq_some_iff.1 hw).1
  have E : Ext g w h ⟨g.m, fun b => g.imm b ∨ b = w.heap.size⟩ w' h := by
    refine ⟨h1, h2, h3, by omega, Nat.le_refl _, fun _ _ e => e, fun b hb _ => h5 b hb, ?_, fun _ i => .inl i, ?_, fun _ o => .inl o⟩
    · intro b
      unfold rowSize
      by_cases hb : b < w.heap.size
      · rw [h5 b hb]; exact Nat.le_refl _
      · rw [Array.getElem?_eq_none (by omega)]; exact Nat.zero_le _
    · rintro b (i | rfl)
      · exact .inl i
      · exact .inr (.inr (Nat.le_refl _))
  refine ⟨E, H.fresh, ?_, H.inj, ?_⟩
  · intro id cs e
    obtain ⟨b, s, C, el, vs, hm, hw, hi, hv, hc⟩ := H.objs id cs e
    have hb := (Array.getElem?_eq_some_iff.1 hw).1
    refine ⟨b, s, C, el, vs, hm, by rw [h5 b hb]; exact hw, ?_, VRs.mono H E _ _ hv, hc⟩
    rintro (i | rfl)
    · exact hi i
    · omega
  · rintro b (i | rfl)
    · have := H.imm b i; omega
    · omega

def bytesV (s : ByteArray) : List Value := s.data.toList.map fun b => Value.int .u8 (.ofNat b.toNat)

omit [Io] in
theorem run_bytes (w : World) (e : TypeId) (s : ByteArray) : ∃ cap w', (Conv.stringToBytes e s).run P w = .ok (.slice (some ⟨w.heap.size, 0, none⟩) s.size cap) w' ∧ s.size ≤ cap ∧
    w'.os = w.os ∧ w'.tape = w.tape ∧ w'.output = w.output ∧ w'.heap.size = w.heap.size + 1 ∧ (∀ b, b < w.heap.size → w'.heap[b]? = w.heap[b]?) ∧ CellsAt w' w.heap.size 0 (bytesV s) := by
  obtain ⟨cap, hcap⟩ : ∃ cap, cap = (Question.appendCap s.size 0 e).cut (w.tape w.drawn (.appendCap s.size 0 e)) := ⟨_, rfl⟩
  have hge : s.size ≤ cap := by rw [hcap]; simp [Question.cut]
  obtain ⟨C, hC⟩ : ∃ C : Array Value, C = s.data.map (fun b => Value.int .u8 (b.toNat : Int)) ++ Array.replicate (cap - s.size) (.int .u8 0) := ⟨_, rfl⟩
  refine ⟨cap, (w.drew.alloc (.cells C e)).freeze { block := w.heap.size, off := C.size } 1, ?_, hge, rfl, rfl, rfl, ?_, ?_, ?_⟩
  · have hsh : (w.drew.alloc (.cells C e)).shape? w.heap.size = some (e, C.size) := by
      have : ((w.drew.alloc (.cells C e)).heap)[w.heap.size]? = some (.cells C e) := by
        show (w.heap.push _)[w.heap.size]? = _
        simp
      simp only [World.shape?, this]
    simp [Conv.stringToBytes, run_choose, Question.forced, ← hcap, ← hC, newRow, markStringish, hsh]
  · simp [World.freeze]
  · intro b hb
    have h1 : ((w.drew.alloc (.cells C e)).heap)[b]? = w.heap[b]? := by
      show (w.heap.push _)[b]? = _
      rw [Array.getElem?_push, if_neg (by omega)]
    simp only [World.freeze, Nat.one_ne_zero, if_false]
    rw [Array.getElem?_modify, if_neg (by show ¬ w.heap.size = b; omega), h1]
  · intro j v hj
    have h1 : ((w.drew.alloc (.cells C e)).heap)[w.heap.size]? = some (.cells C e) := by
      show (w.heap.push _)[w.heap.size]? = _
      simp
    have h2 : ∃ fz, ((w.drew.alloc (.cells C e)).freeze { block := w.heap.size, off := C.size } 1).heap[w.heap.size]? = some (.cells C e fz) := by
      simp only [World.freeze, Nat.one_ne_zero, if_false]
      rw [Array.getElem?_modify, if_pos rfl, h1]
      exact ⟨_, rfl⟩
    obtain ⟨fz, h2⟩ := h2
    simp only [World.cell?, h2, Nat.zero_add]
    unfold bytesV at hj
    have hl := (List.getElem?_eq_some_iff.1 hj).1
    rw [hC]
    simp only [Option.isSome_none, Bool.false_eq_true, if_false]
    rw [Array.getElem?_append_left (by simpa using hl)]
    simpa using hj

theorem VRs.bytes (g : G) (w : World) : ∀ (l : List UInt8), VRs g w (l.map fun b => AV.int .u8 (.ofNat b.toNat)) (l.map fun b => Value.int .u8 (.ofNat b.toNat))
  | [] => by simp [VRs]
  | b :: l => by
    simp only [List.map_cons, VRs]
    exact ⟨_, _, rfl, by simp only [VR], VRs.bytes g w l⟩

theorem run_kBytes {S D e : TypeId} {d : TypeDesc} {x : Operand} (ho : o.op = .convert S D x) (hS : P.underlying S = some d) (hD : P.underlying D = some (.slice e)) (he : P.underlying e = some (.int .u8)) :
    OpRun P o (kBytes (cOpd x)) := by
  intro g w nt t h a v h' H Tr ev
  unfold kBytes at ev
  split at ev
  · rename_i s hx
    have hv := cOpd_ok x _ _ _ _ _ _ Tr hx
    simp only [VR] at hv
    cases ev
    obtain ⟨hv, _⟩ := hv
    obtain ⟨cap, w', hr, hge, h1, h2, h3, h4, h5, hc⟩ := run_bytes (P := P) w e s
    obtain ⟨E, H'⟩ := imm_ext H h1 h2 h3 h4 h5
    refine ⟨_, w', .value (.slice (some ⟨w.heap.size, 0, none⟩) s.size cap), _, ?_, .inl rfl, E, H', ?_⟩
    · simp [execOp, ho, hv, convert, run_underlying hS, run_underlying hD, run_underlying he, hr]
    · simp only [VR]
      exact ⟨_, cap, rfl, hge, .inr ⟨w.heap.size, 0, bytesV s, rfl, .inr rfl, hc, VRs.bytes _ _ _⟩⟩
  · cases ev

theorem pure_min {x y : Operand} {ats : Array TypeId} (ho : o.op = .call { callee := .builtin .min, args := #[x, y], argTypes := ats }) : OpPure P o (kMin (cOpd x) (cOpd y)) := by
  intro g w nt t h a v h' H Tr e
  unfold kMin kBin at e
  cases hx : cOpd x t with
  | none => rw [hx] at e; cases e
  | some ax =>
    cases hy : cOpd y t with
    | none => rw [hx, hy] at e; cases e
    | some ay =>
      rw [hx, hy] at e
      cases hr : bInt (fun k a b => some (.int k (bif ltI b a then b else a))) ax ay with
      | none => simp only [hr] at e; cases e
      | some r =>
        simp only [hr] at e
        cases e
        obtain ⟨k, m, n, rfl, rfl, h2⟩ := bInt_some hr
        cases h2
        have h3 := cOpd_ok x _ _ _ _ _ _ Tr hx
        have h4 := cOpd_ok y _ _ _ _ _ _ Tr hy
        simp only [VR] at h3 h4
        refine ⟨rfl, .int k (if n < m then n else m), by simp [execOp, ho, resolve, invoke, builtin, Builtin.min_, Builtin.min2, h3, h4], ?_⟩
        simp only [VR, ltI_eq]
        by_cases hlt : n < m <;> simp [hlt]
theorem pure_max {x y : Operand} {ats : Array TypeId} (ho : o.op = .call { callee := .builtin .max, args := #[x, y], argTypes := ats }) : OpPure P o (kMax (cOpd x) (cOpd y)) := by
  intro g w nt t h a v h' H Tr e
  unfold kMax kBin at e
  cases hx : cOpd x t with
  | none => rw [hx] at e; cases e
  | some ax =>
    cases hy : cOpd y t with
    | none => rw [hx, hy] at e; cases e
    | some ay =>
      rw [hx, hy] at e
      cases hr : bInt (fun k a b => some (.int k (bif ltI a b then b else a))) ax ay with
      | none => simp only [hr] at e; cases e
      | some r =>
        simp only [hr] at e
        cases e
        obtain ⟨k, m, n, rfl, rfl, h2⟩ := bInt_some hr
        cases h2
        have h3 := cOpd_ok x _ _ _ _ _ _ Tr hx
        have h4 := cOpd_ok y _ _ _ _ _ _ Tr hy
        simp only [VR] at h3 h4
        refine ⟨rfl, .int k (if n > m then n else m), by simp [execOp, ho, resolve, invoke, builtin, Builtin.max_, Builtin.max2, h3, h4], ?_⟩
        simp only [VR, ltI_eq]
        by_cases hlt : m < n <;> simp [hlt]
end
end Go.Ab
