import Derived.Test.YtfdjdnphbakjoaaGreatAb30
namespace Go.Ab

/-- A result with its rows frozen. -/
noncomputable def res (r : Ro) : Option AV := Ro.rec none (fun v h => frz 8 h v) r
theorem res_some {r : Ro} {v' : AV} (h : res r = some v') : ∃ v h', r = .ok v h' ∧ frz 8 h' v = some v' := by
  cases r with
  | bad => cases h
  | ok v h' => exact ⟨v, h', rfl, h⟩

/-- A function of one number, on a stretch of numbers. -/
def KnownR (P : Program) (f : FuncId) (k : IntKind) (A B : Int) (v : AV) : Prop :=
  (∀ as w, (callFunc f as).run P w = .ok (.enter f as) w) ∧ ∀ (I : Io) (x : Int), A ≤ x → x ≤ B → ∀ (g : G) (w : World), (∀ b, g.imm b → b < w.heap.size) →
    Calls P f #[.int k x] w fun e w' => ∃ y, e = .returned y ∧ Keep w w' ∧ @VR I (gE fun b => g.imm b ∨ (w.heap.size ≤ b ∧ b < w'.heap.size)) w' v y

theorem KnownR.known {P : Program} {f : FuncId} {k : IntKind} {A B : Int} {v : AV} (h : KnownR P f k A B v) (I : Io) {args : List AV} (ha : rngB k A B args = true) : @Known I P f args v := by
  refine ⟨h.1, fun g w vs hi hv => ?_⟩
  obtain ⟨x, rfl, h1, h2⟩ := rngB_ok ha hv
  exact h.2 I x h1 h2 g w hi

theorem KnownR.join {P : Program} {f : FuncId} {k : IntKind} {A B C D : Int} {v : AV} (h : KnownR P f k A B v) (h2 : KnownR P f k C D v) (hc : C ≤ B + 1) : KnownR P f k A D v :=
  ⟨h.1, fun I x a b g w hi => if hx : x ≤ B then h.2 I x a hx g w hi else h2.2 I x (by omega) b g w hi⟩

/-- By one run with a number that is not known. -/
theorem knownR_sym {P : Program} {call : CallF} (hc : ∀ J : Io, @CallOk J P call) {f : FuncId} {k : IntKind} {A B : Int} {v : AV} (e : res (call f [.sym k (.var 0) A B 0] (nilH 0)) = some v) (hn : noSym v = true) : KnownR P f k A B v := by
  obtain ⟨v0, h', e1, e2⟩ := res_some e
  refine ⟨(@hc ⟨fun _ => 0⟩ f _ _ v0 h' e1).1, fun I x h1 h2 g w hi => ?_⟩
  let J : Io := ⟨fun _ => x⟩
  have := @pureC_of J P call (hc J) f [.sym k (.var 0) A B 0] v0 v h' 8 e1 e2 g.imm w [.int k x] hi (by
    simp only [VRs, VR]
    exact ⟨_, [], rfl, ⟨by show _ = Value.int k (x + 0); rw [Int.add_zero], h1, h2⟩, rfl⟩)
  refine this.mono ?_
  rintro e w' ⟨y, rfl, K, hy⟩
  exact ⟨y, rfl, K, VR.io J I v y hn hy⟩
/-- By one run with the number itself. -/
theorem knownR_int {P : Program} {call : CallF} (hc : ∀ J : Io, @CallOk J P call) {f : FuncId} {k : IntKind} {A : Int} {v : AV} (e : res (call f [.int k A] (nilH 0)) = some v) (hn : noSym v = true) : KnownR P f k A A v := by
  obtain ⟨v0, h', e1, e2⟩ := res_some e
  refine ⟨(@hc ⟨fun _ => 0⟩ f _ _ v0 h' e1).1, fun I x h1 h2 g w hi => ?_⟩
  obtain rfl : x = A := by omega
  have := @pureC_of I P call (hc I) f [.int k x] v0 v h' 8 e1 e2 g.imm w [.int k x] hi (by
    simp only [VRs, VR]
    exact ⟨_, [], rfl, rfl, rfl⟩)
  exact this

structure Row where
  k : IntKind
  A : Int
  B : Int
  v : AV
noncomputable def lookR (rows : List Row) (args : List AV) : Option AV := List.rec none (fun r _ ih => Bool.rec ih (some r.v) (rngB r.k r.A r.B args)) rows
theorem lookR_ok {P : Program} {f : FuncId} : ∀ {rows : List Row}, (∀ r ∈ rows, KnownR P f r.k r.A r.B r.v) → ∀ (I : Io) (args : List AV) (v : AV), lookR rows args = some v → @Known I P f args v
  | [], _, I, args, v, e => by cases e
  | r :: rows, h, I, args, v, e => by
    change (Bool.rec (lookR rows args) (some r.v) (rngB r.k r.A r.B args) : Option AV) = some v at e
    cases hb : rngB r.k r.A r.B args with
    | true =>
      rw [hb] at e
      cases e
      exact (h r List.mem_cons_self).known I hb
    | false =>
      rw [hb] at e
      exact lookR_ok (fun r hr => h r (List.mem_cons_of_mem _ hr)) I args v e

/-- A function without arguments. -/
noncomputable def look0 (v : AV) (args : List AV) : Option AV := List.rec (some v) (fun _ _ _ => none) args
theorem look0_ok {P : Program} {call : CallF} (hc : ∀ J : Io, @CallOk J P call) {f : FuncId} {v0 : AV} (e : res (call f [] (nilH 0)) = some v0) (I : Io) (args : List AV) (v : AV) (h : look0 v0 args = some v) : @Known I P f args v := by
  cases args with
  | cons a l => cases h
  | nil =>
    cases h
    obtain ⟨v1, h', e1, e2⟩ := res_some e
    exact @known_lit I P call (hc I) f [] v1 v0 h' 8 e1 e2 (fun g w vs h => by simpa only [VRs] using h)

/-- The tables, by function. -/
noncomputable def lookF (tbl : List (FuncId × (List AV → Option AV))) (f : FuncId) (args : List AV) : Option AV :=
  List.rec none (fun p _ ih => Bool.rec ih (p.2 args) (Nat.beq p.1 f)) tbl
theorem lookF_ok {P : Program} : ∀ {tbl : List (FuncId × (List AV → Option AV))}, (∀ p ∈ tbl, ∀ (I : Io) (args : List AV) (v : AV), p.2 args = some v → @Known I P p.1 args v) →
    ∀ (I : Io) (f : FuncId) (args : List AV) (v : AV), lookF tbl f args = some v → @Known I P f args v
  | [], _, I, f, args, v, e => by cases e
  | p :: tbl, h, I, f, args, v, e => by
    change (Bool.rec (lookF tbl f args) (p.2 args) (Nat.beq p.1 f) : Option AV) = some v at e
    cases hb : Nat.beq p.1 f with
    | true =>
      rw [hb] at e
      obtain rfl := Nat.eq_of_beq_eq_true hb
      exact h p List.mem_cons_self I args v e
    | false =>
      rw [hb] at e
      exact lookF_ok (fun q hq => h q (List.mem_cons_of_mem _ hq)) I f args v e

end Go.Ab
