import Derived.Test.YtfdjdnphbakjoaaGreatAb31
import Derived.Below
namespace Go.Ab

/-- The law's answer. -/
noncomputable def isT (r : Ro) : Bool := match r with
  | .ok (.bool b) _ => b
  | _ => false
theorem isT_ok {r : Ro} (h : isT r = true) : ∃ h', r = .ok (.bool true) h' := by
  unfold isT at h
  split at h
  · subst h; exact ⟨_, rfl⟩
  · cases h

theorem Keep.below {w w' : World} (K : Keep w w') : Go.RowKit.Below w.heap.size w w' := ⟨K.os, K.tape, K.output, K.size, K.old⟩

/-- A law that the evaluator finds true: it is true, and turns nothing. -/
theorem law_ok [Io] {P : Program} {call : CallF} (hc : CallOk P call) {f : FuncId} {args : List AV} {vs : List Value} (e : isT (call f args (nilH 0)) = true) (w : World) (hv : VRs (gE fun _ => False) w args vs) :
    Calls P f vs.toArray w fun e w' => e = .returned (.bool true) ∧ Go.RowKit.Below w.heap.size w w' := by
  obtain ⟨h', e'⟩ := isT_ok e
  refine ((hc f args (nilH 0) _ h' e').2 (gE fun _ => False) w vs (hr_empty fun b i => i.elim) hv).mono ?_
  rintro e w' ⟨x, g', rfl, E, H', hx⟩
  simp only [VR] at hx
  subst hx
  exact ⟨rfl, (keep_of E).below⟩

/-- A whole number of 64 bits. -/
theorem i64_wf {n : Int} (h : (Lit.int .i64 n).wf = true) : -9223372036854775808 ≤ n ∧ n ≤ 9223372036854775807 := by
  simp [Lit.wf, IntKind.min, IntKind.max, IntKind.bits, IntKind.signed] at h
  omega
theorem u64_wf {n : Int} (h : (Lit.int .u64 n).wf = true) : 0 ≤ n ∧ n ≤ 18446744073709551615 := by
  simp [Lit.wf, IntKind.min, IntKind.max, IntKind.bits, IntKind.signed] at h
  omega
/-- A table that is known row by row. -/
def KR (P : Program) (f : FuncId) (l : List Row) : Prop := ∀ r ∈ l, KnownR P f r.k r.A r.B r.v
theorem KR.nil {P : Program} {f : FuncId} : KR P f [] := fun _ h => by cases h
theorem KR.cons {P : Program} {f : FuncId} {k : IntKind} {A B : Int} {v : AV} {l : List Row} (h : KnownR P f k A B v) (t : KR P f l) : KR P f (⟨k, A, B, v⟩ :: l) := by
  intro r hr
  cases hr with
  | head => exact h
  | tail _ hr => exact t r hr
end Go.Ab
