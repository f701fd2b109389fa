import Derived.Test.YtfdjdnphbakjoaaGreatAb25
import Derived.KernelRfl
namespace Go.Ab
variable [Io]

def bodyOf (F : Func) : Code := match F.body with
  | some c => c
  | none => .skip

omit [Io] in
theorem fb_of {P : Program} {draw : CallF → Nat → Array Oper → RgF} {f : FuncId} {F : Func} {b : Fb} (h1 : P.funcs[f]? = some F) (h2 : ∀ args w, (callFunc f args).run P w = .ok (.enter f args) w)
    (h3 : F.body.isSome = true) (h4 : b.ntmps = F.ntmps) (h5 : Nat.ble b.ntmps 512 = true) (h6 : cRVs P b.ntmps F.results.toList = some b.res)
    (h7 : b.body = fun call n => cCode P (draw call b.ntmps) call n b.ntmps (bodyOf F)) : FbOk P draw f b := by
  refine ⟨⟨F, bodyOf F, h1, ?_, h4, Nat.ble_eq.mp h5, h6, h7⟩, h2⟩
  unfold bodyOf
  cases h : F.body with
  | none => rw [h] at h3; cases h3
  | some c => rfl

/-- A table of what is proved for each of its things. -/
def AllT {α : Type} (p : Nat → α → Prop) (a b : Nat) : Tr α → Prop
  | .nil => True
  | .node l v r => (∀ x, v = some x → p b x) ∧ AllT p (2 * a) (a + b) l ∧ AllT p (2 * a) (2 * a + b) r

omit [Io] in
theorem AllT.get {α : Type} {p : Nat → α → Prop} : ∀ {t : Tr α} {a b : Nat}, AllT p a b t → ∀ k x, t.get k = some x → p (a * k + b) x
  | .nil, a, b, _, k, x, e => by cases e
  | .node l v r, a, b, ⟨h1, h2, h3⟩, k, x, e => by
    rw [Tr.get_node] at e
    by_cases h0 : k = 0
    · subst h0
      rw [if_pos rfl] at e
      simpa using h1 x e
    · rw [if_neg h0] at e
      by_cases hk : k % 2 = 1
      · rw [if_pos hk] at e
        have := h2.get _ x e
        have e2 : 2 * a * (k / 2) + (a + b) = a * k + b := by
          have : k = 2 * (k / 2) + 1 := by omega
          generalize k / 2 = m at *
          subst this
          rw [Nat.mul_add, Nat.mul_one, ← Nat.mul_assoc, Nat.mul_comm a 2]
          omega
        rwa [e2] at this
      · rw [if_neg hk] at e
        have := h3.get _ x e
        have e2 : 2 * a * (k / 2 - 1) + (2 * a + b) = a * k + b := by
          have : k = 2 * (k / 2 - 1) + 2 := by omega
          generalize k / 2 - 1 = m at *
          subst this
          rw [Nat.mul_add, ← Nat.mul_assoc, Nat.mul_comm a 2]
          omega
        rwa [e2] at this
omit [Io] in
theorem at_none {α : Type} {p : Nat → α → Prop} {b : Nat} : ∀ x, (none : Option α) = some x → p b x := fun _ e => by cases e
omit [Io] in
theorem at_some {α : Type} {p : Nat → α → Prop} {b : Nat} {y : α} (h : p b y) : ∀ x, some y = some x → p b x := fun _ e => by cases e; exact h

end Go.Ab
