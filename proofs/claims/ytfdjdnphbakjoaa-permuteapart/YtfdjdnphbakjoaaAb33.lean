import Derived.Test.YtfdjdnphbakjoaaAb32
namespace Go.Ab
variable [Io]
section
variable {P : Program}

/-- One call, its own calls by c. -/
noncomputable def aStep (fn : FuncId → Option Fb) (n : Nat) (c : CallF) : CallF := fun f args h => match fn f with
  | none => .bad
  | some b => ifb (Nat.ble (len args) b.ntmps) (match b.body c n (enterT args 0 Tm.none) h with
    | .norm t h => fin b.res t h
    | .ret t h => fin b.res t h
    | _ => .bad) .bad
/-- Calls, a table of known ones laid ahead of each. -/
noncomputable def oCall (fn : FuncId → Option Fb) (tbl : FuncId → List AV → Option AV) (n : Nat) (d : Nat) : CallF :=
  Nat.rec (fun _ _ _ => .bad) (fun _ ih => aStep fn n (orc tbl ih)) d

theorem aStep_ok {draw : CallF → Nat → Array Oper → RgF} (hd : DrawOk P draw) {fn : FuncId → Option Fb} (hf : ∀ f b, fn f = some b → FbOk P draw f b) (n : Nat) {c : CallF} (hc : CallOk P c) : CallOk P (aStep fn n c) := by
  intro f args h v h' e
  change (match fn f with
    | none => Ro.bad
    | some b => ifb (Nat.ble (len args) b.ntmps) (match b.body (c) n (enterT args 0 Tm.none) h with | .norm t h => fin b.res t h | .ret t h => fin b.res t h | _ => .bad) .bad) = .ok v h' at e
  cases hb : fn f with
  | none => rw [hb] at e; cases e
  | some b =>
  rw [hb] at e
  simp only at e
  cases hle : Nat.ble (len args) b.ntmps with
  | false => rw [hle] at e; cases e
  | true =>
  rw [hle] at e
  change (match b.body (c) n (enterT args 0 Tm.none) h with | .norm t h => fin b.res t h | .ret t h => fin b.res t h | _ => .bad) = Ro.ok v h' at e
  rw [len_eq] at hle
  have hle' : args.length ≤ b.ntmps := Nat.ble_eq.mp hle
  have F0 := hf f b hb
  obtain ⟨F, cd, hF, hcb, hnt, h512, hres, hbody⟩ := F0.ex
  refine ⟨F0.enter, fun g w vs H hv => ?_⟩
  rw [hbody] at e
  have hcode := code_ok hc (draw := draw (c) b.ntmps) (nt := b.ntmps) (fun id ops => hd _ _ hc id ops) n cd
  have hvl := hv.length
  have hsize : (vs.toArray ++ Array.replicate (F.ntmps - vs.toArray.size) undef).size = b.ntmps := by simp; omega
  have hT0 : TR g w b.ntmps Tm.none (vs.toArray ++ Array.replicate (F.ntmps - vs.toArray.size) undef) :=
    ⟨h512, hsize, fun i v hi e => by rw [Tm.at_none i hi] at e; cases e⟩
  have hT := enter_ok args vs 0 b.ntmps Tm.none _ hv (by omega) hT0 (fun j v e => by
    rw [Array.getElem?_append_left (by have := (List.getElem?_eq_some_iff.1 e).1; simpa using this)]
    simpa using e)
  refine calls_of_wp hF hcb ?_
  have := hcode g w _ h { tmps := vs.toArray ++ Array.replicate (F.ntmps - vs.toArray.size) undef, defers := [] }
    (bodyPost P F (fun e w' => ∃ x g', e = .returned x ∧ Ext g w h g' w' h' ∧ HR g' w' h' ∧ VR g' w' v x)) H hT rfl
  have fin' : ∀ t1 h1, fin b.res t1 h1 = .ok v h' → ∀ g' w' (a' : Act), Ext g w h g' w' h1 → HR g' w' h1 → TR g' w' b.ntmps t1 a'.tmps → a'.defers = [] →
      a'.defers = [] ∧ ∃ x, (results F a'.tmps).run P w' = .ok x w' ∧ ∃ y g', Ending.returned x = .returned y ∧ Ext g w h g' w' h' ∧ HR g' w' h' ∧ VR g' w' v y := by
    intro t1 h1 hfin g' w' a' E' H' T' D'
    obtain ⟨rfl, x, hx, hxv⟩ := fin_ok H' T' hres hfin
    exact ⟨D', x, hx, x, g', rfl, E', H', hxv⟩
  simp only at e
  cases hr : cCode P (draw (c) b.ntmps) (c) n b.ntmps cd (enterT args 0 Tm.none) h with
  | bad => rw [hr] at e; cases e
  | norm t1 h1 => rw [hr] at e this; exact this (fin' t1 h1 e)
  | ret t1 h1 => rw [hr] at e this; exact this (fin' t1 h1 e)
  | exit i t1 h1 => rw [hr] at e; cases e

theorem oCall_ok {draw : CallF → Nat → Array Oper → RgF} (hd : DrawOk P draw) {fn : FuncId → Option Fb} (hf : ∀ f b, fn f = some b → FbOk P draw f b) {tbl : FuncId → List AV → Option AV}
    (ht : ∀ f args v, tbl f args = some v → Known P f args v) (n : Nat) : ∀ d, CallOk P (oCall fn tbl n d)
  | 0 => by intro f args h v h' e; cases e
  | d + 1 => aStep_ok hd hf n (orc_ok ht (oCall_ok hd hf ht n d))
end
end Go.Ab
