import Derived.Test.YtfdjdnphbakjoaaGreatAb24
namespace Go.Ab
variable [Io]

-- the plan
noncomputable def pickL (ok : Nat → Nat → Bool) (l : List Nat) : Nat → List Nat :=
  List.rec (fun _ => []) (fun i _ ih r => Bool.rec (ih r) (i :: ih (Nat.lor r (Nat.pow 2 i))) (ok i r)) l
noncomputable def maskL (l : List Nat) (r : Nat) : Nat := List.rec r (fun i _ ih => Nat.lor (Nat.pow 2 i) ih) l
noncomputable def bit (r i : Nat) : Bool := Nat.beq (Nat.mod (Nat.div r (Nat.pow 2 i)) 2) 1
noncomputable def filterL (p : Nat → Bool) (l : List Nat) : List Nat := List.rec [] (fun i _ ih => Bool.rec ih (i :: ih) (p i)) l
noncomputable def firstL (p : Nat → Bool) (l : List Nat) : Option Nat := List.rec none (fun i _ ih => Bool.rec ih (some i) (p i)) l
noncomputable def nums (l : List Oper) : List Nat := List.rec (fun _ => []) (fun _ _ ih i => i :: ih (Nat.add i 1)) l 0

section
variable (P : Program) (call : CallF) (L : List Oper)
noncomputable def segP (ms idx : List Nat) (fuel : Nat) : Nat → List Nat → Plan :=
  Nat.rec (fun _ _ => .last [] []) (fun _ ih done chd =>
    match pickL (fun i r => (clB P call L .p0 i || clB P call L .p1 i) && (!bit r i && Nat.beq (Nat.land ((getN ms i).getD 0) r) ((getN ms i).getD 0))) idx done with
    | new => match filterL (fun i => bit done i && (clB P call L .p1 i && !anyB (fun j => bit ((getN ms j).getD 0) i) chd)) idx with
      | old => match maskL new done with
        | done1 => match firstL (fun i => clB P call L .ch i && !bit done1 i) idx with
          | none => .last (app old new) (pickL (fun i r => !bit r i) idx done1)
          | some q => match pickL (fun i r => !bit r i && bit ((getN ms q).getD 0) i) idx done1 with
            | als => .cons (app old new) als q (ih (Nat.lor (Nat.pow 2 q) (maskL als done1)) (q :: chd))) fuel
noncomputable def mkPlan : Plan := segP P call L (masks L []) (nums L) (Nat.succ (len L)) 0 []
end

/-- A region that draws its order. -/
noncomputable def cDraw (P : Program) (call : CallF) (nt : Nat) (ops : Array Oper) : RgF :=
  match mkPlan P call ops.toList with
  | pl => ifb (downB ops.toList && (dstB ops.toList && statB P call ops.toList pl [])) (planF P call nt ops.toList pl []) (fun _ _ => .bad)

namespace Cx
variable {c : Cx}
omit [Io] in
theorem stat_of : ∀ (pl : Plan) (past : List Nat), statB c.P c.call c.ops.toList pl past = true → c.StatP past pl
  | .last pre als, past, h => by
    intro i hi
    obtain ⟨o, ho, _⟩ := id hi
    have := rec_true (allI_iff h i o (by simpa using ho)) (clB_iff.2 hi)
    rw [Bool.or_eq_true, anyB_iff, memB_iff] at this
    exact this
  | .cons pre als q rest, past, h => by
    unfold statB at h
    simp only [Bool.and_eq_true] at h
    obtain ⟨h1, h2, h3, h4⟩ := h
    refine ⟨fun i hi => ?_, fun i hi hc => ?_, fun q' hq => ?_, stat_of rest _ h4⟩
    · obtain ⟨o, ho, _⟩ := id hi
      have := rec_true (allI_iff h1 i o (by simpa using ho)) (clB_iff.2 hi)
      rw [Bool.or_eq_true, Bool.or_eq_true, anyB_iff, anyB_iff, memB_iff] at this
      exact this
    · rw [allB_eq, List.all_eq_true] at h2
      exact rec_true (h2 i hi) (clB_iff.2 hc)
    · rw [allB_eq, List.all_eq_true] at h3
      exact h3 q' hq

omit [Io] in
theorem dst_of (h : dstB c.ops.toList = true) : ∀ i j d, c.Dst i d → c.Dst j d → i = j := by
  rintro i j d ⟨o, ho, hd⟩ ⟨o', ho', hd'⟩
  have h1 := allI_iff h i o (by simpa using ho)
  rw [hd] at h1
  have h2 := rec_true (allI_iff h1 j o' (by simpa using ho')) (eqDst_iff hd')
  exact Nat.eq_of_beq_eq_true h2
end Cx

theorem to_next {g : G} {w : World} {h : Hp} (H : HR g w h) : g.to h.next = g := by
  cases g with
  | mk m im =>
    unfold G.to
    simp only [G.mk.injEq, and_true]
    funext id
    by_cases hid : id < h.next
    · simp only [hid, if_true]
    · simp only [hid, if_false]
      exact (H.fresh id (by omega)).symm

omit [Io] in
theorem mono_heap {g : G} {w w' : World} (h : w'.heap = w.heap) : Mono g w g w' :=
  ⟨fun _ _ e => e, fun _ i => i, fun b _ => by rw [h], fun b => by unfold rowSize; rw [h]; exact Nat.le_refl _⟩
theorem HR.heap {g : G} {w w' : World} {hp : Hp} (h : w'.heap = w.heap) (H : HR g w hp) : HR g w' hp := by
  refine ⟨H.fresh, fun id cs e => ?_, H.inj, fun b i => by rw [h]; exact H.imm b i⟩
  obtain ⟨b, s, C, el, vs, h1, h2, h3, h4, h5⟩ := H.objs id cs e
  exact ⟨b, s, C, el, vs, h1, by rw [h]; exact h2, h3, VRs.mono' (mono_heap h) _ _ h4, h5⟩
omit [Io] in
theorem ext_drawn (g : G) (w : World) (h : Hp) (n : Nat) : Ext g w h g { w with drawn := n } h :=
  ⟨rfl, rfl, rfl, Nat.le_refl _, Nat.le_refl _, fun _ _ e => e, fun _ _ _ => rfl, fun _ => Nat.le_refl _, fun _ i => i, fun _ i => .inl i, fun _ o => .inl o⟩

theorem draw_ok {P : Program} (hm : P.follows .mixedOrders = true) : DrawOk P (cDraw P) := by
  intro call nt hc id ops g w t h a t' h' H T D e Q K
  refine wp_region_draw fun tk => ?_
  rw [hm]
  change (ifb (downB ops.toList && (dstB ops.toList && statB P call ops.toList (mkPlan P call ops.toList) [])) (planF P call nt ops.toList (mkPlan P call ops.toList) []) (fun _ _ => .bad) : RgF) t h = .ok t' h' at e
  cases hB : (downB ops.toList && (dstB ops.toList && statB P call ops.toList (mkPlan P call ops.toList) [])) with
  | false => rw [hB] at e; cases e
  | true =>
  rw [hB] at e
  change planF P call nt ops.toList (mkPlan P call ops.toList) [] t h = .ok t' h' at e
  simp only [Bool.and_eq_true] at hB
  obtain ⟨hdn, hds, hst⟩ := hB
  obtain ⟨pl, hpl⟩ : ∃ pl, pl = mkPlan P call ops.toList := ⟨_, rfl⟩
  rw [← hpl] at e hst
  have L := schedule_lin (down_of hdn) tk
  let c0 : Cx := ⟨P, call, ops, nt, t, t', fun _ => 0, fun _ => 0, g, w, h, h'⟩
  have hds' : ∀ i j d, c0.Dst i d → c0.Dst j d → i = j := Cx.dst_of (c := c0) hds
  have hnt : nt ≤ 512 := T.1
  have F := Cx.planF_fr (c := c0) hnt pl [] t h e
  have hsame : ∀ u, u < 512 → (∀ j, ¬ c0.Dst j u) → c0.te.at u = c0.t0.at u := fun u hu hd => F u hu (fun j hj => absurd hj (hd j))
  obtain ⟨nx, bd, _, hrun, htop, hgi⟩ := Cx.planF_ok (c := c0) hnt hsame hds' pl [] t h (fun _ => 0) (fun _ => 0) e (fun u _ _ => rfl) (fun j hj => by cases hj)
  let c : Cx := c0.wi nx bd
  have hlt : ∀ {i k}, c.IsCl i k → i < c.ops.size := fun ⟨o, ho, _⟩ => (Array.getElem?_eq_some_iff.1 ho).1
  have G0 : c.Glob :=
    ⟨fun i hi => (hgi i (hlt hi) (by simp)).1.1 hi, fun i hi => (hgi i (hlt hi) (by simp)).1.2 hi, hds', htop, hsame, hc, hnt⟩
  have hto : g.to h.next = g := to_next H
  refine Cx.sim (c := c) G0 K _ [] [] pl g { w with drawn := w.drawn + 1 } h a L ?_
  exact
  { run := hrun
    stat := Cx.stat_of (c := c) pl [] hst
    closed := fun j hj => by cases hj
    chs := fun i hi => .inl ((hgi i (hlt hi) (by simp)).2.2 hi)
    chN := fun i _ h => by cases h
    pastD := fun j hj => by cases hj
    alc := fun i hi => .inl ((hgi i (hlt hi) (by simp)).2.1 hi)
    st := ⟨(by rw [hto]; exact HR.heap (w := w) rfl H), (by rw [hto]; exact ext_drawn _ _ _ _), (fun i _ h => by cases h), (fun i _ j _ h => by cases h)⟩
    dom := fun id x m => .inl (by
      refine Classical.byContradiction fun k => ?_
      rw [H.fresh id (by omega)] at m; cases m)
    slots := fun j hj => by cases hj
    free := fun u v hu hd eu => by
      obtain ⟨h1, h2⟩ := T.2.2 u v hu eu
      refine ⟨h1, ?_⟩
      rw [hto]
      exact VR.mono' (mono_heap (w := w) (w' := { w with drawn := w.drawn + 1 }) rfl) _ _ h2
    size := T.2.1
    defers := D }

end Go.Ab
