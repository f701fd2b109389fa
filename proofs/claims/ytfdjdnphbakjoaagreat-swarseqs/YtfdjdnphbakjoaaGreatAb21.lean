import Derived.Test.YtfdjdnphbakjoaaGreatAb20
namespace Go.Ab
variable [Io]
namespace Cx
variable {c : Cx}

omit [Io] in
theorem G.add_to {g : G} {id b N : Nat} (h : N ≤ id) : (g.add id b).to N = g.to N := by
  unfold Go.Ab.G.to G.add
  congr 1
  funext k
  by_cases hk : k < N
  · simp only [hk, if_true]
    rw [if_neg (by omega)]
  · simp only [hk, if_false]

theorem sim (G0 : c.Glob) {Q : Exit → Act → World → Prop} (K : Post c.g0 c.w0 c.h0 c.nt c.te c.hE (Q .normal)) : ∀ (s D past : List Nat) (pl : Plan) (g : G) (w : World) (h : Hp) (a : Act),
    LinE c.ops D s → c.Inv g w h a D past pl → wpOps c.P c.ops Q s a w
  | [], D, past, pl, g, w, h, a, L, I => by
    have hall : ∀ i, i < c.ops.size → i ∈ D := L
    have hlt : ∀ {i k}, c.IsCl i k → i < c.ops.size := fun ⟨o, ho, _⟩ => (Array.getElem?_eq_some_iff.1 ho).1
    show Q .normal a w
    cases pl with
    | cons pre als q rest =>
      exact absurd (hall q (hlt (run_chs I.run q List.mem_cons_self))) (I.chN q List.mem_cons_self)
    | last pre als =>
      have S := c.settle (A := []) als h I.run.2 (fun i _ hc => hall i (hlt hc)) (by rw [List.append_nil]; exact I.st) (fun i hi => by cases hi)
      refine K _ _ _ S.ext S.hr ⟨G0.nt, I.size, fun u v hu e => ?_⟩ I.defers
      have hle := c.als_le I.run.2
      by_cases hd : ∃ j, c.Dst j u
      · obtain ⟨j, hj⟩ := hd
        obtain ⟨o, ho, _⟩ := id hj
        have hjs := (Array.getElem?_eq_some_iff.1 ho).1
        obtain ⟨h1, v', e', hv⟩ := I.slots j (hall j hjs) u hj
        rw [e] at e'
        cases e'
        have := G0.top j hjs
        exact ⟨h1, VR.mono' (mono_to g w (by omega)) _ _ hv⟩
      · rw [G0.same u hu (fun j hj => hd ⟨j, hj⟩)] at e
        obtain ⟨h1, h2⟩ := I.free u v hu (fun j _ hj => hd ⟨j, hj⟩) e
        exact ⟨h1, VR.mono' (mono_to g w hle) _ _ h2⟩
  | i :: s, D, past, pl, g, w, h, a, ⟨his, hiD, hE, L⟩, I => by
    obtain ⟨o, ho⟩ : ∃ o, c.ops[i]? = some o := ⟨c.ops[i], Array.getElem?_eq_getElem his⟩
    obtain ⟨hanc, hC⟩ := closed_next I.closed ho hE
    have himm : ∀ b, g.imm b → b < w.heap.size := I.st.hr.imm
    cases hk : (cOp c.P c.call o.op).1 with
    | p0 =>
      have hcl : c.IsCl i .p0 := ⟨o, ho, hk⟩
      obtain ⟨v, hF, hS, hR⟩ := G0.p0 i hcl
      have T := I.reads G0.nt hR hiD hanc (N := max (c.bd i) h.next) (by omega) (by omega)
      have e : gOp c.P c.call c.nt c.ops.toList o (c.rf i) (nilH 0) = .ok v (nilH 0) := by
        rw [← FE_eq ho]; exact hF _
      exact pure_step G0.call ho (.inl hk) (hc_nil (g := g.to (max (c.bd i) h.next)) himm) T e fun x hx => sim G0 K s _ _ _ _ _ _ _ L (I.put G0 ho hiD hC (.inl hcl) hS hx)
    | p1 =>
      have hcl : c.IsCl i .p1 := ⟨o, ho, hk⟩
      have hpre : i ∈ pl.pre := by
        rcases stat_p1 I.stat i hcl with ⟨j, hj, hA⟩ | ⟨j, hj, hA⟩ | h
        · exact absurd (I.closed j (I.pastD j hj) i hA) hiD
        · exact absurd (hanc j hA) (I.chN j hj)
        · exact h
      obtain ⟨v, hF, hS, hR⟩ := pre_p1 I.run i hpre hcl
      have T := I.reads G0.nt hR hiD hanc (N := h.next) (Nat.le_refl _) (Nat.le_refl _)
      have e : gOp c.P c.call c.nt c.ops.toList o (c.rf i) h = .ok v h := by
        rw [← FE_eq ho]; exact hF
      exact pure_step G0.call ho (.inr hk) I.st.hr.toHC T e fun x hx => sim G0 K s _ _ _ _ _ _ _ L
        (I.put G0 ho hiD hC (.inr hcl) hS (VR.mono' (mono_to g w (by omega)) _ _ hx))
    | al =>
      have hcl : c.IsCl i .al := ⟨o, ho, hk⟩
      obtain ⟨v, hS, hR, hF⟩ := G0.al i hcl
      have hin : i ∈ pl.als := (I.alc i hcl).resolve_right hiD
      have hnx := c.run_nx I.run i hin hcl
      have T := I.reads G0.nt hR hiD hanc (N := c.nx i) (Nat.le_refl _) hnx
      obtain ⟨h', hh', hF'⟩ : ∃ h', ((h' = nilH (c.nx i) ∧ c.bd i = c.nx i) ∨ ∃ cs, h' = newO (nilH (c.nx i)) cs ∧ c.bd i = c.nx i + 1) ∧ c.FE i (c.rf i) (nilH (c.nx i)) = .ok v h' := by
        rcases hF with ⟨h1, h2⟩ | ⟨cs, h1, h2⟩
        · exact ⟨_, .inl ⟨rfl, h2⟩, h1⟩
        · exact ⟨_, .inr ⟨cs, rfl, h2⟩, h1⟩
      have e : gOp c.P c.call c.nt c.ops.toList o (c.rf i) (nilH (c.nx i)) = .ok v h' := by
        rw [← FE_eq ho]; exact hF'
      have nal : ∀ j, j ∈ i :: D → j ≠ i → j ∈ D := fun j hj hne => (List.mem_cons.1 hj).resolve_left hne
      -- what holds whichever world comes of it
      have fin : ∀ (g' : G) (w' : World) (x : Value), (∀ id y, g.m id = some y → g'.m id = some y) → g'.imm = g.imm → g'.to h.next = g.to h.next → (w' = w ∨ ∃ ob, w' = w.alloc ob) →
          c.Pend g' w' h i → (∀ id y, g'.m id = some y → g.m id = some y ∨ (c.bd i = c.nx i + 1 ∧ id = c.nx i)) →
          (∀ j ∈ pl.als, j ∈ D → c.IsCl j .al → c.bd j = c.nx j + 1 → c.bd i = c.nx i + 1 → ∀ b, g'.m (c.nx i) = some (b, 0) → g'.m (c.nx j) = some (b, 0) → i = j) →
          VR (g'.to (max (c.bd i) h.next)) w' v x → c.Inv g' w' h (a.put o.dst x) (i :: D) past pl := by
        intro g' w' x hm hi hto hw hp hdom hdist hx
        have M : ∀ N, Mono (g.to N) w (g'.to N) w' := by
          intro N
          have hmN : ∀ id y, (g.to N).m id = some y → (g'.to N).m id = some y := by
            intro id y e
            simp only [Go.Ab.G.to] at e ⊢
            by_cases hid : id < N
            · rw [if_pos hid] at e ⊢; exact hm _ _ e
            · rw [if_neg hid] at e; cases e
          rcases hw with rfl | ⟨ob, rfl⟩
          · exact ⟨hmN, fun b k => by simp only [Go.Ab.G.to] at k ⊢; rw [hi]; exact k, fun _ _ => rfl, fun _ => Nat.le_refl _⟩
          · exact mono_alloc hmN (by simp only [Go.Ab.G.to]; exact hi) (by simp only [Go.Ab.G.to]; exact himm)
        have hpend : ∀ j, c.Pend g w h j → c.Pend g' w' h j := by
          intro j p
          rcases hw with rfl | ⟨ob, rfl⟩
          · rcases p with p | ⟨v, cs, b, C, el, vs, h1, h2, h3, h4, h5, h6, h7, h8, h9⟩
            · exact .inl p
            · exact .inr ⟨v, cs, b, C, el, vs, h1, h2, hm _ _ h3, h4, by rw [hi]; exact h5, by rw [hto]; exact h6, h7, VRs.mono' (M _) _ _ h8, h9⟩
          · exact pend_alloc hm hi himm hto p
        have hst : HR (g'.to h.next) w' h ∧ Ext c.g0 c.w0 c.h0 (g'.to h.next) w' h := by
          rw [hto]
          rcases hw with rfl | ⟨ob, rfl⟩
          · exact ⟨I.st.hr, I.st.ext⟩
          · obtain ⟨E, H⟩ := junk_ext I.st.hr ob
            exact ⟨H, I.st.ext.trans E⟩
        exact
        { run := I.run
          stat := I.stat
          closed := hC
          chs := fun j hj => (I.chs j hj).imp id (List.mem_cons_of_mem _)
          chN := fun j hj h => by
            rcases List.mem_cons.1 h with rfl | h
            · cases c.cl_al hcl (run_chs I.run j hj)
            · exact I.chN j hj h
          pastD := fun j hj => List.mem_cons_of_mem _ (I.pastD j hj)
          alc := fun j hj => (I.alc j hj).imp id (List.mem_cons_of_mem _)
          st := ⟨hst.1, hst.2, fun j hj hjD hjc => by
              by_cases hji : j = i
              · subst hji; exact hp
              · exact hpend j (I.st.pend j hj (nal j hjD hji) hjc), fun j hj k hk jD kD jc kc bj bk b mj mk => by
              by_cases hji : j = i <;> by_cases hki : k = i
              · exact hji.trans hki.symm
              · subst hji
                exact hdist k hk (nal k kD hki) kc bk bj b mj mk
              · subst hki
                exact (hdist j hj (nal j jD hji) jc bj bk b mk mj).symm
              · have nj : g.m (c.nx j) = some (b, 0) := by
                  rcases hdom _ _ mj with m | ⟨b1, b2⟩
                  · exact m
                  · exact absurd (c.run_inj I.run j hj i hin jc hcl bj b1 b2) hji
                have nk : g.m (c.nx k) = some (b, 0) := by
                  rcases hdom _ _ mk with m | ⟨b1, b2⟩
                  · exact m
                  · exact absurd (c.run_inj I.run k hk i hin kc hcl bk b1 b2) hki
                exact I.st.dist j hj k hk (nal j jD hji) (nal k kD hki) jc kc bj bk b nj nk⟩
          dom := fun n y e => by
            rcases hdom n y e with m | ⟨b1, b2⟩
            · exact (I.dom n y m).imp id fun ⟨j, hj, hD, r⟩ => ⟨j, hj, List.mem_cons_of_mem _ hD, r⟩
            · exact .inr ⟨i, hin, List.mem_cons_self, hcl, b1, b2⟩
          slots := slots_put G0 ho I.size I.slots (fun j _ => M _) hiD (fun d hd => ⟨(hS d hd).1, v, (hS d hd).2, hx⟩)
          free := free_put ho I.size I.free (M _)
          size := by rw [put_size]; exact I.size
          defers := by rw [put_defers]; exact I.defers }
      refine new_step G0.call ho hk (hc_nil (g := g.to (c.nx i)) himm) T e (fun h1 x w' hw hv => ?_) (fun cs C el vs x h1 hvs hCv hv => ?_)
      · have hb : c.bd i = c.nx i := by
          rcases hh' with ⟨_, h2⟩ | ⟨cs, h2, _⟩
          · exact h2
          · rw [h2] at h1
            have := congrArg Hp.next h1
            exact absurd this (Nat.succ_ne_self _)
        exact sim G0 K s _ _ _ _ _ _ _ L (fin g w' x (fun _ _ m => m) rfl rfl hw (.inl hb) (fun id y m => .inl m) (fun j _ _ _ _ k => by omega) (hv _ _))
      · have hb : c.bd i = c.nx i + 1 := by
          rcases hh' with ⟨h2, _⟩ | ⟨cs', _, h2⟩
          · rw [h2] at h1
            have := congrArg Hp.next h1
            exact absurd this.symm (Nat.succ_ne_self _)
          · exact h2
        have hnone : g.m (c.nx i) = none := by
          cases hm : g.m (c.nx i) with
          | none => rfl
          | some y =>
            rcases I.dom _ _ hm with h | ⟨j, hj, hD, hjc, hjb, hje⟩
            · omega
            · have := c.run_inj I.run i hin j hj hcl hjc hb hjb hje
              exact absurd (this ▸ hD) hiD
        have hm' : ∀ id y, g.m id = some y → (g.add (c.nx i) w.heap.size).m id = some y := by
          intro id y m
          simp only [G.add]
          rw [if_neg (fun k => by rw [k, hnone] at m; cases m)]
          exact m
        have hat : (g.add (c.nx i) w.heap.size).m (c.nx i) = some (w.heap.size, 0) := by simp [G.add]
        have hto : (g.add (c.nx i) w.heap.size).to h.next = g.to h.next := G.add_to hnx
        have hnew : (w.alloc (.cells C el)).heap[w.heap.size]? = some (.cells C el (0, 0)) := by rw [alloc_heap, if_pos rfl]
        have hrow : C.size ≤ rowSize (w.alloc (.cells C el)) w.heap.size := by rw [rowSize_alloc]; exact Nat.le_refl _
        rw [h1] at hF'
        refine sim G0 K s _ _ _ _ _ _ _ L (fin (g.add (c.nx i) w.heap.size) _ x hm' rfl hto (.inr ⟨_, rfl⟩) (.inr ⟨v, cs, w.heap.size, C, el, vs, hb, hF', hat, hnew, ?_, ?_, I.st.ext.size, ?_, hCv⟩)
          (fun id y m => ?_) (fun j hj hjD hjc hjb _ b m1 m2 => ?_) (hv _ _ ?_ hrow))
        · intro k
          exact absurd (himm _ k) (Nat.lt_irrefl _)
        · rw [hto]
          rintro ⟨id, cs', s, e, m⟩
          obtain ⟨_, _, _, hw, _⟩ := I.st.hr.row e m
          have := (Array.getElem?_eq_some_iff.1 hw).1
          omega
        · have hT : (g.add (c.nx i) w.heap.size).to (c.nx i) = g.to (c.nx i) := G.add_to (Nat.le_refl _)
          rw [hT]
          exact VRs.mono' (mono_alloc (fun _ _ m => m) rfl (by simp only [Go.Ab.G.to]; exact himm)) _ _ hvs
        · by_cases hid : id = c.nx i
          · exact .inr ⟨hb, hid⟩
          · simp only [G.add, if_neg hid] at m
            exact .inl m
        · rw [hat] at m1
          obtain ⟨rfl, _⟩ := Prod.mk.inj (Option.some.inj m1)
          have hne : c.nx j ≠ c.nx i := fun k => hiD (c.run_inj I.run i hin j hj hcl hjc hb hjb k.symm ▸ hjD)
          simp only [G.add, if_neg hne] at m2
          rcases I.st.pend j hj hjD hjc with hp | ⟨_, _, b, _, _, _, _, _, h3, h4, _⟩
          · omega
          · rw [m2] at h3
            obtain ⟨rfl, _⟩ := Prod.mk.inj (Option.some.inj h3)
            have := (Array.getElem?_eq_some_iff.1 h4).1
            omega
        · show (Go.Ab.G.to _ _).m (c.nx i) = _
          simp only [Go.Ab.G.to]
          rw [if_pos (by omega)]
          exact hat
    | ch =>
      have hcl : c.IsCl i .ch := ⟨o, ho, hk⟩
      have hin := (I.chs i hcl).resolve_right hiD
      cases pl with
      | last pre als => cases hin
      | cons pre als q rest =>
        have hq : i = q := by
          rcases List.mem_cons.1 hin with h | h
          · exact h
          · exact absurd (hanc q (I.stat.2.2.1 i h)) (I.chN q List.mem_cons_self)
        subst hq
        obtain ⟨_, h1, hals, _, v, h2, hF, hS, hR, hb, hle, hrun⟩ := I.run
        have hle1 := c.als_le hals
        have S := c.settle als h hals (fun j hj hc => hanc j (I.stat.2.1 j hj hc)) I.st (fun j hj hc => Nat.le_trans hle (c.run_nx hrun j hj hc))
        have T := I.reads G0.nt hR hiD hanc (N := h1.next) (Nat.le_refl _) hle1
        have e : gOp c.P c.call c.nt c.ops.toList o (c.rf i) h1 = .ok v h2 := by
          rw [← FE_eq ho]; exact hF
        refine step_ok G0.call ho S.hr T e fun g' w' x E H' hv => ?_
        obtain ⟨G', hG'⟩ : ∃ G' : G, G' = ⟨fun id => if id < h2.next then g'.m id else g.m id, g'.imm⟩ := ⟨_, rfl⟩
        have hto : G'.to h2.next = g' := by
          rw [hG']
          unfold Go.Ab.G.to
          cases g' with
          | mk m im =>
            simp only [G.mk.injEq, and_true]
            funext id
            by_cases hid : id < h2.next
            · simp only [hid, if_true]
            · simp only [hid, if_false]
              exact (H'.fresh id (by omega)).symm
        have M0 := E.mono S.hr.toHC
        have hrest : ∀ id y, g.m id = some y → h1.next ≤ id → h2.next ≤ id ∧ ∃ j ∈ rest.als, j ∈ D ∧ c.IsCl j .al ∧ c.bd j = c.nx j + 1 ∧ id = c.nx j := by
          intro id y m hid
          rcases I.dom id y m with h | ⟨j, hj, hjD, hjc, hjb, rfl⟩
          · omega
          · rcases List.mem_append.1 hj with hj | hj
            · have := (c.als_nx hals j hj hjc).2 hjb
              omega
            · exact ⟨c.run_nx hrun j hj hjc, j, hj, hjD, hjc, hjb, rfl⟩
        have hm : ∀ id y, g.m id = some y → G'.m id = some y := by
          intro id y m
          rw [hG']
          show (if id < h2.next then g'.m id else g.m id) = some y
          by_cases hid : id < h2.next
          · rw [if_pos hid]
            have : id < h1.next := by
              refine Classical.byContradiction fun k => ?_
              have := (hrest id y m (by omega)).1
              omega
            exact E.m id y (by simp only [Go.Ab.G.to]; rw [if_pos this]; exact m)
          · rw [if_neg hid]; exact m
        have him : G'.imm = g'.imm := by rw [hG']
        have M : ∀ B B', B ≤ B' → Mono (g.to B) w (G'.to B') w' := by
          intro B B' hB
          refine ⟨?_, fun b k => ?_, fun b k => ?_, E.rows⟩
          · intro id y k
            simp only [Go.Ab.G.to] at k ⊢
            by_cases hid : id < B
            · rw [if_pos hid] at k
              rw [if_pos (by omega)]
              exact hm id y k
            · rw [if_neg hid] at k; cases k
          · show G'.imm b
            rw [him]
            exact E.imm b k
          · exact E.old b (himm b k) (S.hr.not_owned k)
        refine sim G0 K s (i :: D) (i :: past) rest G' w' h2 (a.put o.dst x) L ?_
        have als_sub : ∀ j ∈ rest.als, j ∈ als ++ rest.als := fun j hj => List.mem_append_right _ hj
        have nal : ∀ j, c.IsCl j .al → j ∈ i :: D → j ∈ D := by
          intro j hj h
          refine (List.mem_cons.1 h).resolve_left fun e => ?_
          subst e
          cases c.cl_al hcl hj
        exact
        { run := hrun
          stat := I.stat.2.2.2
          closed := hC
          chs := fun j hj => by
            rcases I.chs j hj with h | h
            · rcases List.mem_cons.1 h with rfl | h
              · exact .inr List.mem_cons_self
              · exact .inl h
            · exact .inr (List.mem_cons_of_mem _ h)
          chN := fun j hj h => by
            rcases List.mem_cons.1 h with rfl | h
            · -- a chain's operation ahead of itself: it would be done
              exact absurd (hanc j (I.stat.2.2.1 j hj)) hiD
            · exact I.chN j (List.mem_cons_of_mem _ hj) h
          pastD := fun j hj => by
            rcases List.mem_cons.1 hj with rfl | hj
            · exact List.mem_cons_self
            · exact List.mem_cons_of_mem _ (I.pastD j hj)
          alc := fun j hj => by
            rcases I.alc j hj with h | h
            · rcases List.mem_append.1 h with h | h
              · exact .inr (List.mem_cons_of_mem _ (hanc j (I.stat.2.1 j h hj)))
              · exact .inl h
            · exact .inr (List.mem_cons_of_mem _ h)
          st := ⟨by rw [hto]; exact H', by rw [hto]; exact S.ext.trans E, fun j hj hjD hjc => by
              rcases S.pend j hj (nal j hjc hjD) hjc with p | ⟨v, cs, b, C, el, vs, h1', h2', h3, h4, h5, h6, h7, h8, h9⟩
              · exact .inl p
              · have hlt := (Array.getElem?_eq_some_iff.1 h4).1
                refine .inr ⟨v, cs, b, C, el, vs, h1', h2', hm _ _ h3, by rw [E.old b hlt h6]; exact h4, ?_, ?_, h7, VRs.mono' (M _ _ (Nat.le_refl _)) _ _ h8, h9⟩
                · rw [him]
                  intro k
                  rcases E.imm' b k with k | k | k
                  · exact h5 k
                  · exact h6 k
                  · omega
                · rw [hto]
                  intro k
                  rcases E.own' b k with k | k
                  · exact h6 k
                  · omega, fun j hj k hk jD kD jc kc bj bk b mj mk => by
              have e1 : ∀ l ∈ rest.als, l ∈ D → c.IsCl l .al → c.bd l = c.nx l + 1 → G'.m (c.nx l) = some (b, 0) → g.m (c.nx l) = some (b, 0) := by
                intro l hl lD lc lb ml
                have := c.run_nx hrun l hl lc
                rw [hG'] at ml
                simp only at ml
                rw [if_neg (by omega)] at ml
                exact ml
              exact I.st.dist j (als_sub j hj) k (als_sub k hk) (nal j jc jD) (nal k kc kD) jc kc bj bk b (e1 j hj (nal j jc jD) jc bj mj) (e1 k hk (nal k kc kD) kc bk mk)⟩
          dom := fun n y m => by
            by_cases hn : n < h2.next
            · exact .inl hn
            · rw [hG'] at m
              simp only at m
              rw [if_neg hn] at m
              obtain ⟨_, j, hj, hjD, r⟩ := hrest n y m (by omega)
              exact .inr ⟨j, hj, List.mem_cons_of_mem _ hjD, r⟩
          slots := slots_put G0 ho I.size I.slots (fun j _ => M _ _ (by omega)) hiD (fun d hd => ⟨(hS d hd).1, v, (hS d hd).2, by
            have : max (c.bd i) h2.next = h2.next := by omega
            rw [this, hto]; exact hv⟩)
          free := free_put ho I.size I.free (M _ _ (by omega))
          size := by rw [put_size]; exact I.size
          defers := by rw [put_defers]; exact I.defers }

end Cx
end Go.Ab
