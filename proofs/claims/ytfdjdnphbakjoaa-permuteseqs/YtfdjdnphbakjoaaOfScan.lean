import Derived.Test.YtfdjdnphbakjoaaOfRows
namespace Go.Proofs
open Go.Ab
set_option maxRecDepth 1000000

noncomputable def ofCallO : CallF := orc (lookF [(53, look0 tab53)]) ofCall
noncomputable def cdO (call : CallF) (c : Code) : CdF := cCode Try.prog (cDraw Try.prog call 73) call 1000 73 c
/-- The beginning. -/
noncomputable def obs0 (r : Rc) : Option (Option AV × Option AV × Option AV × Option AV × Option (List AV) × Bool) := match r with
  | .norm t h => some (t.at 0, t.at 2, t.at 4, t.at 5, h.objs.get 0, Nat.ble h.next 10)
  | _ => none
noncomputable def ofFull : AV := .sym .i64 (.var 0) (-9223372036854775808) 9223372036854775807 0
theorem of0 : obs0 (runL [cdO ofCallO (ofSL ofC), cdO ofCallO (ofSL (ofSR ofC)), cdO ofCallO (ofSL (ofSL (ofSR (ofSR ofC))))] (enterT [ofFull] 0 Tm.none) (nilH 0)) =
    some (some ofFull, some (.ref 0 0), some tab53, some (.int .i64 (Int.ofNat 0)), some ofZ, true) := by kernel_rfl
/-- The end. -/
noncomputable def obsX (r : Rc) : Option (Option AV × Option (List AV) × Nat × Bool) := match r with
  | .exit i t h => some (t.at 2, h.objs.get 0, i, Nat.ble h.next (Nat.add (Nat.mul 100 108) 10))
  | _ => none
theorem ofX : obsX (ofBb ofCall 1000 (ofT ofFull 108) (ofH 108)) = some (some (.ref 0 0), some ofZ, 0, true) := by kernel_rfl
noncomputable def ofV0 : AV := .tup [.agg [.int .i64 0, .int .i64 0, .bool false, .esl, .esl], .bool false]
theorem ofEnd : obsR (cdO ofCall ofE (Tm.none.put 2 (some (.ref 0 0))) (ofH 108)) = some ofV0 := by kernel_rfl
theorem body28 : Try.f28.body = some ofC := by kernel_rfl
theorem nt28 : Try.f28.ntmps = 73 := by kernel_rfl
theorem res28 : cRVs Try.prog 73 Try.f28.results.toList = some [.cell 2 5 true, .tmp 3] := by kernel_rfl

section
variable [Io]
theorem hr_subN {g : G} {w : World} {h h' : Hp} (H : HR g w h) (hn : h.next ≤ h'.next) (ho : ∀ id cs, h'.objs.get id = some cs → h.objs.get id = some cs) : Ext g w h g w h' ∧ HR g w h' := by
  refine ⟨⟨rfl, rfl, rfl, Nat.le_refl _, hn, fun _ _ e => e, fun _ _ _ => rfl, fun _ => Nat.le_refl _, fun _ i => i, fun _ i => .inl i, ?_⟩, ?_, ?_, ?_, H.imm⟩
  · rintro b ⟨i, cs, s, e, m⟩
    exact .inl ⟨i, cs, s, ho i cs e, m⟩
  · intro id hid
    exact H.fresh id (Nat.le_trans hn hid)
  · intro i cs e
    exact H.objs i cs (ho i cs e)
  · intro i i' b s s' c1 c2 e1 e2 m1 m2
    exact H.inj i i' b s s' c1 c2 (ho _ _ e1) (ho _ _ e2) m1 m2
theorem ofH_sub {g : G} {w : World} {h : Hp} {i : Nat} (H : HR g w h) (h0 : h.objs.get 0 = some ofZ) (hn : h.next ≤ 100 * i + 10) : Ext g w h g w (ofH i) ∧ HR g w (ofH i) := by
  refine hr_subN H hn fun id cs e => ?_
  unfold ofH at e
  simp only [Tr.get_set] at e
  by_cases h1 : id = 0
  · subst h1; rw [if_pos rfl] at e; cases e; exact h0
  · rw [if_neg h1, Tr.get_nil] at e; cases e
structure OfFr (g : G) (w : World) (x : Int) (i : Nat) (tmps : Array Value) : Prop where
  size : tmps.size = 73
  a0 : tmps.getD 0 undef = .int .i64 x
  a2 : VR g w (.ref 0 0) (tmps.getD 2 undef)
  a4 : VR g w tab53 (tmps.getD 4 undef)
  a5 : VR g w (.int .i64 (Int.ofNat i)) (tmps.getD 5 undef)
theorem OfFr.tr {g : G} {w : World} {x : Int} {i : Nat} {tmps : Array Value} (F : OfFr g w x i tmps) {op : AV} (ho : VR g w op (.int .i64 x)) : TR g w 73 (ofT op i) tmps := by
  refine ⟨by decide, F.size, fun j v hj e => ?_⟩
  unfold ofT at e
  rw [Tm.at_put _ _ _ _ (by decide) hj] at e
  by_cases e5 : j = 5
  · subst e5; rw [if_pos rfl] at e; cases e; exact ⟨by decide, F.a5⟩
  rw [if_neg e5, Tm.at_put _ _ _ _ (by decide) hj] at e
  by_cases e4 : j = 4
  · subst e4; rw [if_pos rfl] at e; cases e; exact ⟨by decide, F.a4⟩
  rw [if_neg e4, Tm.at_put _ _ _ _ (by decide) hj] at e
  by_cases e2 : j = 2
  · subst e2; rw [if_pos rfl] at e; cases e; exact ⟨by decide, F.a2⟩
  rw [if_neg e2, Tm.at_put _ _ _ _ (by decide) hj] at e
  by_cases e0 : j = 0
  · subst e0; rw [if_pos rfl] at e; cases e; exact ⟨by decide, by rw [F.a0]; exact ho⟩
  rw [if_neg e0, Tm.at_none j hj] at e
  cases e
theorem of_hd (call : CallF) (hc : CallOk Try.prog call) : ∀ id ops, RgOk Try.prog 73 (.region id ops true) (cDraw Try.prog call 73 ops) := fun id ops => draw_ok Try.mixed call 73 hc id ops
theorem ofCall_ok : CallOk Try.prog ofCall := Try.ok 1000 50
theorem ofCallO_ok : CallOk Try.prog ofCallO := orc_ok (fun f args v e => lookF_ok1 (tbl := [(53, look0 tab53)]) (fun p hp args v e => by
    rcases List.mem_cons.1 hp with rfl | hp
    · exact look0_ok (fun J => @Try.ok J 1000 50) k53 _ args v e
    · cases hp) f args v e) ofCall_ok
theorem of_code (c : Code) : CdOk Try.prog 73 c (cdO ofCall c) := code_ok ofCall_ok (of_hd _ ofCall_ok) 1000 c
theorem ofO_code (c : Code) : CdOk Try.prog 73 c (cdO ofCallO c) := code_ok ofCallO_ok (of_hd _ ofCallO_ok) 1000 c
theorem of_body : CdOk Try.prog 73 ofB (ofBb ofCall 1000) := by rw [ofB_eq]; exact of_code ofB

theorem of_step {i : Nat} {A B x : Int} (hg : OfGo i A B) (hx : Io.io 0 = x) (h1 : A ≤ x) (h2 : x ≤ B) {g : G} {w : World} {a : Act} (H : HR g w (ofH i)) (F : OfFr g w x i a.tmps) (D : a.defers = []) (Q : Exit → Act → World → Prop)
    (K : ∀ g' w' a', Ext g w (ofH i) g' w' (ofH (i + 1)) → HR g' w' (ofH (i + 1)) → OfFr g' w' x (i + 1) a'.tmps → a'.defers = [] → Q .normal a' w') : ofB.wp Try.prog Q a w := by
  unfold OfGo obsN at hg
  have hb := of_body g w _ _ a Q H (F.tr (op := .sym .i64 (.var 0) A B 0) (by subst hx; simp only [VR]; exact ⟨by rw [show evalSV (.var 0) = Io.io 0 from rfl, Int.add_zero], h1, h2⟩)) D
  split at hg
  · rename_i t h hr
    rw [hr] at hb
    simp only [Option.some.injEq, Prod.mk.injEq] at hg
    obtain ⟨e0, e2, e4, e5, er, en⟩ := hg
    refine hb fun g' w' a' E' H' T' D' => ?_
    have S := ofH_sub (i := i + 1) H' er (Nat.le_of_ble_eq_true en)
    refine K g' w' a' (E'.trans S.1) S.2 ⟨T'.2.1, ?_, (T'.2.2 2 _ (by decide) e2).2, (T'.2.2 4 _ (by decide) e4).2, (T'.2.2 5 _ (by decide) e5).2⟩ D'
    have := (T'.2.2 0 _ (by decide) e0).2
    simp only [VR] at this
    rw [this.1, show evalSV (.var 0) = Io.io 0 from rfl, hx, Int.add_zero]
  · cases hg

theorem frz_end {imm : Nat → Prop} {w : World} {g' : G} {w' : World} {h' : Hp} (E : Ext (gE imm) w (nilH 0) g' w' h') (H' : HR g' w' h') {n : Nat} {v v' : AV} {x : Value} (hf : frz n h' v = some v') (hx : VR g' w' v x) :
    Keep w w' ∧ VR (gE fun b => imm b ∨ (w.heap.size ≤ b ∧ b < w'.heap.size)) w' v' x := by
  refine ⟨keep_of E, frz_ok H' (fun b k => ?_) (fun b k => ?_) n v v' x hf hx⟩
  · rcases E.imm' b k with k1 | ⟨id, cs, s, e, _⟩ | k1
    · exact .inl k1
    · cases e
    · exact .inr ⟨k1, H'.imm b k⟩
  · rcases E.own' b k with ⟨id, cs, s, e, _⟩ | k1
    · cases e
    · obtain ⟨id, cs, s, e, m⟩ := k
      obtain ⟨_, _, _, hw, _⟩ := H'.row e m
      exact .inr ⟨k1, (Array.getElem?_eq_some_iff.1 hw).1⟩

/-- What is asked behind a return. -/
def OfQ (imm : Nat → Prop) (w0 : World) (v : AV) : Ending → World → Prop := fun e w' => ∃ y, e = .returned y ∧ Keep w0 w' ∧ VR (gE fun b => imm b ∨ (w0.heap.size ≤ b ∧ b < w'.heap.size)) w' v y

theorem of_ret {imm : Nat → Prop} {w0 : World} {v : AV} {t : Tm} {h : Hp} (hr : obsR (.ret t h) = some v) {g : G} {w : World} {a : Act} (E : Ext (gE imm) w0 (nilH 0) g w h) (H : HR g w h) (T : TR g w 73 t a.tmps) (D : a.defers = []) :
    bodyPost Try.prog Try.f28 (OfQ imm w0 v) .ret a w := by
  change res (fin [.cell 2 5 true, .tmp 3] t h) = some v at hr
  obtain ⟨v0, h', e1, e2⟩ := res_some hr
  obtain ⟨rfl, x, hx, hxv⟩ := fin_ok H T res28 e1
  obtain ⟨k1, k2⟩ := frz_end E H e2 hxv
  exact ⟨D, x, hx, x, rfl, k1, k2⟩
theorem three_ok {P : Program} {nt : Nat} {S1 S2 S3 Lp E : Code} {f1 f2 f3 : CdF} (c1 : CdOk P nt S1 f1) (c2 : CdOk P nt S2 f2) (c3 : CdOk P nt S3 f3) {t0 t3 : Tm} {h0 h3 : Hp} (r : runL [f1, f2, f3] t0 h0 = .norm t3 h3)
    {g : G} {w : World} {a : Act} (H : HR g w h0) (T : TR g w nt t0 a.tmps) (D : a.defers = []) {Q : Exit → Act → World → Prop}
    (K : ∀ g' w' a', Ext g w h0 g' w' h3 → HR g' w' h3 → TR g' w' nt t3 a'.tmps → a'.defers = [] → Lp.wp P (Exit.then (E.wp P Q) Q) a' w') : (Code.seq S1 (.seq S2 (.seq (.seq S3 Lp) E))).wp P Q a w := by
  change cSq f1 (cSq f2 (cSq f3 cSk)) t0 h0 = .norm t3 h3 at r
  unfold cSq at r
  have k1 := c1 g w t0 h0 a (Exit.then ((Code.seq S2 (.seq (.seq S3 Lp) E)).wp P Q) Q) H T D
  cases r1 : f1 t0 h0 with
  | bad => rw [r1] at r; cases r
  | ret t h => rw [r1] at r; cases r
  | exit j t h => rw [r1] at r; cases r
  | norm t1 h1 =>
  rw [r1] at r k1
  refine wp_seq (k1 fun g1 w1 a1 E1 H1 T1 D1 => ?_)
  have k2 := c2 g1 w1 t1 h1 a1 (Exit.then ((Code.seq (.seq S3 Lp) E).wp P Q) Q) H1 T1 D1
  simp only at r
  cases r2 : f2 t1 h1 with
  | bad => rw [r2] at r; cases r
  | ret t h => rw [r2] at r; cases r
  | exit j t h => rw [r2] at r; cases r
  | norm t2 h2 =>
  rw [r2] at r k2
  refine wp_seq (k2 fun g2 w2 a2 E2 H2 T2 D2 => ?_)
  refine wp_seq (wp_seq ?_)
  have k3 := c3 g2 w2 t2 h2 a2 (Exit.then (Lp.wp P (Exit.then (E.wp P Q) Q)) (Exit.then (E.wp P Q) Q)) H2 T2 D2
  simp only at r
  cases r3 : f3 t2 h2 with
  | bad => rw [r3] at r; cases r
  | ret t h => rw [r3] at r; cases r
  | exit j t h => rw [r3] at r; cases r
  | norm t3' h3' =>
  rw [r3] at r k3
  cases r
  exact k3 fun g3 w3 a3 E3 H3 T3 D3 => K g3 w3 a3 (E1.trans (E2.trans E3)) H3 T3 D3
end
end Go.Proofs
