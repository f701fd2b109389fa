import Derived.Test.YtallpbickepdbaaGreatDoorAb36
namespace Go.Ab

/-- So many rounds. -/
noncomputable def itr (m : Nat) (bd : CdF) : CdF := Nat.rec (fun t h => .norm t h) (fun _ ih t h => Rc.rec Rc.bad (fun t h => ih t h) (fun t h => Rc.ret t h) (fun i t h => Rc.exit i t h) (bd t h)) m
theorem itr_ok [Io] {P : Program} {nt : Nat} {x : Code} {bd : CdF} (hx : CdOk P nt x bd) (Q : Exit → Act → World → Prop) (r : Nat) : ∀ m, ∀ (g : G) (w : World) (t : Tm) (h : Hp) (a : Act), HR g w h → TR g w nt t a.tmps → a.defers = [] →
    ∀ t' h', itr m bd t h = .norm t' h' → Post g w h nt t' h' (fun a w => Code.rounds P x Q r a w) → Code.rounds P x Q (m + r) a w
  | 0, g, w, t, h, a, H, T, D, t', h', e, K => by
    cases e
    rw [Nat.zero_add]
    exact K g w a (Ext.refl _ _ _) H T D
  | m + 1, g, w, t, h, a, H, T, D, t', h', e, K => by
    rw [show m + 1 + r = (m + r) + 1 by omega]
    have h1 := hx g w t h a (Exit.then (Code.rounds P x Q (m + r)) Q) H T D
    change (Rc.rec Rc.bad (fun t h => itr m bd t h) (fun t h => Rc.ret t h) (fun i t h => Rc.exit i t h) (bd t h) : Rc) = .norm t' h' at e
    cases e1 : bd t h with
    | bad => rw [e1] at e; cases e
    | ret t1 h1' => rw [e1] at e; cases e
    | exit j t1 h1' => rw [e1] at e; cases e
    | norm t1 h1' =>
      rw [e1] at h1 e
      exact h1 fun g1 w1 a1 E1 H1 T1 D1 => itr_ok hx Q r m g1 w1 t1 h1' a1 H1 T1 D1 t' h' e (Post.then E1 K)

/-- The names below N as they are; N stands for K. -/
def sgP (N K : Nat) (id : Nat) : Option Nat := bif Nat.blt id N then some id else bif Nat.beq id N then some K else none
def repG (g : G) (N K : Nat) : G := ⟨fun id => match sgP N K id with
  | some i => g.m i
  | none => none, g.imm⟩
theorem repG_m {g : G} {N K id : Nat} {x : Nat × Nat} (h : (repG g N K).m id = some x) : ∃ i, sgP N K id = some i ∧ g.m i = some x := by
  change (match sgP N K id with | some i => g.m i | none => none) = some x at h
  cases hs : sgP N K id with
  | none => rw [hs] at h; cases h
  | some i => rw [hs] at h; exact ⟨i, rfl, h⟩
theorem repG_of {g : G} {N K id i : Nat} {x : Nat × Nat} (hs : sgP N K id = some i) (h : g.m i = some x) : (repG g N K).m id = some x := by
  show (match sgP N K id with | some i => g.m i | none => none) = some x
  rw [hs]; exact h
theorem sgP_inj {N K id id' i : Nat} (hK : N ≤ K) (h1 : sgP N K id = some i) (h2 : sgP N K id' = some i) : id = id' := by
  unfold sgP at h1 h2
  rw [blt_dec] at h1 h2
  rw [beq_dec] at h1 h2
  by_cases a : id < N <;> by_cases b : id' < N <;> simp only [a, b, decide_true, decide_false, cond_true, cond_false] at h1 h2
  · cases h1; cases h2; rfl
  · cases h1
    by_cases c : id' = N <;> simp only [c, decide_true, decide_false, cond_true, cond_false] at h2
    · cases h2; omega
    · cases h2
  · cases h2
    by_cases c : id = N <;> simp only [c, decide_true, decide_false, cond_true, cond_false] at h1
    · cases h1; omega
    · cases h1
  · by_cases c : id = N <;> simp only [c, decide_true, decide_false, cond_true, cond_false] at h1
    · by_cases d : id' = N <;> simp only [d, decide_true, decide_false, cond_true, cond_false] at h2
      · rw [c, d]
      · cases h2
    · cases h1

noncomputable def relH2 (hb : Hb) (eS eT : Ev) (N K : Nat) (h : Hp) (rows : List (Nat × List AV)) : Bool := Nat.ble N K && 
  List.rec true (fun p _ ih => bif (match sgP N K p.1 with
    | some i => (match h.objs.get i with
      | some r => relAs hb eS eT (sgP N K) false r.toL p.2
      | none => false)
    | none => false) then ih else false) rows
noncomputable def relT2 (hb : Hb) (eS eT : Ev) (N K : Nat) (t : Tm) (l : List (Nat × AV)) : Bool :=
  List.rec true (fun p _ ih => bif Nat.blt p.1 512 && (match t.at p.1 with
    | some a => relA hb eS eT (sgP N K) true a p.2
    | none => false) then ih else false) l
theorem relH2_mem {hb : Hb} {eS eT : Ev} {N K : Nat} {h : Hp} {rows : List (Nat × List AV)} (hr : relH2 hb eS eT N K h rows = true) : N ≤ K ∧ ∀ p ∈ rows, ∃ i r, sgP N K p.1 = some i ∧ h.objs.get i = some r ∧ relAs hb eS eT (sgP N K) false r.toL p.2 = true := by
  unfold relH2 at hr
  rw [Bool.and_eq_true] at hr
  refine ⟨Nat.le_of_ble_eq_true hr.1, ?_⟩
  have h2 := hr.2
  clear hr
  induction rows with
  | nil => intro p hp; cases hp
  | cons q rows ih =>
    intro p hp
    change (bif (match (generalizing := false) sgP N K q.1 with
      | some i => (match (generalizing := false) h.objs.get i with
        | some r => relAs hb eS eT (sgP N K) false r.toL q.2
        | none => false)
      | none => false) then _ else false) = true at h2
    cases hq : (match (generalizing := false) sgP N K q.1 with
      | some i => (match (generalizing := false) h.objs.get i with
        | some r => relAs hb eS eT (sgP N K) false r.toL q.2
        | none => false)
      | none => false) with
    | false => rw [hq] at h2; cases h2
    | true =>
      rw [hq] at h2
      rcases List.mem_cons.1 hp with rfl | hp
      · split at hq
        · rename_i i hs
          split at hq
          · rename_i r hg
            exact ⟨i, r, hs, hg, hq⟩
          · cases hq
        · cases hq
      · exact ih h2 p hp
theorem relT2_mem {hb : Hb} {eS eT : Ev} {N K : Nat} {t : Tm} : ∀ {l : List (Nat × AV)}, relT2 hb eS eT N K t l = true → ∀ p ∈ l, p.1 < 512 ∧ ∃ a, t.at p.1 = some a ∧ relA hb eS eT (sgP N K) true a p.2 = true
  | [], _, p, hp => by cases hp
  | q :: l, hr, p, hp => by
    change (bif Nat.blt q.1 512 && (match (generalizing := false) t.at q.1 with
      | some a => relA hb eS eT (sgP N K) true a q.2
      | none => false) then relT2 hb eS eT N K t l else false) = true at hr
    cases hbq : (Nat.blt q.1 512 && (match (generalizing := false) t.at q.1 with
      | some a => relA hb eS eT (sgP N K) true a q.2
      | none => false)) with
    | false => rw [hbq] at hr; cases hr
    | true =>
      rw [hbq] at hr
      rw [Bool.and_eq_true] at hbq
      rcases List.mem_cons.1 hp with rfl | hp
      · refine ⟨blt_iff.1 hbq.1, ?_⟩
        have h2 := hbq.2
        split at h2
        · rename_i a hg; exact ⟨a, hg, h2⟩
        · cases h2
      · exact relT2_mem hr p hp

section
variable {hb : Hb} {eS eT : Ev} {B : Nat → Int} {g : G} {w : World} {h : Hp} {N K : Nat} {rows : List (Nat × List AV)}
theorem hr_rep (hH : HbOk hb (apIo eT B)) (hr : relH2 hb eS eT N K h rows = true) (H : @HR (apIo eS B) g w h) : @HR (apIo eT B) (repG g N K) w (mkH (N + 1) rows) := by
  obtain ⟨hK, hmem⟩ := relH2_mem hr
  refine @HR.mk (apIo eT B) _ _ _ (fun id hid => ?_) (fun id cs e => ?_) (fun id id' b s s' cs cs' e1 e2 m1 m2 => ?_) (fun b hb => @HR.imm (apIo eS B) _ _ _ H b hb)
  · have hid' : N + 1 ≤ id := hid
    show (match sgP N K id with | some i => g.m i | none => none) = none
    have : sgP N K id = none := by
      unfold sgP
      rw [blt_dec, beq_dec]
      rw [show decide (id < N) = false from by simp; omega, show decide (id = N) = false from by simp; omega]
      rfl
    rw [this]
  · rcases mkO_get e with ⟨l, hl, rfl⟩ | ⟨_, e⟩
    · obtain ⟨i, r, hs, hg, hrel⟩ := hmem _ hl
      obtain ⟨b, s, C, el, vs, h1, h2, h3, h4, h5⟩ := @HR.objs (apIo eS B) _ _ _ H i r hg
      refine ⟨b, s, C, el, vs, repG_of hs h1, h2, h3, ?_, h5⟩
      rw [toL_ofL]
      exact relAs_ok hH (g := g) (fun id id' x hs e => repG_of hs e) (fun _ b hb => hb) _ _ _ hrel h4
    · cases e
  · obtain ⟨i, s1, m1⟩ := repG_m m1
    obtain ⟨i', s2, m2⟩ := repG_m m2
    have al : ∀ id cs, (mkH (N + 1) rows).objs.get id = some cs → ∀ i, sgP N K id = some i → ∃ r, h.objs.get i = some r := by
      intro id cs e i hi
      rcases mkO_get e with ⟨l, hl, _⟩ | ⟨_, e⟩
      · obtain ⟨i2, r, hs, hg, _⟩ := hmem _ hl
        rw [hs] at hi
        cases hi
        exact ⟨r, hg⟩
      · cases e
    obtain ⟨r1, g1⟩ := al id cs e1 i s1
    obtain ⟨r2, g2⟩ := al id' cs' e2 i' s2
    have := @HR.inj (apIo eS B) _ _ _ H i i' b s s' r1 r2 g1 g2 m1 m2
    subst this
    exact sgP_inj hK s1 s2
theorem tr_rep (hH : HbOk hb (apIo eT B)) {nt : Nat} {t : Tm} {tmps : Array Value} {l : List (Nat × AV)} (hr : relT2 hb eS eT N K t l = true) (T : @TR (apIo eS B) g w nt t tmps) : @TR (apIo eT B) (repG g N K) w nt (mkT l) tmps := by
  refine ⟨T.1, T.2.1, fun i v hi5 e => ?_⟩
  have hmem := relT2_mem hr
  have := mkT_at (fun p hp => (hmem p hp).1) hi5 e
  obtain ⟨_, a, ha, hr⟩ := hmem _ this
  obtain ⟨h1, h2⟩ := T.2.2 i a hi5 ha
  exact ⟨h1, relA_ok hH (fun id id' x hs e => repG_of hs e) (fun _ b hb => hb) a v _ hr h2⟩
theorem ext_rep {g0 : G} {w0 : World} {h0 : Hp} {g1 : G} {w1 : World} {h1 : Hp} (hn : h0.next ≤ N + 1) (hg : ∀ id x, g0.m id = some x → id < N) (hr : relH2 hb eS eT N K h1 rows = true) (E : Ext g0 w0 h0 g1 w1 h1) : Ext g0 w0 h0 (repG g1 N K) w1 (mkH (N + 1) rows) := by
  obtain ⟨_, hmem⟩ := relH2_mem hr
  refine ⟨E.os, E.tape, E.output, E.size, hn, fun id x e => ?_, E.old, E.rows, E.imm, E.imm', ?_⟩
  · have hs : sgP N K id = some id := by
      unfold sgP
      rw [blt_iff.2 (hg id x e)]; rfl
    exact repG_of hs (E.m id x e)
  · rintro b ⟨id, cs, s, e, m⟩
    obtain ⟨i, hs, m⟩ := repG_m m
    rcases mkO_get e with ⟨l, hl, _⟩ | ⟨_, e⟩
    · obtain ⟨i2, r, hs2, hgt, _⟩ := hmem _ hl
      rw [hs] at hs2
      cases hs2
      exact E.own' b ⟨i, r, s, hgt, m⟩
    · cases e
end
end Go.Ab

namespace Go.Ab

theorem evGet1 (j : Nat) (x : Option SV × Int) (e : Ev) : evGet ((j, x) :: e) j = some x := by
  show (bif Nat.beq j j then some x else evGet e j) = _
  rw [Nat.beq_refl]; rfl
theorem evGet2 {j i : Nat} (h : i ≠ j) (x : Option SV × Int) (e : Ev) : evGet ((j, x) :: e) i = evGet e i := by
  show (bif Nat.beq j i then some x else evGet e i) = _
  rw [show Nat.beq j i = false from by rw [Bool.eq_false_iff]; intro q; exact h (Nat.eq_of_beq_eq_true q).symm]
  rfl
/-- Two numbers are told; all others are as they are. -/
theorem apIo_two {jx jh : Nat} {B I : Nat → Int} (hag : ∀ i, i ≠ jx → i ≠ jh → B i = I i) : apIo [(jx, none, B jx), (jh, none, B jh)] I = ⟨B⟩ := by
  refine congrArg Io.mk (funext fun i => ?_)
  by_cases h1 : i = jx
  · subst h1
    have := apIo_some (B := I) (evGet1 i (none, B i) [(jh, none, B jh)])
    exact this.trans (by show 0 + B i = B i; omega)
  · by_cases h2 : i = jh
    · subst h2
      have := apIo_some (e := [(jx, none, B jx), (i, none, B i)]) (B := I) (j := i) (i := none) (d := B i) (by rw [evGet2 h1]; exact evGet1 i _ [])
      exact this.trans (by show 0 + B i = B i; omega)
    · have := apIo_none (e := [(jx, none, B jx), (jh, none, B jh)]) (B := I) (j := i) (by rw [evGet2 h1, evGet2 h2]; rfl)
      exact this.trans (hag i h1 h2).symm
theorem apIo_one {jx : Nat} {B : Nat → Int} {c : Int} (h : B jx = c) : apIo [(jx, none, c)] B = ⟨B⟩ := by
  refine congrArg Io.mk (funext fun i => ?_)
  by_cases h1 : i = jx
  · subst h1
    have := apIo_some (B := B) (evGet1 i (none, c) [])
    exact this.trans (by show 0 + c = B i; omega)
  · exact apIo_none (e := [(jx, none, c)]) (B := B) (j := i) (by rw [evGet2 h1]; rfl)

noncomputable def turnC (m N K : Nat) (bd : CdF) (eJ : Ev) (hb : Hb) (ltN : List (Nat × AV)) (rowsN : List (Nat × List AV)) (lt : List (Nat × AV)) (rows : List (Nat × List AV)) : Bool := match itr m bd (mkT ltN) (mkH (N + 1) rowsN) with
  | .norm t1 h1 => relT2 hb [] eJ N K t1 lt && relH2 hb [] eJ N K h1 rows
  | _ => false
noncomputable def lastC (m N K i : Nat) (bd : CdF) (ltF : List (Nat × AV)) (rowsF : List (Nat × List AV)) (ltE : List (Nat × AV)) (rowsE : List (Nat × List AV)) : Bool := match cLp m bd (mkT ltF) (mkH (N + 1) rowsF) with
  | .exit i' t1 h1 => Nat.beq i' i && (relT2 [] [] [] N K t1 ltE && relH2 [] [] [] N K h1 rowsE)
  | _ => false

/-- A loop that goes round in turns of m0 rounds: one number falls by one, another grows by one each turn; the turn from 1 on is the last. -/
theorem turns_ok {P : Program} {nt : Nat} {x : Code} {bd : CdF} (hx : ∀ J : Io, @CdOk J P nt x bd) {N K KE m0 mf i jx jh XM HM : Nat} (hj : jx ≠ jh) {lt ltN ltF ltE : List (Nat × AV)} {rows rowsN rowsF rowsE : List (Nat × List AV)}
    (cN : (relT2 [(jx, 2, (XM : Int)), (jh, 0, (HM : Int))] [] [] N N (mkT lt) ltN && relH2 [(jx, 2, (XM : Int)), (jh, 0, (HM : Int))] [] [] N N (mkH (N + 1) rows) rowsN) = true)
    (cS : turnC m0 N K bd [(jx, some (.var jx), -1), (jh, some (.var jh), 1)] [(jx, 1, (XM : Int)), (jh, 0, (HM : Int) + 1)] ltN rowsN lt rows = true)
    (cF : (relT2 [] [(jx, none, 1)] [] N N (mkT lt) ltF && relH2 [] [(jx, none, 1)] [] N N (mkH (N + 1) rows) rowsF) = true)
    (cE : lastC mf N KE i bd ltF rowsF ltE rowsE = true)
    (cA : ∀ c1 c2 : Int, (relT2 [] [(jx, none, c1), (jh, none, c2)] [] N N (mkT ltE) ltE && relH2 [] [(jx, none, c1), (jh, none, c2)] [] N N (mkH (N + 1) rowsE) rowsE) = true)
    (I : Nat → Int) (g0 : G) (w0 : World) (h0 : Hp) (hn : h0.next ≤ N + 1) (hg : ∀ id x, g0.m id = some x → id < N) (Q : Exit → Act → World → Prop)
    (K' : ∀ g' w' a', Ext g0 w0 h0 g' w' (mkH (N + 1) rowsE) → @HR ⟨I⟩ g' w' (mkH (N + 1) rowsE) → @TR ⟨I⟩ g' w' nt (mkT ltE) a'.tmps → a'.defers = [] → Q (.exit i) a' w') :
    ∀ (k : Nat) (B : Nat → Int) (g : G) (w : World) (a : Act), B jx = (k : Int) + 1 → 0 ≤ B jh → B jx ≤ XM → B jh + k ≤ HM + 1 → (∀ i, i ≠ jx → i ≠ jh → B i = I i) → @HR ⟨B⟩ g w (mkH (N + 1) rows) → @TR ⟨B⟩ g w nt (mkT lt) a.tmps → a.defers = [] →
      Ext g0 w0 h0 g w (mkH (N + 1) rows) → Code.rounds P x Q (k * m0 + mf) a w := by
  intro k
  induction k with
  | zero =>
    intro B g w a hBx hBh hX hH hag H T D E
    rw [Nat.zero_mul, Nat.zero_add]
    rw [Bool.and_eq_true] at cF
    have hI : apIo [(jx, none, 1)] B = ⟨B⟩ := apIo_one (by rw [hBx]; rfl)
    have H1 : @HR (apIo [] B) (repG g N N) w (mkH (N + 1) rowsF) := hr_rep (eS := [(jx, none, 1)]) HbOk.none cF.2 (by rw [hI]; exact H)
    have T1 : @TR (apIo [] B) (repG g N N) w nt (mkT ltF) a.tmps := tr_rep (g := g) (eS := [(jx, none, 1)]) HbOk.none cF.1 (by rw [hI]; exact T)
    have E1 := ext_rep hn hg cF.2 E
    have hfin := cE
    unfold lastC at hfin
    split at hfin
    · rename_i i' t1 h1 e
      simp only [Bool.and_eq_true] at hfin
      obtain ⟨hi, ht, hh⟩ := hfin
      obtain rfl := Nat.eq_of_beq_eq_true hi
      refine @rounds_ok ⟨B⟩ P nt x bd (hx ⟨B⟩) Q mf _ w (mkT ltF) (mkH (N + 1) rowsF) a H1 T1 D i' t1 h1 e (fun g' w' a' E' H' T' D' => ?_)
      have hE := E1.trans E'
      have H2 : @HR (apIo [] B) (repG g' N KE) w' (mkH (N + 1) rowsE) := hr_rep (eS := []) HbOk.none hh H'
      have T2 : @TR (apIo [] B) (repG g' N KE) w' nt (mkT ltE) a'.tmps := tr_rep (g := g') (eS := []) HbOk.none ht T'
      have E2 := ext_rep hn hg hh hE
      have hc := cA (B jx) (B jh)
      rw [Bool.and_eq_true] at hc
      have hB := apIo_two hag
      exact K' _ w' a' (ext_rep hn hg hc.2 E2) (hr_rep (eS := [(jx, none, B jx), (jh, none, B jh)]) (eT := []) (B := I) HbOk.none hc.2 (by rw [hB]; exact H2)) (tr_rep (g := repG g' N KE) (eS := [(jx, none, B jx), (jh, none, B jh)]) (eT := []) (B := I) HbOk.none hc.1 (by rw [hB]; exact T2)) D'
    · cases hfin
  | succ k ih =>
    intro B g w a hBx hBh hX hH hag H T D E
    push_cast at hBx hH
    rw [show (k + 1) * m0 + mf = m0 + (k * m0 + mf) by rw [Nat.add_mul]; omega]
    rw [Bool.and_eq_true] at cN
    have hHb : HbOk [(jx, 2, (XM : Int)), (jh, 0, (HM : Int))] ⟨B⟩ := by
      intro y hy
      simp only [List.mem_cons, List.mem_nil_iff, or_false] at hy
      rcases hy with rfl | rfl
      · show (2 : Int) ≤ B jx ∧ B jx ≤ (XM : Int)
        omega
      · show (0 : Int) ≤ B jh ∧ B jh ≤ (HM : Int)
        omega
    have H1 : @HR (apIo [] B) (repG g N N) w (mkH (N + 1) rowsN) := hr_rep (eS := []) hHb cN.2 H
    have T1 : @TR (apIo [] B) (repG g N N) w nt (mkT ltN) a.tmps := tr_rep (g := g) (eS := []) hHb cN.1 T
    have E1 := ext_rep hn hg cN.2 E
    have hstep := cS
    unfold turnC at hstep
    split at hstep
    · rename_i t1 h1 e
      rw [Bool.and_eq_true] at hstep
      refine @itr_ok ⟨B⟩ P nt x bd (hx ⟨B⟩) Q (k * m0 + mf) m0 _ w (mkT ltN) (mkH (N + 1) rowsN) a H1 T1 D t1 h1 e (fun g' w' a' E' H' T' D' => ?_)
      have e1 : (apIo [(jx, some (.var jx), -1), (jh, some (.var jh), 1)] B).io jx = B jx + (-1) := apIo_some (evGet1 jx _ [(jh, some (.var jh), 1)])
      have e2 : (apIo [(jx, some (.var jx), -1), (jh, some (.var jh), 1)] B).io jh = B jh + 1 := apIo_some (e := [(jx, some (.var jx), -1), (jh, some (.var jh), 1)]) (B := B) (j := jh) (i := some (.var jh)) (d := 1) ((evGet2 (Ne.symm hj) _ _).trans (evGet1 jh _ []))
      have hHJ : HbOk [(jx, 1, (XM : Int)), (jh, 0, (HM : Int) + 1)] (apIo [(jx, some (.var jx), -1), (jh, some (.var jh), 1)] B) := by
        intro y hy
        simp only [List.mem_cons, List.mem_nil_iff, or_false] at hy
        rcases hy with rfl | rfl
        · show (1 : Int) ≤ (apIo [(jx, some (.var jx), -1), (jh, some (.var jh), 1)] B).io jx ∧ (apIo [(jx, some (.var jx), -1), (jh, some (.var jh), 1)] B).io jx ≤ (XM : Int)
          rw [e1]; omega
        · show (0 : Int) ≤ (apIo [(jx, some (.var jx), -1), (jh, some (.var jh), 1)] B).io jh ∧ (apIo [(jx, some (.var jx), -1), (jh, some (.var jh), 1)] B).io jh ≤ (HM : Int) + 1
          rw [e2]; omega
      refine ih (apIo [(jx, some (.var jx), -1), (jh, some (.var jh), 1)] B).io (repG g' N K) w' a' (by rw [e1]; omega) (by rw [e2]; omega) (by rw [e1]; omega) (by rw [e2]; omega) (fun i h1 h2 => ?_) (hr_rep (eS := []) hHJ hstep.2 H') (tr_rep (g := g') (eS := []) hHJ hstep.1 T') D' (ext_rep hn hg hstep.2 (E1.trans E'))
      have := apIo_none (e := [(jx, some (.var jx), -1), (jh, some (.var jh), 1)]) (B := B) (j := i) (by rw [evGet2 h1, evGet2 h2]; rfl)
      exact this.trans (hag i h1 h2)
    · cases hstep
end Go.Ab

namespace Go.Ab

/-- What is known of a loop that goes round in turns. -/
structure Tn where
  m1 : Nat
  m0 : Nat
  mf : Nat
  N : Nat
  K1 : Nat
  K : Nat
  KE : Nat
  jx : Nat
  jh : Nat
  XM : Nat
  HM : Nat
  i : Nat
  eE : Ev
  lt : List (Nat × AV)
  rows : List (Nat × List AV)
  ltN : List (Nat × AV)
  rowsN : List (Nat × List AV)
  ltF : List (Nat × AV)
  rowsF : List (Nat × List AV)
  ltE : List (Nat × AV)
  rowsE : List (Nat × List AV)
noncomputable def cLpT (e : Tn) (bd : CdF) (f : CdF) : CdF := fun t h => match itr e.m1 bd t h with
  | .norm t1 h1 => Bool.rec (f t h) (Rc.exit e.i (mkT e.ltE) (mkH (Nat.add e.N 1) e.rowsE)) (relT2 [] [] e.eE e.N e.K1 t1 e.lt && (relH2 [] [] e.eE e.N e.K1 h1 e.rows && Nat.ble h.next e.N))
  | _ => f t h

/-- The checks, by the kernel. -/
structure TnOk (e : Tn) (bd : CdF) : Prop where
  j : e.jx ≠ e.jh
  cN : (relT2 [(e.jx, 2, (e.XM : Int)), (e.jh, 0, (e.HM : Int))] [] [] e.N e.N (mkT e.lt) e.ltN && relH2 [(e.jx, 2, (e.XM : Int)), (e.jh, 0, (e.HM : Int))] [] [] e.N e.N (mkH (e.N + 1) e.rows) e.rowsN) = true
  cS : turnC e.m0 e.N e.K bd [(e.jx, some (.var e.jx), -1), (e.jh, some (.var e.jh), 1)] [(e.jx, 1, (e.XM : Int)), (e.jh, 0, (e.HM : Int) + 1)] e.ltN e.rowsN e.lt e.rows = true
  cF : (relT2 [] [(e.jx, none, 1)] [] e.N e.N (mkT e.lt) e.ltF && relH2 [] [(e.jx, none, 1)] [] e.N e.N (mkH (e.N + 1) e.rows) e.rowsF) = true
  cE : lastC e.mf e.N e.KE e.i bd e.ltF e.rowsF e.ltE e.rowsE = true
  cA : ∀ c1 c2 : Int, (relT2 [] [(e.jx, none, c1), (e.jh, none, c2)] [] e.N e.N (mkT e.ltE) e.ltE && relH2 [] [(e.jx, none, c1), (e.jh, none, c2)] [] e.N e.N (mkH (e.N + 1) e.rowsE) e.rowsE) = true

theorem cd_lpT {P : Program} {nt : Nat} {x : Code} {bd f : CdF} (hx : ∀ J : Io, @CdOk J P nt x bd) {e : Tn} (ok : TnOk e bd) {I : Nat → Int} (hf : @CdOk ⟨I⟩ P nt (.loop x) f)
    (h1 : 1 ≤ (apIo e.eE I).io e.jx) (h2 : (apIo e.eE I).io e.jx ≤ e.XM) (h3 : 0 ≤ (apIo e.eE I).io e.jh) (h4 : (apIo e.eE I).io e.jh + (apIo e.eE I).io e.jx ≤ e.HM + 2)
    (hag : ∀ i, i ≠ e.jx → i ≠ e.jh → (apIo e.eE I).io i = I i) : @CdOk ⟨I⟩ P nt (.loop x) (cLpT e bd f) := by
  intro g w t h a Q H T D
  show match (match itr e.m1 bd t h with
    | .norm t1 h1 => (Bool.rec (f t h) (Rc.exit e.i (mkT e.ltE) (mkH (Nat.add e.N 1) e.rowsE)) (relT2 [] [] e.eE e.N e.K1 t1 e.lt && (relH2 [] [] e.eE e.N e.K1 h1 e.rows && Nat.ble h.next e.N)) : Rc)
    | _ => f t h) with | .bad => _ | .norm _ _ => _ | .ret _ _ => _ | .exit _ _ _ => _
  cases hi : itr e.m1 bd t h with
  | bad => exact hf g w t h a Q H T D
  | ret t1 h1 => exact hf g w t h a Q H T D
  | exit i t1 h1 => exact hf g w t h a Q H T D
  | norm t1 hh1 =>
    cases hb : (relT2 [] [] e.eE e.N e.K1 t1 e.lt && (relH2 [] [] e.eE e.N e.K1 hh1 e.rows && Nat.ble h.next e.N)) with
    | false => simp only [hb]; exact hf g w t h a Q H T D
    | true =>
      simp only [hb]
      intro K
      simp only [Bool.and_eq_true] at hb
      obtain ⟨b1, b2, b3⟩ := hb
      have b3 := Nat.le_of_ble_eq_true b3
      have hg : ∀ id y, g.m id = some y → id < e.N := by
        intro id y hy
        rw [← Nat.not_le]
        intro hle
        rw [@HR.fresh ⟨I⟩ _ _ _ H id (by omega)] at hy
        cases hy
      have hk : (apIo e.eE I).io e.jx = ((((apIo e.eE I).io e.jx - 1).toNat : Nat) : Int) + 1 := by omega
      refine wp_loop_rounds (e.m1 + (((apIo e.eE I).io e.jx - 1).toNat * e.m0 + e.mf)) ?_
      refine @itr_ok ⟨I⟩ P nt x bd (hx ⟨I⟩) Q _ e.m1 g w t h a H T D t1 hh1 hi (fun g' w' a' E' H' T' D' => ?_)
      exact turns_ok hx ok.j ok.cN ok.cS ok.cF ok.cE ok.cA I g w h (by omega) hg Q (fun g' w' a' => K g' w' a') _ (apIo e.eE I).io (repG g' e.N e.K1) w' a' hk h3 h2 (by omega) hag
        (hr_rep (eS := []) (B := I) HbOk.none b2 H') (tr_rep (g := g') (eS := []) (B := I) HbOk.none b1 T') D' (ext_rep (by omega) hg b2 E')
end Go.Ab

namespace Go.Ab

/-- The names of the greater store, and the new one. -/
def newG (g g1 : G) (N : Nat) : G := ⟨fun id => bif Nat.beq id N then g1.m id else g.m id, g.imm⟩
theorem newG_ne {g g1 : G} {N id : Nat} (h : id ≠ N) : (newG g g1 N).m id = g.m id := by
  show (bif Nat.beq id N then g1.m id else g.m id) = _
  rw [show Nat.beq id N = false from by rw [Bool.eq_false_iff]; intro q; exact h (Nat.eq_of_beq_eq_true q)]
  rfl
theorem newG_eq {g g1 : G} {N : Nat} : (newG g g1 N).m N = g1.m N := by
  show (bif Nat.beq N N then g1.m N else g.m N) = _
  rw [Nat.beq_refl]; rfl

theorem frame_back2 {I : Io} {g : G} {w : World} {h : Hp} {N : Nat} {rows rowsE : List (Nat × List AV)} (hN : h.next ≤ N) (H : @HR I g w h) (hr : relH [] [] N h rows rows = true)
    (hd2 : ∀ id, domR rowsE id = true ↔ (domR rows id = true ∨ id = N)) (hrE : relH [] [] (N + 1) (mkH (N + 1) rowsE) rowsE rowsE = true) {g1' : G} {w' : World}
    (E : Ext (subG g (domR rows) (immF g h (domR rows))) w (mkH N rows) g1' w' (mkH (N + 1) rowsE)) (H' : @HR I g1' w' (mkH (N + 1) rowsE)) :
    Ext g w h (newG g g1' N) w' ⟨N + 1, mkO rowsE h.objs⟩ ∧ @HR I (newG g g1' N) w' ⟨N + 1, mkO rowsE h.objs⟩ ∧ (∀ id x, domR rowsE id = true → g1'.m id = some x → (newG g g1' N).m id = some x) := by
  have hmem := relH_mem hr
  have gN : g.m N = none := @HR.fresh I _ _ _ H N hN
  have alive : ∀ id, domR rows id = true → ∃ r, h.objs.get id = some r := by
    intro id hd
    obtain ⟨l, hl⟩ := domR_iff.1 hd
    obtain ⟨_, r, hg, _⟩ := hmem _ hl
    exact ⟨r, hg⟩
  have ltN : ∀ id r, h.objs.get id = some r → id ≠ N := by
    intro id r hg hid
    subst hid
    obtain ⟨b, s, C, el, vs, h1, _⟩ := @HR.objs I _ _ _ H id r hg
    rw [gN] at h1; cases h1
  have up : ∀ id x, domR rows id = true → g.m id = some x → g1'.m id = some x := by
    intro id x hd hx
    refine E.m id _ ?_
    show (bif domR rows id then g.m id else none) = _
    rw [hd]; exact hx
  have gm : ∀ id x, domR rowsE id = true → g1'.m id = some x → (newG g g1' N).m id = some x := by
    intro id x hd hx
    rcases (hd2 id).1 hd with hd | rfl
    · obtain ⟨r, hg⟩ := alive id hd
      obtain ⟨b, s, C, el, vs, h1, _⟩ := @HR.objs I _ _ _ H id r hg
      have h3 := up id _ hd h1
      rw [hx] at h3
      rw [newG_ne (ltN id r hg), h1, h3]
    · rw [newG_eq]; exact hx
  have own : ∀ b, Owned (subG g (domR rows) (immF g h (domR rows))) (mkH N rows) b → ∃ id r s, domR rows id = true ∧ h.objs.get id = some r ∧ g.m id = some (b, s) := by
    rintro b ⟨id, cs, s, e, m⟩
    obtain ⟨d, m⟩ := subG_m m
    obtain ⟨r, hr⟩ := alive id d
    exact ⟨id, r, s, d, hr, m⟩
  have own2 : ∀ b, Owned (subG g (domR rows) (immF g h (domR rows))) (mkH N rows) b → Owned g h b := by
    intro b ho
    obtain ⟨id, r, s, _, hr, m⟩ := own b ho
    exact ⟨id, r, s, hr, m⟩
  have alive2 : ∀ id cs, (mkO rowsE h.objs).get id = some cs → id = N ∨ ∃ r, h.objs.get id = some r := by
    intro id cs e
    rcases mkO_get e with ⟨l, hl, _⟩ | ⟨_, e⟩
    · rcases (hd2 id).1 (domR_iff.2 ⟨l, hl⟩) with hd | hd
      · exact .inr (alive id hd)
      · exact .inl hd
    · exact .inr ⟨cs, e⟩
  have dN : domR rowsE N = true := (hd2 N).2 (.inr rfl)
  obtain ⟨rN, eN⟩ : ∃ r, (mkO rowsE .nil).get N = some r := mkO_alive dN
  have ownN : ∀ b s, (newG g g1' N).m N = some (b, s) → Owned (subG g (domR rows) (immF g h (domR rows))) (mkH N rows) b ∨ w.heap.size ≤ b := by
    intro b s m
    rw [newG_eq] at m
    exact E.own' b ⟨N, rN, s, eN, m⟩
  -- the new name's row and another's
  have injN : ∀ id b s s' r, h.objs.get id = some r → (newG g g1' N).m N = some (b, s) → g.m id = some (b, s') → False := by
    intro id b s s' r hg m1 m2
    cases hd : domR rows id with
    | true =>
      rw [newG_eq] at m1
      have m3 := up id _ hd m2
      obtain ⟨r2, e2⟩ : ∃ r, (mkO rowsE .nil).get id = some r := mkO_alive ((hd2 id).2 (.inl hd))
      exact ltN id r hg (@HR.inj I _ _ _ H' id N b s' s r2 rN e2 eN m3 m1)
    | false =>
      rcases ownN b s m1 with ho | hle
      · obtain ⟨id', r', s2, hd', hg', hm'⟩ := own b ho
        have := @HR.inj I _ _ _ H id id' b s' s2 r r' hg hg' m2 hm'
        subst this
        rw [hd] at hd'; cases hd'
      · obtain ⟨_, _, _, hw, _⟩ := @HR.row I _ _ _ H _ _ hg _ _ m2
        have := (Array.getElem?_eq_some_iff.1 hw).1
        omega
  refine ⟨⟨E.os, E.tape, E.output, E.size, Nat.le_succ_of_le hN, fun id x e => ?_, fun b hb ho => E.old b hb (fun k => ho (own2 b k)), E.rows, fun _ i => i, fun _ i => .inl i, ?_⟩, ?_, gm⟩
  · rw [newG_ne (fun k => by rw [k, gN] at e; cases e)]; exact e
  · rintro b ⟨id, cs, s, e, m⟩
    rcases alive2 id cs e with rfl | ⟨r, hr⟩
    · rcases ownN b s m with ho | hle
      · exact .inl (own2 b ho)
      · exact .inr hle
    · rw [newG_ne (ltN id r hr)] at m
      exact .inl ⟨id, r, s, hr, m⟩
  · have keepI : ∀ b, g.imm b → w'.heap[b]? = w.heap[b]? := fun b hb => E.old b (@HR.imm I _ _ _ H b hb) (fun k => @HR.not_owned I _ _ _ H _ hb (own2 b k))
    have gup : ∀ id x, g.m id = some x → (newG g g1' N).m id = some x := fun id x e => by
      rw [newG_ne (fun k => by rw [k, gN] at e; cases e)]; exact e
    refine @HR.mk I _ _ _ (fun id hid => ?_) (fun id cs e => ?_) (fun id id' b s s' cs cs' e1 e2 m1 m2 => ?_) (fun b hb => ?_)
    · have hid' : N + 1 ≤ id := hid
      rw [newG_ne (by omega)]
      exact @HR.fresh I _ _ _ H id (by omega)
    · rcases mkO_get e with ⟨l, hl, rfl⟩ | ⟨hd, e⟩
      · obtain ⟨_, r', hg', hrel⟩ := relH_mem hrE _ hl
        obtain ⟨b, s, C, el, vs, h1, h2, h3, h4, h5⟩ := @HR.objs I _ _ _ H' id r' hg'
        refine ⟨b, s, C, el, vs, gm id _ (domR_iff.2 ⟨l, hl⟩) h1, h2, fun k => h3 (E.imm b (.inl k)), ?_, h5⟩
        rw [toL_ofL]
        exact relAs_ok (B := I.io) (eS := []) (eT := []) HbOk.none (im := false) (sgI_m (fun id x hd e => gm id x hd e)) (fun k => by cases k) _ _ _ hrel h4
      · obtain ⟨b, s, C, el, vs, h1, h2, h3, h4, h5⟩ := @HR.objs I _ _ _ H id cs e
        have hb := (Array.getElem?_eq_some_iff.1 h2).1
        have hno : ¬ Owned (subG g (domR rows) (immF g h (domR rows))) (mkH N rows) b := by
          intro ho
          obtain ⟨id', r, s', d, hr', m'⟩ := own b ho
          have := @HR.inj I _ _ _ H id id' b s s' cs r e hr' h1 m'
          subst this
          rw [(hd2 id).2 (.inl d)] at hd
          cases hd
        exact ⟨b, s, C, el, vs, gup id _ h1, by rw [E.old b hb hno]; exact h2, h3, @VRs.mono' I _ _ _ _ ⟨gup, fun _ i => i, keepI, E.rows⟩ _ _ h4, h5⟩
    · rcases alive2 id cs e1 with rfl | ⟨r1, a1⟩ <;> rcases alive2 id' cs' e2 with q | ⟨r2, a2⟩
      · exact q.symm
      · rw [newG_ne (ltN id' r2 a2)] at m2
        exact (injN id' b s s' r2 a2 m1 m2).elim
      · subst q
        rw [newG_ne (ltN id r1 a1)] at m1
        exact (injN id b s' s r1 a1 m2 m1).elim
      · rw [newG_ne (ltN id r1 a1)] at m1
        rw [newG_ne (ltN id' r2 a2)] at m2
        exact @HR.inj I _ _ _ H id id' b s s' r1 r2 a1 a2 m1 m2
    · exact Nat.lt_of_lt_of_le (@HR.imm I _ _ _ H b hb) E.size

/-- A loop in turns over a store that has more rows: these are as they were. -/
structure Tn2 extends Tn where
  lt0 : List (Nat × AV)
  rows0 : List (Nat × List AV)
noncomputable def cLpU (e : Tn2) (f : CdF) : CdF := fun t h => Bool.rec (f t h) (Rc.exit e.i (mkT e.ltE) ⟨Nat.add e.N 1, mkO e.rowsE h.objs⟩) (relT [] [] (domR e.rows0) true t e.lt0 && (relH [] [] e.N h e.rows0 e.rows0 && Nat.ble h.next e.N))
structure TnOk2 (e : Tn2) (bd : CdF) : Prop extends TnOk e.toTn bd where
  c0 : (match itr e.m1 bd (mkT e.lt0) (mkH e.N e.rows0) with
    | .norm t1 h1 => relT2 [] [] e.eE e.N e.K1 t1 e.lt && relH2 [] [] e.eE e.N e.K1 h1 e.rows
    | _ => false) = true
  cD : (eqDom (e.rows0 ++ [(e.N, [])]) e.rowsE && (relH [] [] (e.N + 1) (mkH (e.N + 1) e.rowsE) e.rowsE e.rowsE && relT [] [] (domR e.rowsE) false (mkT e.ltE) e.ltE)) = true

theorem cd_lpU {P : Program} {nt : Nat} {x : Code} {bd f : CdF} (hx : ∀ J : Io, @CdOk J P nt x bd) {e : Tn2} (ok : TnOk2 e bd) {I : Nat → Int} (hf : @CdOk ⟨I⟩ P nt (.loop x) f)
    (h1 : 1 ≤ (apIo e.eE I).io e.jx) (h2 : (apIo e.eE I).io e.jx ≤ e.XM) (h3 : 0 ≤ (apIo e.eE I).io e.jh) (h4 : (apIo e.eE I).io e.jh + (apIo e.eE I).io e.jx ≤ e.HM + 2)
    (hag : ∀ i, i ≠ e.jx → i ≠ e.jh → (apIo e.eE I).io i = I i) : @CdOk ⟨I⟩ P nt (.loop x) (cLpU e f) := by
  intro g w t h a Q H T D
  show match (Bool.rec (f t h) (Rc.exit e.i (mkT e.ltE) ⟨Nat.add e.N 1, mkO e.rowsE h.objs⟩) (relT [] [] (domR e.rows0) true t e.lt0 && (relH [] [] e.N h e.rows0 e.rows0 && Nat.ble h.next e.N)) : Rc) with | .bad => _ | .norm _ _ => _ | .ret _ _ => _ | .exit _ _ _ => _
  cases hb : (relT [] [] (domR e.rows0) true t e.lt0 && (relH [] [] e.N h e.rows0 e.rows0 && Nat.ble h.next e.N)) with
  | false => simp only; exact hf g w t h a Q H T D
  | true =>
    simp only
    intro K
    simp only [Bool.and_eq_true] at hb
    obtain ⟨b1, b2, b3⟩ := hb
    have b3 := Nat.le_of_ble_eq_true b3
    have cD := ok.cD
    simp only [Bool.and_eq_true] at cD
    obtain ⟨d1, d2, d3⟩ := cD
    have hdm : ∀ id, domR e.rowsE id = true ↔ (domR e.rows0 id = true ∨ id = e.N) := by
      intro id
      rw [dom_eq (eqDom_iff d1) id, domR_iff, domR_iff]
      constructor
      · rintro ⟨l, hl⟩
        rcases List.mem_append.1 hl with hl | hl
        · exact .inl ⟨l, hl⟩
        · rw [List.mem_singleton] at hl
          exact .inr (Prod.mk.inj hl).1
      · rintro (⟨l, hl⟩ | rfl)
        · exact ⟨l, List.mem_append.2 (.inl hl)⟩
        · exact ⟨[], List.mem_append.2 (.inr (List.mem_singleton.2 rfl))⟩
    have H0 : @HR ⟨I⟩ (subG g (domR e.rows0) (immF g h (domR e.rows0))) w (mkH e.N e.rows0) := frame_in (eS := []) (eT := []) (B := I) H b2
    have T0 : @TR ⟨I⟩ (subG g (domR e.rows0) (immF g h (domR e.rows0))) w nt (mkT e.lt0) a.tmps :=
      tr_rel (g := g) (eS := []) (eT := []) (B := I) b1 (fun id x hd e => by show (bif domR _ id then g.m id else none) = _; rw [hd]; exact e) (fun _ b hb => .inl hb) T
    have hg : ∀ id y, (subG g (domR e.rows0) (immF g h (domR e.rows0))).m id = some y → id < e.N := by
      intro id y hy
      have hy := (subG_m hy).2
      rw [← Nat.not_le]
      intro hle
      rw [@HR.fresh ⟨I⟩ _ _ _ H id (by omega)] at hy
      cases hy
    have hc := ok.c0
    split at hc
    · rename_i t1 hh1 hi
      rw [Bool.and_eq_true] at hc
      have hk : (apIo e.eE I).io e.jx = ((((apIo e.eE I).io e.jx - 1).toNat : Nat) : Int) + 1 := by omega
      refine wp_loop_rounds (e.m1 + (((apIo e.eE I).io e.jx - 1).toNat * e.m0 + e.mf)) ?_
      refine @itr_ok ⟨I⟩ P nt x bd (hx ⟨I⟩) Q _ e.m1 _ w (mkT e.lt0) (mkH e.N e.rows0) a H0 T0 D t1 hh1 hi (fun g' w' a' E' H' T' D' => ?_)
      refine turns_ok hx ok.j ok.cN ok.cS ok.cF ok.cE ok.cA I (subG g (domR e.rows0) (immF g h (domR e.rows0))) w (mkH e.N e.rows0) (Nat.le_succ e.N) hg Q (fun g2 w2 a2 E2 H2 T2 D2 => ?_) _ (apIo e.eE I).io (repG g' e.N e.K1) w' a' hk h3 h2 (by omega) hag
        (hr_rep (eS := []) (B := I) HbOk.none hc.2 H') (tr_rep (g := g') (eS := []) (B := I) HbOk.none hc.1 T') D' (ext_rep (Nat.le_succ e.N) hg hc.2 E')
      obtain ⟨E3, H3, gm⟩ := frame_back2 b3 H b2 hdm d2 E2 H2
      exact K _ w2 a2 E3 H3 (tr_rel (g := g2) (eS := []) (eT := []) (B := I) d3 gm (fun k => by cases k) T2) D2
    · cases hc
end Go.Ab

namespace Go.Ab
variable [Io]
/-- As frzK, but what has more than 1000 places is not looked at. -/
noncomputable def frzL (n : Nat) : Hp → AV → Option AV :=
  Nat.rec (fun _ a => leafK a) (fun _ ih h a => match a with
    | .hsl id off n sz => bif Nat.blt 1000 n then some .any else (match h.objs.get id with
      | some cs => match cs.seg off (Nat.mul n sz) with
        | some l => match mapA (ih h) l with
          | some l => some (.isl n l)
          | none => none
        | none => none
      | none => none)
    | .ref id off => match h.objs.get id with
      | some cs => match cs.seg off (Nat.sub cs.n off) with
        | some l => match mapA (ih h) l with
          | some l => some (.iptr l)
          | none => none
        | none => none
      | none => some .any
    | .agg l => match mapA (ih h) l with
      | some l => some (.agg l)
      | none => none
    | .tup l => match mapA (ih h) l with
      | some l => some (.tup l)
      | none => none
    | .fn f l => match mapA (ih h) l with
      | some l => some (.fn f l)
      | none => none
    | .isl _ _ => none
    | .iptr _ => none
    | a => some a) n

theorem frzL_ok {g g' : G} {w : World} {h : Hp} (H : HR g w h) (ho : ∀ b, Owned g h b → g'.imm b) : ∀ (n : Nat) (a a' : AV) (v : Value), frzL n h a = some a' → VR g w a v → VR g' w a' v := by
  intro n
  induction n with
  | zero =>
    intro a a' v e hv
    change leafK a = some a' at e
    unfold leafK at e
    cases a <;> simp only at e <;> first
      | (cases e; done)
      | (cases e; simpa only [VR] using hv)
      | (cases e; simp only [VR]; exact VR.one hv rfl)
  | succ n ih =>
    intro a a' v e hv
    have hm := @mapA_ok _ g g' w (frzL n h) ih
    cases a with
    | int k n => cases e; simpa only [VR] using hv
    | bool b => cases e; simpa only [VR] using hv
    | sc x => cases e; simpa only [VR] using hv
    | esl => cases e; simpa only [VR] using hv
    | nel => cases e; simpa only [VR] using hv
    | sym k s lo hi o => cases e; simpa only [VR] using hv
    | any => cases e; simpa only [VR] using hv
    | agg l =>
      change (match mapA (frzL n h) l with | some l => some (AV.agg l) | none => none) = some a' at e
      cases h1 : mapA (frzL n h) l with
      | none => rw [h1] at e; cases e
      | some l' =>
        rw [h1] at e
        cases e
        simp only [VR] at hv ⊢
        obtain ⟨vs, e, q⟩ := hv
        exact ⟨vs, e, hm h1 q⟩
    | tup l =>
      change (match mapA (frzL n h) l with | some l => some (AV.tup l) | none => none) = some a' at e
      cases h1 : mapA (frzL n h) l with
      | none => rw [h1] at e; cases e
      | some l' =>
        rw [h1] at e
        cases e
        simp only [VR] at hv ⊢
        obtain ⟨vs, e, q⟩ := hv
        exact ⟨vs, e, hm h1 q⟩
    | fn f l =>
      change (match mapA (frzL n h) l with | some l => some (AV.fn f l) | none => none) = some a' at e
      cases h1 : mapA (frzL n h) l with
      | none => rw [h1] at e; cases e
      | some l' =>
        rw [h1] at e
        cases e
        simp only [VR] at hv ⊢
        obtain ⟨vs, e, q⟩ := hv
        exact ⟨vs, e, hm h1 q⟩
    | isl m l => cases e
    | iptr l => cases e
    | ref id off =>
      change (match h.objs.get id with | some cs => (match cs.seg off (Nat.sub cs.n off) with | some l => (match mapA (frzL n h) l with | some l => some (AV.iptr l) | none => none) | none => none) | none => some AV.any) = some a' at e
      cases h0 : h.objs.get id with
      | none =>
        rw [h0] at e
        cases e
        simp only [VR]
        exact VR.one hv rfl
      | some cs =>
      rw [h0] at e
      simp only at e
      cases hs : cs.seg off (Nat.sub cs.n off) with
      | none => rw [hs] at e; cases e
      | some l =>
      rw [hs] at e
      simp only at e
      cases h1 : mapA (frzL n h) l with
      | none => rw [h1] at e; cases e
      | some l' =>
        rw [h1] at e
        cases e
        obtain ⟨rfl, _, _⟩ := seg_some hs
        simp only [VR] at hv ⊢
        obtain ⟨b, s, hmm, rfl⟩ := hv
        obtain ⟨C, el, vs, hw, _, hvs, hC⟩ := H.row h0 hmm
        exact ⟨b, s + off, (vs.drop off).take (Nat.sub cs.n off), rfl, ho b ⟨id, cs, s, h0, hmm⟩, ((cellsAt_row hw hC).drop off).take _, hm h1 ((hvs.drop off).take _)⟩
    | hsl id off m sz =>
      change (bif Nat.blt 1000 m then some AV.any else (match h.objs.get id with | some cs => (match cs.seg off (Nat.mul m sz) with | some l => (match mapA (frzL n h) l with | some l => some (AV.isl m l) | none => none) | none => none) | none => none)) = some a' at e
      cases hbig : Nat.blt 1000 m with
      | true =>
        rw [hbig] at e
        cases e
        simp only [VR]
        exact VR.one hv rfl
      | false =>
      rw [hbig] at e
      simp only [cond_false] at e
      cases h0 : h.objs.get id with
      | none => rw [h0] at e; cases e
      | some cs =>
      rw [h0] at e
      simp only at e
      cases hs : cs.seg off (Nat.mul m sz) with
      | none => rw [hs] at e; cases e
      | some l =>
      rw [hs] at e
      simp only at e
      cases h1 : mapA (frzL n h) l with
      | none => rw [h1] at e; cases e
      | some l' =>
        rw [h1] at e
        cases e
        obtain ⟨rfl, hlen, _⟩ := seg_some hs
        simp only [VR] at hv ⊢
        rcases hv with ⟨rfl, x, rfl⟩ | ⟨b, s, cap, hmm, rfl, hle, _⟩
        · refine ⟨x, 0, rfl, Nat.le_refl _, .inl ⟨rfl, ?_⟩⟩
          have hz : Nat.mul 0 sz = 0 := Nat.zero_mul sz
          rw [hz] at h1
          simp only [List.take_zero] at h1
          cases h1
          rfl
        · obtain ⟨C, el, vs, hw, _, hvs, hC⟩ := H.row h0 hmm
          exact ⟨_, cap, rfl, hle, .inr ⟨b, s + off, (vs.drop off).take (Nat.mul m sz), rfl, ho b ⟨id, cs, s, h0, hmm⟩, ((cellsAt_row hw hC).drop off).take _, hm h1 ((hvs.drop off).take _)⟩⟩



noncomputable def resL (n : Nat) (r : Ro) : Option AV := Ro.rec none (fun v h => frzL n h v) r
/-- By one run. -/
theorem knownL_of {P : Program} {call : CallF} (hc : CallOk P call) {f : FuncId} {args : List AV} {v' : AV} (n : Nat) (e : resL n (call f args (nilH 0)) = some v') (ha : noOwns args = true) : KnownF P f args v' := by
  cases hr : call f args (nilH 0) with
  | bad => rw [hr] at e; cases e
  | ok v h' =>
  rw [hr] at e
  have hf : frzL n h' v = some v' := e
  obtain ⟨hen, hcall⟩ := hc f args (nilH 0) v h' hr
  refine ⟨hen, fun g w vs hi hv => (hcall (gE g.imm) w vs (hr_empty hi) (VRs.noOwn _ _ ha hv)).mono ?_⟩
  rintro e w' ⟨x, g', rfl, E, H', hx⟩
  refine ⟨x, rfl, keep_of E, frzL_ok H' (fun b k => ?_) n v v' x hf hx⟩
  rcases E.own' b k with ⟨id, cs, s, e, _⟩ | k1
  · cases e
  · obtain ⟨id, cs, s, e, m⟩ := k
    obtain ⟨_, _, _, hw, _⟩ := H'.row e m
    exact ⟨k1, (Array.getElem?_eq_some_iff.1 hw).1⟩
end Go.Ab
