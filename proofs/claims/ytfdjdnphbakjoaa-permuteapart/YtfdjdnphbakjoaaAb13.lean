import Derived.Test.YtfdjdnphbakjoaaAb12
import Derived.LoopN
namespace Go.Ab
variable [Io]
section
variable {P : Program} {call : CallF}

/-- What stands behind a piece of code. -/
def Post (g : G) (w : World) (h : Hp) (nt : Nat) (t' : Tm) (h' : Hp) (R : Act → World → Prop) : Prop :=
  ∀ g' w' a', Ext g w h g' w' h' → HR g' w' h' → TR g' w' nt t' a'.tmps → a'.defers = [] → R a' w'

theorem Post.then {g w h nt h1 g1 w1 t2 h2} {R : Act → World → Prop} (E : Ext g w h g1 w1 h1) (K : Post g w h nt t2 h2 R) : Post g1 w1 h1 nt t2 h2 R :=
  fun g' w' a' E' H' T' D' => K g' w' a' (E.trans E') H' T' D'

/-- A region's code, as a function of frames and stores. -/
def RgOk (P : Program) (nt : Nat) (c : Code) (r : RgF) : Prop :=
  ∀ (g : G) (w : World) (t : Tm) (h : Hp) (a : Act) (t' : Tm) (h' : Hp), HR g w h → TR g w nt t a.tmps → a.defers = [] → r t h = .ok t' h' →
    ∀ Q : Exit → Act → World → Prop, Post g w h nt t' h' (Q .normal) → c.wp P Q a w

theorem put_dst {g w nt t} {a : Act} {d : Nat} {v : AV} {x : Value} (T : TR g w nt t a.tmps) (hd : d < nt) (hv : VR g w v x) : TR g w nt (sT d v t) (a.put (some d) x).tmps :=
  T.put hd hv

theorem seq_ok (hc : CallOk P call) {nt : Nat} (ops : Array Oper) : ∀ (l pre : List Oper), ops.toList = pre ++ l → ∀ (g : G) (w : World) (t : Tm) (h : Hp) (a : Act) (t' : Tm) (h' : Hp),
    HR g w h → TR g w nt t a.tmps → a.defers = [] → cRegion P call nt ops.toList l t h = .ok t' h' → ∀ Q : Exit → Act → World → Prop, Post g w h nt t' h' (Q .normal) →
      wpOps P ops Q (List.range' pre.length l.length) a w
  | [], pre, _, g, w, t, h, a, t', h', H, T, D, e, Q, K => by
    cases e
    exact K g w a (Ext.refl _ _ _) H T D
  | o :: l, pre, hl, g, w, t, h, a, t', h', H, T, D, e, Q, K => by
    have hi : ops[pre.length]? = some o := by
      have : ops.toList[pre.length]? = some o := by rw [hl]; simp
      simpa using this
    have ih := seq_ok hc (nt := nt) ops l (pre ++ [o]) (by simp [hl])
    simp only [List.length_append, List.length_cons, List.length_nil, Nat.zero_add] at ih
    rw [List.length_cons, List.range'_succ]
    change (match o.dst with
      | some d => ifb (Nat.blt d nt) (st (sT d) (gOp P call nt ops.toList o) (cRegion P call nt ops.toList l)) (fun _ _ => .bad)
      | none => sn (gOp P call nt ops.toList o) (cRegion P call nt ops.toList l)) t h = .ok t' h' at e
    cases hd : o.dst with
    | none =>
      simp only [hd] at e
      unfold sn at e
      cases hg : gOp P call nt ops.toList o t h with
      | bad => rw [hg] at e; cases e
      | ok v h1 =>
        rw [hg] at e
        refine step_ok hc hi H T hg fun g1 w1 x E H1 hv => ?_
        rw [hd]
        exact ih g1 w1 t h1 a t' h' H1 (T.mono H E) D e Q (Post.then E K)
    | some d =>
      simp only [hd] at e
      cases hb : Nat.blt d nt with
      | false => simp only [hb] at e; cases e
      | true =>
        simp only [hb] at e
        change st (sT d) (gOp P call nt ops.toList o) (cRegion P call nt ops.toList l) t h = .ok t' h' at e
        unfold st at e
        cases hg : gOp P call nt ops.toList o t h with
        | bad => rw [hg] at e; cases e
        | ok v h1 =>
          rw [hg] at e
          refine step_ok hc hi H T hg fun g1 w1 x E H1 hv => ?_
          rw [hd]
          exact ih g1 w1 (sT d v t) h1 (a.put (some d) x) t' h' H1 (put_dst (T.mono H E) (blt_iff.1 hb) hv) D e Q (Post.then E K)

theorem region_ok (hc : CallOk P call) {nt : Nat} (id : Nat) (ops : Array Oper) : RgOk P nt (.region id ops false) (cRegion P call nt ops.toList ops.toList) := by
  intro g w t h a t' h' H T D e Q K
  refine wp_region ?_
  have := seq_ok hc ops ops.toList [] rfl g w t h a t' h' H T D e Q K
  rw [List.range_eq_range']
  simpa using this

/-- Code, as a function of frames and stores. -/
def CdOk (P : Program) (nt : Nat) (c : Code) (f : CdF) : Prop :=
  ∀ (g : G) (w : World) (t : Tm) (h : Hp) (a : Act) (Q : Exit → Act → World → Prop), HR g w h → TR g w nt t a.tmps → a.defers = [] →
    match f t h with
    | .bad => True
    | .norm t' h' => Post g w h nt t' h' (Q .normal) → c.wp P Q a w
    | .ret t' h' => Post g w h nt t' h' (Q .ret) → c.wp P Q a w
    | .exit i t' h' => Post g w h nt t' h' (Q (.exit i)) → c.wp P Q a w

noncomputable def cCode (P : Program) (draw : Array Oper → RgF) (call : CallF) (n nt : Nat) (c : Code) : CdF :=
  Code.rec (motive := fun _ => CdF) cSk
    (fun _ ops d => cRg (Bool.rec (cRegion P call nt ops.toList ops.toList) (draw ops) d))
    (fun _ _ ia ib => cSq ia ib)
    (fun c _ _ ia ib => cIf (cOpd c) ia ib)
    (fun id _ ib => cBl id ib)
    (fun _ ib => cLp n ib)
    (fun _ _ _ _ _ _ => cBad)
    (fun i => cEx i)
    (fun _ _ => cBad)
    (fun _ => cBad)
    (fun _ => cBad)
    cRt
    (fun _ => cBad) c

theorem cd_bad {nt : Nat} {c : Code} : CdOk P nt c cBad := by
  intro g w t h a Q H T D
  exact trivial

theorem code_ok (hc : CallOk P call) {draw : Array Oper → RgF} {nt : Nat} (hd : ∀ id ops, RgOk P nt (.region id ops true) (draw ops)) (n : Nat) : ∀ c, CdOk P nt c (cCode P draw call n nt c) := by
  intro c
  induction c with
  | skip =>
    intro g w t h a Q H T D K
    exact wp_skip (K g w a (Ext.refl _ _ _) H T D)
  | region id ops d =>
    intro g w t h a Q H T D
    have key : RgOk P nt (.region id ops d) (Bool.rec (cRegion P call nt ops.toList ops.toList) (draw ops) d) := by
      cases d with
      | false => exact region_ok hc id ops
      | true => exact hd id ops
    show match cRg (Bool.rec (cRegion P call nt ops.toList ops.toList) (draw ops) d) t h with | .bad => _ | .norm _ _ => _ | .ret _ _ => _ | .exit _ _ _ => _
    unfold cRg
    cases e : (Bool.rec (cRegion P call nt ops.toList ops.toList) (draw ops) d : RgF) t h with
    | bad => exact trivial
    | ok t' h' => exact fun K => key g w t h a t' h' H T D e Q K
  | seq x y hx hy =>
    intro g w t h a Q H T D
    show match cSq (cCode P draw call n nt x) (cCode P draw call n nt y) t h with | .bad => _ | .norm _ _ => _ | .ret _ _ => _ | .exit _ _ _ => _
    unfold cSq
    have h1 := hx g w t h a (Exit.then (y.wp P Q) Q) H T D
    cases e : cCode P draw call n nt x t h with
    | bad => exact trivial
    | ret t1 h1' => rw [e] at h1; exact fun K => wp_seq (h1 K)
    | exit i t1 h1' => rw [e] at h1; exact fun K => wp_seq (h1 K)
    | norm t1 h1' =>
      rw [e] at h1
      show match cCode P draw call n nt y t1 h1' with | .bad => _ | .norm _ _ => _ | .ret _ _ => _ | .exit _ _ _ => _
      cases e2 : cCode P draw call n nt y t1 h1' with
      | bad => exact trivial
      | norm t2 h2 =>
        intro K
        refine wp_seq (h1 fun g1 w1 a1 E1 H1 T1 D1 => ?_)
        have := hy g1 w1 t1 h1' a1 Q H1 T1 D1
        rw [e2] at this
        exact this (Post.then E1 K)
      | ret t2 h2 =>
        intro K
        refine wp_seq (h1 fun g1 w1 a1 E1 H1 T1 D1 => ?_)
        have := hy g1 w1 t1 h1' a1 Q H1 T1 D1
        rw [e2] at this
        exact this (Post.then E1 K)
      | exit i t2 h2 =>
        intro K
        refine wp_seq (h1 fun g1 w1 a1 E1 H1 T1 D1 => ?_)
        have := hy g1 w1 t1 h1' a1 Q H1 T1 D1
        rw [e2] at this
        exact this (Post.then E1 K)
  | cond c x y hx hy =>
    intro g w t h a Q H T D
    show match cIf (cOpd c) (cCode P draw call n nt x) (cCode P draw call n nt y) t h with | .bad => _ | .norm _ _ => _ | .ret _ _ => _ | .exit _ _ _ => _
    unfold cIf
    cases hcv : cOpd c t with
    | none => exact trivial
    | some v =>
      cases v <;> try exact trivial
      rename_i b
      have hv := cOpd_ok c _ _ _ _ _ _ T hcv
      simp only [VR] at hv
      cases b with
      | true =>
        have := hx g w t h a Q H T D
        show match cCode P draw call n nt x t h with | .bad => _ | .norm _ _ => _ | .ret _ _ => _ | .exit _ _ _ => _
        cases e : cCode P draw call n nt x t h <;> rw [e] at this
        · exact trivial
        all_goals exact fun K => wp_cond_true hv (this K)
      | false =>
        have := hy g w t h a Q H T D
        show match cCode P draw call n nt y t h with | .bad => _ | .norm _ _ => _ | .ret _ _ => _ | .exit _ _ _ => _
        cases e : cCode P draw call n nt y t h <;> rw [e] at this
        · exact trivial
        all_goals exact fun K => wp_cond_false hv (this K)
  | block id x hx =>
    intro g w t h a Q H T D
    show match cBl id (cCode P draw call n nt x) t h with | .bad => _ | .norm _ _ => _ | .ret _ _ => _ | .exit _ _ _ => _
    unfold cBl
    have := hx g w t h a (Exit.inBlock id Q) H T D
    cases e : cCode P draw call n nt x t h <;> rw [e] at this
    · exact trivial
    · exact fun K => wp_block (this K)
    · exact fun K => wp_block (this K)
    · rename_i i t1 h1
      show match (Bool.rec (Rc.exit i t1 h1) (Rc.norm t1 h1) (Nat.beq i id) : Rc) with | .bad => _ | .norm _ _ => _ | .ret _ _ => _ | .exit _ _ _ => _
      cases hb : Nat.beq i id with
      | true =>
        obtain rfl := Nat.eq_of_beq_eq_true hb
        exact fun K => wp_block (this fun g' w' a' E' H' T' D' => by
          show Exit.inBlock i Q (.exit i) a' w'
          simp only [Exit.inBlock, if_true]
          exact K g' w' a' E' H' T' D')
      | false =>
        have hne : i ≠ id := fun k => by rw [k, Nat.beq_refl] at hb; cases hb
        exact fun K => wp_block (this fun g' w' a' E' H' T' D' => by
          show Exit.inBlock id Q (.exit i) a' w'
          simp only [Exit.inBlock, if_neg hne]
          exact K g' w' a' E' H' T' D')
  | loop x hx =>
    intro g w t h a Q H T D
    show match cLp n (cCode P draw call n nt x) t h with | .bad => _ | .norm _ _ => _ | .ret _ _ => _ | .exit _ _ _ => _
    have key : ∀ m, ∀ (g : G) (w : World) (t : Tm) (h : Hp) (a : Act), HR g w h → TR g w nt t a.tmps → a.defers = [] →
        match cLp m (cCode P draw call n nt x) t h with
        | .bad => True
        | .norm t' h' => Post g w h nt t' h' (Q .normal) → Code.rounds P x Q m a w
        | .ret t' h' => Post g w h nt t' h' (Q .ret) → Code.rounds P x Q m a w
        | .exit i t' h' => Post g w h nt t' h' (Q (.exit i)) → Code.rounds P x Q m a w := by
      intro m
      induction m with
      | zero => intro g w t h a H T D; exact trivial
      | succ m ih =>
        intro g w t h a H T D
        have h1 := hx g w t h a (Exit.then (Code.rounds P x Q m) Q) H T D
        show match (Rc.rec Rc.bad (fun t h => cLp m (cCode P draw call n nt x) t h) (fun t h => Rc.ret t h) (fun i t h => Rc.exit i t h) (cCode P draw call n nt x t h) : Rc) with
          | .bad => _ | .norm _ _ => _ | .ret _ _ => _ | .exit _ _ _ => _
        cases e : cCode P draw call n nt x t h with
        | bad => exact trivial
        | ret t1 h1' => rw [e] at h1; exact fun K => h1 K
        | exit i t1 h1' => rw [e] at h1; exact fun K => h1 K
        | norm t1 h1' =>
          rw [e] at h1
          show match cLp m (cCode P draw call n nt x) t1 h1' with | .bad => _ | .norm _ _ => _ | .ret _ _ => _ | .exit _ _ _ => _
          cases e2 : cLp m (cCode P draw call n nt x) t1 h1' with
          | bad => exact trivial
          | norm t2 h2 =>
            intro K
            refine h1 fun g1 w1 a1 E1 H1 T1 D1 => ?_
            have := ih g1 w1 t1 h1' a1 H1 T1 D1
            rw [e2] at this
            exact this (Post.then E1 K)
          | ret t2 h2 =>
            intro K
            refine h1 fun g1 w1 a1 E1 H1 T1 D1 => ?_
            have := ih g1 w1 t1 h1' a1 H1 T1 D1
            rw [e2] at this
            exact this (Post.then E1 K)
          | exit i t2 h2 =>
            intro K
            refine h1 fun g1 w1 a1 E1 H1 T1 D1 => ?_
            have := ih g1 w1 t1 h1' a1 H1 T1 D1
            rw [e2] at this
            exact this (Post.then E1 K)
    have := key n g w t h a H T D
    cases e : cLp n (cCode P draw call n nt x) t h <;> rw [e] at this
    · exact trivial
    all_goals exact fun K => wp_loop_rounds n (this K)
  | rangeFunc f ps x y _ _ => exact cd_bad
  | exit i =>
    intro g w t h a Q H T D K
    exact wp_exit (K g w a (Ext.refl _ _ _) H T D)
  | scope x _ => exact cd_bad
  | label l => exact cd_bad
  | goto l => exact cd_bad
  | ret =>
    intro g w t h a Q H T D K
    exact wp_ret (K g w a (Ext.refl _ _ _) H T D)
  | refuse s => exact cd_bad

end
end Go.Ab
