import Derived.Test.YtfdjdnphbakjoaaAb29
namespace Go.Ab
variable [Io]

noncomputable def runL (l : List CdF) : CdF := List.rec cSk (fun c _ ih => cSq c ih) l

section
variable {P : Program} {call : CallF}

/-- A body's first parts, by the evaluator; what follows, by whatever serves. -/
theorem pre_ok (hc : CallOk P call) {draw : Array Oper → RgF} {nt : Nat} (hd : ∀ id ops, RgOk P nt (.region id ops true) (draw ops)) (n : Nat) (tail : Code) : ∀ (l : List Code) (g : G) (w : World) (t : Tm) (h : Hp) (a : Act) (t1 : Tm) (h1 : Hp)
    (Q : Exit → Act → World → Prop), HR g w h → TR g w nt t a.tmps → a.defers = [] → runL (l.map (cCode P draw call n nt)) t h = .norm t1 h1 → Post g w h nt t1 h1 (tail.wp P Q) → (l.foldr Code.seq tail).wp P Q a w
  | [], g, w, t, h, a, t1, h1, Q, H, T, D, e, K => by
    cases e
    exact K g w a (Ext.refl _ _ _) H T D
  | c :: l, g, w, t, h, a, t1, h1, Q, H, T, D, e, K => by
    change cSq (cCode P draw call n nt c) (runL (l.map (cCode P draw call n nt))) t h = .norm t1 h1 at e
    unfold cSq at e
    have hcd := code_ok hc hd n c g w t h a (Exit.then ((l.foldr Code.seq tail).wp P Q) Q) H T D
    cases hr : cCode P draw call n nt c t h with
    | bad => rw [hr] at e; cases e
    | ret t2 h2 => rw [hr] at e; cases e
    | exit i t2 h2 => rw [hr] at e; cases e
    | norm t2 h2 =>
      rw [hr] at e hcd
      refine wp_seq (hcd fun g2 w2 a2 E2 H2 T2 D2 => ?_)
      exact pre_ok hc hd n tail l g2 w2 t2 h2 a2 t1 h1 Q H2 T2 D2 e (Post.then E2 K)

theorem enter_tr {g : G} {w : World} {nt : Nat} (h512 : nt ≤ 512) {args : List AV} {vs : List Value} (hv : VRs g w args vs) (hl : args.length ≤ nt) :
    TR g w nt (enterT args 0 Tm.none) (vs.toArray ++ Array.replicate (nt - vs.toArray.size) undef) := by
  have hvl := hv.length
  have hsize : (vs.toArray ++ Array.replicate (nt - vs.toArray.size) undef).size = nt := by simp; omega
  exact enter_ok args vs 0 nt Tm.none _ hv (by omega) ⟨h512, hsize, fun i v hi e => by rw [Tm.at_none i hi] at e; cases e⟩ (fun j v e => by
    rw [Array.getElem?_append_left (by have := (List.getElem?_eq_some_iff.1 e).1; simpa using this)]
    simpa using e)

/-- Fewer places known. -/
theorem TR.less {g : G} {w : World} {nt : Nat} {t t' : Tm} {tmps : Array Value} (T : TR g w nt t tmps) (h : ∀ i v, i < 512 → t'.at i = some v → t.at i = some v) : TR g w nt t' tmps :=
  ⟨T.1, T.2.1, fun i v hi e => T.2.2 i v hi (h i v hi e)⟩

/-- Without rows, one starts anew. -/
theorem forget {g : G} {w : World} {h : Hp} (H : HR g w h) : HR (gE g.imm) w (nilH 0) := hr_empty H.imm
end
end Go.Ab
