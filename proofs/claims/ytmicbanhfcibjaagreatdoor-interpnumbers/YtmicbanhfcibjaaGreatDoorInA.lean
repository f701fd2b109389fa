import Derived.Test.YtmicbanhfcibjaaGreatDoorAb27
import Derived.Test.YtmicbanhfcibjaaGreatDoorOkI
import Derived.Test.YtmicbanhfcibjaaGreatDoorShi
import Derived.KernelRfl
namespace Go.Ab

/-- A function's answer at numbers, wherever it is asked: where the tables lie. -/
def FnR (P : Program) (T : List (Nat × List Value)) (f : FuncId) (vs : List Value) (r : Value) : Prop :=
  (∀ xs w, (callFunc f xs).run P w = .ok (.enter f xs) w) ∧ ∀ w, (∀ p, p ∈ T → CellsAt w p.1 0 p.2) → Calls P f vs.toArray w fun e w' => e = .returned r ∧ Keep w w'

theorem FnR.known [Io] {P : Program} {T : List (Nat × List Value)} {f : FuncId} {vs : List Value} {r : Value} (h : FnR P T f vs r) {args : List AV} {v : AV}
    (ha : ∀ g w us, VRs g w args us → us = vs) (hv : ∀ g w, VR g w v r) (ht : ∀ p, p ∈ T → p ∈ Io.tb) : KnownF P f args v := by
  refine ⟨h.1, fun g w us _ t hu => ?_⟩
  obtain rfl := ha g w us hu
  refine (h.2 w fun p hp => (t p (ht p hp)).2).mono ?_
  rintro e w' ⟨rfl, K⟩
  exact ⟨r, rfl, K, hv _ _⟩

theorem FnR.of_calls {P : Program} {T : List (Nat × List Value)} {f : FuncId} {vs : List Value} {r : Value} (he : ∀ xs w, (callFunc f xs).run P w = .ok (.enter f xs) w)
    (h : ∀ w, (∀ p, p ∈ T → CellsAt w p.1 0 p.2) → Calls P f vs.toArray w fun e w' => e = .returned r ∧ w' = w) : FnR P T f vs r :=
  ⟨he, fun w hw => (h w hw).mono fun e w' ⟨h1, h2⟩ => ⟨h1, by subst h2; exact ⟨rfl, rfl, rfl, Nat.le_refl _, fun _ _ => rfl⟩⟩⟩

/-- A run that answers a number of this kind. -/
noncomputable def isOk1 (k : IntKind) (r : Ro) : Bool := match r with
  | .ok v _ => match atS v with
    | some (k', _, _, l, u) => eqK k k' && inK k l u
    | none => false
  | .bad => false
/-- A run that answers a number of this kind, and the error e. -/
noncomputable def isOk2 (k : IntKind) (e : Int) (r : Ro) : Bool := match r with
  | .ok (.tup [v, .int .i64 e']) _ => match atS v with
    | some (k', _, _, l, u) => eqK k k' && (inK k l u && eqI e e')
    | none => false
  | _ => false

theorem ex1 {P : Program} {call : CallF} (J : Io) (hJ : J.tb = []) (hc : @CallOk J P call) {f : FuncId} {args : List AV} {vs : List Value} {k : IntKind} (e : isOk1 k (call f args (nilH 0)) = true)
    (ha : ∀ g w, @VRs J g w args vs) : ∃ z, loK k ≤ z ∧ z ≤ hiK k ∧ FnR P [] f vs (.int k z) := by
  unfold isOk1 at e
  split at e
  · rename_i v h' hr
    split at e
    · rename_i k' s o l u hs
      rw [Bool.and_eq_true] at e
      obtain rfl := eqK_iff.1 e.1
      obtain ⟨h1, h2⟩ := inK_iff e.2
      have hv : ∀ g w x, @VR J g w v x → x = .int k (@evalSV J s + o) ∧ l ≤ @evalSV J s + o ∧ @evalSV J s + o ≤ u := fun g w x hx => @atS_ok J g w v x k s o l u hs hx
      obtain ⟨hen, hcall⟩ := hc f args (nilH 0) v h' hr
      have tb0 : ∀ w, @TbOk J (gE fun _ => False) w := fun w p hp => by rw [hJ] at hp; cases hp
      have fn : ∀ w, Calls P f vs.toArray w fun e w' => ∃ x, e = .returned x ∧ Keep w w' ∧ x = .int k (@evalSV J s + o) ∧ l ≤ @evalSV J s + o ∧ @evalSV J s + o ≤ u := fun w =>
        (hcall (gE fun _ => False) w vs (@hr_empty J _ _ (fun b i => i.elim) (tb0 w)) (ha _ _)).mono fun e w' ⟨x, g', h1, E, _, hx⟩ => ⟨x, h1, keep_of E, hv _ _ _ hx⟩
      by_cases hb : l ≤ @evalSV J s + o ∧ @evalSV J s + o ≤ u
      · refine ⟨@evalSV J s + o, by omega, by omega, hen, fun w _ => (fn w).mono ?_⟩
        rintro e w' ⟨x, rfl, K, rfl, _, _⟩
        exact ⟨rfl, K⟩
      · have h0 := zero_in k
        refine ⟨0, h0.1, h0.2, hen, fun w _ => (fn w).mono ?_⟩
        rintro e w' ⟨x, rfl, K, rfl, h3, h4⟩
        exact absurd ⟨h3, h4⟩ hb
    · cases e
  · cases e

theorem ex2 {P : Program} {call : CallF} (J : Io) (hJ : J.tb = []) (hc : @CallOk J P call) {f : FuncId} {args : List AV} {vs : List Value} {k : IntKind} {n : Int} (e : isOk2 k n (call f args (nilH 0)) = true)
    (ha : ∀ g w, @VRs J g w args vs) : ∃ z, loK k ≤ z ∧ z ≤ hiK k ∧ FnR P [] f vs (.tuple #[.int k z, .int .i64 n]) := by
  unfold isOk2 at e
  split at e
  · rename_i v e' h' hr
    split at e
    · rename_i k' s o l u hs
      simp only [Bool.and_eq_true] at e
      obtain ⟨ek, ei, ee⟩ := e
      obtain rfl := eqK_iff.1 ek
      obtain rfl := eqI_iff.1 ee
      obtain ⟨h1, h2⟩ := inK_iff ei
      have hv : ∀ g w x, @VR J g w (.tup [v, .int .i64 n]) x → x = .tuple #[.int k (@evalSV J s + o), .int .i64 n] ∧ l ≤ @evalSV J s + o ∧ @evalSV J s + o ≤ u := by
        intro g w x hx
        simp only [VR, VRs] at hx
        obtain ⟨xs, rfl, y, l', hl, hy, z, l'', rfl, rfl, rfl⟩ := hx
        obtain ⟨rfl, h3, h4⟩ := @atS_ok J g w v y k s o l u hs hy
        refine ⟨?_, h3, h4⟩
        congr 1
        apply Array.toList_inj.1
        rw [hl]
      obtain ⟨hen, hcall⟩ := hc f args (nilH 0) _ h' hr
      have tb0 : ∀ w, @TbOk J (gE fun _ => False) w := fun w p hp => by rw [hJ] at hp; cases hp
      have fn : ∀ w, Calls P f vs.toArray w fun e w' => ∃ x, e = .returned x ∧ Keep w w' ∧ x = .tuple #[.int k (@evalSV J s + o), .int .i64 n] ∧ l ≤ @evalSV J s + o ∧ @evalSV J s + o ≤ u := fun w =>
        (hcall (gE fun _ => False) w vs (@hr_empty J _ _ (fun b i => i.elim) (tb0 w)) (ha _ _)).mono fun e w' ⟨x, g', h1, E, _, hx⟩ => ⟨x, h1, keep_of E, hv _ _ _ hx⟩
      by_cases hb : l ≤ @evalSV J s + o ∧ @evalSV J s + o ≤ u
      · refine ⟨@evalSV J s + o, by omega, by omega, hen, fun w _ => (fn w).mono ?_⟩
        rintro e w' ⟨x, rfl, K, rfl, _, _⟩
        exact ⟨rfl, K⟩
      · have h0 := zero_in k
        refine ⟨0, h0.1, h0.2, hen, fun w _ => (fn w).mono ?_⟩
        rintro e w' ⟨x, rfl, K, rfl, h3, h4⟩
        exact absurd ⟨h3, h4⟩ hb
    · cases e
  · cases e

/-- A number between bounds, or one. -/
noncomputable def rg (k : IntKind) (i : Nat) (lo hi : Int) : AV := bif eqI lo hi then .int k lo else .sym k (.var i) lo hi 0
theorem rg_ok {J : Io} {g : G} {w : World} {k : IntKind} {i : Nat} {lo hi x : Int} (h : J.io i = x) (h1 : lo ≤ x) (h2 : x ≤ hi) : @VR J g w (rg k i lo hi) (.int k x) := by
  unfold rg
  cases hb : eqI lo hi with
  | true =>
    have := eqI_iff.1 hb
    simp only [cond_true, VR]
    congr 1
    omega
  | false =>
    simp only [cond_false, VR, evalSV]
    rw [h]
    exact ⟨by rw [Int.add_zero], h1, h2⟩
end Go.Ab

namespace Go.Proofs
open Go.Ab
set_option maxRecDepth 1000000
noncomputable def Tryz.nC : CallF := aCall Tryz.fb.get 100 30
theorem Tryz.nC_ok (J : Io) : @CallOk J Tryz.prog Tryz.nC := @Tryz.ok J 100 30
theorem Tryz.two {k : IntKind} {f : FuncId} {op A B C D e : Int} (hk : isOk2 k e (Tryz.nC f [.int .i64 op, rg k 1 A B, rg k 2 C D] (nilH 0)) = true) {x y : Int} (h1 : A ≤ x) (h2 : x ≤ B) (h3 : C ≤ y) (h4 : y ≤ D) :
    ∃ z, loK k ≤ z ∧ z ≤ hiK k ∧ FnR Tryz.prog [] f [.int .i64 op, .int k x, .int k y] (.tuple #[.int k z, .int .i64 e]) :=
  ex2 ⟨fun i => match i with | 1 => x | _ => y, []⟩ rfl (Tryz.nC_ok _) hk fun g w => by
    simp only [VRs]
    exact ⟨_, _, rfl, by simp only [VR], _, _, rfl, rg_ok rfl h1 h2, _, _, rfl, rg_ok rfl h3 h4, rfl⟩
end Go.Proofs

namespace Go.Proofs
open Go.Ab
set_option maxRecDepth 1000000
def Tryz.AnsE (k : IntKind) (f : FuncId) (op : Int) (es : List Int) (x y : Int) : Prop :=
  ∃ e, e ∈ es ∧ ∃ z, loK k ≤ z ∧ z ≤ hiK k ∧ FnR Tryz.prog [] f [.int .i64 op, .int k x, .int k y] (.tuple #[.int k z, .int .i64 e])
theorem Tryz.sn6a {x y : Int} (hx : 0 ≤ x ∧ x ≤ 4294967295) (hy : 0 ≤ y ∧ y ≤ 4294967295) : Tryz.AnsE .u32 30 106 [0] x y := by
  have X : (0 ≤ x ∧ x ≤ 4294967295) := by omega
  have Y : (0 ≤ y ∧ y ≤ 4294967295) := by omega
  obtain ⟨a, b⟩ := X
  obtain ⟨c, d⟩ := Y
  exact ⟨0, by simp, Tryz.two (by kernel_rfl) a b c d⟩
theorem Tryz.sn6b {x y : Int} (hx : 0 ≤ x ∧ x ≤ 4294967295) (hy : 0 ≤ y ∧ y ≤ 4294967295) : Tryz.AnsE .u32 30 107 [0] x y := by
  have X : (0 ≤ x ∧ x ≤ 4294967295) := by omega
  have Y : (0 ≤ y ∧ y ≤ 4294967295) := by omega
  obtain ⟨a, b⟩ := X
  obtain ⟨c, d⟩ := Y
  exact ⟨0, by simp, Tryz.two (by kernel_rfl) a b c d⟩
theorem Tryz.sn6c {x y : Int} (hx : 0 ≤ x ∧ x ≤ 4294967295) (hy : 0 ≤ y ∧ y ≤ 4294967295) : Tryz.AnsE .u32 30 108 [0] x y := by
  have X : (0 ≤ x ∧ x ≤ 4294967295) := by omega
  have Y : (0 ≤ y ∧ y ≤ 4294967295) := by omega
  obtain ⟨a, b⟩ := X
  obtain ⟨c, d⟩ := Y
  exact ⟨0, by simp, Tryz.two (by kernel_rfl) a b c d⟩
theorem Tryz.sn6d {x y : Int} (hx : 0 ≤ x ∧ x ≤ 4294967295) (hy : 0 ≤ y ∧ y ≤ 4294967295) : Tryz.AnsE .u32 30 109 [0, 21, 22] x y := by
  have X : (0 ≤ x ∧ x ≤ 2147483647) ∨ (2147483648 ≤ x ∧ x ≤ 2147483648) ∨ (2147483649 ≤ x ∧ x ≤ 4294967295) := by omega
  have Y : (0 ≤ y ∧ y ≤ 0) ∨ (1 ≤ y ∧ y ≤ 2147483647) ∨ (2147483648 ≤ y ∧ y ≤ 4294967294) ∨ (4294967295 ≤ y ∧ y ≤ 4294967295) := by omega
  rcases X with ⟨a, b⟩ | ⟨a, b⟩ | ⟨a, b⟩
  · rcases Y with ⟨c, d⟩ | ⟨c, d⟩ | ⟨c, d⟩ | ⟨c, d⟩
    · exact ⟨21, by simp, Tryz.two (by kernel_rfl) a b c d⟩
    · exact ⟨0, by simp, Tryz.two (by kernel_rfl) a b c d⟩
    · exact ⟨0, by simp, Tryz.two (by kernel_rfl) a b c d⟩
    · exact ⟨0, by simp, Tryz.two (by kernel_rfl) a b c d⟩
  · rcases Y with ⟨c, d⟩ | ⟨c, d⟩ | ⟨c, d⟩ | ⟨c, d⟩
    · exact ⟨21, by simp, Tryz.two (by kernel_rfl) a b c d⟩
    · exact ⟨0, by simp, Tryz.two (by kernel_rfl) a b c d⟩
    · exact ⟨0, by simp, Tryz.two (by kernel_rfl) a b c d⟩
    · exact ⟨22, by simp, Tryz.two (by kernel_rfl) a b c d⟩
  · rcases Y with ⟨c, d⟩ | ⟨c, d⟩ | ⟨c, d⟩ | ⟨c, d⟩
    · exact ⟨21, by simp, Tryz.two (by kernel_rfl) a b c d⟩
    · exact ⟨0, by simp, Tryz.two (by kernel_rfl) a b c d⟩
    · exact ⟨0, by simp, Tryz.two (by kernel_rfl) a b c d⟩
    · exact ⟨0, by simp, Tryz.two (by kernel_rfl) a b c d⟩
theorem Tryz.sn6e {x y : Int} (hx : 0 ≤ x ∧ x ≤ 4294967295) (hy : 0 ≤ y ∧ y ≤ 4294967295) : Tryz.AnsE .u32 30 110 [0, 21] x y := by
  have X : (0 ≤ x ∧ x ≤ 4294967295) := by omega
  have Y : (0 ≤ y ∧ y ≤ 0) ∨ (1 ≤ y ∧ y ≤ 4294967295) := by omega
  obtain ⟨a, b⟩ := X
  rcases Y with ⟨c, d⟩ | ⟨c, d⟩
  · exact ⟨21, by simp, Tryz.two (by kernel_rfl) a b c d⟩
  · exact ⟨0, by simp, Tryz.two (by kernel_rfl) a b c d⟩
theorem Tryz.sn6f {x y : Int} (hx : 0 ≤ x ∧ x ≤ 4294967295) (hy : 0 ≤ y ∧ y ≤ 4294967295) : Tryz.AnsE .u32 30 111 [0, 21] x y := by
  have X : (0 ≤ x ∧ x ≤ 4294967295) := by omega
  have Y : (0 ≤ y ∧ y ≤ 0) ∨ (1 ≤ y ∧ y ≤ 2147483647) ∨ (2147483648 ≤ y ∧ y ≤ 4294967295) := by omega
  obtain ⟨a, b⟩ := X
  rcases Y with ⟨c, d⟩ | ⟨c, d⟩ | ⟨c, d⟩
  · exact ⟨21, by simp, Tryz.two (by kernel_rfl) a b c d⟩
  · exact ⟨0, by simp, Tryz.two (by kernel_rfl) a b c d⟩
  · exact ⟨0, by simp, Tryz.two (by kernel_rfl) a b c d⟩
theorem Tryz.sn70 {x y : Int} (hx : 0 ≤ x ∧ x ≤ 4294967295) (hy : 0 ≤ y ∧ y ≤ 4294967295) : Tryz.AnsE .u32 30 112 [0, 21] x y := by
  have X : (0 ≤ x ∧ x ≤ 4294967295) := by omega
  have Y : (0 ≤ y ∧ y ≤ 0) ∨ (1 ≤ y ∧ y ≤ 4294967295) := by omega
  obtain ⟨a, b⟩ := X
  rcases Y with ⟨c, d⟩ | ⟨c, d⟩
  · exact ⟨21, by simp, Tryz.two (by kernel_rfl) a b c d⟩
  · exact ⟨0, by simp, Tryz.two (by kernel_rfl) a b c d⟩
theorem Tryz.sn71 {x y : Int} (hx : 0 ≤ x ∧ x ≤ 4294967295) (hy : 0 ≤ y ∧ y ≤ 4294967295) : Tryz.AnsE .u32 30 113 [0] x y := by
  have X : (0 ≤ x ∧ x ≤ 4294967295) := by omega
  have Y : (0 ≤ y ∧ y ≤ 4294967295) := by omega
  obtain ⟨a, b⟩ := X
  obtain ⟨c, d⟩ := Y
  exact ⟨0, by simp, Tryz.two (by kernel_rfl) a b c d⟩
theorem Tryz.sn72 {x y : Int} (hx : 0 ≤ x ∧ x ≤ 4294967295) (hy : 0 ≤ y ∧ y ≤ 4294967295) : Tryz.AnsE .u32 30 114 [0] x y := by
  have X : (0 ≤ x ∧ x ≤ 4294967295) := by omega
  have Y : (0 ≤ y ∧ y ≤ 4294967295) := by omega
  obtain ⟨a, b⟩ := X
  obtain ⟨c, d⟩ := Y
  exact ⟨0, by simp, Tryz.two (by kernel_rfl) a b c d⟩
theorem Tryz.sn73 {x y : Int} (hx : 0 ≤ x ∧ x ≤ 4294967295) (hy : 0 ≤ y ∧ y ≤ 4294967295) : Tryz.AnsE .u32 30 115 [0] x y := by
  have X : (0 ≤ x ∧ x ≤ 4294967295) := by omega
  have Y : (0 ≤ y ∧ y ≤ 4294967295) := by omega
  obtain ⟨a, b⟩ := X
  obtain ⟨c, d⟩ := Y
  exact ⟨0, by simp, Tryz.two (by kernel_rfl) a b c d⟩
theorem Tryz.sn74 {x y : Int} (hx : 0 ≤ x ∧ x ≤ 4294967295) (hy : 0 ≤ y ∧ y ≤ 4294967295) : Tryz.AnsE .u32 30 116 [0] x y := by
  have X : (0 ≤ x ∧ x ≤ 4294967295) := by omega
  have Y : (0 ≤ y ∧ y ≤ 4294967295) := by omega
  obtain ⟨a, b⟩ := X
  obtain ⟨c, d⟩ := Y
  exact ⟨0, by simp, Tryz.two (by kernel_rfl) a b c d⟩
theorem Tryz.sn75 {x y : Int} (hx : 0 ≤ x ∧ x ≤ 4294967295) (hy : 0 ≤ y ∧ y ≤ 4294967295) : Tryz.AnsE .u32 30 117 [0] x y := by
  have X : (0 ≤ x ∧ x ≤ 4294967295) := by omega
  have Y : (0 ≤ y ∧ y ≤ 4294967295) := by omega
  obtain ⟨a, b⟩ := X
  obtain ⟨c, d⟩ := Y
  exact ⟨0, by simp, Tryz.two (by kernel_rfl) a b c d⟩
theorem Tryz.sn76 {x y : Int} (hx : 0 ≤ x ∧ x ≤ 4294967295) (hy : 0 ≤ y ∧ y ≤ 4294967295) : Tryz.AnsE .u32 30 118 [0] x y := by
  have X : (0 ≤ x ∧ x ≤ 4294967295) := by omega
  have Y : (0 ≤ y ∧ y ≤ 4294967295) := by omega
  obtain ⟨a, b⟩ := X
  obtain ⟨c, d⟩ := Y
  exact ⟨0, by simp, Tryz.two (by kernel_rfl) a b c d⟩
theorem Tryz.sn77 {x y : Int} (hx : 0 ≤ x ∧ x ≤ 4294967295) (hy : 0 ≤ y ∧ y ≤ 4294967295) : Tryz.AnsE .u32 30 119 [0] x y := by
  have X : (0 ≤ x ∧ x ≤ 4294967295) := by omega
  have Y : (0 ≤ y ∧ y ≤ 4294967295) := by omega
  obtain ⟨a, b⟩ := X
  obtain ⟨c, d⟩ := Y
  exact ⟨0, by simp, Tryz.two (by kernel_rfl) a b c d⟩
theorem Tryz.sn78 {x y : Int} (hx : 0 ≤ x ∧ x ≤ 4294967295) (hy : 0 ≤ y ∧ y ≤ 4294967295) : Tryz.AnsE .u32 30 120 [0] x y := by
  have X : (0 ≤ x ∧ x ≤ 4294967295) := by omega
  have Y : (0 ≤ y ∧ y ≤ 4294967295) := by omega
  obtain ⟨a, b⟩ := X
  obtain ⟨c, d⟩ := Y
  exact ⟨0, by simp, Tryz.two (by kernel_rfl) a b c d⟩
theorem Tryz.gs7c {x y : Int} (hx : 0 ≤ x ∧ x ≤ 18446744073709551615) (hy : 0 ≤ y ∧ y ≤ 18446744073709551615) : Tryz.AnsE .u64 31 124 [0] x y := by
  have X : (0 ≤ x ∧ x ≤ 18446744073709551615) := by omega
  have Y : (0 ≤ y ∧ y ≤ 18446744073709551615) := by omega
  obtain ⟨a, b⟩ := X
  obtain ⟨c, d⟩ := Y
  exact ⟨0, by simp, Tryz.two (by kernel_rfl) a b c d⟩
theorem Tryz.gs7d {x y : Int} (hx : 0 ≤ x ∧ x ≤ 18446744073709551615) (hy : 0 ≤ y ∧ y ≤ 18446744073709551615) : Tryz.AnsE .u64 31 125 [0] x y := by
  have X : (0 ≤ x ∧ x ≤ 18446744073709551615) := by omega
  have Y : (0 ≤ y ∧ y ≤ 18446744073709551615) := by omega
  obtain ⟨a, b⟩ := X
  obtain ⟨c, d⟩ := Y
  exact ⟨0, by simp, Tryz.two (by kernel_rfl) a b c d⟩
theorem Tryz.gs7e {x y : Int} (hx : 0 ≤ x ∧ x ≤ 18446744073709551615) (hy : 0 ≤ y ∧ y ≤ 18446744073709551615) : Tryz.AnsE .u64 31 126 [0] x y := by
  have X : (0 ≤ x ∧ x ≤ 18446744073709551615) := by omega
  have Y : (0 ≤ y ∧ y ≤ 18446744073709551615) := by omega
  obtain ⟨a, b⟩ := X
  obtain ⟨c, d⟩ := Y
  exact ⟨0, by simp, Tryz.two (by kernel_rfl) a b c d⟩
theorem Tryz.gs7f {x y : Int} (hx : 0 ≤ x ∧ x ≤ 18446744073709551615) (hy : 0 ≤ y ∧ y ≤ 18446744073709551615) : Tryz.AnsE .u64 31 127 [0, 21, 22] x y := by
  have X : (0 ≤ x ∧ x ≤ 9223372036854775807) ∨ (9223372036854775808 ≤ x ∧ x ≤ 9223372036854775808) ∨ (9223372036854775809 ≤ x ∧ x ≤ 18446744073709551615) := by omega
  have Y : (0 ≤ y ∧ y ≤ 0) ∨ (1 ≤ y ∧ y ≤ 9223372036854775807) ∨ (9223372036854775808 ≤ y ∧ y ≤ 18446744073709551614) ∨ (18446744073709551615 ≤ y ∧ y ≤ 18446744073709551615) := by omega
  rcases X with ⟨a, b⟩ | ⟨a, b⟩ | ⟨a, b⟩
  · rcases Y with ⟨c, d⟩ | ⟨c, d⟩ | ⟨c, d⟩ | ⟨c, d⟩
    · exact ⟨21, by simp, Tryz.two (by kernel_rfl) a b c d⟩
    · exact ⟨0, by simp, Tryz.two (by kernel_rfl) a b c d⟩
    · exact ⟨0, by simp, Tryz.two (by kernel_rfl) a b c d⟩
    · exact ⟨0, by simp, Tryz.two (by kernel_rfl) a b c d⟩
  · rcases Y with ⟨c, d⟩ | ⟨c, d⟩ | ⟨c, d⟩ | ⟨c, d⟩
    · exact ⟨21, by simp, Tryz.two (by kernel_rfl) a b c d⟩
    · exact ⟨0, by simp, Tryz.two (by kernel_rfl) a b c d⟩
    · exact ⟨0, by simp, Tryz.two (by kernel_rfl) a b c d⟩
    · exact ⟨22, by simp, Tryz.two (by kernel_rfl) a b c d⟩
  · rcases Y with ⟨c, d⟩ | ⟨c, d⟩ | ⟨c, d⟩ | ⟨c, d⟩
    · exact ⟨21, by simp, Tryz.two (by kernel_rfl) a b c d⟩
    · exact ⟨0, by simp, Tryz.two (by kernel_rfl) a b c d⟩
    · exact ⟨0, by simp, Tryz.two (by kernel_rfl) a b c d⟩
    · exact ⟨0, by simp, Tryz.two (by kernel_rfl) a b c d⟩
theorem Tryz.gs80 {x y : Int} (hx : 0 ≤ x ∧ x ≤ 18446744073709551615) (hy : 0 ≤ y ∧ y ≤ 18446744073709551615) : Tryz.AnsE .u64 31 128 [0, 21] x y := by
  have X : (0 ≤ x ∧ x ≤ 18446744073709551615) := by omega
  have Y : (0 ≤ y ∧ y ≤ 0) ∨ (1 ≤ y ∧ y ≤ 18446744073709551615) := by omega
  obtain ⟨a, b⟩ := X
  rcases Y with ⟨c, d⟩ | ⟨c, d⟩
  · exact ⟨21, by simp, Tryz.two (by kernel_rfl) a b c d⟩
  · exact ⟨0, by simp, Tryz.two (by kernel_rfl) a b c d⟩
theorem Tryz.gs81 {x y : Int} (hx : 0 ≤ x ∧ x ≤ 18446744073709551615) (hy : 0 ≤ y ∧ y ≤ 18446744073709551615) : Tryz.AnsE .u64 31 129 [0, 21] x y := by
  have X : (0 ≤ x ∧ x ≤ 18446744073709551615) := by omega
  have Y : (0 ≤ y ∧ y ≤ 0) ∨ (1 ≤ y ∧ y ≤ 9223372036854775807) ∨ (9223372036854775808 ≤ y ∧ y ≤ 18446744073709551614) ∨ (18446744073709551615 ≤ y ∧ y ≤ 18446744073709551615) := by omega
  obtain ⟨a, b⟩ := X
  rcases Y with ⟨c, d⟩ | ⟨c, d⟩ | ⟨c, d⟩ | ⟨c, d⟩
  · exact ⟨21, by simp, Tryz.two (by kernel_rfl) a b c d⟩
  · exact ⟨0, by simp, Tryz.two (by kernel_rfl) a b c d⟩
  · exact ⟨0, by simp, Tryz.two (by kernel_rfl) a b c d⟩
  · exact ⟨0, by simp, Tryz.two (by kernel_rfl) a b c d⟩
theorem Tryz.gs82 {x y : Int} (hx : 0 ≤ x ∧ x ≤ 18446744073709551615) (hy : 0 ≤ y ∧ y ≤ 18446744073709551615) : Tryz.AnsE .u64 31 130 [0, 21] x y := by
  have X : (0 ≤ x ∧ x ≤ 18446744073709551615) := by omega
  have Y : (0 ≤ y ∧ y ≤ 0) ∨ (1 ≤ y ∧ y ≤ 18446744073709551615) := by omega
  obtain ⟨a, b⟩ := X
  rcases Y with ⟨c, d⟩ | ⟨c, d⟩
  · exact ⟨21, by simp, Tryz.two (by kernel_rfl) a b c d⟩
  · exact ⟨0, by simp, Tryz.two (by kernel_rfl) a b c d⟩
theorem Tryz.gs83 {x y : Int} (hx : 0 ≤ x ∧ x ≤ 18446744073709551615) (hy : 0 ≤ y ∧ y ≤ 18446744073709551615) : Tryz.AnsE .u64 31 131 [0] x y := by
  have X : (0 ≤ x ∧ x ≤ 18446744073709551615) := by omega
  have Y : (0 ≤ y ∧ y ≤ 18446744073709551615) := by omega
  obtain ⟨a, b⟩ := X
  obtain ⟨c, d⟩ := Y
  exact ⟨0, by simp, Tryz.two (by kernel_rfl) a b c d⟩
theorem Tryz.gs84 {x y : Int} (hx : 0 ≤ x ∧ x ≤ 18446744073709551615) (hy : 0 ≤ y ∧ y ≤ 18446744073709551615) : Tryz.AnsE .u64 31 132 [0] x y := by
  have X : (0 ≤ x ∧ x ≤ 18446744073709551615) := by omega
  have Y : (0 ≤ y ∧ y ≤ 18446744073709551615) := by omega
  obtain ⟨a, b⟩ := X
  obtain ⟨c, d⟩ := Y
  exact ⟨0, by simp, Tryz.two (by kernel_rfl) a b c d⟩
theorem Tryz.gs85 {x y : Int} (hx : 0 ≤ x ∧ x ≤ 18446744073709551615) (hy : 0 ≤ y ∧ y ≤ 18446744073709551615) : Tryz.AnsE .u64 31 133 [0] x y := by
  have X : (0 ≤ x ∧ x ≤ 18446744073709551615) := by omega
  have Y : (0 ≤ y ∧ y ≤ 18446744073709551615) := by omega
  obtain ⟨a, b⟩ := X
  obtain ⟨c, d⟩ := Y
  exact ⟨0, by simp, Tryz.two (by kernel_rfl) a b c d⟩
theorem Tryz.gs86 {x y : Int} (hx : 0 ≤ x ∧ x ≤ 18446744073709551615) (hy : 0 ≤ y ∧ y ≤ 18446744073709551615) : Tryz.AnsE .u64 31 134 [0] x y := by
  have X : (0 ≤ x ∧ x ≤ 18446744073709551615) := by omega
  have Y : (0 ≤ y ∧ y ≤ 18446744073709551615) := by omega
  obtain ⟨a, b⟩ := X
  obtain ⟨c, d⟩ := Y
  exact ⟨0, by simp, Tryz.two (by kernel_rfl) a b c d⟩
theorem Tryz.gs87 {x y : Int} (hx : 0 ≤ x ∧ x ≤ 18446744073709551615) (hy : 0 ≤ y ∧ y ≤ 18446744073709551615) : Tryz.AnsE .u64 31 135 [0] x y := by
  have X : (0 ≤ x ∧ x ≤ 18446744073709551615) := by omega
  have Y : (0 ≤ y ∧ y ≤ 18446744073709551615) := by omega
  obtain ⟨a, b⟩ := X
  obtain ⟨c, d⟩ := Y
  exact ⟨0, by simp, Tryz.two (by kernel_rfl) a b c d⟩
theorem Tryz.gs88 {x y : Int} (hx : 0 ≤ x ∧ x ≤ 18446744073709551615) (hy : 0 ≤ y ∧ y ≤ 18446744073709551615) : Tryz.AnsE .u64 31 136 [0] x y := by
  have X : (0 ≤ x ∧ x ≤ 18446744073709551615) := by omega
  have Y : (0 ≤ y ∧ y ≤ 18446744073709551615) := by omega
  obtain ⟨a, b⟩ := X
  obtain ⟨c, d⟩ := Y
  exact ⟨0, by simp, Tryz.two (by kernel_rfl) a b c d⟩
theorem Tryz.gs89 {x y : Int} (hx : 0 ≤ x ∧ x ≤ 18446744073709551615) (hy : 0 ≤ y ∧ y ≤ 18446744073709551615) : Tryz.AnsE .u64 31 137 [0] x y := by
  have X : (0 ≤ x ∧ x ≤ 18446744073709551615) := by omega
  have Y : (0 ≤ y ∧ y ≤ 18446744073709551615) := by omega
  obtain ⟨a, b⟩ := X
  obtain ⟨c, d⟩ := Y
  exact ⟨0, by simp, Tryz.two (by kernel_rfl) a b c d⟩
theorem Tryz.gs8a {x y : Int} (hx : 0 ≤ x ∧ x ≤ 18446744073709551615) (hy : 0 ≤ y ∧ y ≤ 18446744073709551615) : Tryz.AnsE .u64 31 138 [0] x y := by
  have X : (0 ≤ x ∧ x ≤ 18446744073709551615) := by omega
  have Y : (0 ≤ y ∧ y ≤ 18446744073709551615) := by omega
  obtain ⟨a, b⟩ := X
  obtain ⟨c, d⟩ := Y
  exact ⟨0, by simp, Tryz.two (by kernel_rfl) a b c d⟩
noncomputable def isV (v : AV) (r : Ro) : Bool := match r with
  | .ok v' _ => eqA v v'
  | .bad => false
theorem exV {P : Program} {call : CallF} (J : Io) (hJ : J.tb = []) (hc : @CallOk J P call) {f : FuncId} {args : List AV} {vs : List Value} {v : AV} {r : Value} (e : isV v (call f args (nilH 0)) = true)
    (ha : ∀ g w, @VRs J g w args vs) (hv : ∀ g w x, @VR J g w v x → x = r) : FnR P [] f vs r := by
  unfold isV at e
  split at e
  · rename_i v' h' hr
    obtain rfl := eqA_iff _ _ e
    obtain ⟨hen, hcall⟩ := hc f args (nilH 0) v h' hr
    have tb0 : ∀ w, @TbOk J (gE fun _ => False) w := fun w p hp => by rw [hJ] at hp; cases hp
    exact ⟨hen, fun w _ => (hcall (gE fun _ => False) w vs (@hr_empty J _ _ (fun b i => i.elim) (tb0 w)) (ha _ _)).mono fun e w' ⟨x, g', h1, E, _, hx⟩ => ⟨by rw [h1, hv _ _ _ hx], keep_of E⟩⟩
  · cases e
theorem Tryz.v45 {A B z : Int} (hk : isV (.tup [.int .u64 z, .int .i64 0]) (Tryz.nC 9 [.int .i64 69, .sym .u64 (.pr 5 A B 6) 0 18446744073709551615 0] (nilH 0)) = true) {x : Int} (hx : 0 ≤ x ∧ x ≤ 18446744073709551615) (h1 : A ≤ x % 4294967296) (h2 : x % 4294967296 ≤ B) :
    FnR Tryz.prog [] 9 [.int .i64 69, .int .u64 x] (.tuple #[.int .u64 z, .int .i64 0]) :=
  exV ⟨fun i => match i with | 5 => x % 4294967296 | _ => x / 4294967296, []⟩ rfl (Tryz.nC_ok _) hk (fun g w => by
    have e0 : clamp A B (x % 4294967296) = x % 4294967296 := by unfold clamp; rw [if_neg (by omega), if_neg (by omega)]
    have e : clamp A B (x % 4294967296) + 4294967296 * (x / 4294967296) = x := by rw [e0]; omega
    simp only [VRs, VR, evalSV, e]
    exact ⟨_, _, rfl, rfl, _, _, rfl, ⟨by rw [Int.add_zero], hx.1, hx.2⟩, rfl⟩) (fun g w x hx => by
    simp only [VR, VRs] at hx
    obtain ⟨xs, rfl, y, l', hl, rfl, z, l'', rfl, rfl, rfl⟩ := hx
    congr 1
    apply Array.toList_inj.1
    rw [hl])
theorem Tryz.u45z {x : Int} (hx : 0 ≤ x ∧ x ≤ 18446744073709551615) (h : x % 4294967296 = 0) : FnR Tryz.prog [] 9 [.int .i64 69, .int .u64 x] (.tuple #[.int .u64 1, .int .i64 0]) :=
  Tryz.v45 (A := 0) (B := 0) (by kernel_rfl) hx (by omega) (by omega)
theorem Tryz.u45n {x : Int} (hx : 0 ≤ x ∧ x ≤ 18446744073709551615) (h : 1 ≤ x % 4294967296) : FnR Tryz.prog [] 9 [.int .i64 69, .int .u64 x] (.tuple #[.int .u64 0, .int .i64 0]) :=
  Tryz.v45 (A := 1) (B := 4294967295) (by kernel_rfl) hx h (by omega)
end Go.Proofs

namespace Go.Proofs
open Go.Ab
set_option maxRecDepth 1000000
/-- compare's answer: at every two numbers. -/
def Tryz.CAns (k x y : Int) : Prop := ∃ z, loK .u64 ≤ z ∧ z ≤ hiK .u64 ∧ FnR Tryz.prog [] 29 [.int .i64 k, .int .i64 x, .int .i64 y] (.int .u64 z)
theorem Tryz.cEq {k x : Int} {A B : Int} (hk : isOk1 .u64 (Tryz.nC 29 [.int .i64 k, .sym .i64 (.var 1) A B 0, .sym .i64 (.var 1) A B 0] (nilH 0)) = true) (h1 : A ≤ x) (h2 : x ≤ B) : Tryz.CAns k x x :=
  ex1 ⟨fun _ => x, []⟩ rfl (Tryz.nC_ok _) hk fun g w => by
    simp only [VRs, VR, evalSV]
    exact ⟨_, _, rfl, rfl, _, _, rfl, ⟨by rw [Int.add_zero], h1, h2⟩, _, _, rfl, ⟨by rw [Int.add_zero], h1, h2⟩, rfl⟩
theorem Tryz.clampE {l h x : Int} (h1 : l ≤ x) (h2 : x ≤ h) : clamp l h x = x := by unfold clamp; rw [if_neg (by omega), if_neg (by omega)]
theorem Tryz.cLt {k x y : Int} {A B C D E : Int} (hk : isOk1 .u64 (Tryz.nC 29 [.int .i64 k, .sym .i64 (.var 1) A B 0, .sym .i64 (.ad 1 2 1 E) C D 0] (nilH 0)) = true) (h1 : A ≤ x) (h2 : x ≤ B) (h3 : C ≤ y) (h4 : y ≤ D) (h5 : x < y) (h6 : y - x ≤ E) : Tryz.CAns k x y :=
  ex1 ⟨fun i => match i with | 1 => x | _ => y - x, []⟩ rfl (Tryz.nC_ok _) hk fun g w => by
    have e : clamp 1 E (y - x) = y - x := Tryz.clampE (by omega) h6
    have e2 : x + (y - x) = y := by omega
    simp only [VRs, VR, evalSV, e, e2]
    exact ⟨_, _, rfl, rfl, _, _, rfl, ⟨by rw [Int.add_zero], h1, h2⟩, _, _, rfl, ⟨by rw [Int.add_zero], h3, h4⟩, rfl⟩
theorem Tryz.cGt {k x y : Int} {A B C D E : Int} (hk : isOk1 .u64 (Tryz.nC 29 [.int .i64 k, .sym .i64 (.ad 1 2 1 E) A B 0, .sym .i64 (.var 1) C D 0] (nilH 0)) = true) (h1 : A ≤ x) (h2 : x ≤ B) (h3 : C ≤ y) (h4 : y ≤ D) (h5 : y < x) (h6 : x - y ≤ E) : Tryz.CAns k x y :=
  ex1 ⟨fun i => match i with | 1 => y | _ => x - y, []⟩ rfl (Tryz.nC_ok _) hk fun g w => by
    have e : clamp 1 E (x - y) = x - y := Tryz.clampE (by omega) h6
    have e2 : y + (x - y) = x := by omega
    simp only [VRs, VR, evalSV, e, e2]
    exact ⟨_, _, rfl, rfl, _, _, rfl, ⟨by rw [Int.add_zero], h1, h2⟩, _, _, rfl, ⟨by rw [Int.add_zero], h3, h4⟩, rfl⟩
theorem Tryz.cm0 {x y : Int} (hx : -9223372036854775808 ≤ x ∧ x ≤ 9223372036854775807) (hy : -9223372036854775808 ≤ y ∧ y ≤ 9223372036854775807) : Tryz.CAns 0 x y := by
  rcases (by omega : x = y ∨ (x < y ∧ 0 ≤ x) ∨ (x < y ∧ y < 0) ∨ (x < y ∧ x < 0 ∧ 0 ≤ y) ∨ (y < x ∧ 0 ≤ y) ∨ (y < x ∧ x < 0) ∨ (y < x ∧ y < 0 ∧ 0 ≤ x)) with h | ⟨h, a⟩ | ⟨h, a⟩ | ⟨h, a, b⟩ | ⟨h, a⟩ | ⟨h, a⟩ | ⟨h, a, b⟩
  · subst h
    exact Tryz.cEq (A := -9223372036854775808) (B := 9223372036854775807) (by kernel_rfl) hx.1 hx.2
  · exact Tryz.cLt (A := 0) (B := 9223372036854775806) (C := 1) (D := 9223372036854775807) (E := 9223372036854775807) (by kernel_rfl) (by omega) (by omega) (by omega) (by omega) h (by omega)
  · exact Tryz.cLt (A := -9223372036854775808) (B := -2) (C := -9223372036854775807) (D := -1) (E := 9223372036854775807) (by kernel_rfl) (by omega) (by omega) (by omega) (by omega) h (by omega)
  · exact Tryz.cLt (A := -9223372036854775808) (B := -1) (C := 0) (D := 9223372036854775807) (E := 18446744073709551615) (by kernel_rfl) (by omega) (by omega) (by omega) (by omega) h (by omega)
  · exact Tryz.cGt (A := 1) (B := 9223372036854775807) (C := 0) (D := 9223372036854775806) (E := 9223372036854775807) (by kernel_rfl) (by omega) (by omega) (by omega) (by omega) h (by omega)
  · exact Tryz.cGt (A := -9223372036854775807) (B := -1) (C := -9223372036854775808) (D := -2) (E := 9223372036854775807) (by kernel_rfl) (by omega) (by omega) (by omega) (by omega) h (by omega)
  · exact Tryz.cGt (A := 0) (B := 9223372036854775807) (C := -9223372036854775808) (D := -1) (E := 18446744073709551615) (by kernel_rfl) (by omega) (by omega) (by omega) (by omega) h (by omega)
theorem Tryz.cm1 {x y : Int} (hx : -9223372036854775808 ≤ x ∧ x ≤ 9223372036854775807) (hy : -9223372036854775808 ≤ y ∧ y ≤ 9223372036854775807) : Tryz.CAns 1 x y := by
  rcases (by omega : x = y ∨ (x < y ∧ 0 ≤ x) ∨ (x < y ∧ y < 0) ∨ (x < y ∧ x < 0 ∧ 0 ≤ y) ∨ (y < x ∧ 0 ≤ y) ∨ (y < x ∧ x < 0) ∨ (y < x ∧ y < 0 ∧ 0 ≤ x)) with h | ⟨h, a⟩ | ⟨h, a⟩ | ⟨h, a, b⟩ | ⟨h, a⟩ | ⟨h, a⟩ | ⟨h, a, b⟩
  · subst h
    exact Tryz.cEq (A := -9223372036854775808) (B := 9223372036854775807) (by kernel_rfl) hx.1 hx.2
  · exact Tryz.cLt (A := 0) (B := 9223372036854775806) (C := 1) (D := 9223372036854775807) (E := 9223372036854775807) (by kernel_rfl) (by omega) (by omega) (by omega) (by omega) h (by omega)
  · exact Tryz.cLt (A := -9223372036854775808) (B := -2) (C := -9223372036854775807) (D := -1) (E := 9223372036854775807) (by kernel_rfl) (by omega) (by omega) (by omega) (by omega) h (by omega)
  · exact Tryz.cLt (A := -9223372036854775808) (B := -1) (C := 0) (D := 9223372036854775807) (E := 18446744073709551615) (by kernel_rfl) (by omega) (by omega) (by omega) (by omega) h (by omega)
  · exact Tryz.cGt (A := 1) (B := 9223372036854775807) (C := 0) (D := 9223372036854775806) (E := 9223372036854775807) (by kernel_rfl) (by omega) (by omega) (by omega) (by omega) h (by omega)
  · exact Tryz.cGt (A := -9223372036854775807) (B := -1) (C := -9223372036854775808) (D := -2) (E := 9223372036854775807) (by kernel_rfl) (by omega) (by omega) (by omega) (by omega) h (by omega)
  · exact Tryz.cGt (A := 0) (B := 9223372036854775807) (C := -9223372036854775808) (D := -1) (E := 18446744073709551615) (by kernel_rfl) (by omega) (by omega) (by omega) (by omega) h (by omega)
theorem Tryz.cm2 {x y : Int} (hx : -9223372036854775808 ≤ x ∧ x ≤ 9223372036854775807) (hy : -9223372036854775808 ≤ y ∧ y ≤ 9223372036854775807) : Tryz.CAns 2 x y := by
  rcases (by omega : x = y ∨ (x < y ∧ 0 ≤ x) ∨ (x < y ∧ y < 0) ∨ (x < y ∧ x < 0 ∧ 0 ≤ y) ∨ (y < x ∧ 0 ≤ y) ∨ (y < x ∧ x < 0) ∨ (y < x ∧ y < 0 ∧ 0 ≤ x)) with h | ⟨h, a⟩ | ⟨h, a⟩ | ⟨h, a, b⟩ | ⟨h, a⟩ | ⟨h, a⟩ | ⟨h, a, b⟩
  · subst h
    exact Tryz.cEq (A := -9223372036854775808) (B := 9223372036854775807) (by kernel_rfl) hx.1 hx.2
  · exact Tryz.cLt (A := 0) (B := 9223372036854775806) (C := 1) (D := 9223372036854775807) (E := 9223372036854775807) (by kernel_rfl) (by omega) (by omega) (by omega) (by omega) h (by omega)
  · exact Tryz.cLt (A := -9223372036854775808) (B := -2) (C := -9223372036854775807) (D := -1) (E := 9223372036854775807) (by kernel_rfl) (by omega) (by omega) (by omega) (by omega) h (by omega)
  · exact Tryz.cLt (A := -9223372036854775808) (B := -1) (C := 0) (D := 9223372036854775807) (E := 18446744073709551615) (by kernel_rfl) (by omega) (by omega) (by omega) (by omega) h (by omega)
  · exact Tryz.cGt (A := 1) (B := 9223372036854775807) (C := 0) (D := 9223372036854775806) (E := 9223372036854775807) (by kernel_rfl) (by omega) (by omega) (by omega) (by omega) h (by omega)
  · exact Tryz.cGt (A := -9223372036854775807) (B := -1) (C := -9223372036854775808) (D := -2) (E := 9223372036854775807) (by kernel_rfl) (by omega) (by omega) (by omega) (by omega) h (by omega)
  · exact Tryz.cGt (A := 0) (B := 9223372036854775807) (C := -9223372036854775808) (D := -1) (E := 18446744073709551615) (by kernel_rfl) (by omega) (by omega) (by omega) (by omega) h (by omega)
theorem Tryz.cm3 {x y : Int} (hx : -9223372036854775808 ≤ x ∧ x ≤ 9223372036854775807) (hy : -9223372036854775808 ≤ y ∧ y ≤ 9223372036854775807) : Tryz.CAns 3 x y := by
  rcases (by omega : x = y ∨ (x < y ∧ 0 ≤ x) ∨ (x < y ∧ y < 0) ∨ (x < y ∧ x < 0 ∧ 0 ≤ y) ∨ (y < x ∧ 0 ≤ y) ∨ (y < x ∧ x < 0) ∨ (y < x ∧ y < 0 ∧ 0 ≤ x)) with h | ⟨h, a⟩ | ⟨h, a⟩ | ⟨h, a, b⟩ | ⟨h, a⟩ | ⟨h, a⟩ | ⟨h, a, b⟩
  · subst h
    exact Tryz.cEq (A := -9223372036854775808) (B := 9223372036854775807) (by kernel_rfl) hx.1 hx.2
  · exact Tryz.cLt (A := 0) (B := 9223372036854775806) (C := 1) (D := 9223372036854775807) (E := 9223372036854775807) (by kernel_rfl) (by omega) (by omega) (by omega) (by omega) h (by omega)
  · exact Tryz.cLt (A := -9223372036854775808) (B := -2) (C := -9223372036854775807) (D := -1) (E := 9223372036854775807) (by kernel_rfl) (by omega) (by omega) (by omega) (by omega) h (by omega)
  · exact Tryz.cLt (A := -9223372036854775808) (B := -1) (C := 0) (D := 9223372036854775807) (E := 18446744073709551615) (by kernel_rfl) (by omega) (by omega) (by omega) (by omega) h (by omega)
  · exact Tryz.cGt (A := 1) (B := 9223372036854775807) (C := 0) (D := 9223372036854775806) (E := 9223372036854775807) (by kernel_rfl) (by omega) (by omega) (by omega) (by omega) h (by omega)
  · exact Tryz.cGt (A := -9223372036854775807) (B := -1) (C := -9223372036854775808) (D := -2) (E := 9223372036854775807) (by kernel_rfl) (by omega) (by omega) (by omega) (by omega) h (by omega)
  · exact Tryz.cGt (A := 0) (B := 9223372036854775807) (C := -9223372036854775808) (D := -1) (E := 18446744073709551615) (by kernel_rfl) (by omega) (by omega) (by omega) (by omega) h (by omega)
theorem Tryz.cm4 {x y : Int} (hx : -9223372036854775808 ≤ x ∧ x ≤ 9223372036854775807) (hy : -9223372036854775808 ≤ y ∧ y ≤ 9223372036854775807) : Tryz.CAns 4 x y := by
  rcases (by omega : x = y ∨ (x < y ∧ 0 ≤ x) ∨ (x < y ∧ y < 0) ∨ (x < y ∧ x < 0 ∧ 0 ≤ y) ∨ (y < x ∧ 0 ≤ y) ∨ (y < x ∧ x < 0) ∨ (y < x ∧ y < 0 ∧ 0 ≤ x)) with h | ⟨h, a⟩ | ⟨h, a⟩ | ⟨h, a, b⟩ | ⟨h, a⟩ | ⟨h, a⟩ | ⟨h, a, b⟩
  · subst h
    exact Tryz.cEq (A := -9223372036854775808) (B := 9223372036854775807) (by kernel_rfl) hx.1 hx.2
  · exact Tryz.cLt (A := 0) (B := 9223372036854775806) (C := 1) (D := 9223372036854775807) (E := 9223372036854775807) (by kernel_rfl) (by omega) (by omega) (by omega) (by omega) h (by omega)
  · exact Tryz.cLt (A := -9223372036854775808) (B := -2) (C := -9223372036854775807) (D := -1) (E := 9223372036854775807) (by kernel_rfl) (by omega) (by omega) (by omega) (by omega) h (by omega)
  · exact Tryz.cLt (A := -9223372036854775808) (B := -1) (C := 0) (D := 9223372036854775807) (E := 18446744073709551615) (by kernel_rfl) (by omega) (by omega) (by omega) (by omega) h (by omega)
  · exact Tryz.cGt (A := 1) (B := 9223372036854775807) (C := 0) (D := 9223372036854775806) (E := 9223372036854775807) (by kernel_rfl) (by omega) (by omega) (by omega) (by omega) h (by omega)
  · exact Tryz.cGt (A := -9223372036854775807) (B := -1) (C := -9223372036854775808) (D := -2) (E := 9223372036854775807) (by kernel_rfl) (by omega) (by omega) (by omega) (by omega) h (by omega)
  · exact Tryz.cGt (A := 0) (B := 9223372036854775807) (C := -9223372036854775808) (D := -1) (E := 18446744073709551615) (by kernel_rfl) (by omega) (by omega) (by omega) (by omega) h (by omega)
theorem Tryz.cm5 {x y : Int} (hx : -9223372036854775808 ≤ x ∧ x ≤ 9223372036854775807) (hy : -9223372036854775808 ≤ y ∧ y ≤ 9223372036854775807) : Tryz.CAns 5 x y := by
  rcases (by omega : x = y ∨ (x < y ∧ 0 ≤ x) ∨ (x < y ∧ y < 0) ∨ (x < y ∧ x < 0 ∧ 0 ≤ y) ∨ (y < x ∧ 0 ≤ y) ∨ (y < x ∧ x < 0) ∨ (y < x ∧ y < 0 ∧ 0 ≤ x)) with h | ⟨h, a⟩ | ⟨h, a⟩ | ⟨h, a, b⟩ | ⟨h, a⟩ | ⟨h, a⟩ | ⟨h, a, b⟩
  · subst h
    exact Tryz.cEq (A := -9223372036854775808) (B := 9223372036854775807) (by kernel_rfl) hx.1 hx.2
  · exact Tryz.cLt (A := 0) (B := 9223372036854775806) (C := 1) (D := 9223372036854775807) (E := 9223372036854775807) (by kernel_rfl) (by omega) (by omega) (by omega) (by omega) h (by omega)
  · exact Tryz.cLt (A := -9223372036854775808) (B := -2) (C := -9223372036854775807) (D := -1) (E := 9223372036854775807) (by kernel_rfl) (by omega) (by omega) (by omega) (by omega) h (by omega)
  · exact Tryz.cLt (A := -9223372036854775808) (B := -1) (C := 0) (D := 9223372036854775807) (E := 18446744073709551615) (by kernel_rfl) (by omega) (by omega) (by omega) (by omega) h (by omega)
  · exact Tryz.cGt (A := 1) (B := 9223372036854775807) (C := 0) (D := 9223372036854775806) (E := 9223372036854775807) (by kernel_rfl) (by omega) (by omega) (by omega) (by omega) h (by omega)
  · exact Tryz.cGt (A := -9223372036854775807) (B := -1) (C := -9223372036854775808) (D := -2) (E := 9223372036854775807) (by kernel_rfl) (by omega) (by omega) (by omega) (by omega) h (by omega)
  · exact Tryz.cGt (A := 0) (B := 9223372036854775807) (C := -9223372036854775808) (D := -1) (E := 18446744073709551615) (by kernel_rfl) (by omega) (by omega) (by omega) (by omega) h (by omega)
theorem Tryz.cm6 {x y : Int} (hx : -9223372036854775808 ≤ x ∧ x ≤ 9223372036854775807) (hy : -9223372036854775808 ≤ y ∧ y ≤ 9223372036854775807) : Tryz.CAns 6 x y := by
  rcases (by omega : x = y ∨ (x < y ∧ 0 ≤ x) ∨ (x < y ∧ y < 0) ∨ (x < y ∧ x < 0 ∧ 0 ≤ y) ∨ (y < x ∧ 0 ≤ y) ∨ (y < x ∧ x < 0) ∨ (y < x ∧ y < 0 ∧ 0 ≤ x)) with h | ⟨h, a⟩ | ⟨h, a⟩ | ⟨h, a, b⟩ | ⟨h, a⟩ | ⟨h, a⟩ | ⟨h, a, b⟩
  · subst h
    exact Tryz.cEq (A := -9223372036854775808) (B := 9223372036854775807) (by kernel_rfl) hx.1 hx.2
  · exact Tryz.cLt (A := 0) (B := 9223372036854775806) (C := 1) (D := 9223372036854775807) (E := 9223372036854775807) (by kernel_rfl) (by omega) (by omega) (by omega) (by omega) h (by omega)
  · exact Tryz.cLt (A := -9223372036854775808) (B := -2) (C := -9223372036854775807) (D := -1) (E := 9223372036854775807) (by kernel_rfl) (by omega) (by omega) (by omega) (by omega) h (by omega)
  · exact Tryz.cLt (A := -9223372036854775808) (B := -1) (C := 0) (D := 9223372036854775807) (E := 18446744073709551615) (by kernel_rfl) (by omega) (by omega) (by omega) (by omega) h (by omega)
  · exact Tryz.cGt (A := 1) (B := 9223372036854775807) (C := 0) (D := 9223372036854775806) (E := 9223372036854775807) (by kernel_rfl) (by omega) (by omega) (by omega) (by omega) h (by omega)
  · exact Tryz.cGt (A := -9223372036854775807) (B := -1) (C := -9223372036854775808) (D := -2) (E := 9223372036854775807) (by kernel_rfl) (by omega) (by omega) (by omega) (by omega) h (by omega)
  · exact Tryz.cGt (A := 0) (B := 9223372036854775807) (C := -9223372036854775808) (D := -1) (E := 18446744073709551615) (by kernel_rfl) (by omega) (by omega) (by omega) (by omega) h (by omega)
theorem Tryz.cm7 {x y : Int} (hx : -9223372036854775808 ≤ x ∧ x ≤ 9223372036854775807) (hy : -9223372036854775808 ≤ y ∧ y ≤ 9223372036854775807) : Tryz.CAns 7 x y := by
  rcases (by omega : x = y ∨ (x < y ∧ 0 ≤ x) ∨ (x < y ∧ y < 0) ∨ (x < y ∧ x < 0 ∧ 0 ≤ y) ∨ (y < x ∧ 0 ≤ y) ∨ (y < x ∧ x < 0) ∨ (y < x ∧ y < 0 ∧ 0 ≤ x)) with h | ⟨h, a⟩ | ⟨h, a⟩ | ⟨h, a, b⟩ | ⟨h, a⟩ | ⟨h, a⟩ | ⟨h, a, b⟩
  · subst h
    exact Tryz.cEq (A := -9223372036854775808) (B := 9223372036854775807) (by kernel_rfl) hx.1 hx.2
  · exact Tryz.cLt (A := 0) (B := 9223372036854775806) (C := 1) (D := 9223372036854775807) (E := 9223372036854775807) (by kernel_rfl) (by omega) (by omega) (by omega) (by omega) h (by omega)
  · exact Tryz.cLt (A := -9223372036854775808) (B := -2) (C := -9223372036854775807) (D := -1) (E := 9223372036854775807) (by kernel_rfl) (by omega) (by omega) (by omega) (by omega) h (by omega)
  · exact Tryz.cLt (A := -9223372036854775808) (B := -1) (C := 0) (D := 9223372036854775807) (E := 18446744073709551615) (by kernel_rfl) (by omega) (by omega) (by omega) (by omega) h (by omega)
  · exact Tryz.cGt (A := 1) (B := 9223372036854775807) (C := 0) (D := 9223372036854775806) (E := 9223372036854775807) (by kernel_rfl) (by omega) (by omega) (by omega) (by omega) h (by omega)
  · exact Tryz.cGt (A := -9223372036854775807) (B := -1) (C := -9223372036854775808) (D := -2) (E := 9223372036854775807) (by kernel_rfl) (by omega) (by omega) (by omega) (by omega) h (by omega)
  · exact Tryz.cGt (A := 0) (B := 9223372036854775807) (C := -9223372036854775808) (D := -1) (E := 18446744073709551615) (by kernel_rfl) (by omega) (by omega) (by omega) (by omega) h (by omega)
theorem Tryz.cm8 {x y : Int} (hx : -9223372036854775808 ≤ x ∧ x ≤ 9223372036854775807) (hy : -9223372036854775808 ≤ y ∧ y ≤ 9223372036854775807) : Tryz.CAns 8 x y := by
  rcases (by omega : x = y ∨ (x < y ∧ 0 ≤ x) ∨ (x < y ∧ y < 0) ∨ (x < y ∧ x < 0 ∧ 0 ≤ y) ∨ (y < x ∧ 0 ≤ y) ∨ (y < x ∧ x < 0) ∨ (y < x ∧ y < 0 ∧ 0 ≤ x)) with h | ⟨h, a⟩ | ⟨h, a⟩ | ⟨h, a, b⟩ | ⟨h, a⟩ | ⟨h, a⟩ | ⟨h, a, b⟩
  · subst h
    exact Tryz.cEq (A := -9223372036854775808) (B := 9223372036854775807) (by kernel_rfl) hx.1 hx.2
  · exact Tryz.cLt (A := 0) (B := 9223372036854775806) (C := 1) (D := 9223372036854775807) (E := 9223372036854775807) (by kernel_rfl) (by omega) (by omega) (by omega) (by omega) h (by omega)
  · exact Tryz.cLt (A := -9223372036854775808) (B := -2) (C := -9223372036854775807) (D := -1) (E := 9223372036854775807) (by kernel_rfl) (by omega) (by omega) (by omega) (by omega) h (by omega)
  · exact Tryz.cLt (A := -9223372036854775808) (B := -1) (C := 0) (D := 9223372036854775807) (E := 18446744073709551615) (by kernel_rfl) (by omega) (by omega) (by omega) (by omega) h (by omega)
  · exact Tryz.cGt (A := 1) (B := 9223372036854775807) (C := 0) (D := 9223372036854775806) (E := 9223372036854775807) (by kernel_rfl) (by omega) (by omega) (by omega) (by omega) h (by omega)
  · exact Tryz.cGt (A := -9223372036854775807) (B := -1) (C := -9223372036854775808) (D := -2) (E := 9223372036854775807) (by kernel_rfl) (by omega) (by omega) (by omega) (by omega) h (by omega)
  · exact Tryz.cGt (A := 0) (B := 9223372036854775807) (C := -9223372036854775808) (D := -1) (E := 18446744073709551615) (by kernel_rfl) (by omega) (by omega) (by omega) (by omega) h (by omega)
theorem Tryz.cm9 {x y : Int} (hx : -9223372036854775808 ≤ x ∧ x ≤ 9223372036854775807) (hy : -9223372036854775808 ≤ y ∧ y ≤ 9223372036854775807) : Tryz.CAns 9 x y := by
  rcases (by omega : x = y ∨ (x < y ∧ 0 ≤ x) ∨ (x < y ∧ y < 0) ∨ (x < y ∧ x < 0 ∧ 0 ≤ y) ∨ (y < x ∧ 0 ≤ y) ∨ (y < x ∧ x < 0) ∨ (y < x ∧ y < 0 ∧ 0 ≤ x)) with h | ⟨h, a⟩ | ⟨h, a⟩ | ⟨h, a, b⟩ | ⟨h, a⟩ | ⟨h, a⟩ | ⟨h, a, b⟩
  · subst h
    exact Tryz.cEq (A := -9223372036854775808) (B := 9223372036854775807) (by kernel_rfl) hx.1 hx.2
  · exact Tryz.cLt (A := 0) (B := 9223372036854775806) (C := 1) (D := 9223372036854775807) (E := 9223372036854775807) (by kernel_rfl) (by omega) (by omega) (by omega) (by omega) h (by omega)
  · exact Tryz.cLt (A := -9223372036854775808) (B := -2) (C := -9223372036854775807) (D := -1) (E := 9223372036854775807) (by kernel_rfl) (by omega) (by omega) (by omega) (by omega) h (by omega)
  · exact Tryz.cLt (A := -9223372036854775808) (B := -1) (C := 0) (D := 9223372036854775807) (E := 18446744073709551615) (by kernel_rfl) (by omega) (by omega) (by omega) (by omega) h (by omega)
  · exact Tryz.cGt (A := 1) (B := 9223372036854775807) (C := 0) (D := 9223372036854775806) (E := 9223372036854775807) (by kernel_rfl) (by omega) (by omega) (by omega) (by omega) h (by omega)
  · exact Tryz.cGt (A := -9223372036854775807) (B := -1) (C := -9223372036854775808) (D := -2) (E := 9223372036854775807) (by kernel_rfl) (by omega) (by omega) (by omega) (by omega) h (by omega)
  · exact Tryz.cGt (A := 0) (B := 9223372036854775807) (C := -9223372036854775808) (D := -1) (E := 18446744073709551615) (by kernel_rfl) (by omega) (by omega) (by omega) (by omega) h (by omega)
/-- Un's answer, where it asks whether a number is nothing. -/
def Tryz.UAns (op x : Int) : Prop := ∃ z, loK .u64 ≤ z ∧ z ≤ hiK .u64 ∧ FnR Tryz.prog [] 9 [.int .i64 op, .int .u64 x] (.tuple #[.int .u64 z, .int .i64 0])
theorem Tryz.u50 {x : Int} (hx : 0 ≤ x ∧ x ≤ 18446744073709551615) : Tryz.UAns 80 x := by
  have one : ∀ (A B : Int) (hk : isOk2 .u64 0 (Tryz.nC 9 [.int .i64 80, rg .u64 1 A B] (nilH 0)) = true), A ≤ x → x ≤ B → Tryz.UAns 80 x := fun A B hk h1 h2 =>
    ex2 ⟨fun _ => x, []⟩ rfl (Tryz.nC_ok _) hk fun g w => by
      simp only [VRs]
      exact ⟨_, _, rfl, by simp only [VR], _, _, rfl, rg_ok rfl h1 h2, rfl⟩
  rcases (by omega : x ≤ 0 ∨ 1 ≤ x) with h | h
  · exact one 0 0 (by kernel_rfl) hx.1 h
  · exact one 1 18446744073709551615 (by kernel_rfl) h hx.2
theorem Tryz.u45 {x : Int} (hx : 0 ≤ x ∧ x ≤ 18446744073709551615) : Tryz.UAns 69 x := by
  have one : ∀ (A B : Int) (hk : isOk2 .u64 0 (Tryz.nC 9 [.int .i64 69, .sym .u64 (.pr 5 A B 6) 0 18446744073709551615 0] (nilH 0)) = true), A ≤ x % 4294967296 → x % 4294967296 ≤ B → Tryz.UAns 69 x := fun A B hk h1 h2 =>
    ex2 ⟨fun i => match i with | 5 => x % 4294967296 | _ => x / 4294967296, []⟩ rfl (Tryz.nC_ok _) hk fun g w => by
      have e : clamp A B (x % 4294967296) + 4294967296 * (x / 4294967296) = x := by rw [Tryz.clampE h1 h2]; omega
      simp only [VRs, VR, evalSV, e]
      exact ⟨_, _, rfl, rfl, _, _, rfl, ⟨by rw [Int.add_zero], hx.1, hx.2⟩, rfl⟩
  rcases (by omega : x % 4294967296 ≤ 0 ∨ 1 ≤ x % 4294967296) with h | h
  · exact one 0 0 (by kernel_rfl) (by omega) h
  · exact one 1 4294967295 (by kernel_rfl) h (by omega)
-- of the library's bits: what the shelf's contracts say
theorem Tryz.lz32 {x : Int} (h0 : 0 ≤ x) (h1 : x ≤ 4294967295) : ∃ z, 0 ≤ z ∧ z ≤ 64 ∧ FnR Tryz.prog [] 33 [.int .u32 x] (.int .i64 z) := by
  have := Lib.bitLen_le x.toNat 32 (by decide) (by omega)
  exact ⟨32 - (Lib.bitLen x.toNat : Int), by omega, by omega, FnR.of_calls Tryz.ok33.enter fun w _ => Any.bits_LeadingZeros32 Tryz.lays133 x w h0 h1⟩
theorem Tryz.lz64 {x : Int} (h0 : 0 ≤ x) (h1 : x ≤ 18446744073709551615) : ∃ z, 0 ≤ z ∧ z ≤ 64 ∧ FnR Tryz.prog [] 36 [.int .u64 x] (.int .i64 z) := by
  have := Lib.bitLen_le x.toNat 64 (by decide) (by omega)
  exact ⟨64 - (Lib.bitLen x.toNat : Int), by omega, by omega, FnR.of_calls Tryz.ok36.enter fun w _ => Any.bits_LeadingZeros64 Tryz.lays134 x w h0 h1⟩
theorem Tryz.ctz_le (b x : Nat) (h : x < 2 ^ b) : Lib.ctz b x ≤ b := by
  unfold Lib.ctz
  split
  · exact Nat.le_refl _
  · obtain ⟨_, _, h⟩ := Lib.ctzFrom_spec b x (by omega) h
    omega
def Tryz.tabV (l : List Nat) : List Value := l.map fun n : Nat => Value.int .u8 (n : Int)
theorem Tryz.tabAt {g : Nat} {l : List Nat} {w : World} (h : CellsAt w g 0 (Tryz.tabV l)) : TabAt g l w := by
  intro j hj
  have := h j (.int .u8 (l.getD j 0)) (by unfold Tryz.tabV; rw [List.getElem?_map, List.getElem?_eq_getElem hj, List.getD, List.getElem?_eq_getElem hj]; rfl)
  rwa [Nat.zero_add] at this
def Tryz.T : List (Nat × List Value) := [(Tryz.lays28_ren.g 0, Tryz.tabV Lib.deBruijn32tab), (Tryz.lays29_ren.g 1, Tryz.tabV Lib.deBruijn64tab)]
theorem Tryz.tz32 {x : Int} (h0 : 0 ≤ x) (h1 : x ≤ 4294967295) : ∃ z, 0 ≤ z ∧ z ≤ 64 ∧ FnR Tryz.prog Tryz.T 34 [.int .u32 x] (.int .i64 z) := by
  obtain ⟨n, rfl⟩ : ∃ n : Nat, x = n := ⟨x.toNat, by omega⟩
  have := Tryz.ctz_le 32 n (by omega)
  exact ⟨(Lib.ctz 32 n : Nat), by omega, by omega, FnR.of_calls Tryz.ok34.enter fun w hw => Any7.bits_TrailingZeros32 Tryz.lays28 n (by omega) w fun _ => Tryz.tabAt (hw (_, _) (.head _))⟩
theorem Tryz.tz64 {x : Int} (h0 : 0 ≤ x) (h1 : x ≤ 18446744073709551615) : ∃ z, 0 ≤ z ∧ z ≤ 64 ∧ FnR Tryz.prog Tryz.T 37 [.int .u64 x] (.int .i64 z) := by
  obtain ⟨n, rfl⟩ : ∃ n : Nat, x = n := ⟨x.toNat, by omega⟩
  have := Tryz.ctz_le 64 n (by omega)
  exact ⟨(Lib.ctz 64 n : Nat), by omega, by omega, FnR.of_calls Tryz.ok37.enter fun w hw => Any7.bits_TrailingZeros64 Tryz.lays29 n (by omega) w fun _ => Tryz.tabAt (hw (_, _) (.tail _ (.head _)))⟩
end Go.Proofs
