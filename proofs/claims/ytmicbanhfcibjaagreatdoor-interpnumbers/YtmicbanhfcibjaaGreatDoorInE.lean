import Derived.Test.YtmicbanhfcibjaaGreatDoorInD
namespace Go.Proofs
open Go.Ab
set_option maxRecDepth 1000000
noncomputable def Tryz.B (i : Nat) : AV := .sym .u64 (.bits (varBits 64 (2 + 64 * i))) 0 18446744073709551615 0
noncomputable def Tryz.L32 (i : Nat) : SV := .bits (app (tk 32 (varBits 64 (2 + 64 * i))) (zeros 32))
noncomputable def Tryz.X32 (i : Nat) : AV := .sym .u32 (Tryz.L32 i) 0 4294967295 0
noncomputable def Tryz.XL (i : Nat) : AV := .sym .u64 (Tryz.L32 i) 0 4294967295 0
noncomputable def Tryz.XI (i : Nat) : AV := .sym .i64 (.tm 11 .i32 .u32 (Tryz.L32 i) 0 (.con 0) 0) (-2147483648) 2147483647 0
noncomputable def Tryz.XW (i : Nat) : AV := .sym .i64 (.tm 11 .i64 .u64 (.bits (varBits 64 (2 + 64 * i))) 0 (.con 0) 0) (-9223372036854775808) 9223372036854775807 0
noncomputable def Tryz.opA (c : Nat) : AV := .sym .i64 (.lin 7 128) 0 9223372036854775680 c
noncomputable def Tryz.opN (c : Nat) : AV := .sym .i64 (.lin 7 128) (-9223372036854775808) (-128) c

section
variable [I : Io]
theorem Tryz.B_ev (i : Nat) (h0 : 0 ≤ I.io i) (h1 : I.io i ≤ 18446744073709551615) : evalSV (.bits (varBits 64 (2 + 64 * i))) = I.io i := by
  have e : (I.io i % 18446744073709551616).toNat = (I.io i).toNat := by rw [Int.emod_eq_of_lt h0 (by omega)]
  have := varBits_ok i 64 0 _ (Nat.le_refl _) e (by omega)
  rw [List.replicate_zero, List.append_nil] at this
  show ((ofB _ : Nat) : Int) = _
  rw [this]
  omega
theorem Tryz.B_ok (i : Nat) (h0 : 0 ≤ I.io i) (h1 : I.io i ≤ 18446744073709551615) (g : G) (w : World) : VR g w (Tryz.B i) (.int .u64 (I.io i)) := by
  simp only [Tryz.B, VR, Tryz.B_ev i h0 h1]
  exact ⟨by rw [Int.add_zero], h0, h1⟩
theorem Tryz.L_ev (i : Nat) (h0 : 0 ≤ I.io i) (h1 : I.io i ≤ 18446744073709551615) : evalSV (Tryz.L32 i) = I.io i % 4294967296 := by
  have e := Tryz.B_ev i h0 h1
  change ((ofB _ : Nat) : Int) = _ at e
  have := cut_ok (k := .u32) (varBits 64 (2 + 64 * i))
  change ofB ((app (tk 32 (varBits 64 (2 + 64 * i))) (zeros 32)).map bitV) = _ at this
  show ((ofB _ : Nat) : Int) = _
  rw [this, ← e]
  rfl
theorem Tryz.X32_ok (i : Nat) (h0 : 0 ≤ I.io i) (h1 : I.io i ≤ 18446744073709551615) (g : G) (w : World) : VR g w (Tryz.X32 i) (.int .u32 (I.io i % 4294967296)) := by
  simp only [Tryz.X32, VR, Tryz.L_ev i h0 h1]
  exact ⟨by rw [Int.add_zero], by omega, by omega⟩
theorem Tryz.XL_ok (i : Nat) (h0 : 0 ≤ I.io i) (h1 : I.io i ≤ 18446744073709551615) (g : G) (w : World) : VR g w (Tryz.XL i) (.int .u64 (I.io i % 4294967296)) := by
  simp only [Tryz.XL, VR, Tryz.L_ev i h0 h1]
  exact ⟨by rw [Int.add_zero], by omega, by omega⟩
theorem Tryz.XI_ok (i : Nat) (h0 : 0 ≤ I.io i) (h1 : I.io i ≤ 18446744073709551615) (g : G) (w : World) : VR g w (Tryz.XI i) (.int .i64 (wrapF .i32 (I.io i % 4294967296))) := by
  have e : evalSV (.tm 11 .i32 .u32 (Tryz.L32 i) 0 (.con 0) 0) = wrapF .i32 (I.io i % 4294967296) := by
    show wrapF .i32 (evalSV (Tryz.L32 i) + 0) = _
    rw [Tryz.L_ev i h0 h1, Int.add_zero]
  have := wrapF_in .i32 (I.io i % 4294967296)
  simp only [Tryz.XI, VR, e]
  exact ⟨by rw [Int.add_zero], this.1, this.2⟩
theorem Tryz.XW_ok (i : Nat) (h0 : 0 ≤ I.io i) (h1 : I.io i ≤ 18446744073709551615) (g : G) (w : World) : VR g w (Tryz.XW i) (.int .i64 (wrapF .i64 (I.io i))) := by
  have e : evalSV (.tm 11 .i64 .u64 (.bits (varBits 64 (2 + 64 * i))) 0 (.con 0) 0) = wrapF .i64 (I.io i) := by
    show wrapF .i64 (evalSV (.bits (varBits 64 (2 + 64 * i))) + 0) = _
    rw [Tryz.B_ev i h0 h1, Int.add_zero]
  have := wrapF_in .i64 (I.io i)
  simp only [Tryz.XW, VR, e]
  exact ⟨by rw [Int.add_zero], this.1, this.2⟩
/-- A number that is told stands for one number. -/
theorem Tryz.uniq {a : AV} {k : IntKind} {s : SV} {o l u : Int} (h : atS a = some (k, s, o, l, u)) {g g' : G} {w w' : World} {x y : Value} (hx : VR g w a x) (hy : VR g' w' a y) : x = y := by
  rw [(atS_ok h hx).1, (atS_ok h hy).1]
def Tryz.Num (a : AV) (v : Value) : Prop := (∀ (g : G) (w : World), VR g w a v) ∧ ∀ (g : G) (w : World) x, VR g w a x → x = v
theorem Tryz.num_of {k0 : IntKind} {s : SV} {lo hi o : Int} {v : Value} (hv : ∀ (g : G) (w : World), VR g w (.sym k0 s lo hi o) v) : Tryz.Num (.sym k0 s lo hi o) v :=
  ⟨hv, fun g w x hx => Tryz.uniq (a := .sym k0 s lo hi o) rfl hx (hv g w)⟩
theorem Tryz.num_int (k : IntKind) (n : Int) : Tryz.Num (.int k n) (.int k n) := ⟨fun _ _ => by simp only [VR], fun _ _ x hx => by simpa only [VR] using hx⟩
theorem Tryz.args3 {a b c : AV} {u v x : Value} (ha : Tryz.Num a u) (hb : Tryz.Num b v) (hc : Tryz.Num c x) (g : G) (w : World) (us : List Value) (h : VRs g w [a, b, c] us) : us = [u, v, x] := by
  simp only [VRs] at h
  obtain ⟨_, _, rfl, h1, _, _, rfl, h2, _, _, rfl, h3, rfl⟩ := h
  rw [ha.2 _ _ _ h1, hb.2 _ _ _ h2, hc.2 _ _ _ h3]
theorem Tryz.args2 {a b : AV} {u v : Value} (ha : Tryz.Num a u) (hb : Tryz.Num b v) (g : G) (w : World) (us : List Value) (h : VRs g w [a, b] us) : us = [u, v] := by
  simp only [VRs] at h
  obtain ⟨_, _, rfl, h1, _, _, rfl, h2, rfl⟩ := h
  rw [ha.2 _ _ _ h1, hb.2 _ _ _ h2]
theorem Tryz.args1 {a : AV} {u : Value} (ha : Tryz.Num a u) (g : G) (w : World) (us : List Value) (h : VRs g w [a] us) : us = [u] := by
  simp only [VRs] at h
  obtain ⟨_, _, rfl, h1, rfl⟩ := h
  rw [ha.2 _ _ _ h1]
theorem Tryz.res1 {k : IntKind} {z lo hi : Int} (hz : I.io 60 = z) (h1 : lo ≤ z) (h2 : z ≤ hi) (g : G) (w : World) : VR g w (.sym k (.var 60) lo hi 0) (.int k z) := by
  simp only [VR, evalSV, hz]
  exact ⟨by rw [Int.add_zero], h1, h2⟩
theorem Tryz.res2 {k : IntKind} {z lo hi e : Int} (hz : I.io 60 = z) (h1 : lo ≤ z) (h2 : z ≤ hi) (g : G) (w : World) : VR g w (.tup [.sym k (.var 60) lo hi 0, .int .i64 e]) (.tuple #[.int k z, .int .i64 e]) := by
  simp only [VR, VRs, evalSV, hz]
  exact ⟨_, rfl, _, _, rfl, ⟨by rw [Int.add_zero], h1, h2⟩, _, _, rfl, rfl, rfl⟩
theorem Tryz.res2i {k : IntKind} {z e : Int} (g : G) (w : World) : VR g w (.tup [.int k z, .int .i64 e]) (.tuple #[.int k z, .int .i64 e]) := by
  simp only [VR, VRs]
  exact ⟨_, rfl, _, _, rfl, rfl, _, _, rfl, rfl, rfl⟩
end

/-- Where the tables lie. -/
def Tryz.TabW (w : World) : Prop := ∀ p, p ∈ Tryz.T → CellsAt w p.1 0 p.2
theorem Tryz.tab_lt {w : World} (h : Tryz.TabW w) : ∀ b, (∃ p, p ∈ Tryz.T ∧ p.1 = b) → b < w.heap.size := by
  rintro b ⟨p, hp, rfl⟩
  have key : ∀ {g : Nat} {v : Value} {l : List Value}, CellsAt w g 0 (v :: l) → g < w.heap.size := by
    intro g v l hc
    have := hc 0 v rfl
    unfold World.cell? at this
    cases e : w.heap[g]? with
    | none => simp [e] at this
    | some o => exact (Array.getElem?_eq_some_iff.1 e).1
  have := h p hp
  unfold Tryz.T at hp
  rcases List.mem_cons.1 hp with rfl | hp
  · exact key this
  · rcases List.mem_cons.1 hp with rfl | hp
    · exact key this
    · cases hp

def Tryz.LawC (c : Nat) : Prop := ∀ (x y q : Int) (w : World), 0 ≤ x → x ≤ 18446744073709551615 → 0 ≤ y → y ≤ 18446744073709551615 → -9223372036854775808 ≤ 128 * q + c → 128 * q + c ≤ 9223372036854775807 → Tryz.TabW w →
  Calls Tryz.prog 3 #[.int .i64 (128 * q + c), .int .u64 x, .int .u64 y] w fun e w' => e = .returned (.bool true) ∧ Go.RowKit.Below w.heap.size w w'

abbrev Tryz.io (x y q z : Int) : Io := ⟨fun i => match i with | 1 => x | 2 => y | 7 => q | _ => z, Tryz.T⟩
theorem Tryz.law {x y q z : Int} {c : Nat} {l : List Kn} (hk : @KT (Tryz.io x y q z) Tryz.prog l) (hc : c < 128) (r0 : isT (Tryz.kC l 3 [Tryz.opA c, Tryz.B 1, Tryz.B 2] (nilH 0)) = true) (r1 : isT (Tryz.kC l 3 [Tryz.opN c, Tryz.B 1, Tryz.B 2] (nilH 0)) = true)
    {w : World} (hx : 0 ≤ x) (hx' : x ≤ 18446744073709551615) (hy : 0 ≤ y) (hy' : y ≤ 18446744073709551615) (hq : -9223372036854775808 ≤ 128 * q + c) (hq' : 128 * q + c ≤ 9223372036854775807) (ht : Tryz.TabW w) :
    Calls Tryz.prog 3 #[.int .i64 (128 * q + c), .int .u64 x, .int .u64 y] w fun e w' => e = .returned (.bool true) ∧ Go.RowKit.Below w.heap.size w w' := by
  have go : ∀ (a : AV), isT (Tryz.kC l 3 [a, Tryz.B 1, Tryz.B 2] (nilH 0)) = true → (∀ g w, @VR (Tryz.io x y q z) g w a (.int .i64 (128 * q + c))) → Calls Tryz.prog 3 #[.int .i64 (128 * q + c), .int .u64 x, .int .u64 y] w fun e w' => e = .returned (.bool true) ∧ Go.RowKit.Below w.heap.size w w' :=
    fun a hr ha => @law_ok (Tryz.io x y q z) _ _ (@Tryz.kC_ok (Tryz.io x y q z) l hk) 3 _ [.int .i64 (128 * q + c), .int .u64 x, .int .u64 y] hr w (fun b => ∃ p, p ∈ Tryz.T ∧ p.1 = b) (Tryz.tab_lt ht) (fun p hp => ⟨⟨p, hp, rfl⟩, ht p hp⟩) (by
      simp only [VRs]
      exact ⟨_, _, rfl, ha _ _, _, _, rfl, @Tryz.B_ok (Tryz.io x y q z) 1 hx hx' _ _, _, _, rfl, @Tryz.B_ok (Tryz.io x y q z) 2 hy hy' _ _, rfl⟩)
  by_cases h : 0 ≤ 128 * q + (c : Int)
  · refine go _ r0 fun g w => ?_
    have e : @evalSV (Tryz.io x y q z) (.lin 7 128) = 128 * q := rfl
    simp only [Tryz.opA, VR, e]
    exact ⟨trivial, by omega, by omega⟩
  · refine go _ r1 fun g w => ?_
    have e : @evalSV (Tryz.io x y q z) (.lin 7 128) = 128 * q := rfl
    simp only [Tryz.opN, VR, e]
    exact ⟨trivial, by omega, by omega⟩
end Go.Proofs
