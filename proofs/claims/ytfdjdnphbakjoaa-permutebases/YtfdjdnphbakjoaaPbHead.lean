import Derived.Test.YtfdjdnphbakjoaaPsJoin
namespace Go.Proofs
open Go.Ab
set_option maxRecDepth 1000000

noncomputable def i64A (i : Nat) : AV := .sym .i64 (.var i) (-9223372036854775808) 9223372036854775807 0
noncomputable def u64A (i : Nat) : AV := .sym .u64 (.var i) 0 18446744073709551615 0
noncomputable def bA : AV := .sym .i64 (.umod 0 4033) 0 4032 0
/-- The law PermuteBases at a shuffle that may be. -/
noncomputable def wB (z : Nat) (c : CallF) : CallF := orN 9 [shIn, bA] (nOf 16 z) 3 (atoms (nOf 16 z) 1000) (.int .i64 4) (.int .i64 0) (orc (lookF [(8, look0 (.bool true))]) c)
noncomputable def pbS (z : Nat) : Bool := isT (gCall Try.fb.get (wB z) 5000 40 4 [shIn, i64A 0] (nilH 0))
noncomputable def lFull : List (Int × Int) := List.replicate 16 (0, 255)
/-- The j-th selector is the first one that may not be. -/
noncomputable def lBad (j : Nat) : List (Int × Int) := app (tk j l31) ((32, 255) :: dp (Nat.add j 1) lFull)
noncomputable def wP (l : List (Int × Int)) (c : CallF) : CallF := orc (Try.tblP (selL l 0)) c
noncomputable def pbR (l : List (Int × Int)) (o a : AV) : Bool := isT (gCall Try.fb.get (wP l) 5000 40 4 [.agg [o, a, .any, u64A 2, u64A 3, .any], i64A 0] (nilH 0))
end Go.Proofs

namespace Go.Proofs
open Go.Ab
set_option maxRecDepth 1000000
/-- The law PermuteBases, where the opcode and the first field lie between two numbers. -/
def PbR (A B C D : Int) : Prop := ∀ (op : Int), A ≤ op → op ≤ B → ∀ (a : Int), C ≤ a → a ≤ D → ∀ (v2 v5 : Value), v2.oneCell' = true → v5.oneCell' = true →
  ∀ (lo hi base : Int), 0 ≤ lo → lo ≤ 18446744073709551615 → 0 ≤ hi → hi ≤ 18446744073709551615 → -9223372036854775808 ≤ base → base ≤ 9223372036854775807 → ∀ w : World,
    Calls Try.prog 4 #[.agg #[.int .i64 op, .int .i64 a, v2, .int .u64 lo, .int .u64 hi, v5], .int .i64 base] w fun e w' => e = .returned (.bool true) ∧ Go.RowKit.Below w.heap.size w w'
def PbL (A B : Int) : Prop := PbR A B (-9223372036854775808) 9223372036854775807
theorem PbL.join {A B C D : Int} (h : PbL A B) (k : PbL C D) (hc : C ≤ B + 1) : PbL A D :=
  fun op h1 h2 => if hb : op ≤ B then h op h1 hb else k op (by omega) h2
theorem PbR.join {A B C D C' D' : Int} (h : PbR A B C D) (k : PbR A B C' D') (hc : C' ≤ D + 1) : PbR A B C D' :=
  fun op h1 h2 a h3 h4 => if hb : a ≤ D then h op h1 h2 a h3 hb else k op h1 h2 a (by omega) h4

/-- The numbers: the raw base, the opcode, the halves, the base, the first field, the bytes. -/
@[reducible] noncomputable def ioB (op a lo hi base : Int) : Io := ⟨fun i => if i = 0 then base else if i = 1 then op else if i = 2 then lo else if i = 3 then hi else if i = 5 then (base % 18446744073709551616) % 4033 else if i = 6 then a else
  (bytesE lo hi).getD (i - 20) 0⟩
theorem ioB_bytes (op a lo hi base : Int) : @BytesIo (ioB op a lo hi base) := by
  intro k b e
  show (if 20 + k = 0 then base else if 20 + k = 1 then op else if 20 + k = 2 then lo else if 20 + k = 3 then hi else if 20 + k = 5 then (base % 18446744073709551616) % 4033 else if 20 + k = 6 then a else
    (bytesE lo hi).getD (20 + k - 20) 0) = b
  rw [if_neg (by omega), if_neg (by omega), if_neg (by omega), if_neg (by omega), if_neg (by omega), if_neg (by omega), show 20 + k - 20 = k by omega, List.getD_eq_getElem?_getD]
  have e' : (bytesE lo hi)[k]? = some b := e
  rw [e']
  rfl
theorem bytesE_range (lo hi : Int) : ∀ b ∈ bytesE lo hi, 0 ≤ b ∧ b ≤ 255 := by
  intro b hb
  have key : ∀ x : Int, ∀ p : Nat, 0 ≤ byteE x p ∧ byteE x p ≤ 255 := by
    intro x p
    show 0 ≤ (Int.fdiv x (.ofNat p)) % 256 ∧ (Int.fdiv x (.ofNat p)) % 256 ≤ 255
    omega
  unfold bytesE at hb
  rcases List.mem_append.1 hb with h | h <;> obtain ⟨p, _, rfl⟩ := List.mem_map.1 h
  · exact key lo p
  · exact key hi p
theorem lFull_ok (lo hi : Int) : ∀ (k : Nat) (p : Int × Int) b, lFull[k]? = some p → (bytesE lo hi)[k]? = some b → p.1 ≤ b ∧ b ≤ p.2 := by
  intro k p b e1 e2
  have hp : p = (0, 255) := List.eq_of_mem_replicate (List.mem_of_getElem? e1)
  subst hp
  exact bytesE_range lo hi b (List.mem_of_getElem? e2)

theorem pb_of {l : List (Int × Int)} {o oa : AV} {op a lo hi base : Int} (e : pbR l o oa = true) (hl : l.length = 16) (hbd : ∀ (k : Nat) (p : Int × Int) b, l[k]? = some p → (bytesE lo hi)[k]? = some b → p.1 ≤ b ∧ b ≤ p.2)
    (ho : ∀ (g : G) (w : World), @VR (ioB op a lo hi base) g w o (.int .i64 op)) (ha : ∀ (g : G) (w : World), @VR (ioB op a lo hi base) g w oa (.int .i64 a)) {v2 v5 : Value} (o2 : v2.oneCell' = true) (o5 : v5.oneCell' = true)
    (l1 : 0 ≤ lo) (l2 : lo ≤ 18446744073709551615) (m1 : 0 ≤ hi) (m2 : hi ≤ 18446744073709551615) (b1 : -9223372036854775808 ≤ base) (b2 : base ≤ 9223372036854775807) (w : World) :
    Calls Try.prog 4 #[.agg #[.int .i64 op, .int .i64 a, v2, .int .u64 lo, .int .u64 hi, v5], .int .i64 base] w fun e w' => e = .returned (.bool true) ∧ Go.RowKit.Below w.heap.size w w' := by
  letI I : Io := ioB op a lo hi base
  have hw : ∀ c, CallOk Try.prog c → CallOk Try.prog (wP l c) := fun c hc => orc_ok (tblP_ok (ioB_bytes op a lo hi base) hl hbd) hc
  refine law_ok (vs := [.agg #[.int .i64 op, .int .i64 a, v2, .int .u64 lo, .int .u64 hi, v5], .int .i64 base]) (okG hw 5000 40) e w ?_
  simp only [VRs, VR, i64A, u64A]
  refine ⟨_, _, rfl, ⟨_, rfl, _, _, rfl, ho _ _, _, _, rfl, ha _ _, _, _, rfl, o2, _, _, rfl, ⟨?_, l1, l2⟩, _, _, rfl, ⟨?_, m1, m2⟩, _, _, rfl, o5, rfl⟩, _, _, rfl, ⟨?_, b1, b2⟩, rfl⟩
  · show Value.int .u64 lo = .int .u64 (lo + 0); rw [Int.add_zero]
  · show Value.int .u64 hi = .int .u64 (hi + 0); rw [Int.add_zero]
  · show Value.int .i64 base = .int .i64 (base + 0); rw [Int.add_zero]
theorem vr_lit {I : Io} {g : G} {w : World} {x y : Int} (h : y = x) : VR g w (.int .i64 x) (.int .i64 y) := by subst h; simp only [VR]
theorem vr_any {I : Io} {g : G} {w : World} {x : Int} : VR g w .any (.int .i64 x) := by simp only [VR]; rfl
theorem vr_sym {I : Io} {g : G} {w : World} {i : Nat} {x A B : Int} (h : Io.io i = x) (h1 : A ≤ x) (h2 : x ≤ B) : VR g w (.sym .i64 (.var i) A B 0) (.int .i64 x) := by
  simp only [VR]
  subst h
  exact ⟨by show Value.int .i64 (Io.io i) = .int .i64 (Io.io i + 0); rw [Int.add_zero], h1, h2⟩
/-- An opcode, whatever the first field. -/
theorem pb_int {A : Int} (e : pbR lFull (.int .i64 A) .any = true) : PbL A A :=
  fun op h1 h2 _ _ _ _ _ o2 o5 lo hi _ l1 l2 m1 m2 b1 b2 w => pb_of e rfl (lFull_ok lo hi) (fun _ _ => vr_lit (by omega)) (fun _ _ => vr_any) o2 o5 l1 l2 m1 m2 b1 b2 w
theorem pb_sym {A B : Int} (e : pbR lFull (.sym .i64 (.var 1) A B 0) .any = true) : PbL A B :=
  fun op h1 h2 _ _ _ _ _ o2 o5 lo hi _ l1 l2 m1 m2 b1 b2 w => pb_of e rfl (lFull_ok lo hi) (fun _ _ => vr_sym rfl h1 h2) (fun _ _ => vr_any) o2 o5 l1 l2 m1 m2 b1 b2 w
/-- An opcode and a lane, or lanes between two numbers. -/
theorem pb_lane {A C : Int} (e : pbR lFull (.int .i64 A) (.int .i64 C) = true) : PbR A A C C :=
  fun op h1 h2 a h3 h4 _ _ o2 o5 lo hi _ l1 l2 m1 m2 b1 b2 w => pb_of e rfl (lFull_ok lo hi) (fun _ _ => vr_lit (by omega)) (fun _ _ => vr_lit (by omega)) o2 o5 l1 l2 m1 m2 b1 b2 w
theorem pb_lanes {A C D : Int} (e : pbR lFull (.int .i64 A) (.sym .i64 (.var 6) C D 0) = true) : PbR A A C D :=
  fun op h1 h2 a h3 h4 _ _ o2 o5 lo hi _ l1 l2 m1 m2 b1 b2 w => pb_of e rfl (lFull_ok lo hi) (fun _ _ => vr_lit (by omega)) (fun _ _ => vr_sym rfl h3 h4) o2 o5 l1 l2 m1 m2 b1 b2 w
end Go.Proofs
