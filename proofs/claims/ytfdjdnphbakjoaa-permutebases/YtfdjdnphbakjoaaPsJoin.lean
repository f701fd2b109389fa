import Derived.Test.YtfdjdnphbakjoaaPsDefs
import Derived.Test.YtfdjdnphbakjoaaPsSeq
namespace Go.Proofs
open Go.Ab
set_option maxRecDepth 1000000
/-- The i-th byte. -/
noncomputable def byteE (x : Int) (p : Nat) : Int := wrapF .u8 (Int.fdiv x (.ofNat p))
noncomputable def byteR (x : Int) : Int := wrapF .u8 (Int.tmod x 256)
noncomputable def dv (x : Int) : Int := wrapF .u64 (Int.tdiv x 256)
theorem join_run (lo hi : Int) : res (aCall Try.fb.get 1000 50 21 [.agg [.int .u64 lo, .int .u64 hi]] (nilH 0)) = some (.agg [.int .u8 (byteE lo 1), .int .u8 (byteE lo 256), .int .u8 (byteE lo 65536), .int .u8 (byteE lo 16777216),
  .int .u8 (byteE lo 4294967296), .int .u8 (byteE lo 1099511627776), .int .u8 (byteE lo 281474976710656), .int .u8 (byteE lo 72057594037927936),
  .int .u8 (byteE hi 1), .int .u8 (byteE hi 256), .int .u8 (byteE hi 65536), .int .u8 (byteE hi 16777216),
  .int .u8 (byteE hi 4294967296), .int .u8 (byteE hi 1099511627776), .int .u8 (byteE hi 281474976710656), .int .u8 (byteE hi 72057594037927936)]) := by kernel_rfl
end Go.Proofs

namespace Go.Proofs
open Go.Ab
set_option maxRecDepth 1000000

/-- Selectors between bounds of their own. -/
noncomputable def selL (l : List (Int × Int)) : Nat → List AV := List.rec (fun _ => []) (fun p _ ih i => .sym .u8 (.var (Nat.add 20 i)) p.1 p.2 0 :: ih (Nat.add i 1)) l
def pows : List Nat := [1, 256, 65536, 16777216, 4294967296, 1099511627776, 281474976710656, 72057594037927936]
/-- The bytes of two halves. -/
noncomputable def bytesE (lo hi : Int) : List Int := pows.map (byteE lo) ++ pows.map (byteE hi)

variable [Io]
theorem selL_imp {g : G} {w : World} : ∀ (l : List (Int × Int)) (bs : List Int) (i : Nat) (vs : List Value), l.length = bs.length → (∀ k b, bs[k]? = some b → Io.io (20 + (i + k)) = b) → (∀ (k : Nat) (p : Int × Int) b, l[k]? = some p → bs[k]? = some b → p.1 ≤ b ∧ b ≤ p.2) →
    VRs g w (bs.map fun b => AV.int .u8 b) vs → VRs g w (selL l i) vs
  | [], [], i, vs, _, _, _, h => h
  | p :: l, b :: bs, i, vs, hl, hi, hb, h => by
    simp only [List.map_cons, VRs, VR] at h
    obtain ⟨v, l', rfl, rfl, hr⟩ := h
    change VRs g w (.sym .u8 (.var (Nat.add 20 i)) p.1 p.2 0 :: selL l (Nat.add i 1)) _
    simp only [VRs, VR]
    have e0 : Io.io (20 + i) = b := hi 0 b rfl
    have b0 := hb 0 p b rfl rfl
    refine ⟨_, _, rfl, ⟨by show Value.int .u8 b = .int .u8 (Io.io (20 + i) + 0); rw [e0, Int.add_zero], by show _ ≤ Io.io (20 + i); omega, by show Io.io (20 + i) ≤ _; omega⟩, ?_⟩
    refine selL_imp l bs (i + 1) l' (by simpa using hl) (fun k c e => ?_) (fun k q c e1 e2 => hb (k + 1) q c (by simpa using e1) (by simpa using e2)) hr
    have := hi (k + 1) c (by simpa using e)
    rwa [show i + 1 + k = i + (k + 1) by omega]
  | [], _ :: _, _, _, h, _, _, _ => by simp at h
  | _ :: _, [], _, _, h, _, _, _ => by simp at h

/-- The numbers 20 .. 35 are the bytes of the second and the third. -/
def BytesIo : Prop := ∀ (k : Nat) (b : Int), (bytesE (Io.io 2) (Io.io 3))[k]? = some b → Io.io (20 + k) = b

theorem known21 (hb : BytesIo) (l : List (Int × Int)) (hl : l.length = 16) (hbd : ∀ (k : Nat) (p : Int × Int) b, l[k]? = some p → (bytesE (Io.io 2) (Io.io 3))[k]? = some b → p.1 ≤ b ∧ b ≤ p.2) : Known Try.prog 21 joinA (.agg (selL l 0)) := by
  refine ⟨Try.call21, fun g w vs hi hv => ?_⟩
  unfold joinA at hv
  simp only [VRs, VR] at hv
  obtain ⟨v, l', rfl, ⟨us, rfl, u1, l1, e1, ⟨rfl, _, _⟩, u2, l2, rfl, ⟨rfl, _, _⟩, rfl⟩, rfl⟩ := hv
  obtain ⟨v0, h', r1, r2⟩ := res_some (join_run (Io.io 2) (Io.io 3))
  have hc := pureC_of (Try.ok 1000 50) r1 r2 g.imm w [.agg us] hi (by
    simp only [VRs, VR]
    exact ⟨_, [], rfl, ⟨us, rfl, _, _, e1, by show Value.int .u64 (Io.io 2 + 0) = _; rw [Int.add_zero], _, _, rfl, by show Value.int .u64 (Io.io 3 + 0) = _; rw [Int.add_zero], rfl⟩, rfl⟩)
  refine hc.mono ?_
  rintro e w' ⟨y, rfl, K, hy⟩
  refine ⟨y, rfl, K, agg_imp (fun vs hv => ?_) hy⟩
  exact selL_imp l (bytesE (Io.io 2) (Io.io 3)) 0 vs (by rw [hl]; rfl) (fun k b e => by rw [Nat.zero_add]; exact hb k b e) hbd hv
end Go.Proofs

namespace Go.Proofs
open Go.Ab
set_option maxRecDepth 1000000

/-- A number of the first thousand, or a known one. -/
def lowS : SV → Bool
  | .var i => Nat.blt i 1000
  | .lin i _ => Nat.blt i 1000
  | _ => false
def lowA : AV → Bool
  | .int _ _ => true
  | .sym _ s _ _ _ => lowS s
  | _ => false
theorem valA_low {I J : Io} (h : ∀ i, i < 1000 → I.io i = J.io i) {a : AV} (ha : lowA a = true) : @valA I a = @valA J a := by
  cases a <;> simp only [lowA] at ha <;> first | rfl | skip
  all_goals rename_i k s lo hi o
  all_goals cases s <;> simp only [lowS] at ha
  all_goals try (cases ha; done)
  · rename_i i
    show I.io i + o = J.io i + o
    rw [h i (blt_iff.1 ha)]
  · rename_i i m
    show m * I.io i + o = m * J.io i + o
    rw [h i (blt_iff.1 ha)]
noncomputable def lowChk : Bool := allB lowA cells0 && upto 16 fun j => upto 4 fun q => allB lowA (cells j q false) && allB lowA (cells j q true)
theorem lowChk_ok : lowChk = true := by kernel_rfl
theorem low0 : ∀ a ∈ cells0, lowA a = true := by
  have := lowChk_ok
  simp only [lowChk, Bool.and_eq_true, allB_eq, List.all_eq_true] at this
  exact this.1
theorem low_cells {j q : Nat} (hj : j < 16) (hq : q < 4) (nz : Bool) : ∀ a ∈ cells j q nz, lowA a = true := by
  have h := lowChk_ok
  simp only [lowChk, Bool.and_eq_true] at h
  have := upto_ok (upto_ok h.2 j hj) q hq
  simp only [Bool.and_eq_true, allB_eq, List.all_eq_true] at this
  cases nz
  · exact this.1
  · exact this.2

section
variable (s : Nat → Nat)
noncomputable def blk (j : Nat) : List AV := cells j (s j / 8) (!(Nat.beq (s j % 8) 0))
noncomputable def Lp : Nat → List AV
  | 0 => cells0
  | j + 1 => Lp j ++ blk s j
variable {s}
theorem Lp_len (h : ∀ j, j < 16 → s j < 32) : ∀ j, j ≤ 16 → (Lp s j).length = 3 * nOf j (cnt s j)
  | 0, _ => rfl
  | j + 1, hj => by
    have ih := Lp_len h j (by omega)
    have hq : s j / 8 < 4 := by have := h j (by omega); omega
    have hz : cnt s j < 17 := by have := cnt_le s j; omega
    have hl := len_ok (j := j) (z := cnt s j) (by omega) hz
    show (Lp s j ++ blk s j).length = _
    rw [List.length_append, ih]
    unfold blk
    rw [(cel_ok (by omega) hq _).2]
    have hc : cnt s (j + 1) = bif Nat.beq (s j % 8) 0 then cnt s j else cnt s j + 1 := rfl
    rw [hc]
    cases Nat.beq (s j % 8) 0
    · simp only [cond_false, Bool.not_false]; omega
    · simp only [cond_true, Bool.not_true]; omega
theorem Lp_pre : ∀ (m j : Nat), j ≤ m → ∀ (i : Nat) (a : AV), (Lp s j)[i]? = some a → (Lp s m)[i]? = some a
  | 0, j, hj, i, a, e => by obtain rfl : j = 0 := by omega
                            exact e
  | m + 1, j, hj, i, a, e => by
    by_cases h : j = m + 1
    · subst h; exact e
    · have := Lp_pre m j (by omega) i a e
      show (Lp s m ++ blk s m)[i]? = some a
      rw [List.getElem?_append_left (List.getElem?_eq_some_iff.1 this).1]
      exact this
theorem Lp_low (h : ∀ j, j < 16 → s j < 32) : ∀ j, j ≤ 16 → ∀ a ∈ Lp s j, lowA a = true
  | 0, _, a, ha => low0 a ha
  | j + 1, hj, a, ha => by
    rcases List.mem_append.1 (show a ∈ Lp s j ++ blk s j from ha) with h1 | h1
    · exact Lp_low h j (by omega) a h1
    · exact low_cells (by omega) (by have := h j (by omega); omega) _ a h1

/-- The numbers: those ahead, and the cells'. -/
@[reducible] noncomputable def ioOf (s : Nat → Nat) (I : Io) : Io := ⟨fun i => if i < 1000 then I.io i else ((Lp s 16).map (@valA I)).getD (i - 1000) 0⟩
theorem ioOf_low (I : Io) {i : Nat} (h : i < 1000) : (ioOf s I).io i = I.io i := if_pos h
theorem ioOf_at (I : Io) (h : ∀ j, j < 16 → s j < 32) {i : Nat} {a : AV} (e : (Lp s 16)[i]? = some a) : (ioOf s I).io (1000 + i) = @valA (ioOf s I) a := by
  have h1 : (ioOf s I).io (1000 + i) = ((Lp s 16).map (@valA I)).getD (1000 + i - 1000) 0 := if_neg (by omega)
  rw [h1, show 1000 + i - 1000 = i by omega, List.getD_eq_getElem?_getD, List.getElem?_map, e]
  show @valA I a = _
  exact (valA_low (fun i hi => ioOf_low I hi) (Lp_low h 16 (Nat.le_refl _) a (List.mem_of_getElem? e))).symm
theorem ioOf_sel (I : Io) (h : ∀ j, j < 16 → I.io (20 + j) = (s j : Int) ∧ s j < 32) : @Sel (ioOf s I) s := by
  have h32 : ∀ j, j < 16 → s j < 32 := fun j hj => (h j hj).2
  refine @Sel.mk (ioOf s I) s (fun j hj => ⟨(ioOf_low I (show 20 + j < 1000 by omega)).trans (h j hj).1, h32 j hj⟩) (fun k a e => ?_) (fun j hj k a e => ?_)
  · exact ioOf_at I h32 (Lp_pre 16 0 (by omega) k a e)
  · have hl := Lp_len h32 j (by omega)
    have : (Lp s (j + 1))[3 * nOf j (cnt s j) + k]? = some a := by
      show (Lp s j ++ blk s j)[3 * nOf j (cnt s j) + k]? = some a
      rw [List.getElem?_append_right (by omega), hl, show 3 * nOf j (cnt s j) + k - 3 * nOf j (cnt s j) = k by omega]
      exact e
    have := ioOf_at I h32 (Lp_pre 16 (j + 1) (by omega) _ a this)
    rwa [← Nat.add_assoc] at this
end

variable [Io]
theorem lookA_ok {P : Program} {f : FuncId} {A : List AV} {v0 : AV} (h : Known P f A v0) (args : List AV) (v : AV) (e : lookA A v0 args = some v) : Known P f args v := by
  obtain ⟨h1, h2⟩ := condS e
  obtain rfl := eqAs_iff _ _ h1
  cases h2
  exact h
theorem tblP_ok {l : List (Int × Int)} (hb : BytesIo) (hl : l.length = 16) (hbd : ∀ (k : Nat) (p : Int × Int) b, l[k]? = some p → (bytesE (Io.io 2) (Io.io 3))[k]? = some b → p.1 ≤ b ∧ b ≤ p.2) :
    ∀ f args v, Try.tblP (selL l 0) f args = some v → Known Try.prog f args v :=
  fun f args v e => lookF_ok1 (tbl := [(10, lookR Try.rows10), (20, lookR Try.rows20), (21, lookA joinA (.agg (selL l 0))), (8, look0 (.bool true))]) (fun p hp args v e => by
    rcases List.mem_cons.1 hp with rfl | hp
    · exact lookR_ok Try.rows10_ok _ args v e
    rcases List.mem_cons.1 hp with rfl | hp
    · exact lookR_ok Try.rows20_ok _ args v e
    rcases List.mem_cons.1 hp with rfl | hp
    · exact lookA_ok (known21 hb l hl hbd) args v e
    rcases List.mem_cons.1 hp with rfl | hp
    · exact look0_ok (fun J => @Try.ok J 5000 40) Try.k8 _ args v e
    · cases hp) f args v e
noncomputable def l31 : List (Int × Int) := List.replicate 16 (0, 31)
omit [Io] in
theorem selA_eq : selA 31 16 = selL l31 0 := rfl

theorem okG {wr : CallF → CallF} (hw : ∀ c, CallOk Try.prog c → CallOk Try.prog (wr c)) (n d : Nat) : CallOk Try.prog (gCall Try.fb.get wr n d) :=
  gCall_ok (draw_ok Try.mixed) (fun f b e => by simpa using Try.fbs.get f b e) hw n d

theorem atoms_g {g g' : G} {w : World} : ∀ (n i : Nat) (vs : List Value), VRs g w (atoms n i) vs → VRs g' w (atoms n i) vs
  | 0, i, vs, h => by change VRs g w [] vs at h; simp only [VRs] at h; subst h; show VRs g' w [] []; simp only [VRs]
  | n + 1, i, vs, h => by
    rw [atoms_succ] at h ⊢
    simp only [VRs] at h ⊢
    obtain ⟨x, l1, rfl, hx, y, l2, rfl, hy, z, l3, rfl, hz, hr⟩ := h
    exact ⟨x, _, rfl, hx, y, _, rfl, hy, z, _, rfl, hz, atoms_g n (i + 3) l3 hr⟩

/-- What Seq answers to a shuffle. -/
theorem seq_known {s : Nat → Nat} (hs : Sel s) (hb : BytesIo) : KnownN Try.prog 9 A9 (nOf 16 (cnt s 16)) 3 (atoms (nOf 16 (cnt s 16)) 1000) (.int .i64 4) (.int .i64 0) := by
  have hbd : ∀ (k : Nat) (p : Int × Int) b, l31[k]? = some p → (bytesE (Io.io 2) (Io.io 3))[k]? = some b → p.1 ≤ b ∧ b ≤ p.2 := by
    intro k p b e1 e2
    have hk : k < 16 := by have := (List.getElem?_eq_some_iff.1 e1).1; simpa [l31] using this
    have hp : p = (0, 31) := List.eq_of_mem_replicate (List.mem_of_getElem? e1)
    subst hp
    have h1 := hb k b e2
    obtain ⟨h2, h3⟩ := hs.sel k hk
    constructor <;> omega
  have hw : ∀ c, CallOk Try.prog c → CallOk Try.prog (w9 (cnt s 16) c) := fun c hc =>
    orAt_ok (shuf_ok hs) (orc_ok (by rw [selA_eq]; exact tblP_ok hb rfl hbd) hc)
  have hB := upto_ok f9Chk_all (cnt s 16) (by have := cnt_le s 16; omega)
  unfold f9Chk at hB
  split at hB
  · rename_i k u e h hr
    simp only [Bool.and_eq_true] at hB
    obtain rfl := eq1F_iff hB.1
    obtain rfl := eq1F_iff hB.2.1
    obtain rfl := eq1F_iff hB.2.2.1
    have hK := isR_iff hB.2.2.2
    refine knownN_of (id := kOf 16 (cnt s 16)) (h1 := h) ?_ (okG hw 5000 40 9 A9 (nilH 0) _ _ hr) hK (fun g w vs hv => atoms_g _ _ vs hv) (fun g w v hv => by simpa only [VR] using hv) (fun g w v hv => by simpa only [VR] using hv) (fun g w vs hv => ?_)
    · show 0 < (4 + 5 * 16) + _
      omega
    · unfold A9 shIn shBase at hv ⊢
      simp only [VRs, VR] at hv ⊢
      exact hv
  · cases hB
end Go.Proofs
