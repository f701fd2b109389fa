import Derived.Test.YtfdjdnphbakjoaaPqHead
namespace Go.Proofs
open Go.Ab
set_option maxRecDepth 1000000

section
variable [Io]
theorem dig_imp {g : G} {w : World} (i : Nat) : ∀ (ps : List Nat) (vs : List Value), VRs g w (digA i ps) vs → VRs g w ((ps.map (byteE (Io.io i))).map fun b => AV.int .u8 b) vs
  | [], vs, h => h
  | p :: ps, vs, h => by
    change VRs g w (.sym .u8 (.dig i p (bif Nat.beq p 72057594037927936 then 0 else 256)) 0 255 0 :: digA i ps) vs at h
    simp only [VRs, VR] at h
    obtain ⟨v, l, rfl, ⟨rfl, h1, h2⟩, hr⟩ := h
    simp only [List.map_cons, VRs, VR]
    refine ⟨_, _, rfl, ?_, dig_imp i ps l hr⟩
    have e : byteE (Io.io i) p = (Io.io i / (p : Int)) % 256 := by
      show (Int.fdiv (Io.io i) (p : Int)) % 256 = _
      rw [Int.fdiv_eq_ediv_of_nonneg _ (by omega)]
    rw [e, Int.add_zero]
    cases hb : Nat.beq p 72057594037927936 with
    | false => rfl
    | true =>
      rw [hb] at h1 h2
      have h1' : 0 ≤ (Io.io i / (p : Int)) % ((0 : Nat) : Int) := h1
      have h2' : (Io.io i / (p : Int)) % ((0 : Nat) : Int) ≤ 255 := h2
      show Value.int .u8 ((Io.io i / (p : Int)) % ((0 : Nat) : Int)) = _
      rw [show ((0 : Nat) : Int) = 0 from rfl, Int.emod_zero] at h1' h2' ⊢
      rw [Int.emod_eq_of_lt h1' (by omega)]
theorem known29 (hb : BytesIo) (l : List (Int × Int)) (hl : l.length = 16) (hbd : ∀ (k : Nat) (p : Int × Int) b, l[k]? = some p → (bytesE (Io.io 2) (Io.io 3))[k]? = some b → p.1 ≤ b ∧ b ≤ p.2) : Known Try.prog 29 joinA (.agg (selL l 0)) := by
  refine ⟨Try.call29, fun g w vs hi hv => ?_⟩
  obtain ⟨v0, h', r1, r2⟩ := res_some join29
  have hc := pureC_of (Try.ok 1000 50) r1 r2 g.imm w vs hi (by
    unfold joinA at hv ⊢
    simp only [VRs, VR] at hv ⊢
    exact hv)
  refine hc.mono ?_
  rintro e w' ⟨y, rfl, K, hy⟩
  refine ⟨y, rfl, K, agg_imp (fun vs hv => ?_) hy⟩
  rw [app_eq] at hv
  obtain ⟨us, ts, rfl, q1, q2⟩ := hv.split
  have q := VRs.append (dig_imp 2 pows us q1) (dig_imp 3 pows ts q2)
  rw [← List.map_append] at q
  exact selL_imp l (bytesE (Io.io 2) (Io.io 3)) 0 _ (by rw [hl]; rfl) (fun k b e => by rw [Nat.zero_add]; exact hb k b e) hbd q
theorem tblQ_ok {l : List (Int × Int)} (hb : BytesIo) (hl : l.length = 16) (hbd : ∀ (k : Nat) (p : Int × Int) b, l[k]? = some p → (bytesE (Io.io 2) (Io.io 3))[k]? = some b → p.1 ≤ b ∧ b ≤ p.2) :
    ∀ f args v, Try.tblQ (selL l 0) f args = some v → Known Try.prog f args v :=
  fun f args v e => lookF_ok1 (tbl := [(10, lookR Try.rows10), (20, lookR Try.rows20), (21, lookA joinA (.agg (selL l 0))), (28, lookR Try.rows28), (29, lookA joinA (.agg (selL l 0))), (8, look0 (.bool true))]) (fun p hp args v e => by
    rcases List.mem_cons.1 hp with rfl | hp
    · exact lookR_ok Try.rows10_ok _ args v e
    rcases List.mem_cons.1 hp with rfl | hp
    · exact lookR_ok Try.rows20_ok _ args v e
    rcases List.mem_cons.1 hp with rfl | hp
    · exact lookA_ok (known21 hb l hl hbd) args v e
    rcases List.mem_cons.1 hp with rfl | hp
    · exact lookR_ok Try.rows28_ok _ args v e
    rcases List.mem_cons.1 hp with rfl | hp
    · exact lookA_ok (known29 hb l hl hbd) args v e
    rcases List.mem_cons.1 hp with rfl | hp
    · exact look0_ok (fun J => @Try.ok J 5000 40) Try.k8 _ args v e
    · cases hp) f args v e

/-- The n first three numbers are cells that may stand there. -/
def StrIo (n : Nat) : Prop := ∀ k, k < n → ∃ a b, strIn a b = true ∧ Io.io (1000 + 3 * k) = valA a ∧ Io.io (1000 + 3 * k + 1) = valA b
noncomputable def okP (a : AV) : Bool := match a with
  | .int .i64 _ => true
  | .sym .i64 (.var 5) 0 4032 _ => true
  | _ => false
omit [Io] in
theorem okP_all : allB (fun p : AV × AV => okP p.1 && okP p.2) strL = true := by kernel_rfl
omit [Io] in
theorem strIn_mem {a b : AV} (h : strIn a b = true) : (a, b) ∈ strL := by
  have key : ∀ l : List (AV × AV), (List.rec false (fun p _ ih => bif eq1F p.1 a && eq1F p.2 b then true else ih) l : Bool) = true → (a, b) ∈ l := by
    intro l
    induction l with
    | nil => intro h; cases h
    | cons p l ih =>
      intro h
      cases hp : (eq1F p.1 a && eq1F p.2 b) with
      | true =>
        rw [Bool.and_eq_true] at hp
        have : p = (a, b) := Prod.ext (eq1F_iff hp.1) (eq1F_iff hp.2)
        rw [this]
        exact List.mem_cons_self
      | false =>
        simp only [hp, cond_false] at h
        exact List.mem_cons_of_mem _ (ih h)
  exact key strL h
theorem okP_vr {a : AV} (h : okP a = true) (h1 : 0 ≤ Io.io 5) (h2 : Io.io 5 ≤ 4032) (g : G) (w : World) : VR g w a (.int .i64 (valA a)) := by
  unfold okP at h
  split at h
  · simp only [VR, valA]
  · simp only [VR, valA]
    exact ⟨trivial, h1, h2⟩
  · cases h
theorem lookST_ok {n : Nat} (hS : StrIo n) (args : List AV) (v : AV) (e : lookST n args = some v) : Known Try.prog 13 args v := by
  unfold lookST at e
  split at e
  · rename_i k i lo hi o b c x y
    obtain ⟨h1, h2⟩ := condS e
    cases h2
    simp only [Bool.and_eq_true] at h1
    obtain ⟨⟨p1, p2, p3⟩, q1, q2, q3, q4, q5⟩ := h1
    have q1 := eq1F_iff q1
    rw [q1]
    obtain rfl := eq1F_iff q2
    obtain rfl := eq1F_iff q3
    obtain rfl := eq1F_iff q4
    obtain rfl := eq1F_iff q5
    have p1 := Nat.le_of_ble_eq_true p1
    have p2 : (i - 1000) % 3 = 0 := Nat.eq_of_beq_eq_true p2
    have p3 : (i - 1000) / 3 < n := blt_iff.1 p3
    obtain ⟨a, b, hin, ha, hb⟩ := hS _ p3
    have hi3 : 1000 + 3 * ((i - 1000) / 3) = i := by omega
    rw [hi3] at ha hb
    have hok := okP_all
    rw [allB_eq, List.all_eq_true] at hok
    have hok := hok _ (strIn_mem hin)
    rw [Bool.and_eq_true] at hok
    obtain ⟨h', hr⟩ := isT_ok (strIn_run hin)
    refine ⟨Try.call13, fun g w vs hi hv => ?_⟩
    have hc : CallOk Try.prog (gCall Try.fb.get (fun c => orc (lookF [(28, lookR Try.rows28)]) c) 5000 40) := okG (fun c hc => orc_ok (fun f args v e => lookF_ok1 (tbl := [(28, lookR Try.rows28)]) (fun p hp args v e => by
      rcases List.mem_cons.1 hp with rfl | hp
      · exact lookR_ok Try.rows28_ok _ args v e
      · cases hp) f args v e) hc) 5000 40
    refine (pureC_of (n := 8) hc hr (v' := .bool true) rfl g.imm w vs hi ?_).mono ?_
    · change VRs g w [.agg [.sym .i64 (.var i) (-9223372036854775808) 9223372036854775807 0, .sym .i64 (.var (Nat.add i 1)) (-9223372036854775808) 9223372036854775807 0, .sym .u64 (.var (Nat.add i 2)) 0 18446744073709551615 0], shBase, baseE] vs at hv
      unfold shBase baseE at hv ⊢
      simp only [VRs, VR] at hv ⊢
      obtain ⟨v1, l1, rfl, ⟨us, rfl, u1, m1, e1, ⟨rfl, _, _⟩, u2, m2, rfl, ⟨rfl, _, _⟩, u3, m3, rfl, ⟨rfl, _, _⟩, rfl⟩, v2, l2, rfl, ⟨rfl, c1, c2⟩, v3, l3, rfl, ⟨rfl, _, _⟩, rfl⟩ := hv
      refine ⟨_, _, rfl, ⟨us, rfl, _, _, e1, ?_, _, _, rfl, ?_, _, _, rfl, rfl, rfl⟩, _, _, rfl, ⟨rfl, c1, c2⟩, _, _, rfl, ⟨rfl, c1, c2⟩, rfl⟩
      · rw [show evalSV (.var i) + 0 = valA a by rw [Int.add_zero]; exact ha]
        exact okP_vr hok.1 c1 c2 _ _
      · rw [show evalSV (.var (Nat.add i 1)) + 0 = valA b by rw [Int.add_zero]; exact hb]
        exact okP_vr hok.2 c1 c2 _ _
    · rintro e w' ⟨y, rfl, K, hy⟩
      exact ⟨y, rfl, K, hy⟩
  · cases e
end

/-- The law PermuteSeqs, where the opcode, the first field and the base lie between two numbers. -/
def PqR (A B C D E F : Int) : Prop := ∀ (op : Int), A ≤ op → op ≤ B → ∀ (a : Int), C ≤ a → a ≤ D → ∀ (base : Int), E ≤ base → base ≤ F → ∀ (v2 v5 : Value), v2.oneCell' = true → v5.oneCell' = true →
  ∀ (lo hi : Int), 0 ≤ lo → lo ≤ 18446744073709551615 → 0 ≤ hi → hi ≤ 18446744073709551615 → ∀ w : World,
    Calls Try.prog 3 #[.agg #[.int .i64 op, .int .i64 a, v2, .int .u64 lo, .int .u64 hi, v5], .int .i64 base] w fun e w' => e = .returned (.bool true) ∧ Go.RowKit.Below w.heap.size w w'
def PqB (A B E F : Int) : Prop := PqR A B (-9223372036854775808) 9223372036854775807 E F
def PqL (A B : Int) : Prop := PqB A B (-9223372036854775808) 9223372036854775807
theorem PqL.join {A B C D : Int} (h : PqL A B) (k : PqL C D) (hc : C ≤ B + 1) : PqL A D :=
  fun op h1 h2 => if hb : op ≤ B then h op h1 hb else k op (by omega) h2
theorem PqR.join {A B C D C' D' E F : Int} (h : PqR A B C D E F) (k : PqR A B C' D' E F) (hc : C' ≤ D + 1) : PqR A B C D' E F :=
  fun op h1 h2 a h3 h4 => if hb : a ≤ D then h op h1 h2 a h3 hb else k op h1 h2 a (by omega) h4
theorem pq_three {A B : Int} (h1 : PqB A B (-9223372036854775808) (-1)) (h2 : PqB A B 0 4032) (h3 : PqB A B 4033 9223372036854775807) : PqL A B :=
  fun op a b x c d base e f => if hb : base ≤ -1 then h1 op a b x c d base e hb else if hc : base ≤ 4032 then h2 op a b x c d base (by omega) hc else h3 op a b x c d base (by omega) f

@[reducible] noncomputable def ioQ (op a lo hi base : Int) : Io := ⟨fun i => if i = 0 then base else if i = 1 then op else if i = 2 then lo else if i = 3 then hi else if i = 5 then base else if i = 6 then a else
  (bytesE lo hi).getD (i - 20) 0⟩
theorem ioQ_bytes (op a lo hi base : Int) : @BytesIo (ioQ op a lo hi base) := by
  intro k b e
  show (if 20 + k = 0 then base else if 20 + k = 1 then op else if 20 + k = 2 then lo else if 20 + k = 3 then hi else if 20 + k = 5 then base else if 20 + k = 6 then a else
    (bytesE lo hi).getD (20 + k - 20) 0) = b
  rw [if_neg (by omega), if_neg (by omega), if_neg (by omega), if_neg (by omega), if_neg (by omega), if_neg (by omega), show 20 + k - 20 = k by omega, List.getD_eq_getElem?_getD]
  have e' : (bytesE lo hi)[k]? = some b := e
  rw [e']
  rfl
theorem pq_of {l : List (Int × Int)} {o oa : AV} {op a lo hi base E F : Int} (e : pqR l o oa E F = true) (hl : l.length = 16) (hbd : ∀ (k : Nat) (p : Int × Int) b, l[k]? = some p → (bytesE lo hi)[k]? = some b → p.1 ≤ b ∧ b ≤ p.2)
    (ho : ∀ (g : G) (w : World), @VR (ioQ op a lo hi base) g w o (.int .i64 op)) (ha : ∀ (g : G) (w : World), @VR (ioQ op a lo hi base) g w oa (.int .i64 a)) {v2 v5 : Value} (o2 : v2.oneCell' = true) (o5 : v5.oneCell' = true)
    (l1 : 0 ≤ lo) (l2 : lo ≤ 18446744073709551615) (m1 : 0 ≤ hi) (m2 : hi ≤ 18446744073709551615) (b1 : E ≤ base) (b2 : base ≤ F) (w : World) :
    Calls Try.prog 3 #[.agg #[.int .i64 op, .int .i64 a, v2, .int .u64 lo, .int .u64 hi, v5], .int .i64 base] w fun e w' => e = .returned (.bool true) ∧ Go.RowKit.Below w.heap.size w w' := by
  letI I : Io := ioQ op a lo hi base
  have hw : ∀ c, CallOk Try.prog c → CallOk Try.prog (wQ l c) := fun c hc => orc_ok (tblQ_ok (ioQ_bytes op a lo hi base) hl hbd) hc
  refine law_ok (vs := [.agg #[.int .i64 op, .int .i64 a, v2, .int .u64 lo, .int .u64 hi, v5], .int .i64 base]) (okG hw 5000 40) e w ?_
  simp only [VRs, VR, baseQ, u64A]
  refine ⟨_, _, rfl, ⟨_, rfl, _, _, rfl, ho _ _, _, _, rfl, ha _ _, _, _, rfl, o2, _, _, rfl, ⟨?_, l1, l2⟩, _, _, rfl, ⟨?_, m1, m2⟩, _, _, rfl, o5, rfl⟩, _, _, rfl, ⟨?_, b1, b2⟩, rfl⟩
  · show Value.int .u64 lo = .int .u64 (lo + 0); rw [Int.add_zero]
  · show Value.int .u64 hi = .int .u64 (hi + 0); rw [Int.add_zero]
  · show Value.int .i64 base = .int .i64 (base + 0); rw [Int.add_zero]
theorem pq_int {A E F : Int} (e : pqR lFull (.int .i64 A) .any E F = true) : PqB A A E F :=
  fun op h1 h2 _ _ _ _ b1 b2 _ _ o2 o5 lo hi l1 l2 m1 m2 w => pq_of e rfl (lFull_ok lo hi) (fun _ _ => vr_lit (by omega)) (fun _ _ => vr_any) o2 o5 l1 l2 m1 m2 b1 b2 w
theorem pq_sym {A B E F : Int} (e : pqR lFull (.sym .i64 (.var 1) A B 0) .any E F = true) : PqB A B E F :=
  fun op h1 h2 _ _ _ _ b1 b2 _ _ o2 o5 lo hi l1 l2 m1 m2 w => pq_of e rfl (lFull_ok lo hi) (fun _ _ => vr_sym rfl h1 h2) (fun _ _ => vr_any) o2 o5 l1 l2 m1 m2 b1 b2 w
theorem pq_lane {A C E F : Int} (e : pqR lFull (.int .i64 A) (.int .i64 C) E F = true) : PqR A A C C E F :=
  fun op h1 h2 a h3 h4 _ b1 b2 _ _ o2 o5 lo hi l1 l2 m1 m2 w => pq_of e rfl (lFull_ok lo hi) (fun _ _ => vr_lit (by omega)) (fun _ _ => vr_lit (by omega)) o2 o5 l1 l2 m1 m2 b1 b2 w
theorem pq_lanes {A C D E F : Int} (e : pqR lFull (.int .i64 A) (.sym .i64 (.var 6) C D 0) E F = true) : PqR A A C D E F :=
  fun op h1 h2 a h3 h4 _ b1 b2 _ _ o2 o5 lo hi l1 l2 m1 m2 w => pq_of e rfl (lFull_ok lo hi) (fun _ _ => vr_lit (by omega)) (fun _ _ => vr_sym rfl h3 h4) o2 o5 l1 l2 m1 m2 b1 b2 w
end Go.Proofs
