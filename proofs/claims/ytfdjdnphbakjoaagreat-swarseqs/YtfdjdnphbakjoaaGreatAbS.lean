import Derived.Test.YtfdjdnphbakjoaaGreatAb10
namespace Go.Ab
variable [Io]
section
variable {P : Program}

theorem bin_orS {op : BinOp} {T : TypeId} {f s : AV → AV → Option AV} (hf : BinOk P op T f)
    (hs : ∀ (a b r : AV), s a b = some r → (∀ (g : G) (w : World) (u v : Value), VR g w a u → VR g w b v → ∃ k m k' n r0, u = .int k m ∧ v = .int k' n ∧ f (.int k m) (.int k' n) = some r0 ∧ ∀ z, VR g w r0 z → VR g w r z)) :
    BinOk P op T (orS f s) := by
  intro g w a b r u v ha hb h
  unfold orS at h
  cases hr : f a b with
  | some r' =>
    rw [hr] at h
    cases h
    exact hf g w a b r u v ha hb hr
  | none =>
    rw [hr] at h
    obtain ⟨k, m, k', n, r0, rfl, rfl, h1, h2⟩ := hs a b r h g w u v ha hb
    obtain ⟨z, hz, hv, hg⟩ := hf g w (.int k m) (.int k' n) r0 (.int k m) (.int k' n) (by simp only [VR]) (by simp only [VR]) h1
    exact ⟨z, hz, h2 z hv, hg⟩

omit [Io] in
theorem addE (a b : Int) : Int.add a b = a + b := rfl
omit [Io] in
theorem subE (a b : Int) : Int.sub a b = a - b := rfl
omit [Io] in
theorem ltI_iff {a b : Int} : ltI a b = true ↔ a < b := by rw [ltI_eq]; simp
omit [Io] in
theorem ltI_not {a b : Int} : ltI a b = false ↔ b ≤ a := by rw [ltI_eq]; simp
omit [Io] in
theorem eqI_iff {a b : Int} : eqI a b = true ↔ a = b := by rw [eqI_eq]; simp
omit [Io] in
theorem eqI_dec (m n : Int) : eqI m n = decide (m = n) := by
  by_cases e : m = n
  · rw [eqI_iff.2 e]; simp [e]
  · rw [show eqI m n = false from by rw [Bool.eq_false_iff]; exact fun h => e (eqI_iff.1 h)]; simp [e]
omit [Io] in
theorem eqSV_iff {a b : SV} (h : eqSV a b = true) : a = b := by
  cases a <;> cases b <;> simp [eqSV] at h <;> simp [h]
omit [Io] in
theorem fitK_iff {k : IntKind} {lo hi o : Int} (h : fitK k lo hi o = true) : loK k ≤ lo + o ∧ hi + o ≤ hiK k := by
  unfold fitK at h
  simp only [Bool.and_eq_true, Bool.not_eq_true', ltI_not] at h
  exact h
omit [Io] in
theorem wrap_fit {k : IntKind} {n x : Int} (h1 : loK k ≤ n) (h2 : n ≤ hiK k) (h : x = n ∨ x = n - modK k ∨ x = n + modK k) : wrapF k x = n := by
  cases k <;> simp only [loK, hiK, modK] at h1 h2 h <;> simp only [wrapF] <;>
    first
      | (show x % _ = n; omega)
      | (show (x + _) % _ - _ = n; omega)

theorem symK_ok {k : IntKind} {s : SV} {lo hi o x : Int} {r : AV} (h : symK k s lo hi o = some r) (h1 : lo ≤ evalSV s) (h2 : evalSV s ≤ hi) (hx : x = evalSV s + o) (g : G) (w : World) :
    ∀ z, VR g w (.int k (wrapF k x)) z → VR g w r z := by
  intro z hz
  simp only [VR] at hz
  subst hz
  unfold symK at h
  cases c1 : fitK k lo hi o with
  | true =>
    rw [c1] at h
    cases h
    obtain ⟨f1, f2⟩ := fitK_iff c1
    simp only [VR]
    exact ⟨by rw [wrap_fit (n := evalSV s + o) (by omega) (by omega) (.inl hx)], h1, h2⟩
  | false =>
  rw [c1] at h
  simp only [cond_false] at h
  cases c2 : fitK k lo hi (Int.add o (modK k)) with
  | true =>
    rw [c2] at h
    cases h
    obtain ⟨f1, f2⟩ := fitK_iff c2
    have e : Int.add o (modK k) = o + modK k := rfl
    rw [e] at f1 f2
    simp only [VR, e]
    exact ⟨by rw [wrap_fit (n := evalSV s + (o + modK k)) (by omega) (by omega) (.inr (.inl (by omega)))], h1, h2⟩
  | false =>
  rw [c2] at h
  simp only [cond_false] at h
  cases c3 : fitK k lo hi (Int.sub o (modK k)) with
  | true =>
    rw [c3] at h
    cases h
    obtain ⟨f1, f2⟩ := fitK_iff c3
    have e : Int.sub o (modK k) = o - modK k := rfl
    rw [e] at f1 f2
    simp only [VR, e]
    exact ⟨by rw [wrap_fit (n := evalSV s + (o - modK k)) (by omega) (by omega) (.inr (.inr (by omega)))], h1, h2⟩
  | false => rw [c3] at h; cases h

omit [Io] in
theorem bInt_int {f : IntKind → Int → Int → Option AV} {k : IntKind} {m n : Int} : bInt f (.int k m) (.int k n) = f k m n := by
  unfold bInt
  simp only [eqK_iff.2 rfl, cond_true]

omit [Io] in
theorem condS {α : Type} {b : Bool} {x : Option α} {r : α} (h : (bif b then x else none) = some r) : b = true ∧ x = some r := by
  cases b
  · cases h
  · exact ⟨rfl, h⟩

theorem bin_addS (T : TypeId) : BinOk P .add T bAddS := bin_orS (bin_add T) (by
  intro a b r h g w u v ha hb
  unfold sAdd at h
  split at h
  · replace h := condS h
    obtain ⟨hk, h⟩ := h
    obtain rfl := eqK_iff.1 hk
    simp only [VR] at ha hb
    obtain ⟨rfl, h1, h2⟩ := ha
    subst hb
    exact ⟨_, _, _, _, _, rfl, rfl, bInt_int, symK_ok h h1 h2 (by simp only [addE]; omega) g w⟩
  · replace h := condS h
    obtain ⟨hk, h⟩ := h
    obtain rfl := eqK_iff.1 hk
    simp only [VR] at ha hb
    obtain ⟨rfl, h1, h2⟩ := hb
    subst ha
    exact ⟨_, _, _, _, _, rfl, rfl, bInt_int, symK_ok h h1 h2 (by simp only [addE]; omega) g w⟩
  · cases h)

theorem bin_subS (T : TypeId) : BinOk P .sub T bSubS := bin_orS (bin_sub T) (by
  intro a b r h g w u v ha hb
  unfold sSub at h
  split at h
  · replace h := condS h
    obtain ⟨hk, h⟩ := h
    obtain rfl := eqK_iff.1 hk
    simp only [VR] at ha hb
    obtain ⟨rfl, h1, h2⟩ := ha
    subst hb
    exact ⟨_, _, _, _, _, rfl, rfl, bInt_int, symK_ok h h1 h2 (by simp only [subE]; omega) g w⟩
  · replace h := condS h
    obtain ⟨hk, h⟩ := h
    rw [Bool.and_eq_true] at hk
    obtain rfl := eqK_iff.1 hk.1
    obtain rfl := eqSV_iff hk.2
    simp only [VR] at ha hb
    obtain ⟨rfl, h1, h2⟩ := ha
    obtain ⟨rfl, h3, h4⟩ := hb
    cases h
    refine ⟨_, _, _, _, _, rfl, rfl, bInt_int, ?_⟩
    intro z hz
    simp only [VR] at hz ⊢
    rw [hz]
    congr 2
    simp only [subE]
    omega
  · cases h)

/-- Two numbers of one kind. -/
theorem ltS_ok {a b : AV} {c : Bool} (h : ltS a b = some c) {g : G} {w : World} {u v : Value} (ha : VR g w a u) (hb : VR g w b v) : ∃ k m n, u = .int k m ∧ v = .int k n ∧ c = decide (m < n) := by
  unfold ltS at h
  split at h
  · replace h := condS h
    obtain ⟨hk, h⟩ := h
    obtain rfl := eqK_iff.1 hk
    simp only [VR] at ha hb
    obtain ⟨rfl, h1, h2⟩ := ha
    subst hb
    refine ⟨_, _, _, rfl, rfl, ?_⟩
    rename_i lo hi o c'
    cases c1 : ltI (Int.add hi o) c' with
    | true =>
      rw [c1] at h; cases h
      have : hi + o < c' := ltI_iff.1 c1
      simp; omega
    | false =>
      rw [c1] at h
      simp only [cond_false] at h
      cases c2 : ltI (Int.add lo o) c' with
      | true => rw [c2] at h; cases h
      | false =>
        rw [c2] at h; cases h
        have : c' ≤ lo + o := ltI_not.1 c2
        simp; omega
  · replace h := condS h
    obtain ⟨hk, h⟩ := h
    obtain rfl := eqK_iff.1 hk
    simp only [VR] at ha hb
    obtain ⟨rfl, h1, h2⟩ := hb
    subst ha
    refine ⟨_, _, _, rfl, rfl, ?_⟩
    rename_i c' k s lo hi o
    cases c1 : ltI c' (Int.add lo o) with
    | true =>
      rw [c1] at h; cases h
      have : c' < lo + o := ltI_iff.1 c1
      simp; omega
    | false =>
      rw [c1] at h
      simp only [cond_false] at h
      cases c2 : ltI c' (Int.add hi o) with
      | true => rw [c2] at h; cases h
      | false =>
        rw [c2] at h; cases h
        have : hi + o ≤ c' := ltI_not.1 c2
        simp; omega
  · replace h := condS h
    obtain ⟨hk, h⟩ := h
    rw [Bool.and_eq_true] at hk
    obtain rfl := eqK_iff.1 hk.1
    obtain rfl := eqSV_iff hk.2
    simp only [VR] at ha hb
    obtain ⟨rfl, h1, h2⟩ := ha
    obtain ⟨rfl, h3, h4⟩ := hb
    cases h
    refine ⟨_, _, _, rfl, rfl, ?_⟩
    rw [ltI_eq]
    congr 1
    apply propext
    constructor <;> omega
  · cases h
theorem eqS_ok {a b : AV} {c : Bool} (h : eqS a b = some c) {g : G} {w : World} {u v : Value} (ha : VR g w a u) (hb : VR g w b v) : ∃ k m n, u = .int k m ∧ v = .int k n ∧ c = decide (m = n) := by
  have one : ∀ {lo hi o c' x : Int}, (bif ltI c' (Int.add lo o) || ltI (Int.add hi o) c' then some false else bif eqI (Int.add lo o) c' && eqI (Int.add hi o) c' then some true else none) = some c → lo ≤ x → x ≤ hi → c = decide (x + o = c') := by
    intro lo hi o c' x h h1 h2
    cases c1 : (ltI c' (Int.add lo o) || ltI (Int.add hi o) c') with
    | true =>
      rw [c1] at h; cases h
      rw [Bool.or_eq_true] at c1
      rcases c1 with c1 | c1
      · have : c' < lo + o := ltI_iff.1 c1
        simp; omega
      · have : hi + o < c' := ltI_iff.1 c1
        simp; omega
    | false =>
      rw [c1] at h
      simp only [cond_false] at h
      replace h := condS h
      obtain ⟨c2, h⟩ := h
      cases h
      rw [Bool.and_eq_true] at c2
      have e1 : lo + o = c' := eqI_iff.1 c2.1
      have e2 : hi + o = c' := eqI_iff.1 c2.2
      simp; omega
  unfold eqS at h
  split at h
  · replace h := condS h
    obtain ⟨hk, h⟩ := h
    obtain rfl := eqK_iff.1 hk
    simp only [VR] at ha hb
    obtain ⟨rfl, h1, h2⟩ := ha
    subst hb
    exact ⟨_, _, _, rfl, rfl, one h h1 h2⟩
  · replace h := condS h
    obtain ⟨hk, h⟩ := h
    obtain rfl := eqK_iff.1 hk
    simp only [VR] at ha hb
    obtain ⟨rfl, h1, h2⟩ := hb
    subst ha
    refine ⟨_, _, _, rfl, rfl, ?_⟩
    rw [one h h1 h2]
    congr 1
    exact propext ⟨fun e => e.symm, fun e => e.symm⟩
  · replace h := condS h
    obtain ⟨hk, h⟩ := h
    rw [Bool.and_eq_true] at hk
    obtain rfl := eqK_iff.1 hk.1
    obtain rfl := eqSV_iff hk.2
    simp only [VR] at ha hb
    obtain ⟨rfl, h1, h2⟩ := ha
    obtain ⟨rfl, h3, h4⟩ := hb
    cases h
    refine ⟨_, _, _, rfl, rfl, ?_⟩
    rw [eqI_dec]
    congr 1
    apply propext
    constructor <;> omega
  · cases h

omit [Io] in
theorem optB {o : Option Bool} {f : Bool → AV} {r : AV} (h : (Option.rec none (fun b => some (f b)) o : Option AV) = some r) : ∃ b, o = some b ∧ r = f b := by
  cases o with
  | none => cases h
  | some b => cases h; exact ⟨b, rfl, rfl⟩

theorem vr_bool {g : G} {w : World} {b c : Bool} (h : b = c) : ∀ z, VR g w (.bool b) z → VR g w (.bool c) z := by subst h; exact fun _ h => h
theorem bin_lssS (T : TypeId) : BinOk P .lss T bLssS := bin_orS (bin_lss T) (by
  intro a b r h g w u v ha hb
  obtain ⟨c, h', rfl⟩ := optB h
  obtain ⟨k, m, n, rfl, rfl, e⟩ := ltS_ok h' ha hb
  exact ⟨_, _, _, _, _, rfl, rfl, bInt_int, vr_bool (by rw [e, ltI_eq])⟩)
theorem bin_gtrS (T : TypeId) : BinOk P .gtr T bGtrS := bin_orS (bin_gtr T) (by
  intro a b r h g w u v ha hb
  obtain ⟨c, h', rfl⟩ := optB h
  obtain ⟨k, m, n, rfl, rfl, e⟩ := ltS_ok h' hb ha
  exact ⟨_, _, _, _, _, rfl, rfl, bInt_int, vr_bool (by rw [e, ltI_eq])⟩)
theorem bin_leqS (T : TypeId) : BinOk P .leq T bLeqS := bin_orS (bin_leq T) (by
  intro a b r h g w u v ha hb
  obtain ⟨c, h', rfl⟩ := optB h
  obtain ⟨k, m, n, rfl, rfl, e⟩ := ltS_ok h' hb ha
  exact ⟨_, _, _, _, _, rfl, rfl, bInt_int, vr_bool (by rw [e, ltI_eq])⟩)
theorem bin_geqS (T : TypeId) : BinOk P .geq T bGeqS := bin_orS (bin_geq T) (by
  intro a b r h g w u v ha hb
  obtain ⟨c, h', rfl⟩ := optB h
  obtain ⟨k, m, n, rfl, rfl, e⟩ := ltS_ok h' ha hb
  exact ⟨_, _, _, _, _, rfl, rfl, bInt_int, vr_bool (by rw [e, ltI_eq])⟩)
theorem bin_eqIS (T : TypeId) : BinOk P .eql T (bEqIS false) := bin_orS (bin_eqI T) (by
  intro a b r h g w u v ha hb
  obtain ⟨c, h', rfl⟩ := optB h
  obtain ⟨k, m, n, rfl, rfl, e⟩ := eqS_ok h' ha hb
  exact ⟨_, _, _, _, _, rfl, rfl, bInt_int, vr_bool (by rw [e, eqI_dec])⟩)
theorem bin_neIS (T : TypeId) : BinOk P .neq T (bEqIS true) := bin_orS (bin_neI T) (by
  intro a b r h g w u v ha hb
  obtain ⟨c, h', rfl⟩ := optB h
  obtain ⟨k, m, n, rfl, rfl, e⟩ := eqS_ok h' ha hb
  exact ⟨_, _, _, _, _, rfl, rfl, bInt_int, vr_bool (by rw [e, eqI_dec])⟩)
theorem bin_remS (T : TypeId) : BinOk P .rem T bRemS := bin_orS (bin_rem T) (by
  intro a b r h g w u v ha hb
  unfold sRem at h
  split at h
  · replace h := condS h
    obtain ⟨hc, h⟩ := h
    rename_i i lo hi c
    simp only [VR] at ha hb
    obtain ⟨rfl, h1, h2⟩ := ha
    subst hb
    cases h
    have hc' := blt_iff.1 hc
    refine ⟨_, _, _, _, AV.int .u64 ((Int.tmod (evalSV (.uvar i) + 0) (Int.ofNat c))), rfl, rfl, ?_, ?_⟩
    · rw [bRem, bInt_int, show eqI (Int.ofNat c) 0 = false from by
        rw [Bool.eq_false_iff]; intro e
        have : ((c : Nat) : Int) = 0 := eqI_iff.1 e
        omega]
      rfl
    · intro z hz
      simp only [VR] at hz ⊢
      subst hz
      have hn : (0 : Int) ≤ Io.io i % 18446744073709551616 := Int.emod_nonneg _ (by decide)
      have hc0 : (0 : Int) < (c : Int) := by omega
      have e : Int.tmod (evalSV (.uvar i) + 0) (Int.ofNat c) = evalSV (.umod i c) := by
        rw [Int.add_zero]
        show Int.tmod (Io.io i % 18446744073709551616) (c : Int) = (Io.io i % 18446744073709551616) % (c : Int)
        exact Int.tmod_eq_emod_of_nonneg hn
      refine ⟨by rw [e, Int.add_zero], Int.emod_nonneg _ (by omega), ?_⟩
      have := Int.emod_lt_of_pos (Io.io i % 18446744073709551616) hc0
      show (Io.io i % 18446744073709551616) % (c : Int) ≤ (c : Int) - 1
      omega
  · cases h)

theorem pure_cIntS {o : Oper} {S D : TypeId} {d : TypeDesc} {k : IntKind} {x : Operand} (ho : o.op = .convert S D x) (hS : P.underlying S = some d) (hD : P.underlying D = some (.int k)) :
    OpPure P o (kUn (cIntS k) (cOpd x)) := by
  intro g w nt t h a v h' H Tr e
  obtain ⟨b, hb, hf, rfl⟩ := kUn_some e
  have hv := cOpd_ok x _ _ _ _ _ _ Tr hb
  have key : ∃ k' m r0, a.eval x = .int k' m ∧ cInt k (.int k' m) = some r0 ∧ ∀ z, VR g w r0 z → VR g w v z := by
    unfold cIntS orS1 at hf
    cases hr : cInt k b with
    | some r =>
      rw [hr] at hf
      cases hf
      unfold cInt at hr
      split at hr
      · cases hr
        simp only [VR] at hv
        exact ⟨_, _, _, hv, rfl, fun z h => h⟩
      · cases hr
    | none =>
      rw [hr] at hf
      change sInt k b = some v at hf
      unfold sInt at hf
      split at hf
      · rename_i k' s lo hi o
        simp only [VR] at hv
        obtain ⟨hv, h1, h2⟩ := hv
        refine ⟨_, _, _, hv, rfl, fun z hz => ?_⟩
        simp only [VR] at hz
        subst hz
        cases hfit : fitK k lo hi o with
        | true =>
          rw [hfit] at hf
          cases hf
          obtain ⟨f1, f2⟩ := fitK_iff hfit
          simp only [VR]
          exact ⟨by rw [wrap_fit (n := evalSV s + o) (by omega) (by omega) (.inl rfl)], h1, h2⟩
        | false =>
          rw [hfit] at hf
          simp only [cond_false] at hf
          split at hf
          · cases hf
            rename_i i
            have hn : (0 : Int) ≤ Io.io i % 18446744073709551616 := Int.emod_nonneg _ (by decide)
            have hl := Int.emod_lt_of_pos (Io.io i) (show (0 : Int) < 18446744073709551616 by decide)
            simp only [VR]
            refine ⟨?_, hn, by show Io.io i % 18446744073709551616 ≤ _; omega⟩
            show Value.int .u64 ((Io.io i + 0) % 18446744073709551616) = Value.int .u64 (Io.io i % 18446744073709551616 + 0)
            rw [Int.add_zero, Int.add_zero]
          · cases hf
      · cases hf
  obtain ⟨k', m, r0, hv', hr, hz⟩ := key
  cases hr
  exact ⟨rfl, .int k (k.wrap m), by simp [execOp, ho, hv', convert, run_underlying hS, run_underlying hD, Conv.intToInt], hz _ (by simp only [VR, wrapF_eq])⟩

end
end Go.Ab
