import Derived.Test.YtallpbickepdbaaGreatDoorAb27
namespace Go.Ab

-- numbers seen under two namings
abbrev Ev := List (Nat × Option SV × Int)
def evGet : Ev → Nat → Option (Option SV × Int)
  | [], _ => none
  | p :: e, j => bif Nat.beq p.1 j then some p.2 else evGet e j
def baseV (B : Nat → Int) : Option SV → Int
  | some s => @evalSV ⟨B⟩ s
  | none => 0
/-- The numbers, some of them told anew. -/
abbrev apIo (e : Ev) (B : Nat → Int) : Io := ⟨fun j => match evGet e j with
  | some (i, d) => baseV B i + d
  | none => B j⟩
theorem apIo_some {e : Ev} {B : Nat → Int} {j : Nat} {i : Option SV} {d : Int} (h : evGet e j = some (i, d)) : (apIo e B).io j = baseV B i + d := by
  show (match evGet e j with | some (i, d) => baseV B i + d | none => B j) = _
  rw [h]
theorem apIo_none {e : Ev} {B : Nat → Int} {j : Nat} (h : evGet e j = none) : (apIo e B).io j = B j := by
  show (match evGet e j with | some (i, d) => baseV B i + d | none => B j) = _
  rw [h]
structure Nf where
  k : IntKind
  i : Option SV
  c : Int
  lo : Int
  hi : Int
def nfV (e : Ev) (s : SV) : Option (Option SV × Int) := match s with
  | .var j => match evGet e j with
    | some (i, d) => some (i, d)
    | none => some (some (.var j), 0)
  | .cl j l h => match evGet e j with
    | some _ => none
    | none => some (some (.cl j l h), 0)
  | .ad i j l h => match evGet e j with
    | some _ => none
    | none => match evGet e i with
      | some (some (.var i'), d) => some (some (.ad i' j l h), d)
      | some (none, d) => some (some (.cl j l h), d)
      | some _ => none
      | none => some (some (.ad i j l h), 0)
  | _ => none
def nfA (e : Ev) : AV → Option Nf
  | .int k c => some ⟨k, none, c, c, c⟩
  | .sym k s lo hi o => match nfV e s with
    | some (i, d) => some ⟨k, i, Int.add d o, Int.add lo o, Int.add hi o⟩
    | none => none
  | _ => none
def eqO : Option SV → Option SV → Bool
  | none, none => true
  | some a, some b => eqSV a b
  | _, _ => false
theorem eqO_iff {a b : Option SV} (h : eqO a b = true) : a = b := by
  cases a <;> cases b <;> simp only [eqO] at h <;> first | rfl | cases h | rw [eqSV_iff h]
theorem nfV_val {e : Ev} {B : Nat → Int} {s : SV} {i : Option SV} {d : Int} (h : nfV e s = some (i, d)) : @evalSV (apIo e B) s = baseV B i + d := by
  unfold nfV at h
  split at h
  · rename_i j
    split at h
    · rename_i i d hj
      cases h
      exact apIo_some hj
    · rename_i hj
      cases h
      show (apIo e B).io j = B j + 0
      rw [apIo_none hj, Int.add_zero]
  · rename_i j l hh
    split at h
    · cases h
    · rename_i hj
      cases h
      show clamp l hh ((apIo e B).io j) = clamp l hh (B j) + 0
      rw [apIo_none hj, Int.add_zero]
  · rename_i i j l hh
    split at h
    · cases h
    · rename_i hj
      split at h
      · rename_i i' d hi
        cases h
        show (apIo e B).io i + clamp l hh ((apIo e B).io j) = B i' + clamp l hh (B j) + d
        rw [apIo_none hj, apIo_some hi]
        show B i' + d + _ = _
        omega
      · rename_i d hi
        cases h
        show (apIo e B).io i + clamp l hh ((apIo e B).io j) = clamp l hh (B j) + d
        rw [apIo_none hj, apIo_some hi]
        show 0 + d + _ = _
        omega
      · cases h
      · rename_i hi
        cases h
        show (apIo e B).io i + clamp l hh ((apIo e B).io j) = B i + clamp l hh (B j) + 0
        rw [apIo_none hj, apIo_none hi, Int.add_zero]
  · cases h
theorem nfA_src {e : Ev} {B : Nat → Int} {a : AV} {p : Nf} (h : nfA e a = some p) {g : G} {w : World} {v : Value} (hv : @VR (apIo e B) g w a v) : v = .int p.k (baseV B p.i + p.c) ∧ p.lo ≤ baseV B p.i + p.c ∧ baseV B p.i + p.c ≤ p.hi := by
  unfold nfA at h
  split at h
  · cases h
    simp only [VR] at hv
    subst hv
    simp [baseV]
  · rename_i k s lo hi o
    split at h
    · rename_i i d hs
      cases h
      simp only [VR] at hv
      obtain ⟨rfl, h1, h2⟩ := hv
      rw [nfV_val hs] at h1 h2 ⊢
      refine ⟨?_, ?_, ?_⟩
      · show Value.int k (baseV B i + d + o) = Value.int k (baseV B i + (d + o))
        congr 1; omega
      · show lo + o ≤ baseV B i + (d + o); omega
      · show baseV B i + (d + o) ≤ hi + o; omega
    · cases h
  · cases h
theorem nfA_dst {e : Ev} {B : Nat → Int} {b : AV} {q : Nf} (h : nfA e b = some q) {x : Int} (hx : x = baseV B q.i + q.c) (h1 : q.lo ≤ x) (h2 : x ≤ q.hi) (g : G) (w : World) : @VR (apIo e B) g w b (.int q.k x) := by
  unfold nfA at h
  split at h
  · cases h
    simp only [VR]
    simp only [baseV] at hx
    rw [hx]; simp
  · rename_i k s lo hi o
    split at h
    · rename_i i d hs
      cases h
      simp only [VR]
      rw [nfV_val hs]
      have hx' : x = baseV B i + (d + o) := hx
      have h1' : lo + o ≤ x := h1
      have h2' : x ≤ hi + o := h2
      exact ⟨by rw [hx']; congr 1; omega, by omega, by omega⟩
    · cases h
  · cases h
/-- The same of what is known: a number that is told has no other bounds. -/
def nfS (e : Ev) (a : AV) : Option Nf := match a with
  | .sym k (.var j) _ _ o => match evGet e j with
    | some (none, d) => some ⟨k, none, Int.add d o, Int.add d o, Int.add d o⟩
    | _ => nfA e a
  | _ => nfA e a
abbrev Hb := List (Nat × Int × Int)
/-- Bounds that are known of a number. -/
def hbGet : Hb → Nat → Option (Int × Int)
  | [], _ => none
  | x :: hb, j => bif Nat.beq x.1 j then some x.2 else hbGet hb j
def hintI (hb : Hb) : AV → Option (Int × Int)
  | .sym _ (.var j) _ _ o => match hbGet hb j with
    | some (l, u) => some (Int.add l o, Int.add u o)
    | none => none
  | .sym _ (.cl _ l h) _ _ o => bif ltI h l then none else some (Int.add l o, Int.add h o)
  | .sym _ (.ad i _ l h) _ _ o => bif ltI h l then none else match hbGet hb i with
    | some (a, u) => some (Int.add (Int.add a l) o, Int.add (Int.add u h) o)
    | none => none
  | _ => none
def bndN (p q : Nf) : Option (Int × Int) → Bool
  | some (l, u) => (!(ltI p.lo q.lo) || !(ltI l q.lo)) && (!(ltI q.hi p.hi) || !(ltI q.hi u))
  | none => !(ltI p.lo q.lo) && !(ltI q.hi p.hi)
def relN (hb : Hb) (eS eT : Ev) (a b : AV) : Bool := match nfS eS a, nfA eT b with
  | some p, some q => eqK p.k q.k && (eqO p.i q.i && (eqI p.c q.c && bndN p q (hintI hb b)))
  | _, _ => false
theorem nfS_src {e : Ev} {B : Nat → Int} {a : AV} {p : Nf} (h : nfS e a = some p) {g : G} {w : World} {v : Value} (hv : @VR (apIo e B) g w a v) : v = .int p.k (baseV B p.i + p.c) ∧ p.lo ≤ baseV B p.i + p.c ∧ baseV B p.i + p.c ≤ p.hi := by
  unfold nfS at h
  split at h
  · rename_i k j lo hi o
    split at h
    · rename_i d hj
      cases h
      simp only [VR] at hv
      obtain ⟨rfl, h1, h2⟩ := hv
      have e1 : @evalSV (apIo e B) (.var j) = 0 + d := apIo_some hj
      rw [e1]
      refine ⟨?_, ?_, ?_⟩
      · show Value.int k (0 + d + o) = Value.int k (0 + (d + o)); congr 1; omega
      · show d + o ≤ 0 + (d + o); omega
      · show 0 + (d + o) ≤ d + o; omega
    · exact nfA_src h hv
  · exact nfA_src h hv
def HbOk (hb : Hb) (J : Io) : Prop := ∀ x ∈ hb, x.2.1 ≤ J.io x.1 ∧ J.io x.1 ≤ x.2.2
theorem HbOk.none {J : Io} : HbOk [] J := fun _ h => by cases h
theorem hbGet_ok {hb : Hb} {J : Io} (hH : HbOk hb J) {j : Nat} {l u : Int} (h : hbGet hb j = some (l, u)) : l ≤ J.io j ∧ J.io j ≤ u := by
  induction hb with
  | nil => cases h
  | cons x hb ih =>
    change (bif Nat.beq x.1 j then some x.2 else hbGet hb j) = some (l, u) at h
    cases e : Nat.beq x.1 j with
    | true =>
      rw [e] at h
      obtain ⟨x1, x2⟩ := x
      simp only [cond_true, Option.some.injEq] at h
      subst h
      have := hH (x1, (l, u)) List.mem_cons_self
      have hj : x1 = j := Nat.eq_of_beq_eq_true e
      subst hj
      exact this
    | false =>
      rw [e] at h
      exact ih (fun y hy => hH y (List.mem_cons_of_mem _ hy)) h
theorem hintI_ok {hb : Hb} {J : Io} (hH : HbOk hb J) {k : IntKind} {s : SV} {lo hi o l u : Int} (h : hintI hb (.sym k s lo hi o) = some (l, u)) : l ≤ @evalSV J s + o ∧ @evalSV J s + o ≤ u := by
  cases s with
  | var j =>
    change (match (generalizing := false) hbGet hb j with | some (l, u) => some (Int.add l o, Int.add u o) | none => none) = some (l, u) at h
    cases hg : hbGet hb j with
    | none => rw [hg] at h; cases h
    | some y =>
      obtain ⟨a, b⟩ := y
      rw [hg] at h
      cases h
      have := hbGet_ok hH hg
      show a + o ≤ J.io j + o ∧ J.io j + o ≤ b + o
      omega
  | cl j a b =>
    change (bif ltI b a then none else some (Int.add a o, Int.add b o)) = some (l, u) at h
    cases hg : ltI b a with
    | true => rw [hg] at h; cases h
    | false =>
      rw [hg] at h
      cases h
      have := clamp_in (ltI_not.1 hg) (J.io j)
      show a + o ≤ clamp a b (J.io j) + o ∧ clamp a b (J.io j) + o ≤ b + o
      omega
  | ad i j a b =>
    change (bif ltI b a then none else match (generalizing := false) hbGet hb i with | some (c, u) => some (Int.add (Int.add c a) o, Int.add (Int.add u b) o) | none => none) = some (l, u) at h
    cases hg : ltI b a with
    | true => rw [hg] at h; cases h
    | false =>
      rw [hg] at h
      simp only [cond_false] at h
      cases hg2 : hbGet hb i with
      | none => rw [hg2] at h; cases h
      | some y =>
        obtain ⟨c, d⟩ := y
        rw [hg2] at h
        cases h
        have h1 := clamp_in (ltI_not.1 hg) (J.io j)
        have h2 := hbGet_ok hH hg2
        show c + a + o ≤ J.io i + clamp a b (J.io j) + o ∧ J.io i + clamp a b (J.io j) + o ≤ d + b + o
        omega
  | _ => cases h
theorem relN_ok {hb : Hb} {eS eT : Ev} {B : Nat → Int} (hH : HbOk hb (apIo eT B)) {a b : AV} (h : relN hb eS eT a b = true) {g g' : G} {w : World} {v : Value} (hv : @VR (apIo eS B) g w a v) : @VR (apIo eT B) g' w b v := by
  unfold relN at h
  split at h
  · rename_i p q hp hq
    simp only [Bool.and_eq_true] at h
    obtain ⟨hk, hi, hc, h1⟩ := h
    obtain ⟨rfl, l1, l2⟩ := nfS_src hp hv
    rw [eqK_iff.1 hk]
    have hx : baseV B p.i + p.c = baseV B q.i + q.c := by rw [eqO_iff hi, eqI_iff.1 hc]
    cases hh : hintI hb b with
    | none =>
      rw [hh] at h1
      simp only [bndN, Bool.and_eq_true, Bool.not_eq_true', ltI_not] at h1
      exact nfA_dst hq hx (by omega) (by omega) g' w
    | some y =>
      obtain ⟨l, u⟩ := y
      rw [hh] at h1
      simp only [bndN, Bool.and_eq_true, Bool.or_eq_true, Bool.not_eq_true', ltI_not] at h1
      have key : l ≤ baseV B q.i + q.c ∧ baseV B q.i + q.c ≤ u := by
        cases b with
        | sym k s lo hi' o =>
          have hb2 := hintI_ok hH hh
          change (match (generalizing := false) nfV eT s with
            | some (i, d) => some (Nf.mk k i (Int.add d o) (Int.add lo o) (Int.add hi' o))
            | none => none) = some q at hq
          cases hg : nfV eT s with
          | none => rw [hg] at hq; cases hq
          | some y =>
            obtain ⟨i, d⟩ := y
            rw [hg] at hq
            cases hq
            have e5 := nfV_val (B := B) hg
            rw [e5] at hb2
            show l ≤ baseV B i + (d + o) ∧ baseV B i + (d + o) ≤ u
            omega
        | _ => cases hh
      refine nfA_dst hq hx ?_ ?_ g' w
      · rcases h1.1 with h | h <;> omega
      · rcases h1.2 with h | h <;> omega
  · cases h

def svFree (e : Ev) : SV → Bool
  | .var i | .uvar i | .umod i _ | .lin i _ | .dig i _ _ => match evGet e i with
    | none => true
    | some _ => false
  | .bits _ => false
  | .cl i _ _ => match evGet e i with
    | none => true
    | some _ => false
  | .pr i _ _ j | .ad i j _ _ => (match evGet e i with
    | none => true
    | some _ => false) && (match evGet e j with
    | none => true
    | some _ => false)
def relO (eS eT : Ev) (a b : AV) : Bool := match a, b with
  | .sym k s lo hi o, .sym k' s' lo' hi' o' => eqK k k' && (eqSV s s' && (svFree eS s && (svFree eT s && (eqI o o' && (!(ltI lo lo') && !(ltI hi' hi))))))
  | _, _ => false
theorem svFree_eq {e : Ev} {B : Nat → Int} {s : SV} (h : svFree e s = true) : @evalSV (apIo e B) s = @evalSV ⟨B⟩ s := by
  have key : ∀ i, (match evGet e i with | none => true | some _ => false) = true → (apIo e B).io i = B i := by
    intro i hi
    cases hg : evGet e i with
    | none => exact apIo_none hg
    | some p => rw [hg] at hi; cases hi
  cases s with
  | var i => exact key i h
  | uvar i => show (apIo e B).io i % _ = _; rw [key i h]; rfl
  | umod i c => show ((apIo e B).io i % _) % _ = _; rw [key i h]; rfl
  | lin i m => show m * (apIo e B).io i = _; rw [key i h]; rfl
  | dig i p m => show ((apIo e B).io i / _) % _ = _; rw [key i h]; rfl
  | bits l => cases h
  | cl i l hh => show clamp l hh ((apIo e B).io i) = _; rw [key i h]; rfl
  | pr i l hh j =>
    simp only [svFree, Bool.and_eq_true] at h
    show clamp l hh ((apIo e B).io i) + 4294967296 * (apIo e B).io j = _
    rw [key i h.1, key j h.2]; rfl
  | ad i j l hh =>
    simp only [svFree, Bool.and_eq_true] at h
    show (apIo e B).io i + clamp l hh ((apIo e B).io j) = _
    rw [key i h.1, key j h.2]; rfl
theorem relO_ok {eS eT : Ev} {B : Nat → Int} {a b : AV} (h : relO eS eT a b = true) {g g' : G} {w : World} {v : Value} (hv : @VR (apIo eS B) g w a v) : @VR (apIo eT B) g' w b v := by
  unfold relO at h
  split at h
  · rename_i k s lo hi o k' s' lo' hi' o'
    simp only [Bool.and_eq_true, Bool.not_eq_true', ltI_not] at h
    obtain ⟨hk, hs, f1, f2, ho, h1, h2⟩ := h
    obtain rfl := eqK_iff.1 hk
    obtain rfl := eqSV_iff hs
    obtain rfl := eqI_iff.1 ho
    simp only [VR] at hv ⊢
    rw [svFree_eq f1] at hv
    rw [svFree_eq f2]
    obtain ⟨rfl, l1, l2⟩ := hv
    exact ⟨rfl, by omega, by omega⟩
  · cases h

/-- The same names, those that are told. -/
def sgI (dm : Nat → Bool) (id : Nat) : Option Nat := bif dm id then some id else none
def eqOI (o : Option Nat) (i : Nat) : Bool := match o with
  | some j => Nat.beq j i
  | none => false
theorem eqOI_iff {o : Option Nat} {i : Nat} (h : eqOI o i = true) : o = some i := by
  cases o with
  | none => cases h
  | some j => rw [Nat.eq_of_beq_eq_true h]
mutual
def relA (hb : Hb) (eS eT : Ev) (sg : Nat → Option Nat) (im : Bool) : AV → AV → Bool
  | .agg l, .agg m => relAs hb eS eT sg im l m
  | .tup l, .tup m => relAs hb eS eT sg im l m
  | .fn f l, .fn f' m => Nat.beq f f' && relAs hb eS eT sg im l m
  | .isl n l, .isl n' m => im && (Nat.beq n n' && relAs hb eS eT sg im l m)
  | .iptr l, .iptr m => im && relAs hb eS eT sg im l m
  | .ref i o, .ref i' o' => eqOI (sg i') i && Nat.beq o o'
  | .hsl i o n s, .hsl i' o' n' s' => eqOI (sg i') i && (Nat.beq o o' && (Nat.beq n n' && Nat.beq s s'))
  | .bool a, .bool b => !(xor a b)
  | .sc a, .sc b => eqSc a b
  | .nel, .nel => true
  | .esl, .esl => true
  | .any, .any => true
  | .int _ _, .any => true
  | .sym _ _ _ _ _, .any => true
  | .ref _ _, .any => true
  | .hsl _ _ _ _, .any => true
  | .nel, .any => true
  | .sc _, .any => true
  | .bool _, .any => true
  | .esl, .any => true
  | .nel, .esl => true
  | .sc a, .esl => isNil (.sc a)
  | .int k c, b => relN hb eS eT (.int k c) b
  | .sym k s lo hi o, b => relN hb eS eT (.sym k s lo hi o) b || relO eS eT (.sym k s lo hi o) b
  | _, _ => false
def relAs (hb : Hb) (eS eT : Ev) (sg : Nat → Option Nat) (im : Bool) : List AV → List AV → Bool
  | [], [] => true
  | a :: l, b :: m => bif relA hb eS eT sg im a b then relAs hb eS eT sg im l m else false
  | _, _ => false
end

section
variable {hb : Hb} {eS eT : Ev} {B : Nat → Int} {sg : Nat → Option Nat} {im : Bool} {g g' : G} {w : World}
mutual
theorem relA_ok (hH : HbOk hb (apIo eT B)) (hm : ∀ id id' x, sg id' = some id → g.m id = some x → g'.m id' = some x) (hi : im = true → ∀ b, g.imm b → g'.imm b) : ∀ (a b : AV) (v : Value), relA hb eS eT sg im a b = true → @VR (apIo eS B) g w a v → @VR (apIo eT B) g' w b v
  | .agg l, b, v, h, r => by
    cases b <;> simp only [relA] at h <;> try (cases h; done)
    simp only [VR] at r ⊢
    obtain ⟨vs, e, q⟩ := r
    exact ⟨vs, e, relAs_ok hH hm hi l _ _ h q⟩
  | .tup l, b, v, h, r => by
    cases b <;> simp only [relA] at h <;> try (cases h; done)
    simp only [VR] at r ⊢
    obtain ⟨vs, e, q⟩ := r
    exact ⟨vs, e, relAs_ok hH hm hi l _ _ h q⟩
  | .fn f l, b, v, h, r => by
    cases b <;> simp only [relA] at h <;> try (cases h; done)
    rw [Bool.and_eq_true] at h
    obtain rfl := Nat.eq_of_beq_eq_true h.1
    simp only [VR] at r ⊢
    obtain ⟨vs, e, q⟩ := r
    exact ⟨vs, e, relAs_ok hH hm hi l _ _ h.2 q⟩
  | .isl n l, b, v, h, r => by
    cases b <;> simp only [relA] at h <;> try (cases h; done)
    simp only [Bool.and_eq_true] at h
    obtain ⟨him, hn, h⟩ := h
    obtain rfl := Nat.eq_of_beq_eq_true hn
    simp only [VR] at r ⊢
    obtain ⟨x, cap, e, hle, q⟩ := r
    refine ⟨x, cap, e, hle, ?_⟩
    rcases q with ⟨q1, rfl⟩ | ⟨b, o, vs, q1, q2, q3, q4⟩
    · rename_i m
      cases m with
      | nil => exact .inl ⟨q1, rfl⟩
      | cons _ _ => cases h
    · exact .inr ⟨b, o, vs, q1, hi him b q2, q3, relAs_ok hH hm hi l _ _ h q4⟩
  | .iptr l, b, v, h, r => by
    cases b <;> simp only [relA] at h <;> try (cases h; done)
    rw [Bool.and_eq_true] at h
    simp only [VR] at r ⊢
    obtain ⟨b, o, vs, q1, q2, q3, q4⟩ := r
    exact ⟨b, o, vs, q1, hi h.1 b q2, q3, relAs_ok hH hm hi l _ _ h.2 q4⟩
  | .ref i o, b, v, h, r => by
    cases b <;> simp only [relA] at h <;> try (cases h; done)
    · simp only [Bool.and_eq_true] at h
      obtain ⟨hd, h2⟩ := h
      obtain rfl := Nat.eq_of_beq_eq_true h2
      simp only [VR] at r ⊢
      obtain ⟨b, s, q, e⟩ := r
      exact ⟨b, s, hm _ _ _ (eqOI_iff hd) q, e⟩
    · simp only [VR] at r ⊢
      obtain ⟨b, s, q, rfl⟩ := r
      rfl
  | .hsl i o n s, b, v, h, r => by
    cases b <;> simp only [relA] at h <;> try (cases h; done)
    · simp only [Bool.and_eq_true] at h
      obtain ⟨hd, h2, h3, h4⟩ := h
      obtain rfl := Nat.eq_of_beq_eq_true h2
      obtain rfl := Nat.eq_of_beq_eq_true h3
      obtain rfl := Nat.eq_of_beq_eq_true h4
      simp only [VR] at r ⊢
      rcases r with r | ⟨b, s, cap, q, r⟩
      · exact .inl r
      · exact .inr ⟨b, s, cap, hm _ _ _ (eqOI_iff hd) q, r⟩
    · simp only [VR] at r ⊢
      rcases r with ⟨_, a, rfl⟩ | ⟨b, s, cap, _, rfl, _⟩ <;> rfl
  | .bool x, b, v, h, r => by
    cases b <;> simp only [relA] at h <;> try (cases h; done)
    · rename_i y
      simp only [VR] at r ⊢
      cases x <;> cases y <;> first | exact r | cases h
    · simp only [VR] at r ⊢
      subst r; rfl
  | .sc x, b, v, h, r => by
    cases b <;> simp only [relA] at h <;> try (cases h; done)
    · rw [← eqSc_iff h]
      simpa only [VR] using r
    · rw [isNil_ok h] at r
      simp only [VR] at r ⊢
      exact ⟨none, r.1⟩
    · simp only [VR] at r ⊢
      obtain ⟨rfl, r⟩ := r
      exact r
  | .nel, b, v, h, r => by
    cases b <;> simp only [relA] at h <;> try (cases h; done)
    · simp only [VR] at r ⊢
      obtain ⟨b, rfl⟩ := r
      exact ⟨some b, rfl⟩
    · simpa only [VR] using r
    · simp only [VR] at r ⊢
      obtain ⟨_, rfl⟩ := r
      rfl
  | .esl, b, v, h, r => by
    cases b <;> simp only [relA] at h <;> try (cases h; done)
    · simpa only [VR] using r
    · simp only [VR] at r ⊢
      obtain ⟨_, rfl⟩ := r
      rfl
  | .any, b, v, h, r => by
    cases b <;> simp only [relA] at h <;> try (cases h; done)
    simpa only [VR] using r
  | .int k c, b, v, h, r => by
    cases b
    case any =>
      simp only [VR] at r ⊢
      subst r; rfl
    all_goals first
      | (simp only [relA] at h; exact relN_ok hH h r)
  | .sym k s lo hi o, b, v, h, r => by
    cases b
    case any =>
      simp only [VR] at r ⊢
      obtain ⟨rfl, _⟩ := r; rfl
    all_goals
      simp only [relA, Bool.or_eq_true] at h
      rcases h with h | h
      · exact relN_ok hH h r
      · exact relO_ok h r
theorem relAs_ok (hH : HbOk hb (apIo eT B)) (hm : ∀ id id' x, sg id' = some id → g.m id = some x → g'.m id' = some x) (hi : im = true → ∀ b, g.imm b → g'.imm b) : ∀ (l m : List AV) (vs : List Value), relAs hb eS eT sg im l m = true → @VRs (apIo eS B) g w l vs → @VRs (apIo eT B) g' w m vs
  | [], m, vs, h, r => by
    cases m with
    | nil => simpa only [VRs] using r
    | cons _ _ => cases h
  | a :: l, m, vs, h, r => by
    cases m with
    | nil => cases h
    | cons b m =>
      simp only [relAs] at h
      cases h1 : relA hb eS eT sg im a b with
      | false => rw [h1] at h; cases h
      | true =>
        rw [h1] at h
        simp only [VRs] at r ⊢
        obtain ⟨v, l', e, q, r⟩ := r
        exact ⟨v, l', e, relA_ok hH hm hi a b v h1 q, relAs_ok hH hm hi l m l' h r⟩
end
end
theorem sgI_m {dm : Nat → Bool} {g g' : G} (hm : ∀ id x, dm id = true → g.m id = some x → g'.m id = some x) : ∀ id id' x, sgI dm id' = some id → g.m id = some x → g'.m id' = some x := by
  intro id id' x h e
  unfold sgI at h
  cases hd : dm id' with
  | false => rw [hd] at h; cases h
  | true => rw [hd] at h; cases h; exact hm _ _ hd e
end Go.Ab

namespace Go.Ab

-- stores and frames that are told outright
noncomputable def mkO (rows : List (Nat × List AV)) (t : Tr Rw) : Tr Rw := List.rec t (fun p _ ih => ih.set p.1 (some (ofL p.2))) rows
noncomputable def mkH (N : Nat) (rows : List (Nat × List AV)) : Hp := ⟨N, mkO rows .nil⟩
/-- The same store with these rows anew. -/
noncomputable def updH (h : Hp) (rows : List (Nat × List AV)) : Hp := ⟨h.next, mkO rows h.objs⟩
noncomputable def domR (rows : List (Nat × List AV)) (id : Nat) : Bool := List.rec false (fun p _ ih => Bool.rec ih true (Nat.beq p.1 id)) rows
noncomputable def mkT (l : List (Nat × AV)) : Tm := List.rec Tm.none (fun p _ ih => Tm.put ih p.1 (some p.2)) l

theorem domR_iff {rows : List (Nat × List AV)} {id : Nat} : domR rows id = true ↔ ∃ l, (id, l) ∈ rows := by
  induction rows with
  | nil => simp [domR]
  | cons p rows ih =>
    show (Bool.rec (domR rows id) true (Nat.beq p.1 id) : Bool) = true ↔ _
    cases e : Nat.beq p.1 id with
    | true =>
      obtain rfl := Nat.eq_of_beq_eq_true e
      simp only [true_iff]
      exact ⟨p.2, List.mem_cons_self⟩
    | false =>
      show domR rows id = true ↔ _
      rw [ih]
      constructor
      · rintro ⟨l, h⟩; exact ⟨l, List.mem_cons_of_mem _ h⟩
      · rintro ⟨l, h⟩
        rcases List.mem_cons.1 h with h | h
        · subst h; rw [Nat.beq_refl] at e; cases e
        · exact ⟨l, h⟩
theorem mkO_get {rows : List (Nat × List AV)} {t : Tr Rw} {id : Nat} {r : Rw} (h : (mkO rows t).get id = some r) : (∃ l, (id, l) ∈ rows ∧ r = ofL l) ∨ (domR rows id = false ∧ t.get id = some r) := by
  induction rows with
  | nil => exact .inr ⟨rfl, h⟩
  | cons p rows ih =>
    change ((mkO rows t).set p.1 (some (ofL p.2))).get id = some r at h
    rw [Tr.get_set] at h
    by_cases e : id = p.1
    · rw [if_pos e] at h
      cases h
      subst e
      exact .inl ⟨p.2, List.mem_cons_self, rfl⟩
    · rw [if_neg e] at h
      rcases ih h with ⟨l, h1, h2⟩ | ⟨h1, h2⟩
      · exact .inl ⟨l, List.mem_cons_of_mem _ h1, h2⟩
      · refine .inr ⟨?_, h2⟩
        show (Bool.rec (domR rows id) true (Nat.beq p.1 id) : Bool) = false
        rw [show Nat.beq p.1 id = false from by rw [Bool.eq_false_iff]; intro k; exact e (Nat.eq_of_beq_eq_true k).symm]
        exact h1
theorem mkO_alive {rows : List (Nat × List AV)} {t : Tr Rw} {id : Nat} (h : domR rows id = true) : ∃ r, (mkO rows t).get id = some r := by
  induction rows with
  | nil => cases h
  | cons p rows ih =>
    show ∃ r, ((mkO rows t).set p.1 (some (ofL p.2))).get id = some r
    rw [Tr.get_set]
    by_cases e : id = p.1
    · rw [if_pos e]; exact ⟨_, rfl⟩
    · rw [if_neg e]
      refine ih ?_
      change (Bool.rec (domR rows id) true (Nat.beq p.1 id) : Bool) = true at h
      rw [show Nat.beq p.1 id = false from by rw [Bool.eq_false_iff]; intro k; exact e (Nat.eq_of_beq_eq_true k).symm] at h
      exact h
theorem mkO_other {rows : List (Nat × List AV)} {t : Tr Rw} {id : Nat} (h : domR rows id = false) : (mkO rows t).get id = t.get id := by
  induction rows with
  | nil => rfl
  | cons p rows ih =>
    show ((mkO rows t).set p.1 (some (ofL p.2))).get id = _
    change (Bool.rec (domR rows id) true (Nat.beq p.1 id) : Bool) = false at h
    rw [Tr.get_set]
    cases e : Nat.beq p.1 id with
    | true => rw [e] at h; cases h
    | false =>
      rw [e] at h
      rw [if_neg (fun k => by rw [k, Nat.beq_refl] at e; cases e)]
      exact ih h
theorem mkT_at {l : List (Nat × AV)} (hl : ∀ p ∈ l, p.1 < 512) {i : Nat} {b : AV} (hi : i < 512) (h : (mkT l).at i = some b) : (i, b) ∈ l := by
  induction l with
  | nil =>
    change Tm.none.at i = some b at h
    rw [Tm.at_none i hi] at h; cases h
  | cons p l ih =>
    change ((mkT l).put p.1 (some p.2)).at i = some b at h
    rw [Tm.at_put _ _ _ _ (hl p List.mem_cons_self) hi] at h
    by_cases e : i = p.1
    · rw [if_pos e] at h
      cases h
      subst e
      exact List.mem_cons_self
    · rw [if_neg e] at h
      exact List.mem_cons_of_mem _ (ih (fun q hq => hl q (List.mem_cons_of_mem _ hq)) h)

noncomputable def relHb (hb : Hb) (eS eT : Ev) (N : Nat) (h : Hp) (all rows : List (Nat × List AV)) : Bool :=
  List.rec true (fun p _ ih => bif Nat.blt p.1 N && (match h.objs.get p.1 with
    | some r => relAs hb eS eT (sgI (domR all)) false r.toL p.2
    | none => false) then ih else false) rows
noncomputable def relTb (hb : Hb) (eS eT : Ev) (dm : Nat → Bool) (im : Bool) (t : Tm) (l : List (Nat × AV)) : Bool :=
  List.rec true (fun p _ ih => bif Nat.blt p.1 512 && (match t.at p.1 with
    | some a => relA hb eS eT (sgI dm) im a p.2
    | none => false) then ih else false) l
noncomputable abbrev relH (eS eT : Ev) (N : Nat) (h : Hp) (all rows : List (Nat × List AV)) : Bool := relHb [] eS eT N h all rows
noncomputable abbrev relT (eS eT : Ev) (dm : Nat → Bool) (im : Bool) (t : Tm) (l : List (Nat × AV)) : Bool := relTb [] eS eT dm im t l
theorem relH_mem {hb : Hb} {eS eT : Ev} {N : Nat} {h : Hp} {all : List (Nat × List AV)} : ∀ {rows : List (Nat × List AV)}, relHb hb eS eT N h all rows = true → ∀ p ∈ rows, p.1 < N ∧ ∃ r, h.objs.get p.1 = some r ∧ relAs hb eS eT (sgI (domR all)) false r.toL p.2 = true
  | [], _, p, hp => by cases hp
  | q :: rows, hr, p, hp => by
    change (bif Nat.blt q.1 N && (match (generalizing := false) h.objs.get q.1 with
      | some r => relAs hb eS eT (sgI (domR all)) false r.toL q.2
      | none => false) then relHb hb eS eT N h all rows else false) = true at hr
    cases hbq : (Nat.blt q.1 N && (match (generalizing := false) h.objs.get q.1 with
      | some r => relAs hb eS eT (sgI (domR all)) false r.toL q.2
      | none => false)) with
    | false => rw [hbq] at hr; cases hr
    | true =>
      rw [hbq] at hr
      rw [Bool.and_eq_true] at hbq
      rcases List.mem_cons.1 hp with rfl | hp
      · refine ⟨blt_iff.1 hbq.1, ?_⟩
        have h2 := hbq.2
        split at h2
        · rename_i r hg; exact ⟨r, hg, h2⟩
        · cases h2
      · exact relH_mem hr p hp
theorem relT_mem {hb : Hb} {eS eT : Ev} {dm : Nat → Bool} {im : Bool} {t : Tm} : ∀ {l : List (Nat × AV)}, relTb hb eS eT dm im t l = true → ∀ p ∈ l, p.1 < 512 ∧ ∃ a, t.at p.1 = some a ∧ relA hb eS eT (sgI dm) im a p.2 = true
  | [], _, p, hp => by cases hp
  | q :: l, hr, p, hp => by
    change (bif Nat.blt q.1 512 && (match (generalizing := false) t.at q.1 with
      | some a => relA hb eS eT (sgI dm) im a q.2
      | none => false) then relTb hb eS eT dm im t l else false) = true at hr
    cases hbq : (Nat.blt q.1 512 && (match (generalizing := false) t.at q.1 with
      | some a => relA hb eS eT (sgI dm) im a q.2
      | none => false)) with
    | false => rw [hbq] at hr; cases hr
    | true =>
      rw [hbq] at hr
      rw [Bool.and_eq_true] at hbq
      rcases List.mem_cons.1 hp with rfl | hp
      · refine ⟨blt_iff.1 hbq.1, ?_⟩
        have h2 := hbq.2
        split at h2
        · rename_i a hg; exact ⟨a, hg, h2⟩
        · cases h2
      · exact relT_mem hr p hp

section
variable {eS eT : Ev} {B : Nat → Int}
theorem tr_relb {hb : Hb} (hH : HbOk hb (apIo eT B)) {g g' : G} {w : World} {nt : Nat} {t : Tm} {tmps : Array Value} {dm : Nat → Bool} {im : Bool} {l : List (Nat × AV)} (h : relTb hb eS eT dm im t l = true)
    (hm : ∀ id x, dm id = true → g.m id = some x → g'.m id = some x) (hi : im = true → ∀ b, g.imm b → g'.imm b) (T : @TR (apIo eS B) g w nt t tmps) : @TR (apIo eT B) g' w nt (mkT l) tmps := by
  refine ⟨T.1, T.2.1, fun i v hi5 e => ?_⟩
  have hmem := relT_mem h
  have := mkT_at (fun p hp => (hmem p hp).1) hi5 e
  obtain ⟨_, a, ha, hr⟩ := hmem _ this
  obtain ⟨h1, h2⟩ := T.2.2 i a hi5 ha
  exact ⟨h1, relA_ok hH (sgI_m hm) hi a v _ hr h2⟩

/-- The names of these rows alone. -/
def subG (g : G) (dm : Nat → Bool) (imm : Nat → Prop) : G := ⟨fun id => bif dm id then g.m id else none, imm⟩
theorem subG_m {g : G} {dm : Nat → Bool} {imm : Nat → Prop} {id : Nat} {x : Nat × Nat} (h : (subG g dm imm).m id = some x) : dm id = true ∧ g.m id = some x := by
  change (bif dm id then g.m id else none) = some x at h
  cases hd : dm id with
  | false => rw [hd] at h; cases h
  | true => rw [hd] at h; exact ⟨rfl, h⟩

/-- Fewer rows, told outright. -/
theorem hr_relb {hb : Hb} (hH : HbOk hb (apIo eT B)) {g : G} {w : World} {h : Hp} {N : Nat} {rows : List (Nat × List AV)} (hr : relHb hb eS eT N h rows rows = true) (H : @HR (apIo eS B) g w h) {imm : Nat → Prop}
    (i1 : ∀ b, imm b → b < w.heap.size) (i2 : ∀ b, imm b → ∀ id r s, domR rows id = true → h.objs.get id = some r → g.m id = some (b, s) → False) : @HR (apIo eT B) (subG g (domR rows) imm) w (mkH N rows) := by
  have hmem := relH_mem hr
  have alive : ∀ id, domR rows id = true → ∃ r, h.objs.get id = some r := by
    intro id hd
    obtain ⟨l, hl⟩ := domR_iff.1 hd
    obtain ⟨_, r, hg, _⟩ := hmem _ hl
    exact ⟨r, hg⟩
  refine @HR.mk (apIo eT B) _ _ _ (fun id hid => ?_) (fun id cs e => ?_) (fun id id' b s s' cs cs' e1 e2 m1 m2 => ?_) i1
  · show (bif domR rows id then g.m id else none) = none
    cases hd : domR rows id with
    | false => rfl
    | true =>
      obtain ⟨l, hl⟩ := domR_iff.1 hd
      have := (hmem _ hl).1
      have hid' : N ≤ id := hid
      simp only at this
      omega
  · rcases mkO_get e with ⟨l, hl, rfl⟩ | ⟨_, e⟩
    · obtain ⟨_, r, hg, hrel⟩ := hmem _ hl
      obtain ⟨b, s, C, el, vs, h1, h2, h3, h4, h5⟩ := @HR.objs (apIo eS B) _ _ _ H id r hg
      have hd : domR rows id = true := domR_iff.2 ⟨l, hl⟩
      refine ⟨b, s, C, el, vs, ?_, h2, fun hi => i2 b hi id r s hd hg h1, ?_, h5⟩
      · show (bif domR rows id then g.m id else none) = _
        rw [hd]; exact h1
      · rw [toL_ofL]
        exact relAs_ok hH (g := g) (sgI_m (fun id x hd e => by show (bif domR rows id then g.m id else none) = _; rw [hd]; exact e)) (fun h => by cases h) _ _ _ hrel h4
    · cases e
  · obtain ⟨d1, m1⟩ := subG_m m1
    obtain ⟨d2, m2⟩ := subG_m m2
    obtain ⟨r1, g1⟩ := alive id d1
    obtain ⟨r2, g2⟩ := alive id' d2
    exact @HR.inj (apIo eS B) _ _ _ H id id' b s s' r1 r2 g1 g2 m1 m2
theorem tr_rel {g g' : G} {w : World} {nt : Nat} {t : Tm} {tmps : Array Value} {dm : Nat → Bool} {im : Bool} {l : List (Nat × AV)} (h : relT eS eT dm im t l = true)
    (hm : ∀ id x, dm id = true → g.m id = some x → g'.m id = some x) (hi : im = true → ∀ b, g.imm b → g'.imm b) (T : @TR (apIo eS B) g w nt t tmps) : @TR (apIo eT B) g' w nt (mkT l) tmps := tr_relb HbOk.none h hm hi T
theorem hr_rel {g : G} {w : World} {h : Hp} {N : Nat} {rows : List (Nat × List AV)} (hr : relH eS eT N h rows rows = true) (H : @HR (apIo eS B) g w h) {imm : Nat → Prop}
    (i1 : ∀ b, imm b → b < w.heap.size) (i2 : ∀ b, imm b → ∀ id r s, domR rows id = true → h.objs.get id = some r → g.m id = some (b, s) → False) : @HR (apIo eT B) (subG g (domR rows) imm) w (mkH N rows) := hr_relb HbOk.none hr H i1 i2
end

/-- A call over these rows alone: what it comes to, and what the rows then are. -/
def CallAt (I : Io) (P : Program) (f : FuncId) (args : List AV) (N : Nat) (rows : List (Nat × List AV)) (v : AV) (rows' : List (Nat × List AV)) : Prop :=
  ∀ (g : G) (w : World) (vs : List Value), (∀ id x, g.m id = some x → domR rows id = true) → @HR I g w (mkH N rows) → @VRs I g w args vs →
    Calls P f vs.toArray w fun e w' => ∃ x g', e = .returned x ∧ @Ext g w (mkH N rows) g' w' (mkH N rows') ∧ @HR I g' w' (mkH N rows') ∧ @VR I g' w' v x

theorem apIo_nil (I : Io) : apIo [] I.io = I := rfl

/-- Forgetting behind a step: rows told outright. -/
theorem ext_cut {g : G} {w : World} {N : Nat} {rows rows' : List (Nat × List AV)} {g1 : G} {w1 : World} {h1 : Hp} (hd : ∀ id, domR rows id = true → domR rows' id = true) (hal : ∀ id, domR rows' id = true → ∃ r, h1.objs.get id = some r)
    (hg : ∀ id x, g.m id = some x → domR rows id = true) (E : Ext g w (mkH N rows) g1 w1 h1) : Ext g w (mkH N rows) (subG g1 (domR rows') g1.imm) w1 (mkH N rows') := by
  refine ⟨E.os, E.tape, E.output, E.size, Nat.le_refl _, fun id x e => ?_, E.old, E.rows, E.imm, E.imm', ?_⟩
  · show (bif domR rows' id then g1.m id else none) = _
    rw [hd id (hg id x e)]
    exact E.m id x e
  · rintro b ⟨id, cs, s, e, m⟩
    obtain ⟨d, m⟩ := subG_m m
    obtain ⟨r, hr⟩ := hal id d
    exact E.own' b ⟨id, r, s, hr, m⟩
end Go.Ab

namespace Go.Ab

/-- What nobody may write while these rows alone are known. -/
def immF (g : G) (h : Hp) (dm : Nat → Bool) (b : Nat) : Prop := g.imm b ∨ ∃ id r s, dm id = false ∧ h.objs.get id = some r ∧ g.m id = some (b, s)

section
variable {eS eT : Ev} {B : Nat → Int} {g : G} {w : World} {h : Hp} {N : Nat} {rows : List (Nat × List AV)}
theorem frame_in (H : @HR (apIo eS B) g w h) (hr : relH eS eT N h rows rows = true) : @HR (apIo eT B) (subG g (domR rows) (immF g h (domR rows))) w (mkH N rows) := by
  refine hr_rel hr H (fun b hb => ?_) (fun b hb id r s hd hg hm => ?_)
  · rcases hb with hb | ⟨id, r, s, _, hg, hm⟩
    · exact @HR.imm (apIo eS B) _ _ _ H b hb
    · obtain ⟨_, _, _, hw, _⟩ := @HR.row (apIo eS B) _ _ _ H _ _ hg _ _ hm
      exact (Array.getElem?_eq_some_iff.1 hw).1
  · rcases hb with hb | ⟨id', r', s', hd', hg', hm'⟩
    · obtain ⟨b', s2, C, el, vs, h1, h2, h3, _⟩ := @HR.objs (apIo eS B) _ _ _ H id r hg
      rw [hm] at h1
      obtain ⟨rfl, _⟩ := Prod.mk.inj (Option.some.inj h1)
      exact h3 hb
    · have := @HR.inj (apIo eS B) _ _ _ H id id' b s s' r r' hg hg' hm hm'
      subst this
      rw [hd] at hd'; cases hd'

theorem frame_back (H : @HR (apIo eS B) g w h) (hr : relH eS eT N h rows rows = true) {rows' rows2 : List (Nat × List AV)} {g1' : G} {w' : World} (hd2 : ∀ id, domR rows2 id = domR rows id)
    (hr2 : relH eT eS N (mkH N rows') rows rows2 = true) (E : Ext (subG g (domR rows) (immF g h (domR rows))) w (mkH N rows) g1' w' (mkH N rows')) (H' : @HR (apIo eT B) g1' w' (mkH N rows')) :
    Ext g w h g w' (updH h rows2) ∧ @HR (apIo eS B) g w' (updH h rows2) ∧ (∀ id x, domR rows id = true → g1'.m id = some x → g.m id = some x) := by
  have hmem := relH_mem hr
  have alive : ∀ id, domR rows id = true → ∃ r, h.objs.get id = some r := by
    intro id hd
    obtain ⟨l, hl⟩ := domR_iff.1 hd
    obtain ⟨_, r, hg, _⟩ := hmem _ hl
    exact ⟨r, hg⟩
  have gm : ∀ id x, domR rows id = true → g1'.m id = some x → g.m id = some x := by
    intro id x hd hx
    obtain ⟨r, hg⟩ := alive id hd
    obtain ⟨b, s, C, el, vs, h1, _⟩ := @HR.objs (apIo eS B) _ _ _ H id r hg
    have h2 : (subG g (domR rows) (immF g h (domR rows))).m id = some (b, s) := by
      show (bif domR rows id then g.m id else none) = _
      rw [hd]; exact h1
    have h3 := E.m id _ h2
    rw [hx] at h3
    rw [h1, h3]
  have own : ∀ b, Owned (subG g (domR rows) (immF g h (domR rows))) (mkH N rows) b → Owned g h b := by
    rintro b ⟨id, cs, s, e, m⟩
    obtain ⟨d, m⟩ := subG_m m
    obtain ⟨r, hr⟩ := alive id d
    exact ⟨id, r, s, hr, m⟩
  have alive2 : ∀ id cs, (updH h rows2).objs.get id = some cs → ∃ r, h.objs.get id = some r := by
    intro id cs e
    rcases mkO_get e with ⟨l, hl, _⟩ | ⟨_, e⟩
    · exact alive id (by rw [← hd2]; exact domR_iff.2 ⟨l, hl⟩)
    · exact ⟨cs, e⟩
  refine ⟨⟨E.os, E.tape, E.output, E.size, Nat.le_refl _, fun _ _ e => e, fun b hb ho => E.old b hb (fun k => ho (own b k)), E.rows, fun _ i => i, fun _ i => .inl i, ?_⟩, ?_, gm⟩
  · rintro b ⟨id, cs, s, e, m⟩
    obtain ⟨r, hr⟩ := alive2 id cs e
    exact .inl ⟨id, r, s, hr, m⟩
  · have keepI : ∀ b, g.imm b → w'.heap[b]? = w.heap[b]? := fun b hb => E.old b (@HR.imm (apIo eS B) _ _ _ H b hb) (fun k => @HR.not_owned (apIo eS B) _ _ _ H _ hb (own b k))
    refine @HR.mk (apIo eS B) _ _ _ (fun id hid => @HR.fresh (apIo eS B) _ _ _ H id hid) (fun id cs e => ?_) (fun id id' b s s' cs cs' e1 e2 m1 m2 => ?_) (fun b hb => ?_)
    · rcases mkO_get e with ⟨l, hl, rfl⟩ | ⟨hd, e⟩
      · obtain ⟨_, r', hg', hrel⟩ := relH_mem hr2 _ hl
        obtain ⟨b, s, C, el, vs, h1, h2, h3, h4, h5⟩ := @HR.objs (apIo eT B) _ _ _ H' id r' hg'
        have hd : domR rows id = true := by rw [← hd2]; exact domR_iff.2 ⟨l, hl⟩
        refine ⟨b, s, C, el, vs, gm id _ hd h1, h2, fun k => h3 (E.imm b (.inl k)), ?_, h5⟩
        rw [toL_ofL]
        exact relAs_ok HbOk.none (im := false) (sgI_m (fun id x hd e => gm id x hd e)) (fun k => by cases k) _ _ _ hrel h4
      · obtain ⟨b, s, C, el, vs, h1, h2, h3, h4, h5⟩ := @HR.objs (apIo eS B) _ _ _ H id cs e
        have hb := (Array.getElem?_eq_some_iff.1 h2).1
        have hno : ¬ Owned (subG g (domR rows) (immF g h (domR rows))) (mkH N rows) b := by
          rintro ⟨id', cs', s', e', m'⟩
          obtain ⟨d, m'⟩ := subG_m m'
          obtain ⟨r, hr'⟩ := alive id' d
          have := @HR.inj (apIo eS B) _ _ _ H id id' b s s' cs r e hr' h1 m'
          subst this
          rw [hd2] at hd
          rw [hd] at d; cases d
        exact ⟨b, s, C, el, vs, h1, by rw [E.old b hb hno]; exact h2, h3, @VRs.mono' (apIo eS B) _ _ _ _ ⟨fun _ _ e => e, fun _ i => i, keepI, E.rows⟩ _ _ h4, h5⟩
    · obtain ⟨r1, a1⟩ := alive2 id cs e1
      obtain ⟨r2, a2⟩ := alive2 id' cs' e2
      exact @HR.inj (apIo eS B) _ _ _ H id id' b s s' r1 r2 a1 a2 m1 m2
    · exact Nat.lt_of_lt_of_le (@HR.imm (apIo eS B) _ _ _ H b hb) E.size
end

theorem dom_eq {rows rows2 : List (Nat × List AV)} (h : (rows.map (·.1)) = (rows2.map (·.1))) (id : Nat) : domR rows2 id = domR rows id := by
  have key : ∀ (r : List (Nat × List AV)), domR r id = (r.map (·.1)).any (fun k => Nat.beq k id) := by
    intro r
    induction r with
    | nil => rfl
    | cons p r ih =>
      show (Bool.rec (domR r id) true (Nat.beq p.1 id) : Bool) = _
      rw [List.map_cons, List.any_cons, ← ih]
      cases Nat.beq p.1 id <;> rfl
  rw [key, key, h]
noncomputable def eqDom (a b : List (Nat × List AV)) : Bool := List.rec (fun b => List.rec true (fun _ _ _ => false) b) (fun p _ ih b => List.rec false (fun q b _ => Bool.rec false (ih b) (Nat.beq p.1 q.1)) b) a b
theorem eqDom_iff {a : List (Nat × List AV)} : ∀ {b : List (Nat × List AV)}, eqDom a b = true → (a.map (·.1)) = (b.map (·.1)) := by
  induction a with
  | nil => intro b h; cases b with | nil => rfl | cons _ _ => cases h
  | cons p a ih =>
    intro b h
    cases b with
    | nil => cases h
    | cons q b =>
      change (Bool.rec false (eqDom a b) (Nat.beq p.1 q.1) : Bool) = true at h
      cases e : Nat.beq p.1 q.1 with
      | false => rw [e] at h; cases h
      | true =>
        rw [e] at h
        rw [List.map_cons, List.map_cons, Nat.eq_of_beq_eq_true e, ih h]

-- loops
section
variable [Io] {P : Program}
theorem rounds_ok {nt : Nat} {x : Code} {bd : CdF} (hx : CdOk P nt x bd) (Q : Exit → Act → World → Prop) : ∀ m, ∀ (g : G) (w : World) (t : Tm) (h : Hp) (a : Act), HR g w h → TR g w nt t a.tmps → a.defers = [] →
    ∀ i t' h', cLp m bd t h = .exit i t' h' → Post g w h nt t' h' (Q (.exit i)) → Code.rounds P x Q m a w
  | 0, g, w, t, h, a, H, T, D, i, t', h', e, K => by cases e
  | m + 1, g, w, t, h, a, H, T, D, i, t', h', e, K => by
    have h1 := hx g w t h a (Exit.then (Code.rounds P x Q m) Q) H T D
    change (Rc.rec Rc.bad (fun t h => cLp m bd t h) (fun t h => Rc.ret t h) (fun i t h => Rc.exit i t h) (bd t h) : Rc) = .exit i t' h' at e
    cases e1 : bd t h with
    | bad => rw [e1] at e; cases e
    | ret t1 h1' => rw [e1] at e; cases e
    | exit j t1 h1' => rw [e1] at h1 e; cases e; exact h1 K
    | norm t1 h1' =>
      rw [e1] at h1 e
      exact h1 fun g1 w1 a1 E1 H1 T1 D1 => rounds_ok hx Q m g1 w1 t1 h1' a1 H1 T1 D1 i t' h' e (Post.then E1 K)
end

/-- A piece of code over these rows alone, that ends by leaving the i-th block. -/
def CdAt (I : Io) (P : Program) (nt : Nat) (c : Code) (lt : List (Nat × AV)) (N : Nat) (rows : List (Nat × List AV)) (i : Nat) (lt' : List (Nat × AV)) (rows' : List (Nat × List AV)) : Prop :=
  ∀ (g : G) (w : World) (a : Act) (Q : Exit → Act → World → Prop), (∀ id x, g.m id = some x → domR rows id = true) → @HR I g w (mkH N rows) → @TR I g w nt (mkT lt) a.tmps → a.defers = [] →
    (∀ g' w' a', Ext g w (mkH N rows) g' w' (mkH N rows') → @HR I g' w' (mkH N rows') → @TR I g' w' nt (mkT lt') a'.tmps → a'.defers = [] → Q (.exit i) a' w') → c.wp P Q a w

/-- One round: from the general state to the general state, and from the last one to the told one. -/
noncomputable def stepC (j N K : Nat) (bd : CdF) (lt : List (Nat × AV)) (rows : List (Nat × List AV)) (ltK : List (Nat × AV)) (rowsK : List (Nat × List AV)) : Bool := match bd (mkT lt) (mkH N rows) with
  | .norm t1 h1 => (relTb [(j, 0, Int.ofNat K)] [] [(j, some (.var j), 1)] (domR rows) true t1 lt && relHb [(j, 0, Int.ofNat K)] [] [(j, some (.var j), 1)] N h1 rows rows) &&
    (relT [(j, none, Int.ofNat K)] [] (domR rowsK) true t1 ltK && relH [(j, none, Int.ofNat K)] [] N h1 rowsK rowsK)
  | _ => false
noncomputable def finC (m N i : Nat) (bd : CdF) (ltK : List (Nat × AV)) (rowsK : List (Nat × List AV)) (ltE : List (Nat × AV)) (rowsE : List (Nat × List AV)) : Bool := match cLp m bd (mkT ltK) (mkH N rowsK) with
  | .exit i' t1 h1 => Nat.beq i' i && (relT [] [] (domR rowsE) true t1 ltE && relH [] [] N h1 rowsE rowsE)
  | _ => false

theorem apIo_step (j : Nat) (B : Nat → Int) (k : Int) : apIo [(j, some (.var j), 1)] (apIo [(j, none, k)] B).io = apIo [(j, none, k + 1)] B := by
  have key : ∀ i, (apIo [(j, some (.var j), 1)] (apIo [(j, none, k)] B).io).io i = (apIo [(j, none, k + 1)] B).io i := by
    intro i
    have hj : ∀ (e : Option SV × Int), evGet [(j, e)] j = some e := fun e => by
      show (bif Nat.beq j j then some e else none) = _
      rw [Nat.beq_refl]; rfl
    by_cases hi : i = j
    · subst hi
      rw [apIo_some (hj _), apIo_some (hj _)]
      show (apIo [(i, none, k)] B).io i + 1 = 0 + (k + 1)
      rw [apIo_some (hj _)]
      show 0 + k + 1 = _
      omega
    · have hn : ∀ (e : Option SV × Int), evGet [(j, e)] i = none := fun e => by
        show (bif Nat.beq j i then some e else none) = _
        rw [show Nat.beq j i = false from by rw [Bool.eq_false_iff]; intro q; exact hi (Nat.eq_of_beq_eq_true q).symm]
        rfl
      rw [apIo_none (hn _), apIo_none (hn _), apIo_none (hn _)]
  exact congrArg Io.mk (funext key)

/-- A loop that does the same again and again, K + 1 times, but for one number that grows by one each time, from 0 on. -/
theorem loop_at {P : Program} {nt : Nat} {x : Code} {bd : CdF} (hx : ∀ J : Io, @CdOk J P nt x bd) {j N K m i : Nat} {lt0 lt ltK ltE : List (Nat × AV)} {rows0 rows rowsK rowsE : List (Nat × List AV)}
    (h0 : (relT [] [(j, none, 0)] (domR rows) true (mkT lt0) lt && (relH [] [(j, none, 0)] N (mkH N rows0) rows rows && eqDom rows0 rows)) = true)
    (hs : (stepC j N K bd lt rows ltK rowsK && eqDom rows rowsK) = true)
    (hf : (finC m N i bd ltK rowsK ltE rowsE && eqDom rowsK rowsE) = true) (B : Io) : CdAt B P nt (.loop x) lt0 N rows0 i ltE rowsE := by
  simp only [Bool.and_eq_true] at h0 hf hs
  have d01 : ∀ id, domR rows id = domR rows0 id := fun id => dom_eq (eqDom_iff h0.2.2) id
  have d1K : ∀ id, domR rowsK id = domR rows id := fun id => dom_eq (eqDom_iff hs.2) id
  have dKE : ∀ id, domR rowsE id = domR rowsK id := fun id => dom_eq (eqDom_iff hf.2) id
  have noImm : ∀ (I : Io) {g : G} {w : World} {h : Hp}, @HR I g w h → ∀ b, g.imm b → ∀ id r s, h.objs.get id = some r → g.m id = some (b, s) → False := by
    intro I g w h H b hb id r s hgt hm
    obtain ⟨b', s2, C, el, vs, h1, h2, h3, _⟩ := @HR.objs I _ _ _ H id r hgt
    rw [hm] at h1
    obtain ⟨rfl, _⟩ := Prod.mk.inj (Option.some.inj h1)
    exact h3 hb
  intro g w a Q hg H T D K'
  refine wp_loop_rounds (K + 1 + m) ?_
  have H1 : @HR (apIo [(j, none, 0)] B.io) (subG g (domR rows) g.imm) w (mkH N rows) := hr_rel (eS := []) (B := B.io) h0.2.1 H (@HR.imm B _ _ _ H) (fun b hb id r s _ hgt hm => noImm B H b hb id r s hgt hm)
  have T1 : @TR (apIo [(j, none, 0)] B.io) (subG g (domR rows) g.imm) w nt (mkT lt) a.tmps := tr_rel (g := g) (eS := []) (B := B.io) h0.1 (fun id x hd e => by show (bif domR rows id then g.m id else none) = _; rw [hd]; exact e) (fun _ b hb => hb) T
  have E1 : Ext g w (mkH N rows0) (subG g (domR rows) g.imm) w (mkH N rows) := ext_cut (fun id hd => by rw [d01]; exact hd) (fun id hd => mkO_alive (by rw [← d01]; exact hd)) hg (Ext.refl _ _ _)
  -- the end
  have last : ∀ (g : G) (w : World) (a : Act), (∀ id x, g.m id = some x → domR rowsK id = true) → @HR B g w (mkH N rowsK) → @TR B g w nt (mkT ltK) a.tmps → a.defers = [] →
      (∀ g' w' a', Ext g w (mkH N rowsK) g' w' (mkH N rowsE) → @HR B g' w' (mkH N rowsE) → @TR B g' w' nt (mkT ltE) a'.tmps → a'.defers = [] → Q (.exit i) a' w') → Code.rounds P x Q m a w := by
    intro g w a hg H2 T2 D K'
    have hfin := hf.1
    unfold finC at hfin
    split at hfin
    · rename_i i' t1 h1 e
      simp only [Bool.and_eq_true] at hfin
      obtain ⟨hi, ht, hh⟩ := hfin
      obtain rfl := Nat.eq_of_beq_eq_true hi
      refine @rounds_ok B P nt x bd (hx B) Q m _ w (mkT ltK) (mkH N rowsK) a H2 T2 D i' t1 h1 e (fun g' w' a' E' H' T' D' => ?_)
      have al : ∀ id, domR rowsE id = true → ∃ r, h1.objs.get id = some r := by
        intro id hd
        obtain ⟨l, hl⟩ := domR_iff.1 hd
        obtain ⟨_, r, hg, _⟩ := relH_mem hh _ hl
        exact ⟨r, hg⟩
      refine K' (subG g' (domR rowsE) g'.imm) w' a' (ext_cut (fun id hd => by rw [dKE]; exact hd) al hg E') ?_ ?_ D'
      · exact hr_rel (eS := []) (eT := []) (B := B.io) hh H' (@HR.imm B _ _ _ H') (fun b hb id r s _ hgt hm => noImm B H' b hb id r s hgt hm)
      · exact tr_rel (g := g') (eS := []) (eT := []) (B := B.io) ht (fun id x hd e => by show (bif domR rowsE id then g'.m id else none) = _; rw [hd]; exact e) (fun _ b hb => hb) T'
    · cases hfin
  -- the rounds
  have key : ∀ (d k : Nat), k + d = K → ∀ (g : G) (w : World) (a : Act), (∀ id x, g.m id = some x → domR rows id = true) → @HR (apIo [(j, none, (k : Int))] B.io) g w (mkH N rows) → @TR (apIo [(j, none, (k : Int))] B.io) g w nt (mkT lt) a.tmps → a.defers = [] →
      (∀ g' w' a', Ext g w (mkH N rows) g' w' (mkH N rowsE) → @HR B g' w' (mkH N rowsE) → @TR B g' w' nt (mkT ltE) a'.tmps → a'.defers = [] → Q (.exit i) a' w') → Code.rounds P x Q (d + 1 + m) a w := by
    intro d
    induction d with
    | zero =>
      intro k hk g w a hg H T D K'
      obtain rfl : k = K := by omega
      rw [show 0 + 1 + m = m + 1 by omega]
      have hstep := hs.1
      unfold stepC at hstep
      split at hstep
      · rename_i t1 h1 e
        simp only [Bool.and_eq_true] at hstep
        have hb := hx (apIo [(j, none, (k : Int))] B.io) g w (mkT lt) (mkH N rows) a (Exit.then (Code.rounds P x Q m) Q) H T D
        rw [e] at hb
        refine hb fun g1 w1 a1 E1 H1 T1 D1 => ?_
        have al : ∀ id, domR rowsK id = true → ∃ r, h1.objs.get id = some r := by
          intro id hd
          obtain ⟨l, hl⟩ := domR_iff.1 hd
          obtain ⟨_, r, hg, _⟩ := relH_mem hstep.2.2 _ hl
          exact ⟨r, hg⟩
        have H2 : @HR B (subG g1 (domR rowsK) g1.imm) w1 (mkH N rowsK) := hr_rel (eS := [(j, none, (k : Int))]) (eT := []) (B := B.io) hstep.2.2 H1 (@HR.imm (apIo [(j, none, (k : Int))] B.io) _ _ _ H1) (fun b hb id r s _ hgt hm => noImm _ H1 b hb id r s hgt hm)
        have T2 : @TR B (subG g1 (domR rowsK) g1.imm) w1 nt (mkT ltK) a1.tmps := tr_rel (g := g1) (eS := [(j, none, (k : Int))]) (eT := []) (B := B.io) hstep.2.1 (fun id x hd e => by show (bif domR rowsK id then g1.m id else none) = _; rw [hd]; exact e) (fun _ b hb => hb) T1
        exact last _ w1 a1 (fun id x e => (subG_m e).1) H2 T2 D1 (fun g' w' a' E' => K' g' w' a' ((ext_cut (fun id hd => by rw [d1K]; exact hd) al hg E1).trans E'))
      · cases hstep
    | succ d ih =>
      intro k hk g w a hg H T D K'
      rw [show d + 1 + 1 + m = (d + 1 + m) + 1 by omega]
      have hstep := hs.1
      unfold stepC at hstep
      split at hstep
      · rename_i t1 h1 e
        simp only [Bool.and_eq_true] at hstep
        have hb := hx (apIo [(j, none, (k : Int))] B.io) g w (mkT lt) (mkH N rows) a (Exit.then (Code.rounds P x Q (d + 1 + m)) Q) H T D
        rw [e] at hb
        refine hb fun g1 w1 a1 E1 H1 T1 D1 => ?_
        have hIo : apIo [(j, some (.var j), 1)] (apIo [(j, none, (k : Int))] B.io).io = apIo [(j, none, ((k + 1 : Nat) : Int))] B.io := by
          rw [apIo_step]; rfl
        have hH : HbOk [(j, 0, Int.ofNat K)] (apIo [(j, some (.var j), 1)] (apIo [(j, none, (k : Int))] B.io).io) := by
          intro y hy
          rw [List.mem_singleton] at hy
          subst hy
          rw [hIo]
          have e1 : (apIo [(j, none, ((k + 1 : Nat) : Int))] B.io).io j = ((k + 1 : Nat) : Int) := by
            have e2 : evGet [(j, (none : Option SV), ((k + 1 : Nat) : Int))] j = some (none, ((k + 1 : Nat) : Int)) := by
              show (bif Nat.beq j j then some ((none : Option SV), ((k + 1 : Nat) : Int)) else none) = _
              rw [Nat.beq_refl]; rfl
            rw [apIo_some e2]
            show (0 : Int) + _ = _
            omega
          rw [e1]
          show (0 : Int) ≤ _ ∧ _ ≤ ((K : Nat) : Int)
          omega
        have al : ∀ id, domR rows id = true → ∃ r, h1.objs.get id = some r := by
          intro id hd
          obtain ⟨l, hl⟩ := domR_iff.1 hd
          obtain ⟨_, r, hg, _⟩ := relH_mem hstep.1.2 _ hl
          exact ⟨r, hg⟩
        have H2 : @HR (apIo [(j, none, ((k + 1 : Nat) : Int))] B.io) (subG g1 (domR rows) g1.imm) w1 (mkH N rows) := by
          rw [← hIo]
          exact hr_relb hH (eS := []) (B := (apIo [(j, none, (k : Int))] B.io).io) hstep.1.2 H1 (@HR.imm (apIo [(j, none, (k : Int))] B.io) _ _ _ H1) (fun b hb id r s _ hgt hm => noImm _ H1 b hb id r s hgt hm)
        have T2 : @TR (apIo [(j, none, ((k + 1 : Nat) : Int))] B.io) (subG g1 (domR rows) g1.imm) w1 nt (mkT lt) a1.tmps := by
          rw [← hIo]
          exact tr_relb hH (g := g1) (eS := []) (B := (apIo [(j, none, (k : Int))] B.io).io) hstep.1.1 (fun id x hd e => by show (bif domR rows id then g1.m id else none) = _; rw [hd]; exact e) (fun _ b hb => hb) T1
        exact ih (k + 1) (by omega) _ w1 a1 (fun id x e => (subG_m e).1) H2 T2 D1 (fun g' w' a' E' => K' g' w' a' ((ext_cut (fun id hd => hd) al hg E1).trans E'))
      · cases hstep
  exact key K 0 (by omega) _ w a (fun id x e => (subG_m e).1) H1 T1 D (fun g' w' a' E' => K' g' w' a' (E1.trans E'))
end Go.Ab

namespace Go.Ab
section
variable [Io] {P : Program}
theorem cd_seq {nt : Nat} {x y : Code} {fx fy : CdF} (hx : CdOk P nt x fx) (hy : CdOk P nt y fy) : CdOk P nt (.seq x y) (cSq fx fy) := by
  intro g w t h a Q H T D
  show match cSq fx fy t h with | .bad => _ | .norm _ _ => _ | .ret _ _ => _ | .exit _ _ _ => _
  unfold cSq
  have h1 := hx g w t h a (Exit.then (y.wp P Q) Q) H T D
  cases e : fx t h with
  | bad => exact trivial
  | ret t1 h1' => rw [e] at h1; exact fun K => wp_seq (h1 K)
  | exit i t1 h1' => rw [e] at h1; exact fun K => wp_seq (h1 K)
  | norm t1 h1' =>
    rw [e] at h1
    show match fy t1 h1' with | .bad => _ | .norm _ _ => _ | .ret _ _ => _ | .exit _ _ _ => _
    cases e2 : fy t1 h1' with
    | bad => exact trivial
    | norm t2 h2 =>
      intro K
      refine wp_seq (h1 fun g1 w1 a1 E1 H1 T1 D1 => ?_)
      have := hy g1 w1 t1 h1' a1 Q H1 T1 D1
      rw [e2] at this
      exact this (Post.then E1 K)
    | ret t2 h2 =>
      intro K
      refine wp_seq (h1 fun g1 w1 a1 E1 H1 T1 D1 => ?_)
      have := hy g1 w1 t1 h1' a1 Q H1 T1 D1
      rw [e2] at this
      exact this (Post.then E1 K)
    | exit i t2 h2 =>
      intro K
      refine wp_seq (h1 fun g1 w1 a1 E1 H1 T1 D1 => ?_)
      have := hy g1 w1 t1 h1' a1 Q H1 T1 D1
      rw [e2] at this
      exact this (Post.then E1 K)

theorem cd_block {nt : Nat} {id : Nat} {x : Code} {fx : CdF} (hx : CdOk P nt x fx) : CdOk P nt (.block id x) (cBl id fx) := by
  intro g w t h a Q H T D
  show match cBl id fx t h with | .bad => _ | .norm _ _ => _ | .ret _ _ => _ | .exit _ _ _ => _
  unfold cBl
  have := hx g w t h a (Exit.inBlock id Q) H T D
  cases e : fx t h <;> rw [e] at this
  · exact trivial
  · exact fun K => wp_block (this K)
  · exact fun K => wp_block (this K)
  · rename_i i t1 h1
    show match (Bool.rec (Rc.exit i t1 h1) (Rc.norm t1 h1) (Nat.beq i id) : Rc) with | .bad => _ | .norm _ _ => _ | .ret _ _ => _ | .exit _ _ _ => _
    cases hb : Nat.beq i id with
    | true =>
      obtain rfl := Nat.eq_of_beq_eq_true hb
      exact fun K => wp_block (this fun g' w' a' E' H' T' D' => by
        show Exit.inBlock i Q (.exit i) a' w'
        simp only [Exit.inBlock, if_true]
        exact K g' w' a' E' H' T' D')
    | false =>
      have hne : i ≠ id := fun k => by rw [k, Nat.beq_refl] at hb; cases hb
      exact fun K => wp_block (this fun g' w' a' E' H' T' D' => by
        show Exit.inBlock id Q (.exit i) a' w'
        simp only [Exit.inBlock, if_neg hne]
        exact K g' w' a' E' H' T' D')

/-- The code of a function, its k-th piece being a loop that is done otherwise. -/
noncomputable def cRep (P : Program) (draw : Array Oper → RgF) (call : CallF) (n nt : Nat) (f : CdF) : Nat → Code → CdF
  | 0, .seq (.block id (.loop _)) r => cSq (cBl id f) (cCode P draw call n nt r)
  | k + 1, .seq a r => cSq (cCode P draw call n nt a) (cRep P draw call n nt f k r)
  | _, _ => cBad
def lpOf : Nat → Code → Code
  | 0, .seq (.block _ (.loop x)) _ => x
  | k + 1, .seq _ r => lpOf k r
  | _, _ => .skip
theorem cRep_ok {call : CallF} (hc : CallOk P call) {draw : Array Oper → RgF} {nt : Nat} (hd : ∀ id ops, RgOk P nt (.region id ops true) (draw ops)) (n : Nat) {f : CdF} : ∀ (k : Nat) (c : Code), CdOk P nt (.loop (lpOf k c)) f → CdOk P nt c (cRep P draw call n nt f k c) := by
  intro k
  induction k with
  | zero =>
    intro c hf
    unfold cRep
    split
    · exact cd_seq (cd_block hf) (code_ok hc hd n _)
    · rename_i h; cases h
    · exact cd_bad
  | succ k ih =>
    intro c hf
    unfold cRep
    split
    · rename_i h; cases h
    · rename_i k' a r h
      cases h
      exact cd_seq (code_ok hc hd n _) (ih r hf)
    · exact cd_bad

/-- A function by a piece of code that is right for its body. -/
theorem call_of_cd {f : FuncId} {F : Func} {cd : Code} {b : Fb} (hF : P.funcs[f]? = some F) (hcb : F.body = some cd) (hnt : b.ntmps = F.ntmps) (h512 : b.ntmps ≤ 512) (hres : cRVs P b.ntmps F.results.toList = some b.res) {bdF : CdF} (hcode : CdOk P b.ntmps cd bdF)
    {args : List AV} {h h' : Hp} {v : AV} (hle' : args.length ≤ b.ntmps)
    (e : (match bdF (enterT args 0 Tm.none) h with | .norm t h => fin b.res t h | .ret t h => fin b.res t h | _ => .bad) = Ro.ok v h') :
    ∀ (g : G) (w : World) (vs : List Value), HR g w h → VRs g w args vs →
      Calls P f vs.toArray w fun e w' => ∃ x g', e = .returned x ∧ Ext g w h g' w' h' ∧ HR g' w' h' ∧ VR g' w' v x := by
  refine fun g w vs H hv => ?_
  have hvl := hv.length
  have hsize : (vs.toArray ++ Array.replicate (F.ntmps - vs.toArray.size) undef).size = b.ntmps := by simp; omega
  have hT0 : TR g w b.ntmps Tm.none (vs.toArray ++ Array.replicate (F.ntmps - vs.toArray.size) undef) :=
    ⟨h512, hsize, fun i v hi e => by rw [Tm.at_none i hi] at e; cases e⟩
  have hT := enter_ok args vs 0 b.ntmps Tm.none _ hv (by omega) hT0 (fun j v e => by
    rw [Array.getElem?_append_left (by have := (List.getElem?_eq_some_iff.1 e).1; simpa using this)]
    simpa using e)
  refine calls_of_wp hF hcb ?_
  have := hcode g w _ h { tmps := vs.toArray ++ Array.replicate (F.ntmps - vs.toArray.size) undef, defers := [] }
    (bodyPost P F (fun e w' => ∃ x g', e = .returned x ∧ Ext g w h g' w' h' ∧ HR g' w' h' ∧ VR g' w' v x)) H hT rfl
  have fin' : ∀ t1 h1, fin b.res t1 h1 = .ok v h' → ∀ g' w' (a' : Act), Ext g w h g' w' h1 → HR g' w' h1 → TR g' w' b.ntmps t1 a'.tmps → a'.defers = [] →
      a'.defers = [] ∧ ∃ x, (results F a'.tmps).run P w' = .ok x w' ∧ ∃ y g', Ending.returned x = .returned y ∧ Ext g w h g' w' h' ∧ HR g' w' h' ∧ VR g' w' v y := by
    intro t1 h1 hfin g' w' a' E' H' T' D'
    obtain ⟨rfl, x, hx, hxv⟩ := fin_ok H' T' hres hfin
    exact ⟨D', x, hx, x, g', rfl, E', H', hxv⟩
  cases hr : bdF (enterT args 0 Tm.none) h with
  | bad => rw [hr] at e; cases e
  | norm t1 h1 => rw [hr] at e this; exact this (fin' t1 h1 e)
  | ret t1 h1 => rw [hr] at e this; exact this (fin' t1 h1 e)
  | exit i t1 h1 => rw [hr] at e; cases e


end

/-- A loop that is known from certain states on. -/
structure Le where
  lt : List (Nat × AV)
  N : Nat
  rows : List (Nat × List AV)
  i : Nat
  ltE : List (Nat × AV)
  rowsE : List (Nat × List AV)
noncomputable def cLpE (e : Le) (f : CdF) : CdF := fun t h => Bool.rec (f t h) (Rc.exit e.i (mkT e.ltE) (updH h e.rowsE))
  (relT [] [] (domR e.rows) true t e.lt && relH [] [] e.N h e.rows e.rows)
noncomputable def leC (e : Le) : Bool := relT [] [] (domR e.rows) false (mkT e.ltE) e.ltE && (relH [] [] e.N (mkH e.N e.rowsE) e.rows e.rowsE && eqDom e.rows e.rowsE)

theorem cd_lpE {I : Io} {P : Program} {nt : Nat} {x : Code} {e : Le} {f : CdF} (hf : @CdOk I P nt (.loop x) f) (hc : leC e = true) (hA : CdAt I P nt (.loop x) e.lt e.N e.rows e.i e.ltE e.rowsE) : @CdOk I P nt (.loop x) (cLpE e f) := by
  intro g w t h a Q H T D
  show match (Bool.rec (f t h) (Rc.exit e.i (mkT e.ltE) (updH h e.rowsE)) (relT [] [] (domR e.rows) true t e.lt && relH [] [] e.N h e.rows e.rows) : Rc) with | .bad => _ | .norm _ _ => _ | .ret _ _ => _ | .exit _ _ _ => _
  cases hb : (relT [] [] (domR e.rows) true t e.lt && relH [] [] e.N h e.rows e.rows) with
  | false => exact hf g w t h a Q H T D
  | true =>
    rw [Bool.and_eq_true] at hb
    intro K
    simp only [leC, Bool.and_eq_true] at hc
    refine hA (subG g (domR e.rows) (immF g h (domR e.rows))) w a Q (fun id x e => (subG_m e).1) (frame_in (eS := []) (eT := []) (B := I.io) H hb.2)
      (tr_rel (g := g) (eS := []) (eT := []) (B := I.io) hb.1 (fun id x hd e' => by show (bif domR e.rows id then g.m id else none) = _; rw [hd]; exact e') (fun _ b hb => .inl hb) T) D (fun g' w' a' E' H' T' D' => ?_)
    obtain ⟨E2, H2, gm⟩ := frame_back (eS := []) (eT := []) (B := I.io) H hb.2 (fun id => dom_eq (eqDom_iff hc.2.2) id) hc.2.1 E' H'
    exact K g w' a' E2 H2 (tr_rel (g := g') (eS := []) (eT := []) (B := I.io) hc.1 gm (fun k => by cases k) T') D'

/-- One function with a loop done otherwise; all others as they are. -/
noncomputable def aStepH (fn : FuncId → Option Fb) (fH : FuncId) (bH : CallF → Nat → CdF → CdF) (lp : CallF → Nat → CdF) (n : Nat) (c : CallF) : CallF := fun f args h => Bool.rec (aStep fn n c f args h) (match fn fH with
  | some b => ifb (Nat.ble (len args) b.ntmps) (match bH c n (lp c n) (enterT args 0 Tm.none) h with
    | .norm t h => fin b.res t h
    | .ret t h => fin b.res t h
    | _ => .bad) .bad
  | none => .bad) (Nat.beq f fH)
theorem aStepH_ok [Io] {P : Program} {draw : CallF → Nat → Array Oper → RgF} (hd : DrawOk P draw) {fn : FuncId → Option Fb} (hf : ∀ f b, fn f = some b → FbOk P draw f b) (n : Nat) {fH : FuncId} {bH : CallF → Nat → CdF → CdF} {lp : CallF → Nat → CdF} {c : CallF} (hc : CallOk P c)
    {b : Fb} {F : Func} {cd : Code} (hb : fn fH = some b) (hF : P.funcs[fH]? = some F) (hcb : F.body = some cd) (hnt : b.ntmps = F.ntmps) (h512 : b.ntmps ≤ 512) (hres : cRVs P b.ntmps F.results.toList = some b.res)
    (k : Nat) (hbH : bH = fun c n f => cRep P (draw c b.ntmps) c n b.ntmps f k cd) (hlp : CdOk P b.ntmps (.loop (lpOf k cd)) (lp c n)) : CallOk P (aStepH fn fH bH lp n c) := by
  intro f args h v h' e
  unfold aStepH at e
  cases hfb : Nat.beq f fH with
  | false => rw [hfb] at e; exact aStep_ok hd hf n hc f args h v h' e
  | true =>
    rw [hfb] at e
    obtain rfl := Nat.eq_of_beq_eq_true hfb
    simp only [hb] at e
    cases hle : Nat.ble (len args) b.ntmps with
    | false => rw [hle] at e; cases e
    | true =>
      rw [hle] at e
      change (match bH c n (lp c n) (enterT args 0 Tm.none) h with | .norm t h => fin b.res t h | .ret t h => fin b.res t h | _ => .bad) = Ro.ok v h' at e
      rw [len_eq] at hle
      refine ⟨(hf f b hb).enter, ?_⟩
      rw [hbH] at e
      exact call_of_cd hF hcb hnt h512 hres (cRep_ok hc (fun id ops => hd _ _ hc id ops) n k cd hlp) (Nat.ble_eq.mp hle) e
/-- Calls, one function's loop done otherwise, known calls laid ahead of each. -/
noncomputable def hCall (fn : FuncId → Option Fb) (fH : FuncId) (bH : CallF → Nat → CdF → CdF) (lp : CallF → Nat → CdF) (wr : CallF → CallF) (n : Nat) (d : Nat) : CallF := Nat.rec (fun _ _ _ => .bad) (fun _ ih => aStepH fn fH bH lp n (wr ih)) d
theorem hCall_ok [Io] {P : Program} {draw : CallF → Nat → Array Oper → RgF} (hd : DrawOk P draw) {fn : FuncId → Option Fb} (hf : ∀ f b, fn f = some b → FbOk P draw f b) (n : Nat) {fH : FuncId} {bH : CallF → Nat → CdF → CdF} {lp : CallF → Nat → CdF} {wr : CallF → CallF} (hw : ∀ c, CallOk P c → CallOk P (wr c))
    {b : Fb} {F : Func} {cd : Code} (hb : fn fH = some b) (hF : P.funcs[fH]? = some F) (hcb : F.body = some cd) (hnt : b.ntmps = F.ntmps) (h512 : b.ntmps ≤ 512) (hres : cRVs P b.ntmps F.results.toList = some b.res)
    (k : Nat) (hbH : bH = fun c n f => cRep P (draw c b.ntmps) c n b.ntmps f k cd) (hlp : ∀ c, CallOk P c → CdOk P b.ntmps (.loop (lpOf k cd)) (lp c n)) : ∀ d, CallOk P (hCall fn fH bH lp wr n d)
  | 0 => by intro f args h v h' e; cases e
  | d + 1 => by
    have hc := hw _ (hCall_ok hd hf n hw hb hF hcb hnt h512 hres k hbH hlp d)
    exact aStepH_ok hd hf n hc hb hF hcb hnt h512 hres k hbH (hlp _ hc)
end Go.Ab

namespace Go.Ab

noncomputable def atC (N : Nat) (rows : List (Nat × List AV)) (v : AV) (rows' : List (Nat × List AV)) (r : Ro) : Bool := match r with
  | .ok v1 h1 => relA [] [] [] (sgI (domR rows')) false v1 v && (relH [] [] N h1 rows' rows' && eqDom rows rows')
  | _ => false
theorem noImm {I : Io} {g : G} {w : World} {h : Hp} (H : @HR I g w h) : ∀ b, g.imm b → ∀ id r s, h.objs.get id = some r → g.m id = some (b, s) → False := by
  intro b hb id r s hgt hm
  obtain ⟨b', s2, C, el, vs, h1, h2, h3, _⟩ := @HR.objs I _ _ _ H id r hgt
  rw [hm] at h1
  obtain ⟨rfl, _⟩ := Prod.mk.inj (Option.some.inj h1)
  exact h3 hb
theorem relH_alive {hb : Hb} {eS eT : Ev} {N : Nat} {h : Hp} {rows : List (Nat × List AV)} (hr : relHb hb eS eT N h rows rows = true) (id : Nat) (hd : domR rows id = true) : ∃ r, h.objs.get id = some r := by
  obtain ⟨l, hl⟩ := domR_iff.1 hd
  obtain ⟨_, r, hg, _⟩ := relH_mem hr _ hl
  exact ⟨r, hg⟩

/-- By one run. -/
theorem callAt_of {I : Io} {P : Program} {call : CallF} (hc : @CallOk I P call) {f : FuncId} {args : List AV} {N : Nat} {rows rows' : List (Nat × List AV)} {v : AV} (e : atC N rows v rows' (call f args (mkH N rows)) = true) : CallAt I P f args N rows v rows' := by
  intro g w vs hg H hv
  unfold atC at e
  split at e
  · rename_i v1 h1 hr
    simp only [Bool.and_eq_true] at e
    obtain ⟨e1, e2, e3⟩ := e
    refine ((hc f args (mkH N rows) v1 h1 hr).2 g w vs H hv).mono ?_
    rintro e w' ⟨x, g', rfl, E, H', hx⟩
    have hm : ∀ id y, domR rows' id = true → g'.m id = some y → (subG g' (domR rows') g'.imm).m id = some y := fun id y hd e => by show (bif domR rows' id then g'.m id else none) = _; rw [hd]; exact e
    exact ⟨x, subG g' (domR rows') g'.imm, rfl, ext_cut (fun id hd => by rw [dom_eq (eqDom_iff e3)]; exact hd) (relH_alive e2) hg E,
      hr_rel (eS := []) (eT := []) (B := I.io) e2 H' (@HR.imm I _ _ _ H') (fun b hb id r s _ => noImm H' b hb id r s), relA_ok (B := I.io) (eS := []) (eT := []) HbOk.none (sgI_m hm) (fun h => by cases h) _ _ _ e1 hx⟩
  · cases e

/-- The same call under other names of the numbers. -/
theorem callAt_conv {P : Program} {B : Nat → Int} {eI eJ : Ev} {hb hb' : Hb} {f : FuncId} {N : Nat} {args argsI : List AV} {rows rows' rowsI rowsI' : List (Nat × List AV)} {v vI : AV} (h : CallAt (apIo eJ B) P f args N rows v rows')
    (hHJ : HbOk hb (apIo eJ B)) (hHI : HbOk hb' (apIo eI B))
    (c : (relHb hb eI eJ N (mkH N rowsI) rows rows && (relAs hb eI eJ (sgI (domR rows)) true argsI args && (relHb hb' eJ eI N (mkH N rows') rowsI' rowsI' && (relA hb' eJ eI (sgI (domR rowsI')) false v vI && (eqDom rowsI rows && (eqDom rows rows' && eqDom rows' rowsI')))))) = true) :
    CallAt (apIo eI B) P f argsI N rowsI vI rowsI' := by
  simp only [Bool.and_eq_true] at c
  obtain ⟨c1, c2, c3, c4, d1, d2, d3⟩ := c
  have q1 := dom_eq (eqDom_iff d1)
  have q2 := dom_eq (eqDom_iff d2)
  have q3 := dom_eq (eqDom_iff d3)
  intro g w vs hg H hv
  have H1 : @HR (apIo eJ B) (subG g (domR rows) g.imm) w (mkH N rows) := hr_relb hHJ c1 H (@HR.imm (apIo eI B) _ _ _ H) (fun b hb id r s _ => noImm H b hb id r s)
  have hm1 : ∀ id y, domR rows id = true → g.m id = some y → (subG g (domR rows) g.imm).m id = some y := fun id y hd e => by show (bif domR rows id then g.m id else none) = _; rw [hd]; exact e
  have hv1 : @VRs (apIo eJ B) (subG g (domR rows) g.imm) w args vs := relAs_ok hHJ (sgI_m hm1) (fun _ b hb => hb) _ _ _ c2 hv
  have E1 : Ext g w (mkH N rowsI) (subG g (domR rows) g.imm) w (mkH N rows) := ext_cut (fun id hd => by rw [q1]; exact hd) (relH_alive c1) hg (Ext.refl _ _ _)
  refine (h _ w vs (fun id x e => (subG_m e).1) H1 hv1).mono ?_
  rintro e w' ⟨x, g', rfl, E, H', hx⟩
  have hm2 : ∀ id y, domR rowsI' id = true → g'.m id = some y → (subG g' (domR rowsI') g'.imm).m id = some y := fun id y hd e => by show (bif domR rowsI' id then g'.m id else none) = _; rw [hd]; exact e
  exact ⟨x, subG g' (domR rowsI') g'.imm, rfl, ext_cut (fun id hd => by rw [q3, q2, q1]; exact hd) (relH_alive c3) hg (E1.trans E),
    hr_relb hHI c3 H' (@HR.imm (apIo eJ B) _ _ _ H') (fun b hb id r s _ => noImm H' b hb id r s), relA_ok hHI (sgI_m hm2) (fun h => by cases h) _ _ _ c4 hx⟩

/-- A call that is known from certain states on. -/
structure En where
  f : FuncId
  args : List AV
  N : Nat
  rows : List (Nat × List AV)
  v : AV
  rows' : List (Nat × List AV)
noncomputable def argP (h : Hp) (dm : Nat → Bool) (a p : AV) : Bool := match p with
  | .isl n cs => (match a with
    | .hsl id off n' sz => !(dm id) && (Nat.beq n' n && (match h.objs.get id with
      | some r => (match r.seg off (Nat.mul n' sz) with
        | some l => relAs [] [] [] (sgI dm) false l cs
        | none => false)
      | none => false))
    | a => relA [] [] [] (sgI dm) true a (.isl n cs))
  | p => relA [] [] [] (sgI dm) true a p
noncomputable def argsP (h : Hp) (dm : Nat → Bool) (l : List AV) : List AV → Bool :=
  List.rec (fun m => match m with | [] => true | _ => false) (fun a _ ih m => match m with | [] => false | p :: m => bif argP h dm a p then ih m else false) l
noncomputable def orE (e : En) (call : CallF) : CallF := fun f args h => Bool.rec (call f args h) (Bool.rec (call f args h) (Ro.ok e.v (updH h e.rows')) (argsP h (domR e.rows) args e.args && relH [] [] e.N h e.rows e.rows)) (Nat.beq f e.f)
noncomputable def enC (e : En) : Bool := relA [] [] [] (sgI (domR e.rows)) false e.v e.v && (relH [] [] e.N (mkH e.N e.rows') e.rows e.rows' && eqDom e.rows e.rows')

section
variable {I : Io}
theorem argP_ok {g : G} {w : World} {h : Hp} {dm : Nat → Bool} (H : @HR I g w h) {a p : AV} {v : Value} (e : argP h dm a p = true) (hv : @VR I g w a v) : @VR I (subG g dm (immF g h dm)) w p v := by
  have hm : ∀ id y, dm id = true → g.m id = some y → (subG g dm (immF g h dm)).m id = some y := fun id y hd e => by show (bif dm id then g.m id else none) = _; rw [hd]; exact e
  have gen : relA [] [] [] (sgI dm) true a p = true → @VR I (subG g dm (immF g h dm)) w p v := fun hr => relA_ok (B := I.io) (eS := []) (eT := []) HbOk.none (sgI_m hm) (fun _ b hb => .inl hb) _ _ _ hr hv
  unfold argP at e
  split at e
  · rename_i n cs
    split at e
    · rename_i id off n' sz
      simp only [Bool.and_eq_true, Bool.not_eq_true'] at e
      obtain ⟨hd, hn, e⟩ := e
      obtain rfl := Nat.eq_of_beq_eq_true hn
      split at e
      · rename_i r hg
        split at e
        · rename_i l hs
          obtain ⟨rfl, hlen, _⟩ := seg_some hs
          simp only [VR] at hv ⊢
          rcases hv with ⟨rfl, x, rfl⟩ | ⟨b, s, cap, hmm, rfl, hle, _⟩
          · refine ⟨some x, 0, rfl, Nat.le_refl _, .inl ⟨rfl, ?_⟩⟩
            have hz : Nat.mul 0 sz = 0 := Nat.zero_mul sz
            rw [hz] at e
            simp only [List.take_zero] at e
            cases cs with
            | nil => rfl
            | cons _ _ => cases e
          · obtain ⟨C, el, vs, hw, _, hvs, hC⟩ := @HR.row I _ _ _ H _ _ hg _ _ hmm
            refine ⟨_, cap, rfl, hle, .inr ⟨b, s + off, (vs.drop off).take (Nat.mul n' sz), rfl, .inr ⟨id, r, s, hd, hg, hmm⟩, ((@cellsAt_row w b s C el.el el.fz vs hw hC).drop off).take _, ?_⟩⟩
            exact relAs_ok (B := I.io) (eS := []) (eT := []) HbOk.none (sgI_m hm) (fun h => by cases h) _ _ _ e (@VRs.take I _ _ _ _ (Nat.mul n' sz) (@VRs.drop I _ _ _ _ off hvs))
        · cases e
      · cases e
    · exact gen e
  · exact gen e
theorem argsP_ok {g : G} {w : World} {h : Hp} {dm : Nat → Bool} (H : @HR I g w h) : ∀ {l m : List AV} {vs : List Value}, argsP h dm l m = true → @VRs I g w l vs → @VRs I (subG g dm (immF g h dm)) w m vs
  | [], m, vs, e, hv => by
    cases m with
    | nil => simpa only [VRs] using hv
    | cons _ _ => cases e
  | a :: l, m, vs, e, hv => by
    cases m with
    | nil => cases e
    | cons p m =>
      change (bif argP h dm a p then argsP h dm l m else false) = true at e
      cases h1 : argP h dm a p with
      | false => rw [h1] at e; cases e
      | true =>
        rw [h1] at e
        simp only [VRs] at hv ⊢
        obtain ⟨v, r, rfl, q, hr⟩ := hv
        exact ⟨v, r, rfl, argP_ok H h1 q, argsP_ok H e hr⟩

theorem orE_ok {P : Program} {e : En} {call : CallF} (hen : ∀ as w, (callFunc e.f as).run P w = .ok (.enter e.f as) w) (hk : enC e = true) (hA : CallAt I P e.f e.args e.N e.rows e.v e.rows') (hc : @CallOk I P call) : @CallOk I P (orE e call) := by
  intro f args h v h' he
  unfold orE at he
  cases hf : Nat.beq f e.f with
  | false => rw [hf] at he; exact hc f args h v h' he
  | true =>
  rw [hf] at he
  cases hb : (argsP h (domR e.rows) args e.args && relH [] [] e.N h e.rows e.rows) with
  | false => rw [hb] at he; exact hc f args h v h' he
  | true =>
    rw [hb] at he
    cases he
    obtain rfl := Nat.eq_of_beq_eq_true hf
    rw [Bool.and_eq_true] at hb
    simp only [enC, Bool.and_eq_true] at hk
    refine ⟨hen, fun g w vs H hv => ?_⟩
    refine (hA (subG g (domR e.rows) (immF g h (domR e.rows))) w vs (fun id x e => (subG_m e).1) (frame_in (eS := []) (eT := []) (B := I.io) H hb.2) (argsP_ok H hb.1 hv)).mono ?_
    rintro en w' ⟨x, g', rfl, E', H', hx⟩
    obtain ⟨E2, H2, gm⟩ := frame_back (eS := []) (eT := []) (B := I.io) H hb.2 (fun id => dom_eq (eqDom_iff hk.2.2) id) hk.2.1 E' H'
    exact ⟨x, g, rfl, E2, H2, relA_ok (B := I.io) (eS := []) (eT := []) HbOk.none (sgI_m gm) (fun h => by cases h) _ _ _ hk.1 hx⟩
end
end Go.Ab

namespace Go.Ab
variable [Io]
-- results of new memory alone, looked at to a depth
def leafK (a : AV) : Option AV := match a with
  | .int k n => some (.int k n)
  | .bool b => some (.bool b)
  | .sc v => some (.sc v)
  | .sym k s lo hi o => some (.sym k s lo hi o)
  | .nel => some .nel
  | .esl => some .esl
  | .any => some .any
  | .ref _ _ => some .any
  | .hsl _ _ _ _ => some .any
  | _ => none
noncomputable def frzK (n : Nat) : Hp → AV → Option AV :=
  Nat.rec (fun _ a => leafK a) (fun _ ih h a => match a with
    | .hsl id off n sz => match h.objs.get id with
      | some cs => match cs.seg off (Nat.mul n sz) with
        | some l => match mapA (ih h) l with
          | some l => some (.isl n l)
          | none => none
        | none => none
      | none => none
    | .ref id off => match h.objs.get id with
      | some cs => match cs.seg off (Nat.sub cs.n off) with
        | some l => match mapA (ih h) l with
          | some l => some (.iptr l)
          | none => none
        | none => none
      | none => some .any
    | .agg l => match mapA (ih h) l with
      | some l => some (.agg l)
      | none => none
    | .tup l => match mapA (ih h) l with
      | some l => some (.tup l)
      | none => none
    | .fn f l => match mapA (ih h) l with
      | some l => some (.fn f l)
      | none => none
    | .isl _ _ => none
    | .iptr _ => none
    | a => some a) n

theorem frzK_ok {g g' : G} {w : World} {h : Hp} (H : HR g w h) (ho : ∀ b, Owned g h b → g'.imm b) : ∀ (n : Nat) (a a' : AV) (v : Value), frzK n h a = some a' → VR g w a v → VR g' w a' v := by
  intro n
  induction n with
  | zero =>
    intro a a' v e hv
    change leafK a = some a' at e
    unfold leafK at e
    cases a <;> simp only at e <;> first
      | (cases e; done)
      | (cases e; simpa only [VR] using hv)
      | (cases e; simp only [VR]; exact VR.one hv rfl)
  | succ n ih =>
    intro a a' v e hv
    have hm := @mapA_ok _ g g' w (frzK n h) ih
    cases a with
    | int k n => cases e; simpa only [VR] using hv
    | bool b => cases e; simpa only [VR] using hv
    | sc x => cases e; simpa only [VR] using hv
    | esl => cases e; simpa only [VR] using hv
    | nel => cases e; simpa only [VR] using hv
    | sym k s lo hi o => cases e; simpa only [VR] using hv
    | any => cases e; simpa only [VR] using hv
    | agg l =>
      change (match mapA (frzK n h) l with | some l => some (AV.agg l) | none => none) = some a' at e
      cases h1 : mapA (frzK n h) l with
      | none => rw [h1] at e; cases e
      | some l' =>
        rw [h1] at e
        cases e
        simp only [VR] at hv ⊢
        obtain ⟨vs, e, q⟩ := hv
        exact ⟨vs, e, hm h1 q⟩
    | tup l =>
      change (match mapA (frzK n h) l with | some l => some (AV.tup l) | none => none) = some a' at e
      cases h1 : mapA (frzK n h) l with
      | none => rw [h1] at e; cases e
      | some l' =>
        rw [h1] at e
        cases e
        simp only [VR] at hv ⊢
        obtain ⟨vs, e, q⟩ := hv
        exact ⟨vs, e, hm h1 q⟩
    | fn f l =>
      change (match mapA (frzK n h) l with | some l => some (AV.fn f l) | none => none) = some a' at e
      cases h1 : mapA (frzK n h) l with
      | none => rw [h1] at e; cases e
      | some l' =>
        rw [h1] at e
        cases e
        simp only [VR] at hv ⊢
        obtain ⟨vs, e, q⟩ := hv
        exact ⟨vs, e, hm h1 q⟩
    | isl m l => cases e
    | iptr l => cases e
    | ref id off =>
      change (match h.objs.get id with | some cs => (match cs.seg off (Nat.sub cs.n off) with | some l => (match mapA (frzK n h) l with | some l => some (AV.iptr l) | none => none) | none => none) | none => some AV.any) = some a' at e
      cases h0 : h.objs.get id with
      | none =>
        rw [h0] at e
        cases e
        simp only [VR]
        exact VR.one hv rfl
      | some cs =>
      rw [h0] at e
      simp only at e
      cases hs : cs.seg off (Nat.sub cs.n off) with
      | none => rw [hs] at e; cases e
      | some l =>
      rw [hs] at e
      simp only at e
      cases h1 : mapA (frzK n h) l with
      | none => rw [h1] at e; cases e
      | some l' =>
        rw [h1] at e
        cases e
        obtain ⟨rfl, _, _⟩ := seg_some hs
        simp only [VR] at hv ⊢
        obtain ⟨b, s, hmm, rfl⟩ := hv
        obtain ⟨C, el, vs, hw, _, hvs, hC⟩ := H.row h0 hmm
        exact ⟨b, s + off, (vs.drop off).take (Nat.sub cs.n off), rfl, ho b ⟨id, cs, s, h0, hmm⟩, ((cellsAt_row hw hC).drop off).take _, hm h1 ((hvs.drop off).take _)⟩
    | hsl id off m sz =>
      change (match h.objs.get id with | some cs => (match cs.seg off (Nat.mul m sz) with | some l => (match mapA (frzK n h) l with | some l => some (AV.isl m l) | none => none) | none => none) | none => none) = some a' at e
      cases h0 : h.objs.get id with
      | none => rw [h0] at e; cases e
      | some cs =>
      rw [h0] at e
      simp only at e
      cases hs : cs.seg off (Nat.mul m sz) with
      | none => rw [hs] at e; cases e
      | some l =>
      rw [hs] at e
      simp only at e
      cases h1 : mapA (frzK n h) l with
      | none => rw [h1] at e; cases e
      | some l' =>
        rw [h1] at e
        cases e
        obtain ⟨rfl, hlen, _⟩ := seg_some hs
        simp only [VR] at hv ⊢
        rcases hv with ⟨rfl, x, rfl⟩ | ⟨b, s, cap, hmm, rfl, hle, _⟩
        · refine ⟨x, 0, rfl, Nat.le_refl _, .inl ⟨rfl, ?_⟩⟩
          have hz : Nat.mul 0 sz = 0 := Nat.zero_mul sz
          rw [hz] at h1
          simp only [List.take_zero] at h1
          cases h1
          rfl
        · obtain ⟨C, el, vs, hw, _, hvs, hC⟩ := H.row h0 hmm
          exact ⟨_, cap, rfl, hle, .inr ⟨b, s + off, (vs.drop off).take (Nat.mul m sz), rfl, ho b ⟨id, cs, s, h0, hmm⟩, ((cellsAt_row hw hC).drop off).take _, hm h1 ((hvs.drop off).take _)⟩⟩



noncomputable def resK (n : Nat) (r : Ro) : Option AV := Ro.rec none (fun v h => frzK n h v) r
/-- By one run. -/
theorem knownK_of {P : Program} {call : CallF} (hc : CallOk P call) {f : FuncId} {args : List AV} {v' : AV} (n : Nat) (e : resK n (call f args (nilH 0)) = some v') (ha : noOwns args = true) : KnownF P f args v' := by
  cases hr : call f args (nilH 0) with
  | bad => rw [hr] at e; cases e
  | ok v h' =>
  rw [hr] at e
  have hf : frzK n h' v = some v' := e
  obtain ⟨hen, hcall⟩ := hc f args (nilH 0) v h' hr
  refine ⟨hen, fun g w vs hi hv => (hcall (gE g.imm) w vs (hr_empty hi) (VRs.noOwn _ _ ha hv)).mono ?_⟩
  rintro e w' ⟨x, g', rfl, E, H', hx⟩
  refine ⟨x, rfl, keep_of E, frzK_ok H' (fun b k => ?_) n v v' x hf hx⟩
  rcases E.own' b k with ⟨id, cs, s, e, _⟩ | k1
  · cases e
  · obtain ⟨id, cs, s, e, m⟩ := k
    obtain ⟨_, _, _, hw, _⟩ := H'.row e m
    exact ⟨k1, (Array.getElem?_eq_some_iff.1 hw).1⟩
end Go.Ab
