import Derived.Test.YtfdjdnphbakjoaaPsDefs
import Derived.Test.YtfdjdnphbakjoaaPsR0
import Derived.Test.YtfdjdnphbakjoaaPsR1
import Derived.Test.YtfdjdnphbakjoaaPsR2
import Derived.Test.YtfdjdnphbakjoaaPsR3
namespace Go.Proofs
open Go.Ab
set_option maxRecDepth 1000000
variable [Io]

/-- The value of a number. -/
def valA : AV → Int
  | .int _ n => n
  | .sym _ s _ _ o => evalSV s + o
  | _ => 0
/-- From the i-th on, the numbers are the values of these. -/
def Nums (i : Nat) (l : List AV) : Prop := ∀ k a, l[k]? = some a → Io.io (i + k) = valA a
noncomputable def okC (u : Bool) (a : AV) : Bool := match a with
  | .int k n => eqK k (bif u then .u64 else .i64) && fitK k n n 0
  | .sym k _ lo hi o => eqK k (bif u then .u64 else .i64) && fitK k lo hi o
  | _ => false
noncomputable def okCs : List AV → Bool
  | [] => true
  | a :: b :: c :: r => okC false a && (okC false b && (okC true c && okCs r))
  | _ => false

theorem atom_imp {u : Bool} {a : AV} {i : Nat} (h : okC u a = true) (e : Io.io i = valA a) {g : G} {w : World} {v : Value} (hv : VR g w a v) : VR g w (atomK u i) v := by
  unfold okC at h
  split at h
  · rename_i k n
    rw [Bool.and_eq_true] at h
    obtain ⟨hk, hf⟩ := h
    have hf := fitK_iff hf
    obtain rfl := eqK_iff.1 hk
    simp only [VR] at hv
    subst hv
    change Io.io i = n at e
    cases u
    · change VR g w (.sym .i64 (.var i) (-9223372036854775808) 9223372036854775807 0) _
      simp only [VR]
      have h1 : (-9223372036854775808 : Int) ≤ n + 0 := hf.1
      have h2 : n + 0 ≤ 9223372036854775807 := hf.2
      exact ⟨by show Value.int .i64 n = .int .i64 (Io.io i + 0); rw [e, Int.add_zero], by show _ ≤ Io.io i; omega, by show Io.io i ≤ _; omega⟩
    · change VR g w (.sym .u64 (.var i) 0 18446744073709551615 0) _
      simp only [VR]
      have h1 : (0 : Int) ≤ n + 0 := hf.1
      have h2 : n + 0 ≤ 18446744073709551615 := hf.2
      exact ⟨by show Value.int .u64 n = .int .u64 (Io.io i + 0); rw [e, Int.add_zero], by show _ ≤ Io.io i; omega, by show Io.io i ≤ _; omega⟩
  · rename_i k s lo hi o
    rw [Bool.and_eq_true] at h
    obtain ⟨hk, hf⟩ := h
    have hf := fitK_iff hf
    obtain rfl := eqK_iff.1 hk
    simp only [VR] at hv
    obtain ⟨rfl, hl, hh⟩ := hv
    change Io.io i = evalSV s + o at e
    cases u
    · change VR g w (.sym .i64 (.var i) (-9223372036854775808) 9223372036854775807 0) _
      simp only [VR]
      have h1 : (-9223372036854775808 : Int) ≤ lo + o := hf.1
      have h2 : hi + o ≤ 9223372036854775807 := hf.2
      exact ⟨by show Value.int .i64 (evalSV s + o) = .int .i64 (Io.io i + 0); rw [e, Int.add_zero], by show _ ≤ Io.io i; omega, by show Io.io i ≤ _; omega⟩
    · change VR g w (.sym .u64 (.var i) 0 18446744073709551615 0) _
      simp only [VR]
      have h1 : (0 : Int) ≤ lo + o := hf.1
      have h2 : hi + o ≤ 18446744073709551615 := hf.2
      exact ⟨by show Value.int .u64 (evalSV s + o) = .int .u64 (Io.io i + 0); rw [e, Int.add_zero], by show _ ≤ Io.io i; omega, by show Io.io i ≤ _; omega⟩
  · cases h

omit [Io] in
theorem atoms_succ (n i : Nat) : atoms (n + 1) i = atomK false i :: atomK false (i + 1) :: atomK true (i + 2) :: atoms n (i + 3) := rfl
omit [Io] in
theorem atoms_add (m : Nat) : ∀ (n i : Nat), atoms (n + m) i = atoms n i ++ atoms m (i + 3 * n)
  | 0, i => by rw [Nat.zero_add, Nat.mul_zero, Nat.add_zero]; rfl
  | n + 1, i => by
    rw [show n + 1 + m = (n + m) + 1 by omega, atoms_succ, atoms_succ, atoms_add m n (i + 3), show i + 3 + 3 * n = i + 3 * (n + 1) by omega]
    rfl
theorem atoms_imp {g : G} {w : World} : ∀ (n : Nat) (l : List AV) (i : Nat) (vs : List Value), okCs l = true → l.length = 3 * n → Nums i l → VRs g w l vs → VRs g w (atoms n i) vs
  | 0, [], i, vs, _, _, _, h => h
  | n + 1, a :: b :: c :: r, i, vs, hk, hl, hn, h => by
    simp only [okCs, Bool.and_eq_true] at hk
    simp only [VRs] at h
    obtain ⟨x, l1, rfl, hx, y, l2, rfl, hy, z, l3, rfl, hz, hr⟩ := h
    rw [atoms_succ]
    simp only [VRs]
    refine ⟨x, _, rfl, atom_imp hk.1 (hn 0 a rfl) hx, y, _, rfl, atom_imp hk.2.1 (hn 1 b rfl) hy, z, _, rfl, atom_imp hk.2.2.1 (hn 2 c rfl) hz, ?_⟩
    refine atoms_imp n r (i + 3) l3 hk.2.2.2 (by simp only [List.length_cons] at hl; omega) (fun k d e => ?_) hr
    have := hn (k + 3) d (by simpa using e)
    rwa [show i + 3 + k = i + (k + 3) by omega]
  | n + 1, [], i, vs, _, hl, _, _ => by simp at hl
  | n + 1, [_], i, vs, _, hl, _, _ => by simp at hl; omega
  | n + 1, [_, _], i, vs, _, hl, _, _ => by simp at hl; omega
  | 0, _ :: _, i, vs, _, hl, _, _ => by simp at hl

/-- What a frame of the loop says. -/
theorem fr_mk {g : G} {w : World} {sel : List AV} {j : Nat} {tmps : Array Value} (hs : tmps.size = 35) (h0 : VR g w (.ref 4 0) (tmps.getD 0 undef)) (h6 : VR g w (.agg sel) (tmps.getD 6 undef)) (h7 : VR g w (.int .i64 (Int.ofNat j)) (tmps.getD 7 undef)) :
    TR g w 35 (shTm sel j) tmps := by
  refine ⟨by decide, hs, fun i v hi e => ?_⟩
  unfold shTm at e
  rw [Tm.at_put _ _ _ _ (by decide) hi] at e
  by_cases e7 : i = 7
  · subst e7; rw [if_pos rfl] at e; cases e; exact ⟨by decide, h7⟩
  rw [if_neg e7, Tm.at_put _ _ _ _ (by decide) hi] at e
  by_cases e6 : i = 6
  · subst e6; rw [if_pos rfl] at e; cases e; exact ⟨by decide, h6⟩
  rw [if_neg e6, Tm.at_put _ _ _ _ (by decide) hi] at e
  by_cases e0 : i = 0
  · subst e0; rw [if_pos rfl] at e; cases e; exact ⟨by decide, h0⟩
  rw [if_neg e0, Tm.at_none i hi] at e
  cases e
omit [Io] in
theorem fr_at (sel : List AV) (j : Nat) : (shTm sel j).at 0 = some (.ref 4 0) ∧ (shTm sel j).at 6 = some (.agg sel) ∧ (shTm sel j).at 7 = some (.int .i64 (Int.ofNat j)) := by
  unfold shTm
  refine ⟨?_, ?_, ?_⟩
  · rw [Tm.at_put _ _ _ _ (by decide) (by decide), if_neg (by decide), Tm.at_put _ _ _ _ (by decide) (by decide), if_neg (by decide), Tm.at_put _ _ _ _ (by decide) (by decide), if_pos rfl]
  · rw [Tm.at_put _ _ _ _ (by decide) (by decide), if_neg (by decide), Tm.at_put _ _ _ _ (by decide) (by decide), if_pos rfl]
  · rw [Tm.at_put _ _ _ _ (by decide) (by decide), if_pos rfl]
theorem agg_imp {g : G} {w : World} {l l' : List AV} {v : Value} (h : ∀ vs, VRs g w l vs → VRs g w l' vs) (hv : VR g w (.agg l) v) : VR g w (.agg l') v := by
  simp only [VR] at hv ⊢
  obtain ⟨vs, e, q⟩ := hv
  exact ⟨vs, e, h _ q⟩

structure ShIs (sel : List AV) (j nx K n : Nat) (cs : List AV) (t : Tm) (h : Hp) : Prop where
  a0 : t.at 0 = some (.ref 4 0)
  a6 : t.at 6 = some (.agg sel)
  a7 : t.at 7 = some (.int .i64 (Int.ofNat j))
  nx : h.next = nx
  r3 : h.objs.get 3 = some [.hsl K 0 n 3, shBase, .int .i64 4]
  r4 : h.objs.get 4 = some [.ref 3 0, .hsl 15 0 4 1]
  r15 : h.objs.get 15 = some regs4
  rK : h.objs.get K = some cs
omit [Io] in
theorem shIs_ok {sel : List AV} {j nx K n : Nat} {cs : List AV} {t : Tm} {h : Hp} (e : shIs sel j nx K n cs t h = true) : ShIs sel j nx K n cs t h := by
  unfold shIs at e
  simp only [Bool.and_eq_true] at e
  exact ⟨isV_iff e.1, isG_iff e.2.1, isV_iff e.2.2.1, Nat.eq_of_beq_eq_true e.2.2.2.1, isR_iff e.2.2.2.2.1, isR_iff e.2.2.2.2.2.1, isR_iff e.2.2.2.2.2.2.1, isR_iff e.2.2.2.2.2.2.2⟩

theorem ShIs.frame {sel : List AV} {j nx K n : Nat} {cs : List AV} {t : Tm} {h : Hp} (S : ShIs sel j nx K n cs t h) {sel' : List AV} {g : G} {w : World} {tmps : Array Value} (T : TR g w 35 t tmps) (hs : ∀ vs, VRs g w sel vs → VRs g w sel' vs) :
    TR g w 35 (shTm sel' j) tmps :=
  fr_mk T.2.1 (T.2.2 0 _ (by decide) S.a0).2 (agg_imp hs (T.2.2 6 _ (by decide) S.a6).2) (T.2.2 7 _ (by decide) S.a7).2
theorem ShIs.store {sel : List AV} {j nx K n : Nat} {cs : List AV} {t : Tm} {h : Hp} (S : ShIs sel j nx K n cs t h) {cs' : List AV} {g : G} {w : World} (H : HR g w h) (hs : ∀ vs, VRs g w cs vs → VRs g w cs' vs) :
    Ext g w h g w (shHp nx K n cs') ∧ HR g w (shHp nx K n cs') := by
  refine hr_sub H S.nx.symm fun id c e => ?_
  unfold shHp at e
  simp only [Tr.get_set] at e
  by_cases h1 : id = K
  · subst h1; rw [if_pos rfl] at e; cases e; exact ⟨cs, S.rK, hs⟩
  rw [if_neg h1] at e
  by_cases h2 : id = 15
  · subst h2; rw [if_pos rfl] at e; cases e; exact ⟨_, S.r15, fun _ h => h⟩
  rw [if_neg h2] at e
  by_cases h3 : id = 4
  · subst h3; rw [if_pos rfl] at e; cases e; exact ⟨_, S.r4, fun _ h => h⟩
  rw [if_neg h3] at e
  by_cases h4 : id = 3
  · subst h4; rw [if_pos rfl] at e; cases e; exact ⟨_, S.r3, fun _ h => h⟩
  rw [if_neg h4, Tr.get_nil] at e
  cases e
end Go.Proofs

namespace Go.Proofs
open Go.Ab
set_option maxRecDepth 1000000

theorem shAll_all (j : Nat) (hj : j < 16) : shAll j = true := by
  match j, hj with
  | 0, _ => exact shAll_0
  | 1, _ => exact shAll_1
  | 2, _ => exact shAll_2
  | 3, _ => exact shAll_3
  | 4, _ => exact shAll_4
  | 5, _ => exact shAll_5
  | 6, _ => exact shAll_6
  | 7, _ => exact shAll_7
  | 8, _ => exact shAll_8
  | 9, _ => exact shAll_9
  | 10, _ => exact shAll_10
  | 11, _ => exact shAll_11
  | 12, _ => exact shAll_12
  | 13, _ => exact shAll_13
  | 14, _ => exact shAll_14
  | 15, _ => exact shAll_15
  | k + 16, h => omega
theorem selA_at (j : Nat) (hj : j < 16) : (selA 31 16)[j]? = some (.sym .u8 (.var (20 + j)) 0 31 0) := by
  match j, hj with
  | 0, _ | 1, _ | 2, _ | 3, _ | 4, _ | 5, _ | 6, _ | 7, _ | 8, _ | 9, _ | 10, _ | 11, _ | 12, _ | 13, _ | 14, _ | 15, _ => rfl
  | k + 16, h => omega
def addC (j : Nat) (nz : Bool) : Nat := Nat.add (Nat.add 5 (bif nz then 2 else 0)) (bif Nat.beq (Nat.mod j 8) 0 then 0 else 3)
noncomputable def celChk : Bool := upto 16 fun j => upto 4 fun q => (okCs (cells j q false) && Nat.beq (len (cells j q false)) (Nat.mul 3 (addC j false))) && (okCs (cells j q true) && Nat.beq (len (cells j q true)) (Nat.mul 3 (addC j true)))
theorem celChk_ok : celChk = true := by kernel_rfl
theorem cel_ok {j q : Nat} (hj : j < 16) (hq : q < 4) (nz : Bool) : okCs (cells j q nz) = true ∧ (cells j q nz).length = 3 * addC j nz := by
  have := upto_ok (upto_ok celChk_ok j hj) q hq
  simp only [Bool.and_eq_true, len_eq] at this
  cases nz
  · exact ⟨this.1.1, Nat.eq_of_beq_eq_true this.1.2⟩
  · exact ⟨this.2.1, Nat.eq_of_beq_eq_true this.2.2⟩
noncomputable def lenChk : Bool := upto 16 fun j => upto 17 fun z => Nat.beq (nOf (Nat.add j 1) z) (Nat.add (nOf j z) (addC j false)) && Nat.beq (nOf (Nat.add j 1) (Nat.add z 1)) (Nat.add (nOf j z) (addC j true))
theorem lenChk_ok : lenChk = true := by kernel_rfl
theorem len_ok {j z : Nat} (hj : j < 16) (hz : z < 17) : nOf (j + 1) z = nOf j z + addC j false ∧ nOf (j + 1) (z + 1) = nOf j z + addC j true := by
  have := upto_ok (upto_ok lenChk_ok j hj) z hz
  simp only [Bool.and_eq_true] at this
  exact ⟨Nat.eq_of_beq_eq_true this.1, Nat.eq_of_beq_eq_true this.2⟩

variable [Io]
theorem sh_hd : ∀ id ops, RgOk Try.prog 35 (.region id ops true) (cDraw Try.prog shCall 35 ops) := fun id ops => draw_ok Try.mixed shCall 35 (Try.ok 5000 30) id ops
theorem sh_code (c : Code) : CdOk Try.prog 35 c (cCode Try.prog (cDraw Try.prog shCall 35) shCall 100 35 c) := code_ok (Try.ok 5000 30) sh_hd 100 c
theorem sh_body : CdOk Try.prog 35 shB (shBb shCall 100) := by
  rw [shB_eq]
  exact sh_code shB

/-- A round. -/
theorem sh_step {j nx K n q : Nat} {nz : Bool} {nx' n' : Nat} (hB : shChk j nx K n q nz nx' n' = true) (hj : j < 16) (hq : q < 4)
    (h1 : (Int.ofNat (bif nz then Nat.add (Nat.mul 8 q) 1 else Nat.mul 8 q)) ≤ Io.io (20 + j)) (h2 : Io.io (20 + j) ≤ (Int.ofNat (bif nz then Nat.add (Nat.mul 8 q) 7 else Nat.mul 8 q))) (hn : Nums (1000 + 3 * n) (cells j q nz)) (hn' : n' = n + addC j nz)
    {g : G} {w : World} {a : Act} (H : HR g w (shHp nx K n (atoms n 1000))) (T : TR g w 35 (shTm (selA 31 16) j) a.tmps) (D : a.defers = []) (Q : Exit → Act → World → Prop)
    (Kp : Post g w (shHp nx K n (atoms n 1000)) 35 (shTm (selA 31 16) (j + 1)) (shHp nx' (nx' - 1) n' (atoms n' 1000)) (Q .normal)) : shB.wp Try.prog Q a w := by
  unfold shChk at hB
  cases hr : shBb shCall 100 (shTm (selC j q nz) j) (shHp nx K n (atoms n 1000)) with
  | bad => rw [hr] at hB; cases hB
  | ret t h => rw [hr] at hB; cases hB
  | exit i t h => rw [hr] at hB; cases hB
  | norm t h =>
    rw [hr] at hB
    have S := shIs_ok hB
    have hb : (0 : Int) ≤ Io.io (20 + j) ∧ Io.io (20 + j) ≤ 31 := by
      cases nz
      · have a1 : ((8 * q : Nat) : Int) ≤ Io.io (20 + j) := h1
        have a2 : Io.io (20 + j) ≤ ((8 * q : Nat) : Int) := h2
        omega
      · have a1 : ((8 * q + 1 : Nat) : Int) ≤ Io.io (20 + j) := h1
        have a2 : Io.io (20 + j) ≤ ((8 * q + 7 : Nat) : Int) := h2
        omega
    have hat := fr_at (selA 31 16) j
    have T1 : TR g w 35 (shTm (selC j q nz) j) a.tmps := by
      refine fr_mk T.2.1 (T.2.2 0 _ (by decide) hat.1).2 (agg_imp (fun vs hv => ?_) (T.2.2 6 _ (by decide) hat.2.1).2) (T.2.2 7 _ (by decide) hat.2.2).2
      refine VRs.put1 hv (selA_at j hj) fun v hv => ?_
      simp only [VR] at hv ⊢
      exact ⟨hv.1, h1, h2⟩
    have := sh_body g w _ _ a Q H T1 D
    rw [hr] at this
    refine this fun g' w' a' E' H' T' D' => ?_
    have Fr := S.frame (sel' := selA 31 16) T' (fun vs hv => VRs.unput1 hv (selA_at j hj) fun v hv => by
      simp only [VR] at hv ⊢
      exact ⟨hv.1, hb.1, hb.2⟩)
    obtain ⟨ck, cl⟩ := cel_ok hj hq nz
    have St := S.store (cs' := atoms n' 1000) H' (fun vs hv => by
      rw [app_eq] at hv
      obtain ⟨us, ts, rfl, p1, p2⟩ := hv.split
      rw [hn', atoms_add]
      exact VRs.append p1 (atoms_imp _ _ _ _ ck cl hn p2))
    exact Kp g' w' a' (E'.trans St.1) St.2 Fr D'

/-- How many selectors are not their half's first. -/
def cnt (s : Nat → Nat) : Nat → Nat
  | 0 => 0
  | j + 1 => bif Nat.beq (s j % 8) 0 then cnt s j else cnt s j + 1
omit [Io] in
theorem cnt_le (s : Nat → Nat) : ∀ j, cnt s j ≤ j
  | 0 => Nat.le_refl _
  | j + 1 => by
    have := cnt_le s j
    unfold cnt
    cases Nat.beq (s j % 8) 0 <;> simp only [cond_true, cond_false] <;> omega

/-- What is asked of the numbers. -/
structure Sel (s : Nat → Nat) : Prop where
  sel : ∀ j, j < 16 → Io.io (20 + j) = (s j : Int) ∧ s j < 32
  first : Nums 1000 cells0
  rest : ∀ j, j < 16 → Nums (1000 + 3 * nOf j (cnt s j)) (cells j (s j / 8) (!(Nat.beq (s j % 8) 0)))

theorem sh_loop {s : Nat → Nat} (hs : Sel s) : ∀ (k j : Nat), j + k = 16 → ∀ (g : G) (w : World) (a : Act) (Q : Exit → Act → World → Prop),
    HR g w (shHp (nxOf j (cnt s j)) (kOf j (cnt s j)) (nOf j (cnt s j)) (atoms (nOf j (cnt s j)) 1000)) → TR g w 35 (shTm (selA 31 16) j) a.tmps → a.defers = [] →
    Post g w (shHp (nxOf j (cnt s j)) (kOf j (cnt s j)) (nOf j (cnt s j)) (atoms (nOf j (cnt s j)) 1000)) 35 (shTm (selA 31 16) 16) (shHp (nxOf 16 (cnt s 16)) (kOf 16 (cnt s 16)) (nOf 16 (cnt s 16)) (atoms (nOf 16 (cnt s 16)) 1000)) (Q (.exit 0)) →
    Code.rounds Try.prog shB Q (k + 1) a w
  | 0, j, hk, g, w, a, Q, H, T, D, K => by
    obtain rfl : j = 16 := by omega
    have hB := upto_ok shEnds_ok (cnt s 16) (by have := cnt_le s 16; omega)
    unfold shEnd at hB
    cases hr : shBb shCall 100 (shTm (selA 31 16) 16) (shHp (nxOf 16 (cnt s 16)) (kOf 16 (cnt s 16)) (nOf 16 (cnt s 16)) (atoms (nOf 16 (cnt s 16)) 1000)) with
    | bad => rw [hr] at hB; cases hB
    | ret t h => rw [hr] at hB; cases hB
    | norm t h => rw [hr] at hB; cases hB
    | exit i t h =>
      rw [hr] at hB
      simp only [Bool.and_eq_true] at hB
      obtain rfl := Nat.eq_of_beq_eq_true hB.1
      have S := shIs_ok hB.2
      have := sh_body g w _ _ a (Exit.then (Code.rounds Try.prog shB Q 0) Q) H T D
      rw [hr] at this
      refine this fun g' w' a' E' H' T' D' => ?_
      have St := S.store (cs' := atoms (nOf 16 (cnt s 16)) 1000) H' (fun vs hv => hv)
      exact K g' w' a' (E'.trans St.1) St.2 (S.frame T' fun vs hv => hv) D'
  | k + 1, j, hk, g, w, a, Q, H, T, D, K => by
    have hj : j < 16 := by omega
    have hz : cnt s j < 17 := by have := cnt_le s j; omega
    obtain ⟨hsj, hs32⟩ := hs.sel j hj
    have hq : s j / 8 < 4 := by omega
    have hrow := upto_ok (upto_ok (shAll_all j hj) (cnt s j) (by have := cnt_le s j; show _ < j + 1; omega)) (s j / 8) hq
    simp only [Bool.and_eq_true] at hrow
    have hlen := len_ok (z := cnt s j) hj hz
    have hnum := hs.rest j hj
    cases hb : Nat.beq (s j % 8) 0 with
    | true =>
      have e0 := Nat.eq_of_beq_eq_true hb
      rw [hb] at hnum
      have hc : cnt s (j + 1) = cnt s j := by show (bif Nat.beq (s j % 8) 0 then cnt s j else cnt s j + 1) = _; rw [hb]; rfl
      refine sh_step hrow.1 hj hq ?_ ?_ hnum hlen.1 H T D (Exit.then (Code.rounds Try.prog shB Q (k + 1)) Q) ?_
      · show ((8 * (s j / 8) : Nat) : Int) ≤ _; omega
      · show _ ≤ ((8 * (s j / 8) : Nat) : Int); omega
      · intro g' w' a' E' H' T' D'
        have ih := sh_loop hs k (j + 1) (by omega) g' w' a' Q
        rw [hc] at ih
        exact ih H' T' D' (Post.then E' K)
    | false =>
      have e0 : s j % 8 ≠ 0 := fun e => by rw [e] at hb; cases hb
      rw [hb] at hnum
      have hc : cnt s (j + 1) = cnt s j + 1 := by show (bif Nat.beq (s j % 8) 0 then cnt s j else cnt s j + 1) = _; rw [hb]; rfl
      refine sh_step hrow.2 hj hq ?_ ?_ hnum hlen.2 H T D (Exit.then (Code.rounds Try.prog shB Q (k + 1)) Q) ?_
      · show ((8 * (s j / 8) + 1 : Nat) : Int) ≤ _; omega
      · show _ ≤ ((8 * (s j / 8) + 7 : Nat) : Int); omega
      · intro g' w' a' E' H' T' D'
        have ih := sh_loop hs k (j + 1) (by omega) g' w' a' Q
        rw [hc] at ih
        exact ih H' T' D' (Post.then E' K)
end Go.Proofs
