import Derived.Test.YtfdjdnphbakjoaaPb14
namespace Go.Proofs
open Go.Ab
set_option maxRecDepth 1000000

@[reducible] noncomputable def ioL (cs : List AV) (I : Io) : Io := ⟨fun i => if i < 1000 then I.io i else (cs.map (@valA I)).getD (i - 1000) 0⟩
theorem ioL_low (cs : List AV) (I : Io) {i : Nat} (h : i < 1000) : (ioL cs I).io i = I.io i := if_pos h
theorem ioL_nums {cs : List AV} (I : Io) (h : ∀ a ∈ cs, lowA a = true) : @Nums (ioL cs I) 1000 cs := by
  intro k a e
  have h1 : (ioL cs I).io (1000 + k) = (cs.map (@valA I)).getD (1000 + k - 1000) 0 := if_neg (by omega)
  show (ioL cs I).io (1000 + k) = _
  rw [h1, show 1000 + k - 1000 = k by omega, List.getD_eq_getElem?_getD, List.getElem?_map, e]
  show @valA I a = _
  exact (valA_low (fun i hi => ioL_low cs I hi) (h a (List.mem_of_getElem? e))).symm
section
variable [Io]
theorem low_g {g g' : G} {w : World} : ∀ (l : List AV) (vs : List Value), (∀ a ∈ l, lowA a = true) → VRs g w l vs → VRs g' w l vs
  | [], vs, _, h => by simp only [VRs] at h ⊢; exact h
  | a :: l, vs, ha, h => by
    simp only [VRs] at h ⊢
    obtain ⟨v, r, rfl, hv, hr⟩ := h
    refine ⟨v, r, rfl, ?_, low_g l r (fun b hb => ha b (List.mem_cons_of_mem _ hb)) hr⟩
    have h1 := ha a List.mem_cons_self
    cases a <;> simp only [lowA] at h1 <;> first | (cases h1; done) | (simp only [VR] at hv ⊢; exact hv)
theorem KnownN.weak {P : Program} {f : FuncId} {A : List AV} {n sz : Nat} {cs cs' : List AV} {x y : AV} (h : KnownN P f A n sz cs x y) (hc : ∀ (w : World) us, VRs (gE fun _ => False) w cs us → VRs (gE fun _ => False) w cs' us) : KnownN P f A n sz cs' x y :=
  ⟨h.1, fun g w vs hi hv => (h.2 g w vs hi hv).mono fun _ _ ⟨b, s, cap, C, el, us, u, v, h1, h2, h3, h4, h5, h6, h7, h8⟩ => ⟨b, s, cap, C, el, us, u, v, h1, h2, h3, h4, h5, h6, hc _ _ h7, h8⟩⟩
end

theorem pb_14 : PbL 64782 64782 := by
  intro op h1 h2 a h3 h4 v2 v5 o2 o5 lo hi base l1 l2 m1 m2 b1 b2 w
  obtain rfl : op = 64782 := by omega
  have hk := chk14_ok
  unfold chk14 at hk
  split at hk
  · rename_i K o n sz u e h hr
    simp only [Bool.and_eq_true] at hk
    obtain ⟨⟨k1, k2, k3⟩, k4, k5, k6⟩ := hk
    obtain rfl := Nat.eq_of_beq_eq_true k1
    obtain rfl := Nat.eq_of_beq_eq_true k2
    obtain rfl := Nat.eq_of_beq_eq_true k3
    obtain rfl := eq1F_iff k4
    obtain rfl := eq1F_iff k5
    split at k6
    · rename_i cs hcs
      simp only [Bool.and_eq_true, allB_eq, List.all_eq_true, len_eq] at k6
      obtain ⟨c1, c2, c3⟩ := k6
      have c3 := Nat.eq_of_beq_eq_true c3
      have hB0 := ioB_bytes 64782 a lo hi base
      have low := fun (i : Nat) (hi' : i < 1000) => ioL_low cs (ioB 64782 a lo hi base) hi'
      have hN := ioL_nums (ioB 64782 a lo hi base) c2
      have hB : @BytesIo (ioL cs (ioB 64782 a lo hi base)) := by
        intro k b e
        rw [low 2 (by omega), low 3 (by omega)] at e
        have hk : k < 16 := (List.getElem?_eq_some_iff.1 e).1
        rw [low (20 + k) (by omega)]
        exact hB0 k b e
      have h0 := low 0 (by omega)
      have h2' := low 2 (by omega)
      have h3' := low 3 (by omega)
      have h5 := low 5 (by omega)
      have hbd' : ∀ (k : Nat) (p : Int × Int) b, lFull[k]? = some p → (bytesE ((ioL cs (ioB 64782 a lo hi base)).io 2) ((ioL cs (ioB 64782 a lo hi base)).io 3))[k]? = some b → p.1 ≤ b ∧ b ≤ p.2 := by
        rw [h2', h3']; exact lFull_ok lo hi
      letI I : Io := ioL cs (ioB 64782 a lo hi base)
      have hwp : ∀ c, CallOk Try.prog c → CallOk Try.prog (wP lFull c) := fun c hc => orc_ok (tblP_ok hB rfl hbd') hc
      have hK : KnownN Try.prog 9 [in14, shBase] 474 3 (atoms 474 1000) (.int .i64 5) (.int .i64 0) := by
        refine KnownN.weak (knownN_of (id := K) (h1 := h) (by omega) (okG hwp 5000 40 9 [in14, shBase] (nilH 0) _ _ hr) hcs (fun g w vs hv => low_g _ _ c2 hv) (fun g w v hv => by simpa only [VR] using hv) (fun g w v hv => by simpa only [VR] using hv) (fun g w vs hv => ?_)) fun w us hv => atoms_imp 474 cs 1000 us c1 (by omega) hN hv
        unfold in14 shBase u64A at hv ⊢
        simp only [VRs, VR] at hv ⊢
        exact hv
      have hw : ∀ c, CallOk Try.prog c → CallOk Try.prog (w14 c) := fun c hc => by
        refine orN_ok (hK.arg fun g w vs hv => ?_) (orc_ok (fun f args v e => lookF_ok1 (tbl := [(8, look0 (.bool true))]) (fun p hp args v e => ?_) f args v e) hc)
        · unfold in14 shBase u64A
          unfold in14 bA u64A at hv
          simp only [VRs, VR] at hv ⊢
          obtain ⟨x, l, rfl, hx, y, l', rfl, ⟨hy, y1, y2⟩, rfl⟩ := hv
          refine ⟨x, _, rfl, hx, y, _, rfl, ⟨?_, ?_, ?_⟩, rfl⟩
          · rw [hy]
            show Value.int .i64 ((Io.io 0 % 18446744073709551616) % (4033 : Int) + 0) = .int .i64 (Io.io 5 + 0)
            rw [h0, h5]
            rfl
          · show 0 ≤ Io.io 5
            rw [h5]
            show 0 ≤ (base % 18446744073709551616) % 4033
            omega
          · show Io.io 5 ≤ 4032
            rw [h5]
            show (base % 18446744073709551616) % 4033 ≤ 4032
            omega
        · rcases List.mem_cons.1 hp with rfl | hp
          · exact look0_ok (fun J => @Try.ok J 5000 40) Try.k8 _ args v e
          · cases hp
      refine law_ok (vs := [.agg #[.int .i64 64782, .int .i64 a, v2, .int .u64 lo, .int .u64 hi, v5], .int .i64 base]) (okG hw 5000 40) law14 w ?_
      simp only [VRs, VR, i64A, in14, u64A]
      refine ⟨_, _, rfl, ⟨_, rfl, _, _, rfl, rfl, _, _, rfl, rfl, _, _, rfl, o2, _, _, rfl, ⟨?_, ?_, ?_⟩, _, _, rfl, ⟨?_, ?_, ?_⟩, _, _, rfl, o5, rfl⟩, _, _, rfl, ⟨?_, ?_, ?_⟩, rfl⟩
      · show Value.int .u64 lo = .int .u64 (Io.io 2 + 0); rw [h2', Int.add_zero]; rfl
      · show 0 ≤ Io.io 2; rw [h2']; exact l1
      · show Io.io 2 ≤ _; rw [h2']; exact l2
      · show Value.int .u64 hi = .int .u64 (Io.io 3 + 0); rw [h3', Int.add_zero]; rfl
      · show 0 ≤ Io.io 3; rw [h3']; exact m1
      · show Io.io 3 ≤ _; rw [h3']; exact m2
      · show Value.int .i64 base = .int .i64 (Io.io 0 + 0); rw [h0, Int.add_zero]; rfl
      · show _ ≤ Io.io 0; rw [h0]; exact b1
      · show Io.io 0 ≤ _; rw [h0]; exact b2
    · cases k6
  · cases hk
end Go.Proofs
