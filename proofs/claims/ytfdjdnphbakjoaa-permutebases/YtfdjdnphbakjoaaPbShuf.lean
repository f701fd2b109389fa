import Derived.Test.YtfdjdnphbakjoaaPbS
import Derived.Test.YtfdjdnphbakjoaaPbShuf0
namespace Go.Proofs
open Go.Ab
set_option maxRecDepth 1000000

theorem pb_shuf : PbL 64781 64781 := by
  intro op h1 h2 a h3 h4 v2 v5 o2 o5 lo hi base l1 l2 m1 m2 b1 b2 w
  obtain rfl : op = 64781 := by omega
  by_cases hall : ∀ k, k < 16 → (bytesE lo hi).getD k 0 ≤ 31
  · -- all may be
    obtain ⟨s, hs⟩ : ∃ s : Nat → Nat, ∀ k, k < 16 → (bytesE lo hi).getD k 0 = (s k : Int) ∧ s k < 32 := by
      refine ⟨fun k => ((bytesE lo hi).getD k 0).toNat, fun k hk => ?_⟩
      have := bytesE_range lo hi _ (List.mem_of_getElem? (bytesE_at lo hi hk))
      have := hall k hk
      show (bytesE lo hi).getD k 0 = (((bytesE lo hi).getD k 0).toNat : Int) ∧ ((bytesE lo hi).getD k 0).toNat < 32
      omega
    have hB0 := ioB_bytes 64781 a lo hi base
    have hsel := ioOf_sel (s := s) (ioB 64781 a lo hi base) (fun j hj => ⟨(hB0 j _ (bytesE_at lo hi hj)).trans (hs j hj).1, (hs j hj).2⟩)
    have low := fun (i : Nat) (hi' : i < 1000) => ioOf_low (s := s) (ioB 64781 a lo hi base) hi'
    have hB : @BytesIo (ioOf s (ioB 64781 a lo hi base)) := by
      intro k b e
      rw [low 2 (by omega), low 3 (by omega)] at e
      have hk : k < 16 := (List.getElem?_eq_some_iff.1 e).1
      rw [low (20 + k) (by omega)]
      exact hB0 k b e
    have h0 := low 0 (by omega)
    have h2' := low 2 (by omega)
    have h3' := low 3 (by omega)
    have h5 := low 5 (by omega)
    letI I : Io := ioOf s (ioB 64781 a lo hi base)
    have hz := pbS_all (cnt s 16) (by have := cnt_le s 16; omega)
    have hw : ∀ c, CallOk Try.prog c → CallOk Try.prog (wB (cnt s 16) c) := fun c hc => by
      refine orN_ok ((seq_known hsel hB).arg fun g w vs hv => ?_) (orc_ok (fun f args v e => lookF_ok1 (tbl := [(8, look0 (.bool true))]) (fun p hp args v e => ?_) f args v e) hc)
      · unfold A9 shIn shBase
        unfold shIn bA at hv
        simp only [VRs, VR] at hv ⊢
        obtain ⟨x, l, rfl, hx, y, l', rfl, ⟨hy, y1, y2⟩, rfl⟩ := hv
        refine ⟨x, _, rfl, hx, y, _, rfl, ⟨?_, ?_, ?_⟩, rfl⟩
        · rw [hy]
          show Value.int .i64 ((Io.io 0 % 18446744073709551616) % (4033 : Int) + 0) = .int .i64 (Io.io 5 + 0)
          rw [h0, h5]
          rfl
        · show 0 ≤ Io.io 5
          rw [h5]
          show 0 ≤ (base % 18446744073709551616) % 4033
          omega
        · show Io.io 5 ≤ 4032
          rw [h5]
          show (base % 18446744073709551616) % 4033 ≤ 4032
          omega
      · rcases List.mem_cons.1 hp with rfl | hp
        · exact look0_ok (fun J => @Try.ok J 5000 40) Try.k8 _ args v e
        · cases hp
    refine law_ok (vs := [.agg #[.int .i64 64781, .int .i64 a, v2, .int .u64 lo, .int .u64 hi, v5], .int .i64 base]) (okG hw 5000 40) hz w ?_
    simp only [VRs, VR, i64A, shIn]
    refine ⟨_, _, rfl, ⟨_, rfl, _, _, rfl, rfl, _, _, rfl, rfl, _, _, rfl, o2, _, _, rfl, ⟨?_, ?_, ?_⟩, _, _, rfl, ⟨?_, ?_, ?_⟩, _, _, rfl, o5, rfl⟩, _, _, rfl, ⟨?_, ?_, ?_⟩, rfl⟩
    · show Value.int .u64 lo = .int .u64 (Io.io 2 + 0); rw [h2', Int.add_zero]; rfl
    · show 0 ≤ Io.io 2; rw [h2']; exact l1
    · show Io.io 2 ≤ _; rw [h2']; exact l2
    · show Value.int .u64 hi = .int .u64 (Io.io 3 + 0); rw [h3', Int.add_zero]; rfl
    · show 0 ≤ Io.io 3; rw [h3']; exact m1
    · show Io.io 3 ≤ _; rw [h3']; exact m2
    · show Value.int .i64 base = .int .i64 (Io.io 0 + 0); rw [h0, Int.add_zero]; rfl
    · show _ ≤ Io.io 0; rw [h0]; exact b1
    · show Io.io 0 ≤ _; rw [h0]; exact b2
  · -- one may not be
    obtain ⟨j, hj, hl, hb⟩ := first_of (p := fun k => (bytesE lo hi).getD k 0 ≤ 31) 16 (by
      refine Classical.byContradiction fun h => hall fun k hk => Classical.byContradiction fun h2 => h ⟨k, hk, h2⟩)
    refine pb_of (upto_ok pbBad_all j hj) (lBad_len hj) (fun k p b e1 e2 => ?_) (fun _ _ => vr_lit rfl) (fun _ _ => vr_any) o2 o5 l1 l2 m1 m2 b1 b2 w
    have hr := bytesE_range lo hi b (List.mem_of_getElem? e2)
    have hd : (bytesE lo hi).getD k 0 = b := by rw [List.getD_eq_getElem?_getD, e2]; rfl
    rcases lBad_at hj e1 with ⟨h5, rfl⟩ | ⟨h5, rfl⟩ | ⟨h5, rfl⟩
    · have := hl k h5
      exact ⟨hr.1, by show b ≤ 31; omega⟩
    · subst h5
      exact ⟨by show 32 ≤ b; omega, hr.2⟩
    · exact hr
end Go.Proofs
