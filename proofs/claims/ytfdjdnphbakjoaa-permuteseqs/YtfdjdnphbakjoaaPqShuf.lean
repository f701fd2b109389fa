import Derived.Test.YtfdjdnphbakjoaaPqS
import Derived.Test.YtfdjdnphbakjoaaPbShuf0
namespace Go.Proofs
open Go.Ab
set_option maxRecDepth 1000000

theorem pq_shufM : PqB 64781 64781 0 4032 := by
  intro op h1 h2 a h3 h4 base b1 b2 v2 v5 o2 o5 lo hi l1 l2 m1 m2 w
  obtain rfl : op = 64781 := by omega
  by_cases hall : ∀ k, k < 16 → (bytesE lo hi).getD k 0 ≤ 31
  · obtain ⟨s, hs⟩ : ∃ s : Nat → Nat, ∀ k, k < 16 → (bytesE lo hi).getD k 0 = (s k : Int) ∧ s k < 32 := by
      refine ⟨fun k => ((bytesE lo hi).getD k 0).toNat, fun k hk => ?_⟩
      have := bytesE_range lo hi _ (List.mem_of_getElem? (bytesE_at lo hi hk))
      have := hall k hk
      show (bytesE lo hi).getD k 0 = (((bytesE lo hi).getD k 0).toNat : Int) ∧ ((bytesE lo hi).getD k 0).toNat < 32
      omega
    have h32 : ∀ j, j < 16 → s j < 32 := fun j hj => (hs j hj).2
    have hB0 := ioQ_bytes 64781 a lo hi base
    have hsel := ioOf_sel (s := s) (ioQ 64781 a lo hi base) (fun j hj => ⟨(hB0 j _ (bytesE_at lo hi hj)).trans (hs j hj).1, (hs j hj).2⟩)
    have low := fun (i : Nat) (hi' : i < 1000) => ioOf_low (s := s) (ioQ 64781 a lo hi base) hi'
    have hB : @BytesIo (ioOf s (ioQ 64781 a lo hi base)) := by
      intro k b e
      rw [low 2 (by omega), low 3 (by omega)] at e
      have hk : k < 16 := (List.getElem?_eq_some_iff.1 e).1
      rw [low (20 + k) (by omega)]
      exact hB0 k b e
    have hS : @StrIo (ioOf s (ioQ 64781 a lo hi base)) (nOf 16 (cnt s 16)) := by
      intro k hk
      have hl := Lp_len h32 16 (Nat.le_refl _)
      obtain ⟨x, y, z, e1, e2, e3, e4⟩ := str3_at k (Lp s 16) (Lp_str h32 16 (Nat.le_refl _)) (by omega)
      refine ⟨x, y, e4, ioOf_at _ h32 e1, ?_⟩
      have := ioOf_at (ioQ 64781 a lo hi base) h32 e2
      rwa [← Nat.add_assoc] at this
    have hbd : ∀ (k : Nat) (p : Int × Int) b, l31[k]? = some p → (bytesE lo hi)[k]? = some b → p.1 ≤ b ∧ b ≤ p.2 := by
      intro k p b e1 e2
      have hp : p = (0, 31) := List.eq_of_mem_replicate (List.mem_of_getElem? e1)
      subst hp
      have hk : k < 16 := (List.getElem?_eq_some_iff.1 e2).1
      have hd : (bytesE lo hi).getD k 0 = b := by rw [List.getD_eq_getElem?_getD, e2]; rfl
      have := hall k hk
      exact ⟨(bytesE_range lo hi b (List.mem_of_getElem? e2)).1, by show b ≤ 31; omega⟩
    have h2' := low 2 (by omega)
    have h3' := low 3 (by omega)
    have h5 := low 5 (by omega)
    have hbd' : ∀ (k : Nat) (p : Int × Int) b, l31[k]? = some p → (bytesE ((ioOf s (ioQ 64781 a lo hi base)).io 2) ((ioOf s (ioQ 64781 a lo hi base)).io 3))[k]? = some b → p.1 ≤ b ∧ b ≤ p.2 := by
      rw [h2', h3']; exact hbd
    letI I : Io := ioOf s (ioQ 64781 a lo hi base)
    have hz := pqS_all (cnt s 16) (by have := cnt_le s 16; omega)
    have hw : ∀ c, CallOk Try.prog c → CallOk Try.prog (wS (cnt s 16) c) := fun c hc => by
      refine orN_ok (seq_known hsel hB) (orc_ok (fun f args v e => lookF_ok1 (tbl := [(13, lookST (nOf 16 (cnt s 16))), (10, lookR Try.rows10), (28, lookR Try.rows28), (29, lookA joinA (.agg (selL l31 0))), (8, look0 (.bool true))]) (fun p hp args v e => ?_) f args v e) hc)
      rcases List.mem_cons.1 hp with rfl | hp
      · exact lookST_ok hS args v e
      rcases List.mem_cons.1 hp with rfl | hp
      · exact lookR_ok Try.rows10_ok _ args v e
      rcases List.mem_cons.1 hp with rfl | hp
      · exact lookR_ok Try.rows28_ok _ args v e
      rcases List.mem_cons.1 hp with rfl | hp
      · exact lookA_ok (known29 hB l31 rfl hbd') args v e
      rcases List.mem_cons.1 hp with rfl | hp
      · exact look0_ok (fun J => @Try.ok J 5000 40) Try.k8 _ args v e
      · cases hp
    refine law_ok (vs := [.agg #[.int .i64 64781, .int .i64 a, v2, .int .u64 lo, .int .u64 hi, v5], .int .i64 base]) (okG hw 5000 40) hz w ?_
    simp only [VRs, VR, shBase, shIn]
    refine ⟨_, _, rfl, ⟨_, rfl, _, _, rfl, rfl, _, _, rfl, rfl, _, _, rfl, o2, _, _, rfl, ⟨?_, ?_, ?_⟩, _, _, rfl, ⟨?_, ?_, ?_⟩, _, _, rfl, o5, rfl⟩, _, _, rfl, ⟨?_, ?_, ?_⟩, rfl⟩
    · show Value.int .u64 lo = .int .u64 (Io.io 2 + 0); rw [h2', Int.add_zero]; rfl
    · show 0 ≤ Io.io 2; rw [h2']; exact l1
    · show Io.io 2 ≤ _; rw [h2']; exact l2
    · show Value.int .u64 hi = .int .u64 (Io.io 3 + 0); rw [h3', Int.add_zero]; rfl
    · show 0 ≤ Io.io 3; rw [h3']; exact m1
    · show Io.io 3 ≤ _; rw [h3']; exact m2
    · show Value.int .i64 base = .int .i64 (Io.io 5 + 0); rw [h5, Int.add_zero]; rfl
    · show 0 ≤ Io.io 5; rw [h5]; exact b1
    · show Io.io 5 ≤ _; rw [h5]; exact b2
  · obtain ⟨j, hj, hl, hb⟩ := first_of (p := fun k => (bytesE lo hi).getD k 0 ≤ 31) 16 (by
      refine Classical.byContradiction fun h => hall fun k hk => Classical.byContradiction fun h2 => h ⟨k, hk, h2⟩)
    refine pq_of (upto_ok pqBad_all j hj) (lBad_len hj) (fun k p b e1 e2 => ?_) (fun _ _ => vr_lit rfl) (fun _ _ => vr_any) o2 o5 l1 l2 m1 m2 b1 b2 w
    have hr := bytesE_range lo hi b (List.mem_of_getElem? e2)
    have hd : (bytesE lo hi).getD k 0 = b := by rw [List.getD_eq_getElem?_getD, e2]; rfl
    rcases lBad_at hj e1 with ⟨h5, rfl⟩ | ⟨h5, rfl⟩ | ⟨h5, rfl⟩
    · have := hl k h5
      exact ⟨hr.1, by show b ≤ 31; omega⟩
    · subst h5
      exact ⟨by show 32 ≤ b; omega, hr.2⟩
    · exact hr
theorem pq_shuf : PqL 64781 64781 := pq_three pq13_n pq_shufM pq13_p
end Go.Proofs
