import Derived.Test.YtfdjdnphbakjoaaPbHead
namespace Go.Proofs
open Go.Ab
set_option maxRecDepth 1000000

theorem first_of {p : Nat → Prop} : ∀ n, (∃ k, k < n ∧ ¬ p k) → ∃ j, j < n ∧ (∀ i, i < j → p i) ∧ ¬ p j
  | 0, ⟨k, hk, _⟩ => by omega
  | n + 1, h => by
    by_cases h0 : ∃ k, k < n ∧ ¬ p k
    · obtain ⟨j, hj, h1, h2⟩ := first_of n h0
      exact ⟨j, by omega, h1, h2⟩
    · obtain ⟨k, hk, hp⟩ := h
      have hkn : k = n := by
        by_cases e : k = n
        · exact e
        · exact absurd ⟨k, by omega, hp⟩ h0
      subst hkn
      refine ⟨k, by omega, fun i hi => ?_, hp⟩
      by_cases e : p i
      · exact e
      · exact absurd ⟨i, hi, e⟩ h0
theorem lBad_len {j : Nat} (hj : j < 16) : (lBad j).length = 16 := by
  have : (upto 16 fun j => Nat.beq (len (lBad j)) 16) = true := by kernel_rfl
  have := upto_ok this j hj
  rw [len_eq] at this
  exact Nat.eq_of_beq_eq_true this
theorem lBad_at {j k : Nat} {p : Int × Int} (hj : j < 16) (e : (lBad j)[k]? = some p) : (k < j ∧ p = (0, 31)) ∨ (k = j ∧ p = (32, 255)) ∨ (j < k ∧ p = (0, 255)) := by
  unfold lBad at e
  rw [app_eq, tk_eq, dp_eq] at e
  have hl : (l31.take j).length = j := by rw [List.length_take]; show min j 16 = j; omega
  by_cases h1 : k < j
  · rw [List.getElem?_append_left (by omega)] at e
    exact .inl ⟨h1, List.eq_of_mem_replicate (List.mem_of_mem_take (List.mem_of_getElem? e))⟩
  · rw [List.getElem?_append_right (by omega), hl] at e
    by_cases h2 : k = j
    · subst h2
      rw [Nat.sub_self] at e
      cases e
      exact .inr (.inl ⟨rfl, rfl⟩)
    · obtain ⟨m, hm⟩ : ∃ m, k - j = m + 1 := ⟨k - j - 1, by omega⟩
      rw [hm, List.getElem?_cons_succ] at e
      exact .inr (.inr ⟨by omega, List.eq_of_mem_replicate (List.mem_of_mem_drop (List.mem_of_getElem? e))⟩)

theorem bytesE_len (lo hi : Int) : (bytesE lo hi).length = 16 := rfl
theorem bytesE_at (lo hi : Int) {k : Nat} (hk : k < 16) : (bytesE lo hi)[k]? = some ((bytesE lo hi).getD k 0) := by
  rw [List.getD_eq_getElem?_getD, List.getElem?_eq_getElem (by rw [bytesE_len]; exact hk)]
  rfl

end Go.Proofs
