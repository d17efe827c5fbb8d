/- Plans: what steps there are, forward and back, in plain lists. -/
import Derived.Test.YtblpkcoapbkppaaPlanSame
import Derived.Test.YtblpkcoapbkppaaMayOp
set_option linter.unusedSimpArgs false
set_option linter.unusedVariables false
namespace Go.Proofs.Ytblpkcoapbkppaa
open Go.RowKit
theorem partsK_mem (x : W7) : ∀ k i, i ∈ partsK x k → ∃ j : Nat, i = j ∧ j < k ∧ 0 < x.u j
  | 0, i, h => by simp [partsK] at h
  | k + 1, i, h => by
    simp only [partsK, List.mem_append] at h
    rcases h with h | h
    · obtain ⟨j, a, b, c⟩ := partsK_mem x k i h; exact ⟨j, a, by omega, c⟩
    · split at h
      · simp at h; exact ⟨k, h, by omega, by assumption⟩
      · cases h
theorem units_le (x : W7) (h : MayW x) (j : Nat) (hj : j < 3) : x.u j ≤ 1000 := by
  have h := h.1
  unfold UnitsOk at h
  have : j = 0 ∨ j = 1 ∨ j = 2 := by omega
  rcases this with rfl | rfl | rfl
  · exact h.1.2
  · exact h.2.1.2
  · exact h.2.2.2
theorem fwd_mem (x : W7) (h : MayW x) (a : A6) (ha : a ∈ forwardL x) : (∃ j : Nat, j < 3 ∧ 0 < x.u j ∧ x.u j ≤ 1000 ∧ a = ⟨j, 1, x.b, x.u j, 0, 0⟩) ∨ a = ⟨3, 4, x.b, 0, x.c, x.p⟩ ∨ (∃ j : Nat, j < 3 ∧ 0 < x.u j ∧ a = ⟨j, 2, x.b, 0, 0, 0⟩) := by
  rw [forwardL_yes x h] at ha
  unfold fwdK stepsK at ha
  simp only [List.mem_append, List.mem_map, List.mem_singleton] at ha
  rcases ha with ⟨i, hi, rfl⟩ | rfl | ⟨i, hi, rfl⟩
  · obtain ⟨j, rfl, hj, hu⟩ := partsK_mem x 3 i hi
    exact .inl ⟨j, hj, hu, units_le x h j hj, by unfold eachA; rw [if_pos rfl]; rfl⟩
  · exact .inr (.inl rfl)
  · obtain ⟨j, rfl, hj, hu⟩ := partsK_mem x 3 i hi
    exact .inr (.inr ⟨j, hj, hu, by unfold eachA; rw [if_neg (by decide)]⟩)
theorem bck_mem (x : W7) (h : MayW x) (a : A6) (ha : a ∈ backL x) : a = ⟨3, 6, x.b, 0, 0, 0⟩ ∨ (∃ j : Nat, j < 3 ∧ a = ⟨j, 3, x.b, 0, 0, 0⟩) := by
  rw [backL_yes x h] at ha
  unfold stepsK at ha
  simp only [List.mem_append, List.mem_reverse, List.mem_map, List.mem_singleton] at ha
  rcases ha with rfl | ⟨i, hi, rfl⟩
  · exact .inl rfl
  · obtain ⟨j, rfl, hj, hu⟩ := partsK_mem x 3 i hi
    exact .inr ⟨j, hj, by unfold eachA; rw [if_neg (by decide)]⟩
theorem fwd_le (x : W7) : (forwardL x).length ≤ 7 := by unfold forwardL; have := partsE_len x 1; have := partsE_len x 2; have := purseL_len x 4; simp only [List.length_append]; unfold purseL at *; split <;> simp at * <;> omega
theorem bck_le (x : W7) : (backL x).length ≤ 6 := by unfold backL; have := partsE_len x 3; have := purseL_len x 6; simp only [List.length_append, List.length_reverse]; omega
/-- Whom those are that are asked first. -/
def firstN (l : List A6) : List Int := (l.filter fun a => decide (a.kind ≠ 2)).map A6.node
theorem firstN_yes (l : List A6) (a : A6) (h : a.kind ≠ 2) : firstN (l ++ [a]) = firstN l ++ [a.node] := by
  unfold firstN
  rw [List.filter_append, List.map_append]
  simp [h]
theorem firstN_no (l : List A6) (a : A6) (h : a.kind = 2) : firstN (l ++ [a]) = firstN l := by
  unfold firstN
  rw [List.filter_append]
  simp [h]
theorem back_facts (x : W7) (h : MayW x) : (firstN (forwardL x)).length = (backL x).length ∧ (forwardL x).length + 1 = 2 * (backL x).length ∧ ∀ i (a : A6), (backL x)[i]? = some a → (firstN (forwardL x))[(backL x).length - 1 - i]? = some a.node := by
  rw [forwardL_yes x h, backL_yes x h]
  have hsome := h.2.1
  unfold fwdK stepsK
  by_cases a : 0 < x.u 0 <;> by_cases b : 0 < x.u 1 <;> by_cases c : 0 < x.u 2
  all_goals
    simp only [partsK, a, b, c, if_true, if_false, List.nil_append, List.append_nil]
    refine ⟨by simp [firstN, eachA], by simp, fun i z hz => ?_⟩
    have hi : i < 4 := by
      rcases Nat.lt_or_ge i 4 with h' | h'
      · exact h'
      · rw [List.getElem?_eq_none (by simp; omega)] at hz; cases hz
    have : i = 0 ∨ i = 1 ∨ i = 2 ∨ i = 3 := by omega
    rcases this with rfl | rfl | rfl | rfl <;> simp [firstN, eachA] at hz ⊢ <;> first | (subst hz; rfl) | (rw [← hz]) | trivial
end Go.Proofs.Ytblpkcoapbkppaa
