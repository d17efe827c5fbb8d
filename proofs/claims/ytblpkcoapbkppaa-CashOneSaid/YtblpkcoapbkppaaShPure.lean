/- Shares, as the document tells them: plain facts. -/
import Derived.Test.YtblpkcoapbkppaaCashRef
set_option linter.unusedSimpArgs false
set_option linter.unusedVariables false
namespace Go.Proofs.Ytblpkcoapbkppaa
open Go.RowKit
/-- What may be shared. -/
def ShOk (all : Int) (l : List Int) : Prop := 0 ≤ all ∧ all ≤ 1099511627776 ∧ 1 ≤ l.length ∧ l.length ≤ 100 ∧ (∀ p ∈ l, 0 ≤ p ∧ p ≤ 1000) ∧ l.sum ≠ 0
def cntP (l : List Int) : Nat := l.countP fun p => decide (0 < p)
def bas (all s : Int) (l : List Int) : List Int := l.map fun p => all * p / s
def lef (all : Int) (l : List Int) : Int := all - (bas all l.sum l).sum
def share1 (all : Int) (l : List Int) (i : Nat) : Int := all * l.getD i 0 / l.sum + if 0 < l.getD i 0 ∧ (cntP (l.take i) : Int) < lef all l then 1 else 0
def shs (all : Int) (l : List Int) : List Int := (List.range l.length).map (share1 all l)
theorem shs_len (all : Int) (l : List Int) : (shs all l).length = l.length := by simp [shs]
theorem bas_len (all s : Int) (l : List Int) : (bas all s l).length = l.length := by simp [bas]
theorem sum_pos (l : List Int) (h : ∀ p ∈ l, 0 ≤ p ∧ p ≤ 1000) : 0 ≤ l.sum ∧ l.sum ≤ 1000 * l.length := by
  induction l with
  | nil => simp
  | cons p l ih =>
    have h1 := ih (fun q hq => h q (List.mem_cons_of_mem _ hq))
    have h2 := h p List.mem_cons_self
    simp only [List.sum_cons, List.length_cons]
    omega
theorem sum_take_step (l : List Int) (k : Nat) (hk : k < l.length) : (l.take (k + 1)).sum = (l.take k).sum + l[k] := by
  rw [List.take_succ_eq_append_getElem hk, List.sum_append]; simp
theorem cnt_take_step (l : List Int) (k : Nat) (hk : k < l.length) : cntP (l.take (k + 1)) = cntP (l.take k) + if 0 < l[k] then 1 else 0 := by
  rw [List.take_succ_eq_append_getElem hk]
  unfold cntP
  rw [List.countP_append]
  simp [List.countP_cons]
theorem cnt_mono (l : List Int) (i j : Nat) (h : i ≤ j) : cntP (l.take i) ≤ cntP (l.take j) := by
  unfold cntP
  exact List.Sublist.countP_le (List.IsPrefix.sublist (List.take_prefix_take_left h))
theorem cnt_le (l : List Int) (i : Nat) : cntP (l.take i) ≤ cntP l := by
  unfold cntP
  exact List.Sublist.countP_le (List.take_sublist i l)
/-- The parts that lie to the whole, rounded down, are no more than all, and lack less than there are parts. -/
theorem bas_bounds (all s : Int) (ha : 0 ≤ all) (hs : 0 < s) (l : List Int) (h : ∀ p ∈ l, 0 ≤ p) : s * (bas all s l).sum ≤ all * l.sum ∧ all * l.sum - (cntP l : Int) * (s - 1) ≤ s * (bas all s l).sum := by
  induction l with
  | nil => simp [bas, cntP]
  | cons p l ih =>
    obtain ⟨h1, h2⟩ := ih (fun q hq => h q (List.mem_cons_of_mem _ hq))
    have hp := h p List.mem_cons_self
    have e1 := Int.mul_ediv_add_emod (all * p) s
    have e2 := Int.emod_nonneg (all * p) (show s ≠ 0 by omega)
    have e3 := Int.emod_lt_of_pos (all * p) hs
    have c : cntP (p :: l) = cntP l + if 0 < p then 1 else 0 := by unfold cntP; rw [List.countP_cons]; simp
    have hb : (bas all s (p :: l)).sum = all * p / s + (bas all s l).sum := by simp [bas]
    rw [c, hb, List.sum_cons, Int.mul_add, Int.mul_add]
    by_cases h0 : 0 < p
    · rw [if_pos h0]
      have : ((cntP l + 1 : Nat) : Int) * (s - 1) = (cntP l : Int) * (s - 1) + (s - 1) := by rw [Int.natCast_add, Int.add_mul]; simp
      rw [this]
      omega
    · have hp0 : p = 0 := by omega
      subst hp0
      rw [if_neg h0]
      simp only [Int.mul_zero, Int.zero_ediv, Nat.add_zero]
      omega
theorem sum_ge_cnt (l : List Int) (h : ∀ p ∈ l, 0 ≤ p) : (cntP l : Int) ≤ l.sum := by
  induction l with
  | nil => simp [cntP]
  | cons p l ih =>
    have h1 := ih (fun q hq => h q (List.mem_cons_of_mem _ hq))
    have hp := h p List.mem_cons_self
    have c : cntP (p :: l) = cntP l + if 0 < p then 1 else 0 := by unfold cntP; rw [List.countP_cons]; simp
    rw [c, List.sum_cons]
    split <;> omega
theorem cnt_pos (l : List Int) (h : ∀ p ∈ l, 0 ≤ p) (hs : l.sum ≠ 0) : 0 < cntP l := by
  induction l with
  | nil => simp at hs
  | cons p l ih =>
    have hp := h p List.mem_cons_self
    have c : cntP (p :: l) = cntP l + if 0 < p then 1 else 0 := by unfold cntP; rw [List.countP_cons]; simp
    rw [c]
    by_cases h0 : 0 < p
    · rw [if_pos h0]; omega
    · rw [if_neg h0]
      refine Nat.lt_of_lt_of_le (ih (fun q hq => h q (List.mem_cons_of_mem _ hq)) ?_) (Nat.le_add_right _ _)
      rw [List.sum_cons] at hs
      omega
/-- What is left is at least none, and less than there are parts. -/
theorem lef_bounds {all : Int} {l : List Int} (h : ShOk all l) : 0 ≤ lef all l ∧ lef all l < (cntP l : Int) := by
  obtain ⟨ha, _, _, _, hp, hs⟩ := h
  have hp' : ∀ p ∈ l, 0 ≤ p := fun p hq => (hp p hq).1
  have h0 := (sum_pos l hp).1
  have hs' : 0 < l.sum := by omega
  obtain ⟨b1, b2⟩ := bas_bounds all l.sum ha hs' l hp'
  have hc := cnt_pos l hp' hs
  unfold lef
  constructor
  · have : (bas all l.sum l).sum * l.sum ≤ all * l.sum := by rw [Int.mul_comm]; exact b1
    have := Int.le_of_mul_le_mul_right this hs'
    omega
  · refine Int.lt_of_mul_lt_mul_right (a := l.sum) ?_ (by omega)
    rw [Int.sub_mul, Int.mul_comm (bas all l.sum l).sum]
    have e : (cntP l : Int) * (l.sum - 1) = (cntP l : Int) * l.sum - cntP l := by rw [Int.mul_sub, Int.mul_one]
    omega
theorem bas_get {all s : Int} {l : List Int} (i : Nat) (h : i < l.length) : (bas all s l)[i]'(by rw [bas_len]; exact h) = all * l[i] / s := by simp [bas]
theorem sh_fits {all : Int} {l : List Int} (h : ShOk all l) (p : Int) (hp : p ∈ l) : 0 ≤ all * p ∧ all * p ≤ 1099511627776000 := by
  obtain ⟨ha, ha2, _, _, hq, _⟩ := h
  have := hq p hp
  exact ⟨Int.mul_nonneg ha this.1, by
    calc all * p ≤ 1099511627776 * p := Int.mul_le_mul_of_nonneg_right ha2 this.1
      _ ≤ 1099511627776000 := by omega⟩
theorem bas_at {all : Int} {l : List Int} (h : ShOk all l) (p : Int) (hp : p ∈ l) : 0 ≤ all * p / l.sum ∧ all * p / l.sum ≤ 1099511627776000 := by
  have h1 := sh_fits h p hp
  obtain ⟨_, _, _, _, hq, hs⟩ := h
  have h0 := (sum_pos l hq).1
  have hs' : 0 < l.sum := by omega
  refine ⟨Int.ediv_nonneg h1.1 (by omega), ?_⟩
  exact Int.le_trans (Int.ediv_le_self _ h1.1) h1.2
theorem bas_take_nonneg {all : Int} {l : List Int} (h : ShOk all l) (k : Nat) : 0 ≤ ((bas all l.sum l).take k).sum ∧ ((bas all l.sum l).take k).sum ≤ (bas all l.sum l).sum := by
  have hall : ∀ x ∈ bas all l.sum l, 0 ≤ x := by
    intro x hx
    unfold bas at hx
    rw [List.mem_map] at hx
    obtain ⟨p, hp, rfl⟩ := hx
    exact (bas_at h p hp).1
  generalize bas all l.sum l = b at *
  induction b generalizing k with
  | nil => simp
  | cons x b ih =>
    have hx := hall x List.mem_cons_self
    cases k with
    | zero =>
      have := (ih (k := b.length) (fun y hy => hall y (List.mem_cons_of_mem _ hy))).1
      rw [List.take_length] at this
      simp only [List.take_zero, List.sum_nil, List.sum_cons]
      omega
    | succ k =>
      have := ih (k := k) (fun y hy => hall y (List.mem_cons_of_mem _ hy))
      simp only [List.take_succ_cons, List.sum_cons]
      omega
theorem bas_sum_le {all : Int} {l : List Int} (h : ShOk all l) : (bas all l.sum l).sum ≤ all := by
  have := (lef_bounds h).1
  unfold lef at this
  omega
end Go.Proofs.Ytblpkcoapbkppaa
