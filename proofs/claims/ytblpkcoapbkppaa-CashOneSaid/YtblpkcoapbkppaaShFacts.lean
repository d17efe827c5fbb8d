/- Shares: what holds of them. -/
import Derived.Test.YtblpkcoapbkppaaCashLaws
set_option linter.unusedSimpArgs false
set_option linter.unusedVariables false
namespace Go.Proofs.Ytblpkcoapbkppaa
open Go.RowKit
theorem shs_get {all : Int} {l : List Int} (i : Nat) (h : i < l.length) : (shs all l)[i]'(by rw [shs_len]; exact h) = share1 all l i := by simp [shs]
theorem S_pos {all : Int} {l : List Int} (h : ShOk all l) : 0 < l.sum ∧ l.sum ≤ 100000 := by
  obtain ⟨_, _, _, hl, hp, hs⟩ := h
  have := sum_pos l hp
  omega
/-- No share lies more than one from its exact part. -/
theorem sh_near {all : Int} {l : List Int} (h : ShOk all l) (i : Nat) (hi : i < l.length) (p x : Int) (hp : l[i] = p) (hx : share1 all l i = x) :
    x * l.sum ≤ all * p + l.sum ∧ all * p - l.sum < x * l.sum ∧ (p = 0 → x = 0) ∧ 0 ≤ x ∧ x ≤ 1099511627776001 := by
  obtain ⟨s0, s1⟩ := S_pos h
  have hb := bas_at h l[i] (List.getElem_mem hi)
  have hg : l.getD i 0 = p := by rw [← hp]; simp [List.getD, hi]
  rw [hp] at hb
  unfold share1 at hx
  rw [hg] at hx
  have e1 := Int.mul_ediv_add_emod (all * p) l.sum
  have e2 := Int.emod_nonneg (all * p) (show l.sum ≠ 0 by omega)
  have e3 := Int.emod_lt_of_pos (all * p) s0
  have p0 : p = 0 → all * p / l.sum = 0 := by intro h0; rw [h0, Int.mul_zero, Int.zero_ediv]
  generalize all * p / l.sum = q at *
  have e4 : q * l.sum = l.sum * q := Int.mul_comm _ _
  by_cases hc : 0 < p ∧ (cntP (l.take i) : Int) < lef all l
  · rw [if_pos hc] at hx
    subst hx
    rw [Int.add_mul, Int.one_mul, e4]
    refine ⟨by omega, by omega, fun h0 => by omega, by omega, by omega⟩
  · rw [if_neg hc] at hx
    subst hx
    rw [Int.add_mul, Int.zero_mul, e4]
    refine ⟨by omega, by omega, fun h0 => by rw [p0 h0]; rfl, by omega, by omega⟩
/-- Like parts have like shares, but for one, the first ones more. -/
theorem sh_like {all : Int} {l : List Int} (h : ShOk all l) (k i : Nat) (hk : k ≤ i) (hi : i < l.length) (he : l[k] = l[i]) (x y : Int) (hx : share1 all l k = x) (hy : share1 all l i = y) : y ≤ x ∧ x ≤ y + 1 := by
  have hm := cnt_mono l k i hk
  have hg : l.getD k 0 = l[i] := by rw [← he]; simp [List.getD, show k < l.length by omega]
  have hg2 : l.getD i 0 = l[i] := by simp [List.getD, hi]
  unfold share1 at hx hy
  rw [hg] at hx
  rw [hg2] at hy
  subst hx hy
  by_cases c1 : 0 < l[i] ∧ (cntP (l.take k) : Int) < lef all l <;> by_cases c2 : 0 < l[i] ∧ (cntP (l.take i) : Int) < lef all l
  · rw [if_pos c1, if_pos c2]; omega
  · rw [if_pos c1, if_neg c2]; omega
  · exact absurd ⟨c2.1, by omega⟩ c1
  · rw [if_neg c1, if_neg c2]; omega
theorem sh_sums {all : Int} {l : List Int} (h : ShOk all l) (k : Nat) (hk : k ≤ l.length) : ((shs all l).take k).sum = ((bas all l.sum l).take k).sum + min (lef all l) (cntP (l.take k)) := by
  have hl := (lef_bounds h).1
  induction k with
  | zero => simp [cntP]; omega
  | succ k ih =>
    have ih := ih (by omega)
    rw [sum_take_step _ k (by rw [shs_len]; omega), sum_take_step _ k (by rw [bas_len]; omega), cnt_take_step l k (by omega), ih, shs_get k (by omega), bas_get k (by omega)]
    unfold share1
    rw [show l.getD k 0 = l[k] by simp [List.getD, show k < l.length by omega]]
    by_cases c : 0 < l[k]
    · rw [if_pos c]
      by_cases c2 : (cntP (l.take k) : Int) < lef all l
      · rw [if_pos ⟨c, c2⟩]; omega
      · rw [if_neg (fun hh => c2 hh.2)]; omega
    · rw [if_neg c, if_neg (fun hh => c hh.1)]; omega
/-- The shares are all of it. -/
theorem sh_all {all : Int} {l : List Int} (h : ShOk all l) : (shs all l).sum = all := by
  have e := sh_sums h l.length (Nat.le_refl _)
  have hl := lef_bounds h
  rw [List.take_length, List.take_of_length_le (by rw [shs_len]; exact Nat.le_refl _), List.take_of_length_le (by rw [bas_len]; exact Nat.le_refl _)] at e
  rw [e]
  have : lef all l = all - (bas all l.sum l).sum := rfl
  omega
theorem sh_sum_bounds {all : Int} {l : List Int} (h : ShOk all l) (k : Nat) (hk : k ≤ l.length) : 0 ≤ ((shs all l).take k).sum ∧ ((shs all l).take k).sum ≤ 1099511627776 := by
  have e := sh_sums h k hk
  have hl := lef_bounds h
  have hb := bas_take_nonneg h k
  have h2 := h.2.1
  have : lef all l = all - (bas all l.sum l).sum := rfl
  omega
/-- Twice as much: each share twice as great, but for two. -/
theorem sh_twice {all : Int} {l : List Int} (h : ShOk all l) (h2 : ShOk (2 * all) l) (i : Nat) (hi : i < l.length) (x y : Int) (hx : share1 all l i = x) (hy : share1 (2 * all) l i = y) : 2 * x - 2 ≤ y ∧ y ≤ 2 * x + 2 := by
  obtain ⟨s0, s1⟩ := S_pos h
  unfold share1 at hx hy
  have e1 := Int.mul_ediv_add_emod (all * l.getD i 0) l.sum
  have e2 := Int.emod_nonneg (all * l.getD i 0) (show l.sum ≠ 0 by omega)
  have e3 := Int.emod_lt_of_pos (all * l.getD i 0) s0
  have f1 := Int.mul_ediv_add_emod (2 * all * l.getD i 0) l.sum
  have f2 := Int.emod_nonneg (2 * all * l.getD i 0) (show l.sum ≠ 0 by omega)
  have f3 := Int.emod_lt_of_pos (2 * all * l.getD i 0) s0
  rw [Int.mul_assoc] at f1 f2 f3 hy
  generalize 2 * (all * l.getD i 0) / l.sum = q2 at *
  generalize all * l.getD i 0 / l.sum = q at *
  have b1 : 2 * q ≤ q2 := by
    refine Int.le_of_lt_add_one (Int.lt_of_mul_lt_mul_left (a := l.sum) ?_ (by omega))
    rw [Int.mul_add, show l.sum * (2 * q) = 2 * (l.sum * q) by rw [Int.mul_left_comm]]
    omega
  have b2 : q2 ≤ 2 * q + 1 := by
    refine Int.le_of_lt_add_one (Int.lt_of_mul_lt_mul_left (a := l.sum) ?_ (by omega))
    rw [Int.mul_add, Int.mul_add, show l.sum * (2 * q) = 2 * (l.sum * q) by rw [Int.mul_left_comm]]
    omega
  subst hx hy
  split <;> split <;> omega
/-- One part alone. -/
def oneL (n k : Nat) (v : Int) : List Int := (List.replicate n 0).set k v
theorem oneL_len (n k : Nat) (v : Int) : (oneL n k v).length = n := by simp [oneL]
theorem oneL_at (n k : Nat) (v : Int) (i : Nat) (hi : i < n) : (oneL n k v)[i]'(by rw [oneL_len]; exact hi) = if i = k then v else 0 := by
  simp only [oneL, List.getElem_set, List.getElem_replicate]
  by_cases h : k = i
  · rw [if_pos h, if_pos h.symm]
  · rw [if_neg h, if_neg (fun e => h e.symm)]
theorem oneL_sum (n k : Nat) (v : Int) (hk : k < n) : (oneL n k v).sum = v := by
  unfold oneL
  induction n generalizing k with
  | zero => omega
  | succ n ih =>
    rw [List.replicate_succ]
    have hz : (List.replicate n (0 : Int)).sum = 0 := by
      clear ih hk
      induction n with
      | zero => rfl
      | succ n ih2 => rw [List.replicate_succ, List.sum_cons, ih2]; rfl
    cases k with
    | zero => rw [List.set_cons_zero, List.sum_cons, hz]; omega
    | succ k => rw [List.set_cons_succ, List.sum_cons, ih k (by omega)]; omega
theorem one_ok {all : Int} {n k : Nat} (h0 : 0 ≤ all) (h1 : all ≤ 1099511627776) (hk : k < n) (hn : n ≤ 12) : ShOk all (oneL n k 7) := by
  refine ⟨h0, h1, by rw [oneL_len]; omega, by rw [oneL_len]; omega, ?_, by rw [oneL_sum _ _ _ hk]; decide⟩
  intro p hp
  obtain ⟨i, hi, rfl⟩ := List.getElem_of_mem hp
  rw [oneL_len] at hi
  rw [oneL_at n k 7 i hi]
  split <;> omega
theorem one_shs {all : Int} {n k : Nat} (h0 : 0 ≤ all) (h1 : all ≤ 1099511627776) (hk : k < n) (hn : n ≤ 12) (i : Nat) (hi : i < n) : share1 all (oneL n k 7) i = if i = k then all else 0 := by
  have hok := one_ok h0 h1 hk hn
  have hs := oneL_sum n k 7 hk
  have hbas : bas all 7 (oneL n k 7) = oneL n k all := by
    apply List.ext_getElem
    · rw [bas_len, oneL_len, oneL_len]
    · intro j h1 h2
      rw [bas_len, oneL_len] at h1
      rw [bas_get j (by rw [oneL_len]; exact h1), oneL_at n k 7 j h1, oneL_at n k all j h1]
      split
      · rw [Int.mul_ediv_cancel _ (by decide)]
      · simp
  have hlef : lef all (oneL n k 7) = 0 := by unfold lef; rw [hs, hbas, oneL_sum n k all hk]; omega
  unfold share1
  rw [hlef, if_neg (by omega), hs, show (oneL n k 7).getD i 0 = (oneL n k 7)[i]'(by rw [oneL_len]; exact hi) by simp [List.getD, oneL_len, hi], oneL_at n k 7 i hi]
  split
  · rw [Int.mul_ediv_cancel _ (by decide)]; omega
  · simp
end Go.Proofs.Ytblpkcoapbkppaa
