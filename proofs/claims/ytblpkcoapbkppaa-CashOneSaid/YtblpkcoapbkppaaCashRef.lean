/- The document's own sums, differences, products. -/
import Derived.Test.YtblpkcoapbkppaaCash
set_option linter.unusedSimpArgs false
set_option linter.unusedVariables false
namespace Go.Proofs.Ytblpkcoapbkppaa
open Go.RowKit
/-- A number, or that it is beyond its bounds. -/
def kept (z : Int) : Array Value := #[.int .i64 (if Fits z then z else 0), .int .i64 (if Fits z then 0 else 3)]
theorem kept_yes {z : Int} (h : Fits z) : kept z = #[.int .i64 z, .int .i64 0] := by unfold kept; rw [if_pos h, if_pos h]
theorem kept_no {z : Int} (h : ¬ Fits z) : kept z = #[.int .i64 0, .int .i64 3] := by unfold kept; rw [if_neg h, if_neg h]
theorem add_c (a b : Int) (w : World) (ha : Fits a) (hb : Fits b) : Calls Try.prog 18 #[.int .i64 a, .int .i64 b] w fun e w' => e = .returned (.tuple (kept (a + b))) ∧ Below w.heap.size w w' := by
  by_cases h : Fits (a + b)
  · rw [kept_yes h]; exact add_yes a b w ha hb h
  · rw [kept_no h]; exact add_no a b w ha hb h
theorem sub_c (a b : Int) (w : World) (ha : Fits a) (hb : Fits b) : Calls Try.prog 19 #[.int .i64 a, .int .i64 b] w fun e w' => e = .returned (.tuple (kept (a - b))) ∧ Below w.heap.size w w' := by
  by_cases h : Fits (a - b)
  · rw [kept_yes h]; exact sub_yes a b w ha hb h
  · rw [kept_no h]; exact sub_no a b w ha hb h
theorem mul_k (a b : Int) (w : World) (ha : Fits a) (hb : Fits b) : Calls Try.prog 20 #[.int .i64 a, .int .i64 b] w fun e w' => e = .returned (.tuple (kept (a * b))) ∧ Below w.heap.size w w' := mul_c a b w ha hb
theorem radd_c (a b : Int) (w : World) (ha : Fits a) (hb : Fits b) : Calls Try.prog 21 #[.int .i64 a, .int .i64 b] w fun e w' => e = .returned (.tuple (kept (a + b))) ∧ w = w' := by
  obtain ⟨c, hc⟩ : ∃ c, wrap64 (a + b) = c := ⟨_, rfl⟩
  by_cases h : Fits (a + b)
  · rw [kept_yes h]
    rw [wrap_fits h] at hc
    rw [hc]
    have hc' := wrap_fits h
    rw [hc] at hc'
    by_cases h0 : 0 ≤ b
    · have h1 : ¬ c < a := by omega
      clear ha hb h
      go_enter Try.func21, Try.ntmps21
      go_wp2
      go_ret2
      exact ⟨rfl, rfl⟩
    · have h1 : ¬ a < c := by omega
      clear ha hb h
      go_enter Try.func21, Try.ntmps21
      go_wp2
      go_ret2
      exact ⟨rfl, rfl⟩
  · rw [kept_no h]
    by_cases h0 : 0 ≤ b
    · have h1 : c < a := by unfold Fits wrap64 at *; omega
      clear ha hb h
      go_enter Try.func21, Try.ntmps21
      go_wp2
      go_ret2
      exact ⟨rfl, rfl⟩
    · have h1 : a < c := by unfold Fits wrap64 at *; omega
      clear ha hb h
      go_enter Try.func21, Try.ntmps21
      go_wp2
      go_ret2
      exact ⟨rfl, rfl⟩
theorem rsub_c (a b : Int) (w : World) (ha : Fits a) (hb : Fits b) : Calls Try.prog 22 #[.int .i64 a, .int .i64 b] w fun e w' => e = .returned (.tuple (kept (a - b))) ∧ w = w' := by
  obtain ⟨c, hc⟩ : ∃ c, wrap64 (a - b) = c := ⟨_, rfl⟩
  by_cases h : Fits (a - b)
  · rw [kept_yes h]
    rw [wrap_fits h] at hc
    rw [hc]
    have hc' := wrap_fits h
    rw [hc] at hc'
    by_cases h0 : 0 ≤ b
    · have h1 : ¬ a < c := by omega
      clear ha hb h
      go_enter Try.func22, Try.ntmps22
      go_wp2
      go_ret2
      exact ⟨rfl, rfl⟩
    · have h1 : ¬ c < a := by omega
      clear ha hb h
      go_enter Try.func22, Try.ntmps22
      go_wp2
      go_ret2
      exact ⟨rfl, rfl⟩
  · rw [kept_no h]
    by_cases h0 : 0 ≤ b
    · have h1 : a < c := by unfold Fits wrap64 at *; omega
      clear ha hb h
      go_enter Try.func22, Try.ntmps22
      go_wp2
      go_ret2
      exact ⟨rfl, rfl⟩
    · have h1 : c < a := by unfold Fits wrap64 at *; omega
      clear ha hb h
      go_enter Try.func22, Try.ntmps22
      go_wp2
      go_ret2
      exact ⟨rfl, rfl⟩
set_option maxHeartbeats 4000000 in
theorem rmul_walk (a b n : Int) (w : World) (e1 : wrap64 (a * b) = n) (v p q r s t : Bool) (hb0 : ¬ b = 0) (h1 : (a == 0) = false) (h2 : (b == 0) = false)
    (hp : (a == -1) = p) (hq : (b == -9223372036854775808) = q) (hr : (b == -1) = r) (hs : (a == -9223372036854775808) = s) (ht : (wrap64 (n.tdiv b) != a) = t) (hv : ((p && q) || (r && s) || t) = v) : Calls Try.prog 23 #[.int .i64 a, .int .i64 b] w fun e w' => e = .returned (.tuple #[.int .i64 (if v then 0 else n), .int .i64 (if v then 3 else 0)]) ∧ w = w' := by
  cases p <;> cases q <;> cases r <;> cases s <;> cases t <;> (
    subst hv
    go_enter Try.func23, Try.ntmps23
    go_wp2
    go_ret2
    exact ⟨rfl, rfl⟩)
theorem rmul_zero (a b : Int) (w : World) (h : (a == 0) = true ∨ ((a == 0) = false ∧ (b == 0) = true)) : Calls Try.prog 23 #[.int .i64 a, .int .i64 b] w fun e w' => e = .returned (.tuple #[.int .i64 0, .int .i64 0]) ∧ w = w' := by
  rcases h with h | ⟨h1, h⟩ <;> (
    go_enter Try.func23, Try.ntmps23
    go_wp2
    go_ret2
    exact ⟨rfl, rfl⟩)
theorem rmul_c (a b : Int) (w : World) (ha : Fits a) (hb : Fits b) : Calls Try.prog 23 #[.int .i64 a, .int .i64 b] w fun e w' => e = .returned (.tuple (kept (a * b))) ∧ w = w' := by
  have hf0 : Fits 0 := by decide
  by_cases a0 : a = 0
  · have := rmul_zero a b w (.inl (beq_iff_eq.2 a0))
    rw [a0, Int.zero_mul, kept_yes hf0]; rwa [a0] at this
  have a0' : (a == 0) = false := beq_eq_false_iff_ne.2 a0
  by_cases b0 : b = 0
  · have := rmul_zero a b w (.inr ⟨a0', beq_iff_eq.2 b0⟩)
    rw [b0, Int.mul_zero, kept_yes hf0]; rwa [b0] at this
  have b0' : (b == 0) = false := beq_eq_false_iff_ne.2 b0
  have hw := rmul_walk a b _ w rfl _ _ _ _ _ _ b0 a0' b0' rfl rfl rfl rfl rfl rfl
  have hv : (((a == -1 && b == -9223372036854775808) || (b == -1 && a == -9223372036854775808) || (wrap64 ((wrap64 (a * b)).tdiv b) != a)) = true) ↔ ¬ Fits (a * b) := by
    rw [Bool.or_eq_true, Bool.or_eq_true, Bool.and_eq_true, Bool.and_eq_true, beq_iff_eq, beq_iff_eq, beq_iff_eq, beq_iff_eq, bne_iff_ne]
    by_cases a1 : a = -1
    · have hm := mul_edge a b ha hb a1
      constructor
      · rintro ((⟨_, h⟩ | ⟨h, h'⟩) | h)
        · rw [hm]; exact fun h' => h' h
        · omega
        · intro hz
          rw [wrap_fits hz, Int.mul_tdiv_cancel a b0, wrap_fits ha] at h
          exact h rfl
      · intro h
        exact .inl (.inl ⟨a1, by rw [hm] at h; exact Classical.not_not.1 h⟩)
    · by_cases b1 : b = -1
      · have hm := mul_edge b a hb ha b1
        rw [Int.mul_comm] at hm
        constructor
        · rintro ((⟨h, _⟩ | ⟨_, h⟩) | h)
          · exact absurd h a1
          · rw [hm]; exact fun h' => h' h
          · intro hz
            rw [wrap_fits hz, Int.mul_tdiv_cancel a b0, wrap_fits ha] at h
            exact absurd rfl h
        · intro h
          exact .inl (.inr ⟨b1, by rw [hm] at h; exact Classical.not_not.1 h⟩)
      · have hm := mul_div a b ha hb b0 b1
        constructor
        · rintro ((⟨h, _⟩ | ⟨h, _⟩) | h)
          · exact absurd h a1
          · exact absurd h b1
          · rwa [ne_eq, hm] at h
        · intro h
          exact .inr (by rwa [ne_eq, hm])
  refine hw.mono ?_
  rintro e w' ⟨rfl, rfl⟩
  refine ⟨?_, rfl⟩
  by_cases hz : Fits (a * b)
  · have hn : ¬ _ := fun h => (hv.1 h) hz
    rw [if_neg hn, if_neg hn, kept_yes hz, wrap_fits hz]
  · have hn := hv.2 hz
    rw [if_pos hn, if_pos hn, kept_no hz]
end Go.Proofs.Ytblpkcoapbkppaa
