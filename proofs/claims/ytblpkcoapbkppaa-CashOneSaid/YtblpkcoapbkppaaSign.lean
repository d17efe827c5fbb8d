/- The sign of what bits of two numbers make. -/
import Derived.Test.YtblpkcoapbkppaaKit
set_option linter.unusedSimpArgs false
set_option linter.unusedVariables false
namespace Go.Proofs.Ytblpkcoapbkppaa
open Go.RowKit
def Fits (z : Int) : Prop := -9223372036854775808 ≤ z ∧ z ≤ 9223372036854775807
theorem wrap_toInt (v : BitVec 64) : IntKind.i64.wrap (v.toNat : Int) = v.toInt := by
  rw [IntKind.wrap_i64, BitVec.toInt_eq_toNat_cond]
  have := v.isLt
  split <;> omega
theorem toInt_fits (v : BitVec 64) : Fits v.toInt := by
  rw [← wrap_toInt, IntKind.wrap_i64]
  unfold Fits
  omega
theorem ofInt_neg (a : Int) (h : Fits a) : (BitVec.ofInt 64 a).msb = decide (a < 0) := by
  have h1 : (BitVec.ofInt 64 a).toInt = a := by
    rw [BitVec.toInt_ofInt]
    unfold Fits at h
    simp only [Int.bmod_def]
    split <;> omega
  rw [BitVec.msb_eq_toInt, h1]
theorem xor_sign (a b : Int) (ha : Fits a) (hb : Fits b) : Fits (bits .xor .i64 a b) ∧ decide (bits .xor .i64 a b < 0) = (decide (a < 0) ^^ decide (b < 0)) := by
  have e : bits .xor .i64 a b = (BitVec.ofInt 64 a ^^^ BitVec.ofInt 64 b).toInt := wrap_toInt _
  rw [e]
  refine ⟨toInt_fits _, ?_⟩
  rw [← BitVec.msb_eq_toInt, BitVec.msb_xor, ofInt_neg a ha, ofInt_neg b hb]
theorem and_sign (a b : Int) (ha : Fits a) (hb : Fits b) : Fits (bits .and .i64 a b) ∧ decide (bits .and .i64 a b < 0) = (decide (a < 0) && decide (b < 0)) := by
  have e : bits .and .i64 a b = (BitVec.ofInt 64 a &&& BitVec.ofInt 64 b).toInt := wrap_toInt _
  rw [e]
  refine ⟨toInt_fits _, ?_⟩
  rw [← BitVec.msb_eq_toInt, BitVec.msb_and, ofInt_neg a ha, ofInt_neg b hb]
theorem wrap64_fits (z : Int) : Fits (wrap64 z) := by unfold Fits wrap64; omega
theorem u_add (a b : Int) : wrap64 (IntKind.u64.wrap (IntKind.u64.wrap a + IntKind.u64.wrap b)) = wrap64 (a + b) := by
  simp only [IntKind.wrap_u64]; unfold wrap64; omega
theorem u_sub (a b : Int) : wrap64 (IntKind.u64.wrap (IntKind.u64.wrap a - IntKind.u64.wrap b)) = wrap64 (a - b) := by
  simp only [IntKind.wrap_u64]; unfold wrap64; omega
theorem u_mul (a b : Int) : wrap64 (IntKind.u64.wrap (IntKind.u64.wrap a * IntKind.u64.wrap b)) = wrap64 (a * b) := by
  simp only [IntKind.wrap_u64]
  have h : (a % 18446744073709551616 * (b % 18446744073709551616)) % 18446744073709551616 = a * b % 18446744073709551616 := by
    rw [← Int.mul_emod]
  have e : ∀ x y : Int, x % 18446744073709551616 = y % 18446744073709551616 → wrap64 x = wrap64 y := by
    intro x y hxy; unfold wrap64; omega
  exact e _ _ (by rw [Int.emod_emod_of_dvd _ (Int.dvd_refl _)]; exact h)
/-- Did a sum run over? -/
theorem add_over (a b : Int) (ha : Fits a) (hb : Fits b) : Fits (bits .and .i64 (bits .xor .i64 a (wrap64 (a + b))) (bits .xor .i64 b (wrap64 (a + b)))) ∧
    (bits .and .i64 (bits .xor .i64 a (wrap64 (a + b))) (bits .xor .i64 b (wrap64 (a + b))) < 0 ↔ ¬ Fits (a + b)) := by
  have hn := wrap64_fits (a + b)
  have x1 := xor_sign a _ ha hn
  have x2 := xor_sign b _ hb hn
  have x3 := and_sign _ _ x1.1 x2.1
  refine ⟨x3.1, ?_⟩
  have x4 := x3.2
  rw [x1.2, x2.2] at x4
  generalize bits .and .i64 _ _ = X at x4 ⊢
  clear x1 x2 x3
  by_cases p1 : a < 0 <;> by_cases p2 : b < 0 <;> by_cases p3 : wrap64 (a + b) < 0 <;>
    (simp only [p1, p2, p3, decide_true, decide_false, Bool.xor_false, Bool.xor_true, Bool.false_xor, Bool.true_xor, Bool.not_true, Bool.not_false, Bool.and_self, Bool.and_true, Bool.and_false, Bool.true_and, Bool.false_and, decide_eq_true_eq, decide_eq_false_iff_not] at x4; unfold Fits wrap64 at *; omega)
theorem sub_over (a b : Int) (ha : Fits a) (hb : Fits b) : Fits (bits .and .i64 (bits .xor .i64 a b) (bits .xor .i64 a (wrap64 (a - b)))) ∧
    (bits .and .i64 (bits .xor .i64 a b) (bits .xor .i64 a (wrap64 (a - b))) < 0 ↔ ¬ Fits (a - b)) := by
  have hn := wrap64_fits (a - b)
  have x1 := xor_sign a b ha hb
  have x2 := xor_sign a _ ha hn
  have x3 := and_sign _ _ x1.1 x2.1
  refine ⟨x3.1, ?_⟩
  have x4 := x3.2
  rw [x1.2, x2.2] at x4
  generalize bits .and .i64 _ _ = X at x4 ⊢
  clear x1 x2 x3
  by_cases p1 : a < 0 <;> by_cases p2 : b < 0 <;> by_cases p3 : wrap64 (a - b) < 0 <;>
    (simp only [p1, p2, p3, decide_true, decide_false, Bool.xor_false, Bool.xor_true, Bool.false_xor, Bool.true_xor, Bool.not_true, Bool.not_false, Bool.and_self, Bool.and_true, Bool.and_false, Bool.true_and, Bool.false_and, decide_eq_true_eq, decide_eq_false_iff_not] at x4; unfold Fits wrap64 at *; omega)
end Go.Proofs.Ytblpkcoapbkppaa
