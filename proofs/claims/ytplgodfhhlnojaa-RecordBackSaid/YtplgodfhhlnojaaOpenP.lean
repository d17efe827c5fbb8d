/- An operation opened. -/
import Derived.Test.YtplgodfhhlnojaaB4
set_option linter.unusedSimpArgs false
set_option linter.unusedVariables false
namespace Go.Proofs.Ytplgodfhhlnojaa
open Go.RowKit
set_option maxRecDepth 100000 in
theorem open_op {w : World} {base : Nat} {v : Value} (hv : Value.okWide Try.prog w .any base 28 v) : ∃ x : O5, v = x.val ∧ ∀ z ∈ [x.kind, x.book, x.units, x.cust, x.amount], -9223372036854775808 ≤ z ∧ z ≤ 9223372036854775807 := by
  obtain ⟨zs, rfl, hl, hz⟩ := open_nums_agg (P := Try.prog) (t := 28) (ts := [3, 3, 3, 3, 2]) Try.underlying28 (by kernel_rfl) (by kernel_rfl) (by
    intro u hu
    have : u = 3 ∨ u = 2 := by simp at hu; omega
    rcases this with rfl | rfl
    · exact Try.underlying3
    · exact Try.underlying2) hv
  match zs, hl with
  | [b, c, d, m0, m1], _ => exact ⟨⟨b, c, d, m0, m1⟩, rfl, hz⟩
end Go.Proofs.Ytplgodfhhlnojaa
