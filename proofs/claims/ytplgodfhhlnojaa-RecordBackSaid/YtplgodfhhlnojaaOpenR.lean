/- Openings of records, operations, sagas and bytes. -/
import Derived.Test.YtplgodfhhlnojaaS9
import Derived.Test.YtplgodfhhlnojaaOpenP
import Derived.Test.YtplgodfhhlnojaaB1
import Derived.Test.YtplgodfhhlnojaaRec0
set_option linter.unusedSimpArgs false
set_option linter.unusedVariables false
namespace Go.Proofs.Ytplgodfhhlnojaa
open Go.RowKit
set_option maxRecDepth 100000 in
theorem open_rec {w : World} {base : Nat} {v : Value} (hv : Value.okWide Try.prog w .any base 82 v) : ∃ r : R19, v = r.val := by
  obtain ⟨zs, rfl, hl, hz⟩ := open_nums_agg (P := Try.prog) (t := 82) (ts := [3, 3, 3, 3, 3, 3, 3, 2, 3, 3, 3, 3, 3, 3, 2, 3, 3, 3, 3]) Try.underlying82 (by kernel_rfl) (by kernel_rfl) (by
    intro u hu
    have : u = 3 ∨ u = 2 := (by decide : ∀ u ∈ [3, 3, 3, 3, 3, 3, 3, 2, 3, 3, 3, 3, 3, 3, 2, 3, 3, 3, 3], u = 3 ∨ u = 2) u hu
    rcases this with rfl | rfl
    · exact Try.underlying3
    · exact Try.underlying2) hv
  match zs, hl with
  | [k, now, ans, a, b, c, d, e, f, g, h, i, j, l, m, n, o, p, q], _ => exact ⟨⟨k, now, ans, ⟨a, b, c, d, e⟩, ⟨⟨f, g, h, i, j, l, m⟩, n, o, p, q⟩⟩, rfl⟩
end Go.Proofs.Ytplgodfhhlnojaa
