/- The law WantBounds. -/
import Derived.Test.YtebinhelnhnbeaaWBo1
import Derived.Test.YtebinhelnhnbeaaWBo2
import Derived.Test.YtebinhelnhnbeaaWBo3
import Derived.Test.YtebinhelnhnbeaaWBo4
import Derived.Test.YtebinhelnhnbeaaWBo5
import Derived.Test.YtebinhelnhnbeaaWBo6
import Derived.Test.YtebinhelnhnbeaaWBo7
import Derived.Test.YtebinhelnhnbeaaWBo8
import Derived.Test.YtebinhelnhnbeaaWBo9
set_option linter.unusedSimpArgs false
set_option linter.unusedVariables false
namespace Go.Proofs.Ytebinhelnhnbeaa
open Go.RowKit
theorem wbounds_walk (x : W7) (o : O5) (a : Int) (w : World) : Calls Try.prog 14 #[x.val, o.val, .int .i64 a] w fun e w' => e = .returned (.bool true) ∧ Below w.heap.size w w' := by
  obtain ⟨k, hk, hk2⟩ := u_rem a 9 (by omega)
  have : k = 0 ∨ k = 1 ∨ k = 2 ∨ k = 3 ∨ k = 4 ∨ k = 5 ∨ k = 6 ∨ k = 7 ∨ k = 8 := by omega
  rcases this with rfl | rfl | rfl | rfl | rfl | rfl | rfl | rfl | rfl
  · exact bounds0 _ _ x o a w hk rfl rfl
  · exact bounds1 _ _ x o a w hk rfl rfl
  · exact bounds2 _ _ x o a w hk rfl rfl
  · exact bounds3 _ _ x o a w hk rfl rfl
  · exact bounds4 _ _ x o a w hk rfl rfl
  · exact bounds5 _ _ x o a w hk rfl rfl
  · exact bounds6 _ _ x o a w hk rfl rfl
  · exact bounds7 _ _ x o a w hk rfl rfl
  · exact bounds8 _ _ x o a w hk rfl rfl
end Go.Proofs.Ytebinhelnhnbeaa
