/- WantParts, its parts joined (printed by genwparts.py). -/
import Derived.Test.YtebinhelnhnbeaaWPa1
import Derived.Test.YtebinhelnhnbeaaWPa2
import Derived.Test.YtebinhelnhnbeaaWPa3
import Derived.Test.YtebinhelnhnbeaaWPa4
import Derived.Test.YtebinhelnhnbeaaWPa5
import Derived.Test.YtebinhelnhnbeaaWPa6
import Derived.Test.YtebinhelnhnbeaaWPa7
import Derived.Test.YtebinhelnhnbeaaWPa8
import Derived.Test.YtebinhelnhnbeaaWBounds0
set_option linter.unusedSimpArgs false
set_option linter.unusedVariables false
namespace Go.Proofs.Ytebinhelnhnbeaa
open Go.RowKit
theorem wparts_walk (x : W7) (a b : Int) (w : World) : Calls Try.prog 11 #[x.val, .int .i64 a, .int .i64 b] w fun e w' => e = .returned (.bool true) ∧ Below w.heap.size w w' := by
  by_cases hx : MayW x
  · obtain ⟨m, hm, hm2⟩ := u_rem a 6 (by omega)
    obtain ⟨k, hk, hk2⟩ := u_rem b 1001 (by omega)
    have h6 : m = 0 ∨ m = 1 ∨ m = 2 ∨ m = 3 ∨ m = 4 ∨ m = 5 := by omega
    rcases h6 with rfl | rfl | rfl | rfl | rfl | rfl
    · exact wparts0 x a b w hx hm
    · exact wparts1 x a b w hx hm
    · exact wparts2 x a b w hx hm
    · exact wparts3 x a b w hx hm
    · by_cases hu : x.m0 = 0 ∧ (k : Int) = 0 ∧ x.m2 = 0
      · exact wparts4n x a b w hx hm k hk hk2 hu
      · exact wparts4y x a b w hx hm k hk hk2 hu
    · by_cases hu : x.m0 = 0 ∧ x.m1 = 0 ∧ (k : Int) = 0
      · exact wparts5n x a b w hx hm k hk hk2 hu
      · exact wparts5y x a b w hx hm k hk hk2 hu
  · exact wparts_no x a b w (decide_eq_false hx)
end Go.Proofs.Ytebinhelnhnbeaa
