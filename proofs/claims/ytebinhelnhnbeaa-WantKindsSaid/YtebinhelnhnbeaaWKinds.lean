/- The law WantKinds. -/
import Derived.Test.YtebinhelnhnbeaaWKinds1
import Derived.Test.YtebinhelnhnbeaaWKinds2
import Derived.Test.YtebinhelnhnbeaaWKinds3
import Derived.Test.YtebinhelnhnbeaaWKinds4
import Derived.Test.YtebinhelnhnbeaaWKinds5
import Derived.Test.YtebinhelnhnbeaaWKinds6
set_option linter.unusedSimpArgs false
set_option linter.unusedVariables false
namespace Go.Proofs.Ytebinhelnhnbeaa
open Go.RowKit
theorem kinds_walk (a b c d : Int) (w : World) : Calls Try.prog 15 #[.int .i64 a, .int .i64 b, .int .i64 c, .int .i64 d] w fun e w' => e = .returned (.bool true) ∧ Below w.heap.size w w' := by
  obtain ⟨k, hk, hk2⟩ := u_rem a 6 (by omega)
  have : k = 0 ∨ k = 1 ∨ k = 2 ∨ k = 3 ∨ k = 4 ∨ k = 5 := by omega
  rcases this with rfl | rfl | rfl | rfl | rfl | rfl
  · exact kinds1 a b c d w hk
  · exact kinds2 a b c d w hk
  · exact kinds3 a b c d w hk
  · exact kinds4 a b c d w hk
  · exact kinds5 a b c d w hk
  · exact kinds6 a b c d w hk
end Go.Proofs.Ytebinhelnhnbeaa
