/- The law WantAsks, walked in a case (printed by genwasks.py). -/
import Derived.Test.YtebinhelnhnbeaaWAs1
import Derived.Test.YtebinhelnhnbeaaWAs2
import Derived.Test.YtebinhelnhnbeaaWAs0
import Derived.Test.YtebinhelnhnbeaaWRefGO
import Derived.Test.YtebinhelnhnbeaaWRefP
import Derived.Test.YtebinhelnhnbeaaWTurn
import Derived.Test.YtebinhelnhnbeaaBelowR
set_option linter.unusedSimpArgs false
set_option linter.unusedVariables false
namespace Go.Proofs.Ytebinhelnhnbeaa
open Go.RowKit
theorem wasks_walk (x : W7) (o : O5) (A : Option Addr) (n c : Nat) (l : List UInt8) (w : World) (hr : Rd w w.heap.size 1 A n (B8 l)) : Calls Try.prog 12 #[x.val, o.val, .slice A n c] w fun e w' => e = .returned (.bool true) ∧ Below w.heap.size w w' := by
  by_cases hn : n ≤ 100
  · by_cases hx : MayW x <;> by_cases ho : MayO o
    · exact wasks1 x o A n c l w hr hn hx ho
    · exact wasks2 x o A n c l w hr hn hx ho
    · exact wasks3 x o A n c l w hr hn hx ho
    · exact wasks4 x o A n c l w hr hn hx ho
  · exact wasks_long x o A n c l w hr (by omega)
end Go.Proofs.Ytebinhelnhnbeaa
