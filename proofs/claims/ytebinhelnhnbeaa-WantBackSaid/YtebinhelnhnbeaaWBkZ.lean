/- WantBack, its cases joined (printed by genwback.py). -/
import Derived.Test.YtebinhelnhnbeaaWBk0
import Derived.Test.YtebinhelnhnbeaaWBk1
import Derived.Test.YtebinhelnhnbeaaWBk2
import Derived.Test.YtebinhelnhnbeaaWBk3
import Derived.Test.YtebinhelnhnbeaaWBk4
import Derived.Test.YtebinhelnhnbeaaWBk5
import Derived.Test.YtebinhelnhnbeaaWBk6
import Derived.Test.YtebinhelnhnbeaaWBk7
import Derived.Test.YtebinhelnhnbeaaWBk8
import Derived.Test.YtebinhelnhnbeaaWBk9
import Derived.Test.YtebinhelnhnbeaaWBk10
import Derived.Test.YtebinhelnhnbeaaWBk11
import Derived.Test.YtebinhelnhnbeaaWBk12
import Derived.Test.YtebinhelnhnbeaaWBk13
import Derived.Test.YtebinhelnhnbeaaWBk14
import Derived.Test.YtebinhelnhnbeaaWBk15
set_option linter.unusedSimpArgs false
set_option linter.unusedVariables false
namespace Go.Proofs.Ytebinhelnhnbeaa
open Go.RowKit
theorem wback_walk (x y : W7) (o p : O5) (a : Int) (w : World) : Calls Try.prog 13 #[x.val, y.val, o.val, p.val, .int .i64 a] w fun e w' => e = .returned (.bool true) ∧ Below w.heap.size w w' := by
  by_cases hx : MayW x
  · by_cases hy : MayW y
    · cases dy : decide (x = y)
      · skip
        by_cases ho : MayO o
        · by_cases hp : MayO p
          · cases dp : decide (o = p)
            · exact wback15 x y o p a w hx hy dy ho hp dp
            · exact wback14 x y o p a w hx hy dy ho hp dp
          · exact wback13 x y o p a w hx hy dy ho hp
        · exact wback12 x y o p a w hx hy dy ho (Classical.em _)
      · skip
        by_cases ho : MayO o
        · by_cases hp : MayO p
          · cases dp : decide (o = p)
            · exact wback11 x y o p a w hx hy dy ho hp dp
            · exact wback10 x y o p a w hx hy dy ho hp dp
          · exact wback9 x y o p a w hx hy dy ho hp
        · exact wback8 x y o p a w hx hy dy ho (Classical.em _)
    · skip
      by_cases ho : MayO o
      · by_cases hp : MayO p
        · cases dp : decide (o = p)
          · exact wback7 x y o p a w hx hy ho hp dp
          · exact wback6 x y o p a w hx hy ho hp dp
        · exact wback5 x y o p a w hx hy ho hp
      · exact wback4 x y o p a w hx hy ho (Classical.em _)
  · skip
    by_cases ho : MayO o
    · by_cases hp : MayO p
      · cases dp : decide (o = p)
        · exact wback3 x y o p a w hx (Classical.em _) ho hp dp
        · exact wback2 x y o p a w hx (Classical.em _) ho hp dp
      · exact wback1 x y o p a w hx (Classical.em _) ho hp
    · exact wback0 x y o p a w hx (Classical.em _) ho (Classical.em _)
end Go.Proofs.Ytebinhelnhnbeaa
