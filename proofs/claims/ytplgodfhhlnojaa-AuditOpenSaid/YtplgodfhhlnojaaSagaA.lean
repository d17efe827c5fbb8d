/- saga.Answer, walked (printed by gensagan.py). -/
import Derived.Test.YtplgodfhhlnojaaSagaA1
import Derived.Test.YtplgodfhhlnojaaSagaA2
import Derived.Test.YtplgodfhhlnojaaSagaA3
import Derived.Test.YtplgodfhhlnojaaSagaA4
import Derived.Outline
set_option linter.unusedSimpArgs false
set_option linter.unusedVariables false
namespace Go.Proofs.Ytplgodfhhlnojaa
open Go.RowKit
set_option maxRecDepth 100000 in
set_option maxHeartbeats 1000000 in
theorem ans1 (s : S11) (x : A6) (answer : Int) (w : World) : Calls Try.prog 26 #[s.val, x.val, .int .i64 answer] w fun e w' => e = .returned (.tuple #[(ansS s x answer).1.val, .bool (ansS s x answer).2]) ∧ Below w.heap.size w w' := by
  cases h1 : (nextS s).2
  · exact ans1_no s x answer w (.inl h1)
  by_cases h2 : (nextS s).1 = x
  · by_cases a2 : answer = 2
    · subst a2
      exact ans1_two s x w h1 h2
    by_cases a1 : answer = 1
    · subst a1
      exact ans1_one s x w h1 h2
    exact ans1_other s x answer w h1 h2 a1 a2
  exact ans1_no s x answer w (.inr (fun h => h2 h.symm))
end Go.Proofs.Ytplgodfhhlnojaa
