/- The law WantKinds, walked (printed by genwkinds.py). -/
import Derived.Test.YtebinhelnhnbeaaTold3
import Derived.Test.YtebinhelnhnbeaaOwnB
set_option linter.unusedSimpArgs false
set_option linter.unusedVariables false
namespace Go.Proofs.Ytebinhelnhnbeaa
open Go.RowKit
theorem encO_pos (x : O5) : 0 < (encO x).length := by
  have h := congrArg List.length (encO_split x [])
  simp only [List.length_append, List.length_nil] at h
  have := enc_pos x.kind
  omega
end Go.Proofs.Ytebinhelnhnbeaa
