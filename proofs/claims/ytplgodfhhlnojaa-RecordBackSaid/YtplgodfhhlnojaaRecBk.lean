/- The law RecordBack, walked (printed by genrecback.py). -/
import Derived.Test.YtplgodfhhlnojaaRecB1
import Derived.Test.YtplgodfhhlnojaaRecB2
import Derived.Test.YtplgodfhhlnojaaRecB3
import Derived.Outline
set_option linter.unusedSimpArgs false
set_option linter.unusedVariables false
namespace Go.Proofs.Ytplgodfhhlnojaa
open Go.RowKit
theorem recback_walk (x s : R19) (at_ : Int) (cb : UInt8) (w : World)  : Calls Try.prog 16 #[x.val, s.val, .int .i64 at_, .int .u8 cb.toNat] w fun e w' => e = .returned (.bool true) ∧ Below w.heap.size w w' := by
  by_cases hx : MayR x
  · by_cases hs : MayR s
    · by_cases d : x = s
      · exact recback_yt x s at_ cb w hx hs (decide_eq_true d)
      · exact recback_yf x s at_ cb w hx hs (decide_eq_false d)
    · exact recback_n x s at_ cb w hx hs
  · exact recback_no x s at_ cb w hx
theorem recback_int (x s : R19) (at_ c : Int) (w : World) (h0 : 0 ≤ c) (h1 : c < 256) : Calls Try.prog 16 #[x.val, s.val, .int .i64 at_, .int .u8 c] w fun e w' => e = .returned (.bool true) ∧ Below w.heap.size w w' := by
  have h := recback_walk x s at_ (UInt8.ofNat c.toNat) w
  have e : (((UInt8.ofNat c.toNat).toNat : Nat) : Int) = c := by rw [UInt8.toNat_ofNat']; omega
  rw [e] at h
  exact h
end Go.Proofs.Ytplgodfhhlnojaa
