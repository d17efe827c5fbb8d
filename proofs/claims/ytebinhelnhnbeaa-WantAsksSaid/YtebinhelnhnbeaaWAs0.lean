/- The law WantAsks, walked in a case (printed by genwasks.py). -/
import Derived.Test.YtebinhelnhnbeaaWLem
import Derived.Test.YtebinhelnhnbeaaWRefGO
import Derived.Test.YtebinhelnhnbeaaWRefP
import Derived.Test.YtebinhelnhnbeaaWTurn
import Derived.Test.YtebinhelnhnbeaaBelowR
set_option linter.unusedSimpArgs false
set_option linter.unusedVariables false
namespace Go.Proofs.Ytebinhelnhnbeaa
open Go.RowKit
theorem rmay_is2 (x : W7) (b : Bool) (h : decide (MayW x) = b) (w : World) : Calls Try.prog 37 #[x.val] w fun e w' => e = .returned (.bool b) ∧ Below w.heap.size w w' := h ▸ rmay_c x w
set_option maxRecDepth 100000 in
set_option maxHeartbeats 4000000 in
theorem wasks_long (x : W7) (o : O5) (A : Option Addr) (n c : Nat) (l : List UInt8) (w : World) (hr : Rd w w.heap.size 1 A n (B8 l)) (hn : 100 < n) : Calls Try.prog 12 #[x.val, o.val, .slice A n c] w fun e w' => e = .returned (.bool true) ∧ Below w.heap.size w w' := by
  have T := Lib.hid told3
  unfold W7.val O5.val
  go_enter Try.func12, Try.ntmps12
  go_wp2_with fail
  refine (T.out _).mono ?_
  rintro e w2 ⟨rfl, q⟩
  have B := Lib.hid ((two_boxes w (.cells #[.int .i64 x.b, .int .i64 x.c, .int .i64 x.d, .int .i64 x.m0, .int .i64 x.m1, .int .i64 x.m2, .int .i64 x.p] 57) (.cells #[.int .i64 o.kind, .int .i64 o.book, .int .i64 o.units, .int .i64 o.cust, .int .i64 o.amount] 65)).2.2.trans (q.mono (by simp; omega)))
  clear q
  go_wp2
  go_ret
  exact ⟨rfl, B.out⟩
end Go.Proofs.Ytebinhelnhnbeaa
