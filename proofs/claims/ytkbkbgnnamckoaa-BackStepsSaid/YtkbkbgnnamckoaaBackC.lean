/- The law BackSteps, walked. -/
import Derived.Test.YtkbkbgnnamckoaaBackB
namespace Go.Proofs.Ytkbkbgnnamckoaa
open Go.RowKit
set_option maxHeartbeats 1000000 in
theorem steps_walk (a0 : Int) (w : World) : Calls Try.prog 4 #[.int .i64 a0] w fun e w' => e = .returned (.bool true) ∧ Below w.heap.size w w' := by
  obtain ⟨n, hn, n0, n1⟩ := u_rem a0 1000 (by omega)
  obtain ⟨m, hm⟩ : ∃ m, 1 + n = m := ⟨_, rfl⟩
  have m0 : 1 ≤ m := by omega
  have m1 : m ≤ 1000 := by omega
  clear n0 n1
  have : m = 1 ∨ m = 2 ∨ m = 3 ∨ m = 4 ∨ 4 < m := by omega
  rcases this with rfl | rfl | rfl | rfl | h4
  case inr.inr.inr.inr =>
    have c1 : M m = 60 + 32 * (m - 4) := by unfold M; rw [if_neg (by omega), if_neg (by omega), if_neg (by omega), if_neg (by omega)]
    have c2 : W m = 32 := by unfold W; rw [if_neg (by omega), if_neg (by omega), if_neg (by omega), if_neg (by omega)]
    go_enter Try.func4, Try.ntmps4
    go_wp2_with (first | (go_at_call 10; refine (wait_any _ _).mono ?_; rintro e w' ⟨rfl, rfl⟩) | (go_at_call 11; (first | refine (most_low _ _ (by omega)).mono ?_ | refine (most_high _ _ (by omega)).mono ?_); rintro e w' ⟨rfl, rfl⟩) | (go_at_call 12; refine (told_any _).mono ?_; rintro e w' ⟨rfl, rfl⟩))
    go_ret
    exact ⟨rfl, (Below.refl _ _).alloc (Nat.le_refl _) _⟩
  all_goals
    have c1 : M 1 = 4 := by decide
    have c2 : M 2 = 12 := by decide
    have c3 : M 3 = 28 := by decide
    have c4 : M 4 = 60 := by decide
    have d1 : W 1 = 4 := by decide
    have d2 : W 2 = 8 := by decide
    have d3 : W 3 = 16 := by decide
    have d4 : W 4 = 32 := by decide
    go_enter Try.func4, Try.ntmps4
    go_wp2_with (first | (go_at_call 10; refine (wait_any _ _).mono ?_; rintro e w' ⟨rfl, rfl⟩) | (go_at_call 11; (first | refine (most_low _ _ (by omega)).mono ?_ | refine (most_high _ _ (by omega)).mono ?_); rintro e w' ⟨rfl, rfl⟩) | (go_at_call 12; refine (told_any _).mono ?_; rintro e w' ⟨rfl, rfl⟩))
    go_ret
    exact ⟨rfl, (Below.refl _ _).alloc (Nat.le_refl _) _⟩
end Go.Proofs.Ytkbkbgnnamckoaa
