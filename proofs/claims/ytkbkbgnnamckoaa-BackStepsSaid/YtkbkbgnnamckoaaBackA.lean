/- Waits and tries of package back: what its three functions answer. -/
import Derived.Test.YtkbkbgnnamckoaaProg
import Derived.WalkKit
import Derived.WalkLawsBesides
import Derived.WalkSpells
import Derived.KernelRfl
import Derived.Lib.Hide
import Derived.Deep.QuietTactic
import Derived.BigQuiet
namespace Go.Proofs.Ytkbkbgnnamckoaa
open Go.RowKit

def W (n : Int) : Int := if n < 1 then 0 else if n = 1 then 4 else if n = 2 then 8 else if n = 3 then 16 else 32
theorem ret_int {k : IntKind} {a b : Int} (h : a = b) : Ending.returned (.int k a) = .returned (.int k b) := by rw [h]
theorem ret_bool {a b : Bool} (h : a = b) : Ending.returned (.bool a) = .returned (.bool b) := by rw [h]
def M (n : Int) : Int := if n < 1 then 0 else if n = 1 then 4 else if n = 2 then 12 else if n = 3 then 28 else 60 + 32 * (n - 4)
theorem M_step (i : Int) (h : 0 ≤ i) : M i + W (i + 1) = M (i + 1) := by
  unfold M W
  by_cases h0 : i = 0
  · subst h0; decide
  by_cases h1 : i = 1
  · subst h1; decide
  by_cases h2 : i = 2
  · subst h2; decide
  by_cases h3 : i = 3
  · subst h3; decide
  rw [if_neg (by omega), if_neg (by omega), if_neg (by omega), if_neg (by omega), if_neg (by omega), if_neg (by omega), if_neg (by omega), if_neg (by omega), if_neg (by omega), if_neg (by omega), if_neg (by omega), if_neg (by omega)]
  omega
theorem M_bd (i : Int) (h : i ≤ 1000) : 0 ≤ M i ∧ M i ≤ 32000 := by
  unfold M; repeat' split
  all_goals omega
theorem W_bd (i : Int) : 0 ≤ W i ∧ W i ≤ 32 := by
  unfold W; repeat' split
  all_goals omega

theorem wait_any (n : Int) (w : World) : Calls Try.prog 10 #[.int .i64 n] w fun e w' => e = .returned (.int .i64 (W n)) ∧ w = w' := by
  by_cases h : n < 1
  · have hw : W n = 0 := by unfold W; rw [if_pos h]
    go_enter Try.func10, Try.ntmps10
    go_wp2
    go_ret
    exact ⟨ret_int hw.symm, rfl⟩
  by_cases h10 : 10 < n
  · have hw : W n = 32 := by unfold W; rw [if_neg (by omega), if_neg (by omega), if_neg (by omega), if_neg (by omega)]
    go_enter Try.func10, Try.ntmps10
    go_wp2
    go_ret
    exact ⟨rfl, rfl⟩
  · have : n = 1 ∨ n = 2 ∨ n = 3 ∨ n = 4 ∨ n = 5 ∨ n = 6 ∨ n = 7 ∨ n = 8 ∨ n = 9 ∨ n = 10 := by omega
    rcases this with rfl | rfl | rfl | rfl | rfl | rfl | rfl | rfl | rfl | rfl
    all_goals
      go_enter Try.func10, Try.ntmps10
      go_wp2
      go_ret
      exact ⟨ret_int (by decide +kernel), rfl⟩

theorem due_any (now sent tries : Int) (w : World) (h0 : 0 ≤ sent) (h1 : sent ≤ now) (h2 : now ≤ 1000000) :
    Calls Try.prog 13 #[.int .i64 now, .int .i64 sent, .int .i64 tries] w fun e w' => e = .returned (.bool (decide (W tries ≤ now - sent))) ∧ w = w' := by
  go_enter Try.func13, Try.ntmps13
  go_wp2_with (go_at_call 10; refine (wait_any _ _).mono ?_; rintro e w' ⟨rfl, rfl⟩)
  all_goals
    go_ret
    exact ⟨rfl, rfl⟩

theorem most_low (m : Int) (w : World) (hm : m ≤ 1000) : Calls Try.prog 11 #[.int .i64 m] w fun e w' => e = .returned (.int .i64 (M m)) ∧ w = w' := by
  by_cases h1 : 0 ≤ m
  · go_enter Try.func11, Try.ntmps11
    go_wp2
    go_loop [3, 8] (fun s i => ∃ k : Int, 0 ≤ k ∧ k ≤ m ∧ s = .int .i64 (M k) ∧ i = .int .i64 k) (fun _ i => (m - intOf i).toNat)
    case atStart => exact ⟨0, by omega, by omega, by rfl, rfl⟩
    case round =>
      obtain ⟨k, hk0, hk, rfl, rfl⟩ := hrel
      have b1 := M_bd k (by omega)
      have b2 := W_bd (k + 1)
      have hs := Lib.hid (M_step k hk0)
      by_cases hlt : k < m
      · go_wp2_with (go_at_call 10; refine (wait_any _ _).mono ?_; rintro e w' ⟨rfl, rfl⟩)
        go_round
        case rel => exact ⟨k + 1, by omega, by omega, by rw [hs.out], rfl⟩
        case measure => simp [intOf]; omega
      · obtain rfl : m = k := by omega
        go_wp2
        go_ret
        exact ⟨rfl, rfl⟩
  · have hz : M m = 0 := by unfold M; rw [if_pos (by omega)]
    go_enter Try.func11, Try.ntmps11
    go_wp2
    go_loop [3, 8] (fun s i => s = .int .i64 0 ∧ i = .int .i64 0) (fun _ i => (0 : Nat))
    case atStart => exact ⟨rfl, rfl⟩
    case round =>
      obtain ⟨rfl, rfl⟩ := hrel
      go_wp2
      go_ret
      exact ⟨rfl, rfl⟩

theorem most_high (n : Int) (w : World) (hn : 1000 < n) : Calls Try.prog 11 #[.int .i64 n] w fun e w' => e = .returned (.int .i64 (M 1000)) ∧ w = w' := by
  go_enter Try.func11, Try.ntmps11
  go_wp2
  go_loop [3, 8] (fun s i => ∃ k : Int, 0 ≤ k ∧ k ≤ 1000 ∧ s = .int .i64 (M k) ∧ i = .int .i64 k) (fun _ i => (1000 - intOf i).toNat)
  case atStart => exact ⟨0, by omega, by omega, by rfl, rfl⟩
  case round =>
    obtain ⟨k, hk0, hk, rfl, rfl⟩ := hrel
    have b1 := M_bd k (by omega)
    have b2 := W_bd (k + 1)
    have hs := Lib.hid (M_step k hk0)
    by_cases hlt : k < 1000
    · go_wp2_with (go_at_call 10; refine (wait_any _ _).mono ?_; rintro e w' ⟨rfl, rfl⟩)
      go_round
      case rel => exact ⟨k + 1, by omega, by omega, by rw [hs.out], rfl⟩
      case measure => simp [intOf]; omega
    · obtain rfl : k = 1000 := by omega
      go_wp2
      go_ret
      exact ⟨rfl, rfl⟩

theorem told_any (w : World) : Calls Try.prog 12 #[] w fun e w' => e = .returned (.bool true) ∧ w = w' := by
  have a1 : W 1 = 4 := by decide
  have a2 : W 2 = 8 := by decide
  have a3 : W 9 = 32 := by decide
  have a4 : W 0 = 0 := by decide
  have a5 : M 3 = 28 := by decide
  have a6 : M (-1) = 0 := by decide
  go_enter Try.func12, Try.ntmps12
  go_wp2_with (first | (go_at_call 10; refine (wait_any _ _).mono ?_; rintro e w' ⟨rfl, rfl⟩) | (go_at_call 13; refine (due_any _ _ _ _ (by omega) (by omega) (by omega)).mono ?_; rintro e w' ⟨rfl, rfl⟩) | (go_at_call 11; refine (most_low _ _ (by omega)).mono ?_; rintro e w' ⟨rfl, rfl⟩))
  go_ret
  exact ⟨rfl, rfl⟩
end Go.Proofs.Ytkbkbgnnamckoaa
