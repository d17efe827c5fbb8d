/- The law BackGrows, walked. -/
import Derived.Test.YtkbkbgnnamckoaaBackA
namespace Go.Proofs.Ytkbkbgnnamckoaa
open Go.RowKit
theorem u_rem (a m : Int) (h0 : 0 < m) : ∃ n : Int, (IntKind.u64.wrap a).tmod m = n ∧ 0 ≤ n ∧ n < m := by
  refine ⟨_, rfl, ?_, ?_⟩
  · rw [IntKind.wrap_u64]; exact Int.tmod_nonneg _ (Int.emod_nonneg _ (by omega))
  · rw [IntKind.wrap_u64, Int.tmod_eq_emod_of_nonneg (Int.emod_nonneg _ (by omega))]; exact Int.emod_lt_of_pos _ h0
set_option maxHeartbeats 1000000 in
theorem grows_walk (a0 a1 a2 : Int) (w : World) : Calls Try.prog 3 #[.int .i64 a0, .int .i64 a1, .int .i64 a2] w fun e w' => e = .returned (.bool true) ∧ w = w' := by
  obtain ⟨n, hn, n0, n1⟩ := u_rem a0 1000 (by omega)
  obtain ⟨s, hs, s0, s1⟩ := u_rem a1 100001 (by omega)
  obtain ⟨d, hd, d0, d1⟩ := u_rem a2 100 (by omega)
  obtain ⟨m, hm⟩ : ∃ m, 1 + n = m := ⟨_, rfl⟩
  have m0 : 1 ≤ m := by omega
  have m1 : m ≤ 1000 := by omega
  have c1 : 4 ≤ W m := by unfold W; repeat' split
                          all_goals omega
  have c2 : W m ≤ W (m + 1) := by unfold W; repeat' split
                                  all_goals omega
  have c3 : W (m + 1) ≤ 2 * W m := by unfold W; repeat' split
                                      all_goals omega
  have c4 : W (m + 1) ≤ 32 := by have := W_bd (m + 1); omega
  have c5 : M m ≤ m * 32 := by unfold M; repeat' split
                               all_goals omega
  have c6 : m * 4 ≤ M m := by unfold M; repeat' split
                              all_goals omega
  have c7 : (M (m + 1) != M m + W (m + 1)) = false := by rw [M_step _ (by omega)]; simp
  have e1 : s + d - s = d := by omega
  have e2 : s + d + 1 - s = d + 1 := by omega
  have b1 := M_bd m (by omega)
  clear n0 n1
  by_cases h8 : m < 1000
  all_goals
    by_cases h9 : W m ≤ d
    all_goals
      go_enter Try.func3, Try.ntmps3
      go_wp2_with (first | (go_at_call 10; refine (wait_any _ _).mono ?_; rintro e w' ⟨rfl, rfl⟩) | (go_at_call 13; refine (due_any _ _ _ _ (by omega) (by omega) (by omega)).mono ?_; rintro e w' ⟨rfl, rfl⟩) | (go_at_call 11; refine (most_low _ _ (by omega)).mono ?_; rintro e w' ⟨rfl, rfl⟩) | (go_at_call 12; refine (told_any _).mono ?_; rintro e w' ⟨rfl, rfl⟩))
      go_ret
      first | exact ⟨rfl, rfl⟩ | exact ⟨ret_bool (decide_eq_true (by omega)), rfl⟩
end Go.Proofs.Ytkbkbgnnamckoaa
namespace Go.Proofs.Ytkbkbgnnamckoaa
open Go.RowKit
theorem grows_below (a0 a1 a2 : Int) (w : World) : Calls Try.prog 3 #[.int .i64 a0, .int .i64 a1, .int .i64 a2] w fun e w' => e = .returned (.bool true) ∧ Below w.heap.size w w' :=
  (grows_walk a0 a1 a2 w).mono fun _ _ ⟨he, hw⟩ => ⟨he, hw ▸ Below.refl _ _⟩
end Go.Proofs.Ytkbkbgnnamckoaa
