/- want.MayOp, walked. -/
import Derived.Test.YtebinhelnhnbeaaWPut
set_option linter.unusedSimpArgs false
set_option linter.unusedVariables false
namespace Go.Proofs.Ytebinhelnhnbeaa
open Go.RowKit
theorem quiet_add_left {P : Program} {f : FuncId} {args : Array Value} {w : World} {a n : Nat} {v : Value}
    (h : Calls P f args (w.drewN (a + n)) fun e w' => e = .returned v ∧ w.drewN (a + n) = w') :
    Calls P f args (w.drewN (a + n)) fun e w'' => e = .returned v ∧ ∃ m, w'' = w.drewN (a + m) :=
  h.mono fun _ _ ⟨he, hm⟩ => ⟨he, n, hm.symm⟩
set_option maxRecDepth 100000 in
set_option maxHeartbeats 8000000 in
theorem mayop_c (o : O5) (w : World) : Calls Try.prog 42 #[o.val] w fun e w' => e = .returned (.bool (decide (MayO o))) ∧ Below w.heap.size w w' := by
  rw [← mayOT_is]
  obtain ⟨k, b, u, c, a⟩ := o
  unfold O5.val
  obtain ⟨r, hr⟩ : ∃ r, mayOT ⟨k, b, u, c, a⟩ = r := ⟨_, rfl⟩
  rw [hr]
  unfold mayOT at hr
  simp only at hr
  obtain ⟨qk, hqk⟩ : ∃ q, inB k 1 6 = q := ⟨_, rfl⟩
  obtain ⟨qb, hqb⟩ : ∃ q, inB b 1 200 = q := ⟨_, rfl⟩
  obtain ⟨eu, heu⟩ : ∃ q, (u == 0) = q := ⟨_, rfl⟩
  obtain ⟨ec, hec⟩ : ∃ q, (c == 0) = q := ⟨_, rfl⟩
  obtain ⟨ea, hea⟩ : ∃ q, (a == 0) = q := ⟨_, rfl⟩
  obtain ⟨qu, hqu⟩ : ∃ q, inB u 1 1000 = q := ⟨_, rfl⟩
  obtain ⟨qc, hqc⟩ : ∃ q, inB c 0 3 = q := ⟨_, rfl⟩
  obtain ⟨qa, hqa⟩ : ∃ q, inB a 0 1099511627776 = q := ⟨_, rfl⟩
  rw [hqk, hqb, heu, hec, hea, hqu, hqc, hqa] at hr
  have CK := fun w => Lib.hid (hqk ▸ within_c k 1 6 w)
  have CB := fun w => Lib.hid (hqb ▸ within_c b 1 200 w)
  have CU := fun w => Lib.hid (hqu ▸ within_c u 1 1000 w)
  have CC := fun w => Lib.hid (hqc ▸ within_c c 0 3 w)
  have CA := fun w => Lib.hid (hqa ▸ within64_c a 0 1099511627776 w)
  have HR := Lib.hid hr
  clear hr hqk hqb hqu hqc hqa
  have hk : k = 1 ∨ (k ≠ 1 ∧ k = 4) ∨ (k ≠ 1 ∧ k ≠ 4) := by omega
  rcases hk with rfl | ⟨hk1, rfl⟩ | ⟨hk1, hk4⟩
  · go_enter Try.func42, Try.ntmps42
    go_wp2
    go_quiet (fail)
    clear heu hec hea
    go_wp2_with (first | (go_at_call 56; first | ((with_reducible refine ((CU _).out).mono ?_); rintro e w' ⟨rfl, rfl⟩) | ((with_reducible refine ((CK _).out).mono ?_); rintro e w' ⟨rfl, rfl⟩) | ((with_reducible refine ((CB _).out).mono ?_); rintro e w' ⟨rfl, rfl⟩)))
    all_goals
      go_ret
      refine ⟨ret_bool ?_, below_drewN (int_abs _ _) _⟩
      rw [← HR.out]
      first | rfl | (simp_all; done)
  · have hk1b : ((4 : Int) == 1) = false := rfl
    go_enter Try.func42, Try.ntmps42
    go_wp2
    go_quiet (fail)
    clear heu hec hea
    go_wp2_with fail
    go_quiet (first | (go_at_call 56; exact quiet_add_left (CC _).out) | (go_at_call 57; exact quiet_add_left (CA _).out) | (go_at_call 56; exact quiet_left (CC _).out) | (go_at_call 57; exact quiet_left (CA _).out))
    go_wp2_with (first | (go_at_call 56; first | ((with_reducible refine ((CU _).out).mono ?_); rintro e w' ⟨rfl, rfl⟩) | ((with_reducible refine ((CK _).out).mono ?_); rintro e w' ⟨rfl, rfl⟩) | ((with_reducible refine ((CB _).out).mono ?_); rintro e w' ⟨rfl, rfl⟩)))
    all_goals
      go_ret
      refine ⟨ret_bool ?_, below_drewN (int_abs _ _) _⟩
      rw [← HR.out]
      first | rfl | (simp_all; done)
  · have hk1b : (k == 1) = false := beq_eq_false_iff_ne.2 hk1
    have hk4b : (k == 4) = false := beq_eq_false_iff_ne.2 hk4
    have HK1 := Lib.hid hk1
    have HK4 := Lib.hid hk4
    rw [if_neg hk1, if_neg hk4, if_neg hk4] at HR
    clear hk1 hk4
    go_enter Try.func42, Try.ntmps42
    go_wp2
    go_quiet (fail)
    clear heu hec hea
    go_wp2_with (first | (go_at_call 56; first | ((with_reducible refine ((CU _).out).mono ?_); rintro e w' ⟨rfl, rfl⟩) | ((with_reducible refine ((CK _).out).mono ?_); rintro e w' ⟨rfl, rfl⟩) | ((with_reducible refine ((CB _).out).mono ?_); rintro e w' ⟨rfl, rfl⟩)))
    all_goals
      go_ret
      refine ⟨ret_bool ?_, below_drewN (int_abs _ _) _⟩
      rw [← HR.out]
      first | rfl | (simp_all; done)
end Go.Proofs.Ytebinhelnhnbeaa
