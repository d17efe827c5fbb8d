/- Which operations may be: the document's own answer, walked. -/
import Derived.Test.YtplgodfhhlnojaaWant
import Derived.Test.YtplgodfhhlnojaaOwnG
import Derived.Outline
set_option linter.unusedSimpArgs false
set_option linter.unusedVariables false
namespace Go.Proofs.Ytplgodfhhlnojaa
open Go.RowKit
structure O5 where
  (kind book units cust amount : Int)
def O5.val (o : O5) : Value := .agg #[.int .i64 o.kind, .int .i64 o.book, .int .i64 o.units, .int .i64 o.cust, .int .i64 o.amount]
def UnitsO (o : O5) : Prop := (o.kind = 1 ∧ 1 ≤ o.units ∧ o.units ≤ 1000) ∨ (o.kind ≠ 1 ∧ o.units = 0)
def MoneyO (o : O5) : Prop := (o.kind = 4 ∧ 0 ≤ o.cust ∧ o.cust ≤ 3 ∧ 0 ≤ o.amount ∧ o.amount ≤ 1099511627776) ∨ (o.kind ≠ 4 ∧ o.cust = 0 ∧ o.amount = 0)
def MayO (o : O5) : Prop := (1 ≤ o.kind ∧ o.kind ≤ 6) ∧ (1 ≤ o.book ∧ o.book ≤ 200) ∧ UnitsO o ∧ MoneyO o
instance (o : O5) : Decidable (UnitsO o) := by unfold UnitsO; infer_instance
instance (o : O5) : Decidable (MoneyO o) := by unfold MoneyO; infer_instance
instance (o : O5) : Decidable (MayO o) := by unfold MayO; infer_instance
set_option maxHeartbeats 8000000 in
theorem rmayop_c (o : O5) (w : World) : Calls Try.prog 89 #[o.val] w fun e w' => e = .returned (.bool (decide (MayO o))) ∧ Below w.heap.size w w' := by
  obtain ⟨k, b, u, c, a⟩ := o
  unfold O5.val
  obtain ⟨r, hr⟩ : ∃ r, decide (MayO ⟨k, b, u, c, a⟩) = r := ⟨_, rfl⟩
  rw [hr]
  have HR := Lib.hid hr
  clear hr
  by_cases h1 : k < 1 ∨ 6 < k ∨ b < 1 ∨ 200 < b
  · have hno := Lib.hid (show r = false from by rw [← HR.out]; exact decide_eq_false (by unfold MayO; simp only; omega))
    have h1' : k < 1 ∨ (¬ k < 1 ∧ 6 < k) ∨ (¬ k < 1 ∧ ¬ 6 < k ∧ b < 1) ∨ (¬ k < 1 ∧ ¬ 6 < k ∧ ¬ b < 1 ∧ 200 < b) := by omega
    clear h1
    rcases h1' with h1 | ⟨h1, h2⟩ | ⟨h1, h2, h3⟩ | ⟨h1, h2, h3, h4⟩
    all_goals
      go_enter Try.func89, Try.ntmps89
      go_wp2
      go_ret
      exact ⟨ret_bool hno.out.symm, int_abs _ _⟩
  · have k1 : 1 ≤ k := by omega
    have k6 : k ≤ 6 := by omega
    have b1 : 1 ≤ b := by omega
    have b2 : b ≤ 200 := by omega
    clear h1
    have HU := Lib.hid (rfl : u = u)
    have hk : k = 1 ∨ (k ≠ 1 ∧ k = 4) ∨ (k ≠ 1 ∧ k ≠ 4) := by omega
    rcases hk with rfl | ⟨_, rfl⟩ | ⟨e1, e4⟩
    all_goals
      by_cases hc : c = 0
      · subst hc
        by_cases hu : u = 0 <;> by_cases ha : a = 0
        all_goals
          first | have hub : (u == 0) = true := beq_iff_eq.2 hu | have hub : (u == 0) = false := beq_eq_false_iff_ne.2 hu
          first | have hab : (a == 0) = true := beq_iff_eq.2 ha | have hab : (a == 0) = false := beq_eq_false_iff_ne.2 ha
          try have hk1 : (k == 1) = false := beq_eq_false_iff_ne.2 e1
          try have hk4 : (k == 4) = false := beq_eq_false_iff_ne.2 e4
          have HUU := Lib.hid hu
          have HAA := Lib.hid ha
          clear hu ha
          go_enter Try.func89, Try.ntmps89
          go_wp2
          go_quiet (fail)
          clear hub hab
          go_wp2
          all_goals
            go_ret
            have hu := HUU.out
            have ha := HAA.out
            refine ⟨ret_bool ?_, below_drewN (int_abs _ _) _⟩
            rw [← HR.out]
            first
              | exact (decide_eq_false (by unfold MayO UnitsO MoneyO; simp only; omega)).symm
              | exact (decide_eq_true (by unfold MayO UnitsO MoneyO; simp only; omega)).symm
              | exact decide_eq_decide.2 (by unfold MayO UnitsO MoneyO; simp only; omega)
              | (rw [Bool.eq_iff_iff, decide_eq_true_eq]; unfold MayO UnitsO MoneyO; simp; omega)
              | trace_state
      · by_cases hu : u = 0
        all_goals
          first | have hub : (u == 0) = true := beq_iff_eq.2 hu | have hub : (u == 0) = false := beq_eq_false_iff_ne.2 hu
          have hcb : (c == 0) = false := beq_eq_false_iff_ne.2 hc
          try have hk1 : (k == 1) = false := beq_eq_false_iff_ne.2 e1
          try have hk4 : (k == 4) = false := beq_eq_false_iff_ne.2 e4
          have HUU := Lib.hid hu
          have HCC := Lib.hid hc
          clear hu hc
          go_enter Try.func89, Try.ntmps89
          go_wp2
          go_quiet (fail)
          clear hub hcb
          go_wp2
          all_goals
            go_ret
            have hu := HUU.out
            have hc := HCC.out
            refine ⟨ret_bool ?_, below_drewN (int_abs _ _) _⟩
            rw [← HR.out]
            first
              | exact (decide_eq_false (by unfold MayO UnitsO MoneyO; simp only; omega)).symm
              | exact (decide_eq_true (by unfold MayO UnitsO MoneyO; simp only; omega)).symm
              | exact decide_eq_decide.2 (by unfold MayO UnitsO MoneyO; simp only; omega)
              | (rw [Bool.eq_iff_iff, decide_eq_true_eq]; unfold MayO UnitsO MoneyO; simp; omega)
              | trace_state
theorem rmayop_is (o : O5) (v : Bool) (h : decide (MayO o) = v) (w : World) : Calls Try.prog 89 #[o.val] w fun e w' => e = .returned (.bool v) ∧ Below w.heap.size w w' := h ▸ rmayop_c o w
end Go.Proofs.Ytplgodfhhlnojaa
