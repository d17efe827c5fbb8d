/- Audits: confirmed, paid, all, Booked, walked (printed by gen20a.py). -/
import Derived.Test.YtplgodfhhlnojaaAudit0
import Derived.Test.YtplgodfhhlnojaaSagaM
import Derived.Test.YtplgodfhhlnojaaRowL
import Derived.Outline
set_option linter.unusedSimpArgs false
set_option linter.unusedVariables false
namespace Go.Proofs.Ytplgodfhhlnojaa
open Go.RowKit
set_option maxRecDepth 100000 in
set_option maxHeartbeats 2000000 in
theorem conf_c (n : Int) (e : En) (w : World) : Calls Try.prog 114 #[.int .i64 n, e.val] w fun e' w' => e' = .returned (.bool (decide (ConfP n e))) ∧ Below w.heap.size w w' := by
  obtain ⟨es, eu, et, ec, ea⟩ := e
  unfold En.val
  simp only
  by_cases hn : n = 0
  · skip
    subst hn
    by_cases hs : es = 0
    · skip
      subst hs
      go_enter Try.func114, Try.ntmps114
      go_wp2
      go_ret
      refine ⟨ret_bool (decide_eq_true (show ConfP _ _ from by unfold ConfP; simp [*])).symm, ?_⟩
      exact (Below.refl _ _).alloc (Nat.le_refl _) _
    have b1 : (es == 0) = false := beq_eq_false_iff_ne.2 hs
    go_enter Try.func114, Try.ntmps114
    go_wp2
    go_ret
    refine ⟨ret_bool (decide_eq_false (show ¬ ConfP _ _ from by unfold ConfP; simp [*])).symm, ?_⟩
    exact (Below.refl _ _).alloc (Nat.le_refl _) _
  have b0 : (n == 0) = false := beq_eq_false_iff_ne.2 hn
  by_cases hs : es = 2
  · skip
    subst hs
    by_cases hu : eu = n
    · skip
      subst hu
      go_enter Try.func114, Try.ntmps114
      go_wp2
      go_ret
      refine ⟨ret_bool (decide_eq_true (show ConfP _ _ from by unfold ConfP; simp [*])).symm, ?_⟩
      exact (Below.refl _ _).alloc (Nat.le_refl _) _
    have b1 : (eu == n) = false := beq_eq_false_iff_ne.2 hu
    go_enter Try.func114, Try.ntmps114
    go_wp2
    go_ret
    refine ⟨ret_bool (decide_eq_false (show ¬ ConfP _ _ from by unfold ConfP; simp [*])).symm, ?_⟩
    exact (Below.refl _ _).alloc (Nat.le_refl _) _
  have b1 : (es == 2) = false := beq_eq_false_iff_ne.2 hs
  go_enter Try.func114, Try.ntmps114
  go_wp2
  go_ret
  refine ⟨ret_bool (decide_eq_false (show ¬ ConfP _ _ from by unfold ConfP; simp [*])).symm, ?_⟩
  exact (Below.refl _ _).alloc (Nat.le_refl _) _
theorem conf_is {n : Int} {e : En} {b : Bool} (h : decide (ConfP n e) = b) (w : World) : Calls Try.prog 114 #[.int .i64 n, e.val] w fun e' w' => e' = .returned (.bool b) ∧ Below w.heap.size w w' := h ▸ conf_c n e w
set_option maxRecDepth 100000 in
set_option maxHeartbeats 2000000 in
theorem paid_c (x : W7) (e : En) (k : Int) (w : World) : Calls Try.prog 86 #[x.val, e.val, .int .i64 k] w fun e' w' => e' = .returned (.bool (decide (PaidP x e k))) ∧ Below w.heap.size w w' := by
  obtain ⟨b, c, d, m0, m1, m2, p⟩ := x
  obtain ⟨es, eu, et, ec, ea⟩ := e
  unfold W7.val En.val
  simp only
  by_cases hs : es = k
  · skip
    have b1 : (es == k) = true := by simp [hs]
    by_cases ha : ea = p
    · skip
      have b2 : (ea == p) = true := by simp [ha]
      by_cases hc : ec = c
      · skip
        have b3 : (ec == c) = true := by simp [hc]
        go_enter Try.func86, Try.ntmps86
        go_wp2
        go_ret
        refine ⟨ret_bool (decide_eq_true (show PaidP _ _ _ from by unfold PaidP; simp [*])).symm, ?_⟩
        exact ((Below.refl _ _).alloc (Nat.le_refl _) _).alloc (by simp) _
      have b3 : (ec == c) = false := beq_eq_false_iff_ne.2 hc
      go_enter Try.func86, Try.ntmps86
      go_wp2
      go_ret
      refine ⟨ret_bool (decide_eq_false (show ¬ PaidP _ _ _ from by unfold PaidP; simp [*])).symm, ?_⟩
      exact ((Below.refl _ _).alloc (Nat.le_refl _) _).alloc (by simp) _
    have b2 : (ea == p) = false := beq_eq_false_iff_ne.2 ha
    go_enter Try.func86, Try.ntmps86
    go_wp2
    go_ret
    refine ⟨ret_bool (decide_eq_false (show ¬ PaidP _ _ _ from by unfold PaidP; simp [*])).symm, ?_⟩
    exact ((Below.refl _ _).alloc (Nat.le_refl _) _).alloc (by simp) _
  have b1 : (es == k) = false := beq_eq_false_iff_ne.2 hs
  go_enter Try.func86, Try.ntmps86
  go_wp2
  go_ret
  refine ⟨ret_bool (decide_eq_false (show ¬ PaidP _ _ _ from by unfold PaidP; simp [*])).symm, ?_⟩
  exact ((Below.refl _ _).alloc (Nat.le_refl _) _).alloc (by simp) _
theorem paid_is {x : W7} {e : En} {k : Int} {b : Bool} (h : decide (PaidP x e k) = b) (w : World) : Calls Try.prog 86 #[x.val, e.val, .int .i64 k] w fun e' w' => e' = .returned (.bool b) ∧ Below w.heap.size w w' := h ▸ paid_c x e k w
set_option maxRecDepth 100000 in
set_option maxHeartbeats 2000000 in
theorem all_0 (b c d m0 m1 m2 p : Int) (es0 eu0 et0 ec0 ea0 es1 eu1 et1 ec1 ea1 es2 eu2 et2 ec2 ea2 es3 eu3 et3 ec3 ea3 : Int) (w : World) (h0 : decide (ConfP m0 ⟨es0, eu0, et0, ec0, ea0⟩) = false) : Calls Try.prog 85 #[.agg #[.int .i64 b, .int .i64 c, .int .i64 d, .int .i64 m0, .int .i64 m1, .int .i64 m2, .int .i64 p], .agg #[.int .i64 es0, .int .i64 eu0, .int .i64 et0, .int .i64 ec0, .int .i64 ea0, .int .i64 es1, .int .i64 eu1, .int .i64 et1, .int .i64 ec1, .int .i64 ea1, .int .i64 es2, .int .i64 eu2, .int .i64 et2, .int .i64 ec2, .int .i64 ea2, .int .i64 es3, .int .i64 eu3, .int .i64 et3, .int .i64 ec3, .int .i64 ea3]] w fun e' w' => e' = .returned (.bool (decide (AllP ⟨b, c, d, m0, m1, m2, p⟩ ⟨⟨es0, eu0, et0, ec0, ea0⟩, ⟨es1, eu1, et1, ec1, ea1⟩, ⟨es2, eu2, et2, ec2, ea2⟩, ⟨es3, eu3, et3, ec3, ea3⟩⟩))) ∧ Below w.heap.size w w' := by
  have i0 : ∀ w, (Instr.index 22 (.agg #[.int .i64 m0, .int .i64 m1, .int .i64 m2]) (.int .i64 0)).run Try.prog w = .ok (.int .i64 m0) w := fun _ => by kernel_rfl
  have i1 : ∀ w, (Instr.index 22 (.agg #[.int .i64 m0, .int .i64 m1, .int .i64 m2]) (.int .i64 1)).run Try.prog w = .ok (.int .i64 m1) w := fun _ => by kernel_rfl
  have i2 : ∀ w, (Instr.index 22 (.agg #[.int .i64 m0, .int .i64 m1, .int .i64 m2]) (.int .i64 2)).run Try.prog w = .ok (.int .i64 m2) w := fun _ => by kernel_rfl
  have HC0 := Lib.hid (fun W => conf_is (n := m0) (e := ⟨es0, eu0, et0, ec0, ea0⟩) h0 W)
  skip
  simp only [En.val] at HC0
  obtain ⟨f1, f2, f3⟩ := two_boxes w (.cells #[.int .i64 b, .int .i64 c, .int .i64 d, .int .i64 m0, .int .i64 m1, .int .i64 m2, .int .i64 p] 24) (.cells #[.int .i64 es0, .int .i64 eu0, .int .i64 et0, .int .i64 ec0, .int .i64 ea0, .int .i64 es1, .int .i64 eu1, .int .i64 et1, .int .i64 ec1, .int .i64 ea1, .int .i64 es2, .int .i64 eu2, .int .i64 et2, .int .i64 ec2, .int .i64 ea2, .int .i64 es3, .int .i64 eu3, .int .i64 et3, .int .i64 ec3, .int .i64 ea3] 68)
  have x_0 := Lib.hid f1
  have q_0 := Lib.hid f2
  have B0 := Lib.hid f3
  clear f1 f2 f3
  go_enter Try.func85, Try.ntmps85
  have L1_3 : ((w.alloc (.cells #[.int .i64 b, .int .i64 c, .int .i64 d, .int .i64 m0, .int .i64 m1, .int .i64 m2, .int .i64 p] 24)).alloc (.cells #[.int .i64 es0, .int .i64 eu0, .int .i64 et0, .int .i64 ec0, .int .i64 ea0, .int .i64 es1, .int .i64 eu1, .int .i64 et1, .int .i64 ec1, .int .i64 ea1, .int .i64 es2, .int .i64 eu2, .int .i64 et2, .int .i64 ec2, .int .i64 ea2, .int .i64 es3, .int .i64 eu3, .int .i64 et3, .int .i64 ec3, .int .i64 ea3] 68)).cell? ⟨w.heap.size, 3, none⟩ = some (.int .i64 m0) := (cellsB (i := 3) x_0.out).trans rfl
  have L1_4 : ((w.alloc (.cells #[.int .i64 b, .int .i64 c, .int .i64 d, .int .i64 m0, .int .i64 m1, .int .i64 m2, .int .i64 p] 24)).alloc (.cells #[.int .i64 es0, .int .i64 eu0, .int .i64 et0, .int .i64 ec0, .int .i64 ea0, .int .i64 es1, .int .i64 eu1, .int .i64 et1, .int .i64 ec1, .int .i64 ea1, .int .i64 es2, .int .i64 eu2, .int .i64 et2, .int .i64 ec2, .int .i64 ea2, .int .i64 es3, .int .i64 eu3, .int .i64 et3, .int .i64 ec3, .int .i64 ea3] 68)).cell? ⟨w.heap.size, 4, none⟩ = some (.int .i64 m1) := (cellsB (i := 4) x_0.out).trans rfl
  have L1_5 : ((w.alloc (.cells #[.int .i64 b, .int .i64 c, .int .i64 d, .int .i64 m0, .int .i64 m1, .int .i64 m2, .int .i64 p] 24)).alloc (.cells #[.int .i64 es0, .int .i64 eu0, .int .i64 et0, .int .i64 ec0, .int .i64 ea0, .int .i64 es1, .int .i64 eu1, .int .i64 et1, .int .i64 ec1, .int .i64 ea1, .int .i64 es2, .int .i64 eu2, .int .i64 et2, .int .i64 ec2, .int .i64 ea2, .int .i64 es3, .int .i64 eu3, .int .i64 et3, .int .i64 ec3, .int .i64 ea3] 68)).cell? ⟨w.heap.size, 5, none⟩ = some (.int .i64 m2) := (cellsB (i := 5) x_0.out).trans rfl
  go_wp2_with fail
  refine wp_loop_rounds 4 ?_
  rw [rounds_succ]
  clear L1_3 L1_4 L1_5
  have L2_0 : ((w.alloc (.cells #[.int .i64 b, .int .i64 c, .int .i64 d, .int .i64 m0, .int .i64 m1, .int .i64 m2, .int .i64 p] 24)).alloc (.cells #[.int .i64 es0, .int .i64 eu0, .int .i64 et0, .int .i64 ec0, .int .i64 ea0, .int .i64 es1, .int .i64 eu1, .int .i64 et1, .int .i64 ec1, .int .i64 ea1, .int .i64 es2, .int .i64 eu2, .int .i64 et2, .int .i64 ec2, .int .i64 ea2, .int .i64 es3, .int .i64 eu3, .int .i64 et3, .int .i64 ec3, .int .i64 ea3] 68)).cell? ⟨(w.heap.size + 1), 0, none⟩ = some (.int .i64 es0) := (cellsB (i := 0) q_0.out).trans rfl
  have L2_1 : ((w.alloc (.cells #[.int .i64 b, .int .i64 c, .int .i64 d, .int .i64 m0, .int .i64 m1, .int .i64 m2, .int .i64 p] 24)).alloc (.cells #[.int .i64 es0, .int .i64 eu0, .int .i64 et0, .int .i64 ec0, .int .i64 ea0, .int .i64 es1, .int .i64 eu1, .int .i64 et1, .int .i64 ec1, .int .i64 ea1, .int .i64 es2, .int .i64 eu2, .int .i64 et2, .int .i64 ec2, .int .i64 ea2, .int .i64 es3, .int .i64 eu3, .int .i64 et3, .int .i64 ec3, .int .i64 ea3] 68)).cell? ⟨(w.heap.size + 1), 1, none⟩ = some (.int .i64 eu0) := (cellsB (i := 1) q_0.out).trans rfl
  have L2_2 : ((w.alloc (.cells #[.int .i64 b, .int .i64 c, .int .i64 d, .int .i64 m0, .int .i64 m1, .int .i64 m2, .int .i64 p] 24)).alloc (.cells #[.int .i64 es0, .int .i64 eu0, .int .i64 et0, .int .i64 ec0, .int .i64 ea0, .int .i64 es1, .int .i64 eu1, .int .i64 et1, .int .i64 ec1, .int .i64 ea1, .int .i64 es2, .int .i64 eu2, .int .i64 et2, .int .i64 ec2, .int .i64 ea2, .int .i64 es3, .int .i64 eu3, .int .i64 et3, .int .i64 ec3, .int .i64 ea3] 68)).cell? ⟨(w.heap.size + 1), 2, none⟩ = some (.int .i64 et0) := (cellsB (i := 2) q_0.out).trans rfl
  have L2_3 : ((w.alloc (.cells #[.int .i64 b, .int .i64 c, .int .i64 d, .int .i64 m0, .int .i64 m1, .int .i64 m2, .int .i64 p] 24)).alloc (.cells #[.int .i64 es0, .int .i64 eu0, .int .i64 et0, .int .i64 ec0, .int .i64 ea0, .int .i64 es1, .int .i64 eu1, .int .i64 et1, .int .i64 ec1, .int .i64 ea1, .int .i64 es2, .int .i64 eu2, .int .i64 et2, .int .i64 ec2, .int .i64 ea2, .int .i64 es3, .int .i64 eu3, .int .i64 et3, .int .i64 ec3, .int .i64 ea3] 68)).cell? ⟨(w.heap.size + 1), 3, none⟩ = some (.int .i64 ec0) := (cellsB (i := 3) q_0.out).trans rfl
  have L2_4 : ((w.alloc (.cells #[.int .i64 b, .int .i64 c, .int .i64 d, .int .i64 m0, .int .i64 m1, .int .i64 m2, .int .i64 p] 24)).alloc (.cells #[.int .i64 es0, .int .i64 eu0, .int .i64 et0, .int .i64 ec0, .int .i64 ea0, .int .i64 es1, .int .i64 eu1, .int .i64 et1, .int .i64 ec1, .int .i64 ea1, .int .i64 es2, .int .i64 eu2, .int .i64 et2, .int .i64 ec2, .int .i64 ea2, .int .i64 es3, .int .i64 eu3, .int .i64 et3, .int .i64 ec3, .int .i64 ea3] 68)).cell? ⟨(w.heap.size + 1), 4, none⟩ = some (.int .i64 ea0) := (cellsB (i := 4) q_0.out).trans rfl
  go_wp2_with fail
  refine (HC0.out _).mono ?_
  rintro e w1 ⟨rfl, q⟩
  have x_1 := Lib.hid (blk0 x_0.out q)
  have q_1 := Lib.hid (blk0 q_0.out q)
  have B1 := Lib.hid (bel0 B0.out B0.out.size q)
  clear q x_0 q_0 B0
  clear L2_0 L2_1 L2_2 L2_3 L2_4
  go_wp2
  go_ret
  exact ⟨ret_bool (decide_eq_false (show ¬ AllP _ _ from fun h => of_decide_eq_false h0 h.1)).symm, B1.out⟩
set_option maxRecDepth 100000 in
set_option maxHeartbeats 2000000 in
theorem all_1 (b c d m0 m1 m2 p : Int) (es0 eu0 et0 ec0 ea0 es1 eu1 et1 ec1 ea1 es2 eu2 et2 ec2 ea2 es3 eu3 et3 ec3 ea3 : Int) (w : World) (h0 : decide (ConfP m0 ⟨es0, eu0, et0, ec0, ea0⟩) = true) (h1 : decide (ConfP m1 ⟨es1, eu1, et1, ec1, ea1⟩) = false) : Calls Try.prog 85 #[.agg #[.int .i64 b, .int .i64 c, .int .i64 d, .int .i64 m0, .int .i64 m1, .int .i64 m2, .int .i64 p], .agg #[.int .i64 es0, .int .i64 eu0, .int .i64 et0, .int .i64 ec0, .int .i64 ea0, .int .i64 es1, .int .i64 eu1, .int .i64 et1, .int .i64 ec1, .int .i64 ea1, .int .i64 es2, .int .i64 eu2, .int .i64 et2, .int .i64 ec2, .int .i64 ea2, .int .i64 es3, .int .i64 eu3, .int .i64 et3, .int .i64 ec3, .int .i64 ea3]] w fun e' w' => e' = .returned (.bool (decide (AllP ⟨b, c, d, m0, m1, m2, p⟩ ⟨⟨es0, eu0, et0, ec0, ea0⟩, ⟨es1, eu1, et1, ec1, ea1⟩, ⟨es2, eu2, et2, ec2, ea2⟩, ⟨es3, eu3, et3, ec3, ea3⟩⟩))) ∧ Below w.heap.size w w' := by
  have i0 : ∀ w, (Instr.index 22 (.agg #[.int .i64 m0, .int .i64 m1, .int .i64 m2]) (.int .i64 0)).run Try.prog w = .ok (.int .i64 m0) w := fun _ => by kernel_rfl
  have i1 : ∀ w, (Instr.index 22 (.agg #[.int .i64 m0, .int .i64 m1, .int .i64 m2]) (.int .i64 1)).run Try.prog w = .ok (.int .i64 m1) w := fun _ => by kernel_rfl
  have i2 : ∀ w, (Instr.index 22 (.agg #[.int .i64 m0, .int .i64 m1, .int .i64 m2]) (.int .i64 2)).run Try.prog w = .ok (.int .i64 m2) w := fun _ => by kernel_rfl
  have HC0 := Lib.hid (fun W => conf_is (n := m0) (e := ⟨es0, eu0, et0, ec0, ea0⟩) h0 W)
  have HC1 := Lib.hid (fun W => conf_is (n := m1) (e := ⟨es1, eu1, et1, ec1, ea1⟩) h1 W)
  skip
  simp only [En.val] at HC0
  simp only [En.val] at HC1
  obtain ⟨f1, f2, f3⟩ := two_boxes w (.cells #[.int .i64 b, .int .i64 c, .int .i64 d, .int .i64 m0, .int .i64 m1, .int .i64 m2, .int .i64 p] 24) (.cells #[.int .i64 es0, .int .i64 eu0, .int .i64 et0, .int .i64 ec0, .int .i64 ea0, .int .i64 es1, .int .i64 eu1, .int .i64 et1, .int .i64 ec1, .int .i64 ea1, .int .i64 es2, .int .i64 eu2, .int .i64 et2, .int .i64 ec2, .int .i64 ea2, .int .i64 es3, .int .i64 eu3, .int .i64 et3, .int .i64 ec3, .int .i64 ea3] 68)
  have x_0 := Lib.hid f1
  have q_0 := Lib.hid f2
  have B0 := Lib.hid f3
  clear f1 f2 f3
  go_enter Try.func85, Try.ntmps85
  have L1_3 : ((w.alloc (.cells #[.int .i64 b, .int .i64 c, .int .i64 d, .int .i64 m0, .int .i64 m1, .int .i64 m2, .int .i64 p] 24)).alloc (.cells #[.int .i64 es0, .int .i64 eu0, .int .i64 et0, .int .i64 ec0, .int .i64 ea0, .int .i64 es1, .int .i64 eu1, .int .i64 et1, .int .i64 ec1, .int .i64 ea1, .int .i64 es2, .int .i64 eu2, .int .i64 et2, .int .i64 ec2, .int .i64 ea2, .int .i64 es3, .int .i64 eu3, .int .i64 et3, .int .i64 ec3, .int .i64 ea3] 68)).cell? ⟨w.heap.size, 3, none⟩ = some (.int .i64 m0) := (cellsB (i := 3) x_0.out).trans rfl
  have L1_4 : ((w.alloc (.cells #[.int .i64 b, .int .i64 c, .int .i64 d, .int .i64 m0, .int .i64 m1, .int .i64 m2, .int .i64 p] 24)).alloc (.cells #[.int .i64 es0, .int .i64 eu0, .int .i64 et0, .int .i64 ec0, .int .i64 ea0, .int .i64 es1, .int .i64 eu1, .int .i64 et1, .int .i64 ec1, .int .i64 ea1, .int .i64 es2, .int .i64 eu2, .int .i64 et2, .int .i64 ec2, .int .i64 ea2, .int .i64 es3, .int .i64 eu3, .int .i64 et3, .int .i64 ec3, .int .i64 ea3] 68)).cell? ⟨w.heap.size, 4, none⟩ = some (.int .i64 m1) := (cellsB (i := 4) x_0.out).trans rfl
  have L1_5 : ((w.alloc (.cells #[.int .i64 b, .int .i64 c, .int .i64 d, .int .i64 m0, .int .i64 m1, .int .i64 m2, .int .i64 p] 24)).alloc (.cells #[.int .i64 es0, .int .i64 eu0, .int .i64 et0, .int .i64 ec0, .int .i64 ea0, .int .i64 es1, .int .i64 eu1, .int .i64 et1, .int .i64 ec1, .int .i64 ea1, .int .i64 es2, .int .i64 eu2, .int .i64 et2, .int .i64 ec2, .int .i64 ea2, .int .i64 es3, .int .i64 eu3, .int .i64 et3, .int .i64 ec3, .int .i64 ea3] 68)).cell? ⟨w.heap.size, 5, none⟩ = some (.int .i64 m2) := (cellsB (i := 5) x_0.out).trans rfl
  go_wp2_with fail
  refine wp_loop_rounds 4 ?_
  rw [rounds_succ]
  clear L1_3 L1_4 L1_5
  have L2_0 : ((w.alloc (.cells #[.int .i64 b, .int .i64 c, .int .i64 d, .int .i64 m0, .int .i64 m1, .int .i64 m2, .int .i64 p] 24)).alloc (.cells #[.int .i64 es0, .int .i64 eu0, .int .i64 et0, .int .i64 ec0, .int .i64 ea0, .int .i64 es1, .int .i64 eu1, .int .i64 et1, .int .i64 ec1, .int .i64 ea1, .int .i64 es2, .int .i64 eu2, .int .i64 et2, .int .i64 ec2, .int .i64 ea2, .int .i64 es3, .int .i64 eu3, .int .i64 et3, .int .i64 ec3, .int .i64 ea3] 68)).cell? ⟨(w.heap.size + 1), 0, none⟩ = some (.int .i64 es0) := (cellsB (i := 0) q_0.out).trans rfl
  have L2_1 : ((w.alloc (.cells #[.int .i64 b, .int .i64 c, .int .i64 d, .int .i64 m0, .int .i64 m1, .int .i64 m2, .int .i64 p] 24)).alloc (.cells #[.int .i64 es0, .int .i64 eu0, .int .i64 et0, .int .i64 ec0, .int .i64 ea0, .int .i64 es1, .int .i64 eu1, .int .i64 et1, .int .i64 ec1, .int .i64 ea1, .int .i64 es2, .int .i64 eu2, .int .i64 et2, .int .i64 ec2, .int .i64 ea2, .int .i64 es3, .int .i64 eu3, .int .i64 et3, .int .i64 ec3, .int .i64 ea3] 68)).cell? ⟨(w.heap.size + 1), 1, none⟩ = some (.int .i64 eu0) := (cellsB (i := 1) q_0.out).trans rfl
  have L2_2 : ((w.alloc (.cells #[.int .i64 b, .int .i64 c, .int .i64 d, .int .i64 m0, .int .i64 m1, .int .i64 m2, .int .i64 p] 24)).alloc (.cells #[.int .i64 es0, .int .i64 eu0, .int .i64 et0, .int .i64 ec0, .int .i64 ea0, .int .i64 es1, .int .i64 eu1, .int .i64 et1, .int .i64 ec1, .int .i64 ea1, .int .i64 es2, .int .i64 eu2, .int .i64 et2, .int .i64 ec2, .int .i64 ea2, .int .i64 es3, .int .i64 eu3, .int .i64 et3, .int .i64 ec3, .int .i64 ea3] 68)).cell? ⟨(w.heap.size + 1), 2, none⟩ = some (.int .i64 et0) := (cellsB (i := 2) q_0.out).trans rfl
  have L2_3 : ((w.alloc (.cells #[.int .i64 b, .int .i64 c, .int .i64 d, .int .i64 m0, .int .i64 m1, .int .i64 m2, .int .i64 p] 24)).alloc (.cells #[.int .i64 es0, .int .i64 eu0, .int .i64 et0, .int .i64 ec0, .int .i64 ea0, .int .i64 es1, .int .i64 eu1, .int .i64 et1, .int .i64 ec1, .int .i64 ea1, .int .i64 es2, .int .i64 eu2, .int .i64 et2, .int .i64 ec2, .int .i64 ea2, .int .i64 es3, .int .i64 eu3, .int .i64 et3, .int .i64 ec3, .int .i64 ea3] 68)).cell? ⟨(w.heap.size + 1), 3, none⟩ = some (.int .i64 ec0) := (cellsB (i := 3) q_0.out).trans rfl
  have L2_4 : ((w.alloc (.cells #[.int .i64 b, .int .i64 c, .int .i64 d, .int .i64 m0, .int .i64 m1, .int .i64 m2, .int .i64 p] 24)).alloc (.cells #[.int .i64 es0, .int .i64 eu0, .int .i64 et0, .int .i64 ec0, .int .i64 ea0, .int .i64 es1, .int .i64 eu1, .int .i64 et1, .int .i64 ec1, .int .i64 ea1, .int .i64 es2, .int .i64 eu2, .int .i64 et2, .int .i64 ec2, .int .i64 ea2, .int .i64 es3, .int .i64 eu3, .int .i64 et3, .int .i64 ec3, .int .i64 ea3] 68)).cell? ⟨(w.heap.size + 1), 4, none⟩ = some (.int .i64 ea0) := (cellsB (i := 4) q_0.out).trans rfl
  go_wp2_with fail
  refine (HC0.out _).mono ?_
  rintro e w1 ⟨rfl, q⟩
  have x_1 := Lib.hid (blk0 x_0.out q)
  have q_1 := Lib.hid (blk0 q_0.out q)
  have B1 := Lib.hid (bel0 B0.out B0.out.size q)
  clear q x_0 q_0 B0
  clear L2_0 L2_1 L2_2 L2_3 L2_4
  go_wp2_with fail
  rw [rounds_succ]
  have L3_5 : w1.cell? ⟨(w.heap.size + 1), 5, none⟩ = some (.int .i64 es1) := (cellsB (i := 5) q_1.out).trans rfl
  have L3_6 : w1.cell? ⟨(w.heap.size + 1), 6, none⟩ = some (.int .i64 eu1) := (cellsB (i := 6) q_1.out).trans rfl
  have L3_7 : w1.cell? ⟨(w.heap.size + 1), 7, none⟩ = some (.int .i64 et1) := (cellsB (i := 7) q_1.out).trans rfl
  have L3_8 : w1.cell? ⟨(w.heap.size + 1), 8, none⟩ = some (.int .i64 ec1) := (cellsB (i := 8) q_1.out).trans rfl
  have L3_9 : w1.cell? ⟨(w.heap.size + 1), 9, none⟩ = some (.int .i64 ea1) := (cellsB (i := 9) q_1.out).trans rfl
  go_wp2_with fail
  refine (HC1.out _).mono ?_
  rintro e w2 ⟨rfl, q⟩
  have x_2 := Lib.hid (blk0 x_1.out q)
  have q_2 := Lib.hid (blk0 q_1.out q)
  have B2 := Lib.hid (bel0 B1.out B1.out.size q)
  clear q x_1 q_1 B1
  clear L3_5 L3_6 L3_7 L3_8 L3_9
  go_wp2
  go_ret
  exact ⟨ret_bool (decide_eq_false (show ¬ AllP _ _ from fun h => of_decide_eq_false h1 h.2.1)).symm, B2.out⟩
set_option maxRecDepth 100000 in
set_option maxHeartbeats 2000000 in
theorem all_2 (b c d m0 m1 m2 p : Int) (es0 eu0 et0 ec0 ea0 es1 eu1 et1 ec1 ea1 es2 eu2 et2 ec2 ea2 es3 eu3 et3 ec3 ea3 : Int) (w : World) (h0 : decide (ConfP m0 ⟨es0, eu0, et0, ec0, ea0⟩) = true) (h1 : decide (ConfP m1 ⟨es1, eu1, et1, ec1, ea1⟩) = true) (h2 : decide (ConfP m2 ⟨es2, eu2, et2, ec2, ea2⟩) = false) : Calls Try.prog 85 #[.agg #[.int .i64 b, .int .i64 c, .int .i64 d, .int .i64 m0, .int .i64 m1, .int .i64 m2, .int .i64 p], .agg #[.int .i64 es0, .int .i64 eu0, .int .i64 et0, .int .i64 ec0, .int .i64 ea0, .int .i64 es1, .int .i64 eu1, .int .i64 et1, .int .i64 ec1, .int .i64 ea1, .int .i64 es2, .int .i64 eu2, .int .i64 et2, .int .i64 ec2, .int .i64 ea2, .int .i64 es3, .int .i64 eu3, .int .i64 et3, .int .i64 ec3, .int .i64 ea3]] w fun e' w' => e' = .returned (.bool (decide (AllP ⟨b, c, d, m0, m1, m2, p⟩ ⟨⟨es0, eu0, et0, ec0, ea0⟩, ⟨es1, eu1, et1, ec1, ea1⟩, ⟨es2, eu2, et2, ec2, ea2⟩, ⟨es3, eu3, et3, ec3, ea3⟩⟩))) ∧ Below w.heap.size w w' := by
  have i0 : ∀ w, (Instr.index 22 (.agg #[.int .i64 m0, .int .i64 m1, .int .i64 m2]) (.int .i64 0)).run Try.prog w = .ok (.int .i64 m0) w := fun _ => by kernel_rfl
  have i1 : ∀ w, (Instr.index 22 (.agg #[.int .i64 m0, .int .i64 m1, .int .i64 m2]) (.int .i64 1)).run Try.prog w = .ok (.int .i64 m1) w := fun _ => by kernel_rfl
  have i2 : ∀ w, (Instr.index 22 (.agg #[.int .i64 m0, .int .i64 m1, .int .i64 m2]) (.int .i64 2)).run Try.prog w = .ok (.int .i64 m2) w := fun _ => by kernel_rfl
  have HC0 := Lib.hid (fun W => conf_is (n := m0) (e := ⟨es0, eu0, et0, ec0, ea0⟩) h0 W)
  have HC1 := Lib.hid (fun W => conf_is (n := m1) (e := ⟨es1, eu1, et1, ec1, ea1⟩) h1 W)
  have HC2 := Lib.hid (fun W => conf_is (n := m2) (e := ⟨es2, eu2, et2, ec2, ea2⟩) h2 W)
  skip
  simp only [En.val] at HC0
  simp only [En.val] at HC1
  simp only [En.val] at HC2
  obtain ⟨f1, f2, f3⟩ := two_boxes w (.cells #[.int .i64 b, .int .i64 c, .int .i64 d, .int .i64 m0, .int .i64 m1, .int .i64 m2, .int .i64 p] 24) (.cells #[.int .i64 es0, .int .i64 eu0, .int .i64 et0, .int .i64 ec0, .int .i64 ea0, .int .i64 es1, .int .i64 eu1, .int .i64 et1, .int .i64 ec1, .int .i64 ea1, .int .i64 es2, .int .i64 eu2, .int .i64 et2, .int .i64 ec2, .int .i64 ea2, .int .i64 es3, .int .i64 eu3, .int .i64 et3, .int .i64 ec3, .int .i64 ea3] 68)
  have x_0 := Lib.hid f1
  have q_0 := Lib.hid f2
  have B0 := Lib.hid f3
  clear f1 f2 f3
  go_enter Try.func85, Try.ntmps85
  have L1_3 : ((w.alloc (.cells #[.int .i64 b, .int .i64 c, .int .i64 d, .int .i64 m0, .int .i64 m1, .int .i64 m2, .int .i64 p] 24)).alloc (.cells #[.int .i64 es0, .int .i64 eu0, .int .i64 et0, .int .i64 ec0, .int .i64 ea0, .int .i64 es1, .int .i64 eu1, .int .i64 et1, .int .i64 ec1, .int .i64 ea1, .int .i64 es2, .int .i64 eu2, .int .i64 et2, .int .i64 ec2, .int .i64 ea2, .int .i64 es3, .int .i64 eu3, .int .i64 et3, .int .i64 ec3, .int .i64 ea3] 68)).cell? ⟨w.heap.size, 3, none⟩ = some (.int .i64 m0) := (cellsB (i := 3) x_0.out).trans rfl
  have L1_4 : ((w.alloc (.cells #[.int .i64 b, .int .i64 c, .int .i64 d, .int .i64 m0, .int .i64 m1, .int .i64 m2, .int .i64 p] 24)).alloc (.cells #[.int .i64 es0, .int .i64 eu0, .int .i64 et0, .int .i64 ec0, .int .i64 ea0, .int .i64 es1, .int .i64 eu1, .int .i64 et1, .int .i64 ec1, .int .i64 ea1, .int .i64 es2, .int .i64 eu2, .int .i64 et2, .int .i64 ec2, .int .i64 ea2, .int .i64 es3, .int .i64 eu3, .int .i64 et3, .int .i64 ec3, .int .i64 ea3] 68)).cell? ⟨w.heap.size, 4, none⟩ = some (.int .i64 m1) := (cellsB (i := 4) x_0.out).trans rfl
  have L1_5 : ((w.alloc (.cells #[.int .i64 b, .int .i64 c, .int .i64 d, .int .i64 m0, .int .i64 m1, .int .i64 m2, .int .i64 p] 24)).alloc (.cells #[.int .i64 es0, .int .i64 eu0, .int .i64 et0, .int .i64 ec0, .int .i64 ea0, .int .i64 es1, .int .i64 eu1, .int .i64 et1, .int .i64 ec1, .int .i64 ea1, .int .i64 es2, .int .i64 eu2, .int .i64 et2, .int .i64 ec2, .int .i64 ea2, .int .i64 es3, .int .i64 eu3, .int .i64 et3, .int .i64 ec3, .int .i64 ea3] 68)).cell? ⟨w.heap.size, 5, none⟩ = some (.int .i64 m2) := (cellsB (i := 5) x_0.out).trans rfl
  go_wp2_with fail
  refine wp_loop_rounds 4 ?_
  rw [rounds_succ]
  clear L1_3 L1_4 L1_5
  have L2_0 : ((w.alloc (.cells #[.int .i64 b, .int .i64 c, .int .i64 d, .int .i64 m0, .int .i64 m1, .int .i64 m2, .int .i64 p] 24)).alloc (.cells #[.int .i64 es0, .int .i64 eu0, .int .i64 et0, .int .i64 ec0, .int .i64 ea0, .int .i64 es1, .int .i64 eu1, .int .i64 et1, .int .i64 ec1, .int .i64 ea1, .int .i64 es2, .int .i64 eu2, .int .i64 et2, .int .i64 ec2, .int .i64 ea2, .int .i64 es3, .int .i64 eu3, .int .i64 et3, .int .i64 ec3, .int .i64 ea3] 68)).cell? ⟨(w.heap.size + 1), 0, none⟩ = some (.int .i64 es0) := (cellsB (i := 0) q_0.out).trans rfl
  have L2_1 : ((w.alloc (.cells #[.int .i64 b, .int .i64 c, .int .i64 d, .int .i64 m0, .int .i64 m1, .int .i64 m2, .int .i64 p] 24)).alloc (.cells #[.int .i64 es0, .int .i64 eu0, .int .i64 et0, .int .i64 ec0, .int .i64 ea0, .int .i64 es1, .int .i64 eu1, .int .i64 et1, .int .i64 ec1, .int .i64 ea1, .int .i64 es2, .int .i64 eu2, .int .i64 et2, .int .i64 ec2, .int .i64 ea2, .int .i64 es3, .int .i64 eu3, .int .i64 et3, .int .i64 ec3, .int .i64 ea3] 68)).cell? ⟨(w.heap.size + 1), 1, none⟩ = some (.int .i64 eu0) := (cellsB (i := 1) q_0.out).trans rfl
  have L2_2 : ((w.alloc (.cells #[.int .i64 b, .int .i64 c, .int .i64 d, .int .i64 m0, .int .i64 m1, .int .i64 m2, .int .i64 p] 24)).alloc (.cells #[.int .i64 es0, .int .i64 eu0, .int .i64 et0, .int .i64 ec0, .int .i64 ea0, .int .i64 es1, .int .i64 eu1, .int .i64 et1, .int .i64 ec1, .int .i64 ea1, .int .i64 es2, .int .i64 eu2, .int .i64 et2, .int .i64 ec2, .int .i64 ea2, .int .i64 es3, .int .i64 eu3, .int .i64 et3, .int .i64 ec3, .int .i64 ea3] 68)).cell? ⟨(w.heap.size + 1), 2, none⟩ = some (.int .i64 et0) := (cellsB (i := 2) q_0.out).trans rfl
  have L2_3 : ((w.alloc (.cells #[.int .i64 b, .int .i64 c, .int .i64 d, .int .i64 m0, .int .i64 m1, .int .i64 m2, .int .i64 p] 24)).alloc (.cells #[.int .i64 es0, .int .i64 eu0, .int .i64 et0, .int .i64 ec0, .int .i64 ea0, .int .i64 es1, .int .i64 eu1, .int .i64 et1, .int .i64 ec1, .int .i64 ea1, .int .i64 es2, .int .i64 eu2, .int .i64 et2, .int .i64 ec2, .int .i64 ea2, .int .i64 es3, .int .i64 eu3, .int .i64 et3, .int .i64 ec3, .int .i64 ea3] 68)).cell? ⟨(w.heap.size + 1), 3, none⟩ = some (.int .i64 ec0) := (cellsB (i := 3) q_0.out).trans rfl
  have L2_4 : ((w.alloc (.cells #[.int .i64 b, .int .i64 c, .int .i64 d, .int .i64 m0, .int .i64 m1, .int .i64 m2, .int .i64 p] 24)).alloc (.cells #[.int .i64 es0, .int .i64 eu0, .int .i64 et0, .int .i64 ec0, .int .i64 ea0, .int .i64 es1, .int .i64 eu1, .int .i64 et1, .int .i64 ec1, .int .i64 ea1, .int .i64 es2, .int .i64 eu2, .int .i64 et2, .int .i64 ec2, .int .i64 ea2, .int .i64 es3, .int .i64 eu3, .int .i64 et3, .int .i64 ec3, .int .i64 ea3] 68)).cell? ⟨(w.heap.size + 1), 4, none⟩ = some (.int .i64 ea0) := (cellsB (i := 4) q_0.out).trans rfl
  go_wp2_with fail
  refine (HC0.out _).mono ?_
  rintro e w1 ⟨rfl, q⟩
  have x_1 := Lib.hid (blk0 x_0.out q)
  have q_1 := Lib.hid (blk0 q_0.out q)
  have B1 := Lib.hid (bel0 B0.out B0.out.size q)
  clear q x_0 q_0 B0
  clear L2_0 L2_1 L2_2 L2_3 L2_4
  go_wp2_with fail
  rw [rounds_succ]
  have L3_5 : w1.cell? ⟨(w.heap.size + 1), 5, none⟩ = some (.int .i64 es1) := (cellsB (i := 5) q_1.out).trans rfl
  have L3_6 : w1.cell? ⟨(w.heap.size + 1), 6, none⟩ = some (.int .i64 eu1) := (cellsB (i := 6) q_1.out).trans rfl
  have L3_7 : w1.cell? ⟨(w.heap.size + 1), 7, none⟩ = some (.int .i64 et1) := (cellsB (i := 7) q_1.out).trans rfl
  have L3_8 : w1.cell? ⟨(w.heap.size + 1), 8, none⟩ = some (.int .i64 ec1) := (cellsB (i := 8) q_1.out).trans rfl
  have L3_9 : w1.cell? ⟨(w.heap.size + 1), 9, none⟩ = some (.int .i64 ea1) := (cellsB (i := 9) q_1.out).trans rfl
  go_wp2_with fail
  refine (HC1.out _).mono ?_
  rintro e w2 ⟨rfl, q⟩
  have x_2 := Lib.hid (blk0 x_1.out q)
  have q_2 := Lib.hid (blk0 q_1.out q)
  have B2 := Lib.hid (bel0 B1.out B1.out.size q)
  clear q x_1 q_1 B1
  clear L3_5 L3_6 L3_7 L3_8 L3_9
  go_wp2_with fail
  rw [rounds_succ]
  have L4_10 : w2.cell? ⟨(w.heap.size + 1), 10, none⟩ = some (.int .i64 es2) := (cellsB (i := 10) q_2.out).trans rfl
  have L4_11 : w2.cell? ⟨(w.heap.size + 1), 11, none⟩ = some (.int .i64 eu2) := (cellsB (i := 11) q_2.out).trans rfl
  have L4_12 : w2.cell? ⟨(w.heap.size + 1), 12, none⟩ = some (.int .i64 et2) := (cellsB (i := 12) q_2.out).trans rfl
  have L4_13 : w2.cell? ⟨(w.heap.size + 1), 13, none⟩ = some (.int .i64 ec2) := (cellsB (i := 13) q_2.out).trans rfl
  have L4_14 : w2.cell? ⟨(w.heap.size + 1), 14, none⟩ = some (.int .i64 ea2) := (cellsB (i := 14) q_2.out).trans rfl
  go_wp2_with fail
  refine (HC2.out _).mono ?_
  rintro e w3 ⟨rfl, q⟩
  have x_3 := Lib.hid (blk0 x_2.out q)
  have q_3 := Lib.hid (blk0 q_2.out q)
  have B3 := Lib.hid (bel0 B2.out B2.out.size q)
  clear q x_2 q_2 B2
  clear L4_10 L4_11 L4_12 L4_13 L4_14
  go_wp2
  go_ret
  exact ⟨ret_bool (decide_eq_false (show ¬ AllP _ _ from fun h => of_decide_eq_false h2 h.2.2.1)).symm, B3.out⟩
set_option maxRecDepth 100000 in
set_option maxHeartbeats 2000000 in
theorem all_3 (b c d m0 m1 m2 p : Int) (es0 eu0 et0 ec0 ea0 es1 eu1 et1 ec1 ea1 es2 eu2 et2 ec2 ea2 es3 eu3 et3 ec3 ea3 : Int) (w : World) (h0 : decide (ConfP m0 ⟨es0, eu0, et0, ec0, ea0⟩) = true) (h1 : decide (ConfP m1 ⟨es1, eu1, et1, ec1, ea1⟩) = true) (h2 : decide (ConfP m2 ⟨es2, eu2, et2, ec2, ea2⟩) = true) : Calls Try.prog 85 #[.agg #[.int .i64 b, .int .i64 c, .int .i64 d, .int .i64 m0, .int .i64 m1, .int .i64 m2, .int .i64 p], .agg #[.int .i64 es0, .int .i64 eu0, .int .i64 et0, .int .i64 ec0, .int .i64 ea0, .int .i64 es1, .int .i64 eu1, .int .i64 et1, .int .i64 ec1, .int .i64 ea1, .int .i64 es2, .int .i64 eu2, .int .i64 et2, .int .i64 ec2, .int .i64 ea2, .int .i64 es3, .int .i64 eu3, .int .i64 et3, .int .i64 ec3, .int .i64 ea3]] w fun e' w' => e' = .returned (.bool (decide (AllP ⟨b, c, d, m0, m1, m2, p⟩ ⟨⟨es0, eu0, et0, ec0, ea0⟩, ⟨es1, eu1, et1, ec1, ea1⟩, ⟨es2, eu2, et2, ec2, ea2⟩, ⟨es3, eu3, et3, ec3, ea3⟩⟩))) ∧ Below w.heap.size w w' := by
  have i0 : ∀ w, (Instr.index 22 (.agg #[.int .i64 m0, .int .i64 m1, .int .i64 m2]) (.int .i64 0)).run Try.prog w = .ok (.int .i64 m0) w := fun _ => by kernel_rfl
  have i1 : ∀ w, (Instr.index 22 (.agg #[.int .i64 m0, .int .i64 m1, .int .i64 m2]) (.int .i64 1)).run Try.prog w = .ok (.int .i64 m1) w := fun _ => by kernel_rfl
  have i2 : ∀ w, (Instr.index 22 (.agg #[.int .i64 m0, .int .i64 m1, .int .i64 m2]) (.int .i64 2)).run Try.prog w = .ok (.int .i64 m2) w := fun _ => by kernel_rfl
  have HC0 := Lib.hid (fun W => conf_is (n := m0) (e := ⟨es0, eu0, et0, ec0, ea0⟩) h0 W)
  have HC1 := Lib.hid (fun W => conf_is (n := m1) (e := ⟨es1, eu1, et1, ec1, ea1⟩) h1 W)
  have HC2 := Lib.hid (fun W => conf_is (n := m2) (e := ⟨es2, eu2, et2, ec2, ea2⟩) h2 W)
  skip
  simp only [En.val] at HC0
  simp only [En.val] at HC1
  simp only [En.val] at HC2
  obtain ⟨mb, hmb⟩ : ∃ v, decide (MayW ⟨b, c, d, m0, m1, m2, p⟩) = v := ⟨_, rfl⟩
  have HM := Lib.hid (fun W => may_is _ mb hmb W)
  have HMB := Lib.hid hmb
  clear hmb
  unfold W7.val at HM
  simp only at HM
  obtain ⟨f1, f2, f3⟩ := two_boxes w (.cells #[.int .i64 b, .int .i64 c, .int .i64 d, .int .i64 m0, .int .i64 m1, .int .i64 m2, .int .i64 p] 24) (.cells #[.int .i64 es0, .int .i64 eu0, .int .i64 et0, .int .i64 ec0, .int .i64 ea0, .int .i64 es1, .int .i64 eu1, .int .i64 et1, .int .i64 ec1, .int .i64 ea1, .int .i64 es2, .int .i64 eu2, .int .i64 et2, .int .i64 ec2, .int .i64 ea2, .int .i64 es3, .int .i64 eu3, .int .i64 et3, .int .i64 ec3, .int .i64 ea3] 68)
  have x_0 := Lib.hid f1
  have q_0 := Lib.hid f2
  have B0 := Lib.hid f3
  clear f1 f2 f3
  go_enter Try.func85, Try.ntmps85
  have L1_3 : ((w.alloc (.cells #[.int .i64 b, .int .i64 c, .int .i64 d, .int .i64 m0, .int .i64 m1, .int .i64 m2, .int .i64 p] 24)).alloc (.cells #[.int .i64 es0, .int .i64 eu0, .int .i64 et0, .int .i64 ec0, .int .i64 ea0, .int .i64 es1, .int .i64 eu1, .int .i64 et1, .int .i64 ec1, .int .i64 ea1, .int .i64 es2, .int .i64 eu2, .int .i64 et2, .int .i64 ec2, .int .i64 ea2, .int .i64 es3, .int .i64 eu3, .int .i64 et3, .int .i64 ec3, .int .i64 ea3] 68)).cell? ⟨w.heap.size, 3, none⟩ = some (.int .i64 m0) := (cellsB (i := 3) x_0.out).trans rfl
  have L1_4 : ((w.alloc (.cells #[.int .i64 b, .int .i64 c, .int .i64 d, .int .i64 m0, .int .i64 m1, .int .i64 m2, .int .i64 p] 24)).alloc (.cells #[.int .i64 es0, .int .i64 eu0, .int .i64 et0, .int .i64 ec0, .int .i64 ea0, .int .i64 es1, .int .i64 eu1, .int .i64 et1, .int .i64 ec1, .int .i64 ea1, .int .i64 es2, .int .i64 eu2, .int .i64 et2, .int .i64 ec2, .int .i64 ea2, .int .i64 es3, .int .i64 eu3, .int .i64 et3, .int .i64 ec3, .int .i64 ea3] 68)).cell? ⟨w.heap.size, 4, none⟩ = some (.int .i64 m1) := (cellsB (i := 4) x_0.out).trans rfl
  have L1_5 : ((w.alloc (.cells #[.int .i64 b, .int .i64 c, .int .i64 d, .int .i64 m0, .int .i64 m1, .int .i64 m2, .int .i64 p] 24)).alloc (.cells #[.int .i64 es0, .int .i64 eu0, .int .i64 et0, .int .i64 ec0, .int .i64 ea0, .int .i64 es1, .int .i64 eu1, .int .i64 et1, .int .i64 ec1, .int .i64 ea1, .int .i64 es2, .int .i64 eu2, .int .i64 et2, .int .i64 ec2, .int .i64 ea2, .int .i64 es3, .int .i64 eu3, .int .i64 et3, .int .i64 ec3, .int .i64 ea3] 68)).cell? ⟨w.heap.size, 5, none⟩ = some (.int .i64 m2) := (cellsB (i := 5) x_0.out).trans rfl
  go_wp2_with fail
  refine wp_loop_rounds 4 ?_
  rw [rounds_succ]
  clear L1_3 L1_4 L1_5
  have L2_0 : ((w.alloc (.cells #[.int .i64 b, .int .i64 c, .int .i64 d, .int .i64 m0, .int .i64 m1, .int .i64 m2, .int .i64 p] 24)).alloc (.cells #[.int .i64 es0, .int .i64 eu0, .int .i64 et0, .int .i64 ec0, .int .i64 ea0, .int .i64 es1, .int .i64 eu1, .int .i64 et1, .int .i64 ec1, .int .i64 ea1, .int .i64 es2, .int .i64 eu2, .int .i64 et2, .int .i64 ec2, .int .i64 ea2, .int .i64 es3, .int .i64 eu3, .int .i64 et3, .int .i64 ec3, .int .i64 ea3] 68)).cell? ⟨(w.heap.size + 1), 0, none⟩ = some (.int .i64 es0) := (cellsB (i := 0) q_0.out).trans rfl
  have L2_1 : ((w.alloc (.cells #[.int .i64 b, .int .i64 c, .int .i64 d, .int .i64 m0, .int .i64 m1, .int .i64 m2, .int .i64 p] 24)).alloc (.cells #[.int .i64 es0, .int .i64 eu0, .int .i64 et0, .int .i64 ec0, .int .i64 ea0, .int .i64 es1, .int .i64 eu1, .int .i64 et1, .int .i64 ec1, .int .i64 ea1, .int .i64 es2, .int .i64 eu2, .int .i64 et2, .int .i64 ec2, .int .i64 ea2, .int .i64 es3, .int .i64 eu3, .int .i64 et3, .int .i64 ec3, .int .i64 ea3] 68)).cell? ⟨(w.heap.size + 1), 1, none⟩ = some (.int .i64 eu0) := (cellsB (i := 1) q_0.out).trans rfl
  have L2_2 : ((w.alloc (.cells #[.int .i64 b, .int .i64 c, .int .i64 d, .int .i64 m0, .int .i64 m1, .int .i64 m2, .int .i64 p] 24)).alloc (.cells #[.int .i64 es0, .int .i64 eu0, .int .i64 et0, .int .i64 ec0, .int .i64 ea0, .int .i64 es1, .int .i64 eu1, .int .i64 et1, .int .i64 ec1, .int .i64 ea1, .int .i64 es2, .int .i64 eu2, .int .i64 et2, .int .i64 ec2, .int .i64 ea2, .int .i64 es3, .int .i64 eu3, .int .i64 et3, .int .i64 ec3, .int .i64 ea3] 68)).cell? ⟨(w.heap.size + 1), 2, none⟩ = some (.int .i64 et0) := (cellsB (i := 2) q_0.out).trans rfl
  have L2_3 : ((w.alloc (.cells #[.int .i64 b, .int .i64 c, .int .i64 d, .int .i64 m0, .int .i64 m1, .int .i64 m2, .int .i64 p] 24)).alloc (.cells #[.int .i64 es0, .int .i64 eu0, .int .i64 et0, .int .i64 ec0, .int .i64 ea0, .int .i64 es1, .int .i64 eu1, .int .i64 et1, .int .i64 ec1, .int .i64 ea1, .int .i64 es2, .int .i64 eu2, .int .i64 et2, .int .i64 ec2, .int .i64 ea2, .int .i64 es3, .int .i64 eu3, .int .i64 et3, .int .i64 ec3, .int .i64 ea3] 68)).cell? ⟨(w.heap.size + 1), 3, none⟩ = some (.int .i64 ec0) := (cellsB (i := 3) q_0.out).trans rfl
  have L2_4 : ((w.alloc (.cells #[.int .i64 b, .int .i64 c, .int .i64 d, .int .i64 m0, .int .i64 m1, .int .i64 m2, .int .i64 p] 24)).alloc (.cells #[.int .i64 es0, .int .i64 eu0, .int .i64 et0, .int .i64 ec0, .int .i64 ea0, .int .i64 es1, .int .i64 eu1, .int .i64 et1, .int .i64 ec1, .int .i64 ea1, .int .i64 es2, .int .i64 eu2, .int .i64 et2, .int .i64 ec2, .int .i64 ea2, .int .i64 es3, .int .i64 eu3, .int .i64 et3, .int .i64 ec3, .int .i64 ea3] 68)).cell? ⟨(w.heap.size + 1), 4, none⟩ = some (.int .i64 ea0) := (cellsB (i := 4) q_0.out).trans rfl
  go_wp2_with fail
  refine (HC0.out _).mono ?_
  rintro e w1 ⟨rfl, q⟩
  have x_1 := Lib.hid (blk0 x_0.out q)
  have q_1 := Lib.hid (blk0 q_0.out q)
  have B1 := Lib.hid (bel0 B0.out B0.out.size q)
  clear q x_0 q_0 B0
  clear L2_0 L2_1 L2_2 L2_3 L2_4
  go_wp2_with fail
  rw [rounds_succ]
  have L3_5 : w1.cell? ⟨(w.heap.size + 1), 5, none⟩ = some (.int .i64 es1) := (cellsB (i := 5) q_1.out).trans rfl
  have L3_6 : w1.cell? ⟨(w.heap.size + 1), 6, none⟩ = some (.int .i64 eu1) := (cellsB (i := 6) q_1.out).trans rfl
  have L3_7 : w1.cell? ⟨(w.heap.size + 1), 7, none⟩ = some (.int .i64 et1) := (cellsB (i := 7) q_1.out).trans rfl
  have L3_8 : w1.cell? ⟨(w.heap.size + 1), 8, none⟩ = some (.int .i64 ec1) := (cellsB (i := 8) q_1.out).trans rfl
  have L3_9 : w1.cell? ⟨(w.heap.size + 1), 9, none⟩ = some (.int .i64 ea1) := (cellsB (i := 9) q_1.out).trans rfl
  go_wp2_with fail
  refine (HC1.out _).mono ?_
  rintro e w2 ⟨rfl, q⟩
  have x_2 := Lib.hid (blk0 x_1.out q)
  have q_2 := Lib.hid (blk0 q_1.out q)
  have B2 := Lib.hid (bel0 B1.out B1.out.size q)
  clear q x_1 q_1 B1
  clear L3_5 L3_6 L3_7 L3_8 L3_9
  go_wp2_with fail
  rw [rounds_succ]
  have L4_10 : w2.cell? ⟨(w.heap.size + 1), 10, none⟩ = some (.int .i64 es2) := (cellsB (i := 10) q_2.out).trans rfl
  have L4_11 : w2.cell? ⟨(w.heap.size + 1), 11, none⟩ = some (.int .i64 eu2) := (cellsB (i := 11) q_2.out).trans rfl
  have L4_12 : w2.cell? ⟨(w.heap.size + 1), 12, none⟩ = some (.int .i64 et2) := (cellsB (i := 12) q_2.out).trans rfl
  have L4_13 : w2.cell? ⟨(w.heap.size + 1), 13, none⟩ = some (.int .i64 ec2) := (cellsB (i := 13) q_2.out).trans rfl
  have L4_14 : w2.cell? ⟨(w.heap.size + 1), 14, none⟩ = some (.int .i64 ea2) := (cellsB (i := 14) q_2.out).trans rfl
  go_wp2_with fail
  refine (HC2.out _).mono ?_
  rintro e w3 ⟨rfl, q⟩
  have x_3 := Lib.hid (blk0 x_2.out q)
  have q_3 := Lib.hid (blk0 q_2.out q)
  have B3 := Lib.hid (bel0 B2.out B2.out.size q)
  clear q x_2 q_2 B2
  clear L4_10 L4_11 L4_12 L4_13 L4_14
  go_wp2_with fail
  rw [rounds_succ]
  go_wp2_with (first | (refine wpl_row (by rfl) 24 _ rfl _ rfl _ _ _ _ x_3.out rfl Try.underlying24 (by kernel_rfl) ?_))
  refine (HM.out _).mono ?_
  rintro e w4 ⟨rfl, q⟩
  have x_4 := Lib.hid (blk0 x_3.out q)
  have q_4 := Lib.hid (blk0 q_3.out q)
  have B4 := Lib.hid (bel0 B3.out B3.out.size q)
  clear q x_3 q_3 B3
  go_wp2
  go_ret
  refine ⟨ret_bool ?_, B4.out⟩
  rw [← HMB.out]
  exact decide_eq_decide.2 ⟨fun h => ⟨of_decide_eq_true h0, of_decide_eq_true h1, of_decide_eq_true h2, h⟩, fun h => h.2.2.2⟩
set_option maxRecDepth 100000 in
set_option maxHeartbeats 2000000 in
theorem all_c (x : W7) (q : Q4) (w : World) : Calls Try.prog 85 #[x.val, q.val] w fun e' w' => e' = .returned (.bool (decide (AllP x q))) ∧ Below w.heap.size w w' := by
  obtain ⟨b, c, d, m0, m1, m2, p⟩ := x
  obtain ⟨⟨es0, eu0, et0, ec0, ea0⟩, ⟨es1, eu1, et1, ec1, ea1⟩, ⟨es2, eu2, et2, ec2, ea2⟩, ⟨es3, eu3, et3, ec3, ea3⟩⟩ := q
  unfold W7.val Q4.val
  simp only
  cases h0 : decide (ConfP m0 ⟨es0, eu0, et0, ec0, ea0⟩)
  · skip
    exact all_0 _ _ _ _ _ _ _ _ _ _ _ _ _ _ _ _ _ _ _ _ _ _ _ _ _ _ _ w h0
  cases h1 : decide (ConfP m1 ⟨es1, eu1, et1, ec1, ea1⟩)
  · skip
    exact all_1 _ _ _ _ _ _ _ _ _ _ _ _ _ _ _ _ _ _ _ _ _ _ _ _ _ _ _ w h0 h1
  cases h2 : decide (ConfP m2 ⟨es2, eu2, et2, ec2, ea2⟩)
  · skip
    exact all_2 _ _ _ _ _ _ _ _ _ _ _ _ _ _ _ _ _ _ _ _ _ _ _ _ _ _ _ w h0 h1 h2
  exact all_3 _ _ _ _ _ _ _ _ _ _ _ _ _ _ _ _ _ _ _ _ _ _ _ _ _ _ _ w h0 h1 h2
theorem all_is {x : W7} {q : Q4} {b : Bool} (h : decide (AllP x q) = b) (w : World) : Calls Try.prog 85 #[x.val, q.val] w fun e' w' => e' = .returned (.bool b) ∧ Below w.heap.size w w' := h ▸ all_c x q w
set_option maxRecDepth 100000 in
set_option maxHeartbeats 2000000 in
theorem booked_c (x : W7) (q : Q4) (w : World) : Calls Try.prog 44 #[x.val, q.val] w fun e' w' => e' = .returned (.bool (decide (BookedP x q))) ∧ Below w.heap.size w w' := by
  obtain ⟨b, c, d, m0, m1, m2, p⟩ := x
  obtain ⟨⟨es0, eu0, et0, ec0, ea0⟩, ⟨es1, eu1, et1, ec1, ea1⟩, ⟨es2, eu2, et2, ec2, ea2⟩, ⟨es3, eu3, et3, ec3, ea3⟩⟩ := q
  unfold W7.val Q4.val
  simp only
  cases ha : decide (AllP ⟨b, c, d, m0, m1, m2, p⟩ ⟨⟨es0, eu0, et0, ec0, ea0⟩, ⟨es1, eu1, et1, ec1, ea1⟩, ⟨es2, eu2, et2, ec2, ea2⟩, ⟨es3, eu3, et3, ec3, ea3⟩⟩)
  · skip
    have HA := Lib.hid (fun W => all_is ha W)
    unfold W7.val Q4.val at HA
    simp only at HA
    obtain ⟨f1, f2, f3⟩ := two_boxes w (.cells #[.int .i64 b, .int .i64 c, .int .i64 d, .int .i64 m0, .int .i64 m1, .int .i64 m2, .int .i64 p] 24) (.cells #[.int .i64 es0, .int .i64 eu0, .int .i64 et0, .int .i64 ec0, .int .i64 ea0, .int .i64 es1, .int .i64 eu1, .int .i64 et1, .int .i64 ec1, .int .i64 ea1, .int .i64 es2, .int .i64 eu2, .int .i64 et2, .int .i64 ec2, .int .i64 ea2, .int .i64 es3, .int .i64 eu3, .int .i64 et3, .int .i64 ec3, .int .i64 ea3] 68)
    have x_0 := Lib.hid f1
    have q_0 := Lib.hid f2
    have B0 := Lib.hid f3
    clear f1 f2 f3
    go_enter Try.func44, Try.ntmps44
    go_wp2_with (first | (refine wpl_row (by rfl) 24 _ rfl _ rfl _ _ _ _ x_0.out rfl Try.underlying24 (by kernel_rfl) ?_) | (refine wpl_row (by rfl) 68 _ rfl _ rfl _ _ _ _ q_0.out rfl Try.underlying68 (by kernel_rfl) ?_))
    refine (HA.out _).mono ?_
    rintro e w1 ⟨rfl, q⟩
    have x_1 := Lib.hid (blk0 x_0.out q)
    have q_1 := Lib.hid (blk0 q_0.out q)
    have B1 := Lib.hid (bel0 B0.out B0.out.size q)
    clear q x_0 q_0 B0
    go_wp2
    go_ret
    exact ⟨ret_bool (decide_eq_false (show ¬ BookedP _ _ from fun h => of_decide_eq_false ha h.1)).symm, B1.out⟩
  have HA := Lib.hid (fun W => all_is ha W)
  unfold W7.val Q4.val at HA
  simp only at HA
  obtain ⟨pb, hpb⟩ : ∃ v, decide (PaidP ⟨b, c, d, m0, m1, m2, p⟩ ⟨es3, eu3, et3, ec3, ea3⟩ 5) = v := ⟨_, rfl⟩
  have HP := Lib.hid (fun W => paid_is hpb W)
  have HPB := Lib.hid hpb
  clear hpb
  unfold W7.val En.val at HP
  simp only at HP
  obtain ⟨f1, f2, f3⟩ := two_boxes w (.cells #[.int .i64 b, .int .i64 c, .int .i64 d, .int .i64 m0, .int .i64 m1, .int .i64 m2, .int .i64 p] 24) (.cells #[.int .i64 es0, .int .i64 eu0, .int .i64 et0, .int .i64 ec0, .int .i64 ea0, .int .i64 es1, .int .i64 eu1, .int .i64 et1, .int .i64 ec1, .int .i64 ea1, .int .i64 es2, .int .i64 eu2, .int .i64 et2, .int .i64 ec2, .int .i64 ea2, .int .i64 es3, .int .i64 eu3, .int .i64 et3, .int .i64 ec3, .int .i64 ea3] 68)
  have x_0 := Lib.hid f1
  have q_0 := Lib.hid f2
  have B0 := Lib.hid f3
  clear f1 f2 f3
  go_enter Try.func44, Try.ntmps44
  go_wp2_with (first | (refine wpl_row (by rfl) 24 _ rfl _ rfl _ _ _ _ x_0.out rfl Try.underlying24 (by kernel_rfl) ?_) | (refine wpl_row (by rfl) 68 _ rfl _ rfl _ _ _ _ q_0.out rfl Try.underlying68 (by kernel_rfl) ?_))
  refine (HA.out _).mono ?_
  rintro e w1 ⟨rfl, q⟩
  have x_1 := Lib.hid (blk0 x_0.out q)
  have q_1 := Lib.hid (blk0 q_0.out q)
  have B1 := Lib.hid (bel0 B0.out B0.out.size q)
  clear q x_0 q_0 B0
  have L1_15 : w1.cell? ⟨(w.heap.size + 1), 15, none⟩ = some (.int .i64 es3) := (cellsB (i := 15) q_1.out).trans rfl
  have L1_16 : w1.cell? ⟨(w.heap.size + 1), 16, none⟩ = some (.int .i64 eu3) := (cellsB (i := 16) q_1.out).trans rfl
  have L1_17 : w1.cell? ⟨(w.heap.size + 1), 17, none⟩ = some (.int .i64 et3) := (cellsB (i := 17) q_1.out).trans rfl
  have L1_18 : w1.cell? ⟨(w.heap.size + 1), 18, none⟩ = some (.int .i64 ec3) := (cellsB (i := 18) q_1.out).trans rfl
  have L1_19 : w1.cell? ⟨(w.heap.size + 1), 19, none⟩ = some (.int .i64 ea3) := (cellsB (i := 19) q_1.out).trans rfl
  go_wp2_with (first | (refine wpl_row (by rfl) 24 _ rfl _ rfl _ _ _ _ x_1.out rfl Try.underlying24 (by kernel_rfl) ?_))
  refine (HP.out _).mono ?_
  rintro e w2 ⟨rfl, q⟩
  have x_2 := Lib.hid (blk0 x_1.out q)
  have q_2 := Lib.hid (blk0 q_1.out q)
  have B2 := Lib.hid (bel0 B1.out B1.out.size q)
  clear q x_1 q_1 B1
  clear L1_15 L1_16 L1_17 L1_18 L1_19
  go_wp2
  go_ret
  refine ⟨ret_bool ?_, B2.out⟩
  rw [← HPB.out]
  exact decide_eq_decide.2 ⟨fun h => ⟨of_decide_eq_true ha, h⟩, fun h => h.2⟩
theorem booked_is {x : W7} {q : Q4} {b : Bool} (h : decide (BookedP x q) = b) (w : World) : Calls Try.prog 44 #[x.val, q.val] w fun e' w' => e' = .returned (.bool b) ∧ Below w.heap.size w w' := h ▸ booked_c x q w
end Go.Proofs.Ytplgodfhhlnojaa
