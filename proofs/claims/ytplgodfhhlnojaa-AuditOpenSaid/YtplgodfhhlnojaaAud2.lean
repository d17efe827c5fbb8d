/- Audits: Nothing, open, walked (printed by gen20a.py). -/
import Derived.Test.YtplgodfhhlnojaaAud1
import Derived.Outline
set_option linter.unusedSimpArgs false
set_option linter.unusedVariables false
namespace Go.Proofs.Ytplgodfhhlnojaa
open Go.RowKit
set_option maxRecDepth 100000 in
set_option maxHeartbeats 2000000 in
theorem nothing_c (q : Q4) (w : World) : Calls Try.prog 46 #[q.val] w fun e' w' => e' = .returned (.bool (decide (NothingP q))) ∧ Below w.heap.size w w' := by
  obtain ⟨⟨es0, eu0, et0, ec0, ea0⟩, ⟨es1, eu1, et1, ec1, ea1⟩, ⟨es2, eu2, et2, ec2, ea2⟩, ⟨es3, eu3, et3, ec3, ea3⟩⟩ := q
  unfold Q4.val
  simp only
  have j0 : ∀ w, (Instr.index 68 (.agg #[.int .i64 es0, .int .i64 eu0, .int .i64 et0, .int .i64 ec0, .int .i64 ea0, .int .i64 es1, .int .i64 eu1, .int .i64 et1, .int .i64 ec1, .int .i64 ea1, .int .i64 es2, .int .i64 eu2, .int .i64 et2, .int .i64 ec2, .int .i64 ea2, .int .i64 es3, .int .i64 eu3, .int .i64 et3, .int .i64 ec3, .int .i64 ea3]) (.int .i64 0)).run Try.prog w = .ok (.agg #[.int .i64 es0, .int .i64 eu0, .int .i64 et0, .int .i64 ec0, .int .i64 ea0]) w := fun _ => by kernel_rfl
  have j1 : ∀ w, (Instr.index 68 (.agg #[.int .i64 es0, .int .i64 eu0, .int .i64 et0, .int .i64 ec0, .int .i64 ea0, .int .i64 es1, .int .i64 eu1, .int .i64 et1, .int .i64 ec1, .int .i64 ea1, .int .i64 es2, .int .i64 eu2, .int .i64 et2, .int .i64 ec2, .int .i64 ea2, .int .i64 es3, .int .i64 eu3, .int .i64 et3, .int .i64 ec3, .int .i64 ea3]) (.int .i64 1)).run Try.prog w = .ok (.agg #[.int .i64 es1, .int .i64 eu1, .int .i64 et1, .int .i64 ec1, .int .i64 ea1]) w := fun _ => by kernel_rfl
  have j2 : ∀ w, (Instr.index 68 (.agg #[.int .i64 es0, .int .i64 eu0, .int .i64 et0, .int .i64 ec0, .int .i64 ea0, .int .i64 es1, .int .i64 eu1, .int .i64 et1, .int .i64 ec1, .int .i64 ea1, .int .i64 es2, .int .i64 eu2, .int .i64 et2, .int .i64 ec2, .int .i64 ea2, .int .i64 es3, .int .i64 eu3, .int .i64 et3, .int .i64 ec3, .int .i64 ea3]) (.int .i64 2)).run Try.prog w = .ok (.agg #[.int .i64 es2, .int .i64 eu2, .int .i64 et2, .int .i64 ec2, .int .i64 ea2]) w := fun _ => by kernel_rfl
  have j3 : ∀ w, (Instr.index 68 (.agg #[.int .i64 es0, .int .i64 eu0, .int .i64 et0, .int .i64 ec0, .int .i64 ea0, .int .i64 es1, .int .i64 eu1, .int .i64 et1, .int .i64 ec1, .int .i64 ea1, .int .i64 es2, .int .i64 eu2, .int .i64 et2, .int .i64 ec2, .int .i64 ea2, .int .i64 es3, .int .i64 eu3, .int .i64 et3, .int .i64 ec3, .int .i64 ea3]) (.int .i64 3)).run Try.prog w = .ok (.agg #[.int .i64 es3, .int .i64 eu3, .int .i64 et3, .int .i64 ec3, .int .i64 ea3]) w := fun _ => by kernel_rfl
  obtain ⟨f1, f3⟩ := one_box w (.cells #[.int .i64 es0, .int .i64 eu0, .int .i64 et0, .int .i64 ec0, .int .i64 ea0, .int .i64 es1, .int .i64 eu1, .int .i64 et1, .int .i64 ec1, .int .i64 ea1, .int .i64 es2, .int .i64 eu2, .int .i64 et2, .int .i64 ec2, .int .i64 ea2, .int .i64 es3, .int .i64 eu3, .int .i64 et3, .int .i64 ec3, .int .i64 ea3] 68)
  have q_0 := Lib.hid f1
  have B0 := Lib.hid f3
  clear f1 f3
  go_enter Try.func46, Try.ntmps46
  go_wp2_with ((refine wpl_row (by rfl) 68 _ rfl _ rfl _ _ _ _ q_0.out rfl Try.underlying68 (by kernel_rfl) ?_))
  go_loopw [6] (fun i wr => ∃ k : Nat, k ≤ 4 ∧ i = .int .i64 k ∧ Hid (((1 ≤ k → GoneE ⟨es0, eu0, et0, ec0, ea0⟩) ∧ (2 ≤ k → GoneE ⟨es1, eu1, et1, ec1, ea1⟩) ∧ (3 ≤ k → GoneE ⟨es2, eu2, et2, ec2, ea2⟩) ∧ (4 ≤ k → GoneE ⟨es3, eu3, et3, ec3, ea3⟩)) ∧ Below w.heap.size w wr)) (fun i _ => 4 - (intOf i).toNat)
  case atStart => exact ⟨0, by omega, rfl, Lib.hid ⟨⟨by omega, by omega, by omega, by omega⟩, B0.out⟩⟩
  case round =>
    obtain ⟨k, hk, rfl, HS⟩ := hrel
    clear q_0 B0
    have : k = 0 ∨ k = 1 ∨ k = 2 ∨ k = 3 ∨ k = 4 := by omega
    rcases this with rfl | rfl | rfl | rfl | rfl
    · skip
      by_cases g1 : es0 = 1
      · skip
        have b1 : (es0 == 1) = true := by simp [g1]
        have G1 := Lib.hid g1
        clear g1
        go_wp2
        go_ret
        refine ⟨ret_bool (decide_eq_false (show ¬ NothingP _ from fun h => h.1.1 G1.out)).symm, ?_⟩
        exact HS.out.2.alloc HS.out.2.size _
      have b1 : (es0 == 1) = false := beq_eq_false_iff_ne.2 g1
      by_cases g2 : es0 = 2
      · skip
        have b2 : (es0 == 2) = true := by simp [g2]
        have G2 := Lib.hid g2
        clear g2
        go_wp2
        go_ret
        refine ⟨ret_bool (decide_eq_false (show ¬ NothingP _ from fun h => h.1.2.1 G2.out)).symm, ?_⟩
        exact HS.out.2.alloc HS.out.2.size _
      have b2 : (es0 == 2) = false := beq_eq_false_iff_ne.2 g2
      by_cases g4 : es0 = 4
      · skip
        have b4 : (es0 == 4) = true := by simp [g4]
        have G4 := Lib.hid g4
        clear g4
        go_wp2
        go_ret
        refine ⟨ret_bool (decide_eq_false (show ¬ NothingP _ from fun h => h.1.2.2.1 G4.out)).symm, ?_⟩
        exact HS.out.2.alloc HS.out.2.size _
      have b4 : (es0 == 4) = false := beq_eq_false_iff_ne.2 g4
      by_cases g5 : es0 = 5
      · skip
        have b5 : (es0 == 5) = true := by simp [g5]
        have G5 := Lib.hid g5
        clear g5
        go_wp2
        go_ret
        refine ⟨ret_bool (decide_eq_false (show ¬ NothingP _ from fun h => h.1.2.2.2 G5.out)).symm, ?_⟩
        exact HS.out.2.alloc HS.out.2.size _
      have b5 : (es0 == 5) = false := beq_eq_false_iff_ne.2 g5
      go_wp2
      go_roundw
      case rel => exact ⟨1, by omega, by first | rfl | go_num, Lib.hid ⟨⟨fun _ => ⟨g1, g2, g4, g5⟩, by omega, by omega, by omega⟩, HS.out.2.alloc HS.out.2.size _⟩⟩
      case measure => simp [intOf]
    · skip
      by_cases g1 : es1 = 1
      · skip
        have b1 : (es1 == 1) = true := by simp [g1]
        have G1 := Lib.hid g1
        clear g1
        go_wp2
        go_ret
        refine ⟨ret_bool (decide_eq_false (show ¬ NothingP _ from fun h => h.2.1.1 G1.out)).symm, ?_⟩
        exact HS.out.2.alloc HS.out.2.size _
      have b1 : (es1 == 1) = false := beq_eq_false_iff_ne.2 g1
      by_cases g2 : es1 = 2
      · skip
        have b2 : (es1 == 2) = true := by simp [g2]
        have G2 := Lib.hid g2
        clear g2
        go_wp2
        go_ret
        refine ⟨ret_bool (decide_eq_false (show ¬ NothingP _ from fun h => h.2.1.2.1 G2.out)).symm, ?_⟩
        exact HS.out.2.alloc HS.out.2.size _
      have b2 : (es1 == 2) = false := beq_eq_false_iff_ne.2 g2
      by_cases g4 : es1 = 4
      · skip
        have b4 : (es1 == 4) = true := by simp [g4]
        have G4 := Lib.hid g4
        clear g4
        go_wp2
        go_ret
        refine ⟨ret_bool (decide_eq_false (show ¬ NothingP _ from fun h => h.2.1.2.2.1 G4.out)).symm, ?_⟩
        exact HS.out.2.alloc HS.out.2.size _
      have b4 : (es1 == 4) = false := beq_eq_false_iff_ne.2 g4
      by_cases g5 : es1 = 5
      · skip
        have b5 : (es1 == 5) = true := by simp [g5]
        have G5 := Lib.hid g5
        clear g5
        go_wp2
        go_ret
        refine ⟨ret_bool (decide_eq_false (show ¬ NothingP _ from fun h => h.2.1.2.2.2 G5.out)).symm, ?_⟩
        exact HS.out.2.alloc HS.out.2.size _
      have b5 : (es1 == 5) = false := beq_eq_false_iff_ne.2 g5
      go_wp2
      go_roundw
      case rel => exact ⟨2, by omega, by first | rfl | go_num, Lib.hid ⟨⟨fun _ => HS.out.1.1 (by omega), fun _ => ⟨g1, g2, g4, g5⟩, by omega, by omega⟩, HS.out.2.alloc HS.out.2.size _⟩⟩
      case measure => simp [intOf]
    · skip
      by_cases g1 : es2 = 1
      · skip
        have b1 : (es2 == 1) = true := by simp [g1]
        have G1 := Lib.hid g1
        clear g1
        go_wp2
        go_ret
        refine ⟨ret_bool (decide_eq_false (show ¬ NothingP _ from fun h => h.2.2.1.1 G1.out)).symm, ?_⟩
        exact HS.out.2.alloc HS.out.2.size _
      have b1 : (es2 == 1) = false := beq_eq_false_iff_ne.2 g1
      by_cases g2 : es2 = 2
      · skip
        have b2 : (es2 == 2) = true := by simp [g2]
        have G2 := Lib.hid g2
        clear g2
        go_wp2
        go_ret
        refine ⟨ret_bool (decide_eq_false (show ¬ NothingP _ from fun h => h.2.2.1.2.1 G2.out)).symm, ?_⟩
        exact HS.out.2.alloc HS.out.2.size _
      have b2 : (es2 == 2) = false := beq_eq_false_iff_ne.2 g2
      by_cases g4 : es2 = 4
      · skip
        have b4 : (es2 == 4) = true := by simp [g4]
        have G4 := Lib.hid g4
        clear g4
        go_wp2
        go_ret
        refine ⟨ret_bool (decide_eq_false (show ¬ NothingP _ from fun h => h.2.2.1.2.2.1 G4.out)).symm, ?_⟩
        exact HS.out.2.alloc HS.out.2.size _
      have b4 : (es2 == 4) = false := beq_eq_false_iff_ne.2 g4
      by_cases g5 : es2 = 5
      · skip
        have b5 : (es2 == 5) = true := by simp [g5]
        have G5 := Lib.hid g5
        clear g5
        go_wp2
        go_ret
        refine ⟨ret_bool (decide_eq_false (show ¬ NothingP _ from fun h => h.2.2.1.2.2.2 G5.out)).symm, ?_⟩
        exact HS.out.2.alloc HS.out.2.size _
      have b5 : (es2 == 5) = false := beq_eq_false_iff_ne.2 g5
      go_wp2
      go_roundw
      case rel => exact ⟨3, by omega, by first | rfl | go_num, Lib.hid ⟨⟨fun _ => HS.out.1.1 (by omega), fun _ => HS.out.1.2.1 (by omega), fun _ => ⟨g1, g2, g4, g5⟩, by omega⟩, HS.out.2.alloc HS.out.2.size _⟩⟩
      case measure => simp [intOf]
    · skip
      by_cases g1 : es3 = 1
      · skip
        have b1 : (es3 == 1) = true := by simp [g1]
        have G1 := Lib.hid g1
        clear g1
        go_wp2
        go_ret
        refine ⟨ret_bool (decide_eq_false (show ¬ NothingP _ from fun h => h.2.2.2.1 G1.out)).symm, ?_⟩
        exact HS.out.2.alloc HS.out.2.size _
      have b1 : (es3 == 1) = false := beq_eq_false_iff_ne.2 g1
      by_cases g2 : es3 = 2
      · skip
        have b2 : (es3 == 2) = true := by simp [g2]
        have G2 := Lib.hid g2
        clear g2
        go_wp2
        go_ret
        refine ⟨ret_bool (decide_eq_false (show ¬ NothingP _ from fun h => h.2.2.2.2.1 G2.out)).symm, ?_⟩
        exact HS.out.2.alloc HS.out.2.size _
      have b2 : (es3 == 2) = false := beq_eq_false_iff_ne.2 g2
      by_cases g4 : es3 = 4
      · skip
        have b4 : (es3 == 4) = true := by simp [g4]
        have G4 := Lib.hid g4
        clear g4
        go_wp2
        go_ret
        refine ⟨ret_bool (decide_eq_false (show ¬ NothingP _ from fun h => h.2.2.2.2.2.1 G4.out)).symm, ?_⟩
        exact HS.out.2.alloc HS.out.2.size _
      have b4 : (es3 == 4) = false := beq_eq_false_iff_ne.2 g4
      by_cases g5 : es3 = 5
      · skip
        have b5 : (es3 == 5) = true := by simp [g5]
        have G5 := Lib.hid g5
        clear g5
        go_wp2
        go_ret
        refine ⟨ret_bool (decide_eq_false (show ¬ NothingP _ from fun h => h.2.2.2.2.2.2 G5.out)).symm, ?_⟩
        exact HS.out.2.alloc HS.out.2.size _
      have b5 : (es3 == 5) = false := beq_eq_false_iff_ne.2 g5
      go_wp2
      go_roundw
      case rel => exact ⟨4, by omega, by first | rfl | go_num, Lib.hid ⟨⟨fun _ => HS.out.1.1 (by omega), fun _ => HS.out.1.2.1 (by omega), fun _ => HS.out.1.2.2.1 (by omega), fun _ => ⟨g1, g2, g4, g5⟩⟩, HS.out.2.alloc HS.out.2.size _⟩⟩
      case measure => simp [intOf]
    · skip
      go_wp2
      go_ret
      exact ⟨ret_bool (decide_eq_true (show NothingP _ from ⟨HS.out.1.1 (by omega), HS.out.1.2.1 (by omega), HS.out.1.2.2.1 (by omega), HS.out.1.2.2.2 (by omega)⟩)).symm, HS.out.2⟩
theorem nothing_is {q : Q4} {b : Bool} (h : decide (NothingP q) = b) (w : World) : Calls Try.prog 46 #[q.val] w fun e' w' => e' = .returned (.bool b) ∧ Below w.heap.size w w' := h ▸ nothing_c q w
set_option maxRecDepth 100000 in
set_option maxHeartbeats 4000000 in
theorem open_c (x : W7) (q : Q4) (w : World) : Calls Try.prog 88 #[x.val, q.val] w fun e' w' => e' = .returned (.bool (decide (OpenP x q))) ∧ Below w.heap.size w w' := by
  obtain ⟨b, c, d, m0, m1, m2, p⟩ := x
  obtain ⟨⟨es0, eu0, et0, ec0, ea0⟩, ⟨es1, eu1, et1, ec1, ea1⟩, ⟨es2, eu2, et2, ec2, ea2⟩, ⟨es3, eu3, et3, ec3, ea3⟩⟩ := q
  unfold W7.val Q4.val
  simp only
  have i0 : ∀ w, (Instr.index 22 (.agg #[.int .i64 m0, .int .i64 m1, .int .i64 m2]) (.int .i64 0)).run Try.prog w = .ok (.int .i64 m0) w := fun _ => by kernel_rfl
  have i1 : ∀ w, (Instr.index 22 (.agg #[.int .i64 m0, .int .i64 m1, .int .i64 m2]) (.int .i64 1)).run Try.prog w = .ok (.int .i64 m1) w := fun _ => by kernel_rfl
  have i2 : ∀ w, (Instr.index 22 (.agg #[.int .i64 m0, .int .i64 m1, .int .i64 m2]) (.int .i64 2)).run Try.prog w = .ok (.int .i64 m2) w := fun _ => by kernel_rfl
  obtain ⟨f1, f2, f3⟩ := two_boxes w (.cells #[.int .i64 b, .int .i64 c, .int .i64 d, .int .i64 m0, .int .i64 m1, .int .i64 m2, .int .i64 p] 24) (.cells #[.int .i64 es0, .int .i64 eu0, .int .i64 et0, .int .i64 ec0, .int .i64 ea0, .int .i64 es1, .int .i64 eu1, .int .i64 et1, .int .i64 ec1, .int .i64 ea1, .int .i64 es2, .int .i64 eu2, .int .i64 et2, .int .i64 ec2, .int .i64 ea2, .int .i64 es3, .int .i64 eu3, .int .i64 et3, .int .i64 ec3, .int .i64 ea3] 68)
  have x_0 := Lib.hid f1
  have q_0 := Lib.hid f2
  have B0 := Lib.hid f3
  clear f1 f2 f3
  obtain ⟨pb, hpb⟩ : ∃ v, decide (PaidP ⟨b, c, d, m0, m1, m2, p⟩ ⟨es3, eu3, et3, ec3, ea3⟩ 4) = v := ⟨_, rfl⟩
  have HP := Lib.hid (fun W => paid_is hpb W)
  have HPB := Lib.hid hpb
  clear hpb
  unfold W7.val En.val at HP
  simp only at HP
  go_enter Try.func88, Try.ntmps88
  have L1_3 : ((w.alloc (.cells #[.int .i64 b, .int .i64 c, .int .i64 d, .int .i64 m0, .int .i64 m1, .int .i64 m2, .int .i64 p] 24)).alloc (.cells #[.int .i64 es0, .int .i64 eu0, .int .i64 et0, .int .i64 ec0, .int .i64 ea0, .int .i64 es1, .int .i64 eu1, .int .i64 et1, .int .i64 ec1, .int .i64 ea1, .int .i64 es2, .int .i64 eu2, .int .i64 et2, .int .i64 ec2, .int .i64 ea2, .int .i64 es3, .int .i64 eu3, .int .i64 et3, .int .i64 ec3, .int .i64 ea3] 68)).cell? ⟨w.heap.size, 3, none⟩ = some (.int .i64 m0) := (cellsB (i := 3) x_0.out).trans rfl
  have L1_4 : ((w.alloc (.cells #[.int .i64 b, .int .i64 c, .int .i64 d, .int .i64 m0, .int .i64 m1, .int .i64 m2, .int .i64 p] 24)).alloc (.cells #[.int .i64 es0, .int .i64 eu0, .int .i64 et0, .int .i64 ec0, .int .i64 ea0, .int .i64 es1, .int .i64 eu1, .int .i64 et1, .int .i64 ec1, .int .i64 ea1, .int .i64 es2, .int .i64 eu2, .int .i64 et2, .int .i64 ec2, .int .i64 ea2, .int .i64 es3, .int .i64 eu3, .int .i64 et3, .int .i64 ec3, .int .i64 ea3] 68)).cell? ⟨w.heap.size, 4, none⟩ = some (.int .i64 m1) := (cellsB (i := 4) x_0.out).trans rfl
  have L1_5 : ((w.alloc (.cells #[.int .i64 b, .int .i64 c, .int .i64 d, .int .i64 m0, .int .i64 m1, .int .i64 m2, .int .i64 p] 24)).alloc (.cells #[.int .i64 es0, .int .i64 eu0, .int .i64 et0, .int .i64 ec0, .int .i64 ea0, .int .i64 es1, .int .i64 eu1, .int .i64 et1, .int .i64 ec1, .int .i64 ea1, .int .i64 es2, .int .i64 eu2, .int .i64 et2, .int .i64 ec2, .int .i64 ea2, .int .i64 es3, .int .i64 eu3, .int .i64 et3, .int .i64 ec3, .int .i64 ea3] 68)).cell? ⟨w.heap.size, 5, none⟩ = some (.int .i64 m2) := (cellsB (i := 5) x_0.out).trans rfl
  go_wp2_with fail
  clear L1_3 L1_4 L1_5
  go_loopw [11] (fun i wr => ∃ k : Nat, k ≤ 3 ∧ i = .int .i64 k ∧ Hid (((1 ≤ k → OpenE m0 ⟨es0, eu0, et0, ec0, ea0⟩) ∧ (2 ≤ k → OpenE m1 ⟨es1, eu1, et1, ec1, ea1⟩) ∧ (3 ≤ k → OpenE m2 ⟨es2, eu2, et2, ec2, ea2⟩)) ∧ wr.heap[w.heap.size]? = some (.cells #[.int .i64 b, .int .i64 c, .int .i64 d, .int .i64 m0, .int .i64 m1, .int .i64 m2, .int .i64 p] 24 (0, 0)) ∧ wr.heap[w.heap.size + 1]? = some (.cells #[.int .i64 es0, .int .i64 eu0, .int .i64 et0, .int .i64 ec0, .int .i64 ea0, .int .i64 es1, .int .i64 eu1, .int .i64 et1, .int .i64 ec1, .int .i64 ea1, .int .i64 es2, .int .i64 eu2, .int .i64 et2, .int .i64 ec2, .int .i64 ea2, .int .i64 es3, .int .i64 eu3, .int .i64 et3, .int .i64 ec3, .int .i64 ea3] 68 (0, 0)) ∧ Below w.heap.size w wr)) (fun i _ => 3 - (intOf i).toNat)
  case atStart => exact ⟨0, by omega, rfl, Lib.hid ⟨⟨by omega, by omega, by omega⟩, x_0.out, q_0.out, B0.out⟩⟩
  case round =>
    obtain ⟨k, hk, rfl, HS⟩ := hrel
    clear x_0 q_0 B0
    have : k = 0 ∨ k = 1 ∨ k = 2 ∨ k = 3 := by omega
    rcases this with rfl | rfl | rfl | rfl
    · skip
      have c0 : wr.cell? ⟨w.heap.size + 1, 0, none⟩ = some (.int .i64 es0) := (cellsB (i := 0) HS.out.2.2.1).trans rfl
      have c1 : wr.cell? ⟨w.heap.size + 1, 1, none⟩ = some (.int .i64 eu0) := (cellsB (i := 1) HS.out.2.2.1).trans rfl
      have c2 : wr.cell? ⟨w.heap.size + 1, 2, none⟩ = some (.int .i64 et0) := (cellsB (i := 2) HS.out.2.2.1).trans rfl
      have c3 : wr.cell? ⟨w.heap.size + 1, 3, none⟩ = some (.int .i64 ec0) := (cellsB (i := 3) HS.out.2.2.1).trans rfl
      have c4 : wr.cell? ⟨w.heap.size + 1, 4, none⟩ = some (.int .i64 ea0) := (cellsB (i := 4) HS.out.2.2.1).trans rfl
      by_cases g1 : es0 = 1
      · skip
        have b1 : (es0 == 1) = true := by simp [g1]
        have GV := Lib.hid (show es0 = 1 ∨ es0 = 2 from by omega)
        clear g1
        by_cases hu : eu0 = m0
        · skip
          have bu : (eu0 != m0) = false := by simp [hu]
          have bu2 : (eu0 == m0) = true := by simp [hu]
          have HU := Lib.hid hu
          clear hu
          go_wp2
          go_roundw
          case rel => exact ⟨1, by omega, by first | rfl | go_num, Lib.hid ⟨⟨fun _ => (fun _ => HU.out), by omega, by omega⟩, alc HS.out.2.1, alc HS.out.2.2.1, HS.out.2.2.2.alloc HS.out.2.2.2.size _⟩⟩
          case measure => simp [intOf]
        have bu : (eu0 != m0) = true := by simp [hu]
        have bu2 : (eu0 == m0) = false := beq_eq_false_iff_ne.2 hu
        go_wp2
        go_ret
        refine ⟨ret_bool (decide_eq_false (show ¬ OpenP _ _ from fun h => hu (h.1 GV.out))).symm, HS.out.2.2.2.alloc HS.out.2.2.2.size _⟩
      have b1 : (es0 == 1) = false := beq_eq_false_iff_ne.2 g1
      by_cases g2 : es0 = 2
      · skip
        have b2 : (es0 == 2) = true := by simp [g2]
        have GV := Lib.hid (show es0 = 1 ∨ es0 = 2 from by omega)
        clear g2
        by_cases hu : eu0 = m0
        · skip
          have bu : (eu0 != m0) = false := by simp [hu]
          have bu2 : (eu0 == m0) = true := by simp [hu]
          have HU := Lib.hid hu
          clear hu
          go_wp2
          go_roundw
          case rel => exact ⟨1, by omega, by first | rfl | go_num, Lib.hid ⟨⟨fun _ => (fun _ => HU.out), by omega, by omega⟩, alc HS.out.2.1, alc HS.out.2.2.1, HS.out.2.2.2.alloc HS.out.2.2.2.size _⟩⟩
          case measure => simp [intOf]
        have bu : (eu0 != m0) = true := by simp [hu]
        have bu2 : (eu0 == m0) = false := beq_eq_false_iff_ne.2 hu
        go_wp2
        go_ret
        refine ⟨ret_bool (decide_eq_false (show ¬ OpenP _ _ from fun h => hu (h.1 GV.out))).symm, HS.out.2.2.2.alloc HS.out.2.2.2.size _⟩
      have b2 : (es0 == 2) = false := beq_eq_false_iff_ne.2 g2
      go_wp2
      go_roundw
      case rel => exact ⟨1, by omega, by first | rfl | go_num, Lib.hid ⟨⟨fun _ => (fun h => h.elim (fun h => absurd h g1) (fun h => absurd h g2)), by omega, by omega⟩, alc HS.out.2.1, alc HS.out.2.2.1, HS.out.2.2.2.alloc HS.out.2.2.2.size _⟩⟩
      case measure => simp [intOf]
    · skip
      have c0 : wr.cell? ⟨w.heap.size + 1, 5, none⟩ = some (.int .i64 es1) := (cellsB (i := 5) HS.out.2.2.1).trans rfl
      have c1 : wr.cell? ⟨w.heap.size + 1, 6, none⟩ = some (.int .i64 eu1) := (cellsB (i := 6) HS.out.2.2.1).trans rfl
      have c2 : wr.cell? ⟨w.heap.size + 1, 7, none⟩ = some (.int .i64 et1) := (cellsB (i := 7) HS.out.2.2.1).trans rfl
      have c3 : wr.cell? ⟨w.heap.size + 1, 8, none⟩ = some (.int .i64 ec1) := (cellsB (i := 8) HS.out.2.2.1).trans rfl
      have c4 : wr.cell? ⟨w.heap.size + 1, 9, none⟩ = some (.int .i64 ea1) := (cellsB (i := 9) HS.out.2.2.1).trans rfl
      by_cases g1 : es1 = 1
      · skip
        have b1 : (es1 == 1) = true := by simp [g1]
        have GV := Lib.hid (show es1 = 1 ∨ es1 = 2 from by omega)
        clear g1
        by_cases hu : eu1 = m1
        · skip
          have bu : (eu1 != m1) = false := by simp [hu]
          have bu2 : (eu1 == m1) = true := by simp [hu]
          have HU := Lib.hid hu
          clear hu
          go_wp2
          go_roundw
          case rel => exact ⟨2, by omega, by first | rfl | go_num, Lib.hid ⟨⟨fun _ => HS.out.1.1 (by omega), fun _ => (fun _ => HU.out), by omega⟩, alc HS.out.2.1, alc HS.out.2.2.1, HS.out.2.2.2.alloc HS.out.2.2.2.size _⟩⟩
          case measure => simp [intOf]
        have bu : (eu1 != m1) = true := by simp [hu]
        have bu2 : (eu1 == m1) = false := beq_eq_false_iff_ne.2 hu
        go_wp2
        go_ret
        refine ⟨ret_bool (decide_eq_false (show ¬ OpenP _ _ from fun h => hu (h.2.1 GV.out))).symm, HS.out.2.2.2.alloc HS.out.2.2.2.size _⟩
      have b1 : (es1 == 1) = false := beq_eq_false_iff_ne.2 g1
      by_cases g2 : es1 = 2
      · skip
        have b2 : (es1 == 2) = true := by simp [g2]
        have GV := Lib.hid (show es1 = 1 ∨ es1 = 2 from by omega)
        clear g2
        by_cases hu : eu1 = m1
        · skip
          have bu : (eu1 != m1) = false := by simp [hu]
          have bu2 : (eu1 == m1) = true := by simp [hu]
          have HU := Lib.hid hu
          clear hu
          go_wp2
          go_roundw
          case rel => exact ⟨2, by omega, by first | rfl | go_num, Lib.hid ⟨⟨fun _ => HS.out.1.1 (by omega), fun _ => (fun _ => HU.out), by omega⟩, alc HS.out.2.1, alc HS.out.2.2.1, HS.out.2.2.2.alloc HS.out.2.2.2.size _⟩⟩
          case measure => simp [intOf]
        have bu : (eu1 != m1) = true := by simp [hu]
        have bu2 : (eu1 == m1) = false := beq_eq_false_iff_ne.2 hu
        go_wp2
        go_ret
        refine ⟨ret_bool (decide_eq_false (show ¬ OpenP _ _ from fun h => hu (h.2.1 GV.out))).symm, HS.out.2.2.2.alloc HS.out.2.2.2.size _⟩
      have b2 : (es1 == 2) = false := beq_eq_false_iff_ne.2 g2
      go_wp2
      go_roundw
      case rel => exact ⟨2, by omega, by first | rfl | go_num, Lib.hid ⟨⟨fun _ => HS.out.1.1 (by omega), fun _ => (fun h => h.elim (fun h => absurd h g1) (fun h => absurd h g2)), by omega⟩, alc HS.out.2.1, alc HS.out.2.2.1, HS.out.2.2.2.alloc HS.out.2.2.2.size _⟩⟩
      case measure => simp [intOf]
    · skip
      have c0 : wr.cell? ⟨w.heap.size + 1, 10, none⟩ = some (.int .i64 es2) := (cellsB (i := 10) HS.out.2.2.1).trans rfl
      have c1 : wr.cell? ⟨w.heap.size + 1, 11, none⟩ = some (.int .i64 eu2) := (cellsB (i := 11) HS.out.2.2.1).trans rfl
      have c2 : wr.cell? ⟨w.heap.size + 1, 12, none⟩ = some (.int .i64 et2) := (cellsB (i := 12) HS.out.2.2.1).trans rfl
      have c3 : wr.cell? ⟨w.heap.size + 1, 13, none⟩ = some (.int .i64 ec2) := (cellsB (i := 13) HS.out.2.2.1).trans rfl
      have c4 : wr.cell? ⟨w.heap.size + 1, 14, none⟩ = some (.int .i64 ea2) := (cellsB (i := 14) HS.out.2.2.1).trans rfl
      by_cases g1 : es2 = 1
      · skip
        have b1 : (es2 == 1) = true := by simp [g1]
        have GV := Lib.hid (show es2 = 1 ∨ es2 = 2 from by omega)
        clear g1
        by_cases hu : eu2 = m2
        · skip
          have bu : (eu2 != m2) = false := by simp [hu]
          have bu2 : (eu2 == m2) = true := by simp [hu]
          have HU := Lib.hid hu
          clear hu
          go_wp2
          go_roundw
          case rel => exact ⟨3, by omega, by first | rfl | go_num, Lib.hid ⟨⟨fun _ => HS.out.1.1 (by omega), fun _ => HS.out.1.2.1 (by omega), fun _ => (fun _ => HU.out)⟩, alc HS.out.2.1, alc HS.out.2.2.1, HS.out.2.2.2.alloc HS.out.2.2.2.size _⟩⟩
          case measure => simp [intOf]
        have bu : (eu2 != m2) = true := by simp [hu]
        have bu2 : (eu2 == m2) = false := beq_eq_false_iff_ne.2 hu
        go_wp2
        go_ret
        refine ⟨ret_bool (decide_eq_false (show ¬ OpenP _ _ from fun h => hu (h.2.2.1 GV.out))).symm, HS.out.2.2.2.alloc HS.out.2.2.2.size _⟩
      have b1 : (es2 == 1) = false := beq_eq_false_iff_ne.2 g1
      by_cases g2 : es2 = 2
      · skip
        have b2 : (es2 == 2) = true := by simp [g2]
        have GV := Lib.hid (show es2 = 1 ∨ es2 = 2 from by omega)
        clear g2
        by_cases hu : eu2 = m2
        · skip
          have bu : (eu2 != m2) = false := by simp [hu]
          have bu2 : (eu2 == m2) = true := by simp [hu]
          have HU := Lib.hid hu
          clear hu
          go_wp2
          go_roundw
          case rel => exact ⟨3, by omega, by first | rfl | go_num, Lib.hid ⟨⟨fun _ => HS.out.1.1 (by omega), fun _ => HS.out.1.2.1 (by omega), fun _ => (fun _ => HU.out)⟩, alc HS.out.2.1, alc HS.out.2.2.1, HS.out.2.2.2.alloc HS.out.2.2.2.size _⟩⟩
          case measure => simp [intOf]
        have bu : (eu2 != m2) = true := by simp [hu]
        have bu2 : (eu2 == m2) = false := beq_eq_false_iff_ne.2 hu
        go_wp2
        go_ret
        refine ⟨ret_bool (decide_eq_false (show ¬ OpenP _ _ from fun h => hu (h.2.2.1 GV.out))).symm, HS.out.2.2.2.alloc HS.out.2.2.2.size _⟩
      have b2 : (es2 == 2) = false := beq_eq_false_iff_ne.2 g2
      go_wp2
      go_roundw
      case rel => exact ⟨3, by omega, by first | rfl | go_num, Lib.hid ⟨⟨fun _ => HS.out.1.1 (by omega), fun _ => HS.out.1.2.1 (by omega), fun _ => (fun h => h.elim (fun h => absurd h g1) (fun h => absurd h g2))⟩, alc HS.out.2.1, alc HS.out.2.2.1, HS.out.2.2.2.alloc HS.out.2.2.2.size _⟩⟩
      case measure => simp [intOf]
    · skip
      have c0 : wr.cell? ⟨w.heap.size + 1, 15, none⟩ = some (.int .i64 es3) := (cellsB (i := 15) HS.out.2.2.1).trans rfl
      have c1 : wr.cell? ⟨w.heap.size + 1, 16, none⟩ = some (.int .i64 eu3) := (cellsB (i := 16) HS.out.2.2.1).trans rfl
      have c2 : wr.cell? ⟨w.heap.size + 1, 17, none⟩ = some (.int .i64 et3) := (cellsB (i := 17) HS.out.2.2.1).trans rfl
      have c3 : wr.cell? ⟨w.heap.size + 1, 18, none⟩ = some (.int .i64 ec3) := (cellsB (i := 18) HS.out.2.2.1).trans rfl
      have c4 : wr.cell? ⟨w.heap.size + 1, 19, none⟩ = some (.int .i64 ea3) := (cellsB (i := 19) HS.out.2.2.1).trans rfl
      have hx := HS.out.2.1
      by_cases g5 : es3 = 5
      · skip
        have b5 : (es3 == 5) = true := by simp [g5]
        have n5 : (es3 != 5) = false := by simp [g5]
        have G5 := Lib.hid g5
        clear g5
        go_wp2
        go_ret
        exact ⟨ret_bool (decide_eq_false (show ¬ OpenP _ _ from fun h => h.2.2.2.1 G5.out)).symm, HS.out.2.2.2.alloc HS.out.2.2.2.size _⟩
      have b5 : (es3 == 5) = false := beq_eq_false_iff_ne.2 g5
      have n5 : (es3 != 5) = true := by simp [g5]
      by_cases g4 : es3 = 4
      · skip
        have b4 : (es3 == 4) = true := by simp [g4]
        have n4 : (es3 != 4) = false := by simp [g4]
        have G4 := Lib.hid g4
        clear g4
        have HX := Lib.hid (alc (o := .cells #[.int .i64 es3, .int .i64 eu3, .int .i64 et3, .int .i64 ec3, .int .i64 ea3] 67) HS.out.2.1)
        clear hx
        go_wp2_with (first | (refine wpl_row (by rfl) 24 _ rfl _ rfl _ _ _ _ HX.out rfl Try.underlying24 (by kernel_rfl) ?_) | (refine wpl_row (by rfl) 67 _ rfl _ rfl _ _ _ _ (heap_alloc_new wr (.cells #[.int .i64 es3, .int .i64 eu3, .int .i64 et3, .int .i64 ec3, .int .i64 ea3] 67)) rfl Try.underlying67 (by kernel_rfl) ?_))
        refine (HP.out _).mono ?_
        rintro e w5 ⟨rfl, q5⟩
        have B5 := Lib.hid (bel1 HS.out.2.2.2 HS.out.2.2.2.size q5)
        clear q5
        go_wp2
        go_ret
        refine ⟨ret_bool ?_, B5.out⟩
        rw [← HPB.out]
        exact decide_eq_decide.2 ⟨fun h => ⟨HS.out.1.1 (by omega), HS.out.1.2.1 (by omega), HS.out.1.2.2 (by omega), g5, fun _ => h⟩, fun h => h.2.2.2.2 G4.out⟩
      have b4 : (es3 == 4) = false := beq_eq_false_iff_ne.2 g4
      have n4 : (es3 != 4) = true := by simp [g4]
      go_wp2
      go_ret
      exact ⟨ret_bool (decide_eq_true (show OpenP _ _ from ⟨HS.out.1.1 (by omega), HS.out.1.2.1 (by omega), HS.out.1.2.2 (by omega), g5, fun h => absurd h g4⟩)).symm, HS.out.2.2.2.alloc HS.out.2.2.2.size _⟩
theorem open_is {x : W7} {q : Q4} {b : Bool} (h : decide (OpenP x q) = b) (w : World) : Calls Try.prog 88 #[x.val, q.val] w fun e' w' => e' = .returned (.bool b) ∧ Below w.heap.size w w' := h ▸ open_c x q w
end Go.Proofs.Ytplgodfhhlnojaa
