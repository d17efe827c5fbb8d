/- Audits: Right, walked (printed by gen20a.py). -/
import Derived.Test.YtplgodfhhlnojaaAud2
import Derived.Test.YtplgodfhhlnojaaSagaF
import Derived.Outline
set_option linter.unusedSimpArgs false
set_option linter.unusedVariables false
namespace Go.Proofs.Ytplgodfhhlnojaa
open Go.RowKit
set_option maxRecDepth 100000 in
set_option maxHeartbeats 4000000 in
theorem right_c (s : S11) (q : Q4) (w : World) : Calls Try.prog 48 #[s.val, q.val] w fun e' w' => e' = .returned (.bool (decide (RightP s q))) ∧ Below w.heap.size w w' := by
  obtain ⟨⟨b, c, d, m0, m1, m2, p⟩, ph, st, re, si⟩ := s
  obtain ⟨⟨es0, eu0, et0, ec0, ea0⟩, ⟨es1, eu1, et1, ec1, ea1⟩, ⟨es2, eu2, et2, ec2, ea2⟩, ⟨es3, eu3, et3, ec3, ea3⟩⟩ := q
  cases hm : decide (MayS ⟨⟨b, c, d, m0, m1, m2, p⟩, ph, st, re, si⟩)
  · skip
    unfold S11.val Q4.val
    simp only
    have HM := Lib.hid (fun W => smay_is ⟨⟨b, c, d, m0, m1, m2, p⟩, ph, st, re, si⟩ false hm W)
    have HMB := Lib.hid hm
    clear hm
    unfold S11.val at HM
    simp only at HM
    obtain ⟨f1, f2, f3⟩ := two_boxes w (.cells #[.int .i64 b, .int .i64 c, .int .i64 d, .int .i64 m0, .int .i64 m1, .int .i64 m2, .int .i64 p, .int .i64 ph, .int .i64 st, .int .i64 re, .int .i64 si] 26) (.cells #[.int .i64 es0, .int .i64 eu0, .int .i64 et0, .int .i64 ec0, .int .i64 ea0, .int .i64 es1, .int .i64 eu1, .int .i64 et1, .int .i64 ec1, .int .i64 ea1, .int .i64 es2, .int .i64 eu2, .int .i64 et2, .int .i64 ec2, .int .i64 ea2, .int .i64 es3, .int .i64 eu3, .int .i64 et3, .int .i64 ec3, .int .i64 ea3] 68)
    have s_0 := Lib.hid f1
    have q_0 := Lib.hid f2
    have B0 := Lib.hid f3
    clear f1 f2 f3
    go_enter Try.func48, Try.ntmps48
    go_wp2_with (first | (refine wpl_row (by rfl) 26 _ rfl _ rfl _ _ _ _ s_0.out rfl Try.underlying26 (by kernel_rfl) ?_))
    refine (HM.out _).mono ?_
    rintro e w1 ⟨rfl, q⟩
    have s_1 := Lib.hid (blk0 s_0.out q)
    have q_1 := Lib.hid (blk0 q_0.out q)
    have B1 := Lib.hid (bel0 B0.out B0.out.size q)
    clear q s_0 q_0 B0
    go_wp2
    go_ret
    exact ⟨ret_bool (decide_eq_false (show ¬ RightP _ _ from fun h => of_decide_eq_false HMB.out h.1)).symm, B1.out⟩
  by_cases p4 : ph = 4
  · skip
    subst p4
    unfold S11.val Q4.val
    simp only
    have HM := Lib.hid (fun W => smay_is ⟨⟨b, c, d, m0, m1, m2, p⟩, 4, st, re, si⟩ true hm W)
    have HMB := Lib.hid hm
    clear hm
    unfold S11.val at HM
    simp only at HM
    obtain ⟨r, hr⟩ : ∃ v, decide (BookedP ⟨b, c, d, m0, m1, m2, p⟩ ⟨⟨es0, eu0, et0, ec0, ea0⟩, ⟨es1, eu1, et1, ec1, ea1⟩, ⟨es2, eu2, et2, ec2, ea2⟩, ⟨es3, eu3, et3, ec3, ea3⟩⟩) = v := ⟨_, rfl⟩
    have HX := Lib.hid (fun W => booked_is hr W)
    unfold W7.val Q4.val at HX
    simp only at HX
    have HR := Lib.hid hr
    clear hr
    obtain ⟨f1, f2, f3⟩ := two_boxes w (.cells #[.int .i64 b, .int .i64 c, .int .i64 d, .int .i64 m0, .int .i64 m1, .int .i64 m2, .int .i64 p, .int .i64 4, .int .i64 st, .int .i64 re, .int .i64 si] 26) (.cells #[.int .i64 es0, .int .i64 eu0, .int .i64 et0, .int .i64 ec0, .int .i64 ea0, .int .i64 es1, .int .i64 eu1, .int .i64 et1, .int .i64 ec1, .int .i64 ea1, .int .i64 es2, .int .i64 eu2, .int .i64 et2, .int .i64 ec2, .int .i64 ea2, .int .i64 es3, .int .i64 eu3, .int .i64 et3, .int .i64 ec3, .int .i64 ea3] 68)
    have s_0 := Lib.hid f1
    have q_0 := Lib.hid f2
    have B0 := Lib.hid f3
    clear f1 f2 f3
    go_enter Try.func48, Try.ntmps48
    go_wp2_with (first | (refine wpl_row (by rfl) 26 _ rfl _ rfl _ _ _ _ s_0.out rfl Try.underlying26 (by kernel_rfl) ?_))
    refine (HM.out _).mono ?_
    rintro e w1 ⟨rfl, q⟩
    have s_1 := Lib.hid (blk0 s_0.out q)
    have q_1 := Lib.hid (blk0 q_0.out q)
    have B1 := Lib.hid (bel0 B0.out B0.out.size q)
    clear q s_0 q_0 B0
    have L1_0 : w1.cell? ⟨w.heap.size, 0, none⟩ = some (.int .i64 b) := (cellsB (i := 0) s_1.out).trans rfl
    have L1_1 : w1.cell? ⟨w.heap.size, 1, none⟩ = some (.int .i64 c) := (cellsB (i := 1) s_1.out).trans rfl
    have L1_2 : w1.cell? ⟨w.heap.size, 2, none⟩ = some (.int .i64 d) := (cellsB (i := 2) s_1.out).trans rfl
    have L1_3 : w1.cell? ⟨w.heap.size, 3, none⟩ = some (.int .i64 m0) := (cellsB (i := 3) s_1.out).trans rfl
    have L1_4 : w1.cell? ⟨w.heap.size, 4, none⟩ = some (.int .i64 m1) := (cellsB (i := 4) s_1.out).trans rfl
    have L1_5 : w1.cell? ⟨w.heap.size, 5, none⟩ = some (.int .i64 m2) := (cellsB (i := 5) s_1.out).trans rfl
    have L1_6 : w1.cell? ⟨w.heap.size, 6, none⟩ = some (.int .i64 p) := (cellsB (i := 6) s_1.out).trans rfl
    have L1_7 : w1.cell? ⟨w.heap.size, 7, none⟩ = some (.int .i64 4) := (cellsB (i := 7) s_1.out).trans rfl
    go_wp2_with (first | (refine wpl_row (by rfl) 68 _ rfl _ rfl _ _ _ _ q_1.out rfl Try.underlying68 (by kernel_rfl) ?_))
    refine (HX.out _).mono ?_
    rintro e w2 ⟨rfl, q⟩
    have s_2 := Lib.hid (blk0 s_1.out q)
    have q_2 := Lib.hid (blk0 q_1.out q)
    have B2 := Lib.hid (bel0 B1.out B1.out.size q)
    clear q s_1 q_1 B1
    clear L1_0 L1_1 L1_2 L1_3 L1_4 L1_5 L1_6 L1_7
    go_wp2
    go_ret
    refine ⟨ret_bool ?_, B2.out⟩
    rw [← HR.out]
    exact decide_eq_decide.2 (by unfold RightP; simp only; exact ⟨fun h => ⟨of_decide_eq_true HMB.out, by simpa using h⟩, fun h => by have := h.2; simpa using this⟩)
  by_cases p5 : ph = 5
  · skip
    subst p5
    unfold S11.val Q4.val
    simp only
    have HM := Lib.hid (fun W => smay_is ⟨⟨b, c, d, m0, m1, m2, p⟩, 5, st, re, si⟩ true hm W)
    have HMB := Lib.hid hm
    clear hm
    unfold S11.val at HM
    simp only at HM
    obtain ⟨r, hr⟩ : ∃ v, decide (NothingP ⟨⟨es0, eu0, et0, ec0, ea0⟩, ⟨es1, eu1, et1, ec1, ea1⟩, ⟨es2, eu2, et2, ec2, ea2⟩, ⟨es3, eu3, et3, ec3, ea3⟩⟩) = v := ⟨_, rfl⟩
    have HX := Lib.hid (fun W => nothing_is hr W)
    unfold Q4.val at HX
    simp only at HX
    have HR := Lib.hid hr
    clear hr
    obtain ⟨f1, f2, f3⟩ := two_boxes w (.cells #[.int .i64 b, .int .i64 c, .int .i64 d, .int .i64 m0, .int .i64 m1, .int .i64 m2, .int .i64 p, .int .i64 5, .int .i64 st, .int .i64 re, .int .i64 si] 26) (.cells #[.int .i64 es0, .int .i64 eu0, .int .i64 et0, .int .i64 ec0, .int .i64 ea0, .int .i64 es1, .int .i64 eu1, .int .i64 et1, .int .i64 ec1, .int .i64 ea1, .int .i64 es2, .int .i64 eu2, .int .i64 et2, .int .i64 ec2, .int .i64 ea2, .int .i64 es3, .int .i64 eu3, .int .i64 et3, .int .i64 ec3, .int .i64 ea3] 68)
    have s_0 := Lib.hid f1
    have q_0 := Lib.hid f2
    have B0 := Lib.hid f3
    clear f1 f2 f3
    go_enter Try.func48, Try.ntmps48
    go_wp2_with (first | (refine wpl_row (by rfl) 26 _ rfl _ rfl _ _ _ _ s_0.out rfl Try.underlying26 (by kernel_rfl) ?_))
    refine (HM.out _).mono ?_
    rintro e w1 ⟨rfl, q⟩
    have s_1 := Lib.hid (blk0 s_0.out q)
    have q_1 := Lib.hid (blk0 q_0.out q)
    have B1 := Lib.hid (bel0 B0.out B0.out.size q)
    clear q s_0 q_0 B0
    have L1_7 : w1.cell? ⟨w.heap.size, 7, none⟩ = some (.int .i64 5) := (cellsB (i := 7) s_1.out).trans rfl
    go_wp2_with (first | (refine wpl_row (by rfl) 68 _ rfl _ rfl _ _ _ _ q_1.out rfl Try.underlying68 (by kernel_rfl) ?_))
    refine (HX.out _).mono ?_
    rintro e w2 ⟨rfl, q⟩
    have s_2 := Lib.hid (blk0 s_1.out q)
    have q_2 := Lib.hid (blk0 q_1.out q)
    have B2 := Lib.hid (bel0 B1.out B1.out.size q)
    clear q s_1 q_1 B1
    clear L1_7
    go_wp2
    go_ret
    refine ⟨ret_bool ?_, B2.out⟩
    rw [← HR.out]
    exact decide_eq_decide.2 (by unfold RightP; simp only; exact ⟨fun h => ⟨of_decide_eq_true HMB.out, by simpa using h⟩, fun h => by have := h.2; simpa using this⟩)
  by_cases p2 : ph = 2
  · skip
    subst p2
    unfold S11.val Q4.val
    simp only
    have HM := Lib.hid (fun W => smay_is ⟨⟨b, c, d, m0, m1, m2, p⟩, 2, st, re, si⟩ true hm W)
    have HMB := Lib.hid hm
    clear hm
    unfold S11.val at HM
    simp only at HM
    cases ha : decide (AllP ⟨b, c, d, m0, m1, m2, p⟩ ⟨⟨es0, eu0, et0, ec0, ea0⟩, ⟨es1, eu1, et1, ec1, ea1⟩, ⟨es2, eu2, et2, ec2, ea2⟩, ⟨es3, eu3, et3, ec3, ea3⟩⟩)
    · skip
      have HA := Lib.hid (fun W => all_is ha W)
      unfold W7.val Q4.val at HA
      simp only at HA
      obtain ⟨f1, f2, f3⟩ := two_boxes w (.cells #[.int .i64 b, .int .i64 c, .int .i64 d, .int .i64 m0, .int .i64 m1, .int .i64 m2, .int .i64 p, .int .i64 2, .int .i64 st, .int .i64 re, .int .i64 si] 26) (.cells #[.int .i64 es0, .int .i64 eu0, .int .i64 et0, .int .i64 ec0, .int .i64 ea0, .int .i64 es1, .int .i64 eu1, .int .i64 et1, .int .i64 ec1, .int .i64 ea1, .int .i64 es2, .int .i64 eu2, .int .i64 et2, .int .i64 ec2, .int .i64 ea2, .int .i64 es3, .int .i64 eu3, .int .i64 et3, .int .i64 ec3, .int .i64 ea3] 68)
      have s_0 := Lib.hid f1
      have q_0 := Lib.hid f2
      have B0 := Lib.hid f3
      clear f1 f2 f3
      go_enter Try.func48, Try.ntmps48
      go_wp2_with (first | (refine wpl_row (by rfl) 26 _ rfl _ rfl _ _ _ _ s_0.out rfl Try.underlying26 (by kernel_rfl) ?_))
      refine (HM.out _).mono ?_
      rintro e w1 ⟨rfl, q⟩
      have s_1 := Lib.hid (blk0 s_0.out q)
      have q_1 := Lib.hid (blk0 q_0.out q)
      have B1 := Lib.hid (bel0 B0.out B0.out.size q)
      clear q s_0 q_0 B0
      have L1_0 : w1.cell? ⟨w.heap.size, 0, none⟩ = some (.int .i64 b) := (cellsB (i := 0) s_1.out).trans rfl
      have L1_1 : w1.cell? ⟨w.heap.size, 1, none⟩ = some (.int .i64 c) := (cellsB (i := 1) s_1.out).trans rfl
      have L1_2 : w1.cell? ⟨w.heap.size, 2, none⟩ = some (.int .i64 d) := (cellsB (i := 2) s_1.out).trans rfl
      have L1_3 : w1.cell? ⟨w.heap.size, 3, none⟩ = some (.int .i64 m0) := (cellsB (i := 3) s_1.out).trans rfl
      have L1_4 : w1.cell? ⟨w.heap.size, 4, none⟩ = some (.int .i64 m1) := (cellsB (i := 4) s_1.out).trans rfl
      have L1_5 : w1.cell? ⟨w.heap.size, 5, none⟩ = some (.int .i64 m2) := (cellsB (i := 5) s_1.out).trans rfl
      have L1_6 : w1.cell? ⟨w.heap.size, 6, none⟩ = some (.int .i64 p) := (cellsB (i := 6) s_1.out).trans rfl
      have L1_7 : w1.cell? ⟨w.heap.size, 7, none⟩ = some (.int .i64 2) := (cellsB (i := 7) s_1.out).trans rfl
      go_wp2_with (first | (refine wpl_row (by rfl) 68 _ rfl _ rfl _ _ _ _ q_1.out rfl Try.underlying68 (by kernel_rfl) ?_))
      refine (HA.out _).mono ?_
      rintro e w2 ⟨rfl, q⟩
      have s_2 := Lib.hid (blk0 s_1.out q)
      have q_2 := Lib.hid (blk0 q_1.out q)
      have B2 := Lib.hid (bel0 B1.out B1.out.size q)
      clear q s_1 q_1 B1
      clear L1_0 L1_1 L1_2 L1_3 L1_4 L1_5 L1_6 L1_7
      go_wp2
      go_ret
      refine ⟨ret_bool (decide_eq_false (show ¬ RightP _ _ from ?_)).symm, B2.out⟩
      intro h
      have g := h.2
      simp only at g
      rw [if_neg (by omega), if_neg (by omega), if_pos trivial] at g
      exact of_decide_eq_false ha g.1
    cases h5 : decide (PaidP ⟨b, c, d, m0, m1, m2, p⟩ ⟨es3, eu3, et3, ec3, ea3⟩ 5)
    · skip
      cases h4 : decide (PaidP ⟨b, c, d, m0, m1, m2, p⟩ ⟨es3, eu3, et3, ec3, ea3⟩ 4)
      · skip
        have HA := Lib.hid (fun W => all_is ha W)
        unfold W7.val Q4.val at HA
        simp only at HA
        have HP5 := Lib.hid (fun W => paid_is h5 W)
        unfold W7.val En.val at HP5
        simp only at HP5
        have HP4 := Lib.hid (fun W => paid_is h4 W)
        unfold W7.val En.val at HP4
        simp only at HP4
        obtain ⟨f1, f2, f3⟩ := two_boxes w (.cells #[.int .i64 b, .int .i64 c, .int .i64 d, .int .i64 m0, .int .i64 m1, .int .i64 m2, .int .i64 p, .int .i64 2, .int .i64 st, .int .i64 re, .int .i64 si] 26) (.cells #[.int .i64 es0, .int .i64 eu0, .int .i64 et0, .int .i64 ec0, .int .i64 ea0, .int .i64 es1, .int .i64 eu1, .int .i64 et1, .int .i64 ec1, .int .i64 ea1, .int .i64 es2, .int .i64 eu2, .int .i64 et2, .int .i64 ec2, .int .i64 ea2, .int .i64 es3, .int .i64 eu3, .int .i64 et3, .int .i64 ec3, .int .i64 ea3] 68)
        have s_0 := Lib.hid f1
        have q_0 := Lib.hid f2
        have B0 := Lib.hid f3
        clear f1 f2 f3
        go_enter Try.func48, Try.ntmps48
        go_wp2_with (first | (refine wpl_row (by rfl) 26 _ rfl _ rfl _ _ _ _ s_0.out rfl Try.underlying26 (by kernel_rfl) ?_))
        refine (HM.out _).mono ?_
        rintro e w1 ⟨rfl, q⟩
        have s_1 := Lib.hid (blk0 s_0.out q)
        have q_1 := Lib.hid (blk0 q_0.out q)
        have B1 := Lib.hid (bel0 B0.out B0.out.size q)
        clear q s_0 q_0 B0
        have L1_0 : w1.cell? ⟨w.heap.size, 0, none⟩ = some (.int .i64 b) := (cellsB (i := 0) s_1.out).trans rfl
        have L1_1 : w1.cell? ⟨w.heap.size, 1, none⟩ = some (.int .i64 c) := (cellsB (i := 1) s_1.out).trans rfl
        have L1_2 : w1.cell? ⟨w.heap.size, 2, none⟩ = some (.int .i64 d) := (cellsB (i := 2) s_1.out).trans rfl
        have L1_3 : w1.cell? ⟨w.heap.size, 3, none⟩ = some (.int .i64 m0) := (cellsB (i := 3) s_1.out).trans rfl
        have L1_4 : w1.cell? ⟨w.heap.size, 4, none⟩ = some (.int .i64 m1) := (cellsB (i := 4) s_1.out).trans rfl
        have L1_5 : w1.cell? ⟨w.heap.size, 5, none⟩ = some (.int .i64 m2) := (cellsB (i := 5) s_1.out).trans rfl
        have L1_6 : w1.cell? ⟨w.heap.size, 6, none⟩ = some (.int .i64 p) := (cellsB (i := 6) s_1.out).trans rfl
        have L1_7 : w1.cell? ⟨w.heap.size, 7, none⟩ = some (.int .i64 2) := (cellsB (i := 7) s_1.out).trans rfl
        go_wp2_with (first | (refine wpl_row (by rfl) 68 _ rfl _ rfl _ _ _ _ q_1.out rfl Try.underlying68 (by kernel_rfl) ?_))
        refine (HA.out _).mono ?_
        rintro e w2 ⟨rfl, q⟩
        have s_2 := Lib.hid (blk0 s_1.out q)
        have q_2 := Lib.hid (blk0 q_1.out q)
        have B2 := Lib.hid (bel0 B1.out B1.out.size q)
        clear q s_1 q_1 B1
        clear L1_0 L1_1 L1_2 L1_3 L1_4 L1_5 L1_6 L1_7
        have L2_0 : w2.cell? ⟨w.heap.size, 0, none⟩ = some (.int .i64 b) := (cellsB (i := 0) s_2.out).trans rfl
        have L2_1 : w2.cell? ⟨w.heap.size, 1, none⟩ = some (.int .i64 c) := (cellsB (i := 1) s_2.out).trans rfl
        have L2_2 : w2.cell? ⟨w.heap.size, 2, none⟩ = some (.int .i64 d) := (cellsB (i := 2) s_2.out).trans rfl
        have L2_3 : w2.cell? ⟨w.heap.size, 3, none⟩ = some (.int .i64 m0) := (cellsB (i := 3) s_2.out).trans rfl
        have L2_4 : w2.cell? ⟨w.heap.size, 4, none⟩ = some (.int .i64 m1) := (cellsB (i := 4) s_2.out).trans rfl
        have L2_5 : w2.cell? ⟨w.heap.size, 5, none⟩ = some (.int .i64 m2) := (cellsB (i := 5) s_2.out).trans rfl
        have L2_6 : w2.cell? ⟨w.heap.size, 6, none⟩ = some (.int .i64 p) := (cellsB (i := 6) s_2.out).trans rfl
        have L2_7 : w2.cell? ⟨w.heap.size, 7, none⟩ = some (.int .i64 2) := (cellsB (i := 7) s_2.out).trans rfl
        have L3_15 : w2.cell? ⟨(w.heap.size + 1), 15, none⟩ = some (.int .i64 es3) := (cellsB (i := 15) q_2.out).trans rfl
        have L3_16 : w2.cell? ⟨(w.heap.size + 1), 16, none⟩ = some (.int .i64 eu3) := (cellsB (i := 16) q_2.out).trans rfl
        have L3_17 : w2.cell? ⟨(w.heap.size + 1), 17, none⟩ = some (.int .i64 et3) := (cellsB (i := 17) q_2.out).trans rfl
        have L3_18 : w2.cell? ⟨(w.heap.size + 1), 18, none⟩ = some (.int .i64 ec3) := (cellsB (i := 18) q_2.out).trans rfl
        have L3_19 : w2.cell? ⟨(w.heap.size + 1), 19, none⟩ = some (.int .i64 ea3) := (cellsB (i := 19) q_2.out).trans rfl
        go_wp2_with fail
        refine (HP5.out _).mono ?_
        rintro e w3 ⟨rfl, q⟩
        have s_3 := Lib.hid (blk0 s_2.out q)
        have q_3 := Lib.hid (blk0 q_2.out q)
        have B3 := Lib.hid (bel0 B2.out B2.out.size q)
        clear q s_2 q_2 B2
        clear L2_0 L2_1 L2_2 L2_3 L2_4 L2_5 L2_6 L2_7 L3_15 L3_16 L3_17 L3_18 L3_19
        have L4_0 : w3.cell? ⟨w.heap.size, 0, none⟩ = some (.int .i64 b) := (cellsB (i := 0) s_3.out).trans rfl
        have L4_1 : w3.cell? ⟨w.heap.size, 1, none⟩ = some (.int .i64 c) := (cellsB (i := 1) s_3.out).trans rfl
        have L4_2 : w3.cell? ⟨w.heap.size, 2, none⟩ = some (.int .i64 d) := (cellsB (i := 2) s_3.out).trans rfl
        have L4_3 : w3.cell? ⟨w.heap.size, 3, none⟩ = some (.int .i64 m0) := (cellsB (i := 3) s_3.out).trans rfl
        have L4_4 : w3.cell? ⟨w.heap.size, 4, none⟩ = some (.int .i64 m1) := (cellsB (i := 4) s_3.out).trans rfl
        have L4_5 : w3.cell? ⟨w.heap.size, 5, none⟩ = some (.int .i64 m2) := (cellsB (i := 5) s_3.out).trans rfl
        have L4_6 : w3.cell? ⟨w.heap.size, 6, none⟩ = some (.int .i64 p) := (cellsB (i := 6) s_3.out).trans rfl
        have L4_7 : w3.cell? ⟨w.heap.size, 7, none⟩ = some (.int .i64 2) := (cellsB (i := 7) s_3.out).trans rfl
        have L5_15 : w3.cell? ⟨(w.heap.size + 1), 15, none⟩ = some (.int .i64 es3) := (cellsB (i := 15) q_3.out).trans rfl
        have L5_16 : w3.cell? ⟨(w.heap.size + 1), 16, none⟩ = some (.int .i64 eu3) := (cellsB (i := 16) q_3.out).trans rfl
        have L5_17 : w3.cell? ⟨(w.heap.size + 1), 17, none⟩ = some (.int .i64 et3) := (cellsB (i := 17) q_3.out).trans rfl
        have L5_18 : w3.cell? ⟨(w.heap.size + 1), 18, none⟩ = some (.int .i64 ec3) := (cellsB (i := 18) q_3.out).trans rfl
        have L5_19 : w3.cell? ⟨(w.heap.size + 1), 19, none⟩ = some (.int .i64 ea3) := (cellsB (i := 19) q_3.out).trans rfl
        go_wp2_with fail
        refine (HP4.out _).mono ?_
        rintro e w4 ⟨rfl, q⟩
        have s_4 := Lib.hid (blk0 s_3.out q)
        have q_4 := Lib.hid (blk0 q_3.out q)
        have B4 := Lib.hid (bel0 B3.out B3.out.size q)
        clear q s_3 q_3 B3
        clear L4_0 L4_1 L4_2 L4_3 L4_4 L4_5 L4_6 L4_7 L5_15 L5_16 L5_17 L5_18 L5_19
        go_wp2
        go_ret
        refine ⟨ret_bool (decide_eq_false (show ¬ RightP _ _ from ?_)).symm, B4.out⟩
        intro h
        have g := h.2
        simp only at g
        rw [if_neg (by omega), if_neg (by omega), if_pos trivial] at g
        exact g.2.elim (of_decide_eq_false h5) (of_decide_eq_false h4)
      have HA := Lib.hid (fun W => all_is ha W)
      unfold W7.val Q4.val at HA
      simp only at HA
      have HP5 := Lib.hid (fun W => paid_is h5 W)
      unfold W7.val En.val at HP5
      simp only at HP5
      have HP4 := Lib.hid (fun W => paid_is h4 W)
      unfold W7.val En.val at HP4
      simp only at HP4
      obtain ⟨f1, f2, f3⟩ := two_boxes w (.cells #[.int .i64 b, .int .i64 c, .int .i64 d, .int .i64 m0, .int .i64 m1, .int .i64 m2, .int .i64 p, .int .i64 2, .int .i64 st, .int .i64 re, .int .i64 si] 26) (.cells #[.int .i64 es0, .int .i64 eu0, .int .i64 et0, .int .i64 ec0, .int .i64 ea0, .int .i64 es1, .int .i64 eu1, .int .i64 et1, .int .i64 ec1, .int .i64 ea1, .int .i64 es2, .int .i64 eu2, .int .i64 et2, .int .i64 ec2, .int .i64 ea2, .int .i64 es3, .int .i64 eu3, .int .i64 et3, .int .i64 ec3, .int .i64 ea3] 68)
      have s_0 := Lib.hid f1
      have q_0 := Lib.hid f2
      have B0 := Lib.hid f3
      clear f1 f2 f3
      go_enter Try.func48, Try.ntmps48
      go_wp2_with (first | (refine wpl_row (by rfl) 26 _ rfl _ rfl _ _ _ _ s_0.out rfl Try.underlying26 (by kernel_rfl) ?_))
      refine (HM.out _).mono ?_
      rintro e w1 ⟨rfl, q⟩
      have s_1 := Lib.hid (blk0 s_0.out q)
      have q_1 := Lib.hid (blk0 q_0.out q)
      have B1 := Lib.hid (bel0 B0.out B0.out.size q)
      clear q s_0 q_0 B0
      have L1_0 : w1.cell? ⟨w.heap.size, 0, none⟩ = some (.int .i64 b) := (cellsB (i := 0) s_1.out).trans rfl
      have L1_1 : w1.cell? ⟨w.heap.size, 1, none⟩ = some (.int .i64 c) := (cellsB (i := 1) s_1.out).trans rfl
      have L1_2 : w1.cell? ⟨w.heap.size, 2, none⟩ = some (.int .i64 d) := (cellsB (i := 2) s_1.out).trans rfl
      have L1_3 : w1.cell? ⟨w.heap.size, 3, none⟩ = some (.int .i64 m0) := (cellsB (i := 3) s_1.out).trans rfl
      have L1_4 : w1.cell? ⟨w.heap.size, 4, none⟩ = some (.int .i64 m1) := (cellsB (i := 4) s_1.out).trans rfl
      have L1_5 : w1.cell? ⟨w.heap.size, 5, none⟩ = some (.int .i64 m2) := (cellsB (i := 5) s_1.out).trans rfl
      have L1_6 : w1.cell? ⟨w.heap.size, 6, none⟩ = some (.int .i64 p) := (cellsB (i := 6) s_1.out).trans rfl
      have L1_7 : w1.cell? ⟨w.heap.size, 7, none⟩ = some (.int .i64 2) := (cellsB (i := 7) s_1.out).trans rfl
      go_wp2_with (first | (refine wpl_row (by rfl) 68 _ rfl _ rfl _ _ _ _ q_1.out rfl Try.underlying68 (by kernel_rfl) ?_))
      refine (HA.out _).mono ?_
      rintro e w2 ⟨rfl, q⟩
      have s_2 := Lib.hid (blk0 s_1.out q)
      have q_2 := Lib.hid (blk0 q_1.out q)
      have B2 := Lib.hid (bel0 B1.out B1.out.size q)
      clear q s_1 q_1 B1
      clear L1_0 L1_1 L1_2 L1_3 L1_4 L1_5 L1_6 L1_7
      have L2_0 : w2.cell? ⟨w.heap.size, 0, none⟩ = some (.int .i64 b) := (cellsB (i := 0) s_2.out).trans rfl
      have L2_1 : w2.cell? ⟨w.heap.size, 1, none⟩ = some (.int .i64 c) := (cellsB (i := 1) s_2.out).trans rfl
      have L2_2 : w2.cell? ⟨w.heap.size, 2, none⟩ = some (.int .i64 d) := (cellsB (i := 2) s_2.out).trans rfl
      have L2_3 : w2.cell? ⟨w.heap.size, 3, none⟩ = some (.int .i64 m0) := (cellsB (i := 3) s_2.out).trans rfl
      have L2_4 : w2.cell? ⟨w.heap.size, 4, none⟩ = some (.int .i64 m1) := (cellsB (i := 4) s_2.out).trans rfl
      have L2_5 : w2.cell? ⟨w.heap.size, 5, none⟩ = some (.int .i64 m2) := (cellsB (i := 5) s_2.out).trans rfl
      have L2_6 : w2.cell? ⟨w.heap.size, 6, none⟩ = some (.int .i64 p) := (cellsB (i := 6) s_2.out).trans rfl
      have L2_7 : w2.cell? ⟨w.heap.size, 7, none⟩ = some (.int .i64 2) := (cellsB (i := 7) s_2.out).trans rfl
      have L3_15 : w2.cell? ⟨(w.heap.size + 1), 15, none⟩ = some (.int .i64 es3) := (cellsB (i := 15) q_2.out).trans rfl
      have L3_16 : w2.cell? ⟨(w.heap.size + 1), 16, none⟩ = some (.int .i64 eu3) := (cellsB (i := 16) q_2.out).trans rfl
      have L3_17 : w2.cell? ⟨(w.heap.size + 1), 17, none⟩ = some (.int .i64 et3) := (cellsB (i := 17) q_2.out).trans rfl
      have L3_18 : w2.cell? ⟨(w.heap.size + 1), 18, none⟩ = some (.int .i64 ec3) := (cellsB (i := 18) q_2.out).trans rfl
      have L3_19 : w2.cell? ⟨(w.heap.size + 1), 19, none⟩ = some (.int .i64 ea3) := (cellsB (i := 19) q_2.out).trans rfl
      go_wp2_with fail
      refine (HP5.out _).mono ?_
      rintro e w3 ⟨rfl, q⟩
      have s_3 := Lib.hid (blk0 s_2.out q)
      have q_3 := Lib.hid (blk0 q_2.out q)
      have B3 := Lib.hid (bel0 B2.out B2.out.size q)
      clear q s_2 q_2 B2
      clear L2_0 L2_1 L2_2 L2_3 L2_4 L2_5 L2_6 L2_7 L3_15 L3_16 L3_17 L3_18 L3_19
      have L4_0 : w3.cell? ⟨w.heap.size, 0, none⟩ = some (.int .i64 b) := (cellsB (i := 0) s_3.out).trans rfl
      have L4_1 : w3.cell? ⟨w.heap.size, 1, none⟩ = some (.int .i64 c) := (cellsB (i := 1) s_3.out).trans rfl
      have L4_2 : w3.cell? ⟨w.heap.size, 2, none⟩ = some (.int .i64 d) := (cellsB (i := 2) s_3.out).trans rfl
      have L4_3 : w3.cell? ⟨w.heap.size, 3, none⟩ = some (.int .i64 m0) := (cellsB (i := 3) s_3.out).trans rfl
      have L4_4 : w3.cell? ⟨w.heap.size, 4, none⟩ = some (.int .i64 m1) := (cellsB (i := 4) s_3.out).trans rfl
      have L4_5 : w3.cell? ⟨w.heap.size, 5, none⟩ = some (.int .i64 m2) := (cellsB (i := 5) s_3.out).trans rfl
      have L4_6 : w3.cell? ⟨w.heap.size, 6, none⟩ = some (.int .i64 p) := (cellsB (i := 6) s_3.out).trans rfl
      have L4_7 : w3.cell? ⟨w.heap.size, 7, none⟩ = some (.int .i64 2) := (cellsB (i := 7) s_3.out).trans rfl
      have L5_15 : w3.cell? ⟨(w.heap.size + 1), 15, none⟩ = some (.int .i64 es3) := (cellsB (i := 15) q_3.out).trans rfl
      have L5_16 : w3.cell? ⟨(w.heap.size + 1), 16, none⟩ = some (.int .i64 eu3) := (cellsB (i := 16) q_3.out).trans rfl
      have L5_17 : w3.cell? ⟨(w.heap.size + 1), 17, none⟩ = some (.int .i64 et3) := (cellsB (i := 17) q_3.out).trans rfl
      have L5_18 : w3.cell? ⟨(w.heap.size + 1), 18, none⟩ = some (.int .i64 ec3) := (cellsB (i := 18) q_3.out).trans rfl
      have L5_19 : w3.cell? ⟨(w.heap.size + 1), 19, none⟩ = some (.int .i64 ea3) := (cellsB (i := 19) q_3.out).trans rfl
      go_wp2_with fail
      refine (HP4.out _).mono ?_
      rintro e w4 ⟨rfl, q⟩
      have s_4 := Lib.hid (blk0 s_3.out q)
      have q_4 := Lib.hid (blk0 q_3.out q)
      have B4 := Lib.hid (bel0 B3.out B3.out.size q)
      clear q s_3 q_3 B3
      clear L4_0 L4_1 L4_2 L4_3 L4_4 L4_5 L4_6 L4_7 L5_15 L5_16 L5_17 L5_18 L5_19
      go_wp2
      go_ret
      refine ⟨ret_bool (decide_eq_true (show RightP _ _ from ?_)).symm, B4.out⟩
      refine ⟨of_decide_eq_true HMB.out, ?_⟩
      simp only
      rw [if_neg (by omega), if_neg (by omega), if_pos trivial]
      exact ⟨of_decide_eq_true ha, .inr (of_decide_eq_true h4)⟩
    have HA := Lib.hid (fun W => all_is ha W)
    unfold W7.val Q4.val at HA
    simp only at HA
    have HP5 := Lib.hid (fun W => paid_is h5 W)
    unfold W7.val En.val at HP5
    simp only at HP5
    obtain ⟨f1, f2, f3⟩ := two_boxes w (.cells #[.int .i64 b, .int .i64 c, .int .i64 d, .int .i64 m0, .int .i64 m1, .int .i64 m2, .int .i64 p, .int .i64 2, .int .i64 st, .int .i64 re, .int .i64 si] 26) (.cells #[.int .i64 es0, .int .i64 eu0, .int .i64 et0, .int .i64 ec0, .int .i64 ea0, .int .i64 es1, .int .i64 eu1, .int .i64 et1, .int .i64 ec1, .int .i64 ea1, .int .i64 es2, .int .i64 eu2, .int .i64 et2, .int .i64 ec2, .int .i64 ea2, .int .i64 es3, .int .i64 eu3, .int .i64 et3, .int .i64 ec3, .int .i64 ea3] 68)
    have s_0 := Lib.hid f1
    have q_0 := Lib.hid f2
    have B0 := Lib.hid f3
    clear f1 f2 f3
    go_enter Try.func48, Try.ntmps48
    go_wp2_with (first | (refine wpl_row (by rfl) 26 _ rfl _ rfl _ _ _ _ s_0.out rfl Try.underlying26 (by kernel_rfl) ?_))
    refine (HM.out _).mono ?_
    rintro e w1 ⟨rfl, q⟩
    have s_1 := Lib.hid (blk0 s_0.out q)
    have q_1 := Lib.hid (blk0 q_0.out q)
    have B1 := Lib.hid (bel0 B0.out B0.out.size q)
    clear q s_0 q_0 B0
    have L1_0 : w1.cell? ⟨w.heap.size, 0, none⟩ = some (.int .i64 b) := (cellsB (i := 0) s_1.out).trans rfl
    have L1_1 : w1.cell? ⟨w.heap.size, 1, none⟩ = some (.int .i64 c) := (cellsB (i := 1) s_1.out).trans rfl
    have L1_2 : w1.cell? ⟨w.heap.size, 2, none⟩ = some (.int .i64 d) := (cellsB (i := 2) s_1.out).trans rfl
    have L1_3 : w1.cell? ⟨w.heap.size, 3, none⟩ = some (.int .i64 m0) := (cellsB (i := 3) s_1.out).trans rfl
    have L1_4 : w1.cell? ⟨w.heap.size, 4, none⟩ = some (.int .i64 m1) := (cellsB (i := 4) s_1.out).trans rfl
    have L1_5 : w1.cell? ⟨w.heap.size, 5, none⟩ = some (.int .i64 m2) := (cellsB (i := 5) s_1.out).trans rfl
    have L1_6 : w1.cell? ⟨w.heap.size, 6, none⟩ = some (.int .i64 p) := (cellsB (i := 6) s_1.out).trans rfl
    have L1_7 : w1.cell? ⟨w.heap.size, 7, none⟩ = some (.int .i64 2) := (cellsB (i := 7) s_1.out).trans rfl
    go_wp2_with (first | (refine wpl_row (by rfl) 68 _ rfl _ rfl _ _ _ _ q_1.out rfl Try.underlying68 (by kernel_rfl) ?_))
    refine (HA.out _).mono ?_
    rintro e w2 ⟨rfl, q⟩
    have s_2 := Lib.hid (blk0 s_1.out q)
    have q_2 := Lib.hid (blk0 q_1.out q)
    have B2 := Lib.hid (bel0 B1.out B1.out.size q)
    clear q s_1 q_1 B1
    clear L1_0 L1_1 L1_2 L1_3 L1_4 L1_5 L1_6 L1_7
    have L2_0 : w2.cell? ⟨w.heap.size, 0, none⟩ = some (.int .i64 b) := (cellsB (i := 0) s_2.out).trans rfl
    have L2_1 : w2.cell? ⟨w.heap.size, 1, none⟩ = some (.int .i64 c) := (cellsB (i := 1) s_2.out).trans rfl
    have L2_2 : w2.cell? ⟨w.heap.size, 2, none⟩ = some (.int .i64 d) := (cellsB (i := 2) s_2.out).trans rfl
    have L2_3 : w2.cell? ⟨w.heap.size, 3, none⟩ = some (.int .i64 m0) := (cellsB (i := 3) s_2.out).trans rfl
    have L2_4 : w2.cell? ⟨w.heap.size, 4, none⟩ = some (.int .i64 m1) := (cellsB (i := 4) s_2.out).trans rfl
    have L2_5 : w2.cell? ⟨w.heap.size, 5, none⟩ = some (.int .i64 m2) := (cellsB (i := 5) s_2.out).trans rfl
    have L2_6 : w2.cell? ⟨w.heap.size, 6, none⟩ = some (.int .i64 p) := (cellsB (i := 6) s_2.out).trans rfl
    have L2_7 : w2.cell? ⟨w.heap.size, 7, none⟩ = some (.int .i64 2) := (cellsB (i := 7) s_2.out).trans rfl
    have L3_15 : w2.cell? ⟨(w.heap.size + 1), 15, none⟩ = some (.int .i64 es3) := (cellsB (i := 15) q_2.out).trans rfl
    have L3_16 : w2.cell? ⟨(w.heap.size + 1), 16, none⟩ = some (.int .i64 eu3) := (cellsB (i := 16) q_2.out).trans rfl
    have L3_17 : w2.cell? ⟨(w.heap.size + 1), 17, none⟩ = some (.int .i64 et3) := (cellsB (i := 17) q_2.out).trans rfl
    have L3_18 : w2.cell? ⟨(w.heap.size + 1), 18, none⟩ = some (.int .i64 ec3) := (cellsB (i := 18) q_2.out).trans rfl
    have L3_19 : w2.cell? ⟨(w.heap.size + 1), 19, none⟩ = some (.int .i64 ea3) := (cellsB (i := 19) q_2.out).trans rfl
    go_wp2_with fail
    refine (HP5.out _).mono ?_
    rintro e w3 ⟨rfl, q⟩
    have s_3 := Lib.hid (blk0 s_2.out q)
    have q_3 := Lib.hid (blk0 q_2.out q)
    have B3 := Lib.hid (bel0 B2.out B2.out.size q)
    clear q s_2 q_2 B2
    clear L2_0 L2_1 L2_2 L2_3 L2_4 L2_5 L2_6 L2_7 L3_15 L3_16 L3_17 L3_18 L3_19
    go_wp2
    go_ret
    refine ⟨ret_bool (decide_eq_true (show RightP _ _ from ?_)).symm, B3.out⟩
    refine ⟨of_decide_eq_true HMB.out, ?_⟩
    simp only
    rw [if_neg (by omega), if_neg (by omega), if_pos trivial]
    exact ⟨of_decide_eq_true ha, .inl (of_decide_eq_true h5)⟩
  have b4 : (ph == 4) = false := beq_eq_false_iff_ne.2 p4
  have b5 : (ph == 5) = false := beq_eq_false_iff_ne.2 p5
  have b2 : (ph == 2) = false := beq_eq_false_iff_ne.2 p2
  unfold S11.val Q4.val
  simp only
  have HM := Lib.hid (fun W => smay_is ⟨⟨b, c, d, m0, m1, m2, p⟩, ph, st, re, si⟩ true hm W)
  have HMB := Lib.hid hm
  clear hm
  unfold S11.val at HM
  simp only at HM
  obtain ⟨r, hr⟩ : ∃ v, decide (OpenP ⟨b, c, d, m0, m1, m2, p⟩ ⟨⟨es0, eu0, et0, ec0, ea0⟩, ⟨es1, eu1, et1, ec1, ea1⟩, ⟨es2, eu2, et2, ec2, ea2⟩, ⟨es3, eu3, et3, ec3, ea3⟩⟩) = v := ⟨_, rfl⟩
  have HX := Lib.hid (fun W => open_is hr W)
  unfold W7.val Q4.val at HX
  simp only at HX
  have HR := Lib.hid hr
  clear hr
  obtain ⟨f1, f2, f3⟩ := two_boxes w (.cells #[.int .i64 b, .int .i64 c, .int .i64 d, .int .i64 m0, .int .i64 m1, .int .i64 m2, .int .i64 p, .int .i64 ph, .int .i64 st, .int .i64 re, .int .i64 si] 26) (.cells #[.int .i64 es0, .int .i64 eu0, .int .i64 et0, .int .i64 ec0, .int .i64 ea0, .int .i64 es1, .int .i64 eu1, .int .i64 et1, .int .i64 ec1, .int .i64 ea1, .int .i64 es2, .int .i64 eu2, .int .i64 et2, .int .i64 ec2, .int .i64 ea2, .int .i64 es3, .int .i64 eu3, .int .i64 et3, .int .i64 ec3, .int .i64 ea3] 68)
  have s_0 := Lib.hid f1
  have q_0 := Lib.hid f2
  have B0 := Lib.hid f3
  clear f1 f2 f3
  go_enter Try.func48, Try.ntmps48
  go_wp2_with (first | (refine wpl_row (by rfl) 26 _ rfl _ rfl _ _ _ _ s_0.out rfl Try.underlying26 (by kernel_rfl) ?_))
  refine (HM.out _).mono ?_
  rintro e w1 ⟨rfl, q⟩
  have s_1 := Lib.hid (blk0 s_0.out q)
  have q_1 := Lib.hid (blk0 q_0.out q)
  have B1 := Lib.hid (bel0 B0.out B0.out.size q)
  clear q s_0 q_0 B0
  have L1_0 : w1.cell? ⟨w.heap.size, 0, none⟩ = some (.int .i64 b) := (cellsB (i := 0) s_1.out).trans rfl
  have L1_1 : w1.cell? ⟨w.heap.size, 1, none⟩ = some (.int .i64 c) := (cellsB (i := 1) s_1.out).trans rfl
  have L1_2 : w1.cell? ⟨w.heap.size, 2, none⟩ = some (.int .i64 d) := (cellsB (i := 2) s_1.out).trans rfl
  have L1_3 : w1.cell? ⟨w.heap.size, 3, none⟩ = some (.int .i64 m0) := (cellsB (i := 3) s_1.out).trans rfl
  have L1_4 : w1.cell? ⟨w.heap.size, 4, none⟩ = some (.int .i64 m1) := (cellsB (i := 4) s_1.out).trans rfl
  have L1_5 : w1.cell? ⟨w.heap.size, 5, none⟩ = some (.int .i64 m2) := (cellsB (i := 5) s_1.out).trans rfl
  have L1_6 : w1.cell? ⟨w.heap.size, 6, none⟩ = some (.int .i64 p) := (cellsB (i := 6) s_1.out).trans rfl
  have L1_7 : w1.cell? ⟨w.heap.size, 7, none⟩ = some (.int .i64 ph) := (cellsB (i := 7) s_1.out).trans rfl
  go_wp2_with (first | (refine wpl_row (by rfl) 68 _ rfl _ rfl _ _ _ _ q_1.out rfl Try.underlying68 (by kernel_rfl) ?_))
  refine (HX.out _).mono ?_
  rintro e w2 ⟨rfl, q⟩
  have s_2 := Lib.hid (blk0 s_1.out q)
  have q_2 := Lib.hid (blk0 q_1.out q)
  have B2 := Lib.hid (bel0 B1.out B1.out.size q)
  clear q s_1 q_1 B1
  clear L1_0 L1_1 L1_2 L1_3 L1_4 L1_5 L1_6 L1_7
  go_wp2
  go_ret
  refine ⟨ret_bool ?_, B2.out⟩
  rw [← HR.out]
  exact decide_eq_decide.2 (by unfold RightP; simp only; rw [if_neg p4, if_neg p5, if_neg p2]; exact ⟨fun h => ⟨of_decide_eq_true HMB.out, h⟩, fun h => h.2⟩)
theorem right_is {s : S11} {q : Q4} {b : Bool} (h : decide (RightP s q) = b) (w : World) : Calls Try.prog 48 #[s.val, q.val] w fun e' w' => e' = .returned (.bool b) ∧ Below w.heap.size w w' := h ▸ right_c s q w
end Go.Proofs.Ytplgodfhhlnojaa
