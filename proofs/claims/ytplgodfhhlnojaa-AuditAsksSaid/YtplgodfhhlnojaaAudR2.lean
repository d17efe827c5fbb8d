/- The document's audits: Right, walked (printed by gen20b.py). -/
import Derived.Test.YtplgodfhhlnojaaAudR1
import Derived.Test.YtplgodfhhlnojaaSagaR
import Derived.Outline
set_option linter.unusedSimpArgs false
set_option linter.unusedVariables false
namespace Go.Proofs.Ytplgodfhhlnojaa
open Go.RowKit
set_option maxRecDepth 100000 in
set_option maxHeartbeats 4000000 in
theorem rright_0 (b c d m0 m1 m2 p : Int) (ph st re si : Int) (es0 eu0 et0 ec0 ea0 es1 eu1 et1 ec1 ea1 es2 eu2 et2 ec2 ea2 es3 eu3 et3 ec3 ea3 : Int) (w : World) (hc : ec3 ≠ c) : Calls Try.prog 49 #[.agg #[.int .i64 b, .int .i64 c, .int .i64 d, .int .i64 m0, .int .i64 m1, .int .i64 m2, .int .i64 p, .int .i64 ph, .int .i64 st, .int .i64 re, .int .i64 si], .agg #[.int .i64 es0, .int .i64 eu0, .int .i64 et0, .int .i64 ec0, .int .i64 ea0, .int .i64 es1, .int .i64 eu1, .int .i64 et1, .int .i64 ec1, .int .i64 ea1, .int .i64 es2, .int .i64 eu2, .int .i64 et2, .int .i64 ec2, .int .i64 ea2, .int .i64 es3, .int .i64 eu3, .int .i64 et3, .int .i64 ec3, .int .i64 ea3]] w fun e' w' => e' = .returned (.bool (decide (RightP ⟨⟨b, c, d, m0, m1, m2, p⟩, ph, st, re, si⟩ ⟨⟨es0, eu0, et0, ec0, ea0⟩, ⟨es1, eu1, et1, ec1, ea1⟩, ⟨es2, eu2, et2, ec2, ea2⟩, ⟨es3, eu3, et3, ec3, ea3⟩⟩))) ∧ Below w.heap.size w w' := by
  have bc : (ec3 == c) = false := beq_eq_false_iff_ne.2 hc
  have HC := Lib.hid hc
  clear hc
  cases hm : decide (MayS ⟨⟨b, c, d, m0, m1, m2, p⟩, ph, st, re, si⟩)
  · skip
    have HM := Lib.hid (fun W => rmay14_is ⟨⟨b, c, d, m0, m1, m2, p⟩, ph, st, re, si⟩ false hm W)
    unfold S11.val at HM
    simp only at HM
    obtain ⟨f1, f2, f3⟩ := two_boxes w (.cells #[.int .i64 b, .int .i64 c, .int .i64 d, .int .i64 m0, .int .i64 m1, .int .i64 m2, .int .i64 p, .int .i64 ph, .int .i64 st, .int .i64 re, .int .i64 si] 26) (.cells #[.int .i64 es0, .int .i64 eu0, .int .i64 et0, .int .i64 ec0, .int .i64 ea0, .int .i64 es1, .int .i64 eu1, .int .i64 et1, .int .i64 ec1, .int .i64 ea1, .int .i64 es2, .int .i64 eu2, .int .i64 et2, .int .i64 ec2, .int .i64 ea2, .int .i64 es3, .int .i64 eu3, .int .i64 et3, .int .i64 ec3, .int .i64 ea3] 68)
    have s_0 := Lib.hid f1
    have q_0 := Lib.hid f2
    have B0 := Lib.hid f3
    clear f1 f2 f3
    go_enter Try.func49, Try.ntmps49
    go_wp2_with (first | (refine wpl_row (by rfl) 26 _ rfl _ rfl _ _ _ _ s_0.out rfl Try.underlying26 (by kernel_rfl) ?_))
    refine (HM.out _).mono ?_
    rintro e w1 ⟨rfl, q⟩
    have s_1 := Lib.hid (blk0 s_0.out q)
    have q_1 := Lib.hid (blk0 q_0.out q)
    have B1 := Lib.hid (bel0 B0.out B0.out.size q)
    clear q s_0 q_0 B0
    go_wp2
    go_ret
    exact ⟨ret_bool (decide_eq_false (show ¬ RightP _ _ from fun h => of_decide_eq_false hm h.1)).symm, B1.out⟩
  by_cases p4 : ph = 4
  · skip
    subst p4
    have HM := Lib.hid (fun W => rmay14_is ⟨⟨b, c, d, m0, m1, m2, p⟩, 4, st, re, si⟩ true hm W)
    unfold S11.val at HM
    simp only at HM
    obtain ⟨f1, f2, f3⟩ := two_boxes w (.cells #[.int .i64 b, .int .i64 c, .int .i64 d, .int .i64 m0, .int .i64 m1, .int .i64 m2, .int .i64 p, .int .i64 4, .int .i64 st, .int .i64 re, .int .i64 si] 26) (.cells #[.int .i64 es0, .int .i64 eu0, .int .i64 et0, .int .i64 ec0, .int .i64 ea0, .int .i64 es1, .int .i64 eu1, .int .i64 et1, .int .i64 ec1, .int .i64 ea1, .int .i64 es2, .int .i64 eu2, .int .i64 et2, .int .i64 ec2, .int .i64 ea2, .int .i64 es3, .int .i64 eu3, .int .i64 et3, .int .i64 ec3, .int .i64 ea3] 68)
    have s_0 := Lib.hid f1
    have q_0 := Lib.hid f2
    have B0 := Lib.hid f3
    clear f1 f2 f3
    go_enter Try.func49, Try.ntmps49
    obtain ⟨r, hr⟩ : ∃ v, decide (BookedP ⟨b, c, d, m0, m1, m2, p⟩ ⟨⟨es0, eu0, et0, ec0, ea0⟩, ⟨es1, eu1, et1, ec1, ea1⟩, ⟨es2, eu2, et2, ec2, ea2⟩, ⟨es3, eu3, et3, ec3, ea3⟩⟩) = v := ⟨_, rfl⟩
    have HX := Lib.hid (fun W => rbooked_is hr W)
    unfold W7.val Q4.val at HX
    simp only at HX
    have HR := Lib.hid hr
    clear hr
    go_wp2_with (first | (refine wpl_row (by rfl) 26 _ rfl _ rfl _ _ _ _ s_0.out rfl Try.underlying26 (by kernel_rfl) ?_))
    refine (HM.out _).mono ?_
    rintro e w1 ⟨rfl, q⟩
    have s_1 := Lib.hid (blk0 s_0.out q)
    have q_1 := Lib.hid (blk0 q_0.out q)
    have B1 := Lib.hid (bel0 B0.out B0.out.size q)
    clear q s_0 q_0 B0
    have L1_0 : w1.cell? ⟨w.heap.size, 0, none⟩ = some (.int .i64 b) := (cellsB (i := 0) s_1.out).trans rfl
    have L1_1 : w1.cell? ⟨w.heap.size, 1, none⟩ = some (.int .i64 c) := (cellsB (i := 1) s_1.out).trans rfl
    have L1_2 : w1.cell? ⟨w.heap.size, 2, none⟩ = some (.int .i64 d) := (cellsB (i := 2) s_1.out).trans rfl
    have L1_3 : w1.cell? ⟨w.heap.size, 3, none⟩ = some (.int .i64 m0) := (cellsB (i := 3) s_1.out).trans rfl
    have L1_4 : w1.cell? ⟨w.heap.size, 4, none⟩ = some (.int .i64 m1) := (cellsB (i := 4) s_1.out).trans rfl
    have L1_5 : w1.cell? ⟨w.heap.size, 5, none⟩ = some (.int .i64 m2) := (cellsB (i := 5) s_1.out).trans rfl
    have L1_6 : w1.cell? ⟨w.heap.size, 6, none⟩ = some (.int .i64 p) := (cellsB (i := 6) s_1.out).trans rfl
    have L2_7 : (w1.alloc (.cells #[.int .i64 b, .int .i64 c, .int .i64 d, .int .i64 m0, .int .i64 m1, .int .i64 m2, .int .i64 p] 24)).cell? ⟨w.heap.size, 7, none⟩ = some (.int .i64 4) := (cellsB (i := 7) (alc (o := (.cells #[.int .i64 b, .int .i64 c, .int .i64 d, .int .i64 m0, .int .i64 m1, .int .i64 m2, .int .i64 p] 24)) s_1.out)).trans rfl
    have L3_18 : (w1.alloc (.cells #[.int .i64 b, .int .i64 c, .int .i64 d, .int .i64 m0, .int .i64 m1, .int .i64 m2, .int .i64 p] 24)).cell? ⟨(w.heap.size + 1), 18, none⟩ = some (.int .i64 ec3) := (cellsB (i := 18) (alc (o := (.cells #[.int .i64 b, .int .i64 c, .int .i64 d, .int .i64 m0, .int .i64 m1, .int .i64 m2, .int .i64 p] 24)) q_1.out)).trans rfl
    have L3_19 : (w1.alloc (.cells #[.int .i64 b, .int .i64 c, .int .i64 d, .int .i64 m0, .int .i64 m1, .int .i64 m2, .int .i64 p] 24)).cell? ⟨(w.heap.size + 1), 19, none⟩ = some (.int .i64 ea3) := (cellsB (i := 19) (alc (o := (.cells #[.int .i64 b, .int .i64 c, .int .i64 d, .int .i64 m0, .int .i64 m1, .int .i64 m2, .int .i64 p] 24)) q_1.out)).trans rfl
    have L4_0 : (w1.alloc (.cells #[.int .i64 b, .int .i64 c, .int .i64 d, .int .i64 m0, .int .i64 m1, .int .i64 m2, .int .i64 p] 24)).cell? ⟨w1.heap.size, 0, none⟩ = some (.int .i64 b) := (cellsB (i := 0) (heap_alloc_new w1 (.cells #[.int .i64 b, .int .i64 c, .int .i64 d, .int .i64 m0, .int .i64 m1, .int .i64 m2, .int .i64 p] 24))).trans rfl
    have L4_1 : (w1.alloc (.cells #[.int .i64 b, .int .i64 c, .int .i64 d, .int .i64 m0, .int .i64 m1, .int .i64 m2, .int .i64 p] 24)).cell? ⟨w1.heap.size, 1, none⟩ = some (.int .i64 c) := (cellsB (i := 1) (heap_alloc_new w1 (.cells #[.int .i64 b, .int .i64 c, .int .i64 d, .int .i64 m0, .int .i64 m1, .int .i64 m2, .int .i64 p] 24))).trans rfl
    have L4_2 : (w1.alloc (.cells #[.int .i64 b, .int .i64 c, .int .i64 d, .int .i64 m0, .int .i64 m1, .int .i64 m2, .int .i64 p] 24)).cell? ⟨w1.heap.size, 2, none⟩ = some (.int .i64 d) := (cellsB (i := 2) (heap_alloc_new w1 (.cells #[.int .i64 b, .int .i64 c, .int .i64 d, .int .i64 m0, .int .i64 m1, .int .i64 m2, .int .i64 p] 24))).trans rfl
    have L4_3 : (w1.alloc (.cells #[.int .i64 b, .int .i64 c, .int .i64 d, .int .i64 m0, .int .i64 m1, .int .i64 m2, .int .i64 p] 24)).cell? ⟨w1.heap.size, 3, none⟩ = some (.int .i64 m0) := (cellsB (i := 3) (heap_alloc_new w1 (.cells #[.int .i64 b, .int .i64 c, .int .i64 d, .int .i64 m0, .int .i64 m1, .int .i64 m2, .int .i64 p] 24))).trans rfl
    have L4_4 : (w1.alloc (.cells #[.int .i64 b, .int .i64 c, .int .i64 d, .int .i64 m0, .int .i64 m1, .int .i64 m2, .int .i64 p] 24)).cell? ⟨w1.heap.size, 4, none⟩ = some (.int .i64 m1) := (cellsB (i := 4) (heap_alloc_new w1 (.cells #[.int .i64 b, .int .i64 c, .int .i64 d, .int .i64 m0, .int .i64 m1, .int .i64 m2, .int .i64 p] 24))).trans rfl
    have L4_5 : (w1.alloc (.cells #[.int .i64 b, .int .i64 c, .int .i64 d, .int .i64 m0, .int .i64 m1, .int .i64 m2, .int .i64 p] 24)).cell? ⟨w1.heap.size, 5, none⟩ = some (.int .i64 m2) := (cellsB (i := 5) (heap_alloc_new w1 (.cells #[.int .i64 b, .int .i64 c, .int .i64 d, .int .i64 m0, .int .i64 m1, .int .i64 m2, .int .i64 p] 24))).trans rfl
    have L4_6 : (w1.alloc (.cells #[.int .i64 b, .int .i64 c, .int .i64 d, .int .i64 m0, .int .i64 m1, .int .i64 m2, .int .i64 p] 24)).cell? ⟨w1.heap.size, 6, none⟩ = some (.int .i64 p) := (cellsB (i := 6) (heap_alloc_new w1 (.cells #[.int .i64 b, .int .i64 c, .int .i64 d, .int .i64 m0, .int .i64 m1, .int .i64 m2, .int .i64 p] 24))).trans rfl
    go_wp2_with (first | (refine wpl_row (by rfl) 24 _ rfl _ rfl _ _ _ _ (heap_alloc_new w1 (.cells #[.int .i64 b, .int .i64 c, .int .i64 d, .int .i64 m0, .int .i64 m1, .int .i64 m2, .int .i64 p] 24)) rfl Try.underlying24 (by kernel_rfl) ?_) | (refine wpl_row (by rfl) 68 _ rfl _ rfl _ _ _ _ (alc (o := (.cells #[.int .i64 b, .int .i64 c, .int .i64 d, .int .i64 m0, .int .i64 m1, .int .i64 m2, .int .i64 p] 24)) q_1.out) rfl Try.underlying68 (by kernel_rfl) ?_))
    refine (HX.out _).mono ?_
    rintro e w2 ⟨rfl, q⟩
    have s_2 := Lib.hid (blk1 s_1.out q)
    have q_2 := Lib.hid (blk1 q_1.out q)
    have t_2 := Lib.hid (new1 q)
    have B2 := Lib.hid (bel1 B1.out B1.out.size q)
    clear q s_1 q_1 B1
    clear L1_0 L1_1 L1_2 L1_3 L1_4 L1_5 L1_6 L2_7 L3_18 L3_19 L4_0 L4_1 L4_2 L4_3 L4_4 L4_5 L4_6
    go_wp2
    go_ret
    refine ⟨ret_bool ?_, B2.out⟩
    rw [← HR.out]
    exact decide_eq_decide.2 (by unfold RightP; simp only; exact ⟨fun h => ⟨of_decide_eq_true hm, by simpa using h⟩, fun h => by have := h.2; simpa using this⟩)
  by_cases p5 : ph = 5
  · skip
    subst p5
    have HM := Lib.hid (fun W => rmay14_is ⟨⟨b, c, d, m0, m1, m2, p⟩, 5, st, re, si⟩ true hm W)
    unfold S11.val at HM
    simp only at HM
    obtain ⟨f1, f2, f3⟩ := two_boxes w (.cells #[.int .i64 b, .int .i64 c, .int .i64 d, .int .i64 m0, .int .i64 m1, .int .i64 m2, .int .i64 p, .int .i64 5, .int .i64 st, .int .i64 re, .int .i64 si] 26) (.cells #[.int .i64 es0, .int .i64 eu0, .int .i64 et0, .int .i64 ec0, .int .i64 ea0, .int .i64 es1, .int .i64 eu1, .int .i64 et1, .int .i64 ec1, .int .i64 ea1, .int .i64 es2, .int .i64 eu2, .int .i64 et2, .int .i64 ec2, .int .i64 ea2, .int .i64 es3, .int .i64 eu3, .int .i64 et3, .int .i64 ec3, .int .i64 ea3] 68)
    have s_0 := Lib.hid f1
    have q_0 := Lib.hid f2
    have B0 := Lib.hid f3
    clear f1 f2 f3
    go_enter Try.func49, Try.ntmps49
    obtain ⟨r, hr⟩ : ∃ v, decide (NothingP ⟨⟨es0, eu0, et0, ec0, ea0⟩, ⟨es1, eu1, et1, ec1, ea1⟩, ⟨es2, eu2, et2, ec2, ea2⟩, ⟨es3, eu3, et3, ec3, ea3⟩⟩) = v := ⟨_, rfl⟩
    have HX := Lib.hid (fun W => rnothing_is hr W)
    unfold Q4.val at HX
    simp only at HX
    have HR := Lib.hid hr
    clear hr
    go_wp2_with (first | (refine wpl_row (by rfl) 26 _ rfl _ rfl _ _ _ _ s_0.out rfl Try.underlying26 (by kernel_rfl) ?_))
    refine (HM.out _).mono ?_
    rintro e w1 ⟨rfl, q⟩
    have s_1 := Lib.hid (blk0 s_0.out q)
    have q_1 := Lib.hid (blk0 q_0.out q)
    have B1 := Lib.hid (bel0 B0.out B0.out.size q)
    clear q s_0 q_0 B0
    have L1_0 : w1.cell? ⟨w.heap.size, 0, none⟩ = some (.int .i64 b) := (cellsB (i := 0) s_1.out).trans rfl
    have L1_1 : w1.cell? ⟨w.heap.size, 1, none⟩ = some (.int .i64 c) := (cellsB (i := 1) s_1.out).trans rfl
    have L1_2 : w1.cell? ⟨w.heap.size, 2, none⟩ = some (.int .i64 d) := (cellsB (i := 2) s_1.out).trans rfl
    have L1_3 : w1.cell? ⟨w.heap.size, 3, none⟩ = some (.int .i64 m0) := (cellsB (i := 3) s_1.out).trans rfl
    have L1_4 : w1.cell? ⟨w.heap.size, 4, none⟩ = some (.int .i64 m1) := (cellsB (i := 4) s_1.out).trans rfl
    have L1_5 : w1.cell? ⟨w.heap.size, 5, none⟩ = some (.int .i64 m2) := (cellsB (i := 5) s_1.out).trans rfl
    have L1_6 : w1.cell? ⟨w.heap.size, 6, none⟩ = some (.int .i64 p) := (cellsB (i := 6) s_1.out).trans rfl
    have L2_7 : (w1.alloc (.cells #[.int .i64 b, .int .i64 c, .int .i64 d, .int .i64 m0, .int .i64 m1, .int .i64 m2, .int .i64 p] 24)).cell? ⟨w.heap.size, 7, none⟩ = some (.int .i64 5) := (cellsB (i := 7) (alc (o := (.cells #[.int .i64 b, .int .i64 c, .int .i64 d, .int .i64 m0, .int .i64 m1, .int .i64 m2, .int .i64 p] 24)) s_1.out)).trans rfl
    have L3_18 : (w1.alloc (.cells #[.int .i64 b, .int .i64 c, .int .i64 d, .int .i64 m0, .int .i64 m1, .int .i64 m2, .int .i64 p] 24)).cell? ⟨(w.heap.size + 1), 18, none⟩ = some (.int .i64 ec3) := (cellsB (i := 18) (alc (o := (.cells #[.int .i64 b, .int .i64 c, .int .i64 d, .int .i64 m0, .int .i64 m1, .int .i64 m2, .int .i64 p] 24)) q_1.out)).trans rfl
    have L3_19 : (w1.alloc (.cells #[.int .i64 b, .int .i64 c, .int .i64 d, .int .i64 m0, .int .i64 m1, .int .i64 m2, .int .i64 p] 24)).cell? ⟨(w.heap.size + 1), 19, none⟩ = some (.int .i64 ea3) := (cellsB (i := 19) (alc (o := (.cells #[.int .i64 b, .int .i64 c, .int .i64 d, .int .i64 m0, .int .i64 m1, .int .i64 m2, .int .i64 p] 24)) q_1.out)).trans rfl
    have L4_0 : (w1.alloc (.cells #[.int .i64 b, .int .i64 c, .int .i64 d, .int .i64 m0, .int .i64 m1, .int .i64 m2, .int .i64 p] 24)).cell? ⟨w1.heap.size, 0, none⟩ = some (.int .i64 b) := (cellsB (i := 0) (heap_alloc_new w1 (.cells #[.int .i64 b, .int .i64 c, .int .i64 d, .int .i64 m0, .int .i64 m1, .int .i64 m2, .int .i64 p] 24))).trans rfl
    have L4_1 : (w1.alloc (.cells #[.int .i64 b, .int .i64 c, .int .i64 d, .int .i64 m0, .int .i64 m1, .int .i64 m2, .int .i64 p] 24)).cell? ⟨w1.heap.size, 1, none⟩ = some (.int .i64 c) := (cellsB (i := 1) (heap_alloc_new w1 (.cells #[.int .i64 b, .int .i64 c, .int .i64 d, .int .i64 m0, .int .i64 m1, .int .i64 m2, .int .i64 p] 24))).trans rfl
    have L4_2 : (w1.alloc (.cells #[.int .i64 b, .int .i64 c, .int .i64 d, .int .i64 m0, .int .i64 m1, .int .i64 m2, .int .i64 p] 24)).cell? ⟨w1.heap.size, 2, none⟩ = some (.int .i64 d) := (cellsB (i := 2) (heap_alloc_new w1 (.cells #[.int .i64 b, .int .i64 c, .int .i64 d, .int .i64 m0, .int .i64 m1, .int .i64 m2, .int .i64 p] 24))).trans rfl
    have L4_3 : (w1.alloc (.cells #[.int .i64 b, .int .i64 c, .int .i64 d, .int .i64 m0, .int .i64 m1, .int .i64 m2, .int .i64 p] 24)).cell? ⟨w1.heap.size, 3, none⟩ = some (.int .i64 m0) := (cellsB (i := 3) (heap_alloc_new w1 (.cells #[.int .i64 b, .int .i64 c, .int .i64 d, .int .i64 m0, .int .i64 m1, .int .i64 m2, .int .i64 p] 24))).trans rfl
    have L4_4 : (w1.alloc (.cells #[.int .i64 b, .int .i64 c, .int .i64 d, .int .i64 m0, .int .i64 m1, .int .i64 m2, .int .i64 p] 24)).cell? ⟨w1.heap.size, 4, none⟩ = some (.int .i64 m1) := (cellsB (i := 4) (heap_alloc_new w1 (.cells #[.int .i64 b, .int .i64 c, .int .i64 d, .int .i64 m0, .int .i64 m1, .int .i64 m2, .int .i64 p] 24))).trans rfl
    have L4_5 : (w1.alloc (.cells #[.int .i64 b, .int .i64 c, .int .i64 d, .int .i64 m0, .int .i64 m1, .int .i64 m2, .int .i64 p] 24)).cell? ⟨w1.heap.size, 5, none⟩ = some (.int .i64 m2) := (cellsB (i := 5) (heap_alloc_new w1 (.cells #[.int .i64 b, .int .i64 c, .int .i64 d, .int .i64 m0, .int .i64 m1, .int .i64 m2, .int .i64 p] 24))).trans rfl
    have L4_6 : (w1.alloc (.cells #[.int .i64 b, .int .i64 c, .int .i64 d, .int .i64 m0, .int .i64 m1, .int .i64 m2, .int .i64 p] 24)).cell? ⟨w1.heap.size, 6, none⟩ = some (.int .i64 p) := (cellsB (i := 6) (heap_alloc_new w1 (.cells #[.int .i64 b, .int .i64 c, .int .i64 d, .int .i64 m0, .int .i64 m1, .int .i64 m2, .int .i64 p] 24))).trans rfl
    go_wp2_with (first | (refine wpl_row (by rfl) 68 _ rfl _ rfl _ _ _ _ (alc (o := (.cells #[.int .i64 b, .int .i64 c, .int .i64 d, .int .i64 m0, .int .i64 m1, .int .i64 m2, .int .i64 p] 24)) q_1.out) rfl Try.underlying68 (by kernel_rfl) ?_))
    refine (HX.out _).mono ?_
    rintro e w2 ⟨rfl, q⟩
    have s_2 := Lib.hid (blk1 s_1.out q)
    have q_2 := Lib.hid (blk1 q_1.out q)
    have t_2 := Lib.hid (new1 q)
    have B2 := Lib.hid (bel1 B1.out B1.out.size q)
    clear q s_1 q_1 B1
    clear L1_0 L1_1 L1_2 L1_3 L1_4 L1_5 L1_6 L2_7 L3_18 L3_19 L4_0 L4_1 L4_2 L4_3 L4_4 L4_5 L4_6
    go_wp2
    go_ret
    refine ⟨ret_bool ?_, B2.out⟩
    rw [← HR.out]
    exact decide_eq_decide.2 (by unfold RightP; simp only; exact ⟨fun h => ⟨of_decide_eq_true hm, by simpa using h⟩, fun h => by have := h.2; simpa using this⟩)
  by_cases p2 : ph = 2
  · skip
    subst p2
    have HM := Lib.hid (fun W => rmay14_is ⟨⟨b, c, d, m0, m1, m2, p⟩, 2, st, re, si⟩ true hm W)
    unfold S11.val at HM
    simp only at HM
    cases hu : decide (UnF ⟨b, c, d, m0, m1, m2, p⟩ ⟨⟨es0, eu0, et0, ec0, ea0⟩, ⟨es1, eu1, et1, ec1, ea1⟩, ⟨es2, eu2, et2, ec2, ea2⟩, ⟨es3, eu3, et3, ec3, ea3⟩⟩)
    · skip
      obtain ⟨f1, f2, f3⟩ := two_boxes w (.cells #[.int .i64 b, .int .i64 c, .int .i64 d, .int .i64 m0, .int .i64 m1, .int .i64 m2, .int .i64 p, .int .i64 2, .int .i64 st, .int .i64 re, .int .i64 si] 26) (.cells #[.int .i64 es0, .int .i64 eu0, .int .i64 et0, .int .i64 ec0, .int .i64 ea0, .int .i64 es1, .int .i64 eu1, .int .i64 et1, .int .i64 ec1, .int .i64 ea1, .int .i64 es2, .int .i64 eu2, .int .i64 et2, .int .i64 ec2, .int .i64 ea2, .int .i64 es3, .int .i64 eu3, .int .i64 et3, .int .i64 ec3, .int .i64 ea3] 68)
      have s_0 := Lib.hid f1
      have q_0 := Lib.hid f2
      have B0 := Lib.hid f3
      clear f1 f2 f3
      go_enter Try.func49, Try.ntmps49
      have HU := Lib.hid (fun W => unf_is hu W)
      unfold W7.val Q4.val at HU
      simp only at HU
      go_wp2_with (first | (refine wpl_row (by rfl) 26 _ rfl _ rfl _ _ _ _ s_0.out rfl Try.underlying26 (by kernel_rfl) ?_))
      refine (HM.out _).mono ?_
      rintro e w1 ⟨rfl, q⟩
      have s_1 := Lib.hid (blk0 s_0.out q)
      have q_1 := Lib.hid (blk0 q_0.out q)
      have B1 := Lib.hid (bel0 B0.out B0.out.size q)
      clear q s_0 q_0 B0
      have L1_0 : w1.cell? ⟨w.heap.size, 0, none⟩ = some (.int .i64 b) := (cellsB (i := 0) s_1.out).trans rfl
      have L1_1 : w1.cell? ⟨w.heap.size, 1, none⟩ = some (.int .i64 c) := (cellsB (i := 1) s_1.out).trans rfl
      have L1_2 : w1.cell? ⟨w.heap.size, 2, none⟩ = some (.int .i64 d) := (cellsB (i := 2) s_1.out).trans rfl
      have L1_3 : w1.cell? ⟨w.heap.size, 3, none⟩ = some (.int .i64 m0) := (cellsB (i := 3) s_1.out).trans rfl
      have L1_4 : w1.cell? ⟨w.heap.size, 4, none⟩ = some (.int .i64 m1) := (cellsB (i := 4) s_1.out).trans rfl
      have L1_5 : w1.cell? ⟨w.heap.size, 5, none⟩ = some (.int .i64 m2) := (cellsB (i := 5) s_1.out).trans rfl
      have L1_6 : w1.cell? ⟨w.heap.size, 6, none⟩ = some (.int .i64 p) := (cellsB (i := 6) s_1.out).trans rfl
      have L2_7 : (w1.alloc (.cells #[.int .i64 b, .int .i64 c, .int .i64 d, .int .i64 m0, .int .i64 m1, .int .i64 m2, .int .i64 p] 24)).cell? ⟨w.heap.size, 7, none⟩ = some (.int .i64 2) := (cellsB (i := 7) (alc (o := (.cells #[.int .i64 b, .int .i64 c, .int .i64 d, .int .i64 m0, .int .i64 m1, .int .i64 m2, .int .i64 p] 24)) s_1.out)).trans rfl
      have L3_18 : (w1.alloc (.cells #[.int .i64 b, .int .i64 c, .int .i64 d, .int .i64 m0, .int .i64 m1, .int .i64 m2, .int .i64 p] 24)).cell? ⟨(w.heap.size + 1), 18, none⟩ = some (.int .i64 ec3) := (cellsB (i := 18) (alc (o := (.cells #[.int .i64 b, .int .i64 c, .int .i64 d, .int .i64 m0, .int .i64 m1, .int .i64 m2, .int .i64 p] 24)) q_1.out)).trans rfl
      have L3_19 : (w1.alloc (.cells #[.int .i64 b, .int .i64 c, .int .i64 d, .int .i64 m0, .int .i64 m1, .int .i64 m2, .int .i64 p] 24)).cell? ⟨(w.heap.size + 1), 19, none⟩ = some (.int .i64 ea3) := (cellsB (i := 19) (alc (o := (.cells #[.int .i64 b, .int .i64 c, .int .i64 d, .int .i64 m0, .int .i64 m1, .int .i64 m2, .int .i64 p] 24)) q_1.out)).trans rfl
      have L4_0 : (w1.alloc (.cells #[.int .i64 b, .int .i64 c, .int .i64 d, .int .i64 m0, .int .i64 m1, .int .i64 m2, .int .i64 p] 24)).cell? ⟨w1.heap.size, 0, none⟩ = some (.int .i64 b) := (cellsB (i := 0) (heap_alloc_new w1 (.cells #[.int .i64 b, .int .i64 c, .int .i64 d, .int .i64 m0, .int .i64 m1, .int .i64 m2, .int .i64 p] 24))).trans rfl
      have L4_1 : (w1.alloc (.cells #[.int .i64 b, .int .i64 c, .int .i64 d, .int .i64 m0, .int .i64 m1, .int .i64 m2, .int .i64 p] 24)).cell? ⟨w1.heap.size, 1, none⟩ = some (.int .i64 c) := (cellsB (i := 1) (heap_alloc_new w1 (.cells #[.int .i64 b, .int .i64 c, .int .i64 d, .int .i64 m0, .int .i64 m1, .int .i64 m2, .int .i64 p] 24))).trans rfl
      have L4_2 : (w1.alloc (.cells #[.int .i64 b, .int .i64 c, .int .i64 d, .int .i64 m0, .int .i64 m1, .int .i64 m2, .int .i64 p] 24)).cell? ⟨w1.heap.size, 2, none⟩ = some (.int .i64 d) := (cellsB (i := 2) (heap_alloc_new w1 (.cells #[.int .i64 b, .int .i64 c, .int .i64 d, .int .i64 m0, .int .i64 m1, .int .i64 m2, .int .i64 p] 24))).trans rfl
      have L4_3 : (w1.alloc (.cells #[.int .i64 b, .int .i64 c, .int .i64 d, .int .i64 m0, .int .i64 m1, .int .i64 m2, .int .i64 p] 24)).cell? ⟨w1.heap.size, 3, none⟩ = some (.int .i64 m0) := (cellsB (i := 3) (heap_alloc_new w1 (.cells #[.int .i64 b, .int .i64 c, .int .i64 d, .int .i64 m0, .int .i64 m1, .int .i64 m2, .int .i64 p] 24))).trans rfl
      have L4_4 : (w1.alloc (.cells #[.int .i64 b, .int .i64 c, .int .i64 d, .int .i64 m0, .int .i64 m1, .int .i64 m2, .int .i64 p] 24)).cell? ⟨w1.heap.size, 4, none⟩ = some (.int .i64 m1) := (cellsB (i := 4) (heap_alloc_new w1 (.cells #[.int .i64 b, .int .i64 c, .int .i64 d, .int .i64 m0, .int .i64 m1, .int .i64 m2, .int .i64 p] 24))).trans rfl
      have L4_5 : (w1.alloc (.cells #[.int .i64 b, .int .i64 c, .int .i64 d, .int .i64 m0, .int .i64 m1, .int .i64 m2, .int .i64 p] 24)).cell? ⟨w1.heap.size, 5, none⟩ = some (.int .i64 m2) := (cellsB (i := 5) (heap_alloc_new w1 (.cells #[.int .i64 b, .int .i64 c, .int .i64 d, .int .i64 m0, .int .i64 m1, .int .i64 m2, .int .i64 p] 24))).trans rfl
      have L4_6 : (w1.alloc (.cells #[.int .i64 b, .int .i64 c, .int .i64 d, .int .i64 m0, .int .i64 m1, .int .i64 m2, .int .i64 p] 24)).cell? ⟨w1.heap.size, 6, none⟩ = some (.int .i64 p) := (cellsB (i := 6) (heap_alloc_new w1 (.cells #[.int .i64 b, .int .i64 c, .int .i64 d, .int .i64 m0, .int .i64 m1, .int .i64 m2, .int .i64 p] 24))).trans rfl
      go_wp2_with (first | (refine wpl_row (by rfl) 24 _ rfl _ rfl _ _ _ _ (heap_alloc_new w1 (.cells #[.int .i64 b, .int .i64 c, .int .i64 d, .int .i64 m0, .int .i64 m1, .int .i64 m2, .int .i64 p] 24)) rfl Try.underlying24 (by kernel_rfl) ?_) | (refine wpl_row (by rfl) 68 _ rfl _ rfl _ _ _ _ (alc (o := (.cells #[.int .i64 b, .int .i64 c, .int .i64 d, .int .i64 m0, .int .i64 m1, .int .i64 m2, .int .i64 p] 24)) q_1.out) rfl Try.underlying68 (by kernel_rfl) ?_))
      refine (HU.out _).mono ?_
      rintro e w2 ⟨rfl, q⟩
      have s_2 := Lib.hid (blk1 s_1.out q)
      have q_2 := Lib.hid (blk1 q_1.out q)
      have t_2 := Lib.hid (new1 q)
      have B2 := Lib.hid (bel1 B1.out B1.out.size q)
      clear q s_1 q_1 B1
      clear L1_0 L1_1 L1_2 L1_3 L1_4 L1_5 L1_6 L2_7 L3_18 L3_19 L4_0 L4_1 L4_2 L4_3 L4_4 L4_5 L4_6
      have L5_15 : w2.cell? ⟨(w.heap.size + 1), 15, none⟩ = some (.int .i64 es3) := (cellsB (i := 15) q_2.out).trans rfl
      go_wp2
      go_ret
      clear L5_15
      exact ⟨ret_bool (decide_eq_false (show ¬ RightP _ _ from fun h => by have g := h.2; simp only at g; rw [if_neg (by omega), if_neg (by omega), if_pos trivial] at g; exact of_decide_eq_false hu ((unF_all _ _ h.1.1).2 g.1))).symm, B2.out⟩
    by_cases h4 : es3 = 4
    · skip
      have z5 : (es3 == 5) = false := by simp [h4]
      have z5n : (es3 != 5) = true := by simp [h4]
      have b4 : (es3 == 4) = true := by simp [h4]
      have b4n : (es3 != 4) = false := by simp [h4]
      have H4 := Lib.hid h4
      clear h4
      obtain ⟨f1, f2, f3⟩ := two_boxes w (.cells #[.int .i64 b, .int .i64 c, .int .i64 d, .int .i64 m0, .int .i64 m1, .int .i64 m2, .int .i64 p, .int .i64 2, .int .i64 st, .int .i64 re, .int .i64 si] 26) (.cells #[.int .i64 es0, .int .i64 eu0, .int .i64 et0, .int .i64 ec0, .int .i64 ea0, .int .i64 es1, .int .i64 eu1, .int .i64 et1, .int .i64 ec1, .int .i64 ea1, .int .i64 es2, .int .i64 eu2, .int .i64 et2, .int .i64 ec2, .int .i64 ea2, .int .i64 es3, .int .i64 eu3, .int .i64 et3, .int .i64 ec3, .int .i64 ea3] 68)
      have s_0 := Lib.hid f1
      have q_0 := Lib.hid f2
      have B0 := Lib.hid f3
      clear f1 f2 f3
      go_enter Try.func49, Try.ntmps49
      have HU := Lib.hid (fun W => unf_is hu W)
      unfold W7.val Q4.val at HU
      simp only at HU
      go_wp2_with (first | (refine wpl_row (by rfl) 26 _ rfl _ rfl _ _ _ _ s_0.out rfl Try.underlying26 (by kernel_rfl) ?_))
      refine (HM.out _).mono ?_
      rintro e w1 ⟨rfl, q⟩
      have s_1 := Lib.hid (blk0 s_0.out q)
      have q_1 := Lib.hid (blk0 q_0.out q)
      have B1 := Lib.hid (bel0 B0.out B0.out.size q)
      clear q s_0 q_0 B0
      have L1_0 : w1.cell? ⟨w.heap.size, 0, none⟩ = some (.int .i64 b) := (cellsB (i := 0) s_1.out).trans rfl
      have L1_1 : w1.cell? ⟨w.heap.size, 1, none⟩ = some (.int .i64 c) := (cellsB (i := 1) s_1.out).trans rfl
      have L1_2 : w1.cell? ⟨w.heap.size, 2, none⟩ = some (.int .i64 d) := (cellsB (i := 2) s_1.out).trans rfl
      have L1_3 : w1.cell? ⟨w.heap.size, 3, none⟩ = some (.int .i64 m0) := (cellsB (i := 3) s_1.out).trans rfl
      have L1_4 : w1.cell? ⟨w.heap.size, 4, none⟩ = some (.int .i64 m1) := (cellsB (i := 4) s_1.out).trans rfl
      have L1_5 : w1.cell? ⟨w.heap.size, 5, none⟩ = some (.int .i64 m2) := (cellsB (i := 5) s_1.out).trans rfl
      have L1_6 : w1.cell? ⟨w.heap.size, 6, none⟩ = some (.int .i64 p) := (cellsB (i := 6) s_1.out).trans rfl
      have L2_7 : (w1.alloc (.cells #[.int .i64 b, .int .i64 c, .int .i64 d, .int .i64 m0, .int .i64 m1, .int .i64 m2, .int .i64 p] 24)).cell? ⟨w.heap.size, 7, none⟩ = some (.int .i64 2) := (cellsB (i := 7) (alc (o := (.cells #[.int .i64 b, .int .i64 c, .int .i64 d, .int .i64 m0, .int .i64 m1, .int .i64 m2, .int .i64 p] 24)) s_1.out)).trans rfl
      have L3_18 : (w1.alloc (.cells #[.int .i64 b, .int .i64 c, .int .i64 d, .int .i64 m0, .int .i64 m1, .int .i64 m2, .int .i64 p] 24)).cell? ⟨(w.heap.size + 1), 18, none⟩ = some (.int .i64 ec3) := (cellsB (i := 18) (alc (o := (.cells #[.int .i64 b, .int .i64 c, .int .i64 d, .int .i64 m0, .int .i64 m1, .int .i64 m2, .int .i64 p] 24)) q_1.out)).trans rfl
      have L3_19 : (w1.alloc (.cells #[.int .i64 b, .int .i64 c, .int .i64 d, .int .i64 m0, .int .i64 m1, .int .i64 m2, .int .i64 p] 24)).cell? ⟨(w.heap.size + 1), 19, none⟩ = some (.int .i64 ea3) := (cellsB (i := 19) (alc (o := (.cells #[.int .i64 b, .int .i64 c, .int .i64 d, .int .i64 m0, .int .i64 m1, .int .i64 m2, .int .i64 p] 24)) q_1.out)).trans rfl
      have L4_0 : (w1.alloc (.cells #[.int .i64 b, .int .i64 c, .int .i64 d, .int .i64 m0, .int .i64 m1, .int .i64 m2, .int .i64 p] 24)).cell? ⟨w1.heap.size, 0, none⟩ = some (.int .i64 b) := (cellsB (i := 0) (heap_alloc_new w1 (.cells #[.int .i64 b, .int .i64 c, .int .i64 d, .int .i64 m0, .int .i64 m1, .int .i64 m2, .int .i64 p] 24))).trans rfl
      have L4_1 : (w1.alloc (.cells #[.int .i64 b, .int .i64 c, .int .i64 d, .int .i64 m0, .int .i64 m1, .int .i64 m2, .int .i64 p] 24)).cell? ⟨w1.heap.size, 1, none⟩ = some (.int .i64 c) := (cellsB (i := 1) (heap_alloc_new w1 (.cells #[.int .i64 b, .int .i64 c, .int .i64 d, .int .i64 m0, .int .i64 m1, .int .i64 m2, .int .i64 p] 24))).trans rfl
      have L4_2 : (w1.alloc (.cells #[.int .i64 b, .int .i64 c, .int .i64 d, .int .i64 m0, .int .i64 m1, .int .i64 m2, .int .i64 p] 24)).cell? ⟨w1.heap.size, 2, none⟩ = some (.int .i64 d) := (cellsB (i := 2) (heap_alloc_new w1 (.cells #[.int .i64 b, .int .i64 c, .int .i64 d, .int .i64 m0, .int .i64 m1, .int .i64 m2, .int .i64 p] 24))).trans rfl
      have L4_3 : (w1.alloc (.cells #[.int .i64 b, .int .i64 c, .int .i64 d, .int .i64 m0, .int .i64 m1, .int .i64 m2, .int .i64 p] 24)).cell? ⟨w1.heap.size, 3, none⟩ = some (.int .i64 m0) := (cellsB (i := 3) (heap_alloc_new w1 (.cells #[.int .i64 b, .int .i64 c, .int .i64 d, .int .i64 m0, .int .i64 m1, .int .i64 m2, .int .i64 p] 24))).trans rfl
      have L4_4 : (w1.alloc (.cells #[.int .i64 b, .int .i64 c, .int .i64 d, .int .i64 m0, .int .i64 m1, .int .i64 m2, .int .i64 p] 24)).cell? ⟨w1.heap.size, 4, none⟩ = some (.int .i64 m1) := (cellsB (i := 4) (heap_alloc_new w1 (.cells #[.int .i64 b, .int .i64 c, .int .i64 d, .int .i64 m0, .int .i64 m1, .int .i64 m2, .int .i64 p] 24))).trans rfl
      have L4_5 : (w1.alloc (.cells #[.int .i64 b, .int .i64 c, .int .i64 d, .int .i64 m0, .int .i64 m1, .int .i64 m2, .int .i64 p] 24)).cell? ⟨w1.heap.size, 5, none⟩ = some (.int .i64 m2) := (cellsB (i := 5) (heap_alloc_new w1 (.cells #[.int .i64 b, .int .i64 c, .int .i64 d, .int .i64 m0, .int .i64 m1, .int .i64 m2, .int .i64 p] 24))).trans rfl
      have L4_6 : (w1.alloc (.cells #[.int .i64 b, .int .i64 c, .int .i64 d, .int .i64 m0, .int .i64 m1, .int .i64 m2, .int .i64 p] 24)).cell? ⟨w1.heap.size, 6, none⟩ = some (.int .i64 p) := (cellsB (i := 6) (heap_alloc_new w1 (.cells #[.int .i64 b, .int .i64 c, .int .i64 d, .int .i64 m0, .int .i64 m1, .int .i64 m2, .int .i64 p] 24))).trans rfl
      go_wp2_with (first | (refine wpl_row (by rfl) 24 _ rfl _ rfl _ _ _ _ (heap_alloc_new w1 (.cells #[.int .i64 b, .int .i64 c, .int .i64 d, .int .i64 m0, .int .i64 m1, .int .i64 m2, .int .i64 p] 24)) rfl Try.underlying24 (by kernel_rfl) ?_) | (refine wpl_row (by rfl) 68 _ rfl _ rfl _ _ _ _ (alc (o := (.cells #[.int .i64 b, .int .i64 c, .int .i64 d, .int .i64 m0, .int .i64 m1, .int .i64 m2, .int .i64 p] 24)) q_1.out) rfl Try.underlying68 (by kernel_rfl) ?_))
      refine (HU.out _).mono ?_
      rintro e w2 ⟨rfl, q⟩
      have s_2 := Lib.hid (blk1 s_1.out q)
      have q_2 := Lib.hid (blk1 q_1.out q)
      have t_2 := Lib.hid (new1 q)
      have B2 := Lib.hid (bel1 B1.out B1.out.size q)
      clear q s_1 q_1 B1
      clear L1_0 L1_1 L1_2 L1_3 L1_4 L1_5 L1_6 L2_7 L3_18 L3_19 L4_0 L4_1 L4_2 L4_3 L4_4 L4_5 L4_6
      have L5_15 : w2.cell? ⟨(w.heap.size + 1), 15, none⟩ = some (.int .i64 es3) := (cellsB (i := 15) q_2.out).trans rfl
      go_wp2
      go_ret
      clear L5_15
      exact ⟨ret_bool (decide_eq_false (show ¬ RightP _ _ from fun h => by have g := h.2; simp only at g; rw [if_neg (by omega), if_neg (by omega), if_pos trivial] at g; exact g.2.elim (fun z => HC.out z.2.2) (fun z => HC.out z.2.2))).symm, B2.out⟩
    have b4 : (es3 == 4) = false := beq_eq_false_iff_ne.2 h4
    have b4n : (es3 != 4) = true := by simp [h4]
    have H4 := Lib.hid h4
    clear h4
    by_cases h5 : es3 = 5
    · skip
      have b5 : (es3 == 5) = true := by simp [h5]
      have b5n : (es3 != 5) = false := by simp [h5]
      have H5 := Lib.hid h5
      clear h5
      obtain ⟨f1, f2, f3⟩ := two_boxes w (.cells #[.int .i64 b, .int .i64 c, .int .i64 d, .int .i64 m0, .int .i64 m1, .int .i64 m2, .int .i64 p, .int .i64 2, .int .i64 st, .int .i64 re, .int .i64 si] 26) (.cells #[.int .i64 es0, .int .i64 eu0, .int .i64 et0, .int .i64 ec0, .int .i64 ea0, .int .i64 es1, .int .i64 eu1, .int .i64 et1, .int .i64 ec1, .int .i64 ea1, .int .i64 es2, .int .i64 eu2, .int .i64 et2, .int .i64 ec2, .int .i64 ea2, .int .i64 es3, .int .i64 eu3, .int .i64 et3, .int .i64 ec3, .int .i64 ea3] 68)
      have s_0 := Lib.hid f1
      have q_0 := Lib.hid f2
      have B0 := Lib.hid f3
      clear f1 f2 f3
      go_enter Try.func49, Try.ntmps49
      have HU := Lib.hid (fun W => unf_is hu W)
      unfold W7.val Q4.val at HU
      simp only at HU
      go_wp2_with (first | (refine wpl_row (by rfl) 26 _ rfl _ rfl _ _ _ _ s_0.out rfl Try.underlying26 (by kernel_rfl) ?_))
      refine (HM.out _).mono ?_
      rintro e w1 ⟨rfl, q⟩
      have s_1 := Lib.hid (blk0 s_0.out q)
      have q_1 := Lib.hid (blk0 q_0.out q)
      have B1 := Lib.hid (bel0 B0.out B0.out.size q)
      clear q s_0 q_0 B0
      have L1_0 : w1.cell? ⟨w.heap.size, 0, none⟩ = some (.int .i64 b) := (cellsB (i := 0) s_1.out).trans rfl
      have L1_1 : w1.cell? ⟨w.heap.size, 1, none⟩ = some (.int .i64 c) := (cellsB (i := 1) s_1.out).trans rfl
      have L1_2 : w1.cell? ⟨w.heap.size, 2, none⟩ = some (.int .i64 d) := (cellsB (i := 2) s_1.out).trans rfl
      have L1_3 : w1.cell? ⟨w.heap.size, 3, none⟩ = some (.int .i64 m0) := (cellsB (i := 3) s_1.out).trans rfl
      have L1_4 : w1.cell? ⟨w.heap.size, 4, none⟩ = some (.int .i64 m1) := (cellsB (i := 4) s_1.out).trans rfl
      have L1_5 : w1.cell? ⟨w.heap.size, 5, none⟩ = some (.int .i64 m2) := (cellsB (i := 5) s_1.out).trans rfl
      have L1_6 : w1.cell? ⟨w.heap.size, 6, none⟩ = some (.int .i64 p) := (cellsB (i := 6) s_1.out).trans rfl
      have L2_7 : (w1.alloc (.cells #[.int .i64 b, .int .i64 c, .int .i64 d, .int .i64 m0, .int .i64 m1, .int .i64 m2, .int .i64 p] 24)).cell? ⟨w.heap.size, 7, none⟩ = some (.int .i64 2) := (cellsB (i := 7) (alc (o := (.cells #[.int .i64 b, .int .i64 c, .int .i64 d, .int .i64 m0, .int .i64 m1, .int .i64 m2, .int .i64 p] 24)) s_1.out)).trans rfl
      have L3_18 : (w1.alloc (.cells #[.int .i64 b, .int .i64 c, .int .i64 d, .int .i64 m0, .int .i64 m1, .int .i64 m2, .int .i64 p] 24)).cell? ⟨(w.heap.size + 1), 18, none⟩ = some (.int .i64 ec3) := (cellsB (i := 18) (alc (o := (.cells #[.int .i64 b, .int .i64 c, .int .i64 d, .int .i64 m0, .int .i64 m1, .int .i64 m2, .int .i64 p] 24)) q_1.out)).trans rfl
      have L3_19 : (w1.alloc (.cells #[.int .i64 b, .int .i64 c, .int .i64 d, .int .i64 m0, .int .i64 m1, .int .i64 m2, .int .i64 p] 24)).cell? ⟨(w.heap.size + 1), 19, none⟩ = some (.int .i64 ea3) := (cellsB (i := 19) (alc (o := (.cells #[.int .i64 b, .int .i64 c, .int .i64 d, .int .i64 m0, .int .i64 m1, .int .i64 m2, .int .i64 p] 24)) q_1.out)).trans rfl
      have L4_0 : (w1.alloc (.cells #[.int .i64 b, .int .i64 c, .int .i64 d, .int .i64 m0, .int .i64 m1, .int .i64 m2, .int .i64 p] 24)).cell? ⟨w1.heap.size, 0, none⟩ = some (.int .i64 b) := (cellsB (i := 0) (heap_alloc_new w1 (.cells #[.int .i64 b, .int .i64 c, .int .i64 d, .int .i64 m0, .int .i64 m1, .int .i64 m2, .int .i64 p] 24))).trans rfl
      have L4_1 : (w1.alloc (.cells #[.int .i64 b, .int .i64 c, .int .i64 d, .int .i64 m0, .int .i64 m1, .int .i64 m2, .int .i64 p] 24)).cell? ⟨w1.heap.size, 1, none⟩ = some (.int .i64 c) := (cellsB (i := 1) (heap_alloc_new w1 (.cells #[.int .i64 b, .int .i64 c, .int .i64 d, .int .i64 m0, .int .i64 m1, .int .i64 m2, .int .i64 p] 24))).trans rfl
      have L4_2 : (w1.alloc (.cells #[.int .i64 b, .int .i64 c, .int .i64 d, .int .i64 m0, .int .i64 m1, .int .i64 m2, .int .i64 p] 24)).cell? ⟨w1.heap.size, 2, none⟩ = some (.int .i64 d) := (cellsB (i := 2) (heap_alloc_new w1 (.cells #[.int .i64 b, .int .i64 c, .int .i64 d, .int .i64 m0, .int .i64 m1, .int .i64 m2, .int .i64 p] 24))).trans rfl
      have L4_3 : (w1.alloc (.cells #[.int .i64 b, .int .i64 c, .int .i64 d, .int .i64 m0, .int .i64 m1, .int .i64 m2, .int .i64 p] 24)).cell? ⟨w1.heap.size, 3, none⟩ = some (.int .i64 m0) := (cellsB (i := 3) (heap_alloc_new w1 (.cells #[.int .i64 b, .int .i64 c, .int .i64 d, .int .i64 m0, .int .i64 m1, .int .i64 m2, .int .i64 p] 24))).trans rfl
      have L4_4 : (w1.alloc (.cells #[.int .i64 b, .int .i64 c, .int .i64 d, .int .i64 m0, .int .i64 m1, .int .i64 m2, .int .i64 p] 24)).cell? ⟨w1.heap.size, 4, none⟩ = some (.int .i64 m1) := (cellsB (i := 4) (heap_alloc_new w1 (.cells #[.int .i64 b, .int .i64 c, .int .i64 d, .int .i64 m0, .int .i64 m1, .int .i64 m2, .int .i64 p] 24))).trans rfl
      have L4_5 : (w1.alloc (.cells #[.int .i64 b, .int .i64 c, .int .i64 d, .int .i64 m0, .int .i64 m1, .int .i64 m2, .int .i64 p] 24)).cell? ⟨w1.heap.size, 5, none⟩ = some (.int .i64 m2) := (cellsB (i := 5) (heap_alloc_new w1 (.cells #[.int .i64 b, .int .i64 c, .int .i64 d, .int .i64 m0, .int .i64 m1, .int .i64 m2, .int .i64 p] 24))).trans rfl
      have L4_6 : (w1.alloc (.cells #[.int .i64 b, .int .i64 c, .int .i64 d, .int .i64 m0, .int .i64 m1, .int .i64 m2, .int .i64 p] 24)).cell? ⟨w1.heap.size, 6, none⟩ = some (.int .i64 p) := (cellsB (i := 6) (heap_alloc_new w1 (.cells #[.int .i64 b, .int .i64 c, .int .i64 d, .int .i64 m0, .int .i64 m1, .int .i64 m2, .int .i64 p] 24))).trans rfl
      go_wp2_with (first | (refine wpl_row (by rfl) 24 _ rfl _ rfl _ _ _ _ (heap_alloc_new w1 (.cells #[.int .i64 b, .int .i64 c, .int .i64 d, .int .i64 m0, .int .i64 m1, .int .i64 m2, .int .i64 p] 24)) rfl Try.underlying24 (by kernel_rfl) ?_) | (refine wpl_row (by rfl) 68 _ rfl _ rfl _ _ _ _ (alc (o := (.cells #[.int .i64 b, .int .i64 c, .int .i64 d, .int .i64 m0, .int .i64 m1, .int .i64 m2, .int .i64 p] 24)) q_1.out) rfl Try.underlying68 (by kernel_rfl) ?_))
      refine (HU.out _).mono ?_
      rintro e w2 ⟨rfl, q⟩
      have s_2 := Lib.hid (blk1 s_1.out q)
      have q_2 := Lib.hid (blk1 q_1.out q)
      have t_2 := Lib.hid (new1 q)
      have B2 := Lib.hid (bel1 B1.out B1.out.size q)
      clear q s_1 q_1 B1
      clear L1_0 L1_1 L1_2 L1_3 L1_4 L1_5 L1_6 L2_7 L3_18 L3_19 L4_0 L4_1 L4_2 L4_3 L4_4 L4_5 L4_6
      have L5_15 : w2.cell? ⟨(w.heap.size + 1), 15, none⟩ = some (.int .i64 es3) := (cellsB (i := 15) q_2.out).trans rfl
      go_wp2
      go_ret
      clear L5_15
      exact ⟨ret_bool (decide_eq_false (show ¬ RightP _ _ from fun h => by have g := h.2; simp only at g; rw [if_neg (by omega), if_neg (by omega), if_pos trivial] at g; exact g.2.elim (fun z => HC.out z.2.2) (fun z => HC.out z.2.2))).symm, B2.out⟩
    have b5 : (es3 == 5) = false := beq_eq_false_iff_ne.2 h5
    have b5n : (es3 != 5) = true := by simp [h5]
    have H5 := Lib.hid h5
    clear h5
    obtain ⟨f1, f2, f3⟩ := two_boxes w (.cells #[.int .i64 b, .int .i64 c, .int .i64 d, .int .i64 m0, .int .i64 m1, .int .i64 m2, .int .i64 p, .int .i64 2, .int .i64 st, .int .i64 re, .int .i64 si] 26) (.cells #[.int .i64 es0, .int .i64 eu0, .int .i64 et0, .int .i64 ec0, .int .i64 ea0, .int .i64 es1, .int .i64 eu1, .int .i64 et1, .int .i64 ec1, .int .i64 ea1, .int .i64 es2, .int .i64 eu2, .int .i64 et2, .int .i64 ec2, .int .i64 ea2, .int .i64 es3, .int .i64 eu3, .int .i64 et3, .int .i64 ec3, .int .i64 ea3] 68)
    have s_0 := Lib.hid f1
    have q_0 := Lib.hid f2
    have B0 := Lib.hid f3
    clear f1 f2 f3
    go_enter Try.func49, Try.ntmps49
    have HU := Lib.hid (fun W => unf_is hu W)
    unfold W7.val Q4.val at HU
    simp only at HU
    go_wp2_with (first | (refine wpl_row (by rfl) 26 _ rfl _ rfl _ _ _ _ s_0.out rfl Try.underlying26 (by kernel_rfl) ?_))
    refine (HM.out _).mono ?_
    rintro e w1 ⟨rfl, q⟩
    have s_1 := Lib.hid (blk0 s_0.out q)
    have q_1 := Lib.hid (blk0 q_0.out q)
    have B1 := Lib.hid (bel0 B0.out B0.out.size q)
    clear q s_0 q_0 B0
    have L1_0 : w1.cell? ⟨w.heap.size, 0, none⟩ = some (.int .i64 b) := (cellsB (i := 0) s_1.out).trans rfl
    have L1_1 : w1.cell? ⟨w.heap.size, 1, none⟩ = some (.int .i64 c) := (cellsB (i := 1) s_1.out).trans rfl
    have L1_2 : w1.cell? ⟨w.heap.size, 2, none⟩ = some (.int .i64 d) := (cellsB (i := 2) s_1.out).trans rfl
    have L1_3 : w1.cell? ⟨w.heap.size, 3, none⟩ = some (.int .i64 m0) := (cellsB (i := 3) s_1.out).trans rfl
    have L1_4 : w1.cell? ⟨w.heap.size, 4, none⟩ = some (.int .i64 m1) := (cellsB (i := 4) s_1.out).trans rfl
    have L1_5 : w1.cell? ⟨w.heap.size, 5, none⟩ = some (.int .i64 m2) := (cellsB (i := 5) s_1.out).trans rfl
    have L1_6 : w1.cell? ⟨w.heap.size, 6, none⟩ = some (.int .i64 p) := (cellsB (i := 6) s_1.out).trans rfl
    have L2_7 : (w1.alloc (.cells #[.int .i64 b, .int .i64 c, .int .i64 d, .int .i64 m0, .int .i64 m1, .int .i64 m2, .int .i64 p] 24)).cell? ⟨w.heap.size, 7, none⟩ = some (.int .i64 2) := (cellsB (i := 7) (alc (o := (.cells #[.int .i64 b, .int .i64 c, .int .i64 d, .int .i64 m0, .int .i64 m1, .int .i64 m2, .int .i64 p] 24)) s_1.out)).trans rfl
    have L3_18 : (w1.alloc (.cells #[.int .i64 b, .int .i64 c, .int .i64 d, .int .i64 m0, .int .i64 m1, .int .i64 m2, .int .i64 p] 24)).cell? ⟨(w.heap.size + 1), 18, none⟩ = some (.int .i64 ec3) := (cellsB (i := 18) (alc (o := (.cells #[.int .i64 b, .int .i64 c, .int .i64 d, .int .i64 m0, .int .i64 m1, .int .i64 m2, .int .i64 p] 24)) q_1.out)).trans rfl
    have L3_19 : (w1.alloc (.cells #[.int .i64 b, .int .i64 c, .int .i64 d, .int .i64 m0, .int .i64 m1, .int .i64 m2, .int .i64 p] 24)).cell? ⟨(w.heap.size + 1), 19, none⟩ = some (.int .i64 ea3) := (cellsB (i := 19) (alc (o := (.cells #[.int .i64 b, .int .i64 c, .int .i64 d, .int .i64 m0, .int .i64 m1, .int .i64 m2, .int .i64 p] 24)) q_1.out)).trans rfl
    have L4_0 : (w1.alloc (.cells #[.int .i64 b, .int .i64 c, .int .i64 d, .int .i64 m0, .int .i64 m1, .int .i64 m2, .int .i64 p] 24)).cell? ⟨w1.heap.size, 0, none⟩ = some (.int .i64 b) := (cellsB (i := 0) (heap_alloc_new w1 (.cells #[.int .i64 b, .int .i64 c, .int .i64 d, .int .i64 m0, .int .i64 m1, .int .i64 m2, .int .i64 p] 24))).trans rfl
    have L4_1 : (w1.alloc (.cells #[.int .i64 b, .int .i64 c, .int .i64 d, .int .i64 m0, .int .i64 m1, .int .i64 m2, .int .i64 p] 24)).cell? ⟨w1.heap.size, 1, none⟩ = some (.int .i64 c) := (cellsB (i := 1) (heap_alloc_new w1 (.cells #[.int .i64 b, .int .i64 c, .int .i64 d, .int .i64 m0, .int .i64 m1, .int .i64 m2, .int .i64 p] 24))).trans rfl
    have L4_2 : (w1.alloc (.cells #[.int .i64 b, .int .i64 c, .int .i64 d, .int .i64 m0, .int .i64 m1, .int .i64 m2, .int .i64 p] 24)).cell? ⟨w1.heap.size, 2, none⟩ = some (.int .i64 d) := (cellsB (i := 2) (heap_alloc_new w1 (.cells #[.int .i64 b, .int .i64 c, .int .i64 d, .int .i64 m0, .int .i64 m1, .int .i64 m2, .int .i64 p] 24))).trans rfl
    have L4_3 : (w1.alloc (.cells #[.int .i64 b, .int .i64 c, .int .i64 d, .int .i64 m0, .int .i64 m1, .int .i64 m2, .int .i64 p] 24)).cell? ⟨w1.heap.size, 3, none⟩ = some (.int .i64 m0) := (cellsB (i := 3) (heap_alloc_new w1 (.cells #[.int .i64 b, .int .i64 c, .int .i64 d, .int .i64 m0, .int .i64 m1, .int .i64 m2, .int .i64 p] 24))).trans rfl
    have L4_4 : (w1.alloc (.cells #[.int .i64 b, .int .i64 c, .int .i64 d, .int .i64 m0, .int .i64 m1, .int .i64 m2, .int .i64 p] 24)).cell? ⟨w1.heap.size, 4, none⟩ = some (.int .i64 m1) := (cellsB (i := 4) (heap_alloc_new w1 (.cells #[.int .i64 b, .int .i64 c, .int .i64 d, .int .i64 m0, .int .i64 m1, .int .i64 m2, .int .i64 p] 24))).trans rfl
    have L4_5 : (w1.alloc (.cells #[.int .i64 b, .int .i64 c, .int .i64 d, .int .i64 m0, .int .i64 m1, .int .i64 m2, .int .i64 p] 24)).cell? ⟨w1.heap.size, 5, none⟩ = some (.int .i64 m2) := (cellsB (i := 5) (heap_alloc_new w1 (.cells #[.int .i64 b, .int .i64 c, .int .i64 d, .int .i64 m0, .int .i64 m1, .int .i64 m2, .int .i64 p] 24))).trans rfl
    have L4_6 : (w1.alloc (.cells #[.int .i64 b, .int .i64 c, .int .i64 d, .int .i64 m0, .int .i64 m1, .int .i64 m2, .int .i64 p] 24)).cell? ⟨w1.heap.size, 6, none⟩ = some (.int .i64 p) := (cellsB (i := 6) (heap_alloc_new w1 (.cells #[.int .i64 b, .int .i64 c, .int .i64 d, .int .i64 m0, .int .i64 m1, .int .i64 m2, .int .i64 p] 24))).trans rfl
    go_wp2_with (first | (refine wpl_row (by rfl) 24 _ rfl _ rfl _ _ _ _ (heap_alloc_new w1 (.cells #[.int .i64 b, .int .i64 c, .int .i64 d, .int .i64 m0, .int .i64 m1, .int .i64 m2, .int .i64 p] 24)) rfl Try.underlying24 (by kernel_rfl) ?_) | (refine wpl_row (by rfl) 68 _ rfl _ rfl _ _ _ _ (alc (o := (.cells #[.int .i64 b, .int .i64 c, .int .i64 d, .int .i64 m0, .int .i64 m1, .int .i64 m2, .int .i64 p] 24)) q_1.out) rfl Try.underlying68 (by kernel_rfl) ?_))
    refine (HU.out _).mono ?_
    rintro e w2 ⟨rfl, q⟩
    have s_2 := Lib.hid (blk1 s_1.out q)
    have q_2 := Lib.hid (blk1 q_1.out q)
    have t_2 := Lib.hid (new1 q)
    have B2 := Lib.hid (bel1 B1.out B1.out.size q)
    clear q s_1 q_1 B1
    clear L1_0 L1_1 L1_2 L1_3 L1_4 L1_5 L1_6 L2_7 L3_18 L3_19 L4_0 L4_1 L4_2 L4_3 L4_4 L4_5 L4_6
    have L5_15 : w2.cell? ⟨(w.heap.size + 1), 15, none⟩ = some (.int .i64 es3) := (cellsB (i := 15) q_2.out).trans rfl
    go_wp2
    go_ret
    clear L5_15
    exact ⟨ret_bool (decide_eq_false (show ¬ RightP _ _ from fun h => by have g := h.2; simp only at g; rw [if_neg (by omega), if_neg (by omega), if_pos trivial] at g; exact g.2.elim (fun z => H5.out z.1) (fun z => H4.out z.1))).symm, B2.out⟩
  have b4 : (ph == 4) = false := beq_eq_false_iff_ne.2 p4
  have b5 : (ph == 5) = false := beq_eq_false_iff_ne.2 p5
  have b2 : (ph == 2) = false := beq_eq_false_iff_ne.2 p2
  have HM := Lib.hid (fun W => rmay14_is ⟨⟨b, c, d, m0, m1, m2, p⟩, ph, st, re, si⟩ true hm W)
  unfold S11.val at HM
  simp only at HM
  cases hu : decide (UnT ⟨b, c, d, m0, m1, m2, p⟩ ⟨⟨es0, eu0, et0, ec0, ea0⟩, ⟨es1, eu1, et1, ec1, ea1⟩, ⟨es2, eu2, et2, ec2, ea2⟩, ⟨es3, eu3, et3, ec3, ea3⟩⟩)
  · skip
    obtain ⟨f1, f2, f3⟩ := two_boxes w (.cells #[.int .i64 b, .int .i64 c, .int .i64 d, .int .i64 m0, .int .i64 m1, .int .i64 m2, .int .i64 p, .int .i64 ph, .int .i64 st, .int .i64 re, .int .i64 si] 26) (.cells #[.int .i64 es0, .int .i64 eu0, .int .i64 et0, .int .i64 ec0, .int .i64 ea0, .int .i64 es1, .int .i64 eu1, .int .i64 et1, .int .i64 ec1, .int .i64 ea1, .int .i64 es2, .int .i64 eu2, .int .i64 et2, .int .i64 ec2, .int .i64 ea2, .int .i64 es3, .int .i64 eu3, .int .i64 et3, .int .i64 ec3, .int .i64 ea3] 68)
    have s_0 := Lib.hid f1
    have q_0 := Lib.hid f2
    have B0 := Lib.hid f3
    clear f1 f2 f3
    go_enter Try.func49, Try.ntmps49
    have HU := Lib.hid (fun W => unt_is hu W)
    unfold W7.val Q4.val at HU
    simp only at HU
    go_wp2_with (first | (refine wpl_row (by rfl) 26 _ rfl _ rfl _ _ _ _ s_0.out rfl Try.underlying26 (by kernel_rfl) ?_))
    refine (HM.out _).mono ?_
    rintro e w1 ⟨rfl, q⟩
    have s_1 := Lib.hid (blk0 s_0.out q)
    have q_1 := Lib.hid (blk0 q_0.out q)
    have B1 := Lib.hid (bel0 B0.out B0.out.size q)
    clear q s_0 q_0 B0
    have L1_0 : w1.cell? ⟨w.heap.size, 0, none⟩ = some (.int .i64 b) := (cellsB (i := 0) s_1.out).trans rfl
    have L1_1 : w1.cell? ⟨w.heap.size, 1, none⟩ = some (.int .i64 c) := (cellsB (i := 1) s_1.out).trans rfl
    have L1_2 : w1.cell? ⟨w.heap.size, 2, none⟩ = some (.int .i64 d) := (cellsB (i := 2) s_1.out).trans rfl
    have L1_3 : w1.cell? ⟨w.heap.size, 3, none⟩ = some (.int .i64 m0) := (cellsB (i := 3) s_1.out).trans rfl
    have L1_4 : w1.cell? ⟨w.heap.size, 4, none⟩ = some (.int .i64 m1) := (cellsB (i := 4) s_1.out).trans rfl
    have L1_5 : w1.cell? ⟨w.heap.size, 5, none⟩ = some (.int .i64 m2) := (cellsB (i := 5) s_1.out).trans rfl
    have L1_6 : w1.cell? ⟨w.heap.size, 6, none⟩ = some (.int .i64 p) := (cellsB (i := 6) s_1.out).trans rfl
    have L2_7 : (w1.alloc (.cells #[.int .i64 b, .int .i64 c, .int .i64 d, .int .i64 m0, .int .i64 m1, .int .i64 m2, .int .i64 p] 24)).cell? ⟨w.heap.size, 7, none⟩ = some (.int .i64 ph) := (cellsB (i := 7) (alc (o := (.cells #[.int .i64 b, .int .i64 c, .int .i64 d, .int .i64 m0, .int .i64 m1, .int .i64 m2, .int .i64 p] 24)) s_1.out)).trans rfl
    have L3_18 : (w1.alloc (.cells #[.int .i64 b, .int .i64 c, .int .i64 d, .int .i64 m0, .int .i64 m1, .int .i64 m2, .int .i64 p] 24)).cell? ⟨(w.heap.size + 1), 18, none⟩ = some (.int .i64 ec3) := (cellsB (i := 18) (alc (o := (.cells #[.int .i64 b, .int .i64 c, .int .i64 d, .int .i64 m0, .int .i64 m1, .int .i64 m2, .int .i64 p] 24)) q_1.out)).trans rfl
    have L3_19 : (w1.alloc (.cells #[.int .i64 b, .int .i64 c, .int .i64 d, .int .i64 m0, .int .i64 m1, .int .i64 m2, .int .i64 p] 24)).cell? ⟨(w.heap.size + 1), 19, none⟩ = some (.int .i64 ea3) := (cellsB (i := 19) (alc (o := (.cells #[.int .i64 b, .int .i64 c, .int .i64 d, .int .i64 m0, .int .i64 m1, .int .i64 m2, .int .i64 p] 24)) q_1.out)).trans rfl
    have L4_0 : (w1.alloc (.cells #[.int .i64 b, .int .i64 c, .int .i64 d, .int .i64 m0, .int .i64 m1, .int .i64 m2, .int .i64 p] 24)).cell? ⟨w1.heap.size, 0, none⟩ = some (.int .i64 b) := (cellsB (i := 0) (heap_alloc_new w1 (.cells #[.int .i64 b, .int .i64 c, .int .i64 d, .int .i64 m0, .int .i64 m1, .int .i64 m2, .int .i64 p] 24))).trans rfl
    have L4_1 : (w1.alloc (.cells #[.int .i64 b, .int .i64 c, .int .i64 d, .int .i64 m0, .int .i64 m1, .int .i64 m2, .int .i64 p] 24)).cell? ⟨w1.heap.size, 1, none⟩ = some (.int .i64 c) := (cellsB (i := 1) (heap_alloc_new w1 (.cells #[.int .i64 b, .int .i64 c, .int .i64 d, .int .i64 m0, .int .i64 m1, .int .i64 m2, .int .i64 p] 24))).trans rfl
    have L4_2 : (w1.alloc (.cells #[.int .i64 b, .int .i64 c, .int .i64 d, .int .i64 m0, .int .i64 m1, .int .i64 m2, .int .i64 p] 24)).cell? ⟨w1.heap.size, 2, none⟩ = some (.int .i64 d) := (cellsB (i := 2) (heap_alloc_new w1 (.cells #[.int .i64 b, .int .i64 c, .int .i64 d, .int .i64 m0, .int .i64 m1, .int .i64 m2, .int .i64 p] 24))).trans rfl
    have L4_3 : (w1.alloc (.cells #[.int .i64 b, .int .i64 c, .int .i64 d, .int .i64 m0, .int .i64 m1, .int .i64 m2, .int .i64 p] 24)).cell? ⟨w1.heap.size, 3, none⟩ = some (.int .i64 m0) := (cellsB (i := 3) (heap_alloc_new w1 (.cells #[.int .i64 b, .int .i64 c, .int .i64 d, .int .i64 m0, .int .i64 m1, .int .i64 m2, .int .i64 p] 24))).trans rfl
    have L4_4 : (w1.alloc (.cells #[.int .i64 b, .int .i64 c, .int .i64 d, .int .i64 m0, .int .i64 m1, .int .i64 m2, .int .i64 p] 24)).cell? ⟨w1.heap.size, 4, none⟩ = some (.int .i64 m1) := (cellsB (i := 4) (heap_alloc_new w1 (.cells #[.int .i64 b, .int .i64 c, .int .i64 d, .int .i64 m0, .int .i64 m1, .int .i64 m2, .int .i64 p] 24))).trans rfl
    have L4_5 : (w1.alloc (.cells #[.int .i64 b, .int .i64 c, .int .i64 d, .int .i64 m0, .int .i64 m1, .int .i64 m2, .int .i64 p] 24)).cell? ⟨w1.heap.size, 5, none⟩ = some (.int .i64 m2) := (cellsB (i := 5) (heap_alloc_new w1 (.cells #[.int .i64 b, .int .i64 c, .int .i64 d, .int .i64 m0, .int .i64 m1, .int .i64 m2, .int .i64 p] 24))).trans rfl
    have L4_6 : (w1.alloc (.cells #[.int .i64 b, .int .i64 c, .int .i64 d, .int .i64 m0, .int .i64 m1, .int .i64 m2, .int .i64 p] 24)).cell? ⟨w1.heap.size, 6, none⟩ = some (.int .i64 p) := (cellsB (i := 6) (heap_alloc_new w1 (.cells #[.int .i64 b, .int .i64 c, .int .i64 d, .int .i64 m0, .int .i64 m1, .int .i64 m2, .int .i64 p] 24))).trans rfl
    go_wp2_with (first | (refine wpl_row (by rfl) 24 _ rfl _ rfl _ _ _ _ (heap_alloc_new w1 (.cells #[.int .i64 b, .int .i64 c, .int .i64 d, .int .i64 m0, .int .i64 m1, .int .i64 m2, .int .i64 p] 24)) rfl Try.underlying24 (by kernel_rfl) ?_) | (refine wpl_row (by rfl) 68 _ rfl _ rfl _ _ _ _ (alc (o := (.cells #[.int .i64 b, .int .i64 c, .int .i64 d, .int .i64 m0, .int .i64 m1, .int .i64 m2, .int .i64 p] 24)) q_1.out) rfl Try.underlying68 (by kernel_rfl) ?_))
    refine (HU.out _).mono ?_
    rintro e w2 ⟨rfl, q⟩
    have s_2 := Lib.hid (blk1 s_1.out q)
    have q_2 := Lib.hid (blk1 q_1.out q)
    have t_2 := Lib.hid (new1 q)
    have B2 := Lib.hid (bel1 B1.out B1.out.size q)
    clear q s_1 q_1 B1
    clear L1_0 L1_1 L1_2 L1_3 L1_4 L1_5 L1_6 L2_7 L3_18 L3_19 L4_0 L4_1 L4_2 L4_3 L4_4 L4_5 L4_6
    have L5_15 : w2.cell? ⟨(w.heap.size + 1), 15, none⟩ = some (.int .i64 es3) := (cellsB (i := 15) q_2.out).trans rfl
    go_wp2
    go_ret
    clear L5_15
    exact ⟨ret_bool (decide_eq_false (show ¬ RightP _ _ from fun h => by have g := h.2; simp only at g; rw [if_neg p4, if_neg p5, if_neg p2] at g; exact of_decide_eq_false hu ⟨g.1, g.2.1, g.2.2.1⟩)).symm, B2.out⟩
  by_cases h4 : es3 = 4
  · skip
    have z5 : (es3 == 5) = false := by simp [h4]
    have z5n : (es3 != 5) = true := by simp [h4]
    have b4 : (es3 == 4) = true := by simp [h4]
    have b4n : (es3 != 4) = false := by simp [h4]
    have H4 := Lib.hid h4
    clear h4
    obtain ⟨f1, f2, f3⟩ := two_boxes w (.cells #[.int .i64 b, .int .i64 c, .int .i64 d, .int .i64 m0, .int .i64 m1, .int .i64 m2, .int .i64 p, .int .i64 ph, .int .i64 st, .int .i64 re, .int .i64 si] 26) (.cells #[.int .i64 es0, .int .i64 eu0, .int .i64 et0, .int .i64 ec0, .int .i64 ea0, .int .i64 es1, .int .i64 eu1, .int .i64 et1, .int .i64 ec1, .int .i64 ea1, .int .i64 es2, .int .i64 eu2, .int .i64 et2, .int .i64 ec2, .int .i64 ea2, .int .i64 es3, .int .i64 eu3, .int .i64 et3, .int .i64 ec3, .int .i64 ea3] 68)
    have s_0 := Lib.hid f1
    have q_0 := Lib.hid f2
    have B0 := Lib.hid f3
    clear f1 f2 f3
    go_enter Try.func49, Try.ntmps49
    have HU := Lib.hid (fun W => unt_is hu W)
    unfold W7.val Q4.val at HU
    simp only at HU
    go_wp2_with (first | (refine wpl_row (by rfl) 26 _ rfl _ rfl _ _ _ _ s_0.out rfl Try.underlying26 (by kernel_rfl) ?_))
    refine (HM.out _).mono ?_
    rintro e w1 ⟨rfl, q⟩
    have s_1 := Lib.hid (blk0 s_0.out q)
    have q_1 := Lib.hid (blk0 q_0.out q)
    have B1 := Lib.hid (bel0 B0.out B0.out.size q)
    clear q s_0 q_0 B0
    have L1_0 : w1.cell? ⟨w.heap.size, 0, none⟩ = some (.int .i64 b) := (cellsB (i := 0) s_1.out).trans rfl
    have L1_1 : w1.cell? ⟨w.heap.size, 1, none⟩ = some (.int .i64 c) := (cellsB (i := 1) s_1.out).trans rfl
    have L1_2 : w1.cell? ⟨w.heap.size, 2, none⟩ = some (.int .i64 d) := (cellsB (i := 2) s_1.out).trans rfl
    have L1_3 : w1.cell? ⟨w.heap.size, 3, none⟩ = some (.int .i64 m0) := (cellsB (i := 3) s_1.out).trans rfl
    have L1_4 : w1.cell? ⟨w.heap.size, 4, none⟩ = some (.int .i64 m1) := (cellsB (i := 4) s_1.out).trans rfl
    have L1_5 : w1.cell? ⟨w.heap.size, 5, none⟩ = some (.int .i64 m2) := (cellsB (i := 5) s_1.out).trans rfl
    have L1_6 : w1.cell? ⟨w.heap.size, 6, none⟩ = some (.int .i64 p) := (cellsB (i := 6) s_1.out).trans rfl
    have L2_7 : (w1.alloc (.cells #[.int .i64 b, .int .i64 c, .int .i64 d, .int .i64 m0, .int .i64 m1, .int .i64 m2, .int .i64 p] 24)).cell? ⟨w.heap.size, 7, none⟩ = some (.int .i64 ph) := (cellsB (i := 7) (alc (o := (.cells #[.int .i64 b, .int .i64 c, .int .i64 d, .int .i64 m0, .int .i64 m1, .int .i64 m2, .int .i64 p] 24)) s_1.out)).trans rfl
    have L3_18 : (w1.alloc (.cells #[.int .i64 b, .int .i64 c, .int .i64 d, .int .i64 m0, .int .i64 m1, .int .i64 m2, .int .i64 p] 24)).cell? ⟨(w.heap.size + 1), 18, none⟩ = some (.int .i64 ec3) := (cellsB (i := 18) (alc (o := (.cells #[.int .i64 b, .int .i64 c, .int .i64 d, .int .i64 m0, .int .i64 m1, .int .i64 m2, .int .i64 p] 24)) q_1.out)).trans rfl
    have L3_19 : (w1.alloc (.cells #[.int .i64 b, .int .i64 c, .int .i64 d, .int .i64 m0, .int .i64 m1, .int .i64 m2, .int .i64 p] 24)).cell? ⟨(w.heap.size + 1), 19, none⟩ = some (.int .i64 ea3) := (cellsB (i := 19) (alc (o := (.cells #[.int .i64 b, .int .i64 c, .int .i64 d, .int .i64 m0, .int .i64 m1, .int .i64 m2, .int .i64 p] 24)) q_1.out)).trans rfl
    have L4_0 : (w1.alloc (.cells #[.int .i64 b, .int .i64 c, .int .i64 d, .int .i64 m0, .int .i64 m1, .int .i64 m2, .int .i64 p] 24)).cell? ⟨w1.heap.size, 0, none⟩ = some (.int .i64 b) := (cellsB (i := 0) (heap_alloc_new w1 (.cells #[.int .i64 b, .int .i64 c, .int .i64 d, .int .i64 m0, .int .i64 m1, .int .i64 m2, .int .i64 p] 24))).trans rfl
    have L4_1 : (w1.alloc (.cells #[.int .i64 b, .int .i64 c, .int .i64 d, .int .i64 m0, .int .i64 m1, .int .i64 m2, .int .i64 p] 24)).cell? ⟨w1.heap.size, 1, none⟩ = some (.int .i64 c) := (cellsB (i := 1) (heap_alloc_new w1 (.cells #[.int .i64 b, .int .i64 c, .int .i64 d, .int .i64 m0, .int .i64 m1, .int .i64 m2, .int .i64 p] 24))).trans rfl
    have L4_2 : (w1.alloc (.cells #[.int .i64 b, .int .i64 c, .int .i64 d, .int .i64 m0, .int .i64 m1, .int .i64 m2, .int .i64 p] 24)).cell? ⟨w1.heap.size, 2, none⟩ = some (.int .i64 d) := (cellsB (i := 2) (heap_alloc_new w1 (.cells #[.int .i64 b, .int .i64 c, .int .i64 d, .int .i64 m0, .int .i64 m1, .int .i64 m2, .int .i64 p] 24))).trans rfl
    have L4_3 : (w1.alloc (.cells #[.int .i64 b, .int .i64 c, .int .i64 d, .int .i64 m0, .int .i64 m1, .int .i64 m2, .int .i64 p] 24)).cell? ⟨w1.heap.size, 3, none⟩ = some (.int .i64 m0) := (cellsB (i := 3) (heap_alloc_new w1 (.cells #[.int .i64 b, .int .i64 c, .int .i64 d, .int .i64 m0, .int .i64 m1, .int .i64 m2, .int .i64 p] 24))).trans rfl
    have L4_4 : (w1.alloc (.cells #[.int .i64 b, .int .i64 c, .int .i64 d, .int .i64 m0, .int .i64 m1, .int .i64 m2, .int .i64 p] 24)).cell? ⟨w1.heap.size, 4, none⟩ = some (.int .i64 m1) := (cellsB (i := 4) (heap_alloc_new w1 (.cells #[.int .i64 b, .int .i64 c, .int .i64 d, .int .i64 m0, .int .i64 m1, .int .i64 m2, .int .i64 p] 24))).trans rfl
    have L4_5 : (w1.alloc (.cells #[.int .i64 b, .int .i64 c, .int .i64 d, .int .i64 m0, .int .i64 m1, .int .i64 m2, .int .i64 p] 24)).cell? ⟨w1.heap.size, 5, none⟩ = some (.int .i64 m2) := (cellsB (i := 5) (heap_alloc_new w1 (.cells #[.int .i64 b, .int .i64 c, .int .i64 d, .int .i64 m0, .int .i64 m1, .int .i64 m2, .int .i64 p] 24))).trans rfl
    have L4_6 : (w1.alloc (.cells #[.int .i64 b, .int .i64 c, .int .i64 d, .int .i64 m0, .int .i64 m1, .int .i64 m2, .int .i64 p] 24)).cell? ⟨w1.heap.size, 6, none⟩ = some (.int .i64 p) := (cellsB (i := 6) (heap_alloc_new w1 (.cells #[.int .i64 b, .int .i64 c, .int .i64 d, .int .i64 m0, .int .i64 m1, .int .i64 m2, .int .i64 p] 24))).trans rfl
    go_wp2_with (first | (refine wpl_row (by rfl) 24 _ rfl _ rfl _ _ _ _ (heap_alloc_new w1 (.cells #[.int .i64 b, .int .i64 c, .int .i64 d, .int .i64 m0, .int .i64 m1, .int .i64 m2, .int .i64 p] 24)) rfl Try.underlying24 (by kernel_rfl) ?_) | (refine wpl_row (by rfl) 68 _ rfl _ rfl _ _ _ _ (alc (o := (.cells #[.int .i64 b, .int .i64 c, .int .i64 d, .int .i64 m0, .int .i64 m1, .int .i64 m2, .int .i64 p] 24)) q_1.out) rfl Try.underlying68 (by kernel_rfl) ?_))
    refine (HU.out _).mono ?_
    rintro e w2 ⟨rfl, q⟩
    have s_2 := Lib.hid (blk1 s_1.out q)
    have q_2 := Lib.hid (blk1 q_1.out q)
    have t_2 := Lib.hid (new1 q)
    have B2 := Lib.hid (bel1 B1.out B1.out.size q)
    clear q s_1 q_1 B1
    clear L1_0 L1_1 L1_2 L1_3 L1_4 L1_5 L1_6 L2_7 L3_18 L3_19 L4_0 L4_1 L4_2 L4_3 L4_4 L4_5 L4_6
    have L5_15 : w2.cell? ⟨(w.heap.size + 1), 15, none⟩ = some (.int .i64 es3) := (cellsB (i := 15) q_2.out).trans rfl
    go_wp2
    go_ret
    clear L5_15
    exact ⟨ret_bool (decide_eq_false (show ¬ RightP _ _ from fun h => by have g := h.2; simp only at g; rw [if_neg p4, if_neg p5, if_neg p2] at g; exact HC.out (g.2.2.2.2 H4.out).2.2)).symm, B2.out⟩
  have b4 : (es3 == 4) = false := beq_eq_false_iff_ne.2 h4
  have b4n : (es3 != 4) = true := by simp [h4]
  have H4 := Lib.hid h4
  clear h4
  by_cases h5 : es3 = 5
  · skip
    have b5 : (es3 == 5) = true := by simp [h5]
    have b5n : (es3 != 5) = false := by simp [h5]
    have H5 := Lib.hid h5
    clear h5
    obtain ⟨f1, f2, f3⟩ := two_boxes w (.cells #[.int .i64 b, .int .i64 c, .int .i64 d, .int .i64 m0, .int .i64 m1, .int .i64 m2, .int .i64 p, .int .i64 ph, .int .i64 st, .int .i64 re, .int .i64 si] 26) (.cells #[.int .i64 es0, .int .i64 eu0, .int .i64 et0, .int .i64 ec0, .int .i64 ea0, .int .i64 es1, .int .i64 eu1, .int .i64 et1, .int .i64 ec1, .int .i64 ea1, .int .i64 es2, .int .i64 eu2, .int .i64 et2, .int .i64 ec2, .int .i64 ea2, .int .i64 es3, .int .i64 eu3, .int .i64 et3, .int .i64 ec3, .int .i64 ea3] 68)
    have s_0 := Lib.hid f1
    have q_0 := Lib.hid f2
    have B0 := Lib.hid f3
    clear f1 f2 f3
    go_enter Try.func49, Try.ntmps49
    have HU := Lib.hid (fun W => unt_is hu W)
    unfold W7.val Q4.val at HU
    simp only at HU
    go_wp2_with (first | (refine wpl_row (by rfl) 26 _ rfl _ rfl _ _ _ _ s_0.out rfl Try.underlying26 (by kernel_rfl) ?_))
    refine (HM.out _).mono ?_
    rintro e w1 ⟨rfl, q⟩
    have s_1 := Lib.hid (blk0 s_0.out q)
    have q_1 := Lib.hid (blk0 q_0.out q)
    have B1 := Lib.hid (bel0 B0.out B0.out.size q)
    clear q s_0 q_0 B0
    have L1_0 : w1.cell? ⟨w.heap.size, 0, none⟩ = some (.int .i64 b) := (cellsB (i := 0) s_1.out).trans rfl
    have L1_1 : w1.cell? ⟨w.heap.size, 1, none⟩ = some (.int .i64 c) := (cellsB (i := 1) s_1.out).trans rfl
    have L1_2 : w1.cell? ⟨w.heap.size, 2, none⟩ = some (.int .i64 d) := (cellsB (i := 2) s_1.out).trans rfl
    have L1_3 : w1.cell? ⟨w.heap.size, 3, none⟩ = some (.int .i64 m0) := (cellsB (i := 3) s_1.out).trans rfl
    have L1_4 : w1.cell? ⟨w.heap.size, 4, none⟩ = some (.int .i64 m1) := (cellsB (i := 4) s_1.out).trans rfl
    have L1_5 : w1.cell? ⟨w.heap.size, 5, none⟩ = some (.int .i64 m2) := (cellsB (i := 5) s_1.out).trans rfl
    have L1_6 : w1.cell? ⟨w.heap.size, 6, none⟩ = some (.int .i64 p) := (cellsB (i := 6) s_1.out).trans rfl
    have L2_7 : (w1.alloc (.cells #[.int .i64 b, .int .i64 c, .int .i64 d, .int .i64 m0, .int .i64 m1, .int .i64 m2, .int .i64 p] 24)).cell? ⟨w.heap.size, 7, none⟩ = some (.int .i64 ph) := (cellsB (i := 7) (alc (o := (.cells #[.int .i64 b, .int .i64 c, .int .i64 d, .int .i64 m0, .int .i64 m1, .int .i64 m2, .int .i64 p] 24)) s_1.out)).trans rfl
    have L3_18 : (w1.alloc (.cells #[.int .i64 b, .int .i64 c, .int .i64 d, .int .i64 m0, .int .i64 m1, .int .i64 m2, .int .i64 p] 24)).cell? ⟨(w.heap.size + 1), 18, none⟩ = some (.int .i64 ec3) := (cellsB (i := 18) (alc (o := (.cells #[.int .i64 b, .int .i64 c, .int .i64 d, .int .i64 m0, .int .i64 m1, .int .i64 m2, .int .i64 p] 24)) q_1.out)).trans rfl
    have L3_19 : (w1.alloc (.cells #[.int .i64 b, .int .i64 c, .int .i64 d, .int .i64 m0, .int .i64 m1, .int .i64 m2, .int .i64 p] 24)).cell? ⟨(w.heap.size + 1), 19, none⟩ = some (.int .i64 ea3) := (cellsB (i := 19) (alc (o := (.cells #[.int .i64 b, .int .i64 c, .int .i64 d, .int .i64 m0, .int .i64 m1, .int .i64 m2, .int .i64 p] 24)) q_1.out)).trans rfl
    have L4_0 : (w1.alloc (.cells #[.int .i64 b, .int .i64 c, .int .i64 d, .int .i64 m0, .int .i64 m1, .int .i64 m2, .int .i64 p] 24)).cell? ⟨w1.heap.size, 0, none⟩ = some (.int .i64 b) := (cellsB (i := 0) (heap_alloc_new w1 (.cells #[.int .i64 b, .int .i64 c, .int .i64 d, .int .i64 m0, .int .i64 m1, .int .i64 m2, .int .i64 p] 24))).trans rfl
    have L4_1 : (w1.alloc (.cells #[.int .i64 b, .int .i64 c, .int .i64 d, .int .i64 m0, .int .i64 m1, .int .i64 m2, .int .i64 p] 24)).cell? ⟨w1.heap.size, 1, none⟩ = some (.int .i64 c) := (cellsB (i := 1) (heap_alloc_new w1 (.cells #[.int .i64 b, .int .i64 c, .int .i64 d, .int .i64 m0, .int .i64 m1, .int .i64 m2, .int .i64 p] 24))).trans rfl
    have L4_2 : (w1.alloc (.cells #[.int .i64 b, .int .i64 c, .int .i64 d, .int .i64 m0, .int .i64 m1, .int .i64 m2, .int .i64 p] 24)).cell? ⟨w1.heap.size, 2, none⟩ = some (.int .i64 d) := (cellsB (i := 2) (heap_alloc_new w1 (.cells #[.int .i64 b, .int .i64 c, .int .i64 d, .int .i64 m0, .int .i64 m1, .int .i64 m2, .int .i64 p] 24))).trans rfl
    have L4_3 : (w1.alloc (.cells #[.int .i64 b, .int .i64 c, .int .i64 d, .int .i64 m0, .int .i64 m1, .int .i64 m2, .int .i64 p] 24)).cell? ⟨w1.heap.size, 3, none⟩ = some (.int .i64 m0) := (cellsB (i := 3) (heap_alloc_new w1 (.cells #[.int .i64 b, .int .i64 c, .int .i64 d, .int .i64 m0, .int .i64 m1, .int .i64 m2, .int .i64 p] 24))).trans rfl
    have L4_4 : (w1.alloc (.cells #[.int .i64 b, .int .i64 c, .int .i64 d, .int .i64 m0, .int .i64 m1, .int .i64 m2, .int .i64 p] 24)).cell? ⟨w1.heap.size, 4, none⟩ = some (.int .i64 m1) := (cellsB (i := 4) (heap_alloc_new w1 (.cells #[.int .i64 b, .int .i64 c, .int .i64 d, .int .i64 m0, .int .i64 m1, .int .i64 m2, .int .i64 p] 24))).trans rfl
    have L4_5 : (w1.alloc (.cells #[.int .i64 b, .int .i64 c, .int .i64 d, .int .i64 m0, .int .i64 m1, .int .i64 m2, .int .i64 p] 24)).cell? ⟨w1.heap.size, 5, none⟩ = some (.int .i64 m2) := (cellsB (i := 5) (heap_alloc_new w1 (.cells #[.int .i64 b, .int .i64 c, .int .i64 d, .int .i64 m0, .int .i64 m1, .int .i64 m2, .int .i64 p] 24))).trans rfl
    have L4_6 : (w1.alloc (.cells #[.int .i64 b, .int .i64 c, .int .i64 d, .int .i64 m0, .int .i64 m1, .int .i64 m2, .int .i64 p] 24)).cell? ⟨w1.heap.size, 6, none⟩ = some (.int .i64 p) := (cellsB (i := 6) (heap_alloc_new w1 (.cells #[.int .i64 b, .int .i64 c, .int .i64 d, .int .i64 m0, .int .i64 m1, .int .i64 m2, .int .i64 p] 24))).trans rfl
    go_wp2_with (first | (refine wpl_row (by rfl) 24 _ rfl _ rfl _ _ _ _ (heap_alloc_new w1 (.cells #[.int .i64 b, .int .i64 c, .int .i64 d, .int .i64 m0, .int .i64 m1, .int .i64 m2, .int .i64 p] 24)) rfl Try.underlying24 (by kernel_rfl) ?_) | (refine wpl_row (by rfl) 68 _ rfl _ rfl _ _ _ _ (alc (o := (.cells #[.int .i64 b, .int .i64 c, .int .i64 d, .int .i64 m0, .int .i64 m1, .int .i64 m2, .int .i64 p] 24)) q_1.out) rfl Try.underlying68 (by kernel_rfl) ?_))
    refine (HU.out _).mono ?_
    rintro e w2 ⟨rfl, q⟩
    have s_2 := Lib.hid (blk1 s_1.out q)
    have q_2 := Lib.hid (blk1 q_1.out q)
    have t_2 := Lib.hid (new1 q)
    have B2 := Lib.hid (bel1 B1.out B1.out.size q)
    clear q s_1 q_1 B1
    clear L1_0 L1_1 L1_2 L1_3 L1_4 L1_5 L1_6 L2_7 L3_18 L3_19 L4_0 L4_1 L4_2 L4_3 L4_4 L4_5 L4_6
    have L5_15 : w2.cell? ⟨(w.heap.size + 1), 15, none⟩ = some (.int .i64 es3) := (cellsB (i := 15) q_2.out).trans rfl
    go_wp2
    go_ret
    clear L5_15
    exact ⟨ret_bool (decide_eq_false (show ¬ RightP _ _ from fun h => by have g := h.2; simp only at g; rw [if_neg p4, if_neg p5, if_neg p2] at g; exact g.2.2.2.1 H5.out)).symm, B2.out⟩
  have b5 : (es3 == 5) = false := beq_eq_false_iff_ne.2 h5
  have b5n : (es3 != 5) = true := by simp [h5]
  have H5 := Lib.hid h5
  clear h5
  obtain ⟨f1, f2, f3⟩ := two_boxes w (.cells #[.int .i64 b, .int .i64 c, .int .i64 d, .int .i64 m0, .int .i64 m1, .int .i64 m2, .int .i64 p, .int .i64 ph, .int .i64 st, .int .i64 re, .int .i64 si] 26) (.cells #[.int .i64 es0, .int .i64 eu0, .int .i64 et0, .int .i64 ec0, .int .i64 ea0, .int .i64 es1, .int .i64 eu1, .int .i64 et1, .int .i64 ec1, .int .i64 ea1, .int .i64 es2, .int .i64 eu2, .int .i64 et2, .int .i64 ec2, .int .i64 ea2, .int .i64 es3, .int .i64 eu3, .int .i64 et3, .int .i64 ec3, .int .i64 ea3] 68)
  have s_0 := Lib.hid f1
  have q_0 := Lib.hid f2
  have B0 := Lib.hid f3
  clear f1 f2 f3
  go_enter Try.func49, Try.ntmps49
  have HU := Lib.hid (fun W => unt_is hu W)
  unfold W7.val Q4.val at HU
  simp only at HU
  go_wp2_with (first | (refine wpl_row (by rfl) 26 _ rfl _ rfl _ _ _ _ s_0.out rfl Try.underlying26 (by kernel_rfl) ?_))
  refine (HM.out _).mono ?_
  rintro e w1 ⟨rfl, q⟩
  have s_1 := Lib.hid (blk0 s_0.out q)
  have q_1 := Lib.hid (blk0 q_0.out q)
  have B1 := Lib.hid (bel0 B0.out B0.out.size q)
  clear q s_0 q_0 B0
  have L1_0 : w1.cell? ⟨w.heap.size, 0, none⟩ = some (.int .i64 b) := (cellsB (i := 0) s_1.out).trans rfl
  have L1_1 : w1.cell? ⟨w.heap.size, 1, none⟩ = some (.int .i64 c) := (cellsB (i := 1) s_1.out).trans rfl
  have L1_2 : w1.cell? ⟨w.heap.size, 2, none⟩ = some (.int .i64 d) := (cellsB (i := 2) s_1.out).trans rfl
  have L1_3 : w1.cell? ⟨w.heap.size, 3, none⟩ = some (.int .i64 m0) := (cellsB (i := 3) s_1.out).trans rfl
  have L1_4 : w1.cell? ⟨w.heap.size, 4, none⟩ = some (.int .i64 m1) := (cellsB (i := 4) s_1.out).trans rfl
  have L1_5 : w1.cell? ⟨w.heap.size, 5, none⟩ = some (.int .i64 m2) := (cellsB (i := 5) s_1.out).trans rfl
  have L1_6 : w1.cell? ⟨w.heap.size, 6, none⟩ = some (.int .i64 p) := (cellsB (i := 6) s_1.out).trans rfl
  have L2_7 : (w1.alloc (.cells #[.int .i64 b, .int .i64 c, .int .i64 d, .int .i64 m0, .int .i64 m1, .int .i64 m2, .int .i64 p] 24)).cell? ⟨w.heap.size, 7, none⟩ = some (.int .i64 ph) := (cellsB (i := 7) (alc (o := (.cells #[.int .i64 b, .int .i64 c, .int .i64 d, .int .i64 m0, .int .i64 m1, .int .i64 m2, .int .i64 p] 24)) s_1.out)).trans rfl
  have L3_18 : (w1.alloc (.cells #[.int .i64 b, .int .i64 c, .int .i64 d, .int .i64 m0, .int .i64 m1, .int .i64 m2, .int .i64 p] 24)).cell? ⟨(w.heap.size + 1), 18, none⟩ = some (.int .i64 ec3) := (cellsB (i := 18) (alc (o := (.cells #[.int .i64 b, .int .i64 c, .int .i64 d, .int .i64 m0, .int .i64 m1, .int .i64 m2, .int .i64 p] 24)) q_1.out)).trans rfl
  have L3_19 : (w1.alloc (.cells #[.int .i64 b, .int .i64 c, .int .i64 d, .int .i64 m0, .int .i64 m1, .int .i64 m2, .int .i64 p] 24)).cell? ⟨(w.heap.size + 1), 19, none⟩ = some (.int .i64 ea3) := (cellsB (i := 19) (alc (o := (.cells #[.int .i64 b, .int .i64 c, .int .i64 d, .int .i64 m0, .int .i64 m1, .int .i64 m2, .int .i64 p] 24)) q_1.out)).trans rfl
  have L4_0 : (w1.alloc (.cells #[.int .i64 b, .int .i64 c, .int .i64 d, .int .i64 m0, .int .i64 m1, .int .i64 m2, .int .i64 p] 24)).cell? ⟨w1.heap.size, 0, none⟩ = some (.int .i64 b) := (cellsB (i := 0) (heap_alloc_new w1 (.cells #[.int .i64 b, .int .i64 c, .int .i64 d, .int .i64 m0, .int .i64 m1, .int .i64 m2, .int .i64 p] 24))).trans rfl
  have L4_1 : (w1.alloc (.cells #[.int .i64 b, .int .i64 c, .int .i64 d, .int .i64 m0, .int .i64 m1, .int .i64 m2, .int .i64 p] 24)).cell? ⟨w1.heap.size, 1, none⟩ = some (.int .i64 c) := (cellsB (i := 1) (heap_alloc_new w1 (.cells #[.int .i64 b, .int .i64 c, .int .i64 d, .int .i64 m0, .int .i64 m1, .int .i64 m2, .int .i64 p] 24))).trans rfl
  have L4_2 : (w1.alloc (.cells #[.int .i64 b, .int .i64 c, .int .i64 d, .int .i64 m0, .int .i64 m1, .int .i64 m2, .int .i64 p] 24)).cell? ⟨w1.heap.size, 2, none⟩ = some (.int .i64 d) := (cellsB (i := 2) (heap_alloc_new w1 (.cells #[.int .i64 b, .int .i64 c, .int .i64 d, .int .i64 m0, .int .i64 m1, .int .i64 m2, .int .i64 p] 24))).trans rfl
  have L4_3 : (w1.alloc (.cells #[.int .i64 b, .int .i64 c, .int .i64 d, .int .i64 m0, .int .i64 m1, .int .i64 m2, .int .i64 p] 24)).cell? ⟨w1.heap.size, 3, none⟩ = some (.int .i64 m0) := (cellsB (i := 3) (heap_alloc_new w1 (.cells #[.int .i64 b, .int .i64 c, .int .i64 d, .int .i64 m0, .int .i64 m1, .int .i64 m2, .int .i64 p] 24))).trans rfl
  have L4_4 : (w1.alloc (.cells #[.int .i64 b, .int .i64 c, .int .i64 d, .int .i64 m0, .int .i64 m1, .int .i64 m2, .int .i64 p] 24)).cell? ⟨w1.heap.size, 4, none⟩ = some (.int .i64 m1) := (cellsB (i := 4) (heap_alloc_new w1 (.cells #[.int .i64 b, .int .i64 c, .int .i64 d, .int .i64 m0, .int .i64 m1, .int .i64 m2, .int .i64 p] 24))).trans rfl
  have L4_5 : (w1.alloc (.cells #[.int .i64 b, .int .i64 c, .int .i64 d, .int .i64 m0, .int .i64 m1, .int .i64 m2, .int .i64 p] 24)).cell? ⟨w1.heap.size, 5, none⟩ = some (.int .i64 m2) := (cellsB (i := 5) (heap_alloc_new w1 (.cells #[.int .i64 b, .int .i64 c, .int .i64 d, .int .i64 m0, .int .i64 m1, .int .i64 m2, .int .i64 p] 24))).trans rfl
  have L4_6 : (w1.alloc (.cells #[.int .i64 b, .int .i64 c, .int .i64 d, .int .i64 m0, .int .i64 m1, .int .i64 m2, .int .i64 p] 24)).cell? ⟨w1.heap.size, 6, none⟩ = some (.int .i64 p) := (cellsB (i := 6) (heap_alloc_new w1 (.cells #[.int .i64 b, .int .i64 c, .int .i64 d, .int .i64 m0, .int .i64 m1, .int .i64 m2, .int .i64 p] 24))).trans rfl
  go_wp2_with (first | (refine wpl_row (by rfl) 24 _ rfl _ rfl _ _ _ _ (heap_alloc_new w1 (.cells #[.int .i64 b, .int .i64 c, .int .i64 d, .int .i64 m0, .int .i64 m1, .int .i64 m2, .int .i64 p] 24)) rfl Try.underlying24 (by kernel_rfl) ?_) | (refine wpl_row (by rfl) 68 _ rfl _ rfl _ _ _ _ (alc (o := (.cells #[.int .i64 b, .int .i64 c, .int .i64 d, .int .i64 m0, .int .i64 m1, .int .i64 m2, .int .i64 p] 24)) q_1.out) rfl Try.underlying68 (by kernel_rfl) ?_))
  refine (HU.out _).mono ?_
  rintro e w2 ⟨rfl, q⟩
  have s_2 := Lib.hid (blk1 s_1.out q)
  have q_2 := Lib.hid (blk1 q_1.out q)
  have t_2 := Lib.hid (new1 q)
  have B2 := Lib.hid (bel1 B1.out B1.out.size q)
  clear q s_1 q_1 B1
  clear L1_0 L1_1 L1_2 L1_3 L1_4 L1_5 L1_6 L2_7 L3_18 L3_19 L4_0 L4_1 L4_2 L4_3 L4_4 L4_5 L4_6
  have L5_15 : w2.cell? ⟨(w.heap.size + 1), 15, none⟩ = some (.int .i64 es3) := (cellsB (i := 15) q_2.out).trans rfl
  go_wp2
  go_ret
  clear L5_15
  exact ⟨ret_bool (decide_eq_true (show RightP _ _ from ⟨of_decide_eq_true hm, by simp only; rw [if_neg p4, if_neg p5, if_neg p2]; exact ⟨(of_decide_eq_true hu).1, (of_decide_eq_true hu).2.1, (of_decide_eq_true hu).2.2, H5.out, fun z => absurd z H4.out⟩⟩)).symm, B2.out⟩
set_option maxRecDepth 100000 in
set_option maxHeartbeats 4000000 in
theorem rright_1 (b c d m0 m1 m2 p : Int) (ph st re si : Int) (es0 eu0 et0 ec0 ea0 es1 eu1 et1 ec1 ea1 es2 eu2 et2 ec2 ea2 es3 eu3 et3 ec3 ea3 : Int) (w : World) (hc : ec3 = c) (ha : ea3 ≠ p) : Calls Try.prog 49 #[.agg #[.int .i64 b, .int .i64 c, .int .i64 d, .int .i64 m0, .int .i64 m1, .int .i64 m2, .int .i64 p, .int .i64 ph, .int .i64 st, .int .i64 re, .int .i64 si], .agg #[.int .i64 es0, .int .i64 eu0, .int .i64 et0, .int .i64 ec0, .int .i64 ea0, .int .i64 es1, .int .i64 eu1, .int .i64 et1, .int .i64 ec1, .int .i64 ea1, .int .i64 es2, .int .i64 eu2, .int .i64 et2, .int .i64 ec2, .int .i64 ea2, .int .i64 es3, .int .i64 eu3, .int .i64 et3, .int .i64 ec3, .int .i64 ea3]] w fun e' w' => e' = .returned (.bool (decide (RightP ⟨⟨b, c, d, m0, m1, m2, p⟩, ph, st, re, si⟩ ⟨⟨es0, eu0, et0, ec0, ea0⟩, ⟨es1, eu1, et1, ec1, ea1⟩, ⟨es2, eu2, et2, ec2, ea2⟩, ⟨es3, eu3, et3, ec3, ea3⟩⟩))) ∧ Below w.heap.size w w' := by
  have bc : (ec3 == c) = true := by simp [hc]
  have ba : (ea3 == p) = false := beq_eq_false_iff_ne.2 ha
  have HC := Lib.hid hc
  have HA := Lib.hid ha
  clear hc ha
  cases hm : decide (MayS ⟨⟨b, c, d, m0, m1, m2, p⟩, ph, st, re, si⟩)
  · skip
    have HM := Lib.hid (fun W => rmay14_is ⟨⟨b, c, d, m0, m1, m2, p⟩, ph, st, re, si⟩ false hm W)
    unfold S11.val at HM
    simp only at HM
    obtain ⟨f1, f2, f3⟩ := two_boxes w (.cells #[.int .i64 b, .int .i64 c, .int .i64 d, .int .i64 m0, .int .i64 m1, .int .i64 m2, .int .i64 p, .int .i64 ph, .int .i64 st, .int .i64 re, .int .i64 si] 26) (.cells #[.int .i64 es0, .int .i64 eu0, .int .i64 et0, .int .i64 ec0, .int .i64 ea0, .int .i64 es1, .int .i64 eu1, .int .i64 et1, .int .i64 ec1, .int .i64 ea1, .int .i64 es2, .int .i64 eu2, .int .i64 et2, .int .i64 ec2, .int .i64 ea2, .int .i64 es3, .int .i64 eu3, .int .i64 et3, .int .i64 ec3, .int .i64 ea3] 68)
    have s_0 := Lib.hid f1
    have q_0 := Lib.hid f2
    have B0 := Lib.hid f3
    clear f1 f2 f3
    go_enter Try.func49, Try.ntmps49
    go_wp2_with (first | (refine wpl_row (by rfl) 26 _ rfl _ rfl _ _ _ _ s_0.out rfl Try.underlying26 (by kernel_rfl) ?_))
    refine (HM.out _).mono ?_
    rintro e w1 ⟨rfl, q⟩
    have s_1 := Lib.hid (blk0 s_0.out q)
    have q_1 := Lib.hid (blk0 q_0.out q)
    have B1 := Lib.hid (bel0 B0.out B0.out.size q)
    clear q s_0 q_0 B0
    go_wp2
    go_ret
    exact ⟨ret_bool (decide_eq_false (show ¬ RightP _ _ from fun h => of_decide_eq_false hm h.1)).symm, B1.out⟩
  by_cases p4 : ph = 4
  · skip
    subst p4
    have HM := Lib.hid (fun W => rmay14_is ⟨⟨b, c, d, m0, m1, m2, p⟩, 4, st, re, si⟩ true hm W)
    unfold S11.val at HM
    simp only at HM
    obtain ⟨f1, f2, f3⟩ := two_boxes w (.cells #[.int .i64 b, .int .i64 c, .int .i64 d, .int .i64 m0, .int .i64 m1, .int .i64 m2, .int .i64 p, .int .i64 4, .int .i64 st, .int .i64 re, .int .i64 si] 26) (.cells #[.int .i64 es0, .int .i64 eu0, .int .i64 et0, .int .i64 ec0, .int .i64 ea0, .int .i64 es1, .int .i64 eu1, .int .i64 et1, .int .i64 ec1, .int .i64 ea1, .int .i64 es2, .int .i64 eu2, .int .i64 et2, .int .i64 ec2, .int .i64 ea2, .int .i64 es3, .int .i64 eu3, .int .i64 et3, .int .i64 ec3, .int .i64 ea3] 68)
    have s_0 := Lib.hid f1
    have q_0 := Lib.hid f2
    have B0 := Lib.hid f3
    clear f1 f2 f3
    go_enter Try.func49, Try.ntmps49
    obtain ⟨r, hr⟩ : ∃ v, decide (BookedP ⟨b, c, d, m0, m1, m2, p⟩ ⟨⟨es0, eu0, et0, ec0, ea0⟩, ⟨es1, eu1, et1, ec1, ea1⟩, ⟨es2, eu2, et2, ec2, ea2⟩, ⟨es3, eu3, et3, ec3, ea3⟩⟩) = v := ⟨_, rfl⟩
    have HX := Lib.hid (fun W => rbooked_is hr W)
    unfold W7.val Q4.val at HX
    simp only at HX
    have HR := Lib.hid hr
    clear hr
    go_wp2_with (first | (refine wpl_row (by rfl) 26 _ rfl _ rfl _ _ _ _ s_0.out rfl Try.underlying26 (by kernel_rfl) ?_))
    refine (HM.out _).mono ?_
    rintro e w1 ⟨rfl, q⟩
    have s_1 := Lib.hid (blk0 s_0.out q)
    have q_1 := Lib.hid (blk0 q_0.out q)
    have B1 := Lib.hid (bel0 B0.out B0.out.size q)
    clear q s_0 q_0 B0
    have L1_0 : w1.cell? ⟨w.heap.size, 0, none⟩ = some (.int .i64 b) := (cellsB (i := 0) s_1.out).trans rfl
    have L1_1 : w1.cell? ⟨w.heap.size, 1, none⟩ = some (.int .i64 c) := (cellsB (i := 1) s_1.out).trans rfl
    have L1_2 : w1.cell? ⟨w.heap.size, 2, none⟩ = some (.int .i64 d) := (cellsB (i := 2) s_1.out).trans rfl
    have L1_3 : w1.cell? ⟨w.heap.size, 3, none⟩ = some (.int .i64 m0) := (cellsB (i := 3) s_1.out).trans rfl
    have L1_4 : w1.cell? ⟨w.heap.size, 4, none⟩ = some (.int .i64 m1) := (cellsB (i := 4) s_1.out).trans rfl
    have L1_5 : w1.cell? ⟨w.heap.size, 5, none⟩ = some (.int .i64 m2) := (cellsB (i := 5) s_1.out).trans rfl
    have L1_6 : w1.cell? ⟨w.heap.size, 6, none⟩ = some (.int .i64 p) := (cellsB (i := 6) s_1.out).trans rfl
    have L2_7 : (w1.alloc (.cells #[.int .i64 b, .int .i64 c, .int .i64 d, .int .i64 m0, .int .i64 m1, .int .i64 m2, .int .i64 p] 24)).cell? ⟨w.heap.size, 7, none⟩ = some (.int .i64 4) := (cellsB (i := 7) (alc (o := (.cells #[.int .i64 b, .int .i64 c, .int .i64 d, .int .i64 m0, .int .i64 m1, .int .i64 m2, .int .i64 p] 24)) s_1.out)).trans rfl
    have L3_18 : (w1.alloc (.cells #[.int .i64 b, .int .i64 c, .int .i64 d, .int .i64 m0, .int .i64 m1, .int .i64 m2, .int .i64 p] 24)).cell? ⟨(w.heap.size + 1), 18, none⟩ = some (.int .i64 ec3) := (cellsB (i := 18) (alc (o := (.cells #[.int .i64 b, .int .i64 c, .int .i64 d, .int .i64 m0, .int .i64 m1, .int .i64 m2, .int .i64 p] 24)) q_1.out)).trans rfl
    have L3_19 : (w1.alloc (.cells #[.int .i64 b, .int .i64 c, .int .i64 d, .int .i64 m0, .int .i64 m1, .int .i64 m2, .int .i64 p] 24)).cell? ⟨(w.heap.size + 1), 19, none⟩ = some (.int .i64 ea3) := (cellsB (i := 19) (alc (o := (.cells #[.int .i64 b, .int .i64 c, .int .i64 d, .int .i64 m0, .int .i64 m1, .int .i64 m2, .int .i64 p] 24)) q_1.out)).trans rfl
    have L4_0 : (w1.alloc (.cells #[.int .i64 b, .int .i64 c, .int .i64 d, .int .i64 m0, .int .i64 m1, .int .i64 m2, .int .i64 p] 24)).cell? ⟨w1.heap.size, 0, none⟩ = some (.int .i64 b) := (cellsB (i := 0) (heap_alloc_new w1 (.cells #[.int .i64 b, .int .i64 c, .int .i64 d, .int .i64 m0, .int .i64 m1, .int .i64 m2, .int .i64 p] 24))).trans rfl
    have L4_1 : (w1.alloc (.cells #[.int .i64 b, .int .i64 c, .int .i64 d, .int .i64 m0, .int .i64 m1, .int .i64 m2, .int .i64 p] 24)).cell? ⟨w1.heap.size, 1, none⟩ = some (.int .i64 c) := (cellsB (i := 1) (heap_alloc_new w1 (.cells #[.int .i64 b, .int .i64 c, .int .i64 d, .int .i64 m0, .int .i64 m1, .int .i64 m2, .int .i64 p] 24))).trans rfl
    have L4_2 : (w1.alloc (.cells #[.int .i64 b, .int .i64 c, .int .i64 d, .int .i64 m0, .int .i64 m1, .int .i64 m2, .int .i64 p] 24)).cell? ⟨w1.heap.size, 2, none⟩ = some (.int .i64 d) := (cellsB (i := 2) (heap_alloc_new w1 (.cells #[.int .i64 b, .int .i64 c, .int .i64 d, .int .i64 m0, .int .i64 m1, .int .i64 m2, .int .i64 p] 24))).trans rfl
    have L4_3 : (w1.alloc (.cells #[.int .i64 b, .int .i64 c, .int .i64 d, .int .i64 m0, .int .i64 m1, .int .i64 m2, .int .i64 p] 24)).cell? ⟨w1.heap.size, 3, none⟩ = some (.int .i64 m0) := (cellsB (i := 3) (heap_alloc_new w1 (.cells #[.int .i64 b, .int .i64 c, .int .i64 d, .int .i64 m0, .int .i64 m1, .int .i64 m2, .int .i64 p] 24))).trans rfl
    have L4_4 : (w1.alloc (.cells #[.int .i64 b, .int .i64 c, .int .i64 d, .int .i64 m0, .int .i64 m1, .int .i64 m2, .int .i64 p] 24)).cell? ⟨w1.heap.size, 4, none⟩ = some (.int .i64 m1) := (cellsB (i := 4) (heap_alloc_new w1 (.cells #[.int .i64 b, .int .i64 c, .int .i64 d, .int .i64 m0, .int .i64 m1, .int .i64 m2, .int .i64 p] 24))).trans rfl
    have L4_5 : (w1.alloc (.cells #[.int .i64 b, .int .i64 c, .int .i64 d, .int .i64 m0, .int .i64 m1, .int .i64 m2, .int .i64 p] 24)).cell? ⟨w1.heap.size, 5, none⟩ = some (.int .i64 m2) := (cellsB (i := 5) (heap_alloc_new w1 (.cells #[.int .i64 b, .int .i64 c, .int .i64 d, .int .i64 m0, .int .i64 m1, .int .i64 m2, .int .i64 p] 24))).trans rfl
    have L4_6 : (w1.alloc (.cells #[.int .i64 b, .int .i64 c, .int .i64 d, .int .i64 m0, .int .i64 m1, .int .i64 m2, .int .i64 p] 24)).cell? ⟨w1.heap.size, 6, none⟩ = some (.int .i64 p) := (cellsB (i := 6) (heap_alloc_new w1 (.cells #[.int .i64 b, .int .i64 c, .int .i64 d, .int .i64 m0, .int .i64 m1, .int .i64 m2, .int .i64 p] 24))).trans rfl
    go_wp2_with (first | (refine wpl_row (by rfl) 24 _ rfl _ rfl _ _ _ _ (heap_alloc_new w1 (.cells #[.int .i64 b, .int .i64 c, .int .i64 d, .int .i64 m0, .int .i64 m1, .int .i64 m2, .int .i64 p] 24)) rfl Try.underlying24 (by kernel_rfl) ?_) | (refine wpl_row (by rfl) 68 _ rfl _ rfl _ _ _ _ (alc (o := (.cells #[.int .i64 b, .int .i64 c, .int .i64 d, .int .i64 m0, .int .i64 m1, .int .i64 m2, .int .i64 p] 24)) q_1.out) rfl Try.underlying68 (by kernel_rfl) ?_))
    refine (HX.out _).mono ?_
    rintro e w2 ⟨rfl, q⟩
    have s_2 := Lib.hid (blk1 s_1.out q)
    have q_2 := Lib.hid (blk1 q_1.out q)
    have t_2 := Lib.hid (new1 q)
    have B2 := Lib.hid (bel1 B1.out B1.out.size q)
    clear q s_1 q_1 B1
    clear L1_0 L1_1 L1_2 L1_3 L1_4 L1_5 L1_6 L2_7 L3_18 L3_19 L4_0 L4_1 L4_2 L4_3 L4_4 L4_5 L4_6
    go_wp2
    go_ret
    refine ⟨ret_bool ?_, B2.out⟩
    rw [← HR.out]
    exact decide_eq_decide.2 (by unfold RightP; simp only; exact ⟨fun h => ⟨of_decide_eq_true hm, by simpa using h⟩, fun h => by have := h.2; simpa using this⟩)
  by_cases p5 : ph = 5
  · skip
    subst p5
    have HM := Lib.hid (fun W => rmay14_is ⟨⟨b, c, d, m0, m1, m2, p⟩, 5, st, re, si⟩ true hm W)
    unfold S11.val at HM
    simp only at HM
    obtain ⟨f1, f2, f3⟩ := two_boxes w (.cells #[.int .i64 b, .int .i64 c, .int .i64 d, .int .i64 m0, .int .i64 m1, .int .i64 m2, .int .i64 p, .int .i64 5, .int .i64 st, .int .i64 re, .int .i64 si] 26) (.cells #[.int .i64 es0, .int .i64 eu0, .int .i64 et0, .int .i64 ec0, .int .i64 ea0, .int .i64 es1, .int .i64 eu1, .int .i64 et1, .int .i64 ec1, .int .i64 ea1, .int .i64 es2, .int .i64 eu2, .int .i64 et2, .int .i64 ec2, .int .i64 ea2, .int .i64 es3, .int .i64 eu3, .int .i64 et3, .int .i64 ec3, .int .i64 ea3] 68)
    have s_0 := Lib.hid f1
    have q_0 := Lib.hid f2
    have B0 := Lib.hid f3
    clear f1 f2 f3
    go_enter Try.func49, Try.ntmps49
    obtain ⟨r, hr⟩ : ∃ v, decide (NothingP ⟨⟨es0, eu0, et0, ec0, ea0⟩, ⟨es1, eu1, et1, ec1, ea1⟩, ⟨es2, eu2, et2, ec2, ea2⟩, ⟨es3, eu3, et3, ec3, ea3⟩⟩) = v := ⟨_, rfl⟩
    have HX := Lib.hid (fun W => rnothing_is hr W)
    unfold Q4.val at HX
    simp only at HX
    have HR := Lib.hid hr
    clear hr
    go_wp2_with (first | (refine wpl_row (by rfl) 26 _ rfl _ rfl _ _ _ _ s_0.out rfl Try.underlying26 (by kernel_rfl) ?_))
    refine (HM.out _).mono ?_
    rintro e w1 ⟨rfl, q⟩
    have s_1 := Lib.hid (blk0 s_0.out q)
    have q_1 := Lib.hid (blk0 q_0.out q)
    have B1 := Lib.hid (bel0 B0.out B0.out.size q)
    clear q s_0 q_0 B0
    have L1_0 : w1.cell? ⟨w.heap.size, 0, none⟩ = some (.int .i64 b) := (cellsB (i := 0) s_1.out).trans rfl
    have L1_1 : w1.cell? ⟨w.heap.size, 1, none⟩ = some (.int .i64 c) := (cellsB (i := 1) s_1.out).trans rfl
    have L1_2 : w1.cell? ⟨w.heap.size, 2, none⟩ = some (.int .i64 d) := (cellsB (i := 2) s_1.out).trans rfl
    have L1_3 : w1.cell? ⟨w.heap.size, 3, none⟩ = some (.int .i64 m0) := (cellsB (i := 3) s_1.out).trans rfl
    have L1_4 : w1.cell? ⟨w.heap.size, 4, none⟩ = some (.int .i64 m1) := (cellsB (i := 4) s_1.out).trans rfl
    have L1_5 : w1.cell? ⟨w.heap.size, 5, none⟩ = some (.int .i64 m2) := (cellsB (i := 5) s_1.out).trans rfl
    have L1_6 : w1.cell? ⟨w.heap.size, 6, none⟩ = some (.int .i64 p) := (cellsB (i := 6) s_1.out).trans rfl
    have L2_7 : (w1.alloc (.cells #[.int .i64 b, .int .i64 c, .int .i64 d, .int .i64 m0, .int .i64 m1, .int .i64 m2, .int .i64 p] 24)).cell? ⟨w.heap.size, 7, none⟩ = some (.int .i64 5) := (cellsB (i := 7) (alc (o := (.cells #[.int .i64 b, .int .i64 c, .int .i64 d, .int .i64 m0, .int .i64 m1, .int .i64 m2, .int .i64 p] 24)) s_1.out)).trans rfl
    have L3_18 : (w1.alloc (.cells #[.int .i64 b, .int .i64 c, .int .i64 d, .int .i64 m0, .int .i64 m1, .int .i64 m2, .int .i64 p] 24)).cell? ⟨(w.heap.size + 1), 18, none⟩ = some (.int .i64 ec3) := (cellsB (i := 18) (alc (o := (.cells #[.int .i64 b, .int .i64 c, .int .i64 d, .int .i64 m0, .int .i64 m1, .int .i64 m2, .int .i64 p] 24)) q_1.out)).trans rfl
    have L3_19 : (w1.alloc (.cells #[.int .i64 b, .int .i64 c, .int .i64 d, .int .i64 m0, .int .i64 m1, .int .i64 m2, .int .i64 p] 24)).cell? ⟨(w.heap.size + 1), 19, none⟩ = some (.int .i64 ea3) := (cellsB (i := 19) (alc (o := (.cells #[.int .i64 b, .int .i64 c, .int .i64 d, .int .i64 m0, .int .i64 m1, .int .i64 m2, .int .i64 p] 24)) q_1.out)).trans rfl
    have L4_0 : (w1.alloc (.cells #[.int .i64 b, .int .i64 c, .int .i64 d, .int .i64 m0, .int .i64 m1, .int .i64 m2, .int .i64 p] 24)).cell? ⟨w1.heap.size, 0, none⟩ = some (.int .i64 b) := (cellsB (i := 0) (heap_alloc_new w1 (.cells #[.int .i64 b, .int .i64 c, .int .i64 d, .int .i64 m0, .int .i64 m1, .int .i64 m2, .int .i64 p] 24))).trans rfl
    have L4_1 : (w1.alloc (.cells #[.int .i64 b, .int .i64 c, .int .i64 d, .int .i64 m0, .int .i64 m1, .int .i64 m2, .int .i64 p] 24)).cell? ⟨w1.heap.size, 1, none⟩ = some (.int .i64 c) := (cellsB (i := 1) (heap_alloc_new w1 (.cells #[.int .i64 b, .int .i64 c, .int .i64 d, .int .i64 m0, .int .i64 m1, .int .i64 m2, .int .i64 p] 24))).trans rfl
    have L4_2 : (w1.alloc (.cells #[.int .i64 b, .int .i64 c, .int .i64 d, .int .i64 m0, .int .i64 m1, .int .i64 m2, .int .i64 p] 24)).cell? ⟨w1.heap.size, 2, none⟩ = some (.int .i64 d) := (cellsB (i := 2) (heap_alloc_new w1 (.cells #[.int .i64 b, .int .i64 c, .int .i64 d, .int .i64 m0, .int .i64 m1, .int .i64 m2, .int .i64 p] 24))).trans rfl
    have L4_3 : (w1.alloc (.cells #[.int .i64 b, .int .i64 c, .int .i64 d, .int .i64 m0, .int .i64 m1, .int .i64 m2, .int .i64 p] 24)).cell? ⟨w1.heap.size, 3, none⟩ = some (.int .i64 m0) := (cellsB (i := 3) (heap_alloc_new w1 (.cells #[.int .i64 b, .int .i64 c, .int .i64 d, .int .i64 m0, .int .i64 m1, .int .i64 m2, .int .i64 p] 24))).trans rfl
    have L4_4 : (w1.alloc (.cells #[.int .i64 b, .int .i64 c, .int .i64 d, .int .i64 m0, .int .i64 m1, .int .i64 m2, .int .i64 p] 24)).cell? ⟨w1.heap.size, 4, none⟩ = some (.int .i64 m1) := (cellsB (i := 4) (heap_alloc_new w1 (.cells #[.int .i64 b, .int .i64 c, .int .i64 d, .int .i64 m0, .int .i64 m1, .int .i64 m2, .int .i64 p] 24))).trans rfl
    have L4_5 : (w1.alloc (.cells #[.int .i64 b, .int .i64 c, .int .i64 d, .int .i64 m0, .int .i64 m1, .int .i64 m2, .int .i64 p] 24)).cell? ⟨w1.heap.size, 5, none⟩ = some (.int .i64 m2) := (cellsB (i := 5) (heap_alloc_new w1 (.cells #[.int .i64 b, .int .i64 c, .int .i64 d, .int .i64 m0, .int .i64 m1, .int .i64 m2, .int .i64 p] 24))).trans rfl
    have L4_6 : (w1.alloc (.cells #[.int .i64 b, .int .i64 c, .int .i64 d, .int .i64 m0, .int .i64 m1, .int .i64 m2, .int .i64 p] 24)).cell? ⟨w1.heap.size, 6, none⟩ = some (.int .i64 p) := (cellsB (i := 6) (heap_alloc_new w1 (.cells #[.int .i64 b, .int .i64 c, .int .i64 d, .int .i64 m0, .int .i64 m1, .int .i64 m2, .int .i64 p] 24))).trans rfl
    go_wp2_with (first | (refine wpl_row (by rfl) 68 _ rfl _ rfl _ _ _ _ (alc (o := (.cells #[.int .i64 b, .int .i64 c, .int .i64 d, .int .i64 m0, .int .i64 m1, .int .i64 m2, .int .i64 p] 24)) q_1.out) rfl Try.underlying68 (by kernel_rfl) ?_))
    refine (HX.out _).mono ?_
    rintro e w2 ⟨rfl, q⟩
    have s_2 := Lib.hid (blk1 s_1.out q)
    have q_2 := Lib.hid (blk1 q_1.out q)
    have t_2 := Lib.hid (new1 q)
    have B2 := Lib.hid (bel1 B1.out B1.out.size q)
    clear q s_1 q_1 B1
    clear L1_0 L1_1 L1_2 L1_3 L1_4 L1_5 L1_6 L2_7 L3_18 L3_19 L4_0 L4_1 L4_2 L4_3 L4_4 L4_5 L4_6
    go_wp2
    go_ret
    refine ⟨ret_bool ?_, B2.out⟩
    rw [← HR.out]
    exact decide_eq_decide.2 (by unfold RightP; simp only; exact ⟨fun h => ⟨of_decide_eq_true hm, by simpa using h⟩, fun h => by have := h.2; simpa using this⟩)
  by_cases p2 : ph = 2
  · skip
    subst p2
    have HM := Lib.hid (fun W => rmay14_is ⟨⟨b, c, d, m0, m1, m2, p⟩, 2, st, re, si⟩ true hm W)
    unfold S11.val at HM
    simp only at HM
    cases hu : decide (UnF ⟨b, c, d, m0, m1, m2, p⟩ ⟨⟨es0, eu0, et0, ec0, ea0⟩, ⟨es1, eu1, et1, ec1, ea1⟩, ⟨es2, eu2, et2, ec2, ea2⟩, ⟨es3, eu3, et3, ec3, ea3⟩⟩)
    · skip
      obtain ⟨f1, f2, f3⟩ := two_boxes w (.cells #[.int .i64 b, .int .i64 c, .int .i64 d, .int .i64 m0, .int .i64 m1, .int .i64 m2, .int .i64 p, .int .i64 2, .int .i64 st, .int .i64 re, .int .i64 si] 26) (.cells #[.int .i64 es0, .int .i64 eu0, .int .i64 et0, .int .i64 ec0, .int .i64 ea0, .int .i64 es1, .int .i64 eu1, .int .i64 et1, .int .i64 ec1, .int .i64 ea1, .int .i64 es2, .int .i64 eu2, .int .i64 et2, .int .i64 ec2, .int .i64 ea2, .int .i64 es3, .int .i64 eu3, .int .i64 et3, .int .i64 ec3, .int .i64 ea3] 68)
      have s_0 := Lib.hid f1
      have q_0 := Lib.hid f2
      have B0 := Lib.hid f3
      clear f1 f2 f3
      go_enter Try.func49, Try.ntmps49
      have HU := Lib.hid (fun W => unf_is hu W)
      unfold W7.val Q4.val at HU
      simp only at HU
      go_wp2_with (first | (refine wpl_row (by rfl) 26 _ rfl _ rfl _ _ _ _ s_0.out rfl Try.underlying26 (by kernel_rfl) ?_))
      refine (HM.out _).mono ?_
      rintro e w1 ⟨rfl, q⟩
      have s_1 := Lib.hid (blk0 s_0.out q)
      have q_1 := Lib.hid (blk0 q_0.out q)
      have B1 := Lib.hid (bel0 B0.out B0.out.size q)
      clear q s_0 q_0 B0
      have L1_0 : w1.cell? ⟨w.heap.size, 0, none⟩ = some (.int .i64 b) := (cellsB (i := 0) s_1.out).trans rfl
      have L1_1 : w1.cell? ⟨w.heap.size, 1, none⟩ = some (.int .i64 c) := (cellsB (i := 1) s_1.out).trans rfl
      have L1_2 : w1.cell? ⟨w.heap.size, 2, none⟩ = some (.int .i64 d) := (cellsB (i := 2) s_1.out).trans rfl
      have L1_3 : w1.cell? ⟨w.heap.size, 3, none⟩ = some (.int .i64 m0) := (cellsB (i := 3) s_1.out).trans rfl
      have L1_4 : w1.cell? ⟨w.heap.size, 4, none⟩ = some (.int .i64 m1) := (cellsB (i := 4) s_1.out).trans rfl
      have L1_5 : w1.cell? ⟨w.heap.size, 5, none⟩ = some (.int .i64 m2) := (cellsB (i := 5) s_1.out).trans rfl
      have L1_6 : w1.cell? ⟨w.heap.size, 6, none⟩ = some (.int .i64 p) := (cellsB (i := 6) s_1.out).trans rfl
      have L2_7 : (w1.alloc (.cells #[.int .i64 b, .int .i64 c, .int .i64 d, .int .i64 m0, .int .i64 m1, .int .i64 m2, .int .i64 p] 24)).cell? ⟨w.heap.size, 7, none⟩ = some (.int .i64 2) := (cellsB (i := 7) (alc (o := (.cells #[.int .i64 b, .int .i64 c, .int .i64 d, .int .i64 m0, .int .i64 m1, .int .i64 m2, .int .i64 p] 24)) s_1.out)).trans rfl
      have L3_18 : (w1.alloc (.cells #[.int .i64 b, .int .i64 c, .int .i64 d, .int .i64 m0, .int .i64 m1, .int .i64 m2, .int .i64 p] 24)).cell? ⟨(w.heap.size + 1), 18, none⟩ = some (.int .i64 ec3) := (cellsB (i := 18) (alc (o := (.cells #[.int .i64 b, .int .i64 c, .int .i64 d, .int .i64 m0, .int .i64 m1, .int .i64 m2, .int .i64 p] 24)) q_1.out)).trans rfl
      have L3_19 : (w1.alloc (.cells #[.int .i64 b, .int .i64 c, .int .i64 d, .int .i64 m0, .int .i64 m1, .int .i64 m2, .int .i64 p] 24)).cell? ⟨(w.heap.size + 1), 19, none⟩ = some (.int .i64 ea3) := (cellsB (i := 19) (alc (o := (.cells #[.int .i64 b, .int .i64 c, .int .i64 d, .int .i64 m0, .int .i64 m1, .int .i64 m2, .int .i64 p] 24)) q_1.out)).trans rfl
      have L4_0 : (w1.alloc (.cells #[.int .i64 b, .int .i64 c, .int .i64 d, .int .i64 m0, .int .i64 m1, .int .i64 m2, .int .i64 p] 24)).cell? ⟨w1.heap.size, 0, none⟩ = some (.int .i64 b) := (cellsB (i := 0) (heap_alloc_new w1 (.cells #[.int .i64 b, .int .i64 c, .int .i64 d, .int .i64 m0, .int .i64 m1, .int .i64 m2, .int .i64 p] 24))).trans rfl
      have L4_1 : (w1.alloc (.cells #[.int .i64 b, .int .i64 c, .int .i64 d, .int .i64 m0, .int .i64 m1, .int .i64 m2, .int .i64 p] 24)).cell? ⟨w1.heap.size, 1, none⟩ = some (.int .i64 c) := (cellsB (i := 1) (heap_alloc_new w1 (.cells #[.int .i64 b, .int .i64 c, .int .i64 d, .int .i64 m0, .int .i64 m1, .int .i64 m2, .int .i64 p] 24))).trans rfl
      have L4_2 : (w1.alloc (.cells #[.int .i64 b, .int .i64 c, .int .i64 d, .int .i64 m0, .int .i64 m1, .int .i64 m2, .int .i64 p] 24)).cell? ⟨w1.heap.size, 2, none⟩ = some (.int .i64 d) := (cellsB (i := 2) (heap_alloc_new w1 (.cells #[.int .i64 b, .int .i64 c, .int .i64 d, .int .i64 m0, .int .i64 m1, .int .i64 m2, .int .i64 p] 24))).trans rfl
      have L4_3 : (w1.alloc (.cells #[.int .i64 b, .int .i64 c, .int .i64 d, .int .i64 m0, .int .i64 m1, .int .i64 m2, .int .i64 p] 24)).cell? ⟨w1.heap.size, 3, none⟩ = some (.int .i64 m0) := (cellsB (i := 3) (heap_alloc_new w1 (.cells #[.int .i64 b, .int .i64 c, .int .i64 d, .int .i64 m0, .int .i64 m1, .int .i64 m2, .int .i64 p] 24))).trans rfl
      have L4_4 : (w1.alloc (.cells #[.int .i64 b, .int .i64 c, .int .i64 d, .int .i64 m0, .int .i64 m1, .int .i64 m2, .int .i64 p] 24)).cell? ⟨w1.heap.size, 4, none⟩ = some (.int .i64 m1) := (cellsB (i := 4) (heap_alloc_new w1 (.cells #[.int .i64 b, .int .i64 c, .int .i64 d, .int .i64 m0, .int .i64 m1, .int .i64 m2, .int .i64 p] 24))).trans rfl
      have L4_5 : (w1.alloc (.cells #[.int .i64 b, .int .i64 c, .int .i64 d, .int .i64 m0, .int .i64 m1, .int .i64 m2, .int .i64 p] 24)).cell? ⟨w1.heap.size, 5, none⟩ = some (.int .i64 m2) := (cellsB (i := 5) (heap_alloc_new w1 (.cells #[.int .i64 b, .int .i64 c, .int .i64 d, .int .i64 m0, .int .i64 m1, .int .i64 m2, .int .i64 p] 24))).trans rfl
      have L4_6 : (w1.alloc (.cells #[.int .i64 b, .int .i64 c, .int .i64 d, .int .i64 m0, .int .i64 m1, .int .i64 m2, .int .i64 p] 24)).cell? ⟨w1.heap.size, 6, none⟩ = some (.int .i64 p) := (cellsB (i := 6) (heap_alloc_new w1 (.cells #[.int .i64 b, .int .i64 c, .int .i64 d, .int .i64 m0, .int .i64 m1, .int .i64 m2, .int .i64 p] 24))).trans rfl
      go_wp2_with (first | (refine wpl_row (by rfl) 24 _ rfl _ rfl _ _ _ _ (heap_alloc_new w1 (.cells #[.int .i64 b, .int .i64 c, .int .i64 d, .int .i64 m0, .int .i64 m1, .int .i64 m2, .int .i64 p] 24)) rfl Try.underlying24 (by kernel_rfl) ?_) | (refine wpl_row (by rfl) 68 _ rfl _ rfl _ _ _ _ (alc (o := (.cells #[.int .i64 b, .int .i64 c, .int .i64 d, .int .i64 m0, .int .i64 m1, .int .i64 m2, .int .i64 p] 24)) q_1.out) rfl Try.underlying68 (by kernel_rfl) ?_))
      refine (HU.out _).mono ?_
      rintro e w2 ⟨rfl, q⟩
      have s_2 := Lib.hid (blk1 s_1.out q)
      have q_2 := Lib.hid (blk1 q_1.out q)
      have t_2 := Lib.hid (new1 q)
      have B2 := Lib.hid (bel1 B1.out B1.out.size q)
      clear q s_1 q_1 B1
      clear L1_0 L1_1 L1_2 L1_3 L1_4 L1_5 L1_6 L2_7 L3_18 L3_19 L4_0 L4_1 L4_2 L4_3 L4_4 L4_5 L4_6
      have L5_15 : w2.cell? ⟨(w.heap.size + 1), 15, none⟩ = some (.int .i64 es3) := (cellsB (i := 15) q_2.out).trans rfl
      go_wp2
      go_ret
      clear L5_15
      exact ⟨ret_bool (decide_eq_false (show ¬ RightP _ _ from fun h => by have g := h.2; simp only at g; rw [if_neg (by omega), if_neg (by omega), if_pos trivial] at g; exact of_decide_eq_false hu ((unF_all _ _ h.1.1).2 g.1))).symm, B2.out⟩
    by_cases h4 : es3 = 4
    · skip
      have z5 : (es3 == 5) = false := by simp [h4]
      have z5n : (es3 != 5) = true := by simp [h4]
      have b4 : (es3 == 4) = true := by simp [h4]
      have b4n : (es3 != 4) = false := by simp [h4]
      have H4 := Lib.hid h4
      clear h4
      obtain ⟨f1, f2, f3⟩ := two_boxes w (.cells #[.int .i64 b, .int .i64 c, .int .i64 d, .int .i64 m0, .int .i64 m1, .int .i64 m2, .int .i64 p, .int .i64 2, .int .i64 st, .int .i64 re, .int .i64 si] 26) (.cells #[.int .i64 es0, .int .i64 eu0, .int .i64 et0, .int .i64 ec0, .int .i64 ea0, .int .i64 es1, .int .i64 eu1, .int .i64 et1, .int .i64 ec1, .int .i64 ea1, .int .i64 es2, .int .i64 eu2, .int .i64 et2, .int .i64 ec2, .int .i64 ea2, .int .i64 es3, .int .i64 eu3, .int .i64 et3, .int .i64 ec3, .int .i64 ea3] 68)
      have s_0 := Lib.hid f1
      have q_0 := Lib.hid f2
      have B0 := Lib.hid f3
      clear f1 f2 f3
      go_enter Try.func49, Try.ntmps49
      have HU := Lib.hid (fun W => unf_is hu W)
      unfold W7.val Q4.val at HU
      simp only at HU
      go_wp2_with (first | (refine wpl_row (by rfl) 26 _ rfl _ rfl _ _ _ _ s_0.out rfl Try.underlying26 (by kernel_rfl) ?_))
      refine (HM.out _).mono ?_
      rintro e w1 ⟨rfl, q⟩
      have s_1 := Lib.hid (blk0 s_0.out q)
      have q_1 := Lib.hid (blk0 q_0.out q)
      have B1 := Lib.hid (bel0 B0.out B0.out.size q)
      clear q s_0 q_0 B0
      have L1_0 : w1.cell? ⟨w.heap.size, 0, none⟩ = some (.int .i64 b) := (cellsB (i := 0) s_1.out).trans rfl
      have L1_1 : w1.cell? ⟨w.heap.size, 1, none⟩ = some (.int .i64 c) := (cellsB (i := 1) s_1.out).trans rfl
      have L1_2 : w1.cell? ⟨w.heap.size, 2, none⟩ = some (.int .i64 d) := (cellsB (i := 2) s_1.out).trans rfl
      have L1_3 : w1.cell? ⟨w.heap.size, 3, none⟩ = some (.int .i64 m0) := (cellsB (i := 3) s_1.out).trans rfl
      have L1_4 : w1.cell? ⟨w.heap.size, 4, none⟩ = some (.int .i64 m1) := (cellsB (i := 4) s_1.out).trans rfl
      have L1_5 : w1.cell? ⟨w.heap.size, 5, none⟩ = some (.int .i64 m2) := (cellsB (i := 5) s_1.out).trans rfl
      have L1_6 : w1.cell? ⟨w.heap.size, 6, none⟩ = some (.int .i64 p) := (cellsB (i := 6) s_1.out).trans rfl
      have L2_7 : (w1.alloc (.cells #[.int .i64 b, .int .i64 c, .int .i64 d, .int .i64 m0, .int .i64 m1, .int .i64 m2, .int .i64 p] 24)).cell? ⟨w.heap.size, 7, none⟩ = some (.int .i64 2) := (cellsB (i := 7) (alc (o := (.cells #[.int .i64 b, .int .i64 c, .int .i64 d, .int .i64 m0, .int .i64 m1, .int .i64 m2, .int .i64 p] 24)) s_1.out)).trans rfl
      have L3_18 : (w1.alloc (.cells #[.int .i64 b, .int .i64 c, .int .i64 d, .int .i64 m0, .int .i64 m1, .int .i64 m2, .int .i64 p] 24)).cell? ⟨(w.heap.size + 1), 18, none⟩ = some (.int .i64 ec3) := (cellsB (i := 18) (alc (o := (.cells #[.int .i64 b, .int .i64 c, .int .i64 d, .int .i64 m0, .int .i64 m1, .int .i64 m2, .int .i64 p] 24)) q_1.out)).trans rfl
      have L3_19 : (w1.alloc (.cells #[.int .i64 b, .int .i64 c, .int .i64 d, .int .i64 m0, .int .i64 m1, .int .i64 m2, .int .i64 p] 24)).cell? ⟨(w.heap.size + 1), 19, none⟩ = some (.int .i64 ea3) := (cellsB (i := 19) (alc (o := (.cells #[.int .i64 b, .int .i64 c, .int .i64 d, .int .i64 m0, .int .i64 m1, .int .i64 m2, .int .i64 p] 24)) q_1.out)).trans rfl
      have L4_0 : (w1.alloc (.cells #[.int .i64 b, .int .i64 c, .int .i64 d, .int .i64 m0, .int .i64 m1, .int .i64 m2, .int .i64 p] 24)).cell? ⟨w1.heap.size, 0, none⟩ = some (.int .i64 b) := (cellsB (i := 0) (heap_alloc_new w1 (.cells #[.int .i64 b, .int .i64 c, .int .i64 d, .int .i64 m0, .int .i64 m1, .int .i64 m2, .int .i64 p] 24))).trans rfl
      have L4_1 : (w1.alloc (.cells #[.int .i64 b, .int .i64 c, .int .i64 d, .int .i64 m0, .int .i64 m1, .int .i64 m2, .int .i64 p] 24)).cell? ⟨w1.heap.size, 1, none⟩ = some (.int .i64 c) := (cellsB (i := 1) (heap_alloc_new w1 (.cells #[.int .i64 b, .int .i64 c, .int .i64 d, .int .i64 m0, .int .i64 m1, .int .i64 m2, .int .i64 p] 24))).trans rfl
      have L4_2 : (w1.alloc (.cells #[.int .i64 b, .int .i64 c, .int .i64 d, .int .i64 m0, .int .i64 m1, .int .i64 m2, .int .i64 p] 24)).cell? ⟨w1.heap.size, 2, none⟩ = some (.int .i64 d) := (cellsB (i := 2) (heap_alloc_new w1 (.cells #[.int .i64 b, .int .i64 c, .int .i64 d, .int .i64 m0, .int .i64 m1, .int .i64 m2, .int .i64 p] 24))).trans rfl
      have L4_3 : (w1.alloc (.cells #[.int .i64 b, .int .i64 c, .int .i64 d, .int .i64 m0, .int .i64 m1, .int .i64 m2, .int .i64 p] 24)).cell? ⟨w1.heap.size, 3, none⟩ = some (.int .i64 m0) := (cellsB (i := 3) (heap_alloc_new w1 (.cells #[.int .i64 b, .int .i64 c, .int .i64 d, .int .i64 m0, .int .i64 m1, .int .i64 m2, .int .i64 p] 24))).trans rfl
      have L4_4 : (w1.alloc (.cells #[.int .i64 b, .int .i64 c, .int .i64 d, .int .i64 m0, .int .i64 m1, .int .i64 m2, .int .i64 p] 24)).cell? ⟨w1.heap.size, 4, none⟩ = some (.int .i64 m1) := (cellsB (i := 4) (heap_alloc_new w1 (.cells #[.int .i64 b, .int .i64 c, .int .i64 d, .int .i64 m0, .int .i64 m1, .int .i64 m2, .int .i64 p] 24))).trans rfl
      have L4_5 : (w1.alloc (.cells #[.int .i64 b, .int .i64 c, .int .i64 d, .int .i64 m0, .int .i64 m1, .int .i64 m2, .int .i64 p] 24)).cell? ⟨w1.heap.size, 5, none⟩ = some (.int .i64 m2) := (cellsB (i := 5) (heap_alloc_new w1 (.cells #[.int .i64 b, .int .i64 c, .int .i64 d, .int .i64 m0, .int .i64 m1, .int .i64 m2, .int .i64 p] 24))).trans rfl
      have L4_6 : (w1.alloc (.cells #[.int .i64 b, .int .i64 c, .int .i64 d, .int .i64 m0, .int .i64 m1, .int .i64 m2, .int .i64 p] 24)).cell? ⟨w1.heap.size, 6, none⟩ = some (.int .i64 p) := (cellsB (i := 6) (heap_alloc_new w1 (.cells #[.int .i64 b, .int .i64 c, .int .i64 d, .int .i64 m0, .int .i64 m1, .int .i64 m2, .int .i64 p] 24))).trans rfl
      go_wp2_with (first | (refine wpl_row (by rfl) 24 _ rfl _ rfl _ _ _ _ (heap_alloc_new w1 (.cells #[.int .i64 b, .int .i64 c, .int .i64 d, .int .i64 m0, .int .i64 m1, .int .i64 m2, .int .i64 p] 24)) rfl Try.underlying24 (by kernel_rfl) ?_) | (refine wpl_row (by rfl) 68 _ rfl _ rfl _ _ _ _ (alc (o := (.cells #[.int .i64 b, .int .i64 c, .int .i64 d, .int .i64 m0, .int .i64 m1, .int .i64 m2, .int .i64 p] 24)) q_1.out) rfl Try.underlying68 (by kernel_rfl) ?_))
      refine (HU.out _).mono ?_
      rintro e w2 ⟨rfl, q⟩
      have s_2 := Lib.hid (blk1 s_1.out q)
      have q_2 := Lib.hid (blk1 q_1.out q)
      have t_2 := Lib.hid (new1 q)
      have B2 := Lib.hid (bel1 B1.out B1.out.size q)
      clear q s_1 q_1 B1
      clear L1_0 L1_1 L1_2 L1_3 L1_4 L1_5 L1_6 L2_7 L3_18 L3_19 L4_0 L4_1 L4_2 L4_3 L4_4 L4_5 L4_6
      have L5_15 : w2.cell? ⟨(w.heap.size + 1), 15, none⟩ = some (.int .i64 es3) := (cellsB (i := 15) q_2.out).trans rfl
      go_wp2
      go_ret
      clear L5_15
      exact ⟨ret_bool (decide_eq_false (show ¬ RightP _ _ from fun h => by have g := h.2; simp only at g; rw [if_neg (by omega), if_neg (by omega), if_pos trivial] at g; exact g.2.elim (fun z => HA.out z.2.1) (fun z => HA.out z.2.1))).symm, B2.out⟩
    have b4 : (es3 == 4) = false := beq_eq_false_iff_ne.2 h4
    have b4n : (es3 != 4) = true := by simp [h4]
    have H4 := Lib.hid h4
    clear h4
    by_cases h5 : es3 = 5
    · skip
      have b5 : (es3 == 5) = true := by simp [h5]
      have b5n : (es3 != 5) = false := by simp [h5]
      have H5 := Lib.hid h5
      clear h5
      obtain ⟨f1, f2, f3⟩ := two_boxes w (.cells #[.int .i64 b, .int .i64 c, .int .i64 d, .int .i64 m0, .int .i64 m1, .int .i64 m2, .int .i64 p, .int .i64 2, .int .i64 st, .int .i64 re, .int .i64 si] 26) (.cells #[.int .i64 es0, .int .i64 eu0, .int .i64 et0, .int .i64 ec0, .int .i64 ea0, .int .i64 es1, .int .i64 eu1, .int .i64 et1, .int .i64 ec1, .int .i64 ea1, .int .i64 es2, .int .i64 eu2, .int .i64 et2, .int .i64 ec2, .int .i64 ea2, .int .i64 es3, .int .i64 eu3, .int .i64 et3, .int .i64 ec3, .int .i64 ea3] 68)
      have s_0 := Lib.hid f1
      have q_0 := Lib.hid f2
      have B0 := Lib.hid f3
      clear f1 f2 f3
      go_enter Try.func49, Try.ntmps49
      have HU := Lib.hid (fun W => unf_is hu W)
      unfold W7.val Q4.val at HU
      simp only at HU
      go_wp2_with (first | (refine wpl_row (by rfl) 26 _ rfl _ rfl _ _ _ _ s_0.out rfl Try.underlying26 (by kernel_rfl) ?_))
      refine (HM.out _).mono ?_
      rintro e w1 ⟨rfl, q⟩
      have s_1 := Lib.hid (blk0 s_0.out q)
      have q_1 := Lib.hid (blk0 q_0.out q)
      have B1 := Lib.hid (bel0 B0.out B0.out.size q)
      clear q s_0 q_0 B0
      have L1_0 : w1.cell? ⟨w.heap.size, 0, none⟩ = some (.int .i64 b) := (cellsB (i := 0) s_1.out).trans rfl
      have L1_1 : w1.cell? ⟨w.heap.size, 1, none⟩ = some (.int .i64 c) := (cellsB (i := 1) s_1.out).trans rfl
      have L1_2 : w1.cell? ⟨w.heap.size, 2, none⟩ = some (.int .i64 d) := (cellsB (i := 2) s_1.out).trans rfl
      have L1_3 : w1.cell? ⟨w.heap.size, 3, none⟩ = some (.int .i64 m0) := (cellsB (i := 3) s_1.out).trans rfl
      have L1_4 : w1.cell? ⟨w.heap.size, 4, none⟩ = some (.int .i64 m1) := (cellsB (i := 4) s_1.out).trans rfl
      have L1_5 : w1.cell? ⟨w.heap.size, 5, none⟩ = some (.int .i64 m2) := (cellsB (i := 5) s_1.out).trans rfl
      have L1_6 : w1.cell? ⟨w.heap.size, 6, none⟩ = some (.int .i64 p) := (cellsB (i := 6) s_1.out).trans rfl
      have L2_7 : (w1.alloc (.cells #[.int .i64 b, .int .i64 c, .int .i64 d, .int .i64 m0, .int .i64 m1, .int .i64 m2, .int .i64 p] 24)).cell? ⟨w.heap.size, 7, none⟩ = some (.int .i64 2) := (cellsB (i := 7) (alc (o := (.cells #[.int .i64 b, .int .i64 c, .int .i64 d, .int .i64 m0, .int .i64 m1, .int .i64 m2, .int .i64 p] 24)) s_1.out)).trans rfl
      have L3_18 : (w1.alloc (.cells #[.int .i64 b, .int .i64 c, .int .i64 d, .int .i64 m0, .int .i64 m1, .int .i64 m2, .int .i64 p] 24)).cell? ⟨(w.heap.size + 1), 18, none⟩ = some (.int .i64 ec3) := (cellsB (i := 18) (alc (o := (.cells #[.int .i64 b, .int .i64 c, .int .i64 d, .int .i64 m0, .int .i64 m1, .int .i64 m2, .int .i64 p] 24)) q_1.out)).trans rfl
      have L3_19 : (w1.alloc (.cells #[.int .i64 b, .int .i64 c, .int .i64 d, .int .i64 m0, .int .i64 m1, .int .i64 m2, .int .i64 p] 24)).cell? ⟨(w.heap.size + 1), 19, none⟩ = some (.int .i64 ea3) := (cellsB (i := 19) (alc (o := (.cells #[.int .i64 b, .int .i64 c, .int .i64 d, .int .i64 m0, .int .i64 m1, .int .i64 m2, .int .i64 p] 24)) q_1.out)).trans rfl
      have L4_0 : (w1.alloc (.cells #[.int .i64 b, .int .i64 c, .int .i64 d, .int .i64 m0, .int .i64 m1, .int .i64 m2, .int .i64 p] 24)).cell? ⟨w1.heap.size, 0, none⟩ = some (.int .i64 b) := (cellsB (i := 0) (heap_alloc_new w1 (.cells #[.int .i64 b, .int .i64 c, .int .i64 d, .int .i64 m0, .int .i64 m1, .int .i64 m2, .int .i64 p] 24))).trans rfl
      have L4_1 : (w1.alloc (.cells #[.int .i64 b, .int .i64 c, .int .i64 d, .int .i64 m0, .int .i64 m1, .int .i64 m2, .int .i64 p] 24)).cell? ⟨w1.heap.size, 1, none⟩ = some (.int .i64 c) := (cellsB (i := 1) (heap_alloc_new w1 (.cells #[.int .i64 b, .int .i64 c, .int .i64 d, .int .i64 m0, .int .i64 m1, .int .i64 m2, .int .i64 p] 24))).trans rfl
      have L4_2 : (w1.alloc (.cells #[.int .i64 b, .int .i64 c, .int .i64 d, .int .i64 m0, .int .i64 m1, .int .i64 m2, .int .i64 p] 24)).cell? ⟨w1.heap.size, 2, none⟩ = some (.int .i64 d) := (cellsB (i := 2) (heap_alloc_new w1 (.cells #[.int .i64 b, .int .i64 c, .int .i64 d, .int .i64 m0, .int .i64 m1, .int .i64 m2, .int .i64 p] 24))).trans rfl
      have L4_3 : (w1.alloc (.cells #[.int .i64 b, .int .i64 c, .int .i64 d, .int .i64 m0, .int .i64 m1, .int .i64 m2, .int .i64 p] 24)).cell? ⟨w1.heap.size, 3, none⟩ = some (.int .i64 m0) := (cellsB (i := 3) (heap_alloc_new w1 (.cells #[.int .i64 b, .int .i64 c, .int .i64 d, .int .i64 m0, .int .i64 m1, .int .i64 m2, .int .i64 p] 24))).trans rfl
      have L4_4 : (w1.alloc (.cells #[.int .i64 b, .int .i64 c, .int .i64 d, .int .i64 m0, .int .i64 m1, .int .i64 m2, .int .i64 p] 24)).cell? ⟨w1.heap.size, 4, none⟩ = some (.int .i64 m1) := (cellsB (i := 4) (heap_alloc_new w1 (.cells #[.int .i64 b, .int .i64 c, .int .i64 d, .int .i64 m0, .int .i64 m1, .int .i64 m2, .int .i64 p] 24))).trans rfl
      have L4_5 : (w1.alloc (.cells #[.int .i64 b, .int .i64 c, .int .i64 d, .int .i64 m0, .int .i64 m1, .int .i64 m2, .int .i64 p] 24)).cell? ⟨w1.heap.size, 5, none⟩ = some (.int .i64 m2) := (cellsB (i := 5) (heap_alloc_new w1 (.cells #[.int .i64 b, .int .i64 c, .int .i64 d, .int .i64 m0, .int .i64 m1, .int .i64 m2, .int .i64 p] 24))).trans rfl
      have L4_6 : (w1.alloc (.cells #[.int .i64 b, .int .i64 c, .int .i64 d, .int .i64 m0, .int .i64 m1, .int .i64 m2, .int .i64 p] 24)).cell? ⟨w1.heap.size, 6, none⟩ = some (.int .i64 p) := (cellsB (i := 6) (heap_alloc_new w1 (.cells #[.int .i64 b, .int .i64 c, .int .i64 d, .int .i64 m0, .int .i64 m1, .int .i64 m2, .int .i64 p] 24))).trans rfl
      go_wp2_with (first | (refine wpl_row (by rfl) 24 _ rfl _ rfl _ _ _ _ (heap_alloc_new w1 (.cells #[.int .i64 b, .int .i64 c, .int .i64 d, .int .i64 m0, .int .i64 m1, .int .i64 m2, .int .i64 p] 24)) rfl Try.underlying24 (by kernel_rfl) ?_) | (refine wpl_row (by rfl) 68 _ rfl _ rfl _ _ _ _ (alc (o := (.cells #[.int .i64 b, .int .i64 c, .int .i64 d, .int .i64 m0, .int .i64 m1, .int .i64 m2, .int .i64 p] 24)) q_1.out) rfl Try.underlying68 (by kernel_rfl) ?_))
      refine (HU.out _).mono ?_
      rintro e w2 ⟨rfl, q⟩
      have s_2 := Lib.hid (blk1 s_1.out q)
      have q_2 := Lib.hid (blk1 q_1.out q)
      have t_2 := Lib.hid (new1 q)
      have B2 := Lib.hid (bel1 B1.out B1.out.size q)
      clear q s_1 q_1 B1
      clear L1_0 L1_1 L1_2 L1_3 L1_4 L1_5 L1_6 L2_7 L3_18 L3_19 L4_0 L4_1 L4_2 L4_3 L4_4 L4_5 L4_6
      have L5_15 : w2.cell? ⟨(w.heap.size + 1), 15, none⟩ = some (.int .i64 es3) := (cellsB (i := 15) q_2.out).trans rfl
      go_wp2
      go_ret
      clear L5_15
      exact ⟨ret_bool (decide_eq_false (show ¬ RightP _ _ from fun h => by have g := h.2; simp only at g; rw [if_neg (by omega), if_neg (by omega), if_pos trivial] at g; exact g.2.elim (fun z => HA.out z.2.1) (fun z => HA.out z.2.1))).symm, B2.out⟩
    have b5 : (es3 == 5) = false := beq_eq_false_iff_ne.2 h5
    have b5n : (es3 != 5) = true := by simp [h5]
    have H5 := Lib.hid h5
    clear h5
    obtain ⟨f1, f2, f3⟩ := two_boxes w (.cells #[.int .i64 b, .int .i64 c, .int .i64 d, .int .i64 m0, .int .i64 m1, .int .i64 m2, .int .i64 p, .int .i64 2, .int .i64 st, .int .i64 re, .int .i64 si] 26) (.cells #[.int .i64 es0, .int .i64 eu0, .int .i64 et0, .int .i64 ec0, .int .i64 ea0, .int .i64 es1, .int .i64 eu1, .int .i64 et1, .int .i64 ec1, .int .i64 ea1, .int .i64 es2, .int .i64 eu2, .int .i64 et2, .int .i64 ec2, .int .i64 ea2, .int .i64 es3, .int .i64 eu3, .int .i64 et3, .int .i64 ec3, .int .i64 ea3] 68)
    have s_0 := Lib.hid f1
    have q_0 := Lib.hid f2
    have B0 := Lib.hid f3
    clear f1 f2 f3
    go_enter Try.func49, Try.ntmps49
    have HU := Lib.hid (fun W => unf_is hu W)
    unfold W7.val Q4.val at HU
    simp only at HU
    go_wp2_with (first | (refine wpl_row (by rfl) 26 _ rfl _ rfl _ _ _ _ s_0.out rfl Try.underlying26 (by kernel_rfl) ?_))
    refine (HM.out _).mono ?_
    rintro e w1 ⟨rfl, q⟩
    have s_1 := Lib.hid (blk0 s_0.out q)
    have q_1 := Lib.hid (blk0 q_0.out q)
    have B1 := Lib.hid (bel0 B0.out B0.out.size q)
    clear q s_0 q_0 B0
    have L1_0 : w1.cell? ⟨w.heap.size, 0, none⟩ = some (.int .i64 b) := (cellsB (i := 0) s_1.out).trans rfl
    have L1_1 : w1.cell? ⟨w.heap.size, 1, none⟩ = some (.int .i64 c) := (cellsB (i := 1) s_1.out).trans rfl
    have L1_2 : w1.cell? ⟨w.heap.size, 2, none⟩ = some (.int .i64 d) := (cellsB (i := 2) s_1.out).trans rfl
    have L1_3 : w1.cell? ⟨w.heap.size, 3, none⟩ = some (.int .i64 m0) := (cellsB (i := 3) s_1.out).trans rfl
    have L1_4 : w1.cell? ⟨w.heap.size, 4, none⟩ = some (.int .i64 m1) := (cellsB (i := 4) s_1.out).trans rfl
    have L1_5 : w1.cell? ⟨w.heap.size, 5, none⟩ = some (.int .i64 m2) := (cellsB (i := 5) s_1.out).trans rfl
    have L1_6 : w1.cell? ⟨w.heap.size, 6, none⟩ = some (.int .i64 p) := (cellsB (i := 6) s_1.out).trans rfl
    have L2_7 : (w1.alloc (.cells #[.int .i64 b, .int .i64 c, .int .i64 d, .int .i64 m0, .int .i64 m1, .int .i64 m2, .int .i64 p] 24)).cell? ⟨w.heap.size, 7, none⟩ = some (.int .i64 2) := (cellsB (i := 7) (alc (o := (.cells #[.int .i64 b, .int .i64 c, .int .i64 d, .int .i64 m0, .int .i64 m1, .int .i64 m2, .int .i64 p] 24)) s_1.out)).trans rfl
    have L3_18 : (w1.alloc (.cells #[.int .i64 b, .int .i64 c, .int .i64 d, .int .i64 m0, .int .i64 m1, .int .i64 m2, .int .i64 p] 24)).cell? ⟨(w.heap.size + 1), 18, none⟩ = some (.int .i64 ec3) := (cellsB (i := 18) (alc (o := (.cells #[.int .i64 b, .int .i64 c, .int .i64 d, .int .i64 m0, .int .i64 m1, .int .i64 m2, .int .i64 p] 24)) q_1.out)).trans rfl
    have L3_19 : (w1.alloc (.cells #[.int .i64 b, .int .i64 c, .int .i64 d, .int .i64 m0, .int .i64 m1, .int .i64 m2, .int .i64 p] 24)).cell? ⟨(w.heap.size + 1), 19, none⟩ = some (.int .i64 ea3) := (cellsB (i := 19) (alc (o := (.cells #[.int .i64 b, .int .i64 c, .int .i64 d, .int .i64 m0, .int .i64 m1, .int .i64 m2, .int .i64 p] 24)) q_1.out)).trans rfl
    have L4_0 : (w1.alloc (.cells #[.int .i64 b, .int .i64 c, .int .i64 d, .int .i64 m0, .int .i64 m1, .int .i64 m2, .int .i64 p] 24)).cell? ⟨w1.heap.size, 0, none⟩ = some (.int .i64 b) := (cellsB (i := 0) (heap_alloc_new w1 (.cells #[.int .i64 b, .int .i64 c, .int .i64 d, .int .i64 m0, .int .i64 m1, .int .i64 m2, .int .i64 p] 24))).trans rfl
    have L4_1 : (w1.alloc (.cells #[.int .i64 b, .int .i64 c, .int .i64 d, .int .i64 m0, .int .i64 m1, .int .i64 m2, .int .i64 p] 24)).cell? ⟨w1.heap.size, 1, none⟩ = some (.int .i64 c) := (cellsB (i := 1) (heap_alloc_new w1 (.cells #[.int .i64 b, .int .i64 c, .int .i64 d, .int .i64 m0, .int .i64 m1, .int .i64 m2, .int .i64 p] 24))).trans rfl
    have L4_2 : (w1.alloc (.cells #[.int .i64 b, .int .i64 c, .int .i64 d, .int .i64 m0, .int .i64 m1, .int .i64 m2, .int .i64 p] 24)).cell? ⟨w1.heap.size, 2, none⟩ = some (.int .i64 d) := (cellsB (i := 2) (heap_alloc_new w1 (.cells #[.int .i64 b, .int .i64 c, .int .i64 d, .int .i64 m0, .int .i64 m1, .int .i64 m2, .int .i64 p] 24))).trans rfl
    have L4_3 : (w1.alloc (.cells #[.int .i64 b, .int .i64 c, .int .i64 d, .int .i64 m0, .int .i64 m1, .int .i64 m2, .int .i64 p] 24)).cell? ⟨w1.heap.size, 3, none⟩ = some (.int .i64 m0) := (cellsB (i := 3) (heap_alloc_new w1 (.cells #[.int .i64 b, .int .i64 c, .int .i64 d, .int .i64 m0, .int .i64 m1, .int .i64 m2, .int .i64 p] 24))).trans rfl
    have L4_4 : (w1.alloc (.cells #[.int .i64 b, .int .i64 c, .int .i64 d, .int .i64 m0, .int .i64 m1, .int .i64 m2, .int .i64 p] 24)).cell? ⟨w1.heap.size, 4, none⟩ = some (.int .i64 m1) := (cellsB (i := 4) (heap_alloc_new w1 (.cells #[.int .i64 b, .int .i64 c, .int .i64 d, .int .i64 m0, .int .i64 m1, .int .i64 m2, .int .i64 p] 24))).trans rfl
    have L4_5 : (w1.alloc (.cells #[.int .i64 b, .int .i64 c, .int .i64 d, .int .i64 m0, .int .i64 m1, .int .i64 m2, .int .i64 p] 24)).cell? ⟨w1.heap.size, 5, none⟩ = some (.int .i64 m2) := (cellsB (i := 5) (heap_alloc_new w1 (.cells #[.int .i64 b, .int .i64 c, .int .i64 d, .int .i64 m0, .int .i64 m1, .int .i64 m2, .int .i64 p] 24))).trans rfl
    have L4_6 : (w1.alloc (.cells #[.int .i64 b, .int .i64 c, .int .i64 d, .int .i64 m0, .int .i64 m1, .int .i64 m2, .int .i64 p] 24)).cell? ⟨w1.heap.size, 6, none⟩ = some (.int .i64 p) := (cellsB (i := 6) (heap_alloc_new w1 (.cells #[.int .i64 b, .int .i64 c, .int .i64 d, .int .i64 m0, .int .i64 m1, .int .i64 m2, .int .i64 p] 24))).trans rfl
    go_wp2_with (first | (refine wpl_row (by rfl) 24 _ rfl _ rfl _ _ _ _ (heap_alloc_new w1 (.cells #[.int .i64 b, .int .i64 c, .int .i64 d, .int .i64 m0, .int .i64 m1, .int .i64 m2, .int .i64 p] 24)) rfl Try.underlying24 (by kernel_rfl) ?_) | (refine wpl_row (by rfl) 68 _ rfl _ rfl _ _ _ _ (alc (o := (.cells #[.int .i64 b, .int .i64 c, .int .i64 d, .int .i64 m0, .int .i64 m1, .int .i64 m2, .int .i64 p] 24)) q_1.out) rfl Try.underlying68 (by kernel_rfl) ?_))
    refine (HU.out _).mono ?_
    rintro e w2 ⟨rfl, q⟩
    have s_2 := Lib.hid (blk1 s_1.out q)
    have q_2 := Lib.hid (blk1 q_1.out q)
    have t_2 := Lib.hid (new1 q)
    have B2 := Lib.hid (bel1 B1.out B1.out.size q)
    clear q s_1 q_1 B1
    clear L1_0 L1_1 L1_2 L1_3 L1_4 L1_5 L1_6 L2_7 L3_18 L3_19 L4_0 L4_1 L4_2 L4_3 L4_4 L4_5 L4_6
    have L5_15 : w2.cell? ⟨(w.heap.size + 1), 15, none⟩ = some (.int .i64 es3) := (cellsB (i := 15) q_2.out).trans rfl
    go_wp2
    go_ret
    clear L5_15
    exact ⟨ret_bool (decide_eq_false (show ¬ RightP _ _ from fun h => by have g := h.2; simp only at g; rw [if_neg (by omega), if_neg (by omega), if_pos trivial] at g; exact g.2.elim (fun z => H5.out z.1) (fun z => H4.out z.1))).symm, B2.out⟩
  have b4 : (ph == 4) = false := beq_eq_false_iff_ne.2 p4
  have b5 : (ph == 5) = false := beq_eq_false_iff_ne.2 p5
  have b2 : (ph == 2) = false := beq_eq_false_iff_ne.2 p2
  have HM := Lib.hid (fun W => rmay14_is ⟨⟨b, c, d, m0, m1, m2, p⟩, ph, st, re, si⟩ true hm W)
  unfold S11.val at HM
  simp only at HM
  cases hu : decide (UnT ⟨b, c, d, m0, m1, m2, p⟩ ⟨⟨es0, eu0, et0, ec0, ea0⟩, ⟨es1, eu1, et1, ec1, ea1⟩, ⟨es2, eu2, et2, ec2, ea2⟩, ⟨es3, eu3, et3, ec3, ea3⟩⟩)
  · skip
    obtain ⟨f1, f2, f3⟩ := two_boxes w (.cells #[.int .i64 b, .int .i64 c, .int .i64 d, .int .i64 m0, .int .i64 m1, .int .i64 m2, .int .i64 p, .int .i64 ph, .int .i64 st, .int .i64 re, .int .i64 si] 26) (.cells #[.int .i64 es0, .int .i64 eu0, .int .i64 et0, .int .i64 ec0, .int .i64 ea0, .int .i64 es1, .int .i64 eu1, .int .i64 et1, .int .i64 ec1, .int .i64 ea1, .int .i64 es2, .int .i64 eu2, .int .i64 et2, .int .i64 ec2, .int .i64 ea2, .int .i64 es3, .int .i64 eu3, .int .i64 et3, .int .i64 ec3, .int .i64 ea3] 68)
    have s_0 := Lib.hid f1
    have q_0 := Lib.hid f2
    have B0 := Lib.hid f3
    clear f1 f2 f3
    go_enter Try.func49, Try.ntmps49
    have HU := Lib.hid (fun W => unt_is hu W)
    unfold W7.val Q4.val at HU
    simp only at HU
    go_wp2_with (first | (refine wpl_row (by rfl) 26 _ rfl _ rfl _ _ _ _ s_0.out rfl Try.underlying26 (by kernel_rfl) ?_))
    refine (HM.out _).mono ?_
    rintro e w1 ⟨rfl, q⟩
    have s_1 := Lib.hid (blk0 s_0.out q)
    have q_1 := Lib.hid (blk0 q_0.out q)
    have B1 := Lib.hid (bel0 B0.out B0.out.size q)
    clear q s_0 q_0 B0
    have L1_0 : w1.cell? ⟨w.heap.size, 0, none⟩ = some (.int .i64 b) := (cellsB (i := 0) s_1.out).trans rfl
    have L1_1 : w1.cell? ⟨w.heap.size, 1, none⟩ = some (.int .i64 c) := (cellsB (i := 1) s_1.out).trans rfl
    have L1_2 : w1.cell? ⟨w.heap.size, 2, none⟩ = some (.int .i64 d) := (cellsB (i := 2) s_1.out).trans rfl
    have L1_3 : w1.cell? ⟨w.heap.size, 3, none⟩ = some (.int .i64 m0) := (cellsB (i := 3) s_1.out).trans rfl
    have L1_4 : w1.cell? ⟨w.heap.size, 4, none⟩ = some (.int .i64 m1) := (cellsB (i := 4) s_1.out).trans rfl
    have L1_5 : w1.cell? ⟨w.heap.size, 5, none⟩ = some (.int .i64 m2) := (cellsB (i := 5) s_1.out).trans rfl
    have L1_6 : w1.cell? ⟨w.heap.size, 6, none⟩ = some (.int .i64 p) := (cellsB (i := 6) s_1.out).trans rfl
    have L2_7 : (w1.alloc (.cells #[.int .i64 b, .int .i64 c, .int .i64 d, .int .i64 m0, .int .i64 m1, .int .i64 m2, .int .i64 p] 24)).cell? ⟨w.heap.size, 7, none⟩ = some (.int .i64 ph) := (cellsB (i := 7) (alc (o := (.cells #[.int .i64 b, .int .i64 c, .int .i64 d, .int .i64 m0, .int .i64 m1, .int .i64 m2, .int .i64 p] 24)) s_1.out)).trans rfl
    have L3_18 : (w1.alloc (.cells #[.int .i64 b, .int .i64 c, .int .i64 d, .int .i64 m0, .int .i64 m1, .int .i64 m2, .int .i64 p] 24)).cell? ⟨(w.heap.size + 1), 18, none⟩ = some (.int .i64 ec3) := (cellsB (i := 18) (alc (o := (.cells #[.int .i64 b, .int .i64 c, .int .i64 d, .int .i64 m0, .int .i64 m1, .int .i64 m2, .int .i64 p] 24)) q_1.out)).trans rfl
    have L3_19 : (w1.alloc (.cells #[.int .i64 b, .int .i64 c, .int .i64 d, .int .i64 m0, .int .i64 m1, .int .i64 m2, .int .i64 p] 24)).cell? ⟨(w.heap.size + 1), 19, none⟩ = some (.int .i64 ea3) := (cellsB (i := 19) (alc (o := (.cells #[.int .i64 b, .int .i64 c, .int .i64 d, .int .i64 m0, .int .i64 m1, .int .i64 m2, .int .i64 p] 24)) q_1.out)).trans rfl
    have L4_0 : (w1.alloc (.cells #[.int .i64 b, .int .i64 c, .int .i64 d, .int .i64 m0, .int .i64 m1, .int .i64 m2, .int .i64 p] 24)).cell? ⟨w1.heap.size, 0, none⟩ = some (.int .i64 b) := (cellsB (i := 0) (heap_alloc_new w1 (.cells #[.int .i64 b, .int .i64 c, .int .i64 d, .int .i64 m0, .int .i64 m1, .int .i64 m2, .int .i64 p] 24))).trans rfl
    have L4_1 : (w1.alloc (.cells #[.int .i64 b, .int .i64 c, .int .i64 d, .int .i64 m0, .int .i64 m1, .int .i64 m2, .int .i64 p] 24)).cell? ⟨w1.heap.size, 1, none⟩ = some (.int .i64 c) := (cellsB (i := 1) (heap_alloc_new w1 (.cells #[.int .i64 b, .int .i64 c, .int .i64 d, .int .i64 m0, .int .i64 m1, .int .i64 m2, .int .i64 p] 24))).trans rfl
    have L4_2 : (w1.alloc (.cells #[.int .i64 b, .int .i64 c, .int .i64 d, .int .i64 m0, .int .i64 m1, .int .i64 m2, .int .i64 p] 24)).cell? ⟨w1.heap.size, 2, none⟩ = some (.int .i64 d) := (cellsB (i := 2) (heap_alloc_new w1 (.cells #[.int .i64 b, .int .i64 c, .int .i64 d, .int .i64 m0, .int .i64 m1, .int .i64 m2, .int .i64 p] 24))).trans rfl
    have L4_3 : (w1.alloc (.cells #[.int .i64 b, .int .i64 c, .int .i64 d, .int .i64 m0, .int .i64 m1, .int .i64 m2, .int .i64 p] 24)).cell? ⟨w1.heap.size, 3, none⟩ = some (.int .i64 m0) := (cellsB (i := 3) (heap_alloc_new w1 (.cells #[.int .i64 b, .int .i64 c, .int .i64 d, .int .i64 m0, .int .i64 m1, .int .i64 m2, .int .i64 p] 24))).trans rfl
    have L4_4 : (w1.alloc (.cells #[.int .i64 b, .int .i64 c, .int .i64 d, .int .i64 m0, .int .i64 m1, .int .i64 m2, .int .i64 p] 24)).cell? ⟨w1.heap.size, 4, none⟩ = some (.int .i64 m1) := (cellsB (i := 4) (heap_alloc_new w1 (.cells #[.int .i64 b, .int .i64 c, .int .i64 d, .int .i64 m0, .int .i64 m1, .int .i64 m2, .int .i64 p] 24))).trans rfl
    have L4_5 : (w1.alloc (.cells #[.int .i64 b, .int .i64 c, .int .i64 d, .int .i64 m0, .int .i64 m1, .int .i64 m2, .int .i64 p] 24)).cell? ⟨w1.heap.size, 5, none⟩ = some (.int .i64 m2) := (cellsB (i := 5) (heap_alloc_new w1 (.cells #[.int .i64 b, .int .i64 c, .int .i64 d, .int .i64 m0, .int .i64 m1, .int .i64 m2, .int .i64 p] 24))).trans rfl
    have L4_6 : (w1.alloc (.cells #[.int .i64 b, .int .i64 c, .int .i64 d, .int .i64 m0, .int .i64 m1, .int .i64 m2, .int .i64 p] 24)).cell? ⟨w1.heap.size, 6, none⟩ = some (.int .i64 p) := (cellsB (i := 6) (heap_alloc_new w1 (.cells #[.int .i64 b, .int .i64 c, .int .i64 d, .int .i64 m0, .int .i64 m1, .int .i64 m2, .int .i64 p] 24))).trans rfl
    go_wp2_with (first | (refine wpl_row (by rfl) 24 _ rfl _ rfl _ _ _ _ (heap_alloc_new w1 (.cells #[.int .i64 b, .int .i64 c, .int .i64 d, .int .i64 m0, .int .i64 m1, .int .i64 m2, .int .i64 p] 24)) rfl Try.underlying24 (by kernel_rfl) ?_) | (refine wpl_row (by rfl) 68 _ rfl _ rfl _ _ _ _ (alc (o := (.cells #[.int .i64 b, .int .i64 c, .int .i64 d, .int .i64 m0, .int .i64 m1, .int .i64 m2, .int .i64 p] 24)) q_1.out) rfl Try.underlying68 (by kernel_rfl) ?_))
    refine (HU.out _).mono ?_
    rintro e w2 ⟨rfl, q⟩
    have s_2 := Lib.hid (blk1 s_1.out q)
    have q_2 := Lib.hid (blk1 q_1.out q)
    have t_2 := Lib.hid (new1 q)
    have B2 := Lib.hid (bel1 B1.out B1.out.size q)
    clear q s_1 q_1 B1
    clear L1_0 L1_1 L1_2 L1_3 L1_4 L1_5 L1_6 L2_7 L3_18 L3_19 L4_0 L4_1 L4_2 L4_3 L4_4 L4_5 L4_6
    have L5_15 : w2.cell? ⟨(w.heap.size + 1), 15, none⟩ = some (.int .i64 es3) := (cellsB (i := 15) q_2.out).trans rfl
    go_wp2
    go_ret
    clear L5_15
    exact ⟨ret_bool (decide_eq_false (show ¬ RightP _ _ from fun h => by have g := h.2; simp only at g; rw [if_neg p4, if_neg p5, if_neg p2] at g; exact of_decide_eq_false hu ⟨g.1, g.2.1, g.2.2.1⟩)).symm, B2.out⟩
  by_cases h4 : es3 = 4
  · skip
    have z5 : (es3 == 5) = false := by simp [h4]
    have z5n : (es3 != 5) = true := by simp [h4]
    have b4 : (es3 == 4) = true := by simp [h4]
    have b4n : (es3 != 4) = false := by simp [h4]
    have H4 := Lib.hid h4
    clear h4
    obtain ⟨f1, f2, f3⟩ := two_boxes w (.cells #[.int .i64 b, .int .i64 c, .int .i64 d, .int .i64 m0, .int .i64 m1, .int .i64 m2, .int .i64 p, .int .i64 ph, .int .i64 st, .int .i64 re, .int .i64 si] 26) (.cells #[.int .i64 es0, .int .i64 eu0, .int .i64 et0, .int .i64 ec0, .int .i64 ea0, .int .i64 es1, .int .i64 eu1, .int .i64 et1, .int .i64 ec1, .int .i64 ea1, .int .i64 es2, .int .i64 eu2, .int .i64 et2, .int .i64 ec2, .int .i64 ea2, .int .i64 es3, .int .i64 eu3, .int .i64 et3, .int .i64 ec3, .int .i64 ea3] 68)
    have s_0 := Lib.hid f1
    have q_0 := Lib.hid f2
    have B0 := Lib.hid f3
    clear f1 f2 f3
    go_enter Try.func49, Try.ntmps49
    have HU := Lib.hid (fun W => unt_is hu W)
    unfold W7.val Q4.val at HU
    simp only at HU
    go_wp2_with (first | (refine wpl_row (by rfl) 26 _ rfl _ rfl _ _ _ _ s_0.out rfl Try.underlying26 (by kernel_rfl) ?_))
    refine (HM.out _).mono ?_
    rintro e w1 ⟨rfl, q⟩
    have s_1 := Lib.hid (blk0 s_0.out q)
    have q_1 := Lib.hid (blk0 q_0.out q)
    have B1 := Lib.hid (bel0 B0.out B0.out.size q)
    clear q s_0 q_0 B0
    have L1_0 : w1.cell? ⟨w.heap.size, 0, none⟩ = some (.int .i64 b) := (cellsB (i := 0) s_1.out).trans rfl
    have L1_1 : w1.cell? ⟨w.heap.size, 1, none⟩ = some (.int .i64 c) := (cellsB (i := 1) s_1.out).trans rfl
    have L1_2 : w1.cell? ⟨w.heap.size, 2, none⟩ = some (.int .i64 d) := (cellsB (i := 2) s_1.out).trans rfl
    have L1_3 : w1.cell? ⟨w.heap.size, 3, none⟩ = some (.int .i64 m0) := (cellsB (i := 3) s_1.out).trans rfl
    have L1_4 : w1.cell? ⟨w.heap.size, 4, none⟩ = some (.int .i64 m1) := (cellsB (i := 4) s_1.out).trans rfl
    have L1_5 : w1.cell? ⟨w.heap.size, 5, none⟩ = some (.int .i64 m2) := (cellsB (i := 5) s_1.out).trans rfl
    have L1_6 : w1.cell? ⟨w.heap.size, 6, none⟩ = some (.int .i64 p) := (cellsB (i := 6) s_1.out).trans rfl
    have L2_7 : (w1.alloc (.cells #[.int .i64 b, .int .i64 c, .int .i64 d, .int .i64 m0, .int .i64 m1, .int .i64 m2, .int .i64 p] 24)).cell? ⟨w.heap.size, 7, none⟩ = some (.int .i64 ph) := (cellsB (i := 7) (alc (o := (.cells #[.int .i64 b, .int .i64 c, .int .i64 d, .int .i64 m0, .int .i64 m1, .int .i64 m2, .int .i64 p] 24)) s_1.out)).trans rfl
    have L3_18 : (w1.alloc (.cells #[.int .i64 b, .int .i64 c, .int .i64 d, .int .i64 m0, .int .i64 m1, .int .i64 m2, .int .i64 p] 24)).cell? ⟨(w.heap.size + 1), 18, none⟩ = some (.int .i64 ec3) := (cellsB (i := 18) (alc (o := (.cells #[.int .i64 b, .int .i64 c, .int .i64 d, .int .i64 m0, .int .i64 m1, .int .i64 m2, .int .i64 p] 24)) q_1.out)).trans rfl
    have L3_19 : (w1.alloc (.cells #[.int .i64 b, .int .i64 c, .int .i64 d, .int .i64 m0, .int .i64 m1, .int .i64 m2, .int .i64 p] 24)).cell? ⟨(w.heap.size + 1), 19, none⟩ = some (.int .i64 ea3) := (cellsB (i := 19) (alc (o := (.cells #[.int .i64 b, .int .i64 c, .int .i64 d, .int .i64 m0, .int .i64 m1, .int .i64 m2, .int .i64 p] 24)) q_1.out)).trans rfl
    have L4_0 : (w1.alloc (.cells #[.int .i64 b, .int .i64 c, .int .i64 d, .int .i64 m0, .int .i64 m1, .int .i64 m2, .int .i64 p] 24)).cell? ⟨w1.heap.size, 0, none⟩ = some (.int .i64 b) := (cellsB (i := 0) (heap_alloc_new w1 (.cells #[.int .i64 b, .int .i64 c, .int .i64 d, .int .i64 m0, .int .i64 m1, .int .i64 m2, .int .i64 p] 24))).trans rfl
    have L4_1 : (w1.alloc (.cells #[.int .i64 b, .int .i64 c, .int .i64 d, .int .i64 m0, .int .i64 m1, .int .i64 m2, .int .i64 p] 24)).cell? ⟨w1.heap.size, 1, none⟩ = some (.int .i64 c) := (cellsB (i := 1) (heap_alloc_new w1 (.cells #[.int .i64 b, .int .i64 c, .int .i64 d, .int .i64 m0, .int .i64 m1, .int .i64 m2, .int .i64 p] 24))).trans rfl
    have L4_2 : (w1.alloc (.cells #[.int .i64 b, .int .i64 c, .int .i64 d, .int .i64 m0, .int .i64 m1, .int .i64 m2, .int .i64 p] 24)).cell? ⟨w1.heap.size, 2, none⟩ = some (.int .i64 d) := (cellsB (i := 2) (heap_alloc_new w1 (.cells #[.int .i64 b, .int .i64 c, .int .i64 d, .int .i64 m0, .int .i64 m1, .int .i64 m2, .int .i64 p] 24))).trans rfl
    have L4_3 : (w1.alloc (.cells #[.int .i64 b, .int .i64 c, .int .i64 d, .int .i64 m0, .int .i64 m1, .int .i64 m2, .int .i64 p] 24)).cell? ⟨w1.heap.size, 3, none⟩ = some (.int .i64 m0) := (cellsB (i := 3) (heap_alloc_new w1 (.cells #[.int .i64 b, .int .i64 c, .int .i64 d, .int .i64 m0, .int .i64 m1, .int .i64 m2, .int .i64 p] 24))).trans rfl
    have L4_4 : (w1.alloc (.cells #[.int .i64 b, .int .i64 c, .int .i64 d, .int .i64 m0, .int .i64 m1, .int .i64 m2, .int .i64 p] 24)).cell? ⟨w1.heap.size, 4, none⟩ = some (.int .i64 m1) := (cellsB (i := 4) (heap_alloc_new w1 (.cells #[.int .i64 b, .int .i64 c, .int .i64 d, .int .i64 m0, .int .i64 m1, .int .i64 m2, .int .i64 p] 24))).trans rfl
    have L4_5 : (w1.alloc (.cells #[.int .i64 b, .int .i64 c, .int .i64 d, .int .i64 m0, .int .i64 m1, .int .i64 m2, .int .i64 p] 24)).cell? ⟨w1.heap.size, 5, none⟩ = some (.int .i64 m2) := (cellsB (i := 5) (heap_alloc_new w1 (.cells #[.int .i64 b, .int .i64 c, .int .i64 d, .int .i64 m0, .int .i64 m1, .int .i64 m2, .int .i64 p] 24))).trans rfl
    have L4_6 : (w1.alloc (.cells #[.int .i64 b, .int .i64 c, .int .i64 d, .int .i64 m0, .int .i64 m1, .int .i64 m2, .int .i64 p] 24)).cell? ⟨w1.heap.size, 6, none⟩ = some (.int .i64 p) := (cellsB (i := 6) (heap_alloc_new w1 (.cells #[.int .i64 b, .int .i64 c, .int .i64 d, .int .i64 m0, .int .i64 m1, .int .i64 m2, .int .i64 p] 24))).trans rfl
    go_wp2_with (first | (refine wpl_row (by rfl) 24 _ rfl _ rfl _ _ _ _ (heap_alloc_new w1 (.cells #[.int .i64 b, .int .i64 c, .int .i64 d, .int .i64 m0, .int .i64 m1, .int .i64 m2, .int .i64 p] 24)) rfl Try.underlying24 (by kernel_rfl) ?_) | (refine wpl_row (by rfl) 68 _ rfl _ rfl _ _ _ _ (alc (o := (.cells #[.int .i64 b, .int .i64 c, .int .i64 d, .int .i64 m0, .int .i64 m1, .int .i64 m2, .int .i64 p] 24)) q_1.out) rfl Try.underlying68 (by kernel_rfl) ?_))
    refine (HU.out _).mono ?_
    rintro e w2 ⟨rfl, q⟩
    have s_2 := Lib.hid (blk1 s_1.out q)
    have q_2 := Lib.hid (blk1 q_1.out q)
    have t_2 := Lib.hid (new1 q)
    have B2 := Lib.hid (bel1 B1.out B1.out.size q)
    clear q s_1 q_1 B1
    clear L1_0 L1_1 L1_2 L1_3 L1_4 L1_5 L1_6 L2_7 L3_18 L3_19 L4_0 L4_1 L4_2 L4_3 L4_4 L4_5 L4_6
    have L5_15 : w2.cell? ⟨(w.heap.size + 1), 15, none⟩ = some (.int .i64 es3) := (cellsB (i := 15) q_2.out).trans rfl
    go_wp2
    go_ret
    clear L5_15
    exact ⟨ret_bool (decide_eq_false (show ¬ RightP _ _ from fun h => by have g := h.2; simp only at g; rw [if_neg p4, if_neg p5, if_neg p2] at g; exact HA.out (g.2.2.2.2 H4.out).2.1)).symm, B2.out⟩
  have b4 : (es3 == 4) = false := beq_eq_false_iff_ne.2 h4
  have b4n : (es3 != 4) = true := by simp [h4]
  have H4 := Lib.hid h4
  clear h4
  by_cases h5 : es3 = 5
  · skip
    have b5 : (es3 == 5) = true := by simp [h5]
    have b5n : (es3 != 5) = false := by simp [h5]
    have H5 := Lib.hid h5
    clear h5
    obtain ⟨f1, f2, f3⟩ := two_boxes w (.cells #[.int .i64 b, .int .i64 c, .int .i64 d, .int .i64 m0, .int .i64 m1, .int .i64 m2, .int .i64 p, .int .i64 ph, .int .i64 st, .int .i64 re, .int .i64 si] 26) (.cells #[.int .i64 es0, .int .i64 eu0, .int .i64 et0, .int .i64 ec0, .int .i64 ea0, .int .i64 es1, .int .i64 eu1, .int .i64 et1, .int .i64 ec1, .int .i64 ea1, .int .i64 es2, .int .i64 eu2, .int .i64 et2, .int .i64 ec2, .int .i64 ea2, .int .i64 es3, .int .i64 eu3, .int .i64 et3, .int .i64 ec3, .int .i64 ea3] 68)
    have s_0 := Lib.hid f1
    have q_0 := Lib.hid f2
    have B0 := Lib.hid f3
    clear f1 f2 f3
    go_enter Try.func49, Try.ntmps49
    have HU := Lib.hid (fun W => unt_is hu W)
    unfold W7.val Q4.val at HU
    simp only at HU
    go_wp2_with (first | (refine wpl_row (by rfl) 26 _ rfl _ rfl _ _ _ _ s_0.out rfl Try.underlying26 (by kernel_rfl) ?_))
    refine (HM.out _).mono ?_
    rintro e w1 ⟨rfl, q⟩
    have s_1 := Lib.hid (blk0 s_0.out q)
    have q_1 := Lib.hid (blk0 q_0.out q)
    have B1 := Lib.hid (bel0 B0.out B0.out.size q)
    clear q s_0 q_0 B0
    have L1_0 : w1.cell? ⟨w.heap.size, 0, none⟩ = some (.int .i64 b) := (cellsB (i := 0) s_1.out).trans rfl
    have L1_1 : w1.cell? ⟨w.heap.size, 1, none⟩ = some (.int .i64 c) := (cellsB (i := 1) s_1.out).trans rfl
    have L1_2 : w1.cell? ⟨w.heap.size, 2, none⟩ = some (.int .i64 d) := (cellsB (i := 2) s_1.out).trans rfl
    have L1_3 : w1.cell? ⟨w.heap.size, 3, none⟩ = some (.int .i64 m0) := (cellsB (i := 3) s_1.out).trans rfl
    have L1_4 : w1.cell? ⟨w.heap.size, 4, none⟩ = some (.int .i64 m1) := (cellsB (i := 4) s_1.out).trans rfl
    have L1_5 : w1.cell? ⟨w.heap.size, 5, none⟩ = some (.int .i64 m2) := (cellsB (i := 5) s_1.out).trans rfl
    have L1_6 : w1.cell? ⟨w.heap.size, 6, none⟩ = some (.int .i64 p) := (cellsB (i := 6) s_1.out).trans rfl
    have L2_7 : (w1.alloc (.cells #[.int .i64 b, .int .i64 c, .int .i64 d, .int .i64 m0, .int .i64 m1, .int .i64 m2, .int .i64 p] 24)).cell? ⟨w.heap.size, 7, none⟩ = some (.int .i64 ph) := (cellsB (i := 7) (alc (o := (.cells #[.int .i64 b, .int .i64 c, .int .i64 d, .int .i64 m0, .int .i64 m1, .int .i64 m2, .int .i64 p] 24)) s_1.out)).trans rfl
    have L3_18 : (w1.alloc (.cells #[.int .i64 b, .int .i64 c, .int .i64 d, .int .i64 m0, .int .i64 m1, .int .i64 m2, .int .i64 p] 24)).cell? ⟨(w.heap.size + 1), 18, none⟩ = some (.int .i64 ec3) := (cellsB (i := 18) (alc (o := (.cells #[.int .i64 b, .int .i64 c, .int .i64 d, .int .i64 m0, .int .i64 m1, .int .i64 m2, .int .i64 p] 24)) q_1.out)).trans rfl
    have L3_19 : (w1.alloc (.cells #[.int .i64 b, .int .i64 c, .int .i64 d, .int .i64 m0, .int .i64 m1, .int .i64 m2, .int .i64 p] 24)).cell? ⟨(w.heap.size + 1), 19, none⟩ = some (.int .i64 ea3) := (cellsB (i := 19) (alc (o := (.cells #[.int .i64 b, .int .i64 c, .int .i64 d, .int .i64 m0, .int .i64 m1, .int .i64 m2, .int .i64 p] 24)) q_1.out)).trans rfl
    have L4_0 : (w1.alloc (.cells #[.int .i64 b, .int .i64 c, .int .i64 d, .int .i64 m0, .int .i64 m1, .int .i64 m2, .int .i64 p] 24)).cell? ⟨w1.heap.size, 0, none⟩ = some (.int .i64 b) := (cellsB (i := 0) (heap_alloc_new w1 (.cells #[.int .i64 b, .int .i64 c, .int .i64 d, .int .i64 m0, .int .i64 m1, .int .i64 m2, .int .i64 p] 24))).trans rfl
    have L4_1 : (w1.alloc (.cells #[.int .i64 b, .int .i64 c, .int .i64 d, .int .i64 m0, .int .i64 m1, .int .i64 m2, .int .i64 p] 24)).cell? ⟨w1.heap.size, 1, none⟩ = some (.int .i64 c) := (cellsB (i := 1) (heap_alloc_new w1 (.cells #[.int .i64 b, .int .i64 c, .int .i64 d, .int .i64 m0, .int .i64 m1, .int .i64 m2, .int .i64 p] 24))).trans rfl
    have L4_2 : (w1.alloc (.cells #[.int .i64 b, .int .i64 c, .int .i64 d, .int .i64 m0, .int .i64 m1, .int .i64 m2, .int .i64 p] 24)).cell? ⟨w1.heap.size, 2, none⟩ = some (.int .i64 d) := (cellsB (i := 2) (heap_alloc_new w1 (.cells #[.int .i64 b, .int .i64 c, .int .i64 d, .int .i64 m0, .int .i64 m1, .int .i64 m2, .int .i64 p] 24))).trans rfl
    have L4_3 : (w1.alloc (.cells #[.int .i64 b, .int .i64 c, .int .i64 d, .int .i64 m0, .int .i64 m1, .int .i64 m2, .int .i64 p] 24)).cell? ⟨w1.heap.size, 3, none⟩ = some (.int .i64 m0) := (cellsB (i := 3) (heap_alloc_new w1 (.cells #[.int .i64 b, .int .i64 c, .int .i64 d, .int .i64 m0, .int .i64 m1, .int .i64 m2, .int .i64 p] 24))).trans rfl
    have L4_4 : (w1.alloc (.cells #[.int .i64 b, .int .i64 c, .int .i64 d, .int .i64 m0, .int .i64 m1, .int .i64 m2, .int .i64 p] 24)).cell? ⟨w1.heap.size, 4, none⟩ = some (.int .i64 m1) := (cellsB (i := 4) (heap_alloc_new w1 (.cells #[.int .i64 b, .int .i64 c, .int .i64 d, .int .i64 m0, .int .i64 m1, .int .i64 m2, .int .i64 p] 24))).trans rfl
    have L4_5 : (w1.alloc (.cells #[.int .i64 b, .int .i64 c, .int .i64 d, .int .i64 m0, .int .i64 m1, .int .i64 m2, .int .i64 p] 24)).cell? ⟨w1.heap.size, 5, none⟩ = some (.int .i64 m2) := (cellsB (i := 5) (heap_alloc_new w1 (.cells #[.int .i64 b, .int .i64 c, .int .i64 d, .int .i64 m0, .int .i64 m1, .int .i64 m2, .int .i64 p] 24))).trans rfl
    have L4_6 : (w1.alloc (.cells #[.int .i64 b, .int .i64 c, .int .i64 d, .int .i64 m0, .int .i64 m1, .int .i64 m2, .int .i64 p] 24)).cell? ⟨w1.heap.size, 6, none⟩ = some (.int .i64 p) := (cellsB (i := 6) (heap_alloc_new w1 (.cells #[.int .i64 b, .int .i64 c, .int .i64 d, .int .i64 m0, .int .i64 m1, .int .i64 m2, .int .i64 p] 24))).trans rfl
    go_wp2_with (first | (refine wpl_row (by rfl) 24 _ rfl _ rfl _ _ _ _ (heap_alloc_new w1 (.cells #[.int .i64 b, .int .i64 c, .int .i64 d, .int .i64 m0, .int .i64 m1, .int .i64 m2, .int .i64 p] 24)) rfl Try.underlying24 (by kernel_rfl) ?_) | (refine wpl_row (by rfl) 68 _ rfl _ rfl _ _ _ _ (alc (o := (.cells #[.int .i64 b, .int .i64 c, .int .i64 d, .int .i64 m0, .int .i64 m1, .int .i64 m2, .int .i64 p] 24)) q_1.out) rfl Try.underlying68 (by kernel_rfl) ?_))
    refine (HU.out _).mono ?_
    rintro e w2 ⟨rfl, q⟩
    have s_2 := Lib.hid (blk1 s_1.out q)
    have q_2 := Lib.hid (blk1 q_1.out q)
    have t_2 := Lib.hid (new1 q)
    have B2 := Lib.hid (bel1 B1.out B1.out.size q)
    clear q s_1 q_1 B1
    clear L1_0 L1_1 L1_2 L1_3 L1_4 L1_5 L1_6 L2_7 L3_18 L3_19 L4_0 L4_1 L4_2 L4_3 L4_4 L4_5 L4_6
    have L5_15 : w2.cell? ⟨(w.heap.size + 1), 15, none⟩ = some (.int .i64 es3) := (cellsB (i := 15) q_2.out).trans rfl
    go_wp2
    go_ret
    clear L5_15
    exact ⟨ret_bool (decide_eq_false (show ¬ RightP _ _ from fun h => by have g := h.2; simp only at g; rw [if_neg p4, if_neg p5, if_neg p2] at g; exact g.2.2.2.1 H5.out)).symm, B2.out⟩
  have b5 : (es3 == 5) = false := beq_eq_false_iff_ne.2 h5
  have b5n : (es3 != 5) = true := by simp [h5]
  have H5 := Lib.hid h5
  clear h5
  obtain ⟨f1, f2, f3⟩ := two_boxes w (.cells #[.int .i64 b, .int .i64 c, .int .i64 d, .int .i64 m0, .int .i64 m1, .int .i64 m2, .int .i64 p, .int .i64 ph, .int .i64 st, .int .i64 re, .int .i64 si] 26) (.cells #[.int .i64 es0, .int .i64 eu0, .int .i64 et0, .int .i64 ec0, .int .i64 ea0, .int .i64 es1, .int .i64 eu1, .int .i64 et1, .int .i64 ec1, .int .i64 ea1, .int .i64 es2, .int .i64 eu2, .int .i64 et2, .int .i64 ec2, .int .i64 ea2, .int .i64 es3, .int .i64 eu3, .int .i64 et3, .int .i64 ec3, .int .i64 ea3] 68)
  have s_0 := Lib.hid f1
  have q_0 := Lib.hid f2
  have B0 := Lib.hid f3
  clear f1 f2 f3
  go_enter Try.func49, Try.ntmps49
  have HU := Lib.hid (fun W => unt_is hu W)
  unfold W7.val Q4.val at HU
  simp only at HU
  go_wp2_with (first | (refine wpl_row (by rfl) 26 _ rfl _ rfl _ _ _ _ s_0.out rfl Try.underlying26 (by kernel_rfl) ?_))
  refine (HM.out _).mono ?_
  rintro e w1 ⟨rfl, q⟩
  have s_1 := Lib.hid (blk0 s_0.out q)
  have q_1 := Lib.hid (blk0 q_0.out q)
  have B1 := Lib.hid (bel0 B0.out B0.out.size q)
  clear q s_0 q_0 B0
  have L1_0 : w1.cell? ⟨w.heap.size, 0, none⟩ = some (.int .i64 b) := (cellsB (i := 0) s_1.out).trans rfl
  have L1_1 : w1.cell? ⟨w.heap.size, 1, none⟩ = some (.int .i64 c) := (cellsB (i := 1) s_1.out).trans rfl
  have L1_2 : w1.cell? ⟨w.heap.size, 2, none⟩ = some (.int .i64 d) := (cellsB (i := 2) s_1.out).trans rfl
  have L1_3 : w1.cell? ⟨w.heap.size, 3, none⟩ = some (.int .i64 m0) := (cellsB (i := 3) s_1.out).trans rfl
  have L1_4 : w1.cell? ⟨w.heap.size, 4, none⟩ = some (.int .i64 m1) := (cellsB (i := 4) s_1.out).trans rfl
  have L1_5 : w1.cell? ⟨w.heap.size, 5, none⟩ = some (.int .i64 m2) := (cellsB (i := 5) s_1.out).trans rfl
  have L1_6 : w1.cell? ⟨w.heap.size, 6, none⟩ = some (.int .i64 p) := (cellsB (i := 6) s_1.out).trans rfl
  have L2_7 : (w1.alloc (.cells #[.int .i64 b, .int .i64 c, .int .i64 d, .int .i64 m0, .int .i64 m1, .int .i64 m2, .int .i64 p] 24)).cell? ⟨w.heap.size, 7, none⟩ = some (.int .i64 ph) := (cellsB (i := 7) (alc (o := (.cells #[.int .i64 b, .int .i64 c, .int .i64 d, .int .i64 m0, .int .i64 m1, .int .i64 m2, .int .i64 p] 24)) s_1.out)).trans rfl
  have L3_18 : (w1.alloc (.cells #[.int .i64 b, .int .i64 c, .int .i64 d, .int .i64 m0, .int .i64 m1, .int .i64 m2, .int .i64 p] 24)).cell? ⟨(w.heap.size + 1), 18, none⟩ = some (.int .i64 ec3) := (cellsB (i := 18) (alc (o := (.cells #[.int .i64 b, .int .i64 c, .int .i64 d, .int .i64 m0, .int .i64 m1, .int .i64 m2, .int .i64 p] 24)) q_1.out)).trans rfl
  have L3_19 : (w1.alloc (.cells #[.int .i64 b, .int .i64 c, .int .i64 d, .int .i64 m0, .int .i64 m1, .int .i64 m2, .int .i64 p] 24)).cell? ⟨(w.heap.size + 1), 19, none⟩ = some (.int .i64 ea3) := (cellsB (i := 19) (alc (o := (.cells #[.int .i64 b, .int .i64 c, .int .i64 d, .int .i64 m0, .int .i64 m1, .int .i64 m2, .int .i64 p] 24)) q_1.out)).trans rfl
  have L4_0 : (w1.alloc (.cells #[.int .i64 b, .int .i64 c, .int .i64 d, .int .i64 m0, .int .i64 m1, .int .i64 m2, .int .i64 p] 24)).cell? ⟨w1.heap.size, 0, none⟩ = some (.int .i64 b) := (cellsB (i := 0) (heap_alloc_new w1 (.cells #[.int .i64 b, .int .i64 c, .int .i64 d, .int .i64 m0, .int .i64 m1, .int .i64 m2, .int .i64 p] 24))).trans rfl
  have L4_1 : (w1.alloc (.cells #[.int .i64 b, .int .i64 c, .int .i64 d, .int .i64 m0, .int .i64 m1, .int .i64 m2, .int .i64 p] 24)).cell? ⟨w1.heap.size, 1, none⟩ = some (.int .i64 c) := (cellsB (i := 1) (heap_alloc_new w1 (.cells #[.int .i64 b, .int .i64 c, .int .i64 d, .int .i64 m0, .int .i64 m1, .int .i64 m2, .int .i64 p] 24))).trans rfl
  have L4_2 : (w1.alloc (.cells #[.int .i64 b, .int .i64 c, .int .i64 d, .int .i64 m0, .int .i64 m1, .int .i64 m2, .int .i64 p] 24)).cell? ⟨w1.heap.size, 2, none⟩ = some (.int .i64 d) := (cellsB (i := 2) (heap_alloc_new w1 (.cells #[.int .i64 b, .int .i64 c, .int .i64 d, .int .i64 m0, .int .i64 m1, .int .i64 m2, .int .i64 p] 24))).trans rfl
  have L4_3 : (w1.alloc (.cells #[.int .i64 b, .int .i64 c, .int .i64 d, .int .i64 m0, .int .i64 m1, .int .i64 m2, .int .i64 p] 24)).cell? ⟨w1.heap.size, 3, none⟩ = some (.int .i64 m0) := (cellsB (i := 3) (heap_alloc_new w1 (.cells #[.int .i64 b, .int .i64 c, .int .i64 d, .int .i64 m0, .int .i64 m1, .int .i64 m2, .int .i64 p] 24))).trans rfl
  have L4_4 : (w1.alloc (.cells #[.int .i64 b, .int .i64 c, .int .i64 d, .int .i64 m0, .int .i64 m1, .int .i64 m2, .int .i64 p] 24)).cell? ⟨w1.heap.size, 4, none⟩ = some (.int .i64 m1) := (cellsB (i := 4) (heap_alloc_new w1 (.cells #[.int .i64 b, .int .i64 c, .int .i64 d, .int .i64 m0, .int .i64 m1, .int .i64 m2, .int .i64 p] 24))).trans rfl
  have L4_5 : (w1.alloc (.cells #[.int .i64 b, .int .i64 c, .int .i64 d, .int .i64 m0, .int .i64 m1, .int .i64 m2, .int .i64 p] 24)).cell? ⟨w1.heap.size, 5, none⟩ = some (.int .i64 m2) := (cellsB (i := 5) (heap_alloc_new w1 (.cells #[.int .i64 b, .int .i64 c, .int .i64 d, .int .i64 m0, .int .i64 m1, .int .i64 m2, .int .i64 p] 24))).trans rfl
  have L4_6 : (w1.alloc (.cells #[.int .i64 b, .int .i64 c, .int .i64 d, .int .i64 m0, .int .i64 m1, .int .i64 m2, .int .i64 p] 24)).cell? ⟨w1.heap.size, 6, none⟩ = some (.int .i64 p) := (cellsB (i := 6) (heap_alloc_new w1 (.cells #[.int .i64 b, .int .i64 c, .int .i64 d, .int .i64 m0, .int .i64 m1, .int .i64 m2, .int .i64 p] 24))).trans rfl
  go_wp2_with (first | (refine wpl_row (by rfl) 24 _ rfl _ rfl _ _ _ _ (heap_alloc_new w1 (.cells #[.int .i64 b, .int .i64 c, .int .i64 d, .int .i64 m0, .int .i64 m1, .int .i64 m2, .int .i64 p] 24)) rfl Try.underlying24 (by kernel_rfl) ?_) | (refine wpl_row (by rfl) 68 _ rfl _ rfl _ _ _ _ (alc (o := (.cells #[.int .i64 b, .int .i64 c, .int .i64 d, .int .i64 m0, .int .i64 m1, .int .i64 m2, .int .i64 p] 24)) q_1.out) rfl Try.underlying68 (by kernel_rfl) ?_))
  refine (HU.out _).mono ?_
  rintro e w2 ⟨rfl, q⟩
  have s_2 := Lib.hid (blk1 s_1.out q)
  have q_2 := Lib.hid (blk1 q_1.out q)
  have t_2 := Lib.hid (new1 q)
  have B2 := Lib.hid (bel1 B1.out B1.out.size q)
  clear q s_1 q_1 B1
  clear L1_0 L1_1 L1_2 L1_3 L1_4 L1_5 L1_6 L2_7 L3_18 L3_19 L4_0 L4_1 L4_2 L4_3 L4_4 L4_5 L4_6
  have L5_15 : w2.cell? ⟨(w.heap.size + 1), 15, none⟩ = some (.int .i64 es3) := (cellsB (i := 15) q_2.out).trans rfl
  go_wp2
  go_ret
  clear L5_15
  exact ⟨ret_bool (decide_eq_true (show RightP _ _ from ⟨of_decide_eq_true hm, by simp only; rw [if_neg p4, if_neg p5, if_neg p2]; exact ⟨(of_decide_eq_true hu).1, (of_decide_eq_true hu).2.1, (of_decide_eq_true hu).2.2, H5.out, fun z => absurd z H4.out⟩⟩)).symm, B2.out⟩
set_option maxRecDepth 100000 in
set_option maxHeartbeats 4000000 in
theorem rright_2 (b c d m0 m1 m2 p : Int) (ph st re si : Int) (es0 eu0 et0 ec0 ea0 es1 eu1 et1 ec1 ea1 es2 eu2 et2 ec2 ea2 es3 eu3 et3 ec3 ea3 : Int) (w : World) (hc : ec3 = c) (ha : ea3 = p) : Calls Try.prog 49 #[.agg #[.int .i64 b, .int .i64 c, .int .i64 d, .int .i64 m0, .int .i64 m1, .int .i64 m2, .int .i64 p, .int .i64 ph, .int .i64 st, .int .i64 re, .int .i64 si], .agg #[.int .i64 es0, .int .i64 eu0, .int .i64 et0, .int .i64 ec0, .int .i64 ea0, .int .i64 es1, .int .i64 eu1, .int .i64 et1, .int .i64 ec1, .int .i64 ea1, .int .i64 es2, .int .i64 eu2, .int .i64 et2, .int .i64 ec2, .int .i64 ea2, .int .i64 es3, .int .i64 eu3, .int .i64 et3, .int .i64 ec3, .int .i64 ea3]] w fun e' w' => e' = .returned (.bool (decide (RightP ⟨⟨b, c, d, m0, m1, m2, p⟩, ph, st, re, si⟩ ⟨⟨es0, eu0, et0, ec0, ea0⟩, ⟨es1, eu1, et1, ec1, ea1⟩, ⟨es2, eu2, et2, ec2, ea2⟩, ⟨es3, eu3, et3, ec3, ea3⟩⟩))) ∧ Below w.heap.size w w' := by
  have bc : (ec3 == c) = true := by simp [hc]
  have ba : (ea3 == p) = true := by simp [ha]
  have HC := Lib.hid hc
  have HA := Lib.hid ha
  clear hc ha
  cases hm : decide (MayS ⟨⟨b, c, d, m0, m1, m2, p⟩, ph, st, re, si⟩)
  · skip
    have HM := Lib.hid (fun W => rmay14_is ⟨⟨b, c, d, m0, m1, m2, p⟩, ph, st, re, si⟩ false hm W)
    unfold S11.val at HM
    simp only at HM
    obtain ⟨f1, f2, f3⟩ := two_boxes w (.cells #[.int .i64 b, .int .i64 c, .int .i64 d, .int .i64 m0, .int .i64 m1, .int .i64 m2, .int .i64 p, .int .i64 ph, .int .i64 st, .int .i64 re, .int .i64 si] 26) (.cells #[.int .i64 es0, .int .i64 eu0, .int .i64 et0, .int .i64 ec0, .int .i64 ea0, .int .i64 es1, .int .i64 eu1, .int .i64 et1, .int .i64 ec1, .int .i64 ea1, .int .i64 es2, .int .i64 eu2, .int .i64 et2, .int .i64 ec2, .int .i64 ea2, .int .i64 es3, .int .i64 eu3, .int .i64 et3, .int .i64 ec3, .int .i64 ea3] 68)
    have s_0 := Lib.hid f1
    have q_0 := Lib.hid f2
    have B0 := Lib.hid f3
    clear f1 f2 f3
    go_enter Try.func49, Try.ntmps49
    go_wp2_with (first | (refine wpl_row (by rfl) 26 _ rfl _ rfl _ _ _ _ s_0.out rfl Try.underlying26 (by kernel_rfl) ?_))
    refine (HM.out _).mono ?_
    rintro e w1 ⟨rfl, q⟩
    have s_1 := Lib.hid (blk0 s_0.out q)
    have q_1 := Lib.hid (blk0 q_0.out q)
    have B1 := Lib.hid (bel0 B0.out B0.out.size q)
    clear q s_0 q_0 B0
    go_wp2
    go_ret
    exact ⟨ret_bool (decide_eq_false (show ¬ RightP _ _ from fun h => of_decide_eq_false hm h.1)).symm, B1.out⟩
  by_cases p4 : ph = 4
  · skip
    subst p4
    have HM := Lib.hid (fun W => rmay14_is ⟨⟨b, c, d, m0, m1, m2, p⟩, 4, st, re, si⟩ true hm W)
    unfold S11.val at HM
    simp only at HM
    obtain ⟨f1, f2, f3⟩ := two_boxes w (.cells #[.int .i64 b, .int .i64 c, .int .i64 d, .int .i64 m0, .int .i64 m1, .int .i64 m2, .int .i64 p, .int .i64 4, .int .i64 st, .int .i64 re, .int .i64 si] 26) (.cells #[.int .i64 es0, .int .i64 eu0, .int .i64 et0, .int .i64 ec0, .int .i64 ea0, .int .i64 es1, .int .i64 eu1, .int .i64 et1, .int .i64 ec1, .int .i64 ea1, .int .i64 es2, .int .i64 eu2, .int .i64 et2, .int .i64 ec2, .int .i64 ea2, .int .i64 es3, .int .i64 eu3, .int .i64 et3, .int .i64 ec3, .int .i64 ea3] 68)
    have s_0 := Lib.hid f1
    have q_0 := Lib.hid f2
    have B0 := Lib.hid f3
    clear f1 f2 f3
    go_enter Try.func49, Try.ntmps49
    obtain ⟨r, hr⟩ : ∃ v, decide (BookedP ⟨b, c, d, m0, m1, m2, p⟩ ⟨⟨es0, eu0, et0, ec0, ea0⟩, ⟨es1, eu1, et1, ec1, ea1⟩, ⟨es2, eu2, et2, ec2, ea2⟩, ⟨es3, eu3, et3, ec3, ea3⟩⟩) = v := ⟨_, rfl⟩
    have HX := Lib.hid (fun W => rbooked_is hr W)
    unfold W7.val Q4.val at HX
    simp only at HX
    have HR := Lib.hid hr
    clear hr
    go_wp2_with (first | (refine wpl_row (by rfl) 26 _ rfl _ rfl _ _ _ _ s_0.out rfl Try.underlying26 (by kernel_rfl) ?_))
    refine (HM.out _).mono ?_
    rintro e w1 ⟨rfl, q⟩
    have s_1 := Lib.hid (blk0 s_0.out q)
    have q_1 := Lib.hid (blk0 q_0.out q)
    have B1 := Lib.hid (bel0 B0.out B0.out.size q)
    clear q s_0 q_0 B0
    have L1_0 : w1.cell? ⟨w.heap.size, 0, none⟩ = some (.int .i64 b) := (cellsB (i := 0) s_1.out).trans rfl
    have L1_1 : w1.cell? ⟨w.heap.size, 1, none⟩ = some (.int .i64 c) := (cellsB (i := 1) s_1.out).trans rfl
    have L1_2 : w1.cell? ⟨w.heap.size, 2, none⟩ = some (.int .i64 d) := (cellsB (i := 2) s_1.out).trans rfl
    have L1_3 : w1.cell? ⟨w.heap.size, 3, none⟩ = some (.int .i64 m0) := (cellsB (i := 3) s_1.out).trans rfl
    have L1_4 : w1.cell? ⟨w.heap.size, 4, none⟩ = some (.int .i64 m1) := (cellsB (i := 4) s_1.out).trans rfl
    have L1_5 : w1.cell? ⟨w.heap.size, 5, none⟩ = some (.int .i64 m2) := (cellsB (i := 5) s_1.out).trans rfl
    have L1_6 : w1.cell? ⟨w.heap.size, 6, none⟩ = some (.int .i64 p) := (cellsB (i := 6) s_1.out).trans rfl
    have L2_7 : (w1.alloc (.cells #[.int .i64 b, .int .i64 c, .int .i64 d, .int .i64 m0, .int .i64 m1, .int .i64 m2, .int .i64 p] 24)).cell? ⟨w.heap.size, 7, none⟩ = some (.int .i64 4) := (cellsB (i := 7) (alc (o := (.cells #[.int .i64 b, .int .i64 c, .int .i64 d, .int .i64 m0, .int .i64 m1, .int .i64 m2, .int .i64 p] 24)) s_1.out)).trans rfl
    have L3_18 : (w1.alloc (.cells #[.int .i64 b, .int .i64 c, .int .i64 d, .int .i64 m0, .int .i64 m1, .int .i64 m2, .int .i64 p] 24)).cell? ⟨(w.heap.size + 1), 18, none⟩ = some (.int .i64 ec3) := (cellsB (i := 18) (alc (o := (.cells #[.int .i64 b, .int .i64 c, .int .i64 d, .int .i64 m0, .int .i64 m1, .int .i64 m2, .int .i64 p] 24)) q_1.out)).trans rfl
    have L3_19 : (w1.alloc (.cells #[.int .i64 b, .int .i64 c, .int .i64 d, .int .i64 m0, .int .i64 m1, .int .i64 m2, .int .i64 p] 24)).cell? ⟨(w.heap.size + 1), 19, none⟩ = some (.int .i64 ea3) := (cellsB (i := 19) (alc (o := (.cells #[.int .i64 b, .int .i64 c, .int .i64 d, .int .i64 m0, .int .i64 m1, .int .i64 m2, .int .i64 p] 24)) q_1.out)).trans rfl
    have L4_0 : (w1.alloc (.cells #[.int .i64 b, .int .i64 c, .int .i64 d, .int .i64 m0, .int .i64 m1, .int .i64 m2, .int .i64 p] 24)).cell? ⟨w1.heap.size, 0, none⟩ = some (.int .i64 b) := (cellsB (i := 0) (heap_alloc_new w1 (.cells #[.int .i64 b, .int .i64 c, .int .i64 d, .int .i64 m0, .int .i64 m1, .int .i64 m2, .int .i64 p] 24))).trans rfl
    have L4_1 : (w1.alloc (.cells #[.int .i64 b, .int .i64 c, .int .i64 d, .int .i64 m0, .int .i64 m1, .int .i64 m2, .int .i64 p] 24)).cell? ⟨w1.heap.size, 1, none⟩ = some (.int .i64 c) := (cellsB (i := 1) (heap_alloc_new w1 (.cells #[.int .i64 b, .int .i64 c, .int .i64 d, .int .i64 m0, .int .i64 m1, .int .i64 m2, .int .i64 p] 24))).trans rfl
    have L4_2 : (w1.alloc (.cells #[.int .i64 b, .int .i64 c, .int .i64 d, .int .i64 m0, .int .i64 m1, .int .i64 m2, .int .i64 p] 24)).cell? ⟨w1.heap.size, 2, none⟩ = some (.int .i64 d) := (cellsB (i := 2) (heap_alloc_new w1 (.cells #[.int .i64 b, .int .i64 c, .int .i64 d, .int .i64 m0, .int .i64 m1, .int .i64 m2, .int .i64 p] 24))).trans rfl
    have L4_3 : (w1.alloc (.cells #[.int .i64 b, .int .i64 c, .int .i64 d, .int .i64 m0, .int .i64 m1, .int .i64 m2, .int .i64 p] 24)).cell? ⟨w1.heap.size, 3, none⟩ = some (.int .i64 m0) := (cellsB (i := 3) (heap_alloc_new w1 (.cells #[.int .i64 b, .int .i64 c, .int .i64 d, .int .i64 m0, .int .i64 m1, .int .i64 m2, .int .i64 p] 24))).trans rfl
    have L4_4 : (w1.alloc (.cells #[.int .i64 b, .int .i64 c, .int .i64 d, .int .i64 m0, .int .i64 m1, .int .i64 m2, .int .i64 p] 24)).cell? ⟨w1.heap.size, 4, none⟩ = some (.int .i64 m1) := (cellsB (i := 4) (heap_alloc_new w1 (.cells #[.int .i64 b, .int .i64 c, .int .i64 d, .int .i64 m0, .int .i64 m1, .int .i64 m2, .int .i64 p] 24))).trans rfl
    have L4_5 : (w1.alloc (.cells #[.int .i64 b, .int .i64 c, .int .i64 d, .int .i64 m0, .int .i64 m1, .int .i64 m2, .int .i64 p] 24)).cell? ⟨w1.heap.size, 5, none⟩ = some (.int .i64 m2) := (cellsB (i := 5) (heap_alloc_new w1 (.cells #[.int .i64 b, .int .i64 c, .int .i64 d, .int .i64 m0, .int .i64 m1, .int .i64 m2, .int .i64 p] 24))).trans rfl
    have L4_6 : (w1.alloc (.cells #[.int .i64 b, .int .i64 c, .int .i64 d, .int .i64 m0, .int .i64 m1, .int .i64 m2, .int .i64 p] 24)).cell? ⟨w1.heap.size, 6, none⟩ = some (.int .i64 p) := (cellsB (i := 6) (heap_alloc_new w1 (.cells #[.int .i64 b, .int .i64 c, .int .i64 d, .int .i64 m0, .int .i64 m1, .int .i64 m2, .int .i64 p] 24))).trans rfl
    go_wp2_with (first | (refine wpl_row (by rfl) 24 _ rfl _ rfl _ _ _ _ (heap_alloc_new w1 (.cells #[.int .i64 b, .int .i64 c, .int .i64 d, .int .i64 m0, .int .i64 m1, .int .i64 m2, .int .i64 p] 24)) rfl Try.underlying24 (by kernel_rfl) ?_) | (refine wpl_row (by rfl) 68 _ rfl _ rfl _ _ _ _ (alc (o := (.cells #[.int .i64 b, .int .i64 c, .int .i64 d, .int .i64 m0, .int .i64 m1, .int .i64 m2, .int .i64 p] 24)) q_1.out) rfl Try.underlying68 (by kernel_rfl) ?_))
    refine (HX.out _).mono ?_
    rintro e w2 ⟨rfl, q⟩
    have s_2 := Lib.hid (blk1 s_1.out q)
    have q_2 := Lib.hid (blk1 q_1.out q)
    have t_2 := Lib.hid (new1 q)
    have B2 := Lib.hid (bel1 B1.out B1.out.size q)
    clear q s_1 q_1 B1
    clear L1_0 L1_1 L1_2 L1_3 L1_4 L1_5 L1_6 L2_7 L3_18 L3_19 L4_0 L4_1 L4_2 L4_3 L4_4 L4_5 L4_6
    go_wp2
    go_ret
    refine ⟨ret_bool ?_, B2.out⟩
    rw [← HR.out]
    exact decide_eq_decide.2 (by unfold RightP; simp only; exact ⟨fun h => ⟨of_decide_eq_true hm, by simpa using h⟩, fun h => by have := h.2; simpa using this⟩)
  by_cases p5 : ph = 5
  · skip
    subst p5
    have HM := Lib.hid (fun W => rmay14_is ⟨⟨b, c, d, m0, m1, m2, p⟩, 5, st, re, si⟩ true hm W)
    unfold S11.val at HM
    simp only at HM
    obtain ⟨f1, f2, f3⟩ := two_boxes w (.cells #[.int .i64 b, .int .i64 c, .int .i64 d, .int .i64 m0, .int .i64 m1, .int .i64 m2, .int .i64 p, .int .i64 5, .int .i64 st, .int .i64 re, .int .i64 si] 26) (.cells #[.int .i64 es0, .int .i64 eu0, .int .i64 et0, .int .i64 ec0, .int .i64 ea0, .int .i64 es1, .int .i64 eu1, .int .i64 et1, .int .i64 ec1, .int .i64 ea1, .int .i64 es2, .int .i64 eu2, .int .i64 et2, .int .i64 ec2, .int .i64 ea2, .int .i64 es3, .int .i64 eu3, .int .i64 et3, .int .i64 ec3, .int .i64 ea3] 68)
    have s_0 := Lib.hid f1
    have q_0 := Lib.hid f2
    have B0 := Lib.hid f3
    clear f1 f2 f3
    go_enter Try.func49, Try.ntmps49
    obtain ⟨r, hr⟩ : ∃ v, decide (NothingP ⟨⟨es0, eu0, et0, ec0, ea0⟩, ⟨es1, eu1, et1, ec1, ea1⟩, ⟨es2, eu2, et2, ec2, ea2⟩, ⟨es3, eu3, et3, ec3, ea3⟩⟩) = v := ⟨_, rfl⟩
    have HX := Lib.hid (fun W => rnothing_is hr W)
    unfold Q4.val at HX
    simp only at HX
    have HR := Lib.hid hr
    clear hr
    go_wp2_with (first | (refine wpl_row (by rfl) 26 _ rfl _ rfl _ _ _ _ s_0.out rfl Try.underlying26 (by kernel_rfl) ?_))
    refine (HM.out _).mono ?_
    rintro e w1 ⟨rfl, q⟩
    have s_1 := Lib.hid (blk0 s_0.out q)
    have q_1 := Lib.hid (blk0 q_0.out q)
    have B1 := Lib.hid (bel0 B0.out B0.out.size q)
    clear q s_0 q_0 B0
    have L1_0 : w1.cell? ⟨w.heap.size, 0, none⟩ = some (.int .i64 b) := (cellsB (i := 0) s_1.out).trans rfl
    have L1_1 : w1.cell? ⟨w.heap.size, 1, none⟩ = some (.int .i64 c) := (cellsB (i := 1) s_1.out).trans rfl
    have L1_2 : w1.cell? ⟨w.heap.size, 2, none⟩ = some (.int .i64 d) := (cellsB (i := 2) s_1.out).trans rfl
    have L1_3 : w1.cell? ⟨w.heap.size, 3, none⟩ = some (.int .i64 m0) := (cellsB (i := 3) s_1.out).trans rfl
    have L1_4 : w1.cell? ⟨w.heap.size, 4, none⟩ = some (.int .i64 m1) := (cellsB (i := 4) s_1.out).trans rfl
    have L1_5 : w1.cell? ⟨w.heap.size, 5, none⟩ = some (.int .i64 m2) := (cellsB (i := 5) s_1.out).trans rfl
    have L1_6 : w1.cell? ⟨w.heap.size, 6, none⟩ = some (.int .i64 p) := (cellsB (i := 6) s_1.out).trans rfl
    have L2_7 : (w1.alloc (.cells #[.int .i64 b, .int .i64 c, .int .i64 d, .int .i64 m0, .int .i64 m1, .int .i64 m2, .int .i64 p] 24)).cell? ⟨w.heap.size, 7, none⟩ = some (.int .i64 5) := (cellsB (i := 7) (alc (o := (.cells #[.int .i64 b, .int .i64 c, .int .i64 d, .int .i64 m0, .int .i64 m1, .int .i64 m2, .int .i64 p] 24)) s_1.out)).trans rfl
    have L3_18 : (w1.alloc (.cells #[.int .i64 b, .int .i64 c, .int .i64 d, .int .i64 m0, .int .i64 m1, .int .i64 m2, .int .i64 p] 24)).cell? ⟨(w.heap.size + 1), 18, none⟩ = some (.int .i64 ec3) := (cellsB (i := 18) (alc (o := (.cells #[.int .i64 b, .int .i64 c, .int .i64 d, .int .i64 m0, .int .i64 m1, .int .i64 m2, .int .i64 p] 24)) q_1.out)).trans rfl
    have L3_19 : (w1.alloc (.cells #[.int .i64 b, .int .i64 c, .int .i64 d, .int .i64 m0, .int .i64 m1, .int .i64 m2, .int .i64 p] 24)).cell? ⟨(w.heap.size + 1), 19, none⟩ = some (.int .i64 ea3) := (cellsB (i := 19) (alc (o := (.cells #[.int .i64 b, .int .i64 c, .int .i64 d, .int .i64 m0, .int .i64 m1, .int .i64 m2, .int .i64 p] 24)) q_1.out)).trans rfl
    have L4_0 : (w1.alloc (.cells #[.int .i64 b, .int .i64 c, .int .i64 d, .int .i64 m0, .int .i64 m1, .int .i64 m2, .int .i64 p] 24)).cell? ⟨w1.heap.size, 0, none⟩ = some (.int .i64 b) := (cellsB (i := 0) (heap_alloc_new w1 (.cells #[.int .i64 b, .int .i64 c, .int .i64 d, .int .i64 m0, .int .i64 m1, .int .i64 m2, .int .i64 p] 24))).trans rfl
    have L4_1 : (w1.alloc (.cells #[.int .i64 b, .int .i64 c, .int .i64 d, .int .i64 m0, .int .i64 m1, .int .i64 m2, .int .i64 p] 24)).cell? ⟨w1.heap.size, 1, none⟩ = some (.int .i64 c) := (cellsB (i := 1) (heap_alloc_new w1 (.cells #[.int .i64 b, .int .i64 c, .int .i64 d, .int .i64 m0, .int .i64 m1, .int .i64 m2, .int .i64 p] 24))).trans rfl
    have L4_2 : (w1.alloc (.cells #[.int .i64 b, .int .i64 c, .int .i64 d, .int .i64 m0, .int .i64 m1, .int .i64 m2, .int .i64 p] 24)).cell? ⟨w1.heap.size, 2, none⟩ = some (.int .i64 d) := (cellsB (i := 2) (heap_alloc_new w1 (.cells #[.int .i64 b, .int .i64 c, .int .i64 d, .int .i64 m0, .int .i64 m1, .int .i64 m2, .int .i64 p] 24))).trans rfl
    have L4_3 : (w1.alloc (.cells #[.int .i64 b, .int .i64 c, .int .i64 d, .int .i64 m0, .int .i64 m1, .int .i64 m2, .int .i64 p] 24)).cell? ⟨w1.heap.size, 3, none⟩ = some (.int .i64 m0) := (cellsB (i := 3) (heap_alloc_new w1 (.cells #[.int .i64 b, .int .i64 c, .int .i64 d, .int .i64 m0, .int .i64 m1, .int .i64 m2, .int .i64 p] 24))).trans rfl
    have L4_4 : (w1.alloc (.cells #[.int .i64 b, .int .i64 c, .int .i64 d, .int .i64 m0, .int .i64 m1, .int .i64 m2, .int .i64 p] 24)).cell? ⟨w1.heap.size, 4, none⟩ = some (.int .i64 m1) := (cellsB (i := 4) (heap_alloc_new w1 (.cells #[.int .i64 b, .int .i64 c, .int .i64 d, .int .i64 m0, .int .i64 m1, .int .i64 m2, .int .i64 p] 24))).trans rfl
    have L4_5 : (w1.alloc (.cells #[.int .i64 b, .int .i64 c, .int .i64 d, .int .i64 m0, .int .i64 m1, .int .i64 m2, .int .i64 p] 24)).cell? ⟨w1.heap.size, 5, none⟩ = some (.int .i64 m2) := (cellsB (i := 5) (heap_alloc_new w1 (.cells #[.int .i64 b, .int .i64 c, .int .i64 d, .int .i64 m0, .int .i64 m1, .int .i64 m2, .int .i64 p] 24))).trans rfl
    have L4_6 : (w1.alloc (.cells #[.int .i64 b, .int .i64 c, .int .i64 d, .int .i64 m0, .int .i64 m1, .int .i64 m2, .int .i64 p] 24)).cell? ⟨w1.heap.size, 6, none⟩ = some (.int .i64 p) := (cellsB (i := 6) (heap_alloc_new w1 (.cells #[.int .i64 b, .int .i64 c, .int .i64 d, .int .i64 m0, .int .i64 m1, .int .i64 m2, .int .i64 p] 24))).trans rfl
    go_wp2_with (first | (refine wpl_row (by rfl) 68 _ rfl _ rfl _ _ _ _ (alc (o := (.cells #[.int .i64 b, .int .i64 c, .int .i64 d, .int .i64 m0, .int .i64 m1, .int .i64 m2, .int .i64 p] 24)) q_1.out) rfl Try.underlying68 (by kernel_rfl) ?_))
    refine (HX.out _).mono ?_
    rintro e w2 ⟨rfl, q⟩
    have s_2 := Lib.hid (blk1 s_1.out q)
    have q_2 := Lib.hid (blk1 q_1.out q)
    have t_2 := Lib.hid (new1 q)
    have B2 := Lib.hid (bel1 B1.out B1.out.size q)
    clear q s_1 q_1 B1
    clear L1_0 L1_1 L1_2 L1_3 L1_4 L1_5 L1_6 L2_7 L3_18 L3_19 L4_0 L4_1 L4_2 L4_3 L4_4 L4_5 L4_6
    go_wp2
    go_ret
    refine ⟨ret_bool ?_, B2.out⟩
    rw [← HR.out]
    exact decide_eq_decide.2 (by unfold RightP; simp only; exact ⟨fun h => ⟨of_decide_eq_true hm, by simpa using h⟩, fun h => by have := h.2; simpa using this⟩)
  by_cases p2 : ph = 2
  · skip
    subst p2
    have HM := Lib.hid (fun W => rmay14_is ⟨⟨b, c, d, m0, m1, m2, p⟩, 2, st, re, si⟩ true hm W)
    unfold S11.val at HM
    simp only at HM
    cases hu : decide (UnF ⟨b, c, d, m0, m1, m2, p⟩ ⟨⟨es0, eu0, et0, ec0, ea0⟩, ⟨es1, eu1, et1, ec1, ea1⟩, ⟨es2, eu2, et2, ec2, ea2⟩, ⟨es3, eu3, et3, ec3, ea3⟩⟩)
    · skip
      obtain ⟨f1, f2, f3⟩ := two_boxes w (.cells #[.int .i64 b, .int .i64 c, .int .i64 d, .int .i64 m0, .int .i64 m1, .int .i64 m2, .int .i64 p, .int .i64 2, .int .i64 st, .int .i64 re, .int .i64 si] 26) (.cells #[.int .i64 es0, .int .i64 eu0, .int .i64 et0, .int .i64 ec0, .int .i64 ea0, .int .i64 es1, .int .i64 eu1, .int .i64 et1, .int .i64 ec1, .int .i64 ea1, .int .i64 es2, .int .i64 eu2, .int .i64 et2, .int .i64 ec2, .int .i64 ea2, .int .i64 es3, .int .i64 eu3, .int .i64 et3, .int .i64 ec3, .int .i64 ea3] 68)
      have s_0 := Lib.hid f1
      have q_0 := Lib.hid f2
      have B0 := Lib.hid f3
      clear f1 f2 f3
      go_enter Try.func49, Try.ntmps49
      have HU := Lib.hid (fun W => unf_is hu W)
      unfold W7.val Q4.val at HU
      simp only at HU
      go_wp2_with (first | (refine wpl_row (by rfl) 26 _ rfl _ rfl _ _ _ _ s_0.out rfl Try.underlying26 (by kernel_rfl) ?_))
      refine (HM.out _).mono ?_
      rintro e w1 ⟨rfl, q⟩
      have s_1 := Lib.hid (blk0 s_0.out q)
      have q_1 := Lib.hid (blk0 q_0.out q)
      have B1 := Lib.hid (bel0 B0.out B0.out.size q)
      clear q s_0 q_0 B0
      have L1_0 : w1.cell? ⟨w.heap.size, 0, none⟩ = some (.int .i64 b) := (cellsB (i := 0) s_1.out).trans rfl
      have L1_1 : w1.cell? ⟨w.heap.size, 1, none⟩ = some (.int .i64 c) := (cellsB (i := 1) s_1.out).trans rfl
      have L1_2 : w1.cell? ⟨w.heap.size, 2, none⟩ = some (.int .i64 d) := (cellsB (i := 2) s_1.out).trans rfl
      have L1_3 : w1.cell? ⟨w.heap.size, 3, none⟩ = some (.int .i64 m0) := (cellsB (i := 3) s_1.out).trans rfl
      have L1_4 : w1.cell? ⟨w.heap.size, 4, none⟩ = some (.int .i64 m1) := (cellsB (i := 4) s_1.out).trans rfl
      have L1_5 : w1.cell? ⟨w.heap.size, 5, none⟩ = some (.int .i64 m2) := (cellsB (i := 5) s_1.out).trans rfl
      have L1_6 : w1.cell? ⟨w.heap.size, 6, none⟩ = some (.int .i64 p) := (cellsB (i := 6) s_1.out).trans rfl
      have L2_7 : (w1.alloc (.cells #[.int .i64 b, .int .i64 c, .int .i64 d, .int .i64 m0, .int .i64 m1, .int .i64 m2, .int .i64 p] 24)).cell? ⟨w.heap.size, 7, none⟩ = some (.int .i64 2) := (cellsB (i := 7) (alc (o := (.cells #[.int .i64 b, .int .i64 c, .int .i64 d, .int .i64 m0, .int .i64 m1, .int .i64 m2, .int .i64 p] 24)) s_1.out)).trans rfl
      have L3_18 : (w1.alloc (.cells #[.int .i64 b, .int .i64 c, .int .i64 d, .int .i64 m0, .int .i64 m1, .int .i64 m2, .int .i64 p] 24)).cell? ⟨(w.heap.size + 1), 18, none⟩ = some (.int .i64 ec3) := (cellsB (i := 18) (alc (o := (.cells #[.int .i64 b, .int .i64 c, .int .i64 d, .int .i64 m0, .int .i64 m1, .int .i64 m2, .int .i64 p] 24)) q_1.out)).trans rfl
      have L3_19 : (w1.alloc (.cells #[.int .i64 b, .int .i64 c, .int .i64 d, .int .i64 m0, .int .i64 m1, .int .i64 m2, .int .i64 p] 24)).cell? ⟨(w.heap.size + 1), 19, none⟩ = some (.int .i64 ea3) := (cellsB (i := 19) (alc (o := (.cells #[.int .i64 b, .int .i64 c, .int .i64 d, .int .i64 m0, .int .i64 m1, .int .i64 m2, .int .i64 p] 24)) q_1.out)).trans rfl
      have L4_0 : (w1.alloc (.cells #[.int .i64 b, .int .i64 c, .int .i64 d, .int .i64 m0, .int .i64 m1, .int .i64 m2, .int .i64 p] 24)).cell? ⟨w1.heap.size, 0, none⟩ = some (.int .i64 b) := (cellsB (i := 0) (heap_alloc_new w1 (.cells #[.int .i64 b, .int .i64 c, .int .i64 d, .int .i64 m0, .int .i64 m1, .int .i64 m2, .int .i64 p] 24))).trans rfl
      have L4_1 : (w1.alloc (.cells #[.int .i64 b, .int .i64 c, .int .i64 d, .int .i64 m0, .int .i64 m1, .int .i64 m2, .int .i64 p] 24)).cell? ⟨w1.heap.size, 1, none⟩ = some (.int .i64 c) := (cellsB (i := 1) (heap_alloc_new w1 (.cells #[.int .i64 b, .int .i64 c, .int .i64 d, .int .i64 m0, .int .i64 m1, .int .i64 m2, .int .i64 p] 24))).trans rfl
      have L4_2 : (w1.alloc (.cells #[.int .i64 b, .int .i64 c, .int .i64 d, .int .i64 m0, .int .i64 m1, .int .i64 m2, .int .i64 p] 24)).cell? ⟨w1.heap.size, 2, none⟩ = some (.int .i64 d) := (cellsB (i := 2) (heap_alloc_new w1 (.cells #[.int .i64 b, .int .i64 c, .int .i64 d, .int .i64 m0, .int .i64 m1, .int .i64 m2, .int .i64 p] 24))).trans rfl
      have L4_3 : (w1.alloc (.cells #[.int .i64 b, .int .i64 c, .int .i64 d, .int .i64 m0, .int .i64 m1, .int .i64 m2, .int .i64 p] 24)).cell? ⟨w1.heap.size, 3, none⟩ = some (.int .i64 m0) := (cellsB (i := 3) (heap_alloc_new w1 (.cells #[.int .i64 b, .int .i64 c, .int .i64 d, .int .i64 m0, .int .i64 m1, .int .i64 m2, .int .i64 p] 24))).trans rfl
      have L4_4 : (w1.alloc (.cells #[.int .i64 b, .int .i64 c, .int .i64 d, .int .i64 m0, .int .i64 m1, .int .i64 m2, .int .i64 p] 24)).cell? ⟨w1.heap.size, 4, none⟩ = some (.int .i64 m1) := (cellsB (i := 4) (heap_alloc_new w1 (.cells #[.int .i64 b, .int .i64 c, .int .i64 d, .int .i64 m0, .int .i64 m1, .int .i64 m2, .int .i64 p] 24))).trans rfl
      have L4_5 : (w1.alloc (.cells #[.int .i64 b, .int .i64 c, .int .i64 d, .int .i64 m0, .int .i64 m1, .int .i64 m2, .int .i64 p] 24)).cell? ⟨w1.heap.size, 5, none⟩ = some (.int .i64 m2) := (cellsB (i := 5) (heap_alloc_new w1 (.cells #[.int .i64 b, .int .i64 c, .int .i64 d, .int .i64 m0, .int .i64 m1, .int .i64 m2, .int .i64 p] 24))).trans rfl
      have L4_6 : (w1.alloc (.cells #[.int .i64 b, .int .i64 c, .int .i64 d, .int .i64 m0, .int .i64 m1, .int .i64 m2, .int .i64 p] 24)).cell? ⟨w1.heap.size, 6, none⟩ = some (.int .i64 p) := (cellsB (i := 6) (heap_alloc_new w1 (.cells #[.int .i64 b, .int .i64 c, .int .i64 d, .int .i64 m0, .int .i64 m1, .int .i64 m2, .int .i64 p] 24))).trans rfl
      go_wp2_with (first | (refine wpl_row (by rfl) 24 _ rfl _ rfl _ _ _ _ (heap_alloc_new w1 (.cells #[.int .i64 b, .int .i64 c, .int .i64 d, .int .i64 m0, .int .i64 m1, .int .i64 m2, .int .i64 p] 24)) rfl Try.underlying24 (by kernel_rfl) ?_) | (refine wpl_row (by rfl) 68 _ rfl _ rfl _ _ _ _ (alc (o := (.cells #[.int .i64 b, .int .i64 c, .int .i64 d, .int .i64 m0, .int .i64 m1, .int .i64 m2, .int .i64 p] 24)) q_1.out) rfl Try.underlying68 (by kernel_rfl) ?_))
      refine (HU.out _).mono ?_
      rintro e w2 ⟨rfl, q⟩
      have s_2 := Lib.hid (blk1 s_1.out q)
      have q_2 := Lib.hid (blk1 q_1.out q)
      have t_2 := Lib.hid (new1 q)
      have B2 := Lib.hid (bel1 B1.out B1.out.size q)
      clear q s_1 q_1 B1
      clear L1_0 L1_1 L1_2 L1_3 L1_4 L1_5 L1_6 L2_7 L3_18 L3_19 L4_0 L4_1 L4_2 L4_3 L4_4 L4_5 L4_6
      have L5_15 : w2.cell? ⟨(w.heap.size + 1), 15, none⟩ = some (.int .i64 es3) := (cellsB (i := 15) q_2.out).trans rfl
      go_wp2
      go_ret
      clear L5_15
      exact ⟨ret_bool (decide_eq_false (show ¬ RightP _ _ from fun h => by have g := h.2; simp only at g; rw [if_neg (by omega), if_neg (by omega), if_pos trivial] at g; exact of_decide_eq_false hu ((unF_all _ _ h.1.1).2 g.1))).symm, B2.out⟩
    by_cases h4 : es3 = 4
    · skip
      have z5 : (es3 == 5) = false := by simp [h4]
      have z5n : (es3 != 5) = true := by simp [h4]
      have b4 : (es3 == 4) = true := by simp [h4]
      have b4n : (es3 != 4) = false := by simp [h4]
      have H4 := Lib.hid h4
      clear h4
      obtain ⟨f1, f2, f3⟩ := two_boxes w (.cells #[.int .i64 b, .int .i64 c, .int .i64 d, .int .i64 m0, .int .i64 m1, .int .i64 m2, .int .i64 p, .int .i64 2, .int .i64 st, .int .i64 re, .int .i64 si] 26) (.cells #[.int .i64 es0, .int .i64 eu0, .int .i64 et0, .int .i64 ec0, .int .i64 ea0, .int .i64 es1, .int .i64 eu1, .int .i64 et1, .int .i64 ec1, .int .i64 ea1, .int .i64 es2, .int .i64 eu2, .int .i64 et2, .int .i64 ec2, .int .i64 ea2, .int .i64 es3, .int .i64 eu3, .int .i64 et3, .int .i64 ec3, .int .i64 ea3] 68)
      have s_0 := Lib.hid f1
      have q_0 := Lib.hid f2
      have B0 := Lib.hid f3
      clear f1 f2 f3
      go_enter Try.func49, Try.ntmps49
      have HU := Lib.hid (fun W => unf_is hu W)
      unfold W7.val Q4.val at HU
      simp only at HU
      go_wp2_with (first | (refine wpl_row (by rfl) 26 _ rfl _ rfl _ _ _ _ s_0.out rfl Try.underlying26 (by kernel_rfl) ?_))
      refine (HM.out _).mono ?_
      rintro e w1 ⟨rfl, q⟩
      have s_1 := Lib.hid (blk0 s_0.out q)
      have q_1 := Lib.hid (blk0 q_0.out q)
      have B1 := Lib.hid (bel0 B0.out B0.out.size q)
      clear q s_0 q_0 B0
      have L1_0 : w1.cell? ⟨w.heap.size, 0, none⟩ = some (.int .i64 b) := (cellsB (i := 0) s_1.out).trans rfl
      have L1_1 : w1.cell? ⟨w.heap.size, 1, none⟩ = some (.int .i64 c) := (cellsB (i := 1) s_1.out).trans rfl
      have L1_2 : w1.cell? ⟨w.heap.size, 2, none⟩ = some (.int .i64 d) := (cellsB (i := 2) s_1.out).trans rfl
      have L1_3 : w1.cell? ⟨w.heap.size, 3, none⟩ = some (.int .i64 m0) := (cellsB (i := 3) s_1.out).trans rfl
      have L1_4 : w1.cell? ⟨w.heap.size, 4, none⟩ = some (.int .i64 m1) := (cellsB (i := 4) s_1.out).trans rfl
      have L1_5 : w1.cell? ⟨w.heap.size, 5, none⟩ = some (.int .i64 m2) := (cellsB (i := 5) s_1.out).trans rfl
      have L1_6 : w1.cell? ⟨w.heap.size, 6, none⟩ = some (.int .i64 p) := (cellsB (i := 6) s_1.out).trans rfl
      have L2_7 : (w1.alloc (.cells #[.int .i64 b, .int .i64 c, .int .i64 d, .int .i64 m0, .int .i64 m1, .int .i64 m2, .int .i64 p] 24)).cell? ⟨w.heap.size, 7, none⟩ = some (.int .i64 2) := (cellsB (i := 7) (alc (o := (.cells #[.int .i64 b, .int .i64 c, .int .i64 d, .int .i64 m0, .int .i64 m1, .int .i64 m2, .int .i64 p] 24)) s_1.out)).trans rfl
      have L3_18 : (w1.alloc (.cells #[.int .i64 b, .int .i64 c, .int .i64 d, .int .i64 m0, .int .i64 m1, .int .i64 m2, .int .i64 p] 24)).cell? ⟨(w.heap.size + 1), 18, none⟩ = some (.int .i64 ec3) := (cellsB (i := 18) (alc (o := (.cells #[.int .i64 b, .int .i64 c, .int .i64 d, .int .i64 m0, .int .i64 m1, .int .i64 m2, .int .i64 p] 24)) q_1.out)).trans rfl
      have L3_19 : (w1.alloc (.cells #[.int .i64 b, .int .i64 c, .int .i64 d, .int .i64 m0, .int .i64 m1, .int .i64 m2, .int .i64 p] 24)).cell? ⟨(w.heap.size + 1), 19, none⟩ = some (.int .i64 ea3) := (cellsB (i := 19) (alc (o := (.cells #[.int .i64 b, .int .i64 c, .int .i64 d, .int .i64 m0, .int .i64 m1, .int .i64 m2, .int .i64 p] 24)) q_1.out)).trans rfl
      have L4_0 : (w1.alloc (.cells #[.int .i64 b, .int .i64 c, .int .i64 d, .int .i64 m0, .int .i64 m1, .int .i64 m2, .int .i64 p] 24)).cell? ⟨w1.heap.size, 0, none⟩ = some (.int .i64 b) := (cellsB (i := 0) (heap_alloc_new w1 (.cells #[.int .i64 b, .int .i64 c, .int .i64 d, .int .i64 m0, .int .i64 m1, .int .i64 m2, .int .i64 p] 24))).trans rfl
      have L4_1 : (w1.alloc (.cells #[.int .i64 b, .int .i64 c, .int .i64 d, .int .i64 m0, .int .i64 m1, .int .i64 m2, .int .i64 p] 24)).cell? ⟨w1.heap.size, 1, none⟩ = some (.int .i64 c) := (cellsB (i := 1) (heap_alloc_new w1 (.cells #[.int .i64 b, .int .i64 c, .int .i64 d, .int .i64 m0, .int .i64 m1, .int .i64 m2, .int .i64 p] 24))).trans rfl
      have L4_2 : (w1.alloc (.cells #[.int .i64 b, .int .i64 c, .int .i64 d, .int .i64 m0, .int .i64 m1, .int .i64 m2, .int .i64 p] 24)).cell? ⟨w1.heap.size, 2, none⟩ = some (.int .i64 d) := (cellsB (i := 2) (heap_alloc_new w1 (.cells #[.int .i64 b, .int .i64 c, .int .i64 d, .int .i64 m0, .int .i64 m1, .int .i64 m2, .int .i64 p] 24))).trans rfl
      have L4_3 : (w1.alloc (.cells #[.int .i64 b, .int .i64 c, .int .i64 d, .int .i64 m0, .int .i64 m1, .int .i64 m2, .int .i64 p] 24)).cell? ⟨w1.heap.size, 3, none⟩ = some (.int .i64 m0) := (cellsB (i := 3) (heap_alloc_new w1 (.cells #[.int .i64 b, .int .i64 c, .int .i64 d, .int .i64 m0, .int .i64 m1, .int .i64 m2, .int .i64 p] 24))).trans rfl
      have L4_4 : (w1.alloc (.cells #[.int .i64 b, .int .i64 c, .int .i64 d, .int .i64 m0, .int .i64 m1, .int .i64 m2, .int .i64 p] 24)).cell? ⟨w1.heap.size, 4, none⟩ = some (.int .i64 m1) := (cellsB (i := 4) (heap_alloc_new w1 (.cells #[.int .i64 b, .int .i64 c, .int .i64 d, .int .i64 m0, .int .i64 m1, .int .i64 m2, .int .i64 p] 24))).trans rfl
      have L4_5 : (w1.alloc (.cells #[.int .i64 b, .int .i64 c, .int .i64 d, .int .i64 m0, .int .i64 m1, .int .i64 m2, .int .i64 p] 24)).cell? ⟨w1.heap.size, 5, none⟩ = some (.int .i64 m2) := (cellsB (i := 5) (heap_alloc_new w1 (.cells #[.int .i64 b, .int .i64 c, .int .i64 d, .int .i64 m0, .int .i64 m1, .int .i64 m2, .int .i64 p] 24))).trans rfl
      have L4_6 : (w1.alloc (.cells #[.int .i64 b, .int .i64 c, .int .i64 d, .int .i64 m0, .int .i64 m1, .int .i64 m2, .int .i64 p] 24)).cell? ⟨w1.heap.size, 6, none⟩ = some (.int .i64 p) := (cellsB (i := 6) (heap_alloc_new w1 (.cells #[.int .i64 b, .int .i64 c, .int .i64 d, .int .i64 m0, .int .i64 m1, .int .i64 m2, .int .i64 p] 24))).trans rfl
      go_wp2_with (first | (refine wpl_row (by rfl) 24 _ rfl _ rfl _ _ _ _ (heap_alloc_new w1 (.cells #[.int .i64 b, .int .i64 c, .int .i64 d, .int .i64 m0, .int .i64 m1, .int .i64 m2, .int .i64 p] 24)) rfl Try.underlying24 (by kernel_rfl) ?_) | (refine wpl_row (by rfl) 68 _ rfl _ rfl _ _ _ _ (alc (o := (.cells #[.int .i64 b, .int .i64 c, .int .i64 d, .int .i64 m0, .int .i64 m1, .int .i64 m2, .int .i64 p] 24)) q_1.out) rfl Try.underlying68 (by kernel_rfl) ?_))
      refine (HU.out _).mono ?_
      rintro e w2 ⟨rfl, q⟩
      have s_2 := Lib.hid (blk1 s_1.out q)
      have q_2 := Lib.hid (blk1 q_1.out q)
      have t_2 := Lib.hid (new1 q)
      have B2 := Lib.hid (bel1 B1.out B1.out.size q)
      clear q s_1 q_1 B1
      clear L1_0 L1_1 L1_2 L1_3 L1_4 L1_5 L1_6 L2_7 L3_18 L3_19 L4_0 L4_1 L4_2 L4_3 L4_4 L4_5 L4_6
      have L5_15 : w2.cell? ⟨(w.heap.size + 1), 15, none⟩ = some (.int .i64 es3) := (cellsB (i := 15) q_2.out).trans rfl
      go_wp2
      go_ret
      clear L5_15
      exact ⟨ret_bool (decide_eq_true (show RightP _ _ from ⟨of_decide_eq_true hm, by simp only; rw [if_neg (by omega), if_neg (by omega), if_pos trivial]; exact ⟨(unF_all _ _ (of_decide_eq_true hm).1).1 (of_decide_eq_true hu), .inr ⟨H4.out, HA.out, HC.out⟩⟩⟩)).symm, B2.out⟩
    have b4 : (es3 == 4) = false := beq_eq_false_iff_ne.2 h4
    have b4n : (es3 != 4) = true := by simp [h4]
    have H4 := Lib.hid h4
    clear h4
    by_cases h5 : es3 = 5
    · skip
      have b5 : (es3 == 5) = true := by simp [h5]
      have b5n : (es3 != 5) = false := by simp [h5]
      have H5 := Lib.hid h5
      clear h5
      obtain ⟨f1, f2, f3⟩ := two_boxes w (.cells #[.int .i64 b, .int .i64 c, .int .i64 d, .int .i64 m0, .int .i64 m1, .int .i64 m2, .int .i64 p, .int .i64 2, .int .i64 st, .int .i64 re, .int .i64 si] 26) (.cells #[.int .i64 es0, .int .i64 eu0, .int .i64 et0, .int .i64 ec0, .int .i64 ea0, .int .i64 es1, .int .i64 eu1, .int .i64 et1, .int .i64 ec1, .int .i64 ea1, .int .i64 es2, .int .i64 eu2, .int .i64 et2, .int .i64 ec2, .int .i64 ea2, .int .i64 es3, .int .i64 eu3, .int .i64 et3, .int .i64 ec3, .int .i64 ea3] 68)
      have s_0 := Lib.hid f1
      have q_0 := Lib.hid f2
      have B0 := Lib.hid f3
      clear f1 f2 f3
      go_enter Try.func49, Try.ntmps49
      have HU := Lib.hid (fun W => unf_is hu W)
      unfold W7.val Q4.val at HU
      simp only at HU
      go_wp2_with (first | (refine wpl_row (by rfl) 26 _ rfl _ rfl _ _ _ _ s_0.out rfl Try.underlying26 (by kernel_rfl) ?_))
      refine (HM.out _).mono ?_
      rintro e w1 ⟨rfl, q⟩
      have s_1 := Lib.hid (blk0 s_0.out q)
      have q_1 := Lib.hid (blk0 q_0.out q)
      have B1 := Lib.hid (bel0 B0.out B0.out.size q)
      clear q s_0 q_0 B0
      have L1_0 : w1.cell? ⟨w.heap.size, 0, none⟩ = some (.int .i64 b) := (cellsB (i := 0) s_1.out).trans rfl
      have L1_1 : w1.cell? ⟨w.heap.size, 1, none⟩ = some (.int .i64 c) := (cellsB (i := 1) s_1.out).trans rfl
      have L1_2 : w1.cell? ⟨w.heap.size, 2, none⟩ = some (.int .i64 d) := (cellsB (i := 2) s_1.out).trans rfl
      have L1_3 : w1.cell? ⟨w.heap.size, 3, none⟩ = some (.int .i64 m0) := (cellsB (i := 3) s_1.out).trans rfl
      have L1_4 : w1.cell? ⟨w.heap.size, 4, none⟩ = some (.int .i64 m1) := (cellsB (i := 4) s_1.out).trans rfl
      have L1_5 : w1.cell? ⟨w.heap.size, 5, none⟩ = some (.int .i64 m2) := (cellsB (i := 5) s_1.out).trans rfl
      have L1_6 : w1.cell? ⟨w.heap.size, 6, none⟩ = some (.int .i64 p) := (cellsB (i := 6) s_1.out).trans rfl
      have L2_7 : (w1.alloc (.cells #[.int .i64 b, .int .i64 c, .int .i64 d, .int .i64 m0, .int .i64 m1, .int .i64 m2, .int .i64 p] 24)).cell? ⟨w.heap.size, 7, none⟩ = some (.int .i64 2) := (cellsB (i := 7) (alc (o := (.cells #[.int .i64 b, .int .i64 c, .int .i64 d, .int .i64 m0, .int .i64 m1, .int .i64 m2, .int .i64 p] 24)) s_1.out)).trans rfl
      have L3_18 : (w1.alloc (.cells #[.int .i64 b, .int .i64 c, .int .i64 d, .int .i64 m0, .int .i64 m1, .int .i64 m2, .int .i64 p] 24)).cell? ⟨(w.heap.size + 1), 18, none⟩ = some (.int .i64 ec3) := (cellsB (i := 18) (alc (o := (.cells #[.int .i64 b, .int .i64 c, .int .i64 d, .int .i64 m0, .int .i64 m1, .int .i64 m2, .int .i64 p] 24)) q_1.out)).trans rfl
      have L3_19 : (w1.alloc (.cells #[.int .i64 b, .int .i64 c, .int .i64 d, .int .i64 m0, .int .i64 m1, .int .i64 m2, .int .i64 p] 24)).cell? ⟨(w.heap.size + 1), 19, none⟩ = some (.int .i64 ea3) := (cellsB (i := 19) (alc (o := (.cells #[.int .i64 b, .int .i64 c, .int .i64 d, .int .i64 m0, .int .i64 m1, .int .i64 m2, .int .i64 p] 24)) q_1.out)).trans rfl
      have L4_0 : (w1.alloc (.cells #[.int .i64 b, .int .i64 c, .int .i64 d, .int .i64 m0, .int .i64 m1, .int .i64 m2, .int .i64 p] 24)).cell? ⟨w1.heap.size, 0, none⟩ = some (.int .i64 b) := (cellsB (i := 0) (heap_alloc_new w1 (.cells #[.int .i64 b, .int .i64 c, .int .i64 d, .int .i64 m0, .int .i64 m1, .int .i64 m2, .int .i64 p] 24))).trans rfl
      have L4_1 : (w1.alloc (.cells #[.int .i64 b, .int .i64 c, .int .i64 d, .int .i64 m0, .int .i64 m1, .int .i64 m2, .int .i64 p] 24)).cell? ⟨w1.heap.size, 1, none⟩ = some (.int .i64 c) := (cellsB (i := 1) (heap_alloc_new w1 (.cells #[.int .i64 b, .int .i64 c, .int .i64 d, .int .i64 m0, .int .i64 m1, .int .i64 m2, .int .i64 p] 24))).trans rfl
      have L4_2 : (w1.alloc (.cells #[.int .i64 b, .int .i64 c, .int .i64 d, .int .i64 m0, .int .i64 m1, .int .i64 m2, .int .i64 p] 24)).cell? ⟨w1.heap.size, 2, none⟩ = some (.int .i64 d) := (cellsB (i := 2) (heap_alloc_new w1 (.cells #[.int .i64 b, .int .i64 c, .int .i64 d, .int .i64 m0, .int .i64 m1, .int .i64 m2, .int .i64 p] 24))).trans rfl
      have L4_3 : (w1.alloc (.cells #[.int .i64 b, .int .i64 c, .int .i64 d, .int .i64 m0, .int .i64 m1, .int .i64 m2, .int .i64 p] 24)).cell? ⟨w1.heap.size, 3, none⟩ = some (.int .i64 m0) := (cellsB (i := 3) (heap_alloc_new w1 (.cells #[.int .i64 b, .int .i64 c, .int .i64 d, .int .i64 m0, .int .i64 m1, .int .i64 m2, .int .i64 p] 24))).trans rfl
      have L4_4 : (w1.alloc (.cells #[.int .i64 b, .int .i64 c, .int .i64 d, .int .i64 m0, .int .i64 m1, .int .i64 m2, .int .i64 p] 24)).cell? ⟨w1.heap.size, 4, none⟩ = some (.int .i64 m1) := (cellsB (i := 4) (heap_alloc_new w1 (.cells #[.int .i64 b, .int .i64 c, .int .i64 d, .int .i64 m0, .int .i64 m1, .int .i64 m2, .int .i64 p] 24))).trans rfl
      have L4_5 : (w1.alloc (.cells #[.int .i64 b, .int .i64 c, .int .i64 d, .int .i64 m0, .int .i64 m1, .int .i64 m2, .int .i64 p] 24)).cell? ⟨w1.heap.size, 5, none⟩ = some (.int .i64 m2) := (cellsB (i := 5) (heap_alloc_new w1 (.cells #[.int .i64 b, .int .i64 c, .int .i64 d, .int .i64 m0, .int .i64 m1, .int .i64 m2, .int .i64 p] 24))).trans rfl
      have L4_6 : (w1.alloc (.cells #[.int .i64 b, .int .i64 c, .int .i64 d, .int .i64 m0, .int .i64 m1, .int .i64 m2, .int .i64 p] 24)).cell? ⟨w1.heap.size, 6, none⟩ = some (.int .i64 p) := (cellsB (i := 6) (heap_alloc_new w1 (.cells #[.int .i64 b, .int .i64 c, .int .i64 d, .int .i64 m0, .int .i64 m1, .int .i64 m2, .int .i64 p] 24))).trans rfl
      go_wp2_with (first | (refine wpl_row (by rfl) 24 _ rfl _ rfl _ _ _ _ (heap_alloc_new w1 (.cells #[.int .i64 b, .int .i64 c, .int .i64 d, .int .i64 m0, .int .i64 m1, .int .i64 m2, .int .i64 p] 24)) rfl Try.underlying24 (by kernel_rfl) ?_) | (refine wpl_row (by rfl) 68 _ rfl _ rfl _ _ _ _ (alc (o := (.cells #[.int .i64 b, .int .i64 c, .int .i64 d, .int .i64 m0, .int .i64 m1, .int .i64 m2, .int .i64 p] 24)) q_1.out) rfl Try.underlying68 (by kernel_rfl) ?_))
      refine (HU.out _).mono ?_
      rintro e w2 ⟨rfl, q⟩
      have s_2 := Lib.hid (blk1 s_1.out q)
      have q_2 := Lib.hid (blk1 q_1.out q)
      have t_2 := Lib.hid (new1 q)
      have B2 := Lib.hid (bel1 B1.out B1.out.size q)
      clear q s_1 q_1 B1
      clear L1_0 L1_1 L1_2 L1_3 L1_4 L1_5 L1_6 L2_7 L3_18 L3_19 L4_0 L4_1 L4_2 L4_3 L4_4 L4_5 L4_6
      have L5_15 : w2.cell? ⟨(w.heap.size + 1), 15, none⟩ = some (.int .i64 es3) := (cellsB (i := 15) q_2.out).trans rfl
      go_wp2
      go_ret
      clear L5_15
      exact ⟨ret_bool (decide_eq_true (show RightP _ _ from ⟨of_decide_eq_true hm, by simp only; rw [if_neg (by omega), if_neg (by omega), if_pos trivial]; exact ⟨(unF_all _ _ (of_decide_eq_true hm).1).1 (of_decide_eq_true hu), .inl ⟨H5.out, HA.out, HC.out⟩⟩⟩)).symm, B2.out⟩
    have b5 : (es3 == 5) = false := beq_eq_false_iff_ne.2 h5
    have b5n : (es3 != 5) = true := by simp [h5]
    have H5 := Lib.hid h5
    clear h5
    obtain ⟨f1, f2, f3⟩ := two_boxes w (.cells #[.int .i64 b, .int .i64 c, .int .i64 d, .int .i64 m0, .int .i64 m1, .int .i64 m2, .int .i64 p, .int .i64 2, .int .i64 st, .int .i64 re, .int .i64 si] 26) (.cells #[.int .i64 es0, .int .i64 eu0, .int .i64 et0, .int .i64 ec0, .int .i64 ea0, .int .i64 es1, .int .i64 eu1, .int .i64 et1, .int .i64 ec1, .int .i64 ea1, .int .i64 es2, .int .i64 eu2, .int .i64 et2, .int .i64 ec2, .int .i64 ea2, .int .i64 es3, .int .i64 eu3, .int .i64 et3, .int .i64 ec3, .int .i64 ea3] 68)
    have s_0 := Lib.hid f1
    have q_0 := Lib.hid f2
    have B0 := Lib.hid f3
    clear f1 f2 f3
    go_enter Try.func49, Try.ntmps49
    have HU := Lib.hid (fun W => unf_is hu W)
    unfold W7.val Q4.val at HU
    simp only at HU
    go_wp2_with (first | (refine wpl_row (by rfl) 26 _ rfl _ rfl _ _ _ _ s_0.out rfl Try.underlying26 (by kernel_rfl) ?_))
    refine (HM.out _).mono ?_
    rintro e w1 ⟨rfl, q⟩
    have s_1 := Lib.hid (blk0 s_0.out q)
    have q_1 := Lib.hid (blk0 q_0.out q)
    have B1 := Lib.hid (bel0 B0.out B0.out.size q)
    clear q s_0 q_0 B0
    have L1_0 : w1.cell? ⟨w.heap.size, 0, none⟩ = some (.int .i64 b) := (cellsB (i := 0) s_1.out).trans rfl
    have L1_1 : w1.cell? ⟨w.heap.size, 1, none⟩ = some (.int .i64 c) := (cellsB (i := 1) s_1.out).trans rfl
    have L1_2 : w1.cell? ⟨w.heap.size, 2, none⟩ = some (.int .i64 d) := (cellsB (i := 2) s_1.out).trans rfl
    have L1_3 : w1.cell? ⟨w.heap.size, 3, none⟩ = some (.int .i64 m0) := (cellsB (i := 3) s_1.out).trans rfl
    have L1_4 : w1.cell? ⟨w.heap.size, 4, none⟩ = some (.int .i64 m1) := (cellsB (i := 4) s_1.out).trans rfl
    have L1_5 : w1.cell? ⟨w.heap.size, 5, none⟩ = some (.int .i64 m2) := (cellsB (i := 5) s_1.out).trans rfl
    have L1_6 : w1.cell? ⟨w.heap.size, 6, none⟩ = some (.int .i64 p) := (cellsB (i := 6) s_1.out).trans rfl
    have L2_7 : (w1.alloc (.cells #[.int .i64 b, .int .i64 c, .int .i64 d, .int .i64 m0, .int .i64 m1, .int .i64 m2, .int .i64 p] 24)).cell? ⟨w.heap.size, 7, none⟩ = some (.int .i64 2) := (cellsB (i := 7) (alc (o := (.cells #[.int .i64 b, .int .i64 c, .int .i64 d, .int .i64 m0, .int .i64 m1, .int .i64 m2, .int .i64 p] 24)) s_1.out)).trans rfl
    have L3_18 : (w1.alloc (.cells #[.int .i64 b, .int .i64 c, .int .i64 d, .int .i64 m0, .int .i64 m1, .int .i64 m2, .int .i64 p] 24)).cell? ⟨(w.heap.size + 1), 18, none⟩ = some (.int .i64 ec3) := (cellsB (i := 18) (alc (o := (.cells #[.int .i64 b, .int .i64 c, .int .i64 d, .int .i64 m0, .int .i64 m1, .int .i64 m2, .int .i64 p] 24)) q_1.out)).trans rfl
    have L3_19 : (w1.alloc (.cells #[.int .i64 b, .int .i64 c, .int .i64 d, .int .i64 m0, .int .i64 m1, .int .i64 m2, .int .i64 p] 24)).cell? ⟨(w.heap.size + 1), 19, none⟩ = some (.int .i64 ea3) := (cellsB (i := 19) (alc (o := (.cells #[.int .i64 b, .int .i64 c, .int .i64 d, .int .i64 m0, .int .i64 m1, .int .i64 m2, .int .i64 p] 24)) q_1.out)).trans rfl
    have L4_0 : (w1.alloc (.cells #[.int .i64 b, .int .i64 c, .int .i64 d, .int .i64 m0, .int .i64 m1, .int .i64 m2, .int .i64 p] 24)).cell? ⟨w1.heap.size, 0, none⟩ = some (.int .i64 b) := (cellsB (i := 0) (heap_alloc_new w1 (.cells #[.int .i64 b, .int .i64 c, .int .i64 d, .int .i64 m0, .int .i64 m1, .int .i64 m2, .int .i64 p] 24))).trans rfl
    have L4_1 : (w1.alloc (.cells #[.int .i64 b, .int .i64 c, .int .i64 d, .int .i64 m0, .int .i64 m1, .int .i64 m2, .int .i64 p] 24)).cell? ⟨w1.heap.size, 1, none⟩ = some (.int .i64 c) := (cellsB (i := 1) (heap_alloc_new w1 (.cells #[.int .i64 b, .int .i64 c, .int .i64 d, .int .i64 m0, .int .i64 m1, .int .i64 m2, .int .i64 p] 24))).trans rfl
    have L4_2 : (w1.alloc (.cells #[.int .i64 b, .int .i64 c, .int .i64 d, .int .i64 m0, .int .i64 m1, .int .i64 m2, .int .i64 p] 24)).cell? ⟨w1.heap.size, 2, none⟩ = some (.int .i64 d) := (cellsB (i := 2) (heap_alloc_new w1 (.cells #[.int .i64 b, .int .i64 c, .int .i64 d, .int .i64 m0, .int .i64 m1, .int .i64 m2, .int .i64 p] 24))).trans rfl
    have L4_3 : (w1.alloc (.cells #[.int .i64 b, .int .i64 c, .int .i64 d, .int .i64 m0, .int .i64 m1, .int .i64 m2, .int .i64 p] 24)).cell? ⟨w1.heap.size, 3, none⟩ = some (.int .i64 m0) := (cellsB (i := 3) (heap_alloc_new w1 (.cells #[.int .i64 b, .int .i64 c, .int .i64 d, .int .i64 m0, .int .i64 m1, .int .i64 m2, .int .i64 p] 24))).trans rfl
    have L4_4 : (w1.alloc (.cells #[.int .i64 b, .int .i64 c, .int .i64 d, .int .i64 m0, .int .i64 m1, .int .i64 m2, .int .i64 p] 24)).cell? ⟨w1.heap.size, 4, none⟩ = some (.int .i64 m1) := (cellsB (i := 4) (heap_alloc_new w1 (.cells #[.int .i64 b, .int .i64 c, .int .i64 d, .int .i64 m0, .int .i64 m1, .int .i64 m2, .int .i64 p] 24))).trans rfl
    have L4_5 : (w1.alloc (.cells #[.int .i64 b, .int .i64 c, .int .i64 d, .int .i64 m0, .int .i64 m1, .int .i64 m2, .int .i64 p] 24)).cell? ⟨w1.heap.size, 5, none⟩ = some (.int .i64 m2) := (cellsB (i := 5) (heap_alloc_new w1 (.cells #[.int .i64 b, .int .i64 c, .int .i64 d, .int .i64 m0, .int .i64 m1, .int .i64 m2, .int .i64 p] 24))).trans rfl
    have L4_6 : (w1.alloc (.cells #[.int .i64 b, .int .i64 c, .int .i64 d, .int .i64 m0, .int .i64 m1, .int .i64 m2, .int .i64 p] 24)).cell? ⟨w1.heap.size, 6, none⟩ = some (.int .i64 p) := (cellsB (i := 6) (heap_alloc_new w1 (.cells #[.int .i64 b, .int .i64 c, .int .i64 d, .int .i64 m0, .int .i64 m1, .int .i64 m2, .int .i64 p] 24))).trans rfl
    go_wp2_with (first | (refine wpl_row (by rfl) 24 _ rfl _ rfl _ _ _ _ (heap_alloc_new w1 (.cells #[.int .i64 b, .int .i64 c, .int .i64 d, .int .i64 m0, .int .i64 m1, .int .i64 m2, .int .i64 p] 24)) rfl Try.underlying24 (by kernel_rfl) ?_) | (refine wpl_row (by rfl) 68 _ rfl _ rfl _ _ _ _ (alc (o := (.cells #[.int .i64 b, .int .i64 c, .int .i64 d, .int .i64 m0, .int .i64 m1, .int .i64 m2, .int .i64 p] 24)) q_1.out) rfl Try.underlying68 (by kernel_rfl) ?_))
    refine (HU.out _).mono ?_
    rintro e w2 ⟨rfl, q⟩
    have s_2 := Lib.hid (blk1 s_1.out q)
    have q_2 := Lib.hid (blk1 q_1.out q)
    have t_2 := Lib.hid (new1 q)
    have B2 := Lib.hid (bel1 B1.out B1.out.size q)
    clear q s_1 q_1 B1
    clear L1_0 L1_1 L1_2 L1_3 L1_4 L1_5 L1_6 L2_7 L3_18 L3_19 L4_0 L4_1 L4_2 L4_3 L4_4 L4_5 L4_6
    have L5_15 : w2.cell? ⟨(w.heap.size + 1), 15, none⟩ = some (.int .i64 es3) := (cellsB (i := 15) q_2.out).trans rfl
    go_wp2
    go_ret
    clear L5_15
    exact ⟨ret_bool (decide_eq_false (show ¬ RightP _ _ from fun h => by have g := h.2; simp only at g; rw [if_neg (by omega), if_neg (by omega), if_pos trivial] at g; exact g.2.elim (fun z => H5.out z.1) (fun z => H4.out z.1))).symm, B2.out⟩
  have b4 : (ph == 4) = false := beq_eq_false_iff_ne.2 p4
  have b5 : (ph == 5) = false := beq_eq_false_iff_ne.2 p5
  have b2 : (ph == 2) = false := beq_eq_false_iff_ne.2 p2
  have HM := Lib.hid (fun W => rmay14_is ⟨⟨b, c, d, m0, m1, m2, p⟩, ph, st, re, si⟩ true hm W)
  unfold S11.val at HM
  simp only at HM
  cases hu : decide (UnT ⟨b, c, d, m0, m1, m2, p⟩ ⟨⟨es0, eu0, et0, ec0, ea0⟩, ⟨es1, eu1, et1, ec1, ea1⟩, ⟨es2, eu2, et2, ec2, ea2⟩, ⟨es3, eu3, et3, ec3, ea3⟩⟩)
  · skip
    obtain ⟨f1, f2, f3⟩ := two_boxes w (.cells #[.int .i64 b, .int .i64 c, .int .i64 d, .int .i64 m0, .int .i64 m1, .int .i64 m2, .int .i64 p, .int .i64 ph, .int .i64 st, .int .i64 re, .int .i64 si] 26) (.cells #[.int .i64 es0, .int .i64 eu0, .int .i64 et0, .int .i64 ec0, .int .i64 ea0, .int .i64 es1, .int .i64 eu1, .int .i64 et1, .int .i64 ec1, .int .i64 ea1, .int .i64 es2, .int .i64 eu2, .int .i64 et2, .int .i64 ec2, .int .i64 ea2, .int .i64 es3, .int .i64 eu3, .int .i64 et3, .int .i64 ec3, .int .i64 ea3] 68)
    have s_0 := Lib.hid f1
    have q_0 := Lib.hid f2
    have B0 := Lib.hid f3
    clear f1 f2 f3
    go_enter Try.func49, Try.ntmps49
    have HU := Lib.hid (fun W => unt_is hu W)
    unfold W7.val Q4.val at HU
    simp only at HU
    go_wp2_with (first | (refine wpl_row (by rfl) 26 _ rfl _ rfl _ _ _ _ s_0.out rfl Try.underlying26 (by kernel_rfl) ?_))
    refine (HM.out _).mono ?_
    rintro e w1 ⟨rfl, q⟩
    have s_1 := Lib.hid (blk0 s_0.out q)
    have q_1 := Lib.hid (blk0 q_0.out q)
    have B1 := Lib.hid (bel0 B0.out B0.out.size q)
    clear q s_0 q_0 B0
    have L1_0 : w1.cell? ⟨w.heap.size, 0, none⟩ = some (.int .i64 b) := (cellsB (i := 0) s_1.out).trans rfl
    have L1_1 : w1.cell? ⟨w.heap.size, 1, none⟩ = some (.int .i64 c) := (cellsB (i := 1) s_1.out).trans rfl
    have L1_2 : w1.cell? ⟨w.heap.size, 2, none⟩ = some (.int .i64 d) := (cellsB (i := 2) s_1.out).trans rfl
    have L1_3 : w1.cell? ⟨w.heap.size, 3, none⟩ = some (.int .i64 m0) := (cellsB (i := 3) s_1.out).trans rfl
    have L1_4 : w1.cell? ⟨w.heap.size, 4, none⟩ = some (.int .i64 m1) := (cellsB (i := 4) s_1.out).trans rfl
    have L1_5 : w1.cell? ⟨w.heap.size, 5, none⟩ = some (.int .i64 m2) := (cellsB (i := 5) s_1.out).trans rfl
    have L1_6 : w1.cell? ⟨w.heap.size, 6, none⟩ = some (.int .i64 p) := (cellsB (i := 6) s_1.out).trans rfl
    have L2_7 : (w1.alloc (.cells #[.int .i64 b, .int .i64 c, .int .i64 d, .int .i64 m0, .int .i64 m1, .int .i64 m2, .int .i64 p] 24)).cell? ⟨w.heap.size, 7, none⟩ = some (.int .i64 ph) := (cellsB (i := 7) (alc (o := (.cells #[.int .i64 b, .int .i64 c, .int .i64 d, .int .i64 m0, .int .i64 m1, .int .i64 m2, .int .i64 p] 24)) s_1.out)).trans rfl
    have L3_18 : (w1.alloc (.cells #[.int .i64 b, .int .i64 c, .int .i64 d, .int .i64 m0, .int .i64 m1, .int .i64 m2, .int .i64 p] 24)).cell? ⟨(w.heap.size + 1), 18, none⟩ = some (.int .i64 ec3) := (cellsB (i := 18) (alc (o := (.cells #[.int .i64 b, .int .i64 c, .int .i64 d, .int .i64 m0, .int .i64 m1, .int .i64 m2, .int .i64 p] 24)) q_1.out)).trans rfl
    have L3_19 : (w1.alloc (.cells #[.int .i64 b, .int .i64 c, .int .i64 d, .int .i64 m0, .int .i64 m1, .int .i64 m2, .int .i64 p] 24)).cell? ⟨(w.heap.size + 1), 19, none⟩ = some (.int .i64 ea3) := (cellsB (i := 19) (alc (o := (.cells #[.int .i64 b, .int .i64 c, .int .i64 d, .int .i64 m0, .int .i64 m1, .int .i64 m2, .int .i64 p] 24)) q_1.out)).trans rfl
    have L4_0 : (w1.alloc (.cells #[.int .i64 b, .int .i64 c, .int .i64 d, .int .i64 m0, .int .i64 m1, .int .i64 m2, .int .i64 p] 24)).cell? ⟨w1.heap.size, 0, none⟩ = some (.int .i64 b) := (cellsB (i := 0) (heap_alloc_new w1 (.cells #[.int .i64 b, .int .i64 c, .int .i64 d, .int .i64 m0, .int .i64 m1, .int .i64 m2, .int .i64 p] 24))).trans rfl
    have L4_1 : (w1.alloc (.cells #[.int .i64 b, .int .i64 c, .int .i64 d, .int .i64 m0, .int .i64 m1, .int .i64 m2, .int .i64 p] 24)).cell? ⟨w1.heap.size, 1, none⟩ = some (.int .i64 c) := (cellsB (i := 1) (heap_alloc_new w1 (.cells #[.int .i64 b, .int .i64 c, .int .i64 d, .int .i64 m0, .int .i64 m1, .int .i64 m2, .int .i64 p] 24))).trans rfl
    have L4_2 : (w1.alloc (.cells #[.int .i64 b, .int .i64 c, .int .i64 d, .int .i64 m0, .int .i64 m1, .int .i64 m2, .int .i64 p] 24)).cell? ⟨w1.heap.size, 2, none⟩ = some (.int .i64 d) := (cellsB (i := 2) (heap_alloc_new w1 (.cells #[.int .i64 b, .int .i64 c, .int .i64 d, .int .i64 m0, .int .i64 m1, .int .i64 m2, .int .i64 p] 24))).trans rfl
    have L4_3 : (w1.alloc (.cells #[.int .i64 b, .int .i64 c, .int .i64 d, .int .i64 m0, .int .i64 m1, .int .i64 m2, .int .i64 p] 24)).cell? ⟨w1.heap.size, 3, none⟩ = some (.int .i64 m0) := (cellsB (i := 3) (heap_alloc_new w1 (.cells #[.int .i64 b, .int .i64 c, .int .i64 d, .int .i64 m0, .int .i64 m1, .int .i64 m2, .int .i64 p] 24))).trans rfl
    have L4_4 : (w1.alloc (.cells #[.int .i64 b, .int .i64 c, .int .i64 d, .int .i64 m0, .int .i64 m1, .int .i64 m2, .int .i64 p] 24)).cell? ⟨w1.heap.size, 4, none⟩ = some (.int .i64 m1) := (cellsB (i := 4) (heap_alloc_new w1 (.cells #[.int .i64 b, .int .i64 c, .int .i64 d, .int .i64 m0, .int .i64 m1, .int .i64 m2, .int .i64 p] 24))).trans rfl
    have L4_5 : (w1.alloc (.cells #[.int .i64 b, .int .i64 c, .int .i64 d, .int .i64 m0, .int .i64 m1, .int .i64 m2, .int .i64 p] 24)).cell? ⟨w1.heap.size, 5, none⟩ = some (.int .i64 m2) := (cellsB (i := 5) (heap_alloc_new w1 (.cells #[.int .i64 b, .int .i64 c, .int .i64 d, .int .i64 m0, .int .i64 m1, .int .i64 m2, .int .i64 p] 24))).trans rfl
    have L4_6 : (w1.alloc (.cells #[.int .i64 b, .int .i64 c, .int .i64 d, .int .i64 m0, .int .i64 m1, .int .i64 m2, .int .i64 p] 24)).cell? ⟨w1.heap.size, 6, none⟩ = some (.int .i64 p) := (cellsB (i := 6) (heap_alloc_new w1 (.cells #[.int .i64 b, .int .i64 c, .int .i64 d, .int .i64 m0, .int .i64 m1, .int .i64 m2, .int .i64 p] 24))).trans rfl
    go_wp2_with (first | (refine wpl_row (by rfl) 24 _ rfl _ rfl _ _ _ _ (heap_alloc_new w1 (.cells #[.int .i64 b, .int .i64 c, .int .i64 d, .int .i64 m0, .int .i64 m1, .int .i64 m2, .int .i64 p] 24)) rfl Try.underlying24 (by kernel_rfl) ?_) | (refine wpl_row (by rfl) 68 _ rfl _ rfl _ _ _ _ (alc (o := (.cells #[.int .i64 b, .int .i64 c, .int .i64 d, .int .i64 m0, .int .i64 m1, .int .i64 m2, .int .i64 p] 24)) q_1.out) rfl Try.underlying68 (by kernel_rfl) ?_))
    refine (HU.out _).mono ?_
    rintro e w2 ⟨rfl, q⟩
    have s_2 := Lib.hid (blk1 s_1.out q)
    have q_2 := Lib.hid (blk1 q_1.out q)
    have t_2 := Lib.hid (new1 q)
    have B2 := Lib.hid (bel1 B1.out B1.out.size q)
    clear q s_1 q_1 B1
    clear L1_0 L1_1 L1_2 L1_3 L1_4 L1_5 L1_6 L2_7 L3_18 L3_19 L4_0 L4_1 L4_2 L4_3 L4_4 L4_5 L4_6
    have L5_15 : w2.cell? ⟨(w.heap.size + 1), 15, none⟩ = some (.int .i64 es3) := (cellsB (i := 15) q_2.out).trans rfl
    go_wp2
    go_ret
    clear L5_15
    exact ⟨ret_bool (decide_eq_false (show ¬ RightP _ _ from fun h => by have g := h.2; simp only at g; rw [if_neg p4, if_neg p5, if_neg p2] at g; exact of_decide_eq_false hu ⟨g.1, g.2.1, g.2.2.1⟩)).symm, B2.out⟩
  by_cases h4 : es3 = 4
  · skip
    have z5 : (es3 == 5) = false := by simp [h4]
    have z5n : (es3 != 5) = true := by simp [h4]
    have b4 : (es3 == 4) = true := by simp [h4]
    have b4n : (es3 != 4) = false := by simp [h4]
    have H4 := Lib.hid h4
    clear h4
    obtain ⟨f1, f2, f3⟩ := two_boxes w (.cells #[.int .i64 b, .int .i64 c, .int .i64 d, .int .i64 m0, .int .i64 m1, .int .i64 m2, .int .i64 p, .int .i64 ph, .int .i64 st, .int .i64 re, .int .i64 si] 26) (.cells #[.int .i64 es0, .int .i64 eu0, .int .i64 et0, .int .i64 ec0, .int .i64 ea0, .int .i64 es1, .int .i64 eu1, .int .i64 et1, .int .i64 ec1, .int .i64 ea1, .int .i64 es2, .int .i64 eu2, .int .i64 et2, .int .i64 ec2, .int .i64 ea2, .int .i64 es3, .int .i64 eu3, .int .i64 et3, .int .i64 ec3, .int .i64 ea3] 68)
    have s_0 := Lib.hid f1
    have q_0 := Lib.hid f2
    have B0 := Lib.hid f3
    clear f1 f2 f3
    go_enter Try.func49, Try.ntmps49
    have HU := Lib.hid (fun W => unt_is hu W)
    unfold W7.val Q4.val at HU
    simp only at HU
    go_wp2_with (first | (refine wpl_row (by rfl) 26 _ rfl _ rfl _ _ _ _ s_0.out rfl Try.underlying26 (by kernel_rfl) ?_))
    refine (HM.out _).mono ?_
    rintro e w1 ⟨rfl, q⟩
    have s_1 := Lib.hid (blk0 s_0.out q)
    have q_1 := Lib.hid (blk0 q_0.out q)
    have B1 := Lib.hid (bel0 B0.out B0.out.size q)
    clear q s_0 q_0 B0
    have L1_0 : w1.cell? ⟨w.heap.size, 0, none⟩ = some (.int .i64 b) := (cellsB (i := 0) s_1.out).trans rfl
    have L1_1 : w1.cell? ⟨w.heap.size, 1, none⟩ = some (.int .i64 c) := (cellsB (i := 1) s_1.out).trans rfl
    have L1_2 : w1.cell? ⟨w.heap.size, 2, none⟩ = some (.int .i64 d) := (cellsB (i := 2) s_1.out).trans rfl
    have L1_3 : w1.cell? ⟨w.heap.size, 3, none⟩ = some (.int .i64 m0) := (cellsB (i := 3) s_1.out).trans rfl
    have L1_4 : w1.cell? ⟨w.heap.size, 4, none⟩ = some (.int .i64 m1) := (cellsB (i := 4) s_1.out).trans rfl
    have L1_5 : w1.cell? ⟨w.heap.size, 5, none⟩ = some (.int .i64 m2) := (cellsB (i := 5) s_1.out).trans rfl
    have L1_6 : w1.cell? ⟨w.heap.size, 6, none⟩ = some (.int .i64 p) := (cellsB (i := 6) s_1.out).trans rfl
    have L2_7 : (w1.alloc (.cells #[.int .i64 b, .int .i64 c, .int .i64 d, .int .i64 m0, .int .i64 m1, .int .i64 m2, .int .i64 p] 24)).cell? ⟨w.heap.size, 7, none⟩ = some (.int .i64 ph) := (cellsB (i := 7) (alc (o := (.cells #[.int .i64 b, .int .i64 c, .int .i64 d, .int .i64 m0, .int .i64 m1, .int .i64 m2, .int .i64 p] 24)) s_1.out)).trans rfl
    have L3_18 : (w1.alloc (.cells #[.int .i64 b, .int .i64 c, .int .i64 d, .int .i64 m0, .int .i64 m1, .int .i64 m2, .int .i64 p] 24)).cell? ⟨(w.heap.size + 1), 18, none⟩ = some (.int .i64 ec3) := (cellsB (i := 18) (alc (o := (.cells #[.int .i64 b, .int .i64 c, .int .i64 d, .int .i64 m0, .int .i64 m1, .int .i64 m2, .int .i64 p] 24)) q_1.out)).trans rfl
    have L3_19 : (w1.alloc (.cells #[.int .i64 b, .int .i64 c, .int .i64 d, .int .i64 m0, .int .i64 m1, .int .i64 m2, .int .i64 p] 24)).cell? ⟨(w.heap.size + 1), 19, none⟩ = some (.int .i64 ea3) := (cellsB (i := 19) (alc (o := (.cells #[.int .i64 b, .int .i64 c, .int .i64 d, .int .i64 m0, .int .i64 m1, .int .i64 m2, .int .i64 p] 24)) q_1.out)).trans rfl
    have L4_0 : (w1.alloc (.cells #[.int .i64 b, .int .i64 c, .int .i64 d, .int .i64 m0, .int .i64 m1, .int .i64 m2, .int .i64 p] 24)).cell? ⟨w1.heap.size, 0, none⟩ = some (.int .i64 b) := (cellsB (i := 0) (heap_alloc_new w1 (.cells #[.int .i64 b, .int .i64 c, .int .i64 d, .int .i64 m0, .int .i64 m1, .int .i64 m2, .int .i64 p] 24))).trans rfl
    have L4_1 : (w1.alloc (.cells #[.int .i64 b, .int .i64 c, .int .i64 d, .int .i64 m0, .int .i64 m1, .int .i64 m2, .int .i64 p] 24)).cell? ⟨w1.heap.size, 1, none⟩ = some (.int .i64 c) := (cellsB (i := 1) (heap_alloc_new w1 (.cells #[.int .i64 b, .int .i64 c, .int .i64 d, .int .i64 m0, .int .i64 m1, .int .i64 m2, .int .i64 p] 24))).trans rfl
    have L4_2 : (w1.alloc (.cells #[.int .i64 b, .int .i64 c, .int .i64 d, .int .i64 m0, .int .i64 m1, .int .i64 m2, .int .i64 p] 24)).cell? ⟨w1.heap.size, 2, none⟩ = some (.int .i64 d) := (cellsB (i := 2) (heap_alloc_new w1 (.cells #[.int .i64 b, .int .i64 c, .int .i64 d, .int .i64 m0, .int .i64 m1, .int .i64 m2, .int .i64 p] 24))).trans rfl
    have L4_3 : (w1.alloc (.cells #[.int .i64 b, .int .i64 c, .int .i64 d, .int .i64 m0, .int .i64 m1, .int .i64 m2, .int .i64 p] 24)).cell? ⟨w1.heap.size, 3, none⟩ = some (.int .i64 m0) := (cellsB (i := 3) (heap_alloc_new w1 (.cells #[.int .i64 b, .int .i64 c, .int .i64 d, .int .i64 m0, .int .i64 m1, .int .i64 m2, .int .i64 p] 24))).trans rfl
    have L4_4 : (w1.alloc (.cells #[.int .i64 b, .int .i64 c, .int .i64 d, .int .i64 m0, .int .i64 m1, .int .i64 m2, .int .i64 p] 24)).cell? ⟨w1.heap.size, 4, none⟩ = some (.int .i64 m1) := (cellsB (i := 4) (heap_alloc_new w1 (.cells #[.int .i64 b, .int .i64 c, .int .i64 d, .int .i64 m0, .int .i64 m1, .int .i64 m2, .int .i64 p] 24))).trans rfl
    have L4_5 : (w1.alloc (.cells #[.int .i64 b, .int .i64 c, .int .i64 d, .int .i64 m0, .int .i64 m1, .int .i64 m2, .int .i64 p] 24)).cell? ⟨w1.heap.size, 5, none⟩ = some (.int .i64 m2) := (cellsB (i := 5) (heap_alloc_new w1 (.cells #[.int .i64 b, .int .i64 c, .int .i64 d, .int .i64 m0, .int .i64 m1, .int .i64 m2, .int .i64 p] 24))).trans rfl
    have L4_6 : (w1.alloc (.cells #[.int .i64 b, .int .i64 c, .int .i64 d, .int .i64 m0, .int .i64 m1, .int .i64 m2, .int .i64 p] 24)).cell? ⟨w1.heap.size, 6, none⟩ = some (.int .i64 p) := (cellsB (i := 6) (heap_alloc_new w1 (.cells #[.int .i64 b, .int .i64 c, .int .i64 d, .int .i64 m0, .int .i64 m1, .int .i64 m2, .int .i64 p] 24))).trans rfl
    go_wp2_with (first | (refine wpl_row (by rfl) 24 _ rfl _ rfl _ _ _ _ (heap_alloc_new w1 (.cells #[.int .i64 b, .int .i64 c, .int .i64 d, .int .i64 m0, .int .i64 m1, .int .i64 m2, .int .i64 p] 24)) rfl Try.underlying24 (by kernel_rfl) ?_) | (refine wpl_row (by rfl) 68 _ rfl _ rfl _ _ _ _ (alc (o := (.cells #[.int .i64 b, .int .i64 c, .int .i64 d, .int .i64 m0, .int .i64 m1, .int .i64 m2, .int .i64 p] 24)) q_1.out) rfl Try.underlying68 (by kernel_rfl) ?_))
    refine (HU.out _).mono ?_
    rintro e w2 ⟨rfl, q⟩
    have s_2 := Lib.hid (blk1 s_1.out q)
    have q_2 := Lib.hid (blk1 q_1.out q)
    have t_2 := Lib.hid (new1 q)
    have B2 := Lib.hid (bel1 B1.out B1.out.size q)
    clear q s_1 q_1 B1
    clear L1_0 L1_1 L1_2 L1_3 L1_4 L1_5 L1_6 L2_7 L3_18 L3_19 L4_0 L4_1 L4_2 L4_3 L4_4 L4_5 L4_6
    have L5_15 : w2.cell? ⟨(w.heap.size + 1), 15, none⟩ = some (.int .i64 es3) := (cellsB (i := 15) q_2.out).trans rfl
    go_wp2
    go_ret
    clear L5_15
    exact ⟨ret_bool (decide_eq_true (show RightP _ _ from ⟨of_decide_eq_true hm, by simp only; rw [if_neg p4, if_neg p5, if_neg p2]; exact ⟨(of_decide_eq_true hu).1, (of_decide_eq_true hu).2.1, (of_decide_eq_true hu).2.2, (by have := H4.out; simp only; omega), fun _ => ⟨H4.out, HA.out, HC.out⟩⟩⟩)).symm, B2.out⟩
  have b4 : (es3 == 4) = false := beq_eq_false_iff_ne.2 h4
  have b4n : (es3 != 4) = true := by simp [h4]
  have H4 := Lib.hid h4
  clear h4
  by_cases h5 : es3 = 5
  · skip
    have b5 : (es3 == 5) = true := by simp [h5]
    have b5n : (es3 != 5) = false := by simp [h5]
    have H5 := Lib.hid h5
    clear h5
    obtain ⟨f1, f2, f3⟩ := two_boxes w (.cells #[.int .i64 b, .int .i64 c, .int .i64 d, .int .i64 m0, .int .i64 m1, .int .i64 m2, .int .i64 p, .int .i64 ph, .int .i64 st, .int .i64 re, .int .i64 si] 26) (.cells #[.int .i64 es0, .int .i64 eu0, .int .i64 et0, .int .i64 ec0, .int .i64 ea0, .int .i64 es1, .int .i64 eu1, .int .i64 et1, .int .i64 ec1, .int .i64 ea1, .int .i64 es2, .int .i64 eu2, .int .i64 et2, .int .i64 ec2, .int .i64 ea2, .int .i64 es3, .int .i64 eu3, .int .i64 et3, .int .i64 ec3, .int .i64 ea3] 68)
    have s_0 := Lib.hid f1
    have q_0 := Lib.hid f2
    have B0 := Lib.hid f3
    clear f1 f2 f3
    go_enter Try.func49, Try.ntmps49
    have HU := Lib.hid (fun W => unt_is hu W)
    unfold W7.val Q4.val at HU
    simp only at HU
    go_wp2_with (first | (refine wpl_row (by rfl) 26 _ rfl _ rfl _ _ _ _ s_0.out rfl Try.underlying26 (by kernel_rfl) ?_))
    refine (HM.out _).mono ?_
    rintro e w1 ⟨rfl, q⟩
    have s_1 := Lib.hid (blk0 s_0.out q)
    have q_1 := Lib.hid (blk0 q_0.out q)
    have B1 := Lib.hid (bel0 B0.out B0.out.size q)
    clear q s_0 q_0 B0
    have L1_0 : w1.cell? ⟨w.heap.size, 0, none⟩ = some (.int .i64 b) := (cellsB (i := 0) s_1.out).trans rfl
    have L1_1 : w1.cell? ⟨w.heap.size, 1, none⟩ = some (.int .i64 c) := (cellsB (i := 1) s_1.out).trans rfl
    have L1_2 : w1.cell? ⟨w.heap.size, 2, none⟩ = some (.int .i64 d) := (cellsB (i := 2) s_1.out).trans rfl
    have L1_3 : w1.cell? ⟨w.heap.size, 3, none⟩ = some (.int .i64 m0) := (cellsB (i := 3) s_1.out).trans rfl
    have L1_4 : w1.cell? ⟨w.heap.size, 4, none⟩ = some (.int .i64 m1) := (cellsB (i := 4) s_1.out).trans rfl
    have L1_5 : w1.cell? ⟨w.heap.size, 5, none⟩ = some (.int .i64 m2) := (cellsB (i := 5) s_1.out).trans rfl
    have L1_6 : w1.cell? ⟨w.heap.size, 6, none⟩ = some (.int .i64 p) := (cellsB (i := 6) s_1.out).trans rfl
    have L2_7 : (w1.alloc (.cells #[.int .i64 b, .int .i64 c, .int .i64 d, .int .i64 m0, .int .i64 m1, .int .i64 m2, .int .i64 p] 24)).cell? ⟨w.heap.size, 7, none⟩ = some (.int .i64 ph) := (cellsB (i := 7) (alc (o := (.cells #[.int .i64 b, .int .i64 c, .int .i64 d, .int .i64 m0, .int .i64 m1, .int .i64 m2, .int .i64 p] 24)) s_1.out)).trans rfl
    have L3_18 : (w1.alloc (.cells #[.int .i64 b, .int .i64 c, .int .i64 d, .int .i64 m0, .int .i64 m1, .int .i64 m2, .int .i64 p] 24)).cell? ⟨(w.heap.size + 1), 18, none⟩ = some (.int .i64 ec3) := (cellsB (i := 18) (alc (o := (.cells #[.int .i64 b, .int .i64 c, .int .i64 d, .int .i64 m0, .int .i64 m1, .int .i64 m2, .int .i64 p] 24)) q_1.out)).trans rfl
    have L3_19 : (w1.alloc (.cells #[.int .i64 b, .int .i64 c, .int .i64 d, .int .i64 m0, .int .i64 m1, .int .i64 m2, .int .i64 p] 24)).cell? ⟨(w.heap.size + 1), 19, none⟩ = some (.int .i64 ea3) := (cellsB (i := 19) (alc (o := (.cells #[.int .i64 b, .int .i64 c, .int .i64 d, .int .i64 m0, .int .i64 m1, .int .i64 m2, .int .i64 p] 24)) q_1.out)).trans rfl
    have L4_0 : (w1.alloc (.cells #[.int .i64 b, .int .i64 c, .int .i64 d, .int .i64 m0, .int .i64 m1, .int .i64 m2, .int .i64 p] 24)).cell? ⟨w1.heap.size, 0, none⟩ = some (.int .i64 b) := (cellsB (i := 0) (heap_alloc_new w1 (.cells #[.int .i64 b, .int .i64 c, .int .i64 d, .int .i64 m0, .int .i64 m1, .int .i64 m2, .int .i64 p] 24))).trans rfl
    have L4_1 : (w1.alloc (.cells #[.int .i64 b, .int .i64 c, .int .i64 d, .int .i64 m0, .int .i64 m1, .int .i64 m2, .int .i64 p] 24)).cell? ⟨w1.heap.size, 1, none⟩ = some (.int .i64 c) := (cellsB (i := 1) (heap_alloc_new w1 (.cells #[.int .i64 b, .int .i64 c, .int .i64 d, .int .i64 m0, .int .i64 m1, .int .i64 m2, .int .i64 p] 24))).trans rfl
    have L4_2 : (w1.alloc (.cells #[.int .i64 b, .int .i64 c, .int .i64 d, .int .i64 m0, .int .i64 m1, .int .i64 m2, .int .i64 p] 24)).cell? ⟨w1.heap.size, 2, none⟩ = some (.int .i64 d) := (cellsB (i := 2) (heap_alloc_new w1 (.cells #[.int .i64 b, .int .i64 c, .int .i64 d, .int .i64 m0, .int .i64 m1, .int .i64 m2, .int .i64 p] 24))).trans rfl
    have L4_3 : (w1.alloc (.cells #[.int .i64 b, .int .i64 c, .int .i64 d, .int .i64 m0, .int .i64 m1, .int .i64 m2, .int .i64 p] 24)).cell? ⟨w1.heap.size, 3, none⟩ = some (.int .i64 m0) := (cellsB (i := 3) (heap_alloc_new w1 (.cells #[.int .i64 b, .int .i64 c, .int .i64 d, .int .i64 m0, .int .i64 m1, .int .i64 m2, .int .i64 p] 24))).trans rfl
    have L4_4 : (w1.alloc (.cells #[.int .i64 b, .int .i64 c, .int .i64 d, .int .i64 m0, .int .i64 m1, .int .i64 m2, .int .i64 p] 24)).cell? ⟨w1.heap.size, 4, none⟩ = some (.int .i64 m1) := (cellsB (i := 4) (heap_alloc_new w1 (.cells #[.int .i64 b, .int .i64 c, .int .i64 d, .int .i64 m0, .int .i64 m1, .int .i64 m2, .int .i64 p] 24))).trans rfl
    have L4_5 : (w1.alloc (.cells #[.int .i64 b, .int .i64 c, .int .i64 d, .int .i64 m0, .int .i64 m1, .int .i64 m2, .int .i64 p] 24)).cell? ⟨w1.heap.size, 5, none⟩ = some (.int .i64 m2) := (cellsB (i := 5) (heap_alloc_new w1 (.cells #[.int .i64 b, .int .i64 c, .int .i64 d, .int .i64 m0, .int .i64 m1, .int .i64 m2, .int .i64 p] 24))).trans rfl
    have L4_6 : (w1.alloc (.cells #[.int .i64 b, .int .i64 c, .int .i64 d, .int .i64 m0, .int .i64 m1, .int .i64 m2, .int .i64 p] 24)).cell? ⟨w1.heap.size, 6, none⟩ = some (.int .i64 p) := (cellsB (i := 6) (heap_alloc_new w1 (.cells #[.int .i64 b, .int .i64 c, .int .i64 d, .int .i64 m0, .int .i64 m1, .int .i64 m2, .int .i64 p] 24))).trans rfl
    go_wp2_with (first | (refine wpl_row (by rfl) 24 _ rfl _ rfl _ _ _ _ (heap_alloc_new w1 (.cells #[.int .i64 b, .int .i64 c, .int .i64 d, .int .i64 m0, .int .i64 m1, .int .i64 m2, .int .i64 p] 24)) rfl Try.underlying24 (by kernel_rfl) ?_) | (refine wpl_row (by rfl) 68 _ rfl _ rfl _ _ _ _ (alc (o := (.cells #[.int .i64 b, .int .i64 c, .int .i64 d, .int .i64 m0, .int .i64 m1, .int .i64 m2, .int .i64 p] 24)) q_1.out) rfl Try.underlying68 (by kernel_rfl) ?_))
    refine (HU.out _).mono ?_
    rintro e w2 ⟨rfl, q⟩
    have s_2 := Lib.hid (blk1 s_1.out q)
    have q_2 := Lib.hid (blk1 q_1.out q)
    have t_2 := Lib.hid (new1 q)
    have B2 := Lib.hid (bel1 B1.out B1.out.size q)
    clear q s_1 q_1 B1
    clear L1_0 L1_1 L1_2 L1_3 L1_4 L1_5 L1_6 L2_7 L3_18 L3_19 L4_0 L4_1 L4_2 L4_3 L4_4 L4_5 L4_6
    have L5_15 : w2.cell? ⟨(w.heap.size + 1), 15, none⟩ = some (.int .i64 es3) := (cellsB (i := 15) q_2.out).trans rfl
    go_wp2
    go_ret
    clear L5_15
    exact ⟨ret_bool (decide_eq_false (show ¬ RightP _ _ from fun h => by have g := h.2; simp only at g; rw [if_neg p4, if_neg p5, if_neg p2] at g; exact g.2.2.2.1 H5.out)).symm, B2.out⟩
  have b5 : (es3 == 5) = false := beq_eq_false_iff_ne.2 h5
  have b5n : (es3 != 5) = true := by simp [h5]
  have H5 := Lib.hid h5
  clear h5
  obtain ⟨f1, f2, f3⟩ := two_boxes w (.cells #[.int .i64 b, .int .i64 c, .int .i64 d, .int .i64 m0, .int .i64 m1, .int .i64 m2, .int .i64 p, .int .i64 ph, .int .i64 st, .int .i64 re, .int .i64 si] 26) (.cells #[.int .i64 es0, .int .i64 eu0, .int .i64 et0, .int .i64 ec0, .int .i64 ea0, .int .i64 es1, .int .i64 eu1, .int .i64 et1, .int .i64 ec1, .int .i64 ea1, .int .i64 es2, .int .i64 eu2, .int .i64 et2, .int .i64 ec2, .int .i64 ea2, .int .i64 es3, .int .i64 eu3, .int .i64 et3, .int .i64 ec3, .int .i64 ea3] 68)
  have s_0 := Lib.hid f1
  have q_0 := Lib.hid f2
  have B0 := Lib.hid f3
  clear f1 f2 f3
  go_enter Try.func49, Try.ntmps49
  have HU := Lib.hid (fun W => unt_is hu W)
  unfold W7.val Q4.val at HU
  simp only at HU
  go_wp2_with (first | (refine wpl_row (by rfl) 26 _ rfl _ rfl _ _ _ _ s_0.out rfl Try.underlying26 (by kernel_rfl) ?_))
  refine (HM.out _).mono ?_
  rintro e w1 ⟨rfl, q⟩
  have s_1 := Lib.hid (blk0 s_0.out q)
  have q_1 := Lib.hid (blk0 q_0.out q)
  have B1 := Lib.hid (bel0 B0.out B0.out.size q)
  clear q s_0 q_0 B0
  have L1_0 : w1.cell? ⟨w.heap.size, 0, none⟩ = some (.int .i64 b) := (cellsB (i := 0) s_1.out).trans rfl
  have L1_1 : w1.cell? ⟨w.heap.size, 1, none⟩ = some (.int .i64 c) := (cellsB (i := 1) s_1.out).trans rfl
  have L1_2 : w1.cell? ⟨w.heap.size, 2, none⟩ = some (.int .i64 d) := (cellsB (i := 2) s_1.out).trans rfl
  have L1_3 : w1.cell? ⟨w.heap.size, 3, none⟩ = some (.int .i64 m0) := (cellsB (i := 3) s_1.out).trans rfl
  have L1_4 : w1.cell? ⟨w.heap.size, 4, none⟩ = some (.int .i64 m1) := (cellsB (i := 4) s_1.out).trans rfl
  have L1_5 : w1.cell? ⟨w.heap.size, 5, none⟩ = some (.int .i64 m2) := (cellsB (i := 5) s_1.out).trans rfl
  have L1_6 : w1.cell? ⟨w.heap.size, 6, none⟩ = some (.int .i64 p) := (cellsB (i := 6) s_1.out).trans rfl
  have L2_7 : (w1.alloc (.cells #[.int .i64 b, .int .i64 c, .int .i64 d, .int .i64 m0, .int .i64 m1, .int .i64 m2, .int .i64 p] 24)).cell? ⟨w.heap.size, 7, none⟩ = some (.int .i64 ph) := (cellsB (i := 7) (alc (o := (.cells #[.int .i64 b, .int .i64 c, .int .i64 d, .int .i64 m0, .int .i64 m1, .int .i64 m2, .int .i64 p] 24)) s_1.out)).trans rfl
  have L3_18 : (w1.alloc (.cells #[.int .i64 b, .int .i64 c, .int .i64 d, .int .i64 m0, .int .i64 m1, .int .i64 m2, .int .i64 p] 24)).cell? ⟨(w.heap.size + 1), 18, none⟩ = some (.int .i64 ec3) := (cellsB (i := 18) (alc (o := (.cells #[.int .i64 b, .int .i64 c, .int .i64 d, .int .i64 m0, .int .i64 m1, .int .i64 m2, .int .i64 p] 24)) q_1.out)).trans rfl
  have L3_19 : (w1.alloc (.cells #[.int .i64 b, .int .i64 c, .int .i64 d, .int .i64 m0, .int .i64 m1, .int .i64 m2, .int .i64 p] 24)).cell? ⟨(w.heap.size + 1), 19, none⟩ = some (.int .i64 ea3) := (cellsB (i := 19) (alc (o := (.cells #[.int .i64 b, .int .i64 c, .int .i64 d, .int .i64 m0, .int .i64 m1, .int .i64 m2, .int .i64 p] 24)) q_1.out)).trans rfl
  have L4_0 : (w1.alloc (.cells #[.int .i64 b, .int .i64 c, .int .i64 d, .int .i64 m0, .int .i64 m1, .int .i64 m2, .int .i64 p] 24)).cell? ⟨w1.heap.size, 0, none⟩ = some (.int .i64 b) := (cellsB (i := 0) (heap_alloc_new w1 (.cells #[.int .i64 b, .int .i64 c, .int .i64 d, .int .i64 m0, .int .i64 m1, .int .i64 m2, .int .i64 p] 24))).trans rfl
  have L4_1 : (w1.alloc (.cells #[.int .i64 b, .int .i64 c, .int .i64 d, .int .i64 m0, .int .i64 m1, .int .i64 m2, .int .i64 p] 24)).cell? ⟨w1.heap.size, 1, none⟩ = some (.int .i64 c) := (cellsB (i := 1) (heap_alloc_new w1 (.cells #[.int .i64 b, .int .i64 c, .int .i64 d, .int .i64 m0, .int .i64 m1, .int .i64 m2, .int .i64 p] 24))).trans rfl
  have L4_2 : (w1.alloc (.cells #[.int .i64 b, .int .i64 c, .int .i64 d, .int .i64 m0, .int .i64 m1, .int .i64 m2, .int .i64 p] 24)).cell? ⟨w1.heap.size, 2, none⟩ = some (.int .i64 d) := (cellsB (i := 2) (heap_alloc_new w1 (.cells #[.int .i64 b, .int .i64 c, .int .i64 d, .int .i64 m0, .int .i64 m1, .int .i64 m2, .int .i64 p] 24))).trans rfl
  have L4_3 : (w1.alloc (.cells #[.int .i64 b, .int .i64 c, .int .i64 d, .int .i64 m0, .int .i64 m1, .int .i64 m2, .int .i64 p] 24)).cell? ⟨w1.heap.size, 3, none⟩ = some (.int .i64 m0) := (cellsB (i := 3) (heap_alloc_new w1 (.cells #[.int .i64 b, .int .i64 c, .int .i64 d, .int .i64 m0, .int .i64 m1, .int .i64 m2, .int .i64 p] 24))).trans rfl
  have L4_4 : (w1.alloc (.cells #[.int .i64 b, .int .i64 c, .int .i64 d, .int .i64 m0, .int .i64 m1, .int .i64 m2, .int .i64 p] 24)).cell? ⟨w1.heap.size, 4, none⟩ = some (.int .i64 m1) := (cellsB (i := 4) (heap_alloc_new w1 (.cells #[.int .i64 b, .int .i64 c, .int .i64 d, .int .i64 m0, .int .i64 m1, .int .i64 m2, .int .i64 p] 24))).trans rfl
  have L4_5 : (w1.alloc (.cells #[.int .i64 b, .int .i64 c, .int .i64 d, .int .i64 m0, .int .i64 m1, .int .i64 m2, .int .i64 p] 24)).cell? ⟨w1.heap.size, 5, none⟩ = some (.int .i64 m2) := (cellsB (i := 5) (heap_alloc_new w1 (.cells #[.int .i64 b, .int .i64 c, .int .i64 d, .int .i64 m0, .int .i64 m1, .int .i64 m2, .int .i64 p] 24))).trans rfl
  have L4_6 : (w1.alloc (.cells #[.int .i64 b, .int .i64 c, .int .i64 d, .int .i64 m0, .int .i64 m1, .int .i64 m2, .int .i64 p] 24)).cell? ⟨w1.heap.size, 6, none⟩ = some (.int .i64 p) := (cellsB (i := 6) (heap_alloc_new w1 (.cells #[.int .i64 b, .int .i64 c, .int .i64 d, .int .i64 m0, .int .i64 m1, .int .i64 m2, .int .i64 p] 24))).trans rfl
  go_wp2_with (first | (refine wpl_row (by rfl) 24 _ rfl _ rfl _ _ _ _ (heap_alloc_new w1 (.cells #[.int .i64 b, .int .i64 c, .int .i64 d, .int .i64 m0, .int .i64 m1, .int .i64 m2, .int .i64 p] 24)) rfl Try.underlying24 (by kernel_rfl) ?_) | (refine wpl_row (by rfl) 68 _ rfl _ rfl _ _ _ _ (alc (o := (.cells #[.int .i64 b, .int .i64 c, .int .i64 d, .int .i64 m0, .int .i64 m1, .int .i64 m2, .int .i64 p] 24)) q_1.out) rfl Try.underlying68 (by kernel_rfl) ?_))
  refine (HU.out _).mono ?_
  rintro e w2 ⟨rfl, q⟩
  have s_2 := Lib.hid (blk1 s_1.out q)
  have q_2 := Lib.hid (blk1 q_1.out q)
  have t_2 := Lib.hid (new1 q)
  have B2 := Lib.hid (bel1 B1.out B1.out.size q)
  clear q s_1 q_1 B1
  clear L1_0 L1_1 L1_2 L1_3 L1_4 L1_5 L1_6 L2_7 L3_18 L3_19 L4_0 L4_1 L4_2 L4_3 L4_4 L4_5 L4_6
  have L5_15 : w2.cell? ⟨(w.heap.size + 1), 15, none⟩ = some (.int .i64 es3) := (cellsB (i := 15) q_2.out).trans rfl
  go_wp2
  go_ret
  clear L5_15
  exact ⟨ret_bool (decide_eq_true (show RightP _ _ from ⟨of_decide_eq_true hm, by simp only; rw [if_neg p4, if_neg p5, if_neg p2]; exact ⟨(of_decide_eq_true hu).1, (of_decide_eq_true hu).2.1, (of_decide_eq_true hu).2.2, H5.out, fun z => absurd z H4.out⟩⟩)).symm, B2.out⟩
set_option maxRecDepth 100000 in
set_option maxHeartbeats 2000000 in
theorem rright_c (s : S11) (q : Q4) (w : World) : Calls Try.prog 49 #[s.val, q.val] w fun e' w' => e' = .returned (.bool (decide (RightP s q))) ∧ Below w.heap.size w w' := by
  obtain ⟨⟨b, c, d, m0, m1, m2, p⟩, ph, st, re, si⟩ := s
  obtain ⟨⟨es0, eu0, et0, ec0, ea0⟩, ⟨es1, eu1, et1, ec1, ea1⟩, ⟨es2, eu2, et2, ec2, ea2⟩, ⟨es3, eu3, et3, ec3, ea3⟩⟩ := q
  by_cases hc : ec3 = c
  · skip
    by_cases ha : ea3 = p
    · skip
      exact rright_2 _ _ _ _ _ _ _ _ _ _ _ _ _ _ _ _ _ _ _ _ _ _ _ _ _ _ _ _ _ _ _ w hc ha
    exact rright_1 _ _ _ _ _ _ _ _ _ _ _ _ _ _ _ _ _ _ _ _ _ _ _ _ _ _ _ _ _ _ _ w hc ha
  exact rright_0 _ _ _ _ _ _ _ _ _ _ _ _ _ _ _ _ _ _ _ _ _ _ _ _ _ _ _ _ _ _ _ w hc
theorem rright_is {s : S11} {q : Q4} {b : Bool} (h : decide (RightP s q) = b) (w : World) : Calls Try.prog 49 #[s.val, q.val] w fun e' w' => e' = .returned (.bool b) ∧ Below w.heap.size w w' := h ▸ rright_c s q w
end Go.Proofs.Ytplgodfhhlnojaa
