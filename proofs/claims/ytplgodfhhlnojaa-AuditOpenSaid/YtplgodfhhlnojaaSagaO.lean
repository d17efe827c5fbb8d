/- saga.Over, saga.Tells, walked (printed by gensagaf.py). -/
import Derived.Test.YtplgodfhhlnojaaSagaF
import Derived.Outline
set_option linter.unusedSimpArgs false
set_option linter.unusedVariables false
namespace Go.Proofs.Ytplgodfhhlnojaa
open Go.RowKit
set_option maxRecDepth 100000 in
set_option maxHeartbeats 1000000 in
theorem over1 (s : S11) (w : World) : Calls Try.prog 25 #[s.val] w fun e w' => e = .returned (.bool (decide (MayS s ∧ (s.ph = 4 ∨ s.ph = 5)))) ∧ Below w.heap.size w w' := by
  obtain ⟨⟨b, c, d, m0, m1, m2, p⟩, ph, st, re, si⟩ := s
  cases hw : decide (MayS ⟨⟨b, c, d, m0, m1, m2, p⟩, ph, st, re, si⟩)
  · unfold S11.val
    simp only
    obtain ⟨f1, f3⟩ := one_box w (.cells #[.int .i64 b, .int .i64 c, .int .i64 d, .int .i64 m0, .int .i64 m1, .int .i64 m2, .int .i64 p, .int .i64 ph, .int .i64 st, .int .i64 re, .int .i64 si] 26)
    have S0 := Lib.hid f1
    have B0 := Lib.hid f3
    clear f1 f3
    have HM := Lib.hid (fun W => smay_is ⟨⟨b, c, d, m0, m1, m2, p⟩, ph, st, re, si⟩ false hw W)
    unfold S11.val at HM
    simp only at HM
    have HW := Lib.hid hw
    clear hw
    go_enter Try.func25, Try.ntmps25
    go_wp2_with fail
    refine (HM.out _).mono ?_
    rintro e w1 ⟨rfl, q⟩
    have S1 := Lib.hid (blk0 S0.out q)
    have B1 := Lib.hid (bel0 B0.out B0.out.size q)
    clear q 
    have a0 : w1.cell? ⟨w.heap.size, 0, none⟩ = some (.int .i64 b) := (cellsB (i := 0) S1.out).trans rfl
    have a1 : w1.cell? ⟨w.heap.size, 1, none⟩ = some (.int .i64 c) := (cellsB (i := 1) S1.out).trans rfl
    have a2 : w1.cell? ⟨w.heap.size, 2, none⟩ = some (.int .i64 d) := (cellsB (i := 2) S1.out).trans rfl
    have a3 : w1.cell? ⟨w.heap.size, 3, none⟩ = some (.int .i64 m0) := (cellsB (i := 3) S1.out).trans rfl
    have a4 : w1.cell? ⟨w.heap.size, 4, none⟩ = some (.int .i64 m1) := (cellsB (i := 4) S1.out).trans rfl
    have a5 : w1.cell? ⟨w.heap.size, 5, none⟩ = some (.int .i64 m2) := (cellsB (i := 5) S1.out).trans rfl
    have a6 : w1.cell? ⟨w.heap.size, 6, none⟩ = some (.int .i64 p) := (cellsB (i := 6) S1.out).trans rfl
    have a7 : w1.cell? ⟨w.heap.size, 7, none⟩ = some (.int .i64 ph) := (cellsB (i := 7) S1.out).trans rfl
    have a8 : w1.cell? ⟨w.heap.size, 8, none⟩ = some (.int .i64 st) := (cellsB (i := 8) S1.out).trans rfl
    have a9 : w1.cell? ⟨w.heap.size, 9, none⟩ = some (.int .i64 re) := (cellsB (i := 9) S1.out).trans rfl
    have a10 : w1.cell? ⟨w.heap.size, 10, none⟩ = some (.int .i64 si) := (cellsB (i := 10) S1.out).trans rfl
    go_wp2
    go_ret
    exact ⟨ret_bool (decide_eq_false (show ¬ _ from fun h => of_decide_eq_false HW.out h.1)).symm, B1.out⟩
  by_cases h4 : ph = 4
  · subst h4
    unfold S11.val
    simp only
    obtain ⟨f1, f3⟩ := one_box w (.cells #[.int .i64 b, .int .i64 c, .int .i64 d, .int .i64 m0, .int .i64 m1, .int .i64 m2, .int .i64 p, .int .i64 4, .int .i64 st, .int .i64 re, .int .i64 si] 26)
    have S0 := Lib.hid f1
    have B0 := Lib.hid f3
    clear f1 f3
    have HM := Lib.hid (fun W => smay_is ⟨⟨b, c, d, m0, m1, m2, p⟩, 4, st, re, si⟩ true hw W)
    unfold S11.val at HM
    simp only at HM
    have HW := Lib.hid hw
    clear hw
    go_enter Try.func25, Try.ntmps25
    go_wp2_with fail
    refine (HM.out _).mono ?_
    rintro e w1 ⟨rfl, q⟩
    have S1 := Lib.hid (blk0 S0.out q)
    have B1 := Lib.hid (bel0 B0.out B0.out.size q)
    clear q 
    have a0 : w1.cell? ⟨w.heap.size, 0, none⟩ = some (.int .i64 b) := (cellsB (i := 0) S1.out).trans rfl
    have a1 : w1.cell? ⟨w.heap.size, 1, none⟩ = some (.int .i64 c) := (cellsB (i := 1) S1.out).trans rfl
    have a2 : w1.cell? ⟨w.heap.size, 2, none⟩ = some (.int .i64 d) := (cellsB (i := 2) S1.out).trans rfl
    have a3 : w1.cell? ⟨w.heap.size, 3, none⟩ = some (.int .i64 m0) := (cellsB (i := 3) S1.out).trans rfl
    have a4 : w1.cell? ⟨w.heap.size, 4, none⟩ = some (.int .i64 m1) := (cellsB (i := 4) S1.out).trans rfl
    have a5 : w1.cell? ⟨w.heap.size, 5, none⟩ = some (.int .i64 m2) := (cellsB (i := 5) S1.out).trans rfl
    have a6 : w1.cell? ⟨w.heap.size, 6, none⟩ = some (.int .i64 p) := (cellsB (i := 6) S1.out).trans rfl
    have a7 : w1.cell? ⟨w.heap.size, 7, none⟩ = some (.int .i64 4) := (cellsB (i := 7) S1.out).trans rfl
    have a8 : w1.cell? ⟨w.heap.size, 8, none⟩ = some (.int .i64 st) := (cellsB (i := 8) S1.out).trans rfl
    have a9 : w1.cell? ⟨w.heap.size, 9, none⟩ = some (.int .i64 re) := (cellsB (i := 9) S1.out).trans rfl
    have a10 : w1.cell? ⟨w.heap.size, 10, none⟩ = some (.int .i64 si) := (cellsB (i := 10) S1.out).trans rfl
    go_wp2
    go_ret
    exact ⟨ret_bool (decide_eq_true ⟨of_decide_eq_true HW.out, by simp⟩).symm, B1.out⟩
  by_cases h5 : ph = 5
  · subst h5
    unfold S11.val
    simp only
    obtain ⟨f1, f3⟩ := one_box w (.cells #[.int .i64 b, .int .i64 c, .int .i64 d, .int .i64 m0, .int .i64 m1, .int .i64 m2, .int .i64 p, .int .i64 5, .int .i64 st, .int .i64 re, .int .i64 si] 26)
    have S0 := Lib.hid f1
    have B0 := Lib.hid f3
    clear f1 f3
    have HM := Lib.hid (fun W => smay_is ⟨⟨b, c, d, m0, m1, m2, p⟩, 5, st, re, si⟩ true hw W)
    unfold S11.val at HM
    simp only at HM
    have HW := Lib.hid hw
    clear hw
    go_enter Try.func25, Try.ntmps25
    go_wp2_with fail
    refine (HM.out _).mono ?_
    rintro e w1 ⟨rfl, q⟩
    have S1 := Lib.hid (blk0 S0.out q)
    have B1 := Lib.hid (bel0 B0.out B0.out.size q)
    clear q 
    have a0 : w1.cell? ⟨w.heap.size, 0, none⟩ = some (.int .i64 b) := (cellsB (i := 0) S1.out).trans rfl
    have a1 : w1.cell? ⟨w.heap.size, 1, none⟩ = some (.int .i64 c) := (cellsB (i := 1) S1.out).trans rfl
    have a2 : w1.cell? ⟨w.heap.size, 2, none⟩ = some (.int .i64 d) := (cellsB (i := 2) S1.out).trans rfl
    have a3 : w1.cell? ⟨w.heap.size, 3, none⟩ = some (.int .i64 m0) := (cellsB (i := 3) S1.out).trans rfl
    have a4 : w1.cell? ⟨w.heap.size, 4, none⟩ = some (.int .i64 m1) := (cellsB (i := 4) S1.out).trans rfl
    have a5 : w1.cell? ⟨w.heap.size, 5, none⟩ = some (.int .i64 m2) := (cellsB (i := 5) S1.out).trans rfl
    have a6 : w1.cell? ⟨w.heap.size, 6, none⟩ = some (.int .i64 p) := (cellsB (i := 6) S1.out).trans rfl
    have a7 : w1.cell? ⟨w.heap.size, 7, none⟩ = some (.int .i64 5) := (cellsB (i := 7) S1.out).trans rfl
    have a8 : w1.cell? ⟨w.heap.size, 8, none⟩ = some (.int .i64 st) := (cellsB (i := 8) S1.out).trans rfl
    have a9 : w1.cell? ⟨w.heap.size, 9, none⟩ = some (.int .i64 re) := (cellsB (i := 9) S1.out).trans rfl
    have a10 : w1.cell? ⟨w.heap.size, 10, none⟩ = some (.int .i64 si) := (cellsB (i := 10) S1.out).trans rfl
    go_wp2
    go_ret
    exact ⟨ret_bool (decide_eq_true ⟨of_decide_eq_true HW.out, by simp⟩).symm, B1.out⟩
  have b4 : (ph == 4) = false := beq_eq_false_iff_ne.2 h4
  have b5 : (ph == 5) = false := beq_eq_false_iff_ne.2 h5
  unfold S11.val
  simp only
  obtain ⟨f1, f3⟩ := one_box w (.cells #[.int .i64 b, .int .i64 c, .int .i64 d, .int .i64 m0, .int .i64 m1, .int .i64 m2, .int .i64 p, .int .i64 ph, .int .i64 st, .int .i64 re, .int .i64 si] 26)
  have S0 := Lib.hid f1
  have B0 := Lib.hid f3
  clear f1 f3
  have HM := Lib.hid (fun W => smay_is ⟨⟨b, c, d, m0, m1, m2, p⟩, ph, st, re, si⟩ true hw W)
  unfold S11.val at HM
  simp only at HM
  have HW := Lib.hid hw
  clear hw
  go_enter Try.func25, Try.ntmps25
  go_wp2_with fail
  refine (HM.out _).mono ?_
  rintro e w1 ⟨rfl, q⟩
  have S1 := Lib.hid (blk0 S0.out q)
  have B1 := Lib.hid (bel0 B0.out B0.out.size q)
  clear q 
  have a0 : w1.cell? ⟨w.heap.size, 0, none⟩ = some (.int .i64 b) := (cellsB (i := 0) S1.out).trans rfl
  have a1 : w1.cell? ⟨w.heap.size, 1, none⟩ = some (.int .i64 c) := (cellsB (i := 1) S1.out).trans rfl
  have a2 : w1.cell? ⟨w.heap.size, 2, none⟩ = some (.int .i64 d) := (cellsB (i := 2) S1.out).trans rfl
  have a3 : w1.cell? ⟨w.heap.size, 3, none⟩ = some (.int .i64 m0) := (cellsB (i := 3) S1.out).trans rfl
  have a4 : w1.cell? ⟨w.heap.size, 4, none⟩ = some (.int .i64 m1) := (cellsB (i := 4) S1.out).trans rfl
  have a5 : w1.cell? ⟨w.heap.size, 5, none⟩ = some (.int .i64 m2) := (cellsB (i := 5) S1.out).trans rfl
  have a6 : w1.cell? ⟨w.heap.size, 6, none⟩ = some (.int .i64 p) := (cellsB (i := 6) S1.out).trans rfl
  have a7 : w1.cell? ⟨w.heap.size, 7, none⟩ = some (.int .i64 ph) := (cellsB (i := 7) S1.out).trans rfl
  have a8 : w1.cell? ⟨w.heap.size, 8, none⟩ = some (.int .i64 st) := (cellsB (i := 8) S1.out).trans rfl
  have a9 : w1.cell? ⟨w.heap.size, 9, none⟩ = some (.int .i64 re) := (cellsB (i := 9) S1.out).trans rfl
  have a10 : w1.cell? ⟨w.heap.size, 10, none⟩ = some (.int .i64 si) := (cellsB (i := 10) S1.out).trans rfl
  go_wp2
  go_ret
  exact ⟨ret_bool (decide_eq_false (show ¬ _ from fun h => by have g := h.2; (try simp only at g); omega)).symm, B1.out⟩
set_option maxRecDepth 100000 in
set_option maxHeartbeats 1000000 in
theorem tells1 (s : S11) (w : World) : Calls Try.prog 23 #[s.val] w fun e w' => e = .returned (.int .i64 (tellS s)) ∧ Below w.heap.size w w' := by
  obtain ⟨⟨b, c, d, m0, m1, m2, p⟩, ph, st, re, si⟩ := s
  cases hw : decide (MayS ⟨⟨b, c, d, m0, m1, m2, p⟩, ph, st, re, si⟩)
  · unfold S11.val
    simp only
    obtain ⟨f1, f3⟩ := one_box w (.cells #[.int .i64 b, .int .i64 c, .int .i64 d, .int .i64 m0, .int .i64 m1, .int .i64 m2, .int .i64 p, .int .i64 ph, .int .i64 st, .int .i64 re, .int .i64 si] 26)
    have S0 := Lib.hid f1
    have B0 := Lib.hid f3
    clear f1 f3
    have HM := Lib.hid (fun W => smay_is ⟨⟨b, c, d, m0, m1, m2, p⟩, ph, st, re, si⟩ false hw W)
    unfold S11.val at HM
    simp only at HM
    have HW := Lib.hid hw
    clear hw
    go_enter Try.func23, Try.ntmps23
    go_wp2_with fail
    refine (HM.out _).mono ?_
    rintro e w1 ⟨rfl, q⟩
    have S1 := Lib.hid (blk0 S0.out q)
    have B1 := Lib.hid (bel0 B0.out B0.out.size q)
    clear q 
    have a0 : w1.cell? ⟨w.heap.size, 0, none⟩ = some (.int .i64 b) := (cellsB (i := 0) S1.out).trans rfl
    have a1 : w1.cell? ⟨w.heap.size, 1, none⟩ = some (.int .i64 c) := (cellsB (i := 1) S1.out).trans rfl
    have a2 : w1.cell? ⟨w.heap.size, 2, none⟩ = some (.int .i64 d) := (cellsB (i := 2) S1.out).trans rfl
    have a3 : w1.cell? ⟨w.heap.size, 3, none⟩ = some (.int .i64 m0) := (cellsB (i := 3) S1.out).trans rfl
    have a4 : w1.cell? ⟨w.heap.size, 4, none⟩ = some (.int .i64 m1) := (cellsB (i := 4) S1.out).trans rfl
    have a5 : w1.cell? ⟨w.heap.size, 5, none⟩ = some (.int .i64 m2) := (cellsB (i := 5) S1.out).trans rfl
    have a6 : w1.cell? ⟨w.heap.size, 6, none⟩ = some (.int .i64 p) := (cellsB (i := 6) S1.out).trans rfl
    have a7 : w1.cell? ⟨w.heap.size, 7, none⟩ = some (.int .i64 ph) := (cellsB (i := 7) S1.out).trans rfl
    have a8 : w1.cell? ⟨w.heap.size, 8, none⟩ = some (.int .i64 st) := (cellsB (i := 8) S1.out).trans rfl
    have a9 : w1.cell? ⟨w.heap.size, 9, none⟩ = some (.int .i64 re) := (cellsB (i := 9) S1.out).trans rfl
    have a10 : w1.cell? ⟨w.heap.size, 10, none⟩ = some (.int .i64 si) := (cellsB (i := 10) S1.out).trans rfl
    go_wp2
    go_ret
    exact ⟨ret_int (by rw [tellS, if_pos (of_decide_eq_false HW.out)]), B1.out⟩
  by_cases h4 : ph = 4
  · subst h4
    unfold S11.val
    simp only
    obtain ⟨f1, f3⟩ := one_box w (.cells #[.int .i64 b, .int .i64 c, .int .i64 d, .int .i64 m0, .int .i64 m1, .int .i64 m2, .int .i64 p, .int .i64 4, .int .i64 st, .int .i64 re, .int .i64 si] 26)
    have S0 := Lib.hid f1
    have B0 := Lib.hid f3
    clear f1 f3
    have HM := Lib.hid (fun W => smay_is ⟨⟨b, c, d, m0, m1, m2, p⟩, 4, st, re, si⟩ true hw W)
    unfold S11.val at HM
    simp only at HM
    have HW := Lib.hid hw
    clear hw
    go_enter Try.func23, Try.ntmps23
    go_wp2_with fail
    refine (HM.out _).mono ?_
    rintro e w1 ⟨rfl, q⟩
    have S1 := Lib.hid (blk0 S0.out q)
    have B1 := Lib.hid (bel0 B0.out B0.out.size q)
    clear q 
    have a0 : w1.cell? ⟨w.heap.size, 0, none⟩ = some (.int .i64 b) := (cellsB (i := 0) S1.out).trans rfl
    have a1 : w1.cell? ⟨w.heap.size, 1, none⟩ = some (.int .i64 c) := (cellsB (i := 1) S1.out).trans rfl
    have a2 : w1.cell? ⟨w.heap.size, 2, none⟩ = some (.int .i64 d) := (cellsB (i := 2) S1.out).trans rfl
    have a3 : w1.cell? ⟨w.heap.size, 3, none⟩ = some (.int .i64 m0) := (cellsB (i := 3) S1.out).trans rfl
    have a4 : w1.cell? ⟨w.heap.size, 4, none⟩ = some (.int .i64 m1) := (cellsB (i := 4) S1.out).trans rfl
    have a5 : w1.cell? ⟨w.heap.size, 5, none⟩ = some (.int .i64 m2) := (cellsB (i := 5) S1.out).trans rfl
    have a6 : w1.cell? ⟨w.heap.size, 6, none⟩ = some (.int .i64 p) := (cellsB (i := 6) S1.out).trans rfl
    have a7 : w1.cell? ⟨w.heap.size, 7, none⟩ = some (.int .i64 4) := (cellsB (i := 7) S1.out).trans rfl
    have a8 : w1.cell? ⟨w.heap.size, 8, none⟩ = some (.int .i64 st) := (cellsB (i := 8) S1.out).trans rfl
    have a9 : w1.cell? ⟨w.heap.size, 9, none⟩ = some (.int .i64 re) := (cellsB (i := 9) S1.out).trans rfl
    have a10 : w1.cell? ⟨w.heap.size, 10, none⟩ = some (.int .i64 si) := (cellsB (i := 10) S1.out).trans rfl
    go_wp2
    go_ret
    exact ⟨ret_int (by rw [tellS, if_neg (fun h => h (of_decide_eq_true HW.out)), if_pos rfl]), B1.out⟩
  by_cases h5 : ph = 5
  · subst h5
    unfold S11.val
    simp only
    obtain ⟨f1, f3⟩ := one_box w (.cells #[.int .i64 b, .int .i64 c, .int .i64 d, .int .i64 m0, .int .i64 m1, .int .i64 m2, .int .i64 p, .int .i64 5, .int .i64 st, .int .i64 re, .int .i64 si] 26)
    have S0 := Lib.hid f1
    have B0 := Lib.hid f3
    clear f1 f3
    have HM := Lib.hid (fun W => smay_is ⟨⟨b, c, d, m0, m1, m2, p⟩, 5, st, re, si⟩ true hw W)
    unfold S11.val at HM
    simp only at HM
    have HW := Lib.hid hw
    clear hw
    go_enter Try.func23, Try.ntmps23
    go_wp2_with fail
    refine (HM.out _).mono ?_
    rintro e w1 ⟨rfl, q⟩
    have S1 := Lib.hid (blk0 S0.out q)
    have B1 := Lib.hid (bel0 B0.out B0.out.size q)
    clear q 
    have a0 : w1.cell? ⟨w.heap.size, 0, none⟩ = some (.int .i64 b) := (cellsB (i := 0) S1.out).trans rfl
    have a1 : w1.cell? ⟨w.heap.size, 1, none⟩ = some (.int .i64 c) := (cellsB (i := 1) S1.out).trans rfl
    have a2 : w1.cell? ⟨w.heap.size, 2, none⟩ = some (.int .i64 d) := (cellsB (i := 2) S1.out).trans rfl
    have a3 : w1.cell? ⟨w.heap.size, 3, none⟩ = some (.int .i64 m0) := (cellsB (i := 3) S1.out).trans rfl
    have a4 : w1.cell? ⟨w.heap.size, 4, none⟩ = some (.int .i64 m1) := (cellsB (i := 4) S1.out).trans rfl
    have a5 : w1.cell? ⟨w.heap.size, 5, none⟩ = some (.int .i64 m2) := (cellsB (i := 5) S1.out).trans rfl
    have a6 : w1.cell? ⟨w.heap.size, 6, none⟩ = some (.int .i64 p) := (cellsB (i := 6) S1.out).trans rfl
    have a7 : w1.cell? ⟨w.heap.size, 7, none⟩ = some (.int .i64 5) := (cellsB (i := 7) S1.out).trans rfl
    have a8 : w1.cell? ⟨w.heap.size, 8, none⟩ = some (.int .i64 st) := (cellsB (i := 8) S1.out).trans rfl
    have a9 : w1.cell? ⟨w.heap.size, 9, none⟩ = some (.int .i64 re) := (cellsB (i := 9) S1.out).trans rfl
    have a10 : w1.cell? ⟨w.heap.size, 10, none⟩ = some (.int .i64 si) := (cellsB (i := 10) S1.out).trans rfl
    go_wp2
    go_ret
    exact ⟨ret_int (by rw [tellS, if_neg (fun h => h (of_decide_eq_true HW.out)), if_neg (by simp), if_pos rfl]), B1.out⟩
  have b4 : (ph == 4) = false := beq_eq_false_iff_ne.2 h4
  have b5 : (ph == 5) = false := beq_eq_false_iff_ne.2 h5
  unfold S11.val
  simp only
  obtain ⟨f1, f3⟩ := one_box w (.cells #[.int .i64 b, .int .i64 c, .int .i64 d, .int .i64 m0, .int .i64 m1, .int .i64 m2, .int .i64 p, .int .i64 ph, .int .i64 st, .int .i64 re, .int .i64 si] 26)
  have S0 := Lib.hid f1
  have B0 := Lib.hid f3
  clear f1 f3
  have HM := Lib.hid (fun W => smay_is ⟨⟨b, c, d, m0, m1, m2, p⟩, ph, st, re, si⟩ true hw W)
  unfold S11.val at HM
  simp only at HM
  have HW := Lib.hid hw
  clear hw
  go_enter Try.func23, Try.ntmps23
  go_wp2_with fail
  refine (HM.out _).mono ?_
  rintro e w1 ⟨rfl, q⟩
  have S1 := Lib.hid (blk0 S0.out q)
  have B1 := Lib.hid (bel0 B0.out B0.out.size q)
  clear q 
  have a0 : w1.cell? ⟨w.heap.size, 0, none⟩ = some (.int .i64 b) := (cellsB (i := 0) S1.out).trans rfl
  have a1 : w1.cell? ⟨w.heap.size, 1, none⟩ = some (.int .i64 c) := (cellsB (i := 1) S1.out).trans rfl
  have a2 : w1.cell? ⟨w.heap.size, 2, none⟩ = some (.int .i64 d) := (cellsB (i := 2) S1.out).trans rfl
  have a3 : w1.cell? ⟨w.heap.size, 3, none⟩ = some (.int .i64 m0) := (cellsB (i := 3) S1.out).trans rfl
  have a4 : w1.cell? ⟨w.heap.size, 4, none⟩ = some (.int .i64 m1) := (cellsB (i := 4) S1.out).trans rfl
  have a5 : w1.cell? ⟨w.heap.size, 5, none⟩ = some (.int .i64 m2) := (cellsB (i := 5) S1.out).trans rfl
  have a6 : w1.cell? ⟨w.heap.size, 6, none⟩ = some (.int .i64 p) := (cellsB (i := 6) S1.out).trans rfl
  have a7 : w1.cell? ⟨w.heap.size, 7, none⟩ = some (.int .i64 ph) := (cellsB (i := 7) S1.out).trans rfl
  have a8 : w1.cell? ⟨w.heap.size, 8, none⟩ = some (.int .i64 st) := (cellsB (i := 8) S1.out).trans rfl
  have a9 : w1.cell? ⟨w.heap.size, 9, none⟩ = some (.int .i64 re) := (cellsB (i := 9) S1.out).trans rfl
  have a10 : w1.cell? ⟨w.heap.size, 10, none⟩ = some (.int .i64 si) := (cellsB (i := 10) S1.out).trans rfl
  go_wp2
  go_ret
  exact ⟨ret_int (by rw [tellS, if_neg (fun h => h (of_decide_eq_true HW.out)), if_neg h4, if_neg h5]), B1.out⟩
end Go.Proofs.Ytplgodfhhlnojaa
