/- The law SagaTurned, walked (printed by genturned15.py). -/
import Derived.Test.YtplgodfhhlnojaaSagaT
import Derived.Outline
set_option linter.unusedSimpArgs false
set_option linter.unusedVariables false
namespace Go.Proofs.Ytplgodfhhlnojaa
open Go.RowKit
set_option maxRecDepth 100000 in
set_option maxHeartbeats 4000000 in
theorem sput_no (s : S11) (w : World) (h : ¬ MayS s) : Calls Try.prog 39 #[s.val] w fun e w' => e = .returned (.tuple #[.slice none 0 0, .int .i64 1]) ∧ Below w.heap.size w w' := by
  obtain ⟨⟨b, c, d, m0, m1, m2, p⟩, ph, st, re, si⟩ := s
  have HM := Lib.hid (fun W => smay_is ⟨⟨b, c, d, m0, m1, m2, p⟩, ph, st, re, si⟩ false (decide_eq_false h) W)
  unfold S11.val at HM ⊢
  simp only at HM ⊢
  obtain ⟨f1, f3⟩ := one_box w (.cells #[.int .i64 b, .int .i64 c, .int .i64 d, .int .i64 m0, .int .i64 m1, .int .i64 m2, .int .i64 p, .int .i64 ph, .int .i64 st, .int .i64 re, .int .i64 si] 26)
  have s_0 := Lib.hid f1
  have B0 := Lib.hid f3
  clear f1 f3 h
  go_enter Try.func39, Try.ntmps39
  have L1_0 : (w.alloc (.cells #[.int .i64 b, .int .i64 c, .int .i64 d, .int .i64 m0, .int .i64 m1, .int .i64 m2, .int .i64 p, .int .i64 ph, .int .i64 st, .int .i64 re, .int .i64 si] 26)).cell? ⟨w.heap.size, 0, none⟩ = some (.int .i64 b) := (cellsB (i := 0) s_0.out).trans rfl
  have L1_1 : (w.alloc (.cells #[.int .i64 b, .int .i64 c, .int .i64 d, .int .i64 m0, .int .i64 m1, .int .i64 m2, .int .i64 p, .int .i64 ph, .int .i64 st, .int .i64 re, .int .i64 si] 26)).cell? ⟨w.heap.size, 1, none⟩ = some (.int .i64 c) := (cellsB (i := 1) s_0.out).trans rfl
  have L1_2 : (w.alloc (.cells #[.int .i64 b, .int .i64 c, .int .i64 d, .int .i64 m0, .int .i64 m1, .int .i64 m2, .int .i64 p, .int .i64 ph, .int .i64 st, .int .i64 re, .int .i64 si] 26)).cell? ⟨w.heap.size, 2, none⟩ = some (.int .i64 d) := (cellsB (i := 2) s_0.out).trans rfl
  have L1_3 : (w.alloc (.cells #[.int .i64 b, .int .i64 c, .int .i64 d, .int .i64 m0, .int .i64 m1, .int .i64 m2, .int .i64 p, .int .i64 ph, .int .i64 st, .int .i64 re, .int .i64 si] 26)).cell? ⟨w.heap.size, 3, none⟩ = some (.int .i64 m0) := (cellsB (i := 3) s_0.out).trans rfl
  have L1_4 : (w.alloc (.cells #[.int .i64 b, .int .i64 c, .int .i64 d, .int .i64 m0, .int .i64 m1, .int .i64 m2, .int .i64 p, .int .i64 ph, .int .i64 st, .int .i64 re, .int .i64 si] 26)).cell? ⟨w.heap.size, 4, none⟩ = some (.int .i64 m1) := (cellsB (i := 4) s_0.out).trans rfl
  have L1_5 : (w.alloc (.cells #[.int .i64 b, .int .i64 c, .int .i64 d, .int .i64 m0, .int .i64 m1, .int .i64 m2, .int .i64 p, .int .i64 ph, .int .i64 st, .int .i64 re, .int .i64 si] 26)).cell? ⟨w.heap.size, 5, none⟩ = some (.int .i64 m2) := (cellsB (i := 5) s_0.out).trans rfl
  have L1_6 : (w.alloc (.cells #[.int .i64 b, .int .i64 c, .int .i64 d, .int .i64 m0, .int .i64 m1, .int .i64 m2, .int .i64 p, .int .i64 ph, .int .i64 st, .int .i64 re, .int .i64 si] 26)).cell? ⟨w.heap.size, 6, none⟩ = some (.int .i64 p) := (cellsB (i := 6) s_0.out).trans rfl
  have L1_7 : (w.alloc (.cells #[.int .i64 b, .int .i64 c, .int .i64 d, .int .i64 m0, .int .i64 m1, .int .i64 m2, .int .i64 p, .int .i64 ph, .int .i64 st, .int .i64 re, .int .i64 si] 26)).cell? ⟨w.heap.size, 7, none⟩ = some (.int .i64 ph) := (cellsB (i := 7) s_0.out).trans rfl
  have L1_8 : (w.alloc (.cells #[.int .i64 b, .int .i64 c, .int .i64 d, .int .i64 m0, .int .i64 m1, .int .i64 m2, .int .i64 p, .int .i64 ph, .int .i64 st, .int .i64 re, .int .i64 si] 26)).cell? ⟨w.heap.size, 8, none⟩ = some (.int .i64 st) := (cellsB (i := 8) s_0.out).trans rfl
  have L1_9 : (w.alloc (.cells #[.int .i64 b, .int .i64 c, .int .i64 d, .int .i64 m0, .int .i64 m1, .int .i64 m2, .int .i64 p, .int .i64 ph, .int .i64 st, .int .i64 re, .int .i64 si] 26)).cell? ⟨w.heap.size, 9, none⟩ = some (.int .i64 re) := (cellsB (i := 9) s_0.out).trans rfl
  have L1_10 : (w.alloc (.cells #[.int .i64 b, .int .i64 c, .int .i64 d, .int .i64 m0, .int .i64 m1, .int .i64 m2, .int .i64 p, .int .i64 ph, .int .i64 st, .int .i64 re, .int .i64 si] 26)).cell? ⟨w.heap.size, 10, none⟩ = some (.int .i64 si) := (cellsB (i := 10) s_0.out).trans rfl
  go_wp2_with fail
  refine (HM.out _).mono ?_
  rintro e w1 ⟨rfl, q⟩
  have s_1 := Lib.hid (blk0 s_0.out q)
  have B1 := Lib.hid (bel0 B0.out B0.out.size q)
  clear q s_0 B0
  clear L1_0 L1_1 L1_2 L1_3 L1_4 L1_5 L1_6 L1_7 L1_8 L1_9 L1_10
  go_wp2
  refine bodyPost_ret (v := .tuple #[.slice none 0 0, .int .i64 1]) (by simp [results, Try.results39, go_sem]) rfl ⟨rfl, B1.out⟩
set_option maxRecDepth 100000 in
set_option maxHeartbeats 4000000 in
theorem sgturned_may (s : S11) (x : A6) (answer now : Int) (w : World) (h : MayS s) : Calls Try.prog 8 #[s.val, x.val, .int .i64 answer, .int .i64 now] w fun e w' => e = .returned (.bool true) ∧ Below w.heap.size w w' := by
  obtain ⟨⟨b, c, d, m0, m1, m2, p⟩, ph, st, re, si⟩ := s
  obtain ⟨xn, xk, xb, xu, xc, xa⟩ := x
  have T := Lib.hid told15
  have HM := Lib.hid (fun W => smay_is ⟨⟨b, c, d, m0, m1, m2, p⟩, ph, st, re, si⟩ true (decide_eq_true h) W)
  unfold S11.val at HM ⊢
  unfold A6.val
  simp only at HM ⊢
  obtain ⟨f1, f2, f3⟩ := two_boxes w (.cells #[.int .i64 b, .int .i64 c, .int .i64 d, .int .i64 m0, .int .i64 m1, .int .i64 m2, .int .i64 p, .int .i64 ph, .int .i64 st, .int .i64 re, .int .i64 si] 26) (.cells #[.int .i64 xn, .int .i64 xk, .int .i64 xb, .int .i64 xu, .int .i64 xc, .int .i64 xa] 30)
  have s_0 := Lib.hid f1
  have x_0 := Lib.hid f2
  have B0 := Lib.hid f3
  clear f1 f2 f3
  clear h
  go_enter Try.func8, Try.ntmps8
  have L1_0 : ((w.alloc (.cells #[.int .i64 b, .int .i64 c, .int .i64 d, .int .i64 m0, .int .i64 m1, .int .i64 m2, .int .i64 p, .int .i64 ph, .int .i64 st, .int .i64 re, .int .i64 si] 26)).alloc (.cells #[.int .i64 xn, .int .i64 xk, .int .i64 xb, .int .i64 xu, .int .i64 xc, .int .i64 xa] 30)).cell? ⟨w.heap.size, 0, none⟩ = some (.int .i64 b) := (cellsB (i := 0) s_0.out).trans rfl
  have L1_1 : ((w.alloc (.cells #[.int .i64 b, .int .i64 c, .int .i64 d, .int .i64 m0, .int .i64 m1, .int .i64 m2, .int .i64 p, .int .i64 ph, .int .i64 st, .int .i64 re, .int .i64 si] 26)).alloc (.cells #[.int .i64 xn, .int .i64 xk, .int .i64 xb, .int .i64 xu, .int .i64 xc, .int .i64 xa] 30)).cell? ⟨w.heap.size, 1, none⟩ = some (.int .i64 c) := (cellsB (i := 1) s_0.out).trans rfl
  have L1_2 : ((w.alloc (.cells #[.int .i64 b, .int .i64 c, .int .i64 d, .int .i64 m0, .int .i64 m1, .int .i64 m2, .int .i64 p, .int .i64 ph, .int .i64 st, .int .i64 re, .int .i64 si] 26)).alloc (.cells #[.int .i64 xn, .int .i64 xk, .int .i64 xb, .int .i64 xu, .int .i64 xc, .int .i64 xa] 30)).cell? ⟨w.heap.size, 2, none⟩ = some (.int .i64 d) := (cellsB (i := 2) s_0.out).trans rfl
  have L1_3 : ((w.alloc (.cells #[.int .i64 b, .int .i64 c, .int .i64 d, .int .i64 m0, .int .i64 m1, .int .i64 m2, .int .i64 p, .int .i64 ph, .int .i64 st, .int .i64 re, .int .i64 si] 26)).alloc (.cells #[.int .i64 xn, .int .i64 xk, .int .i64 xb, .int .i64 xu, .int .i64 xc, .int .i64 xa] 30)).cell? ⟨w.heap.size, 3, none⟩ = some (.int .i64 m0) := (cellsB (i := 3) s_0.out).trans rfl
  have L1_4 : ((w.alloc (.cells #[.int .i64 b, .int .i64 c, .int .i64 d, .int .i64 m0, .int .i64 m1, .int .i64 m2, .int .i64 p, .int .i64 ph, .int .i64 st, .int .i64 re, .int .i64 si] 26)).alloc (.cells #[.int .i64 xn, .int .i64 xk, .int .i64 xb, .int .i64 xu, .int .i64 xc, .int .i64 xa] 30)).cell? ⟨w.heap.size, 4, none⟩ = some (.int .i64 m1) := (cellsB (i := 4) s_0.out).trans rfl
  have L1_5 : ((w.alloc (.cells #[.int .i64 b, .int .i64 c, .int .i64 d, .int .i64 m0, .int .i64 m1, .int .i64 m2, .int .i64 p, .int .i64 ph, .int .i64 st, .int .i64 re, .int .i64 si] 26)).alloc (.cells #[.int .i64 xn, .int .i64 xk, .int .i64 xb, .int .i64 xu, .int .i64 xc, .int .i64 xa] 30)).cell? ⟨w.heap.size, 5, none⟩ = some (.int .i64 m2) := (cellsB (i := 5) s_0.out).trans rfl
  have L1_6 : ((w.alloc (.cells #[.int .i64 b, .int .i64 c, .int .i64 d, .int .i64 m0, .int .i64 m1, .int .i64 m2, .int .i64 p, .int .i64 ph, .int .i64 st, .int .i64 re, .int .i64 si] 26)).alloc (.cells #[.int .i64 xn, .int .i64 xk, .int .i64 xb, .int .i64 xu, .int .i64 xc, .int .i64 xa] 30)).cell? ⟨w.heap.size, 6, none⟩ = some (.int .i64 p) := (cellsB (i := 6) s_0.out).trans rfl
  have L1_7 : ((w.alloc (.cells #[.int .i64 b, .int .i64 c, .int .i64 d, .int .i64 m0, .int .i64 m1, .int .i64 m2, .int .i64 p, .int .i64 ph, .int .i64 st, .int .i64 re, .int .i64 si] 26)).alloc (.cells #[.int .i64 xn, .int .i64 xk, .int .i64 xb, .int .i64 xu, .int .i64 xc, .int .i64 xa] 30)).cell? ⟨w.heap.size, 7, none⟩ = some (.int .i64 ph) := (cellsB (i := 7) s_0.out).trans rfl
  have L1_8 : ((w.alloc (.cells #[.int .i64 b, .int .i64 c, .int .i64 d, .int .i64 m0, .int .i64 m1, .int .i64 m2, .int .i64 p, .int .i64 ph, .int .i64 st, .int .i64 re, .int .i64 si] 26)).alloc (.cells #[.int .i64 xn, .int .i64 xk, .int .i64 xb, .int .i64 xu, .int .i64 xc, .int .i64 xa] 30)).cell? ⟨w.heap.size, 8, none⟩ = some (.int .i64 st) := (cellsB (i := 8) s_0.out).trans rfl
  have L1_9 : ((w.alloc (.cells #[.int .i64 b, .int .i64 c, .int .i64 d, .int .i64 m0, .int .i64 m1, .int .i64 m2, .int .i64 p, .int .i64 ph, .int .i64 st, .int .i64 re, .int .i64 si] 26)).alloc (.cells #[.int .i64 xn, .int .i64 xk, .int .i64 xb, .int .i64 xu, .int .i64 xc, .int .i64 xa] 30)).cell? ⟨w.heap.size, 9, none⟩ = some (.int .i64 re) := (cellsB (i := 9) s_0.out).trans rfl
  have L1_10 : ((w.alloc (.cells #[.int .i64 b, .int .i64 c, .int .i64 d, .int .i64 m0, .int .i64 m1, .int .i64 m2, .int .i64 p, .int .i64 ph, .int .i64 st, .int .i64 re, .int .i64 si] 26)).alloc (.cells #[.int .i64 xn, .int .i64 xk, .int .i64 xb, .int .i64 xu, .int .i64 xc, .int .i64 xa] 30)).cell? ⟨w.heap.size, 10, none⟩ = some (.int .i64 si) := (cellsB (i := 10) s_0.out).trans rfl
  go_wp2_with fail
  refine (HM.out _).mono ?_
  rintro e w1 ⟨rfl, q⟩
  have s_1 := Lib.hid (blk0 s_0.out q)
  have x_1 := Lib.hid (blk0 x_0.out q)
  have B1 := Lib.hid (bel0 B0.out B0.out.size q)
  clear q s_0 x_0 B0
  clear L1_0 L1_1 L1_2 L1_3 L1_4 L1_5 L1_6 L1_7 L1_8 L1_9 L1_10
  clear s_1
  clear x_1
  go_wp2_with fail
  refine (T.out _).mono ?_
  rintro e w2 ⟨rfl, q⟩
  have B2 := Lib.hid (bel0 B1.out B1.out.size q)
  clear q B1
  go_wp2
  go_ret
  exact ⟨rfl, B2.out⟩
set_option maxRecDepth 100000 in
set_option maxHeartbeats 4000000 in
theorem sgturned_not (s : S11) (x : A6) (answer now : Int) (w : World) (h : ¬ MayS s) : Calls Try.prog 8 #[s.val, x.val, .int .i64 answer, .int .i64 now] w fun e w' => e = .returned (.bool true) ∧ Below w.heap.size w w' := by
  obtain ⟨⟨b, c, d, m0, m1, m2, p⟩, ph, st, re, si⟩ := s
  obtain ⟨xn, xk, xb, xu, xc, xa⟩ := x
  have T := Lib.hid told15
  have HM := Lib.hid (fun W => smay_is ⟨⟨b, c, d, m0, m1, m2, p⟩, ph, st, re, si⟩ false (decide_eq_false h) W)
  have n1 : nextS ⟨⟨b, c, d, m0, m1, m2, p⟩, ph, st, re, si⟩ = (zA, false) := by rw [nextS, if_neg (fun g => h g.1)]
  have H1 := Lib.hid (fun W => next_is n1 W)
  have H2 := Lib.hid (fun W => ans_is (show ansS ⟨⟨b, c, d, m0, m1, m2, p⟩, ph, st, re, si⟩ ⟨xn, xk, xb, xu, xc, xa⟩ answer = (⟨⟨b, c, d, m0, m1, m2, p⟩, ph, st, re, si⟩, false) from by rw [ansS, if_pos (.inl (by rw [n1]))]) W)
  have H3 := Lib.hid (fun W => can_is (show canS ⟨⟨b, c, d, m0, m1, m2, p⟩, ph, st, re, si⟩ = (⟨⟨b, c, d, m0, m1, m2, p⟩, ph, st, re, si⟩, false) from by rw [canS, if_neg (fun g => h g.1)]) W)
  have H4 := Lib.hid (fun W => late_is (show lateS ⟨⟨b, c, d, m0, m1, m2, p⟩, ph, st, re, si⟩ now = (⟨⟨b, c, d, m0, m1, m2, p⟩, ph, st, re, si⟩, false) from by rw [lateS, if_neg (fun g => h g.1)]) W)
  have H5 := Lib.hid (fun W => sput_no ⟨⟨b, c, d, m0, m1, m2, p⟩, ph, st, re, si⟩ W h)
  have H6 := Lib.hid (fun W => over_is (s := ⟨⟨b, c, d, m0, m1, m2, p⟩, ph, st, re, si⟩) (b := false) (decide_eq_false (fun g => h g.1)) W)
  have H7 := Lib.hid (fun W => tells_is (show tellS ⟨⟨b, c, d, m0, m1, m2, p⟩, ph, st, re, si⟩ = 0 from by rw [tellS, if_pos h]) W)
  have e1 := sameS ⟨⟨b, c, d, m0, m1, m2, p⟩, ph, st, re, si⟩ ⟨⟨b, c, d, m0, m1, m2, p⟩, ph, st, re, si⟩ true (by simp)
  simp only [S11.val, A6.val, zA] at HM H1 H2 H3 H4 H5 H6 H7 e1
  unfold S11.val A6.val
  simp only
  obtain ⟨f1, f2, f3⟩ := two_boxes w (.cells #[.int .i64 b, .int .i64 c, .int .i64 d, .int .i64 m0, .int .i64 m1, .int .i64 m2, .int .i64 p, .int .i64 ph, .int .i64 st, .int .i64 re, .int .i64 si] 26) (.cells #[.int .i64 xn, .int .i64 xk, .int .i64 xb, .int .i64 xu, .int .i64 xc, .int .i64 xa] 30)
  have s_0 := Lib.hid f1
  have x_0 := Lib.hid f2
  have B0 := Lib.hid f3
  clear f1 f2 f3
  clear h n1
  go_enter Try.func8, Try.ntmps8
  have L1_0 : ((w.alloc (.cells #[.int .i64 b, .int .i64 c, .int .i64 d, .int .i64 m0, .int .i64 m1, .int .i64 m2, .int .i64 p, .int .i64 ph, .int .i64 st, .int .i64 re, .int .i64 si] 26)).alloc (.cells #[.int .i64 xn, .int .i64 xk, .int .i64 xb, .int .i64 xu, .int .i64 xc, .int .i64 xa] 30)).cell? ⟨w.heap.size, 0, none⟩ = some (.int .i64 b) := (cellsB (i := 0) s_0.out).trans rfl
  have L1_1 : ((w.alloc (.cells #[.int .i64 b, .int .i64 c, .int .i64 d, .int .i64 m0, .int .i64 m1, .int .i64 m2, .int .i64 p, .int .i64 ph, .int .i64 st, .int .i64 re, .int .i64 si] 26)).alloc (.cells #[.int .i64 xn, .int .i64 xk, .int .i64 xb, .int .i64 xu, .int .i64 xc, .int .i64 xa] 30)).cell? ⟨w.heap.size, 1, none⟩ = some (.int .i64 c) := (cellsB (i := 1) s_0.out).trans rfl
  have L1_2 : ((w.alloc (.cells #[.int .i64 b, .int .i64 c, .int .i64 d, .int .i64 m0, .int .i64 m1, .int .i64 m2, .int .i64 p, .int .i64 ph, .int .i64 st, .int .i64 re, .int .i64 si] 26)).alloc (.cells #[.int .i64 xn, .int .i64 xk, .int .i64 xb, .int .i64 xu, .int .i64 xc, .int .i64 xa] 30)).cell? ⟨w.heap.size, 2, none⟩ = some (.int .i64 d) := (cellsB (i := 2) s_0.out).trans rfl
  have L1_3 : ((w.alloc (.cells #[.int .i64 b, .int .i64 c, .int .i64 d, .int .i64 m0, .int .i64 m1, .int .i64 m2, .int .i64 p, .int .i64 ph, .int .i64 st, .int .i64 re, .int .i64 si] 26)).alloc (.cells #[.int .i64 xn, .int .i64 xk, .int .i64 xb, .int .i64 xu, .int .i64 xc, .int .i64 xa] 30)).cell? ⟨w.heap.size, 3, none⟩ = some (.int .i64 m0) := (cellsB (i := 3) s_0.out).trans rfl
  have L1_4 : ((w.alloc (.cells #[.int .i64 b, .int .i64 c, .int .i64 d, .int .i64 m0, .int .i64 m1, .int .i64 m2, .int .i64 p, .int .i64 ph, .int .i64 st, .int .i64 re, .int .i64 si] 26)).alloc (.cells #[.int .i64 xn, .int .i64 xk, .int .i64 xb, .int .i64 xu, .int .i64 xc, .int .i64 xa] 30)).cell? ⟨w.heap.size, 4, none⟩ = some (.int .i64 m1) := (cellsB (i := 4) s_0.out).trans rfl
  have L1_5 : ((w.alloc (.cells #[.int .i64 b, .int .i64 c, .int .i64 d, .int .i64 m0, .int .i64 m1, .int .i64 m2, .int .i64 p, .int .i64 ph, .int .i64 st, .int .i64 re, .int .i64 si] 26)).alloc (.cells #[.int .i64 xn, .int .i64 xk, .int .i64 xb, .int .i64 xu, .int .i64 xc, .int .i64 xa] 30)).cell? ⟨w.heap.size, 5, none⟩ = some (.int .i64 m2) := (cellsB (i := 5) s_0.out).trans rfl
  have L1_6 : ((w.alloc (.cells #[.int .i64 b, .int .i64 c, .int .i64 d, .int .i64 m0, .int .i64 m1, .int .i64 m2, .int .i64 p, .int .i64 ph, .int .i64 st, .int .i64 re, .int .i64 si] 26)).alloc (.cells #[.int .i64 xn, .int .i64 xk, .int .i64 xb, .int .i64 xu, .int .i64 xc, .int .i64 xa] 30)).cell? ⟨w.heap.size, 6, none⟩ = some (.int .i64 p) := (cellsB (i := 6) s_0.out).trans rfl
  have L1_7 : ((w.alloc (.cells #[.int .i64 b, .int .i64 c, .int .i64 d, .int .i64 m0, .int .i64 m1, .int .i64 m2, .int .i64 p, .int .i64 ph, .int .i64 st, .int .i64 re, .int .i64 si] 26)).alloc (.cells #[.int .i64 xn, .int .i64 xk, .int .i64 xb, .int .i64 xu, .int .i64 xc, .int .i64 xa] 30)).cell? ⟨w.heap.size, 7, none⟩ = some (.int .i64 ph) := (cellsB (i := 7) s_0.out).trans rfl
  have L1_8 : ((w.alloc (.cells #[.int .i64 b, .int .i64 c, .int .i64 d, .int .i64 m0, .int .i64 m1, .int .i64 m2, .int .i64 p, .int .i64 ph, .int .i64 st, .int .i64 re, .int .i64 si] 26)).alloc (.cells #[.int .i64 xn, .int .i64 xk, .int .i64 xb, .int .i64 xu, .int .i64 xc, .int .i64 xa] 30)).cell? ⟨w.heap.size, 8, none⟩ = some (.int .i64 st) := (cellsB (i := 8) s_0.out).trans rfl
  have L1_9 : ((w.alloc (.cells #[.int .i64 b, .int .i64 c, .int .i64 d, .int .i64 m0, .int .i64 m1, .int .i64 m2, .int .i64 p, .int .i64 ph, .int .i64 st, .int .i64 re, .int .i64 si] 26)).alloc (.cells #[.int .i64 xn, .int .i64 xk, .int .i64 xb, .int .i64 xu, .int .i64 xc, .int .i64 xa] 30)).cell? ⟨w.heap.size, 9, none⟩ = some (.int .i64 re) := (cellsB (i := 9) s_0.out).trans rfl
  have L1_10 : ((w.alloc (.cells #[.int .i64 b, .int .i64 c, .int .i64 d, .int .i64 m0, .int .i64 m1, .int .i64 m2, .int .i64 p, .int .i64 ph, .int .i64 st, .int .i64 re, .int .i64 si] 26)).alloc (.cells #[.int .i64 xn, .int .i64 xk, .int .i64 xb, .int .i64 xu, .int .i64 xc, .int .i64 xa] 30)).cell? ⟨w.heap.size, 10, none⟩ = some (.int .i64 si) := (cellsB (i := 10) s_0.out).trans rfl
  go_wp2_with fail
  refine (HM.out _).mono ?_
  rintro e w1 ⟨rfl, q⟩
  have s_1 := Lib.hid (blk0 s_0.out q)
  have x_1 := Lib.hid (blk0 x_0.out q)
  have B1 := Lib.hid (bel0 B0.out B0.out.size q)
  clear q s_0 x_0 B0
  clear L1_0 L1_1 L1_2 L1_3 L1_4 L1_5 L1_6 L1_7 L1_8 L1_9 L1_10
  have L2_0 : w1.cell? ⟨w.heap.size, 0, none⟩ = some (.int .i64 b) := (cellsB (i := 0) s_1.out).trans rfl
  have L2_1 : w1.cell? ⟨w.heap.size, 1, none⟩ = some (.int .i64 c) := (cellsB (i := 1) s_1.out).trans rfl
  have L2_2 : w1.cell? ⟨w.heap.size, 2, none⟩ = some (.int .i64 d) := (cellsB (i := 2) s_1.out).trans rfl
  have L2_3 : w1.cell? ⟨w.heap.size, 3, none⟩ = some (.int .i64 m0) := (cellsB (i := 3) s_1.out).trans rfl
  have L2_4 : w1.cell? ⟨w.heap.size, 4, none⟩ = some (.int .i64 m1) := (cellsB (i := 4) s_1.out).trans rfl
  have L2_5 : w1.cell? ⟨w.heap.size, 5, none⟩ = some (.int .i64 m2) := (cellsB (i := 5) s_1.out).trans rfl
  have L2_6 : w1.cell? ⟨w.heap.size, 6, none⟩ = some (.int .i64 p) := (cellsB (i := 6) s_1.out).trans rfl
  have L2_7 : w1.cell? ⟨w.heap.size, 7, none⟩ = some (.int .i64 ph) := (cellsB (i := 7) s_1.out).trans rfl
  have L2_8 : w1.cell? ⟨w.heap.size, 8, none⟩ = some (.int .i64 st) := (cellsB (i := 8) s_1.out).trans rfl
  have L2_9 : w1.cell? ⟨w.heap.size, 9, none⟩ = some (.int .i64 re) := (cellsB (i := 9) s_1.out).trans rfl
  have L2_10 : w1.cell? ⟨w.heap.size, 10, none⟩ = some (.int .i64 si) := (cellsB (i := 10) s_1.out).trans rfl
  go_wp2_with fail
  refine (H1.out _).mono ?_
  rintro e w2 ⟨rfl, q⟩
  have s_2 := Lib.hid (blk0 s_1.out q)
  have x_2 := Lib.hid (blk0 x_1.out q)
  have B2 := Lib.hid (bel0 B1.out B1.out.size q)
  clear q s_1 x_1 B1
  clear L2_0 L2_1 L2_2 L2_3 L2_4 L2_5 L2_6 L2_7 L2_8 L2_9 L2_10
  have L3_0 : (w2.alloc (.cells #[.int .i64 0, .int .i64 0, .int .i64 0, .int .i64 0, .int .i64 0, .int .i64 0] 30)).cell? ⟨w.heap.size, 0, none⟩ = some (.int .i64 b) := (cellsB (i := 0) (alc (o := (.cells #[.int .i64 0, .int .i64 0, .int .i64 0, .int .i64 0, .int .i64 0, .int .i64 0] 30)) s_2.out)).trans rfl
  have L3_1 : (w2.alloc (.cells #[.int .i64 0, .int .i64 0, .int .i64 0, .int .i64 0, .int .i64 0, .int .i64 0] 30)).cell? ⟨w.heap.size, 1, none⟩ = some (.int .i64 c) := (cellsB (i := 1) (alc (o := (.cells #[.int .i64 0, .int .i64 0, .int .i64 0, .int .i64 0, .int .i64 0, .int .i64 0] 30)) s_2.out)).trans rfl
  have L3_2 : (w2.alloc (.cells #[.int .i64 0, .int .i64 0, .int .i64 0, .int .i64 0, .int .i64 0, .int .i64 0] 30)).cell? ⟨w.heap.size, 2, none⟩ = some (.int .i64 d) := (cellsB (i := 2) (alc (o := (.cells #[.int .i64 0, .int .i64 0, .int .i64 0, .int .i64 0, .int .i64 0, .int .i64 0] 30)) s_2.out)).trans rfl
  have L3_3 : (w2.alloc (.cells #[.int .i64 0, .int .i64 0, .int .i64 0, .int .i64 0, .int .i64 0, .int .i64 0] 30)).cell? ⟨w.heap.size, 3, none⟩ = some (.int .i64 m0) := (cellsB (i := 3) (alc (o := (.cells #[.int .i64 0, .int .i64 0, .int .i64 0, .int .i64 0, .int .i64 0, .int .i64 0] 30)) s_2.out)).trans rfl
  have L3_4 : (w2.alloc (.cells #[.int .i64 0, .int .i64 0, .int .i64 0, .int .i64 0, .int .i64 0, .int .i64 0] 30)).cell? ⟨w.heap.size, 4, none⟩ = some (.int .i64 m1) := (cellsB (i := 4) (alc (o := (.cells #[.int .i64 0, .int .i64 0, .int .i64 0, .int .i64 0, .int .i64 0, .int .i64 0] 30)) s_2.out)).trans rfl
  have L3_5 : (w2.alloc (.cells #[.int .i64 0, .int .i64 0, .int .i64 0, .int .i64 0, .int .i64 0, .int .i64 0] 30)).cell? ⟨w.heap.size, 5, none⟩ = some (.int .i64 m2) := (cellsB (i := 5) (alc (o := (.cells #[.int .i64 0, .int .i64 0, .int .i64 0, .int .i64 0, .int .i64 0, .int .i64 0] 30)) s_2.out)).trans rfl
  have L3_6 : (w2.alloc (.cells #[.int .i64 0, .int .i64 0, .int .i64 0, .int .i64 0, .int .i64 0, .int .i64 0] 30)).cell? ⟨w.heap.size, 6, none⟩ = some (.int .i64 p) := (cellsB (i := 6) (alc (o := (.cells #[.int .i64 0, .int .i64 0, .int .i64 0, .int .i64 0, .int .i64 0, .int .i64 0] 30)) s_2.out)).trans rfl
  have L3_7 : (w2.alloc (.cells #[.int .i64 0, .int .i64 0, .int .i64 0, .int .i64 0, .int .i64 0, .int .i64 0] 30)).cell? ⟨w.heap.size, 7, none⟩ = some (.int .i64 ph) := (cellsB (i := 7) (alc (o := (.cells #[.int .i64 0, .int .i64 0, .int .i64 0, .int .i64 0, .int .i64 0, .int .i64 0] 30)) s_2.out)).trans rfl
  have L3_8 : (w2.alloc (.cells #[.int .i64 0, .int .i64 0, .int .i64 0, .int .i64 0, .int .i64 0, .int .i64 0] 30)).cell? ⟨w.heap.size, 8, none⟩ = some (.int .i64 st) := (cellsB (i := 8) (alc (o := (.cells #[.int .i64 0, .int .i64 0, .int .i64 0, .int .i64 0, .int .i64 0, .int .i64 0] 30)) s_2.out)).trans rfl
  have L3_9 : (w2.alloc (.cells #[.int .i64 0, .int .i64 0, .int .i64 0, .int .i64 0, .int .i64 0, .int .i64 0] 30)).cell? ⟨w.heap.size, 9, none⟩ = some (.int .i64 re) := (cellsB (i := 9) (alc (o := (.cells #[.int .i64 0, .int .i64 0, .int .i64 0, .int .i64 0, .int .i64 0, .int .i64 0] 30)) s_2.out)).trans rfl
  have L3_10 : (w2.alloc (.cells #[.int .i64 0, .int .i64 0, .int .i64 0, .int .i64 0, .int .i64 0, .int .i64 0] 30)).cell? ⟨w.heap.size, 10, none⟩ = some (.int .i64 si) := (cellsB (i := 10) (alc (o := (.cells #[.int .i64 0, .int .i64 0, .int .i64 0, .int .i64 0, .int .i64 0, .int .i64 0] 30)) s_2.out)).trans rfl
  have L4_0 : (w2.alloc (.cells #[.int .i64 0, .int .i64 0, .int .i64 0, .int .i64 0, .int .i64 0, .int .i64 0] 30)).cell? ⟨(w.heap.size + 1), 0, none⟩ = some (.int .i64 xn) := (cellsB (i := 0) (alc (o := (.cells #[.int .i64 0, .int .i64 0, .int .i64 0, .int .i64 0, .int .i64 0, .int .i64 0] 30)) x_2.out)).trans rfl
  have L4_1 : (w2.alloc (.cells #[.int .i64 0, .int .i64 0, .int .i64 0, .int .i64 0, .int .i64 0, .int .i64 0] 30)).cell? ⟨(w.heap.size + 1), 1, none⟩ = some (.int .i64 xk) := (cellsB (i := 1) (alc (o := (.cells #[.int .i64 0, .int .i64 0, .int .i64 0, .int .i64 0, .int .i64 0, .int .i64 0] 30)) x_2.out)).trans rfl
  have L4_2 : (w2.alloc (.cells #[.int .i64 0, .int .i64 0, .int .i64 0, .int .i64 0, .int .i64 0, .int .i64 0] 30)).cell? ⟨(w.heap.size + 1), 2, none⟩ = some (.int .i64 xb) := (cellsB (i := 2) (alc (o := (.cells #[.int .i64 0, .int .i64 0, .int .i64 0, .int .i64 0, .int .i64 0, .int .i64 0] 30)) x_2.out)).trans rfl
  have L4_3 : (w2.alloc (.cells #[.int .i64 0, .int .i64 0, .int .i64 0, .int .i64 0, .int .i64 0, .int .i64 0] 30)).cell? ⟨(w.heap.size + 1), 3, none⟩ = some (.int .i64 xu) := (cellsB (i := 3) (alc (o := (.cells #[.int .i64 0, .int .i64 0, .int .i64 0, .int .i64 0, .int .i64 0, .int .i64 0] 30)) x_2.out)).trans rfl
  have L4_4 : (w2.alloc (.cells #[.int .i64 0, .int .i64 0, .int .i64 0, .int .i64 0, .int .i64 0, .int .i64 0] 30)).cell? ⟨(w.heap.size + 1), 4, none⟩ = some (.int .i64 xc) := (cellsB (i := 4) (alc (o := (.cells #[.int .i64 0, .int .i64 0, .int .i64 0, .int .i64 0, .int .i64 0, .int .i64 0] 30)) x_2.out)).trans rfl
  have L4_5 : (w2.alloc (.cells #[.int .i64 0, .int .i64 0, .int .i64 0, .int .i64 0, .int .i64 0, .int .i64 0] 30)).cell? ⟨(w.heap.size + 1), 5, none⟩ = some (.int .i64 xa) := (cellsB (i := 5) (alc (o := (.cells #[.int .i64 0, .int .i64 0, .int .i64 0, .int .i64 0, .int .i64 0, .int .i64 0] 30)) x_2.out)).trans rfl
  go_wp2_with fail
  refine (H2.out _).mono ?_
  rintro e w3 ⟨rfl, q⟩
  have s_3 := Lib.hid (blk1 s_2.out q)
  have x_3 := Lib.hid (blk1 x_2.out q)
  have y_3 := Lib.hid (new1 q)
  have B3 := Lib.hid (bel1 B2.out B2.out.size q)
  clear q s_2 x_2 B2
  clear L3_0 L3_1 L3_2 L3_3 L3_4 L3_5 L3_6 L3_7 L3_8 L3_9 L3_10 L4_0 L4_1 L4_2 L4_3 L4_4 L4_5
  have L5_0 : (w3.alloc (.cells #[.int .i64 b, .int .i64 c, .int .i64 d, .int .i64 m0, .int .i64 m1, .int .i64 m2, .int .i64 p, .int .i64 ph, .int .i64 st, .int .i64 re, .int .i64 si] 26)).cell? ⟨w.heap.size, 0, none⟩ = some (.int .i64 b) := (cellsB (i := 0) (alc (o := (.cells #[.int .i64 b, .int .i64 c, .int .i64 d, .int .i64 m0, .int .i64 m1, .int .i64 m2, .int .i64 p, .int .i64 ph, .int .i64 st, .int .i64 re, .int .i64 si] 26)) s_3.out)).trans rfl
  have L5_1 : (w3.alloc (.cells #[.int .i64 b, .int .i64 c, .int .i64 d, .int .i64 m0, .int .i64 m1, .int .i64 m2, .int .i64 p, .int .i64 ph, .int .i64 st, .int .i64 re, .int .i64 si] 26)).cell? ⟨w.heap.size, 1, none⟩ = some (.int .i64 c) := (cellsB (i := 1) (alc (o := (.cells #[.int .i64 b, .int .i64 c, .int .i64 d, .int .i64 m0, .int .i64 m1, .int .i64 m2, .int .i64 p, .int .i64 ph, .int .i64 st, .int .i64 re, .int .i64 si] 26)) s_3.out)).trans rfl
  have L5_2 : (w3.alloc (.cells #[.int .i64 b, .int .i64 c, .int .i64 d, .int .i64 m0, .int .i64 m1, .int .i64 m2, .int .i64 p, .int .i64 ph, .int .i64 st, .int .i64 re, .int .i64 si] 26)).cell? ⟨w.heap.size, 2, none⟩ = some (.int .i64 d) := (cellsB (i := 2) (alc (o := (.cells #[.int .i64 b, .int .i64 c, .int .i64 d, .int .i64 m0, .int .i64 m1, .int .i64 m2, .int .i64 p, .int .i64 ph, .int .i64 st, .int .i64 re, .int .i64 si] 26)) s_3.out)).trans rfl
  have L5_3 : (w3.alloc (.cells #[.int .i64 b, .int .i64 c, .int .i64 d, .int .i64 m0, .int .i64 m1, .int .i64 m2, .int .i64 p, .int .i64 ph, .int .i64 st, .int .i64 re, .int .i64 si] 26)).cell? ⟨w.heap.size, 3, none⟩ = some (.int .i64 m0) := (cellsB (i := 3) (alc (o := (.cells #[.int .i64 b, .int .i64 c, .int .i64 d, .int .i64 m0, .int .i64 m1, .int .i64 m2, .int .i64 p, .int .i64 ph, .int .i64 st, .int .i64 re, .int .i64 si] 26)) s_3.out)).trans rfl
  have L5_4 : (w3.alloc (.cells #[.int .i64 b, .int .i64 c, .int .i64 d, .int .i64 m0, .int .i64 m1, .int .i64 m2, .int .i64 p, .int .i64 ph, .int .i64 st, .int .i64 re, .int .i64 si] 26)).cell? ⟨w.heap.size, 4, none⟩ = some (.int .i64 m1) := (cellsB (i := 4) (alc (o := (.cells #[.int .i64 b, .int .i64 c, .int .i64 d, .int .i64 m0, .int .i64 m1, .int .i64 m2, .int .i64 p, .int .i64 ph, .int .i64 st, .int .i64 re, .int .i64 si] 26)) s_3.out)).trans rfl
  have L5_5 : (w3.alloc (.cells #[.int .i64 b, .int .i64 c, .int .i64 d, .int .i64 m0, .int .i64 m1, .int .i64 m2, .int .i64 p, .int .i64 ph, .int .i64 st, .int .i64 re, .int .i64 si] 26)).cell? ⟨w.heap.size, 5, none⟩ = some (.int .i64 m2) := (cellsB (i := 5) (alc (o := (.cells #[.int .i64 b, .int .i64 c, .int .i64 d, .int .i64 m0, .int .i64 m1, .int .i64 m2, .int .i64 p, .int .i64 ph, .int .i64 st, .int .i64 re, .int .i64 si] 26)) s_3.out)).trans rfl
  have L5_6 : (w3.alloc (.cells #[.int .i64 b, .int .i64 c, .int .i64 d, .int .i64 m0, .int .i64 m1, .int .i64 m2, .int .i64 p, .int .i64 ph, .int .i64 st, .int .i64 re, .int .i64 si] 26)).cell? ⟨w.heap.size, 6, none⟩ = some (.int .i64 p) := (cellsB (i := 6) (alc (o := (.cells #[.int .i64 b, .int .i64 c, .int .i64 d, .int .i64 m0, .int .i64 m1, .int .i64 m2, .int .i64 p, .int .i64 ph, .int .i64 st, .int .i64 re, .int .i64 si] 26)) s_3.out)).trans rfl
  have L5_7 : (w3.alloc (.cells #[.int .i64 b, .int .i64 c, .int .i64 d, .int .i64 m0, .int .i64 m1, .int .i64 m2, .int .i64 p, .int .i64 ph, .int .i64 st, .int .i64 re, .int .i64 si] 26)).cell? ⟨w.heap.size, 7, none⟩ = some (.int .i64 ph) := (cellsB (i := 7) (alc (o := (.cells #[.int .i64 b, .int .i64 c, .int .i64 d, .int .i64 m0, .int .i64 m1, .int .i64 m2, .int .i64 p, .int .i64 ph, .int .i64 st, .int .i64 re, .int .i64 si] 26)) s_3.out)).trans rfl
  have L5_8 : (w3.alloc (.cells #[.int .i64 b, .int .i64 c, .int .i64 d, .int .i64 m0, .int .i64 m1, .int .i64 m2, .int .i64 p, .int .i64 ph, .int .i64 st, .int .i64 re, .int .i64 si] 26)).cell? ⟨w.heap.size, 8, none⟩ = some (.int .i64 st) := (cellsB (i := 8) (alc (o := (.cells #[.int .i64 b, .int .i64 c, .int .i64 d, .int .i64 m0, .int .i64 m1, .int .i64 m2, .int .i64 p, .int .i64 ph, .int .i64 st, .int .i64 re, .int .i64 si] 26)) s_3.out)).trans rfl
  have L5_9 : (w3.alloc (.cells #[.int .i64 b, .int .i64 c, .int .i64 d, .int .i64 m0, .int .i64 m1, .int .i64 m2, .int .i64 p, .int .i64 ph, .int .i64 st, .int .i64 re, .int .i64 si] 26)).cell? ⟨w.heap.size, 9, none⟩ = some (.int .i64 re) := (cellsB (i := 9) (alc (o := (.cells #[.int .i64 b, .int .i64 c, .int .i64 d, .int .i64 m0, .int .i64 m1, .int .i64 m2, .int .i64 p, .int .i64 ph, .int .i64 st, .int .i64 re, .int .i64 si] 26)) s_3.out)).trans rfl
  have L5_10 : (w3.alloc (.cells #[.int .i64 b, .int .i64 c, .int .i64 d, .int .i64 m0, .int .i64 m1, .int .i64 m2, .int .i64 p, .int .i64 ph, .int .i64 st, .int .i64 re, .int .i64 si] 26)).cell? ⟨w.heap.size, 10, none⟩ = some (.int .i64 si) := (cellsB (i := 10) (alc (o := (.cells #[.int .i64 b, .int .i64 c, .int .i64 d, .int .i64 m0, .int .i64 m1, .int .i64 m2, .int .i64 p, .int .i64 ph, .int .i64 st, .int .i64 re, .int .i64 si] 26)) s_3.out)).trans rfl
  go_wp2_with fail
  refine (H3.out _).mono ?_
  rintro e w4 ⟨rfl, q⟩
  have s_4 := Lib.hid (blk1 s_3.out q)
  have x_4 := Lib.hid (blk1 x_3.out q)
  have y_4 := Lib.hid (blk1 y_3.out q)
  have t_4 := Lib.hid (new1 q)
  have B4 := Lib.hid (bel1 B3.out B3.out.size q)
  clear q s_3 x_3 y_3 B3
  clear L5_0 L5_1 L5_2 L5_3 L5_4 L5_5 L5_6 L5_7 L5_8 L5_9 L5_10
  have L6_0 : (w4.alloc (.cells #[.int .i64 b, .int .i64 c, .int .i64 d, .int .i64 m0, .int .i64 m1, .int .i64 m2, .int .i64 p, .int .i64 ph, .int .i64 st, .int .i64 re, .int .i64 si] 26)).cell? ⟨w.heap.size, 0, none⟩ = some (.int .i64 b) := (cellsB (i := 0) (alc (o := (.cells #[.int .i64 b, .int .i64 c, .int .i64 d, .int .i64 m0, .int .i64 m1, .int .i64 m2, .int .i64 p, .int .i64 ph, .int .i64 st, .int .i64 re, .int .i64 si] 26)) s_4.out)).trans rfl
  have L6_1 : (w4.alloc (.cells #[.int .i64 b, .int .i64 c, .int .i64 d, .int .i64 m0, .int .i64 m1, .int .i64 m2, .int .i64 p, .int .i64 ph, .int .i64 st, .int .i64 re, .int .i64 si] 26)).cell? ⟨w.heap.size, 1, none⟩ = some (.int .i64 c) := (cellsB (i := 1) (alc (o := (.cells #[.int .i64 b, .int .i64 c, .int .i64 d, .int .i64 m0, .int .i64 m1, .int .i64 m2, .int .i64 p, .int .i64 ph, .int .i64 st, .int .i64 re, .int .i64 si] 26)) s_4.out)).trans rfl
  have L6_2 : (w4.alloc (.cells #[.int .i64 b, .int .i64 c, .int .i64 d, .int .i64 m0, .int .i64 m1, .int .i64 m2, .int .i64 p, .int .i64 ph, .int .i64 st, .int .i64 re, .int .i64 si] 26)).cell? ⟨w.heap.size, 2, none⟩ = some (.int .i64 d) := (cellsB (i := 2) (alc (o := (.cells #[.int .i64 b, .int .i64 c, .int .i64 d, .int .i64 m0, .int .i64 m1, .int .i64 m2, .int .i64 p, .int .i64 ph, .int .i64 st, .int .i64 re, .int .i64 si] 26)) s_4.out)).trans rfl
  have L6_3 : (w4.alloc (.cells #[.int .i64 b, .int .i64 c, .int .i64 d, .int .i64 m0, .int .i64 m1, .int .i64 m2, .int .i64 p, .int .i64 ph, .int .i64 st, .int .i64 re, .int .i64 si] 26)).cell? ⟨w.heap.size, 3, none⟩ = some (.int .i64 m0) := (cellsB (i := 3) (alc (o := (.cells #[.int .i64 b, .int .i64 c, .int .i64 d, .int .i64 m0, .int .i64 m1, .int .i64 m2, .int .i64 p, .int .i64 ph, .int .i64 st, .int .i64 re, .int .i64 si] 26)) s_4.out)).trans rfl
  have L6_4 : (w4.alloc (.cells #[.int .i64 b, .int .i64 c, .int .i64 d, .int .i64 m0, .int .i64 m1, .int .i64 m2, .int .i64 p, .int .i64 ph, .int .i64 st, .int .i64 re, .int .i64 si] 26)).cell? ⟨w.heap.size, 4, none⟩ = some (.int .i64 m1) := (cellsB (i := 4) (alc (o := (.cells #[.int .i64 b, .int .i64 c, .int .i64 d, .int .i64 m0, .int .i64 m1, .int .i64 m2, .int .i64 p, .int .i64 ph, .int .i64 st, .int .i64 re, .int .i64 si] 26)) s_4.out)).trans rfl
  have L6_5 : (w4.alloc (.cells #[.int .i64 b, .int .i64 c, .int .i64 d, .int .i64 m0, .int .i64 m1, .int .i64 m2, .int .i64 p, .int .i64 ph, .int .i64 st, .int .i64 re, .int .i64 si] 26)).cell? ⟨w.heap.size, 5, none⟩ = some (.int .i64 m2) := (cellsB (i := 5) (alc (o := (.cells #[.int .i64 b, .int .i64 c, .int .i64 d, .int .i64 m0, .int .i64 m1, .int .i64 m2, .int .i64 p, .int .i64 ph, .int .i64 st, .int .i64 re, .int .i64 si] 26)) s_4.out)).trans rfl
  have L6_6 : (w4.alloc (.cells #[.int .i64 b, .int .i64 c, .int .i64 d, .int .i64 m0, .int .i64 m1, .int .i64 m2, .int .i64 p, .int .i64 ph, .int .i64 st, .int .i64 re, .int .i64 si] 26)).cell? ⟨w.heap.size, 6, none⟩ = some (.int .i64 p) := (cellsB (i := 6) (alc (o := (.cells #[.int .i64 b, .int .i64 c, .int .i64 d, .int .i64 m0, .int .i64 m1, .int .i64 m2, .int .i64 p, .int .i64 ph, .int .i64 st, .int .i64 re, .int .i64 si] 26)) s_4.out)).trans rfl
  have L6_7 : (w4.alloc (.cells #[.int .i64 b, .int .i64 c, .int .i64 d, .int .i64 m0, .int .i64 m1, .int .i64 m2, .int .i64 p, .int .i64 ph, .int .i64 st, .int .i64 re, .int .i64 si] 26)).cell? ⟨w.heap.size, 7, none⟩ = some (.int .i64 ph) := (cellsB (i := 7) (alc (o := (.cells #[.int .i64 b, .int .i64 c, .int .i64 d, .int .i64 m0, .int .i64 m1, .int .i64 m2, .int .i64 p, .int .i64 ph, .int .i64 st, .int .i64 re, .int .i64 si] 26)) s_4.out)).trans rfl
  have L6_8 : (w4.alloc (.cells #[.int .i64 b, .int .i64 c, .int .i64 d, .int .i64 m0, .int .i64 m1, .int .i64 m2, .int .i64 p, .int .i64 ph, .int .i64 st, .int .i64 re, .int .i64 si] 26)).cell? ⟨w.heap.size, 8, none⟩ = some (.int .i64 st) := (cellsB (i := 8) (alc (o := (.cells #[.int .i64 b, .int .i64 c, .int .i64 d, .int .i64 m0, .int .i64 m1, .int .i64 m2, .int .i64 p, .int .i64 ph, .int .i64 st, .int .i64 re, .int .i64 si] 26)) s_4.out)).trans rfl
  have L6_9 : (w4.alloc (.cells #[.int .i64 b, .int .i64 c, .int .i64 d, .int .i64 m0, .int .i64 m1, .int .i64 m2, .int .i64 p, .int .i64 ph, .int .i64 st, .int .i64 re, .int .i64 si] 26)).cell? ⟨w.heap.size, 9, none⟩ = some (.int .i64 re) := (cellsB (i := 9) (alc (o := (.cells #[.int .i64 b, .int .i64 c, .int .i64 d, .int .i64 m0, .int .i64 m1, .int .i64 m2, .int .i64 p, .int .i64 ph, .int .i64 st, .int .i64 re, .int .i64 si] 26)) s_4.out)).trans rfl
  have L6_10 : (w4.alloc (.cells #[.int .i64 b, .int .i64 c, .int .i64 d, .int .i64 m0, .int .i64 m1, .int .i64 m2, .int .i64 p, .int .i64 ph, .int .i64 st, .int .i64 re, .int .i64 si] 26)).cell? ⟨w.heap.size, 10, none⟩ = some (.int .i64 si) := (cellsB (i := 10) (alc (o := (.cells #[.int .i64 b, .int .i64 c, .int .i64 d, .int .i64 m0, .int .i64 m1, .int .i64 m2, .int .i64 p, .int .i64 ph, .int .i64 st, .int .i64 re, .int .i64 si] 26)) s_4.out)).trans rfl
  go_wp2_with fail
  refine (H4.out _).mono ?_
  rintro e w5 ⟨rfl, q⟩
  have s_5 := Lib.hid (blk1 s_4.out q)
  have x_5 := Lib.hid (blk1 x_4.out q)
  have y_5 := Lib.hid (blk1 y_4.out q)
  have t_5 := Lib.hid (blk1 t_4.out q)
  have u_5 := Lib.hid (new1 q)
  have B5 := Lib.hid (bel1 B4.out B4.out.size q)
  clear q s_4 x_4 y_4 t_4 B4
  clear L6_0 L6_1 L6_2 L6_3 L6_4 L6_5 L6_6 L6_7 L6_8 L6_9 L6_10
  have L7_0 : (w5.alloc (.cells #[.int .i64 b, .int .i64 c, .int .i64 d, .int .i64 m0, .int .i64 m1, .int .i64 m2, .int .i64 p, .int .i64 ph, .int .i64 st, .int .i64 re, .int .i64 si] 26)).cell? ⟨w.heap.size, 0, none⟩ = some (.int .i64 b) := (cellsB (i := 0) (alc (o := (.cells #[.int .i64 b, .int .i64 c, .int .i64 d, .int .i64 m0, .int .i64 m1, .int .i64 m2, .int .i64 p, .int .i64 ph, .int .i64 st, .int .i64 re, .int .i64 si] 26)) s_5.out)).trans rfl
  have L7_1 : (w5.alloc (.cells #[.int .i64 b, .int .i64 c, .int .i64 d, .int .i64 m0, .int .i64 m1, .int .i64 m2, .int .i64 p, .int .i64 ph, .int .i64 st, .int .i64 re, .int .i64 si] 26)).cell? ⟨w.heap.size, 1, none⟩ = some (.int .i64 c) := (cellsB (i := 1) (alc (o := (.cells #[.int .i64 b, .int .i64 c, .int .i64 d, .int .i64 m0, .int .i64 m1, .int .i64 m2, .int .i64 p, .int .i64 ph, .int .i64 st, .int .i64 re, .int .i64 si] 26)) s_5.out)).trans rfl
  have L7_2 : (w5.alloc (.cells #[.int .i64 b, .int .i64 c, .int .i64 d, .int .i64 m0, .int .i64 m1, .int .i64 m2, .int .i64 p, .int .i64 ph, .int .i64 st, .int .i64 re, .int .i64 si] 26)).cell? ⟨w.heap.size, 2, none⟩ = some (.int .i64 d) := (cellsB (i := 2) (alc (o := (.cells #[.int .i64 b, .int .i64 c, .int .i64 d, .int .i64 m0, .int .i64 m1, .int .i64 m2, .int .i64 p, .int .i64 ph, .int .i64 st, .int .i64 re, .int .i64 si] 26)) s_5.out)).trans rfl
  have L7_3 : (w5.alloc (.cells #[.int .i64 b, .int .i64 c, .int .i64 d, .int .i64 m0, .int .i64 m1, .int .i64 m2, .int .i64 p, .int .i64 ph, .int .i64 st, .int .i64 re, .int .i64 si] 26)).cell? ⟨w.heap.size, 3, none⟩ = some (.int .i64 m0) := (cellsB (i := 3) (alc (o := (.cells #[.int .i64 b, .int .i64 c, .int .i64 d, .int .i64 m0, .int .i64 m1, .int .i64 m2, .int .i64 p, .int .i64 ph, .int .i64 st, .int .i64 re, .int .i64 si] 26)) s_5.out)).trans rfl
  have L7_4 : (w5.alloc (.cells #[.int .i64 b, .int .i64 c, .int .i64 d, .int .i64 m0, .int .i64 m1, .int .i64 m2, .int .i64 p, .int .i64 ph, .int .i64 st, .int .i64 re, .int .i64 si] 26)).cell? ⟨w.heap.size, 4, none⟩ = some (.int .i64 m1) := (cellsB (i := 4) (alc (o := (.cells #[.int .i64 b, .int .i64 c, .int .i64 d, .int .i64 m0, .int .i64 m1, .int .i64 m2, .int .i64 p, .int .i64 ph, .int .i64 st, .int .i64 re, .int .i64 si] 26)) s_5.out)).trans rfl
  have L7_5 : (w5.alloc (.cells #[.int .i64 b, .int .i64 c, .int .i64 d, .int .i64 m0, .int .i64 m1, .int .i64 m2, .int .i64 p, .int .i64 ph, .int .i64 st, .int .i64 re, .int .i64 si] 26)).cell? ⟨w.heap.size, 5, none⟩ = some (.int .i64 m2) := (cellsB (i := 5) (alc (o := (.cells #[.int .i64 b, .int .i64 c, .int .i64 d, .int .i64 m0, .int .i64 m1, .int .i64 m2, .int .i64 p, .int .i64 ph, .int .i64 st, .int .i64 re, .int .i64 si] 26)) s_5.out)).trans rfl
  have L7_6 : (w5.alloc (.cells #[.int .i64 b, .int .i64 c, .int .i64 d, .int .i64 m0, .int .i64 m1, .int .i64 m2, .int .i64 p, .int .i64 ph, .int .i64 st, .int .i64 re, .int .i64 si] 26)).cell? ⟨w.heap.size, 6, none⟩ = some (.int .i64 p) := (cellsB (i := 6) (alc (o := (.cells #[.int .i64 b, .int .i64 c, .int .i64 d, .int .i64 m0, .int .i64 m1, .int .i64 m2, .int .i64 p, .int .i64 ph, .int .i64 st, .int .i64 re, .int .i64 si] 26)) s_5.out)).trans rfl
  have L7_7 : (w5.alloc (.cells #[.int .i64 b, .int .i64 c, .int .i64 d, .int .i64 m0, .int .i64 m1, .int .i64 m2, .int .i64 p, .int .i64 ph, .int .i64 st, .int .i64 re, .int .i64 si] 26)).cell? ⟨w.heap.size, 7, none⟩ = some (.int .i64 ph) := (cellsB (i := 7) (alc (o := (.cells #[.int .i64 b, .int .i64 c, .int .i64 d, .int .i64 m0, .int .i64 m1, .int .i64 m2, .int .i64 p, .int .i64 ph, .int .i64 st, .int .i64 re, .int .i64 si] 26)) s_5.out)).trans rfl
  have L7_8 : (w5.alloc (.cells #[.int .i64 b, .int .i64 c, .int .i64 d, .int .i64 m0, .int .i64 m1, .int .i64 m2, .int .i64 p, .int .i64 ph, .int .i64 st, .int .i64 re, .int .i64 si] 26)).cell? ⟨w.heap.size, 8, none⟩ = some (.int .i64 st) := (cellsB (i := 8) (alc (o := (.cells #[.int .i64 b, .int .i64 c, .int .i64 d, .int .i64 m0, .int .i64 m1, .int .i64 m2, .int .i64 p, .int .i64 ph, .int .i64 st, .int .i64 re, .int .i64 si] 26)) s_5.out)).trans rfl
  have L7_9 : (w5.alloc (.cells #[.int .i64 b, .int .i64 c, .int .i64 d, .int .i64 m0, .int .i64 m1, .int .i64 m2, .int .i64 p, .int .i64 ph, .int .i64 st, .int .i64 re, .int .i64 si] 26)).cell? ⟨w.heap.size, 9, none⟩ = some (.int .i64 re) := (cellsB (i := 9) (alc (o := (.cells #[.int .i64 b, .int .i64 c, .int .i64 d, .int .i64 m0, .int .i64 m1, .int .i64 m2, .int .i64 p, .int .i64 ph, .int .i64 st, .int .i64 re, .int .i64 si] 26)) s_5.out)).trans rfl
  have L7_10 : (w5.alloc (.cells #[.int .i64 b, .int .i64 c, .int .i64 d, .int .i64 m0, .int .i64 m1, .int .i64 m2, .int .i64 p, .int .i64 ph, .int .i64 st, .int .i64 re, .int .i64 si] 26)).cell? ⟨w.heap.size, 10, none⟩ = some (.int .i64 si) := (cellsB (i := 10) (alc (o := (.cells #[.int .i64 b, .int .i64 c, .int .i64 d, .int .i64 m0, .int .i64 m1, .int .i64 m2, .int .i64 p, .int .i64 ph, .int .i64 st, .int .i64 re, .int .i64 si] 26)) s_5.out)).trans rfl
  go_wp2_with fail
  refine (H5.out _).mono ?_
  rintro e w6 ⟨rfl, q⟩
  have s_6 := Lib.hid (blk1 s_5.out q)
  have x_6 := Lib.hid (blk1 x_5.out q)
  have y_6 := Lib.hid (blk1 y_5.out q)
  have t_6 := Lib.hid (blk1 t_5.out q)
  have u_6 := Lib.hid (blk1 u_5.out q)
  have v_6 := Lib.hid (new1 q)
  have B6 := Lib.hid (bel1 B5.out B5.out.size q)
  clear q s_5 x_5 y_5 t_5 u_5 B5
  clear L7_0 L7_1 L7_2 L7_3 L7_4 L7_5 L7_6 L7_7 L7_8 L7_9 L7_10
  go_wp2_with fail
  refine (T.out _).mono ?_
  rintro e w7 ⟨rfl, q⟩
  have s_7 := Lib.hid (blk0 s_6.out q)
  have x_7 := Lib.hid (blk0 x_6.out q)
  have y_7 := Lib.hid (blk0 y_6.out q)
  have t_7 := Lib.hid (blk0 t_6.out q)
  have u_7 := Lib.hid (blk0 u_6.out q)
  have v_7 := Lib.hid (blk0 v_6.out q)
  have B7 := Lib.hid (bel0 B6.out B6.out.size q)
  clear q s_6 x_6 y_6 t_6 u_6 v_6 B6
  have L8_0 : w7.cell? ⟨w3.heap.size, 0, none⟩ = some (.int .i64 b) := (cellsB (i := 0) t_7.out).trans rfl
  have L8_1 : w7.cell? ⟨w3.heap.size, 1, none⟩ = some (.int .i64 c) := (cellsB (i := 1) t_7.out).trans rfl
  have L8_2 : w7.cell? ⟨w3.heap.size, 2, none⟩ = some (.int .i64 d) := (cellsB (i := 2) t_7.out).trans rfl
  have L8_3 : w7.cell? ⟨w3.heap.size, 3, none⟩ = some (.int .i64 m0) := (cellsB (i := 3) t_7.out).trans rfl
  have L8_4 : w7.cell? ⟨w3.heap.size, 4, none⟩ = some (.int .i64 m1) := (cellsB (i := 4) t_7.out).trans rfl
  have L8_5 : w7.cell? ⟨w3.heap.size, 5, none⟩ = some (.int .i64 m2) := (cellsB (i := 5) t_7.out).trans rfl
  have L8_6 : w7.cell? ⟨w3.heap.size, 6, none⟩ = some (.int .i64 p) := (cellsB (i := 6) t_7.out).trans rfl
  have L8_7 : w7.cell? ⟨w3.heap.size, 7, none⟩ = some (.int .i64 ph) := (cellsB (i := 7) t_7.out).trans rfl
  have L8_8 : w7.cell? ⟨w3.heap.size, 8, none⟩ = some (.int .i64 st) := (cellsB (i := 8) t_7.out).trans rfl
  have L8_9 : w7.cell? ⟨w3.heap.size, 9, none⟩ = some (.int .i64 re) := (cellsB (i := 9) t_7.out).trans rfl
  have L8_10 : w7.cell? ⟨w3.heap.size, 10, none⟩ = some (.int .i64 si) := (cellsB (i := 10) t_7.out).trans rfl
  have L9_0 : w7.cell? ⟨w4.heap.size, 0, none⟩ = some (.int .i64 b) := (cellsB (i := 0) u_7.out).trans rfl
  have L9_1 : w7.cell? ⟨w4.heap.size, 1, none⟩ = some (.int .i64 c) := (cellsB (i := 1) u_7.out).trans rfl
  have L9_2 : w7.cell? ⟨w4.heap.size, 2, none⟩ = some (.int .i64 d) := (cellsB (i := 2) u_7.out).trans rfl
  have L9_3 : w7.cell? ⟨w4.heap.size, 3, none⟩ = some (.int .i64 m0) := (cellsB (i := 3) u_7.out).trans rfl
  have L9_4 : w7.cell? ⟨w4.heap.size, 4, none⟩ = some (.int .i64 m1) := (cellsB (i := 4) u_7.out).trans rfl
  have L9_5 : w7.cell? ⟨w4.heap.size, 5, none⟩ = some (.int .i64 m2) := (cellsB (i := 5) u_7.out).trans rfl
  have L9_6 : w7.cell? ⟨w4.heap.size, 6, none⟩ = some (.int .i64 p) := (cellsB (i := 6) u_7.out).trans rfl
  have L9_7 : w7.cell? ⟨w4.heap.size, 7, none⟩ = some (.int .i64 ph) := (cellsB (i := 7) u_7.out).trans rfl
  have L9_8 : w7.cell? ⟨w4.heap.size, 8, none⟩ = some (.int .i64 st) := (cellsB (i := 8) u_7.out).trans rfl
  have L9_9 : w7.cell? ⟨w4.heap.size, 9, none⟩ = some (.int .i64 re) := (cellsB (i := 9) u_7.out).trans rfl
  have L9_10 : w7.cell? ⟨w4.heap.size, 10, none⟩ = some (.int .i64 si) := (cellsB (i := 10) u_7.out).trans rfl
  have L10_0 : w7.cell? ⟨w5.heap.size, 0, none⟩ = some (.int .i64 b) := (cellsB (i := 0) v_7.out).trans rfl
  have L10_1 : w7.cell? ⟨w5.heap.size, 1, none⟩ = some (.int .i64 c) := (cellsB (i := 1) v_7.out).trans rfl
  have L10_2 : w7.cell? ⟨w5.heap.size, 2, none⟩ = some (.int .i64 d) := (cellsB (i := 2) v_7.out).trans rfl
  have L10_3 : w7.cell? ⟨w5.heap.size, 3, none⟩ = some (.int .i64 m0) := (cellsB (i := 3) v_7.out).trans rfl
  have L10_4 : w7.cell? ⟨w5.heap.size, 4, none⟩ = some (.int .i64 m1) := (cellsB (i := 4) v_7.out).trans rfl
  have L10_5 : w7.cell? ⟨w5.heap.size, 5, none⟩ = some (.int .i64 m2) := (cellsB (i := 5) v_7.out).trans rfl
  have L10_6 : w7.cell? ⟨w5.heap.size, 6, none⟩ = some (.int .i64 p) := (cellsB (i := 6) v_7.out).trans rfl
  have L10_7 : w7.cell? ⟨w5.heap.size, 7, none⟩ = some (.int .i64 ph) := (cellsB (i := 7) v_7.out).trans rfl
  have L10_8 : w7.cell? ⟨w5.heap.size, 8, none⟩ = some (.int .i64 st) := (cellsB (i := 8) v_7.out).trans rfl
  have L10_9 : w7.cell? ⟨w5.heap.size, 9, none⟩ = some (.int .i64 re) := (cellsB (i := 9) v_7.out).trans rfl
  have L10_10 : w7.cell? ⟨w5.heap.size, 10, none⟩ = some (.int .i64 si) := (cellsB (i := 10) v_7.out).trans rfl
  have L11_0 : w7.cell? ⟨w.heap.size, 0, none⟩ = some (.int .i64 b) := (cellsB (i := 0) s_7.out).trans rfl
  have L11_1 : w7.cell? ⟨w.heap.size, 1, none⟩ = some (.int .i64 c) := (cellsB (i := 1) s_7.out).trans rfl
  have L11_2 : w7.cell? ⟨w.heap.size, 2, none⟩ = some (.int .i64 d) := (cellsB (i := 2) s_7.out).trans rfl
  have L11_3 : w7.cell? ⟨w.heap.size, 3, none⟩ = some (.int .i64 m0) := (cellsB (i := 3) s_7.out).trans rfl
  have L11_4 : w7.cell? ⟨w.heap.size, 4, none⟩ = some (.int .i64 m1) := (cellsB (i := 4) s_7.out).trans rfl
  have L11_5 : w7.cell? ⟨w.heap.size, 5, none⟩ = some (.int .i64 m2) := (cellsB (i := 5) s_7.out).trans rfl
  have L11_6 : w7.cell? ⟨w.heap.size, 6, none⟩ = some (.int .i64 p) := (cellsB (i := 6) s_7.out).trans rfl
  have L11_7 : w7.cell? ⟨w.heap.size, 7, none⟩ = some (.int .i64 ph) := (cellsB (i := 7) s_7.out).trans rfl
  have L11_8 : w7.cell? ⟨w.heap.size, 8, none⟩ = some (.int .i64 st) := (cellsB (i := 8) s_7.out).trans rfl
  have L11_9 : w7.cell? ⟨w.heap.size, 9, none⟩ = some (.int .i64 re) := (cellsB (i := 9) s_7.out).trans rfl
  have L11_10 : w7.cell? ⟨w.heap.size, 10, none⟩ = some (.int .i64 si) := (cellsB (i := 10) s_7.out).trans rfl
  go_wp2_with fail
  refine (H6.out _).mono ?_
  rintro e w8 ⟨rfl, q⟩
  have s_8 := Lib.hid (blk0 s_7.out q)
  have x_8 := Lib.hid (blk0 x_7.out q)
  have y_8 := Lib.hid (blk0 y_7.out q)
  have t_8 := Lib.hid (blk0 t_7.out q)
  have u_8 := Lib.hid (blk0 u_7.out q)
  have v_8 := Lib.hid (blk0 v_7.out q)
  have B8 := Lib.hid (bel0 B7.out B7.out.size q)
  clear q s_7 x_7 y_7 t_7 u_7 v_7 B7
  clear L8_0 L8_1 L8_2 L8_3 L8_4 L8_5 L8_6 L8_7 L8_8 L8_9 L8_10 L9_0 L9_1 L9_2 L9_3 L9_4 L9_5 L9_6 L9_7 L9_8 L9_9 L9_10 L10_0 L10_1 L10_2 L10_3 L10_4 L10_5 L10_6 L10_7 L10_8 L10_9 L10_10 L11_0 L11_1 L11_2 L11_3 L11_4 L11_5 L11_6 L11_7 L11_8 L11_9 L11_10
  have L12_0 : w8.cell? ⟨w.heap.size, 0, none⟩ = some (.int .i64 b) := (cellsB (i := 0) s_8.out).trans rfl
  have L12_1 : w8.cell? ⟨w.heap.size, 1, none⟩ = some (.int .i64 c) := (cellsB (i := 1) s_8.out).trans rfl
  have L12_2 : w8.cell? ⟨w.heap.size, 2, none⟩ = some (.int .i64 d) := (cellsB (i := 2) s_8.out).trans rfl
  have L12_3 : w8.cell? ⟨w.heap.size, 3, none⟩ = some (.int .i64 m0) := (cellsB (i := 3) s_8.out).trans rfl
  have L12_4 : w8.cell? ⟨w.heap.size, 4, none⟩ = some (.int .i64 m1) := (cellsB (i := 4) s_8.out).trans rfl
  have L12_5 : w8.cell? ⟨w.heap.size, 5, none⟩ = some (.int .i64 m2) := (cellsB (i := 5) s_8.out).trans rfl
  have L12_6 : w8.cell? ⟨w.heap.size, 6, none⟩ = some (.int .i64 p) := (cellsB (i := 6) s_8.out).trans rfl
  have L12_7 : w8.cell? ⟨w.heap.size, 7, none⟩ = some (.int .i64 ph) := (cellsB (i := 7) s_8.out).trans rfl
  have L12_8 : w8.cell? ⟨w.heap.size, 8, none⟩ = some (.int .i64 st) := (cellsB (i := 8) s_8.out).trans rfl
  have L12_9 : w8.cell? ⟨w.heap.size, 9, none⟩ = some (.int .i64 re) := (cellsB (i := 9) s_8.out).trans rfl
  have L12_10 : w8.cell? ⟨w.heap.size, 10, none⟩ = some (.int .i64 si) := (cellsB (i := 10) s_8.out).trans rfl
  go_wp2_with fail
  refine (H7.out _).mono ?_
  rintro e w9 ⟨rfl, q⟩
  have s_9 := Lib.hid (blk0 s_8.out q)
  have x_9 := Lib.hid (blk0 x_8.out q)
  have y_9 := Lib.hid (blk0 y_8.out q)
  have t_9 := Lib.hid (blk0 t_8.out q)
  have u_9 := Lib.hid (blk0 u_8.out q)
  have v_9 := Lib.hid (blk0 v_8.out q)
  have B9 := Lib.hid (bel0 B8.out B8.out.size q)
  clear q s_8 x_8 y_8 t_8 u_8 v_8 B8
  clear L12_0 L12_1 L12_2 L12_3 L12_4 L12_5 L12_6 L12_7 L12_8 L12_9 L12_10
  go_wp2
  go_ret
  exact ⟨rfl, B9.out⟩
theorem sgturned_walk (s : S11) (x : A6) (answer now : Int) (w : World) : Calls Try.prog 8 #[s.val, x.val, .int .i64 answer, .int .i64 now] w fun e w' => e = .returned (.bool true) ∧ Below w.heap.size w w' := by
  by_cases h : MayS s
  · exact sgturned_may s x answer now w h
  · exact sgturned_not s x answer now w h
end Go.Proofs.Ytplgodfhhlnojaa
