/- SagaL, SagaO, merged. -/
import Derived.Test.YtplgodfhhlnojaaS2
import Derived.Outline
set_option linter.unusedSimpArgs false
set_option linter.unusedVariables false
/- saga.Late, walked (printed by gensagaf.py). -/
namespace Go.Proofs.Ytplgodfhhlnojaa
open Go.RowKit
set_option maxRecDepth 100000 in
set_option maxHeartbeats 4000000 in
theorem late1 (s : S11) (now : Int) (w : World) : Calls Try.prog 30 #[s.val, .int .i64 now] w fun e w' => e = .returned (.tuple #[(lateS s now).1.val, .bool (lateS s now).2]) ∧ Below w.heap.size w w' := by
  obtain ⟨⟨b, c, d, m0, m1, m2, p⟩, ph, st, re, si⟩ := s
  cases hw : decide (MayS ⟨⟨b, c, d, m0, m1, m2, p⟩, ph, st, re, si⟩)
  · unfold S11.val
    simp only
    obtain ⟨f1, f2, f3⟩ := two_boxes w (.cells #[.int .i64 b, .int .i64 c, .int .i64 d, .int .i64 m0, .int .i64 m1, .int .i64 m2, .int .i64 p, .int .i64 ph, .int .i64 st, .int .i64 re, .int .i64 si] 26) (.cells #[.int .i64 0, .int .i64 0, .int .i64 0, .int .i64 0, .int .i64 0, .int .i64 0, .int .i64 0, .int .i64 0, .int .i64 0, .int .i64 0, .int .i64 0] 26)
    have S0 := Lib.hid f1
    have R0 := Lib.hid f2
    have B0 := Lib.hid f3
    clear f1 f2 f3
    have HM := Lib.hid (fun W => smay_is ⟨⟨b, c, d, m0, m1, m2, p⟩, ph, st, re, si⟩ false hw W)
    unfold S11.val at HM
    simp only at HM
    have HW := Lib.hid hw
    clear hw
    go_enter Try.func30, Try.ntmps30
    go_wp2_with fail
    refine (HM.out _).mono ?_
    rintro e w1 ⟨rfl, q⟩
    have S1 := Lib.hid (blk0 S0.out q)
    have R1 := Lib.hid (blk0 R0.out q)
    have B1 := Lib.hid (bel0 B0.out B0.out.size q)
    clear q 
    have a0 : w1.cell? ⟨w.heap.size, 0, none⟩ = some (.int .i64 b) := (cellsB (i := 0) S1.out).trans rfl
    have a1 : w1.cell? ⟨w.heap.size, 1, none⟩ = some (.int .i64 c) := (cellsB (i := 1) S1.out).trans rfl
    have a2 : w1.cell? ⟨w.heap.size, 2, none⟩ = some (.int .i64 d) := (cellsB (i := 2) S1.out).trans rfl
    have a3 : w1.cell? ⟨w.heap.size, 3, none⟩ = some (.int .i64 m0) := (cellsB (i := 3) S1.out).trans rfl
    have a4 : w1.cell? ⟨w.heap.size, 4, none⟩ = some (.int .i64 m1) := (cellsB (i := 4) S1.out).trans rfl
    have a5 : w1.cell? ⟨w.heap.size, 5, none⟩ = some (.int .i64 m2) := (cellsB (i := 5) S1.out).trans rfl
    have a6 : w1.cell? ⟨w.heap.size, 6, none⟩ = some (.int .i64 p) := (cellsB (i := 6) S1.out).trans rfl
    have a7 : w1.cell? ⟨w.heap.size, 7, none⟩ = some (.int .i64 ph) := (cellsB (i := 7) S1.out).trans rfl
    have a8 : w1.cell? ⟨w.heap.size, 8, none⟩ = some (.int .i64 st) := (cellsB (i := 8) S1.out).trans rfl
    have a9 : w1.cell? ⟨w.heap.size, 9, none⟩ = some (.int .i64 re) := (cellsB (i := 9) S1.out).trans rfl
    have a10 : w1.cell? ⟨w.heap.size, 10, none⟩ = some (.int .i64 si) := (cellsB (i := 10) S1.out).trans rfl
    have z0 : w1.cell? ⟨(w.heap.size + 1), 0, none⟩ = some (.int .i64 0) := (cellsB (i := 0) R1.out).trans rfl
    have z1 : w1.cell? ⟨(w.heap.size + 1), 1, none⟩ = some (.int .i64 0) := (cellsB (i := 1) R1.out).trans rfl
    have z2 : w1.cell? ⟨(w.heap.size + 1), 2, none⟩ = some (.int .i64 0) := (cellsB (i := 2) R1.out).trans rfl
    have z3 : w1.cell? ⟨(w.heap.size + 1), 3, none⟩ = some (.int .i64 0) := (cellsB (i := 3) R1.out).trans rfl
    have z4 : w1.cell? ⟨(w.heap.size + 1), 4, none⟩ = some (.int .i64 0) := (cellsB (i := 4) R1.out).trans rfl
    have z5 : w1.cell? ⟨(w.heap.size + 1), 5, none⟩ = some (.int .i64 0) := (cellsB (i := 5) R1.out).trans rfl
    have z6 : w1.cell? ⟨(w.heap.size + 1), 6, none⟩ = some (.int .i64 0) := (cellsB (i := 6) R1.out).trans rfl
    have z7 : w1.cell? ⟨(w.heap.size + 1), 7, none⟩ = some (.int .i64 0) := (cellsB (i := 7) R1.out).trans rfl
    have z8 : w1.cell? ⟨(w.heap.size + 1), 8, none⟩ = some (.int .i64 0) := (cellsB (i := 8) R1.out).trans rfl
    have z9 : w1.cell? ⟨(w.heap.size + 1), 9, none⟩ = some (.int .i64 0) := (cellsB (i := 9) R1.out).trans rfl
    have z10 : w1.cell? ⟨(w.heap.size + 1), 10, none⟩ = some (.int .i64 0) := (cellsB (i := 10) R1.out).trans rfl
    have y0 : w1.frozen? ⟨(w.heap.size + 1), 0, none⟩ = false := frozB R1.out
    have y1 : w1.frozen? ⟨(w.heap.size + 1), 1, none⟩ = false := frozB R1.out
    have y2 : w1.frozen? ⟨(w.heap.size + 1), 2, none⟩ = false := frozB R1.out
    have y3 : w1.frozen? ⟨(w.heap.size + 1), 3, none⟩ = false := frozB R1.out
    have y4 : w1.frozen? ⟨(w.heap.size + 1), 4, none⟩ = false := frozB R1.out
    have y5 : w1.frozen? ⟨(w.heap.size + 1), 5, none⟩ = false := frozB R1.out
    have y6 : w1.frozen? ⟨(w.heap.size + 1), 6, none⟩ = false := frozB R1.out
    have y7 : w1.frozen? ⟨(w.heap.size + 1), 7, none⟩ = false := frozB R1.out
    have y8 : w1.frozen? ⟨(w.heap.size + 1), 8, none⟩ = false := frozB R1.out
    have y9 : w1.frozen? ⟨(w.heap.size + 1), 9, none⟩ = false := frozB R1.out
    have y10 : w1.frozen? ⟨(w.heap.size + 1), 10, none⟩ = false := frozB R1.out
    go_wp2
    refine bodyPost_ret (v := .tuple #[.agg #[.int .i64 b, .int .i64 c, .int .i64 d, .int .i64 m0, .int .i64 m1, .int .i64 m2, .int .i64 p, .int .i64 ph, .int .i64 st, .int .i64 re, .int .i64 si], .bool false]) (by simp [results, Try.results30, go_sem, z0, z1, z2, z3, z4, z5, z6, z7, z8, z9, z10]) rfl ?_
    refine ⟨?_, ?_⟩
    · rw [lateS, if_neg (fun h => of_decide_eq_false HW.out h.1)]; try rfl
    · repeat (refine belowS ?_ (by omega))
      exact B1.out
  have hs := (of_decide_eq_true hw).2.1
  simp only at hs
  by_cases hp : ph = 1
  · subst hp
    by_cases hd : d = 0
    · subst hd
      unfold S11.val
      simp only
      obtain ⟨f1, f2, f3⟩ := two_boxes w (.cells #[.int .i64 b, .int .i64 c, .int .i64 0, .int .i64 m0, .int .i64 m1, .int .i64 m2, .int .i64 p, .int .i64 1, .int .i64 st, .int .i64 re, .int .i64 si] 26) (.cells #[.int .i64 0, .int .i64 0, .int .i64 0, .int .i64 0, .int .i64 0, .int .i64 0, .int .i64 0, .int .i64 0, .int .i64 0, .int .i64 0, .int .i64 0] 26)
      have S0 := Lib.hid f1
      have R0 := Lib.hid f2
      have B0 := Lib.hid f3
      clear f1 f2 f3
      have HM := Lib.hid (fun W => smay_is ⟨⟨b, c, 0, m0, m1, m2, p⟩, 1, st, re, si⟩ true hw W)
      unfold S11.val at HM
      simp only at HM
      have HW := Lib.hid hw
      clear hw
      go_enter Try.func30, Try.ntmps30
      go_wp2_with fail
      refine (HM.out _).mono ?_
      rintro e w1 ⟨rfl, q⟩
      have S1 := Lib.hid (blk0 S0.out q)
      have R1 := Lib.hid (blk0 R0.out q)
      have B1 := Lib.hid (bel0 B0.out B0.out.size q)
      clear q 
      have a0 : w1.cell? ⟨w.heap.size, 0, none⟩ = some (.int .i64 b) := (cellsB (i := 0) S1.out).trans rfl
      have a1 : w1.cell? ⟨w.heap.size, 1, none⟩ = some (.int .i64 c) := (cellsB (i := 1) S1.out).trans rfl
      have a2 : w1.cell? ⟨w.heap.size, 2, none⟩ = some (.int .i64 0) := (cellsB (i := 2) S1.out).trans rfl
      have a3 : w1.cell? ⟨w.heap.size, 3, none⟩ = some (.int .i64 m0) := (cellsB (i := 3) S1.out).trans rfl
      have a4 : w1.cell? ⟨w.heap.size, 4, none⟩ = some (.int .i64 m1) := (cellsB (i := 4) S1.out).trans rfl
      have a5 : w1.cell? ⟨w.heap.size, 5, none⟩ = some (.int .i64 m2) := (cellsB (i := 5) S1.out).trans rfl
      have a6 : w1.cell? ⟨w.heap.size, 6, none⟩ = some (.int .i64 p) := (cellsB (i := 6) S1.out).trans rfl
      have a7 : w1.cell? ⟨w.heap.size, 7, none⟩ = some (.int .i64 1) := (cellsB (i := 7) S1.out).trans rfl
      have a8 : w1.cell? ⟨w.heap.size, 8, none⟩ = some (.int .i64 st) := (cellsB (i := 8) S1.out).trans rfl
      have a9 : w1.cell? ⟨w.heap.size, 9, none⟩ = some (.int .i64 re) := (cellsB (i := 9) S1.out).trans rfl
      have a10 : w1.cell? ⟨w.heap.size, 10, none⟩ = some (.int .i64 si) := (cellsB (i := 10) S1.out).trans rfl
      have z0 : w1.cell? ⟨(w.heap.size + 1), 0, none⟩ = some (.int .i64 0) := (cellsB (i := 0) R1.out).trans rfl
      have z1 : w1.cell? ⟨(w.heap.size + 1), 1, none⟩ = some (.int .i64 0) := (cellsB (i := 1) R1.out).trans rfl
      have z2 : w1.cell? ⟨(w.heap.size + 1), 2, none⟩ = some (.int .i64 0) := (cellsB (i := 2) R1.out).trans rfl
      have z3 : w1.cell? ⟨(w.heap.size + 1), 3, none⟩ = some (.int .i64 0) := (cellsB (i := 3) R1.out).trans rfl
      have z4 : w1.cell? ⟨(w.heap.size + 1), 4, none⟩ = some (.int .i64 0) := (cellsB (i := 4) R1.out).trans rfl
      have z5 : w1.cell? ⟨(w.heap.size + 1), 5, none⟩ = some (.int .i64 0) := (cellsB (i := 5) R1.out).trans rfl
      have z6 : w1.cell? ⟨(w.heap.size + 1), 6, none⟩ = some (.int .i64 0) := (cellsB (i := 6) R1.out).trans rfl
      have z7 : w1.cell? ⟨(w.heap.size + 1), 7, none⟩ = some (.int .i64 0) := (cellsB (i := 7) R1.out).trans rfl
      have z8 : w1.cell? ⟨(w.heap.size + 1), 8, none⟩ = some (.int .i64 0) := (cellsB (i := 8) R1.out).trans rfl
      have z9 : w1.cell? ⟨(w.heap.size + 1), 9, none⟩ = some (.int .i64 0) := (cellsB (i := 9) R1.out).trans rfl
      have z10 : w1.cell? ⟨(w.heap.size + 1), 10, none⟩ = some (.int .i64 0) := (cellsB (i := 10) R1.out).trans rfl
      have y0 : w1.frozen? ⟨(w.heap.size + 1), 0, none⟩ = false := frozB R1.out
      have y1 : w1.frozen? ⟨(w.heap.size + 1), 1, none⟩ = false := frozB R1.out
      have y2 : w1.frozen? ⟨(w.heap.size + 1), 2, none⟩ = false := frozB R1.out
      have y3 : w1.frozen? ⟨(w.heap.size + 1), 3, none⟩ = false := frozB R1.out
      have y4 : w1.frozen? ⟨(w.heap.size + 1), 4, none⟩ = false := frozB R1.out
      have y5 : w1.frozen? ⟨(w.heap.size + 1), 5, none⟩ = false := frozB R1.out
      have y6 : w1.frozen? ⟨(w.heap.size + 1), 6, none⟩ = false := frozB R1.out
      have y7 : w1.frozen? ⟨(w.heap.size + 1), 7, none⟩ = false := frozB R1.out
      have y8 : w1.frozen? ⟨(w.heap.size + 1), 8, none⟩ = false := frozB R1.out
      have y9 : w1.frozen? ⟨(w.heap.size + 1), 9, none⟩ = false := frozB R1.out
      have y10 : w1.frozen? ⟨(w.heap.size + 1), 10, none⟩ = false := frozB R1.out
      go_wp2
      refine bodyPost_ret (v := .tuple #[.agg #[.int .i64 b, .int .i64 c, .int .i64 0, .int .i64 m0, .int .i64 m1, .int .i64 m2, .int .i64 p, .int .i64 1, .int .i64 st, .int .i64 re, .int .i64 si], .bool false]) (by simp [results, Try.results30, go_sem, z0, z1, z2, z3, z4, z5, z6, z7, z8, z9, z10]) rfl ?_
      refine ⟨?_, ?_⟩
      · rw [lateS, if_neg (fun h => by obtain ⟨_, g1, g2, g3, g4, g5⟩ := h; (try simp only at g1 g2 g3 g4 g5); exact g2 rfl)]; try rfl
      · repeat (refine belowS ?_ (by omega))
        exact B1.out
    have hd0 : (d == 0) = false := beq_eq_false_iff_ne.2 hd
    by_cases hx : 1099511627776 < now
    · unfold S11.val
      simp only
      obtain ⟨f1, f2, f3⟩ := two_boxes w (.cells #[.int .i64 b, .int .i64 c, .int .i64 d, .int .i64 m0, .int .i64 m1, .int .i64 m2, .int .i64 p, .int .i64 1, .int .i64 st, .int .i64 re, .int .i64 si] 26) (.cells #[.int .i64 0, .int .i64 0, .int .i64 0, .int .i64 0, .int .i64 0, .int .i64 0, .int .i64 0, .int .i64 0, .int .i64 0, .int .i64 0, .int .i64 0] 26)
      have S0 := Lib.hid f1
      have R0 := Lib.hid f2
      have B0 := Lib.hid f3
      clear f1 f2 f3
      have HM := Lib.hid (fun W => smay_is ⟨⟨b, c, d, m0, m1, m2, p⟩, 1, st, re, si⟩ true hw W)
      unfold S11.val at HM
      simp only at HM
      have HW := Lib.hid hw
      clear hw
      go_enter Try.func30, Try.ntmps30
      go_wp2_with fail
      refine (HM.out _).mono ?_
      rintro e w1 ⟨rfl, q⟩
      have S1 := Lib.hid (blk0 S0.out q)
      have R1 := Lib.hid (blk0 R0.out q)
      have B1 := Lib.hid (bel0 B0.out B0.out.size q)
      clear q 
      have a0 : w1.cell? ⟨w.heap.size, 0, none⟩ = some (.int .i64 b) := (cellsB (i := 0) S1.out).trans rfl
      have a1 : w1.cell? ⟨w.heap.size, 1, none⟩ = some (.int .i64 c) := (cellsB (i := 1) S1.out).trans rfl
      have a2 : w1.cell? ⟨w.heap.size, 2, none⟩ = some (.int .i64 d) := (cellsB (i := 2) S1.out).trans rfl
      have a3 : w1.cell? ⟨w.heap.size, 3, none⟩ = some (.int .i64 m0) := (cellsB (i := 3) S1.out).trans rfl
      have a4 : w1.cell? ⟨w.heap.size, 4, none⟩ = some (.int .i64 m1) := (cellsB (i := 4) S1.out).trans rfl
      have a5 : w1.cell? ⟨w.heap.size, 5, none⟩ = some (.int .i64 m2) := (cellsB (i := 5) S1.out).trans rfl
      have a6 : w1.cell? ⟨w.heap.size, 6, none⟩ = some (.int .i64 p) := (cellsB (i := 6) S1.out).trans rfl
      have a7 : w1.cell? ⟨w.heap.size, 7, none⟩ = some (.int .i64 1) := (cellsB (i := 7) S1.out).trans rfl
      have a8 : w1.cell? ⟨w.heap.size, 8, none⟩ = some (.int .i64 st) := (cellsB (i := 8) S1.out).trans rfl
      have a9 : w1.cell? ⟨w.heap.size, 9, none⟩ = some (.int .i64 re) := (cellsB (i := 9) S1.out).trans rfl
      have a10 : w1.cell? ⟨w.heap.size, 10, none⟩ = some (.int .i64 si) := (cellsB (i := 10) S1.out).trans rfl
      have z0 : w1.cell? ⟨(w.heap.size + 1), 0, none⟩ = some (.int .i64 0) := (cellsB (i := 0) R1.out).trans rfl
      have z1 : w1.cell? ⟨(w.heap.size + 1), 1, none⟩ = some (.int .i64 0) := (cellsB (i := 1) R1.out).trans rfl
      have z2 : w1.cell? ⟨(w.heap.size + 1), 2, none⟩ = some (.int .i64 0) := (cellsB (i := 2) R1.out).trans rfl
      have z3 : w1.cell? ⟨(w.heap.size + 1), 3, none⟩ = some (.int .i64 0) := (cellsB (i := 3) R1.out).trans rfl
      have z4 : w1.cell? ⟨(w.heap.size + 1), 4, none⟩ = some (.int .i64 0) := (cellsB (i := 4) R1.out).trans rfl
      have z5 : w1.cell? ⟨(w.heap.size + 1), 5, none⟩ = some (.int .i64 0) := (cellsB (i := 5) R1.out).trans rfl
      have z6 : w1.cell? ⟨(w.heap.size + 1), 6, none⟩ = some (.int .i64 0) := (cellsB (i := 6) R1.out).trans rfl
      have z7 : w1.cell? ⟨(w.heap.size + 1), 7, none⟩ = some (.int .i64 0) := (cellsB (i := 7) R1.out).trans rfl
      have z8 : w1.cell? ⟨(w.heap.size + 1), 8, none⟩ = some (.int .i64 0) := (cellsB (i := 8) R1.out).trans rfl
      have z9 : w1.cell? ⟨(w.heap.size + 1), 9, none⟩ = some (.int .i64 0) := (cellsB (i := 9) R1.out).trans rfl
      have z10 : w1.cell? ⟨(w.heap.size + 1), 10, none⟩ = some (.int .i64 0) := (cellsB (i := 10) R1.out).trans rfl
      have y0 : w1.frozen? ⟨(w.heap.size + 1), 0, none⟩ = false := frozB R1.out
      have y1 : w1.frozen? ⟨(w.heap.size + 1), 1, none⟩ = false := frozB R1.out
      have y2 : w1.frozen? ⟨(w.heap.size + 1), 2, none⟩ = false := frozB R1.out
      have y3 : w1.frozen? ⟨(w.heap.size + 1), 3, none⟩ = false := frozB R1.out
      have y4 : w1.frozen? ⟨(w.heap.size + 1), 4, none⟩ = false := frozB R1.out
      have y5 : w1.frozen? ⟨(w.heap.size + 1), 5, none⟩ = false := frozB R1.out
      have y6 : w1.frozen? ⟨(w.heap.size + 1), 6, none⟩ = false := frozB R1.out
      have y7 : w1.frozen? ⟨(w.heap.size + 1), 7, none⟩ = false := frozB R1.out
      have y8 : w1.frozen? ⟨(w.heap.size + 1), 8, none⟩ = false := frozB R1.out
      have y9 : w1.frozen? ⟨(w.heap.size + 1), 9, none⟩ = false := frozB R1.out
      have y10 : w1.frozen? ⟨(w.heap.size + 1), 10, none⟩ = false := frozB R1.out
      go_wp2
      refine bodyPost_ret (v := .tuple #[.agg #[.int .i64 b, .int .i64 c, .int .i64 d, .int .i64 m0, .int .i64 m1, .int .i64 m2, .int .i64 p, .int .i64 1, .int .i64 st, .int .i64 re, .int .i64 si], .bool false]) (by simp [results, Try.results30, go_sem, z0, z1, z2, z3, z4, z5, z6, z7, z8, z9, z10]) rfl ?_
      refine ⟨?_, ?_⟩
      · rw [lateS, if_neg (fun h => by obtain ⟨_, g1, g2, g3, g4, g5⟩ := h; (try simp only at g1 g2 g3 g4 g5); omega)]; try rfl
      · repeat (refine belowS ?_ (by omega))
        exact B1.out
    by_cases hn : now < si
    · obtain ⟨v, hv⟩ : ∃ v, IntKind.i64.wrap (now - si) = v := ⟨_, rfl⟩
      by_cases hvd : v < d
      · unfold S11.val
        simp only
        obtain ⟨f1, f2, f3⟩ := two_boxes w (.cells #[.int .i64 b, .int .i64 c, .int .i64 d, .int .i64 m0, .int .i64 m1, .int .i64 m2, .int .i64 p, .int .i64 1, .int .i64 st, .int .i64 re, .int .i64 si] 26) (.cells #[.int .i64 0, .int .i64 0, .int .i64 0, .int .i64 0, .int .i64 0, .int .i64 0, .int .i64 0, .int .i64 0, .int .i64 0, .int .i64 0, .int .i64 0] 26)
        have S0 := Lib.hid f1
        have R0 := Lib.hid f2
        have B0 := Lib.hid f3
        clear f1 f2 f3
        have HM := Lib.hid (fun W => smay_is ⟨⟨b, c, d, m0, m1, m2, p⟩, 1, st, re, si⟩ true hw W)
        unfold S11.val at HM
        simp only at HM
        have HW := Lib.hid hw
        clear hw
        go_enter Try.func30, Try.ntmps30
        go_wp2_with fail
        refine (HM.out _).mono ?_
        rintro e w1 ⟨rfl, q⟩
        have S1 := Lib.hid (blk0 S0.out q)
        have R1 := Lib.hid (blk0 R0.out q)
        have B1 := Lib.hid (bel0 B0.out B0.out.size q)
        clear q 
        have a0 : w1.cell? ⟨w.heap.size, 0, none⟩ = some (.int .i64 b) := (cellsB (i := 0) S1.out).trans rfl
        have a1 : w1.cell? ⟨w.heap.size, 1, none⟩ = some (.int .i64 c) := (cellsB (i := 1) S1.out).trans rfl
        have a2 : w1.cell? ⟨w.heap.size, 2, none⟩ = some (.int .i64 d) := (cellsB (i := 2) S1.out).trans rfl
        have a3 : w1.cell? ⟨w.heap.size, 3, none⟩ = some (.int .i64 m0) := (cellsB (i := 3) S1.out).trans rfl
        have a4 : w1.cell? ⟨w.heap.size, 4, none⟩ = some (.int .i64 m1) := (cellsB (i := 4) S1.out).trans rfl
        have a5 : w1.cell? ⟨w.heap.size, 5, none⟩ = some (.int .i64 m2) := (cellsB (i := 5) S1.out).trans rfl
        have a6 : w1.cell? ⟨w.heap.size, 6, none⟩ = some (.int .i64 p) := (cellsB (i := 6) S1.out).trans rfl
        have a7 : w1.cell? ⟨w.heap.size, 7, none⟩ = some (.int .i64 1) := (cellsB (i := 7) S1.out).trans rfl
        have a8 : w1.cell? ⟨w.heap.size, 8, none⟩ = some (.int .i64 st) := (cellsB (i := 8) S1.out).trans rfl
        have a9 : w1.cell? ⟨w.heap.size, 9, none⟩ = some (.int .i64 re) := (cellsB (i := 9) S1.out).trans rfl
        have a10 : w1.cell? ⟨w.heap.size, 10, none⟩ = some (.int .i64 si) := (cellsB (i := 10) S1.out).trans rfl
        have z0 : w1.cell? ⟨(w.heap.size + 1), 0, none⟩ = some (.int .i64 0) := (cellsB (i := 0) R1.out).trans rfl
        have z1 : w1.cell? ⟨(w.heap.size + 1), 1, none⟩ = some (.int .i64 0) := (cellsB (i := 1) R1.out).trans rfl
        have z2 : w1.cell? ⟨(w.heap.size + 1), 2, none⟩ = some (.int .i64 0) := (cellsB (i := 2) R1.out).trans rfl
        have z3 : w1.cell? ⟨(w.heap.size + 1), 3, none⟩ = some (.int .i64 0) := (cellsB (i := 3) R1.out).trans rfl
        have z4 : w1.cell? ⟨(w.heap.size + 1), 4, none⟩ = some (.int .i64 0) := (cellsB (i := 4) R1.out).trans rfl
        have z5 : w1.cell? ⟨(w.heap.size + 1), 5, none⟩ = some (.int .i64 0) := (cellsB (i := 5) R1.out).trans rfl
        have z6 : w1.cell? ⟨(w.heap.size + 1), 6, none⟩ = some (.int .i64 0) := (cellsB (i := 6) R1.out).trans rfl
        have z7 : w1.cell? ⟨(w.heap.size + 1), 7, none⟩ = some (.int .i64 0) := (cellsB (i := 7) R1.out).trans rfl
        have z8 : w1.cell? ⟨(w.heap.size + 1), 8, none⟩ = some (.int .i64 0) := (cellsB (i := 8) R1.out).trans rfl
        have z9 : w1.cell? ⟨(w.heap.size + 1), 9, none⟩ = some (.int .i64 0) := (cellsB (i := 9) R1.out).trans rfl
        have z10 : w1.cell? ⟨(w.heap.size + 1), 10, none⟩ = some (.int .i64 0) := (cellsB (i := 10) R1.out).trans rfl
        have y0 : w1.frozen? ⟨(w.heap.size + 1), 0, none⟩ = false := frozB R1.out
        have y1 : w1.frozen? ⟨(w.heap.size + 1), 1, none⟩ = false := frozB R1.out
        have y2 : w1.frozen? ⟨(w.heap.size + 1), 2, none⟩ = false := frozB R1.out
        have y3 : w1.frozen? ⟨(w.heap.size + 1), 3, none⟩ = false := frozB R1.out
        have y4 : w1.frozen? ⟨(w.heap.size + 1), 4, none⟩ = false := frozB R1.out
        have y5 : w1.frozen? ⟨(w.heap.size + 1), 5, none⟩ = false := frozB R1.out
        have y6 : w1.frozen? ⟨(w.heap.size + 1), 6, none⟩ = false := frozB R1.out
        have y7 : w1.frozen? ⟨(w.heap.size + 1), 7, none⟩ = false := frozB R1.out
        have y8 : w1.frozen? ⟨(w.heap.size + 1), 8, none⟩ = false := frozB R1.out
        have y9 : w1.frozen? ⟨(w.heap.size + 1), 9, none⟩ = false := frozB R1.out
        have y10 : w1.frozen? ⟨(w.heap.size + 1), 10, none⟩ = false := frozB R1.out
        go_wp2
        refine bodyPost_ret (v := .tuple #[.agg #[.int .i64 b, .int .i64 c, .int .i64 d, .int .i64 m0, .int .i64 m1, .int .i64 m2, .int .i64 p, .int .i64 1, .int .i64 st, .int .i64 re, .int .i64 si], .bool false]) (by simp [results, Try.results30, go_sem, z0, z1, z2, z3, z4, z5, z6, z7, z8, z9, z10]) rfl ?_
        refine ⟨?_, ?_⟩
        · rw [lateS, if_neg (fun h => by obtain ⟨_, g1, g2, g3, g4, g5⟩ := h; (try simp only at g1 g2 g3 g4 g5); omega)]; try rfl
        · repeat (refine belowS ?_ (by omega))
          exact B1.out
      · unfold S11.val
        simp only
        obtain ⟨f1, f2, f3⟩ := two_boxes w (.cells #[.int .i64 b, .int .i64 c, .int .i64 d, .int .i64 m0, .int .i64 m1, .int .i64 m2, .int .i64 p, .int .i64 1, .int .i64 st, .int .i64 re, .int .i64 si] 26) (.cells #[.int .i64 0, .int .i64 0, .int .i64 0, .int .i64 0, .int .i64 0, .int .i64 0, .int .i64 0, .int .i64 0, .int .i64 0, .int .i64 0, .int .i64 0] 26)
        have S0 := Lib.hid f1
        have R0 := Lib.hid f2
        have B0 := Lib.hid f3
        clear f1 f2 f3
        have HM := Lib.hid (fun W => smay_is ⟨⟨b, c, d, m0, m1, m2, p⟩, 1, st, re, si⟩ true hw W)
        unfold S11.val at HM
        simp only at HM
        have HW := Lib.hid hw
        clear hw
        go_enter Try.func30, Try.ntmps30
        go_wp2_with fail
        refine (HM.out _).mono ?_
        rintro e w1 ⟨rfl, q⟩
        have S1 := Lib.hid (blk0 S0.out q)
        have R1 := Lib.hid (blk0 R0.out q)
        have B1 := Lib.hid (bel0 B0.out B0.out.size q)
        clear q 
        have a0 : w1.cell? ⟨w.heap.size, 0, none⟩ = some (.int .i64 b) := (cellsB (i := 0) S1.out).trans rfl
        have a1 : w1.cell? ⟨w.heap.size, 1, none⟩ = some (.int .i64 c) := (cellsB (i := 1) S1.out).trans rfl
        have a2 : w1.cell? ⟨w.heap.size, 2, none⟩ = some (.int .i64 d) := (cellsB (i := 2) S1.out).trans rfl
        have a3 : w1.cell? ⟨w.heap.size, 3, none⟩ = some (.int .i64 m0) := (cellsB (i := 3) S1.out).trans rfl
        have a4 : w1.cell? ⟨w.heap.size, 4, none⟩ = some (.int .i64 m1) := (cellsB (i := 4) S1.out).trans rfl
        have a5 : w1.cell? ⟨w.heap.size, 5, none⟩ = some (.int .i64 m2) := (cellsB (i := 5) S1.out).trans rfl
        have a6 : w1.cell? ⟨w.heap.size, 6, none⟩ = some (.int .i64 p) := (cellsB (i := 6) S1.out).trans rfl
        have a7 : w1.cell? ⟨w.heap.size, 7, none⟩ = some (.int .i64 1) := (cellsB (i := 7) S1.out).trans rfl
        have a8 : w1.cell? ⟨w.heap.size, 8, none⟩ = some (.int .i64 st) := (cellsB (i := 8) S1.out).trans rfl
        have a9 : w1.cell? ⟨w.heap.size, 9, none⟩ = some (.int .i64 re) := (cellsB (i := 9) S1.out).trans rfl
        have a10 : w1.cell? ⟨w.heap.size, 10, none⟩ = some (.int .i64 si) := (cellsB (i := 10) S1.out).trans rfl
        have z0 : w1.cell? ⟨(w.heap.size + 1), 0, none⟩ = some (.int .i64 0) := (cellsB (i := 0) R1.out).trans rfl
        have z1 : w1.cell? ⟨(w.heap.size + 1), 1, none⟩ = some (.int .i64 0) := (cellsB (i := 1) R1.out).trans rfl
        have z2 : w1.cell? ⟨(w.heap.size + 1), 2, none⟩ = some (.int .i64 0) := (cellsB (i := 2) R1.out).trans rfl
        have z3 : w1.cell? ⟨(w.heap.size + 1), 3, none⟩ = some (.int .i64 0) := (cellsB (i := 3) R1.out).trans rfl
        have z4 : w1.cell? ⟨(w.heap.size + 1), 4, none⟩ = some (.int .i64 0) := (cellsB (i := 4) R1.out).trans rfl
        have z5 : w1.cell? ⟨(w.heap.size + 1), 5, none⟩ = some (.int .i64 0) := (cellsB (i := 5) R1.out).trans rfl
        have z6 : w1.cell? ⟨(w.heap.size + 1), 6, none⟩ = some (.int .i64 0) := (cellsB (i := 6) R1.out).trans rfl
        have z7 : w1.cell? ⟨(w.heap.size + 1), 7, none⟩ = some (.int .i64 0) := (cellsB (i := 7) R1.out).trans rfl
        have z8 : w1.cell? ⟨(w.heap.size + 1), 8, none⟩ = some (.int .i64 0) := (cellsB (i := 8) R1.out).trans rfl
        have z9 : w1.cell? ⟨(w.heap.size + 1), 9, none⟩ = some (.int .i64 0) := (cellsB (i := 9) R1.out).trans rfl
        have z10 : w1.cell? ⟨(w.heap.size + 1), 10, none⟩ = some (.int .i64 0) := (cellsB (i := 10) R1.out).trans rfl
        have y0 : w1.frozen? ⟨(w.heap.size + 1), 0, none⟩ = false := frozB R1.out
        have y1 : w1.frozen? ⟨(w.heap.size + 1), 1, none⟩ = false := frozB R1.out
        have y2 : w1.frozen? ⟨(w.heap.size + 1), 2, none⟩ = false := frozB R1.out
        have y3 : w1.frozen? ⟨(w.heap.size + 1), 3, none⟩ = false := frozB R1.out
        have y4 : w1.frozen? ⟨(w.heap.size + 1), 4, none⟩ = false := frozB R1.out
        have y5 : w1.frozen? ⟨(w.heap.size + 1), 5, none⟩ = false := frozB R1.out
        have y6 : w1.frozen? ⟨(w.heap.size + 1), 6, none⟩ = false := frozB R1.out
        have y7 : w1.frozen? ⟨(w.heap.size + 1), 7, none⟩ = false := frozB R1.out
        have y8 : w1.frozen? ⟨(w.heap.size + 1), 8, none⟩ = false := frozB R1.out
        have y9 : w1.frozen? ⟨(w.heap.size + 1), 9, none⟩ = false := frozB R1.out
        have y10 : w1.frozen? ⟨(w.heap.size + 1), 10, none⟩ = false := frozB R1.out
        go_wp2
        refine bodyPost_ret (v := .tuple #[.agg #[.int .i64 b, .int .i64 c, .int .i64 d, .int .i64 m0, .int .i64 m1, .int .i64 m2, .int .i64 p, .int .i64 1, .int .i64 st, .int .i64 re, .int .i64 si], .bool false]) (by simp [results, Try.results30, go_sem, z0, z1, z2, z3, z4, z5, z6, z7, z8, z9, z10]) rfl ?_
        refine ⟨?_, ?_⟩
        · rw [lateS, if_neg (fun h => by obtain ⟨_, g1, g2, g3, g4, g5⟩ := h; (try simp only at g1 g2 g3 g4 g5); omega)]; try rfl
        · repeat (refine belowS ?_ (by omega))
          exact B1.out
    obtain ⟨v, hv0⟩ : ∃ v, now - si = v := ⟨_, rfl⟩
    have hv : IntKind.i64.wrap (now - si) = v := by rw [← hv0]; exact IntWalk.i64_in _ (by omega)
    by_cases hvd : v < d
    · unfold S11.val
      simp only
      obtain ⟨f1, f2, f3⟩ := two_boxes w (.cells #[.int .i64 b, .int .i64 c, .int .i64 d, .int .i64 m0, .int .i64 m1, .int .i64 m2, .int .i64 p, .int .i64 1, .int .i64 st, .int .i64 re, .int .i64 si] 26) (.cells #[.int .i64 0, .int .i64 0, .int .i64 0, .int .i64 0, .int .i64 0, .int .i64 0, .int .i64 0, .int .i64 0, .int .i64 0, .int .i64 0, .int .i64 0] 26)
      have S0 := Lib.hid f1
      have R0 := Lib.hid f2
      have B0 := Lib.hid f3
      clear f1 f2 f3
      have HM := Lib.hid (fun W => smay_is ⟨⟨b, c, d, m0, m1, m2, p⟩, 1, st, re, si⟩ true hw W)
      unfold S11.val at HM
      simp only at HM
      have HW := Lib.hid hw
      clear hw
      go_enter Try.func30, Try.ntmps30
      go_wp2_with fail
      refine (HM.out _).mono ?_
      rintro e w1 ⟨rfl, q⟩
      have S1 := Lib.hid (blk0 S0.out q)
      have R1 := Lib.hid (blk0 R0.out q)
      have B1 := Lib.hid (bel0 B0.out B0.out.size q)
      clear q 
      have a0 : w1.cell? ⟨w.heap.size, 0, none⟩ = some (.int .i64 b) := (cellsB (i := 0) S1.out).trans rfl
      have a1 : w1.cell? ⟨w.heap.size, 1, none⟩ = some (.int .i64 c) := (cellsB (i := 1) S1.out).trans rfl
      have a2 : w1.cell? ⟨w.heap.size, 2, none⟩ = some (.int .i64 d) := (cellsB (i := 2) S1.out).trans rfl
      have a3 : w1.cell? ⟨w.heap.size, 3, none⟩ = some (.int .i64 m0) := (cellsB (i := 3) S1.out).trans rfl
      have a4 : w1.cell? ⟨w.heap.size, 4, none⟩ = some (.int .i64 m1) := (cellsB (i := 4) S1.out).trans rfl
      have a5 : w1.cell? ⟨w.heap.size, 5, none⟩ = some (.int .i64 m2) := (cellsB (i := 5) S1.out).trans rfl
      have a6 : w1.cell? ⟨w.heap.size, 6, none⟩ = some (.int .i64 p) := (cellsB (i := 6) S1.out).trans rfl
      have a7 : w1.cell? ⟨w.heap.size, 7, none⟩ = some (.int .i64 1) := (cellsB (i := 7) S1.out).trans rfl
      have a8 : w1.cell? ⟨w.heap.size, 8, none⟩ = some (.int .i64 st) := (cellsB (i := 8) S1.out).trans rfl
      have a9 : w1.cell? ⟨w.heap.size, 9, none⟩ = some (.int .i64 re) := (cellsB (i := 9) S1.out).trans rfl
      have a10 : w1.cell? ⟨w.heap.size, 10, none⟩ = some (.int .i64 si) := (cellsB (i := 10) S1.out).trans rfl
      have z0 : w1.cell? ⟨(w.heap.size + 1), 0, none⟩ = some (.int .i64 0) := (cellsB (i := 0) R1.out).trans rfl
      have z1 : w1.cell? ⟨(w.heap.size + 1), 1, none⟩ = some (.int .i64 0) := (cellsB (i := 1) R1.out).trans rfl
      have z2 : w1.cell? ⟨(w.heap.size + 1), 2, none⟩ = some (.int .i64 0) := (cellsB (i := 2) R1.out).trans rfl
      have z3 : w1.cell? ⟨(w.heap.size + 1), 3, none⟩ = some (.int .i64 0) := (cellsB (i := 3) R1.out).trans rfl
      have z4 : w1.cell? ⟨(w.heap.size + 1), 4, none⟩ = some (.int .i64 0) := (cellsB (i := 4) R1.out).trans rfl
      have z5 : w1.cell? ⟨(w.heap.size + 1), 5, none⟩ = some (.int .i64 0) := (cellsB (i := 5) R1.out).trans rfl
      have z6 : w1.cell? ⟨(w.heap.size + 1), 6, none⟩ = some (.int .i64 0) := (cellsB (i := 6) R1.out).trans rfl
      have z7 : w1.cell? ⟨(w.heap.size + 1), 7, none⟩ = some (.int .i64 0) := (cellsB (i := 7) R1.out).trans rfl
      have z8 : w1.cell? ⟨(w.heap.size + 1), 8, none⟩ = some (.int .i64 0) := (cellsB (i := 8) R1.out).trans rfl
      have z9 : w1.cell? ⟨(w.heap.size + 1), 9, none⟩ = some (.int .i64 0) := (cellsB (i := 9) R1.out).trans rfl
      have z10 : w1.cell? ⟨(w.heap.size + 1), 10, none⟩ = some (.int .i64 0) := (cellsB (i := 10) R1.out).trans rfl
      have y0 : w1.frozen? ⟨(w.heap.size + 1), 0, none⟩ = false := frozB R1.out
      have y1 : w1.frozen? ⟨(w.heap.size + 1), 1, none⟩ = false := frozB R1.out
      have y2 : w1.frozen? ⟨(w.heap.size + 1), 2, none⟩ = false := frozB R1.out
      have y3 : w1.frozen? ⟨(w.heap.size + 1), 3, none⟩ = false := frozB R1.out
      have y4 : w1.frozen? ⟨(w.heap.size + 1), 4, none⟩ = false := frozB R1.out
      have y5 : w1.frozen? ⟨(w.heap.size + 1), 5, none⟩ = false := frozB R1.out
      have y6 : w1.frozen? ⟨(w.heap.size + 1), 6, none⟩ = false := frozB R1.out
      have y7 : w1.frozen? ⟨(w.heap.size + 1), 7, none⟩ = false := frozB R1.out
      have y8 : w1.frozen? ⟨(w.heap.size + 1), 8, none⟩ = false := frozB R1.out
      have y9 : w1.frozen? ⟨(w.heap.size + 1), 9, none⟩ = false := frozB R1.out
      have y10 : w1.frozen? ⟨(w.heap.size + 1), 10, none⟩ = false := frozB R1.out
      go_wp2
      refine bodyPost_ret (v := .tuple #[.agg #[.int .i64 b, .int .i64 c, .int .i64 d, .int .i64 m0, .int .i64 m1, .int .i64 m2, .int .i64 p, .int .i64 1, .int .i64 st, .int .i64 re, .int .i64 si], .bool false]) (by simp [results, Try.results30, go_sem, z0, z1, z2, z3, z4, z5, z6, z7, z8, z9, z10]) rfl ?_
      refine ⟨?_, ?_⟩
      · rw [lateS, if_neg (fun h => by obtain ⟨_, g1, g2, g3, g4, g5⟩ := h; (try simp only at g1 g2 g3 g4 g5); omega)]; try rfl
      · repeat (refine belowS ?_ (by omega))
        exact B1.out
    have HK := Lib.hid (fun W => back1 ⟨⟨b, c, d, m0, m1, m2, p⟩, 1, st, re, si⟩ 3 W)
    unfold backS at HK
    unfold S11.val at HK ⊢
    simp only at HK ⊢
    obtain ⟨f1, f2, f3⟩ := two_boxes w (.cells #[.int .i64 b, .int .i64 c, .int .i64 d, .int .i64 m0, .int .i64 m1, .int .i64 m2, .int .i64 p, .int .i64 1, .int .i64 st, .int .i64 re, .int .i64 si] 26) (.cells #[.int .i64 0, .int .i64 0, .int .i64 0, .int .i64 0, .int .i64 0, .int .i64 0, .int .i64 0, .int .i64 0, .int .i64 0, .int .i64 0, .int .i64 0] 26)
    have S0 := Lib.hid f1
    have R0 := Lib.hid f2
    have B0 := Lib.hid f3
    clear f1 f2 f3
    have HM := Lib.hid (fun W => smay_is ⟨⟨b, c, d, m0, m1, m2, p⟩, 1, st, re, si⟩ true hw W)
    unfold S11.val at HM
    simp only at HM
    have HW := Lib.hid hw
    clear hw
    go_enter Try.func30, Try.ntmps30
    go_wp2_with fail
    refine (HM.out _).mono ?_
    rintro e w1 ⟨rfl, q⟩
    have S1 := Lib.hid (blk0 S0.out q)
    have R1 := Lib.hid (blk0 R0.out q)
    have B1 := Lib.hid (bel0 B0.out B0.out.size q)
    clear q 
    have a0 : w1.cell? ⟨w.heap.size, 0, none⟩ = some (.int .i64 b) := (cellsB (i := 0) S1.out).trans rfl
    have a1 : w1.cell? ⟨w.heap.size, 1, none⟩ = some (.int .i64 c) := (cellsB (i := 1) S1.out).trans rfl
    have a2 : w1.cell? ⟨w.heap.size, 2, none⟩ = some (.int .i64 d) := (cellsB (i := 2) S1.out).trans rfl
    have a3 : w1.cell? ⟨w.heap.size, 3, none⟩ = some (.int .i64 m0) := (cellsB (i := 3) S1.out).trans rfl
    have a4 : w1.cell? ⟨w.heap.size, 4, none⟩ = some (.int .i64 m1) := (cellsB (i := 4) S1.out).trans rfl
    have a5 : w1.cell? ⟨w.heap.size, 5, none⟩ = some (.int .i64 m2) := (cellsB (i := 5) S1.out).trans rfl
    have a6 : w1.cell? ⟨w.heap.size, 6, none⟩ = some (.int .i64 p) := (cellsB (i := 6) S1.out).trans rfl
    have a7 : w1.cell? ⟨w.heap.size, 7, none⟩ = some (.int .i64 1) := (cellsB (i := 7) S1.out).trans rfl
    have a8 : w1.cell? ⟨w.heap.size, 8, none⟩ = some (.int .i64 st) := (cellsB (i := 8) S1.out).trans rfl
    have a9 : w1.cell? ⟨w.heap.size, 9, none⟩ = some (.int .i64 re) := (cellsB (i := 9) S1.out).trans rfl
    have a10 : w1.cell? ⟨w.heap.size, 10, none⟩ = some (.int .i64 si) := (cellsB (i := 10) S1.out).trans rfl
    go_wp2_with fail
    refine (HK.out _).mono ?_
    rintro e w2 ⟨rfl, q⟩
    have S2 := Lib.hid (blk0 S1.out q)
    have R2 := Lib.hid (blk0 R1.out q)
    have B2 := Lib.hid (bel0 B1.out B1.out.size q)
    clear q 
    clear a0 a1 a2 a3 a4 a5 a6 a7 a8 a9 a10
    have z0 : w2.cell? ⟨(w.heap.size + 1), 0, none⟩ = some (.int .i64 0) := (cellsB (i := 0) R2.out).trans rfl
    have z1 : w2.cell? ⟨(w.heap.size + 1), 1, none⟩ = some (.int .i64 0) := (cellsB (i := 1) R2.out).trans rfl
    have z2 : w2.cell? ⟨(w.heap.size + 1), 2, none⟩ = some (.int .i64 0) := (cellsB (i := 2) R2.out).trans rfl
    have z3 : w2.cell? ⟨(w.heap.size + 1), 3, none⟩ = some (.int .i64 0) := (cellsB (i := 3) R2.out).trans rfl
    have z4 : w2.cell? ⟨(w.heap.size + 1), 4, none⟩ = some (.int .i64 0) := (cellsB (i := 4) R2.out).trans rfl
    have z5 : w2.cell? ⟨(w.heap.size + 1), 5, none⟩ = some (.int .i64 0) := (cellsB (i := 5) R2.out).trans rfl
    have z6 : w2.cell? ⟨(w.heap.size + 1), 6, none⟩ = some (.int .i64 0) := (cellsB (i := 6) R2.out).trans rfl
    have z7 : w2.cell? ⟨(w.heap.size + 1), 7, none⟩ = some (.int .i64 0) := (cellsB (i := 7) R2.out).trans rfl
    have z8 : w2.cell? ⟨(w.heap.size + 1), 8, none⟩ = some (.int .i64 0) := (cellsB (i := 8) R2.out).trans rfl
    have z9 : w2.cell? ⟨(w.heap.size + 1), 9, none⟩ = some (.int .i64 0) := (cellsB (i := 9) R2.out).trans rfl
    have z10 : w2.cell? ⟨(w.heap.size + 1), 10, none⟩ = some (.int .i64 0) := (cellsB (i := 10) R2.out).trans rfl
    have y0 : w2.frozen? ⟨(w.heap.size + 1), 0, none⟩ = false := frozB R2.out
    have y1 : w2.frozen? ⟨(w.heap.size + 1), 1, none⟩ = false := frozB R2.out
    have y2 : w2.frozen? ⟨(w.heap.size + 1), 2, none⟩ = false := frozB R2.out
    have y3 : w2.frozen? ⟨(w.heap.size + 1), 3, none⟩ = false := frozB R2.out
    have y4 : w2.frozen? ⟨(w.heap.size + 1), 4, none⟩ = false := frozB R2.out
    have y5 : w2.frozen? ⟨(w.heap.size + 1), 5, none⟩ = false := frozB R2.out
    have y6 : w2.frozen? ⟨(w.heap.size + 1), 6, none⟩ = false := frozB R2.out
    have y7 : w2.frozen? ⟨(w.heap.size + 1), 7, none⟩ = false := frozB R2.out
    have y8 : w2.frozen? ⟨(w.heap.size + 1), 8, none⟩ = false := frozB R2.out
    have y9 : w2.frozen? ⟨(w.heap.size + 1), 9, none⟩ = false := frozB R2.out
    have y10 : w2.frozen? ⟨(w.heap.size + 1), 10, none⟩ = false := frozB R2.out
    go_wp2
    refine bodyPost_ret (v := .tuple #[.agg #[.int .i64 b, .int .i64 c, .int .i64 d, .int .i64 m0, .int .i64 m1, .int .i64 m2, .int .i64 p, .int .i64 3, .int .i64 0, .int .i64 3, .int .i64 si], .bool true]) (by simp [results, Try.results30, go_sem, z0, z1, z2, z3, z4, z5, z6, z7, z8, z9, z10]) rfl ?_
    refine ⟨?_, ?_⟩
    · rw [lateS, if_pos ⟨of_decide_eq_true HW.out, rfl, hd, by (try simp only); omega, by (try simp only); omega, by (try simp only); omega⟩]; try rfl
    · repeat (refine belowS ?_ (by omega))
      exact B2.out
  have hp1 : (ph == 1) = false := beq_eq_false_iff_ne.2 hp
  unfold S11.val
  simp only
  obtain ⟨f1, f2, f3⟩ := two_boxes w (.cells #[.int .i64 b, .int .i64 c, .int .i64 d, .int .i64 m0, .int .i64 m1, .int .i64 m2, .int .i64 p, .int .i64 ph, .int .i64 st, .int .i64 re, .int .i64 si] 26) (.cells #[.int .i64 0, .int .i64 0, .int .i64 0, .int .i64 0, .int .i64 0, .int .i64 0, .int .i64 0, .int .i64 0, .int .i64 0, .int .i64 0, .int .i64 0] 26)
  have S0 := Lib.hid f1
  have R0 := Lib.hid f2
  have B0 := Lib.hid f3
  clear f1 f2 f3
  have HM := Lib.hid (fun W => smay_is ⟨⟨b, c, d, m0, m1, m2, p⟩, ph, st, re, si⟩ true hw W)
  unfold S11.val at HM
  simp only at HM
  have HW := Lib.hid hw
  clear hw
  go_enter Try.func30, Try.ntmps30
  go_wp2_with fail
  refine (HM.out _).mono ?_
  rintro e w1 ⟨rfl, q⟩
  have S1 := Lib.hid (blk0 S0.out q)
  have R1 := Lib.hid (blk0 R0.out q)
  have B1 := Lib.hid (bel0 B0.out B0.out.size q)
  clear q 
  have a0 : w1.cell? ⟨w.heap.size, 0, none⟩ = some (.int .i64 b) := (cellsB (i := 0) S1.out).trans rfl
  have a1 : w1.cell? ⟨w.heap.size, 1, none⟩ = some (.int .i64 c) := (cellsB (i := 1) S1.out).trans rfl
  have a2 : w1.cell? ⟨w.heap.size, 2, none⟩ = some (.int .i64 d) := (cellsB (i := 2) S1.out).trans rfl
  have a3 : w1.cell? ⟨w.heap.size, 3, none⟩ = some (.int .i64 m0) := (cellsB (i := 3) S1.out).trans rfl
  have a4 : w1.cell? ⟨w.heap.size, 4, none⟩ = some (.int .i64 m1) := (cellsB (i := 4) S1.out).trans rfl
  have a5 : w1.cell? ⟨w.heap.size, 5, none⟩ = some (.int .i64 m2) := (cellsB (i := 5) S1.out).trans rfl
  have a6 : w1.cell? ⟨w.heap.size, 6, none⟩ = some (.int .i64 p) := (cellsB (i := 6) S1.out).trans rfl
  have a7 : w1.cell? ⟨w.heap.size, 7, none⟩ = some (.int .i64 ph) := (cellsB (i := 7) S1.out).trans rfl
  have a8 : w1.cell? ⟨w.heap.size, 8, none⟩ = some (.int .i64 st) := (cellsB (i := 8) S1.out).trans rfl
  have a9 : w1.cell? ⟨w.heap.size, 9, none⟩ = some (.int .i64 re) := (cellsB (i := 9) S1.out).trans rfl
  have a10 : w1.cell? ⟨w.heap.size, 10, none⟩ = some (.int .i64 si) := (cellsB (i := 10) S1.out).trans rfl
  have z0 : w1.cell? ⟨(w.heap.size + 1), 0, none⟩ = some (.int .i64 0) := (cellsB (i := 0) R1.out).trans rfl
  have z1 : w1.cell? ⟨(w.heap.size + 1), 1, none⟩ = some (.int .i64 0) := (cellsB (i := 1) R1.out).trans rfl
  have z2 : w1.cell? ⟨(w.heap.size + 1), 2, none⟩ = some (.int .i64 0) := (cellsB (i := 2) R1.out).trans rfl
  have z3 : w1.cell? ⟨(w.heap.size + 1), 3, none⟩ = some (.int .i64 0) := (cellsB (i := 3) R1.out).trans rfl
  have z4 : w1.cell? ⟨(w.heap.size + 1), 4, none⟩ = some (.int .i64 0) := (cellsB (i := 4) R1.out).trans rfl
  have z5 : w1.cell? ⟨(w.heap.size + 1), 5, none⟩ = some (.int .i64 0) := (cellsB (i := 5) R1.out).trans rfl
  have z6 : w1.cell? ⟨(w.heap.size + 1), 6, none⟩ = some (.int .i64 0) := (cellsB (i := 6) R1.out).trans rfl
  have z7 : w1.cell? ⟨(w.heap.size + 1), 7, none⟩ = some (.int .i64 0) := (cellsB (i := 7) R1.out).trans rfl
  have z8 : w1.cell? ⟨(w.heap.size + 1), 8, none⟩ = some (.int .i64 0) := (cellsB (i := 8) R1.out).trans rfl
  have z9 : w1.cell? ⟨(w.heap.size + 1), 9, none⟩ = some (.int .i64 0) := (cellsB (i := 9) R1.out).trans rfl
  have z10 : w1.cell? ⟨(w.heap.size + 1), 10, none⟩ = some (.int .i64 0) := (cellsB (i := 10) R1.out).trans rfl
  have y0 : w1.frozen? ⟨(w.heap.size + 1), 0, none⟩ = false := frozB R1.out
  have y1 : w1.frozen? ⟨(w.heap.size + 1), 1, none⟩ = false := frozB R1.out
  have y2 : w1.frozen? ⟨(w.heap.size + 1), 2, none⟩ = false := frozB R1.out
  have y3 : w1.frozen? ⟨(w.heap.size + 1), 3, none⟩ = false := frozB R1.out
  have y4 : w1.frozen? ⟨(w.heap.size + 1), 4, none⟩ = false := frozB R1.out
  have y5 : w1.frozen? ⟨(w.heap.size + 1), 5, none⟩ = false := frozB R1.out
  have y6 : w1.frozen? ⟨(w.heap.size + 1), 6, none⟩ = false := frozB R1.out
  have y7 : w1.frozen? ⟨(w.heap.size + 1), 7, none⟩ = false := frozB R1.out
  have y8 : w1.frozen? ⟨(w.heap.size + 1), 8, none⟩ = false := frozB R1.out
  have y9 : w1.frozen? ⟨(w.heap.size + 1), 9, none⟩ = false := frozB R1.out
  have y10 : w1.frozen? ⟨(w.heap.size + 1), 10, none⟩ = false := frozB R1.out
  go_wp2
  refine bodyPost_ret (v := .tuple #[.agg #[.int .i64 b, .int .i64 c, .int .i64 d, .int .i64 m0, .int .i64 m1, .int .i64 m2, .int .i64 p, .int .i64 ph, .int .i64 st, .int .i64 re, .int .i64 si], .bool false]) (by simp [results, Try.results30, go_sem, z0, z1, z2, z3, z4, z5, z6, z7, z8, z9, z10]) rfl ?_
  refine ⟨?_, ?_⟩
  · rw [lateS, if_neg (fun h => hp h.2.1)]; try rfl
  · repeat (refine belowS ?_ (by omega))
    exact B1.out
end Go.Proofs.Ytplgodfhhlnojaa

/- saga.Over, saga.Tells, walked (printed by gensagaf.py). -/
namespace Go.Proofs.Ytplgodfhhlnojaa
open Go.RowKit
set_option maxRecDepth 100000 in
set_option maxHeartbeats 1000000 in
theorem over1 (s : S11) (w : World) : Calls Try.prog 25 #[s.val] w fun e w' => e = .returned (.bool (decide (MayS s ∧ (s.ph = 4 ∨ s.ph = 5)))) ∧ Below w.heap.size w w' := by
  obtain ⟨⟨b, c, d, m0, m1, m2, p⟩, ph, st, re, si⟩ := s
  cases hw : decide (MayS ⟨⟨b, c, d, m0, m1, m2, p⟩, ph, st, re, si⟩)
  · unfold S11.val
    simp only
    obtain ⟨f1, f3⟩ := one_box w (.cells #[.int .i64 b, .int .i64 c, .int .i64 d, .int .i64 m0, .int .i64 m1, .int .i64 m2, .int .i64 p, .int .i64 ph, .int .i64 st, .int .i64 re, .int .i64 si] 26)
    have S0 := Lib.hid f1
    have B0 := Lib.hid f3
    clear f1 f3
    have HM := Lib.hid (fun W => smay_is ⟨⟨b, c, d, m0, m1, m2, p⟩, ph, st, re, si⟩ false hw W)
    unfold S11.val at HM
    simp only at HM
    have HW := Lib.hid hw
    clear hw
    go_enter Try.func25, Try.ntmps25
    go_wp2_with fail
    refine (HM.out _).mono ?_
    rintro e w1 ⟨rfl, q⟩
    have S1 := Lib.hid (blk0 S0.out q)
    have B1 := Lib.hid (bel0 B0.out B0.out.size q)
    clear q 
    have a0 : w1.cell? ⟨w.heap.size, 0, none⟩ = some (.int .i64 b) := (cellsB (i := 0) S1.out).trans rfl
    have a1 : w1.cell? ⟨w.heap.size, 1, none⟩ = some (.int .i64 c) := (cellsB (i := 1) S1.out).trans rfl
    have a2 : w1.cell? ⟨w.heap.size, 2, none⟩ = some (.int .i64 d) := (cellsB (i := 2) S1.out).trans rfl
    have a3 : w1.cell? ⟨w.heap.size, 3, none⟩ = some (.int .i64 m0) := (cellsB (i := 3) S1.out).trans rfl
    have a4 : w1.cell? ⟨w.heap.size, 4, none⟩ = some (.int .i64 m1) := (cellsB (i := 4) S1.out).trans rfl
    have a5 : w1.cell? ⟨w.heap.size, 5, none⟩ = some (.int .i64 m2) := (cellsB (i := 5) S1.out).trans rfl
    have a6 : w1.cell? ⟨w.heap.size, 6, none⟩ = some (.int .i64 p) := (cellsB (i := 6) S1.out).trans rfl
    have a7 : w1.cell? ⟨w.heap.size, 7, none⟩ = some (.int .i64 ph) := (cellsB (i := 7) S1.out).trans rfl
    have a8 : w1.cell? ⟨w.heap.size, 8, none⟩ = some (.int .i64 st) := (cellsB (i := 8) S1.out).trans rfl
    have a9 : w1.cell? ⟨w.heap.size, 9, none⟩ = some (.int .i64 re) := (cellsB (i := 9) S1.out).trans rfl
    have a10 : w1.cell? ⟨w.heap.size, 10, none⟩ = some (.int .i64 si) := (cellsB (i := 10) S1.out).trans rfl
    go_wp2
    go_ret
    exact ⟨ret_bool (decide_eq_false (show ¬ _ from fun h => of_decide_eq_false HW.out h.1)).symm, B1.out⟩
  by_cases h4 : ph = 4
  · subst h4
    unfold S11.val
    simp only
    obtain ⟨f1, f3⟩ := one_box w (.cells #[.int .i64 b, .int .i64 c, .int .i64 d, .int .i64 m0, .int .i64 m1, .int .i64 m2, .int .i64 p, .int .i64 4, .int .i64 st, .int .i64 re, .int .i64 si] 26)
    have S0 := Lib.hid f1
    have B0 := Lib.hid f3
    clear f1 f3
    have HM := Lib.hid (fun W => smay_is ⟨⟨b, c, d, m0, m1, m2, p⟩, 4, st, re, si⟩ true hw W)
    unfold S11.val at HM
    simp only at HM
    have HW := Lib.hid hw
    clear hw
    go_enter Try.func25, Try.ntmps25
    go_wp2_with fail
    refine (HM.out _).mono ?_
    rintro e w1 ⟨rfl, q⟩
    have S1 := Lib.hid (blk0 S0.out q)
    have B1 := Lib.hid (bel0 B0.out B0.out.size q)
    clear q 
    have a0 : w1.cell? ⟨w.heap.size, 0, none⟩ = some (.int .i64 b) := (cellsB (i := 0) S1.out).trans rfl
    have a1 : w1.cell? ⟨w.heap.size, 1, none⟩ = some (.int .i64 c) := (cellsB (i := 1) S1.out).trans rfl
    have a2 : w1.cell? ⟨w.heap.size, 2, none⟩ = some (.int .i64 d) := (cellsB (i := 2) S1.out).trans rfl
    have a3 : w1.cell? ⟨w.heap.size, 3, none⟩ = some (.int .i64 m0) := (cellsB (i := 3) S1.out).trans rfl
    have a4 : w1.cell? ⟨w.heap.size, 4, none⟩ = some (.int .i64 m1) := (cellsB (i := 4) S1.out).trans rfl
    have a5 : w1.cell? ⟨w.heap.size, 5, none⟩ = some (.int .i64 m2) := (cellsB (i := 5) S1.out).trans rfl
    have a6 : w1.cell? ⟨w.heap.size, 6, none⟩ = some (.int .i64 p) := (cellsB (i := 6) S1.out).trans rfl
    have a7 : w1.cell? ⟨w.heap.size, 7, none⟩ = some (.int .i64 4) := (cellsB (i := 7) S1.out).trans rfl
    have a8 : w1.cell? ⟨w.heap.size, 8, none⟩ = some (.int .i64 st) := (cellsB (i := 8) S1.out).trans rfl
    have a9 : w1.cell? ⟨w.heap.size, 9, none⟩ = some (.int .i64 re) := (cellsB (i := 9) S1.out).trans rfl
    have a10 : w1.cell? ⟨w.heap.size, 10, none⟩ = some (.int .i64 si) := (cellsB (i := 10) S1.out).trans rfl
    go_wp2
    go_ret
    exact ⟨ret_bool (decide_eq_true ⟨of_decide_eq_true HW.out, by simp⟩).symm, B1.out⟩
  by_cases h5 : ph = 5
  · subst h5
    unfold S11.val
    simp only
    obtain ⟨f1, f3⟩ := one_box w (.cells #[.int .i64 b, .int .i64 c, .int .i64 d, .int .i64 m0, .int .i64 m1, .int .i64 m2, .int .i64 p, .int .i64 5, .int .i64 st, .int .i64 re, .int .i64 si] 26)
    have S0 := Lib.hid f1
    have B0 := Lib.hid f3
    clear f1 f3
    have HM := Lib.hid (fun W => smay_is ⟨⟨b, c, d, m0, m1, m2, p⟩, 5, st, re, si⟩ true hw W)
    unfold S11.val at HM
    simp only at HM
    have HW := Lib.hid hw
    clear hw
    go_enter Try.func25, Try.ntmps25
    go_wp2_with fail
    refine (HM.out _).mono ?_
    rintro e w1 ⟨rfl, q⟩
    have S1 := Lib.hid (blk0 S0.out q)
    have B1 := Lib.hid (bel0 B0.out B0.out.size q)
    clear q 
    have a0 : w1.cell? ⟨w.heap.size, 0, none⟩ = some (.int .i64 b) := (cellsB (i := 0) S1.out).trans rfl
    have a1 : w1.cell? ⟨w.heap.size, 1, none⟩ = some (.int .i64 c) := (cellsB (i := 1) S1.out).trans rfl
    have a2 : w1.cell? ⟨w.heap.size, 2, none⟩ = some (.int .i64 d) := (cellsB (i := 2) S1.out).trans rfl
    have a3 : w1.cell? ⟨w.heap.size, 3, none⟩ = some (.int .i64 m0) := (cellsB (i := 3) S1.out).trans rfl
    have a4 : w1.cell? ⟨w.heap.size, 4, none⟩ = some (.int .i64 m1) := (cellsB (i := 4) S1.out).trans rfl
    have a5 : w1.cell? ⟨w.heap.size, 5, none⟩ = some (.int .i64 m2) := (cellsB (i := 5) S1.out).trans rfl
    have a6 : w1.cell? ⟨w.heap.size, 6, none⟩ = some (.int .i64 p) := (cellsB (i := 6) S1.out).trans rfl
    have a7 : w1.cell? ⟨w.heap.size, 7, none⟩ = some (.int .i64 5) := (cellsB (i := 7) S1.out).trans rfl
    have a8 : w1.cell? ⟨w.heap.size, 8, none⟩ = some (.int .i64 st) := (cellsB (i := 8) S1.out).trans rfl
    have a9 : w1.cell? ⟨w.heap.size, 9, none⟩ = some (.int .i64 re) := (cellsB (i := 9) S1.out).trans rfl
    have a10 : w1.cell? ⟨w.heap.size, 10, none⟩ = some (.int .i64 si) := (cellsB (i := 10) S1.out).trans rfl
    go_wp2
    go_ret
    exact ⟨ret_bool (decide_eq_true ⟨of_decide_eq_true HW.out, by simp⟩).symm, B1.out⟩
  have b4 : (ph == 4) = false := beq_eq_false_iff_ne.2 h4
  have b5 : (ph == 5) = false := beq_eq_false_iff_ne.2 h5
  unfold S11.val
  simp only
  obtain ⟨f1, f3⟩ := one_box w (.cells #[.int .i64 b, .int .i64 c, .int .i64 d, .int .i64 m0, .int .i64 m1, .int .i64 m2, .int .i64 p, .int .i64 ph, .int .i64 st, .int .i64 re, .int .i64 si] 26)
  have S0 := Lib.hid f1
  have B0 := Lib.hid f3
  clear f1 f3
  have HM := Lib.hid (fun W => smay_is ⟨⟨b, c, d, m0, m1, m2, p⟩, ph, st, re, si⟩ true hw W)
  unfold S11.val at HM
  simp only at HM
  have HW := Lib.hid hw
  clear hw
  go_enter Try.func25, Try.ntmps25
  go_wp2_with fail
  refine (HM.out _).mono ?_
  rintro e w1 ⟨rfl, q⟩
  have S1 := Lib.hid (blk0 S0.out q)
  have B1 := Lib.hid (bel0 B0.out B0.out.size q)
  clear q 
  have a0 : w1.cell? ⟨w.heap.size, 0, none⟩ = some (.int .i64 b) := (cellsB (i := 0) S1.out).trans rfl
  have a1 : w1.cell? ⟨w.heap.size, 1, none⟩ = some (.int .i64 c) := (cellsB (i := 1) S1.out).trans rfl
  have a2 : w1.cell? ⟨w.heap.size, 2, none⟩ = some (.int .i64 d) := (cellsB (i := 2) S1.out).trans rfl
  have a3 : w1.cell? ⟨w.heap.size, 3, none⟩ = some (.int .i64 m0) := (cellsB (i := 3) S1.out).trans rfl
  have a4 : w1.cell? ⟨w.heap.size, 4, none⟩ = some (.int .i64 m1) := (cellsB (i := 4) S1.out).trans rfl
  have a5 : w1.cell? ⟨w.heap.size, 5, none⟩ = some (.int .i64 m2) := (cellsB (i := 5) S1.out).trans rfl
  have a6 : w1.cell? ⟨w.heap.size, 6, none⟩ = some (.int .i64 p) := (cellsB (i := 6) S1.out).trans rfl
  have a7 : w1.cell? ⟨w.heap.size, 7, none⟩ = some (.int .i64 ph) := (cellsB (i := 7) S1.out).trans rfl
  have a8 : w1.cell? ⟨w.heap.size, 8, none⟩ = some (.int .i64 st) := (cellsB (i := 8) S1.out).trans rfl
  have a9 : w1.cell? ⟨w.heap.size, 9, none⟩ = some (.int .i64 re) := (cellsB (i := 9) S1.out).trans rfl
  have a10 : w1.cell? ⟨w.heap.size, 10, none⟩ = some (.int .i64 si) := (cellsB (i := 10) S1.out).trans rfl
  go_wp2
  go_ret
  exact ⟨ret_bool (decide_eq_false (show ¬ _ from fun h => by have g := h.2; (try simp only at g); omega)).symm, B1.out⟩
set_option maxRecDepth 100000 in
set_option maxHeartbeats 1000000 in
theorem tells1 (s : S11) (w : World) : Calls Try.prog 23 #[s.val] w fun e w' => e = .returned (.int .i64 (tellS s)) ∧ Below w.heap.size w w' := by
  obtain ⟨⟨b, c, d, m0, m1, m2, p⟩, ph, st, re, si⟩ := s
  cases hw : decide (MayS ⟨⟨b, c, d, m0, m1, m2, p⟩, ph, st, re, si⟩)
  · unfold S11.val
    simp only
    obtain ⟨f1, f3⟩ := one_box w (.cells #[.int .i64 b, .int .i64 c, .int .i64 d, .int .i64 m0, .int .i64 m1, .int .i64 m2, .int .i64 p, .int .i64 ph, .int .i64 st, .int .i64 re, .int .i64 si] 26)
    have S0 := Lib.hid f1
    have B0 := Lib.hid f3
    clear f1 f3
    have HM := Lib.hid (fun W => smay_is ⟨⟨b, c, d, m0, m1, m2, p⟩, ph, st, re, si⟩ false hw W)
    unfold S11.val at HM
    simp only at HM
    have HW := Lib.hid hw
    clear hw
    go_enter Try.func23, Try.ntmps23
    go_wp2_with fail
    refine (HM.out _).mono ?_
    rintro e w1 ⟨rfl, q⟩
    have S1 := Lib.hid (blk0 S0.out q)
    have B1 := Lib.hid (bel0 B0.out B0.out.size q)
    clear q 
    have a0 : w1.cell? ⟨w.heap.size, 0, none⟩ = some (.int .i64 b) := (cellsB (i := 0) S1.out).trans rfl
    have a1 : w1.cell? ⟨w.heap.size, 1, none⟩ = some (.int .i64 c) := (cellsB (i := 1) S1.out).trans rfl
    have a2 : w1.cell? ⟨w.heap.size, 2, none⟩ = some (.int .i64 d) := (cellsB (i := 2) S1.out).trans rfl
    have a3 : w1.cell? ⟨w.heap.size, 3, none⟩ = some (.int .i64 m0) := (cellsB (i := 3) S1.out).trans rfl
    have a4 : w1.cell? ⟨w.heap.size, 4, none⟩ = some (.int .i64 m1) := (cellsB (i := 4) S1.out).trans rfl
    have a5 : w1.cell? ⟨w.heap.size, 5, none⟩ = some (.int .i64 m2) := (cellsB (i := 5) S1.out).trans rfl
    have a6 : w1.cell? ⟨w.heap.size, 6, none⟩ = some (.int .i64 p) := (cellsB (i := 6) S1.out).trans rfl
    have a7 : w1.cell? ⟨w.heap.size, 7, none⟩ = some (.int .i64 ph) := (cellsB (i := 7) S1.out).trans rfl
    have a8 : w1.cell? ⟨w.heap.size, 8, none⟩ = some (.int .i64 st) := (cellsB (i := 8) S1.out).trans rfl
    have a9 : w1.cell? ⟨w.heap.size, 9, none⟩ = some (.int .i64 re) := (cellsB (i := 9) S1.out).trans rfl
    have a10 : w1.cell? ⟨w.heap.size, 10, none⟩ = some (.int .i64 si) := (cellsB (i := 10) S1.out).trans rfl
    go_wp2
    go_ret
    exact ⟨ret_int (by rw [tellS, if_pos (of_decide_eq_false HW.out)]), B1.out⟩
  by_cases h4 : ph = 4
  · subst h4
    unfold S11.val
    simp only
    obtain ⟨f1, f3⟩ := one_box w (.cells #[.int .i64 b, .int .i64 c, .int .i64 d, .int .i64 m0, .int .i64 m1, .int .i64 m2, .int .i64 p, .int .i64 4, .int .i64 st, .int .i64 re, .int .i64 si] 26)
    have S0 := Lib.hid f1
    have B0 := Lib.hid f3
    clear f1 f3
    have HM := Lib.hid (fun W => smay_is ⟨⟨b, c, d, m0, m1, m2, p⟩, 4, st, re, si⟩ true hw W)
    unfold S11.val at HM
    simp only at HM
    have HW := Lib.hid hw
    clear hw
    go_enter Try.func23, Try.ntmps23
    go_wp2_with fail
    refine (HM.out _).mono ?_
    rintro e w1 ⟨rfl, q⟩
    have S1 := Lib.hid (blk0 S0.out q)
    have B1 := Lib.hid (bel0 B0.out B0.out.size q)
    clear q 
    have a0 : w1.cell? ⟨w.heap.size, 0, none⟩ = some (.int .i64 b) := (cellsB (i := 0) S1.out).trans rfl
    have a1 : w1.cell? ⟨w.heap.size, 1, none⟩ = some (.int .i64 c) := (cellsB (i := 1) S1.out).trans rfl
    have a2 : w1.cell? ⟨w.heap.size, 2, none⟩ = some (.int .i64 d) := (cellsB (i := 2) S1.out).trans rfl
    have a3 : w1.cell? ⟨w.heap.size, 3, none⟩ = some (.int .i64 m0) := (cellsB (i := 3) S1.out).trans rfl
    have a4 : w1.cell? ⟨w.heap.size, 4, none⟩ = some (.int .i64 m1) := (cellsB (i := 4) S1.out).trans rfl
    have a5 : w1.cell? ⟨w.heap.size, 5, none⟩ = some (.int .i64 m2) := (cellsB (i := 5) S1.out).trans rfl
    have a6 : w1.cell? ⟨w.heap.size, 6, none⟩ = some (.int .i64 p) := (cellsB (i := 6) S1.out).trans rfl
    have a7 : w1.cell? ⟨w.heap.size, 7, none⟩ = some (.int .i64 4) := (cellsB (i := 7) S1.out).trans rfl
    have a8 : w1.cell? ⟨w.heap.size, 8, none⟩ = some (.int .i64 st) := (cellsB (i := 8) S1.out).trans rfl
    have a9 : w1.cell? ⟨w.heap.size, 9, none⟩ = some (.int .i64 re) := (cellsB (i := 9) S1.out).trans rfl
    have a10 : w1.cell? ⟨w.heap.size, 10, none⟩ = some (.int .i64 si) := (cellsB (i := 10) S1.out).trans rfl
    go_wp2
    go_ret
    exact ⟨ret_int (by rw [tellS, if_neg (fun h => h (of_decide_eq_true HW.out)), if_pos rfl]), B1.out⟩
  by_cases h5 : ph = 5
  · subst h5
    unfold S11.val
    simp only
    obtain ⟨f1, f3⟩ := one_box w (.cells #[.int .i64 b, .int .i64 c, .int .i64 d, .int .i64 m0, .int .i64 m1, .int .i64 m2, .int .i64 p, .int .i64 5, .int .i64 st, .int .i64 re, .int .i64 si] 26)
    have S0 := Lib.hid f1
    have B0 := Lib.hid f3
    clear f1 f3
    have HM := Lib.hid (fun W => smay_is ⟨⟨b, c, d, m0, m1, m2, p⟩, 5, st, re, si⟩ true hw W)
    unfold S11.val at HM
    simp only at HM
    have HW := Lib.hid hw
    clear hw
    go_enter Try.func23, Try.ntmps23
    go_wp2_with fail
    refine (HM.out _).mono ?_
    rintro e w1 ⟨rfl, q⟩
    have S1 := Lib.hid (blk0 S0.out q)
    have B1 := Lib.hid (bel0 B0.out B0.out.size q)
    clear q 
    have a0 : w1.cell? ⟨w.heap.size, 0, none⟩ = some (.int .i64 b) := (cellsB (i := 0) S1.out).trans rfl
    have a1 : w1.cell? ⟨w.heap.size, 1, none⟩ = some (.int .i64 c) := (cellsB (i := 1) S1.out).trans rfl
    have a2 : w1.cell? ⟨w.heap.size, 2, none⟩ = some (.int .i64 d) := (cellsB (i := 2) S1.out).trans rfl
    have a3 : w1.cell? ⟨w.heap.size, 3, none⟩ = some (.int .i64 m0) := (cellsB (i := 3) S1.out).trans rfl
    have a4 : w1.cell? ⟨w.heap.size, 4, none⟩ = some (.int .i64 m1) := (cellsB (i := 4) S1.out).trans rfl
    have a5 : w1.cell? ⟨w.heap.size, 5, none⟩ = some (.int .i64 m2) := (cellsB (i := 5) S1.out).trans rfl
    have a6 : w1.cell? ⟨w.heap.size, 6, none⟩ = some (.int .i64 p) := (cellsB (i := 6) S1.out).trans rfl
    have a7 : w1.cell? ⟨w.heap.size, 7, none⟩ = some (.int .i64 5) := (cellsB (i := 7) S1.out).trans rfl
    have a8 : w1.cell? ⟨w.heap.size, 8, none⟩ = some (.int .i64 st) := (cellsB (i := 8) S1.out).trans rfl
    have a9 : w1.cell? ⟨w.heap.size, 9, none⟩ = some (.int .i64 re) := (cellsB (i := 9) S1.out).trans rfl
    have a10 : w1.cell? ⟨w.heap.size, 10, none⟩ = some (.int .i64 si) := (cellsB (i := 10) S1.out).trans rfl
    go_wp2
    go_ret
    exact ⟨ret_int (by rw [tellS, if_neg (fun h => h (of_decide_eq_true HW.out)), if_neg (by simp), if_pos rfl]), B1.out⟩
  have b4 : (ph == 4) = false := beq_eq_false_iff_ne.2 h4
  have b5 : (ph == 5) = false := beq_eq_false_iff_ne.2 h5
  unfold S11.val
  simp only
  obtain ⟨f1, f3⟩ := one_box w (.cells #[.int .i64 b, .int .i64 c, .int .i64 d, .int .i64 m0, .int .i64 m1, .int .i64 m2, .int .i64 p, .int .i64 ph, .int .i64 st, .int .i64 re, .int .i64 si] 26)
  have S0 := Lib.hid f1
  have B0 := Lib.hid f3
  clear f1 f3
  have HM := Lib.hid (fun W => smay_is ⟨⟨b, c, d, m0, m1, m2, p⟩, ph, st, re, si⟩ true hw W)
  unfold S11.val at HM
  simp only at HM
  have HW := Lib.hid hw
  clear hw
  go_enter Try.func23, Try.ntmps23
  go_wp2_with fail
  refine (HM.out _).mono ?_
  rintro e w1 ⟨rfl, q⟩
  have S1 := Lib.hid (blk0 S0.out q)
  have B1 := Lib.hid (bel0 B0.out B0.out.size q)
  clear q 
  have a0 : w1.cell? ⟨w.heap.size, 0, none⟩ = some (.int .i64 b) := (cellsB (i := 0) S1.out).trans rfl
  have a1 : w1.cell? ⟨w.heap.size, 1, none⟩ = some (.int .i64 c) := (cellsB (i := 1) S1.out).trans rfl
  have a2 : w1.cell? ⟨w.heap.size, 2, none⟩ = some (.int .i64 d) := (cellsB (i := 2) S1.out).trans rfl
  have a3 : w1.cell? ⟨w.heap.size, 3, none⟩ = some (.int .i64 m0) := (cellsB (i := 3) S1.out).trans rfl
  have a4 : w1.cell? ⟨w.heap.size, 4, none⟩ = some (.int .i64 m1) := (cellsB (i := 4) S1.out).trans rfl
  have a5 : w1.cell? ⟨w.heap.size, 5, none⟩ = some (.int .i64 m2) := (cellsB (i := 5) S1.out).trans rfl
  have a6 : w1.cell? ⟨w.heap.size, 6, none⟩ = some (.int .i64 p) := (cellsB (i := 6) S1.out).trans rfl
  have a7 : w1.cell? ⟨w.heap.size, 7, none⟩ = some (.int .i64 ph) := (cellsB (i := 7) S1.out).trans rfl
  have a8 : w1.cell? ⟨w.heap.size, 8, none⟩ = some (.int .i64 st) := (cellsB (i := 8) S1.out).trans rfl
  have a9 : w1.cell? ⟨w.heap.size, 9, none⟩ = some (.int .i64 re) := (cellsB (i := 9) S1.out).trans rfl
  have a10 : w1.cell? ⟨w.heap.size, 10, none⟩ = some (.int .i64 si) := (cellsB (i := 10) S1.out).trans rfl
  go_wp2
  go_ret
  exact ⟨ret_int (by rw [tellS, if_neg (fun h => h (of_decide_eq_true HW.out)), if_neg h4, if_neg h5]), B1.out⟩
end Go.Proofs.Ytplgodfhhlnojaa
