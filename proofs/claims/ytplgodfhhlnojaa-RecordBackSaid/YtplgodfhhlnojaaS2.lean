/- SagaF, SagaN, merged. -/
import Derived.Test.YtplgodfhhlnojaaS1
import Derived.Outline
set_option linter.unusedSimpArgs false
set_option linter.unusedVariables false
/- Small functions of sagas, walked (printed by gensagaf.py). -/
namespace Go.Proofs.Ytplgodfhhlnojaa
open Go.RowKit
theorem smay_is (s : S11) (b : Bool) (h : decide (MayS s) = b) (w : World) : Calls Try.prog 20 #[s.val] w fun e w' => e = .returned (.bool b) ∧ Below w.heap.size w w' := h ▸ smay_c s w
set_option maxRecDepth 100000 in
set_option maxHeartbeats 1000000 in
theorem back1 (s : S11) (r : Int) (w : World) : Calls Try.prog 66 #[s.val, .int .i64 r] w fun e w' => e = .returned (.tuple #[(backS s r).val, .bool true]) ∧ Below w.heap.size w w' := by
  obtain ⟨⟨b, c, d, m0, m1, m2, p⟩, ph, st, re, si⟩ := s
  unfold S11.val backS
  simp only
  go_enter Try.func66, Try.ntmps66
  go_wp2
  refine bodyPost_ret (v := .tuple #[.agg #[.int .i64 b, .int .i64 c, .int .i64 d, .int .i64 m0, .int .i64 m1, .int .i64 m2, .int .i64 p, .int .i64 3, .int .i64 0, .int .i64 r, .int .i64 si], .bool true]) (by simp [results, Try.results66, go_sem]) rfl ?_
  refine ⟨rfl, ?_⟩
  repeat (first | (refine belowS ?_ (by omega)) | (refine belowS ?_ (by simp; omega)))
  exact ((Below.refl _ _).alloc (Nat.le_refl _) _).alloc (by simp) _
set_option maxRecDepth 100000 in
set_option maxHeartbeats 1000000 in
theorem new1_c (x : W7) (now : Int) (w : World) : Calls Try.prog 32 #[x.val, .int .i64 now] w fun e w' => e = .returned (.tuple #[(newS x now).1.val, .int .i64 (newS x now).2]) ∧ Below w.heap.size w w' := by
  obtain ⟨b, c, d, m0, m1, m2, p⟩ := x
  unfold W7.val
  simp only
  obtain ⟨f1, f2, f3⟩ := two_boxes w (.cells #[.int .i64 b, .int .i64 c, .int .i64 d, .int .i64 m0, .int .i64 m1, .int .i64 m2, .int .i64 p] 24) (.cells #[.int .i64 0, .int .i64 0, .int .i64 0, .int .i64 0, .int .i64 0, .int .i64 0, .int .i64 0, .int .i64 0, .int .i64 0, .int .i64 0, .int .i64 0] 26)
  have S0 := Lib.hid f1
  have R0 := Lib.hid f2
  have B0 := Lib.hid f3
  clear f1 f2 f3
  cases hw : decide (MayW ⟨b, c, d, m0, m1, m2, p⟩)
  · have HM := Lib.hid (fun W => may_is ⟨b, c, d, m0, m1, m2, p⟩ false hw W)
    unfold W7.val at HM
    simp only at HM
    have HW := Lib.hid hw
    clear hw
    go_enter Try.func32, Try.ntmps32
    go_wp2_with fail
    refine (HM.out _).mono ?_
    rintro e w1 ⟨rfl, q⟩
    have S1 := Lib.hid (blk0 S0.out q)
    have R1 := Lib.hid (blk0 R0.out q)
    have B1 := Lib.hid (bel0 B0.out B0.out.size q)
    clear q 
    have a0 : w1.cell? ⟨w.heap.size, 0, none⟩ = some (.int .i64 b) := (cellsB (i := 0) S1.out).trans rfl
    have a1 : w1.cell? ⟨w.heap.size, 1, none⟩ = some (.int .i64 c) := (cellsB (i := 1) S1.out).trans rfl
    have a2 : w1.cell? ⟨w.heap.size, 2, none⟩ = some (.int .i64 d) := (cellsB (i := 2) S1.out).trans rfl
    have a3 : w1.cell? ⟨w.heap.size, 3, none⟩ = some (.int .i64 m0) := (cellsB (i := 3) S1.out).trans rfl
    have a4 : w1.cell? ⟨w.heap.size, 4, none⟩ = some (.int .i64 m1) := (cellsB (i := 4) S1.out).trans rfl
    have a5 : w1.cell? ⟨w.heap.size, 5, none⟩ = some (.int .i64 m2) := (cellsB (i := 5) S1.out).trans rfl
    have a6 : w1.cell? ⟨w.heap.size, 6, none⟩ = some (.int .i64 p) := (cellsB (i := 6) S1.out).trans rfl
    have z0 : w1.cell? ⟨(w.heap.size + 1), 0, none⟩ = some (.int .i64 0) := (cellsB (i := 0) R1.out).trans rfl
    have z1 : w1.cell? ⟨(w.heap.size + 1), 1, none⟩ = some (.int .i64 0) := (cellsB (i := 1) R1.out).trans rfl
    have z2 : w1.cell? ⟨(w.heap.size + 1), 2, none⟩ = some (.int .i64 0) := (cellsB (i := 2) R1.out).trans rfl
    have z3 : w1.cell? ⟨(w.heap.size + 1), 3, none⟩ = some (.int .i64 0) := (cellsB (i := 3) R1.out).trans rfl
    have z4 : w1.cell? ⟨(w.heap.size + 1), 4, none⟩ = some (.int .i64 0) := (cellsB (i := 4) R1.out).trans rfl
    have z5 : w1.cell? ⟨(w.heap.size + 1), 5, none⟩ = some (.int .i64 0) := (cellsB (i := 5) R1.out).trans rfl
    have z6 : w1.cell? ⟨(w.heap.size + 1), 6, none⟩ = some (.int .i64 0) := (cellsB (i := 6) R1.out).trans rfl
    have z7 : w1.cell? ⟨(w.heap.size + 1), 7, none⟩ = some (.int .i64 0) := (cellsB (i := 7) R1.out).trans rfl
    have z8 : w1.cell? ⟨(w.heap.size + 1), 8, none⟩ = some (.int .i64 0) := (cellsB (i := 8) R1.out).trans rfl
    have z9 : w1.cell? ⟨(w.heap.size + 1), 9, none⟩ = some (.int .i64 0) := (cellsB (i := 9) R1.out).trans rfl
    have z10 : w1.cell? ⟨(w.heap.size + 1), 10, none⟩ = some (.int .i64 0) := (cellsB (i := 10) R1.out).trans rfl
    have y0 : w1.frozen? ⟨(w.heap.size + 1), 0, none⟩ = false := frozB R1.out
    have y1 : w1.frozen? ⟨(w.heap.size + 1), 1, none⟩ = false := frozB R1.out
    have y2 : w1.frozen? ⟨(w.heap.size + 1), 2, none⟩ = false := frozB R1.out
    have y3 : w1.frozen? ⟨(w.heap.size + 1), 3, none⟩ = false := frozB R1.out
    have y4 : w1.frozen? ⟨(w.heap.size + 1), 4, none⟩ = false := frozB R1.out
    have y5 : w1.frozen? ⟨(w.heap.size + 1), 5, none⟩ = false := frozB R1.out
    have y6 : w1.frozen? ⟨(w.heap.size + 1), 6, none⟩ = false := frozB R1.out
    have y7 : w1.frozen? ⟨(w.heap.size + 1), 7, none⟩ = false := frozB R1.out
    have y8 : w1.frozen? ⟨(w.heap.size + 1), 8, none⟩ = false := frozB R1.out
    have y9 : w1.frozen? ⟨(w.heap.size + 1), 9, none⟩ = false := frozB R1.out
    have y10 : w1.frozen? ⟨(w.heap.size + 1), 10, none⟩ = false := frozB R1.out
    go_wp2
    refine bodyPost_ret (v := .tuple #[.agg #[.int .i64 0, .int .i64 0, .int .i64 0, .int .i64 0, .int .i64 0, .int .i64 0, .int .i64 0, .int .i64 0, .int .i64 0, .int .i64 0, .int .i64 0], .int .i64 1]) (by simp [results, Try.results32, go_sem, z0, z1, z2, z3, z4, z5, z6, z7, z8, z9, z10]) rfl ?_
    refine ⟨?_, ?_⟩
    · rw [newS, if_neg (fun h => of_decide_eq_false HW.out h.1)]; try rfl
    · repeat (refine belowS ?_ (by omega))
      exact B1.out
  by_cases h7 : now < 0
  · have HM := Lib.hid (fun W => may_is ⟨b, c, d, m0, m1, m2, p⟩ true hw W)
    unfold W7.val at HM
    simp only at HM
    have HW := Lib.hid hw
    clear hw
    go_enter Try.func32, Try.ntmps32
    go_wp2_with fail
    refine (HM.out _).mono ?_
    rintro e w1 ⟨rfl, q⟩
    have S1 := Lib.hid (blk0 S0.out q)
    have R1 := Lib.hid (blk0 R0.out q)
    have B1 := Lib.hid (bel0 B0.out B0.out.size q)
    clear q 
    have a0 : w1.cell? ⟨w.heap.size, 0, none⟩ = some (.int .i64 b) := (cellsB (i := 0) S1.out).trans rfl
    have a1 : w1.cell? ⟨w.heap.size, 1, none⟩ = some (.int .i64 c) := (cellsB (i := 1) S1.out).trans rfl
    have a2 : w1.cell? ⟨w.heap.size, 2, none⟩ = some (.int .i64 d) := (cellsB (i := 2) S1.out).trans rfl
    have a3 : w1.cell? ⟨w.heap.size, 3, none⟩ = some (.int .i64 m0) := (cellsB (i := 3) S1.out).trans rfl
    have a4 : w1.cell? ⟨w.heap.size, 4, none⟩ = some (.int .i64 m1) := (cellsB (i := 4) S1.out).trans rfl
    have a5 : w1.cell? ⟨w.heap.size, 5, none⟩ = some (.int .i64 m2) := (cellsB (i := 5) S1.out).trans rfl
    have a6 : w1.cell? ⟨w.heap.size, 6, none⟩ = some (.int .i64 p) := (cellsB (i := 6) S1.out).trans rfl
    have z0 : w1.cell? ⟨(w.heap.size + 1), 0, none⟩ = some (.int .i64 0) := (cellsB (i := 0) R1.out).trans rfl
    have z1 : w1.cell? ⟨(w.heap.size + 1), 1, none⟩ = some (.int .i64 0) := (cellsB (i := 1) R1.out).trans rfl
    have z2 : w1.cell? ⟨(w.heap.size + 1), 2, none⟩ = some (.int .i64 0) := (cellsB (i := 2) R1.out).trans rfl
    have z3 : w1.cell? ⟨(w.heap.size + 1), 3, none⟩ = some (.int .i64 0) := (cellsB (i := 3) R1.out).trans rfl
    have z4 : w1.cell? ⟨(w.heap.size + 1), 4, none⟩ = some (.int .i64 0) := (cellsB (i := 4) R1.out).trans rfl
    have z5 : w1.cell? ⟨(w.heap.size + 1), 5, none⟩ = some (.int .i64 0) := (cellsB (i := 5) R1.out).trans rfl
    have z6 : w1.cell? ⟨(w.heap.size + 1), 6, none⟩ = some (.int .i64 0) := (cellsB (i := 6) R1.out).trans rfl
    have z7 : w1.cell? ⟨(w.heap.size + 1), 7, none⟩ = some (.int .i64 0) := (cellsB (i := 7) R1.out).trans rfl
    have z8 : w1.cell? ⟨(w.heap.size + 1), 8, none⟩ = some (.int .i64 0) := (cellsB (i := 8) R1.out).trans rfl
    have z9 : w1.cell? ⟨(w.heap.size + 1), 9, none⟩ = some (.int .i64 0) := (cellsB (i := 9) R1.out).trans rfl
    have z10 : w1.cell? ⟨(w.heap.size + 1), 10, none⟩ = some (.int .i64 0) := (cellsB (i := 10) R1.out).trans rfl
    have y0 : w1.frozen? ⟨(w.heap.size + 1), 0, none⟩ = false := frozB R1.out
    have y1 : w1.frozen? ⟨(w.heap.size + 1), 1, none⟩ = false := frozB R1.out
    have y2 : w1.frozen? ⟨(w.heap.size + 1), 2, none⟩ = false := frozB R1.out
    have y3 : w1.frozen? ⟨(w.heap.size + 1), 3, none⟩ = false := frozB R1.out
    have y4 : w1.frozen? ⟨(w.heap.size + 1), 4, none⟩ = false := frozB R1.out
    have y5 : w1.frozen? ⟨(w.heap.size + 1), 5, none⟩ = false := frozB R1.out
    have y6 : w1.frozen? ⟨(w.heap.size + 1), 6, none⟩ = false := frozB R1.out
    have y7 : w1.frozen? ⟨(w.heap.size + 1), 7, none⟩ = false := frozB R1.out
    have y8 : w1.frozen? ⟨(w.heap.size + 1), 8, none⟩ = false := frozB R1.out
    have y9 : w1.frozen? ⟨(w.heap.size + 1), 9, none⟩ = false := frozB R1.out
    have y10 : w1.frozen? ⟨(w.heap.size + 1), 10, none⟩ = false := frozB R1.out
    go_wp2
    refine bodyPost_ret (v := .tuple #[.agg #[.int .i64 0, .int .i64 0, .int .i64 0, .int .i64 0, .int .i64 0, .int .i64 0, .int .i64 0, .int .i64 0, .int .i64 0, .int .i64 0, .int .i64 0], .int .i64 1]) (by simp [results, Try.results32, go_sem, z0, z1, z2, z3, z4, z5, z6, z7, z8, z9, z10]) rfl ?_
    refine ⟨?_, ?_⟩
    · rw [newS, if_neg (fun h => by omega)]; try rfl
    · repeat (refine belowS ?_ (by omega))
      exact B1.out
  by_cases h19 : 1099511627776 < now
  · have HM := Lib.hid (fun W => may_is ⟨b, c, d, m0, m1, m2, p⟩ true hw W)
    unfold W7.val at HM
    simp only at HM
    have HW := Lib.hid hw
    clear hw
    go_enter Try.func32, Try.ntmps32
    go_wp2_with fail
    refine (HM.out _).mono ?_
    rintro e w1 ⟨rfl, q⟩
    have S1 := Lib.hid (blk0 S0.out q)
    have R1 := Lib.hid (blk0 R0.out q)
    have B1 := Lib.hid (bel0 B0.out B0.out.size q)
    clear q 
    have a0 : w1.cell? ⟨w.heap.size, 0, none⟩ = some (.int .i64 b) := (cellsB (i := 0) S1.out).trans rfl
    have a1 : w1.cell? ⟨w.heap.size, 1, none⟩ = some (.int .i64 c) := (cellsB (i := 1) S1.out).trans rfl
    have a2 : w1.cell? ⟨w.heap.size, 2, none⟩ = some (.int .i64 d) := (cellsB (i := 2) S1.out).trans rfl
    have a3 : w1.cell? ⟨w.heap.size, 3, none⟩ = some (.int .i64 m0) := (cellsB (i := 3) S1.out).trans rfl
    have a4 : w1.cell? ⟨w.heap.size, 4, none⟩ = some (.int .i64 m1) := (cellsB (i := 4) S1.out).trans rfl
    have a5 : w1.cell? ⟨w.heap.size, 5, none⟩ = some (.int .i64 m2) := (cellsB (i := 5) S1.out).trans rfl
    have a6 : w1.cell? ⟨w.heap.size, 6, none⟩ = some (.int .i64 p) := (cellsB (i := 6) S1.out).trans rfl
    have z0 : w1.cell? ⟨(w.heap.size + 1), 0, none⟩ = some (.int .i64 0) := (cellsB (i := 0) R1.out).trans rfl
    have z1 : w1.cell? ⟨(w.heap.size + 1), 1, none⟩ = some (.int .i64 0) := (cellsB (i := 1) R1.out).trans rfl
    have z2 : w1.cell? ⟨(w.heap.size + 1), 2, none⟩ = some (.int .i64 0) := (cellsB (i := 2) R1.out).trans rfl
    have z3 : w1.cell? ⟨(w.heap.size + 1), 3, none⟩ = some (.int .i64 0) := (cellsB (i := 3) R1.out).trans rfl
    have z4 : w1.cell? ⟨(w.heap.size + 1), 4, none⟩ = some (.int .i64 0) := (cellsB (i := 4) R1.out).trans rfl
    have z5 : w1.cell? ⟨(w.heap.size + 1), 5, none⟩ = some (.int .i64 0) := (cellsB (i := 5) R1.out).trans rfl
    have z6 : w1.cell? ⟨(w.heap.size + 1), 6, none⟩ = some (.int .i64 0) := (cellsB (i := 6) R1.out).trans rfl
    have z7 : w1.cell? ⟨(w.heap.size + 1), 7, none⟩ = some (.int .i64 0) := (cellsB (i := 7) R1.out).trans rfl
    have z8 : w1.cell? ⟨(w.heap.size + 1), 8, none⟩ = some (.int .i64 0) := (cellsB (i := 8) R1.out).trans rfl
    have z9 : w1.cell? ⟨(w.heap.size + 1), 9, none⟩ = some (.int .i64 0) := (cellsB (i := 9) R1.out).trans rfl
    have z10 : w1.cell? ⟨(w.heap.size + 1), 10, none⟩ = some (.int .i64 0) := (cellsB (i := 10) R1.out).trans rfl
    have y0 : w1.frozen? ⟨(w.heap.size + 1), 0, none⟩ = false := frozB R1.out
    have y1 : w1.frozen? ⟨(w.heap.size + 1), 1, none⟩ = false := frozB R1.out
    have y2 : w1.frozen? ⟨(w.heap.size + 1), 2, none⟩ = false := frozB R1.out
    have y3 : w1.frozen? ⟨(w.heap.size + 1), 3, none⟩ = false := frozB R1.out
    have y4 : w1.frozen? ⟨(w.heap.size + 1), 4, none⟩ = false := frozB R1.out
    have y5 : w1.frozen? ⟨(w.heap.size + 1), 5, none⟩ = false := frozB R1.out
    have y6 : w1.frozen? ⟨(w.heap.size + 1), 6, none⟩ = false := frozB R1.out
    have y7 : w1.frozen? ⟨(w.heap.size + 1), 7, none⟩ = false := frozB R1.out
    have y8 : w1.frozen? ⟨(w.heap.size + 1), 8, none⟩ = false := frozB R1.out
    have y9 : w1.frozen? ⟨(w.heap.size + 1), 9, none⟩ = false := frozB R1.out
    have y10 : w1.frozen? ⟨(w.heap.size + 1), 10, none⟩ = false := frozB R1.out
    go_wp2
    refine bodyPost_ret (v := .tuple #[.agg #[.int .i64 0, .int .i64 0, .int .i64 0, .int .i64 0, .int .i64 0, .int .i64 0, .int .i64 0, .int .i64 0, .int .i64 0, .int .i64 0, .int .i64 0], .int .i64 1]) (by simp [results, Try.results32, go_sem, z0, z1, z2, z3, z4, z5, z6, z7, z8, z9, z10]) rfl ?_
    refine ⟨?_, ?_⟩
    · rw [newS, if_neg (fun h => by omega)]; try rfl
    · repeat (refine belowS ?_ (by omega))
      exact B1.out
  have HM := Lib.hid (fun W => may_is ⟨b, c, d, m0, m1, m2, p⟩ true hw W)
  unfold W7.val at HM
  simp only at HM
  have HW := Lib.hid hw
  clear hw
  go_enter Try.func32, Try.ntmps32
  go_wp2_with fail
  refine (HM.out _).mono ?_
  rintro e w1 ⟨rfl, q⟩
  have S1 := Lib.hid (blk0 S0.out q)
  have R1 := Lib.hid (blk0 R0.out q)
  have B1 := Lib.hid (bel0 B0.out B0.out.size q)
  clear q 
  have a0 : w1.cell? ⟨w.heap.size, 0, none⟩ = some (.int .i64 b) := (cellsB (i := 0) S1.out).trans rfl
  have a1 : w1.cell? ⟨w.heap.size, 1, none⟩ = some (.int .i64 c) := (cellsB (i := 1) S1.out).trans rfl
  have a2 : w1.cell? ⟨w.heap.size, 2, none⟩ = some (.int .i64 d) := (cellsB (i := 2) S1.out).trans rfl
  have a3 : w1.cell? ⟨w.heap.size, 3, none⟩ = some (.int .i64 m0) := (cellsB (i := 3) S1.out).trans rfl
  have a4 : w1.cell? ⟨w.heap.size, 4, none⟩ = some (.int .i64 m1) := (cellsB (i := 4) S1.out).trans rfl
  have a5 : w1.cell? ⟨w.heap.size, 5, none⟩ = some (.int .i64 m2) := (cellsB (i := 5) S1.out).trans rfl
  have a6 : w1.cell? ⟨w.heap.size, 6, none⟩ = some (.int .i64 p) := (cellsB (i := 6) S1.out).trans rfl
  have z0 : w1.cell? ⟨(w.heap.size + 1), 0, none⟩ = some (.int .i64 0) := (cellsB (i := 0) R1.out).trans rfl
  have z1 : w1.cell? ⟨(w.heap.size + 1), 1, none⟩ = some (.int .i64 0) := (cellsB (i := 1) R1.out).trans rfl
  have z2 : w1.cell? ⟨(w.heap.size + 1), 2, none⟩ = some (.int .i64 0) := (cellsB (i := 2) R1.out).trans rfl
  have z3 : w1.cell? ⟨(w.heap.size + 1), 3, none⟩ = some (.int .i64 0) := (cellsB (i := 3) R1.out).trans rfl
  have z4 : w1.cell? ⟨(w.heap.size + 1), 4, none⟩ = some (.int .i64 0) := (cellsB (i := 4) R1.out).trans rfl
  have z5 : w1.cell? ⟨(w.heap.size + 1), 5, none⟩ = some (.int .i64 0) := (cellsB (i := 5) R1.out).trans rfl
  have z6 : w1.cell? ⟨(w.heap.size + 1), 6, none⟩ = some (.int .i64 0) := (cellsB (i := 6) R1.out).trans rfl
  have z7 : w1.cell? ⟨(w.heap.size + 1), 7, none⟩ = some (.int .i64 0) := (cellsB (i := 7) R1.out).trans rfl
  have z8 : w1.cell? ⟨(w.heap.size + 1), 8, none⟩ = some (.int .i64 0) := (cellsB (i := 8) R1.out).trans rfl
  have z9 : w1.cell? ⟨(w.heap.size + 1), 9, none⟩ = some (.int .i64 0) := (cellsB (i := 9) R1.out).trans rfl
  have z10 : w1.cell? ⟨(w.heap.size + 1), 10, none⟩ = some (.int .i64 0) := (cellsB (i := 10) R1.out).trans rfl
  have y0 : w1.frozen? ⟨(w.heap.size + 1), 0, none⟩ = false := frozB R1.out
  have y1 : w1.frozen? ⟨(w.heap.size + 1), 1, none⟩ = false := frozB R1.out
  have y2 : w1.frozen? ⟨(w.heap.size + 1), 2, none⟩ = false := frozB R1.out
  have y3 : w1.frozen? ⟨(w.heap.size + 1), 3, none⟩ = false := frozB R1.out
  have y4 : w1.frozen? ⟨(w.heap.size + 1), 4, none⟩ = false := frozB R1.out
  have y5 : w1.frozen? ⟨(w.heap.size + 1), 5, none⟩ = false := frozB R1.out
  have y6 : w1.frozen? ⟨(w.heap.size + 1), 6, none⟩ = false := frozB R1.out
  have y7 : w1.frozen? ⟨(w.heap.size + 1), 7, none⟩ = false := frozB R1.out
  have y8 : w1.frozen? ⟨(w.heap.size + 1), 8, none⟩ = false := frozB R1.out
  have y9 : w1.frozen? ⟨(w.heap.size + 1), 9, none⟩ = false := frozB R1.out
  have y10 : w1.frozen? ⟨(w.heap.size + 1), 10, none⟩ = false := frozB R1.out
  go_wp2
  refine bodyPost_ret (v := .tuple #[.agg #[.int .i64 b, .int .i64 c, .int .i64 d, .int .i64 m0, .int .i64 m1, .int .i64 m2, .int .i64 p, .int .i64 1, .int .i64 0, .int .i64 0, .int .i64 now], .int .i64 0]) (by simp [results, Try.results32, go_sem, z0, z1, z2, z3, z4, z5, z6, z7, z8, z9, z10]) rfl ?_
  refine ⟨?_, ?_⟩
  · rw [newS, if_pos ⟨of_decide_eq_true HW.out, by omega, by omega⟩]; try rfl
  · repeat (refine belowS ?_ (by omega))
    exact B1.out
set_option maxRecDepth 100000 in
set_option maxHeartbeats 1000000 in
theorem can1 (s : S11) (w : World) : Calls Try.prog 28 #[s.val] w fun e w' => e = .returned (.tuple #[(canS s).1.val, .bool (canS s).2]) ∧ Below w.heap.size w w' := by
  obtain ⟨⟨b, c, d, m0, m1, m2, p⟩, ph, st, re, si⟩ := s
  cases hw : decide (MayS ⟨⟨b, c, d, m0, m1, m2, p⟩, ph, st, re, si⟩)
  · unfold S11.val
    simp only
    obtain ⟨f1, f2, f3⟩ := two_boxes w (.cells #[.int .i64 b, .int .i64 c, .int .i64 d, .int .i64 m0, .int .i64 m1, .int .i64 m2, .int .i64 p, .int .i64 ph, .int .i64 st, .int .i64 re, .int .i64 si] 26) (.cells #[.int .i64 0, .int .i64 0, .int .i64 0, .int .i64 0, .int .i64 0, .int .i64 0, .int .i64 0, .int .i64 0, .int .i64 0, .int .i64 0, .int .i64 0] 26)
    have S0 := Lib.hid f1
    have R0 := Lib.hid f2
    have B0 := Lib.hid f3
    clear f1 f2 f3
    have HM := Lib.hid (fun W => smay_is ⟨⟨b, c, d, m0, m1, m2, p⟩, ph, st, re, si⟩ false hw W)
    unfold S11.val at HM
    simp only at HM
    have HW := Lib.hid hw
    clear hw
    go_enter Try.func28, Try.ntmps28
    go_wp2_with fail
    refine (HM.out _).mono ?_
    rintro e w1 ⟨rfl, q⟩
    have S1 := Lib.hid (blk0 S0.out q)
    have R1 := Lib.hid (blk0 R0.out q)
    have B1 := Lib.hid (bel0 B0.out B0.out.size q)
    clear q 
    have a0 : w1.cell? ⟨w.heap.size, 0, none⟩ = some (.int .i64 b) := (cellsB (i := 0) S1.out).trans rfl
    have a1 : w1.cell? ⟨w.heap.size, 1, none⟩ = some (.int .i64 c) := (cellsB (i := 1) S1.out).trans rfl
    have a2 : w1.cell? ⟨w.heap.size, 2, none⟩ = some (.int .i64 d) := (cellsB (i := 2) S1.out).trans rfl
    have a3 : w1.cell? ⟨w.heap.size, 3, none⟩ = some (.int .i64 m0) := (cellsB (i := 3) S1.out).trans rfl
    have a4 : w1.cell? ⟨w.heap.size, 4, none⟩ = some (.int .i64 m1) := (cellsB (i := 4) S1.out).trans rfl
    have a5 : w1.cell? ⟨w.heap.size, 5, none⟩ = some (.int .i64 m2) := (cellsB (i := 5) S1.out).trans rfl
    have a6 : w1.cell? ⟨w.heap.size, 6, none⟩ = some (.int .i64 p) := (cellsB (i := 6) S1.out).trans rfl
    have a7 : w1.cell? ⟨w.heap.size, 7, none⟩ = some (.int .i64 ph) := (cellsB (i := 7) S1.out).trans rfl
    have a8 : w1.cell? ⟨w.heap.size, 8, none⟩ = some (.int .i64 st) := (cellsB (i := 8) S1.out).trans rfl
    have a9 : w1.cell? ⟨w.heap.size, 9, none⟩ = some (.int .i64 re) := (cellsB (i := 9) S1.out).trans rfl
    have a10 : w1.cell? ⟨w.heap.size, 10, none⟩ = some (.int .i64 si) := (cellsB (i := 10) S1.out).trans rfl
    have z0 : w1.cell? ⟨(w.heap.size + 1), 0, none⟩ = some (.int .i64 0) := (cellsB (i := 0) R1.out).trans rfl
    have z1 : w1.cell? ⟨(w.heap.size + 1), 1, none⟩ = some (.int .i64 0) := (cellsB (i := 1) R1.out).trans rfl
    have z2 : w1.cell? ⟨(w.heap.size + 1), 2, none⟩ = some (.int .i64 0) := (cellsB (i := 2) R1.out).trans rfl
    have z3 : w1.cell? ⟨(w.heap.size + 1), 3, none⟩ = some (.int .i64 0) := (cellsB (i := 3) R1.out).trans rfl
    have z4 : w1.cell? ⟨(w.heap.size + 1), 4, none⟩ = some (.int .i64 0) := (cellsB (i := 4) R1.out).trans rfl
    have z5 : w1.cell? ⟨(w.heap.size + 1), 5, none⟩ = some (.int .i64 0) := (cellsB (i := 5) R1.out).trans rfl
    have z6 : w1.cell? ⟨(w.heap.size + 1), 6, none⟩ = some (.int .i64 0) := (cellsB (i := 6) R1.out).trans rfl
    have z7 : w1.cell? ⟨(w.heap.size + 1), 7, none⟩ = some (.int .i64 0) := (cellsB (i := 7) R1.out).trans rfl
    have z8 : w1.cell? ⟨(w.heap.size + 1), 8, none⟩ = some (.int .i64 0) := (cellsB (i := 8) R1.out).trans rfl
    have z9 : w1.cell? ⟨(w.heap.size + 1), 9, none⟩ = some (.int .i64 0) := (cellsB (i := 9) R1.out).trans rfl
    have z10 : w1.cell? ⟨(w.heap.size + 1), 10, none⟩ = some (.int .i64 0) := (cellsB (i := 10) R1.out).trans rfl
    have y0 : w1.frozen? ⟨(w.heap.size + 1), 0, none⟩ = false := frozB R1.out
    have y1 : w1.frozen? ⟨(w.heap.size + 1), 1, none⟩ = false := frozB R1.out
    have y2 : w1.frozen? ⟨(w.heap.size + 1), 2, none⟩ = false := frozB R1.out
    have y3 : w1.frozen? ⟨(w.heap.size + 1), 3, none⟩ = false := frozB R1.out
    have y4 : w1.frozen? ⟨(w.heap.size + 1), 4, none⟩ = false := frozB R1.out
    have y5 : w1.frozen? ⟨(w.heap.size + 1), 5, none⟩ = false := frozB R1.out
    have y6 : w1.frozen? ⟨(w.heap.size + 1), 6, none⟩ = false := frozB R1.out
    have y7 : w1.frozen? ⟨(w.heap.size + 1), 7, none⟩ = false := frozB R1.out
    have y8 : w1.frozen? ⟨(w.heap.size + 1), 8, none⟩ = false := frozB R1.out
    have y9 : w1.frozen? ⟨(w.heap.size + 1), 9, none⟩ = false := frozB R1.out
    have y10 : w1.frozen? ⟨(w.heap.size + 1), 10, none⟩ = false := frozB R1.out
    go_wp2
    refine bodyPost_ret (v := .tuple #[.agg #[.int .i64 b, .int .i64 c, .int .i64 d, .int .i64 m0, .int .i64 m1, .int .i64 m2, .int .i64 p, .int .i64 ph, .int .i64 st, .int .i64 re, .int .i64 si], .bool false]) (by simp [results, Try.results28, go_sem, z0, z1, z2, z3, z4, z5, z6, z7, z8, z9, z10]) rfl ?_
    refine ⟨?_, ?_⟩
    · rw [canS, if_neg (fun h => of_decide_eq_false HW.out h.1)]; try rfl
    · repeat (refine belowS ?_ (by omega))
      exact B1.out
  by_cases hp : ph = 1
  · subst hp
    have HK := Lib.hid (fun W => back1 ⟨⟨b, c, d, m0, m1, m2, p⟩, 1, st, re, si⟩ 4 W)
    unfold backS at HK
    unfold S11.val at HK ⊢
    simp only at HK ⊢
    obtain ⟨f1, f2, f3⟩ := two_boxes w (.cells #[.int .i64 b, .int .i64 c, .int .i64 d, .int .i64 m0, .int .i64 m1, .int .i64 m2, .int .i64 p, .int .i64 1, .int .i64 st, .int .i64 re, .int .i64 si] 26) (.cells #[.int .i64 0, .int .i64 0, .int .i64 0, .int .i64 0, .int .i64 0, .int .i64 0, .int .i64 0, .int .i64 0, .int .i64 0, .int .i64 0, .int .i64 0] 26)
    have S0 := Lib.hid f1
    have R0 := Lib.hid f2
    have B0 := Lib.hid f3
    clear f1 f2 f3
    have HM := Lib.hid (fun W => smay_is ⟨⟨b, c, d, m0, m1, m2, p⟩, 1, st, re, si⟩ true hw W)
    unfold S11.val at HM
    simp only at HM
    have HW := Lib.hid hw
    clear hw
    go_enter Try.func28, Try.ntmps28
    go_wp2_with fail
    refine (HM.out _).mono ?_
    rintro e w1 ⟨rfl, q⟩
    have S1 := Lib.hid (blk0 S0.out q)
    have R1 := Lib.hid (blk0 R0.out q)
    have B1 := Lib.hid (bel0 B0.out B0.out.size q)
    clear q 
    have a0 : w1.cell? ⟨w.heap.size, 0, none⟩ = some (.int .i64 b) := (cellsB (i := 0) S1.out).trans rfl
    have a1 : w1.cell? ⟨w.heap.size, 1, none⟩ = some (.int .i64 c) := (cellsB (i := 1) S1.out).trans rfl
    have a2 : w1.cell? ⟨w.heap.size, 2, none⟩ = some (.int .i64 d) := (cellsB (i := 2) S1.out).trans rfl
    have a3 : w1.cell? ⟨w.heap.size, 3, none⟩ = some (.int .i64 m0) := (cellsB (i := 3) S1.out).trans rfl
    have a4 : w1.cell? ⟨w.heap.size, 4, none⟩ = some (.int .i64 m1) := (cellsB (i := 4) S1.out).trans rfl
    have a5 : w1.cell? ⟨w.heap.size, 5, none⟩ = some (.int .i64 m2) := (cellsB (i := 5) S1.out).trans rfl
    have a6 : w1.cell? ⟨w.heap.size, 6, none⟩ = some (.int .i64 p) := (cellsB (i := 6) S1.out).trans rfl
    have a7 : w1.cell? ⟨w.heap.size, 7, none⟩ = some (.int .i64 1) := (cellsB (i := 7) S1.out).trans rfl
    have a8 : w1.cell? ⟨w.heap.size, 8, none⟩ = some (.int .i64 st) := (cellsB (i := 8) S1.out).trans rfl
    have a9 : w1.cell? ⟨w.heap.size, 9, none⟩ = some (.int .i64 re) := (cellsB (i := 9) S1.out).trans rfl
    have a10 : w1.cell? ⟨w.heap.size, 10, none⟩ = some (.int .i64 si) := (cellsB (i := 10) S1.out).trans rfl
    go_wp2_with fail
    refine (HK.out _).mono ?_
    rintro e w2 ⟨rfl, q⟩
    have S2 := Lib.hid (blk0 S1.out q)
    have R2 := Lib.hid (blk0 R1.out q)
    have B2 := Lib.hid (bel0 B1.out B1.out.size q)
    clear q 
    clear a0 a1 a2 a3 a4 a5 a6 a7 a8 a9 a10
    have z0 : w2.cell? ⟨(w.heap.size + 1), 0, none⟩ = some (.int .i64 0) := (cellsB (i := 0) R2.out).trans rfl
    have z1 : w2.cell? ⟨(w.heap.size + 1), 1, none⟩ = some (.int .i64 0) := (cellsB (i := 1) R2.out).trans rfl
    have z2 : w2.cell? ⟨(w.heap.size + 1), 2, none⟩ = some (.int .i64 0) := (cellsB (i := 2) R2.out).trans rfl
    have z3 : w2.cell? ⟨(w.heap.size + 1), 3, none⟩ = some (.int .i64 0) := (cellsB (i := 3) R2.out).trans rfl
    have z4 : w2.cell? ⟨(w.heap.size + 1), 4, none⟩ = some (.int .i64 0) := (cellsB (i := 4) R2.out).trans rfl
    have z5 : w2.cell? ⟨(w.heap.size + 1), 5, none⟩ = some (.int .i64 0) := (cellsB (i := 5) R2.out).trans rfl
    have z6 : w2.cell? ⟨(w.heap.size + 1), 6, none⟩ = some (.int .i64 0) := (cellsB (i := 6) R2.out).trans rfl
    have z7 : w2.cell? ⟨(w.heap.size + 1), 7, none⟩ = some (.int .i64 0) := (cellsB (i := 7) R2.out).trans rfl
    have z8 : w2.cell? ⟨(w.heap.size + 1), 8, none⟩ = some (.int .i64 0) := (cellsB (i := 8) R2.out).trans rfl
    have z9 : w2.cell? ⟨(w.heap.size + 1), 9, none⟩ = some (.int .i64 0) := (cellsB (i := 9) R2.out).trans rfl
    have z10 : w2.cell? ⟨(w.heap.size + 1), 10, none⟩ = some (.int .i64 0) := (cellsB (i := 10) R2.out).trans rfl
    have y0 : w2.frozen? ⟨(w.heap.size + 1), 0, none⟩ = false := frozB R2.out
    have y1 : w2.frozen? ⟨(w.heap.size + 1), 1, none⟩ = false := frozB R2.out
    have y2 : w2.frozen? ⟨(w.heap.size + 1), 2, none⟩ = false := frozB R2.out
    have y3 : w2.frozen? ⟨(w.heap.size + 1), 3, none⟩ = false := frozB R2.out
    have y4 : w2.frozen? ⟨(w.heap.size + 1), 4, none⟩ = false := frozB R2.out
    have y5 : w2.frozen? ⟨(w.heap.size + 1), 5, none⟩ = false := frozB R2.out
    have y6 : w2.frozen? ⟨(w.heap.size + 1), 6, none⟩ = false := frozB R2.out
    have y7 : w2.frozen? ⟨(w.heap.size + 1), 7, none⟩ = false := frozB R2.out
    have y8 : w2.frozen? ⟨(w.heap.size + 1), 8, none⟩ = false := frozB R2.out
    have y9 : w2.frozen? ⟨(w.heap.size + 1), 9, none⟩ = false := frozB R2.out
    have y10 : w2.frozen? ⟨(w.heap.size + 1), 10, none⟩ = false := frozB R2.out
    go_wp2
    refine bodyPost_ret (v := .tuple #[.agg #[.int .i64 b, .int .i64 c, .int .i64 d, .int .i64 m0, .int .i64 m1, .int .i64 m2, .int .i64 p, .int .i64 3, .int .i64 0, .int .i64 4, .int .i64 si], .bool true]) (by simp [results, Try.results28, go_sem, z0, z1, z2, z3, z4, z5, z6, z7, z8, z9, z10]) rfl ?_
    refine ⟨?_, ?_⟩
    · rw [canS, if_pos ⟨of_decide_eq_true HW.out, rfl⟩]; try rfl
    · repeat (refine belowS ?_ (by omega))
      exact B2.out
  have hp1 : (ph == 1) = false := beq_eq_false_iff_ne.2 hp
  unfold S11.val
  simp only
  obtain ⟨f1, f2, f3⟩ := two_boxes w (.cells #[.int .i64 b, .int .i64 c, .int .i64 d, .int .i64 m0, .int .i64 m1, .int .i64 m2, .int .i64 p, .int .i64 ph, .int .i64 st, .int .i64 re, .int .i64 si] 26) (.cells #[.int .i64 0, .int .i64 0, .int .i64 0, .int .i64 0, .int .i64 0, .int .i64 0, .int .i64 0, .int .i64 0, .int .i64 0, .int .i64 0, .int .i64 0] 26)
  have S0 := Lib.hid f1
  have R0 := Lib.hid f2
  have B0 := Lib.hid f3
  clear f1 f2 f3
  have HM := Lib.hid (fun W => smay_is ⟨⟨b, c, d, m0, m1, m2, p⟩, ph, st, re, si⟩ true hw W)
  unfold S11.val at HM
  simp only at HM
  have HW := Lib.hid hw
  clear hw
  go_enter Try.func28, Try.ntmps28
  go_wp2_with fail
  refine (HM.out _).mono ?_
  rintro e w1 ⟨rfl, q⟩
  have S1 := Lib.hid (blk0 S0.out q)
  have R1 := Lib.hid (blk0 R0.out q)
  have B1 := Lib.hid (bel0 B0.out B0.out.size q)
  clear q 
  have a0 : w1.cell? ⟨w.heap.size, 0, none⟩ = some (.int .i64 b) := (cellsB (i := 0) S1.out).trans rfl
  have a1 : w1.cell? ⟨w.heap.size, 1, none⟩ = some (.int .i64 c) := (cellsB (i := 1) S1.out).trans rfl
  have a2 : w1.cell? ⟨w.heap.size, 2, none⟩ = some (.int .i64 d) := (cellsB (i := 2) S1.out).trans rfl
  have a3 : w1.cell? ⟨w.heap.size, 3, none⟩ = some (.int .i64 m0) := (cellsB (i := 3) S1.out).trans rfl
  have a4 : w1.cell? ⟨w.heap.size, 4, none⟩ = some (.int .i64 m1) := (cellsB (i := 4) S1.out).trans rfl
  have a5 : w1.cell? ⟨w.heap.size, 5, none⟩ = some (.int .i64 m2) := (cellsB (i := 5) S1.out).trans rfl
  have a6 : w1.cell? ⟨w.heap.size, 6, none⟩ = some (.int .i64 p) := (cellsB (i := 6) S1.out).trans rfl
  have a7 : w1.cell? ⟨w.heap.size, 7, none⟩ = some (.int .i64 ph) := (cellsB (i := 7) S1.out).trans rfl
  have a8 : w1.cell? ⟨w.heap.size, 8, none⟩ = some (.int .i64 st) := (cellsB (i := 8) S1.out).trans rfl
  have a9 : w1.cell? ⟨w.heap.size, 9, none⟩ = some (.int .i64 re) := (cellsB (i := 9) S1.out).trans rfl
  have a10 : w1.cell? ⟨w.heap.size, 10, none⟩ = some (.int .i64 si) := (cellsB (i := 10) S1.out).trans rfl
  have z0 : w1.cell? ⟨(w.heap.size + 1), 0, none⟩ = some (.int .i64 0) := (cellsB (i := 0) R1.out).trans rfl
  have z1 : w1.cell? ⟨(w.heap.size + 1), 1, none⟩ = some (.int .i64 0) := (cellsB (i := 1) R1.out).trans rfl
  have z2 : w1.cell? ⟨(w.heap.size + 1), 2, none⟩ = some (.int .i64 0) := (cellsB (i := 2) R1.out).trans rfl
  have z3 : w1.cell? ⟨(w.heap.size + 1), 3, none⟩ = some (.int .i64 0) := (cellsB (i := 3) R1.out).trans rfl
  have z4 : w1.cell? ⟨(w.heap.size + 1), 4, none⟩ = some (.int .i64 0) := (cellsB (i := 4) R1.out).trans rfl
  have z5 : w1.cell? ⟨(w.heap.size + 1), 5, none⟩ = some (.int .i64 0) := (cellsB (i := 5) R1.out).trans rfl
  have z6 : w1.cell? ⟨(w.heap.size + 1), 6, none⟩ = some (.int .i64 0) := (cellsB (i := 6) R1.out).trans rfl
  have z7 : w1.cell? ⟨(w.heap.size + 1), 7, none⟩ = some (.int .i64 0) := (cellsB (i := 7) R1.out).trans rfl
  have z8 : w1.cell? ⟨(w.heap.size + 1), 8, none⟩ = some (.int .i64 0) := (cellsB (i := 8) R1.out).trans rfl
  have z9 : w1.cell? ⟨(w.heap.size + 1), 9, none⟩ = some (.int .i64 0) := (cellsB (i := 9) R1.out).trans rfl
  have z10 : w1.cell? ⟨(w.heap.size + 1), 10, none⟩ = some (.int .i64 0) := (cellsB (i := 10) R1.out).trans rfl
  have y0 : w1.frozen? ⟨(w.heap.size + 1), 0, none⟩ = false := frozB R1.out
  have y1 : w1.frozen? ⟨(w.heap.size + 1), 1, none⟩ = false := frozB R1.out
  have y2 : w1.frozen? ⟨(w.heap.size + 1), 2, none⟩ = false := frozB R1.out
  have y3 : w1.frozen? ⟨(w.heap.size + 1), 3, none⟩ = false := frozB R1.out
  have y4 : w1.frozen? ⟨(w.heap.size + 1), 4, none⟩ = false := frozB R1.out
  have y5 : w1.frozen? ⟨(w.heap.size + 1), 5, none⟩ = false := frozB R1.out
  have y6 : w1.frozen? ⟨(w.heap.size + 1), 6, none⟩ = false := frozB R1.out
  have y7 : w1.frozen? ⟨(w.heap.size + 1), 7, none⟩ = false := frozB R1.out
  have y8 : w1.frozen? ⟨(w.heap.size + 1), 8, none⟩ = false := frozB R1.out
  have y9 : w1.frozen? ⟨(w.heap.size + 1), 9, none⟩ = false := frozB R1.out
  have y10 : w1.frozen? ⟨(w.heap.size + 1), 10, none⟩ = false := frozB R1.out
  go_wp2
  refine bodyPost_ret (v := .tuple #[.agg #[.int .i64 b, .int .i64 c, .int .i64 d, .int .i64 m0, .int .i64 m1, .int .i64 m2, .int .i64 p, .int .i64 ph, .int .i64 st, .int .i64 re, .int .i64 si], .bool false]) (by simp [results, Try.results28, go_sem, z0, z1, z2, z3, z4, z5, z6, z7, z8, z9, z10]) rfl ?_
  refine ⟨?_, ?_⟩
  · rw [canS, if_neg (fun h => hp h.2)]; try rfl
  · repeat (refine belowS ?_ (by omega))
    exact B1.out
end Go.Proofs.Ytplgodfhhlnojaa

/- saga.Next, walked (printed by gensagan.py). -/
namespace Go.Proofs.Ytplgodfhhlnojaa
open Go.RowKit
set_option maxRecDepth 100000 in
set_option maxHeartbeats 4000000 in
theorem next1 (s : S11) (w : World) : Calls Try.prog 18 #[s.val] w fun e w' => e = .returned (.tuple #[(nextS s).1.val, .bool (nextS s).2]) ∧ Below w.heap.size w w' := by
  obtain ⟨⟨b, c, d, m0, m1, m2, p⟩, ph, st, re, si⟩ := s
  have ST := Lib.hid (steps_c ⟨⟨b, c, d, m0, m1, m2, p⟩, ph, st, re, si⟩)
  obtain ⟨l, hl⟩ : ∃ l, stepsL ⟨⟨b, c, d, m0, m1, m2, p⟩, ph, st, re, si⟩ = l := ⟨_, rfl⟩
  rw [hl] at ST
  unfold RA at ST
  obtain ⟨n, hn⟩ : ∃ n, l.length = n := ⟨_, rfl⟩
  have HN := Lib.hid hn
  have HL := Lib.hid hl
  clear hn hl
  obtain ⟨f1, f2, f3⟩ := two_boxes w (.cells #[.int .i64 b, .int .i64 c, .int .i64 d, .int .i64 m0, .int .i64 m1, .int .i64 m2, .int .i64 p, .int .i64 ph, .int .i64 st, .int .i64 re, .int .i64 si] 26) (.cells #[.int .i64 0, .int .i64 0, .int .i64 0, .int .i64 0, .int .i64 0, .int .i64 0] 30)
  have S0 := Lib.hid f1
  have R0 := Lib.hid f2
  have B0 := Lib.hid f3
  clear f1 f2 f3
  cases hw : decide (MayS ⟨⟨b, c, d, m0, m1, m2, p⟩, ph, st, re, si⟩)
  · have HM := Lib.hid (fun W => smay_is ⟨⟨b, c, d, m0, m1, m2, p⟩, ph, st, re, si⟩ false hw W)
    have HW := Lib.hid hw
    clear hw
    unfold S11.val at HM ST ⊢
    simp only at HM ST ⊢
    go_enter Try.func18, Try.ntmps18
    go_wp2_with fail
    refine (ST.out _).mono ?_
    rintro e w1 ⟨v, rfl, ho, q⟩
    obtain ⟨A, cp, rfl, hc1, hc2, rd⟩ := ho.rd
    have RD1 := Lib.hid rd
    rw [HN.out] at RD1 hc1 ⊢
    have S1 := Lib.hid (blk0 S0.out q)
    have R1 := Lib.hid (blk0 R0.out q)
    have B1 := Lib.hid (bel0 B0.out B0.out.size q)
    clear q ho rd
    have a0 : w1.cell? ⟨w.heap.size, 0, none⟩ = some (.int .i64 b) := (cellsB (i := 0) S1.out).trans rfl
    have a1 : w1.cell? ⟨w.heap.size, 1, none⟩ = some (.int .i64 c) := (cellsB (i := 1) S1.out).trans rfl
    have a2 : w1.cell? ⟨w.heap.size, 2, none⟩ = some (.int .i64 d) := (cellsB (i := 2) S1.out).trans rfl
    have a3 : w1.cell? ⟨w.heap.size, 3, none⟩ = some (.int .i64 m0) := (cellsB (i := 3) S1.out).trans rfl
    have a4 : w1.cell? ⟨w.heap.size, 4, none⟩ = some (.int .i64 m1) := (cellsB (i := 4) S1.out).trans rfl
    have a5 : w1.cell? ⟨w.heap.size, 5, none⟩ = some (.int .i64 m2) := (cellsB (i := 5) S1.out).trans rfl
    have a6 : w1.cell? ⟨w.heap.size, 6, none⟩ = some (.int .i64 p) := (cellsB (i := 6) S1.out).trans rfl
    have a7 : w1.cell? ⟨w.heap.size, 7, none⟩ = some (.int .i64 ph) := (cellsB (i := 7) S1.out).trans rfl
    have a8 : w1.cell? ⟨w.heap.size, 8, none⟩ = some (.int .i64 st) := (cellsB (i := 8) S1.out).trans rfl
    have a9 : w1.cell? ⟨w.heap.size, 9, none⟩ = some (.int .i64 re) := (cellsB (i := 9) S1.out).trans rfl
    have a10 : w1.cell? ⟨w.heap.size, 10, none⟩ = some (.int .i64 si) := (cellsB (i := 10) S1.out).trans rfl
    go_wp2_with fail
    refine (HM.out _).mono ?_
    rintro e w2 ⟨rfl, q⟩
    have S2 := Lib.hid (blk0 S1.out q)
    have R2 := Lib.hid (blk0 R1.out q)
    have B2 := Lib.hid (bel0 B1.out B1.out.size q)
    have RD2 := Lib.hid (rd0 RD1.out q)
    clear q
    clear a0 a1 a2 a3 a4 a5 a6 a7 a8 a9 a10
    have a0 : w2.cell? ⟨w.heap.size, 0, none⟩ = some (.int .i64 b) := (cellsB (i := 0) S2.out).trans rfl
    have a1 : w2.cell? ⟨w.heap.size, 1, none⟩ = some (.int .i64 c) := (cellsB (i := 1) S2.out).trans rfl
    have a2 : w2.cell? ⟨w.heap.size, 2, none⟩ = some (.int .i64 d) := (cellsB (i := 2) S2.out).trans rfl
    have a3 : w2.cell? ⟨w.heap.size, 3, none⟩ = some (.int .i64 m0) := (cellsB (i := 3) S2.out).trans rfl
    have a4 : w2.cell? ⟨w.heap.size, 4, none⟩ = some (.int .i64 m1) := (cellsB (i := 4) S2.out).trans rfl
    have a5 : w2.cell? ⟨w.heap.size, 5, none⟩ = some (.int .i64 m2) := (cellsB (i := 5) S2.out).trans rfl
    have a6 : w2.cell? ⟨w.heap.size, 6, none⟩ = some (.int .i64 p) := (cellsB (i := 6) S2.out).trans rfl
    have a7 : w2.cell? ⟨w.heap.size, 7, none⟩ = some (.int .i64 ph) := (cellsB (i := 7) S2.out).trans rfl
    have a8 : w2.cell? ⟨w.heap.size, 8, none⟩ = some (.int .i64 st) := (cellsB (i := 8) S2.out).trans rfl
    have a9 : w2.cell? ⟨w.heap.size, 9, none⟩ = some (.int .i64 re) := (cellsB (i := 9) S2.out).trans rfl
    have a10 : w2.cell? ⟨w.heap.size, 10, none⟩ = some (.int .i64 si) := (cellsB (i := 10) S2.out).trans rfl
    have z0 : w2.cell? ⟨(w.heap.size + 1), 0, none⟩ = some (.int .i64 0) := (cellsB (i := 0) R2.out).trans rfl
    have z1 : w2.cell? ⟨(w.heap.size + 1), 1, none⟩ = some (.int .i64 0) := (cellsB (i := 1) R2.out).trans rfl
    have z2 : w2.cell? ⟨(w.heap.size + 1), 2, none⟩ = some (.int .i64 0) := (cellsB (i := 2) R2.out).trans rfl
    have z3 : w2.cell? ⟨(w.heap.size + 1), 3, none⟩ = some (.int .i64 0) := (cellsB (i := 3) R2.out).trans rfl
    have z4 : w2.cell? ⟨(w.heap.size + 1), 4, none⟩ = some (.int .i64 0) := (cellsB (i := 4) R2.out).trans rfl
    have z5 : w2.cell? ⟨(w.heap.size + 1), 5, none⟩ = some (.int .i64 0) := (cellsB (i := 5) R2.out).trans rfl
    have y0 : w2.frozen? ⟨(w.heap.size + 1), 0, none⟩ = false := frozB R2.out
    have y1 : w2.frozen? ⟨(w.heap.size + 1), 1, none⟩ = false := frozB R2.out
    have y2 : w2.frozen? ⟨(w.heap.size + 1), 2, none⟩ = false := frozB R2.out
    have y3 : w2.frozen? ⟨(w.heap.size + 1), 3, none⟩ = false := frozB R2.out
    have y4 : w2.frozen? ⟨(w.heap.size + 1), 4, none⟩ = false := frozB R2.out
    have y5 : w2.frozen? ⟨(w.heap.size + 1), 5, none⟩ = false := frozB R2.out
    go_wp2
    refine bodyPost_ret (v := .tuple #[.agg #[.int .i64 0, .int .i64 0, .int .i64 0, .int .i64 0, .int .i64 0, .int .i64 0], .bool false]) (by simp [results, Try.results18, go_sem, z0, z1, z2, z3, z4, z5]) rfl ?_
    refine ⟨?_, ?_⟩
    · rw [nextS, if_neg (fun h => of_decide_eq_false HW.out h.1)]; try rfl
    · repeat (refine belowS ?_ (by omega))
      exact B2.out
  by_cases hn0 : n = 0
  · subst hn0
    have HM := Lib.hid (fun W => smay_is ⟨⟨b, c, d, m0, m1, m2, p⟩, ph, st, re, si⟩ true hw W)
    have HW := Lib.hid hw
    clear hw
    unfold S11.val at HM ST ⊢
    simp only at HM ST ⊢
    go_enter Try.func18, Try.ntmps18
    go_wp2_with fail
    refine (ST.out _).mono ?_
    rintro e w1 ⟨v, rfl, ho, q⟩
    obtain ⟨A, cp, rfl, hc1, hc2, rd⟩ := ho.rd
    have RD1 := Lib.hid rd
    rw [HN.out] at RD1 hc1 ⊢
    have S1 := Lib.hid (blk0 S0.out q)
    have R1 := Lib.hid (blk0 R0.out q)
    have B1 := Lib.hid (bel0 B0.out B0.out.size q)
    clear q ho rd
    have a0 : w1.cell? ⟨w.heap.size, 0, none⟩ = some (.int .i64 b) := (cellsB (i := 0) S1.out).trans rfl
    have a1 : w1.cell? ⟨w.heap.size, 1, none⟩ = some (.int .i64 c) := (cellsB (i := 1) S1.out).trans rfl
    have a2 : w1.cell? ⟨w.heap.size, 2, none⟩ = some (.int .i64 d) := (cellsB (i := 2) S1.out).trans rfl
    have a3 : w1.cell? ⟨w.heap.size, 3, none⟩ = some (.int .i64 m0) := (cellsB (i := 3) S1.out).trans rfl
    have a4 : w1.cell? ⟨w.heap.size, 4, none⟩ = some (.int .i64 m1) := (cellsB (i := 4) S1.out).trans rfl
    have a5 : w1.cell? ⟨w.heap.size, 5, none⟩ = some (.int .i64 m2) := (cellsB (i := 5) S1.out).trans rfl
    have a6 : w1.cell? ⟨w.heap.size, 6, none⟩ = some (.int .i64 p) := (cellsB (i := 6) S1.out).trans rfl
    have a7 : w1.cell? ⟨w.heap.size, 7, none⟩ = some (.int .i64 ph) := (cellsB (i := 7) S1.out).trans rfl
    have a8 : w1.cell? ⟨w.heap.size, 8, none⟩ = some (.int .i64 st) := (cellsB (i := 8) S1.out).trans rfl
    have a9 : w1.cell? ⟨w.heap.size, 9, none⟩ = some (.int .i64 re) := (cellsB (i := 9) S1.out).trans rfl
    have a10 : w1.cell? ⟨w.heap.size, 10, none⟩ = some (.int .i64 si) := (cellsB (i := 10) S1.out).trans rfl
    go_wp2_with fail
    refine (HM.out _).mono ?_
    rintro e w2 ⟨rfl, q⟩
    have S2 := Lib.hid (blk0 S1.out q)
    have R2 := Lib.hid (blk0 R1.out q)
    have B2 := Lib.hid (bel0 B1.out B1.out.size q)
    have RD2 := Lib.hid (rd0 RD1.out q)
    clear q
    clear a0 a1 a2 a3 a4 a5 a6 a7 a8 a9 a10
    have a0 : w2.cell? ⟨w.heap.size, 0, none⟩ = some (.int .i64 b) := (cellsB (i := 0) S2.out).trans rfl
    have a1 : w2.cell? ⟨w.heap.size, 1, none⟩ = some (.int .i64 c) := (cellsB (i := 1) S2.out).trans rfl
    have a2 : w2.cell? ⟨w.heap.size, 2, none⟩ = some (.int .i64 d) := (cellsB (i := 2) S2.out).trans rfl
    have a3 : w2.cell? ⟨w.heap.size, 3, none⟩ = some (.int .i64 m0) := (cellsB (i := 3) S2.out).trans rfl
    have a4 : w2.cell? ⟨w.heap.size, 4, none⟩ = some (.int .i64 m1) := (cellsB (i := 4) S2.out).trans rfl
    have a5 : w2.cell? ⟨w.heap.size, 5, none⟩ = some (.int .i64 m2) := (cellsB (i := 5) S2.out).trans rfl
    have a6 : w2.cell? ⟨w.heap.size, 6, none⟩ = some (.int .i64 p) := (cellsB (i := 6) S2.out).trans rfl
    have a7 : w2.cell? ⟨w.heap.size, 7, none⟩ = some (.int .i64 ph) := (cellsB (i := 7) S2.out).trans rfl
    have a8 : w2.cell? ⟨w.heap.size, 8, none⟩ = some (.int .i64 st) := (cellsB (i := 8) S2.out).trans rfl
    have a9 : w2.cell? ⟨w.heap.size, 9, none⟩ = some (.int .i64 re) := (cellsB (i := 9) S2.out).trans rfl
    have a10 : w2.cell? ⟨w.heap.size, 10, none⟩ = some (.int .i64 si) := (cellsB (i := 10) S2.out).trans rfl
    have z0 : w2.cell? ⟨(w.heap.size + 1), 0, none⟩ = some (.int .i64 0) := (cellsB (i := 0) R2.out).trans rfl
    have z1 : w2.cell? ⟨(w.heap.size + 1), 1, none⟩ = some (.int .i64 0) := (cellsB (i := 1) R2.out).trans rfl
    have z2 : w2.cell? ⟨(w.heap.size + 1), 2, none⟩ = some (.int .i64 0) := (cellsB (i := 2) R2.out).trans rfl
    have z3 : w2.cell? ⟨(w.heap.size + 1), 3, none⟩ = some (.int .i64 0) := (cellsB (i := 3) R2.out).trans rfl
    have z4 : w2.cell? ⟨(w.heap.size + 1), 4, none⟩ = some (.int .i64 0) := (cellsB (i := 4) R2.out).trans rfl
    have z5 : w2.cell? ⟨(w.heap.size + 1), 5, none⟩ = some (.int .i64 0) := (cellsB (i := 5) R2.out).trans rfl
    have y0 : w2.frozen? ⟨(w.heap.size + 1), 0, none⟩ = false := frozB R2.out
    have y1 : w2.frozen? ⟨(w.heap.size + 1), 1, none⟩ = false := frozB R2.out
    have y2 : w2.frozen? ⟨(w.heap.size + 1), 2, none⟩ = false := frozB R2.out
    have y3 : w2.frozen? ⟨(w.heap.size + 1), 3, none⟩ = false := frozB R2.out
    have y4 : w2.frozen? ⟨(w.heap.size + 1), 4, none⟩ = false := frozB R2.out
    have y5 : w2.frozen? ⟨(w.heap.size + 1), 5, none⟩ = false := frozB R2.out
    go_wp2
    refine bodyPost_ret (v := .tuple #[.agg #[.int .i64 0, .int .i64 0, .int .i64 0, .int .i64 0, .int .i64 0, .int .i64 0], .bool false]) (by simp [results, Try.results18, go_sem, z0, z1, z2, z3, z4, z5]) rfl ?_
    refine ⟨?_, ?_⟩
    · rw [nextS, if_neg (fun h => by have g := h.2; rw [HL.out, HN.out] at g; omega)]; try rfl
    · repeat (refine belowS ?_ (by omega))
      exact B2.out
  have hm := of_decide_eq_true hw
  obtain ⟨k, hk⟩ : ∃ k : Nat, st = k := ⟨st.toNat, by have := hm.2.2.1.1; simp only at this; omega⟩
  subst hk
  have hkn : k < n := by have := hm.2.2.1.2; rw [HL.out, HN.out] at this; simp only at this; omega
  clear hm
  have HM := Lib.hid (fun W => smay_is ⟨⟨b, c, d, m0, m1, m2, p⟩, ph, (k : Int), re, si⟩ true hw W)
  have HW := Lib.hid hw
  clear hw
  unfold S11.val at HM ST ⊢
  simp only at HM ST ⊢
  go_enter Try.func18, Try.ntmps18
  go_wp2_with fail
  refine (ST.out _).mono ?_
  rintro e w1 ⟨v, rfl, ho, q⟩
  obtain ⟨A, cp, rfl, hc1, hc2, rd⟩ := ho.rd
  have RD1 := Lib.hid rd
  rw [HN.out] at RD1 hc1 ⊢
  have S1 := Lib.hid (blk0 S0.out q)
  have R1 := Lib.hid (blk0 R0.out q)
  have B1 := Lib.hid (bel0 B0.out B0.out.size q)
  clear q ho rd
  have a0 : w1.cell? ⟨w.heap.size, 0, none⟩ = some (.int .i64 b) := (cellsB (i := 0) S1.out).trans rfl
  have a1 : w1.cell? ⟨w.heap.size, 1, none⟩ = some (.int .i64 c) := (cellsB (i := 1) S1.out).trans rfl
  have a2 : w1.cell? ⟨w.heap.size, 2, none⟩ = some (.int .i64 d) := (cellsB (i := 2) S1.out).trans rfl
  have a3 : w1.cell? ⟨w.heap.size, 3, none⟩ = some (.int .i64 m0) := (cellsB (i := 3) S1.out).trans rfl
  have a4 : w1.cell? ⟨w.heap.size, 4, none⟩ = some (.int .i64 m1) := (cellsB (i := 4) S1.out).trans rfl
  have a5 : w1.cell? ⟨w.heap.size, 5, none⟩ = some (.int .i64 m2) := (cellsB (i := 5) S1.out).trans rfl
  have a6 : w1.cell? ⟨w.heap.size, 6, none⟩ = some (.int .i64 p) := (cellsB (i := 6) S1.out).trans rfl
  have a7 : w1.cell? ⟨w.heap.size, 7, none⟩ = some (.int .i64 ph) := (cellsB (i := 7) S1.out).trans rfl
  have a8 : w1.cell? ⟨w.heap.size, 8, none⟩ = some (.int .i64 (k : Int)) := (cellsB (i := 8) S1.out).trans rfl
  have a9 : w1.cell? ⟨w.heap.size, 9, none⟩ = some (.int .i64 re) := (cellsB (i := 9) S1.out).trans rfl
  have a10 : w1.cell? ⟨w.heap.size, 10, none⟩ = some (.int .i64 si) := (cellsB (i := 10) S1.out).trans rfl
  go_wp2_with fail
  refine (HM.out _).mono ?_
  rintro e w2 ⟨rfl, q⟩
  have S2 := Lib.hid (blk0 S1.out q)
  have R2 := Lib.hid (blk0 R1.out q)
  have B2 := Lib.hid (bel0 B1.out B1.out.size q)
  have RD2 := Lib.hid (rd0 RD1.out q)
  clear q
  clear a0 a1 a2 a3 a4 a5 a6 a7 a8 a9 a10
  obtain ⟨ad, x, rfl, _, hx, hca⟩ := RD2.out.ask hkn
  obtain ⟨p0, p1, p2, p3, p4, p5⟩ := hca
  have HX := Lib.hid hx
  clear hx
  have a0 : w2.cell? ⟨w.heap.size, 0, none⟩ = some (.int .i64 b) := (cellsB (i := 0) S2.out).trans rfl
  have a1 : w2.cell? ⟨w.heap.size, 1, none⟩ = some (.int .i64 c) := (cellsB (i := 1) S2.out).trans rfl
  have a2 : w2.cell? ⟨w.heap.size, 2, none⟩ = some (.int .i64 d) := (cellsB (i := 2) S2.out).trans rfl
  have a3 : w2.cell? ⟨w.heap.size, 3, none⟩ = some (.int .i64 m0) := (cellsB (i := 3) S2.out).trans rfl
  have a4 : w2.cell? ⟨w.heap.size, 4, none⟩ = some (.int .i64 m1) := (cellsB (i := 4) S2.out).trans rfl
  have a5 : w2.cell? ⟨w.heap.size, 5, none⟩ = some (.int .i64 m2) := (cellsB (i := 5) S2.out).trans rfl
  have a6 : w2.cell? ⟨w.heap.size, 6, none⟩ = some (.int .i64 p) := (cellsB (i := 6) S2.out).trans rfl
  have a7 : w2.cell? ⟨w.heap.size, 7, none⟩ = some (.int .i64 ph) := (cellsB (i := 7) S2.out).trans rfl
  have a8 : w2.cell? ⟨w.heap.size, 8, none⟩ = some (.int .i64 (k : Int)) := (cellsB (i := 8) S2.out).trans rfl
  have a9 : w2.cell? ⟨w.heap.size, 9, none⟩ = some (.int .i64 re) := (cellsB (i := 9) S2.out).trans rfl
  have a10 : w2.cell? ⟨w.heap.size, 10, none⟩ = some (.int .i64 si) := (cellsB (i := 10) S2.out).trans rfl
  have z0 : w2.cell? ⟨(w.heap.size + 1), 0, none⟩ = some (.int .i64 0) := (cellsB (i := 0) R2.out).trans rfl
  have z1 : w2.cell? ⟨(w.heap.size + 1), 1, none⟩ = some (.int .i64 0) := (cellsB (i := 1) R2.out).trans rfl
  have z2 : w2.cell? ⟨(w.heap.size + 1), 2, none⟩ = some (.int .i64 0) := (cellsB (i := 2) R2.out).trans rfl
  have z3 : w2.cell? ⟨(w.heap.size + 1), 3, none⟩ = some (.int .i64 0) := (cellsB (i := 3) R2.out).trans rfl
  have z4 : w2.cell? ⟨(w.heap.size + 1), 4, none⟩ = some (.int .i64 0) := (cellsB (i := 4) R2.out).trans rfl
  have z5 : w2.cell? ⟨(w.heap.size + 1), 5, none⟩ = some (.int .i64 0) := (cellsB (i := 5) R2.out).trans rfl
  have y0 : w2.frozen? ⟨(w.heap.size + 1), 0, none⟩ = false := frozB R2.out
  have y1 : w2.frozen? ⟨(w.heap.size + 1), 1, none⟩ = false := frozB R2.out
  have y2 : w2.frozen? ⟨(w.heap.size + 1), 2, none⟩ = false := frozB R2.out
  have y3 : w2.frozen? ⟨(w.heap.size + 1), 3, none⟩ = false := frozB R2.out
  have y4 : w2.frozen? ⟨(w.heap.size + 1), 4, none⟩ = false := frozB R2.out
  have y5 : w2.frozen? ⟨(w.heap.size + 1), 5, none⟩ = false := frozB R2.out
  go_wp2
  refine bodyPost_ret (v := .tuple #[.agg #[.int .i64 x.node, .int .i64 x.kind, .int .i64 x.book, .int .i64 x.units, .int .i64 x.cust, .int .i64 x.amount], .bool true]) (by simp [results, Try.results18, go_sem, z0, z1, z2, z3, z4, z5, p0, p1, p2, p3, p4, p5]) rfl ?_
  refine ⟨?_, ?_⟩
  · rw [nextS, if_pos ⟨of_decide_eq_true HW.out, by rw [HL.out, HN.out]; omega⟩, HL.out, show ((k : Int)).toNat = k from rfl, HX.out]; try rfl
  · repeat (refine belowS ?_ (by omega))
    exact B2.out
end Go.Proofs.Ytplgodfhhlnojaa
