/- want.GetOp's reading, walked. -/
import Derived.Test.YtebinhelnhnbeaaWGet
import Derived.Test.YtebinhelnhnbeaaWOp
set_option linter.unusedSimpArgs false
set_option linter.unusedVariables false
namespace Go.Proofs.Ytebinhelnhnbeaa
open Go.RowKit
/-- An operation that is read, whatever stands there. -/
def rO (s : Rs) : O5 × Rs :=
  (⟨(rS s).1, (rS ((rS s).2)).1, (rS ((rS (rS s).2).2)).1, (rS ((rS (rS (rS s).2).2).2)).1, (rS ((rS (rS (rS (rS s).2).2).2).2)).1⟩, (rS (rS (rS (rS (rS s).2).2).2).2).2)
set_option maxRecDepth 100000 in
set_option maxHeartbeats 4000000 in
theorem get1O_c (g : Nat) (s : Rs) (w : World) (D : Nat) (h : RP w D g s) (hD : D ≤ w.heap.size) :
    Calls Try.prog 65 #[.pointer (some ⟨g, 0, none⟩)] w (RPost w D g (rO s).1.val (rO s).2) := by
  obtain ⟨v1, s1, e1⟩ : ∃ v t, rS s = (v, t) := ⟨_, _, rfl⟩
  obtain ⟨v2, s2, e2⟩ : ∃ v t, rS s1 = (v, t) := ⟨_, _, rfl⟩
  obtain ⟨v3, s3, e3⟩ : ∃ v t, rS s2 = (v, t) := ⟨_, _, rfl⟩
  obtain ⟨v4, s4, e4⟩ : ∃ v t, rS s3 = (v, t) := ⟨_, _, rfl⟩
  obtain ⟨v5, s5, e5⟩ : ∃ v t, rS s4 = (v, t) := ⟨_, _, rfl⟩
  have hw : rO s = (⟨v1, v2, v3, v4, v5⟩, s5) := by unfold rO; simp only [e1, e2, e3, e4, e5]
  rw [hw]
  have hgl := h.lt
  have H := Lib.hid h
  have E1 := Lib.hid e1
  have E2 := Lib.hid e2
  have E3 := Lib.hid e3
  have E4 := Lib.hid e4
  have E5 := Lib.hid e5
  clear h hw e1 e2 e3 e4 e5
  unfold O5.val RPost
  simp only
  go_enter Try.func65, Try.ntmps65
  go_wp2_with fail
  refine (some_c g s s1 v1 _ D (H.out.alloc hD _) (by simp; omega) E1.out).mono ?_
  rintro e wa1 ⟨rfl, q1, g1⟩
  have hz1 : w.heap.size + 1 ≤ wa1.heap.size := by have := g1.size; simpa using this
  have B1 := Lib.hid ((g1.block w.heap.size (by simp) (by intro e; injection e with e; omega)).trans (heap_alloc_new w _))
  have Q1 := Lib.hid q1
  have G1 := Lib.hid (only_trans (only_alloc (World.grownBy.refl w (some g)) _) g1)
  clear q1 g1
  go_wp2_with fail
  refine (some_c g s1 s2 v2 _ D Q1.out (by omega) E2.out).mono ?_
  rintro e wa2 ⟨rfl, q2, g2⟩
  have hz2 := g2.size
  have B2 := Lib.hid ((g2.block w.heap.size (by omega) (by intro e; injection e with e; omega)).trans B1.out)
  have Q2 := Lib.hid q2
  have G2 := Lib.hid (only_trans G1.out g2)
  clear q2 g2
  go_wp2_with fail
  refine (some_c g s2 s3 v3 _ D Q2.out (by omega) E3.out).mono ?_
  rintro e wa3 ⟨rfl, q3, g3⟩
  have hz3 := g3.size
  have B3 := Lib.hid ((g3.block w.heap.size (by omega) (by intro e; injection e with e; omega)).trans B2.out)
  have Q3 := Lib.hid q3
  have G3 := Lib.hid (only_trans G2.out g3)
  clear q3 g3
  go_wp2_with fail
  refine (some_c g s3 s4 v4 _ D Q3.out (by omega) E4.out).mono ?_
  rintro e wa4 ⟨rfl, q4, g4⟩
  have hz4 := g4.size
  have B4 := Lib.hid ((g4.block w.heap.size (by omega) (by intro e; injection e with e; omega)).trans B3.out)
  have Q4 := Lib.hid q4
  have G4 := Lib.hid (only_trans G3.out g4)
  clear q4 g4
  go_wp2_with fail
  refine (some_c g s4 s5 v5 _ D Q4.out (by omega) E5.out).mono ?_
  rintro e wa5 ⟨rfl, q5, g5⟩
  have hz5 := g5.size
  have B5 := Lib.hid ((g5.block w.heap.size (by omega) (by intro e; injection e with e; omega)).trans B4.out)
  have Q5 := Lib.hid q5
  have G5 := Lib.hid (only_trans G4.out g5)
  clear q5 g5
  have hlt : w.heap.size < wa5.heap.size := by omega
  have z0 : wa5.cell? ⟨w.heap.size, 0, none⟩ = some (.int .i64 0) := by rw [cellsAt B5.out]; rfl
  have y0 : wa5.frozen? ⟨w.heap.size, 0, none⟩ = false := free0 B5.out
  have z1 : wa5.cell? ⟨w.heap.size, 1, none⟩ = some (.int .i64 0) := by rw [cellsAt B5.out]; rfl
  have y1 : wa5.frozen? ⟨w.heap.size, 1, none⟩ = false := free0 B5.out
  have z2 : wa5.cell? ⟨w.heap.size, 2, none⟩ = some (.int .i64 0) := by rw [cellsAt B5.out]; rfl
  have y2 : wa5.frozen? ⟨w.heap.size, 2, none⟩ = false := free0 B5.out
  have z3 : wa5.cell? ⟨w.heap.size, 3, none⟩ = some (.int .i64 0) := by rw [cellsAt B5.out]; rfl
  have y3 : wa5.frozen? ⟨w.heap.size, 3, none⟩ = false := free0 B5.out
  have z4 : wa5.cell? ⟨w.heap.size, 4, none⟩ = some (.int .i64 0) := by rw [cellsAt B5.out]; rfl
  have y4 : wa5.frozen? ⟨w.heap.size, 4, none⟩ = false := free0 B5.out
  go_wp2
  refine bodyPost_ret (v := .agg #[.int .i64 v1, .int .i64 v2, .int .i64 v3, .int .i64 v4, .int .i64 v5]) (by simp [results, Try.results65, go_sem, z0, z1, z2, z3, z4]) rfl ⟨rfl, ?_, ?_⟩
  · iterate 5 (refine RP.setR ?_ hD)
    exact Q5.out
  · iterate 5 (refine only_setR ?_ (Nat.le_refl _))
    exact G5.out
end Go.Proofs.Ytebinhelnhnbeaa
