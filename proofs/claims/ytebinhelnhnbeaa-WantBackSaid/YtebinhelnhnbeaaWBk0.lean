/- The law WantBack, walked in a case (printed by genwback.py). -/
import Derived.Test.YtebinhelnhnbeaaWLem
set_option linter.unusedSimpArgs false
set_option linter.unusedVariables false
namespace Go.Proofs.Ytebinhelnhnbeaa
open Go.RowKit
set_option maxRecDepth 100000 in
set_option maxHeartbeats 4000000 in
theorem wback0 (x y : W7) (o p : O5) (a : Int) (w : World) (hx : ¬ MayW x) (hy : MayW y ∨ ¬ MayW y) (ho : ¬ MayO o) (hp : MayO p ∨ ¬ MayO p) : Calls Try.prog 13 #[x.val, y.val, o.val, p.val, .int .i64 a] w fun e w' => e = .returned (.bool true) ∧ Below w.heap.size w w' := by
  have T := Lib.hid told3
  have Px := Lib.hid (fun W => encW_no x W hx)
  have Po := Lib.hid (fun W => encO_no o W ho)
  simp only [W7.val, O5.val] at Px
  clear hx
  simp only [W7.val, O5.val] at Po
  clear ho
  obtain ⟨ky, Py⟩ := put_anyW y hy
  have Py := Lib.hid Py
  simp only [W7.val, O5.val] at Py
  clear hy
  obtain ⟨kp, Pp⟩ := put_anyO p hp
  have Pp := Lib.hid Pp
  simp only [W7.val, O5.val] at Pp
  clear hp
  unfold W7.val O5.val
  have F := four_boxes w (.cells #[.int .i64 x.b, .int .i64 x.c, .int .i64 x.d, .int .i64 x.m0, .int .i64 x.m1, .int .i64 x.m2, .int .i64 x.p] 57) (.cells #[.int .i64 y.b, .int .i64 y.c, .int .i64 y.d, .int .i64 y.m0, .int .i64 y.m1, .int .i64 y.m2, .int .i64 y.p] 57) (.cells #[.int .i64 o.kind, .int .i64 o.book, .int .i64 o.units, .int .i64 o.cust, .int .i64 o.amount] 65) (.cells #[.int .i64 p.kind, .int .i64 p.book, .int .i64 p.units, .int .i64 p.cust, .int .i64 p.amount] 65)
  obtain ⟨f1, f2, f3, f4, f5⟩ := F
  go_enter Try.func13, Try.ntmps13
  have x_0 := Lib.hid f1
  have y_0 := Lib.hid f2
  have o_0 := Lib.hid f3
  have p_0 := Lib.hid f4
  have B0 := Lib.hid f5
  clear f1 f2 f3 f4 f5
  go_wp2_with fail
  refine (Px.out _).mono ?_
  rintro e w1 ⟨rfl, q⟩
  have x_1 := Lib.hid (blk0 x_0.out q)
  have y_1 := Lib.hid (blk0 y_0.out q)
  have o_1 := Lib.hid (blk0 o_0.out q)
  have p_1 := Lib.hid (blk0 p_0.out q)
  have B1 := Lib.hid (bel0 B0.out B0.out.size q)
  clear q x_0 y_0 o_0 p_0 B0
  have cy0 : w1.cell? ⟨(w.heap.size + 1), 0, none⟩ = some (.int .i64 y.b) := (cellsW (i := 0) y_1.out).trans rfl
  have cy1 : w1.cell? ⟨(w.heap.size + 1), 1, none⟩ = some (.int .i64 y.c) := (cellsW (i := 1) y_1.out).trans rfl
  have cy2 : w1.cell? ⟨(w.heap.size + 1), 2, none⟩ = some (.int .i64 y.d) := (cellsW (i := 2) y_1.out).trans rfl
  have cy3 : w1.cell? ⟨(w.heap.size + 1), 3, none⟩ = some (.int .i64 y.m0) := (cellsW (i := 3) y_1.out).trans rfl
  have cy4 : w1.cell? ⟨(w.heap.size + 1), 4, none⟩ = some (.int .i64 y.m1) := (cellsW (i := 4) y_1.out).trans rfl
  have cy5 : w1.cell? ⟨(w.heap.size + 1), 5, none⟩ = some (.int .i64 y.m2) := (cellsW (i := 5) y_1.out).trans rfl
  have cy6 : w1.cell? ⟨(w.heap.size + 1), 6, none⟩ = some (.int .i64 y.p) := (cellsW (i := 6) y_1.out).trans rfl
  go_wp2_with fail
  refine (Py.out _).mono ?_
  rintro e w2 ⟨Ay, ny, cy, rfl, q⟩
  have x_2 := Lib.hid (blk0 x_1.out q)
  have y_2 := Lib.hid (blk0 y_1.out q)
  have o_2 := Lib.hid (blk0 o_1.out q)
  have p_2 := Lib.hid (blk0 p_1.out q)
  have B2 := Lib.hid (bel0 B1.out B1.out.size q)
  clear q x_1 y_1 o_1 p_1 B1
  clear cy0 cy1 cy2 cy3 cy4 cy5 cy6
  clear x_2
  clear y_2
  have co0 : w2.cell? ⟨(w.heap.size + 2), 0, none⟩ = some (.int .i64 o.kind) := (cellsW (i := 0) o_2.out).trans rfl
  have co1 : w2.cell? ⟨(w.heap.size + 2), 1, none⟩ = some (.int .i64 o.book) := (cellsW (i := 1) o_2.out).trans rfl
  have co2 : w2.cell? ⟨(w.heap.size + 2), 2, none⟩ = some (.int .i64 o.units) := (cellsW (i := 2) o_2.out).trans rfl
  have co3 : w2.cell? ⟨(w.heap.size + 2), 3, none⟩ = some (.int .i64 o.cust) := (cellsW (i := 3) o_2.out).trans rfl
  have co4 : w2.cell? ⟨(w.heap.size + 2), 4, none⟩ = some (.int .i64 o.amount) := (cellsW (i := 4) o_2.out).trans rfl
  go_wp2_with fail
  refine (Po.out _).mono ?_
  rintro e w3 ⟨rfl, q⟩
  have o_3 := Lib.hid (blk0 o_2.out q)
  have p_3 := Lib.hid (blk0 p_2.out q)
  have B3 := Lib.hid (bel0 B2.out B2.out.size q)
  clear q o_2 p_2 B2
  clear co0 co1 co2 co3 co4
  have cp0 : w3.cell? ⟨(w.heap.size + 3), 0, none⟩ = some (.int .i64 p.kind) := (cellsW (i := 0) p_3.out).trans rfl
  have cp1 : w3.cell? ⟨(w.heap.size + 3), 1, none⟩ = some (.int .i64 p.book) := (cellsW (i := 1) p_3.out).trans rfl
  have cp2 : w3.cell? ⟨(w.heap.size + 3), 2, none⟩ = some (.int .i64 p.units) := (cellsW (i := 2) p_3.out).trans rfl
  have cp3 : w3.cell? ⟨(w.heap.size + 3), 3, none⟩ = some (.int .i64 p.cust) := (cellsW (i := 3) p_3.out).trans rfl
  have cp4 : w3.cell? ⟨(w.heap.size + 3), 4, none⟩ = some (.int .i64 p.amount) := (cellsW (i := 4) p_3.out).trans rfl
  go_wp2_with fail
  refine (Pp.out _).mono ?_
  rintro e w4 ⟨Ap, np, cp, rfl, q⟩
  have o_4 := Lib.hid (blk0 o_3.out q)
  have p_4 := Lib.hid (blk0 p_3.out q)
  have B4 := Lib.hid (bel0 B3.out B3.out.size q)
  clear q o_3 p_3 B3
  clear cp0 cp1 cp2 cp3 cp4
  go_wp2_with fail
  refine (T.out _).mono ?_
  rintro e w5 ⟨rfl, q⟩
  have o_5 := Lib.hid (blk0 o_4.out q)
  have p_5 := Lib.hid (blk0 p_4.out q)
  have B5 := Lib.hid (bel0 B4.out B4.out.size q)
  clear q o_4 p_4 B4
  go_wp2
  go_ret
  exact ⟨rfl, B5.out⟩
end Go.Proofs.Ytebinhelnhnbeaa
