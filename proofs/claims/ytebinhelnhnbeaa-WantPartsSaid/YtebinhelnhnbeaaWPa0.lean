/- The law WantParts, a part (printed by genwparts.py). -/
import Derived.Test.YtebinhelnhnbeaaTold3
import Derived.Test.YtebinhelnhnbeaaOwnB
import Derived.Test.YtebinhelnhnbeaaWBounds0
set_option linter.unusedSimpArgs false
set_option linter.unusedVariables false
namespace Go.Proofs.Ytebinhelnhnbeaa
open Go.RowKit
theorem rem63 (a p j : Int) (h : (IntKind.u64.wrap a).tmod 6 = p) (hj : j = p % 3) : (IntKind.u64.wrap a).tmod 3 = j := by
  have h0 : 0 ≤ IntKind.u64.wrap a := by rw [IntKind.wrap_u64]; exact Int.emod_nonneg _ (by omega)
  rw [Int.tmod_eq_emod_of_nonneg h0] at h ⊢
  omega
set_option maxRecDepth 100000 in
set_option maxHeartbeats 2000000 in
theorem wparts_no (x : W7) (a b : Int) (w : World) (hx : decide (MayW x) = false) : Calls Try.prog 11 #[x.val, .int .i64 a, .int .i64 b] w fun e w' => e = .returned (.bool true) ∧ Below w.heap.size w w' := by
  have T := Lib.hid told3
  unfold W7.val
  have HM := Lib.hid (may_isW x false hx)
  have HR := Lib.hid (fun W => hx ▸ rmay_c x W)
  simp only [W7.val] at HM HR
  clear hx
  go_enter Try.func11, Try.ntmps11
  go_wp2_with fail
  refine (HM.out _).mono ?_
  rintro e w1 ⟨rfl, q⟩
  have H1 := Lib.hid ((q.block w.heap.size (by simp)).trans (heap_alloc_new w (.cells #[.int .i64 x.b, .int .i64 x.c, .int .i64 x.d, .int .i64 x.m0, .int .i64 x.m1, .int .i64 x.m2, .int .i64 x.p] 57)))
  have B1 := Lib.hid (show Below w.heap.size w w1 from ((Below.refl _ _).alloc (Nat.le_refl _) _).trans (q.mono (by simp)))
  clear q
  go_wp2_with fail
  refine (T.out _).mono ?_
  rintro e w2 ⟨rfl, q⟩
  have H2 := Lib.hid ((q.block w.heap.size (lt_size H1.out)).trans H1.out)
  have B2 := Lib.hid (B1.out.trans (q.mono B1.out.size))
  clear q
  have c0 : w2.cell? ⟨w.heap.size, 0, none⟩ = some (.int .i64 x.b) := (cellsW (i := 0) H2.out).trans rfl
  have c1 : w2.cell? ⟨w.heap.size, 1, none⟩ = some (.int .i64 x.c) := (cellsW (i := 1) H2.out).trans rfl
  have c2 : w2.cell? ⟨w.heap.size, 2, none⟩ = some (.int .i64 x.d) := (cellsW (i := 2) H2.out).trans rfl
  have c3 : w2.cell? ⟨w.heap.size, 3, none⟩ = some (.int .i64 x.m0) := (cellsW (i := 3) H2.out).trans rfl
  have c4 : w2.cell? ⟨w.heap.size, 4, none⟩ = some (.int .i64 x.m1) := (cellsW (i := 4) H2.out).trans rfl
  have c5 : w2.cell? ⟨w.heap.size, 5, none⟩ = some (.int .i64 x.m2) := (cellsW (i := 5) H2.out).trans rfl
  have c6 : w2.cell? ⟨w.heap.size, 6, none⟩ = some (.int .i64 x.p) := (cellsW (i := 6) H2.out).trans rfl
  go_wp2_with fail
  refine (HR.out _).mono ?_
  rintro e w3 ⟨rfl, q⟩
  have B3 := Lib.hid (B2.out.trans (q.mono B2.out.size))
  clear q
  go_wp2
  go_ret
  exact ⟨rfl, B3.out⟩
end Go.Proofs.Ytebinhelnhnbeaa
