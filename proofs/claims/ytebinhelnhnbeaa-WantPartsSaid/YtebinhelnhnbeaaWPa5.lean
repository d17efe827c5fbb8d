/- The law WantParts, a part (printed by genwparts.py). -/
import Derived.Test.YtebinhelnhnbeaaTold3
import Derived.Test.YtebinhelnhnbeaaOwnB
import Derived.Test.YtebinhelnhnbeaaWPa0
set_option linter.unusedSimpArgs false
set_option linter.unusedVariables false
namespace Go.Proofs.Ytebinhelnhnbeaa
open Go.RowKit
set_option maxRecDepth 100000 in
set_option maxHeartbeats 4000000 in
theorem wparts4y (x : W7) (a b : Int) (w : World) (hx : MayW x) (hp : (IntKind.u64.wrap a).tmod 6 = 4) (k : Nat) (hk : (IntKind.u64.wrap b).tmod 1001 = (k : Int)) (hk2 : (k : Int) < 1001) (hu : ¬ (x.m0 = 0 ∧ (k : Int) = 0 ∧ x.m2 = 0)) : Calls Try.prog 11 #[x.val, .int .i64 a, .int .i64 b] w fun e w' => e = .returned (.bool true) ∧ Below w.heap.size w w' := by
  have T := Lib.hid told3
  have hp3 : (IntKind.u64.wrap a).tmod 3 = 1 := rem63 a 4 1 hp (by decide)
  unfold W7.val
  have HM := Lib.hid (may_isW x true (decide_eq_true hx))
  have hy : MayW ⟨x.b, x.c, x.d, x.m0, (k : Int), x.m2, x.p⟩ := by unfold MayW UnitsOk at hx ⊢; simp only; omega
  have HP := Lib.hid (fun W => encW_yes ⟨x.b, x.c, x.d, x.m0, (k : Int), x.m2, x.p⟩ W hy (MayW_fits _ hy))
  have HY := Lib.hid (may_isW ⟨x.b, x.c, x.d, x.m0, (k : Int), x.m2, x.p⟩ true (decide_eq_true hy))
  obtain ⟨l, hl⟩ : ∃ l, encW ⟨x.b, x.c, x.d, x.m0, (k : Int), x.m2, x.p⟩ = l := ⟨_, rfl⟩
  have hl1 : l.length ≤ 100 := by rw [← hl]; have := encs_le (W7.list ⟨x.b, x.c, x.d, x.m0, (k : Int), x.m2, x.p⟩); simp [W7.list] at this; unfold encW; simp [W7.list]; omega
  have HG := Lib.hid (fun A c (w : World) (hr : Rd w w.heap.size 1 A l.length (B8 l)) => get_is (show gW l = (⟨x.b, x.c, x.d, x.m0, (k : Int), x.m2, x.p⟩, 0) from hl ▸ gW_yes ⟨x.b, x.c, x.d, x.m0, (k : Int), x.m2, x.p⟩ hy) A l.length c w hr (by omega))
  have e7 := sameW ⟨x.b, x.c, x.d, x.m0, (k : Int), x.m2, x.p⟩ ⟨x.b, x.c, x.d, x.m0, (k : Int), x.m2, x.p⟩ true (by simp)
  rw [hl] at HP
  obtain ⟨n, hn⟩ : ∃ n, l.length = n := ⟨_, rfl⟩
  have HN := Lib.hid hn
  rw [hn] at HG hl1
  have hs : ((x.m0 == 0) && ((k : Int) == 0) && (x.m2 == 0)) = false := by rw [Bool.eq_false_iff]; simp; omega
  have HS := Lib.hid hs
  clear hl hn hx hy hs hu
  simp only [W7.val] at HM HP HY HG e7
  go_enter Try.func11, Try.ntmps11
  go_wp2_with fail
  refine (HM.out _).mono ?_
  rintro e w1 ⟨rfl, q⟩
  have H1 := Lib.hid ((q.block w.heap.size (by simp)).trans (heap_alloc_new w (.cells #[.int .i64 x.b, .int .i64 x.c, .int .i64 x.d, .int .i64 x.m0, .int .i64 x.m1, .int .i64 x.m2, .int .i64 x.p] 57)))
  have B1 := Lib.hid (show Below w.heap.size w w1 from ((Below.refl _ _).alloc (Nat.le_refl _) _).trans (q.mono (by simp)))
  clear q
  have cc0 : w1.cell? ⟨w.heap.size, 0, none⟩ = some (.int .i64 x.b) := (cellsW (i := 0) H1.out).trans rfl
  have cc1 : w1.cell? ⟨w.heap.size, 1, none⟩ = some (.int .i64 x.c) := (cellsW (i := 1) H1.out).trans rfl
  have cc2 : w1.cell? ⟨w.heap.size, 2, none⟩ = some (.int .i64 x.d) := (cellsW (i := 2) H1.out).trans rfl
  have cc3 : w1.cell? ⟨w.heap.size, 3, none⟩ = some (.int .i64 x.m0) := (cellsW (i := 3) H1.out).trans rfl
  have cc4 : w1.cell? ⟨w.heap.size, 4, none⟩ = some (.int .i64 x.m1) := (cellsW (i := 4) H1.out).trans rfl
  have cc5 : w1.cell? ⟨w.heap.size, 5, none⟩ = some (.int .i64 x.m2) := (cellsW (i := 5) H1.out).trans rfl
  have cc6 : w1.cell? ⟨w.heap.size, 6, none⟩ = some (.int .i64 x.p) := (cellsW (i := 6) H1.out).trans rfl
  go_wp2_with fail
  refine (HP.out _).mono ?_
  rintro e w2 ⟨v2, rfl, ob, q⟩
  obtain ⟨A2, c2, rfl, _, _, r2⟩ := ob.form
  rw [HN.out] at *
  have R2 := Lib.hid r2
  have G2 := Lib.hid ((q.block w1.heap.size (by simp)).trans (heap_alloc_new w1 (.cells #[.int .i64 x.b, .int .i64 x.c, .int .i64 x.d, .int .i64 x.m0, .int .i64 (k : Int), .int .i64 x.m2, .int .i64 x.p] 57)))
  have B2 := Lib.hid ((B1.out.alloc B1.out.size _).trans (q.mono (by have := B1.out.size; simp; omega)))
  clear q r2 ob cc0 cc1 cc2 cc3 cc4 cc5 cc6
  have dd0 : w2.cell? ⟨w1.heap.size, 0, none⟩ = some (.int .i64 x.b) := (cellsW (i := 0) G2.out).trans rfl
  have dd1 : w2.cell? ⟨w1.heap.size, 1, none⟩ = some (.int .i64 x.c) := (cellsW (i := 1) G2.out).trans rfl
  have dd2 : w2.cell? ⟨w1.heap.size, 2, none⟩ = some (.int .i64 x.d) := (cellsW (i := 2) G2.out).trans rfl
  have dd3 : w2.cell? ⟨w1.heap.size, 3, none⟩ = some (.int .i64 x.m0) := (cellsW (i := 3) G2.out).trans rfl
  have dd4 : w2.cell? ⟨w1.heap.size, 4, none⟩ = some (.int .i64 (k : Int)) := (cellsW (i := 4) G2.out).trans rfl
  have dd5 : w2.cell? ⟨w1.heap.size, 5, none⟩ = some (.int .i64 x.m2) := (cellsW (i := 5) G2.out).trans rfl
  have dd6 : w2.cell? ⟨w1.heap.size, 6, none⟩ = some (.int .i64 x.p) := (cellsW (i := 6) G2.out).trans rfl
  have e3 := fun w => arr_eqd 9998 x.m0 ((k : Int)) (x.m2) 0 0 0 w
  rw [HS.out] at e3
  go_wp2_with fail
  refine (HY.out _).mono ?_
  rintro e w3 ⟨rfl, q⟩
  have G3 := Lib.hid ((q.block w1.heap.size (lt_size G2.out)).trans G2.out)
  have R3 := Lib.hid ((R2.out.below q).more q.size)
  have B3 := Lib.hid (B2.out.trans (q.mono B2.out.size))
  clear q dd0 dd1 dd2 dd3 dd4 dd5 dd6
  go_wp2_with fail
  refine (HG.out _ _ _ R3.out).mono ?_
  rintro e w4 ⟨rfl, q⟩
  have G4 := Lib.hid ((q.block w1.heap.size (lt_size G3.out)).trans G3.out)
  have B4 := Lib.hid (B3.out.trans (q.mono B3.out.size))
  clear q
  go_wp2_with fail
  refine (T.out _).mono ?_
  rintro e w5 ⟨rfl, q⟩
  have Y5 := Lib.hid ((q.block w4.heap.size (by simp)).trans (heap_alloc_new w4 (.cells #[.int .i64 x.b, .int .i64 x.c, .int .i64 x.d, .int .i64 x.m0, .int .i64 (k : Int), .int .i64 x.m2, .int .i64 x.p] 57)))
  have G5 := Lib.hid ((q.block w1.heap.size (by have := lt_size G4.out; simp; omega)).trans ((Below.heap_alloc _ _ _ (lt_size G4.out)).trans G4.out))
  have B5 := Lib.hid ((B4.out.alloc B4.out.size _).trans (q.mono (by have := B4.out.size; simp; omega)))
  clear q
  have yy0 : w5.cell? ⟨w4.heap.size, 0, none⟩ = some (.int .i64 x.b) := (cellsW (i := 0) Y5.out).trans rfl
  have yy1 : w5.cell? ⟨w4.heap.size, 1, none⟩ = some (.int .i64 x.c) := (cellsW (i := 1) Y5.out).trans rfl
  have yy2 : w5.cell? ⟨w4.heap.size, 2, none⟩ = some (.int .i64 x.d) := (cellsW (i := 2) Y5.out).trans rfl
  have yy3 : w5.cell? ⟨w4.heap.size, 3, none⟩ = some (.int .i64 x.m0) := (cellsW (i := 3) Y5.out).trans rfl
  have yy4 : w5.cell? ⟨w4.heap.size, 4, none⟩ = some (.int .i64 (k : Int)) := (cellsW (i := 4) Y5.out).trans rfl
  have yy5 : w5.cell? ⟨w4.heap.size, 5, none⟩ = some (.int .i64 x.m2) := (cellsW (i := 5) Y5.out).trans rfl
  have yy6 : w5.cell? ⟨w4.heap.size, 6, none⟩ = some (.int .i64 x.p) := (cellsW (i := 6) Y5.out).trans rfl
  have zz0 : w5.cell? ⟨w1.heap.size, 0, none⟩ = some (.int .i64 x.b) := (cellsW (i := 0) G5.out).trans rfl
  have zz1 : w5.cell? ⟨w1.heap.size, 1, none⟩ = some (.int .i64 x.c) := (cellsW (i := 1) G5.out).trans rfl
  have zz2 : w5.cell? ⟨w1.heap.size, 2, none⟩ = some (.int .i64 x.d) := (cellsW (i := 2) G5.out).trans rfl
  have zz3 : w5.cell? ⟨w1.heap.size, 3, none⟩ = some (.int .i64 x.m0) := (cellsW (i := 3) G5.out).trans rfl
  have zz4 : w5.cell? ⟨w1.heap.size, 4, none⟩ = some (.int .i64 (k : Int)) := (cellsW (i := 4) G5.out).trans rfl
  have zz5 : w5.cell? ⟨w1.heap.size, 5, none⟩ = some (.int .i64 x.m2) := (cellsW (i := 5) G5.out).trans rfl
  have zz6 : w5.cell? ⟨w1.heap.size, 6, none⟩ = some (.int .i64 x.p) := (cellsW (i := 6) G5.out).trans rfl
  go_wp2
  go_ret
  exact ⟨rfl, B5.out⟩
end Go.Proofs.Ytebinhelnhnbeaa
