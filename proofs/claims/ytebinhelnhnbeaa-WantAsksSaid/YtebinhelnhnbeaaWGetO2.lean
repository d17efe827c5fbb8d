/- want.Get, walked (O). -/
import Derived.Test.YtebinhelnhnbeaaWGetO1
set_option linter.unusedSimpArgs false
set_option linter.unusedVariables false
namespace Go.Proofs.Ytebinhelnhnbeaa
open Go.RowKit
set_option maxRecDepth 100000 in
set_option maxHeartbeats 4000000 in
theorem getop_w (A : Option Addr) (n c : Nat) (l : List UInt8) (w : World) (hr : Rd w w.heap.size 1 A n (B8 l)) (hn : n ≤ 100000000) :
    Calls Try.prog 46 #[.slice A n c] w (GO w l) := by
  have HC := Lib.hid (fun W h => getO_c A n c l W h hn)
  have HL := Lib.hid hr
  clear hr
  unfold GO at HC ⊢
  obtain ⟨x, k, hx⟩ : ∃ x k, gO l = (x, k) := ⟨_, _, rfl⟩
  rw [hx] at HC ⊢
  clear hx
  unfold PO O5.val at HC ⊢
  simp only at HC ⊢
  go_enter Try.func46, Try.ntmps46
  go_wp2_with fail
  refine (HC.out _ ((HL.out.alloc (Nat.le_refl _) _).more (by simp))).mono ?_
  rintro e w1 ⟨rfl, b1⟩
  have hR := (b1.block w.heap.size (by simp)).trans (heap_alloc_new w (.cells #[.int .i64 0, .int .i64 0, .int .i64 0, .int .i64 0, .int .i64 0] 65))
  have B1 := Lib.hid (show Below w.heap.size w w1 from ((Below.refl _ _).alloc (Nat.le_refl _) _).trans (b1.mono (by simp)))
  have hlt : w.heap.size < w1.heap.size := by have := b1.size; simp at this; omega
  have z0 : w1.cell? ⟨w.heap.size, 0, none⟩ = some (.int .i64 0) := by rw [cellsAt hR]; rfl
  have y0 : w1.frozen? ⟨w.heap.size, 0, none⟩ = false := free0 hR
  have z1 : w1.cell? ⟨w.heap.size, 1, none⟩ = some (.int .i64 0) := by rw [cellsAt hR]; rfl
  have y1 : w1.frozen? ⟨w.heap.size, 1, none⟩ = false := free0 hR
  have z2 : w1.cell? ⟨w.heap.size, 2, none⟩ = some (.int .i64 0) := by rw [cellsAt hR]; rfl
  have y2 : w1.frozen? ⟨w.heap.size, 2, none⟩ = false := free0 hR
  have z3 : w1.cell? ⟨w.heap.size, 3, none⟩ = some (.int .i64 0) := by rw [cellsAt hR]; rfl
  have y3 : w1.frozen? ⟨w.heap.size, 3, none⟩ = false := free0 hR
  have z4 : w1.cell? ⟨w.heap.size, 4, none⟩ = some (.int .i64 0) := by rw [cellsAt hR]; rfl
  have y4 : w1.frozen? ⟨w.heap.size, 4, none⟩ = false := free0 hR
  clear b1 hR
  go_wp2
  refine bodyPost_ret (v := .tuple #[.agg #[.int .i64 x.kind, .int .i64 x.book, .int .i64 x.units, .int .i64 x.cust, .int .i64 x.amount], .int .i64 k]) (by simp [results, Try.results46, go_sem, z0, z1, z2, z3, z4]) rfl ?_
  refine ⟨rfl, ?_⟩
  iterate 5 (refine below_setR ?_ (Nat.le_refl _))
  exact B1.out
end Go.Proofs.Ytebinhelnhnbeaa
