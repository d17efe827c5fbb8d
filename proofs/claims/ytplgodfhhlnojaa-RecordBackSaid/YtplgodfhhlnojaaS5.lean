/- SagaA1, SagaA2, merged. -/
import Derived.Test.YtplgodfhhlnojaaS4
import Derived.Outline
set_option linter.unusedSimpArgs false
set_option linter.unusedVariables false
/- saga.Answer, walked (printed by gensagan.py). -/
namespace Go.Proofs.Ytplgodfhhlnojaa
open Go.RowKit
set_option maxRecDepth 100000 in
set_option maxHeartbeats 2000000 in
theorem ans1_no (s : S11) (x : A6) (answer : Int) (w : World) (hno : (nextS s).2 = false ∨ x ≠ (nextS s).1) : Calls Try.prog 26 #[s.val, x.val, .int .i64 answer] w fun e w' => e = .returned (.tuple #[(ansS s x answer).1.val, .bool (ansS s x answer).2]) ∧ Below w.heap.size w w' := by
  obtain ⟨⟨b, c, d, m0, m1, m2, p⟩, ph, st, re, si⟩ := s
  obtain ⟨y, is, hnx⟩ : ∃ y is, nextS ⟨⟨b, c, d, m0, m1, m2, p⟩, ph, st, re, si⟩ = (y, is) := ⟨_, _, rfl⟩
  have HN := Lib.hid hnx
  cases is
  · unfold A6.val
    obtain ⟨f1, f2, f3, f4⟩ := three_boxes w (.cells #[.int .i64 b, .int .i64 c, .int .i64 d, .int .i64 m0, .int .i64 m1, .int .i64 m2, .int .i64 p, .int .i64 ph, .int .i64 st, .int .i64 re, .int .i64 si] 26) (.cells #[.int .i64 x.node, .int .i64 x.kind, .int .i64 x.book, .int .i64 x.units, .int .i64 x.cust, .int .i64 x.amount] 30) (.cells #[.int .i64 0, .int .i64 0, .int .i64 0, .int .i64 0, .int .i64 0, .int .i64 0, .int .i64 0, .int .i64 0, .int .i64 0, .int .i64 0, .int .i64 0] 26)
    have S0 := Lib.hid f1
    have X0 := Lib.hid f2
    have R0 := Lib.hid f3
    have B0 := Lib.hid f4
    clear f1 f2 f3 f4
    have HNX := Lib.hid (fun W => next1 ⟨⟨b, c, d, m0, m1, m2, p⟩, ph, st, re, si⟩ W)
    rw [hnx] at HNX
    unfold S11.val A6.val at HNX
    unfold S11.val
    simp only at HNX ⊢
    go_enter Try.func26, Try.ntmps26
    go_wp2_with fail
    refine (HNX.out _).mono ?_
    rintro e w1 ⟨rfl, q⟩
    have S1 := Lib.hid (blk0 S0.out q)
    have X1 := Lib.hid (blk0 X0.out q)
    have R1 := Lib.hid (blk0 R0.out q)
    have B1 := Lib.hid (bel0 B0.out B0.out.size q)
    clear q
    have a0 : (w1.alloc (.cells #[.int .i64 y.node, .int .i64 y.kind, .int .i64 y.book, .int .i64 y.units, .int .i64 y.cust, .int .i64 y.amount] 30)).cell? ⟨w.heap.size, 0, none⟩ = some (.int .i64 b) := (cellsB (i := 0) (alc S1.out)).trans rfl
    have a1 : (w1.alloc (.cells #[.int .i64 y.node, .int .i64 y.kind, .int .i64 y.book, .int .i64 y.units, .int .i64 y.cust, .int .i64 y.amount] 30)).cell? ⟨w.heap.size, 1, none⟩ = some (.int .i64 c) := (cellsB (i := 1) (alc S1.out)).trans rfl
    have a2 : (w1.alloc (.cells #[.int .i64 y.node, .int .i64 y.kind, .int .i64 y.book, .int .i64 y.units, .int .i64 y.cust, .int .i64 y.amount] 30)).cell? ⟨w.heap.size, 2, none⟩ = some (.int .i64 d) := (cellsB (i := 2) (alc S1.out)).trans rfl
    have a3 : (w1.alloc (.cells #[.int .i64 y.node, .int .i64 y.kind, .int .i64 y.book, .int .i64 y.units, .int .i64 y.cust, .int .i64 y.amount] 30)).cell? ⟨w.heap.size, 3, none⟩ = some (.int .i64 m0) := (cellsB (i := 3) (alc S1.out)).trans rfl
    have a4 : (w1.alloc (.cells #[.int .i64 y.node, .int .i64 y.kind, .int .i64 y.book, .int .i64 y.units, .int .i64 y.cust, .int .i64 y.amount] 30)).cell? ⟨w.heap.size, 4, none⟩ = some (.int .i64 m1) := (cellsB (i := 4) (alc S1.out)).trans rfl
    have a5 : (w1.alloc (.cells #[.int .i64 y.node, .int .i64 y.kind, .int .i64 y.book, .int .i64 y.units, .int .i64 y.cust, .int .i64 y.amount] 30)).cell? ⟨w.heap.size, 5, none⟩ = some (.int .i64 m2) := (cellsB (i := 5) (alc S1.out)).trans rfl
    have a6 : (w1.alloc (.cells #[.int .i64 y.node, .int .i64 y.kind, .int .i64 y.book, .int .i64 y.units, .int .i64 y.cust, .int .i64 y.amount] 30)).cell? ⟨w.heap.size, 6, none⟩ = some (.int .i64 p) := (cellsB (i := 6) (alc S1.out)).trans rfl
    have a7 : (w1.alloc (.cells #[.int .i64 y.node, .int .i64 y.kind, .int .i64 y.book, .int .i64 y.units, .int .i64 y.cust, .int .i64 y.amount] 30)).cell? ⟨w.heap.size, 7, none⟩ = some (.int .i64 ph) := (cellsB (i := 7) (alc S1.out)).trans rfl
    have a8 : (w1.alloc (.cells #[.int .i64 y.node, .int .i64 y.kind, .int .i64 y.book, .int .i64 y.units, .int .i64 y.cust, .int .i64 y.amount] 30)).cell? ⟨w.heap.size, 8, none⟩ = some (.int .i64 st) := (cellsB (i := 8) (alc S1.out)).trans rfl
    have a9 : (w1.alloc (.cells #[.int .i64 y.node, .int .i64 y.kind, .int .i64 y.book, .int .i64 y.units, .int .i64 y.cust, .int .i64 y.amount] 30)).cell? ⟨w.heap.size, 9, none⟩ = some (.int .i64 re) := (cellsB (i := 9) (alc S1.out)).trans rfl
    have a10 : (w1.alloc (.cells #[.int .i64 y.node, .int .i64 y.kind, .int .i64 y.book, .int .i64 y.units, .int .i64 y.cust, .int .i64 y.amount] 30)).cell? ⟨w.heap.size, 10, none⟩ = some (.int .i64 si) := (cellsB (i := 10) (alc S1.out)).trans rfl
    have x0 : (w1.alloc (.cells #[.int .i64 y.node, .int .i64 y.kind, .int .i64 y.book, .int .i64 y.units, .int .i64 y.cust, .int .i64 y.amount] 30)).cell? ⟨(w.heap.size + 1), 0, none⟩ = some (.int .i64 x.node) := (cellsB (i := 0) (alc X1.out)).trans rfl
    have x1 : (w1.alloc (.cells #[.int .i64 y.node, .int .i64 y.kind, .int .i64 y.book, .int .i64 y.units, .int .i64 y.cust, .int .i64 y.amount] 30)).cell? ⟨(w.heap.size + 1), 1, none⟩ = some (.int .i64 x.kind) := (cellsB (i := 1) (alc X1.out)).trans rfl
    have x2 : (w1.alloc (.cells #[.int .i64 y.node, .int .i64 y.kind, .int .i64 y.book, .int .i64 y.units, .int .i64 y.cust, .int .i64 y.amount] 30)).cell? ⟨(w.heap.size + 1), 2, none⟩ = some (.int .i64 x.book) := (cellsB (i := 2) (alc X1.out)).trans rfl
    have x3 : (w1.alloc (.cells #[.int .i64 y.node, .int .i64 y.kind, .int .i64 y.book, .int .i64 y.units, .int .i64 y.cust, .int .i64 y.amount] 30)).cell? ⟨(w.heap.size + 1), 3, none⟩ = some (.int .i64 x.units) := (cellsB (i := 3) (alc X1.out)).trans rfl
    have x4 : (w1.alloc (.cells #[.int .i64 y.node, .int .i64 y.kind, .int .i64 y.book, .int .i64 y.units, .int .i64 y.cust, .int .i64 y.amount] 30)).cell? ⟨(w.heap.size + 1), 4, none⟩ = some (.int .i64 x.cust) := (cellsB (i := 4) (alc X1.out)).trans rfl
    have x5 : (w1.alloc (.cells #[.int .i64 y.node, .int .i64 y.kind, .int .i64 y.book, .int .i64 y.units, .int .i64 y.cust, .int .i64 y.amount] 30)).cell? ⟨(w.heap.size + 1), 5, none⟩ = some (.int .i64 x.amount) := (cellsB (i := 5) (alc X1.out)).trans rfl
    have n0 : (w1.alloc (.cells #[.int .i64 y.node, .int .i64 y.kind, .int .i64 y.book, .int .i64 y.units, .int .i64 y.cust, .int .i64 y.amount] 30)).cell? ⟨w1.heap.size, 0, none⟩ = some (.int .i64 y.node) := (cellsB (i := 0) (heap_alloc_new w1 _)).trans rfl
    have n1 : (w1.alloc (.cells #[.int .i64 y.node, .int .i64 y.kind, .int .i64 y.book, .int .i64 y.units, .int .i64 y.cust, .int .i64 y.amount] 30)).cell? ⟨w1.heap.size, 1, none⟩ = some (.int .i64 y.kind) := (cellsB (i := 1) (heap_alloc_new w1 _)).trans rfl
    have n2 : (w1.alloc (.cells #[.int .i64 y.node, .int .i64 y.kind, .int .i64 y.book, .int .i64 y.units, .int .i64 y.cust, .int .i64 y.amount] 30)).cell? ⟨w1.heap.size, 2, none⟩ = some (.int .i64 y.book) := (cellsB (i := 2) (heap_alloc_new w1 _)).trans rfl
    have n3 : (w1.alloc (.cells #[.int .i64 y.node, .int .i64 y.kind, .int .i64 y.book, .int .i64 y.units, .int .i64 y.cust, .int .i64 y.amount] 30)).cell? ⟨w1.heap.size, 3, none⟩ = some (.int .i64 y.units) := (cellsB (i := 3) (heap_alloc_new w1 _)).trans rfl
    have n4 : (w1.alloc (.cells #[.int .i64 y.node, .int .i64 y.kind, .int .i64 y.book, .int .i64 y.units, .int .i64 y.cust, .int .i64 y.amount] 30)).cell? ⟨w1.heap.size, 4, none⟩ = some (.int .i64 y.cust) := (cellsB (i := 4) (heap_alloc_new w1 _)).trans rfl
    have n5 : (w1.alloc (.cells #[.int .i64 y.node, .int .i64 y.kind, .int .i64 y.book, .int .i64 y.units, .int .i64 y.cust, .int .i64 y.amount] 30)).cell? ⟨w1.heap.size, 5, none⟩ = some (.int .i64 y.amount) := (cellsB (i := 5) (heap_alloc_new w1 _)).trans rfl
    have z0 : (w1.alloc (.cells #[.int .i64 y.node, .int .i64 y.kind, .int .i64 y.book, .int .i64 y.units, .int .i64 y.cust, .int .i64 y.amount] 30)).cell? ⟨(w.heap.size + 1 + 1), 0, none⟩ = some (.int .i64 0) := (cellsB (i := 0) (alc R1.out)).trans rfl
    have z1 : (w1.alloc (.cells #[.int .i64 y.node, .int .i64 y.kind, .int .i64 y.book, .int .i64 y.units, .int .i64 y.cust, .int .i64 y.amount] 30)).cell? ⟨(w.heap.size + 1 + 1), 1, none⟩ = some (.int .i64 0) := (cellsB (i := 1) (alc R1.out)).trans rfl
    have z2 : (w1.alloc (.cells #[.int .i64 y.node, .int .i64 y.kind, .int .i64 y.book, .int .i64 y.units, .int .i64 y.cust, .int .i64 y.amount] 30)).cell? ⟨(w.heap.size + 1 + 1), 2, none⟩ = some (.int .i64 0) := (cellsB (i := 2) (alc R1.out)).trans rfl
    have z3 : (w1.alloc (.cells #[.int .i64 y.node, .int .i64 y.kind, .int .i64 y.book, .int .i64 y.units, .int .i64 y.cust, .int .i64 y.amount] 30)).cell? ⟨(w.heap.size + 1 + 1), 3, none⟩ = some (.int .i64 0) := (cellsB (i := 3) (alc R1.out)).trans rfl
    have z4 : (w1.alloc (.cells #[.int .i64 y.node, .int .i64 y.kind, .int .i64 y.book, .int .i64 y.units, .int .i64 y.cust, .int .i64 y.amount] 30)).cell? ⟨(w.heap.size + 1 + 1), 4, none⟩ = some (.int .i64 0) := (cellsB (i := 4) (alc R1.out)).trans rfl
    have z5 : (w1.alloc (.cells #[.int .i64 y.node, .int .i64 y.kind, .int .i64 y.book, .int .i64 y.units, .int .i64 y.cust, .int .i64 y.amount] 30)).cell? ⟨(w.heap.size + 1 + 1), 5, none⟩ = some (.int .i64 0) := (cellsB (i := 5) (alc R1.out)).trans rfl
    have z6 : (w1.alloc (.cells #[.int .i64 y.node, .int .i64 y.kind, .int .i64 y.book, .int .i64 y.units, .int .i64 y.cust, .int .i64 y.amount] 30)).cell? ⟨(w.heap.size + 1 + 1), 6, none⟩ = some (.int .i64 0) := (cellsB (i := 6) (alc R1.out)).trans rfl
    have z7 : (w1.alloc (.cells #[.int .i64 y.node, .int .i64 y.kind, .int .i64 y.book, .int .i64 y.units, .int .i64 y.cust, .int .i64 y.amount] 30)).cell? ⟨(w.heap.size + 1 + 1), 7, none⟩ = some (.int .i64 0) := (cellsB (i := 7) (alc R1.out)).trans rfl
    have z8 : (w1.alloc (.cells #[.int .i64 y.node, .int .i64 y.kind, .int .i64 y.book, .int .i64 y.units, .int .i64 y.cust, .int .i64 y.amount] 30)).cell? ⟨(w.heap.size + 1 + 1), 8, none⟩ = some (.int .i64 0) := (cellsB (i := 8) (alc R1.out)).trans rfl
    have z9 : (w1.alloc (.cells #[.int .i64 y.node, .int .i64 y.kind, .int .i64 y.book, .int .i64 y.units, .int .i64 y.cust, .int .i64 y.amount] 30)).cell? ⟨(w.heap.size + 1 + 1), 9, none⟩ = some (.int .i64 0) := (cellsB (i := 9) (alc R1.out)).trans rfl
    have z10 : (w1.alloc (.cells #[.int .i64 y.node, .int .i64 y.kind, .int .i64 y.book, .int .i64 y.units, .int .i64 y.cust, .int .i64 y.amount] 30)).cell? ⟨(w.heap.size + 1 + 1), 10, none⟩ = some (.int .i64 0) := (cellsB (i := 10) (alc R1.out)).trans rfl
    have y0 : (w1.alloc (.cells #[.int .i64 y.node, .int .i64 y.kind, .int .i64 y.book, .int .i64 y.units, .int .i64 y.cust, .int .i64 y.amount] 30)).frozen? ⟨(w.heap.size + 1 + 1), 0, none⟩ = false := frozB (alc R1.out)
    have y1 : (w1.alloc (.cells #[.int .i64 y.node, .int .i64 y.kind, .int .i64 y.book, .int .i64 y.units, .int .i64 y.cust, .int .i64 y.amount] 30)).frozen? ⟨(w.heap.size + 1 + 1), 1, none⟩ = false := frozB (alc R1.out)
    have y2 : (w1.alloc (.cells #[.int .i64 y.node, .int .i64 y.kind, .int .i64 y.book, .int .i64 y.units, .int .i64 y.cust, .int .i64 y.amount] 30)).frozen? ⟨(w.heap.size + 1 + 1), 2, none⟩ = false := frozB (alc R1.out)
    have y3 : (w1.alloc (.cells #[.int .i64 y.node, .int .i64 y.kind, .int .i64 y.book, .int .i64 y.units, .int .i64 y.cust, .int .i64 y.amount] 30)).frozen? ⟨(w.heap.size + 1 + 1), 3, none⟩ = false := frozB (alc R1.out)
    have y4 : (w1.alloc (.cells #[.int .i64 y.node, .int .i64 y.kind, .int .i64 y.book, .int .i64 y.units, .int .i64 y.cust, .int .i64 y.amount] 30)).frozen? ⟨(w.heap.size + 1 + 1), 4, none⟩ = false := frozB (alc R1.out)
    have y5 : (w1.alloc (.cells #[.int .i64 y.node, .int .i64 y.kind, .int .i64 y.book, .int .i64 y.units, .int .i64 y.cust, .int .i64 y.amount] 30)).frozen? ⟨(w.heap.size + 1 + 1), 5, none⟩ = false := frozB (alc R1.out)
    have y6 : (w1.alloc (.cells #[.int .i64 y.node, .int .i64 y.kind, .int .i64 y.book, .int .i64 y.units, .int .i64 y.cust, .int .i64 y.amount] 30)).frozen? ⟨(w.heap.size + 1 + 1), 6, none⟩ = false := frozB (alc R1.out)
    have y7 : (w1.alloc (.cells #[.int .i64 y.node, .int .i64 y.kind, .int .i64 y.book, .int .i64 y.units, .int .i64 y.cust, .int .i64 y.amount] 30)).frozen? ⟨(w.heap.size + 1 + 1), 7, none⟩ = false := frozB (alc R1.out)
    have y8 : (w1.alloc (.cells #[.int .i64 y.node, .int .i64 y.kind, .int .i64 y.book, .int .i64 y.units, .int .i64 y.cust, .int .i64 y.amount] 30)).frozen? ⟨(w.heap.size + 1 + 1), 8, none⟩ = false := frozB (alc R1.out)
    have y9 : (w1.alloc (.cells #[.int .i64 y.node, .int .i64 y.kind, .int .i64 y.book, .int .i64 y.units, .int .i64 y.cust, .int .i64 y.amount] 30)).frozen? ⟨(w.heap.size + 1 + 1), 9, none⟩ = false := frozB (alc R1.out)
    have y10 : (w1.alloc (.cells #[.int .i64 y.node, .int .i64 y.kind, .int .i64 y.book, .int .i64 y.units, .int .i64 y.cust, .int .i64 y.amount] 30)).frozen? ⟨(w.heap.size + 1 + 1), 10, none⟩ = false := frozB (alc R1.out)
    have t0 : (w1.alloc (.cells #[.int .i64 y.node, .int .i64 y.kind, .int .i64 y.book, .int .i64 y.units, .int .i64 y.cust, .int .i64 y.amount] 30)).frozen? ⟨w.heap.size, 0, none⟩ = false := frozB (alc S1.out)
    have t1 : (w1.alloc (.cells #[.int .i64 y.node, .int .i64 y.kind, .int .i64 y.book, .int .i64 y.units, .int .i64 y.cust, .int .i64 y.amount] 30)).frozen? ⟨w.heap.size, 1, none⟩ = false := frozB (alc S1.out)
    have t2 : (w1.alloc (.cells #[.int .i64 y.node, .int .i64 y.kind, .int .i64 y.book, .int .i64 y.units, .int .i64 y.cust, .int .i64 y.amount] 30)).frozen? ⟨w.heap.size, 2, none⟩ = false := frozB (alc S1.out)
    have t3 : (w1.alloc (.cells #[.int .i64 y.node, .int .i64 y.kind, .int .i64 y.book, .int .i64 y.units, .int .i64 y.cust, .int .i64 y.amount] 30)).frozen? ⟨w.heap.size, 3, none⟩ = false := frozB (alc S1.out)
    have t4 : (w1.alloc (.cells #[.int .i64 y.node, .int .i64 y.kind, .int .i64 y.book, .int .i64 y.units, .int .i64 y.cust, .int .i64 y.amount] 30)).frozen? ⟨w.heap.size, 4, none⟩ = false := frozB (alc S1.out)
    have t5 : (w1.alloc (.cells #[.int .i64 y.node, .int .i64 y.kind, .int .i64 y.book, .int .i64 y.units, .int .i64 y.cust, .int .i64 y.amount] 30)).frozen? ⟨w.heap.size, 5, none⟩ = false := frozB (alc S1.out)
    have t6 : (w1.alloc (.cells #[.int .i64 y.node, .int .i64 y.kind, .int .i64 y.book, .int .i64 y.units, .int .i64 y.cust, .int .i64 y.amount] 30)).frozen? ⟨w.heap.size, 6, none⟩ = false := frozB (alc S1.out)
    have t7 : (w1.alloc (.cells #[.int .i64 y.node, .int .i64 y.kind, .int .i64 y.book, .int .i64 y.units, .int .i64 y.cust, .int .i64 y.amount] 30)).frozen? ⟨w.heap.size, 7, none⟩ = false := frozB (alc S1.out)
    have t8 : (w1.alloc (.cells #[.int .i64 y.node, .int .i64 y.kind, .int .i64 y.book, .int .i64 y.units, .int .i64 y.cust, .int .i64 y.amount] 30)).frozen? ⟨w.heap.size, 8, none⟩ = false := frozB (alc S1.out)
    have t9 : (w1.alloc (.cells #[.int .i64 y.node, .int .i64 y.kind, .int .i64 y.book, .int .i64 y.units, .int .i64 y.cust, .int .i64 y.amount] 30)).frozen? ⟨w.heap.size, 9, none⟩ = false := frozB (alc S1.out)
    have t10 : (w1.alloc (.cells #[.int .i64 y.node, .int .i64 y.kind, .int .i64 y.book, .int .i64 y.units, .int .i64 y.cust, .int .i64 y.amount] 30)).frozen? ⟨w.heap.size, 10, none⟩ = false := frozB (alc S1.out)
    have zz0 : w1.cell? ⟨(w.heap.size + 1 + 1), 0, none⟩ = some (.int .i64 0) := (cellsB (i := 0) R1.out).trans rfl
    have zz1 : w1.cell? ⟨(w.heap.size + 1 + 1), 1, none⟩ = some (.int .i64 0) := (cellsB (i := 1) R1.out).trans rfl
    have zz2 : w1.cell? ⟨(w.heap.size + 1 + 1), 2, none⟩ = some (.int .i64 0) := (cellsB (i := 2) R1.out).trans rfl
    have zz3 : w1.cell? ⟨(w.heap.size + 1 + 1), 3, none⟩ = some (.int .i64 0) := (cellsB (i := 3) R1.out).trans rfl
    have zz4 : w1.cell? ⟨(w.heap.size + 1 + 1), 4, none⟩ = some (.int .i64 0) := (cellsB (i := 4) R1.out).trans rfl
    have zz5 : w1.cell? ⟨(w.heap.size + 1 + 1), 5, none⟩ = some (.int .i64 0) := (cellsB (i := 5) R1.out).trans rfl
    have zz6 : w1.cell? ⟨(w.heap.size + 1 + 1), 6, none⟩ = some (.int .i64 0) := (cellsB (i := 6) R1.out).trans rfl
    have zz7 : w1.cell? ⟨(w.heap.size + 1 + 1), 7, none⟩ = some (.int .i64 0) := (cellsB (i := 7) R1.out).trans rfl
    have zz8 : w1.cell? ⟨(w.heap.size + 1 + 1), 8, none⟩ = some (.int .i64 0) := (cellsB (i := 8) R1.out).trans rfl
    have zz9 : w1.cell? ⟨(w.heap.size + 1 + 1), 9, none⟩ = some (.int .i64 0) := (cellsB (i := 9) R1.out).trans rfl
    have zz10 : w1.cell? ⟨(w.heap.size + 1 + 1), 10, none⟩ = some (.int .i64 0) := (cellsB (i := 10) R1.out).trans rfl
    have yy0 : w1.frozen? ⟨(w.heap.size + 1 + 1), 0, none⟩ = false := frozB R1.out
    have yy1 : w1.frozen? ⟨(w.heap.size + 1 + 1), 1, none⟩ = false := frozB R1.out
    have yy2 : w1.frozen? ⟨(w.heap.size + 1 + 1), 2, none⟩ = false := frozB R1.out
    have yy3 : w1.frozen? ⟨(w.heap.size + 1 + 1), 3, none⟩ = false := frozB R1.out
    have yy4 : w1.frozen? ⟨(w.heap.size + 1 + 1), 4, none⟩ = false := frozB R1.out
    have yy5 : w1.frozen? ⟨(w.heap.size + 1 + 1), 5, none⟩ = false := frozB R1.out
    have yy6 : w1.frozen? ⟨(w.heap.size + 1 + 1), 6, none⟩ = false := frozB R1.out
    have yy7 : w1.frozen? ⟨(w.heap.size + 1 + 1), 7, none⟩ = false := frozB R1.out
    have yy8 : w1.frozen? ⟨(w.heap.size + 1 + 1), 8, none⟩ = false := frozB R1.out
    have yy9 : w1.frozen? ⟨(w.heap.size + 1 + 1), 9, none⟩ = false := frozB R1.out
    have yy10 : w1.frozen? ⟨(w.heap.size + 1 + 1), 10, none⟩ = false := frozB R1.out
    have tt0 : w1.frozen? ⟨w.heap.size, 0, none⟩ = false := frozB S1.out
    have tt1 : w1.frozen? ⟨w.heap.size, 1, none⟩ = false := frozB S1.out
    have tt2 : w1.frozen? ⟨w.heap.size, 2, none⟩ = false := frozB S1.out
    have tt3 : w1.frozen? ⟨w.heap.size, 3, none⟩ = false := frozB S1.out
    have tt4 : w1.frozen? ⟨w.heap.size, 4, none⟩ = false := frozB S1.out
    have tt5 : w1.frozen? ⟨w.heap.size, 5, none⟩ = false := frozB S1.out
    have tt6 : w1.frozen? ⟨w.heap.size, 6, none⟩ = false := frozB S1.out
    have tt7 : w1.frozen? ⟨w.heap.size, 7, none⟩ = false := frozB S1.out
    have tt8 : w1.frozen? ⟨w.heap.size, 8, none⟩ = false := frozB S1.out
    have tt9 : w1.frozen? ⟨w.heap.size, 9, none⟩ = false := frozB S1.out
    have tt10 : w1.frozen? ⟨w.heap.size, 10, none⟩ = false := frozB S1.out
    have hl1 : w.heap.size + 1 + 1 < w1.heap.size := lt_size R1.out
    have hl0 : w.heap.size < w1.heap.size := lt_size S1.out
    have hn1 : ¬ w.heap.size + 1 + 1 = w1.heap.size := by omega
    have hn0 : ¬ w.heap.size = w1.heap.size := by omega
    go_wp2
    refine bodyPost_ret (v := .tuple #[.agg #[.int .i64 b, .int .i64 c, .int .i64 d, .int .i64 m0, .int .i64 m1, .int .i64 m2, .int .i64 p, .int .i64 ph, .int .i64 st, .int .i64 re, .int .i64 si], .bool false]) (by simp [results, Try.results26, go_sem, z0, z1, z2, z3, z4, z5, z6, z7, z8, z9, z10, acell, hl1, hn1, zz0, zz1, zz2, zz3, zz4, zz5, zz6, zz7, zz8, zz9, zz10]) rfl ?_
    refine ⟨?_, ?_⟩
    · rw [ansS, if_pos (.inl (by rw [HN.out]))]; try rfl
    · repeat (first | (with_reducible refine belowS ?_ ?hR; case hR => omega) | (with_reducible refine Below.alloc ?_ ?hA _; case hA => simp [World.setCell]; omega))
      with_reducible exact B1.out
  have hxy : x ≠ y := hno.elim (fun g => by rw [hnx] at g; cases g) (fun g => by rw [hnx] at g; exact g)
  clear hno
  have e1 := sameA x y false (decide_eq_false hxy)
  unfold A6.val
  obtain ⟨f1, f2, f3, f4⟩ := three_boxes w (.cells #[.int .i64 b, .int .i64 c, .int .i64 d, .int .i64 m0, .int .i64 m1, .int .i64 m2, .int .i64 p, .int .i64 ph, .int .i64 st, .int .i64 re, .int .i64 si] 26) (.cells #[.int .i64 x.node, .int .i64 x.kind, .int .i64 x.book, .int .i64 x.units, .int .i64 x.cust, .int .i64 x.amount] 30) (.cells #[.int .i64 0, .int .i64 0, .int .i64 0, .int .i64 0, .int .i64 0, .int .i64 0, .int .i64 0, .int .i64 0, .int .i64 0, .int .i64 0, .int .i64 0] 26)
  have S0 := Lib.hid f1
  have X0 := Lib.hid f2
  have R0 := Lib.hid f3
  have B0 := Lib.hid f4
  clear f1 f2 f3 f4
  have HNX := Lib.hid (fun W => next1 ⟨⟨b, c, d, m0, m1, m2, p⟩, ph, st, re, si⟩ W)
  rw [hnx] at HNX
  unfold S11.val A6.val at HNX
  unfold S11.val
  simp only at HNX ⊢
  go_enter Try.func26, Try.ntmps26
  go_wp2_with fail
  refine (HNX.out _).mono ?_
  rintro e w1 ⟨rfl, q⟩
  have S1 := Lib.hid (blk0 S0.out q)
  have X1 := Lib.hid (blk0 X0.out q)
  have R1 := Lib.hid (blk0 R0.out q)
  have B1 := Lib.hid (bel0 B0.out B0.out.size q)
  clear q
  have a0 : (w1.alloc (.cells #[.int .i64 y.node, .int .i64 y.kind, .int .i64 y.book, .int .i64 y.units, .int .i64 y.cust, .int .i64 y.amount] 30)).cell? ⟨w.heap.size, 0, none⟩ = some (.int .i64 b) := (cellsB (i := 0) (alc S1.out)).trans rfl
  have a1 : (w1.alloc (.cells #[.int .i64 y.node, .int .i64 y.kind, .int .i64 y.book, .int .i64 y.units, .int .i64 y.cust, .int .i64 y.amount] 30)).cell? ⟨w.heap.size, 1, none⟩ = some (.int .i64 c) := (cellsB (i := 1) (alc S1.out)).trans rfl
  have a2 : (w1.alloc (.cells #[.int .i64 y.node, .int .i64 y.kind, .int .i64 y.book, .int .i64 y.units, .int .i64 y.cust, .int .i64 y.amount] 30)).cell? ⟨w.heap.size, 2, none⟩ = some (.int .i64 d) := (cellsB (i := 2) (alc S1.out)).trans rfl
  have a3 : (w1.alloc (.cells #[.int .i64 y.node, .int .i64 y.kind, .int .i64 y.book, .int .i64 y.units, .int .i64 y.cust, .int .i64 y.amount] 30)).cell? ⟨w.heap.size, 3, none⟩ = some (.int .i64 m0) := (cellsB (i := 3) (alc S1.out)).trans rfl
  have a4 : (w1.alloc (.cells #[.int .i64 y.node, .int .i64 y.kind, .int .i64 y.book, .int .i64 y.units, .int .i64 y.cust, .int .i64 y.amount] 30)).cell? ⟨w.heap.size, 4, none⟩ = some (.int .i64 m1) := (cellsB (i := 4) (alc S1.out)).trans rfl
  have a5 : (w1.alloc (.cells #[.int .i64 y.node, .int .i64 y.kind, .int .i64 y.book, .int .i64 y.units, .int .i64 y.cust, .int .i64 y.amount] 30)).cell? ⟨w.heap.size, 5, none⟩ = some (.int .i64 m2) := (cellsB (i := 5) (alc S1.out)).trans rfl
  have a6 : (w1.alloc (.cells #[.int .i64 y.node, .int .i64 y.kind, .int .i64 y.book, .int .i64 y.units, .int .i64 y.cust, .int .i64 y.amount] 30)).cell? ⟨w.heap.size, 6, none⟩ = some (.int .i64 p) := (cellsB (i := 6) (alc S1.out)).trans rfl
  have a7 : (w1.alloc (.cells #[.int .i64 y.node, .int .i64 y.kind, .int .i64 y.book, .int .i64 y.units, .int .i64 y.cust, .int .i64 y.amount] 30)).cell? ⟨w.heap.size, 7, none⟩ = some (.int .i64 ph) := (cellsB (i := 7) (alc S1.out)).trans rfl
  have a8 : (w1.alloc (.cells #[.int .i64 y.node, .int .i64 y.kind, .int .i64 y.book, .int .i64 y.units, .int .i64 y.cust, .int .i64 y.amount] 30)).cell? ⟨w.heap.size, 8, none⟩ = some (.int .i64 st) := (cellsB (i := 8) (alc S1.out)).trans rfl
  have a9 : (w1.alloc (.cells #[.int .i64 y.node, .int .i64 y.kind, .int .i64 y.book, .int .i64 y.units, .int .i64 y.cust, .int .i64 y.amount] 30)).cell? ⟨w.heap.size, 9, none⟩ = some (.int .i64 re) := (cellsB (i := 9) (alc S1.out)).trans rfl
  have a10 : (w1.alloc (.cells #[.int .i64 y.node, .int .i64 y.kind, .int .i64 y.book, .int .i64 y.units, .int .i64 y.cust, .int .i64 y.amount] 30)).cell? ⟨w.heap.size, 10, none⟩ = some (.int .i64 si) := (cellsB (i := 10) (alc S1.out)).trans rfl
  have x0 : (w1.alloc (.cells #[.int .i64 y.node, .int .i64 y.kind, .int .i64 y.book, .int .i64 y.units, .int .i64 y.cust, .int .i64 y.amount] 30)).cell? ⟨(w.heap.size + 1), 0, none⟩ = some (.int .i64 x.node) := (cellsB (i := 0) (alc X1.out)).trans rfl
  have x1 : (w1.alloc (.cells #[.int .i64 y.node, .int .i64 y.kind, .int .i64 y.book, .int .i64 y.units, .int .i64 y.cust, .int .i64 y.amount] 30)).cell? ⟨(w.heap.size + 1), 1, none⟩ = some (.int .i64 x.kind) := (cellsB (i := 1) (alc X1.out)).trans rfl
  have x2 : (w1.alloc (.cells #[.int .i64 y.node, .int .i64 y.kind, .int .i64 y.book, .int .i64 y.units, .int .i64 y.cust, .int .i64 y.amount] 30)).cell? ⟨(w.heap.size + 1), 2, none⟩ = some (.int .i64 x.book) := (cellsB (i := 2) (alc X1.out)).trans rfl
  have x3 : (w1.alloc (.cells #[.int .i64 y.node, .int .i64 y.kind, .int .i64 y.book, .int .i64 y.units, .int .i64 y.cust, .int .i64 y.amount] 30)).cell? ⟨(w.heap.size + 1), 3, none⟩ = some (.int .i64 x.units) := (cellsB (i := 3) (alc X1.out)).trans rfl
  have x4 : (w1.alloc (.cells #[.int .i64 y.node, .int .i64 y.kind, .int .i64 y.book, .int .i64 y.units, .int .i64 y.cust, .int .i64 y.amount] 30)).cell? ⟨(w.heap.size + 1), 4, none⟩ = some (.int .i64 x.cust) := (cellsB (i := 4) (alc X1.out)).trans rfl
  have x5 : (w1.alloc (.cells #[.int .i64 y.node, .int .i64 y.kind, .int .i64 y.book, .int .i64 y.units, .int .i64 y.cust, .int .i64 y.amount] 30)).cell? ⟨(w.heap.size + 1), 5, none⟩ = some (.int .i64 x.amount) := (cellsB (i := 5) (alc X1.out)).trans rfl
  have n0 : (w1.alloc (.cells #[.int .i64 y.node, .int .i64 y.kind, .int .i64 y.book, .int .i64 y.units, .int .i64 y.cust, .int .i64 y.amount] 30)).cell? ⟨w1.heap.size, 0, none⟩ = some (.int .i64 y.node) := (cellsB (i := 0) (heap_alloc_new w1 _)).trans rfl
  have n1 : (w1.alloc (.cells #[.int .i64 y.node, .int .i64 y.kind, .int .i64 y.book, .int .i64 y.units, .int .i64 y.cust, .int .i64 y.amount] 30)).cell? ⟨w1.heap.size, 1, none⟩ = some (.int .i64 y.kind) := (cellsB (i := 1) (heap_alloc_new w1 _)).trans rfl
  have n2 : (w1.alloc (.cells #[.int .i64 y.node, .int .i64 y.kind, .int .i64 y.book, .int .i64 y.units, .int .i64 y.cust, .int .i64 y.amount] 30)).cell? ⟨w1.heap.size, 2, none⟩ = some (.int .i64 y.book) := (cellsB (i := 2) (heap_alloc_new w1 _)).trans rfl
  have n3 : (w1.alloc (.cells #[.int .i64 y.node, .int .i64 y.kind, .int .i64 y.book, .int .i64 y.units, .int .i64 y.cust, .int .i64 y.amount] 30)).cell? ⟨w1.heap.size, 3, none⟩ = some (.int .i64 y.units) := (cellsB (i := 3) (heap_alloc_new w1 _)).trans rfl
  have n4 : (w1.alloc (.cells #[.int .i64 y.node, .int .i64 y.kind, .int .i64 y.book, .int .i64 y.units, .int .i64 y.cust, .int .i64 y.amount] 30)).cell? ⟨w1.heap.size, 4, none⟩ = some (.int .i64 y.cust) := (cellsB (i := 4) (heap_alloc_new w1 _)).trans rfl
  have n5 : (w1.alloc (.cells #[.int .i64 y.node, .int .i64 y.kind, .int .i64 y.book, .int .i64 y.units, .int .i64 y.cust, .int .i64 y.amount] 30)).cell? ⟨w1.heap.size, 5, none⟩ = some (.int .i64 y.amount) := (cellsB (i := 5) (heap_alloc_new w1 _)).trans rfl
  have z0 : (w1.alloc (.cells #[.int .i64 y.node, .int .i64 y.kind, .int .i64 y.book, .int .i64 y.units, .int .i64 y.cust, .int .i64 y.amount] 30)).cell? ⟨(w.heap.size + 1 + 1), 0, none⟩ = some (.int .i64 0) := (cellsB (i := 0) (alc R1.out)).trans rfl
  have z1 : (w1.alloc (.cells #[.int .i64 y.node, .int .i64 y.kind, .int .i64 y.book, .int .i64 y.units, .int .i64 y.cust, .int .i64 y.amount] 30)).cell? ⟨(w.heap.size + 1 + 1), 1, none⟩ = some (.int .i64 0) := (cellsB (i := 1) (alc R1.out)).trans rfl
  have z2 : (w1.alloc (.cells #[.int .i64 y.node, .int .i64 y.kind, .int .i64 y.book, .int .i64 y.units, .int .i64 y.cust, .int .i64 y.amount] 30)).cell? ⟨(w.heap.size + 1 + 1), 2, none⟩ = some (.int .i64 0) := (cellsB (i := 2) (alc R1.out)).trans rfl
  have z3 : (w1.alloc (.cells #[.int .i64 y.node, .int .i64 y.kind, .int .i64 y.book, .int .i64 y.units, .int .i64 y.cust, .int .i64 y.amount] 30)).cell? ⟨(w.heap.size + 1 + 1), 3, none⟩ = some (.int .i64 0) := (cellsB (i := 3) (alc R1.out)).trans rfl
  have z4 : (w1.alloc (.cells #[.int .i64 y.node, .int .i64 y.kind, .int .i64 y.book, .int .i64 y.units, .int .i64 y.cust, .int .i64 y.amount] 30)).cell? ⟨(w.heap.size + 1 + 1), 4, none⟩ = some (.int .i64 0) := (cellsB (i := 4) (alc R1.out)).trans rfl
  have z5 : (w1.alloc (.cells #[.int .i64 y.node, .int .i64 y.kind, .int .i64 y.book, .int .i64 y.units, .int .i64 y.cust, .int .i64 y.amount] 30)).cell? ⟨(w.heap.size + 1 + 1), 5, none⟩ = some (.int .i64 0) := (cellsB (i := 5) (alc R1.out)).trans rfl
  have z6 : (w1.alloc (.cells #[.int .i64 y.node, .int .i64 y.kind, .int .i64 y.book, .int .i64 y.units, .int .i64 y.cust, .int .i64 y.amount] 30)).cell? ⟨(w.heap.size + 1 + 1), 6, none⟩ = some (.int .i64 0) := (cellsB (i := 6) (alc R1.out)).trans rfl
  have z7 : (w1.alloc (.cells #[.int .i64 y.node, .int .i64 y.kind, .int .i64 y.book, .int .i64 y.units, .int .i64 y.cust, .int .i64 y.amount] 30)).cell? ⟨(w.heap.size + 1 + 1), 7, none⟩ = some (.int .i64 0) := (cellsB (i := 7) (alc R1.out)).trans rfl
  have z8 : (w1.alloc (.cells #[.int .i64 y.node, .int .i64 y.kind, .int .i64 y.book, .int .i64 y.units, .int .i64 y.cust, .int .i64 y.amount] 30)).cell? ⟨(w.heap.size + 1 + 1), 8, none⟩ = some (.int .i64 0) := (cellsB (i := 8) (alc R1.out)).trans rfl
  have z9 : (w1.alloc (.cells #[.int .i64 y.node, .int .i64 y.kind, .int .i64 y.book, .int .i64 y.units, .int .i64 y.cust, .int .i64 y.amount] 30)).cell? ⟨(w.heap.size + 1 + 1), 9, none⟩ = some (.int .i64 0) := (cellsB (i := 9) (alc R1.out)).trans rfl
  have z10 : (w1.alloc (.cells #[.int .i64 y.node, .int .i64 y.kind, .int .i64 y.book, .int .i64 y.units, .int .i64 y.cust, .int .i64 y.amount] 30)).cell? ⟨(w.heap.size + 1 + 1), 10, none⟩ = some (.int .i64 0) := (cellsB (i := 10) (alc R1.out)).trans rfl
  have y0 : (w1.alloc (.cells #[.int .i64 y.node, .int .i64 y.kind, .int .i64 y.book, .int .i64 y.units, .int .i64 y.cust, .int .i64 y.amount] 30)).frozen? ⟨(w.heap.size + 1 + 1), 0, none⟩ = false := frozB (alc R1.out)
  have y1 : (w1.alloc (.cells #[.int .i64 y.node, .int .i64 y.kind, .int .i64 y.book, .int .i64 y.units, .int .i64 y.cust, .int .i64 y.amount] 30)).frozen? ⟨(w.heap.size + 1 + 1), 1, none⟩ = false := frozB (alc R1.out)
  have y2 : (w1.alloc (.cells #[.int .i64 y.node, .int .i64 y.kind, .int .i64 y.book, .int .i64 y.units, .int .i64 y.cust, .int .i64 y.amount] 30)).frozen? ⟨(w.heap.size + 1 + 1), 2, none⟩ = false := frozB (alc R1.out)
  have y3 : (w1.alloc (.cells #[.int .i64 y.node, .int .i64 y.kind, .int .i64 y.book, .int .i64 y.units, .int .i64 y.cust, .int .i64 y.amount] 30)).frozen? ⟨(w.heap.size + 1 + 1), 3, none⟩ = false := frozB (alc R1.out)
  have y4 : (w1.alloc (.cells #[.int .i64 y.node, .int .i64 y.kind, .int .i64 y.book, .int .i64 y.units, .int .i64 y.cust, .int .i64 y.amount] 30)).frozen? ⟨(w.heap.size + 1 + 1), 4, none⟩ = false := frozB (alc R1.out)
  have y5 : (w1.alloc (.cells #[.int .i64 y.node, .int .i64 y.kind, .int .i64 y.book, .int .i64 y.units, .int .i64 y.cust, .int .i64 y.amount] 30)).frozen? ⟨(w.heap.size + 1 + 1), 5, none⟩ = false := frozB (alc R1.out)
  have y6 : (w1.alloc (.cells #[.int .i64 y.node, .int .i64 y.kind, .int .i64 y.book, .int .i64 y.units, .int .i64 y.cust, .int .i64 y.amount] 30)).frozen? ⟨(w.heap.size + 1 + 1), 6, none⟩ = false := frozB (alc R1.out)
  have y7 : (w1.alloc (.cells #[.int .i64 y.node, .int .i64 y.kind, .int .i64 y.book, .int .i64 y.units, .int .i64 y.cust, .int .i64 y.amount] 30)).frozen? ⟨(w.heap.size + 1 + 1), 7, none⟩ = false := frozB (alc R1.out)
  have y8 : (w1.alloc (.cells #[.int .i64 y.node, .int .i64 y.kind, .int .i64 y.book, .int .i64 y.units, .int .i64 y.cust, .int .i64 y.amount] 30)).frozen? ⟨(w.heap.size + 1 + 1), 8, none⟩ = false := frozB (alc R1.out)
  have y9 : (w1.alloc (.cells #[.int .i64 y.node, .int .i64 y.kind, .int .i64 y.book, .int .i64 y.units, .int .i64 y.cust, .int .i64 y.amount] 30)).frozen? ⟨(w.heap.size + 1 + 1), 9, none⟩ = false := frozB (alc R1.out)
  have y10 : (w1.alloc (.cells #[.int .i64 y.node, .int .i64 y.kind, .int .i64 y.book, .int .i64 y.units, .int .i64 y.cust, .int .i64 y.amount] 30)).frozen? ⟨(w.heap.size + 1 + 1), 10, none⟩ = false := frozB (alc R1.out)
  have t0 : (w1.alloc (.cells #[.int .i64 y.node, .int .i64 y.kind, .int .i64 y.book, .int .i64 y.units, .int .i64 y.cust, .int .i64 y.amount] 30)).frozen? ⟨w.heap.size, 0, none⟩ = false := frozB (alc S1.out)
  have t1 : (w1.alloc (.cells #[.int .i64 y.node, .int .i64 y.kind, .int .i64 y.book, .int .i64 y.units, .int .i64 y.cust, .int .i64 y.amount] 30)).frozen? ⟨w.heap.size, 1, none⟩ = false := frozB (alc S1.out)
  have t2 : (w1.alloc (.cells #[.int .i64 y.node, .int .i64 y.kind, .int .i64 y.book, .int .i64 y.units, .int .i64 y.cust, .int .i64 y.amount] 30)).frozen? ⟨w.heap.size, 2, none⟩ = false := frozB (alc S1.out)
  have t3 : (w1.alloc (.cells #[.int .i64 y.node, .int .i64 y.kind, .int .i64 y.book, .int .i64 y.units, .int .i64 y.cust, .int .i64 y.amount] 30)).frozen? ⟨w.heap.size, 3, none⟩ = false := frozB (alc S1.out)
  have t4 : (w1.alloc (.cells #[.int .i64 y.node, .int .i64 y.kind, .int .i64 y.book, .int .i64 y.units, .int .i64 y.cust, .int .i64 y.amount] 30)).frozen? ⟨w.heap.size, 4, none⟩ = false := frozB (alc S1.out)
  have t5 : (w1.alloc (.cells #[.int .i64 y.node, .int .i64 y.kind, .int .i64 y.book, .int .i64 y.units, .int .i64 y.cust, .int .i64 y.amount] 30)).frozen? ⟨w.heap.size, 5, none⟩ = false := frozB (alc S1.out)
  have t6 : (w1.alloc (.cells #[.int .i64 y.node, .int .i64 y.kind, .int .i64 y.book, .int .i64 y.units, .int .i64 y.cust, .int .i64 y.amount] 30)).frozen? ⟨w.heap.size, 6, none⟩ = false := frozB (alc S1.out)
  have t7 : (w1.alloc (.cells #[.int .i64 y.node, .int .i64 y.kind, .int .i64 y.book, .int .i64 y.units, .int .i64 y.cust, .int .i64 y.amount] 30)).frozen? ⟨w.heap.size, 7, none⟩ = false := frozB (alc S1.out)
  have t8 : (w1.alloc (.cells #[.int .i64 y.node, .int .i64 y.kind, .int .i64 y.book, .int .i64 y.units, .int .i64 y.cust, .int .i64 y.amount] 30)).frozen? ⟨w.heap.size, 8, none⟩ = false := frozB (alc S1.out)
  have t9 : (w1.alloc (.cells #[.int .i64 y.node, .int .i64 y.kind, .int .i64 y.book, .int .i64 y.units, .int .i64 y.cust, .int .i64 y.amount] 30)).frozen? ⟨w.heap.size, 9, none⟩ = false := frozB (alc S1.out)
  have t10 : (w1.alloc (.cells #[.int .i64 y.node, .int .i64 y.kind, .int .i64 y.book, .int .i64 y.units, .int .i64 y.cust, .int .i64 y.amount] 30)).frozen? ⟨w.heap.size, 10, none⟩ = false := frozB (alc S1.out)
  have zz0 : w1.cell? ⟨(w.heap.size + 1 + 1), 0, none⟩ = some (.int .i64 0) := (cellsB (i := 0) R1.out).trans rfl
  have zz1 : w1.cell? ⟨(w.heap.size + 1 + 1), 1, none⟩ = some (.int .i64 0) := (cellsB (i := 1) R1.out).trans rfl
  have zz2 : w1.cell? ⟨(w.heap.size + 1 + 1), 2, none⟩ = some (.int .i64 0) := (cellsB (i := 2) R1.out).trans rfl
  have zz3 : w1.cell? ⟨(w.heap.size + 1 + 1), 3, none⟩ = some (.int .i64 0) := (cellsB (i := 3) R1.out).trans rfl
  have zz4 : w1.cell? ⟨(w.heap.size + 1 + 1), 4, none⟩ = some (.int .i64 0) := (cellsB (i := 4) R1.out).trans rfl
  have zz5 : w1.cell? ⟨(w.heap.size + 1 + 1), 5, none⟩ = some (.int .i64 0) := (cellsB (i := 5) R1.out).trans rfl
  have zz6 : w1.cell? ⟨(w.heap.size + 1 + 1), 6, none⟩ = some (.int .i64 0) := (cellsB (i := 6) R1.out).trans rfl
  have zz7 : w1.cell? ⟨(w.heap.size + 1 + 1), 7, none⟩ = some (.int .i64 0) := (cellsB (i := 7) R1.out).trans rfl
  have zz8 : w1.cell? ⟨(w.heap.size + 1 + 1), 8, none⟩ = some (.int .i64 0) := (cellsB (i := 8) R1.out).trans rfl
  have zz9 : w1.cell? ⟨(w.heap.size + 1 + 1), 9, none⟩ = some (.int .i64 0) := (cellsB (i := 9) R1.out).trans rfl
  have zz10 : w1.cell? ⟨(w.heap.size + 1 + 1), 10, none⟩ = some (.int .i64 0) := (cellsB (i := 10) R1.out).trans rfl
  have yy0 : w1.frozen? ⟨(w.heap.size + 1 + 1), 0, none⟩ = false := frozB R1.out
  have yy1 : w1.frozen? ⟨(w.heap.size + 1 + 1), 1, none⟩ = false := frozB R1.out
  have yy2 : w1.frozen? ⟨(w.heap.size + 1 + 1), 2, none⟩ = false := frozB R1.out
  have yy3 : w1.frozen? ⟨(w.heap.size + 1 + 1), 3, none⟩ = false := frozB R1.out
  have yy4 : w1.frozen? ⟨(w.heap.size + 1 + 1), 4, none⟩ = false := frozB R1.out
  have yy5 : w1.frozen? ⟨(w.heap.size + 1 + 1), 5, none⟩ = false := frozB R1.out
  have yy6 : w1.frozen? ⟨(w.heap.size + 1 + 1), 6, none⟩ = false := frozB R1.out
  have yy7 : w1.frozen? ⟨(w.heap.size + 1 + 1), 7, none⟩ = false := frozB R1.out
  have yy8 : w1.frozen? ⟨(w.heap.size + 1 + 1), 8, none⟩ = false := frozB R1.out
  have yy9 : w1.frozen? ⟨(w.heap.size + 1 + 1), 9, none⟩ = false := frozB R1.out
  have yy10 : w1.frozen? ⟨(w.heap.size + 1 + 1), 10, none⟩ = false := frozB R1.out
  have tt0 : w1.frozen? ⟨w.heap.size, 0, none⟩ = false := frozB S1.out
  have tt1 : w1.frozen? ⟨w.heap.size, 1, none⟩ = false := frozB S1.out
  have tt2 : w1.frozen? ⟨w.heap.size, 2, none⟩ = false := frozB S1.out
  have tt3 : w1.frozen? ⟨w.heap.size, 3, none⟩ = false := frozB S1.out
  have tt4 : w1.frozen? ⟨w.heap.size, 4, none⟩ = false := frozB S1.out
  have tt5 : w1.frozen? ⟨w.heap.size, 5, none⟩ = false := frozB S1.out
  have tt6 : w1.frozen? ⟨w.heap.size, 6, none⟩ = false := frozB S1.out
  have tt7 : w1.frozen? ⟨w.heap.size, 7, none⟩ = false := frozB S1.out
  have tt8 : w1.frozen? ⟨w.heap.size, 8, none⟩ = false := frozB S1.out
  have tt9 : w1.frozen? ⟨w.heap.size, 9, none⟩ = false := frozB S1.out
  have tt10 : w1.frozen? ⟨w.heap.size, 10, none⟩ = false := frozB S1.out
  have hl1 : w.heap.size + 1 + 1 < w1.heap.size := lt_size R1.out
  have hl0 : w.heap.size < w1.heap.size := lt_size S1.out
  have hn1 : ¬ w.heap.size + 1 + 1 = w1.heap.size := by omega
  have hn0 : ¬ w.heap.size = w1.heap.size := by omega
  go_wp2
  refine bodyPost_ret (v := .tuple #[.agg #[.int .i64 b, .int .i64 c, .int .i64 d, .int .i64 m0, .int .i64 m1, .int .i64 m2, .int .i64 p, .int .i64 ph, .int .i64 st, .int .i64 re, .int .i64 si], .bool false]) (by simp [results, Try.results26, go_sem, z0, z1, z2, z3, z4, z5, z6, z7, z8, z9, z10, acell, hl1, hn1, zz0, zz1, zz2, zz3, zz4, zz5, zz6, zz7, zz8, zz9, zz10]) rfl ?_
  refine ⟨?_, ?_⟩
  · rw [ansS, if_pos (.inr (by rw [HN.out]; exact hxy))]; try rfl
  · repeat (first | (with_reducible refine belowS ?_ ?hR; case hR => omega) | (with_reducible refine Below.alloc ?_ ?hA _; case hA => simp [World.setCell]; omega))
    with_reducible exact B1.out
end Go.Proofs.Ytplgodfhhlnojaa

/- saga.Answer, walked (printed by gensagan.py). -/
namespace Go.Proofs.Ytplgodfhhlnojaa
open Go.RowKit
set_option maxRecDepth 100000 in
set_option maxHeartbeats 2000000 in
theorem ans1_two (s : S11) (x : A6) (w : World) (h1 : (nextS s).2 = true) (h2 : (nextS s).1 = x) : Calls Try.prog 26 #[s.val, x.val, .int .i64 2] w fun e w' => e = .returned (.tuple #[(ansS s x 2).1.val, .bool (ansS s x 2).2]) ∧ Below w.heap.size w w' := by
  obtain ⟨⟨b, c, d, m0, m1, m2, p⟩, ph, st, re, si⟩ := s
  obtain ⟨y, is, hnx⟩ : ∃ y is, nextS ⟨⟨b, c, d, m0, m1, m2, p⟩, ph, st, re, si⟩ = (y, is) := ⟨_, _, rfl⟩
  have e2 := h1
  have e3 := h2
  rw [hnx] at h1 h2
  simp only at h1 h2
  subst h1
  replace h2 := h2.symm
  subst h2
  have E2 := Lib.hid e2
  have E3 := Lib.hid e3
  have e1 := sameA x x true (by simp)
  obtain ⟨hm, hph, hs0, hsl, hs9⟩ := next_true _ e2
  obtain ⟨l, hl⟩ : ∃ l, stepsL ⟨⟨b, c, d, m0, m1, m2, p⟩, ph, st, re, si⟩ = l := ⟨_, rfl⟩
  rw [hl] at hsl hs9
  simp only at hph hs0 hsl
  obtain ⟨n, hn⟩ : ∃ n, l.length = n := ⟨_, rfl⟩
  rw [hn] at hsl hs9
  clear hm e2 e3
  obtain ⟨xn, xk, xb, xu, xc, xa⟩ := x
  simp only at e1
  unfold A6.val
  by_cases hp : ph = 1
  · subst hp
    by_cases hk : xk = 4
    · subst hk
      have HK := Lib.hid (fun W => back1 ⟨⟨b, c, d, m0, m1, m2, p⟩, 1, st, re, si⟩ 2 W)
      unfold backS S11.val at HK
      simp only at HK
      obtain ⟨f1, f2, f3, f4⟩ := three_boxes w (.cells #[.int .i64 b, .int .i64 c, .int .i64 d, .int .i64 m0, .int .i64 m1, .int .i64 m2, .int .i64 p, .int .i64 1, .int .i64 st, .int .i64 re, .int .i64 si] 26) (.cells #[.int .i64 xn, .int .i64 4, .int .i64 xb, .int .i64 xu, .int .i64 xc, .int .i64 xa] 30) (.cells #[.int .i64 0, .int .i64 0, .int .i64 0, .int .i64 0, .int .i64 0, .int .i64 0, .int .i64 0, .int .i64 0, .int .i64 0, .int .i64 0, .int .i64 0] 26)
      have S0 := Lib.hid f1
      have X0 := Lib.hid f2
      have R0 := Lib.hid f3
      have B0 := Lib.hid f4
      clear f1 f2 f3 f4
      have HNX := Lib.hid (fun W => next1 ⟨⟨b, c, d, m0, m1, m2, p⟩, 1, st, re, si⟩ W)
      rw [hnx] at HNX
      unfold S11.val A6.val at HNX
      unfold S11.val
      simp only at HNX ⊢
      go_enter Try.func26, Try.ntmps26
      go_wp2_with fail
      refine (HNX.out _).mono ?_
      rintro e w1 ⟨rfl, q⟩
      have S1 := Lib.hid (blk0 S0.out q)
      have X1 := Lib.hid (blk0 X0.out q)
      have R1 := Lib.hid (blk0 R0.out q)
      have B1 := Lib.hid (bel0 B0.out B0.out.size q)
      clear q
      have a0 : (w1.alloc (.cells #[.int .i64 xn, .int .i64 4, .int .i64 xb, .int .i64 xu, .int .i64 xc, .int .i64 xa] 30)).cell? ⟨w.heap.size, 0, none⟩ = some (.int .i64 b) := (cellsB (i := 0) (alc S1.out)).trans rfl
      have a1 : (w1.alloc (.cells #[.int .i64 xn, .int .i64 4, .int .i64 xb, .int .i64 xu, .int .i64 xc, .int .i64 xa] 30)).cell? ⟨w.heap.size, 1, none⟩ = some (.int .i64 c) := (cellsB (i := 1) (alc S1.out)).trans rfl
      have a2 : (w1.alloc (.cells #[.int .i64 xn, .int .i64 4, .int .i64 xb, .int .i64 xu, .int .i64 xc, .int .i64 xa] 30)).cell? ⟨w.heap.size, 2, none⟩ = some (.int .i64 d) := (cellsB (i := 2) (alc S1.out)).trans rfl
      have a3 : (w1.alloc (.cells #[.int .i64 xn, .int .i64 4, .int .i64 xb, .int .i64 xu, .int .i64 xc, .int .i64 xa] 30)).cell? ⟨w.heap.size, 3, none⟩ = some (.int .i64 m0) := (cellsB (i := 3) (alc S1.out)).trans rfl
      have a4 : (w1.alloc (.cells #[.int .i64 xn, .int .i64 4, .int .i64 xb, .int .i64 xu, .int .i64 xc, .int .i64 xa] 30)).cell? ⟨w.heap.size, 4, none⟩ = some (.int .i64 m1) := (cellsB (i := 4) (alc S1.out)).trans rfl
      have a5 : (w1.alloc (.cells #[.int .i64 xn, .int .i64 4, .int .i64 xb, .int .i64 xu, .int .i64 xc, .int .i64 xa] 30)).cell? ⟨w.heap.size, 5, none⟩ = some (.int .i64 m2) := (cellsB (i := 5) (alc S1.out)).trans rfl
      have a6 : (w1.alloc (.cells #[.int .i64 xn, .int .i64 4, .int .i64 xb, .int .i64 xu, .int .i64 xc, .int .i64 xa] 30)).cell? ⟨w.heap.size, 6, none⟩ = some (.int .i64 p) := (cellsB (i := 6) (alc S1.out)).trans rfl
      have a7 : (w1.alloc (.cells #[.int .i64 xn, .int .i64 4, .int .i64 xb, .int .i64 xu, .int .i64 xc, .int .i64 xa] 30)).cell? ⟨w.heap.size, 7, none⟩ = some (.int .i64 1) := (cellsB (i := 7) (alc S1.out)).trans rfl
      have a8 : (w1.alloc (.cells #[.int .i64 xn, .int .i64 4, .int .i64 xb, .int .i64 xu, .int .i64 xc, .int .i64 xa] 30)).cell? ⟨w.heap.size, 8, none⟩ = some (.int .i64 st) := (cellsB (i := 8) (alc S1.out)).trans rfl
      have a9 : (w1.alloc (.cells #[.int .i64 xn, .int .i64 4, .int .i64 xb, .int .i64 xu, .int .i64 xc, .int .i64 xa] 30)).cell? ⟨w.heap.size, 9, none⟩ = some (.int .i64 re) := (cellsB (i := 9) (alc S1.out)).trans rfl
      have a10 : (w1.alloc (.cells #[.int .i64 xn, .int .i64 4, .int .i64 xb, .int .i64 xu, .int .i64 xc, .int .i64 xa] 30)).cell? ⟨w.heap.size, 10, none⟩ = some (.int .i64 si) := (cellsB (i := 10) (alc S1.out)).trans rfl
      have x0 : (w1.alloc (.cells #[.int .i64 xn, .int .i64 4, .int .i64 xb, .int .i64 xu, .int .i64 xc, .int .i64 xa] 30)).cell? ⟨(w.heap.size + 1), 0, none⟩ = some (.int .i64 xn) := (cellsB (i := 0) (alc X1.out)).trans rfl
      have x1 : (w1.alloc (.cells #[.int .i64 xn, .int .i64 4, .int .i64 xb, .int .i64 xu, .int .i64 xc, .int .i64 xa] 30)).cell? ⟨(w.heap.size + 1), 1, none⟩ = some (.int .i64 4) := (cellsB (i := 1) (alc X1.out)).trans rfl
      have x2 : (w1.alloc (.cells #[.int .i64 xn, .int .i64 4, .int .i64 xb, .int .i64 xu, .int .i64 xc, .int .i64 xa] 30)).cell? ⟨(w.heap.size + 1), 2, none⟩ = some (.int .i64 xb) := (cellsB (i := 2) (alc X1.out)).trans rfl
      have x3 : (w1.alloc (.cells #[.int .i64 xn, .int .i64 4, .int .i64 xb, .int .i64 xu, .int .i64 xc, .int .i64 xa] 30)).cell? ⟨(w.heap.size + 1), 3, none⟩ = some (.int .i64 xu) := (cellsB (i := 3) (alc X1.out)).trans rfl
      have x4 : (w1.alloc (.cells #[.int .i64 xn, .int .i64 4, .int .i64 xb, .int .i64 xu, .int .i64 xc, .int .i64 xa] 30)).cell? ⟨(w.heap.size + 1), 4, none⟩ = some (.int .i64 xc) := (cellsB (i := 4) (alc X1.out)).trans rfl
      have x5 : (w1.alloc (.cells #[.int .i64 xn, .int .i64 4, .int .i64 xb, .int .i64 xu, .int .i64 xc, .int .i64 xa] 30)).cell? ⟨(w.heap.size + 1), 5, none⟩ = some (.int .i64 xa) := (cellsB (i := 5) (alc X1.out)).trans rfl
      have n0 : (w1.alloc (.cells #[.int .i64 xn, .int .i64 4, .int .i64 xb, .int .i64 xu, .int .i64 xc, .int .i64 xa] 30)).cell? ⟨w1.heap.size, 0, none⟩ = some (.int .i64 xn) := (cellsB (i := 0) (heap_alloc_new w1 _)).trans rfl
      have n1 : (w1.alloc (.cells #[.int .i64 xn, .int .i64 4, .int .i64 xb, .int .i64 xu, .int .i64 xc, .int .i64 xa] 30)).cell? ⟨w1.heap.size, 1, none⟩ = some (.int .i64 4) := (cellsB (i := 1) (heap_alloc_new w1 _)).trans rfl
      have n2 : (w1.alloc (.cells #[.int .i64 xn, .int .i64 4, .int .i64 xb, .int .i64 xu, .int .i64 xc, .int .i64 xa] 30)).cell? ⟨w1.heap.size, 2, none⟩ = some (.int .i64 xb) := (cellsB (i := 2) (heap_alloc_new w1 _)).trans rfl
      have n3 : (w1.alloc (.cells #[.int .i64 xn, .int .i64 4, .int .i64 xb, .int .i64 xu, .int .i64 xc, .int .i64 xa] 30)).cell? ⟨w1.heap.size, 3, none⟩ = some (.int .i64 xu) := (cellsB (i := 3) (heap_alloc_new w1 _)).trans rfl
      have n4 : (w1.alloc (.cells #[.int .i64 xn, .int .i64 4, .int .i64 xb, .int .i64 xu, .int .i64 xc, .int .i64 xa] 30)).cell? ⟨w1.heap.size, 4, none⟩ = some (.int .i64 xc) := (cellsB (i := 4) (heap_alloc_new w1 _)).trans rfl
      have n5 : (w1.alloc (.cells #[.int .i64 xn, .int .i64 4, .int .i64 xb, .int .i64 xu, .int .i64 xc, .int .i64 xa] 30)).cell? ⟨w1.heap.size, 5, none⟩ = some (.int .i64 xa) := (cellsB (i := 5) (heap_alloc_new w1 _)).trans rfl
      have z0 : (w1.alloc (.cells #[.int .i64 xn, .int .i64 4, .int .i64 xb, .int .i64 xu, .int .i64 xc, .int .i64 xa] 30)).cell? ⟨(w.heap.size + 1 + 1), 0, none⟩ = some (.int .i64 0) := (cellsB (i := 0) (alc R1.out)).trans rfl
      have z1 : (w1.alloc (.cells #[.int .i64 xn, .int .i64 4, .int .i64 xb, .int .i64 xu, .int .i64 xc, .int .i64 xa] 30)).cell? ⟨(w.heap.size + 1 + 1), 1, none⟩ = some (.int .i64 0) := (cellsB (i := 1) (alc R1.out)).trans rfl
      have z2 : (w1.alloc (.cells #[.int .i64 xn, .int .i64 4, .int .i64 xb, .int .i64 xu, .int .i64 xc, .int .i64 xa] 30)).cell? ⟨(w.heap.size + 1 + 1), 2, none⟩ = some (.int .i64 0) := (cellsB (i := 2) (alc R1.out)).trans rfl
      have z3 : (w1.alloc (.cells #[.int .i64 xn, .int .i64 4, .int .i64 xb, .int .i64 xu, .int .i64 xc, .int .i64 xa] 30)).cell? ⟨(w.heap.size + 1 + 1), 3, none⟩ = some (.int .i64 0) := (cellsB (i := 3) (alc R1.out)).trans rfl
      have z4 : (w1.alloc (.cells #[.int .i64 xn, .int .i64 4, .int .i64 xb, .int .i64 xu, .int .i64 xc, .int .i64 xa] 30)).cell? ⟨(w.heap.size + 1 + 1), 4, none⟩ = some (.int .i64 0) := (cellsB (i := 4) (alc R1.out)).trans rfl
      have z5 : (w1.alloc (.cells #[.int .i64 xn, .int .i64 4, .int .i64 xb, .int .i64 xu, .int .i64 xc, .int .i64 xa] 30)).cell? ⟨(w.heap.size + 1 + 1), 5, none⟩ = some (.int .i64 0) := (cellsB (i := 5) (alc R1.out)).trans rfl
      have z6 : (w1.alloc (.cells #[.int .i64 xn, .int .i64 4, .int .i64 xb, .int .i64 xu, .int .i64 xc, .int .i64 xa] 30)).cell? ⟨(w.heap.size + 1 + 1), 6, none⟩ = some (.int .i64 0) := (cellsB (i := 6) (alc R1.out)).trans rfl
      have z7 : (w1.alloc (.cells #[.int .i64 xn, .int .i64 4, .int .i64 xb, .int .i64 xu, .int .i64 xc, .int .i64 xa] 30)).cell? ⟨(w.heap.size + 1 + 1), 7, none⟩ = some (.int .i64 0) := (cellsB (i := 7) (alc R1.out)).trans rfl
      have z8 : (w1.alloc (.cells #[.int .i64 xn, .int .i64 4, .int .i64 xb, .int .i64 xu, .int .i64 xc, .int .i64 xa] 30)).cell? ⟨(w.heap.size + 1 + 1), 8, none⟩ = some (.int .i64 0) := (cellsB (i := 8) (alc R1.out)).trans rfl
      have z9 : (w1.alloc (.cells #[.int .i64 xn, .int .i64 4, .int .i64 xb, .int .i64 xu, .int .i64 xc, .int .i64 xa] 30)).cell? ⟨(w.heap.size + 1 + 1), 9, none⟩ = some (.int .i64 0) := (cellsB (i := 9) (alc R1.out)).trans rfl
      have z10 : (w1.alloc (.cells #[.int .i64 xn, .int .i64 4, .int .i64 xb, .int .i64 xu, .int .i64 xc, .int .i64 xa] 30)).cell? ⟨(w.heap.size + 1 + 1), 10, none⟩ = some (.int .i64 0) := (cellsB (i := 10) (alc R1.out)).trans rfl
      have y0 : (w1.alloc (.cells #[.int .i64 xn, .int .i64 4, .int .i64 xb, .int .i64 xu, .int .i64 xc, .int .i64 xa] 30)).frozen? ⟨(w.heap.size + 1 + 1), 0, none⟩ = false := frozB (alc R1.out)
      have y1 : (w1.alloc (.cells #[.int .i64 xn, .int .i64 4, .int .i64 xb, .int .i64 xu, .int .i64 xc, .int .i64 xa] 30)).frozen? ⟨(w.heap.size + 1 + 1), 1, none⟩ = false := frozB (alc R1.out)
      have y2 : (w1.alloc (.cells #[.int .i64 xn, .int .i64 4, .int .i64 xb, .int .i64 xu, .int .i64 xc, .int .i64 xa] 30)).frozen? ⟨(w.heap.size + 1 + 1), 2, none⟩ = false := frozB (alc R1.out)
      have y3 : (w1.alloc (.cells #[.int .i64 xn, .int .i64 4, .int .i64 xb, .int .i64 xu, .int .i64 xc, .int .i64 xa] 30)).frozen? ⟨(w.heap.size + 1 + 1), 3, none⟩ = false := frozB (alc R1.out)
      have y4 : (w1.alloc (.cells #[.int .i64 xn, .int .i64 4, .int .i64 xb, .int .i64 xu, .int .i64 xc, .int .i64 xa] 30)).frozen? ⟨(w.heap.size + 1 + 1), 4, none⟩ = false := frozB (alc R1.out)
      have y5 : (w1.alloc (.cells #[.int .i64 xn, .int .i64 4, .int .i64 xb, .int .i64 xu, .int .i64 xc, .int .i64 xa] 30)).frozen? ⟨(w.heap.size + 1 + 1), 5, none⟩ = false := frozB (alc R1.out)
      have y6 : (w1.alloc (.cells #[.int .i64 xn, .int .i64 4, .int .i64 xb, .int .i64 xu, .int .i64 xc, .int .i64 xa] 30)).frozen? ⟨(w.heap.size + 1 + 1), 6, none⟩ = false := frozB (alc R1.out)
      have y7 : (w1.alloc (.cells #[.int .i64 xn, .int .i64 4, .int .i64 xb, .int .i64 xu, .int .i64 xc, .int .i64 xa] 30)).frozen? ⟨(w.heap.size + 1 + 1), 7, none⟩ = false := frozB (alc R1.out)
      have y8 : (w1.alloc (.cells #[.int .i64 xn, .int .i64 4, .int .i64 xb, .int .i64 xu, .int .i64 xc, .int .i64 xa] 30)).frozen? ⟨(w.heap.size + 1 + 1), 8, none⟩ = false := frozB (alc R1.out)
      have y9 : (w1.alloc (.cells #[.int .i64 xn, .int .i64 4, .int .i64 xb, .int .i64 xu, .int .i64 xc, .int .i64 xa] 30)).frozen? ⟨(w.heap.size + 1 + 1), 9, none⟩ = false := frozB (alc R1.out)
      have y10 : (w1.alloc (.cells #[.int .i64 xn, .int .i64 4, .int .i64 xb, .int .i64 xu, .int .i64 xc, .int .i64 xa] 30)).frozen? ⟨(w.heap.size + 1 + 1), 10, none⟩ = false := frozB (alc R1.out)
      have t0 : (w1.alloc (.cells #[.int .i64 xn, .int .i64 4, .int .i64 xb, .int .i64 xu, .int .i64 xc, .int .i64 xa] 30)).frozen? ⟨w.heap.size, 0, none⟩ = false := frozB (alc S1.out)
      have t1 : (w1.alloc (.cells #[.int .i64 xn, .int .i64 4, .int .i64 xb, .int .i64 xu, .int .i64 xc, .int .i64 xa] 30)).frozen? ⟨w.heap.size, 1, none⟩ = false := frozB (alc S1.out)
      have t2 : (w1.alloc (.cells #[.int .i64 xn, .int .i64 4, .int .i64 xb, .int .i64 xu, .int .i64 xc, .int .i64 xa] 30)).frozen? ⟨w.heap.size, 2, none⟩ = false := frozB (alc S1.out)
      have t3 : (w1.alloc (.cells #[.int .i64 xn, .int .i64 4, .int .i64 xb, .int .i64 xu, .int .i64 xc, .int .i64 xa] 30)).frozen? ⟨w.heap.size, 3, none⟩ = false := frozB (alc S1.out)
      have t4 : (w1.alloc (.cells #[.int .i64 xn, .int .i64 4, .int .i64 xb, .int .i64 xu, .int .i64 xc, .int .i64 xa] 30)).frozen? ⟨w.heap.size, 4, none⟩ = false := frozB (alc S1.out)
      have t5 : (w1.alloc (.cells #[.int .i64 xn, .int .i64 4, .int .i64 xb, .int .i64 xu, .int .i64 xc, .int .i64 xa] 30)).frozen? ⟨w.heap.size, 5, none⟩ = false := frozB (alc S1.out)
      have t6 : (w1.alloc (.cells #[.int .i64 xn, .int .i64 4, .int .i64 xb, .int .i64 xu, .int .i64 xc, .int .i64 xa] 30)).frozen? ⟨w.heap.size, 6, none⟩ = false := frozB (alc S1.out)
      have t7 : (w1.alloc (.cells #[.int .i64 xn, .int .i64 4, .int .i64 xb, .int .i64 xu, .int .i64 xc, .int .i64 xa] 30)).frozen? ⟨w.heap.size, 7, none⟩ = false := frozB (alc S1.out)
      have t8 : (w1.alloc (.cells #[.int .i64 xn, .int .i64 4, .int .i64 xb, .int .i64 xu, .int .i64 xc, .int .i64 xa] 30)).frozen? ⟨w.heap.size, 8, none⟩ = false := frozB (alc S1.out)
      have t9 : (w1.alloc (.cells #[.int .i64 xn, .int .i64 4, .int .i64 xb, .int .i64 xu, .int .i64 xc, .int .i64 xa] 30)).frozen? ⟨w.heap.size, 9, none⟩ = false := frozB (alc S1.out)
      have t10 : (w1.alloc (.cells #[.int .i64 xn, .int .i64 4, .int .i64 xb, .int .i64 xu, .int .i64 xc, .int .i64 xa] 30)).frozen? ⟨w.heap.size, 10, none⟩ = false := frozB (alc S1.out)
      have zz0 : w1.cell? ⟨(w.heap.size + 1 + 1), 0, none⟩ = some (.int .i64 0) := (cellsB (i := 0) R1.out).trans rfl
      have zz1 : w1.cell? ⟨(w.heap.size + 1 + 1), 1, none⟩ = some (.int .i64 0) := (cellsB (i := 1) R1.out).trans rfl
      have zz2 : w1.cell? ⟨(w.heap.size + 1 + 1), 2, none⟩ = some (.int .i64 0) := (cellsB (i := 2) R1.out).trans rfl
      have zz3 : w1.cell? ⟨(w.heap.size + 1 + 1), 3, none⟩ = some (.int .i64 0) := (cellsB (i := 3) R1.out).trans rfl
      have zz4 : w1.cell? ⟨(w.heap.size + 1 + 1), 4, none⟩ = some (.int .i64 0) := (cellsB (i := 4) R1.out).trans rfl
      have zz5 : w1.cell? ⟨(w.heap.size + 1 + 1), 5, none⟩ = some (.int .i64 0) := (cellsB (i := 5) R1.out).trans rfl
      have zz6 : w1.cell? ⟨(w.heap.size + 1 + 1), 6, none⟩ = some (.int .i64 0) := (cellsB (i := 6) R1.out).trans rfl
      have zz7 : w1.cell? ⟨(w.heap.size + 1 + 1), 7, none⟩ = some (.int .i64 0) := (cellsB (i := 7) R1.out).trans rfl
      have zz8 : w1.cell? ⟨(w.heap.size + 1 + 1), 8, none⟩ = some (.int .i64 0) := (cellsB (i := 8) R1.out).trans rfl
      have zz9 : w1.cell? ⟨(w.heap.size + 1 + 1), 9, none⟩ = some (.int .i64 0) := (cellsB (i := 9) R1.out).trans rfl
      have zz10 : w1.cell? ⟨(w.heap.size + 1 + 1), 10, none⟩ = some (.int .i64 0) := (cellsB (i := 10) R1.out).trans rfl
      have yy0 : w1.frozen? ⟨(w.heap.size + 1 + 1), 0, none⟩ = false := frozB R1.out
      have yy1 : w1.frozen? ⟨(w.heap.size + 1 + 1), 1, none⟩ = false := frozB R1.out
      have yy2 : w1.frozen? ⟨(w.heap.size + 1 + 1), 2, none⟩ = false := frozB R1.out
      have yy3 : w1.frozen? ⟨(w.heap.size + 1 + 1), 3, none⟩ = false := frozB R1.out
      have yy4 : w1.frozen? ⟨(w.heap.size + 1 + 1), 4, none⟩ = false := frozB R1.out
      have yy5 : w1.frozen? ⟨(w.heap.size + 1 + 1), 5, none⟩ = false := frozB R1.out
      have yy6 : w1.frozen? ⟨(w.heap.size + 1 + 1), 6, none⟩ = false := frozB R1.out
      have yy7 : w1.frozen? ⟨(w.heap.size + 1 + 1), 7, none⟩ = false := frozB R1.out
      have yy8 : w1.frozen? ⟨(w.heap.size + 1 + 1), 8, none⟩ = false := frozB R1.out
      have yy9 : w1.frozen? ⟨(w.heap.size + 1 + 1), 9, none⟩ = false := frozB R1.out
      have yy10 : w1.frozen? ⟨(w.heap.size + 1 + 1), 10, none⟩ = false := frozB R1.out
      have tt0 : w1.frozen? ⟨w.heap.size, 0, none⟩ = false := frozB S1.out
      have tt1 : w1.frozen? ⟨w.heap.size, 1, none⟩ = false := frozB S1.out
      have tt2 : w1.frozen? ⟨w.heap.size, 2, none⟩ = false := frozB S1.out
      have tt3 : w1.frozen? ⟨w.heap.size, 3, none⟩ = false := frozB S1.out
      have tt4 : w1.frozen? ⟨w.heap.size, 4, none⟩ = false := frozB S1.out
      have tt5 : w1.frozen? ⟨w.heap.size, 5, none⟩ = false := frozB S1.out
      have tt6 : w1.frozen? ⟨w.heap.size, 6, none⟩ = false := frozB S1.out
      have tt7 : w1.frozen? ⟨w.heap.size, 7, none⟩ = false := frozB S1.out
      have tt8 : w1.frozen? ⟨w.heap.size, 8, none⟩ = false := frozB S1.out
      have tt9 : w1.frozen? ⟨w.heap.size, 9, none⟩ = false := frozB S1.out
      have tt10 : w1.frozen? ⟨w.heap.size, 10, none⟩ = false := frozB S1.out
      have hl1 : w.heap.size + 1 + 1 < w1.heap.size := lt_size R1.out
      have hl0 : w.heap.size < w1.heap.size := lt_size S1.out
      have hn1 : ¬ w.heap.size + 1 + 1 = w1.heap.size := by omega
      have hn0 : ¬ w.heap.size = w1.heap.size := by omega
      go_wp2_with fail
      refine (HK.out _).mono ?_
      rintro e w2 ⟨rfl, q⟩
      have S2 := Lib.hid (blk1 S1.out q)
      have X2 := Lib.hid (blk1 X1.out q)
      have R2 := Lib.hid (blk1 R1.out q)
      have B2 := Lib.hid (bel1 B1.out B1.out.size q)
      clear q z0 y0 a0 t0 z1 y1 a1 t1 z2 y2 a2 t2 z3 y3 a3 t3 z4 y4 a4 t4 z5 y5 a5 t5 z6 y6 a6 t6 z7 y7 a7 t7 z8 y8 a8 t8 z9 y9 a9 t9 z10 y10 a10 t10
      have z0 : w2.cell? ⟨(w.heap.size + 1 + 1), 0, none⟩ = some (.int .i64 0) := (cellsB (i := 0) R2.out).trans rfl
      have z1 : w2.cell? ⟨(w.heap.size + 1 + 1), 1, none⟩ = some (.int .i64 0) := (cellsB (i := 1) R2.out).trans rfl
      have z2 : w2.cell? ⟨(w.heap.size + 1 + 1), 2, none⟩ = some (.int .i64 0) := (cellsB (i := 2) R2.out).trans rfl
      have z3 : w2.cell? ⟨(w.heap.size + 1 + 1), 3, none⟩ = some (.int .i64 0) := (cellsB (i := 3) R2.out).trans rfl
      have z4 : w2.cell? ⟨(w.heap.size + 1 + 1), 4, none⟩ = some (.int .i64 0) := (cellsB (i := 4) R2.out).trans rfl
      have z5 : w2.cell? ⟨(w.heap.size + 1 + 1), 5, none⟩ = some (.int .i64 0) := (cellsB (i := 5) R2.out).trans rfl
      have z6 : w2.cell? ⟨(w.heap.size + 1 + 1), 6, none⟩ = some (.int .i64 0) := (cellsB (i := 6) R2.out).trans rfl
      have z7 : w2.cell? ⟨(w.heap.size + 1 + 1), 7, none⟩ = some (.int .i64 0) := (cellsB (i := 7) R2.out).trans rfl
      have z8 : w2.cell? ⟨(w.heap.size + 1 + 1), 8, none⟩ = some (.int .i64 0) := (cellsB (i := 8) R2.out).trans rfl
      have z9 : w2.cell? ⟨(w.heap.size + 1 + 1), 9, none⟩ = some (.int .i64 0) := (cellsB (i := 9) R2.out).trans rfl
      have z10 : w2.cell? ⟨(w.heap.size + 1 + 1), 10, none⟩ = some (.int .i64 0) := (cellsB (i := 10) R2.out).trans rfl
      have y0 : w2.frozen? ⟨(w.heap.size + 1 + 1), 0, none⟩ = false := frozB R2.out
      have y1 : w2.frozen? ⟨(w.heap.size + 1 + 1), 1, none⟩ = false := frozB R2.out
      have y2 : w2.frozen? ⟨(w.heap.size + 1 + 1), 2, none⟩ = false := frozB R2.out
      have y3 : w2.frozen? ⟨(w.heap.size + 1 + 1), 3, none⟩ = false := frozB R2.out
      have y4 : w2.frozen? ⟨(w.heap.size + 1 + 1), 4, none⟩ = false := frozB R2.out
      have y5 : w2.frozen? ⟨(w.heap.size + 1 + 1), 5, none⟩ = false := frozB R2.out
      have y6 : w2.frozen? ⟨(w.heap.size + 1 + 1), 6, none⟩ = false := frozB R2.out
      have y7 : w2.frozen? ⟨(w.heap.size + 1 + 1), 7, none⟩ = false := frozB R2.out
      have y8 : w2.frozen? ⟨(w.heap.size + 1 + 1), 8, none⟩ = false := frozB R2.out
      have y9 : w2.frozen? ⟨(w.heap.size + 1 + 1), 9, none⟩ = false := frozB R2.out
      have y10 : w2.frozen? ⟨(w.heap.size + 1 + 1), 10, none⟩ = false := frozB R2.out
      go_wp2
      refine bodyPost_ret (v := .tuple #[.agg #[.int .i64 b, .int .i64 c, .int .i64 d, .int .i64 m0, .int .i64 m1, .int .i64 m2, .int .i64 p, .int .i64 3, .int .i64 0, .int .i64 2, .int .i64 si], .bool true]) (by simp [results, Try.results26, go_sem, z0, z1, z2, z3, z4, z5, z6, z7, z8, z9, z10]) rfl ?_
      refine ⟨?_, ?_⟩
      · rw [ansS, if_neg (fun g => g.elim (fun g => by rw [E2.out] at g; cases g) (fun g => g E3.out.symm)), if_pos ⟨rfl, rfl, rfl⟩]; try rfl
      · repeat (refine belowS ?_ (by omega))
        exact B2.out
    have hk1 : (xk == 4) = false := beq_eq_false_iff_ne.2 hk
    have HK := Lib.hid (fun W => back1 ⟨⟨b, c, d, m0, m1, m2, p⟩, 1, st, re, si⟩ 1 W)
    unfold backS S11.val at HK
    simp only at HK
    obtain ⟨f1, f2, f3, f4⟩ := three_boxes w (.cells #[.int .i64 b, .int .i64 c, .int .i64 d, .int .i64 m0, .int .i64 m1, .int .i64 m2, .int .i64 p, .int .i64 1, .int .i64 st, .int .i64 re, .int .i64 si] 26) (.cells #[.int .i64 xn, .int .i64 xk, .int .i64 xb, .int .i64 xu, .int .i64 xc, .int .i64 xa] 30) (.cells #[.int .i64 0, .int .i64 0, .int .i64 0, .int .i64 0, .int .i64 0, .int .i64 0, .int .i64 0, .int .i64 0, .int .i64 0, .int .i64 0, .int .i64 0] 26)
    have S0 := Lib.hid f1
    have X0 := Lib.hid f2
    have R0 := Lib.hid f3
    have B0 := Lib.hid f4
    clear f1 f2 f3 f4
    have HNX := Lib.hid (fun W => next1 ⟨⟨b, c, d, m0, m1, m2, p⟩, 1, st, re, si⟩ W)
    rw [hnx] at HNX
    unfold S11.val A6.val at HNX
    unfold S11.val
    simp only at HNX ⊢
    go_enter Try.func26, Try.ntmps26
    go_wp2_with fail
    refine (HNX.out _).mono ?_
    rintro e w1 ⟨rfl, q⟩
    have S1 := Lib.hid (blk0 S0.out q)
    have X1 := Lib.hid (blk0 X0.out q)
    have R1 := Lib.hid (blk0 R0.out q)
    have B1 := Lib.hid (bel0 B0.out B0.out.size q)
    clear q
    have a0 : (w1.alloc (.cells #[.int .i64 xn, .int .i64 xk, .int .i64 xb, .int .i64 xu, .int .i64 xc, .int .i64 xa] 30)).cell? ⟨w.heap.size, 0, none⟩ = some (.int .i64 b) := (cellsB (i := 0) (alc S1.out)).trans rfl
    have a1 : (w1.alloc (.cells #[.int .i64 xn, .int .i64 xk, .int .i64 xb, .int .i64 xu, .int .i64 xc, .int .i64 xa] 30)).cell? ⟨w.heap.size, 1, none⟩ = some (.int .i64 c) := (cellsB (i := 1) (alc S1.out)).trans rfl
    have a2 : (w1.alloc (.cells #[.int .i64 xn, .int .i64 xk, .int .i64 xb, .int .i64 xu, .int .i64 xc, .int .i64 xa] 30)).cell? ⟨w.heap.size, 2, none⟩ = some (.int .i64 d) := (cellsB (i := 2) (alc S1.out)).trans rfl
    have a3 : (w1.alloc (.cells #[.int .i64 xn, .int .i64 xk, .int .i64 xb, .int .i64 xu, .int .i64 xc, .int .i64 xa] 30)).cell? ⟨w.heap.size, 3, none⟩ = some (.int .i64 m0) := (cellsB (i := 3) (alc S1.out)).trans rfl
    have a4 : (w1.alloc (.cells #[.int .i64 xn, .int .i64 xk, .int .i64 xb, .int .i64 xu, .int .i64 xc, .int .i64 xa] 30)).cell? ⟨w.heap.size, 4, none⟩ = some (.int .i64 m1) := (cellsB (i := 4) (alc S1.out)).trans rfl
    have a5 : (w1.alloc (.cells #[.int .i64 xn, .int .i64 xk, .int .i64 xb, .int .i64 xu, .int .i64 xc, .int .i64 xa] 30)).cell? ⟨w.heap.size, 5, none⟩ = some (.int .i64 m2) := (cellsB (i := 5) (alc S1.out)).trans rfl
    have a6 : (w1.alloc (.cells #[.int .i64 xn, .int .i64 xk, .int .i64 xb, .int .i64 xu, .int .i64 xc, .int .i64 xa] 30)).cell? ⟨w.heap.size, 6, none⟩ = some (.int .i64 p) := (cellsB (i := 6) (alc S1.out)).trans rfl
    have a7 : (w1.alloc (.cells #[.int .i64 xn, .int .i64 xk, .int .i64 xb, .int .i64 xu, .int .i64 xc, .int .i64 xa] 30)).cell? ⟨w.heap.size, 7, none⟩ = some (.int .i64 1) := (cellsB (i := 7) (alc S1.out)).trans rfl
    have a8 : (w1.alloc (.cells #[.int .i64 xn, .int .i64 xk, .int .i64 xb, .int .i64 xu, .int .i64 xc, .int .i64 xa] 30)).cell? ⟨w.heap.size, 8, none⟩ = some (.int .i64 st) := (cellsB (i := 8) (alc S1.out)).trans rfl
    have a9 : (w1.alloc (.cells #[.int .i64 xn, .int .i64 xk, .int .i64 xb, .int .i64 xu, .int .i64 xc, .int .i64 xa] 30)).cell? ⟨w.heap.size, 9, none⟩ = some (.int .i64 re) := (cellsB (i := 9) (alc S1.out)).trans rfl
    have a10 : (w1.alloc (.cells #[.int .i64 xn, .int .i64 xk, .int .i64 xb, .int .i64 xu, .int .i64 xc, .int .i64 xa] 30)).cell? ⟨w.heap.size, 10, none⟩ = some (.int .i64 si) := (cellsB (i := 10) (alc S1.out)).trans rfl
    have x0 : (w1.alloc (.cells #[.int .i64 xn, .int .i64 xk, .int .i64 xb, .int .i64 xu, .int .i64 xc, .int .i64 xa] 30)).cell? ⟨(w.heap.size + 1), 0, none⟩ = some (.int .i64 xn) := (cellsB (i := 0) (alc X1.out)).trans rfl
    have x1 : (w1.alloc (.cells #[.int .i64 xn, .int .i64 xk, .int .i64 xb, .int .i64 xu, .int .i64 xc, .int .i64 xa] 30)).cell? ⟨(w.heap.size + 1), 1, none⟩ = some (.int .i64 xk) := (cellsB (i := 1) (alc X1.out)).trans rfl
    have x2 : (w1.alloc (.cells #[.int .i64 xn, .int .i64 xk, .int .i64 xb, .int .i64 xu, .int .i64 xc, .int .i64 xa] 30)).cell? ⟨(w.heap.size + 1), 2, none⟩ = some (.int .i64 xb) := (cellsB (i := 2) (alc X1.out)).trans rfl
    have x3 : (w1.alloc (.cells #[.int .i64 xn, .int .i64 xk, .int .i64 xb, .int .i64 xu, .int .i64 xc, .int .i64 xa] 30)).cell? ⟨(w.heap.size + 1), 3, none⟩ = some (.int .i64 xu) := (cellsB (i := 3) (alc X1.out)).trans rfl
    have x4 : (w1.alloc (.cells #[.int .i64 xn, .int .i64 xk, .int .i64 xb, .int .i64 xu, .int .i64 xc, .int .i64 xa] 30)).cell? ⟨(w.heap.size + 1), 4, none⟩ = some (.int .i64 xc) := (cellsB (i := 4) (alc X1.out)).trans rfl
    have x5 : (w1.alloc (.cells #[.int .i64 xn, .int .i64 xk, .int .i64 xb, .int .i64 xu, .int .i64 xc, .int .i64 xa] 30)).cell? ⟨(w.heap.size + 1), 5, none⟩ = some (.int .i64 xa) := (cellsB (i := 5) (alc X1.out)).trans rfl
    have n0 : (w1.alloc (.cells #[.int .i64 xn, .int .i64 xk, .int .i64 xb, .int .i64 xu, .int .i64 xc, .int .i64 xa] 30)).cell? ⟨w1.heap.size, 0, none⟩ = some (.int .i64 xn) := (cellsB (i := 0) (heap_alloc_new w1 _)).trans rfl
    have n1 : (w1.alloc (.cells #[.int .i64 xn, .int .i64 xk, .int .i64 xb, .int .i64 xu, .int .i64 xc, .int .i64 xa] 30)).cell? ⟨w1.heap.size, 1, none⟩ = some (.int .i64 xk) := (cellsB (i := 1) (heap_alloc_new w1 _)).trans rfl
    have n2 : (w1.alloc (.cells #[.int .i64 xn, .int .i64 xk, .int .i64 xb, .int .i64 xu, .int .i64 xc, .int .i64 xa] 30)).cell? ⟨w1.heap.size, 2, none⟩ = some (.int .i64 xb) := (cellsB (i := 2) (heap_alloc_new w1 _)).trans rfl
    have n3 : (w1.alloc (.cells #[.int .i64 xn, .int .i64 xk, .int .i64 xb, .int .i64 xu, .int .i64 xc, .int .i64 xa] 30)).cell? ⟨w1.heap.size, 3, none⟩ = some (.int .i64 xu) := (cellsB (i := 3) (heap_alloc_new w1 _)).trans rfl
    have n4 : (w1.alloc (.cells #[.int .i64 xn, .int .i64 xk, .int .i64 xb, .int .i64 xu, .int .i64 xc, .int .i64 xa] 30)).cell? ⟨w1.heap.size, 4, none⟩ = some (.int .i64 xc) := (cellsB (i := 4) (heap_alloc_new w1 _)).trans rfl
    have n5 : (w1.alloc (.cells #[.int .i64 xn, .int .i64 xk, .int .i64 xb, .int .i64 xu, .int .i64 xc, .int .i64 xa] 30)).cell? ⟨w1.heap.size, 5, none⟩ = some (.int .i64 xa) := (cellsB (i := 5) (heap_alloc_new w1 _)).trans rfl
    have z0 : (w1.alloc (.cells #[.int .i64 xn, .int .i64 xk, .int .i64 xb, .int .i64 xu, .int .i64 xc, .int .i64 xa] 30)).cell? ⟨(w.heap.size + 1 + 1), 0, none⟩ = some (.int .i64 0) := (cellsB (i := 0) (alc R1.out)).trans rfl
    have z1 : (w1.alloc (.cells #[.int .i64 xn, .int .i64 xk, .int .i64 xb, .int .i64 xu, .int .i64 xc, .int .i64 xa] 30)).cell? ⟨(w.heap.size + 1 + 1), 1, none⟩ = some (.int .i64 0) := (cellsB (i := 1) (alc R1.out)).trans rfl
    have z2 : (w1.alloc (.cells #[.int .i64 xn, .int .i64 xk, .int .i64 xb, .int .i64 xu, .int .i64 xc, .int .i64 xa] 30)).cell? ⟨(w.heap.size + 1 + 1), 2, none⟩ = some (.int .i64 0) := (cellsB (i := 2) (alc R1.out)).trans rfl
    have z3 : (w1.alloc (.cells #[.int .i64 xn, .int .i64 xk, .int .i64 xb, .int .i64 xu, .int .i64 xc, .int .i64 xa] 30)).cell? ⟨(w.heap.size + 1 + 1), 3, none⟩ = some (.int .i64 0) := (cellsB (i := 3) (alc R1.out)).trans rfl
    have z4 : (w1.alloc (.cells #[.int .i64 xn, .int .i64 xk, .int .i64 xb, .int .i64 xu, .int .i64 xc, .int .i64 xa] 30)).cell? ⟨(w.heap.size + 1 + 1), 4, none⟩ = some (.int .i64 0) := (cellsB (i := 4) (alc R1.out)).trans rfl
    have z5 : (w1.alloc (.cells #[.int .i64 xn, .int .i64 xk, .int .i64 xb, .int .i64 xu, .int .i64 xc, .int .i64 xa] 30)).cell? ⟨(w.heap.size + 1 + 1), 5, none⟩ = some (.int .i64 0) := (cellsB (i := 5) (alc R1.out)).trans rfl
    have z6 : (w1.alloc (.cells #[.int .i64 xn, .int .i64 xk, .int .i64 xb, .int .i64 xu, .int .i64 xc, .int .i64 xa] 30)).cell? ⟨(w.heap.size + 1 + 1), 6, none⟩ = some (.int .i64 0) := (cellsB (i := 6) (alc R1.out)).trans rfl
    have z7 : (w1.alloc (.cells #[.int .i64 xn, .int .i64 xk, .int .i64 xb, .int .i64 xu, .int .i64 xc, .int .i64 xa] 30)).cell? ⟨(w.heap.size + 1 + 1), 7, none⟩ = some (.int .i64 0) := (cellsB (i := 7) (alc R1.out)).trans rfl
    have z8 : (w1.alloc (.cells #[.int .i64 xn, .int .i64 xk, .int .i64 xb, .int .i64 xu, .int .i64 xc, .int .i64 xa] 30)).cell? ⟨(w.heap.size + 1 + 1), 8, none⟩ = some (.int .i64 0) := (cellsB (i := 8) (alc R1.out)).trans rfl
    have z9 : (w1.alloc (.cells #[.int .i64 xn, .int .i64 xk, .int .i64 xb, .int .i64 xu, .int .i64 xc, .int .i64 xa] 30)).cell? ⟨(w.heap.size + 1 + 1), 9, none⟩ = some (.int .i64 0) := (cellsB (i := 9) (alc R1.out)).trans rfl
    have z10 : (w1.alloc (.cells #[.int .i64 xn, .int .i64 xk, .int .i64 xb, .int .i64 xu, .int .i64 xc, .int .i64 xa] 30)).cell? ⟨(w.heap.size + 1 + 1), 10, none⟩ = some (.int .i64 0) := (cellsB (i := 10) (alc R1.out)).trans rfl
    have y0 : (w1.alloc (.cells #[.int .i64 xn, .int .i64 xk, .int .i64 xb, .int .i64 xu, .int .i64 xc, .int .i64 xa] 30)).frozen? ⟨(w.heap.size + 1 + 1), 0, none⟩ = false := frozB (alc R1.out)
    have y1 : (w1.alloc (.cells #[.int .i64 xn, .int .i64 xk, .int .i64 xb, .int .i64 xu, .int .i64 xc, .int .i64 xa] 30)).frozen? ⟨(w.heap.size + 1 + 1), 1, none⟩ = false := frozB (alc R1.out)
    have y2 : (w1.alloc (.cells #[.int .i64 xn, .int .i64 xk, .int .i64 xb, .int .i64 xu, .int .i64 xc, .int .i64 xa] 30)).frozen? ⟨(w.heap.size + 1 + 1), 2, none⟩ = false := frozB (alc R1.out)
    have y3 : (w1.alloc (.cells #[.int .i64 xn, .int .i64 xk, .int .i64 xb, .int .i64 xu, .int .i64 xc, .int .i64 xa] 30)).frozen? ⟨(w.heap.size + 1 + 1), 3, none⟩ = false := frozB (alc R1.out)
    have y4 : (w1.alloc (.cells #[.int .i64 xn, .int .i64 xk, .int .i64 xb, .int .i64 xu, .int .i64 xc, .int .i64 xa] 30)).frozen? ⟨(w.heap.size + 1 + 1), 4, none⟩ = false := frozB (alc R1.out)
    have y5 : (w1.alloc (.cells #[.int .i64 xn, .int .i64 xk, .int .i64 xb, .int .i64 xu, .int .i64 xc, .int .i64 xa] 30)).frozen? ⟨(w.heap.size + 1 + 1), 5, none⟩ = false := frozB (alc R1.out)
    have y6 : (w1.alloc (.cells #[.int .i64 xn, .int .i64 xk, .int .i64 xb, .int .i64 xu, .int .i64 xc, .int .i64 xa] 30)).frozen? ⟨(w.heap.size + 1 + 1), 6, none⟩ = false := frozB (alc R1.out)
    have y7 : (w1.alloc (.cells #[.int .i64 xn, .int .i64 xk, .int .i64 xb, .int .i64 xu, .int .i64 xc, .int .i64 xa] 30)).frozen? ⟨(w.heap.size + 1 + 1), 7, none⟩ = false := frozB (alc R1.out)
    have y8 : (w1.alloc (.cells #[.int .i64 xn, .int .i64 xk, .int .i64 xb, .int .i64 xu, .int .i64 xc, .int .i64 xa] 30)).frozen? ⟨(w.heap.size + 1 + 1), 8, none⟩ = false := frozB (alc R1.out)
    have y9 : (w1.alloc (.cells #[.int .i64 xn, .int .i64 xk, .int .i64 xb, .int .i64 xu, .int .i64 xc, .int .i64 xa] 30)).frozen? ⟨(w.heap.size + 1 + 1), 9, none⟩ = false := frozB (alc R1.out)
    have y10 : (w1.alloc (.cells #[.int .i64 xn, .int .i64 xk, .int .i64 xb, .int .i64 xu, .int .i64 xc, .int .i64 xa] 30)).frozen? ⟨(w.heap.size + 1 + 1), 10, none⟩ = false := frozB (alc R1.out)
    have t0 : (w1.alloc (.cells #[.int .i64 xn, .int .i64 xk, .int .i64 xb, .int .i64 xu, .int .i64 xc, .int .i64 xa] 30)).frozen? ⟨w.heap.size, 0, none⟩ = false := frozB (alc S1.out)
    have t1 : (w1.alloc (.cells #[.int .i64 xn, .int .i64 xk, .int .i64 xb, .int .i64 xu, .int .i64 xc, .int .i64 xa] 30)).frozen? ⟨w.heap.size, 1, none⟩ = false := frozB (alc S1.out)
    have t2 : (w1.alloc (.cells #[.int .i64 xn, .int .i64 xk, .int .i64 xb, .int .i64 xu, .int .i64 xc, .int .i64 xa] 30)).frozen? ⟨w.heap.size, 2, none⟩ = false := frozB (alc S1.out)
    have t3 : (w1.alloc (.cells #[.int .i64 xn, .int .i64 xk, .int .i64 xb, .int .i64 xu, .int .i64 xc, .int .i64 xa] 30)).frozen? ⟨w.heap.size, 3, none⟩ = false := frozB (alc S1.out)
    have t4 : (w1.alloc (.cells #[.int .i64 xn, .int .i64 xk, .int .i64 xb, .int .i64 xu, .int .i64 xc, .int .i64 xa] 30)).frozen? ⟨w.heap.size, 4, none⟩ = false := frozB (alc S1.out)
    have t5 : (w1.alloc (.cells #[.int .i64 xn, .int .i64 xk, .int .i64 xb, .int .i64 xu, .int .i64 xc, .int .i64 xa] 30)).frozen? ⟨w.heap.size, 5, none⟩ = false := frozB (alc S1.out)
    have t6 : (w1.alloc (.cells #[.int .i64 xn, .int .i64 xk, .int .i64 xb, .int .i64 xu, .int .i64 xc, .int .i64 xa] 30)).frozen? ⟨w.heap.size, 6, none⟩ = false := frozB (alc S1.out)
    have t7 : (w1.alloc (.cells #[.int .i64 xn, .int .i64 xk, .int .i64 xb, .int .i64 xu, .int .i64 xc, .int .i64 xa] 30)).frozen? ⟨w.heap.size, 7, none⟩ = false := frozB (alc S1.out)
    have t8 : (w1.alloc (.cells #[.int .i64 xn, .int .i64 xk, .int .i64 xb, .int .i64 xu, .int .i64 xc, .int .i64 xa] 30)).frozen? ⟨w.heap.size, 8, none⟩ = false := frozB (alc S1.out)
    have t9 : (w1.alloc (.cells #[.int .i64 xn, .int .i64 xk, .int .i64 xb, .int .i64 xu, .int .i64 xc, .int .i64 xa] 30)).frozen? ⟨w.heap.size, 9, none⟩ = false := frozB (alc S1.out)
    have t10 : (w1.alloc (.cells #[.int .i64 xn, .int .i64 xk, .int .i64 xb, .int .i64 xu, .int .i64 xc, .int .i64 xa] 30)).frozen? ⟨w.heap.size, 10, none⟩ = false := frozB (alc S1.out)
    have zz0 : w1.cell? ⟨(w.heap.size + 1 + 1), 0, none⟩ = some (.int .i64 0) := (cellsB (i := 0) R1.out).trans rfl
    have zz1 : w1.cell? ⟨(w.heap.size + 1 + 1), 1, none⟩ = some (.int .i64 0) := (cellsB (i := 1) R1.out).trans rfl
    have zz2 : w1.cell? ⟨(w.heap.size + 1 + 1), 2, none⟩ = some (.int .i64 0) := (cellsB (i := 2) R1.out).trans rfl
    have zz3 : w1.cell? ⟨(w.heap.size + 1 + 1), 3, none⟩ = some (.int .i64 0) := (cellsB (i := 3) R1.out).trans rfl
    have zz4 : w1.cell? ⟨(w.heap.size + 1 + 1), 4, none⟩ = some (.int .i64 0) := (cellsB (i := 4) R1.out).trans rfl
    have zz5 : w1.cell? ⟨(w.heap.size + 1 + 1), 5, none⟩ = some (.int .i64 0) := (cellsB (i := 5) R1.out).trans rfl
    have zz6 : w1.cell? ⟨(w.heap.size + 1 + 1), 6, none⟩ = some (.int .i64 0) := (cellsB (i := 6) R1.out).trans rfl
    have zz7 : w1.cell? ⟨(w.heap.size + 1 + 1), 7, none⟩ = some (.int .i64 0) := (cellsB (i := 7) R1.out).trans rfl
    have zz8 : w1.cell? ⟨(w.heap.size + 1 + 1), 8, none⟩ = some (.int .i64 0) := (cellsB (i := 8) R1.out).trans rfl
    have zz9 : w1.cell? ⟨(w.heap.size + 1 + 1), 9, none⟩ = some (.int .i64 0) := (cellsB (i := 9) R1.out).trans rfl
    have zz10 : w1.cell? ⟨(w.heap.size + 1 + 1), 10, none⟩ = some (.int .i64 0) := (cellsB (i := 10) R1.out).trans rfl
    have yy0 : w1.frozen? ⟨(w.heap.size + 1 + 1), 0, none⟩ = false := frozB R1.out
    have yy1 : w1.frozen? ⟨(w.heap.size + 1 + 1), 1, none⟩ = false := frozB R1.out
    have yy2 : w1.frozen? ⟨(w.heap.size + 1 + 1), 2, none⟩ = false := frozB R1.out
    have yy3 : w1.frozen? ⟨(w.heap.size + 1 + 1), 3, none⟩ = false := frozB R1.out
    have yy4 : w1.frozen? ⟨(w.heap.size + 1 + 1), 4, none⟩ = false := frozB R1.out
    have yy5 : w1.frozen? ⟨(w.heap.size + 1 + 1), 5, none⟩ = false := frozB R1.out
    have yy6 : w1.frozen? ⟨(w.heap.size + 1 + 1), 6, none⟩ = false := frozB R1.out
    have yy7 : w1.frozen? ⟨(w.heap.size + 1 + 1), 7, none⟩ = false := frozB R1.out
    have yy8 : w1.frozen? ⟨(w.heap.size + 1 + 1), 8, none⟩ = false := frozB R1.out
    have yy9 : w1.frozen? ⟨(w.heap.size + 1 + 1), 9, none⟩ = false := frozB R1.out
    have yy10 : w1.frozen? ⟨(w.heap.size + 1 + 1), 10, none⟩ = false := frozB R1.out
    have tt0 : w1.frozen? ⟨w.heap.size, 0, none⟩ = false := frozB S1.out
    have tt1 : w1.frozen? ⟨w.heap.size, 1, none⟩ = false := frozB S1.out
    have tt2 : w1.frozen? ⟨w.heap.size, 2, none⟩ = false := frozB S1.out
    have tt3 : w1.frozen? ⟨w.heap.size, 3, none⟩ = false := frozB S1.out
    have tt4 : w1.frozen? ⟨w.heap.size, 4, none⟩ = false := frozB S1.out
    have tt5 : w1.frozen? ⟨w.heap.size, 5, none⟩ = false := frozB S1.out
    have tt6 : w1.frozen? ⟨w.heap.size, 6, none⟩ = false := frozB S1.out
    have tt7 : w1.frozen? ⟨w.heap.size, 7, none⟩ = false := frozB S1.out
    have tt8 : w1.frozen? ⟨w.heap.size, 8, none⟩ = false := frozB S1.out
    have tt9 : w1.frozen? ⟨w.heap.size, 9, none⟩ = false := frozB S1.out
    have tt10 : w1.frozen? ⟨w.heap.size, 10, none⟩ = false := frozB S1.out
    have hl1 : w.heap.size + 1 + 1 < w1.heap.size := lt_size R1.out
    have hl0 : w.heap.size < w1.heap.size := lt_size S1.out
    have hn1 : ¬ w.heap.size + 1 + 1 = w1.heap.size := by omega
    have hn0 : ¬ w.heap.size = w1.heap.size := by omega
    go_wp2_with fail
    refine (HK.out _).mono ?_
    rintro e w2 ⟨rfl, q⟩
    have S2 := Lib.hid (blk1 S1.out q)
    have X2 := Lib.hid (blk1 X1.out q)
    have R2 := Lib.hid (blk1 R1.out q)
    have B2 := Lib.hid (bel1 B1.out B1.out.size q)
    clear q z0 y0 a0 t0 z1 y1 a1 t1 z2 y2 a2 t2 z3 y3 a3 t3 z4 y4 a4 t4 z5 y5 a5 t5 z6 y6 a6 t6 z7 y7 a7 t7 z8 y8 a8 t8 z9 y9 a9 t9 z10 y10 a10 t10
    have z0 : w2.cell? ⟨(w.heap.size + 1 + 1), 0, none⟩ = some (.int .i64 0) := (cellsB (i := 0) R2.out).trans rfl
    have z1 : w2.cell? ⟨(w.heap.size + 1 + 1), 1, none⟩ = some (.int .i64 0) := (cellsB (i := 1) R2.out).trans rfl
    have z2 : w2.cell? ⟨(w.heap.size + 1 + 1), 2, none⟩ = some (.int .i64 0) := (cellsB (i := 2) R2.out).trans rfl
    have z3 : w2.cell? ⟨(w.heap.size + 1 + 1), 3, none⟩ = some (.int .i64 0) := (cellsB (i := 3) R2.out).trans rfl
    have z4 : w2.cell? ⟨(w.heap.size + 1 + 1), 4, none⟩ = some (.int .i64 0) := (cellsB (i := 4) R2.out).trans rfl
    have z5 : w2.cell? ⟨(w.heap.size + 1 + 1), 5, none⟩ = some (.int .i64 0) := (cellsB (i := 5) R2.out).trans rfl
    have z6 : w2.cell? ⟨(w.heap.size + 1 + 1), 6, none⟩ = some (.int .i64 0) := (cellsB (i := 6) R2.out).trans rfl
    have z7 : w2.cell? ⟨(w.heap.size + 1 + 1), 7, none⟩ = some (.int .i64 0) := (cellsB (i := 7) R2.out).trans rfl
    have z8 : w2.cell? ⟨(w.heap.size + 1 + 1), 8, none⟩ = some (.int .i64 0) := (cellsB (i := 8) R2.out).trans rfl
    have z9 : w2.cell? ⟨(w.heap.size + 1 + 1), 9, none⟩ = some (.int .i64 0) := (cellsB (i := 9) R2.out).trans rfl
    have z10 : w2.cell? ⟨(w.heap.size + 1 + 1), 10, none⟩ = some (.int .i64 0) := (cellsB (i := 10) R2.out).trans rfl
    have y0 : w2.frozen? ⟨(w.heap.size + 1 + 1), 0, none⟩ = false := frozB R2.out
    have y1 : w2.frozen? ⟨(w.heap.size + 1 + 1), 1, none⟩ = false := frozB R2.out
    have y2 : w2.frozen? ⟨(w.heap.size + 1 + 1), 2, none⟩ = false := frozB R2.out
    have y3 : w2.frozen? ⟨(w.heap.size + 1 + 1), 3, none⟩ = false := frozB R2.out
    have y4 : w2.frozen? ⟨(w.heap.size + 1 + 1), 4, none⟩ = false := frozB R2.out
    have y5 : w2.frozen? ⟨(w.heap.size + 1 + 1), 5, none⟩ = false := frozB R2.out
    have y6 : w2.frozen? ⟨(w.heap.size + 1 + 1), 6, none⟩ = false := frozB R2.out
    have y7 : w2.frozen? ⟨(w.heap.size + 1 + 1), 7, none⟩ = false := frozB R2.out
    have y8 : w2.frozen? ⟨(w.heap.size + 1 + 1), 8, none⟩ = false := frozB R2.out
    have y9 : w2.frozen? ⟨(w.heap.size + 1 + 1), 9, none⟩ = false := frozB R2.out
    have y10 : w2.frozen? ⟨(w.heap.size + 1 + 1), 10, none⟩ = false := frozB R2.out
    go_wp2
    refine bodyPost_ret (v := .tuple #[.agg #[.int .i64 b, .int .i64 c, .int .i64 d, .int .i64 m0, .int .i64 m1, .int .i64 m2, .int .i64 p, .int .i64 3, .int .i64 0, .int .i64 1, .int .i64 si], .bool true]) (by simp [results, Try.results26, go_sem, z0, z1, z2, z3, z4, z5, z6, z7, z8, z9, z10]) rfl ?_
    refine ⟨?_, ?_⟩
    · rw [ansS, if_neg (fun g => g.elim (fun g => by rw [E2.out] at g; cases g) (fun g => g E3.out.symm)), if_neg (fun g => hk g.2.2), if_pos ⟨rfl, rfl⟩]; try rfl
    · repeat (refine belowS ?_ (by omega))
      exact B2.out
  have hp1 : (ph == 1) = false := beq_eq_false_iff_ne.2 hp
  obtain ⟨f1, f2, f3, f4⟩ := three_boxes w (.cells #[.int .i64 b, .int .i64 c, .int .i64 d, .int .i64 m0, .int .i64 m1, .int .i64 m2, .int .i64 p, .int .i64 ph, .int .i64 st, .int .i64 re, .int .i64 si] 26) (.cells #[.int .i64 xn, .int .i64 xk, .int .i64 xb, .int .i64 xu, .int .i64 xc, .int .i64 xa] 30) (.cells #[.int .i64 0, .int .i64 0, .int .i64 0, .int .i64 0, .int .i64 0, .int .i64 0, .int .i64 0, .int .i64 0, .int .i64 0, .int .i64 0, .int .i64 0] 26)
  have S0 := Lib.hid f1
  have X0 := Lib.hid f2
  have R0 := Lib.hid f3
  have B0 := Lib.hid f4
  clear f1 f2 f3 f4
  have HNX := Lib.hid (fun W => next1 ⟨⟨b, c, d, m0, m1, m2, p⟩, ph, st, re, si⟩ W)
  rw [hnx] at HNX
  unfold S11.val A6.val at HNX
  unfold S11.val
  simp only at HNX ⊢
  go_enter Try.func26, Try.ntmps26
  go_wp2_with fail
  refine (HNX.out _).mono ?_
  rintro e w1 ⟨rfl, q⟩
  have S1 := Lib.hid (blk0 S0.out q)
  have X1 := Lib.hid (blk0 X0.out q)
  have R1 := Lib.hid (blk0 R0.out q)
  have B1 := Lib.hid (bel0 B0.out B0.out.size q)
  clear q
  have a0 : (w1.alloc (.cells #[.int .i64 xn, .int .i64 xk, .int .i64 xb, .int .i64 xu, .int .i64 xc, .int .i64 xa] 30)).cell? ⟨w.heap.size, 0, none⟩ = some (.int .i64 b) := (cellsB (i := 0) (alc S1.out)).trans rfl
  have a1 : (w1.alloc (.cells #[.int .i64 xn, .int .i64 xk, .int .i64 xb, .int .i64 xu, .int .i64 xc, .int .i64 xa] 30)).cell? ⟨w.heap.size, 1, none⟩ = some (.int .i64 c) := (cellsB (i := 1) (alc S1.out)).trans rfl
  have a2 : (w1.alloc (.cells #[.int .i64 xn, .int .i64 xk, .int .i64 xb, .int .i64 xu, .int .i64 xc, .int .i64 xa] 30)).cell? ⟨w.heap.size, 2, none⟩ = some (.int .i64 d) := (cellsB (i := 2) (alc S1.out)).trans rfl
  have a3 : (w1.alloc (.cells #[.int .i64 xn, .int .i64 xk, .int .i64 xb, .int .i64 xu, .int .i64 xc, .int .i64 xa] 30)).cell? ⟨w.heap.size, 3, none⟩ = some (.int .i64 m0) := (cellsB (i := 3) (alc S1.out)).trans rfl
  have a4 : (w1.alloc (.cells #[.int .i64 xn, .int .i64 xk, .int .i64 xb, .int .i64 xu, .int .i64 xc, .int .i64 xa] 30)).cell? ⟨w.heap.size, 4, none⟩ = some (.int .i64 m1) := (cellsB (i := 4) (alc S1.out)).trans rfl
  have a5 : (w1.alloc (.cells #[.int .i64 xn, .int .i64 xk, .int .i64 xb, .int .i64 xu, .int .i64 xc, .int .i64 xa] 30)).cell? ⟨w.heap.size, 5, none⟩ = some (.int .i64 m2) := (cellsB (i := 5) (alc S1.out)).trans rfl
  have a6 : (w1.alloc (.cells #[.int .i64 xn, .int .i64 xk, .int .i64 xb, .int .i64 xu, .int .i64 xc, .int .i64 xa] 30)).cell? ⟨w.heap.size, 6, none⟩ = some (.int .i64 p) := (cellsB (i := 6) (alc S1.out)).trans rfl
  have a7 : (w1.alloc (.cells #[.int .i64 xn, .int .i64 xk, .int .i64 xb, .int .i64 xu, .int .i64 xc, .int .i64 xa] 30)).cell? ⟨w.heap.size, 7, none⟩ = some (.int .i64 ph) := (cellsB (i := 7) (alc S1.out)).trans rfl
  have a8 : (w1.alloc (.cells #[.int .i64 xn, .int .i64 xk, .int .i64 xb, .int .i64 xu, .int .i64 xc, .int .i64 xa] 30)).cell? ⟨w.heap.size, 8, none⟩ = some (.int .i64 st) := (cellsB (i := 8) (alc S1.out)).trans rfl
  have a9 : (w1.alloc (.cells #[.int .i64 xn, .int .i64 xk, .int .i64 xb, .int .i64 xu, .int .i64 xc, .int .i64 xa] 30)).cell? ⟨w.heap.size, 9, none⟩ = some (.int .i64 re) := (cellsB (i := 9) (alc S1.out)).trans rfl
  have a10 : (w1.alloc (.cells #[.int .i64 xn, .int .i64 xk, .int .i64 xb, .int .i64 xu, .int .i64 xc, .int .i64 xa] 30)).cell? ⟨w.heap.size, 10, none⟩ = some (.int .i64 si) := (cellsB (i := 10) (alc S1.out)).trans rfl
  have x0 : (w1.alloc (.cells #[.int .i64 xn, .int .i64 xk, .int .i64 xb, .int .i64 xu, .int .i64 xc, .int .i64 xa] 30)).cell? ⟨(w.heap.size + 1), 0, none⟩ = some (.int .i64 xn) := (cellsB (i := 0) (alc X1.out)).trans rfl
  have x1 : (w1.alloc (.cells #[.int .i64 xn, .int .i64 xk, .int .i64 xb, .int .i64 xu, .int .i64 xc, .int .i64 xa] 30)).cell? ⟨(w.heap.size + 1), 1, none⟩ = some (.int .i64 xk) := (cellsB (i := 1) (alc X1.out)).trans rfl
  have x2 : (w1.alloc (.cells #[.int .i64 xn, .int .i64 xk, .int .i64 xb, .int .i64 xu, .int .i64 xc, .int .i64 xa] 30)).cell? ⟨(w.heap.size + 1), 2, none⟩ = some (.int .i64 xb) := (cellsB (i := 2) (alc X1.out)).trans rfl
  have x3 : (w1.alloc (.cells #[.int .i64 xn, .int .i64 xk, .int .i64 xb, .int .i64 xu, .int .i64 xc, .int .i64 xa] 30)).cell? ⟨(w.heap.size + 1), 3, none⟩ = some (.int .i64 xu) := (cellsB (i := 3) (alc X1.out)).trans rfl
  have x4 : (w1.alloc (.cells #[.int .i64 xn, .int .i64 xk, .int .i64 xb, .int .i64 xu, .int .i64 xc, .int .i64 xa] 30)).cell? ⟨(w.heap.size + 1), 4, none⟩ = some (.int .i64 xc) := (cellsB (i := 4) (alc X1.out)).trans rfl
  have x5 : (w1.alloc (.cells #[.int .i64 xn, .int .i64 xk, .int .i64 xb, .int .i64 xu, .int .i64 xc, .int .i64 xa] 30)).cell? ⟨(w.heap.size + 1), 5, none⟩ = some (.int .i64 xa) := (cellsB (i := 5) (alc X1.out)).trans rfl
  have n0 : (w1.alloc (.cells #[.int .i64 xn, .int .i64 xk, .int .i64 xb, .int .i64 xu, .int .i64 xc, .int .i64 xa] 30)).cell? ⟨w1.heap.size, 0, none⟩ = some (.int .i64 xn) := (cellsB (i := 0) (heap_alloc_new w1 _)).trans rfl
  have n1 : (w1.alloc (.cells #[.int .i64 xn, .int .i64 xk, .int .i64 xb, .int .i64 xu, .int .i64 xc, .int .i64 xa] 30)).cell? ⟨w1.heap.size, 1, none⟩ = some (.int .i64 xk) := (cellsB (i := 1) (heap_alloc_new w1 _)).trans rfl
  have n2 : (w1.alloc (.cells #[.int .i64 xn, .int .i64 xk, .int .i64 xb, .int .i64 xu, .int .i64 xc, .int .i64 xa] 30)).cell? ⟨w1.heap.size, 2, none⟩ = some (.int .i64 xb) := (cellsB (i := 2) (heap_alloc_new w1 _)).trans rfl
  have n3 : (w1.alloc (.cells #[.int .i64 xn, .int .i64 xk, .int .i64 xb, .int .i64 xu, .int .i64 xc, .int .i64 xa] 30)).cell? ⟨w1.heap.size, 3, none⟩ = some (.int .i64 xu) := (cellsB (i := 3) (heap_alloc_new w1 _)).trans rfl
  have n4 : (w1.alloc (.cells #[.int .i64 xn, .int .i64 xk, .int .i64 xb, .int .i64 xu, .int .i64 xc, .int .i64 xa] 30)).cell? ⟨w1.heap.size, 4, none⟩ = some (.int .i64 xc) := (cellsB (i := 4) (heap_alloc_new w1 _)).trans rfl
  have n5 : (w1.alloc (.cells #[.int .i64 xn, .int .i64 xk, .int .i64 xb, .int .i64 xu, .int .i64 xc, .int .i64 xa] 30)).cell? ⟨w1.heap.size, 5, none⟩ = some (.int .i64 xa) := (cellsB (i := 5) (heap_alloc_new w1 _)).trans rfl
  have z0 : (w1.alloc (.cells #[.int .i64 xn, .int .i64 xk, .int .i64 xb, .int .i64 xu, .int .i64 xc, .int .i64 xa] 30)).cell? ⟨(w.heap.size + 1 + 1), 0, none⟩ = some (.int .i64 0) := (cellsB (i := 0) (alc R1.out)).trans rfl
  have z1 : (w1.alloc (.cells #[.int .i64 xn, .int .i64 xk, .int .i64 xb, .int .i64 xu, .int .i64 xc, .int .i64 xa] 30)).cell? ⟨(w.heap.size + 1 + 1), 1, none⟩ = some (.int .i64 0) := (cellsB (i := 1) (alc R1.out)).trans rfl
  have z2 : (w1.alloc (.cells #[.int .i64 xn, .int .i64 xk, .int .i64 xb, .int .i64 xu, .int .i64 xc, .int .i64 xa] 30)).cell? ⟨(w.heap.size + 1 + 1), 2, none⟩ = some (.int .i64 0) := (cellsB (i := 2) (alc R1.out)).trans rfl
  have z3 : (w1.alloc (.cells #[.int .i64 xn, .int .i64 xk, .int .i64 xb, .int .i64 xu, .int .i64 xc, .int .i64 xa] 30)).cell? ⟨(w.heap.size + 1 + 1), 3, none⟩ = some (.int .i64 0) := (cellsB (i := 3) (alc R1.out)).trans rfl
  have z4 : (w1.alloc (.cells #[.int .i64 xn, .int .i64 xk, .int .i64 xb, .int .i64 xu, .int .i64 xc, .int .i64 xa] 30)).cell? ⟨(w.heap.size + 1 + 1), 4, none⟩ = some (.int .i64 0) := (cellsB (i := 4) (alc R1.out)).trans rfl
  have z5 : (w1.alloc (.cells #[.int .i64 xn, .int .i64 xk, .int .i64 xb, .int .i64 xu, .int .i64 xc, .int .i64 xa] 30)).cell? ⟨(w.heap.size + 1 + 1), 5, none⟩ = some (.int .i64 0) := (cellsB (i := 5) (alc R1.out)).trans rfl
  have z6 : (w1.alloc (.cells #[.int .i64 xn, .int .i64 xk, .int .i64 xb, .int .i64 xu, .int .i64 xc, .int .i64 xa] 30)).cell? ⟨(w.heap.size + 1 + 1), 6, none⟩ = some (.int .i64 0) := (cellsB (i := 6) (alc R1.out)).trans rfl
  have z7 : (w1.alloc (.cells #[.int .i64 xn, .int .i64 xk, .int .i64 xb, .int .i64 xu, .int .i64 xc, .int .i64 xa] 30)).cell? ⟨(w.heap.size + 1 + 1), 7, none⟩ = some (.int .i64 0) := (cellsB (i := 7) (alc R1.out)).trans rfl
  have z8 : (w1.alloc (.cells #[.int .i64 xn, .int .i64 xk, .int .i64 xb, .int .i64 xu, .int .i64 xc, .int .i64 xa] 30)).cell? ⟨(w.heap.size + 1 + 1), 8, none⟩ = some (.int .i64 0) := (cellsB (i := 8) (alc R1.out)).trans rfl
  have z9 : (w1.alloc (.cells #[.int .i64 xn, .int .i64 xk, .int .i64 xb, .int .i64 xu, .int .i64 xc, .int .i64 xa] 30)).cell? ⟨(w.heap.size + 1 + 1), 9, none⟩ = some (.int .i64 0) := (cellsB (i := 9) (alc R1.out)).trans rfl
  have z10 : (w1.alloc (.cells #[.int .i64 xn, .int .i64 xk, .int .i64 xb, .int .i64 xu, .int .i64 xc, .int .i64 xa] 30)).cell? ⟨(w.heap.size + 1 + 1), 10, none⟩ = some (.int .i64 0) := (cellsB (i := 10) (alc R1.out)).trans rfl
  have y0 : (w1.alloc (.cells #[.int .i64 xn, .int .i64 xk, .int .i64 xb, .int .i64 xu, .int .i64 xc, .int .i64 xa] 30)).frozen? ⟨(w.heap.size + 1 + 1), 0, none⟩ = false := frozB (alc R1.out)
  have y1 : (w1.alloc (.cells #[.int .i64 xn, .int .i64 xk, .int .i64 xb, .int .i64 xu, .int .i64 xc, .int .i64 xa] 30)).frozen? ⟨(w.heap.size + 1 + 1), 1, none⟩ = false := frozB (alc R1.out)
  have y2 : (w1.alloc (.cells #[.int .i64 xn, .int .i64 xk, .int .i64 xb, .int .i64 xu, .int .i64 xc, .int .i64 xa] 30)).frozen? ⟨(w.heap.size + 1 + 1), 2, none⟩ = false := frozB (alc R1.out)
  have y3 : (w1.alloc (.cells #[.int .i64 xn, .int .i64 xk, .int .i64 xb, .int .i64 xu, .int .i64 xc, .int .i64 xa] 30)).frozen? ⟨(w.heap.size + 1 + 1), 3, none⟩ = false := frozB (alc R1.out)
  have y4 : (w1.alloc (.cells #[.int .i64 xn, .int .i64 xk, .int .i64 xb, .int .i64 xu, .int .i64 xc, .int .i64 xa] 30)).frozen? ⟨(w.heap.size + 1 + 1), 4, none⟩ = false := frozB (alc R1.out)
  have y5 : (w1.alloc (.cells #[.int .i64 xn, .int .i64 xk, .int .i64 xb, .int .i64 xu, .int .i64 xc, .int .i64 xa] 30)).frozen? ⟨(w.heap.size + 1 + 1), 5, none⟩ = false := frozB (alc R1.out)
  have y6 : (w1.alloc (.cells #[.int .i64 xn, .int .i64 xk, .int .i64 xb, .int .i64 xu, .int .i64 xc, .int .i64 xa] 30)).frozen? ⟨(w.heap.size + 1 + 1), 6, none⟩ = false := frozB (alc R1.out)
  have y7 : (w1.alloc (.cells #[.int .i64 xn, .int .i64 xk, .int .i64 xb, .int .i64 xu, .int .i64 xc, .int .i64 xa] 30)).frozen? ⟨(w.heap.size + 1 + 1), 7, none⟩ = false := frozB (alc R1.out)
  have y8 : (w1.alloc (.cells #[.int .i64 xn, .int .i64 xk, .int .i64 xb, .int .i64 xu, .int .i64 xc, .int .i64 xa] 30)).frozen? ⟨(w.heap.size + 1 + 1), 8, none⟩ = false := frozB (alc R1.out)
  have y9 : (w1.alloc (.cells #[.int .i64 xn, .int .i64 xk, .int .i64 xb, .int .i64 xu, .int .i64 xc, .int .i64 xa] 30)).frozen? ⟨(w.heap.size + 1 + 1), 9, none⟩ = false := frozB (alc R1.out)
  have y10 : (w1.alloc (.cells #[.int .i64 xn, .int .i64 xk, .int .i64 xb, .int .i64 xu, .int .i64 xc, .int .i64 xa] 30)).frozen? ⟨(w.heap.size + 1 + 1), 10, none⟩ = false := frozB (alc R1.out)
  have t0 : (w1.alloc (.cells #[.int .i64 xn, .int .i64 xk, .int .i64 xb, .int .i64 xu, .int .i64 xc, .int .i64 xa] 30)).frozen? ⟨w.heap.size, 0, none⟩ = false := frozB (alc S1.out)
  have t1 : (w1.alloc (.cells #[.int .i64 xn, .int .i64 xk, .int .i64 xb, .int .i64 xu, .int .i64 xc, .int .i64 xa] 30)).frozen? ⟨w.heap.size, 1, none⟩ = false := frozB (alc S1.out)
  have t2 : (w1.alloc (.cells #[.int .i64 xn, .int .i64 xk, .int .i64 xb, .int .i64 xu, .int .i64 xc, .int .i64 xa] 30)).frozen? ⟨w.heap.size, 2, none⟩ = false := frozB (alc S1.out)
  have t3 : (w1.alloc (.cells #[.int .i64 xn, .int .i64 xk, .int .i64 xb, .int .i64 xu, .int .i64 xc, .int .i64 xa] 30)).frozen? ⟨w.heap.size, 3, none⟩ = false := frozB (alc S1.out)
  have t4 : (w1.alloc (.cells #[.int .i64 xn, .int .i64 xk, .int .i64 xb, .int .i64 xu, .int .i64 xc, .int .i64 xa] 30)).frozen? ⟨w.heap.size, 4, none⟩ = false := frozB (alc S1.out)
  have t5 : (w1.alloc (.cells #[.int .i64 xn, .int .i64 xk, .int .i64 xb, .int .i64 xu, .int .i64 xc, .int .i64 xa] 30)).frozen? ⟨w.heap.size, 5, none⟩ = false := frozB (alc S1.out)
  have t6 : (w1.alloc (.cells #[.int .i64 xn, .int .i64 xk, .int .i64 xb, .int .i64 xu, .int .i64 xc, .int .i64 xa] 30)).frozen? ⟨w.heap.size, 6, none⟩ = false := frozB (alc S1.out)
  have t7 : (w1.alloc (.cells #[.int .i64 xn, .int .i64 xk, .int .i64 xb, .int .i64 xu, .int .i64 xc, .int .i64 xa] 30)).frozen? ⟨w.heap.size, 7, none⟩ = false := frozB (alc S1.out)
  have t8 : (w1.alloc (.cells #[.int .i64 xn, .int .i64 xk, .int .i64 xb, .int .i64 xu, .int .i64 xc, .int .i64 xa] 30)).frozen? ⟨w.heap.size, 8, none⟩ = false := frozB (alc S1.out)
  have t9 : (w1.alloc (.cells #[.int .i64 xn, .int .i64 xk, .int .i64 xb, .int .i64 xu, .int .i64 xc, .int .i64 xa] 30)).frozen? ⟨w.heap.size, 9, none⟩ = false := frozB (alc S1.out)
  have t10 : (w1.alloc (.cells #[.int .i64 xn, .int .i64 xk, .int .i64 xb, .int .i64 xu, .int .i64 xc, .int .i64 xa] 30)).frozen? ⟨w.heap.size, 10, none⟩ = false := frozB (alc S1.out)
  have zz0 : w1.cell? ⟨(w.heap.size + 1 + 1), 0, none⟩ = some (.int .i64 0) := (cellsB (i := 0) R1.out).trans rfl
  have zz1 : w1.cell? ⟨(w.heap.size + 1 + 1), 1, none⟩ = some (.int .i64 0) := (cellsB (i := 1) R1.out).trans rfl
  have zz2 : w1.cell? ⟨(w.heap.size + 1 + 1), 2, none⟩ = some (.int .i64 0) := (cellsB (i := 2) R1.out).trans rfl
  have zz3 : w1.cell? ⟨(w.heap.size + 1 + 1), 3, none⟩ = some (.int .i64 0) := (cellsB (i := 3) R1.out).trans rfl
  have zz4 : w1.cell? ⟨(w.heap.size + 1 + 1), 4, none⟩ = some (.int .i64 0) := (cellsB (i := 4) R1.out).trans rfl
  have zz5 : w1.cell? ⟨(w.heap.size + 1 + 1), 5, none⟩ = some (.int .i64 0) := (cellsB (i := 5) R1.out).trans rfl
  have zz6 : w1.cell? ⟨(w.heap.size + 1 + 1), 6, none⟩ = some (.int .i64 0) := (cellsB (i := 6) R1.out).trans rfl
  have zz7 : w1.cell? ⟨(w.heap.size + 1 + 1), 7, none⟩ = some (.int .i64 0) := (cellsB (i := 7) R1.out).trans rfl
  have zz8 : w1.cell? ⟨(w.heap.size + 1 + 1), 8, none⟩ = some (.int .i64 0) := (cellsB (i := 8) R1.out).trans rfl
  have zz9 : w1.cell? ⟨(w.heap.size + 1 + 1), 9, none⟩ = some (.int .i64 0) := (cellsB (i := 9) R1.out).trans rfl
  have zz10 : w1.cell? ⟨(w.heap.size + 1 + 1), 10, none⟩ = some (.int .i64 0) := (cellsB (i := 10) R1.out).trans rfl
  have yy0 : w1.frozen? ⟨(w.heap.size + 1 + 1), 0, none⟩ = false := frozB R1.out
  have yy1 : w1.frozen? ⟨(w.heap.size + 1 + 1), 1, none⟩ = false := frozB R1.out
  have yy2 : w1.frozen? ⟨(w.heap.size + 1 + 1), 2, none⟩ = false := frozB R1.out
  have yy3 : w1.frozen? ⟨(w.heap.size + 1 + 1), 3, none⟩ = false := frozB R1.out
  have yy4 : w1.frozen? ⟨(w.heap.size + 1 + 1), 4, none⟩ = false := frozB R1.out
  have yy5 : w1.frozen? ⟨(w.heap.size + 1 + 1), 5, none⟩ = false := frozB R1.out
  have yy6 : w1.frozen? ⟨(w.heap.size + 1 + 1), 6, none⟩ = false := frozB R1.out
  have yy7 : w1.frozen? ⟨(w.heap.size + 1 + 1), 7, none⟩ = false := frozB R1.out
  have yy8 : w1.frozen? ⟨(w.heap.size + 1 + 1), 8, none⟩ = false := frozB R1.out
  have yy9 : w1.frozen? ⟨(w.heap.size + 1 + 1), 9, none⟩ = false := frozB R1.out
  have yy10 : w1.frozen? ⟨(w.heap.size + 1 + 1), 10, none⟩ = false := frozB R1.out
  have tt0 : w1.frozen? ⟨w.heap.size, 0, none⟩ = false := frozB S1.out
  have tt1 : w1.frozen? ⟨w.heap.size, 1, none⟩ = false := frozB S1.out
  have tt2 : w1.frozen? ⟨w.heap.size, 2, none⟩ = false := frozB S1.out
  have tt3 : w1.frozen? ⟨w.heap.size, 3, none⟩ = false := frozB S1.out
  have tt4 : w1.frozen? ⟨w.heap.size, 4, none⟩ = false := frozB S1.out
  have tt5 : w1.frozen? ⟨w.heap.size, 5, none⟩ = false := frozB S1.out
  have tt6 : w1.frozen? ⟨w.heap.size, 6, none⟩ = false := frozB S1.out
  have tt7 : w1.frozen? ⟨w.heap.size, 7, none⟩ = false := frozB S1.out
  have tt8 : w1.frozen? ⟨w.heap.size, 8, none⟩ = false := frozB S1.out
  have tt9 : w1.frozen? ⟨w.heap.size, 9, none⟩ = false := frozB S1.out
  have tt10 : w1.frozen? ⟨w.heap.size, 10, none⟩ = false := frozB S1.out
  have hl1 : w.heap.size + 1 + 1 < w1.heap.size := lt_size R1.out
  have hl0 : w.heap.size < w1.heap.size := lt_size S1.out
  have hn1 : ¬ w.heap.size + 1 + 1 = w1.heap.size := by omega
  have hn0 : ¬ w.heap.size = w1.heap.size := by omega
  go_wp2
  refine bodyPost_ret (v := .tuple #[.agg #[.int .i64 b, .int .i64 c, .int .i64 d, .int .i64 m0, .int .i64 m1, .int .i64 m2, .int .i64 p, .int .i64 ph, .int .i64 st, .int .i64 re, .int .i64 si], .bool false]) (by simp [results, Try.results26, go_sem, z0, z1, z2, z3, z4, z5, z6, z7, z8, z9, z10, acell, hl1, hn1, zz0, zz1, zz2, zz3, zz4, zz5, zz6, zz7, zz8, zz9, zz10]) rfl ?_
  refine ⟨?_, ?_⟩
  · rw [ansS, if_neg (fun g => g.elim (fun g => by rw [E2.out] at g; cases g) (fun g => g E3.out.symm)), if_neg (fun g => hp g.2.1), if_neg (fun g => hp g.2), if_pos (by omega)]; try rfl
  · repeat (first | (with_reducible refine belowS ?_ ?hR; case hR => omega) | (with_reducible refine Below.alloc ?_ ?hA _; case hA => simp [World.setCell]; omega))
    with_reducible exact B1.out
end Go.Proofs.Ytplgodfhhlnojaa
