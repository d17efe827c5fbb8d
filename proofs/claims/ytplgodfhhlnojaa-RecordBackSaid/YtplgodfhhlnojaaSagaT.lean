/- Contracts of sagas by their values; the few examples that each statement of layer 15 asks first (printed by gensagat.py). -/
import Derived.Test.YtplgodfhhlnojaaS6
import Derived.Test.YtplgodfhhlnojaaS3
import Derived.Outline
set_option linter.unusedSimpArgs false
set_option linter.unusedVariables false
namespace Go.Proofs.Ytplgodfhhlnojaa
open Go.RowKit
theorem new_is {x : W7} {now k : Int} {s : S11} (e : newS x now = (s, k)) (w : World) : Calls Try.prog 32 #[x.val, .int .i64 now] w fun e w' => e = .returned (.tuple #[s.val, .int .i64 k]) ∧ Below w.heap.size w w' := by
  have h := new1_c x now w
  rw [e] at h
  exact h
theorem next_is {s : S11} {a : A6} {b : Bool} (e : nextS s = (a, b)) (w : World) : Calls Try.prog 18 #[s.val] w fun e w' => e = .returned (.tuple #[a.val, .bool b]) ∧ Below w.heap.size w w' := by
  have h := next1 s w
  rw [e] at h
  exact h
theorem ans_is {s t : S11} {a : A6} {n : Int} {b : Bool} (e : ansS s a n = (t, b)) (w : World) : Calls Try.prog 26 #[s.val, a.val, .int .i64 n] w fun e w' => e = .returned (.tuple #[t.val, .bool b]) ∧ Below w.heap.size w w' := by
  have h := ans1 s a n w
  rw [e] at h
  exact h
theorem can_is {s t : S11} {b : Bool} (e : canS s = (t, b)) (w : World) : Calls Try.prog 28 #[s.val] w fun e w' => e = .returned (.tuple #[t.val, .bool b]) ∧ Below w.heap.size w w' := by
  have h := can1 s w
  rw [e] at h
  exact h
theorem late_is {s t : S11} {n : Int} {b : Bool} (e : lateS s n = (t, b)) (w : World) : Calls Try.prog 30 #[s.val, .int .i64 n] w fun e w' => e = .returned (.tuple #[t.val, .bool b]) ∧ Below w.heap.size w w' := by
  have h := late1 s n w
  rw [e] at h
  exact h
theorem tells_is {s : S11} {n : Int} (e : tellS s = n) (w : World) : Calls Try.prog 23 #[s.val] w fun e w' => e = .returned (.int .i64 n) ∧ Below w.heap.size w w' := by
  have h := tells1 s w
  rw [e] at h
  exact h
theorem over_is {s : S11} {b : Bool} (e : decide (MayS s ∧ (s.ph = 4 ∨ s.ph = 5)) = b) (w : World) : Calls Try.prog 25 #[s.val] w fun e w' => e = .returned (.bool b) ∧ Below w.heap.size w w' := by
  have h := over1 s w
  rw [e] at h
  exact h
set_option maxRecDepth 100000 in
set_option maxHeartbeats 4000000 in
theorem told15 (w : World) : Calls Try.prog 34 #[] w fun e w' => e = .returned (.bool true) ∧ Below w.heap.size w w' := by
  have H1 := Lib.hid (fun W => new_is (show newS ⟨1, 0, 5, 1, 0, 0, 0⟩ 7 = (⟨⟨1, 0, 5, 1, 0, 0, 0⟩, 1, 0, 0, 7⟩, 0) by decide +kernel) W)
  have H2 := Lib.hid (fun W => next_is (show nextS ⟨⟨1, 0, 5, 1, 0, 0, 0⟩, 1, 0, 0, 7⟩ = (⟨0, 1, 1, 1, 0, 0⟩, true) by decide +kernel) W)
  have H3 := Lib.hid (fun W => ans_is (show ansS ⟨⟨1, 0, 5, 1, 0, 0, 0⟩, 1, 0, 0, 7⟩ ⟨0, 1, 1, 1, 0, 0⟩ 1 = (⟨⟨1, 0, 5, 1, 0, 0, 0⟩, 1, 1, 0, 7⟩, true) by decide +kernel) W)
  have H4 := Lib.hid (fun W => ans_is (show ansS ⟨⟨1, 0, 5, 1, 0, 0, 0⟩, 1, 1, 0, 7⟩ ⟨0, 1, 1, 1, 0, 0⟩ 1 = (⟨⟨1, 0, 5, 1, 0, 0, 0⟩, 1, 1, 0, 7⟩, false) by decide +kernel) W)
  have H5 := Lib.hid (fun W => late_is (show lateS ⟨⟨1, 0, 5, 1, 0, 0, 0⟩, 1, 1, 0, 7⟩ 12 = (⟨⟨1, 0, 5, 1, 0, 0, 0⟩, 3, 0, 3, 7⟩, true) by decide +kernel) W)
  have H6 := Lib.hid (fun W => can_is (show canS ⟨⟨1, 0, 5, 1, 0, 0, 0⟩, 3, 0, 3, 7⟩ = (⟨⟨1, 0, 5, 1, 0, 0, 0⟩, 3, 0, 3, 7⟩, false) by decide +kernel) W)
  have H7 := Lib.hid (fun W => new_is (show newS ⟨0, 0, 0, 0, 0, 0, 0⟩ 7 = (z11, 1) by decide +kernel) W)
  have H8 := Lib.hid (fun W => tells_is (show tellS ⟨⟨1, 0, 5, 1, 0, 0, 0⟩, 3, 0, 3, 7⟩ = 2 by decide +kernel) W)
  have H9 := Lib.hid (fun W => over_is (show decide (MayS ⟨⟨1, 0, 5, 1, 0, 0, 0⟩, 3, 0, 3, 7⟩ ∧ (S11.ph ⟨⟨1, 0, 5, 1, 0, 0, 0⟩, 3, 0, 3, 7⟩ = 4 ∨ S11.ph ⟨⟨1, 0, 5, 1, 0, 0, 0⟩, 3, 0, 3, 7⟩ = 5)) = false by decide +kernel) W)
  have H10 := Lib.hid (fun W => smay_is ⟨⟨1, 0, 5, 1, 0, 0, 0⟩, 1, 0, 0, 7⟩ true (by decide +kernel) W)
  have e1 := sameS ⟨⟨1, 0, 5, 1, 0, 0, 0⟩, 1, 1, 0, 7⟩ ⟨⟨1, 0, 5, 1, 0, 0, 0⟩, 1, 1, 0, 7⟩ true (by simp)
  have e2 := sameS ⟨⟨1, 0, 5, 1, 0, 0, 0⟩, 3, 0, 3, 7⟩ ⟨⟨1, 0, 5, 1, 0, 0, 0⟩, 3, 0, 3, 7⟩ true (by simp)
  simp only [W7.val, S11.val, A6.val, z11] at H1 H2 H3 H4 H5 H6 H7 H8 H9 H10 e1 e2
  have B0 := Lib.hid (Below.refl w.heap.size w)
  go_enter Try.func34, Try.ntmps34
  have L1_0 : (w.alloc (.cells #[.int .i64 1, .int .i64 0, .int .i64 5, .int .i64 1, .int .i64 0, .int .i64 0, .int .i64 0] 24)).cell? ⟨w.heap.size, 0, none⟩ = some (.int .i64 1) := (cellsB (i := 0) (heap_alloc_new w (.cells #[.int .i64 1, .int .i64 0, .int .i64 5, .int .i64 1, .int .i64 0, .int .i64 0, .int .i64 0] 24))).trans rfl
  have L1_1 : (w.alloc (.cells #[.int .i64 1, .int .i64 0, .int .i64 5, .int .i64 1, .int .i64 0, .int .i64 0, .int .i64 0] 24)).cell? ⟨w.heap.size, 1, none⟩ = some (.int .i64 0) := (cellsB (i := 1) (heap_alloc_new w (.cells #[.int .i64 1, .int .i64 0, .int .i64 5, .int .i64 1, .int .i64 0, .int .i64 0, .int .i64 0] 24))).trans rfl
  have L1_2 : (w.alloc (.cells #[.int .i64 1, .int .i64 0, .int .i64 5, .int .i64 1, .int .i64 0, .int .i64 0, .int .i64 0] 24)).cell? ⟨w.heap.size, 2, none⟩ = some (.int .i64 5) := (cellsB (i := 2) (heap_alloc_new w (.cells #[.int .i64 1, .int .i64 0, .int .i64 5, .int .i64 1, .int .i64 0, .int .i64 0, .int .i64 0] 24))).trans rfl
  have L1_3 : (w.alloc (.cells #[.int .i64 1, .int .i64 0, .int .i64 5, .int .i64 1, .int .i64 0, .int .i64 0, .int .i64 0] 24)).cell? ⟨w.heap.size, 3, none⟩ = some (.int .i64 1) := (cellsB (i := 3) (heap_alloc_new w (.cells #[.int .i64 1, .int .i64 0, .int .i64 5, .int .i64 1, .int .i64 0, .int .i64 0, .int .i64 0] 24))).trans rfl
  have L1_4 : (w.alloc (.cells #[.int .i64 1, .int .i64 0, .int .i64 5, .int .i64 1, .int .i64 0, .int .i64 0, .int .i64 0] 24)).cell? ⟨w.heap.size, 4, none⟩ = some (.int .i64 0) := (cellsB (i := 4) (heap_alloc_new w (.cells #[.int .i64 1, .int .i64 0, .int .i64 5, .int .i64 1, .int .i64 0, .int .i64 0, .int .i64 0] 24))).trans rfl
  have L1_5 : (w.alloc (.cells #[.int .i64 1, .int .i64 0, .int .i64 5, .int .i64 1, .int .i64 0, .int .i64 0, .int .i64 0] 24)).cell? ⟨w.heap.size, 5, none⟩ = some (.int .i64 0) := (cellsB (i := 5) (heap_alloc_new w (.cells #[.int .i64 1, .int .i64 0, .int .i64 5, .int .i64 1, .int .i64 0, .int .i64 0, .int .i64 0] 24))).trans rfl
  have L1_6 : (w.alloc (.cells #[.int .i64 1, .int .i64 0, .int .i64 5, .int .i64 1, .int .i64 0, .int .i64 0, .int .i64 0] 24)).cell? ⟨w.heap.size, 6, none⟩ = some (.int .i64 0) := (cellsB (i := 6) (heap_alloc_new w (.cells #[.int .i64 1, .int .i64 0, .int .i64 5, .int .i64 1, .int .i64 0, .int .i64 0, .int .i64 0] 24))).trans rfl
  go_wp2_with fail
  refine (H1.out _).mono ?_
  rintro e w1 ⟨rfl, q⟩
  have w_1 := Lib.hid (new1 q)
  have B1 := Lib.hid (bel1 B0.out B0.out.size q)
  clear q B0
  clear L1_0 L1_1 L1_2 L1_3 L1_4 L1_5 L1_6
  have L2_0 : (w1.alloc (.cells #[.int .i64 1, .int .i64 0, .int .i64 5, .int .i64 1, .int .i64 0, .int .i64 0, .int .i64 0, .int .i64 1, .int .i64 0, .int .i64 0, .int .i64 7] 26)).cell? ⟨w1.heap.size, 0, none⟩ = some (.int .i64 1) := (cellsB (i := 0) (heap_alloc_new w1 (.cells #[.int .i64 1, .int .i64 0, .int .i64 5, .int .i64 1, .int .i64 0, .int .i64 0, .int .i64 0, .int .i64 1, .int .i64 0, .int .i64 0, .int .i64 7] 26))).trans rfl
  have L2_1 : (w1.alloc (.cells #[.int .i64 1, .int .i64 0, .int .i64 5, .int .i64 1, .int .i64 0, .int .i64 0, .int .i64 0, .int .i64 1, .int .i64 0, .int .i64 0, .int .i64 7] 26)).cell? ⟨w1.heap.size, 1, none⟩ = some (.int .i64 0) := (cellsB (i := 1) (heap_alloc_new w1 (.cells #[.int .i64 1, .int .i64 0, .int .i64 5, .int .i64 1, .int .i64 0, .int .i64 0, .int .i64 0, .int .i64 1, .int .i64 0, .int .i64 0, .int .i64 7] 26))).trans rfl
  have L2_2 : (w1.alloc (.cells #[.int .i64 1, .int .i64 0, .int .i64 5, .int .i64 1, .int .i64 0, .int .i64 0, .int .i64 0, .int .i64 1, .int .i64 0, .int .i64 0, .int .i64 7] 26)).cell? ⟨w1.heap.size, 2, none⟩ = some (.int .i64 5) := (cellsB (i := 2) (heap_alloc_new w1 (.cells #[.int .i64 1, .int .i64 0, .int .i64 5, .int .i64 1, .int .i64 0, .int .i64 0, .int .i64 0, .int .i64 1, .int .i64 0, .int .i64 0, .int .i64 7] 26))).trans rfl
  have L2_3 : (w1.alloc (.cells #[.int .i64 1, .int .i64 0, .int .i64 5, .int .i64 1, .int .i64 0, .int .i64 0, .int .i64 0, .int .i64 1, .int .i64 0, .int .i64 0, .int .i64 7] 26)).cell? ⟨w1.heap.size, 3, none⟩ = some (.int .i64 1) := (cellsB (i := 3) (heap_alloc_new w1 (.cells #[.int .i64 1, .int .i64 0, .int .i64 5, .int .i64 1, .int .i64 0, .int .i64 0, .int .i64 0, .int .i64 1, .int .i64 0, .int .i64 0, .int .i64 7] 26))).trans rfl
  have L2_4 : (w1.alloc (.cells #[.int .i64 1, .int .i64 0, .int .i64 5, .int .i64 1, .int .i64 0, .int .i64 0, .int .i64 0, .int .i64 1, .int .i64 0, .int .i64 0, .int .i64 7] 26)).cell? ⟨w1.heap.size, 4, none⟩ = some (.int .i64 0) := (cellsB (i := 4) (heap_alloc_new w1 (.cells #[.int .i64 1, .int .i64 0, .int .i64 5, .int .i64 1, .int .i64 0, .int .i64 0, .int .i64 0, .int .i64 1, .int .i64 0, .int .i64 0, .int .i64 7] 26))).trans rfl
  have L2_5 : (w1.alloc (.cells #[.int .i64 1, .int .i64 0, .int .i64 5, .int .i64 1, .int .i64 0, .int .i64 0, .int .i64 0, .int .i64 1, .int .i64 0, .int .i64 0, .int .i64 7] 26)).cell? ⟨w1.heap.size, 5, none⟩ = some (.int .i64 0) := (cellsB (i := 5) (heap_alloc_new w1 (.cells #[.int .i64 1, .int .i64 0, .int .i64 5, .int .i64 1, .int .i64 0, .int .i64 0, .int .i64 0, .int .i64 1, .int .i64 0, .int .i64 0, .int .i64 7] 26))).trans rfl
  have L2_6 : (w1.alloc (.cells #[.int .i64 1, .int .i64 0, .int .i64 5, .int .i64 1, .int .i64 0, .int .i64 0, .int .i64 0, .int .i64 1, .int .i64 0, .int .i64 0, .int .i64 7] 26)).cell? ⟨w1.heap.size, 6, none⟩ = some (.int .i64 0) := (cellsB (i := 6) (heap_alloc_new w1 (.cells #[.int .i64 1, .int .i64 0, .int .i64 5, .int .i64 1, .int .i64 0, .int .i64 0, .int .i64 0, .int .i64 1, .int .i64 0, .int .i64 0, .int .i64 7] 26))).trans rfl
  have L2_7 : (w1.alloc (.cells #[.int .i64 1, .int .i64 0, .int .i64 5, .int .i64 1, .int .i64 0, .int .i64 0, .int .i64 0, .int .i64 1, .int .i64 0, .int .i64 0, .int .i64 7] 26)).cell? ⟨w1.heap.size, 7, none⟩ = some (.int .i64 1) := (cellsB (i := 7) (heap_alloc_new w1 (.cells #[.int .i64 1, .int .i64 0, .int .i64 5, .int .i64 1, .int .i64 0, .int .i64 0, .int .i64 0, .int .i64 1, .int .i64 0, .int .i64 0, .int .i64 7] 26))).trans rfl
  have L2_8 : (w1.alloc (.cells #[.int .i64 1, .int .i64 0, .int .i64 5, .int .i64 1, .int .i64 0, .int .i64 0, .int .i64 0, .int .i64 1, .int .i64 0, .int .i64 0, .int .i64 7] 26)).cell? ⟨w1.heap.size, 8, none⟩ = some (.int .i64 0) := (cellsB (i := 8) (heap_alloc_new w1 (.cells #[.int .i64 1, .int .i64 0, .int .i64 5, .int .i64 1, .int .i64 0, .int .i64 0, .int .i64 0, .int .i64 1, .int .i64 0, .int .i64 0, .int .i64 7] 26))).trans rfl
  have L2_9 : (w1.alloc (.cells #[.int .i64 1, .int .i64 0, .int .i64 5, .int .i64 1, .int .i64 0, .int .i64 0, .int .i64 0, .int .i64 1, .int .i64 0, .int .i64 0, .int .i64 7] 26)).cell? ⟨w1.heap.size, 9, none⟩ = some (.int .i64 0) := (cellsB (i := 9) (heap_alloc_new w1 (.cells #[.int .i64 1, .int .i64 0, .int .i64 5, .int .i64 1, .int .i64 0, .int .i64 0, .int .i64 0, .int .i64 1, .int .i64 0, .int .i64 0, .int .i64 7] 26))).trans rfl
  have L2_10 : (w1.alloc (.cells #[.int .i64 1, .int .i64 0, .int .i64 5, .int .i64 1, .int .i64 0, .int .i64 0, .int .i64 0, .int .i64 1, .int .i64 0, .int .i64 0, .int .i64 7] 26)).cell? ⟨w1.heap.size, 10, none⟩ = some (.int .i64 7) := (cellsB (i := 10) (heap_alloc_new w1 (.cells #[.int .i64 1, .int .i64 0, .int .i64 5, .int .i64 1, .int .i64 0, .int .i64 0, .int .i64 0, .int .i64 1, .int .i64 0, .int .i64 0, .int .i64 7] 26))).trans rfl
  go_wp2_with fail
  refine (H2.out _).mono ?_
  rintro e w2 ⟨rfl, q⟩
  have w_2 := Lib.hid (blk1 w_1.out q)
  have s_2 := Lib.hid (new1 q)
  have B2 := Lib.hid (bel1 B1.out B1.out.size q)
  clear q w_1 B1
  clear L2_0 L2_1 L2_2 L2_3 L2_4 L2_5 L2_6 L2_7 L2_8 L2_9 L2_10
  have L3_0 : (w2.alloc (.cells #[.int .i64 0, .int .i64 1, .int .i64 1, .int .i64 1, .int .i64 0, .int .i64 0] 30)).cell? ⟨w1.heap.size, 0, none⟩ = some (.int .i64 1) := (cellsB (i := 0) (alc (o := (.cells #[.int .i64 0, .int .i64 1, .int .i64 1, .int .i64 1, .int .i64 0, .int .i64 0] 30)) s_2.out)).trans rfl
  have L3_1 : (w2.alloc (.cells #[.int .i64 0, .int .i64 1, .int .i64 1, .int .i64 1, .int .i64 0, .int .i64 0] 30)).cell? ⟨w1.heap.size, 1, none⟩ = some (.int .i64 0) := (cellsB (i := 1) (alc (o := (.cells #[.int .i64 0, .int .i64 1, .int .i64 1, .int .i64 1, .int .i64 0, .int .i64 0] 30)) s_2.out)).trans rfl
  have L3_2 : (w2.alloc (.cells #[.int .i64 0, .int .i64 1, .int .i64 1, .int .i64 1, .int .i64 0, .int .i64 0] 30)).cell? ⟨w1.heap.size, 2, none⟩ = some (.int .i64 5) := (cellsB (i := 2) (alc (o := (.cells #[.int .i64 0, .int .i64 1, .int .i64 1, .int .i64 1, .int .i64 0, .int .i64 0] 30)) s_2.out)).trans rfl
  have L3_3 : (w2.alloc (.cells #[.int .i64 0, .int .i64 1, .int .i64 1, .int .i64 1, .int .i64 0, .int .i64 0] 30)).cell? ⟨w1.heap.size, 3, none⟩ = some (.int .i64 1) := (cellsB (i := 3) (alc (o := (.cells #[.int .i64 0, .int .i64 1, .int .i64 1, .int .i64 1, .int .i64 0, .int .i64 0] 30)) s_2.out)).trans rfl
  have L3_4 : (w2.alloc (.cells #[.int .i64 0, .int .i64 1, .int .i64 1, .int .i64 1, .int .i64 0, .int .i64 0] 30)).cell? ⟨w1.heap.size, 4, none⟩ = some (.int .i64 0) := (cellsB (i := 4) (alc (o := (.cells #[.int .i64 0, .int .i64 1, .int .i64 1, .int .i64 1, .int .i64 0, .int .i64 0] 30)) s_2.out)).trans rfl
  have L3_5 : (w2.alloc (.cells #[.int .i64 0, .int .i64 1, .int .i64 1, .int .i64 1, .int .i64 0, .int .i64 0] 30)).cell? ⟨w1.heap.size, 5, none⟩ = some (.int .i64 0) := (cellsB (i := 5) (alc (o := (.cells #[.int .i64 0, .int .i64 1, .int .i64 1, .int .i64 1, .int .i64 0, .int .i64 0] 30)) s_2.out)).trans rfl
  have L3_6 : (w2.alloc (.cells #[.int .i64 0, .int .i64 1, .int .i64 1, .int .i64 1, .int .i64 0, .int .i64 0] 30)).cell? ⟨w1.heap.size, 6, none⟩ = some (.int .i64 0) := (cellsB (i := 6) (alc (o := (.cells #[.int .i64 0, .int .i64 1, .int .i64 1, .int .i64 1, .int .i64 0, .int .i64 0] 30)) s_2.out)).trans rfl
  have L3_7 : (w2.alloc (.cells #[.int .i64 0, .int .i64 1, .int .i64 1, .int .i64 1, .int .i64 0, .int .i64 0] 30)).cell? ⟨w1.heap.size, 7, none⟩ = some (.int .i64 1) := (cellsB (i := 7) (alc (o := (.cells #[.int .i64 0, .int .i64 1, .int .i64 1, .int .i64 1, .int .i64 0, .int .i64 0] 30)) s_2.out)).trans rfl
  have L3_8 : (w2.alloc (.cells #[.int .i64 0, .int .i64 1, .int .i64 1, .int .i64 1, .int .i64 0, .int .i64 0] 30)).cell? ⟨w1.heap.size, 8, none⟩ = some (.int .i64 0) := (cellsB (i := 8) (alc (o := (.cells #[.int .i64 0, .int .i64 1, .int .i64 1, .int .i64 1, .int .i64 0, .int .i64 0] 30)) s_2.out)).trans rfl
  have L3_9 : (w2.alloc (.cells #[.int .i64 0, .int .i64 1, .int .i64 1, .int .i64 1, .int .i64 0, .int .i64 0] 30)).cell? ⟨w1.heap.size, 9, none⟩ = some (.int .i64 0) := (cellsB (i := 9) (alc (o := (.cells #[.int .i64 0, .int .i64 1, .int .i64 1, .int .i64 1, .int .i64 0, .int .i64 0] 30)) s_2.out)).trans rfl
  have L3_10 : (w2.alloc (.cells #[.int .i64 0, .int .i64 1, .int .i64 1, .int .i64 1, .int .i64 0, .int .i64 0] 30)).cell? ⟨w1.heap.size, 10, none⟩ = some (.int .i64 7) := (cellsB (i := 10) (alc (o := (.cells #[.int .i64 0, .int .i64 1, .int .i64 1, .int .i64 1, .int .i64 0, .int .i64 0] 30)) s_2.out)).trans rfl
  have L4_0 : (w2.alloc (.cells #[.int .i64 0, .int .i64 1, .int .i64 1, .int .i64 1, .int .i64 0, .int .i64 0] 30)).cell? ⟨w2.heap.size, 0, none⟩ = some (.int .i64 0) := (cellsB (i := 0) (heap_alloc_new w2 (.cells #[.int .i64 0, .int .i64 1, .int .i64 1, .int .i64 1, .int .i64 0, .int .i64 0] 30))).trans rfl
  have L4_1 : (w2.alloc (.cells #[.int .i64 0, .int .i64 1, .int .i64 1, .int .i64 1, .int .i64 0, .int .i64 0] 30)).cell? ⟨w2.heap.size, 1, none⟩ = some (.int .i64 1) := (cellsB (i := 1) (heap_alloc_new w2 (.cells #[.int .i64 0, .int .i64 1, .int .i64 1, .int .i64 1, .int .i64 0, .int .i64 0] 30))).trans rfl
  have L4_2 : (w2.alloc (.cells #[.int .i64 0, .int .i64 1, .int .i64 1, .int .i64 1, .int .i64 0, .int .i64 0] 30)).cell? ⟨w2.heap.size, 2, none⟩ = some (.int .i64 1) := (cellsB (i := 2) (heap_alloc_new w2 (.cells #[.int .i64 0, .int .i64 1, .int .i64 1, .int .i64 1, .int .i64 0, .int .i64 0] 30))).trans rfl
  have L4_3 : (w2.alloc (.cells #[.int .i64 0, .int .i64 1, .int .i64 1, .int .i64 1, .int .i64 0, .int .i64 0] 30)).cell? ⟨w2.heap.size, 3, none⟩ = some (.int .i64 1) := (cellsB (i := 3) (heap_alloc_new w2 (.cells #[.int .i64 0, .int .i64 1, .int .i64 1, .int .i64 1, .int .i64 0, .int .i64 0] 30))).trans rfl
  have L4_4 : (w2.alloc (.cells #[.int .i64 0, .int .i64 1, .int .i64 1, .int .i64 1, .int .i64 0, .int .i64 0] 30)).cell? ⟨w2.heap.size, 4, none⟩ = some (.int .i64 0) := (cellsB (i := 4) (heap_alloc_new w2 (.cells #[.int .i64 0, .int .i64 1, .int .i64 1, .int .i64 1, .int .i64 0, .int .i64 0] 30))).trans rfl
  have L4_5 : (w2.alloc (.cells #[.int .i64 0, .int .i64 1, .int .i64 1, .int .i64 1, .int .i64 0, .int .i64 0] 30)).cell? ⟨w2.heap.size, 5, none⟩ = some (.int .i64 0) := (cellsB (i := 5) (heap_alloc_new w2 (.cells #[.int .i64 0, .int .i64 1, .int .i64 1, .int .i64 1, .int .i64 0, .int .i64 0] 30))).trans rfl
  go_wp2_with fail
  refine (H3.out _).mono ?_
  rintro e w3 ⟨rfl, q⟩
  have w_3 := Lib.hid (blk1 w_2.out q)
  have s_3 := Lib.hid (blk1 s_2.out q)
  have a_3 := Lib.hid (new1 q)
  have B3 := Lib.hid (bel1 B2.out B2.out.size q)
  clear q w_2 s_2 B2
  clear L3_0 L3_1 L3_2 L3_3 L3_4 L3_5 L3_6 L3_7 L3_8 L3_9 L3_10 L4_0 L4_1 L4_2 L4_3 L4_4 L4_5
  have L5_0 : (w3.alloc (.cells #[.int .i64 1, .int .i64 0, .int .i64 5, .int .i64 1, .int .i64 0, .int .i64 0, .int .i64 0, .int .i64 1, .int .i64 1, .int .i64 0, .int .i64 7] 26)).cell? ⟨w3.heap.size, 0, none⟩ = some (.int .i64 1) := (cellsB (i := 0) (heap_alloc_new w3 (.cells #[.int .i64 1, .int .i64 0, .int .i64 5, .int .i64 1, .int .i64 0, .int .i64 0, .int .i64 0, .int .i64 1, .int .i64 1, .int .i64 0, .int .i64 7] 26))).trans rfl
  have L5_1 : (w3.alloc (.cells #[.int .i64 1, .int .i64 0, .int .i64 5, .int .i64 1, .int .i64 0, .int .i64 0, .int .i64 0, .int .i64 1, .int .i64 1, .int .i64 0, .int .i64 7] 26)).cell? ⟨w3.heap.size, 1, none⟩ = some (.int .i64 0) := (cellsB (i := 1) (heap_alloc_new w3 (.cells #[.int .i64 1, .int .i64 0, .int .i64 5, .int .i64 1, .int .i64 0, .int .i64 0, .int .i64 0, .int .i64 1, .int .i64 1, .int .i64 0, .int .i64 7] 26))).trans rfl
  have L5_2 : (w3.alloc (.cells #[.int .i64 1, .int .i64 0, .int .i64 5, .int .i64 1, .int .i64 0, .int .i64 0, .int .i64 0, .int .i64 1, .int .i64 1, .int .i64 0, .int .i64 7] 26)).cell? ⟨w3.heap.size, 2, none⟩ = some (.int .i64 5) := (cellsB (i := 2) (heap_alloc_new w3 (.cells #[.int .i64 1, .int .i64 0, .int .i64 5, .int .i64 1, .int .i64 0, .int .i64 0, .int .i64 0, .int .i64 1, .int .i64 1, .int .i64 0, .int .i64 7] 26))).trans rfl
  have L5_3 : (w3.alloc (.cells #[.int .i64 1, .int .i64 0, .int .i64 5, .int .i64 1, .int .i64 0, .int .i64 0, .int .i64 0, .int .i64 1, .int .i64 1, .int .i64 0, .int .i64 7] 26)).cell? ⟨w3.heap.size, 3, none⟩ = some (.int .i64 1) := (cellsB (i := 3) (heap_alloc_new w3 (.cells #[.int .i64 1, .int .i64 0, .int .i64 5, .int .i64 1, .int .i64 0, .int .i64 0, .int .i64 0, .int .i64 1, .int .i64 1, .int .i64 0, .int .i64 7] 26))).trans rfl
  have L5_4 : (w3.alloc (.cells #[.int .i64 1, .int .i64 0, .int .i64 5, .int .i64 1, .int .i64 0, .int .i64 0, .int .i64 0, .int .i64 1, .int .i64 1, .int .i64 0, .int .i64 7] 26)).cell? ⟨w3.heap.size, 4, none⟩ = some (.int .i64 0) := (cellsB (i := 4) (heap_alloc_new w3 (.cells #[.int .i64 1, .int .i64 0, .int .i64 5, .int .i64 1, .int .i64 0, .int .i64 0, .int .i64 0, .int .i64 1, .int .i64 1, .int .i64 0, .int .i64 7] 26))).trans rfl
  have L5_5 : (w3.alloc (.cells #[.int .i64 1, .int .i64 0, .int .i64 5, .int .i64 1, .int .i64 0, .int .i64 0, .int .i64 0, .int .i64 1, .int .i64 1, .int .i64 0, .int .i64 7] 26)).cell? ⟨w3.heap.size, 5, none⟩ = some (.int .i64 0) := (cellsB (i := 5) (heap_alloc_new w3 (.cells #[.int .i64 1, .int .i64 0, .int .i64 5, .int .i64 1, .int .i64 0, .int .i64 0, .int .i64 0, .int .i64 1, .int .i64 1, .int .i64 0, .int .i64 7] 26))).trans rfl
  have L5_6 : (w3.alloc (.cells #[.int .i64 1, .int .i64 0, .int .i64 5, .int .i64 1, .int .i64 0, .int .i64 0, .int .i64 0, .int .i64 1, .int .i64 1, .int .i64 0, .int .i64 7] 26)).cell? ⟨w3.heap.size, 6, none⟩ = some (.int .i64 0) := (cellsB (i := 6) (heap_alloc_new w3 (.cells #[.int .i64 1, .int .i64 0, .int .i64 5, .int .i64 1, .int .i64 0, .int .i64 0, .int .i64 0, .int .i64 1, .int .i64 1, .int .i64 0, .int .i64 7] 26))).trans rfl
  have L5_7 : (w3.alloc (.cells #[.int .i64 1, .int .i64 0, .int .i64 5, .int .i64 1, .int .i64 0, .int .i64 0, .int .i64 0, .int .i64 1, .int .i64 1, .int .i64 0, .int .i64 7] 26)).cell? ⟨w3.heap.size, 7, none⟩ = some (.int .i64 1) := (cellsB (i := 7) (heap_alloc_new w3 (.cells #[.int .i64 1, .int .i64 0, .int .i64 5, .int .i64 1, .int .i64 0, .int .i64 0, .int .i64 0, .int .i64 1, .int .i64 1, .int .i64 0, .int .i64 7] 26))).trans rfl
  have L5_8 : (w3.alloc (.cells #[.int .i64 1, .int .i64 0, .int .i64 5, .int .i64 1, .int .i64 0, .int .i64 0, .int .i64 0, .int .i64 1, .int .i64 1, .int .i64 0, .int .i64 7] 26)).cell? ⟨w3.heap.size, 8, none⟩ = some (.int .i64 1) := (cellsB (i := 8) (heap_alloc_new w3 (.cells #[.int .i64 1, .int .i64 0, .int .i64 5, .int .i64 1, .int .i64 0, .int .i64 0, .int .i64 0, .int .i64 1, .int .i64 1, .int .i64 0, .int .i64 7] 26))).trans rfl
  have L5_9 : (w3.alloc (.cells #[.int .i64 1, .int .i64 0, .int .i64 5, .int .i64 1, .int .i64 0, .int .i64 0, .int .i64 0, .int .i64 1, .int .i64 1, .int .i64 0, .int .i64 7] 26)).cell? ⟨w3.heap.size, 9, none⟩ = some (.int .i64 0) := (cellsB (i := 9) (heap_alloc_new w3 (.cells #[.int .i64 1, .int .i64 0, .int .i64 5, .int .i64 1, .int .i64 0, .int .i64 0, .int .i64 0, .int .i64 1, .int .i64 1, .int .i64 0, .int .i64 7] 26))).trans rfl
  have L5_10 : (w3.alloc (.cells #[.int .i64 1, .int .i64 0, .int .i64 5, .int .i64 1, .int .i64 0, .int .i64 0, .int .i64 0, .int .i64 1, .int .i64 1, .int .i64 0, .int .i64 7] 26)).cell? ⟨w3.heap.size, 10, none⟩ = some (.int .i64 7) := (cellsB (i := 10) (heap_alloc_new w3 (.cells #[.int .i64 1, .int .i64 0, .int .i64 5, .int .i64 1, .int .i64 0, .int .i64 0, .int .i64 0, .int .i64 1, .int .i64 1, .int .i64 0, .int .i64 7] 26))).trans rfl
  have L6_0 : (w3.alloc (.cells #[.int .i64 1, .int .i64 0, .int .i64 5, .int .i64 1, .int .i64 0, .int .i64 0, .int .i64 0, .int .i64 1, .int .i64 1, .int .i64 0, .int .i64 7] 26)).cell? ⟨w2.heap.size, 0, none⟩ = some (.int .i64 0) := (cellsB (i := 0) (alc (o := (.cells #[.int .i64 1, .int .i64 0, .int .i64 5, .int .i64 1, .int .i64 0, .int .i64 0, .int .i64 0, .int .i64 1, .int .i64 1, .int .i64 0, .int .i64 7] 26)) a_3.out)).trans rfl
  have L6_1 : (w3.alloc (.cells #[.int .i64 1, .int .i64 0, .int .i64 5, .int .i64 1, .int .i64 0, .int .i64 0, .int .i64 0, .int .i64 1, .int .i64 1, .int .i64 0, .int .i64 7] 26)).cell? ⟨w2.heap.size, 1, none⟩ = some (.int .i64 1) := (cellsB (i := 1) (alc (o := (.cells #[.int .i64 1, .int .i64 0, .int .i64 5, .int .i64 1, .int .i64 0, .int .i64 0, .int .i64 0, .int .i64 1, .int .i64 1, .int .i64 0, .int .i64 7] 26)) a_3.out)).trans rfl
  have L6_2 : (w3.alloc (.cells #[.int .i64 1, .int .i64 0, .int .i64 5, .int .i64 1, .int .i64 0, .int .i64 0, .int .i64 0, .int .i64 1, .int .i64 1, .int .i64 0, .int .i64 7] 26)).cell? ⟨w2.heap.size, 2, none⟩ = some (.int .i64 1) := (cellsB (i := 2) (alc (o := (.cells #[.int .i64 1, .int .i64 0, .int .i64 5, .int .i64 1, .int .i64 0, .int .i64 0, .int .i64 0, .int .i64 1, .int .i64 1, .int .i64 0, .int .i64 7] 26)) a_3.out)).trans rfl
  have L6_3 : (w3.alloc (.cells #[.int .i64 1, .int .i64 0, .int .i64 5, .int .i64 1, .int .i64 0, .int .i64 0, .int .i64 0, .int .i64 1, .int .i64 1, .int .i64 0, .int .i64 7] 26)).cell? ⟨w2.heap.size, 3, none⟩ = some (.int .i64 1) := (cellsB (i := 3) (alc (o := (.cells #[.int .i64 1, .int .i64 0, .int .i64 5, .int .i64 1, .int .i64 0, .int .i64 0, .int .i64 0, .int .i64 1, .int .i64 1, .int .i64 0, .int .i64 7] 26)) a_3.out)).trans rfl
  have L6_4 : (w3.alloc (.cells #[.int .i64 1, .int .i64 0, .int .i64 5, .int .i64 1, .int .i64 0, .int .i64 0, .int .i64 0, .int .i64 1, .int .i64 1, .int .i64 0, .int .i64 7] 26)).cell? ⟨w2.heap.size, 4, none⟩ = some (.int .i64 0) := (cellsB (i := 4) (alc (o := (.cells #[.int .i64 1, .int .i64 0, .int .i64 5, .int .i64 1, .int .i64 0, .int .i64 0, .int .i64 0, .int .i64 1, .int .i64 1, .int .i64 0, .int .i64 7] 26)) a_3.out)).trans rfl
  have L6_5 : (w3.alloc (.cells #[.int .i64 1, .int .i64 0, .int .i64 5, .int .i64 1, .int .i64 0, .int .i64 0, .int .i64 0, .int .i64 1, .int .i64 1, .int .i64 0, .int .i64 7] 26)).cell? ⟨w2.heap.size, 5, none⟩ = some (.int .i64 0) := (cellsB (i := 5) (alc (o := (.cells #[.int .i64 1, .int .i64 0, .int .i64 5, .int .i64 1, .int .i64 0, .int .i64 0, .int .i64 0, .int .i64 1, .int .i64 1, .int .i64 0, .int .i64 7] 26)) a_3.out)).trans rfl
  go_wp2_with fail
  refine (H4.out _).mono ?_
  rintro e w4 ⟨rfl, q⟩
  have w_4 := Lib.hid (blk1 w_3.out q)
  have s_4 := Lib.hid (blk1 s_3.out q)
  have a_4 := Lib.hid (blk1 a_3.out q)
  have t_4 := Lib.hid (new1 q)
  have B4 := Lib.hid (bel1 B3.out B3.out.size q)
  clear q w_3 s_3 a_3 B3
  clear L5_0 L5_1 L5_2 L5_3 L5_4 L5_5 L5_6 L5_7 L5_8 L5_9 L5_10 L6_0 L6_1 L6_2 L6_3 L6_4 L6_5
  have L7_0 : (w4.alloc (.cells #[.int .i64 1, .int .i64 0, .int .i64 5, .int .i64 1, .int .i64 0, .int .i64 0, .int .i64 0, .int .i64 1, .int .i64 1, .int .i64 0, .int .i64 7] 26)).cell? ⟨w3.heap.size, 0, none⟩ = some (.int .i64 1) := (cellsB (i := 0) (alc (o := (.cells #[.int .i64 1, .int .i64 0, .int .i64 5, .int .i64 1, .int .i64 0, .int .i64 0, .int .i64 0, .int .i64 1, .int .i64 1, .int .i64 0, .int .i64 7] 26)) t_4.out)).trans rfl
  have L7_1 : (w4.alloc (.cells #[.int .i64 1, .int .i64 0, .int .i64 5, .int .i64 1, .int .i64 0, .int .i64 0, .int .i64 0, .int .i64 1, .int .i64 1, .int .i64 0, .int .i64 7] 26)).cell? ⟨w3.heap.size, 1, none⟩ = some (.int .i64 0) := (cellsB (i := 1) (alc (o := (.cells #[.int .i64 1, .int .i64 0, .int .i64 5, .int .i64 1, .int .i64 0, .int .i64 0, .int .i64 0, .int .i64 1, .int .i64 1, .int .i64 0, .int .i64 7] 26)) t_4.out)).trans rfl
  have L7_2 : (w4.alloc (.cells #[.int .i64 1, .int .i64 0, .int .i64 5, .int .i64 1, .int .i64 0, .int .i64 0, .int .i64 0, .int .i64 1, .int .i64 1, .int .i64 0, .int .i64 7] 26)).cell? ⟨w3.heap.size, 2, none⟩ = some (.int .i64 5) := (cellsB (i := 2) (alc (o := (.cells #[.int .i64 1, .int .i64 0, .int .i64 5, .int .i64 1, .int .i64 0, .int .i64 0, .int .i64 0, .int .i64 1, .int .i64 1, .int .i64 0, .int .i64 7] 26)) t_4.out)).trans rfl
  have L7_3 : (w4.alloc (.cells #[.int .i64 1, .int .i64 0, .int .i64 5, .int .i64 1, .int .i64 0, .int .i64 0, .int .i64 0, .int .i64 1, .int .i64 1, .int .i64 0, .int .i64 7] 26)).cell? ⟨w3.heap.size, 3, none⟩ = some (.int .i64 1) := (cellsB (i := 3) (alc (o := (.cells #[.int .i64 1, .int .i64 0, .int .i64 5, .int .i64 1, .int .i64 0, .int .i64 0, .int .i64 0, .int .i64 1, .int .i64 1, .int .i64 0, .int .i64 7] 26)) t_4.out)).trans rfl
  have L7_4 : (w4.alloc (.cells #[.int .i64 1, .int .i64 0, .int .i64 5, .int .i64 1, .int .i64 0, .int .i64 0, .int .i64 0, .int .i64 1, .int .i64 1, .int .i64 0, .int .i64 7] 26)).cell? ⟨w3.heap.size, 4, none⟩ = some (.int .i64 0) := (cellsB (i := 4) (alc (o := (.cells #[.int .i64 1, .int .i64 0, .int .i64 5, .int .i64 1, .int .i64 0, .int .i64 0, .int .i64 0, .int .i64 1, .int .i64 1, .int .i64 0, .int .i64 7] 26)) t_4.out)).trans rfl
  have L7_5 : (w4.alloc (.cells #[.int .i64 1, .int .i64 0, .int .i64 5, .int .i64 1, .int .i64 0, .int .i64 0, .int .i64 0, .int .i64 1, .int .i64 1, .int .i64 0, .int .i64 7] 26)).cell? ⟨w3.heap.size, 5, none⟩ = some (.int .i64 0) := (cellsB (i := 5) (alc (o := (.cells #[.int .i64 1, .int .i64 0, .int .i64 5, .int .i64 1, .int .i64 0, .int .i64 0, .int .i64 0, .int .i64 1, .int .i64 1, .int .i64 0, .int .i64 7] 26)) t_4.out)).trans rfl
  have L7_6 : (w4.alloc (.cells #[.int .i64 1, .int .i64 0, .int .i64 5, .int .i64 1, .int .i64 0, .int .i64 0, .int .i64 0, .int .i64 1, .int .i64 1, .int .i64 0, .int .i64 7] 26)).cell? ⟨w3.heap.size, 6, none⟩ = some (.int .i64 0) := (cellsB (i := 6) (alc (o := (.cells #[.int .i64 1, .int .i64 0, .int .i64 5, .int .i64 1, .int .i64 0, .int .i64 0, .int .i64 0, .int .i64 1, .int .i64 1, .int .i64 0, .int .i64 7] 26)) t_4.out)).trans rfl
  have L7_7 : (w4.alloc (.cells #[.int .i64 1, .int .i64 0, .int .i64 5, .int .i64 1, .int .i64 0, .int .i64 0, .int .i64 0, .int .i64 1, .int .i64 1, .int .i64 0, .int .i64 7] 26)).cell? ⟨w3.heap.size, 7, none⟩ = some (.int .i64 1) := (cellsB (i := 7) (alc (o := (.cells #[.int .i64 1, .int .i64 0, .int .i64 5, .int .i64 1, .int .i64 0, .int .i64 0, .int .i64 0, .int .i64 1, .int .i64 1, .int .i64 0, .int .i64 7] 26)) t_4.out)).trans rfl
  have L7_8 : (w4.alloc (.cells #[.int .i64 1, .int .i64 0, .int .i64 5, .int .i64 1, .int .i64 0, .int .i64 0, .int .i64 0, .int .i64 1, .int .i64 1, .int .i64 0, .int .i64 7] 26)).cell? ⟨w3.heap.size, 8, none⟩ = some (.int .i64 1) := (cellsB (i := 8) (alc (o := (.cells #[.int .i64 1, .int .i64 0, .int .i64 5, .int .i64 1, .int .i64 0, .int .i64 0, .int .i64 0, .int .i64 1, .int .i64 1, .int .i64 0, .int .i64 7] 26)) t_4.out)).trans rfl
  have L7_9 : (w4.alloc (.cells #[.int .i64 1, .int .i64 0, .int .i64 5, .int .i64 1, .int .i64 0, .int .i64 0, .int .i64 0, .int .i64 1, .int .i64 1, .int .i64 0, .int .i64 7] 26)).cell? ⟨w3.heap.size, 9, none⟩ = some (.int .i64 0) := (cellsB (i := 9) (alc (o := (.cells #[.int .i64 1, .int .i64 0, .int .i64 5, .int .i64 1, .int .i64 0, .int .i64 0, .int .i64 0, .int .i64 1, .int .i64 1, .int .i64 0, .int .i64 7] 26)) t_4.out)).trans rfl
  have L7_10 : (w4.alloc (.cells #[.int .i64 1, .int .i64 0, .int .i64 5, .int .i64 1, .int .i64 0, .int .i64 0, .int .i64 0, .int .i64 1, .int .i64 1, .int .i64 0, .int .i64 7] 26)).cell? ⟨w3.heap.size, 10, none⟩ = some (.int .i64 7) := (cellsB (i := 10) (alc (o := (.cells #[.int .i64 1, .int .i64 0, .int .i64 5, .int .i64 1, .int .i64 0, .int .i64 0, .int .i64 0, .int .i64 1, .int .i64 1, .int .i64 0, .int .i64 7] 26)) t_4.out)).trans rfl
  go_wp2_with fail
  refine (H5.out _).mono ?_
  rintro e w5 ⟨rfl, q⟩
  have w_5 := Lib.hid (blk1 w_4.out q)
  have s_5 := Lib.hid (blk1 s_4.out q)
  have a_5 := Lib.hid (blk1 a_4.out q)
  have t_5 := Lib.hid (blk1 t_4.out q)
  have u_5 := Lib.hid (new1 q)
  have B5 := Lib.hid (bel1 B4.out B4.out.size q)
  clear q w_4 s_4 a_4 t_4 B4
  clear L7_0 L7_1 L7_2 L7_3 L7_4 L7_5 L7_6 L7_7 L7_8 L7_9 L7_10
  have L8_0 : (w5.alloc (.cells #[.int .i64 1, .int .i64 0, .int .i64 5, .int .i64 1, .int .i64 0, .int .i64 0, .int .i64 0, .int .i64 3, .int .i64 0, .int .i64 3, .int .i64 7] 26)).cell? ⟨w5.heap.size, 0, none⟩ = some (.int .i64 1) := (cellsB (i := 0) (heap_alloc_new w5 (.cells #[.int .i64 1, .int .i64 0, .int .i64 5, .int .i64 1, .int .i64 0, .int .i64 0, .int .i64 0, .int .i64 3, .int .i64 0, .int .i64 3, .int .i64 7] 26))).trans rfl
  have L8_1 : (w5.alloc (.cells #[.int .i64 1, .int .i64 0, .int .i64 5, .int .i64 1, .int .i64 0, .int .i64 0, .int .i64 0, .int .i64 3, .int .i64 0, .int .i64 3, .int .i64 7] 26)).cell? ⟨w5.heap.size, 1, none⟩ = some (.int .i64 0) := (cellsB (i := 1) (heap_alloc_new w5 (.cells #[.int .i64 1, .int .i64 0, .int .i64 5, .int .i64 1, .int .i64 0, .int .i64 0, .int .i64 0, .int .i64 3, .int .i64 0, .int .i64 3, .int .i64 7] 26))).trans rfl
  have L8_2 : (w5.alloc (.cells #[.int .i64 1, .int .i64 0, .int .i64 5, .int .i64 1, .int .i64 0, .int .i64 0, .int .i64 0, .int .i64 3, .int .i64 0, .int .i64 3, .int .i64 7] 26)).cell? ⟨w5.heap.size, 2, none⟩ = some (.int .i64 5) := (cellsB (i := 2) (heap_alloc_new w5 (.cells #[.int .i64 1, .int .i64 0, .int .i64 5, .int .i64 1, .int .i64 0, .int .i64 0, .int .i64 0, .int .i64 3, .int .i64 0, .int .i64 3, .int .i64 7] 26))).trans rfl
  have L8_3 : (w5.alloc (.cells #[.int .i64 1, .int .i64 0, .int .i64 5, .int .i64 1, .int .i64 0, .int .i64 0, .int .i64 0, .int .i64 3, .int .i64 0, .int .i64 3, .int .i64 7] 26)).cell? ⟨w5.heap.size, 3, none⟩ = some (.int .i64 1) := (cellsB (i := 3) (heap_alloc_new w5 (.cells #[.int .i64 1, .int .i64 0, .int .i64 5, .int .i64 1, .int .i64 0, .int .i64 0, .int .i64 0, .int .i64 3, .int .i64 0, .int .i64 3, .int .i64 7] 26))).trans rfl
  have L8_4 : (w5.alloc (.cells #[.int .i64 1, .int .i64 0, .int .i64 5, .int .i64 1, .int .i64 0, .int .i64 0, .int .i64 0, .int .i64 3, .int .i64 0, .int .i64 3, .int .i64 7] 26)).cell? ⟨w5.heap.size, 4, none⟩ = some (.int .i64 0) := (cellsB (i := 4) (heap_alloc_new w5 (.cells #[.int .i64 1, .int .i64 0, .int .i64 5, .int .i64 1, .int .i64 0, .int .i64 0, .int .i64 0, .int .i64 3, .int .i64 0, .int .i64 3, .int .i64 7] 26))).trans rfl
  have L8_5 : (w5.alloc (.cells #[.int .i64 1, .int .i64 0, .int .i64 5, .int .i64 1, .int .i64 0, .int .i64 0, .int .i64 0, .int .i64 3, .int .i64 0, .int .i64 3, .int .i64 7] 26)).cell? ⟨w5.heap.size, 5, none⟩ = some (.int .i64 0) := (cellsB (i := 5) (heap_alloc_new w5 (.cells #[.int .i64 1, .int .i64 0, .int .i64 5, .int .i64 1, .int .i64 0, .int .i64 0, .int .i64 0, .int .i64 3, .int .i64 0, .int .i64 3, .int .i64 7] 26))).trans rfl
  have L8_6 : (w5.alloc (.cells #[.int .i64 1, .int .i64 0, .int .i64 5, .int .i64 1, .int .i64 0, .int .i64 0, .int .i64 0, .int .i64 3, .int .i64 0, .int .i64 3, .int .i64 7] 26)).cell? ⟨w5.heap.size, 6, none⟩ = some (.int .i64 0) := (cellsB (i := 6) (heap_alloc_new w5 (.cells #[.int .i64 1, .int .i64 0, .int .i64 5, .int .i64 1, .int .i64 0, .int .i64 0, .int .i64 0, .int .i64 3, .int .i64 0, .int .i64 3, .int .i64 7] 26))).trans rfl
  have L8_7 : (w5.alloc (.cells #[.int .i64 1, .int .i64 0, .int .i64 5, .int .i64 1, .int .i64 0, .int .i64 0, .int .i64 0, .int .i64 3, .int .i64 0, .int .i64 3, .int .i64 7] 26)).cell? ⟨w5.heap.size, 7, none⟩ = some (.int .i64 3) := (cellsB (i := 7) (heap_alloc_new w5 (.cells #[.int .i64 1, .int .i64 0, .int .i64 5, .int .i64 1, .int .i64 0, .int .i64 0, .int .i64 0, .int .i64 3, .int .i64 0, .int .i64 3, .int .i64 7] 26))).trans rfl
  have L8_8 : (w5.alloc (.cells #[.int .i64 1, .int .i64 0, .int .i64 5, .int .i64 1, .int .i64 0, .int .i64 0, .int .i64 0, .int .i64 3, .int .i64 0, .int .i64 3, .int .i64 7] 26)).cell? ⟨w5.heap.size, 8, none⟩ = some (.int .i64 0) := (cellsB (i := 8) (heap_alloc_new w5 (.cells #[.int .i64 1, .int .i64 0, .int .i64 5, .int .i64 1, .int .i64 0, .int .i64 0, .int .i64 0, .int .i64 3, .int .i64 0, .int .i64 3, .int .i64 7] 26))).trans rfl
  have L8_9 : (w5.alloc (.cells #[.int .i64 1, .int .i64 0, .int .i64 5, .int .i64 1, .int .i64 0, .int .i64 0, .int .i64 0, .int .i64 3, .int .i64 0, .int .i64 3, .int .i64 7] 26)).cell? ⟨w5.heap.size, 9, none⟩ = some (.int .i64 3) := (cellsB (i := 9) (heap_alloc_new w5 (.cells #[.int .i64 1, .int .i64 0, .int .i64 5, .int .i64 1, .int .i64 0, .int .i64 0, .int .i64 0, .int .i64 3, .int .i64 0, .int .i64 3, .int .i64 7] 26))).trans rfl
  have L8_10 : (w5.alloc (.cells #[.int .i64 1, .int .i64 0, .int .i64 5, .int .i64 1, .int .i64 0, .int .i64 0, .int .i64 0, .int .i64 3, .int .i64 0, .int .i64 3, .int .i64 7] 26)).cell? ⟨w5.heap.size, 10, none⟩ = some (.int .i64 7) := (cellsB (i := 10) (heap_alloc_new w5 (.cells #[.int .i64 1, .int .i64 0, .int .i64 5, .int .i64 1, .int .i64 0, .int .i64 0, .int .i64 0, .int .i64 3, .int .i64 0, .int .i64 3, .int .i64 7] 26))).trans rfl
  go_wp2_with fail
  refine (H6.out _).mono ?_
  rintro e w6 ⟨rfl, q⟩
  have w_6 := Lib.hid (blk1 w_5.out q)
  have s_6 := Lib.hid (blk1 s_5.out q)
  have a_6 := Lib.hid (blk1 a_5.out q)
  have t_6 := Lib.hid (blk1 t_5.out q)
  have u_6 := Lib.hid (blk1 u_5.out q)
  have v_6 := Lib.hid (new1 q)
  have B6 := Lib.hid (bel1 B5.out B5.out.size q)
  clear q w_5 s_5 a_5 t_5 u_5 B5
  clear L8_0 L8_1 L8_2 L8_3 L8_4 L8_5 L8_6 L8_7 L8_8 L8_9 L8_10
  go_wp2_with fail
  refine (H7.out _).mono ?_
  rintro e w7 ⟨rfl, q⟩
  have w_7 := Lib.hid (blk1 w_6.out q)
  have s_7 := Lib.hid (blk1 s_6.out q)
  have a_7 := Lib.hid (blk1 a_6.out q)
  have t_7 := Lib.hid (blk1 t_6.out q)
  have u_7 := Lib.hid (blk1 u_6.out q)
  have v_7 := Lib.hid (blk1 v_6.out q)
  have x_7 := Lib.hid (new1 q)
  have B7 := Lib.hid (bel1 B6.out B6.out.size q)
  clear q w_6 s_6 a_6 t_6 u_6 v_6 B6
  have L9_0 : (w7.alloc (.cells #[.int .i64 0, .int .i64 0, .int .i64 0, .int .i64 0, .int .i64 0, .int .i64 0, .int .i64 0, .int .i64 0, .int .i64 0, .int .i64 0, .int .i64 0] 26)).cell? ⟨w2.heap.size, 0, none⟩ = some (.int .i64 0) := (cellsB (i := 0) (alc (o := (.cells #[.int .i64 0, .int .i64 0, .int .i64 0, .int .i64 0, .int .i64 0, .int .i64 0, .int .i64 0, .int .i64 0, .int .i64 0, .int .i64 0, .int .i64 0] 26)) a_7.out)).trans rfl
  have L9_1 : (w7.alloc (.cells #[.int .i64 0, .int .i64 0, .int .i64 0, .int .i64 0, .int .i64 0, .int .i64 0, .int .i64 0, .int .i64 0, .int .i64 0, .int .i64 0, .int .i64 0] 26)).cell? ⟨w2.heap.size, 1, none⟩ = some (.int .i64 1) := (cellsB (i := 1) (alc (o := (.cells #[.int .i64 0, .int .i64 0, .int .i64 0, .int .i64 0, .int .i64 0, .int .i64 0, .int .i64 0, .int .i64 0, .int .i64 0, .int .i64 0, .int .i64 0] 26)) a_7.out)).trans rfl
  have L9_2 : (w7.alloc (.cells #[.int .i64 0, .int .i64 0, .int .i64 0, .int .i64 0, .int .i64 0, .int .i64 0, .int .i64 0, .int .i64 0, .int .i64 0, .int .i64 0, .int .i64 0] 26)).cell? ⟨w2.heap.size, 2, none⟩ = some (.int .i64 1) := (cellsB (i := 2) (alc (o := (.cells #[.int .i64 0, .int .i64 0, .int .i64 0, .int .i64 0, .int .i64 0, .int .i64 0, .int .i64 0, .int .i64 0, .int .i64 0, .int .i64 0, .int .i64 0] 26)) a_7.out)).trans rfl
  have L9_3 : (w7.alloc (.cells #[.int .i64 0, .int .i64 0, .int .i64 0, .int .i64 0, .int .i64 0, .int .i64 0, .int .i64 0, .int .i64 0, .int .i64 0, .int .i64 0, .int .i64 0] 26)).cell? ⟨w2.heap.size, 3, none⟩ = some (.int .i64 1) := (cellsB (i := 3) (alc (o := (.cells #[.int .i64 0, .int .i64 0, .int .i64 0, .int .i64 0, .int .i64 0, .int .i64 0, .int .i64 0, .int .i64 0, .int .i64 0, .int .i64 0, .int .i64 0] 26)) a_7.out)).trans rfl
  have L9_4 : (w7.alloc (.cells #[.int .i64 0, .int .i64 0, .int .i64 0, .int .i64 0, .int .i64 0, .int .i64 0, .int .i64 0, .int .i64 0, .int .i64 0, .int .i64 0, .int .i64 0] 26)).cell? ⟨w2.heap.size, 4, none⟩ = some (.int .i64 0) := (cellsB (i := 4) (alc (o := (.cells #[.int .i64 0, .int .i64 0, .int .i64 0, .int .i64 0, .int .i64 0, .int .i64 0, .int .i64 0, .int .i64 0, .int .i64 0, .int .i64 0, .int .i64 0] 26)) a_7.out)).trans rfl
  have L9_5 : (w7.alloc (.cells #[.int .i64 0, .int .i64 0, .int .i64 0, .int .i64 0, .int .i64 0, .int .i64 0, .int .i64 0, .int .i64 0, .int .i64 0, .int .i64 0, .int .i64 0] 26)).cell? ⟨w2.heap.size, 5, none⟩ = some (.int .i64 0) := (cellsB (i := 5) (alc (o := (.cells #[.int .i64 0, .int .i64 0, .int .i64 0, .int .i64 0, .int .i64 0, .int .i64 0, .int .i64 0, .int .i64 0, .int .i64 0, .int .i64 0, .int .i64 0] 26)) a_7.out)).trans rfl
  have L10_0 : (w7.alloc (.cells #[.int .i64 0, .int .i64 0, .int .i64 0, .int .i64 0, .int .i64 0, .int .i64 0, .int .i64 0, .int .i64 0, .int .i64 0, .int .i64 0, .int .i64 0] 26)).cell? ⟨w3.heap.size, 0, none⟩ = some (.int .i64 1) := (cellsB (i := 0) (alc (o := (.cells #[.int .i64 0, .int .i64 0, .int .i64 0, .int .i64 0, .int .i64 0, .int .i64 0, .int .i64 0, .int .i64 0, .int .i64 0, .int .i64 0, .int .i64 0] 26)) t_7.out)).trans rfl
  have L10_1 : (w7.alloc (.cells #[.int .i64 0, .int .i64 0, .int .i64 0, .int .i64 0, .int .i64 0, .int .i64 0, .int .i64 0, .int .i64 0, .int .i64 0, .int .i64 0, .int .i64 0] 26)).cell? ⟨w3.heap.size, 1, none⟩ = some (.int .i64 0) := (cellsB (i := 1) (alc (o := (.cells #[.int .i64 0, .int .i64 0, .int .i64 0, .int .i64 0, .int .i64 0, .int .i64 0, .int .i64 0, .int .i64 0, .int .i64 0, .int .i64 0, .int .i64 0] 26)) t_7.out)).trans rfl
  have L10_2 : (w7.alloc (.cells #[.int .i64 0, .int .i64 0, .int .i64 0, .int .i64 0, .int .i64 0, .int .i64 0, .int .i64 0, .int .i64 0, .int .i64 0, .int .i64 0, .int .i64 0] 26)).cell? ⟨w3.heap.size, 2, none⟩ = some (.int .i64 5) := (cellsB (i := 2) (alc (o := (.cells #[.int .i64 0, .int .i64 0, .int .i64 0, .int .i64 0, .int .i64 0, .int .i64 0, .int .i64 0, .int .i64 0, .int .i64 0, .int .i64 0, .int .i64 0] 26)) t_7.out)).trans rfl
  have L10_3 : (w7.alloc (.cells #[.int .i64 0, .int .i64 0, .int .i64 0, .int .i64 0, .int .i64 0, .int .i64 0, .int .i64 0, .int .i64 0, .int .i64 0, .int .i64 0, .int .i64 0] 26)).cell? ⟨w3.heap.size, 3, none⟩ = some (.int .i64 1) := (cellsB (i := 3) (alc (o := (.cells #[.int .i64 0, .int .i64 0, .int .i64 0, .int .i64 0, .int .i64 0, .int .i64 0, .int .i64 0, .int .i64 0, .int .i64 0, .int .i64 0, .int .i64 0] 26)) t_7.out)).trans rfl
  have L10_4 : (w7.alloc (.cells #[.int .i64 0, .int .i64 0, .int .i64 0, .int .i64 0, .int .i64 0, .int .i64 0, .int .i64 0, .int .i64 0, .int .i64 0, .int .i64 0, .int .i64 0] 26)).cell? ⟨w3.heap.size, 4, none⟩ = some (.int .i64 0) := (cellsB (i := 4) (alc (o := (.cells #[.int .i64 0, .int .i64 0, .int .i64 0, .int .i64 0, .int .i64 0, .int .i64 0, .int .i64 0, .int .i64 0, .int .i64 0, .int .i64 0, .int .i64 0] 26)) t_7.out)).trans rfl
  have L10_5 : (w7.alloc (.cells #[.int .i64 0, .int .i64 0, .int .i64 0, .int .i64 0, .int .i64 0, .int .i64 0, .int .i64 0, .int .i64 0, .int .i64 0, .int .i64 0, .int .i64 0] 26)).cell? ⟨w3.heap.size, 5, none⟩ = some (.int .i64 0) := (cellsB (i := 5) (alc (o := (.cells #[.int .i64 0, .int .i64 0, .int .i64 0, .int .i64 0, .int .i64 0, .int .i64 0, .int .i64 0, .int .i64 0, .int .i64 0, .int .i64 0, .int .i64 0] 26)) t_7.out)).trans rfl
  have L10_6 : (w7.alloc (.cells #[.int .i64 0, .int .i64 0, .int .i64 0, .int .i64 0, .int .i64 0, .int .i64 0, .int .i64 0, .int .i64 0, .int .i64 0, .int .i64 0, .int .i64 0] 26)).cell? ⟨w3.heap.size, 6, none⟩ = some (.int .i64 0) := (cellsB (i := 6) (alc (o := (.cells #[.int .i64 0, .int .i64 0, .int .i64 0, .int .i64 0, .int .i64 0, .int .i64 0, .int .i64 0, .int .i64 0, .int .i64 0, .int .i64 0, .int .i64 0] 26)) t_7.out)).trans rfl
  have L10_7 : (w7.alloc (.cells #[.int .i64 0, .int .i64 0, .int .i64 0, .int .i64 0, .int .i64 0, .int .i64 0, .int .i64 0, .int .i64 0, .int .i64 0, .int .i64 0, .int .i64 0] 26)).cell? ⟨w3.heap.size, 7, none⟩ = some (.int .i64 1) := (cellsB (i := 7) (alc (o := (.cells #[.int .i64 0, .int .i64 0, .int .i64 0, .int .i64 0, .int .i64 0, .int .i64 0, .int .i64 0, .int .i64 0, .int .i64 0, .int .i64 0, .int .i64 0] 26)) t_7.out)).trans rfl
  have L10_8 : (w7.alloc (.cells #[.int .i64 0, .int .i64 0, .int .i64 0, .int .i64 0, .int .i64 0, .int .i64 0, .int .i64 0, .int .i64 0, .int .i64 0, .int .i64 0, .int .i64 0] 26)).cell? ⟨w3.heap.size, 8, none⟩ = some (.int .i64 1) := (cellsB (i := 8) (alc (o := (.cells #[.int .i64 0, .int .i64 0, .int .i64 0, .int .i64 0, .int .i64 0, .int .i64 0, .int .i64 0, .int .i64 0, .int .i64 0, .int .i64 0, .int .i64 0] 26)) t_7.out)).trans rfl
  have L10_9 : (w7.alloc (.cells #[.int .i64 0, .int .i64 0, .int .i64 0, .int .i64 0, .int .i64 0, .int .i64 0, .int .i64 0, .int .i64 0, .int .i64 0, .int .i64 0, .int .i64 0] 26)).cell? ⟨w3.heap.size, 9, none⟩ = some (.int .i64 0) := (cellsB (i := 9) (alc (o := (.cells #[.int .i64 0, .int .i64 0, .int .i64 0, .int .i64 0, .int .i64 0, .int .i64 0, .int .i64 0, .int .i64 0, .int .i64 0, .int .i64 0, .int .i64 0] 26)) t_7.out)).trans rfl
  have L10_10 : (w7.alloc (.cells #[.int .i64 0, .int .i64 0, .int .i64 0, .int .i64 0, .int .i64 0, .int .i64 0, .int .i64 0, .int .i64 0, .int .i64 0, .int .i64 0, .int .i64 0] 26)).cell? ⟨w3.heap.size, 10, none⟩ = some (.int .i64 7) := (cellsB (i := 10) (alc (o := (.cells #[.int .i64 0, .int .i64 0, .int .i64 0, .int .i64 0, .int .i64 0, .int .i64 0, .int .i64 0, .int .i64 0, .int .i64 0, .int .i64 0, .int .i64 0] 26)) t_7.out)).trans rfl
  have L11_0 : (w7.alloc (.cells #[.int .i64 0, .int .i64 0, .int .i64 0, .int .i64 0, .int .i64 0, .int .i64 0, .int .i64 0, .int .i64 0, .int .i64 0, .int .i64 0, .int .i64 0] 26)).cell? ⟨w4.heap.size, 0, none⟩ = some (.int .i64 1) := (cellsB (i := 0) (alc (o := (.cells #[.int .i64 0, .int .i64 0, .int .i64 0, .int .i64 0, .int .i64 0, .int .i64 0, .int .i64 0, .int .i64 0, .int .i64 0, .int .i64 0, .int .i64 0] 26)) u_7.out)).trans rfl
  have L11_1 : (w7.alloc (.cells #[.int .i64 0, .int .i64 0, .int .i64 0, .int .i64 0, .int .i64 0, .int .i64 0, .int .i64 0, .int .i64 0, .int .i64 0, .int .i64 0, .int .i64 0] 26)).cell? ⟨w4.heap.size, 1, none⟩ = some (.int .i64 0) := (cellsB (i := 1) (alc (o := (.cells #[.int .i64 0, .int .i64 0, .int .i64 0, .int .i64 0, .int .i64 0, .int .i64 0, .int .i64 0, .int .i64 0, .int .i64 0, .int .i64 0, .int .i64 0] 26)) u_7.out)).trans rfl
  have L11_2 : (w7.alloc (.cells #[.int .i64 0, .int .i64 0, .int .i64 0, .int .i64 0, .int .i64 0, .int .i64 0, .int .i64 0, .int .i64 0, .int .i64 0, .int .i64 0, .int .i64 0] 26)).cell? ⟨w4.heap.size, 2, none⟩ = some (.int .i64 5) := (cellsB (i := 2) (alc (o := (.cells #[.int .i64 0, .int .i64 0, .int .i64 0, .int .i64 0, .int .i64 0, .int .i64 0, .int .i64 0, .int .i64 0, .int .i64 0, .int .i64 0, .int .i64 0] 26)) u_7.out)).trans rfl
  have L11_3 : (w7.alloc (.cells #[.int .i64 0, .int .i64 0, .int .i64 0, .int .i64 0, .int .i64 0, .int .i64 0, .int .i64 0, .int .i64 0, .int .i64 0, .int .i64 0, .int .i64 0] 26)).cell? ⟨w4.heap.size, 3, none⟩ = some (.int .i64 1) := (cellsB (i := 3) (alc (o := (.cells #[.int .i64 0, .int .i64 0, .int .i64 0, .int .i64 0, .int .i64 0, .int .i64 0, .int .i64 0, .int .i64 0, .int .i64 0, .int .i64 0, .int .i64 0] 26)) u_7.out)).trans rfl
  have L11_4 : (w7.alloc (.cells #[.int .i64 0, .int .i64 0, .int .i64 0, .int .i64 0, .int .i64 0, .int .i64 0, .int .i64 0, .int .i64 0, .int .i64 0, .int .i64 0, .int .i64 0] 26)).cell? ⟨w4.heap.size, 4, none⟩ = some (.int .i64 0) := (cellsB (i := 4) (alc (o := (.cells #[.int .i64 0, .int .i64 0, .int .i64 0, .int .i64 0, .int .i64 0, .int .i64 0, .int .i64 0, .int .i64 0, .int .i64 0, .int .i64 0, .int .i64 0] 26)) u_7.out)).trans rfl
  have L11_5 : (w7.alloc (.cells #[.int .i64 0, .int .i64 0, .int .i64 0, .int .i64 0, .int .i64 0, .int .i64 0, .int .i64 0, .int .i64 0, .int .i64 0, .int .i64 0, .int .i64 0] 26)).cell? ⟨w4.heap.size, 5, none⟩ = some (.int .i64 0) := (cellsB (i := 5) (alc (o := (.cells #[.int .i64 0, .int .i64 0, .int .i64 0, .int .i64 0, .int .i64 0, .int .i64 0, .int .i64 0, .int .i64 0, .int .i64 0, .int .i64 0, .int .i64 0] 26)) u_7.out)).trans rfl
  have L11_6 : (w7.alloc (.cells #[.int .i64 0, .int .i64 0, .int .i64 0, .int .i64 0, .int .i64 0, .int .i64 0, .int .i64 0, .int .i64 0, .int .i64 0, .int .i64 0, .int .i64 0] 26)).cell? ⟨w4.heap.size, 6, none⟩ = some (.int .i64 0) := (cellsB (i := 6) (alc (o := (.cells #[.int .i64 0, .int .i64 0, .int .i64 0, .int .i64 0, .int .i64 0, .int .i64 0, .int .i64 0, .int .i64 0, .int .i64 0, .int .i64 0, .int .i64 0] 26)) u_7.out)).trans rfl
  have L11_7 : (w7.alloc (.cells #[.int .i64 0, .int .i64 0, .int .i64 0, .int .i64 0, .int .i64 0, .int .i64 0, .int .i64 0, .int .i64 0, .int .i64 0, .int .i64 0, .int .i64 0] 26)).cell? ⟨w4.heap.size, 7, none⟩ = some (.int .i64 1) := (cellsB (i := 7) (alc (o := (.cells #[.int .i64 0, .int .i64 0, .int .i64 0, .int .i64 0, .int .i64 0, .int .i64 0, .int .i64 0, .int .i64 0, .int .i64 0, .int .i64 0, .int .i64 0] 26)) u_7.out)).trans rfl
  have L11_8 : (w7.alloc (.cells #[.int .i64 0, .int .i64 0, .int .i64 0, .int .i64 0, .int .i64 0, .int .i64 0, .int .i64 0, .int .i64 0, .int .i64 0, .int .i64 0, .int .i64 0] 26)).cell? ⟨w4.heap.size, 8, none⟩ = some (.int .i64 1) := (cellsB (i := 8) (alc (o := (.cells #[.int .i64 0, .int .i64 0, .int .i64 0, .int .i64 0, .int .i64 0, .int .i64 0, .int .i64 0, .int .i64 0, .int .i64 0, .int .i64 0, .int .i64 0] 26)) u_7.out)).trans rfl
  have L11_9 : (w7.alloc (.cells #[.int .i64 0, .int .i64 0, .int .i64 0, .int .i64 0, .int .i64 0, .int .i64 0, .int .i64 0, .int .i64 0, .int .i64 0, .int .i64 0, .int .i64 0] 26)).cell? ⟨w4.heap.size, 9, none⟩ = some (.int .i64 0) := (cellsB (i := 9) (alc (o := (.cells #[.int .i64 0, .int .i64 0, .int .i64 0, .int .i64 0, .int .i64 0, .int .i64 0, .int .i64 0, .int .i64 0, .int .i64 0, .int .i64 0, .int .i64 0] 26)) u_7.out)).trans rfl
  have L11_10 : (w7.alloc (.cells #[.int .i64 0, .int .i64 0, .int .i64 0, .int .i64 0, .int .i64 0, .int .i64 0, .int .i64 0, .int .i64 0, .int .i64 0, .int .i64 0, .int .i64 0] 26)).cell? ⟨w4.heap.size, 10, none⟩ = some (.int .i64 7) := (cellsB (i := 10) (alc (o := (.cells #[.int .i64 0, .int .i64 0, .int .i64 0, .int .i64 0, .int .i64 0, .int .i64 0, .int .i64 0, .int .i64 0, .int .i64 0, .int .i64 0, .int .i64 0] 26)) u_7.out)).trans rfl
  have L12_0 : (w7.alloc (.cells #[.int .i64 0, .int .i64 0, .int .i64 0, .int .i64 0, .int .i64 0, .int .i64 0, .int .i64 0, .int .i64 0, .int .i64 0, .int .i64 0, .int .i64 0] 26)).cell? ⟨w5.heap.size, 0, none⟩ = some (.int .i64 1) := (cellsB (i := 0) (alc (o := (.cells #[.int .i64 0, .int .i64 0, .int .i64 0, .int .i64 0, .int .i64 0, .int .i64 0, .int .i64 0, .int .i64 0, .int .i64 0, .int .i64 0, .int .i64 0] 26)) v_7.out)).trans rfl
  have L12_1 : (w7.alloc (.cells #[.int .i64 0, .int .i64 0, .int .i64 0, .int .i64 0, .int .i64 0, .int .i64 0, .int .i64 0, .int .i64 0, .int .i64 0, .int .i64 0, .int .i64 0] 26)).cell? ⟨w5.heap.size, 1, none⟩ = some (.int .i64 0) := (cellsB (i := 1) (alc (o := (.cells #[.int .i64 0, .int .i64 0, .int .i64 0, .int .i64 0, .int .i64 0, .int .i64 0, .int .i64 0, .int .i64 0, .int .i64 0, .int .i64 0, .int .i64 0] 26)) v_7.out)).trans rfl
  have L12_2 : (w7.alloc (.cells #[.int .i64 0, .int .i64 0, .int .i64 0, .int .i64 0, .int .i64 0, .int .i64 0, .int .i64 0, .int .i64 0, .int .i64 0, .int .i64 0, .int .i64 0] 26)).cell? ⟨w5.heap.size, 2, none⟩ = some (.int .i64 5) := (cellsB (i := 2) (alc (o := (.cells #[.int .i64 0, .int .i64 0, .int .i64 0, .int .i64 0, .int .i64 0, .int .i64 0, .int .i64 0, .int .i64 0, .int .i64 0, .int .i64 0, .int .i64 0] 26)) v_7.out)).trans rfl
  have L12_3 : (w7.alloc (.cells #[.int .i64 0, .int .i64 0, .int .i64 0, .int .i64 0, .int .i64 0, .int .i64 0, .int .i64 0, .int .i64 0, .int .i64 0, .int .i64 0, .int .i64 0] 26)).cell? ⟨w5.heap.size, 3, none⟩ = some (.int .i64 1) := (cellsB (i := 3) (alc (o := (.cells #[.int .i64 0, .int .i64 0, .int .i64 0, .int .i64 0, .int .i64 0, .int .i64 0, .int .i64 0, .int .i64 0, .int .i64 0, .int .i64 0, .int .i64 0] 26)) v_7.out)).trans rfl
  have L12_4 : (w7.alloc (.cells #[.int .i64 0, .int .i64 0, .int .i64 0, .int .i64 0, .int .i64 0, .int .i64 0, .int .i64 0, .int .i64 0, .int .i64 0, .int .i64 0, .int .i64 0] 26)).cell? ⟨w5.heap.size, 4, none⟩ = some (.int .i64 0) := (cellsB (i := 4) (alc (o := (.cells #[.int .i64 0, .int .i64 0, .int .i64 0, .int .i64 0, .int .i64 0, .int .i64 0, .int .i64 0, .int .i64 0, .int .i64 0, .int .i64 0, .int .i64 0] 26)) v_7.out)).trans rfl
  have L12_5 : (w7.alloc (.cells #[.int .i64 0, .int .i64 0, .int .i64 0, .int .i64 0, .int .i64 0, .int .i64 0, .int .i64 0, .int .i64 0, .int .i64 0, .int .i64 0, .int .i64 0] 26)).cell? ⟨w5.heap.size, 5, none⟩ = some (.int .i64 0) := (cellsB (i := 5) (alc (o := (.cells #[.int .i64 0, .int .i64 0, .int .i64 0, .int .i64 0, .int .i64 0, .int .i64 0, .int .i64 0, .int .i64 0, .int .i64 0, .int .i64 0, .int .i64 0] 26)) v_7.out)).trans rfl
  have L12_6 : (w7.alloc (.cells #[.int .i64 0, .int .i64 0, .int .i64 0, .int .i64 0, .int .i64 0, .int .i64 0, .int .i64 0, .int .i64 0, .int .i64 0, .int .i64 0, .int .i64 0] 26)).cell? ⟨w5.heap.size, 6, none⟩ = some (.int .i64 0) := (cellsB (i := 6) (alc (o := (.cells #[.int .i64 0, .int .i64 0, .int .i64 0, .int .i64 0, .int .i64 0, .int .i64 0, .int .i64 0, .int .i64 0, .int .i64 0, .int .i64 0, .int .i64 0] 26)) v_7.out)).trans rfl
  have L12_7 : (w7.alloc (.cells #[.int .i64 0, .int .i64 0, .int .i64 0, .int .i64 0, .int .i64 0, .int .i64 0, .int .i64 0, .int .i64 0, .int .i64 0, .int .i64 0, .int .i64 0] 26)).cell? ⟨w5.heap.size, 7, none⟩ = some (.int .i64 3) := (cellsB (i := 7) (alc (o := (.cells #[.int .i64 0, .int .i64 0, .int .i64 0, .int .i64 0, .int .i64 0, .int .i64 0, .int .i64 0, .int .i64 0, .int .i64 0, .int .i64 0, .int .i64 0] 26)) v_7.out)).trans rfl
  have L12_8 : (w7.alloc (.cells #[.int .i64 0, .int .i64 0, .int .i64 0, .int .i64 0, .int .i64 0, .int .i64 0, .int .i64 0, .int .i64 0, .int .i64 0, .int .i64 0, .int .i64 0] 26)).cell? ⟨w5.heap.size, 8, none⟩ = some (.int .i64 0) := (cellsB (i := 8) (alc (o := (.cells #[.int .i64 0, .int .i64 0, .int .i64 0, .int .i64 0, .int .i64 0, .int .i64 0, .int .i64 0, .int .i64 0, .int .i64 0, .int .i64 0, .int .i64 0] 26)) v_7.out)).trans rfl
  have L12_9 : (w7.alloc (.cells #[.int .i64 0, .int .i64 0, .int .i64 0, .int .i64 0, .int .i64 0, .int .i64 0, .int .i64 0, .int .i64 0, .int .i64 0, .int .i64 0, .int .i64 0] 26)).cell? ⟨w5.heap.size, 9, none⟩ = some (.int .i64 3) := (cellsB (i := 9) (alc (o := (.cells #[.int .i64 0, .int .i64 0, .int .i64 0, .int .i64 0, .int .i64 0, .int .i64 0, .int .i64 0, .int .i64 0, .int .i64 0, .int .i64 0, .int .i64 0] 26)) v_7.out)).trans rfl
  have L12_10 : (w7.alloc (.cells #[.int .i64 0, .int .i64 0, .int .i64 0, .int .i64 0, .int .i64 0, .int .i64 0, .int .i64 0, .int .i64 0, .int .i64 0, .int .i64 0, .int .i64 0] 26)).cell? ⟨w5.heap.size, 10, none⟩ = some (.int .i64 7) := (cellsB (i := 10) (alc (o := (.cells #[.int .i64 0, .int .i64 0, .int .i64 0, .int .i64 0, .int .i64 0, .int .i64 0, .int .i64 0, .int .i64 0, .int .i64 0, .int .i64 0, .int .i64 0] 26)) v_7.out)).trans rfl
  have L13_0 : (w7.alloc (.cells #[.int .i64 0, .int .i64 0, .int .i64 0, .int .i64 0, .int .i64 0, .int .i64 0, .int .i64 0, .int .i64 0, .int .i64 0, .int .i64 0, .int .i64 0] 26)).cell? ⟨w6.heap.size, 0, none⟩ = some (.int .i64 1) := (cellsB (i := 0) (alc (o := (.cells #[.int .i64 0, .int .i64 0, .int .i64 0, .int .i64 0, .int .i64 0, .int .i64 0, .int .i64 0, .int .i64 0, .int .i64 0, .int .i64 0, .int .i64 0] 26)) x_7.out)).trans rfl
  have L13_1 : (w7.alloc (.cells #[.int .i64 0, .int .i64 0, .int .i64 0, .int .i64 0, .int .i64 0, .int .i64 0, .int .i64 0, .int .i64 0, .int .i64 0, .int .i64 0, .int .i64 0] 26)).cell? ⟨w6.heap.size, 1, none⟩ = some (.int .i64 0) := (cellsB (i := 1) (alc (o := (.cells #[.int .i64 0, .int .i64 0, .int .i64 0, .int .i64 0, .int .i64 0, .int .i64 0, .int .i64 0, .int .i64 0, .int .i64 0, .int .i64 0, .int .i64 0] 26)) x_7.out)).trans rfl
  have L13_2 : (w7.alloc (.cells #[.int .i64 0, .int .i64 0, .int .i64 0, .int .i64 0, .int .i64 0, .int .i64 0, .int .i64 0, .int .i64 0, .int .i64 0, .int .i64 0, .int .i64 0] 26)).cell? ⟨w6.heap.size, 2, none⟩ = some (.int .i64 5) := (cellsB (i := 2) (alc (o := (.cells #[.int .i64 0, .int .i64 0, .int .i64 0, .int .i64 0, .int .i64 0, .int .i64 0, .int .i64 0, .int .i64 0, .int .i64 0, .int .i64 0, .int .i64 0] 26)) x_7.out)).trans rfl
  have L13_3 : (w7.alloc (.cells #[.int .i64 0, .int .i64 0, .int .i64 0, .int .i64 0, .int .i64 0, .int .i64 0, .int .i64 0, .int .i64 0, .int .i64 0, .int .i64 0, .int .i64 0] 26)).cell? ⟨w6.heap.size, 3, none⟩ = some (.int .i64 1) := (cellsB (i := 3) (alc (o := (.cells #[.int .i64 0, .int .i64 0, .int .i64 0, .int .i64 0, .int .i64 0, .int .i64 0, .int .i64 0, .int .i64 0, .int .i64 0, .int .i64 0, .int .i64 0] 26)) x_7.out)).trans rfl
  have L13_4 : (w7.alloc (.cells #[.int .i64 0, .int .i64 0, .int .i64 0, .int .i64 0, .int .i64 0, .int .i64 0, .int .i64 0, .int .i64 0, .int .i64 0, .int .i64 0, .int .i64 0] 26)).cell? ⟨w6.heap.size, 4, none⟩ = some (.int .i64 0) := (cellsB (i := 4) (alc (o := (.cells #[.int .i64 0, .int .i64 0, .int .i64 0, .int .i64 0, .int .i64 0, .int .i64 0, .int .i64 0, .int .i64 0, .int .i64 0, .int .i64 0, .int .i64 0] 26)) x_7.out)).trans rfl
  have L13_5 : (w7.alloc (.cells #[.int .i64 0, .int .i64 0, .int .i64 0, .int .i64 0, .int .i64 0, .int .i64 0, .int .i64 0, .int .i64 0, .int .i64 0, .int .i64 0, .int .i64 0] 26)).cell? ⟨w6.heap.size, 5, none⟩ = some (.int .i64 0) := (cellsB (i := 5) (alc (o := (.cells #[.int .i64 0, .int .i64 0, .int .i64 0, .int .i64 0, .int .i64 0, .int .i64 0, .int .i64 0, .int .i64 0, .int .i64 0, .int .i64 0, .int .i64 0] 26)) x_7.out)).trans rfl
  have L13_6 : (w7.alloc (.cells #[.int .i64 0, .int .i64 0, .int .i64 0, .int .i64 0, .int .i64 0, .int .i64 0, .int .i64 0, .int .i64 0, .int .i64 0, .int .i64 0, .int .i64 0] 26)).cell? ⟨w6.heap.size, 6, none⟩ = some (.int .i64 0) := (cellsB (i := 6) (alc (o := (.cells #[.int .i64 0, .int .i64 0, .int .i64 0, .int .i64 0, .int .i64 0, .int .i64 0, .int .i64 0, .int .i64 0, .int .i64 0, .int .i64 0, .int .i64 0] 26)) x_7.out)).trans rfl
  have L13_7 : (w7.alloc (.cells #[.int .i64 0, .int .i64 0, .int .i64 0, .int .i64 0, .int .i64 0, .int .i64 0, .int .i64 0, .int .i64 0, .int .i64 0, .int .i64 0, .int .i64 0] 26)).cell? ⟨w6.heap.size, 7, none⟩ = some (.int .i64 3) := (cellsB (i := 7) (alc (o := (.cells #[.int .i64 0, .int .i64 0, .int .i64 0, .int .i64 0, .int .i64 0, .int .i64 0, .int .i64 0, .int .i64 0, .int .i64 0, .int .i64 0, .int .i64 0] 26)) x_7.out)).trans rfl
  have L13_8 : (w7.alloc (.cells #[.int .i64 0, .int .i64 0, .int .i64 0, .int .i64 0, .int .i64 0, .int .i64 0, .int .i64 0, .int .i64 0, .int .i64 0, .int .i64 0, .int .i64 0] 26)).cell? ⟨w6.heap.size, 8, none⟩ = some (.int .i64 0) := (cellsB (i := 8) (alc (o := (.cells #[.int .i64 0, .int .i64 0, .int .i64 0, .int .i64 0, .int .i64 0, .int .i64 0, .int .i64 0, .int .i64 0, .int .i64 0, .int .i64 0, .int .i64 0] 26)) x_7.out)).trans rfl
  have L13_9 : (w7.alloc (.cells #[.int .i64 0, .int .i64 0, .int .i64 0, .int .i64 0, .int .i64 0, .int .i64 0, .int .i64 0, .int .i64 0, .int .i64 0, .int .i64 0, .int .i64 0] 26)).cell? ⟨w6.heap.size, 9, none⟩ = some (.int .i64 3) := (cellsB (i := 9) (alc (o := (.cells #[.int .i64 0, .int .i64 0, .int .i64 0, .int .i64 0, .int .i64 0, .int .i64 0, .int .i64 0, .int .i64 0, .int .i64 0, .int .i64 0, .int .i64 0] 26)) x_7.out)).trans rfl
  have L13_10 : (w7.alloc (.cells #[.int .i64 0, .int .i64 0, .int .i64 0, .int .i64 0, .int .i64 0, .int .i64 0, .int .i64 0, .int .i64 0, .int .i64 0, .int .i64 0, .int .i64 0] 26)).cell? ⟨w6.heap.size, 10, none⟩ = some (.int .i64 7) := (cellsB (i := 10) (alc (o := (.cells #[.int .i64 0, .int .i64 0, .int .i64 0, .int .i64 0, .int .i64 0, .int .i64 0, .int .i64 0, .int .i64 0, .int .i64 0, .int .i64 0, .int .i64 0] 26)) x_7.out)).trans rfl
  go_wp2_with fail
  refine (H8.out _).mono ?_
  rintro e w8 ⟨rfl, q⟩
  have w_8 := Lib.hid (blk1 w_7.out q)
  have s_8 := Lib.hid (blk1 s_7.out q)
  have a_8 := Lib.hid (blk1 a_7.out q)
  have t_8 := Lib.hid (blk1 t_7.out q)
  have u_8 := Lib.hid (blk1 u_7.out q)
  have v_8 := Lib.hid (blk1 v_7.out q)
  have x_8 := Lib.hid (blk1 x_7.out q)
  have zz_8 := Lib.hid (new1 q)
  have B8 := Lib.hid (bel1 B7.out B7.out.size q)
  clear q w_7 s_7 a_7 t_7 u_7 v_7 x_7 B7
  clear L9_0 L9_1 L9_2 L9_3 L9_4 L9_5 L10_0 L10_1 L10_2 L10_3 L10_4 L10_5 L10_6 L10_7 L10_8 L10_9 L10_10 L11_0 L11_1 L11_2 L11_3 L11_4 L11_5 L11_6 L11_7 L11_8 L11_9 L11_10 L12_0 L12_1 L12_2 L12_3 L12_4 L12_5 L12_6 L12_7 L12_8 L12_9 L12_10 L13_0 L13_1 L13_2 L13_3 L13_4 L13_5 L13_6 L13_7 L13_8 L13_9 L13_10
  have L14_0 : w8.cell? ⟨w5.heap.size, 0, none⟩ = some (.int .i64 1) := (cellsB (i := 0) v_8.out).trans rfl
  have L14_1 : w8.cell? ⟨w5.heap.size, 1, none⟩ = some (.int .i64 0) := (cellsB (i := 1) v_8.out).trans rfl
  have L14_2 : w8.cell? ⟨w5.heap.size, 2, none⟩ = some (.int .i64 5) := (cellsB (i := 2) v_8.out).trans rfl
  have L14_3 : w8.cell? ⟨w5.heap.size, 3, none⟩ = some (.int .i64 1) := (cellsB (i := 3) v_8.out).trans rfl
  have L14_4 : w8.cell? ⟨w5.heap.size, 4, none⟩ = some (.int .i64 0) := (cellsB (i := 4) v_8.out).trans rfl
  have L14_5 : w8.cell? ⟨w5.heap.size, 5, none⟩ = some (.int .i64 0) := (cellsB (i := 5) v_8.out).trans rfl
  have L14_6 : w8.cell? ⟨w5.heap.size, 6, none⟩ = some (.int .i64 0) := (cellsB (i := 6) v_8.out).trans rfl
  have L14_7 : w8.cell? ⟨w5.heap.size, 7, none⟩ = some (.int .i64 3) := (cellsB (i := 7) v_8.out).trans rfl
  have L14_8 : w8.cell? ⟨w5.heap.size, 8, none⟩ = some (.int .i64 0) := (cellsB (i := 8) v_8.out).trans rfl
  have L14_9 : w8.cell? ⟨w5.heap.size, 9, none⟩ = some (.int .i64 3) := (cellsB (i := 9) v_8.out).trans rfl
  have L14_10 : w8.cell? ⟨w5.heap.size, 10, none⟩ = some (.int .i64 7) := (cellsB (i := 10) v_8.out).trans rfl
  go_wp2_with fail
  refine (H9.out _).mono ?_
  rintro e w9 ⟨rfl, q⟩
  have w_9 := Lib.hid (blk0 w_8.out q)
  have s_9 := Lib.hid (blk0 s_8.out q)
  have a_9 := Lib.hid (blk0 a_8.out q)
  have t_9 := Lib.hid (blk0 t_8.out q)
  have u_9 := Lib.hid (blk0 u_8.out q)
  have v_9 := Lib.hid (blk0 v_8.out q)
  have x_9 := Lib.hid (blk0 x_8.out q)
  have zz_9 := Lib.hid (blk0 zz_8.out q)
  have B9 := Lib.hid (bel0 B8.out B8.out.size q)
  clear q w_8 s_8 a_8 t_8 u_8 v_8 x_8 zz_8 B8
  clear L14_0 L14_1 L14_2 L14_3 L14_4 L14_5 L14_6 L14_7 L14_8 L14_9 L14_10
  have L15_0 : w9.cell? ⟨w1.heap.size, 0, none⟩ = some (.int .i64 1) := (cellsB (i := 0) s_9.out).trans rfl
  have L15_1 : w9.cell? ⟨w1.heap.size, 1, none⟩ = some (.int .i64 0) := (cellsB (i := 1) s_9.out).trans rfl
  have L15_2 : w9.cell? ⟨w1.heap.size, 2, none⟩ = some (.int .i64 5) := (cellsB (i := 2) s_9.out).trans rfl
  have L15_3 : w9.cell? ⟨w1.heap.size, 3, none⟩ = some (.int .i64 1) := (cellsB (i := 3) s_9.out).trans rfl
  have L15_4 : w9.cell? ⟨w1.heap.size, 4, none⟩ = some (.int .i64 0) := (cellsB (i := 4) s_9.out).trans rfl
  have L15_5 : w9.cell? ⟨w1.heap.size, 5, none⟩ = some (.int .i64 0) := (cellsB (i := 5) s_9.out).trans rfl
  have L15_6 : w9.cell? ⟨w1.heap.size, 6, none⟩ = some (.int .i64 0) := (cellsB (i := 6) s_9.out).trans rfl
  have L15_7 : w9.cell? ⟨w1.heap.size, 7, none⟩ = some (.int .i64 1) := (cellsB (i := 7) s_9.out).trans rfl
  have L15_8 : w9.cell? ⟨w1.heap.size, 8, none⟩ = some (.int .i64 0) := (cellsB (i := 8) s_9.out).trans rfl
  have L15_9 : w9.cell? ⟨w1.heap.size, 9, none⟩ = some (.int .i64 0) := (cellsB (i := 9) s_9.out).trans rfl
  have L15_10 : w9.cell? ⟨w1.heap.size, 10, none⟩ = some (.int .i64 7) := (cellsB (i := 10) s_9.out).trans rfl
  go_wp2_with fail
  refine (H10.out _).mono ?_
  rintro e w10 ⟨rfl, q⟩
  have w_10 := Lib.hid (blk0 w_9.out q)
  have s_10 := Lib.hid (blk0 s_9.out q)
  have a_10 := Lib.hid (blk0 a_9.out q)
  have t_10 := Lib.hid (blk0 t_9.out q)
  have u_10 := Lib.hid (blk0 u_9.out q)
  have v_10 := Lib.hid (blk0 v_9.out q)
  have x_10 := Lib.hid (blk0 x_9.out q)
  have zz_10 := Lib.hid (blk0 zz_9.out q)
  have B10 := Lib.hid (bel0 B9.out B9.out.size q)
  clear q w_9 s_9 a_9 t_9 u_9 v_9 x_9 zz_9 B9
  clear L15_0 L15_1 L15_2 L15_3 L15_4 L15_5 L15_6 L15_7 L15_8 L15_9 L15_10
  go_wp2
  go_ret
  exact ⟨rfl, B10.out⟩
end Go.Proofs.Ytplgodfhhlnojaa
