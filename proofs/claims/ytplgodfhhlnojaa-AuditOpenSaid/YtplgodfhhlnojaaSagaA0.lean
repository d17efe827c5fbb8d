/- saga.Answer, walked (printed by gensagan.py). -/
import Derived.Test.YtplgodfhhlnojaaSagaN
import Derived.Test.YtplgodfhhlnojaaSSame
import Derived.Outline
set_option linter.unusedSimpArgs false
set_option linter.unusedVariables false
namespace Go.Proofs.Ytplgodfhhlnojaa
open Go.RowKit
theorem acell (w : World) (o : Obj) (b k : Nat) (hb : b < w.heap.size) : (w.alloc o).cell? ⟨b, k, none⟩ = w.cell? ⟨b, k, none⟩ := by
  have e : (w.alloc o).heap[b]? = w.heap[b]? := Below.heap_alloc w o b hb
  unfold World.cell?
  rw [e]
theorem three_boxes (w : World) (a b c : Obj) : (((w.alloc a).alloc b).alloc c).heap[w.heap.size]? = some a ∧ (((w.alloc a).alloc b).alloc c).heap[w.heap.size + 1]? = some b ∧
    (((w.alloc a).alloc b).alloc c).heap[w.heap.size + 1 + 1]? = some c ∧ Below w.heap.size w (((w.alloc a).alloc b).alloc c) := by
  refine ⟨?_, ?_, ?_, ?_⟩
  · exact (Below.heap_alloc _ _ _ (by simp; omega)).trans ((Below.heap_alloc _ _ _ (by simp)).trans (heap_alloc_new w a))
  · exact (Below.heap_alloc _ _ _ (by simp)).trans (by have h := heap_alloc_new (w.alloc a) b; simpa using h)
  · have h := heap_alloc_new ((w.alloc a).alloc b) c
    have e : ((w.alloc a).alloc b).heap.size = w.heap.size + 1 + 1 := by simp
    rw [e] at h
    exact h
  · exact (((Below.refl _ _).alloc (Nat.le_refl _) _).alloc (by simp) _).alloc (by simp; omega) _
theorem stepsL_len (s : S11) : (stepsL s).length ≤ 9 := by
  unfold stepsL
  split
  · unfold forwardL; rw [List.length_append, List.length_append]; have := partsE_len s.w 1; have := partsE_len s.w 2; have := purseL_len s.w 4; omega
  · split
    · simp
    · split
      · unfold backL; rw [List.length_append, List.length_reverse]; have := partsE_len s.w 3; have := purseL_len s.w 6; omega
      · simp
theorem stepsL_none (s : S11) (h1 : s.ph ≠ 1) (h2 : s.ph ≠ 2) (h3 : s.ph ≠ 3) : stepsL s = [] := by simp [stepsL, h1, h2, h3]
theorem stepsL_same (x : W7) (ph a b c a' b' c' : Int) : stepsL ⟨x, ph, a, b, c⟩ = stepsL ⟨x, ph, a', b', c'⟩ := rfl
theorem next_true (s : S11) (h : (nextS s).2 = true) : MayS s ∧ (s.ph = 1 ∨ s.ph = 2 ∨ s.ph = 3) ∧ 0 ≤ s.st ∧ s.st < (stepsL s).length ∧ (stepsL s).length ≤ 9 := by
  unfold nextS at h
  split at h
  · rename_i g
    refine ⟨g.1, ?_, g.1.2.2.1.1, ?_, stepsL_len s⟩
    · by_cases h1 : s.ph = 1
      · exact .inl h1
      by_cases h2 : s.ph = 2
      · exact .inr (.inl h2)
      by_cases h3 : s.ph = 3
      · exact .inr (.inr h3)
      · rw [stepsL_none s h1 h2 h3] at g; exact absurd g.2 (by simp)
    · have := g.1.2.2.1.2; have := g.2; omega
  · cases h
theorem cells11 {w : World} {B : Nat} {b c d m0 m1 m2 p ph st re si : Int} (h : w.heap[B]? = some (.cells #[.int .i64 b, .int .i64 c, .int .i64 d, .int .i64 m0, .int .i64 m1, .int .i64 m2, .int .i64 p, .int .i64 ph, .int .i64 st, .int .i64 re, .int .i64 si] 26 (0, 0))) : w.cell? ⟨B, 0, none⟩ = some (.int .i64 b) ∧ w.cell? ⟨B, 1, none⟩ = some (.int .i64 c) ∧ w.cell? ⟨B, 2, none⟩ = some (.int .i64 d) ∧ w.cell? ⟨B, 3, none⟩ = some (.int .i64 m0) ∧ w.cell? ⟨B, 4, none⟩ = some (.int .i64 m1) ∧ w.cell? ⟨B, 5, none⟩ = some (.int .i64 m2) ∧ w.cell? ⟨B, 6, none⟩ = some (.int .i64 p) ∧ w.cell? ⟨B, 7, none⟩ = some (.int .i64 ph) ∧ w.cell? ⟨B, 8, none⟩ = some (.int .i64 st) ∧ w.cell? ⟨B, 9, none⟩ = some (.int .i64 re) ∧ w.cell? ⟨B, 10, none⟩ = some (.int .i64 si) :=
  ⟨(cellsB (i := 0) h).trans rfl, (cellsB (i := 1) h).trans rfl, (cellsB (i := 2) h).trans rfl, (cellsB (i := 3) h).trans rfl, (cellsB (i := 4) h).trans rfl, (cellsB (i := 5) h).trans rfl, (cellsB (i := 6) h).trans rfl, (cellsB (i := 7) h).trans rfl, (cellsB (i := 8) h).trans rfl, (cellsB (i := 9) h).trans rfl, (cellsB (i := 10) h).trans rfl⟩
end Go.Proofs.Ytplgodfhhlnojaa
