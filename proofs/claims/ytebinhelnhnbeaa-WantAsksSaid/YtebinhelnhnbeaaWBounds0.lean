/- The law WantBounds, walked (under way). -/
import Derived.Test.YtebinhelnhnbeaaTold3
import Derived.Test.YtebinhelnhnbeaaOwnB
import Derived.Outline
set_option linter.unusedSimpArgs false
set_option linter.unusedVariables false
namespace Go.Proofs.Ytebinhelnhnbeaa
open Go.RowKit
def cW (x : W7) : Array Value := #[.int .i64 x.b, .int .i64 x.c, .int .i64 x.d, .int .i64 x.m0, .int .i64 x.m1, .int .i64 x.m2, .int .i64 x.p]
def cO (o : O5) : Array Value := #[.int .i64 o.kind, .int .i64 o.book, .int .i64 o.units, .int .i64 o.cust, .int .i64 o.amount]
def TwoAt (w : World) (x : W7) (o : O5) (p q : Value) (wx : World) : Prop := ∃ g h, p = .pointer (some ⟨g, 0, none⟩) ∧ q = .pointer (some ⟨h, 0, none⟩) ∧ w.heap.size + 2 ≤ g ∧ w.heap.size + 2 ≤ h ∧ g ≠ h ∧ wx.heap[g]? = some (.cells (cW x) 57 (0, 0)) ∧ wx.heap[h]? = some (.cells (cO o) 65 (0, 0)) ∧
  wx.heap[w.heap.size]? = some (.cells (cW x) 57 (0, 0)) ∧ wx.heap[w.heap.size + 1]? = some (.cells (cO o) 65 (0, 0)) ∧ Below w.heap.size w wx
theorem four_at (w : World) (a b c d : Obj) : ((((w.alloc a).alloc b).alloc c).alloc d).drew.heap[w.heap.size]? = some a ∧ ((((w.alloc a).alloc b).alloc c).alloc d).drew.heap[w.heap.size + 1]? = some b ∧
    ((((w.alloc a).alloc b).alloc c).alloc d).drew.heap[w.heap.size + 1 + 1]? = some c ∧ ((((w.alloc a).alloc b).alloc c).alloc d).drew.heap[w.heap.size + 1 + 1 + 1]? = some d := by
  refine ⟨?_, ?_, ?_, ?_⟩
  · exact (Below.heap_alloc _ _ _ (by simp; omega)).trans ((Below.heap_alloc _ _ _ (by simp; omega)).trans ((Below.heap_alloc _ _ _ (by simp)).trans (heap_alloc_new w a)))
  · exact (Below.heap_alloc _ _ _ (by simp)).trans ((Below.heap_alloc _ _ _ (by simp)).trans (by have h := heap_alloc_new (w.alloc a) b; simpa using h))
  · exact (Below.heap_alloc _ _ _ (by simp)).trans (by have h := heap_alloc_new ((w.alloc a).alloc b) c; simpa using h)
  · have h := heap_alloc_new (((w.alloc a).alloc b).alloc c) d
    have e : (((w.alloc a).alloc b).alloc c).heap.size = w.heap.size + 1 + 1 + 1 := by simp
    rw [e] at h
    exact h
theorem four_below (w : World) (a b c d : Obj) : Below w.heap.size w ((((w.alloc a).alloc b).alloc c).alloc d).drew := by
  refine Below.drew ?_
  exact ((((Below.refl _ _).alloc (Nat.le_refl _) _).alloc (by simp) _).alloc (by simp; omega) _).alloc (by simp; omega) _
theorem setB {w : World} {g i : Nat} {cs : Array Value} {t : TypeId} {m : Nat × Nat} {v : Value} (p : w.heap[g]? = some (.cells cs t m)) : (w.setCell ⟨g, i, none⟩ v).heap[g]? = some (.cells (cs.setIfInBounds i v) t m) := by
  simp [World.setCell, Array.getElem?_modify, p]
theorem setO {w : World} {g b i : Nat} {v : Value} (p : g ≠ b) : (w.setCell ⟨g, i, none⟩ v).heap[b]? = w.heap[b]? := by
  simp [World.setCell, Array.getElem?_modify, p]
theorem lt_size {w : World} {b : Nat} {o : Obj} (p : w.heap[b]? = some o) : b < w.heap.size := (Array.getElem?_eq_some_iff.1 p).1
end Go.Proofs.Ytebinhelnhnbeaa
