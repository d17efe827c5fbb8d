/- Blocks, rows and bounds behind calls, in short (for any seat with want). -/
import Derived.Test.YtplgodfhhlnojaaWant
import Derived.Test.YtplgodfhhlnojaaOwnG
import Derived.Test.YtplgodfhhlnojaaOwnR
set_option linter.unusedSimpArgs false
set_option linter.unusedVariables false
namespace Go.Proofs.Ytplgodfhhlnojaa
open Go.RowKit
theorem lt_size {w : World} {b : Nat} {o : Obj} (p : w.heap[b]? = some o) : b < w.heap.size := (Array.getElem?_eq_some_iff.1 p).1
theorem setB {w : World} {g i : Nat} {cs : Array Value} {t : TypeId} {m : Nat × Nat} {v : Value} (p : w.heap[g]? = some (.cells cs t m)) : (w.setCell ⟨g, i, none⟩ v).heap[g]? = some (.cells (cs.setIfInBounds i v) t m) := by
  simp [World.setCell, Array.getElem?_modify, p]
theorem setO {w : World} {g b i : Nat} {v : Value} (p : g ≠ b) : (w.setCell ⟨g, i, none⟩ v).heap[b]? = w.heap[b]? := by
  simp [World.setCell, Array.getElem?_modify, p]
theorem belowS {a w : World} {D R i : Nat} {u : Value} (h : Below D a w) (hR : D ≤ R) : Below D a (w.setCell ⟨R, i, none⟩ u) := h.setCell (p := ⟨R, i, none⟩) hR u
theorem cellsB {w : World} {g i : Nat} {cs : Array Value} {t : TypeId} {m : Nat × Nat} (h : w.heap[g]? = some (.cells cs t m)) : w.cell? ⟨g, i, none⟩ = cs[i]? := by simp [World.cell?, h]
theorem frozB {w : World} {g i : Nat} {cs : Array Value} {t : TypeId} (h : w.heap[g]? = some (.cells cs t (0, 0))) : w.frozen? ⟨g, i, none⟩ = false := by
  simp [World.frozen?, h]
section
variable {w w0 w2 : World} {o : Obj} {b D n sz : Nat} {obj : Obj} {A : Option Addr} {xs : List Value}
theorem blk0 (H : w.heap[b]? = some obj) (q : Below w.heap.size w w2) : w2.heap[b]? = some obj := (q.block b (lt_size H)).trans H
theorem blk1 (H : w.heap[b]? = some obj) (q : Below (w.alloc o).heap.size (w.alloc o) w2) : w2.heap[b]? = some obj :=
  (q.block b (by have := lt_size H; simp; omega)).trans ((Below.heap_alloc _ _ _ (lt_size H)).trans H)
theorem alc (H : w.heap[b]? = some obj) : (w.alloc o).heap[b]? = some obj := (Below.heap_alloc _ _ _ (lt_size H)).trans H
theorem new1 (q : Below (w.alloc o).heap.size (w.alloc o) w2) : w2.heap[w.heap.size]? = some o := (q.block w.heap.size (by simp)).trans (heap_alloc_new w o)
theorem bel0 (B : Below D w0 w) (hd : D ≤ w.heap.size) (q : Below w.heap.size w w2) : Below D w0 w2 := B.trans (q.mono hd)
theorem bel1 (B : Below D w0 w) (hd : D ≤ w.heap.size) (q : Below (w.alloc o).heap.size (w.alloc o) w2) : Below D w0 w2 := (B.alloc hd o).trans (q.mono (by simp; omega))
theorem rd0 (R : Rd w w.heap.size sz A n xs) (q : Below w.heap.size w w2) : Rd w2 w2.heap.size sz A n xs := (R.below q).more q.size
theorem rda (R : Rd w w.heap.size sz A n xs) : Rd (w.alloc o) (w.alloc o).heap.size sz A n xs := rd0 R ((Below.refl _ _).alloc (Nat.le_refl _) _)
theorem rd1 (R : Rd w w.heap.size sz A n xs) (q : Below (w.alloc o).heap.size (w.alloc o) w2) : Rd w2 w2.heap.size sz A n xs := rd0 (rda R) q
theorem blkd {k : Nat} (H : w.heap[b]? = some obj) (q : Below ((w.alloc o).drewN k).heap.size ((w.alloc o).drewN k) w2) : w2.heap[b]? = some obj :=
  (q.block b (by have := lt_size H; simp [World.drewN]; omega)).trans ((Below.heap_alloc _ _ _ (lt_size H)).trans H)
theorem newd {k : Nat} (q : Below ((w.alloc o).drewN k).heap.size ((w.alloc o).drewN k) w2) : w2.heap[w.heap.size]? = some o := (q.block w.heap.size (by simp [World.drewN])).trans (heap_alloc_new w o)
theorem beld {k : Nat} (B : Below D w0 w) (hd : D ≤ w.heap.size) (q : Below ((w.alloc o).drewN k).heap.size ((w.alloc o).drewN k) w2) : Below D w0 w2 := (below_drewN (B.alloc hd o) k).trans (q.mono (by simp [World.drewN]; omega))
theorem rdd {k : Nat} (R : Rd w w.heap.size sz A n xs) (q : Below ((w.alloc o).drewN k).heap.size ((w.alloc o).drewN k) w2) : Rd w2 w2.heap.size sz A n xs := rd0 (w := (w.alloc o).drewN k) ((rda R).drewN k) q
theorem one_box (w : World) (a : Obj) : (w.alloc a).heap[w.heap.size]? = some a ∧ Below w.heap.size w (w.alloc a) := ⟨heap_alloc_new w a, (Below.refl _ _).alloc (Nat.le_refl _) _⟩
theorem two_boxes (w : World) (a b : Obj) : ((w.alloc a).alloc b).heap[w.heap.size]? = some a ∧ ((w.alloc a).alloc b).heap[w.heap.size + 1]? = some b ∧ Below w.heap.size w ((w.alloc a).alloc b) := by
  refine ⟨?_, ?_, ?_⟩
  · exact (Below.heap_alloc _ _ _ (by simp)).trans (heap_alloc_new w a)
  · have h := heap_alloc_new (w.alloc a) b; simpa using h
  · exact ((Below.refl _ _).alloc (Nat.le_refl _) _).alloc (by simp) _
end
end Go.Proofs.Ytplgodfhhlnojaa
