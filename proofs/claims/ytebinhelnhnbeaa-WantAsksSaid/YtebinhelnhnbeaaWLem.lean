/- Blocks, rows and bounds behind calls, in short. -/
import Derived.Test.YtebinhelnhnbeaaTold3
import Derived.Test.YtebinhelnhnbeaaOwnB
import Derived.Test.YtebinhelnhnbeaaWBounds0
set_option linter.unusedSimpArgs false
set_option linter.unusedVariables false
namespace Go.Proofs.Ytebinhelnhnbeaa
open Go.RowKit
section
variable {w w0 w2 : World} {o : Obj} {b D n : Nat} {obj : Obj} {A : Option Addr} {xs : List Value}
theorem blk0 (H : w.heap[b]? = some obj) (q : Below w.heap.size w w2) : w2.heap[b]? = some obj := (q.block b (lt_size H)).trans H
theorem blk1 (H : w.heap[b]? = some obj) (q : Below (w.alloc o).heap.size (w.alloc o) w2) : w2.heap[b]? = some obj :=
  (q.block b (by have := lt_size H; simp; omega)).trans ((Below.heap_alloc _ _ _ (lt_size H)).trans H)
theorem alc (H : w.heap[b]? = some obj) : (w.alloc o).heap[b]? = some obj := (Below.heap_alloc _ _ _ (lt_size H)).trans H
theorem new1 (q : Below (w.alloc o).heap.size (w.alloc o) w2) : w2.heap[w.heap.size]? = some o := (q.block w.heap.size (by simp)).trans (heap_alloc_new w o)
theorem bel0 (B : Below D w0 w) (hd : D ≤ w.heap.size) (q : Below w.heap.size w w2) : Below D w0 w2 := B.trans (q.mono hd)
theorem bel1 (B : Below D w0 w) (hd : D ≤ w.heap.size) (q : Below (w.alloc o).heap.size (w.alloc o) w2) : Below D w0 w2 := (B.alloc hd o).trans (q.mono (by simp; omega))
theorem rd0 (R : Rd w w.heap.size 1 A n xs) (q : Below w.heap.size w w2) : Rd w2 w2.heap.size 1 A n xs := (R.below q).more q.size
theorem rda (R : Rd w w.heap.size 1 A n xs) : Rd (w.alloc o) (w.alloc o).heap.size 1 A n xs := rd0 R ((Below.refl _ _).alloc (Nat.le_refl _) _)
theorem rd1 (R : Rd w w.heap.size 1 A n xs) (q : Below (w.alloc o).heap.size (w.alloc o) w2) : Rd w2 w2.heap.size 1 A n xs := rd0 (rda R) q
theorem blkd {k : Nat} (H : w.heap[b]? = some obj) (q : Below ((w.alloc o).drewN k).heap.size ((w.alloc o).drewN k) w2) : w2.heap[b]? = some obj :=
  (q.block b (by have := lt_size H; simp [World.drewN]; omega)).trans ((Below.heap_alloc _ _ _ (lt_size H)).trans H)
theorem newd {k : Nat} (q : Below ((w.alloc o).drewN k).heap.size ((w.alloc o).drewN k) w2) : w2.heap[w.heap.size]? = some o := (q.block w.heap.size (by simp [World.drewN])).trans (heap_alloc_new w o)
theorem beld {k : Nat} (B : Below D w0 w) (hd : D ≤ w.heap.size) (q : Below ((w.alloc o).drewN k).heap.size ((w.alloc o).drewN k) w2) : Below D w0 w2 := (below_drewN (B.alloc hd o) k).trans (q.mono (by simp [World.drewN]; omega))
theorem rdd {k : Nat} (R : Rd w w.heap.size 1 A n xs) (q : Below ((w.alloc o).drewN k).heap.size ((w.alloc o).drewN k) w2) : Rd w2 w2.heap.size 1 A n xs := rd0 (w := (w.alloc o).drewN k) ((rda R).drewN k) q
theorem four_boxes (w : World) (a b c d : Obj) : ((((w.alloc a).alloc b).alloc c).alloc d).heap[w.heap.size]? = some a ∧ ((((w.alloc a).alloc b).alloc c).alloc d).heap[w.heap.size + 1]? = some b ∧
    ((((w.alloc a).alloc b).alloc c).alloc d).heap[w.heap.size + 2]? = some c ∧ ((((w.alloc a).alloc b).alloc c).alloc d).heap[w.heap.size + 3]? = some d ∧ Below w.heap.size w ((((w.alloc a).alloc b).alloc c).alloc d) := by
  refine ⟨?_, ?_, ?_, ?_, ?_⟩
  · exact (Below.heap_alloc _ _ _ (by simp; omega)).trans ((Below.heap_alloc _ _ _ (by simp; omega)).trans ((Below.heap_alloc _ _ _ (by simp)).trans (heap_alloc_new w a)))
  · exact (Below.heap_alloc _ _ _ (by simp)).trans ((Below.heap_alloc _ _ _ (by simp)).trans (by have h := heap_alloc_new (w.alloc a) b; simpa using h))
  · exact (Below.heap_alloc _ _ _ (by simp)).trans (by have h := heap_alloc_new ((w.alloc a).alloc b) c; simpa using h)
  · have h := heap_alloc_new (((w.alloc a).alloc b).alloc c) d
    have e : (((w.alloc a).alloc b).alloc c).heap.size = w.heap.size + 3 := by simp
    rw [e] at h
    exact h
  · exact ((((Below.refl _ _).alloc (Nat.le_refl _) _).alloc (by simp) _).alloc (by simp; omega) _).alloc (by simp; omega) _
theorem two_boxes (w : World) (a b : Obj) : ((w.alloc a).alloc b).heap[w.heap.size]? = some a ∧ ((w.alloc a).alloc b).heap[w.heap.size + 1]? = some b ∧ Below w.heap.size w ((w.alloc a).alloc b) := by
  refine ⟨?_, ?_, ?_⟩
  · exact (Below.heap_alloc _ _ _ (by simp)).trans (heap_alloc_new w a)
  · have h := heap_alloc_new (w.alloc a) b; simpa using h
  · exact ((Below.refl _ _).alloc (Nat.le_refl _) _).alloc (by simp) _
theorem rd_take {w : World} {D n k : Nat} {A : Option Addr} {l : List UInt8} (R : Rd w D 1 A n (B8 l)) (hk : k ≤ n) : Rd w D 1 A k (B8 (l.take k)) := by
  have h := R.take hk
  rw [Nat.mul_one, show (B8 l).take k = B8 (l.take k) from by simp [B8]] at h
  exact h
end
theorem encW_len (x : W7) : 0 < (encW x).length ∧ (encW x).length ≤ 100 := by
  constructor
  · have := encW_split x []; rw [List.append_nil] at this; rw [this]; have := enc_pos x.b; simp; omega
  · have := encs_le (W7.list x); simp [W7.list] at this; unfold encW; simp [W7.list]; omega
theorem encO_len (x : O5) : 0 < (encO x).length ∧ (encO x).length ≤ 100 := by
  constructor
  · have := encO_split x []; rw [List.append_nil] at this; rw [this]; have := enc_pos x.kind; simp; omega
  · have := encs_le (O5.list x); simp [O5.list] at this; unfold encO; simp [O5.list]; omega
theorem encW_same (x y : W7) (hx : MayW x) (hy : MayW y) : (encW x == encW y) = decide (x = y) := by
  rw [Bool.eq_iff_iff, beq_iff_eq, decide_eq_true_eq]
  exact ⟨fun e => (encW_inj x y [] [] (MayW_fits _ hx) (MayW_fits _ hy) (by rw [e])).1, fun e => by rw [e]⟩
theorem encO_same (x y : O5) (hx : MayO x) (hy : MayO y) : (encO x == encO y) = decide (x = y) := by
  rw [Bool.eq_iff_iff, beq_iff_eq, decide_eq_true_eq]
  exact ⟨fun e => (encO_inj x y [] [] (MayO_fits _ hx) (MayO_fits _ hy) (by rw [e])).1, fun e => by rw [e]⟩
/-- Put, whatever it is given. -/
theorem put_anyW (x : W7) (h : MayW x ∨ ¬ MayW x) : ∃ k : Int, ∀ W, Calls Try.prog 38 #[x.val] W fun e w' => ∃ A n c, e = .returned (.tuple #[.slice A n c, .int .i64 k]) ∧ Below W.heap.size W w' := by
  rcases h with h | h
  · refine ⟨0, fun W => (encW_yes x W h (MayW_fits _ h)).mono ?_⟩
    rintro e w' ⟨v, rfl, ob, q⟩
    obtain ⟨A, c, rfl, _⟩ := ob.form
    exact ⟨A, _, c, rfl, q⟩
  · exact ⟨1, fun W => (encW_no x W h).mono fun e w' ⟨he, q⟩ => ⟨none, 0, 0, he, q⟩⟩
theorem put_anyO (x : O5) (h : MayO x ∨ ¬ MayO x) : ∃ k : Int, ∀ W, Calls Try.prog 41 #[x.val] W fun e w' => ∃ A n c, e = .returned (.tuple #[.slice A n c, .int .i64 k]) ∧ Below W.heap.size W w' := by
  rcases h with h | h
  · refine ⟨0, fun W => (encO_yes x W h (MayO_fits _ h)).mono ?_⟩
    rintro e w' ⟨v, rfl, ob, q⟩
    obtain ⟨A, c, rfl, _⟩ := ob.form
    exact ⟨A, _, c, rfl, q⟩
  · exact ⟨1, fun W => (encO_no x W h).mono fun e w' ⟨he, q⟩ => ⟨none, 0, 0, he, q⟩⟩
end Go.Proofs.Ytebinhelnhnbeaa
