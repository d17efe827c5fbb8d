/- Contracts of the document's sagas by their values (printed by genasks15.py). -/
import Derived.Test.YtplgodfhhlnojaaSagaRA
import Derived.Test.YtplgodfhhlnojaaSagaRL
import Derived.Test.YtplgodfhhlnojaaSagaT
import Derived.Outline
set_option linter.unusedSimpArgs false
set_option linter.unusedVariables false
namespace Go.Proofs.Ytplgodfhhlnojaa
open Go.RowKit
theorem rnew_is {x : W7} {now k : Int} {s : S11} (e : newS x now = (s, k)) (w : World) : Calls Try.prog 33 #[x.val, .int .i64 now] w fun e w' => e = .returned (.tuple #[s.val, .int .i64 k]) ∧ Below w.heap.size w w' := by
  have h := rnew14 x now w
  rw [e] at h
  exact h
theorem rnext_is {s : S11} {a : A6} {b : Bool} (e : nextS s = (a, b)) (w : World) : Calls Try.prog 19 #[s.val] w fun e w' => e = .returned (.tuple #[a.val, .bool b]) ∧ Below w.heap.size w w' := by
  have h := rnext14 s w
  rw [e] at h
  exact h
theorem rans_is {s t : S11} {a : A6} {n : Int} {b : Bool} (e : ansS s a n = (t, b)) (w : World) : Calls Try.prog 27 #[s.val, a.val, .int .i64 n] w fun e w' => e = .returned (.tuple #[t.val, .bool b]) ∧ Below w.heap.size w w' := by
  have h := rans14 s a n w
  rw [e] at h
  exact h
theorem rcan_is {s t : S11} {b : Bool} (e : canS s = (t, b)) (w : World) : Calls Try.prog 29 #[s.val] w fun e w' => e = .returned (.tuple #[t.val, .bool b]) ∧ Below w.heap.size w w' := by
  have h := rcan14 s w
  rw [e] at h
  exact h
theorem rlate_is {s t : S11} {n : Int} {b : Bool} (e : lateS s n = (t, b)) (w : World) : Calls Try.prog 31 #[s.val, .int .i64 n] w fun e w' => e = .returned (.tuple #[t.val, .bool b]) ∧ Below w.heap.size w w' := by
  have h := rlate14 s n w
  rw [e] at h
  exact h
theorem rtells_is {s : S11} {n : Int} (e : tellS s = n) (w : World) : Calls Try.prog 24 #[s.val] w fun e w' => e = .returned (.int .i64 n) ∧ Below w.heap.size w w' := by
  have h := rtells14 s w
  rw [e] at h
  exact h
theorem newd2 {w w2 : World} {o : Obj} (q : Below (w.alloc o).drew.heap.size (w.alloc o).drew w2) : w2.heap[w.heap.size]? = some o := new1 (w := w.drew) q
theorem newd1 {w w2 : World} {o : Obj} (q : Below (w.drew.alloc o).heap.size (w.drew.alloc o) w2) : w2.heap[w.heap.size]? = some o := new1 (w := w.drew) q
set_option maxRecDepth 100000 in
set_option maxHeartbeats 4000000 in
theorem pair_c (x : A6) (w : World) : Calls Try.prog 22 #[x.val] w fun e w' => e = .returned x.val ∧ Below w.heap.size w w' := by
  obtain ⟨xn, xk, xb, xu, xc, xa⟩ := x
  unfold A6.val
  simp only
  go_enter Try.func22, Try.ntmps22
  go_wp2
  refine bodyPost_ret (v := .agg #[.int .i64 xn, .int .i64 xk, .int .i64 xb, .int .i64 xu, .int .i64 xc, .int .i64 xa]) (by simp [results, Try.results22, go_sem]) rfl ⟨rfl, ?_⟩
  repeat (first | (refine belowS ?_ (by omega)) | (refine belowS ?_ (by simp; omega)))
  exact ((Below.refl _ _).alloc (Nat.le_refl _) _).alloc (by simp) _
end Go.Proofs.Ytplgodfhhlnojaa
