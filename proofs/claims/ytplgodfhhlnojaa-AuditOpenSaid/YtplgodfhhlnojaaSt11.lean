/- Eleven cells of a block stored to, one behind another. -/
import Derived.Test.YtplgodfhhlnojaaWCalls
set_option linter.unusedSimpArgs false
set_option linter.unusedVariables false
namespace Go.Proofs.Ytplgodfhhlnojaa
open Go.RowKit
def st11 (w : World) (g : Nat) (v0 v1 v2 v3 v4 v5 v6 v7 v8 v9 v10 : Value) : World := (((((((((((w.setCell ⟨g, 0, none⟩ v0).setCell ⟨g, 1, none⟩ v1).setCell ⟨g, 2, none⟩ v2).setCell ⟨g, 3, none⟩ v3).setCell ⟨g, 4, none⟩ v4).setCell ⟨g, 5, none⟩ v5).setCell ⟨g, 6, none⟩ v6).setCell ⟨g, 7, none⟩ v7).setCell ⟨g, 8, none⟩ v8).setCell ⟨g, 9, none⟩ v9).setCell ⟨g, 10, none⟩ v10)
theorem arr11 (c0 c1 c2 c3 c4 c5 c6 c7 c8 c9 c10 v0 v1 v2 v3 v4 v5 v6 v7 v8 v9 v10 : Value) : (((((((((((#[c0, c1, c2, c3, c4, c5, c6, c7, c8, c9, c10].setIfInBounds 0 v0).setIfInBounds 1 v1).setIfInBounds 2 v2).setIfInBounds 3 v3).setIfInBounds 4 v4).setIfInBounds 5 v5).setIfInBounds 6 v6).setIfInBounds 7 v7).setIfInBounds 8 v8).setIfInBounds 9 v9).setIfInBounds 10 v10) = #[v0, v1, v2, v3, v4, v5, v6, v7, v8, v9, v10] := by
  simp only [List.setIfInBounds_toArray, List.set_cons_zero, List.set_cons_succ]
section
variable {w a : World} {g D : Nat} {c0 c1 c2 c3 c4 c5 c6 c7 c8 c9 c10 v0 v1 v2 v3 v4 v5 v6 v7 v8 v9 v10 : Value} {t : TypeId} {m : Nat × Nat}
theorem st11_at (h : w.heap[g]? = some (.cells #[c0, c1, c2, c3, c4, c5, c6, c7, c8, c9, c10] t m)) : (st11 w g v0 v1 v2 v3 v4 v5 v6 v7 v8 v9 v10).heap[g]? = some (.cells #[v0, v1, v2, v3, v4, v5, v6, v7, v8, v9, v10] t m) := by
  have h0 := setB (i := 0) (v := v0) h
  have h1 := setB (i := 1) (v := v1) h0
  have h2 := setB (i := 2) (v := v2) h1
  have h3 := setB (i := 3) (v := v3) h2
  have h4 := setB (i := 4) (v := v4) h3
  have h5 := setB (i := 5) (v := v5) h4
  have h6 := setB (i := 6) (v := v6) h5
  have h7 := setB (i := 7) (v := v7) h6
  have h8 := setB (i := 8) (v := v8) h7
  have h9 := setB (i := 9) (v := v9) h8
  have h10 := setB (i := 10) (v := v10) h9
  rw [arr11] at h10
  unfold st11
  exact h10
theorem st11_ne {b : Nat} (hb : g ≠ b) : (st11 w g v0 v1 v2 v3 v4 v5 v6 v7 v8 v9 v10).heap[b]? = w.heap[b]? := by
  unfold st11
  refine (setO hb).trans ?_
  refine (setO hb).trans ?_
  refine (setO hb).trans ?_
  refine (setO hb).trans ?_
  refine (setO hb).trans ?_
  refine (setO hb).trans ?_
  refine (setO hb).trans ?_
  refine (setO hb).trans ?_
  refine (setO hb).trans ?_
  refine (setO hb).trans ?_
  refine (setO hb).trans ?_
  rfl
theorem st11_below (h : Below D a w) (hg : D ≤ g) : Below D a (st11 w g v0 v1 v2 v3 v4 v5 v6 v7 v8 v9 v10) := by
  have h0 := belowS (i := 0) (u := v0) h hg
  have h1 := belowS (i := 1) (u := v1) h0 hg
  have h2 := belowS (i := 2) (u := v2) h1 hg
  have h3 := belowS (i := 3) (u := v3) h2 hg
  have h4 := belowS (i := 4) (u := v4) h3 hg
  have h5 := belowS (i := 5) (u := v5) h4 hg
  have h6 := belowS (i := 6) (u := v6) h5 hg
  have h7 := belowS (i := 7) (u := v7) h6 hg
  have h8 := belowS (i := 8) (u := v8) h7 hg
  have h9 := belowS (i := 9) (u := v9) h8 hg
  have h10 := belowS (i := 10) (u := v10) h9 hg
  exact h10
theorem st11_size : (st11 w g v0 v1 v2 v3 v4 v5 v6 v7 v8 v9 v10).heap.size = w.heap.size := by simp [st11, World.setCell]
end
end Go.Proofs.Ytplgodfhhlnojaa
