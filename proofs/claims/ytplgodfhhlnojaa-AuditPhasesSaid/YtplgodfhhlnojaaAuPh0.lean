/- The law AuditPhases: what is right of each phase (no program in sight). -/
import Derived.Test.YtplgodfhhlnojaaAudT
import Derived.Test.YtplgodfhhlnojaaAudR1
import Derived.Test.YtplgodfhhlnojaaSgPure
set_option linter.unusedSimpArgs false
set_option linter.unusedVariables false
namespace Go.Proofs.Ytplgodfhhlnojaa
open Go.RowKit
def V03 (v : Int) : Prop := v = 0 ∨ v = 3
theorem gone03 {v a b c d : Int} (h : V03 v) : GoneE ⟨v, a, b, c, d⟩ := by
  unfold V03 at h; unfold GoneE; simp only; omega
theorem open03 {n v a b c d : Int} (h : V03 v) : OpenE n ⟨v, a, b, c, d⟩ := by
  unfold V03 at h; unfold OpenE; simp only; omega
theorem conf03 {n v a b c d : Int} (h : V03 v) (hn : 0 < n) : ¬ ConfP n ⟨v, a, b, c, d⟩ := by
  unfold V03 at h; unfold ConfP; simp only; rw [if_neg (by omega)]; omega
def q03 (v0 v1 v2 v3 : Int) : Q4 := ⟨⟨v0, 0, 0, 0, 0⟩, ⟨v1, 0, 0, 0, 0⟩, ⟨v2, 0, 0, 0, 0⟩, ⟨v3, 0, 0, 0, 0⟩⟩
theorem nothing03 {v0 v1 v2 v3 : Int} (h0 : V03 v0) (h1 : V03 v1) (h2 : V03 v2) (h3 : V03 v3) : NothingP (q03 v0 v1 v2 v3) := ⟨gone03 h0, gone03 h1, gone03 h2, gone03 h3⟩
theorem openP03 (x : W7) {v0 v1 v2 v3 : Int} (h0 : V03 v0) (h1 : V03 v1) (h2 : V03 v2) (h3 : V03 v3) : OpenP x (q03 v0 v1 v2 v3) :=
  ⟨open03 h0, open03 h1, open03 h2, by have := h3; unfold V03 at this; unfold q03; simp only; omega, fun h => by have := h3; unfold V03 at this; unfold q03 at h; simp only at h; omega⟩
theorem all03 (x : W7) (hx : MayW x) {v0 v1 v2 v3 : Int} (h0 : V03 v0) (h1 : V03 v1) (h2 : V03 v2) : ¬ AllP x (q03 v0 v1 v2 v3) := by
  rintro ⟨a, b, c, _⟩
  rcases hx.2.1 with h | h | h
  · exact conf03 h0 h a
  · exact conf03 h1 h b
  · exact conf03 h2 h c
theorem tk4 : TickOk 4 := ⟨by omega, by omega⟩
theorem ph1_03 (x : W7) (hx : MayW x) {v0 v1 v2 v3 : Int} (h0 : V03 v0) (h1 : V03 v1) (h2 : V03 v2) (h3 : V03 v3) : RightP ⟨x, 1, 0, 0, 4⟩ (q03 v0 v1 v2 v3) :=
  ⟨may_1 x 0 4 hx tk4 (fwd_pos x hx).1, by simp only; rw [if_neg (by omega), if_neg (by omega), if_neg (by omega)]; exact openP03 x h0 h1 h2 h3⟩
theorem ph3_03 (x : W7) (hx : MayW x) {v0 v1 v2 v3 : Int} (h0 : V03 v0) (h1 : V03 v1) (h2 : V03 v2) (h3 : V03 v3) : RightP ⟨x, 3, 0, 4, 4⟩ (q03 v0 v1 v2 v3) :=
  ⟨may_3 x 0 4 4 hx tk4 ⟨by omega, by omega, .inl (by omega)⟩ (bck_pos x hx).1, by simp only; rw [if_neg (by omega), if_neg (by omega), if_neg (by omega)]; exact openP03 x h0 h1 h2 h3⟩
theorem ph5_03 (x : W7) (hx : MayW x) {v0 v1 v2 v3 : Int} (h0 : V03 v0) (h1 : V03 v1) (h2 : V03 v2) (h3 : V03 v3) : RightP ⟨x, 5, 0, 4, 4⟩ (q03 v0 v1 v2 v3) :=
  ⟨may_5 x 4 4 hx tk4 ⟨by omega, by omega, .inl (by omega)⟩, by simp only; rw [if_neg (by omega), if_pos trivial]; exact nothing03 h0 h1 h2 h3⟩
theorem ph2_03 (x : W7) (hx : MayW x) {v0 v1 v2 v3 : Int} (h0 : V03 v0) (h1 : V03 v1) (h2 : V03 v2) : ¬ RightP ⟨x, 2, 0, 0, 4⟩ (q03 v0 v1 v2 v3) := by
  rintro ⟨_, h⟩
  simp only at h
  rw [if_neg (by omega), if_neg (by omega), if_pos trivial] at h
  exact all03 x hx h0 h1 h2 h.1
theorem ph4_03 (x : W7) (hx : MayW x) {v0 v1 v2 v3 : Int} (h0 : V03 v0) (h1 : V03 v1) (h2 : V03 v2) : ¬ RightP ⟨x, 4, 0, 0, 4⟩ (q03 v0 v1 v2 v3) := by
  rintro ⟨_, h⟩
  simp only at h
  rw [if_pos trivial] at h
  exact all03 x hx h0 h1 h2 h.1
theorem z11_no : ¬ MayS z11 := by decide +kernel
end Go.Proofs.Ytplgodfhhlnojaa
