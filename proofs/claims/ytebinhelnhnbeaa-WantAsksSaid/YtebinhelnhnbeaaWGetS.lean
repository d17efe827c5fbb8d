/- want.Get and want.GetOp, walked. -/
import Derived.Test.YtebinhelnhnbeaaWGetO
set_option linter.unusedSimpArgs false
set_option linter.unusedVariables false
namespace Go.Proofs.Ytebinhelnhnbeaa
open Go.RowKit
theorem below_setR {a w : World} {D R i : Nat} {u : Value} (h : Below D a w) (hR : D ≤ R) : Below D a (w.setCell ⟨R, i, none⟩ u) := h.setCell (p := ⟨R, i, none⟩) hR u
theorem rS_in (s : Rs) : In64 (rS s).1 := by
  unfold rS rInt
  cases s with
  | none => exact ⟨by simp, by simp⟩
  | some l =>
    cases h : dec (-4611686018427387904) 4611686018427387904 l with
    | none => simp only [h]; exact ⟨by simp, by simp⟩
    | some p => obtain ⟨v, r⟩ := p; simp only [h]; have := dec_is h; exact ⟨this.2.2.2.1, this.2.2.2.2⟩
end Go.Proofs.Ytebinhelnhnbeaa
