/- A string made into bytes: what is known of it. -/
import Derived.Test.YtplgodfhhlnojaaB1
set_option linter.unusedSimpArgs false
set_option linter.unusedVariables false
namespace Go.Proofs.Ytplgodfhhlnojaa
open Go.RowKit
theorem bytesWorld_below (w : World) (e : TypeId) (s : ByteArray) : Below w.heap.size w (Lib.bytesWorld w e s) :=
  ⟨rfl, rfl, rfl, by rw [Lib.bytesWorld_size]; omega, fun j hj => Lib.bytesWorld_at_old w e s j hj⟩
theorem conv_bytes (w : World) (t : List UInt8) : ∃ W' c, (convert 9 59 (.string ⟨t.toArray⟩)).run Try.prog w = .ok (.slice (some ⟨w.heap.size, 0, none⟩) t.length c) W' ∧ Below w.heap.size w W' ∧ Rd W' W'.heap.size 1 (some ⟨w.heap.size, 0, none⟩) t.length (B8 t) ∧ W'.heap.size = w.heap.size + 1 := by
  refine ⟨_, _, Lib.run_convert_string_bytes w 9 59 5 ⟨t.toArray⟩ (u := .string) Try.underlying9 Try.underlying59 Try.underlying5, bytesWorld_below w _ _, ⟨by simp [B8], fun _ => ⟨_, rfl, by rw [Lib.bytesWorld_size]; simp, ?_⟩⟩, Lib.bytesWorld_size w _ _⟩
  intro j u hu
  have hj : j < t.length := by
    rcases Nat.lt_or_ge j t.length with h | h
    · exact h
    · rw [List.getElem?_eq_none (by simpa [B8] using h)] at hu; cases hu
  rw [B8_at t j hj] at hu
  injection hu with hu
  subst hu
  have := Lib.bytesWorld_cell w 5 ⟨t.toArray⟩ j (by show j < t.toArray.size; simpa using hj)
  have e : (⟨w.heap.size, 0, none⟩ : Addr).add j = ⟨w.heap.size, j, none⟩ := by unfold Addr.add; split <;> simp_all
  rw [e, this]
  simp [List.getD, hj]
end Go.Proofs.Ytplgodfhhlnojaa
