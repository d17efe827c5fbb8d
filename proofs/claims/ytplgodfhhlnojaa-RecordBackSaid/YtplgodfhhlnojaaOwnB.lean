/- Rows of bytes of the call's own: a byte read, a byte stored; remainders of unsigned numbers. -/
import Derived.Test.YtplgodfhhlnojaaB2
set_option linter.unusedSimpArgs false
set_option linter.unusedVariables false
namespace Go.Proofs.Ytplgodfhhlnojaa
open Go.RowKit
theorem OB.blk {w : World} {base : Nat} {v : Value} {l : List UInt8} (h : OB w base v l) (h0 : 0 < l.length) :
    ∃ g c, v = .slice (some ⟨g, 0, none⟩) l.length c ∧ base ≤ g ∧ g < w.heap.size ∧ l.length ≤ c ∧ c ≤ maxLen ∧ (∀ k (hk : k < l.length), w.cell? ⟨g, k, none⟩ = some (.int .u8 (l[k].toNat : Int))) ∧ (∀ k, w.frozen? ⟨g, k, none⟩ = false) ∧
      ∀ (k : Nat) (y : UInt8), OB (w.setCell ⟨g, k, none⟩ (.int .u8 (y.toNat : Int))) base v (l.set k y) := by
  have h' : w.ownsRow base 5 1 v l.length (B8 l) := h
  obtain ⟨g, c, rfl, hg, hlt⟩ := h'.form h0
  obtain ⟨A, c', e, hc, hm, _⟩ := h.form
  injection e with e1 e2 e3
  subst e3
  refine ⟨g, c, rfl, hg, hlt, hc, hm, fun k hk => ?_, fun k => h'.frozenAt k, fun k y => ?_⟩
  · rw [h'.cellAt k (by omega), B8_at l k hk]
  · have h2 := (h'.stored k (.int .u8 (y.toNat : Int))).1
    have e : B8 (l.set k y) = (B8 l).set k (.int .u8 (y.toNat : Int)) := by simp only [B8, List.map_set]
    unfold OB
    rw [e, List.length_set]
    exact h2
theorem u_rem (a m : Int) (h0 : 0 < m) : ∃ n : Nat, (IntKind.u64.wrap a).tmod m = (n : Int) ∧ (n : Int) < m := by
  have h1 : 0 ≤ (IntKind.u64.wrap a).tmod m := by rw [IntKind.wrap_u64]; exact Int.tmod_nonneg _ (Int.emod_nonneg _ (by omega))
  have h2 : (IntKind.u64.wrap a).tmod m < m := by rw [IntKind.wrap_u64, Int.tmod_eq_emod_of_nonneg (Int.emod_nonneg _ (by omega))]; exact Int.emod_lt_of_pos _ h0
  obtain ⟨n, hn⟩ := Int.eq_ofNat_of_zero_le h1
  exact ⟨n, hn, by omega⟩
end Go.Proofs.Ytplgodfhhlnojaa
