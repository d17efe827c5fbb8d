/- A slice of numbers that came in; remainders. -/
import Derived.Test.YtblpkcoapbkppaaInts
import Derived.ProofKit
import Derived.Deep.Matrix
set_option linter.unusedSimpArgs false
set_option linter.unusedVariables false
namespace Go.Proofs.Ytblpkcoapbkppaa
open Go.ChangeShapes Go.WideShapes Go.ChangeAt Go.RowKit Go.Deep
theorem cell_ltI {w : World} {a : Addr} {v : Value} (h : w.cell? a = some v) : a.block < w.heap.size := by
  rcases Nat.lt_or_ge a.block w.heap.size with h' | h'
  · exact h'
  · simp [World.cell?, Array.getElem?_eq_none h'] at h
theorem wf_fits {n : Int} (h : (Lit.int .i64 n).wf = true) : Fits n := by
  simp only [Lit.wf, Bool.and_eq_true, decide_eq_true_eq, IntKind.min, IntKind.max, IntKind.signed, IntKind.bits] at h
  unfold Fits
  simp at h
  omega
section
variable {H : Type} {enc : TypeId × Value → H} {P : Program} {W : World} {held : Bool}
theorem open_nums {t e : TypeId} (ht : P.underlying t = some (.slice e)) (he : P.underlying e = some (.int .i64)) (ce : P.cellsOf e = 1) {base : Nat} {v : Value} {d : DataW H} {p : List MemPlace}
    (hok : Value.okWide P W .any base t v) (h : DataW.Trod enc P W 0 (fun _ => true) held t v d p) : ∃ A n c l, v = .slice A n c ∧ n ≤ c ∧ c ≤ maxLen ∧ Rd W W.heap.size 1 A n (I8 l) ∧ ∀ x ∈ l, Fits x := by
  obtain ⟨A, n, c, rfl⟩ := okWide_slice ht hok
  obtain ⟨fuel, hf⟩ := h
  rcases open_ints ht he ce hf with ⟨hcs, _⟩ | ⟨a, n', c', zs, hcs, _, hl, hm, hz, _, hcell, hwz⟩
  · simp [Value.cells] at hcs
    obtain ⟨rfl, rfl, rfl⟩ := hcs
    exact ⟨none, 0, 0, [], rfl, Nat.le_refl _, Nat.zero_le _, Rd.nil, by simp⟩
  · simp [Value.cells] at hcs
    obtain ⟨rfl, rfl, rfl⟩ := hcs
    simp only [if_true] at hz
    refine ⟨_, _, _, zs.take n, rfl, hl, hm, ⟨?_, fun hn => ?_⟩, fun x hx => wf_fits (hwz x (List.mem_of_mem_take hx))⟩
    · rw [I8_len, List.length_take]; omega
    · have h0 := hcell 0 (by omega)
      refine ⟨a, rfl, by have := cell_ltI h0; rwa [block_add] at this, fun j u hu => ?_⟩
      unfold I8 at hu
      have hj : j < n := by
        rcases Nat.lt_or_ge j n with h' | h'
        · exact h'
        · rw [List.getElem?_eq_none (by simp; omega)] at hu; cases hu
      rw [hcell j (by omega)]
      rw [← hu]
      simp only [List.getElem?_map, List.getElem?_take, hj, if_true]
      rw [List.getElem?_eq_getElem (by omega)]
      simp [List.getD, List.getElem?_eq_getElem (show j < zs.length by omega)]
end
theorem u_rem1 (a m : Int) (h0 : 0 < m) : ∃ n : Nat, (IntKind.u64.wrap a).tmod m = (n : Int) ∧ (n : Int) < m := by
  have h1 : 0 ≤ IntKind.u64.wrap a := by rw [IntKind.wrap_u64]; exact Int.emod_nonneg _ (by omega)
  have h2 := Int.emod_nonneg (IntKind.u64.wrap a) (show m ≠ 0 by omega)
  obtain ⟨n, hn⟩ := Int.eq_ofNat_of_zero_le h2
  refine ⟨n, by rw [Int.tmod_eq_emod_of_nonneg h1, hn], by rw [← hn]; exact Int.emod_lt_of_pos _ h0⟩
theorem OI.lit (w : World) (base : Nat) (l : List Int) (cs : Array Value) (n : Nat) (hcs : cs.toList = I8 l) (hn : l.length = n) (hb : base ≤ w.heap.size) (hm : n ≤ maxLen) :
    OI (w.alloc (.cells cs 2)) base (.slice (some ⟨w.heap.size, 0, none⟩) n n) l := by
  unfold OI
  rw [hn, ← hcs]
  exact World.ownsRow_lit w cs n hb hm (by rw [← Array.length_toList, hcs, I8_len, hn]; omega)
theorem OI.at_ {w : World} {base g n c : Nat} {l : List Int} (h : OI w base (.slice (some ⟨g, 0, none⟩) n c) l) (k : Nat) (hk : k < l.length) : w.cell? ⟨g, k, none⟩ = some (.int .i64 l[k]) := by
  have h' := h
  obtain ⟨A, c', e, _, _, r⟩ := h'.form
  injection e with e1 e2 e3
  subst e1 e2 e3
  have h2 : w.ownsRow base 2 1 (.slice (some ⟨g, 0, none⟩) l.length c) l.length (I8 l) := h
  have := h2.cellAt k (by omega)
  rwa [I8_at l k hk] at this
end Go.Proofs.Ytblpkcoapbkppaa
