/- Structs that came in by value, of whole numbers alone. -/
import Derived.Test.YtplgodfhhlnojaaWant
import Derived.ProofKit
set_option linter.unusedSimpArgs false
set_option linter.unusedVariables false
namespace Go.Proofs.Ytplgodfhhlnojaa
open Go.ChangeShapes Go.WideShapes Go.ChangeAt Go.RowKit
section
variable {P : Program} {w : World} {base : Nat} {t : TypeId} {v : Value}
theorem cell_int {r : Reach} {u : TypeId} {k : IntKind} {x : Value} (hu : P.underlying u = some (.int k)) (h : Cell.okWide P w r base u x) : ∃ n, x = .int k n ∧ k.has n := by
  simp only [Cell.okWide, hu] at h
  cases x <;> simp_all [Cell.ok]
/-- A struct whose cells are all of kind int: its numbers. -/
theorem open_nums_agg {fs : Array Field} {ts : List TypeId} (hu : P.underlying t = some (.struct fs)) (hct : P.cellTypes P.depth t = some ts) (hC : P.cellsOf t = ts.length) (hall : ∀ u ∈ ts, P.underlying u = some (.int .i64))
    (hv : Value.okWide P w .any base t v) : ∃ zs : List Int, v = .agg (zs.map (Value.int .i64)).toArray ∧ zs.length = ts.length ∧ ∀ z ∈ zs, -9223372036854775808 ≤ z ∧ z ≤ 9223372036854775807 := by
  simp only [Value.okWide, hu] at hv
  obtain ⟨cs, rfl, hsz, ts', hct', _, hcell⟩ := hv
  rw [hct] at hct'
  cases hct'
  rw [hC] at hsz
  have hx : ∀ i, (hi : i < cs.size) → ∃ n, cs[i] = .int .i64 n ∧ IntKind.i64.has n := fun i hi => by
    obtain ⟨u, h1, h2⟩ := hcell i _ (Array.getElem?_eq_getElem hi)
    rw [Nat.mod_eq_of_lt (by omega)] at h1
    exact cell_int (hall u (List.mem_of_getElem? h1)) h2
  refine ⟨cs.toList.map fun x => match x with | .int _ n => n | _ => 0, ?_, by simpa using hsz, fun z hz => ?_⟩
  · congr 1
    apply Array.ext
    · simp
    · intro i h1 h2
      obtain ⟨n, e, _⟩ := hx i h1
      simp [e]
  · simp only [List.mem_map, Array.mem_toList_iff] at hz
    obtain ⟨x, hx', rfl⟩ := hz
    obtain ⟨i, hi, rfl⟩ := Array.mem_iff_getElem.mp hx'
    obtain ⟨n, e, h⟩ := hx i hi
    rw [e]
    simp only [IntKind.has, IntKind.min, IntKind.max, IntKind.signed, IntKind.bits] at h
    simp at h ⊢
    omega
end
/-- The numbers of a want fit. -/
def FitsW (x : W7) : Prop := (-9223372036854775808 ≤ x.b ∧ x.b ≤ 9223372036854775807) ∧ (-9223372036854775808 ≤ x.c ∧ x.c ≤ 9223372036854775807) ∧ (-9223372036854775808 ≤ x.d ∧ x.d ≤ 9223372036854775807) ∧ (-9223372036854775808 ≤ x.m0 ∧ x.m0 ≤ 9223372036854775807) ∧ (-9223372036854775808 ≤ x.m1 ∧ x.m1 ≤ 9223372036854775807) ∧ (-9223372036854775808 ≤ x.m2 ∧ x.m2 ≤ 9223372036854775807) ∧ (-9223372036854775808 ≤ x.p ∧ x.p ≤ 9223372036854775807)
set_option maxRecDepth 100000 in
theorem open_want {w : World} {base : Nat} {v : Value} (hv : Value.okWide Try.prog w .any base 24 v) : ∃ x : W7, v = x.val ∧ FitsW x := by
  obtain ⟨zs, rfl, hl, hz⟩ := open_nums_agg (P := Try.prog) (t := 24) (ts := [3, 3, 3, 3, 3, 3, 2]) Try.underlying24 (by kernel_rfl) (by kernel_rfl) (by
    intro u hu
    have : u = 3 ∨ u = 2 := by simp at hu; omega
    rcases this with rfl | rfl
    · exact Try.underlying3
    · exact Try.underlying2) hv
  match zs, hl with
  | [b, c, d, m0, m1, m2, p], _ => exact ⟨⟨b, c, d, m0, m1, m2, p⟩, rfl, hz b (by simp), hz c (by simp), hz d (by simp), hz m0 (by simp), hz m1 (by simp), hz m2 (by simp), hz p (by simp)⟩
end Go.Proofs.Ytplgodfhhlnojaa
