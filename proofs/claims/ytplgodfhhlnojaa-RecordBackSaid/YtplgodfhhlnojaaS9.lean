/- OpenA, OpenT, merged. -/
import Derived.Test.YtplgodfhhlnojaaB4
import Derived.Test.YtplgodfhhlnojaaP2
import Derived.Test.YtplgodfhhlnojaaB1
set_option linter.unusedSimpArgs false
set_option linter.unusedVariables false
/- Sagas, steps and entries that came in by value, opened. -/
namespace Go.Proofs.Ytplgodfhhlnojaa
open Go.ChangeShapes Go.WideShapes Go.ChangeAt Go.RowKit
/-- An array whose cells are all of kind int: its numbers. -/
theorem open_nums_arr {P : Program} {w : World} {base : Nat} {t : TypeId} {v : Value} {n : Nat} {e : TypeId} {ts : List TypeId} {N : Nat} (hu : P.underlying t = some (.array n e)) (hct : P.cellTypes P.depth t = some ts) (hC : P.cellsOf t = N) (hN : 0 < ts.length) (hall : ∀ u ∈ ts, P.underlying u = some (.int .i64))
    (hv : Value.okWide P w .any base t v) : ∃ zs : List Int, v = .agg (zs.map (Value.int .i64)).toArray ∧ zs.length = N ∧ ∀ z ∈ zs, -9223372036854775808 ≤ z ∧ z ≤ 9223372036854775807 := by
  simp only [Value.okWide, hu] at hv
  obtain ⟨cs, rfl, hsz, ts', hct', _, hcell⟩ := hv
  rw [hct] at hct'
  cases hct'
  rw [hC] at hsz
  have hx : ∀ i, (hi : i < cs.size) → ∃ n, cs[i] = .int .i64 n ∧ IntKind.i64.has n := fun i hi => by
    obtain ⟨u, h1, h2⟩ := hcell i _ (Array.getElem?_eq_getElem hi)
    exact cell_int (hall u (List.mem_of_getElem? h1)) h2
  refine ⟨cs.toList.map fun x => match x with | .int _ n => n | _ => 0, ?_, by simpa using hsz, fun z hz => ?_⟩
  · congr 1
    apply Array.ext
    · simp
    · intro i h1 h2
      obtain ⟨n, e, _⟩ := hx i h1
      simp [e]
  · simp only [List.mem_map, Array.mem_toList_iff] at hz
    obtain ⟨x, hx', rfl⟩ := hz
    obtain ⟨i, hi, rfl⟩ := Array.mem_iff_getElem.mp hx'
    obtain ⟨n, e, h⟩ := hx i hi
    rw [e]
    simp only [IntKind.has, IntKind.min, IntKind.max, IntKind.signed, IntKind.bits] at h
    simp at h ⊢
    omega
def FitsL (l : List Int) : Prop := ∀ z ∈ l, -9223372036854775808 ≤ z ∧ z ≤ 9223372036854775807
def W7.nums (x : W7) : List Int := [x.b, x.c, x.d, x.m0, x.m1, x.m2, x.p]
def S11.nums (s : S11) : List Int := [s.w.b, s.w.c, s.w.d, s.w.m0, s.w.m1, s.w.m2, s.w.p, s.ph, s.st, s.re, s.si]
def A6.nums (a : A6) : List Int := [a.node, a.kind, a.book, a.units, a.cust, a.amount]
set_option maxRecDepth 100000 in
theorem open_saga {w : World} {base : Nat} {v : Value} (hv : Value.okWide Try.prog w .any base 26 v) : ∃ s : S11, v = s.val ∧ FitsL s.nums := by
  obtain ⟨zs, rfl, hl, hz⟩ := open_nums_agg (P := Try.prog) (t := 26) (ts := [3, 3, 3, 3, 3, 3, 2, 3, 3, 3, 3]) Try.underlying26 (by kernel_rfl) (by kernel_rfl) (by
    intro u hu
    have : u = 3 ∨ u = 2 := (by decide : ∀ u ∈ [3, 3, 3, 3, 3, 3, 2, 3, 3, 3, 3], u = 3 ∨ u = 2) u hu
    rcases this with rfl | rfl
    · exact Try.underlying3
    · exact Try.underlying2) hv
  match zs, hl with
  | [b, c, d, m0, m1, m2, p, ph, st, re, si], _ => exact ⟨⟨⟨b, c, d, m0, m1, m2, p⟩, ph, st, re, si⟩, rfl, hz⟩
set_option maxRecDepth 100000 in
theorem open_ask {w : World} {base : Nat} {v : Value} (hv : Value.okWide Try.prog w .any base 30 v) : ∃ a : A6, v = .agg #[.int .i64 a.node, .int .i64 a.kind, .int .i64 a.book, .int .i64 a.units, .int .i64 a.cust, .int .i64 a.amount] ∧ FitsL a.nums := by
  obtain ⟨zs, rfl, hl, hz⟩ := open_nums_agg (P := Try.prog) (t := 30) (ts := [3, 3, 3, 3, 3, 2]) Try.underlying30 (by kernel_rfl) (by kernel_rfl) (by
    intro u hu
    have : u = 3 ∨ u = 2 := (by decide : ∀ u ∈ [3, 3, 3, 3, 3, 2], u = 3 ∨ u = 2) u hu
    rcases this with rfl | rfl
    · exact Try.underlying3
    · exact Try.underlying2) hv
  match zs, hl with
  | [a, b, c, d, e, f], _ => exact ⟨⟨a, b, c, d, e, f⟩, rfl, hz⟩
end Go.Proofs.Ytplgodfhhlnojaa

/- Openings of sagas and of bytes. -/
