/- Entries, arrays of four entries, inventories, as they come in. -/
import Derived.Test.YtplgodfhhlnojaaOpenA
import Derived.Test.YtplgodfhhlnojaaOpenE
import Derived.Test.YtplgodfhhlnojaaAudU
set_option linter.unusedSimpArgs false
set_option linter.unusedVariables false
namespace Go.Proofs.Ytplgodfhhlnojaa
open Go.ChangeShapes Go.WideShapes Go.ChangeAt Go.RowKit Go.Deep
def Q4.nums (q : Q4) : List Int := [q.e0.s, q.e0.u, q.e0.t, q.e0.c, q.e0.a, q.e1.s, q.e1.u, q.e1.t, q.e1.c, q.e1.a, q.e2.s, q.e2.u, q.e2.t, q.e2.c, q.e2.a, q.e3.s, q.e3.u, q.e3.t, q.e3.c, q.e3.a]
set_option maxRecDepth 100000 in
theorem open_q4 {w : World} {base : Nat} {v : Value} (hv : Value.okWide Try.prog w .any base 68 v) : ∃ q : Q4, v = q.val ∧ FitsL q.nums := by
  obtain ⟨zs, rfl, hl, hz⟩ := open_nums_arr (P := Try.prog) (t := 68) (n := 4) (e := 67) (N := 20) (ts := [3, 3, 3, 3, 2, 3, 3, 3, 3, 2, 3, 3, 3, 3, 2, 3, 3, 3, 3, 2]) Try.underlying68 (by kernel_rfl) (by kernel_rfl) (by decide) (by
    intro u hu
    have : u = 3 ∨ u = 2 := (by decide : ∀ u ∈ [3, 3, 3, 3, 2, 3, 3, 3, 3, 2, 3, 3, 3, 3, 2, 3, 3, 3, 3, 2], u = 3 ∨ u = 2) u hu
    rcases this with rfl | rfl
    · exact Try.underlying3
    · exact Try.underlying2) hv
  match zs, hl with
  | [a0, a1, a2, a3, a4, b0, b1, b2, b3, b4, c0, c1, c2, c3, c4, d0, d1, d2, d3, d4], _ => exact ⟨⟨⟨a0, a1, a2, a3, a4⟩, ⟨b0, b1, b2, b3, b4⟩, ⟨c0, c1, c2, c3, c4⟩, ⟨d0, d1, d2, d3, d4⟩⟩, rfl, hz⟩
set_option maxRecDepth 100000 in
theorem open_stock {w : World} {base : Nat} {v : Value} (hv : Value.okWide Try.prog w .any base 74 v) : ∃ a b : Int, v = .agg #[.int .i64 a, .int .i64 b] ∧ FitsL [a, b] := by
  obtain ⟨zs, rfl, hl, hz⟩ := open_nums_agg (P := Try.prog) (t := 74) (ts := [3, 3]) Try.underlying74 (by kernel_rfl) (by kernel_rfl) (by
    intro u hu
    have : u = 3 := by simp at hu; exact hu
    subst this
    exact Try.underlying3) hv
  match zs, hl with
  | [a, b], _ => exact ⟨a, b, rfl, hz⟩
theorem En.len (e : En) : e.cells.length = 5 := rfl
set_option maxRecDepth 100000 in
theorem read_en {H : Type} {enc : TypeId × Value → H} {W : World} {held : Bool} (n : Nat) (cs : List Value) (y : DataW H × List MemPlace) (h : DataW.trod enc Try.prog W 0 (fun _ => true) held n 67 cs = some y) : ∃ o : En, cs = o.cells ∧ True := by
  obtain ⟨xs, m, _, _, hl, hxl, hf⟩ := DataW.trod_struct Try.underlying67 h
  have hl6 : cs.length = 5 := hl.trans (by kernel_rfl)
  have hx6 : xs.length = 5 := hxl
  match xs, hx6 with
  | [y0, y1, y2, y3, y4], _ =>
    have g0 := trod_field hf 0 0 1 3 _ rfl rfl rfl (by kernel_rfl)
    have g1 := trod_field hf 1 1 1 3 _ rfl rfl rfl (by kernel_rfl)
    have g2 := trod_field hf 2 2 1 3 _ rfl rfl rfl (by kernel_rfl)
    have g3 := trod_field hf 3 3 1 3 _ rfl rfl rfl (by kernel_rfl)
    have g4 := trod_field hf 4 4 1 2 _ rfl rfl rfl (by kernel_rfl)
    obtain ⟨z0, e0, _, w0⟩ := DataW.trod_int Try.underlying3 g0
    obtain ⟨z1, e1, _, w1⟩ := DataW.trod_int Try.underlying3 g1
    obtain ⟨z2, e2, _, w2⟩ := DataW.trod_int Try.underlying3 g2
    obtain ⟨z3, e3, _, w3⟩ := DataW.trod_int Try.underlying3 g3
    obtain ⟨z4, e4, _, w4⟩ := DataW.trod_int Try.underlying2 g4
    refine ⟨⟨z0, z1, z2, z3, z4⟩, ?_, trivial⟩
    match cs, hl6 with
    | [c0, c1, c2, c3, c4], _ =>
      simp at e0 e1 e2 e3 e4
      subst e0 e1 e2 e3 e4
      rfl
set_option maxRecDepth 100000 in
theorem open_ens {H : Type} {enc : TypeId × Value → H} {W : World} {held : Bool} {base : Nat} {v : Value} {d : DataW H} {p : List MemPlace}
    (hok : Value.okWide Try.prog W .any base 75 v) (h : DataW.Trod enc Try.prog W 0 (fun _ => true) held 75 v d p) :
    ∃ A n c l, v = .slice A n c ∧ n ≤ c ∧ c ≤ maxLen ∧ l.length = n ∧ Rd W W.heap.size 5 A n (EC l) := by
  obtain ⟨A, n, c, os, h1, h2, h3, h4, h5, _⟩ := open_elems En.cells 5 (by omega) En.len (fun _ => True) Try.underlying75 (by kernel_rfl) (fun n cs y => read_en n cs y) hok h
  exact ⟨A, n, c, os, h1, h2, h3, h4, h5⟩
end Go.Proofs.Ytplgodfhhlnojaa
