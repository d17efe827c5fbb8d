/- The questions of layer 1's statements, as they come in. -/
import Derived.Test.YtebinhelnhnbeaaOpenE
set_option linter.unusedSimpArgs false
set_option linter.unusedVariables false
namespace Go.Proofs.Ytebinhelnhnbeaa
open Go.ChangeShapes Go.WideShapes Go.ChangeAt Go.RowKit Go.Deep
structure OpV where
  (kind n : Int)
  s : ByteArray
  (lo hi most : Int)
def OpV.cells (o : OpV) : List Value := [.int .i64 o.kind, .int .i64 o.n, .string o.s, .int .i64 o.lo, .int .i64 o.hi, .int .i64 o.most]
theorem OpV.len (o : OpV) : o.cells.length = 6 := rfl
def In64 (x : Int) : Prop := -9223372036854775808 ≤ x ∧ x ≤ 9223372036854775807
theorem wf64 {n : Int} (h : (Lit.int .i64 n).wf = true) : In64 n := by
  simp only [Lit.wf, Bool.and_eq_true, decide_eq_true_eq, IntKind.min, IntKind.max, IntKind.signed, IntKind.bits] at h
  unfold In64
  simp at h
  omega
def OpV.Fits (o : OpV) : Prop := In64 o.kind ∧ In64 o.n ∧ In64 o.lo ∧ In64 o.hi ∧ In64 o.most
theorem drop_take1 (l : List Value) (i : Nat) (u : Value) (h : (l.drop i).take 1 = [u]) : l[i]? = some u := by
  have := congrArg (·[0]?) h
  simpa using this
set_option maxRecDepth 100000 in
theorem read_op {H : Type} {enc : TypeId × Value → H} {W : World} {held : Bool} (n : Nat) (cs : List Value) (y : DataW H × List MemPlace) (h : DataW.trod enc Try.prog W 0 (fun _ => true) held n 28 cs = some y) : ∃ o : OpV, cs = o.cells ∧ o.Fits := by
  obtain ⟨xs, m, _, _, hl, hxl, hf⟩ := DataW.trod_struct Try.underlying28 h
  have hl6 : cs.length = 6 := hl.trans (by kernel_rfl)
  have hx6 : xs.length = 6 := hxl
  match xs, hx6 with
  | [y0, y1, y2, y3, y4, y5], _ =>
    have g0 := trod_field hf 0 0 1 3 _ rfl rfl rfl (by kernel_rfl)
    have g1 := trod_field hf 1 1 1 2 _ rfl rfl rfl (by kernel_rfl)
    have g2 := trod_field hf 2 2 1 9 _ rfl rfl rfl (by kernel_rfl)
    have g3 := trod_field hf 3 3 1 2 _ rfl rfl rfl (by kernel_rfl)
    have g4 := trod_field hf 4 4 1 2 _ rfl rfl rfl (by kernel_rfl)
    have g5 := trod_field hf 5 5 1 3 _ rfl rfl rfl (by kernel_rfl)
    obtain ⟨z0, e0, _, w0⟩ := DataW.trod_int Try.underlying3 g0
    obtain ⟨z1, e1, _, w1⟩ := DataW.trod_int Try.underlying2 g1
    obtain ⟨s2, e2, _, _⟩ := DataW.trod_string Try.underlying9 g2
    obtain ⟨z3, e3, _, w3⟩ := DataW.trod_int Try.underlying2 g3
    obtain ⟨z4, e4, _, w4⟩ := DataW.trod_int Try.underlying2 g4
    obtain ⟨z5, e5, _, w5⟩ := DataW.trod_int Try.underlying3 g5
    refine ⟨⟨z0, z1, s2, z3, z4, z5⟩, ?_, wf64 w0, wf64 w1, wf64 w3, wf64 w4, wf64 w5⟩
    match cs, hl6 with
    | [c0, c1, c2, c3, c4, c5], _ =>
      simp at e0 e1 e2 e3 e4 e5
      subst e0 e1 e2 e3 e4 e5
      rfl
/-- A slice of questions. -/
def RdOps (w : World) (D : Nat) (A : Option Addr) (n : Nat) (os : List OpV) : Prop := os.length = n ∧ Rd w D 6 A n (os.flatMap OpV.cells) ∧ ∀ o ∈ os, o.Fits
set_option maxRecDepth 100000 in
theorem open_ops {H : Type} {enc : TypeId × Value → H} {W : World} {held : Bool} {base : Nat} {v : Value} {d : DataW H} {p : List MemPlace}
    (hok : Value.okWide Try.prog W .any base 22 v) (h : DataW.Trod enc Try.prog W 0 (fun _ => true) held 22 v d p) :
    ∃ A n c os, v = .slice A n c ∧ n ≤ c ∧ c ≤ maxLen ∧ RdOps W W.heap.size A n os := by
  obtain ⟨A, n, c, os, h1, h2, h3, h4, h5, h6⟩ := open_elems OpV.cells 6 (by omega) OpV.len OpV.Fits Try.underlying22 (by kernel_rfl) (fun n cs y => read_op n cs y) hok h
  exact ⟨A, n, c, os, h1, h2, h3, h4, h5, h6⟩
/-- A question's cells at an address. -/
structure OpAt (w : World) (a : Addr) (o : OpV) : Prop where
  c0 : w.cell? a = some (.int .i64 o.kind)
  c1 : w.cell? ⟨a.block, a.off + 1, none⟩ = some (.int .i64 o.n)
  c2 : w.cell? ⟨a.block, a.off + 2, none⟩ = some (.string o.s)
  c3 : w.cell? ⟨a.block, a.off + 3, none⟩ = some (.int .i64 o.lo)
  c4 : w.cell? ⟨a.block, a.off + 4, none⟩ = some (.int .i64 o.hi)
  c5 : w.cell? ⟨a.block, a.off + 5, none⟩ = some (.int .i64 o.most)
theorem RdOps.at_ {w : World} {D n : Nat} {A : Option Addr} {os : List OpV} (h : RdOps w D A n os) {k : Nat} (hk : k < n) : ∃ ad o, A = some ad ∧ (ad.add (k * 6)).block < D ∧ os[k]? = some o ∧ o.Fits ∧ OpAt w (ad.add (k * 6)) o := by
  obtain ⟨ad, o, e, hb, ho, hc⟩ := Rd.elem OpV.len h.2.1 h.1 hk
  exact ⟨ad, o, e, by rw [block_add]; exact hb, ho, h.2.2 o (List.mem_of_getElem? ho), hc 0 _ rfl, cell_spell (by omega) (hc 1 _ rfl), cell_spell (by omega) (hc 2 _ rfl), cell_spell (by omega) (hc 3 _ rfl), cell_spell (by omega) (hc 4 _ rfl), cell_spell (by omega) (hc 5 _ rfl)⟩
theorem OpAt.below {w w' : World} {D : Nat} {a : Addr} {o : OpV} (h : OpAt w a o) (hb : Below D w w') (hd : a.block < D) : OpAt w' a o :=
  have q : ∀ (p : Addr) u, p.block = a.block → w.cell? p = some u → w'.cell? p = some u := fun p u e hu => (hb.cell (p := p) (by rw [e]; exact hd)).trans hu
  ⟨q _ _ rfl h.c0, q _ _ rfl h.c1, q _ _ rfl h.c2, q _ _ rfl h.c3, q _ _ rfl h.c4, q _ _ rfl h.c5⟩
theorem RdOps.below {w w' : World} {D n : Nat} {A : Option Addr} {os : List OpV} (h : RdOps w D A n os) (hb : Below D w w') : RdOps w' D A n os := ⟨h.1, h.2.1.below hb, h.2.2⟩
end Go.Proofs.Ytebinhelnhnbeaa
