/- Rows read and written whole, the world behind a store under a name of its own (for any seat with WCalls). -/
import Derived.Test.YtplgodfhhlnojaaWCalls
import Derived.Test.YtplgodfhhlnojaaBelowR
import Derived.Laws.Tables
import Derived.Laws.Rows
import Derived.BigFrame
set_option linter.unusedSimpArgs false
set_option linter.unusedVariables false
namespace Go.Proofs.Ytplgodfhhlnojaa
open Go.RowKit
theorem wpl_row {ops : Array Oper} {rest : List Oper} {o : Oper} {a : Act} {w : World} {Q : Exit → Act → World → Prop} (hw : Region.wanted o (yielded ops a.tmps) = true) (ty : TypeId) (x : Operand) (ho : o.op = .load ty x)
    (g : Nat) (hx : a.eval x = .pointer (some ⟨g, 0, none⟩)) (t : TypeId) (cs : Array Value) (fr : Nat × Nat) (d : TypeDesc) (hg : w.heap[g]? = some (.cells cs t fr))
    (hd : (match d with | .struct _ | .array _ _ => true | _ => false) = true) (hu : Try.prog.underlying ty = some d) (hi : (Try.prog.info? ty).map (·.size) = some cs.size)
    (h : wpList Try.prog ops Q rest (a.put o.dst (.agg cs)) w) : wpList Try.prog ops Q (o :: rest) a w :=
  Go.BigFrame.wpList_want hw fun _ hK => wp_load_row ty x ho g hx t cs fr d hg hu (by cases d <;> first | rfl | (exact absurd hd (by simp))) hi (hK _ _ h)
/-- w' is w with block g written. -/
structure SetR (w w' : World) (g : Nat) : Prop where
  ne : ∀ b, b ≠ g → w'.heap[b]? = w.heap[b]?
  size : w'.heap.size = w.heap.size
  bel : ∀ {D : Nat} {a : World}, Below D a w → D ≤ g → Below D a w'
theorem SetR.blk {w w' : World} {g b : Nat} {o : Obj} (h : SetR w w' g) (hb : w.heap[b]? = some o) (hne : b ≠ g) : w'.heap[b]? = some o := (h.ne b hne).trans hb
theorem SetR.rd {w w' : World} {g sz n : Nat} {A : Option Addr} {xs : List Value} (h : SetR w w' g) (R : Rd w w.heap.size sz A n xs) (hA : ∀ ad, A = some ad → ad.block ≠ g) : Rd w' w'.heap.size sz A n xs := by
  refine ⟨R.1, fun hn => ?_⟩
  obtain ⟨ad, e, hb, hc⟩ := R.2 hn
  refine ⟨ad, e, by rw [h.size]; exact hb, fun j v hj => ?_⟩
  have hh := hc j v hj
  have hbl : (ad.add j).block = ad.block := by unfold Addr.add; split <;> rfl
  have e2 : w'.heap[(ad.add j).block]? = w.heap[(ad.add j).block]? := h.ne _ (by rw [hbl]; exact hA ad e)
  unfold World.cell? at hh ⊢
  rw [e2]
  exact hh
theorem setRow_is {w : World} {g : Nat} {old cells : Array Value} {t : TypeId} (hg : w.heap[g]? = some (.cells old t (0, 0))) : SetR w (w.setRow g cells) g := by
  have hne : ∀ b, b ≠ g → (w.setRow g cells).heap[b]? = w.heap[b]? := fun b hb => by
    simp only [World.setRow, Array.getElem?_modify]
    rw [if_neg (fun e => hb e.symm)]
  exact ⟨hne, by simp [World.setRow], fun hb hD => ⟨hb.os, hb.tape, hb.output, by simpa [World.setRow] using hb.size, fun k hk => (hne k (by omega)).trans (hb.block k hk)⟩⟩
theorem wpl_set {ops : Array Oper} {rest : List Oper} {o : Oper} {a : Act} {w : World} {Q : Exit → Act → World → Prop} (hgd : o.guard = none) (ty : TypeId) (x y : Operand) (ho : o.op = .store ty x y)
    (g : Nat) (cells : Array Value) (hx : a.eval x = .pointer (some ⟨g, 0, none⟩)) (hy : a.eval y = .agg cells)
    (t : TypeId) (old : Array Value) (hg : w.heap[g]? = some (.cells old t (0, 0))) (hi : (Try.prog.info? ty).map (·.size) = some cells.size)
    (hold : old.size = cells.size) (h1 : cells.all (·.oneCell') = true)
    (h : ∀ w', w'.heap[g]? = some (.cells cells t (0, 0)) → SetR w w' g → wpList Try.prog ops Q rest (a.put o.dst undef) w') : wpList Try.prog ops Q (o :: rest) a w :=
  wpList_store_row hgd ty x y ho g cells hx hy t old hg hi hold h1 (h _ (setRow_heap w g old cells t (0, 0) hg) (setRow_is hg))
/-- A struct or an array built of its parts. -/
theorem wpl_build {ops : Array Oper} {rest : List Oper} {o : Oper} {a : Act} {w : World} {Q : Exit → Act → World → Prop} (hw : Region.wanted o (yielded ops a.tmps) = true) (t : TypeId) (parts : Array (Nat × Operand)) (ho : o.op = .build t parts) (cs : Array Value)
    (hf : Try.prog.built t (parts.map fun (i, x) => (i, a.eval x)).toList = some cs)
    (h : wpList Try.prog ops Q rest (a.put o.dst (.agg cs)) w) : wpList Try.prog ops Q (o :: rest) a w :=
  Go.BigFrame.wpList_want hw fun _ hK => wp_build t parts ho (by rw [hf]; rfl) (by rw [hf]; exact hK _ _ h)
/-- A fresh block, written whole: what stood before stands, what is new is known. -/
theorem SetR.old {w w' : World} {b : Nat} {o z : Obj} (h : SetR (w.alloc z) w' w.heap.size) (hb : w.heap[b]? = some o) : w'.heap[b]? = some o := h.blk (alc hb) (Nat.ne_of_lt (lt_size hb))
theorem SetR.below {w w' a : World} {D : Nat} {z : Obj} (h : SetR (w.alloc z) w' w.heap.size) (hb : Below D a w) (hd : D ≤ w.heap.size) : Below D a w' := h.bel (hb.alloc hd z) hd
/-- A whole row read at a step of a quiet region over the worlds below a block. -/
theorem wpq_row {ops : Array Oper} {rest : List Oper} {o : Oper} {a : Act} {D : Nat} {w : World} {Q : Act → Prop} (hw : Region.wanted o (yielded ops a.tmps) = true) (ty : TypeId) (x : Operand) (ho : o.op = .load ty x)
    (g : Nat) (hx : a.eval x = .pointer (some ⟨g, 0, none⟩)) (t : TypeId) (cs : Array Value) (fr : Nat × Nat) (d : TypeDesc) (hg : w.heap[g]? = some (.cells cs t fr)) (hgD : g < D)
    (hd : (match d with | .struct _ | .array _ _ => true | _ => false) = true) (hu : Try.prog.underlying ty = some d) (hi : (Try.prog.info? ty).map (·.size) = some cs.size)
    (h : wpQuiet Try.prog ops (fun w' => ∃ s : BW D w, w' = s.val) Q rest (a.put o.dst (.agg cs))) : wpQuiet Try.prog ops (fun w' => ∃ s : BW D w, w' = s.val) Q (o :: rest) a := by
  refine Go.BigFrame.wpQuiet_want hw fun K hK => ⟨.agg cs, ?_, hK _ h⟩
  rintro w' ⟨s, rfl⟩
  have hg' : s.val.heap[g]? = some (.cells cs t fr) := (s.h.block g hgD).trans hg
  unfold Oper.quietAt execOp
  simp only [ho, hx, Instr.loadAt, Instr.sureAddr, Sem.run_bind, Sem.run_pure, Result.andThen_ok, run_loadVar_row s.val g t ty cs fr d hg' hu (by cases d <;> first | rfl | (exact absurd hd (by simp))) hi]
  exact ⟨rfl, rfl⟩
end Go.Proofs.Ytplgodfhhlnojaa
