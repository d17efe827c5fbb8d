/- Rows read and written whole, the world behind a store under a name of its own (for any seat with WCalls). -/
import Derived.Test.YtplgodfhhlnojaaWCalls
import Derived.Test.YtplgodfhhlnojaaBelowR
import Derived.Laws.Tables
import Derived.Laws.Rows
import Derived.BigFrame
set_option linter.unusedSimpArgs false
set_option linter.unusedVariables false
namespace Go.Proofs.Ytplgodfhhlnojaa
open Go.RowKit
theorem wpl_row {ops : Array Oper} {rest : List Oper} {o : Oper} {a : Act} {w : World} {Q : Exit → Act → World → Prop} (hw : Region.wanted o (yielded ops a.tmps) = true) (ty : TypeId) (x : Operand) (ho : o.op = .load ty x)
    (g : Nat) (hx : a.eval x = .pointer (some ⟨g, 0, none⟩)) (t : TypeId) (cs : Array Value) (fr : Nat × Nat) (d : TypeDesc) (hg : w.heap[g]? = some (.cells cs t fr))
    (hd : (match d with | .struct _ | .array _ _ => true | _ => false) = true) (hu : Try.prog.underlying ty = some d) (hi : (Try.prog.info? ty).map (·.size) = some cs.size)
    (h : wpList Try.prog ops Q rest (a.put o.dst (.agg cs)) w) : wpList Try.prog ops Q (o :: rest) a w :=
  Go.BigFrame.wpList_want hw fun _ hK => wp_load_row ty x ho g hx t cs fr d hg hu (by cases d <;> first | rfl | (exact absurd hd (by simp))) hi (hK _ _ h)
/-- w' is w with block g written. -/
structure SetR (w w' : World) (g : Nat) : Prop where
  ne : ∀ b, b ≠ g → w'.heap[b]? = w.heap[b]?
  size : w'.heap.size = w.heap.size
  bel : ∀ {D : Nat} {a : World}, Below D a w → D ≤ g → Below D a w'
theorem SetR.blk {w w' : World} {g b : Nat} {o : Obj} (h : SetR w w' g) (hb : w.heap[b]? = some o) (hne : b ≠ g) : w'.heap[b]? = some o := (h.ne b hne).trans hb
theorem SetR.rd {w w' : World} {g sz n : Nat} {A : Option Addr} {xs : List Value} (h : SetR w w' g) (R : Rd w w.heap.size sz A n xs) (hA : ∀ ad, A = some ad → ad.block ≠ g) : Rd w' w'.heap.size sz A n xs := by
  refine ⟨R.1, fun hn => ?_⟩
  obtain ⟨ad, e, hb, hc⟩ := R.2 hn
  refine ⟨ad, e, by rw [h.size]; exact hb, fun j v hj => ?_⟩
  have hh := hc j v hj
  have hbl : (ad.add j).block = ad.block := by unfold Addr.add; split <;> rfl
  have e2 : w'.heap[(ad.add j).block]? = w.heap[(ad.add j).block]? := h.ne _ (by rw [hbl]; exact hA ad e)
  unfold World.cell? at hh ⊢
  rw [e2]
  exact hh
theorem setRow_is {w : World} {g : Nat} {old cells : Array Value} {t : TypeId} (hg : w.heap[g]? = some (.cells old t (0, 0))) : SetR w (w.setRow g cells) g := by
  have hne : ∀ b, b ≠ g → (w.setRow g cells).heap[b]? = w.heap[b]? := fun b hb => by
    simp only [World.setRow, Array.getElem?_modify]
    rw [if_neg (fun e => hb e.symm)]
  exact ⟨hne, by simp [World.setRow], fun hb hD => ⟨hb.os, hb.tape, hb.output, by simpa [World.setRow] using hb.size, fun k hk => (hne k (by omega)).trans (hb.block k hk)⟩⟩
theorem wpl_set {ops : Array Oper} {rest : List Oper} {o : Oper} {a : Act} {w : World} {Q : Exit → Act → World → Prop} (hgd : o.guard = none) (ty : TypeId) (x y : Operand) (ho : o.op = .store ty x y)
    (g : Nat) (cells : Array Value) (hx : a.eval x = .pointer (some ⟨g, 0, none⟩)) (hy : a.eval y = .agg cells)
    (t : TypeId) (old : Array Value) (hg : w.heap[g]? = some (.cells old t (0, 0))) (hi : (Try.prog.info? ty).map (·.size) = some cells.size)
    (hold : old.size = cells.size) (h1 : cells.all (·.oneCell') = true)
    (h : ∀ w', w'.heap[g]? = some (.cells cells t (0, 0)) → SetR w w' g → wpList Try.prog ops Q rest (a.put o.dst undef) w') : wpList Try.prog ops Q (o :: rest) a w :=
  wpList_store_row hgd ty x y ho g cells hx hy t old hg hi hold h1 (h _ (setRow_heap w g old cells t (0, 0) hg) (setRow_is hg))
/-- A struct or an array built of its parts. -/
theorem wpl_build {ops : Array Oper} {rest : List Oper} {o : Oper} {a : Act} {w : World} {Q : Exit → Act → World → Prop} (hw : Region.wanted o (yielded ops a.tmps) = true) (t : TypeId) (parts : Array (Nat × Operand)) (ho : o.op = .build t parts) (cs : Array Value)
    (hf : Try.prog.built t (parts.map fun (i, x) => (i, a.eval x)).toList = some cs)
    (h : wpList Try.prog ops Q rest (a.put o.dst (.agg cs)) w) : wpList Try.prog ops Q (o :: rest) a w :=
  Go.BigFrame.wpList_want hw fun _ hK => wp_build t parts ho (by rw [hf]; rfl) (by rw [hf]; exact hK _ _ h)
/-- A fresh block, written whole: what stood before stands, what is new is known. -/
theorem SetR.old {w w' : World} {b : Nat} {o z : Obj} (h : SetR (w.alloc z) w' w.heap.size) (hb : w.heap[b]? = some o) : w'.heap[b]? = some o := h.blk (alc hb) (Nat.ne_of_lt (lt_size hb))
theorem SetR.below {w w' a : World} {D : Nat} {z : Obj} (h : SetR (w.alloc z) w' w.heap.size) (hb : Below D a w) (hd : D ≤ w.heap.size) : Below D a w' := h.bel (hb.alloc hd z) hd
/-- A whole row read at a step of a quiet region over the worlds below a block. -/
theorem wpq_row {ops : Array Oper} {rest : List Oper} {o : Oper} {a : Act} {D : Nat} {w : World} {Q : Act → Prop} (hw : Region.wanted o (yielded ops a.tmps) = true) (ty : TypeId) (x : Operand) (ho : o.op = .load ty x)
    (g : Nat) (hx : a.eval x = .pointer (some ⟨g, 0, none⟩)) (t : TypeId) (cs : Array Value) (fr : Nat × Nat) (d : TypeDesc) (hg : w.heap[g]? = some (.cells cs t fr)) (hgD : g < D)
    (hd : (match d with | .struct _ | .array _ _ => true | _ => false) = true) (hu : Try.prog.underlying ty = some d) (hi : (Try.prog.info? ty).map (·.size) = some cs.size)
    (h : wpQuiet Try.prog ops (fun w' => ∃ s : BW D w, w' = s.val) Q rest (a.put o.dst (.agg cs))) : wpQuiet Try.prog ops (fun w' => ∃ s : BW D w, w' = s.val) Q (o :: rest) a := by
  refine Go.BigFrame.wpQuiet_want hw fun K hK => ⟨.agg cs, ?_, hK _ h⟩
  rintro w' ⟨s, rfl⟩
  have hg' : s.val.heap[g]? = some (.cells cs t fr) := (s.h.block g hgD).trans hg
  unfold Oper.quietAt execOp
  simp only [ho, hx, Instr.loadAt, Instr.sureAddr, Sem.run_bind, Sem.run_pure, Result.andThen_ok, run_loadVar_row s.val g t ty cs fr d hg' hu (by cases d <;> first | rfl | (exact absurd hd (by simp))) hi]
  exact ⟨rfl, rfl⟩
/-- A struct or an array read at any place. -/
theorem run_load_at {w : World} {ad : Addr} {ty : TypeId} {cs : List Value} {d : TypeDesc} (hc : ∀ j v, cs[j]? = some v → w.cell? (ad.add j) = some v)
    (hd : (match d with | .struct _ | .array _ _ => true | _ => false) = true) (hu : Try.prog.underlying ty = some d) (hi : (Try.prog.info? ty).map (·.size) = some cs.length) :
    (loadVar ty ad).run Try.prog w = .ok (.agg cs.toArray) w := by
  have hl := run_loadCells_list (P := Try.prog) w ad cs hc
  cases hq : Try.prog.info? ty with
  | none => simp [hq] at hi
  | some i =>
    have hs : i.size = cs.length := by simpa [hq] using hi
    have hagg : (isAgg ty).run Try.prog w = .ok true w := by
      unfold isAgg
      rw [Sem.run_bind, run_underlying hu w]
      cases d <;> simp_all
    simp [loadVar, Sem.run_bind, hagg, sizeOf, typeInfo, hq, hs, hl]
theorem wpl_load {ops : Array Oper} {rest : List Oper} {o : Oper} {a : Act} {w : World} {Q : Exit → Act → World → Prop} (hw : Region.wanted o (yielded ops a.tmps) = true) (ty : TypeId) (x : Operand) (ho : o.op = .load ty x)
    (ad : Addr) (hx : a.eval x = .pointer (some ad)) (cs : List Value) (d : TypeDesc) (hc : ∀ j v, cs[j]? = some v → w.cell? (ad.add j) = some v)
    (hd : (match d with | .struct _ | .array _ _ => true | _ => false) = true) (hu : Try.prog.underlying ty = some d) (hi : (Try.prog.info? ty).map (·.size) = some cs.length)
    (h : wpList Try.prog ops Q rest (a.put o.dst (.agg cs.toArray)) w) : wpList Try.prog ops Q (o :: rest) a w :=
  Go.BigFrame.wpList_want hw fun _ hK => by
    unfold Oper.wp execOp
    simp only [ho, hx, Instr.loadAt, Instr.sureAddr, Sem.run_bind, Sem.run_pure, Result.andThen_ok, run_load_at hc hd hu hi]
    exact hK _ _ h
/-- A part of a block. -/
theorem seg_at {w : World} {g o : Nat} {cs : Array Value} {t : TypeId} {m : Nat × Nat} (hg : w.heap[g]? = some (.cells cs t m)) (seg : List Value) (hs : (cs.toList.drop o).take seg.length = seg) : ∀ j v, seg[j]? = some v → w.cell? ((⟨g, o, none⟩ : Addr).add j) = some v := by
  intro j v hj
  have hadd : (⟨g, o, none⟩ : Addr).add j = ⟨g, o + j, none⟩ := by unfold Addr.add; split <;> simp_all
  rw [hadd, cellsB hg]
  have hjl : j < seg.length := (List.getElem?_eq_some_iff.1 hj).1
  rw [← hs, List.getElem?_take, if_pos hjl, List.getElem?_drop] at hj
  simpa using hj
def setSeg (cur : Array Value) (i : Nat) : List Value → Array Value
  | [] => cur
  | v :: vs => setSeg (cur.setIfInBounds i v) (i + 1) vs
theorem setSeg_size (vs : List Value) : ∀ (cur : Array Value) (i : Nat), (setSeg cur i vs).size = cur.size := by
  induction vs with
  | nil => intro cur i; rfl
  | cons v vs ih => intro cur i; simp [setSeg, ih]
theorem run_storeSeg (g t o : Nat) : ∀ (vs : List Value) (i : Nat) (cur : Array Value) (w : World), w.heap[g]? = some (.cells cur t (0, 0)) → o + i + vs.length ≤ cur.size → (∀ v ∈ vs, v.oneCell' = true) →
    (storeCells ⟨g, o, none⟩ vs i).run Try.prog w = .ok () (w.setRow g (setSeg cur (o + i) vs))
  | [], i, cur, w, hg, hl, _ => by
    have := run_storeCells_from (P := Try.prog) g t [] cur.size cur w hg (by simp) (by simp)
    have e : List.take cur.size cur.toList = cur.toList := List.take_of_length_le (by simp)
    simpa [storeCells, setSeg, e] using this
  | v :: rest, i, cur, w, hg, hl, h1 => by
    have hi : o + i < cur.size := by simp at hl; omega
    have hadd : (⟨g, o, none⟩ : Addr).add i = ⟨g, o + i, none⟩ := by unfold Addr.add; split <;> simp_all
    have hcell : w.cell? ⟨g, o + i, none⟩ = some cur[o + i] := by simp [World.cell?, hg, hi]
    have hfro : w.frozen? ⟨g, o + i, none⟩ = false := by simp [World.frozen?, hg]
    have hst : (store ((⟨g, o, none⟩ : Addr).add i) v).run Try.prog w = .ok () (w.setRow g (cur.setIfInBounds (o + i) v)) := by
      rw [hadd, run_store Try.prog w _ v _ (h1 v (by simp)), hcell]
      simp [hfro, setCell_eq_setRow w g (o + i) cur t (0, 0) v hg]
    have ih := run_storeSeg g t o rest (i + 1) (cur.setIfInBounds (o + i) v) (w.setRow g (cur.setIfInBounds (o + i) v)) (setRow_heap w g cur _ t _ hg) (by simp at hl ⊢; omega) (fun x hx => h1 x (by simp [hx]))
    simp only [storeCells, Sem.run_bind, hst, Result.andThen_ok, ih, setRow_setRow, setSeg]
    rfl
/-- Any value written at a place of a block. -/
theorem wpl_put {ops : Array Oper} {rest : List Oper} {o : Oper} {a : Act} {w : World} {Q : Exit → Act → World → Prop} (hgd : o.guard = none) (ty : TypeId) (x y : Operand) (ho : o.op = .store ty x y)
    (g off : Nat) (v : Value) (cells : Array Value) (hx : a.eval x = .pointer (some ⟨g, off, none⟩)) (hy : a.eval y = v) (hv : v.cells = cells)
    (t : TypeId) (old : Array Value) (hg : w.heap[g]? = some (.cells old t (0, 0))) (hi : (Try.prog.info? ty).map (·.size) = some cells.size)
    (new : Array Value) (hnew : setSeg old off cells.toList = new) (hb : off + cells.size ≤ old.size) (h1 : cells.all (·.oneCell') = true)
    (h : ∀ w', w'.heap[g]? = some (.cells new t (0, 0)) → SetR w w' g → wpList Try.prog ops Q rest (a.put o.dst undef) w') : wpList Try.prog ops Q (o :: rest) a w := by
  subst hnew
  refine wpList_plain hgd fun K hK => ?_
  have hr := run_storeSeg g t off cells.toList 0 old w hg (by simp; omega) (fun v hv => (Array.all_eq_true_iff_forall_mem.1 h1) v (by simpa using hv))
  have hs : (storeVar ty ⟨g, off, none⟩ v).run Try.prog w = .ok () (w.setRow g (setSeg old off cells.toList)) := by
    cases hq : Try.prog.info? ty with
    | none => simp [hq] at hi
    | some i =>
      have hs : cells.size = i.size := by simp [hq] at hi; omega
      simp [storeVar, sizeOf, typeInfo, hq, hv, hs]
      simpa using hr
  unfold Oper.wp execOp
  simp only [ho, hx, hy, Instr.storeAt, Instr.sureAddr, Sem.run_bind, Sem.run_pure, Result.andThen_ok, hs]
  exact hK _ _ (h _ (setRow_heap w g old _ t (0, 0) hg) (setRow_is hg))
end Go.Proofs.Ytplgodfhhlnojaa
