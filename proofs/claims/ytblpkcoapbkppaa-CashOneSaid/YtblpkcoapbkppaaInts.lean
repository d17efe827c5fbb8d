/- Rows of numbers. -/
import Derived.Test.YtblpkcoapbkppaaOwnR
import Derived.Test.YtblpkcoapbkppaaCashRef
set_option linter.unusedSimpArgs false
set_option linter.unusedVariables false
namespace Go.Proofs.Ytblpkcoapbkppaa
open Go.RowKit
def I8 (l : List Int) : List Value := l.map (Value.int .i64)
theorem I8_len (l : List Int) : (I8 l).length = l.length := by simp [I8]
theorem I8_at (l : List Int) (k : Nat) (h : k < l.length) : (I8 l)[k]? = some (.int .i64 (l[k]'h)) := by simp [I8, h]
theorem I8_one (l : List Int) : ∀ u ∈ I8 l, u.oneCell' = true := by
  intro u hu
  simp only [I8, List.mem_map] at hu
  obtain ⟨b, _, rfl⟩ := hu
  rfl
theorem I8_app (a b : List Int) : I8 (a ++ b) = I8 a ++ I8 b := by simp [I8]
theorem I8_set (l : List Int) (k : Nat) (x : Int) : I8 (l.set k x) = (I8 l).set k (.int .i64 x) := by simp [I8, List.map_set]
theorem info_i64 : (Try.prog.info? 2).map (fun i => (i.zero, i.size, i.bytes)) = some (some (.int .i64 0), 1, 8) := by kernel_rfl
/-- A row of numbers of the call's own. -/
def OI (w : World) (base : Nat) (v : Value) (l : List Int) : Prop := w.ownsRow base 2 1 v l.length (I8 l)
theorem OI.nil (w : World) (base : Nat) : OI w base (.slice none 0 0) [] := World.ownsRow_nil w base _ _
theorem OI.form {w : World} {base : Nat} {v : Value} {l : List Int} (h : OI w base v l) : ∃ A c, v = .slice A l.length c ∧ l.length ≤ c ∧ c ≤ maxLen ∧ Rd w w.heap.size 1 A l.length (I8 l) := by
  have h' : w.ownsRow base 2 1 v l.length (I8 l) := h
  rcases h'.2 with ⟨rfl, h0⟩ | ⟨g, cap, cur, rfl, hg, hh, hc, hm, _⟩
  · refine ⟨none, 0, by rw [h0], by omega, by unfold maxLen; omega, ?_⟩
    have : l = [] := List.eq_nil_of_length_eq_zero h0
    subst this
    exact Rd.nil
  · exact ⟨_, _, rfl, hc, hm, Rd.of_own h'⟩
theorem OI.block {w : World} {base : Nat} {v : Value} {l : List Int} (h : OI w base v l) (h0 : 0 < l.length) : ∃ g c, v = .slice (some ⟨g, 0, none⟩) l.length c ∧ base ≤ g ∧ g < w.heap.size := by
  have h' : w.ownsRow base 2 1 v l.length (I8 l) := h
  rcases h'.2 with ⟨rfl, h1⟩ | ⟨g, cap, cur, rfl, hg, hh, hc, hm, _⟩
  · omega
  · exact ⟨g, cap, rfl, hg, by rw [Array.getElem?_eq_some_iff] at hh; exact hh.1⟩
theorem OI.below {w w' : World} {base D : Nat} {v : Value} {l : List Int} (h : OI w base v l) (hb : Below D w w') (hd : w.heap.size ≤ D) : OI w' base v l :=
  World.ownsRow.kept (row := none) h ⟨hb.os, hb.tape, hb.output, hb.size, fun k hk _ => hb.block k (by omega)⟩ (by cases v.ownBlock <;> simp)
theorem OI.alloc {w : World} {base : Nat} {v : Value} {l : List Int} (h : OI w base v l) (o : Obj) : OI (w.alloc o) base v l := World.ownsRow.alloc h o
theorem OI.lt {w : World} {base : Nat} {v : Value} {l : List Int} (h : OI w base v l) : ∀ k, v.ownBlock = some k → base ≤ k ∧ k < w.heap.size := World.ownsRow.lt h
theorem OI.mono {w : World} {base base' : Nat} {v : Value} {l : List Int} (h : OI w base v l) (hb : base' ≤ base) : OI w base' v l := by
  have h' : w.ownsRow base 2 1 v l.length (I8 l) := h
  rcases h' with ⟨h1, h2 | ⟨g, cap, cur, e, hg, r⟩⟩
  · exact ⟨h1, .inl h2⟩
  · exact ⟨h1, .inr ⟨g, cap, cur, e, by omega, r⟩⟩
theorem rd_new1 (w : World) (u : Value) (t : TypeId) : Rd (w.alloc (.cells #[u] t)) (w.heap.size + 1) 1 (some ⟨w.heap.size, 0, none⟩) 1 [u] :=
  ⟨by simp, fun _ => ⟨_, rfl, by simp, World.news_of_block (heap_alloc_new w _)⟩⟩
theorem rd_litI (w : World) (l : List Int) (cs : Array Value) (n : Nat) (hcs : cs.toList = I8 l) (hn : l.length = n) (t : TypeId) (m : Nat × Nat) : Rd (w.alloc (.cells cs t m)) (w.alloc (.cells cs t m)).heap.size 1 (some ⟨w.heap.size, 0, none⟩) n (I8 l) :=
  ⟨by rw [I8_len]; omega, fun _ => ⟨_, rfl, by simp, by rw [← hcs]; exact World.news_of_block (heap_alloc_new w _)⟩⟩
theorem Rd.num {w : World} {D n : Nat} {A : Option Addr} {l : List Int} {k : Nat} (h : Rd w D 1 A n (I8 l)) (hk : k < n) : ∃ ad, ∃ hl : k < l.length, A = some ad ∧ ad.block < D ∧ w.cell? (ad.add k) = some (.int .i64 (l[k]'hl)) := by
  obtain ⟨ad, u, e, hb, hx, hc⟩ := h.at1 hk
  have hl : k < l.length := by have := h.1; rw [I8_len] at this; omega
  rw [I8_at l k hl] at hx
  cases hx
  exact ⟨ad, hl, e, hb, hc⟩
/-- A number more at a row's end. -/
theorem wpl_appI {w : World} {ops : Array Oper} {rest : List Oper} {o : Oper} {a : Act} {Q : Exit → Act → World → Prop} (hgd : o.guard = none) (s x : Operand)
    (ho : o.op = .call { callee := .builtin .append, args := #[s, x], argTypes := #[22, 22] })
    (base : Nat) (v : Value) (l : List Int) (hs : a.eval s = v) (hown : OI w base v l)
    (D : Nat) (A : Option Addr) (m c : Nat) (r : List Int) (hx : a.eval x = .slice A m c) (hr : Rd w D 1 A m (I8 r))
    (hsum : l.length + m ≤ 1000000000000) (hbase : base ≤ w.heap.size)
    (h : ∀ v' w', OI w' base v' (l ++ r) → w.grownBy w' v.ownBlock → (v'.ownBlock = v.ownBlock ∨ v'.ownBlock = some w.heap.size) → wpList Try.prog ops Q rest (a.put o.dst v') w') : wpList Try.prog ops Q (o :: rest) a w := by
  have hm : r.length = m := by have := hr.1; rw [I8_len] at this; omega
  refine wpl_app1 hgd s x 22 2 (.int .i64 0) 8 (by kernel_rfl) info_i64 rfl ho base v l.length (I8 l) hs hown D A m c (I8 r) hx hr (I8_one r) (by omega) (by omega) hbase fun v' w' h1 h2 h3 => h v' w' ?_ h2 h3
  unfold OI
  rw [List.length_append, hm, I8_app]
  exact h1
end Go.Proofs.Ytblpkcoapbkppaa
