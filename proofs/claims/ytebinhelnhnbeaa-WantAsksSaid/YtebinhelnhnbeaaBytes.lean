/- Appends onto rows of bytes of the call's own. -/
import Derived.Test.YtebinhelnhnbeaaOwnR
set_option linter.unusedSimpArgs false
set_option linter.unusedVariables false
namespace Go.Proofs.Ytebinhelnhnbeaa
open Go.RowKit
theorem info_u8 : (Try.prog.info? 5).map (fun i => (i.zero, i.size, i.bytes)) = some (some (.int .u8 0), 1, 1) := by kernel_rfl
/-- A row of bytes of the call's own. -/
def OB (w : World) (base : Nat) (v : Value) (l : List UInt8) : Prop := w.ownsRow base 5 1 v l.length (B8 l)
section
variable {w w' : World} {base : Nat} {v : Value} {l : List UInt8}
theorem OB.nil (w : World) (base : Nat) : OB w base (.slice none 0 0) [] := World.ownsRow_nil w base _ _
theorem OB.lit (w : World) (base : Nat) (l : List UInt8) (cs : Array Value) (n : Nat) (hcs : cs.toList = B8 l) (hn : l.length = n) (hb : base ≤ w.heap.size) (hm : n ≤ maxLen) :
    OB (w.alloc (.cells cs 5)) base (.slice (some ⟨w.heap.size, 0, none⟩) n n) l := by
  unfold OB
  rw [hn, ← hcs]
  exact World.ownsRow_lit w cs n hb hm (by rw [← Array.length_toList, hcs, B8_len, hn]; omega)
theorem OB.form (h : OB w base v l) : ∃ A c, v = .slice A l.length c ∧ l.length ≤ c ∧ c ≤ maxLen ∧ Rd w w.heap.size 1 A l.length (B8 l) := by
  have h' : w.ownsRow base 5 1 v l.length (B8 l) := h
  rcases h'.2 with ⟨rfl, h0⟩ | ⟨g, cap, cur, rfl, hg, hh, hc, hm, _⟩
  · refine ⟨none, 0, by rw [h0], by omega, by unfold maxLen; omega, ?_⟩
    have : l = [] := List.eq_nil_of_length_eq_zero h0
    subst this
    exact Rd.nil
  · exact ⟨_, _, rfl, hc, hm, Rd.of_own h'⟩
theorem OB.kept {row : Option Nat} (h : OB w base v l) (hg : w.grownBy w' row) (hne : v.ownBlock = none ∨ v.ownBlock ≠ row) : OB w' base v l := World.ownsRow.kept h hg hne
theorem OB.alloc (h : OB w base v l) (o : Obj) : OB (w.alloc o) base v l := World.ownsRow.alloc h o
theorem OB.lt (h : OB w base v l) : ∀ k, v.ownBlock = some k → base ≤ k ∧ k < w.heap.size := World.ownsRow.lt h
theorem OB.below {D : Nat} (h : OB w base v l) (hb : Below D w w') (hd : w.heap.size ≤ D) : OB w' base v l :=
  h.kept (row := none) ⟨hb.os, hb.tape, hb.output, hb.size, fun k hk _ => hb.block k (by omega)⟩ (by cases v.ownBlock <;> simp)
theorem OB.mono {base' : Nat} (h : OB w base v l) (hb : base' ≤ base) : OB w base' v l := by
  have h' : w.ownsRow base 5 1 v l.length (B8 l) := h
  rcases h' with ⟨h1, h2 | ⟨g, cap, cur, e, hg, r⟩⟩
  · exact ⟨h1, .inl h2⟩
  · exact ⟨h1, .inr ⟨g, cap, cur, e, by omega, r⟩⟩
end
theorem wpl_app {w : World} {ops : Array Oper} {rest : List Oper} {o : Oper} {a : Act} {Q : Exit → Act → World → Prop} (hgd : o.guard = none) (s x : Operand)
    (ho : o.op = .call { callee := .builtin .append, args := #[s, x], argTypes := #[24, 24] })
    (base : Nat) (v : Value) (l : List UInt8) (hs : a.eval s = v) (hown : OB w base v l)
    (D : Nat) (A : Option Addr) (m c : Nat) (r : List UInt8) (hx : a.eval x = .slice A m c) (hr : Rd w D 1 A m (B8 r))
    (hsum : l.length + m ≤ 140737488355328) (hbase : base ≤ w.heap.size)
    (h : ∀ v' w', OB w' base v' (l ++ r) → w.grownBy w' v.ownBlock → (v'.ownBlock = v.ownBlock ∨ v'.ownBlock = some w.heap.size) → wpList Try.prog ops Q rest (a.put o.dst v') w') : wpList Try.prog ops Q (o :: rest) a w := by
  obtain ⟨i0, hi, hz0, hz1, hz2⟩ := info_parts info_u8
  have hm : r.length = m := by have := hr.1; rw [B8_len] at this; omega
  refine wpList_plain hgd fun K hK => ?_
  obtain ⟨v', w', hrun, h2, h3, h4⟩ := run_append_rd (P := Try.prog) w base 24 o.type 5 i0 _ 1 1 Try.underlying24 hi hz0 hz1 hz2 rfl (by omega) v _ _ hown D A m c _ hr (B8_one r) (by unfold maxLen; omega) (by omega) hbase
  unfold Oper.wp execOp
  simp only [ho, resolve, invoke, builtin, Sem.run_bind, Sem.run_pure, Result.andThen_ok, List.map_toArray, List.map_cons, List.map_nil, hs, hx, hrun]
  exact hK _ _ (h v' w' (by unfold OB; rw [List.length_append, hm, B8_app]; exact h2) h3 h4)
theorem info_sl : (Try.prog.info? 24).map (fun i => (i.zero, i.size, i.bytes)) = some (some (.slice none 0 0), 1, 24) := by kernel_rfl
/-- A row of rows of bytes, all of the call's own. -/
def OBs (w : World) (base : Nat) (v : Value) (ls : List (List UInt8)) : Prop :=
  ∃ vs : List Value, w.ownsRow base 24 1 v ls.length vs ∧ ∀ (i : Nat) (l : List UInt8), ls[i]? = some l → ∃ u, vs[i]? = some u ∧ OB w base u l
theorem OBs.nil (w : World) (base : Nat) : OBs w base (.slice none 0 0) [] := ⟨[], World.ownsRow_nil w base _ _, fun i l h => by simp at h⟩
theorem OB.one {w : World} {base : Nat} {v : Value} {l : List UInt8} (h : OB w base v l) : v.oneCell' = true := by
  obtain ⟨A, c, rfl, _⟩ := h.form
  rfl
theorem run_conv_str {w : World} {D n c : Nat} {A : Option Addr} {l : List UInt8} (hr : Rd w D 1 A n (B8 l)) : (convert 24 9 (.slice A n c)).run Try.prog w = .ok (.string ⟨l.toArray⟩) w := by
  have hlen : l.length = n := by have := hr.1; rw [B8_len] at this; omega
  rw [run_convert_bytes_string w 24 9 5 A n c Try.underlying24 Try.underlying5 Try.underlying9]
  rcases Nat.eq_zero_or_pos n with h0 | h0
  · subst h0
    have : l = [] := List.eq_nil_of_length_eq_zero hlen
    subst this
    cases A with
    | none => simp [Conv.bytesToString]; rfl
    | some a =>
      have := run_bytesToString (P := Try.prog) w a 0 c [] (by simpa using run_loadCells_list (P := Try.prog) w a [] (fun j v hj => by simp at hj))
      rw [this]
      rfl
  · obtain ⟨ad, rfl, _, hcell⟩ := hr.2 h0
    have hl : (loadCells ad n).run Try.prog w = .ok ((l.map fun b => (b.toNat : Int)).map (Value.int .u8)).toArray w := by
      have := run_loadCells_list (P := Try.prog) w ad (B8 l) (fun j v hj => hcell j v hj)
      rw [B8_len, hlen] at this
      rw [this, B8, List.map_map]
      rfl
    rw [run_bytesToString (P := Try.prog) w ad n c _ hl, foldl_push_bytes]
    simp [ByteArray.empty, ByteArray.emptyWithCapacity, Function.comp_def]
    rfl
end Go.Proofs.Ytebinhelnhnbeaa
