/- Rows of the call's own, of elements of any size: words. -/
import Derived.Test.YtplgodfhhlnojaaOwnR
set_option linter.unusedSimpArgs false
set_option linter.unusedVariables false
namespace Go.Proofs.Ytplgodfhhlnojaa
open Go.RowKit
section
variable {w w' : World} {base s n : Nat} {e : TypeId} {v : Value} {xs : List Value}
theorem own_form (h : w.ownsRow base e s v n xs) : ∃ A c, v = .slice A n c ∧ n ≤ c ∧ c ≤ maxLen ∧ Rd w w.heap.size s A n xs := by
  rcases h.2 with ⟨rfl, h0⟩ | ⟨g, cap, cur, rfl, hg, hh, hc, hm, _⟩
  · subst h0
    have : xs = [] := List.eq_nil_of_length_eq_zero (by simpa using h.1)
    subst this
    exact ⟨none, 0, rfl, Nat.le_refl _, Nat.zero_le _, Rd.nil⟩
  · exact ⟨_, _, rfl, hc, hm, Rd.of_own h⟩
theorem own_below {D : Nat} (h : w.ownsRow base e s v n xs) (hb : Below D w w') (hd : w.heap.size ≤ D) : w'.ownsRow base e s v n xs :=
  World.ownsRow.kept h (row := none) ⟨hb.os, hb.tape, hb.output, hb.size, fun k hk _ => hb.block k (by omega)⟩ (by cases v.ownBlock <;> simp)
theorem own_alloc (h : w.ownsRow base e s v n xs) (o : Obj) : (w.alloc o).ownsRow base e s v n xs := World.ownsRow.alloc h o
theorem own_drewA (h : w.ownsRow base e s v n xs) (o : Obj) : (w.drew.alloc o).ownsRow base e s v n xs := World.ownsRow.alloc (w := w.drew) h o
theorem own_mono {base' : Nat} (h : w.ownsRow base e s v n xs) (hb : base' ≤ base) : w.ownsRow base' e s v n xs := by
  rcases h with ⟨h1, h2 | ⟨g, cap, cur, e, hg, r⟩⟩
  · exact ⟨h1, .inl h2⟩
  · exact ⟨h1, .inr ⟨g, cap, cur, e, by omega, r⟩⟩
theorem own_base (h : w.ownsRow base e s v n xs) : ∀ k, v.ownBlock = some k → base ≤ k := fun k hk => (World.ownsRow.lt h k hk).1
theorem rd_newH (w : World) (cs : Array Value) (t : TypeId) (m : Nat × Nat) (n s H : Nat) (hH : w.heap.size = H) (h : cs.size = n * s) : Rd (w.alloc (.cells cs t m)) (H + 1) s (some ⟨H, 0, none⟩) n cs.toList := by
  subst hH
  exact ⟨by rw [Array.length_toList]; exact h, fun _ => ⟨_, rfl, by simp, World.news_of_block (heap_alloc_new w _)⟩⟩
theorem rd_new (w : World) (cs : Array Value) (t : TypeId) (m : Nat × Nat) (n s : Nat) (h : cs.size = n * s) : Rd (w.alloc (.cells cs t m)) (w.heap.size + 1) s (some ⟨w.heap.size, 0, none⟩) n cs.toList :=
  ⟨by rw [Array.length_toList]; exact h, fun _ => ⟨_, rfl, by simp, World.news_of_block (heap_alloc_new w _)⟩⟩
theorem cell_in {a : Addr} {u : Value} (h : w.cell? a = some u) : a.block < w.heap.size := by
  rcases Nat.lt_or_ge a.block w.heap.size with h' | h'
  · exact h'
  · simp [World.cell?, Array.getElem?_eq_none h'] at h
/-- What lay below a block stands, whatever came behind. -/
theorem bcell {W w1 : World} {D : Nat} (hb : Below D W w1) {b o : Nat} {u : Value} (h : W.cell? ⟨b, o, none⟩ = some u) (hd : b < D) : w1.cell? ⟨b, o, none⟩ = some u := (hb.cell (p := ⟨b, o, none⟩) hd).trans h
end
/-- An append onto a row of the call's own: elements of s cells. -/
theorem wpl_appS {w : World} {ops : Array Oper} {rest : List Oper} {o : Oper} {a : Act} {Q : Exit → Act → World → Prop} (hgd : o.guard = none) (s x : Operand) (t e : TypeId) (z : Value) (sz by_ : Nat)
    (ht : Try.prog.underlying t = some (.slice e)) (hinfo : (Try.prog.info? e).map (fun i => (i.zero, i.size, i.bytes)) = some (some z, sz, by_)) (hz : z.cells.size = sz) (h0 : 0 < sz)
    (ho : o.op = .call { callee := .builtin .append, args := #[s, x], argTypes := #[t, t] })
    (base : Nat) (v : Value) (n : Nat) (xs : List Value) (hs : a.eval s = v) (hown : w.ownsRow base e sz v n xs)
    (D : Nat) (A : Option Addr) (m c : Nat) (news : List Value) (hx : a.eval x = .slice A m c) (hr : Rd w D sz A m news) (h1 : ∀ u ∈ news, u.oneCell' = true)
    (hsum : (n + m) * by_ ≤ 140737488355328) (hby : 1 ≤ by_) (hbase : base ≤ w.heap.size)
    (h : ∀ v' w', w'.ownsRow base e sz v' (n + m) (xs ++ news) → w.grownBy w' v.ownBlock → (v'.ownBlock = v.ownBlock ∨ v'.ownBlock = some w.heap.size) → wpList Try.prog ops Q rest (a.put o.dst v') w') : wpList Try.prog ops Q (o :: rest) a w := by
  obtain ⟨i0, hi, hz0, hz1, hz2⟩ := info_parts hinfo
  refine wpList_plain hgd fun K hK => ?_
  have hmx : n + m ≤ maxLen := by
    have := Nat.mul_le_mul_left (n + m) hby
    unfold maxLen
    omega
  obtain ⟨v', w', hrun, h2, h3, h4⟩ := run_append_rd (P := Try.prog) w base t o.type e i0 z sz by_ ht hi hz0 hz1 hz2 hz h0 v _ _ hown D A m c _ hr h1 hmx hsum hbase
  unfold Oper.wp execOp
  simp only [ho, resolve, invoke, builtin, Sem.run_bind, Sem.run_pure, Result.andThen_ok, List.map_toArray, List.map_cons, List.map_nil, hs, hx, hrun]
  exact hK _ _ (h v' w' h2 h3 h4)
/-- The same at a step of a region that draws its order. -/
theorem step_appS {w : World} {ops : Array Oper} {o : Oper} {a : Act} {K : Act → World → Prop} {Q : Exit → Act → World → Prop} {E : Prop} (hgd : o.guard = none) (s x : Operand) (t e : TypeId) (z : Value) (sz by_ : Nat)
    (ht : Try.prog.underlying t = some (.slice e)) (hinfo : (Try.prog.info? e).map (fun i => (i.zero, i.size, i.bytes)) = some (some z, sz, by_)) (hz : z.cells.size = sz) (h0 : 0 < sz)
    (ho : o.op = .call { callee := .builtin .append, args := #[s, x], argTypes := #[t, t] })
    (base : Nat) (v : Value) (n : Nat) (xs : List Value) (hs : a.eval s = v) (hown : w.ownsRow base e sz v n xs)
    (D : Nat) (A : Option Addr) (m c : Nat) (news : List Value) (hx : a.eval x = .slice A m c) (hr : Rd w D sz A m news) (h1 : ∀ u ∈ news, u.oneCell' = true)
    (hsum : (n + m) * by_ ≤ 140737488355328) (hby : 1 ≤ by_) (hbase : base ≤ w.heap.size)
    (h : ∀ v' w', w'.ownsRow base e sz v' (n + m) (xs ++ news) → w.grownBy w' v.ownBlock → (v'.ownBlock = v.ownBlock ∨ v'.ownBlock = some w.heap.size) → K (a.put o.dst v') w') : if Region.wanted o (yielded ops a.tmps) = true then Oper.wp Try.prog o a w K Q else E := by
  have hw : Region.wanted o (yielded ops a.tmps) = true := by simp [Region.wanted, hgd]
  rw [if_pos hw]
  obtain ⟨i0, hi, hz0, hz1, hz2⟩ := info_parts hinfo
  have hmx : n + m ≤ maxLen := by
    have := Nat.mul_le_mul_left (n + m) hby
    unfold maxLen
    omega
  obtain ⟨v', w', hrun, h2, h3, h4⟩ := run_append_rd (P := Try.prog) w base t o.type e i0 z sz by_ ht hi hz0 hz1 hz2 hz h0 v _ _ hown D A m c _ hr h1 hmx hsum hbase
  unfold Oper.wp execOp
  simp only [ho, resolve, invoke, builtin, Sem.run_bind, Sem.run_pure, Result.andThen_ok, List.map_toArray, List.map_cons, List.map_nil, hs, hx, hrun]
  exact h v' w' h2 h3 h4
end Go.Proofs.Ytplgodfhhlnojaa
