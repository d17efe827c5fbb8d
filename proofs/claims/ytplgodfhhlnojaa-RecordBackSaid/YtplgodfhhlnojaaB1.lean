/- Kit, OwnR, OwnG, Bytes, Zig, OpenE, Open, BelowR, merged. -/
import Derived.Test.YtplgodfhhlnojaaProg
import Derived.WalkKit
import Derived.WalkLawsBesides
import Derived.WalkSpells
import Derived.KernelRfl
import Derived.Lib.Hide
import Derived.Below
import Derived.Laws.OwnMore
import Derived.Deep.AppendLies
import Derived.Deep.Draws
import Derived.Deep.LoopGhost
import Derived.Deep.QuietTactic
import Derived.BigQuiet
import Derived.Maps.AppendAt
import Derived.RegionTactic
import Derived.OwnWalk
import Derived.Laws.BytesArg
import Derived.Lib.ConvBytes
import Derived.Lib.AppendStr
import Derived.Lib.SlBytesConst
import Derived.Laws.MakeOwn
import Derived.ArgAppend
import Derived.Deep.RegionHeld3
import Derived.Deep.DeepCutAuto
import Derived.Deep.CutBlock
import Derived.Deep.RegionWith
import Derived.ProofKit
import Derived.Deep.Slices
import Derived.ChangeArms
import Derived.Deep.Matrix
set_option linter.unusedSimpArgs false
set_option linter.unusedVariables false
/- Small words of this seat's proofs: slices that read as lists, rows of bytes, frames. -/
namespace Go.Proofs.Ytplgodfhhlnojaa
open Go.RowKit

theorem ret_int {k : IntKind} {a b : Int} (h : a = b) : Ending.returned (.int k a) = .returned (.int k b) := by rw [h]
theorem ret_bool {a b : Bool} (h : a = b) : Ending.returned (.bool a) = .returned (.bool b) := by rw [h]
theorem ret_pair {v : Value} {k : IntKind} {a b : Int} (h : a = b) : Ending.returned (.tuple #[v, .int k a]) = .returned (.tuple #[v, .int k b]) := by rw [h]
theorem ret_str {a b : ByteArray} (h : a = b) : Ending.returned (.string a) = .returned (.string b) := by rw [h]

/-- Bytes as cells. -/
def B8 (l : List UInt8) : List Value := l.map fun b => Value.int .u8 b.toNat
theorem B8_len (l : List UInt8) : (B8 l).length = l.length := by simp [B8]
theorem B8_at (l : List UInt8) (k : Nat) (h : k < l.length) : (B8 l)[k]? = some (.int .u8 (l[k]'h).toNat) := by simp [B8, h]
theorem B8_app (a b : List UInt8) : B8 (a ++ b) = B8 a ++ B8 b := by simp [B8]
theorem B8_one (l : List UInt8) : ∀ u ∈ B8 l, u.oneCell' = true := by
  intro u hu
  simp only [B8, List.mem_map] at hu
  obtain ⟨b, _, rfl⟩ := hu
  rfl
theorem B8_str (s : ByteArray) : B8 s.data.toList = Lib.strCells s := rfl
theorem u8_lt (b : UInt8) : b.toNat < 256 := b.toNat_lt

theorem block_add (a : Addr) (n : Nat) : (a.add n).block = a.block := by unfold Addr.add; split <;> rfl
theorem add_add (a : Addr) (i j : Nat) : (a.add i).add j = a.add (i + j) := by
  unfold Addr.add
  by_cases hi : i = 0 <;> by_cases hj : j = 0 <;> simp [hi, hj, Nat.add_assoc]

/-- The slice value '.slice A n _' holds the cells xs (size cells an element), below block D. -/
def Rd (w : World) (D size : Nat) (A : Option Addr) (n : Nat) (xs : List Value) : Prop :=
  xs.length = n * size ∧ (0 < n → ∃ ad, A = some ad ∧ ad.block < D ∧ ∀ j u, xs[j]? = some u → w.cell? (ad.add j) = some u)
section
variable {w w' : World} {D D' size n : Nat} {A : Option Addr} {xs : List Value}
theorem Rd.nil : Rd w D size A 0 [] := ⟨by simp, fun h => absurd h (by omega)⟩
theorem Rd.at1 {k : Nat} (h : Rd w D 1 A n xs) (hk : k < n) : ∃ ad u, A = some ad ∧ ad.block < D ∧ xs[k]? = some u ∧ w.cell? (ad.add k) = some u := by
  obtain ⟨ad, e, hb, hc⟩ := h.2 (by omega)
  have hl : k < xs.length := by have := h.1; omega
  exact ⟨ad, xs[k], e, hb, List.getElem?_eq_getElem hl, hc k _ (List.getElem?_eq_getElem hl)⟩
theorem Rd.keep (h : Rd w D size A n xs) (hk : ∀ p : Addr, p.block < D → w'.cell? p = w.cell? p) : Rd w' D size A n xs :=
  ⟨h.1, fun hn => by
    obtain ⟨ad, e, hb, hc⟩ := h.2 hn
    exact ⟨ad, e, hb, fun j u hu => (hk _ (by rw [block_add]; exact hb)).trans (hc j u hu)⟩⟩
theorem Rd.more (h : Rd w D size A n xs) (hB : D ≤ D') : Rd w D' size A n xs :=
  ⟨h.1, fun hn => by
    obtain ⟨ad, e, hb, hc⟩ := h.2 hn
    exact ⟨ad, e, by omega, hc⟩⟩
theorem Rd.below (h : Rd w D size A n xs) (hb : Below D w w') : Rd w' D size A n xs := h.keep fun _ hp => hb.cell hp
theorem Rd.drew (h : Rd w D size A n xs) : Rd w.drew D size A n xs := h
theorem Rd.drewN (h : Rd w D size A n xs) (k : Nat) : Rd (w.drewN k) D size A n xs := h
theorem Rd.alloc (h : Rd w D size A n xs) (hB : D ≤ w.heap.size) (o : Obj) : Rd (w.alloc o) D size A n xs := h.keep fun p hp => World.cell?_alloc_lt w o p (by omega)
theorem Rd.setCell (h : Rd w D size A n xs) {p : Addr} (hB : D ≤ p.block) (u : Value) : Rd (w.setCell p u) D size A n xs :=
  h.keep fun q hq => World.cell?_setCell_other w p q u (fun e => by subst e; omega)
theorem Rd.grown (h : Rd w D size A n xs) {row : Option Nat} (hg : w.grownBy w' row) (hB : D ≤ w.heap.size) (hr : ∀ g, row = some g → D ≤ g) : Rd w' D size A n xs :=
  h.keep fun p hp => World.cell?_of_block (hg.block p.block (by omega) (fun e => by have := hr _ e.symm; omega))
theorem Rd.cut (h : Rd w D size A n xs) {k cap : Nat} (hk : k ≤ n) (hc : n ≤ cap) :
    Rd w D size (if cap = k then A else A.map (·.add (k * size))) (n - k) (xs.drop (k * size)) := by
  refine ⟨by rw [List.length_drop, h.1, Nat.sub_mul], fun hn => ?_⟩
  obtain ⟨ad, rfl, hb, hcell⟩ := h.2 (by omega)
  rw [if_neg (by omega)]
  refine ⟨ad.add (k * size), rfl, by rw [block_add]; exact hb, fun j u hu => ?_⟩
  rw [add_add]
  exact hcell _ u (by rw [← hu, List.getElem?_drop])
theorem Rd.take (h : Rd w D size A n xs) {k : Nat} (hk : k ≤ n) : Rd w D size A k (xs.take (k * size)) := by
  refine ⟨by rw [List.length_take, h.1]; exact Nat.min_eq_left (Nat.mul_le_mul_right _ hk), fun hn => ?_⟩
  obtain ⟨ad, e, hb, hcell⟩ := h.2 (by omega)
  exact ⟨ad, e, hb, fun j u hu => hcell j u (by rw [List.getElem?_take] at hu; split at hu; exact hu; cases hu)⟩
theorem Rd.of_own {base : Nat} {e : TypeId} {c : Nat} (h : w.ownsRow base e size (.slice A n c) n xs) : Rd w w.heap.size size A n xs := by
  refine ⟨h.1, fun hn => ?_⟩
  obtain ⟨g, cap, hv, _, hlt⟩ := h.form hn
  have hA : A = some ⟨g, 0, none⟩ := by injection hv
  subst hA
  exact ⟨_, rfl, hlt, h.cells (g := g) rfl⟩
theorem Rd.byte {l : List UInt8} {k : Nat} (h : Rd w D 1 A n (B8 l)) (hk : k < n) : ∃ ad, ∃ hl : k < l.length, A = some ad ∧ ad.block < D ∧ w.cell? (ad.add k) = some (.int .u8 (l[k]'hl).toNat) := by
  obtain ⟨ad, u, e, hb, hx, hc⟩ := h.at1 hk
  have hl : k < l.length := by have := h.1; rw [B8_len] at this; omega
  rw [B8_at l k hl] at hx
  cases hx
  exact ⟨ad, hl, e, hb, hc⟩
end
end Go.Proofs.Ytplgodfhhlnojaa

/- Appends onto rows of the call's own: for any elements. -/
namespace Go.Proofs.Ytplgodfhhlnojaa
open Go.RowKit
section
variable {P : Program} (w : World)
theorem run_append_nil_src (base : Nat) (t ty e : TypeId) (i : TypeInfo) (size : Nat) (ht : P.underlying t = some (.slice e)) (hi : P.info? e = some i)
    (v : Value) (n : Nat) (xs : List Value) (hown : w.ownsRow base e size v n xs) (c : Nat) : (Builtin.append_ #[t, t] ty #[v, .slice none 0 c]).run P w = .ok v w := by
  rcases hown.2 with ⟨rfl, rfl⟩ | ⟨g, cap, cur, rfl, _, _, hnc, _⟩
  · simp [Builtin.append_, run_underlying ht, sizeOf, typeInfo, hi, Builtin.lenOf, Builtin.firstCells]
  · simp [Builtin.append_, run_underlying ht, sizeOf, typeInfo, hi, Builtin.lenOf, Builtin.firstCells, hnc, storeCells]
theorem run_append_rd (base : Nat) (t ty e : TypeId) (i : TypeInfo) (z : Value) (size bytes : Nat) (ht : P.underlying t = some (.slice e)) (hi : P.info? e = some i) (hz : i.zero = some z)
    (hsize : i.size = size) (hby : i.bytes = bytes) (hzs : z.cells.size = size) (hsz : 0 < size)
    (v : Value) (n : Nat) (xs : List Value) (hown : w.ownsRow base e size v n xs)
    (D : Nat) (A : Option Addr) (m c : Nat) (news : List Value) (hr : Rd w D size A m news) (h1 : ∀ u ∈ news, u.oneCell' = true)
    (h63 : n + m ≤ maxLen) (hbytes : (n + m) * bytes ≤ 140737488355328) (hbase : base ≤ w.heap.size) :
    ∃ v' w', (Builtin.append_ #[t, t] ty #[v, .slice A m c]).run P w = .ok v' w' ∧ w'.ownsRow base e size v' (n + m) (xs ++ news) ∧ w.grownBy w' v.ownBlock ∧
      (v'.ownBlock = v.ownBlock ∨ v'.ownBlock = some w.heap.size) := by
  rcases A with _ | ad
  · have hm : m = 0 := by
      rcases Nat.eq_zero_or_pos m with h0 | h0
      · exact h0
      · obtain ⟨ad, h, _⟩ := hr.2 h0
        cases h
    subst hm
    have hn : news = [] := List.eq_nil_of_length_eq_zero (by simpa using hr.1)
    subst hn
    exact ⟨v, w, run_append_nil_src w base t ty e i size ht hi v n xs hown c, by simpa using hown, World.grownBy.refl w _, .inl rfl⟩
  · have hcells : ∀ j u, news[j]? = some u → w.cell? (ad.add j) = some u := by
      intro j u hu
      rcases Nat.eq_zero_or_pos m with h0 | h0
      · subst h0
        have hn : news = [] := List.eq_nil_of_length_eq_zero (by simpa using hr.1)
        subst hn
        simp at hu
      · obtain ⟨ad', h, _, hc⟩ := hr.2 h0
        injection h with h
        subst h
        exact hc j u hu
    obtain ⟨v', w', hrun, h2, h3, _, h5⟩ := run_append_own_at (P := P) w base t ty e i z size bytes ht hi hz hsize hby hzs hsz v n xs hown ad m c news hr.1 hcells h1 h63 hbytes hbase
    exact ⟨v', w', hrun, h2, h3, h5⟩
end

theorem wpl_app1 {w : World} {ops : Array Oper} {rest : List Oper} {o : Oper} {a : Act} {Q : Exit → Act → World → Prop} (hgd : o.guard = none) (s x : Operand) (t e : TypeId) (z : Value) (by_ : Nat)
    (ht : Try.prog.underlying t = some (.slice e)) (hinfo : (Try.prog.info? e).map (fun i => (i.zero, i.size, i.bytes)) = some (some z, 1, by_)) (hz : z.cells.size = 1)
    (ho : o.op = .call { callee := .builtin .append, args := #[s, x], argTypes := #[t, t] })
    (base : Nat) (v : Value) (n : Nat) (xs : List Value) (hs : a.eval s = v) (hown : w.ownsRow base e 1 v n xs)
    (D : Nat) (A : Option Addr) (m c : Nat) (news : List Value) (hx : a.eval x = .slice A m c) (hr : Rd w D 1 A m news) (h1 : ∀ u ∈ news, u.oneCell' = true)
    (hsum : (n + m) * by_ ≤ 140737488355328) (hby : 1 ≤ by_) (hbase : base ≤ w.heap.size)
    (h : ∀ v' w', w'.ownsRow base e 1 v' (n + m) (xs ++ news) → w.grownBy w' v.ownBlock → (v'.ownBlock = v.ownBlock ∨ v'.ownBlock = some w.heap.size) → wpList Try.prog ops Q rest (a.put o.dst v') w') : wpList Try.prog ops Q (o :: rest) a w := by
  obtain ⟨i0, hi, hz0, hz1, hz2⟩ := info_parts hinfo
  refine wpList_plain hgd fun K hK => ?_
  have hmx : n + m ≤ maxLen := by
    have := Nat.mul_le_mul_left (n + m) hby
    unfold maxLen
    omega
  obtain ⟨v', w', hrun, h2, h3, h4⟩ := run_append_rd (P := Try.prog) w base t o.type e i0 z 1 by_ ht hi hz0 hz1 hz2 hz (by omega) v _ _ hown D A m c _ hr h1 hmx hsum hbase
  unfold Oper.wp execOp
  simp only [ho, resolve, invoke, builtin, Sem.run_bind, Sem.run_pure, Result.andThen_ok, List.map_toArray, List.map_cons, List.map_nil, hs, hx, hrun]
  exact hK _ _ (h v' w' h2 h3 h4)

/-- Rows whose elements are of different types never lie in one block. -/
theorem own_ne {w : World} {b b' : Nat} {e e' : TypeId} {s s' n n' : Nat} {v v' : Value} {xs xs' : List Value} (h : w.ownsRow b e s v n xs) (h' : w.ownsRow b' e' s' v' n' xs') (hne : e ≠ e') : v.ownBlock = none ∨ v.ownBlock ≠ v'.ownBlock := by
  rcases h.2 with ⟨rfl, _⟩ | ⟨g, cap, cur, rfl, _, hh, _⟩
  · exact .inl rfl
  · rcases h'.2 with ⟨rfl, _⟩ | ⟨g', cap', cur', rfl, _, hh', _⟩
    · exact .inr (by simp [Value.ownBlock])
    · refine .inr (fun he => ?_)
      simp only [Value.ownBlock, Option.some.injEq] at he
      subst he
      rw [hh] at hh'
      injection hh' with hh'
      injection hh' with _ ht
      exact hne ht
theorem own_ne_blk {w : World} {b g : Nat} {e e' : TypeId} {s n : Nat} {v : Value} {xs : List Value} {cs : Array Value} {m : Nat × Nat} (h : w.ownsRow b e s v n xs) (h' : w.heap[g]? = some (.cells cs e' m)) (hne : e ≠ e') : v.ownBlock ≠ some g := by
  rcases h.2 with ⟨rfl, _⟩ | ⟨g', cap, cur, rfl, _, hh, _⟩
  · simp [Value.ownBlock]
  · intro he
    simp only [Value.ownBlock, Option.some.injEq] at he
    subst he
    rw [hh] at h'
    injection h' with h'
    injection h' with _ ht
    exact hne ht
end Go.Proofs.Ytplgodfhhlnojaa

/- Rows of the call's own, of elements of any size: words. -/
namespace Go.Proofs.Ytplgodfhhlnojaa
open Go.RowKit
section
variable {w w' : World} {base s n : Nat} {e : TypeId} {v : Value} {xs : List Value}
theorem own_form (h : w.ownsRow base e s v n xs) : ∃ A c, v = .slice A n c ∧ n ≤ c ∧ c ≤ maxLen ∧ Rd w w.heap.size s A n xs := by
  rcases h.2 with ⟨rfl, h0⟩ | ⟨g, cap, cur, rfl, hg, hh, hc, hm, _⟩
  · subst h0
    have : xs = [] := List.eq_nil_of_length_eq_zero (by simpa using h.1)
    subst this
    exact ⟨none, 0, rfl, Nat.le_refl _, Nat.zero_le _, Rd.nil⟩
  · exact ⟨_, _, rfl, hc, hm, Rd.of_own h⟩
theorem own_below {D : Nat} (h : w.ownsRow base e s v n xs) (hb : Below D w w') (hd : w.heap.size ≤ D) : w'.ownsRow base e s v n xs :=
  World.ownsRow.kept h (row := none) ⟨hb.os, hb.tape, hb.output, hb.size, fun k hk _ => hb.block k (by omega)⟩ (by cases v.ownBlock <;> simp)
theorem own_alloc (h : w.ownsRow base e s v n xs) (o : Obj) : (w.alloc o).ownsRow base e s v n xs := World.ownsRow.alloc h o
theorem own_drewA (h : w.ownsRow base e s v n xs) (o : Obj) : (w.drew.alloc o).ownsRow base e s v n xs := World.ownsRow.alloc (w := w.drew) h o
theorem own_mono {base' : Nat} (h : w.ownsRow base e s v n xs) (hb : base' ≤ base) : w.ownsRow base' e s v n xs := by
  rcases h with ⟨h1, h2 | ⟨g, cap, cur, e, hg, r⟩⟩
  · exact ⟨h1, .inl h2⟩
  · exact ⟨h1, .inr ⟨g, cap, cur, e, by omega, r⟩⟩
theorem own_base (h : w.ownsRow base e s v n xs) : ∀ k, v.ownBlock = some k → base ≤ k := fun k hk => (World.ownsRow.lt h k hk).1
theorem rd_newH (w : World) (cs : Array Value) (t : TypeId) (m : Nat × Nat) (n s H : Nat) (hH : w.heap.size = H) (h : cs.size = n * s) : Rd (w.alloc (.cells cs t m)) (H + 1) s (some ⟨H, 0, none⟩) n cs.toList := by
  subst hH
  exact ⟨by rw [Array.length_toList]; exact h, fun _ => ⟨_, rfl, by simp, World.news_of_block (heap_alloc_new w _)⟩⟩
theorem rd_new (w : World) (cs : Array Value) (t : TypeId) (m : Nat × Nat) (n s : Nat) (h : cs.size = n * s) : Rd (w.alloc (.cells cs t m)) (w.heap.size + 1) s (some ⟨w.heap.size, 0, none⟩) n cs.toList :=
  ⟨by rw [Array.length_toList]; exact h, fun _ => ⟨_, rfl, by simp, World.news_of_block (heap_alloc_new w _)⟩⟩
theorem cell_in {a : Addr} {u : Value} (h : w.cell? a = some u) : a.block < w.heap.size := by
  rcases Nat.lt_or_ge a.block w.heap.size with h' | h'
  · exact h'
  · simp [World.cell?, Array.getElem?_eq_none h'] at h
/-- What lay below a block stands, whatever came behind. -/
theorem bcell {W w1 : World} {D : Nat} (hb : Below D W w1) {b o : Nat} {u : Value} (h : W.cell? ⟨b, o, none⟩ = some u) (hd : b < D) : w1.cell? ⟨b, o, none⟩ = some u := (hb.cell (p := ⟨b, o, none⟩) hd).trans h
end
/-- An append onto a row of the call's own: elements of s cells. -/
theorem wpl_appS {w : World} {ops : Array Oper} {rest : List Oper} {o : Oper} {a : Act} {Q : Exit → Act → World → Prop} (hgd : o.guard = none) (s x : Operand) (t e : TypeId) (z : Value) (sz by_ : Nat)
    (ht : Try.prog.underlying t = some (.slice e)) (hinfo : (Try.prog.info? e).map (fun i => (i.zero, i.size, i.bytes)) = some (some z, sz, by_)) (hz : z.cells.size = sz) (h0 : 0 < sz)
    (ho : o.op = .call { callee := .builtin .append, args := #[s, x], argTypes := #[t, t] })
    (base : Nat) (v : Value) (n : Nat) (xs : List Value) (hs : a.eval s = v) (hown : w.ownsRow base e sz v n xs)
    (D : Nat) (A : Option Addr) (m c : Nat) (news : List Value) (hx : a.eval x = .slice A m c) (hr : Rd w D sz A m news) (h1 : ∀ u ∈ news, u.oneCell' = true)
    (hsum : (n + m) * by_ ≤ 140737488355328) (hby : 1 ≤ by_) (hbase : base ≤ w.heap.size)
    (h : ∀ v' w', w'.ownsRow base e sz v' (n + m) (xs ++ news) → w.grownBy w' v.ownBlock → (v'.ownBlock = v.ownBlock ∨ v'.ownBlock = some w.heap.size) → wpList Try.prog ops Q rest (a.put o.dst v') w') : wpList Try.prog ops Q (o :: rest) a w := by
  obtain ⟨i0, hi, hz0, hz1, hz2⟩ := info_parts hinfo
  refine wpList_plain hgd fun K hK => ?_
  have hmx : n + m ≤ maxLen := by
    have := Nat.mul_le_mul_left (n + m) hby
    unfold maxLen
    omega
  obtain ⟨v', w', hrun, h2, h3, h4⟩ := run_append_rd (P := Try.prog) w base t o.type e i0 z sz by_ ht hi hz0 hz1 hz2 hz h0 v _ _ hown D A m c _ hr h1 hmx hsum hbase
  unfold Oper.wp execOp
  simp only [ho, resolve, invoke, builtin, Sem.run_bind, Sem.run_pure, Result.andThen_ok, List.map_toArray, List.map_cons, List.map_nil, hs, hx, hrun]
  exact hK _ _ (h v' w' h2 h3 h4)
/-- The same at a step of a region that draws its order. -/
theorem step_appS {w : World} {ops : Array Oper} {o : Oper} {a : Act} {K : Act → World → Prop} {Q : Exit → Act → World → Prop} {E : Prop} (hgd : o.guard = none) (s x : Operand) (t e : TypeId) (z : Value) (sz by_ : Nat)
    (ht : Try.prog.underlying t = some (.slice e)) (hinfo : (Try.prog.info? e).map (fun i => (i.zero, i.size, i.bytes)) = some (some z, sz, by_)) (hz : z.cells.size = sz) (h0 : 0 < sz)
    (ho : o.op = .call { callee := .builtin .append, args := #[s, x], argTypes := #[t, t] })
    (base : Nat) (v : Value) (n : Nat) (xs : List Value) (hs : a.eval s = v) (hown : w.ownsRow base e sz v n xs)
    (D : Nat) (A : Option Addr) (m c : Nat) (news : List Value) (hx : a.eval x = .slice A m c) (hr : Rd w D sz A m news) (h1 : ∀ u ∈ news, u.oneCell' = true)
    (hsum : (n + m) * by_ ≤ 140737488355328) (hby : 1 ≤ by_) (hbase : base ≤ w.heap.size)
    (h : ∀ v' w', w'.ownsRow base e sz v' (n + m) (xs ++ news) → w.grownBy w' v.ownBlock → (v'.ownBlock = v.ownBlock ∨ v'.ownBlock = some w.heap.size) → K (a.put o.dst v') w') : if Region.wanted o (yielded ops a.tmps) = true then Oper.wp Try.prog o a w K Q else E := by
  have hw : Region.wanted o (yielded ops a.tmps) = true := by simp [Region.wanted, hgd]
  rw [if_pos hw]
  obtain ⟨i0, hi, hz0, hz1, hz2⟩ := info_parts hinfo
  have hmx : n + m ≤ maxLen := by
    have := Nat.mul_le_mul_left (n + m) hby
    unfold maxLen
    omega
  obtain ⟨v', w', hrun, h2, h3, h4⟩ := run_append_rd (P := Try.prog) w base t o.type e i0 z sz by_ ht hi hz0 hz1 hz2 hz h0 v _ _ hown D A m c _ hr h1 hmx hsum hbase
  unfold Oper.wp execOp
  simp only [ho, resolve, invoke, builtin, Sem.run_bind, Sem.run_pure, Result.andThen_ok, List.map_toArray, List.map_cons, List.map_nil, hs, hx, hrun]
  exact h v' w' h2 h3 h4
end Go.Proofs.Ytplgodfhhlnojaa

/- Appends onto rows of bytes of the call's own. -/
namespace Go.Proofs.Ytplgodfhhlnojaa
open Go.RowKit
theorem info_u8 : (Try.prog.info? 5).map (fun i => (i.zero, i.size, i.bytes)) = some (some (.int .u8 0), 1, 1) := by kernel_rfl
/-- A row of bytes of the call's own. -/
def OB (w : World) (base : Nat) (v : Value) (l : List UInt8) : Prop := w.ownsRow base 5 1 v l.length (B8 l)
section
variable {w w' : World} {base : Nat} {v : Value} {l : List UInt8}
theorem OB.nil (w : World) (base : Nat) : OB w base (.slice none 0 0) [] := World.ownsRow_nil w base _ _
theorem OB.lit (w : World) (base : Nat) (l : List UInt8) (cs : Array Value) (n : Nat) (hcs : cs.toList = B8 l) (hn : l.length = n) (hb : base ≤ w.heap.size) (hm : n ≤ maxLen) :
    OB (w.alloc (.cells cs 5)) base (.slice (some ⟨w.heap.size, 0, none⟩) n n) l := by
  unfold OB
  rw [hn, ← hcs]
  exact World.ownsRow_lit w cs n hb hm (by rw [← Array.length_toList, hcs, B8_len, hn]; omega)
theorem OB.form (h : OB w base v l) : ∃ A c, v = .slice A l.length c ∧ l.length ≤ c ∧ c ≤ maxLen ∧ Rd w w.heap.size 1 A l.length (B8 l) := by
  have h' : w.ownsRow base 5 1 v l.length (B8 l) := h
  rcases h'.2 with ⟨rfl, h0⟩ | ⟨g, cap, cur, rfl, hg, hh, hc, hm, _⟩
  · refine ⟨none, 0, by rw [h0], by omega, by unfold maxLen; omega, ?_⟩
    have : l = [] := List.eq_nil_of_length_eq_zero h0
    subst this
    exact Rd.nil
  · exact ⟨_, _, rfl, hc, hm, Rd.of_own h'⟩
theorem OB.kept {row : Option Nat} (h : OB w base v l) (hg : w.grownBy w' row) (hne : v.ownBlock = none ∨ v.ownBlock ≠ row) : OB w' base v l := World.ownsRow.kept h hg hne
theorem OB.alloc (h : OB w base v l) (o : Obj) : OB (w.alloc o) base v l := World.ownsRow.alloc h o
theorem OB.lt (h : OB w base v l) : ∀ k, v.ownBlock = some k → base ≤ k ∧ k < w.heap.size := World.ownsRow.lt h
theorem OB.below {D : Nat} (h : OB w base v l) (hb : Below D w w') (hd : w.heap.size ≤ D) : OB w' base v l :=
  h.kept (row := none) ⟨hb.os, hb.tape, hb.output, hb.size, fun k hk _ => hb.block k (by omega)⟩ (by cases v.ownBlock <;> simp)
theorem OB.mono {base' : Nat} (h : OB w base v l) (hb : base' ≤ base) : OB w base' v l := by
  have h' : w.ownsRow base 5 1 v l.length (B8 l) := h
  rcases h' with ⟨h1, h2 | ⟨g, cap, cur, e, hg, r⟩⟩
  · exact ⟨h1, .inl h2⟩
  · exact ⟨h1, .inr ⟨g, cap, cur, e, by omega, r⟩⟩
end
theorem wpl_app {w : World} {ops : Array Oper} {rest : List Oper} {o : Oper} {a : Act} {Q : Exit → Act → World → Prop} (hgd : o.guard = none) (s x : Operand)
    (ho : o.op = .call { callee := .builtin .append, args := #[s, x], argTypes := #[59, 59] })
    (base : Nat) (v : Value) (l : List UInt8) (hs : a.eval s = v) (hown : OB w base v l)
    (D : Nat) (A : Option Addr) (m c : Nat) (r : List UInt8) (hx : a.eval x = .slice A m c) (hr : Rd w D 1 A m (B8 r))
    (hsum : l.length + m ≤ 140737488355328) (hbase : base ≤ w.heap.size)
    (h : ∀ v' w', OB w' base v' (l ++ r) → w.grownBy w' v.ownBlock → (v'.ownBlock = v.ownBlock ∨ v'.ownBlock = some w.heap.size) → wpList Try.prog ops Q rest (a.put o.dst v') w') : wpList Try.prog ops Q (o :: rest) a w := by
  obtain ⟨i0, hi, hz0, hz1, hz2⟩ := info_parts info_u8
  have hm : r.length = m := by have := hr.1; rw [B8_len] at this; omega
  refine wpList_plain hgd fun K hK => ?_
  obtain ⟨v', w', hrun, h2, h3, h4⟩ := run_append_rd (P := Try.prog) w base 59 o.type 5 i0 _ 1 1 Try.underlying59 hi hz0 hz1 hz2 rfl (by omega) v _ _ hown D A m c _ hr (B8_one r) (by unfold maxLen; omega) (by omega) hbase
  unfold Oper.wp execOp
  simp only [ho, resolve, invoke, builtin, Sem.run_bind, Sem.run_pure, Result.andThen_ok, List.map_toArray, List.map_cons, List.map_nil, hs, hx, hrun]
  exact hK _ _ (h v' w' (by unfold OB; rw [List.length_append, hm, B8_app]; exact h2) h3 h4)
theorem info_sl : (Try.prog.info? 59).map (fun i => (i.zero, i.size, i.bytes)) = some (some (.slice none 0 0), 1, 24) := by kernel_rfl
/-- A row of rows of bytes, all of the call's own. -/
def OBs (w : World) (base : Nat) (v : Value) (ls : List (List UInt8)) : Prop :=
  ∃ vs : List Value, w.ownsRow base 59 1 v ls.length vs ∧ ∀ (i : Nat) (l : List UInt8), ls[i]? = some l → ∃ u, vs[i]? = some u ∧ OB w base u l
theorem OBs.nil (w : World) (base : Nat) : OBs w base (.slice none 0 0) [] := ⟨[], World.ownsRow_nil w base _ _, fun i l h => by simp at h⟩
theorem OB.one {w : World} {base : Nat} {v : Value} {l : List UInt8} (h : OB w base v l) : v.oneCell' = true := by
  obtain ⟨A, c, rfl, _⟩ := h.form
  rfl
theorem run_conv_str {w : World} {D n c : Nat} {A : Option Addr} {l : List UInt8} (hr : Rd w D 1 A n (B8 l)) : (convert 59 9 (.slice A n c)).run Try.prog w = .ok (.string ⟨l.toArray⟩) w := by
  have hlen : l.length = n := by have := hr.1; rw [B8_len] at this; omega
  rw [run_convert_bytes_string w 59 9 5 A n c Try.underlying59 Try.underlying5 Try.underlying9]
  rcases Nat.eq_zero_or_pos n with h0 | h0
  · subst h0
    have : l = [] := List.eq_nil_of_length_eq_zero hlen
    subst this
    cases A with
    | none => simp [Conv.bytesToString]; rfl
    | some a =>
      have := run_bytesToString (P := Try.prog) w a 0 c [] (by simpa using run_loadCells_list (P := Try.prog) w a [] (fun j v hj => by simp at hj))
      rw [this]
      rfl
  · obtain ⟨ad, rfl, _, hcell⟩ := hr.2 h0
    have hl : (loadCells ad n).run Try.prog w = .ok ((l.map fun b => (b.toNat : Int)).map (Value.int .u8)).toArray w := by
      have := run_loadCells_list (P := Try.prog) w ad (B8 l) (fun j v hj => hcell j v hj)
      rw [B8_len, hlen] at this
      rw [this, B8, List.map_map]
      rfl
    rw [run_bytesToString (P := Try.prog) w ad n c _ hl, foldl_push_bytes]
    simp [ByteArray.empty, ByteArray.emptyWithCapacity, Function.comp_def]
    rfl
end Go.Proofs.Ytplgodfhhlnojaa

/- Numbers as groups of seven bits, in plain lists: what is put, what is read, and that they fit. -/
namespace Go.Proofs.Ytplgodfhhlnojaa
open Go.RowKit
def grpF : Nat → Nat → List UInt8
  | 0, u => [UInt8.ofNat u]
  | f + 1, u => if u < 128 then [UInt8.ofNat u] else UInt8.ofNat (u % 128 + 128) :: grpF f (u / 128)
def grp (u : Nat) : List UInt8 := grpF 9 u
/-- The bound of a number of at most f + 1 groups. -/
def lim : Nat → Nat
  | 0 => 2
  | f + 1 => 128 * lim f
theorem lim9 : lim 9 = 18446744073709551616 := by decide
/-- The number that stands ahead, and how many bytes it has; f + 1 bytes at most. -/
def ung : Nat → List UInt8 → Option (Nat × Nat)
  | 0, _ => none
  | _, [] => none
  | f + 1, c :: l =>
    if f = 0 ∧ 1 < c.toNat then none
    else if c.toNat < 128 then (if c.toNat = 0 ∧ f ≠ 9 then none else some (c.toNat, 1))
    else (ung f l).map fun p => (c.toNat % 128 + 128 * p.1, p.2 + 1)
theorem grpF_pos (f u : Nat) : 0 < (grpF f u).length := by
  cases f with
  | zero => simp [grpF]
  | succ f => simp only [grpF]; split <;> simp
theorem grpF_le (f u : Nat) : (grpF f u).length ≤ f + 1 := by
  induction f generalizing u with
  | zero => simp [grpF]
  | succ f ih =>
    simp only [grpF]
    split
    · simp
    · simp only [List.length_cons]; have := ih (u / 128); omega
theorem grp_pos (u : Nat) : 0 < (grp u).length := grpF_pos _ _
theorem grp_le (u : Nat) : (grp u).length ≤ 10 := grpF_le _ _
theorem ung_grpF (f : Nat) : ∀ (u : Nat) (r : List UInt8), f ≤ 9 → u < lim f → (u ≠ 0 ∨ f = 9) → ung (f + 1) (grpF f u ++ r) = some (u, (grpF f u).length) := by
  induction f with
  | zero =>
    intro u r _ hu h0
    have hu1 : u = 1 := by simp only [lim] at hu; omega
    subst hu1
    rfl
  | succ f ih =>
    intro u r hf hu h0
    simp only [lim] at hu
    by_cases h : u < 128
    · simp only [grpF, if_pos h, List.cons_append, List.nil_append, ung]
      have e : (UInt8.ofNat u).toNat = u := by rw [UInt8.toNat_ofNat']; omega
      rw [e, if_neg (by omega), if_pos h, if_neg (by omega)]
      rfl
    · simp only [grpF, if_neg h, List.cons_append, ung]
      have e : (UInt8.ofNat (u % 128 + 128)).toNat = u % 128 + 128 := by rw [UInt8.toNat_ofNat']; omega
      rw [e, if_neg (by omega), if_neg (by omega), ih (u / 128) r (by omega) (by omega) (by omega)]
      simp only [Option.map_some, List.length_cons]
      congr 2
      omega
theorem ung_grp (u : Nat) (r : List UInt8) (hu : u < 18446744073709551616) : ung 10 (grp u ++ r) = some (u, (grp u).length) :=
  ung_grpF 9 u r (by omega) (by rw [lim9]; exact hu) (.inr rfl)
theorem ung_is (f : Nat) : ∀ (l : List UInt8) (u n : Nat), f ≤ 9 → ung (f + 1) l = some (u, n) → n ≤ l.length ∧ 0 < n ∧ l.take n = grpF f u ∧ u < lim f ∧ (u ≠ 0 ∨ f = 9) := by
  induction f with
  | zero =>
    intro l u n _ h
    cases l with
    | nil => simp [ung] at h
    | cons c l =>
      rw [ung] at h
      have hc := c.toNat_lt
      by_cases h1 : 1 < c.toNat
      · rw [if_pos ⟨rfl, h1⟩] at h; cases h
      · rw [if_neg (by omega), if_pos (by omega)] at h
        by_cases h2 : c.toNat = 0
        · rw [if_pos (by omega)] at h; cases h
        · rw [if_neg (by omega)] at h
          injection h with h
          injection h with h3 h4
          subst h3 h4
          refine ⟨by simp, by omega, ?_, by simp only [lim]; omega, .inl h2⟩
          simp [grpF]
  | succ f ih =>
    intro l u n hf h
    cases l with
    | nil => simp [ung] at h
    | cons c l =>
      have hc := c.toNat_lt
      have hlim : 2 ≤ lim f := by
        clear ih h hf
        induction f with
        | zero => simp [lim]
        | succ f ih => simp only [lim]; omega
      rw [ung] at h
      rw [if_neg (by omega)] at h
      by_cases h1 : c.toNat < 128
      · rw [if_pos h1] at h
        by_cases h2 : c.toNat = 0 ∧ f + 1 ≠ 9
        · rw [if_pos h2] at h; cases h
        · rw [if_neg h2] at h
          injection h with h
          injection h with h3 h4
          subst h3 h4
          refine ⟨by simp, by omega, ?_, by simp only [lim]; omega, by omega⟩
          simp [grpF, h1]
      · rw [if_neg h1] at h
        cases h5 : ung (f + 1) l with
        | none => rw [h5] at h; cases h
        | some p =>
          obtain ⟨v, m⟩ := p
          rw [h5] at h
          simp only [Option.map_some] at h
          injection h with h
          injection h with h3 h4
          obtain ⟨q1, q2, q3, q4, q5⟩ := ih l v m (by omega) h5
          subst h3 h4
          have q6 : v ≠ 0 := by omega
          have e1 : (c.toNat % 128 + 128 * v) / 128 = v := by omega
          have e2 : (c.toNat % 128 + 128 * v) % 128 + 128 = c.toNat := by omega
          refine ⟨by simp only [List.length_cons]; omega, by omega, ?_, by simp only [lim]; omega, .inl (by omega)⟩
          rw [grpF, if_neg (by omega), e1, e2]
          simp [q3]
theorem ung10 {l : List UInt8} {u n : Nat} (h : ung 10 l = some (u, n)) : n ≤ l.length ∧ 0 < n ∧ l.take n = grp u ∧ u < 18446744073709551616 := by
  obtain ⟨a, b, c, d, _⟩ := ung_is 9 l u n (by omega) h
  exact ⟨a, b, c, by rw [← lim9]; exact d⟩
/-- A number with its sign, and back. -/
def zig (v : Int) : Nat := if 0 ≤ v then (2 * v).toNat else (-2 * v - 1).toNat
def unz (u : Nat) : Int := if u % 2 = 0 then ((u / 2 : Nat) : Int) else -((u / 2 : Nat) : Int) - 1
theorem unz_zig (v : Int) : unz (zig v) = v := by
  unfold unz zig
  split <;> split <;> omega
theorem zig_unz (u : Nat) : zig (unz u) = u := by
  unfold unz zig
  split <;> split <;> omega
theorem zig_lt (v : Int) (h0 : -9223372036854775808 ≤ v) (h1 : v ≤ 9223372036854775807) : zig v < 18446744073709551616 := by
  unfold zig
  split <;> omega
theorem unz_lo (u : Nat) (h : u < 18446744073709551616) : -9223372036854775808 ≤ unz u ∧ unz u ≤ 9223372036854775807 := by
  unfold unz
  split <;> omega
/-- A number as bytes. -/
def enc (v : Int) : List UInt8 := grp (zig v)
theorem enc_pos (v : Int) : 0 < (enc v).length := grp_pos _
theorem enc_le (v : Int) : (enc v).length ≤ 10 := grp_le _
/-- A number between two, off the front: what, and what is left. -/
def dec (lo hi : Int) (l : List UInt8) : Option (Int × List UInt8) :=
  match ung 10 l with
  | some (u, n) => if lo ≤ unz u ∧ unz u ≤ hi then some (unz u, l.drop n) else none
  | none => none
theorem dec_enc (lo hi v : Int) (r : List UInt8) (h0 : -9223372036854775808 ≤ v) (h1 : v ≤ 9223372036854775807) (hl : lo ≤ v) (hh : v ≤ hi) : dec lo hi (enc v ++ r) = some (v, r) := by
  unfold dec enc
  rw [ung_grp _ _ (zig_lt v h0 h1)]
  simp only [unz_zig]
  rw [if_pos ⟨hl, hh⟩, List.drop_left]
theorem dec_is {lo hi v : Int} {l r : List UInt8} (h : dec lo hi l = some (v, r)) : l = enc v ++ r ∧ lo ≤ v ∧ v ≤ hi ∧ -9223372036854775808 ≤ v ∧ v ≤ 9223372036854775807 := by
  unfold dec at h
  cases h5 : ung 10 l with
  | none => rw [h5] at h; cases h
  | some p =>
    obtain ⟨u, n⟩ := p
    rw [h5] at h
    simp only at h
    split at h
    · rename_i hin
      injection h with h
      injection h with h3 h4
      subst h3 h4
      obtain ⟨q1, q2, q3, q4⟩ := ung10 h5
      refine ⟨?_, hin.1, hin.2, unz_lo u q4⟩
      unfold enc
      rw [zig_unz, ← q3, List.take_append_drop]
    · cases h
theorem enc_inj {v w : Int} {r s : List UInt8} (hv : -9223372036854775808 ≤ v ∧ v ≤ 9223372036854775807) (hw : -9223372036854775808 ≤ w ∧ w ≤ 9223372036854775807) (h : enc v ++ r = enc w ++ s) : v = w ∧ r = s := by
  have h1 := dec_enc (-9223372036854775808) 9223372036854775807 v r hv.1 hv.2 hv.1 hv.2
  rw [h, dec_enc (-9223372036854775808) 9223372036854775807 w s hw.1 hw.2 hw.1 hw.2] at h1
  injection h1 with h1
  injection h1 with h1 h2
  exact ⟨h1.symm, h2.symm⟩
/-- What a reader has: its bytes, or it is wrong. -/
abbrev Rs := Option (List UInt8)
def rInt (lo hi : Int) : Rs → Int × Rs
  | none => (0, none)
  | some l => match dec lo hi l with
    | some (v, r) => (v, some r)
    | none => (0, none)
def rByte : Rs → Int × Rs
  | some (c :: l) => ((c.toNat : Int), some l)
  | _ => (0, none)
def rText (most : Int) (s : Rs) : List UInt8 × Rs :=
  match rInt 0 (max most 0) s with
  | (n, some l) => if n.toNat ≤ l.length then (l.take n.toNat, some (l.drop n.toNat)) else ([], none)
  | (_, none) => ([], none)
def rEnd : Rs → Int
  | none => 2
  | some [] => 0
  | some _ => 3
theorem rInt_none (lo hi : Int) : rInt lo hi none = (0, none) := rfl
theorem rText_none (most : Int) : rText most none = ([], none) := rfl
theorem rByte_none : rByte none = (0, none) := rfl
end Go.Proofs.Ytplgodfhhlnojaa

/- A slice that came in, of elements of any kind, as a list. -/
namespace Go.Proofs.Ytplgodfhhlnojaa
open Go.ChangeShapes Go.WideShapes Go.ChangeAt Go.RowKit Go.Deep
def In64 (x : Int) : Prop := -9223372036854775808 ≤ x ∧ x ≤ 9223372036854775807
theorem wf64 {n : Int} (h : (Lit.int .i64 n).wf = true) : In64 n := by
  simp only [Lit.wf, Bool.and_eq_true, decide_eq_true_eq, IntKind.min, IntKind.max, IntKind.signed, IntKind.bits] at h
  unfold In64
  simp at h
  omega
theorem drop_take1 (l : List Value) (i : Nat) (u : Value) (h : (l.drop i).take 1 = [u]) : l[i]? = some u := by
  have := congrArg (·[0]?) h
  simpa using this
theorem cellsW {w : World} {g i : Nat} {cs : Array Value} {t : TypeId} {m : Nat × Nat} (h : w.heap[g]? = some (.cells cs t m)) : w.cell? ⟨g, i, none⟩ = cs[i]? := by simp [World.cell?, h]
theorem flat_len {α : Type} (f : α → List Value) (sz : Nat) (hf : ∀ o, (f o).length = sz) (l : List α) : (l.flatMap f).length = l.length * sz := by
  induction l with
  | nil => simp
  | cons a l ih => rw [List.flatMap_cons, List.length_append, ih, hf, List.length_cons, Nat.add_mul]; omega
theorem flat_at {α : Type} (f : α → List Value) (sz : Nat) (hf : ∀ o, (f o).length = sz) (l : List α) : ∀ (i j : Nat) (o : α), l[i]? = some o → j < sz → (l.flatMap f)[i * sz + j]? = (f o)[j]? := by
  induction l with
  | nil => intro i j o h; simp at h
  | cons a l ih =>
    intro i j o h hj
    rw [List.flatMap_cons]
    cases i with
    | zero =>
      simp at h
      subst h
      rw [Nat.zero_mul, Nat.zero_add, List.getElem?_append_left (by rw [hf]; exact hj)]
    | succ i =>
      have h' : l[i]? = some o := by simpa using h
      rw [List.getElem?_append_right (by rw [hf, Nat.add_mul]; omega), hf, ← ih i j o h' hj]
      congr 1
      rw [Nat.add_mul]
      omega
theorem list_of {α : Type} (P : Nat → α → Prop) : ∀ n, (∀ i, i < n → ∃ a, P i a) → ∃ l : List α, l.length = n ∧ ∀ i a, l[i]? = some a → P i a := by
  intro n
  induction n with
  | zero => intro _; exact ⟨[], rfl, fun i a h => by simp at h⟩
  | succ n ih =>
    intro h
    obtain ⟨l, hl, hp⟩ := ih (fun i hi => h i (by omega))
    obtain ⟨a, ha⟩ := h n (by omega)
    refine ⟨l ++ [a], by simp [hl], fun i b hb => ?_⟩
    rcases Nat.lt_or_ge i n with hi | hi
    · rw [List.getElem?_append_left (by omega)] at hb
      exact hp i b hb
    · rw [List.getElem?_append_right (by omega)] at hb
      have e : i - l.length = 0 := by
        rcases Nat.lt_or_ge (i - l.length) 1 with h0 | h0
        · omega
        · rw [List.getElem?_eq_none (by simpa using h0)] at hb; cases hb
      rw [e] at hb
      simp at hb
      subst hb
      have : i = n := by omega
      rw [this]; exact ha
theorem cell_ltE {w : World} {a : Addr} {v : Value} (h : w.cell? a = some v) : a.block < w.heap.size := by
  rcases Nat.lt_or_ge a.block w.heap.size with h' | h'
  · exact h'
  · simp [World.cell?, Array.getElem?_eq_none h'] at h
section
variable {H : Type} {enc : TypeId × Value → H} {P : Program} {W : World} {held : Bool}
theorem open_elems {α : Type} (f : α → List Value) (sz : Nat) (h0 : 0 < sz) (hf : ∀ o, (f o).length = sz) (Good : α → Prop) {t e : TypeId} (ht : P.underlying t = some (.slice e)) (hC : P.cellsOf e = sz)
    (hR : ∀ n cs y, DataW.trod enc P W 0 (fun _ => true) held n e cs = some y → ∃ o, cs = f o ∧ Good o) {base : Nat} {v : Value} {d : DataW H} {p : List MemPlace}
    (hok : Value.okWide P W .any base t v) (h : DataW.Trod enc P W 0 (fun _ => true) held t v d p) :
    ∃ A n c, ∃ os : List α, v = .slice A n c ∧ n ≤ c ∧ c ≤ maxLen ∧ os.length = n ∧ Rd W W.heap.size sz A n (os.flatMap f) ∧ ∀ o ∈ os, Good o := by
  obtain ⟨A, n, c, rfl⟩ := okWide_slice ht hok
  obtain ⟨fuel, hfu⟩ := h
  rcases open_slice ht hfu with ⟨hcs, _⟩ | ⟨a, len, cap, m, k, D, Pl, hcs, _, hl, hm, hmm, _, hi⟩
  · simp [Value.cells] at hcs
    obtain ⟨rfl, rfl, rfl⟩ := hcs
    exact ⟨none, 0, 0, [], rfl, Nat.le_refl _, Nat.zero_le _, rfl, Rd.nil, fun o ho => by simp at ho⟩
  · simp [Value.cells] at hcs
    obtain ⟨rfl, rfl, rfl⟩ := hcs
    simp only [if_true] at hmm
    have hex : ∀ i, i < n → ∃ o, Good o ∧ ∀ j, j < sz → W.cell? (a.add (i * sz + j)) = (f o)[j]? := by
      intro i hin
      obtain ⟨cs', hc, ht'⟩ := hi i (by omega)
      obtain ⟨o, rfl, hg⟩ := hR _ _ _ ht'
      rw [hC] at hc
      obtain ⟨_, _, hat⟩ := World.cells?_some hc
      exact ⟨o, hg, fun j hj => by rw [← add_add]; exact hat j hj⟩
    obtain ⟨os, hos, hp⟩ := list_of _ n hex
    refine ⟨_, _, _, os, rfl, hl, hm, hos, ⟨by rw [flat_len f sz hf, hos], fun hn => ⟨a, rfl, ?_, fun j u hu => ?_⟩⟩, fun o ho => ?_⟩
    · obtain ⟨o, ho⟩ : ∃ o, os[0]? = some o := ⟨_, List.getElem?_eq_getElem (by omega)⟩
      have h1 := (hp 0 o ho).2 0 h0
      rw [List.getElem?_eq_getElem (by rw [hf]; exact h0)] at h1
      have := cell_ltE h1
      rwa [block_add] at this
    · have hjl : j < n * sz := by
        rcases Nat.lt_or_ge j (n * sz) with h' | h'
        · exact h'
        · rw [List.getElem?_eq_none (by rw [flat_len f sz hf, hos]; exact h')] at hu; cases hu
      have hd : j / sz < n := Nat.div_lt_of_lt_mul (by rw [Nat.mul_comm]; exact hjl)
      obtain ⟨o, ho⟩ : ∃ o, os[j / sz]? = some o := ⟨_, List.getElem?_eq_getElem (by omega)⟩
      have e : j = j / sz * sz + j % sz := by rw [Nat.mul_comm]; exact (Nat.div_add_mod j sz).symm
      rw [e] at hu ⊢
      rw [flat_at f sz hf os _ _ o ho (Nat.mod_lt _ h0)] at hu
      rw [(hp _ o ho).2 _ (Nat.mod_lt _ h0), hu]
    · obtain ⟨i, hi', rfl⟩ := List.mem_iff_getElem.1 ho
      exact (hp i _ (List.getElem?_eq_getElem hi')).1
/-- A field's own reading. -/
theorem trod_field {fs : Array Field} {m : Nat} {cs : List Value} {xs : List (DataW H × List MemPlace)}
    (hf : ∀ (i : Nat) (f : Field), fs[i]? = some f → DataW.trod enc P W 0 (fun _ => true) held m f.type ((cs.drop f.offset).take (P.cellsOf f.type)) = xs[i]?) (i off sz : Nat) (T : TypeId) (f : Field)
    (hi : fs[i]? = some f) (ht : f.type = T) (ho : f.offset = off) (hc : P.cellsOf T = sz) : DataW.trod enc P W 0 (fun _ => true) held m T ((cs.drop off).take sz) = xs[i]? := by
  subst ht ho hc
  exact hf i f hi
end
/-- A field's cell as the walk spells it. -/
theorem cell_spell {w : World} {a : Addr} {i j : Nat} {u : Value} (hj : 0 < j) (h : w.cell? (a.add (i + j)) = some u) : w.cell? ⟨(a.add i).block, (a.add i).off + j, none⟩ = some u := by
  obtain ⟨b, o, s⟩ := a
  have e1 : (⟨b, o, s⟩ : Addr).add (i + j) = ⟨b, o + (i + j), none⟩ := by unfold Addr.add; rw [if_neg (by omega)]
  have e2 : ((⟨b, o, s⟩ : Addr).add i).off = o + i := by unfold Addr.add; split <;> simp_all
  rw [e1] at h
  rw [block_add, e2, Nat.add_assoc]
  exact h
/-- An element's cell, off its place. -/
theorem Rd.elem {α : Type} {f : α → List Value} {sz : Nat} (hf : ∀ o, (f o).length = sz) {w : World} {D n : Nat} {A : Option Addr} {os : List α} (h : Rd w D sz A n (os.flatMap f)) (hn : os.length = n) {k : Nat} (hk : k < n) :
    ∃ ad o, A = some ad ∧ ad.block < D ∧ os[k]? = some o ∧ ∀ j u, (f o)[j]? = some u → w.cell? (ad.add (k * sz + j)) = some u := by
  obtain ⟨ad, e, hb, hc⟩ := h.2 (by omega)
  obtain ⟨o, ho⟩ : ∃ o, os[k]? = some o := ⟨_, List.getElem?_eq_getElem (by omega)⟩
  refine ⟨ad, o, e, hb, ho, fun j u hu => hc _ _ ?_⟩
  have hj : j < sz := by
    rcases Nat.lt_or_ge j sz with h' | h'
    · exact h'
    · rw [List.getElem?_eq_none (by rw [hf]; exact h')] at hu; cases hu
  rw [flat_at f sz hf os k j o ho hj, hu]
end Go.Proofs.Ytplgodfhhlnojaa

/- Arguments that came in, as lists: slices of bytes, slices of such slices. -/
namespace Go.Proofs.Ytplgodfhhlnojaa
open Go.ChangeShapes Go.WideShapes Go.ChangeAt Go.RowKit Go.Deep
theorem cell_lt {w : World} {a : Addr} {v : Value} (h : w.cell? a = some v) : a.block < w.heap.size := by
  rcases Nat.lt_or_ge a.block w.heap.size with h' | h'
  · exact h'
  · simp [World.cell?, Array.getElem?_eq_none h'] at h
/-- Numbers that fit a byte, as bytes. -/
def ofNums (zs : List Int) : List UInt8 := zs.map fun z => UInt8.ofNat z.toNat
theorem B8_nums (zs : List Int) (h : ∀ n ∈ zs, (Lit.int .u8 n).wf = true) : B8 (ofNums zs) = zs.map (Value.int .u8) := by
  unfold B8 ofNums
  rw [List.map_map]
  refine List.map_congr_left fun z hz => ?_
  have hw := h z hz
  simp only [Lit.wf, Bool.and_eq_true, decide_eq_true_eq, IntKind.min, IntKind.max, IntKind.signed, IntKind.bits] at hw
  simp only [Function.comp_apply, UInt8.toNat_ofNat']
  congr 1
  simp at hw
  omega
section
variable {H : Type} {enc : TypeId × Value → H} {P : Program} {W : World} {held : Bool}
/-- A slice of bytes that came in. -/
theorem open_bytes {t e : TypeId} (ht : P.underlying t = some (.slice e)) (he : P.underlying e = some (.int .u8)) (ce : P.cellsOf e = 1) {base : Nat} {v : Value} {d : DataW H} {p : List MemPlace}
    (hok : Value.okWide P W .any base t v) (h : DataW.Trod enc P W 0 (fun _ => true) held t v d p) : ∃ A n c l, v = .slice A n c ∧ n ≤ c ∧ c ≤ maxLen ∧ Rd W W.heap.size 1 A n (B8 l) := by
  obtain ⟨A, n, c, rfl⟩ := okWide_slice ht hok
  obtain ⟨fuel, hf⟩ := h
  rcases open_ints ht he ce hf with ⟨hcs, _⟩ | ⟨a, n', c', zs, hcs, _, hl, hm, hz, _, hcell, hwz⟩
  · simp [Value.cells] at hcs
    obtain ⟨rfl, rfl, rfl⟩ := hcs
    exact ⟨none, 0, 0, [], rfl, Nat.le_refl _, Nat.zero_le _, Rd.nil⟩
  · simp [Value.cells] at hcs
    obtain ⟨rfl, rfl, rfl⟩ := hcs
    simp only [if_true] at hz
    refine ⟨_, _, _, ofNums (zs.take n), rfl, hl, hm, ?_, fun hn => ?_⟩
    · rw [B8_len]; unfold ofNums; rw [List.length_map, List.length_take]; omega
    · have h0 := hcell 0 (by omega)
      refine ⟨a, rfl, by have := cell_lt h0; rwa [block_add] at this, fun j u hu => ?_⟩
      rw [B8_nums _ (fun z hz' => hwz z (List.mem_of_mem_take hz'))] at hu
      have hj : j < n := by
        rcases Nat.lt_or_ge j n with h' | h'
        · exact h'
        · rw [List.getElem?_eq_none (by simp; omega)] at hu; cases hu
      rw [hcell j (by omega)]
      rw [← hu]
      simp only [List.getElem?_map, List.getElem?_take, hj, if_true]
      rw [List.getElem?_eq_getElem (by omega)]
      simp [List.getD, List.getElem?_eq_getElem (show j < zs.length by omega)]
/-- A slice of slices of bytes: each element a slice that reads as bytes. -/
def RdRows (w : World) (D : Nat) (A : Option Addr) (n : Nat) (ls : List (List UInt8)) : Prop :=
  ls.length = n ∧ ∃ vs, Rd w D 1 A n vs ∧ ∀ (i : Nat) (l : List UInt8), ls[i]? = some l → ∃ Ai ci, vs[i]? = some (.slice Ai l.length ci) ∧ l.length ≤ ci ∧ ci ≤ maxLen ∧ Rd w D 1 Ai l.length (B8 l)
theorem open_rows {t e q : TypeId} (ht : P.underlying t = some (.slice e)) (he : P.underlying e = some (.slice q)) (hq : P.underlying q = some (.int .u8)) (ce : P.cellsOf e = 1) (cq : P.cellsOf q = 1) {base : Nat} {v : Value} {d : DataW H} {p : List MemPlace}
    (hok : Value.okWide P W .any base t v) (h : DataW.Trod enc P W 0 (fun _ => true) held t v d p) : ∃ A n c ls, v = .slice A n c ∧ n ≤ c ∧ c ≤ maxLen ∧ RdRows W W.heap.size A n ls := by
  obtain ⟨A0, n, c, rfl⟩ := okWide_slice ht hok
  obtain ⟨fuel, hf⟩ := h
  rcases open_int_rows ht he hq ce cq hf with ⟨hcs, _⟩ | ⟨a, n', c', A, L, C, Z, hcs, _, hl, hm, _, hall⟩
  · simp [Value.cells] at hcs
    obtain ⟨rfl, rfl, rfl⟩ := hcs
    exact ⟨none, 0, 0, [], rfl, Nat.le_refl _, Nat.zero_le _, rfl, [], Rd.nil, fun i l hi => by simp at hi⟩
  · simp [Value.cells] at hcs
    obtain ⟨rfl, rfl, rfl⟩ := hcs
    refine ⟨_, _, _, (List.range n).map fun r => ofNums ((Z r).take (L r)), rfl, hl, hm, by simp, (List.range n).map fun r => .slice (A r) (L r) (C r), ⟨by simp, fun hn => ?_⟩, fun i l hi => ?_⟩
    · refine ⟨a, rfl, by have := cell_lt (hall 0 (by omega)).1; rwa [block_add] at this, fun j u hu => ?_⟩
      have hj : j < n := by
        rcases Nat.lt_or_ge j n with h' | h'
        · exact h'
        · rw [List.getElem?_eq_none (by simp; omega)] at hu; cases hu
      simp [hj] at hu
      subst hu
      exact (hall j (by omega)).1
    · have hi' : i < n := by
        rcases Nat.lt_or_ge i n with h' | h'
        · exact h'
        · rw [List.getElem?_eq_none (by simp; omega)] at hi; cases hi
      simp [hi'] at hi
      obtain ⟨_, r1, r2, r3, r4, r5, r6⟩ := hall i (by omega)
      have hlen : l.length = L i := by rw [← hi]; unfold ofNums; rw [List.length_map, List.length_take]; omega
      refine ⟨A i, C i, by simp [hi', hlen], by omega, r2, by rw [B8_len]; omega, fun hn => ?_⟩
      cases hA : A i with
      | none => have := r5 hA; omega
      | some a' =>
        obtain ⟨_, hcell⟩ := r6 a' hA
        refine ⟨a', rfl, by have := cell_lt (hcell 0 (by omega)); rwa [block_add] at this, fun j u hu => ?_⟩
        rw [← hi, B8_nums _ (fun z hz' => r4 z (List.mem_of_mem_take hz'))] at hu
        have hj : j < L i := by
          rcases Nat.lt_or_ge j (L i) with h' | h'
          · exact h'
          · rw [List.getElem?_eq_none (by simp; omega)] at hu; cases hu
        rw [hcell j (by omega), ← hu]
        simp only [List.getElem?_map, List.getElem?_take, hj, if_true]
        rw [List.getElem?_eq_getElem (by omega)]
        simp [List.getD, List.getElem?_eq_getElem (show j < (Z i).length by omega)]
end
end Go.Proofs.Ytplgodfhhlnojaa

/- Regions that draw their order and hold calls that only make memory: one walk in the order of the text, over all worlds that are as the first one below a block. -/
namespace Go.Proofs.Ytplgodfhhlnojaa
open Go.RowKit
/-- A world that is as w below block D. -/
structure BW (D : Nat) (w : World) where
  val : World
  h : Below D w val
instance (D : Nat) (w : World) : Nonempty (BW D w) := ⟨⟨w, Below.refl _ _⟩⟩
theorem wp_region_below {P : Program} {id : Nat} {Q : Exit → Act → World → Prop} {a : Act} {w : World} {l : List Oper} (D : Nat) (hm : P.follows .mixedOrders = true) (hB : Region.lexB .any l.toArray = true)
    (h : wpQuiet P l.toArray (fun w' => ∃ s : BW D w, w' = s.val) (fun a' => ∀ w', (∃ s : BW D w, w' = s.val) → Q .normal a' w') l a) : (Code.region id l.toArray true).wp P Q a w :=
  wp_region_quiet (C := fun w' => ∃ s : BW D w, w' = s.val) hm hB ⟨⟨w.drew, (Below.refl _ _).drew⟩, rfl⟩ (by simpa using h)
theorem BW.call {P : Program} {D : Nat} {w : World} {s : BW D w} {f : FuncId} {args : Array Value} {v : Value} (hD : D ≤ w.heap.size) (h : Calls P f args s.val (fun e w' => e = .returned v ∧ Below s.val.heap.size s.val w')) :
    Calls P f args s.val (fun e w'' => e = .returned v ∧ ∃ s' : BW D w, w'' = s'.val) :=
  h.mono fun _ w' ⟨he, hb⟩ => ⟨he, ⟨w', s.h.trans (hb.mono (Nat.le_trans hD s.h.size))⟩, rfl⟩
theorem BW.cell {D : Nat} {w : World} {a : Addr} {v : Value} (h : w.cell? a = some v) (ha : a.block < D) (s : BW D w) : s.val.cell? a = some v := (s.h.cell ha).trans h
end Go.Proofs.Ytplgodfhhlnojaa
