/- pack.Writer: what is put, walked. -/
import Derived.Test.YtebinhelnhnbeaaZig
import Derived.Test.YtebinhelnhnbeaaBytes
import Derived.Test.YtebinhelnhnbeaaOwnG
import Derived.Outline
set_option linter.unusedSimpArgs false
set_option linter.unusedVariables false
namespace Go.Proofs.Ytebinhelnhnbeaa
open Go.RowKit
theorem set_other {w : World} {g k o : Nat} {u : Value} (h : k ≠ g) : (w.setCell ⟨g, o, none⟩ u).heap[k]? = w.heap[k]? := Below.heap_setCell w ⟨g, o, none⟩ u k h
theorem set_one {w : World} {g : Nat} {v u : Value} {t : TypeId} {m : Nat × Nat} (h : w.heap[g]? = some (.cells #[v] t m)) : (w.setCell ⟨g, 0, none⟩ u).heap[g]? = some (.cells #[u] t m) := by
  simp [World.setCell, Array.getElem?_modify, h]
theorem free0 {w : World} {g i : Nat} {cs : Array Value} {t : TypeId} (h : w.heap[g]? = some (.cells cs t (0, 0))) : w.frozen? ⟨g, i, none⟩ = false := by
  simp [World.frozen?, h]
theorem cell0 {w : World} {g : Nat} {v : Value} {t : TypeId} {m : Nat × Nat} (h : w.heap[g]? = some (.cells #[v] t m)) : w.cell? ⟨g, 0, none⟩ = some v := by
  simp [World.cell?, h]
theorem blk_lt {w : World} {g : Nat} {o : Obj} (h : w.heap[g]? = some o) : g < w.heap.size := by
  rcases Nat.lt_or_ge g w.heap.size with h' | h'
  · exact h'
  · rw [Array.getElem?_eq_none h'] at h; cases h
/-- All blocks stand whose cells are of none of these types. -/
structure Keep (ts : List TypeId) (w w' : World) : Prop where
  size : w.heap.size ≤ w'.heap.size
  block : ∀ (k : Nat) (o : Obj), w.heap[k]? = some o → (∀ cs t m, o = .cells cs t m → t ∉ ts) → w'.heap[k]? = some o
section
variable {w w' w'' : World} {ts : List TypeId}
theorem Keep.refl (ts : List TypeId) (w : World) : Keep ts w w := ⟨Nat.le_refl _, fun _ _ h _ => h⟩
theorem Keep.trans (h : Keep ts w w') (k : Keep ts w' w'') : Keep ts w w'' := ⟨Nat.le_trans h.size k.size, fun i o hi ht => k.block i o (h.block i o hi ht) ht⟩
theorem Keep.alloc (h : Keep ts w w') (o : Obj) : Keep ts w (w'.alloc o) :=
  ⟨Nat.le_trans h.size (by simp), fun k x hk ht => by
    have h1 := h.block k x hk ht
    rw [Below.heap_alloc _ _ _ (blk_lt h1)]; exact h1⟩
theorem Keep.drewN (h : Keep ts w w') (n : Nat) : Keep ts w (w'.drewN n) := ⟨h.size, h.block⟩
theorem Keep.below (h : Keep ts w w') (hb : Below w'.heap.size w' w'') : Keep ts w w'' :=
  ⟨Nat.le_trans h.size hb.size, fun k x hk ht => by
    have h1 := h.block k x hk ht
    rw [hb.block k (blk_lt h1)]; exact h1⟩
theorem Keep.set {g o : Nat} {cs : Array Value} {t : TypeId} {m : Nat × Nat} (h : Keep ts w w') (hg : w'.heap[g]? = some (.cells cs t m)) (ht : t ∈ ts) (u : Value) : Keep ts w (w'.setCell ⟨g, o, none⟩ u) :=
  ⟨by simpa [World.setCell] using h.size, fun k x hk hx => by
    have h1 := h.block k x hk hx
    have hne : k ≠ g := by
      rintro rfl
      rw [h1] at hg
      injection hg with hg
      exact hx _ _ _ hg ht
    rw [set_other hne]; exact h1⟩
theorem Keep.own {base s n : Nat} {e : TypeId} {v : Value} {xs : List Value} (h : Keep ts w w') (hv : w'.ownsRow base e s v n xs) (ht : e ∈ ts) (hg : w'.grownBy w'' v.ownBlock) : Keep ts w w'' :=
  ⟨Nat.le_trans h.size hg.size, fun k x hk hx => by
    have h1 := h.block k x hk hx
    rw [hg.block k (blk_lt h1) ?_]
    · exact h1
    · intro he
      rcases hv.2 with ⟨rfl, _⟩ | ⟨g', cap, cur, rfl, _, hh, _⟩
      · cases he
      · simp only [Value.ownBlock, Option.some.injEq] at he
        subst he
        rw [h1] at hh
        injection hh with hh
        exact hx _ _ _ hh ht⟩
end
/-- Block g is a writer that has put these bytes; all is of the call's own, from base on. -/
def WB (w : World) (base g : Nat) (l : List UInt8) : Prop := base ≤ g ∧ ∃ v, w.heap[g]? = some (.cells #[v] 26 (0, 0)) ∧ OB w base v l
/-- How a putting ends. -/
def WP (w : World) (base g : Nat) (l : List UInt8) (e : Ending) (w' : World) : Prop :=
  e = .returned (.tuple #[]) ∧ WB w' base g l ∧ Below base w w' ∧ Keep [5, 26] w w'
theorem WB.below {w w' : World} {base g D : Nat} {l : List UInt8} (h : WB w base g l) (hb : Below D w w') (hd : w.heap.size ≤ D) : WB w' base g l := by
  obtain ⟨h1, v, h2, h3⟩ := h
  exact ⟨h1, v, (hb.block g (Nat.lt_of_lt_of_le (blk_lt h2) hd)).trans h2, h3.below hb hd⟩
theorem WB.lt {w : World} {base g : Nat} {l : List UInt8} (h : WB w base g l) : g < w.heap.size := by obtain ⟨_, v, h2, _⟩ := h; exact blk_lt h2
theorem WB.new (w : World) (base : Nat) (hb : base ≤ w.heap.size) : WB (w.alloc (.cells #[.slice none 0 0] 26)) base w.heap.size [] :=
  ⟨hb, _, heap_alloc_new w _, OB.nil _ _⟩
/-- What one put of bytes does to a writer. -/
theorem WB.step {w w1 : World} {base g : Nat} {l r : List UInt8} {v v1 : Value} {o : Obj} (hbg : base ≤ g) (hg : w.heap[g]? = some (.cells #[v] 26 (0, 0))) (hv : OB w base v l) (h1 : OB w1 base v1 (l ++ r)) (hgr : (w.alloc o).grownBy w1 v.ownBlock) :
    WB (w1.setCell ⟨g, 0, none⟩ v1) base g (l ++ r) ∧ Below base w (w1.setCell ⟨g, 0, none⟩ v1) ∧ Keep [5, 26] w (w1.setCell ⟨g, 0, none⟩ v1) := by
  have hlt := blk_lt hg
  have hv' : (w.alloc o).ownsRow base 5 1 v l.length (B8 l) := hv.alloc o
  have hne : v.ownBlock ≠ some g := own_ne_blk (show w.ownsRow base 5 1 v l.length (B8 l) from hv) hg (by decide)
  have hg1 : w1.heap[g]? = some (.cells #[v] 26 (0, 0)) := by
    rw [hgr.block g (by simp; omega) (fun h => hne h.symm), Below.heap_alloc _ _ _ hlt]; exact hg
  have h1' : w1.ownsRow base 5 1 v1 (l ++ r).length (B8 (l ++ r)) := h1
  have hne1 : v1.ownBlock ≠ some g := own_ne_blk h1' hg1 (by decide)
  refine ⟨⟨hbg, v1, set_one hg1, ?_⟩, ?_, ?_⟩
  · exact World.ownsRow.kept (row := some g) h1' ⟨rfl, rfl, rfl, by simp [World.setCell], fun k _ hk => set_other (fun e => hk (by rw [e]))⟩ (.inr hne1)
  · refine Below.setCell ?_ hbg _
    refine Below.grown ((Below.refl base w).alloc (by omega) o) hgr (by simp; omega) ?_
    intro k hk
    exact (World.ownsRow.lt hv' k hk).1
  · refine Keep.set ?_ hg1 (by decide) _
    exact ((Keep.refl _ w).alloc o).own hv' (by decide) hgr
/-- The same where nothing is made ahead. -/
theorem WB.step0 {w w1 : World} {base g : Nat} {l r : List UInt8} {v v1 : Value} (hbg : base ≤ g) (hg : w.heap[g]? = some (.cells #[v] 26 (0, 0))) (hv : OB w base v l) (h1 : OB w1 base v1 (l ++ r)) (hgr : w.grownBy w1 v.ownBlock) :
    WB (w1.setCell ⟨g, 0, none⟩ v1) base g (l ++ r) ∧ Below base w (w1.setCell ⟨g, 0, none⟩ v1) ∧ Keep [5, 26] w (w1.setCell ⟨g, 0, none⟩ v1) := by
  have hlt := blk_lt hg
  have hv' : w.ownsRow base 5 1 v l.length (B8 l) := hv
  have hne : v.ownBlock ≠ some g := own_ne_blk hv' hg (by decide)
  have hg1 : w1.heap[g]? = some (.cells #[v] 26 (0, 0)) := by
    rw [hgr.block g hlt (fun h => hne h.symm)]; exact hg
  have h1' : w1.ownsRow base 5 1 v1 (l ++ r).length (B8 (l ++ r)) := h1
  have hne1 : v1.ownBlock ≠ some g := own_ne_blk h1' hg1 (by decide)
  refine ⟨⟨hbg, v1, set_one hg1, ?_⟩, ?_, ?_⟩
  · exact World.ownsRow.kept (row := some g) h1' ⟨rfl, rfl, rfl, by simp [World.setCell], fun k _ hk => set_other (fun e => hk (by rw [e]))⟩ (.inr hne1)
  · refine Below.setCell ?_ hbg _
    refine Below.grown (Below.refl base w) hgr (by omega) ?_
    intro k hk
    exact (World.ownsRow.lt hv' k hk).1
  · refine Keep.set ?_ hg1 (by decide) _
    exact (Keep.refl _ w).own hv' (by decide) hgr
end Go.Proofs.Ytebinhelnhnbeaa
