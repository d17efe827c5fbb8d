/- pack.Reader: words. -/
import Derived.Test.YtebinhelnhnbeaaPackW
set_option linter.unusedSimpArgs false
set_option linter.unusedVariables false
namespace Go.Proofs.Ytebinhelnhnbeaa
open Go.RowKit
/-- What is read lies in a block of bytes. -/
def U8At (w : World) (A : Option Addr) (n : Nat) : Prop := 0 < n → ∀ ad, A = some ad → ∃ cs m, w.heap[ad.block]? = some (.cells cs 5 m)
theorem U8At.same {w w' : World} {A : Option Addr} {n : Nat} (h : U8At w A n) (hb : ∀ ad, A = some ad → 0 < n → w'.heap[ad.block]? = w.heap[ad.block]?) : U8At w' A n :=
  fun h0 ad e => by rw [hb ad e h0]; exact h h0 ad e
/-- Block g is a reader that has these bytes left, or is wrong; what it reads lies below block D. -/
def RP (w : World) (D g : Nat) (s : Rs) : Prop := g < D ∧ ∃ A n c l bad, w.heap[g]? = some (.cells #[.slice A n c, .bool bad] 81 (0, 0)) ∧ (∀ ad, A = some ad → ad.block ≠ g) ∧ Rd w D 1 A n (B8 l) ∧ n ≤ c ∧ c ≤ maxLen ∧ s = (if bad then none else some l) ∧ U8At w A n
/-- How a question ends. -/
def RPost (w : World) (D g : Nat) (v : Value) (s : Rs) (e : Ending) (w' : World) : Prop := e = .returned v ∧ RP w' D g s ∧ w.grownBy w' (some g)
section
variable {w w' : World} {D g : Nat} {s : Rs}
theorem RP.lt (h : RP w D g s) : g < w.heap.size := by obtain ⟨_, A, n, c, l, bad, h1, _⟩ := h; exact blk_lt h1
theorem RP.below (h : RP w D g s) (hb : Below D w w') : RP w' D g s := by
  obtain ⟨h0, A, n, c, l, bad, h1, h2, h3, h4, h5, h6, h7⟩ := h
  refine ⟨h0, A, n, c, l, bad, (hb.block g h0).trans h1, h2, h3.below hb, h4, h5, h6, h7.same fun ad e hn => ?_⟩
  obtain ⟨ad', e', hlt, _⟩ := h3.2 hn
  rw [e] at e'
  injection e' with e'
  subst e'
  exact hb.block _ hlt
theorem RP.far2 {k : Nat} {cs : Array Value} {t : TypeId} {m : Nat × Nat} (h : RP w D g s) (hg : w.grownBy w' (some k)) (hk : k ≠ g) (hkt : w.heap[k]? = some (.cells cs t m)) (ht : t ≠ 5) : RP w' D g s := by
  obtain ⟨h0, A, n, c, l, bad, h1, h2, h3, h4, h5, h6, h7⟩ := h
  have hbl : ∀ ad, A = some ad → 0 < n → w'.heap[ad.block]? = w.heap[ad.block]? := by
    intro ad e hn
    obtain ⟨cs', m', hc⟩ := h7 hn ad e
    refine hg.block _ (blk_lt hc) (fun e' => ?_)
    injection e' with e'
    rw [e'] at hc
    rw [hc] at hkt
    injection hkt with hkt
    injection hkt with _ h8
    exact ht h8.symm
  refine ⟨h0, A, n, c, l, bad, (hg.block g (blk_lt h1) (fun e => hk (by injection e with e; exact e.symm))).trans h1, h2, ⟨h3.1, fun hn => ?_⟩, h4, h5, h6, h7.same hbl⟩
  obtain ⟨ad, e, hlt, hc⟩ := h3.2 hn
  exact ⟨ad, e, hlt, fun j u hu => (World.cell?_of_block (by rw [block_add]; exact hbl ad e hn)).trans (hc j u hu)⟩
theorem RP.drewN (h : RP w D g s) (q : Nat) : RP (w.drewN q) D g s := h
/-- Another block is turned. -/
theorem RP.far (h : RP w D g s) {k : Nat} (hg : w.grownBy w' (some k)) (hk : D ≤ k) (hD : D ≤ w.heap.size) : RP w' D g s :=
  h.below ⟨hg.os, hg.tape, hg.output, hg.size, fun i hi => hg.block i (by omega) (fun e => by cases e; omega)⟩
theorem only_drewN {a w : World} {row : Option Nat} (h : a.grownBy w row) (n : Nat) : a.grownBy (w.drewN n) row := ⟨h.os, h.tape, h.output, h.size, h.block⟩
theorem only_alloc {a w : World} {row : Option Nat} (h : a.grownBy w row) (o : Obj) : a.grownBy (w.alloc o) row :=
  ⟨h.os, h.tape, h.output, Nat.le_trans h.size (by simp), fun i hi hne => (Below.heap_alloc w o i (Nat.lt_of_lt_of_le hi h.size)).trans (h.block i hi hne)⟩
theorem only_setCell {a w : World} {g : Nat} (h : a.grownBy w (some g)) {p : Addr} (hp : p.block = g ∨ a.heap.size ≤ p.block) (u : Value) : a.grownBy (w.setCell p u) (some g) :=
  ⟨h.os, h.tape, h.output, by simpa [World.setCell] using h.size, fun i hi hne => (Below.heap_setCell w p u i (by
    rintro rfl
    rcases hp with hp | hp
    · exact hne (by rw [hp])
    · omega)).trans (h.block i hi hne)⟩
theorem only_below {a w w1 : World} {row : Option Nat} (h : a.grownBy w row) (hb : Below w.heap.size w w1) : a.grownBy w1 row :=
  ⟨hb.os.trans h.os, hb.tape.trans h.tape, hb.output.trans h.output, Nat.le_trans h.size hb.size, fun i hi hn => (hb.block i (Nat.lt_of_lt_of_le hi h.size)).trans (h.block i hi hn)⟩
theorem only_trans {a b c : World} {row : Option Nat} (h : a.grownBy b row) (k : b.grownBy c row) : a.grownBy c row :=
  ⟨k.os.trans h.os, k.tape.trans h.tape, k.output.trans h.output, Nat.le_trans h.size k.size, fun i hi hn => (k.block i (Nat.lt_of_lt_of_le hi h.size) hn).trans (h.block i hi hn)⟩
theorem only_lt {a w : World} {B g : Nat} (h : a.grownBy w (some g)) (hB : B ≤ a.heap.size) (hg : B ≤ g) : Below B a w := ⟨h.os, h.tape, h.output, h.size, fun i hi => h.block i (by omega) (fun e => by cases e; omega)⟩
theorem only_keep {a w : World} {g : Nat} {ts : List TypeId} {cs : Array Value} {t : TypeId} {m : Nat × Nat} (h : a.grownBy w (some g)) (hg : a.heap[g]? = some (.cells cs t m)) (ht : t ∈ ts) : Keep ts a w :=
  ⟨h.size, fun k o hk hx => by
    rw [h.block k (blk_lt hk) (fun e => by cases e; rw [hk] at hg; injection hg with hg; exact hx _ _ _ hg ht)]; exact hk⟩
end
/-- What groups tells: the number, and of how many bytes. -/
def gU (l : List UInt8) : Nat := match ung 10 l with | some (u, _) => u | none => 0
def gN (l : List UInt8) : Nat := match ung 10 l with | some (_, n) => n | none => 0
theorem ung_step {l : List UInt8} {k : Nat} (hk : k < l.length) (h9 : k ≤ 9) (f : Nat) (hf : f = 9 - k) (acc : Nat)
    (h : ung 10 l = (ung (f + 1) (l.drop k)).map fun p => (acc + 128 ^ k * p.1, k + p.2)) :
    (k = 9 ∧ 1 < l[k].toNat → ung 10 l = none) ∧
    (¬ (k = 9 ∧ 1 < l[k].toNat) → l[k].toNat < 128 → l[k].toNat = 0 → 0 < k → ung 10 l = none) ∧
    (¬ (k = 9 ∧ 1 < l[k].toNat) → l[k].toNat < 128 → (l[k].toNat ≠ 0 ∨ k = 0) → ung 10 l = some (acc + 128 ^ k * l[k].toNat, k + 1)) ∧
    (¬ (k = 9 ∧ 1 < l[k].toNat) → ¬ l[k].toNat < 128 → k < 9 ∧ ung 10 l = (ung f (l.drop (k + 1))).map fun p => ((acc + 128 ^ k * (l[k].toNat % 128)) + 128 ^ (k + 1) * p.1, (k + 1) + p.2)) := by
  have hd : l.drop k = l[k] :: l.drop (k + 1) := List.drop_eq_getElem_cons hk
  rw [hd, ung] at h
  refine ⟨fun ⟨h1, h2⟩ => ?_, fun h1 h2 h3 h4 => ?_, fun h1 h2 h3 => ?_, fun h1 h2 => ⟨?_, ?_⟩⟩
  · rw [h, if_pos ⟨by omega, h2⟩]; rfl
  · rw [h, if_neg (by omega), if_pos h2, if_pos ⟨h3, by omega⟩]; rfl
  · rw [h, if_neg (by omega), if_pos h2, if_neg (by omega)]; rfl
  · have := l[k].toNat_lt; omega
  · rw [h, if_neg (by omega), if_neg h2, Option.map_map]
    congr 1
    funext p
    simp only [Function.comp_apply, Prod.mk.injEq]
    refine ⟨?_, by omega⟩
    rw [Nat.mul_add, Nat.pow_succ, Nat.mul_assoc, Nat.add_assoc]
theorem ung_done {l : List UInt8} {k f : Nat} (acc : Nat) (h : ung 10 l = (ung f (l.drop k)).map fun p => (acc + 128 ^ k * p.1, k + p.2)) (hk : f = 0 ∨ l.length ≤ k) : ung 10 l = none := by
  rw [h]
  rcases hk with rfl | hk
  · rfl
  · rw [List.drop_eq_nil_of_le hk]
    cases f <;> rfl
end Go.Proofs.Ytebinhelnhnbeaa
