/- The cells of a step in a list. -/
import Derived.Test.YtplgodfhhlnojaaPlanRef2
import Derived.Test.YtplgodfhhlnojaaBelowR
import Derived.Outline
set_option linter.unusedSimpArgs false
set_option linter.unusedVariables false
namespace Go.Proofs.Ytplgodfhhlnojaa
open Go.RowKit
theorem AC_get (l : List A6) (i : Nat) (a : A6) (hi : l[i]? = some a) (j : Nat) (hj : j < 6) : (AC l)[i * 6 + j]? = a.cells[j]? := by
  induction l generalizing i with
  | nil => simp at hi
  | cons b l ih =>
    rw [show AC (b :: l) = b.cells ++ AC l from by simp [AC]]
    cases i with
    | zero =>
      simp at hi; subst hi
      rw [List.getElem?_append_left (by simp [A6.cells]; omega)]
      simp
    | succ i =>
      rw [List.getElem?_append_right (by simp [A6.cells]; omega), ← ih i (by simpa using hi)]
      congr 1
      simp [A6.cells]; omega
theorem add_field (ad : Addr) (i j : Nat) (hj : 0 < j) : ad.add (i + j) = ⟨(ad.add i).block, (ad.add i).off + j, none⟩ := by
  unfold Addr.add
  rw [if_neg (by omega)]
  split
  · subst_vars; simp
  · simp; omega
/-- A step lies at an address. -/
structure AskAt (w : World) (P : Addr) (a : A6) : Prop where
  c0 : w.cell? P = some (.int .i64 a.node)
  c1 : w.cell? ⟨P.block, P.off + 1, none⟩ = some (.int .i64 a.kind)
  c2 : w.cell? ⟨P.block, P.off + 1 + 1, none⟩ = some (.int .i64 a.book)
  c3 : w.cell? ⟨P.block, P.off + 1 + 2, none⟩ = some (.int .i64 a.units)
  c4 : w.cell? ⟨P.block, P.off + 1 + 3, none⟩ = some (.int .i64 a.cust)
  c5 : w.cell? ⟨P.block, P.off + 1 + 4, none⟩ = some (.int .i64 a.amount)
theorem AskAt.bw {w : World} {P : Addr} {a : A6} (h : AskAt w P a) (s : BW w.heap.size w) : AskAt s.val P a :=
  ⟨BW.cell h.c0 (cell_in h.c0) s, BW.cell h.c1 (cell_in h.c1) s, BW.cell h.c2 (cell_in h.c2) s, BW.cell h.c3 (cell_in h.c3) s, BW.cell h.c4 (cell_in h.c4) s, BW.cell h.c5 (cell_in h.c5) s⟩
/-- The cells of the step at a place. -/
theorem Rd.ask {w : World} {D n : Nat} {A : Option Addr} {l : List A6} {k : Nat} (h : Rd w D 6 A n (AC l)) (hk : k < n) : ∃ ad a, A = some ad ∧ ad.block < D ∧ l[k]? = some a ∧ AskAt w (ad.add (k * 6)) a := by
  obtain ⟨ad, e, hb, hc⟩ := h.2 (by omega)
  have hl : k < l.length := by have := h.1; rw [AC_len] at this; omega
  have hcc : ∀ j u, l[k].cells[j]? = some u → w.cell? (ad.add (k * 6 + j)) = some u := fun j u hu => hc _ u (by
    have hj : j < 6 := by
      rcases Nat.lt_or_ge j 6 with h' | h'
      · exact h'
      · rw [List.getElem?_eq_none (by simpa [A6.cells] using h')] at hu; cases hu
    rw [AC_get l k _ (List.getElem?_eq_getElem hl) j hj]
    exact hu)
  have hcf : ∀ j u, l[k].cells[j + 1]? = some u → w.cell? ⟨(ad.add (k * 6)).block, (ad.add (k * 6)).off + 1 + j, none⟩ = some u := fun j u hu => by
    have := hcc (j + 1) u hu
    rw [add_field ad (k * 6) (j + 1) (by omega)] at this
    rw [show (ad.add (k * 6)).off + 1 + j = (ad.add (k * 6)).off + (j + 1) from by omega]
    exact this
  exact ⟨ad, l[k], e, hb, List.getElem?_eq_getElem hl, hcc 0 _ rfl, hcf 0 _ rfl, hcf 1 _ rfl, hcf 2 _ rfl, hcf 3 _ rfl, hcf 4 _ rfl⟩
end Go.Proofs.Ytplgodfhhlnojaa
