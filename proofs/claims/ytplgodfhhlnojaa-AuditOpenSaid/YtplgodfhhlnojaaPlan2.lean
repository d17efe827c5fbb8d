/- Plans: rows backwards, tables of rows. -/
import Derived.Test.YtplgodfhhlnojaaPlan
import Derived.BigRegion
set_option linter.unusedSimpArgs false
set_option linter.unusedVariables false
namespace Go.Proofs.Ytplgodfhhlnojaa
open Go.RowKit
theorem AC_cell2 (w : World) (base g c : Nat) (l : List A6) (h : OA w base (.slice (some ⟨g, 0, none⟩) l.length c) l) (i : Nat) (a : A6) (hi : l[i]? = some a) (j : Nat) (u : Value) (hj : a.cells[j]? = some u) : w.cell? ⟨g, i * 6 + j, none⟩ = some u := by
  have hl : i < l.length := by
    rcases Nat.lt_or_ge i l.length with h' | h'
    · exact h'
    · rw [List.getElem?_eq_none h'] at hi; cases hi
  have hj6 : j < 6 := by
    rcases Nat.lt_or_ge j 6 with h' | h'
    · exact h'
    · rw [List.getElem?_eq_none (by simpa [A6.cells] using h')] at hj; cases hj
  have h' : w.ownsRow base 30 6 (.slice (some ⟨g, 0, none⟩) l.length c) l.length (AC l) := h
  have e := h'.cellAt (i * 6 + j) (by omega)
  rw [e]
  clear e h h'
  induction l generalizing i with
  | nil => simp at hl
  | cons b l ih =>
    cases i with
    | zero =>
      simp at hi; subst hi
      simp only [AC, List.flatMap_cons, Nat.zero_mul, Nat.zero_add]
      rw [List.getElem?_append_left (by simpa [A6.cells] using hj6)]
      exact hj
    | succ i =>
      have := ih i (by simpa using hi) (by simpa using hl)
      rw [show AC (b :: l) = b.cells ++ AC l from by simp [AC], List.getElem?_append_right (by simp [A6.cells]; omega)]
      rw [← this]
      congr 1
      simp [A6.cells]; omega
def setAt (g : Nat) (w : World) (p : Nat × Value) : World := w.setCell ⟨g, p.1, none⟩ p.2
theorem own_sets {base e s g n c : Nat} (cs : List (Nat × Value)) : ∀ {w : World} {xs : List Value}, w.ownsRow base e s (.slice (some ⟨g, 0, none⟩) n c) n xs → (cs.foldl (setAt g) w).ownsRow base e s (.slice (some ⟨g, 0, none⟩) n c) n (cs.foldl (fun xs p => xs.set p.1 p.2) xs) := by
  induction cs with
  | nil => exact fun h => h
  | cons p cs ih => exact fun h => ih (World.ownsRow.stored h p.1 p.2).1
theorem below_sets {B g : Nat} (hg : B ≤ g) (cs : List (Nat × Value)) : ∀ {W w : World}, Below B W w → Below B W (cs.foldl (setAt g) w) := by
  induction cs with
  | nil => exact fun h => h
  | cons p cs ih => exact fun h => ih (h.setCell (p := ⟨g, p.1, none⟩) hg p.2)
theorem own_drew {w : World} {base e s n : Nat} {v : Value} {xs : List Value} (h : w.ownsRow base e s v n xs) : w.drew.ownsRow base e s v n xs := h
theorem rev_none (A : Option Addr) (n c : Nat) (w : World) (hn : n ≤ 1) (hc : n ≤ c) :
    Calls Try.prog 107 #[.slice A n c] w fun e w' => e = .returned (.tuple #[]) ∧ w = w' := by
  have : n = 0 ∨ n = 1 := by omega
  rcases this with rfl | rfl
  all_goals
    go_enter Try.func107, Try.ntmps107
    go_wp2
    refine wp_loop_rounds 1 ?_
    rw [rounds_succ]
    go_wp2
    go_end0
    exact ⟨rfl, rfl⟩
set_option maxHeartbeats 4000000 in
theorem rev2 (w : World) (base g c : Nat) (a b : A6) (h : OA w base (.slice (some ⟨g, 0, none⟩) 2 c) [a, b]) (hc : 2 ≤ c) (hg : base ≤ g) :
    Calls Try.prog 107 #[.slice (some ⟨g, 0, none⟩) 2 c] w fun e w' => e = .returned (.tuple #[]) ∧ OA w' base (.slice (some ⟨g, 0, none⟩) 2 c) [b, a] ∧ Below base w w' := by
  have H := Lib.hid (show w.ownsRow base 30 6 (.slice (some ⟨g, 0, none⟩) 2 c) 2 (AC [a, b]) from h)
  have cl := AC_cell2 w base g c [a, b] h
  have q00 := cl 0 a rfl 0 _ rfl
  have q01 := cl 0 a rfl 1 _ rfl
  have q02 := cl 0 a rfl 2 _ rfl
  have q03 := cl 0 a rfl 3 _ rfl
  have q04 := cl 0 a rfl 4 _ rfl
  have q05 := cl 0 a rfl 5 _ rfl
  have q10 := cl 1 b rfl 0 _ rfl
  have q11 := cl 1 b rfl 1 _ rfl
  have q12 := cl 1 b rfl 2 _ rfl
  have q13 := cl 1 b rfl 3 _ rfl
  have q14 := cl 1 b rfl 4 _ rfl
  have q15 := cl 1 b rfl 5 _ rfl
  simp only [Nat.reduceMul, Nat.reduceAdd] at q00 q01 q02 q03 q04 q05 q10 q11 q12 q13 q14 q15
  have hf : ∀ j, w.frozen? ⟨g, j, none⟩ = false := fun j => World.ownsRow.frozenAt h j
  clear h cl
  go_enter Try.func107, Try.ntmps107
  go_wp2
  refine wp_loop_rounds 2 ?_
  rw [rounds_succ]
  go_wp2
  go_region
  go_wp2
  rw [rounds_succ]
  go_wp2
  go_end0
  have s := own_sets (g := g) [(0, .int .i64 b.node), (1, .int .i64 b.kind), (2, .int .i64 b.book), (3, .int .i64 b.units), (4, .int .i64 b.cust), (5, .int .i64 b.amount), (6, .int .i64 a.node), (7, .int .i64 a.kind), (8, .int .i64 a.book), (9, .int .i64 a.units), (10, .int .i64 a.cust), (11, .int .i64 a.amount)] H.out
  have s2 := below_sets hg [(0, .int .i64 b.node), (1, .int .i64 b.kind), (2, .int .i64 b.book), (3, .int .i64 b.units), (4, .int .i64 b.cust), (5, .int .i64 b.amount), (6, .int .i64 a.node), (7, .int .i64 a.kind), (8, .int .i64 a.book), (9, .int .i64 a.units), (10, .int .i64 a.cust), (11, .int .i64 a.amount)] (Below.refl base w)
  exact ⟨rfl, own_drew s, s2.drew⟩
set_option maxHeartbeats 4000000 in
theorem rev3 (w : World) (base g c : Nat) (a b d : A6) (h : OA w base (.slice (some ⟨g, 0, none⟩) 3 c) [a, b, d]) (hc : 3 ≤ c) (hg : base ≤ g) :
    Calls Try.prog 107 #[.slice (some ⟨g, 0, none⟩) 3 c] w fun e w' => e = .returned (.tuple #[]) ∧ OA w' base (.slice (some ⟨g, 0, none⟩) 3 c) [d, b, a] ∧ Below base w w' := by
  have H := Lib.hid (show w.ownsRow base 30 6 (.slice (some ⟨g, 0, none⟩) 3 c) 3 (AC [a, b, d]) from h)
  have cl := AC_cell2 w base g c [a, b, d] h
  have q00 := cl 0 a rfl 0 _ rfl
  have q01 := cl 0 a rfl 1 _ rfl
  have q02 := cl 0 a rfl 2 _ rfl
  have q03 := cl 0 a rfl 3 _ rfl
  have q04 := cl 0 a rfl 4 _ rfl
  have q05 := cl 0 a rfl 5 _ rfl
  have q20 := cl 2 d rfl 0 _ rfl
  have q21 := cl 2 d rfl 1 _ rfl
  have q22 := cl 2 d rfl 2 _ rfl
  have q23 := cl 2 d rfl 3 _ rfl
  have q24 := cl 2 d rfl 4 _ rfl
  have q25 := cl 2 d rfl 5 _ rfl
  simp only [Nat.reduceMul, Nat.reduceAdd] at q00 q01 q02 q03 q04 q05 q20 q21 q22 q23 q24 q25
  have hf : ∀ j, w.frozen? ⟨g, j, none⟩ = false := fun j => World.ownsRow.frozenAt h j
  clear h cl
  go_enter Try.func107, Try.ntmps107
  go_wp2
  refine wp_loop_rounds 2 ?_
  rw [rounds_succ]
  go_wp2
  go_region
  go_wp2
  rw [rounds_succ]
  go_wp2
  go_end0
  have s := own_sets (g := g) [(0, .int .i64 d.node), (1, .int .i64 d.kind), (2, .int .i64 d.book), (3, .int .i64 d.units), (4, .int .i64 d.cust), (5, .int .i64 d.amount), (12, .int .i64 a.node), (13, .int .i64 a.kind), (14, .int .i64 a.book), (15, .int .i64 a.units), (16, .int .i64 a.cust), (17, .int .i64 a.amount)] H.out
  have s2 := below_sets hg [(0, .int .i64 d.node), (1, .int .i64 d.kind), (2, .int .i64 d.book), (3, .int .i64 d.units), (4, .int .i64 d.cust), (5, .int .i64 d.amount), (12, .int .i64 a.node), (13, .int .i64 a.kind), (14, .int .i64 a.book), (15, .int .i64 a.units), (16, .int .i64 a.cust), (17, .int .i64 a.amount)] (Below.refl base w)
  exact ⟨rfl, own_drew s, s2.drew⟩
/-- A row of three at most, turned. -/
theorem rev_c (w : World) (base : Nat) (A : Option Addr) (n c : Nat) (l : List A6) (h : OA w base (.slice A n c) l) (hl : l.length = n) (hn : n ≤ 3) :
    Calls Try.prog 107 #[.slice A n c] w fun e w' => e = .returned (.tuple #[]) ∧ OA w' base (.slice A n c) l.reverse ∧ Below base w w' := by
  obtain ⟨A', c', e, hc, _, _⟩ := h.rd
  injection e with e1 e2 e3
  subst e1 e3
  have own : 0 < n → ∃ g, A = some ⟨g, 0, none⟩ ∧ base ≤ g := by
    intro h0
    rcases h.2 with ⟨e, h1⟩ | ⟨g, cap, cur, e, hg, _⟩
    · omega
    · injection e with e1; exact ⟨g, e1, hg⟩
  by_cases h1 : n ≤ 1
  · refine (rev_none A n c w h1 (by omega)).mono fun e w' ⟨he, hw⟩ => ?_
    subst hw
    have : l.reverse = l := by
      rcases l with _ | ⟨a, _ | ⟨b, l⟩⟩
      · rfl
      · rfl
      · simp at hl; omega
    exact ⟨he, by rw [this]; exact h, Below.refl _ _⟩
  · obtain ⟨g, rfl, hg⟩ := own (by omega)
    by_cases h2 : n = 2
    · subst h2
      obtain ⟨a, b, rfl⟩ : ∃ a b, l = [a, b] := by
        rcases l with _ | ⟨a, _ | ⟨b, _ | ⟨d, l⟩⟩⟩ <;> simp at hl
        exact ⟨a, b, rfl⟩
      exact rev2 w base g c a b h (by omega) hg
    · obtain rfl : n = 3 := by omega
      obtain ⟨a, b, d, rfl⟩ : ∃ a b d, l = [a, b, d] := by
        rcases l with _ | ⟨a, _ | ⟨b, _ | ⟨d, _ | ⟨e, l⟩⟩⟩⟩ <;> simp at hl
        exact ⟨a, b, d, rfl⟩
      exact rev3 w base g c a b d h (by omega) hg
end Go.Proofs.Ytplgodfhhlnojaa
