/- Frames one behind the other, in plain lists: what stands at a place, what is read, what is read when the end is cut off or a byte is turned. -/
import Derived.Test.YtkbkbgnnamckoaaRead
set_option linter.unusedSimpArgs false
set_option linter.unusedVariables false
namespace Go.Proofs.Ytkbkbgnnamckoaa
open Go.RowKit
theorem getD_app (p q : List UInt8) (i : Nat) : (p ++ q).getD (p.length + i) 0 = q.getD i 0 := by
  simp [List.getD, List.getElem?_append_right]
theorem le2_val (n : Nat) (h : n < 65536) : (UInt8.ofNat n).toNat + 256 * (UInt8.ofNat (n / 256)).toNat = n := by
  simp only [UInt8.toNat_ofNat']; omega
theorem le4_val (c : Nat) (h : c < 4294967296) : (UInt8.ofNat c).toNat + 256 * (UInt8.ofNat (c / 256)).toNat + 65536 * (UInt8.ofNat (c / 65536)).toNat + 16777216 * (UInt8.ofNat (c / 16777216)).toNat = c := by
  simp only [UInt8.toNat_ofNat']; omega
/-- Six bytes ahead of a record, told one by one. -/
theorem nAt_six (p q : List UInt8) (a b c d e f : UInt8) : nAt (p ++ (a :: b :: c :: d :: e :: f :: q)) p.length = e.toNat + 256 * f.toNat := by
  unfold nAt
  rw [getD_app, getD_app]
  rfl
theorem cAt_six (p q : List UInt8) (a b c d e f : UInt8) : cAt (p ++ (a :: b :: c :: d :: e :: f :: q)) p.length = a.toNat + 256 * b.toNat + 65536 * c.toNat + 16777216 * d.toNat := by
  have h0 := getD_app p (a :: b :: c :: d :: e :: f :: q) 0
  rw [Nat.add_zero] at h0
  unfold cAt
  rw [h0, getD_app, getD_app, getD_app]
  rfl
theorem xAt_six (p q : List UInt8) (a b c d e f : UInt8) : xAt (p ++ (a :: b :: c :: d :: e :: f :: q)) p.length = q.take (e.toNat + 256 * f.toNat) := by
  unfold xAt
  rw [nAt_six]
  congr 1
  rw [List.drop_append]
  simp
theorem frm_six (l : List UInt8) : frm l = UInt8.ofNat (crc l) :: UInt8.ofNat (crc l / 256) :: UInt8.ofNat (crc l / 65536) :: UInt8.ofNat (crc l / 16777216) :: UInt8.ofNat l.length :: UInt8.ofNat (l.length / 256) :: l := rfl
/-- Whatever stands in six bytes and behind them: is it a record? -/
theorem recAt_six (p q : List UInt8) (a b c d e f : UInt8) (n s : Nat) (hn : e.toNat + 256 * f.toNat = n) (hs : a.toNat + 256 * b.toNat + 65536 * c.toNat + 16777216 * d.toNat = s) :
    recAt (p ++ (a :: b :: c :: d :: e :: f :: q)) p.length = if 1 ≤ n ∧ n ≤ 1000 ∧ n ≤ q.length ∧ crc (q.take n) = s then some (q.take n) else none := by
  unfold recAt
  rw [nAt_six, cAt_six, xAt_six, hn, hs]
  have hl : (p ++ (a :: b :: c :: d :: e :: f :: q)).length = p.length + 6 + q.length := by simp; omega
  rw [hl]
  by_cases h : 1 ≤ n ∧ n ≤ 1000 ∧ n ≤ q.length ∧ crc (q.take n) = s
  · rw [if_pos h, if_pos]
    refine ⟨?_, h.1, h.2.1, ?_, h.2.2.2⟩ <;> omega
  · rw [if_neg h, if_neg]
    rintro ⟨_, h1, h2, h3, h4⟩
    exact h ⟨h1, h2, by omega, h4⟩
theorem recAt_frm (p l r : List UInt8) (h1 : 1 ≤ l.length) (h2 : l.length ≤ 1000) : recAt (p ++ (frm l ++ r)) p.length = some l := by
  rw [frm_six, List.cons_append, List.cons_append, List.cons_append, List.cons_append, List.cons_append, List.cons_append,
    recAt_six p (l ++ r) _ _ _ _ _ _ l.length (crc l) (le2_val _ (by omega)) (le4_val _ (crc_lt l))]
  have ht : (l ++ r).take l.length = l := by simp
  rw [ht, if_pos]
  exact ⟨h1, h2, by simp, rfl⟩
theorem recAt_short (p q : List UInt8) (h : q.length < 6) : recAt (p ++ q) p.length = none := by
  unfold recAt
  rw [if_neg]
  simp
  omega
/-- A frame whose end is cut off is none. -/
theorem recAt_cut (p l : List UInt8) (j : Nat) (h2 : l.length ≤ 1000) (hj : j < (frm l).length) : recAt (p ++ (frm l).take j) p.length = none := by
  by_cases h6 : j < 6
  · exact recAt_short p _ (by rw [List.length_take]; omega)
  · obtain ⟨i, rfl⟩ : ∃ i, j = i + 6 := ⟨j - 6, by omega⟩
    rw [frm_six]
    simp only [List.take_succ_cons]
    rw [recAt_six p (l.take i) _ _ _ _ _ _ l.length (crc l) (le2_val _ (by omega)) (le4_val _ (crc_lt l)), if_neg]
    rintro ⟨_, _, h, _⟩
    rw [frm_len] at hj
    rw [List.length_take] at h
    omega
theorem recAt_nought (p q : List UInt8) (a b c d : UInt8) : recAt (p ++ (a :: b :: c :: d :: 0 :: 0 :: q)) p.length = none := by
  rw [recAt_six p q a b c d 0 0 0 _ rfl rfl, if_neg]
  omega
/-- Frames one behind the other. -/
def frms (ls : List (List UInt8)) : List UInt8 := (ls.map frm).flatten
theorem frms_nil : frms [] = [] := rfl
theorem frms_cons (l : List UInt8) (ls : List (List UInt8)) : frms (l :: ls) = frm l ++ frms ls := rfl
theorem frms_app (a b : List (List UInt8)) : frms (a ++ b) = frms a ++ frms b := by simp [frms]
theorem frms_snoc (a : List (List UInt8)) (l : List UInt8) : frms (a ++ [l]) = frms a ++ frm l := by rw [frms_app]; simp [frms]
def Fits (ls : List (List UInt8)) : Prop := ∀ l ∈ ls, 1 ≤ l.length ∧ l.length ≤ 1000
theorem recsFrom_frms (ls : List (List UInt8)) : ∀ (p r : List UInt8) (f : Nat), Fits ls → recAt (p ++ frms ls ++ r) (p ++ frms ls).length = none → ls.length ≤ f →
    recsFrom (p ++ frms ls ++ r) f p.length = (ls, (p ++ frms ls).length) := by
  induction ls with
  | nil =>
    intro p r f _ hno _
    rw [frms_nil, List.append_nil] at *
    exact recsFrom_no _ _ _ hno
  | cons l ls ih =>
    intro p r f hf hno hl
    obtain ⟨g, rfl⟩ : ∃ g, f = g + 1 := ⟨f - 1, by simp at hl; omega⟩
    have hfl := hf l (by simp)
    have e : p ++ frms (l :: ls) ++ r = (p ++ frm l) ++ frms ls ++ r := by rw [frms_cons]; simp
    have e2 : p ++ frms (l :: ls) = (p ++ frm l) ++ frms ls := by rw [frms_cons]; simp
    have h1 : recAt (p ++ frms (l :: ls) ++ r) p.length = some l := by
      rw [frms_cons, show p ++ (frm l ++ frms ls) ++ r = p ++ (frm l ++ (frms ls ++ r)) from by simp]
      exact recAt_frm p l _ hfl.1 hfl.2
    rw [recsFrom_yes _ g _ l h1]
    have h2 := ih (p ++ frm l) r g (fun x hx => hf x (by simp [hx])) (by rw [e, e2] at hno; exact hno) (by simp at hl; omega)
    have hk : p.length + 6 + l.length = (p ++ frm l).length := by rw [List.length_append, frm_len]; omega
    rw [hk, e, h2, e2]
theorem recs_frms (ls : List (List UInt8)) (r : List UInt8) (hf : Fits ls) (hno : recAt (frms ls ++ r) (frms ls).length = none) : recs (frms ls ++ r) = (ls, (frms ls).length) := by
  have hlen : ∀ ls : List (List UInt8), ls.length ≤ (frms ls).length := by
    intro ls
    induction ls with
    | nil => simp
    | cons l ls ih => rw [frms_cons, List.length_append, frm_len]; simp; omega
  have := recsFrom_frms ls [] r ((frms ls ++ r).length + 1) hf (by simpa using hno) (by have := hlen ls; simp; omega)
  simpa [recs] using this
theorem recs_one (l : List UInt8) (h1 : 1 ≤ l.length) (h2 : l.length ≤ 1000) : recs (frm l) = ([l], l.length + 6) := by
  have e : frms [l] = frm l := by simp [frms]
  have := recs_frms [l] [] (by intro x hx; simp at hx; subst hx; exact ⟨h1, h2⟩) (recAt_short _ [] (by simp))
  rw [List.append_nil, e, frm_len] at this
  exact this
end Go.Proofs.Ytkbkbgnnamckoaa
