/- A frame with one byte turned, in its record or its sum, is none. -/
import Derived.Test.YtkbkbgnnamckoaaTexts
set_option linter.unusedSimpArgs false
set_option linter.unusedVariables false
namespace Go.Proofs.Ytkbkbgnnamckoaa
open Go.RowKit
theorem crc_set (l : List UInt8) (j : Nat) (y : UInt8) (hj : j < l.length) (hy : l[j]? ≠ some y) : crc (l.set j y) ≠ crc l := by
  intro h
  have e : l = l.take j ++ l[j] :: l.drop (j + 1) := by rw [List.getElem_cons_drop]; exact (List.take_append_drop j l).symm
  have e2 : l.set j y = l.take j ++ y :: l.drop (j + 1) := List.set_eq_take_append_cons_drop.trans (by rw [if_pos hj])
  rw [e2] at h
  rw [show crc l = crc (l.take j ++ l[j] :: l.drop (j + 1)) from congrArg crc e] at h
  have := crc_turned _ _ _ _ h
  exact hy (by rw [List.getElem?_eq_getElem hj, this])
theorem recAt_turned (p l r : List UInt8) (j : Nat) (y : UInt8) (h1 : 1 ≤ l.length) (h2 : l.length ≤ 1000) (hj : j < (frm l).length) (hj2 : j < 4 ∨ 6 ≤ j) (hy : (frm l)[j]? ≠ some y) :
    recAt (p ++ ((frm l).set j y ++ r)) p.length = none := by
  have hc := crc_lt l
  rw [frm_len] at hj
  rw [frm_six] at hy ⊢
  have hv := le4_val (crc l) hc
  have hn := le2_val l.length (by omega)
  generalize UInt8.ofNat (crc l) = a at *
  generalize UInt8.ofNat (crc l / 256) = b at *
  generalize UInt8.ofNat (crc l / 65536) = c at *
  generalize UInt8.ofNat (crc l / 16777216) = d at *
  generalize UInt8.ofNat l.length = e at *
  generalize UInt8.ofNat (l.length / 256) = f at *
  have ha := u8_lt a; have hb := u8_lt b; have hcc := u8_lt c; have hd := u8_lt d; have hyl := u8_lt y
  have ht : (l ++ r).take l.length = l := by simp
  have ne : ∀ {u v : UInt8}, u ≠ v → u.toNat ≠ v.toNat := fun h h' => h (UInt8.toNat_inj.mp h')
  rcases hj2 with h4 | h6
  · have : j = 0 ∨ j = 1 ∨ j = 2 ∨ j = 3 := by omega
    rcases this with rfl | rfl | rfl | rfl
    · simp only [List.set_cons_zero, List.cons_append]
      rw [recAt_six p (l ++ r) _ _ _ _ _ _ l.length _ hn rfl, if_neg]
      rintro ⟨_, _, _, h⟩
      rw [ht] at h
      exact ne (u := a) (v := y) (fun h' => hy (by simp [h'])) (by omega)
    · simp only [List.set_cons_succ, List.set_cons_zero, List.cons_append]
      rw [recAt_six p (l ++ r) _ _ _ _ _ _ l.length _ hn rfl, if_neg]
      rintro ⟨_, _, _, h⟩
      rw [ht] at h
      exact ne (u := b) (v := y) (fun h' => hy (by simp [h'])) (by omega)
    · simp only [List.set_cons_succ, List.set_cons_zero, List.cons_append]
      rw [recAt_six p (l ++ r) _ _ _ _ _ _ l.length _ hn rfl, if_neg]
      rintro ⟨_, _, _, h⟩
      rw [ht] at h
      exact ne (u := c) (v := y) (fun h' => hy (by simp [h'])) (by omega)
    · simp only [List.set_cons_succ, List.set_cons_zero, List.cons_append]
      rw [recAt_six p (l ++ r) _ _ _ _ _ _ l.length _ hn rfl, if_neg]
      rintro ⟨_, _, _, h⟩
      rw [ht] at h
      exact ne (u := d) (v := y) (fun h' => hy (by simp [h'])) (by omega)
  · obtain ⟨i, rfl⟩ : ∃ i, j = i + 6 := ⟨j - 6, by omega⟩
    simp only [List.set_cons_succ, List.cons_append]
    have hl : (l.set i y).length = l.length := List.length_set
    rw [recAt_six p (l.set i y ++ r) _ _ _ _ _ _ l.length (crc l) hn hv, if_neg]
    rintro ⟨_, _, _, h⟩
    have ht2 : (l.set i y ++ r).take l.length = l.set i y := by rw [← hl]; simp
    rw [ht2] at h
    exact crc_set l i y (by omega) (by simpa using hy) h
theorem xor_ne (b x : Nat) (hx : x ≠ 0) : b ^^^ x ≠ b := by
  intro h
  have h2 : x ^^^ b = 0 ^^^ b := by rw [Nat.xor_comm, h]; simp
  exact hx (xor_inj h2)
end Go.Proofs.Ytkbkbgnnamckoaa
