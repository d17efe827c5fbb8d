/- Numbers as groups of seven bits, in plain lists: what is put, what is read, and that they fit. -/
import Derived.Test.YtebinhelnhnbeaaKit
set_option linter.unusedSimpArgs false
set_option linter.unusedVariables false
namespace Go.Proofs.Ytebinhelnhnbeaa
open Go.RowKit
def grpF : Nat → Nat → List UInt8
  | 0, u => [UInt8.ofNat u]
  | f + 1, u => if u < 128 then [UInt8.ofNat u] else UInt8.ofNat (u % 128 + 128) :: grpF f (u / 128)
def grp (u : Nat) : List UInt8 := grpF 9 u
/-- The bound of a number of at most f + 1 groups. -/
def lim : Nat → Nat
  | 0 => 2
  | f + 1 => 128 * lim f
theorem lim9 : lim 9 = 18446744073709551616 := by decide
/-- The number that stands ahead, and how many bytes it has; f + 1 bytes at most. -/
def ung : Nat → List UInt8 → Option (Nat × Nat)
  | 0, _ => none
  | _, [] => none
  | f + 1, c :: l =>
    if f = 0 ∧ 1 < c.toNat then none
    else if c.toNat < 128 then (if c.toNat = 0 ∧ f ≠ 9 then none else some (c.toNat, 1))
    else (ung f l).map fun p => (c.toNat % 128 + 128 * p.1, p.2 + 1)
theorem grpF_pos (f u : Nat) : 0 < (grpF f u).length := by
  cases f with
  | zero => simp [grpF]
  | succ f => simp only [grpF]; split <;> simp
theorem grpF_le (f u : Nat) : (grpF f u).length ≤ f + 1 := by
  induction f generalizing u with
  | zero => simp [grpF]
  | succ f ih =>
    simp only [grpF]
    split
    · simp
    · simp only [List.length_cons]; have := ih (u / 128); omega
theorem grp_pos (u : Nat) : 0 < (grp u).length := grpF_pos _ _
theorem grp_le (u : Nat) : (grp u).length ≤ 10 := grpF_le _ _
theorem ung_grpF (f : Nat) : ∀ (u : Nat) (r : List UInt8), f ≤ 9 → u < lim f → (u ≠ 0 ∨ f = 9) → ung (f + 1) (grpF f u ++ r) = some (u, (grpF f u).length) := by
  induction f with
  | zero =>
    intro u r _ hu h0
    have hu1 : u = 1 := by simp only [lim] at hu; omega
    subst hu1
    rfl
  | succ f ih =>
    intro u r hf hu h0
    simp only [lim] at hu
    by_cases h : u < 128
    · simp only [grpF, if_pos h, List.cons_append, List.nil_append, ung]
      have e : (UInt8.ofNat u).toNat = u := by rw [UInt8.toNat_ofNat']; omega
      rw [e, if_neg (by omega), if_pos h, if_neg (by omega)]
      rfl
    · simp only [grpF, if_neg h, List.cons_append, ung]
      have e : (UInt8.ofNat (u % 128 + 128)).toNat = u % 128 + 128 := by rw [UInt8.toNat_ofNat']; omega
      rw [e, if_neg (by omega), if_neg (by omega), ih (u / 128) r (by omega) (by omega) (by omega)]
      simp only [Option.map_some, List.length_cons]
      congr 2
      omega
theorem ung_grp (u : Nat) (r : List UInt8) (hu : u < 18446744073709551616) : ung 10 (grp u ++ r) = some (u, (grp u).length) :=
  ung_grpF 9 u r (by omega) (by rw [lim9]; exact hu) (.inr rfl)
theorem ung_is (f : Nat) : ∀ (l : List UInt8) (u n : Nat), f ≤ 9 → ung (f + 1) l = some (u, n) → n ≤ l.length ∧ 0 < n ∧ l.take n = grpF f u ∧ u < lim f ∧ (u ≠ 0 ∨ f = 9) := by
  induction f with
  | zero =>
    intro l u n _ h
    cases l with
    | nil => simp [ung] at h
    | cons c l =>
      rw [ung] at h
      have hc := c.toNat_lt
      by_cases h1 : 1 < c.toNat
      · rw [if_pos ⟨rfl, h1⟩] at h; cases h
      · rw [if_neg (by omega), if_pos (by omega)] at h
        by_cases h2 : c.toNat = 0
        · rw [if_pos (by omega)] at h; cases h
        · rw [if_neg (by omega)] at h
          injection h with h
          injection h with h3 h4
          subst h3 h4
          refine ⟨by simp, by omega, ?_, by simp only [lim]; omega, .inl h2⟩
          simp [grpF]
  | succ f ih =>
    intro l u n hf h
    cases l with
    | nil => simp [ung] at h
    | cons c l =>
      have hc := c.toNat_lt
      have hlim : 2 ≤ lim f := by
        clear ih h hf
        induction f with
        | zero => simp [lim]
        | succ f ih => simp only [lim]; omega
      rw [ung] at h
      rw [if_neg (by omega)] at h
      by_cases h1 : c.toNat < 128
      · rw [if_pos h1] at h
        by_cases h2 : c.toNat = 0 ∧ f + 1 ≠ 9
        · rw [if_pos h2] at h; cases h
        · rw [if_neg h2] at h
          injection h with h
          injection h with h3 h4
          subst h3 h4
          refine ⟨by simp, by omega, ?_, by simp only [lim]; omega, by omega⟩
          simp [grpF, h1]
      · rw [if_neg h1] at h
        cases h5 : ung (f + 1) l with
        | none => rw [h5] at h; cases h
        | some p =>
          obtain ⟨v, m⟩ := p
          rw [h5] at h
          simp only [Option.map_some] at h
          injection h with h
          injection h with h3 h4
          obtain ⟨q1, q2, q3, q4, q5⟩ := ih l v m (by omega) h5
          subst h3 h4
          have q6 : v ≠ 0 := by omega
          have e1 : (c.toNat % 128 + 128 * v) / 128 = v := by omega
          have e2 : (c.toNat % 128 + 128 * v) % 128 + 128 = c.toNat := by omega
          refine ⟨by simp only [List.length_cons]; omega, by omega, ?_, by simp only [lim]; omega, .inl (by omega)⟩
          rw [grpF, if_neg (by omega), e1, e2]
          simp [q3]
theorem ung10 {l : List UInt8} {u n : Nat} (h : ung 10 l = some (u, n)) : n ≤ l.length ∧ 0 < n ∧ l.take n = grp u ∧ u < 18446744073709551616 := by
  obtain ⟨a, b, c, d, _⟩ := ung_is 9 l u n (by omega) h
  exact ⟨a, b, c, by rw [← lim9]; exact d⟩
/-- A number with its sign, and back. -/
def zig (v : Int) : Nat := if 0 ≤ v then (2 * v).toNat else (-2 * v - 1).toNat
def unz (u : Nat) : Int := if u % 2 = 0 then ((u / 2 : Nat) : Int) else -((u / 2 : Nat) : Int) - 1
theorem unz_zig (v : Int) : unz (zig v) = v := by
  unfold unz zig
  split <;> split <;> omega
theorem zig_unz (u : Nat) : zig (unz u) = u := by
  unfold unz zig
  split <;> split <;> omega
theorem zig_lt (v : Int) (h0 : -9223372036854775808 ≤ v) (h1 : v ≤ 9223372036854775807) : zig v < 18446744073709551616 := by
  unfold zig
  split <;> omega
theorem unz_lo (u : Nat) (h : u < 18446744073709551616) : -9223372036854775808 ≤ unz u ∧ unz u ≤ 9223372036854775807 := by
  unfold unz
  split <;> omega
/-- A number as bytes. -/
def enc (v : Int) : List UInt8 := grp (zig v)
theorem enc_pos (v : Int) : 0 < (enc v).length := grp_pos _
theorem enc_le (v : Int) : (enc v).length ≤ 10 := grp_le _
/-- A number between two, off the front: what, and what is left. -/
def dec (lo hi : Int) (l : List UInt8) : Option (Int × List UInt8) :=
  match ung 10 l with
  | some (u, n) => if lo ≤ unz u ∧ unz u ≤ hi then some (unz u, l.drop n) else none
  | none => none
theorem dec_enc (lo hi v : Int) (r : List UInt8) (h0 : -9223372036854775808 ≤ v) (h1 : v ≤ 9223372036854775807) (hl : lo ≤ v) (hh : v ≤ hi) : dec lo hi (enc v ++ r) = some (v, r) := by
  unfold dec enc
  rw [ung_grp _ _ (zig_lt v h0 h1)]
  simp only [unz_zig]
  rw [if_pos ⟨hl, hh⟩, List.drop_left]
theorem dec_is {lo hi v : Int} {l r : List UInt8} (h : dec lo hi l = some (v, r)) : l = enc v ++ r ∧ lo ≤ v ∧ v ≤ hi ∧ -9223372036854775808 ≤ v ∧ v ≤ 9223372036854775807 := by
  unfold dec at h
  cases h5 : ung 10 l with
  | none => rw [h5] at h; cases h
  | some p =>
    obtain ⟨u, n⟩ := p
    rw [h5] at h
    simp only at h
    split at h
    · rename_i hin
      injection h with h
      injection h with h3 h4
      subst h3 h4
      obtain ⟨q1, q2, q3, q4⟩ := ung10 h5
      refine ⟨?_, hin.1, hin.2, unz_lo u q4⟩
      unfold enc
      rw [zig_unz, ← q3, List.take_append_drop]
    · cases h
theorem enc_inj {v w : Int} {r s : List UInt8} (hv : -9223372036854775808 ≤ v ∧ v ≤ 9223372036854775807) (hw : -9223372036854775808 ≤ w ∧ w ≤ 9223372036854775807) (h : enc v ++ r = enc w ++ s) : v = w ∧ r = s := by
  have h1 := dec_enc (-9223372036854775808) 9223372036854775807 v r hv.1 hv.2 hv.1 hv.2
  rw [h, dec_enc (-9223372036854775808) 9223372036854775807 w s hw.1 hw.2 hw.1 hw.2] at h1
  injection h1 with h1
  injection h1 with h1 h2
  exact ⟨h1.symm, h2.symm⟩
/-- What a reader has: its bytes, or it is wrong. -/
abbrev Rs := Option (List UInt8)
def rInt (lo hi : Int) : Rs → Int × Rs
  | none => (0, none)
  | some l => match dec lo hi l with
    | some (v, r) => (v, some r)
    | none => (0, none)
def rByte : Rs → Int × Rs
  | some (c :: l) => ((c.toNat : Int), some l)
  | _ => (0, none)
def rText (most : Int) (s : Rs) : List UInt8 × Rs :=
  match rInt 0 (max most 0) s with
  | (n, some l) => if n.toNat ≤ l.length then (l.take n.toNat, some (l.drop n.toNat)) else ([], none)
  | (_, none) => ([], none)
def rEnd : Rs → Int
  | none => 2
  | some [] => 0
  | some _ => 3
theorem rInt_none (lo hi : Int) : rInt lo hi none = (0, none) := rfl
theorem rText_none (most : Int) : rText most none = ([], none) := rfl
theorem rByte_none : rByte none = (0, none) := rfl
end Go.Proofs.Ytebinhelnhnbeaa
