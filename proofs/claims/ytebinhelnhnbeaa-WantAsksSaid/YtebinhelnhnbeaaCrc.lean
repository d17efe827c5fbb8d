/- Check sums in plain numbers: what is reckoned, and that one byte that is turned turns it. -/
import Derived.Test.YtebinhelnhnbeaaKit
set_option linter.unusedSimpArgs false
set_option linter.unusedVariables false
namespace Go.Proofs.Ytebinhelnhnbeaa
open Go.RowKit

def crcBit (c : Nat) : Nat := if c % 2 = 1 then (c / 2) ^^^ 3988292384 else c / 2
def crcBits : Nat → Nat → Nat
  | 0, c => c
  | k + 1, c => crcBit (crcBits k c)
def crcByte (c : Nat) (b : UInt8) : Nat := crcBits 8 (c ^^^ b.toNat)
def crcAll (l : List UInt8) : Nat := l.foldl crcByte 4294967295
def crc (l : List UInt8) : Nat := crcAll l ^^^ 4294967295

theorem xor_lt {a b : Nat} (ha : a < 4294967296) (hb : b < 4294967296) : a ^^^ b < 4294967296 := Nat.xor_lt_two_pow (n := 32) ha hb
theorem crcBit_lt {c : Nat} (h : c < 4294967296) : crcBit c < 4294967296 := by
  unfold crcBit
  split
  · exact xor_lt (by omega) (by omega)
  · omega
theorem crcBits_lt {c : Nat} (h : c < 4294967296) : ∀ k, crcBits k c < 4294967296
  | 0 => h
  | k + 1 => crcBit_lt (crcBits_lt h k)
theorem crcByte_lt {c : Nat} (h : c < 4294967296) (b : UInt8) : crcByte c b < 4294967296 := crcBits_lt (xor_lt h (by have := b.toNat_lt; omega)) 8
theorem crcFold_lt (l : List UInt8) : ∀ c, c < 4294967296 → l.foldl crcByte c < 4294967296 := by
  induction l with
  | nil => exact fun c h => h
  | cons b l ih => exact fun c h => ih _ (crcByte_lt h b)
theorem crcAll_lt (l : List UInt8) : crcAll l < 4294967296 := crcFold_lt l _ (by omega)
theorem crc_lt (l : List UInt8) : crc l < 4294967296 := xor_lt (crcAll_lt l) (by omega)
theorem crcAll_snoc (l : List UInt8) (b : UInt8) : crcAll (l ++ [b]) = crcByte (crcAll l) b := by simp [crcAll, List.foldl_append]
theorem crcAll_take (l : List UInt8) (k : Nat) (h : k < l.length) : crcAll (l.take (k + 1)) = crcByte (crcAll (l.take k)) (l[k]'h) := by
  rw [List.take_succ_eq_append_getElem h, crcAll_snoc]

/-! one bit's step tells its number -/
theorem xor_inj {a b c : Nat} (h : a ^^^ c = b ^^^ c) : a = b := by
  have := congrArg (· ^^^ c) h
  simpa [Nat.xor_assoc] using this
theorem top_of {x : Nat} (h : x < 2147483648) : 2147483648 ≤ x ^^^ 3988292384 := by
  have h1 : (x ^^^ 3988292384).testBit 31 = true := by
    rw [Nat.testBit_xor, Nat.testBit_lt_two_pow (show x < 2 ^ 31 from h)]
    decide
  exact Nat.ge_two_pow_of_testBit h1
theorem crcBit_inj {a b : Nat} (ha : a < 4294967296) (hb : b < 4294967296) (h : crcBit a = crcBit b) : a = b := by
  unfold crcBit at h
  by_cases h1 : a % 2 = 1 <;> by_cases h2 : b % 2 = 1
  · rw [if_pos h1, if_pos h2] at h
    have := xor_inj h
    omega
  · rw [if_pos h1, if_neg h2] at h
    have := top_of (x := a / 2) (by omega)
    omega
  · rw [if_neg h1, if_pos h2] at h
    have := top_of (x := b / 2) (by omega)
    omega
  · rw [if_neg h1, if_neg h2] at h
    omega
theorem crcBits_inj {a b : Nat} (ha : a < 4294967296) (hb : b < 4294967296) : ∀ k, crcBits k a = crcBits k b → a = b
  | 0, h => h
  | k + 1, h => crcBits_inj ha hb k (crcBit_inj (crcBits_lt ha k) (crcBits_lt hb k) h)
theorem crcByte_inj {a b : Nat} (ha : a < 4294967296) (hb : b < 4294967296) {x : UInt8} (h : crcByte a x = crcByte b x) : a = b := by
  have hx := x.toNat_lt
  exact xor_inj (crcBits_inj (xor_lt ha (by omega)) (xor_lt hb (by omega)) 8 h)
theorem crcByte_inj2 {a : Nat} (ha : a < 4294967296) {x y : UInt8} (h : crcByte a x = crcByte a y) : x = y := by
  have hx := x.toNat_lt
  have hy := y.toNat_lt
  have h2 := crcBits_inj (xor_lt ha (by omega)) (xor_lt ha (by omega)) 8 h
  rw [Nat.xor_comm a, Nat.xor_comm a] at h2
  exact UInt8.toNat_inj.mp (xor_inj h2)
theorem crcFold_inj (l : List UInt8) : ∀ a b, a < 4294967296 → b < 4294967296 → l.foldl crcByte a = l.foldl crcByte b → a = b := by
  induction l with
  | nil => exact fun a b _ _ h => h
  | cons x l ih => exact fun a b ha hb h => crcByte_inj ha hb (ih _ _ (crcByte_lt ha x) (crcByte_lt hb x) h)
/-- One byte that is turned turns the sum. -/
theorem crc_turned (l r : List UInt8) (x y : UInt8) (h : crc (l ++ x :: r) = crc (l ++ y :: r)) : x = y := by
  have h1 : crcAll (l ++ x :: r) = crcAll (l ++ y :: r) := xor_inj h
  unfold crcAll at h1
  rw [List.foldl_append, List.foldl_append, List.foldl_cons, List.foldl_cons] at h1
  have hl := crcFold_lt l 4294967295 (by omega)
  exact crcByte_inj2 hl (crcFold_inj r _ _ (crcByte_lt hl x) (crcByte_lt hl y) h1)
end Go.Proofs.Ytebinhelnhnbeaa
