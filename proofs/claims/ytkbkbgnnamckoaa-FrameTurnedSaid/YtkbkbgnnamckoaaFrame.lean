/- Frames: what frame.Put and frame.One answer, walked. -/
import Derived.Test.YtkbkbgnnamckoaaSum
import Derived.Test.YtkbkbgnnamckoaaBytes
set_option linter.unusedSimpArgs false
set_option linter.unusedVariables false
namespace Go.Proofs.Ytkbkbgnnamckoaa
open Go.RowKit
def le2 (n : Nat) : List UInt8 := [UInt8.ofNat n, UInt8.ofNat (n / 256)]
def le4 (c : Nat) : List UInt8 := [UInt8.ofNat c, UInt8.ofNat (c / 256), UInt8.ofNat (c / 65536), UInt8.ofNat (c / 16777216)]
/-- A record in its frame. -/
def frm (l : List UInt8) : List UInt8 := le4 (crc l) ++ le2 l.length ++ l
theorem frm_len (l : List UInt8) : (frm l).length = l.length + 6 := by simp [frm, le4, le2]
/-- An own row of bytes beside a number: how a call ends. -/
def RB (w : World) (l : List UInt8) (k : Int) (e : Ending) (w' : World) : Prop := ∃ v, e = .returned (.tuple #[v, .int .i64 k]) ∧ OB w' w.heap.size v l ∧ Below w.heap.size w w'
set_option maxHeartbeats 400000 in
theorem put_no (A : Option Addr) (n c : Nat) (w : World) (h : n < 1 ∨ 1000 < n) (hn : n ≤ 9223372036854775807) :
    Calls Try.prog 15 #[.slice A n c] w fun e w' => e = .returned (.tuple #[.slice none 0 0, .int .i64 1]) ∧ w = w' := by
  rcases h with h | h
  · go_enter Try.func15, Try.ntmps15
    go_wp2
    go_ret2
    exact ⟨rfl, rfl⟩
  · have h1 : ¬ n < 1 := by omega
    go_enter Try.func15, Try.ntmps15
    go_wp2
    go_ret2
    exact ⟨rfl, rfl⟩
theorem put_cells (s n : Nat) (hs : s < 4294967296) (hn : n ≤ 1000) :
    [Value.int .u8 ((s : Int) % 256), .int .u8 ((s : Int) / 256 % 256), .int .u8 ((s : Int) / 65536 % 256), .int .u8 ((s : Int) / 16777216), .int .u8 ((n : Int) % 256), .int .u8 ((n : Int) / 256)] = B8 (le4 s ++ le2 n) := by
  simp only [B8, le4, le2, List.map_append, List.map_cons, List.map_nil, List.cons_append, List.nil_append, UInt8.toNat_ofNat']
  rw [show (s : Int) / 16777216 = ((s / 16777216 % 256 : Nat) : Int) from by omega, show (n : Int) / 256 = ((n / 256 % 256 : Nat) : Int) from by omega]
  rfl
set_option maxHeartbeats 400000 in
theorem put_yes (A : Option Addr) (n c : Nat) (l : List UInt8) (w : World) (hr : Rd w w.heap.size 1 A n (B8 l)) (h0 : 1 ≤ n) (h1 : n ≤ 1000) :
    Calls Try.prog 15 #[.slice A n c] w (RB w (frm l) 0) := by
  have hs := crc_lt l
  have hl : l.length = n := by have := hr.1; rw [B8_len] at this; omega
  have HL := Lib.hid hl; clear hl
  have HR := Lib.hid hr; clear hr
  go_enter Try.func15, Try.ntmps15
  go_wp2_with (first | (go_at_call 22; refine (sum_any A n c l _ _ HR.out (by omega)).mono ?_; rintro e w' ⟨rfl, rfl⟩) | (at_builtin; refine wpl_app rfl (.tmp 35) (.tmp 36) rfl w.heap.size _ (le4 (crc l) ++ le2 n) rfl (OB.lit w _ _ _ 6 (put_cells _ _ hs h1) rfl (Nat.le_refl _) (by unfold maxLen; omega)) w.heap.size A n c l rfl (HR.out.alloc (Nat.le_refl _) _) ?_ ?_ ?_))
  · simp [le4, le2]; omega
  · simp
  · intro v1 w1 hown hg _
    go_wp2
    go_ret2
    refine ⟨v1, rfl, ?_, ?_⟩
    · unfold frm; rw [HL.out]; exact hown
    · exact ((Below.refl _ _).alloc (Nat.le_refl _) _).grown hg (by simp) (by intro k hk; cases hk; exact Nat.le_refl _)
def NoRec (w : World) (e : Ending) (w' : World) : Prop := e = .returned (.tuple #[.slice none 0 0, .int .i64 (-1)]) ∧ ∃ q, w' = w.drewN q
theorem one_out (A : Option Addr) (n c : Nat) (k : Int) (w : World) (hn : n ≤ 9223372036854775807) (hk0 : -9223372036854775808 ≤ k) (hk1 : k ≤ 9223372036854775807) (h : k < 0 ∨ n < k + 6) :
    Calls Try.prog 19 #[.slice A n c, .int .i64 k] w fun e w' => e = .returned (.tuple #[.slice none 0 0, .int .i64 (-1)]) ∧ w = w' := by
  by_cases h1 : k < 0
  · go_enter Try.func19, Try.ntmps19
    go_wp2
    go_ret2
    exact ⟨rfl, rfl⟩
  by_cases h2 : n < k
  · go_enter Try.func19, Try.ntmps19
    go_wp2
    go_ret2
    exact ⟨rfl, rfl⟩
  · have h3 : n - k < 6 := by omega
    go_enter Try.func19, Try.ntmps19
    go_wp2
    go_ret2
    exact ⟨rfl, rfl⟩
theorem Rd.getD {w : World} {D : Nat} {A : Option Addr} {n : Nat} {l : List UInt8} (h : Rd w D 1 A n (B8 l)) (ad : Addr) (hA : A = some ad) (k : Nat) (hk : k < n) : w.cell? (ad.add k) = some (.int .u8 ((l.getD k 0).toNat : Int)) := by
  obtain ⟨ad', hl, e, _, hc⟩ := h.byte hk
  rw [hA] at e
  cases e
  rw [hc]
  simp [List.getD, hl]
theorem or_i64_nat (a b : Nat) (ha : a < 4611686018427387904) (hb : b < 4611686018427387904) : bits .or .i64 (a : Int) (b : Int) = ((a ||| b : Nat) : Int) := by
  show IntKind.i64.wrap ((BitVec.ofInt 64 (a : Int) ||| BitVec.ofInt 64 (b : Int)).toNat : Int) = _
  rw [BitVec.toNat_or, ofInt_u64 a (by omega), ofInt_u64 b (by omega)]
  have := Nat.or_lt_two_pow (n := 62) ha hb
  exact IntWalk.i64_in _ (by omega)
theorem or2_i64 (x y : Nat) (hx : x < 256) (hy : y < 256) : bits .or .i64 (x : Int) ((y : Int) * 256) = ((x + 256 * y : Nat) : Int) := by
  rw [show (y : Int) * 256 = ((y * 256 : Nat) : Int) from by omega, or_i64_nat _ _ (by omega) (by omega), Nat.or_comm, nat_join 8 _ _ (by omega) hx]
  congr 1; omega
theorem orh_u32 (i x y : Nat) (hi : i < 25) (hx : x < 2 ^ i) (hy : y < 256) : bits .or .u32 (x : Int) ((y : Int) * ((2 ^ i : Nat) : Int)) = ((x + y * 2 ^ i : Nat) : Int) := by
  have h1 : 2 ^ i ≤ 2 ^ 24 := Nat.pow_le_pow_right (by omega) (by omega)
  have h2 : y * 2 ^ i ≤ 255 * 2 ^ i := Nat.mul_le_mul_right _ (by omega)
  rw [← Int.natCast_mul, u32_or_nat _ _ (by omega) (by omega), Nat.or_comm, nat_join i _ _ (Nat.mul_mod_left _ _) hx, Nat.add_comm]
/-- The four bytes of a sum, as the walk reads them. -/
theorem le4_read (x0 x1 x2 x3 : Nat) (h0 : x0 < 256) (h1 : x1 < 256) (h2 : x2 < 256) (h3 : x3 < 256) : ∃ a b s : Nat, bits .or .u32 (x0 : Int) ((x1 : Int) * 256) = (a : Int) ∧ bits .or .u32 (a : Int) ((x2 : Int) * 65536) = (b : Int) ∧ bits .or .u32 (b : Int) ((x3 : Int) * 16777216) = (s : Int) ∧ s = x0 + 256 * x1 + 65536 * x2 + 16777216 * x3 :=
  ⟨x0 + x1 * 2 ^ 8, x0 + x1 * 2 ^ 8 + x2 * 2 ^ 16, x0 + x1 * 2 ^ 8 + x2 * 2 ^ 16 + x3 * 2 ^ 24, orh_u32 8 x0 x1 (by omega) (by omega) h1, orh_u32 16 _ x2 (by omega) (by omega) h2, orh_u32 24 _ x3 (by omega) (by omega) h3, by omega⟩

def nAt (b : List UInt8) (k : Nat) : Nat := (b.getD (k + 4) 0).toNat + 256 * (b.getD (k + 5) 0).toNat
def cAt (b : List UInt8) (k : Nat) : Nat := (b.getD k 0).toNat + 256 * (b.getD (k + 1) 0).toNat + 65536 * (b.getD (k + 2) 0).toNat + 16777216 * (b.getD (k + 3) 0).toNat
set_option maxHeartbeats 1000000 in
theorem one_bad (A : Option Addr) (n c : Nat) (k : Nat) (l : List UInt8) (w : World) (hr : Rd w w.heap.size 1 A n (B8 l)) (hn : n ≤ 140737488351232) (hc : n ≤ c) (h : k + 6 ≤ n) (hm : nAt l k < 1 ∨ 1000 < nAt l k ∨ n < k + 6 + nAt l k) :
    Calls Try.prog 19 #[.slice A n c, .int .i64 k] w (NoRec w) := by
  obtain ⟨ad, rfl, _, _⟩ := hr.2 (by omega)
  obtain ⟨k4, hk4⟩ : ∃ j, j = k + 4 := ⟨_, rfl⟩
  obtain ⟨k5, hk5⟩ : ∃ j, j = k + 5 := ⟨_, rfl⟩
  have c4 := hr.getD ad rfl k4 (by omega)
  have c5 := hr.getD ad rfl k5 (by omega)
  have b4 := u8_lt (l.getD k4 0)
  have b5 := u8_lt (l.getD k5 0)
  have s4 : IntKind.i64.wrap ((k : Int) + 4) = (k4 : Int) := by rw [hk4]; exact IntWalk.i64_in _ (by omega)
  have s5 : IntKind.i64.wrap ((k : Int) + 5) = (k5 : Int) := by rw [hk5]; exact IntWalk.i64_in _ (by omega)
  have p4 : k4 < n := by omega
  have p5 : k5 < n := by omega
  have o := or2_i64 _ _ b4 b5
  have hmm : nAt l k = (l.getD k4 0).toNat + 256 * (l.getD k5 0).toNat := by unfold nAt; rw [hk4, hk5]
  generalize nAt l k = m at *
  rw [← hmm] at o
  clear hk4 hk5 hr hmm
  generalize (l.getD k4 0).toNat = x4 at *
  generalize (l.getD k5 0).toNat = x5 at *
  have hm' : m < 1 ∨ (¬ m < 1 ∧ 1000 < m) ∨ (¬ m < 1 ∧ ¬ 1000 < m ∧ n < k + 6 + m) := by omega
  clear hm
  rcases hm' with hm | ⟨h1, hm⟩ | ⟨h1, h2, hm⟩
  all_goals
    go_enter Try.func19, Try.ntmps19
    go_wp2
    go_quiet (fail)
    clear s4 s5 p4 p5
    go_wp2
    go_ret2
    exact ⟨rfl, _, rfl⟩
end Go.Proofs.Ytkbkbgnnamckoaa
