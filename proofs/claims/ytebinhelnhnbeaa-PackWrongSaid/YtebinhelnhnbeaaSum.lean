/- The check sum of bytes, walked: pack.Sum answers the number that XCrc reckons. -/
import Derived.Test.YtebinhelnhnbeaaCrc
set_option linter.unusedSimpArgs false
set_option linter.unusedVariables false
namespace Go.Proofs.Ytebinhelnhnbeaa
open Go.RowKit
set_option maxHeartbeats 400000 in
theorem sum_any (A : Option Addr) (n c : Nat) (l : List UInt8) (w : World) (D : Nat) (hr : Rd w D 1 A n (B8 l)) (hn : n ≤ 9223372036854775807) :
    Calls Try.prog 33 #[.slice A n c] w fun e w' => e = .returned (.int .u32 (crc l : Nat)) ∧ w = w' := by
  have hlen : l.length = n := by have := hr.1; rw [B8_len] at this; omega
  have HR := Lib.hid hr; clear hr
  have HL := Lib.hid hlen; clear hlen
  go_enter Try.func33, Try.ntmps33
  go_wp2
  go_loop [3, 9] (fun s i => ∃ k : Nat, k ≤ n ∧ i = .int .i64 k ∧ s = .int .u32 ((crcAll (l.take k) : Nat) : Int)) (fun _ i => n - (intOf i).toNat)
  case atStart => exact ⟨0, by omega, rfl, rfl⟩
  case round =>
    obtain ⟨k, hk, rfl, rfl⟩ := hrel
    by_cases hlt : k < n
    · obtain ⟨ad, hl, rfl, _, hc⟩ := HR.out.byte hlt
      have hb := u8_lt (l[k]'hl)
      have hs := crcAll_lt (l.take k)
      have hx := u32_xor_nat (crcAll (l.take k)) (l[k]'hl).toNat hs (by omega)
      have hy := xor_lt hs (show (l[k]'hl).toNat < 4294967296 by omega)
      have hnext := Lib.hid (crcAll_take l k hl)
      go_wp2
      go_loop [3, 17] (fun s i => ∃ j : Nat, j ≤ 8 ∧ i = .int .i64 j ∧ s = .int .u32 ((crcBits j (crcAll (l.take k) ^^^ (l[k]'hl).toNat) : Nat) : Int)) (fun _ i => 8 - (intOf i).toNat)
      case atStart => exact ⟨0, by omega, rfl, rfl⟩
      case round =>
        clear hx
        obtain ⟨j, hj, rfl, rfl⟩ := hrel
        have hz := crcBits_lt hy j
        by_cases hjl : j < 8
        · have hnx := Lib.hid (show crcBits (j + 1) (crcAll (l.take k) ^^^ (l[k]'hl).toNat) = crcBit (crcBits j (crcAll (l.take k) ^^^ (l[k]'hl).toNat)) from rfl)
          generalize crcBits j (crcAll (l.take k) ^^^ (l[k]'hl).toNat) = y at *
          have ha : bits .and .u32 (y : Int) 1 = ((y % 2 : Nat) : Int) := by rw [show (1 : Int) = ((1 : Nat) : Int) from rfl, u32_and_nat _ _ hz (by omega), Nat.and_one_is_mod]
          have hx : bits .xor .u32 ((y : Int) / 2) 3988292384 = ((y / 2 ^^^ 3988292384 : Nat) : Int) := by
            rw [show (y : Int) / 2 = ((y / 2 : Nat) : Int) from by omega, show (3988292384 : Int) = ((3988292384 : Nat) : Int) from rfl, u32_xor_nat _ _ (by omega) (by omega)]
          by_cases hodd : y % 2 = 1
          · have h1 : ((y % 2 : Nat) : Int) = 1 := by omega
            go_wp2
            go_round
            case rel => exact ⟨j + 1, by omega, by go_num, by rw [hnx.out]; unfold crcBit; rw [if_pos hodd]⟩
            case measure => simp [intOf]; omega
          · have h1 : ((y % 2 : Nat) : Int) = 0 := by omega
            go_wp2
            go_round
            case rel => exact ⟨j + 1, by omega, by go_num, by rw [hnx.out]; unfold crcBit; rw [if_neg hodd]; go_num⟩
            case measure => simp [intOf]; omega
        · obtain rfl : j = 8 := by omega
          go_wp2
          go_round
          case rel => exact ⟨k + 1, by omega, by go_num, by rw [hnext.out]; rfl⟩
          case measure => simp [intOf]; omega
    · obtain rfl : n = k := by omega
      have hz : l.take n = l := by rw [← HL.out]; exact List.take_length
      go_wp2
      go_ret
      exact ⟨ret_int (by rw [show IntKind.u32.max = ((4294967295 : Nat) : Int) from rfl, u32_xor_nat _ _ (by omega) (crcAll_lt l), Nat.xor_comm]; rfl), rfl⟩
end Go.Proofs.Ytebinhelnhnbeaa
