/- The check sum of a text, walked: the document's own answer. -/
import Derived.Test.YtebinhelnhnbeaaSum
set_option linter.unusedSimpArgs false
set_option linter.unusedVariables false
namespace Go.Proofs.Ytebinhelnhnbeaa
open Go.RowKit
set_option maxHeartbeats 400000 in
theorem refsum_c (s : ByteArray) (w : World) (hn : s.size ≤ 1000000000000) :
    Calls Try.prog 34 #[.string s] w fun e w' => e = .returned (.int .u32 (crc s.data.toList : Nat)) ∧ w = w' := by
  obtain ⟨l, hl⟩ : ∃ l, s.data.toList = l := ⟨_, rfl⟩
  have hz : s.size = l.length := by rw [← hl]; simp
  have HL := Lib.hid hl
  have HZ := Lib.hid hz
  rw [hl]
  clear hl hz
  go_enter Try.func34, Try.ntmps34
  go_wp2
  go_loop [3, 4] (fun c i => ∃ k : Nat, k ≤ s.size ∧ i = .int .i64 k ∧ c = .int .u32 ((crcAll (l.take k) : Nat) : Int)) (fun _ i => s.size - (intOf i).toNat)
  case atStart => exact ⟨0, by omega, rfl, rfl⟩
  case round =>
    obtain ⟨k, hk, rfl, rfl⟩ := hrel
    by_cases hlt : k < s.size
    · have hl : k < l.length := by have := HZ.out; omega
      obtain ⟨x, hx⟩ : ∃ x, (l[k]'hl).toNat = x := ⟨_, rfl⟩
      have hxs : s[k].toNat = x := by
        rw [← hx]
        have h2 : s.data.toList[k]? = some l[k] := by rw [HL.out, List.getElem?_eq_getElem hl]
        have h3 : s.data.toList[k]? = some s[k] := by rw [List.getElem?_eq_getElem (by simpa using hlt)]; rfl
        rw [h3] at h2
        injection h2 with h2
        rw [h2]
      have hb := u8_lt (l[k]'hl)
      have hs := crcAll_lt (l.take k)
      rw [hx] at hb
      have hxx := u32_xor_nat (crcAll (l.take k)) x hs (by omega)
      have hy := xor_lt hs (show x < 4294967296 by omega)
      have hnext := Lib.hid (crcAll_take l k hl)
      unfold crcByte at hnext
      rw [hx] at hnext
      clear hx hl
      go_wp2
      go_loop [3, 5] (fun c i => ∃ j : Nat, j ≤ 8 ∧ i = .int .i64 j ∧ c = .int .u32 ((crcBits j (crcAll (l.take k) ^^^ x) : Nat) : Int)) (fun _ i => 8 - (intOf i).toNat)
      case atStart => exact ⟨0, by omega, rfl, rfl⟩
      case round =>
        clear hxx
        obtain ⟨j, hj, rfl, rfl⟩ := hrel
        have hz := crcBits_lt hy j
        by_cases hjl : j < 8
        · have hnx := Lib.hid (show crcBits (j + 1) (crcAll (l.take k) ^^^ x) = crcBit (crcBits j (crcAll (l.take k) ^^^ x)) from rfl)
          generalize crcBits j (crcAll (l.take k) ^^^ x) = y at *
          have ha : bits .and .u32 (y : Int) 1 = ((y % 2 : Nat) : Int) := by rw [show (1 : Int) = ((1 : Nat) : Int) from rfl, u32_and_nat _ _ hz (by omega), Nat.and_one_is_mod]
          have hx : bits .xor .u32 ((y : Int) / 2) 3988292384 = ((y / 2 ^^^ 3988292384 : Nat) : Int) := by
            rw [show (y : Int) / 2 = ((y / 2 : Nat) : Int) from by omega, show (3988292384 : Int) = ((3988292384 : Nat) : Int) from rfl, u32_xor_nat _ _ (by omega) (by omega)]
          by_cases hodd : y % 2 = 1
          · have h1 : ((y % 2 : Nat) : Int) = 1 := by omega
            go_wp2
            go_round
            case rel => exact ⟨j + 1, by omega, by go_num, by rw [hnx.out]; unfold crcBit; rw [if_pos hodd]⟩
            case measure => simp [intOf]; omega
          · have h1 : ((y % 2 : Nat) : Int) = 0 := by omega
            go_wp2
            go_round
            case rel => exact ⟨j + 1, by omega, by go_num, by rw [hnx.out]; unfold crcBit; rw [if_neg hodd]; go_num⟩
            case measure => simp [intOf]; omega
        · obtain rfl : j = 8 := by omega
          go_wp2
          go_round
          case rel => exact ⟨k + 1, by omega, by go_num, by rw [hnext.out]⟩
          case measure => simp [intOf]; omega
    · obtain rfl : s.size = k := by omega
      have hz : l.take s.size = l := by rw [HZ.out]; exact List.take_length
      go_wp2
      go_ret
      exact ⟨ret_int (by rw [show IntKind.u32.max = ((4294967295 : Nat) : Int) from rfl, u32_xor_nat _ _ (by omega) (crcAll_lt l), Nat.xor_comm]; rfl), rfl⟩
end Go.Proofs.Ytebinhelnhnbeaa
