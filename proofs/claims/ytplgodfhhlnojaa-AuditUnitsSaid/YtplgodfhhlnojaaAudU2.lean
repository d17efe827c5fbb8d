/- Units of an inventory's entries: the document's, walked. -/
import Derived.Test.YtplgodfhhlnojaaAudU
set_option linter.unusedSimpArgs false
set_option linter.unusedVariables false
namespace Go.Proofs.Ytplgodfhhlnojaa
open Go.RowKit
theorem gmin2 (h v m : Int) : (if m < h + (if m < v then m else v) then m else h + (if m < v then m else v)) = min (h + min v m) m := by
  (repeat' split) <;> omega
set_option maxRecDepth 100000 in
set_option maxHeartbeats 4000000 in
theorem runits_c (cap over : Int) (hc : 0 ≤ cap ∧ cap ≤ 1000000) (ho : 0 ≤ over ∧ over ≤ 1000000) (A : Option Addr) (n cp : Nat) (l : List En) (hl : l.length = n) (hn : n ≤ 1000) (hcp : n ≤ cp) (w : World) (R : Rd w w.heap.size 5 A n (EC l)) :
    Calls Try.prog 52 #[.agg #[.int .i64 cap, .int .i64 over], .slice A n cp] w fun e w' => e = .returned (unV (unS cap over l)) ∧ Below w.heap.size w w' := by
  have HL := Lib.hid hl
  obtain ⟨a, ha⟩ : ∃ a, cap + over = a := ⟨_, rfl⟩
  obtain ⟨m, hm⟩ : ∃ m, a + 1 = m := ⟨_, rfl⟩
  have HA := Lib.hid ha
  have HM := Lib.hid hm
  have ha0 : 0 ≤ a := by omega
  have ha1 : a ≤ 2000000 := by omega
  have hm0 : 0 ≤ m := by omega
  have hm1 : m ≤ 2000001 := by omega
  have RR := Lib.hid R
  clear hl ha hm R
  have HX := Lib.hid (uFold_nil m l)
  go_enter Try.func52, Try.ntmps52
  go_wp2
  rw [HA.out]
  go_loopw [8, 9, 11] (fun hv cv i wr => ∃ (k : Nat) (h c : Int), k ≤ n ∧ i = .int .i64 k ∧ hv = .int .i64 h ∧ cv = .int .i64 c ∧ (0 ≤ h ∧ h ≤ m ∧ 0 ≤ c ∧ c ≤ m) ∧ Hid (uFold m (l.take k) = (h, c) ∧ Rd wr w.heap.size 5 A n (EC l) ∧ Below w.heap.size w wr)) (fun _ _ i _ => n - (intOf i).toNat)
  case atStart => exact ⟨0, 0, 0, by omega, rfl, rfl, rfl, ⟨by omega, by omega, by omega, by omega⟩, Lib.hid ⟨HX.out, RR.out.alloc (Nat.le_refl _) _, (one_box w _).2⟩⟩
  case round =>
    clear HX
    obtain ⟨k, h, c, hk, rfl, rfl, rfl, ⟨h0, h1, c0, c1⟩, HS⟩ := hrel
    by_cases hkn : k < n
    · obtain ⟨ad, ⟨es, eu, et, ec, ea⟩, rfl, hbd, hx, ⟨e0, e1, e2, e3, e4⟩⟩ := HS.out.2.1.en hkn
      simp only at e0 e1 e2 e3 e4
      have hsn := uFold_snoc m l k _ hx
      rw [HS.out.1] at hsn
      have HSN := Lib.hid hsn
      clear hx hsn
      by_cases g1 : es = 1
      · subst g1
        go_wp2
        go_roundw
        case rel =>
          rw [HM.out, gmin_is]
          exact ⟨k + 1, min (h + min (max eu 0) m) m, c, by omega, by go_num, rfl, rfl, ⟨by omega, by omega, by omega, by omega⟩, Lib.hid ⟨HSN.out.trans (by simp [uStep]), HS.out.2.1, HS.out.2.2⟩⟩
        case measure => simp [intOf]; omega
      by_cases g2 : es = 2
      · subst g2
        go_wp2
        go_roundw
        case rel =>
          rw [HM.out, gmin_is]
          exact ⟨k + 1, h, min (c + min (max eu 0) m) m, by omega, by go_num, rfl, rfl, ⟨by omega, by omega, by omega, by omega⟩, Lib.hid ⟨HSN.out.trans (by simp [uStep]), HS.out.2.1, HS.out.2.2⟩⟩
        case measure => simp [intOf]; omega
      have b1 : (es == 1) = false := beq_eq_false_iff_ne.2 g1
      have b2 : (es == 2) = false := beq_eq_false_iff_ne.2 g2
      have HG := Lib.hid (show uStep m (h, c) ⟨es, eu, et, ec, ea⟩ = (h, c) from by simp [uStep, g1, g2])
      clear g1 g2
      go_wp2
      go_roundw
      case rel => exact ⟨k + 1, h, c, by omega, by go_num, rfl, rfl, ⟨by omega, by omega, by omega, by omega⟩, Lib.hid ⟨HSN.out.trans HG.out, HS.out.2.1, HS.out.2.2⟩⟩
      case measure => simp [intOf]; omega
    · obtain rfl : k = n := by omega
      have hf := HS.out.1
      rw [List.take_of_length_le (by rw [HL.out]; exact Nat.le_refl _)] at hf
      have HF := Lib.hid hf
      clear hf
      have HM2 := Lib.hid (show cap + over + 1 = m from by rw [HA.out, HM.out])
      by_cases hlt : a < h + c
      · go_wp2
        refine bodyPost_ret (v := .tuple #[.int .i64 0, .int .i64 0, .int .i64 0, .bool false]) (by simp [results, Try.results52, go_sem]) rfl ⟨?_, HS.out.2.2⟩
        unfold unV unS
        rw [HM2.out, HF.out, HA.out, if_pos (by simp only; omega)]
      · have hd : decide (a < h + c) = false := decide_eq_false hlt
        go_wp2
        refine bodyPost_ret (v := .tuple #[.int .i64 (a - h - c), .int .i64 h, .int .i64 c, .bool true]) (by simp [results, Try.results52, go_sem]) rfl ⟨?_, HS.out.2.2⟩
        unfold unV unS
        rw [HM2.out, HF.out, HA.out, if_neg (by simp only; omega)]
end Go.Proofs.Ytplgodfhhlnojaa
