/- The law PackWrites, walked. -/
import Derived.Test.YtebinhelnhnbeaaTold1
import Derived.Test.YtebinhelnhnbeaaOwnB
import Derived.Test.YtebinhelnhnbeaaRefR3
import Derived.Test.YtebinhelnhnbeaaOpenO
set_option linter.unusedSimpArgs false
set_option linter.unusedVariables false
namespace Go.Proofs.Ytebinhelnhnbeaa
open Go.RowKit
theorem reftext_is (s : ByteArray) (L : List UInt8) (h : encT s.data.toList = L) (w : World) (hs : s.size ≤ 1000000000000) : Calls Try.prog 21 #[.string s] w fun e w' => e = .returned (.string ⟨L.toArray⟩) ∧ Below w.heap.size w w' := by
  have := reftext_c s w hs
  rw [h] at this
  exact this
theorem refint_is (v : Int) (L : List UInt8) (h : enc v = L) (w : World) (h0 : -9223372036854775808 ≤ v) (h1 : v ≤ 9223372036854775807) : Calls Try.prog 19 #[.int .i64 v] w fun e w' => e = .returned (.string ⟨L.toArray⟩) ∧ Below w.heap.size w w' := by
  have := refint_c v w h0 h1
  rw [h] at this
  exact this
theorem app_data (S : ByteArray) (l bs : List UInt8) (h : S.data.toList = bs) : (S ++ (⟨l.toArray⟩ : ByteArray)).data.toList = bs ++ l := by
  simp [h]
theorem encT_le (l : List UInt8) (h : l.length ≤ 200) : (encT l).length ≤ 210 := by
  unfold encT
  have := enc_le (l.length : Int)
  rw [List.length_append]
  omega
/-- How far PackWrites has come. -/
def WS (W wr : World) (k : Nat) (S : ByteArray) : Prop := ∃ bs, S.data.toList = bs ∧ bs.length ≤ k * 210 ∧ WB wr W.heap.size W.heap.size bs ∧ Below W.heap.size W wr
set_option maxRecDepth 100000 in
set_option maxHeartbeats 4000000 in
theorem writes_walk (A : Option Addr) (n c : Nat) (os : List OpV) (W : World) (hr : RdOps W W.heap.size A n os) (hn : n ≤ maxLen) : Calls Try.prog 3 #[.slice A n c] W fun e w' => e = .returned (.bool true) ∧ Below W.heap.size W w' := by
  replace hn : n ≤ 9223372036854775807 := by unfold maxLen at hn; omega
  have HR := Lib.hid hr; clear hr
  by_cases h40 : 40 < n
  · go_enter Try.func3, Try.ntmps3
    go_wp2_with (go_at_call 17; refine (told1 _).mono ?_; rintro e w2 ⟨rfl, hb2⟩)
    go_ret
    exact ⟨rfl, hb2⟩
  have HW := Lib.hid (WB.new W W.heap.size (Nat.le_refl _))
  have HW0 := Lib.hid (show Below W.heap.size W (W.alloc (.cells #[.slice none 0 0] 26)) from (Below.refl _ _).alloc (Nat.le_refl _) _)
  go_enter Try.func3, Try.ntmps3
  go_wp2
  go_loopw [4, 5] (fun s i wr => ∃ (k : Nat) (S : ByteArray), k ≤ n ∧ i = .int .i64 k ∧ s = .string S ∧ Hid (WS W wr k S)) (fun _ i _ => n - (intOf i).toNat)
  case atStart => exact ⟨0, ⟨#[]⟩, by omega, rfl, rfl, [], rfl, by simp, HW.out, HW0.out⟩
  case round =>
    clear HW HW0
    obtain ⟨k, S, hk, rfl, rfl, HS⟩ := hrel
    by_cases hlt : k < n
    · obtain ⟨bs, hS, hbl, hwb, hb⟩ := HS.out
      obtain ⟨ad, o, rfl, hadb, ho, hfit, hat⟩ := HR.out.at_ hlt
      have hat' := hat.below hb hadb
      obtain ⟨c0, c1, c2, c3, c4, c5⟩ := hat'
      have HAT := Lib.hid hat
      have HFIT := Lib.hid hfit
      have HWB := Lib.hid hwb
      have HB := Lib.hid hb
      have HSS := Lib.hid hS
      have hsz : S.size = bs.length := by rw [← hS]; simp
      have hsl : S.size ≤ 10000 := by omega
      have HBL := Lib.hid hbl
      clear hat hfit hwb hb hS hsz ho hbl
      obtain ⟨kd, nn, st, lo, hi, most⟩ := o
      simp only at c0 c1 c2 c3 c4 c5
      by_cases h200 : 200 < st.size
      · go_wp2_with (go_at_call 17; refine (told1 _).mono ?_; rintro e w2 ⟨rfl, hb2⟩)
        go_ret
        exact ⟨rfl, HB.out.trans (hb2.mono HB.out.size)⟩
      have hst : st.size ≤ 200 := by omega
      obtain ⟨L0, hL0⟩ : ∃ L0, enc nn = L0 := ⟨_, rfl⟩
      obtain ⟨L1, hL1⟩ : ∃ L1, encT st.data.toList = L1 := ⟨_, rfl⟩
      have l0 : L0.length ≤ 10 := by rw [← hL0]; exact enc_le nn
      have l1 : L1.length ≤ 210 := by rw [← hL1]; exact encT_le _ (by simp; omega)
      have HL0 := Lib.hid hL0
      have HL1 := Lib.hid hL1
      clear hL0 hL1
      by_cases hk0 : kd = 0
      · have e0 : (kd == 0) = true := beq_iff_eq.2 hk0
        clear hk0
        go_wp2_with fail
        refine (wint_is HWB.out (l' := bs ++ L0) (by have := HBL.out; omega) HFIT.out.2.1.1 HFIT.out.2.1.2 (by rw [HL0.out])).mono ?_
        rintro e w1 ⟨rfl, q1, b1, _⟩
        have Q1 := Lib.hid q1
        have B1 := Lib.hid (HB.out.trans b1)
        have hat1 := HAT.out.below B1.out hadb
        clear c0 c1 c2 c3 c4 c5 q1 b1
        obtain ⟨c0, c1, c2, c3, c4, c5⟩ := hat1
        simp only at c0 c1 c2 c3 c4 c5
        go_wp2_with fail
        refine (refint_is nn L0 HL0.out _ HFIT.out.2.1.1 HFIT.out.2.1.2).mono ?_
        rintro e w2 ⟨rfl, b2⟩
        have HNEW : Hid (WS W w2 (k + 1) (S ++ ⟨L0.toArray⟩)) := Lib.hid ⟨bs ++ L0, app_data S L0 bs HSS.out, by have := HBL.out; rw [List.length_append]; omega, Q1.out.below b2 (Nat.le_refl _), B1.out.trans (b2.mono B1.out.size)⟩
        clear c0 c1 c2 c3 c4 c5 b2
        go_wp2
        go_roundw
        case rel => exact ⟨k + 1, _, by omega, by go_num, rfl, HNEW⟩
        case measure => simp [intOf]; omega
      by_cases hk1 : kd = 1
      · have e0 : (kd == 0) = false := beq_eq_false_iff_ne.2 hk0
        have e1 : (kd == 1) = true := beq_iff_eq.2 hk1
        clear hk0 hk1
        go_wp2_with fail
        refine (wtext_is HWB.out (l' := bs ++ L1) (by have := HBL.out; omega) (by omega) (by rw [HL1.out])).mono ?_
        rintro e w1 ⟨rfl, q1, b1, _⟩
        have Q1 := Lib.hid q1
        have B1 := Lib.hid (HB.out.trans b1)
        have hat1 := HAT.out.below B1.out hadb
        clear c0 c1 c2 c3 c4 c5 q1 b1
        obtain ⟨c0, c1, c2, c3, c4, c5⟩ := hat1
        simp only at c0 c1 c2 c3 c4 c5
        go_wp2_with fail
        refine (reftext_is st L1 HL1.out _ (by omega)).mono ?_
        rintro e w2 ⟨rfl, b2⟩
        have HNEW : Hid (WS W w2 (k + 1) (S ++ ⟨L1.toArray⟩)) := Lib.hid ⟨bs ++ L1, app_data S L1 bs HSS.out, by have := HBL.out; rw [List.length_append]; omega, Q1.out.below b2 (Nat.le_refl _), B1.out.trans (b2.mono B1.out.size)⟩
        clear c0 c1 c2 c3 c4 c5 b2
        go_wp2
        go_roundw
        case rel => exact ⟨k + 1, _, by omega, by go_num, rfl, HNEW⟩
        case measure => simp [intOf]; omega
      · have e0 : (kd == 0) = false := beq_eq_false_iff_ne.2 hk0
        have e1 : (kd == 1) = false := beq_eq_false_iff_ne.2 hk1
        obtain ⟨cb, hcb⟩ : ∃ cb : UInt8, (cb.toNat : Int) = nn % 256 := ⟨UInt8.ofNat (nn % 256).toNat, by rw [UInt8.toNat_ofNat']; omega⟩
        have hcv8 : IntKind.u8.wrap nn = (cb.toNat : Int) := by rw [IntKind.wrap_u8]; exact hcb.symm
        have HCB := Lib.hid hcb
        have HC8 := Lib.hid hcv8
        clear hk0 hk1 hcb hcv8
        go_wp2_with fail
        refine (wbyte_c W.heap.size nn cb bs W.heap.size _ HCB.out HWB.out (by have := HBL.out; omega)).mono ?_
        rintro e w1 ⟨rfl, q1, b1, _⟩
        have Q1 := Lib.hid q1
        have B1 := Lib.hid (HB.out.trans b1)
        have hat1 := HAT.out.below B1.out hadb
        clear c0 c1 c2 c3 c4 c5 q1 b1
        obtain ⟨c0, c1, c2, c3, c4, c5⟩ := hat1
        simp only at c0 c1 c2 c3 c4 c5
        have hcv8 := HC8.out
        have hcv : (convert 24 9 (.slice (some ⟨w1.heap.size, 0, none⟩) 1 1)).run Try.prog (w1.alloc (.cells #[.int .u8 (cb.toNat : Int)] 5)) = .ok (.string ⟨#[cb]⟩) (w1.alloc (.cells #[.int .u8 (cb.toNat : Int)] 5)) := run_conv_str (rd_litB w1 [cb] #[.int .u8 (cb.toNat : Int)] 1 rfl rfl _ _)
        have HNEW : Hid (WS W (w1.alloc (.cells #[.int .u8 (cb.toNat : Int)] 5)) (k + 1) (S ++ ⟨#[cb]⟩)) := Lib.hid ⟨bs ++ [cb], app_data S [cb] bs HSS.out, by have := HBL.out; rw [List.length_append]; simp; omega, Q1.out.below ((Below.refl _ _).alloc (Nat.le_refl _) _) (Nat.le_refl _), B1.out.alloc B1.out.size _⟩
        go_wp2
        go_roundw
        case rel => exact ⟨k + 1, _, by omega, by go_num, rfl, HNEW⟩
        case measure => simp [intOf]; omega
    · obtain ⟨bs, hS, hbl, hwb, hb⟩ := HS.out
      have HWB := Lib.hid hwb
      have HB := Lib.hid hb
      have HSS := Lib.hid hS
      have HBL := Lib.hid hbl
      have hkn : k = n := by omega
      have hbs : bs.length ≤ 10000 := by omega
      have HKN := Lib.hid hkn
      clear hwb hb hS hbl HS hkn
      go_wp2_with fail
      refine (wbytes_c _ _ _ _ HWB.out (by omega)).mono ?_
      rintro e w1 ⟨v1, rfl, q1, b1⟩
      have B1 := Lib.hid (HB.out.trans (b1.mono HB.out.size))
      have hz1 := b1.size
      have hzW := HB.out.size
      by_cases h0 : bs.length = 0
      · obtain ⟨A1, c1, rfl, _, _, _⟩ := q1.form
        have Q1 := Lib.hid (HWB.out.below b1 (Nat.le_refl _))
        rw [h0]
        have H0 := Lib.hid h0
        clear q1 b1 h0
        go_wp2_with fail
        refine (told1 _).mono ?_
        rintro e w2 ⟨rfl, b2⟩
        have Q2 := Lib.hid (Q1.out.below b2 (Nat.le_refl _))
        have B2 := Lib.hid (B1.out.trans (b2.mono B1.out.size))
        clear b2
        go_wp2_with fail
        refine (wbytes_c _ _ _ _ Q2.out (by omega)).mono ?_
        rintro e w3 ⟨v3, rfl, q3, b3⟩
        obtain ⟨A3, c3, rfl, _, _, r3⟩ := q3.form
        have hcv : (convert 24 9 (.slice A3 bs.length c3)).run Try.prog w3 = .ok (.string ⟨bs.toArray⟩) w3 := run_conv_str r3
        have heq : (bs == S.toList) = true := by rw [ba_toList, HSS.out]; exact beq_self_eq_true _
        have B3 := Lib.hid (B2.out.trans (b3.mono B2.out.size))
        clear q3 b3 r3
        go_wp2
        go_ret
        exact ⟨rfl, B3.out⟩
      · obtain ⟨g, c1, rfl, hg1, hg2, hc1, hc2, hcell, hfr, hset⟩ := q1.blk (by omega)
        have hb0 := hcell 0 (by omega)
        have hf0 := hfr 0
        have hpos : 0 < bs.length := by omega
        obtain ⟨x, hx⟩ : ∃ x, (bs[0]'hpos).toNat = x := ⟨_, rfl⟩
        rw [hx] at hb0
        have Q1 := Lib.hid (fun u => HWB.out.below (b1.setCell (p := ⟨g, 0, none⟩) hg1 u) (Nat.le_refl _))
        have B1s := Lib.hid (fun u => B1.out.setCell (p := ⟨g, 0, none⟩) (by show W.heap.size ≤ g; omega) u)
        have hzs : ∀ u, w1.heap.size = (w1.setCell ⟨g, 0, none⟩ u).heap.size := fun u => by simp [World.setCell]
        have HZS := Lib.hid hzs
        obtain ⟨m, hm⟩ : ∃ m, bs.length = m := ⟨_, rfl⟩
        have HM := Lib.hid hm
        rw [hm] at hc1 hpos hbs ⊢
        clear q1 b1 h0 hcell hfr hset hx hzs hm
        go_wp2_with fail
        refine (told1 _).mono ?_
        rintro e w2 ⟨rfl, b2⟩
        have Q2 := Lib.hid ((Q1.out _).below b2 (Nat.le_refl _))
        have B2 := Lib.hid ((B1s.out _).trans (b2.mono (B1s.out _).size))
        clear b2 hb0 hf0
        go_wp2_with fail
        refine (wbytes_c _ _ _ _ Q2.out (by rw [HM.out]; omega)).mono ?_
        rintro e w3 ⟨v3, rfl, q3, b3⟩
        obtain ⟨A3, c3, rfl, _, _, r3⟩ := q3.form
        have hcv : (convert 24 9 (.slice A3 bs.length c3)).run Try.prog w3 = .ok (.string ⟨bs.toArray⟩) w3 := run_conv_str r3
        have heq : (bs == S.toList) = true := by rw [ba_toList, HSS.out]; exact beq_self_eq_true _
        have B3 := Lib.hid (B2.out.trans (b3.mono B2.out.size))
        clear q3 b3 r3
        go_wp2
        go_ret
        exact ⟨rfl, B3.out⟩
end Go.Proofs.Ytebinhelnhnbeaa
