/- The law PackBack, walked. -/
import Derived.Test.YtebinhelnhnbeaaPBack0
import Derived.Test.YtebinhelnhnbeaaTold1
import Derived.Test.YtebinhelnhnbeaaOwnB
import Derived.Test.YtebinhelnhnbeaaPForms
set_option linter.unusedSimpArgs false
set_option linter.unusedVariables false
namespace Go.Proofs.Ytebinhelnhnbeaa
open Go.RowKit
/-- How far the putting has come. -/
def BS (W wr : World) (os : List OpV) (k : Nat) : Prop := WB wr W.heap.size W.heap.size (allEnc (os.take k)) ∧ (allEnc (os.take k)).length ≤ k * 210 ∧ Below W.heap.size W wr
theorem BS.next {W wr w1 : World} {os : List OpV} {k : Nat} {o : OpV} {L : List UInt8} (h : BS W wr os k) (hsm : ∀ j o, j < k → os[j]? = some o → o.s.size ≤ 100) (ho : os[k]? = some o) (hs : o.s.size ≤ 100) (hL : opEnc o = L)
    (q1 : WB w1 W.heap.size W.heap.size (allEnc (os.take k) ++ L)) (b1 : Below W.heap.size wr w1) : BS W w1 os (k + 1) ∧ ∀ j o, j < k + 1 → os[j]? = some o → o.s.size ≤ 100 := by
  have hl : L.length ≤ 210 := by
    rw [← hL]
    unfold opEnc
    split
    · have := enc_le o.n; omega
    · split
      · unfold encT
        rw [List.length_append]
        have := enc_le (o.s.data.toList.length : Int)
        have : o.s.data.toList.length = o.s.size := by simp
        omega
      · simp
  have e := allEnc_snoc os k o ho
  rw [hL] at e
  refine ⟨⟨by rw [e]; exact q1, by rw [e, List.length_append]; have := h.2.1; omega, h.2.2.trans b1⟩, fun j o' hj hj' => ?_⟩
  by_cases hjk : j < k
  · exact hsm j o' hjk hj'
  · have : j = k := by omega
    subst this
    rw [ho] at hj'
    injection hj' with hj'
    subst hj'
    exact hs
theorem RP.drew {w : World} {D g : Nat} {s : Rs} (h : RP w D g s) : RP w.drew D g s := h
/-- How far the reading has come. -/
def BR (W1 wr : World) (os : List OpV) (q : List UInt8) (g Dr k : Nat) : Prop := ∃ s, RP wr Dr g s ∧ St q (allEnc (os.drop k)) s ∧ W1.heap.size ≤ g ∧ Dr ≤ wr.heap.size ∧ Below W1.heap.size W1 wr
theorem BR.next {W1 wr w2 : World} {os : List OpV} {q : List UInt8} {g Dr k : Nat} {s' : Rs} (hg : W1.heap.size ≤ g) (hD : Dr ≤ wr.heap.size) (hb : Below W1.heap.size W1 wr) (q2 : RP w2 Dr g s') (g2 : wr.grownBy w2 (some g)) (hs : St q (allEnc (os.drop (k + 1))) s') : BR W1 w2 os q g Dr (k + 1) :=
  ⟨s', q2, hs, hg, Nat.le_trans hD g2.size, hb.trans (only_lt g2 hb.size hg)⟩
set_option maxRecDepth 100000 in
set_option maxHeartbeats 16000000 in
theorem back_walk (A : Option Addr) (n c : Nat) (os : List OpV) (at_ : Int) (W : World) (hr : RdOps W W.heap.size A n os) (hn : n ≤ maxLen) : Calls Try.prog 5 #[.slice A n c, .int .i64 at_] W fun e w' => e = .returned (.bool true) ∧ Below W.heap.size W w' := by
  replace hn : n ≤ 9223372036854775807 := by unfold maxLen at hn; omega
  have HR := Lib.hid hr; clear hr
  by_cases h0 : n = 0
  · have e0 : ((n : Int) == 0) = true := beq_iff_eq.2 (by omega)
    have H0 := Lib.hid h0
    clear h0
    go_enter Try.func5, Try.ntmps5
    go_wp2_with (go_at_call 17; refine (told1 _).mono ?_; rintro e w2 ⟨rfl, hb2⟩)
    go_ret
    exact ⟨rfl, hb2⟩
  have e0 : ((n : Int) == 0) = false := beq_eq_false_iff_ne.2 (by omega)
  have hn1 : 0 < n := by omega
  clear h0
  by_cases h20 : 20 < n
  · go_enter Try.func5, Try.ntmps5
    go_wp2_with (go_at_call 17; refine (told1 _).mono ?_; rintro e w2 ⟨rfl, hb2⟩)
    go_ret
    exact ⟨rfl, hb2⟩
  have HW := Lib.hid (WB.new W W.heap.size (Nat.le_refl _))
  have HW0 := Lib.hid (show Below W.heap.size W (W.alloc (.cells #[.slice none 0 0] 26)) from (Below.refl _ _).alloc (Nat.le_refl _) _)
  go_enter Try.func5, Try.ntmps5
  go_wp2
  clear e0
  go_loopw [6] (fun i wr => ∃ k : Nat, k ≤ n ∧ i = .int .i64 k ∧ Hid (BS W wr os k ∧ ∀ j o, j < k → os[j]? = some o → o.s.size ≤ 100)) (fun i _ => n - (intOf i).toNat)
  case atStart => exact ⟨0, by omega, rfl, ⟨by simpa [allEnc] using HW.out, by simp [allEnc], HW0.out⟩, fun j o hj => by omega⟩
  case round =>
    clear HW HW0
    obtain ⟨k, hk, rfl, HS⟩ := hrel
    by_cases hlt : k < n
    · obtain ⟨⟨hwb, hbl, hb⟩, hsm⟩ := HS.out
      obtain ⟨ad, o, rfl, hadb, ho, hfit, hat⟩ := HR.out.at_ hlt
      obtain ⟨c0, c1, c2, c3, c4, c5⟩ := hat.below hb hadb
      have HFIT := Lib.hid hfit
      have HWB := Lib.hid hwb
      have HB := Lib.hid hb
      have HBL := Lib.hid hbl
      have HO := Lib.hid ho
      obtain ⟨kd, nn, st, lo, hi, most⟩ := o
      have NX := Lib.hid (fun w1 L hL hs q1 b1 => BS.next (w1 := w1) (L := L) HS.out.1 hsm ho hs hL q1 b1)
      clear hat hfit hwb hb ho hbl hsm HS
      simp only at c0 c1 c2 c3 c4 c5
      by_cases h100 : 100 < st.size
      · go_wp2_with (go_at_call 17; refine (told1 _).mono ?_; rintro e w2 ⟨rfl, hb2⟩)
        go_ret
        exact ⟨rfl, HB.out.trans (hb2.mono HB.out.size)⟩
      have hst : st.size ≤ 100 := by omega
      by_cases hk0 : kd = 0
      · have e0 : (kd == 0) = true := beq_iff_eq.2 hk0
        have HE := Lib.hid (show opEnc ⟨kd, nn, st, lo, hi, most⟩ = enc nn by unfold opEnc; rw [if_pos hk0])
        clear hk0
        go_wp2_with (go_at_call 18; (refine (wint_c W.heap.size nn _ W.heap.size _ HWB.out (by have := HBL.out; omega) HFIT.out.2.1.1 HFIT.out.2.1.2).mono ?_); rintro e w1 ⟨rfl, q1, b1, _⟩; have NX1 := Lib.hid (NX.out w1 _ HE.out hst q1 b1); clear q1 b1)
        go_roundw
        case rel => exact ⟨k + 1, by omega, by go_num, NX1⟩
        case measure => simp [intOf]; omega
      by_cases hk1 : kd = 1
      · have e0 : (kd == 0) = false := beq_eq_false_iff_ne.2 hk0
        have e1 : (kd == 1) = true := beq_iff_eq.2 hk1
        have HE := Lib.hid (show opEnc ⟨kd, nn, st, lo, hi, most⟩ = encT st.data.toList by unfold opEnc; rw [if_neg hk0, if_pos hk1])
        clear hk0 hk1
        go_wp2_with (go_at_call 20; (refine (wtext_c W.heap.size st _ W.heap.size _ HWB.out (by have := HBL.out; omega) (by omega)).mono ?_); rintro e w1 ⟨rfl, q1, b1, _⟩; have NX1 := Lib.hid (NX.out w1 _ HE.out hst q1 b1); clear q1 b1)
        go_roundw
        case rel => exact ⟨k + 1, by omega, by go_num, NX1⟩
        case measure => simp [intOf]; omega
      · have e0 : (kd == 0) = false := beq_eq_false_iff_ne.2 hk0
        have e1 : (kd == 1) = false := beq_eq_false_iff_ne.2 hk1
        have HE := Lib.hid (show opEnc ⟨kd, nn, st, lo, hi, most⟩ = [UInt8.ofNat (nn % 256).toNat] by unfold opEnc; rw [if_neg hk0, if_neg hk1])
        clear hk0 hk1
        go_wp2_with (go_at_call 22; (refine (wbyte_c W.heap.size nn (UInt8.ofNat (nn % 256).toNat) _ W.heap.size _ (by rw [UInt8.toNat_ofNat']; omega) HWB.out (by have := HBL.out; omega)).mono ?_); rintro e w1 ⟨rfl, q1, b1, _⟩; have NX1 := Lib.hid (NX.out w1 _ HE.out hst q1 b1); clear q1 b1)
        go_roundw
        case rel => exact ⟨k + 1, by omega, by go_num, NX1⟩
        case measure => simp [intOf]; omega
    · obtain ⟨⟨hwb, hbl, hb⟩, hsm⟩ := HS.out
      have hkn : k = n := by omega
      have hall : os.take k = os := by rw [hkn, ← HR.out.1]; exact List.take_length
      rw [hall] at hwb hbl
      have HSM := Lib.hid (fun j o (h : os[j]? = some o) => hsm j o (by have := (List.getElem?_eq_some_iff.1 h).1; have := HR.out.1; omega) h)
      obtain ⟨L, hL⟩ : ∃ L, allEnc os = L := ⟨_, rfl⟩
      rw [hL] at hwb hbl
      have hpos : 0 < L.length := by rw [← hL]; exact allEnc_pos os (by rw [HR.out.1]; exact hn1)
      obtain ⟨m, hm⟩ : ∃ m, L.length = m := ⟨_, rfl⟩
      rw [hm] at hpos hbl
      have hm2 : m ≤ 5000 := by omega
      have HWB := Lib.hid hwb
      have HB := Lib.hid hb
      have HM := Lib.hid hm
      have HL := Lib.hid hL
      have em : ((m : Int) == 0) = false := beq_eq_false_iff_ne.2 (by omega)
      obtain ⟨cut, hcut, hcutm⟩ := u_rem at_ (m : Int) (by omega)
      replace hcutm : cut < m := by omega
      clear hwb hb hsm hbl HS hkn hall hm hL
      go_wp2_with fail
      refine (wbytes_c _ _ _ _ HWB.out (by rw [HM.out]; omega)).mono ?_
      rintro e w1 ⟨v1, rfl, q1, b1⟩
      obtain ⟨gb, cb, rfl, _, hgb, hcb, hcb2, _, _, _⟩ := q1.blk (by rw [HM.out]; exact hpos)
      have B1 := Lib.hid (HB.out.trans (b1.mono HB.out.size))
      have hzW := HB.out.size
      have hz1 := b1.size
      have HRB := Lib.hid (q1.rdN HM.out)
      rw [HM.out] at hcb ⊢
      clear q1 b1
      have hcutc : cut ≤ cb := by omega
      go_wp2
      clear hcut em
      go_loopw [9] (fun kk wr => ∃ κ : Nat, κ ≤ 2 ∧ kk = .int .i64 κ ∧ Hid (Below w1.heap.size w1 wr)) (fun kk _ => 2 - (intOf kk).toNat)
      case atStart => exact ⟨0, by omega, rfl, Below.refl _ _⟩
      case round =>
        obtain ⟨κ, hκ, rfl, HBK⟩ := hrel
        obtain ⟨wo, hwo⟩ : ∃ wo : World, wo = wr := ⟨_, rfl⟩
        subst hwo
        have hzo := HBK.out.size
        have h012 : κ = 0 ∨ κ = 1 ∨ κ = 2 := by omega
        rcases h012 with rfl | rfl | rfl
        · go_wp2_with fail
          refine (new_c (some ⟨gb, 0, none⟩) m cb L _ ((HRB.out.below HBK.out).more hzo) (by omega)).mono ?_
          rintro e w3 ⟨g, rfl, hg, q3, b3⟩
          have HST := Lib.hid (show BR w1 w3 os [] g w3.heap.size 0 from ⟨some L, q3, .inr ⟨L, rfl, by rw [List.append_nil, ← HL.out]; rfl⟩, by omega, Nat.le_refl _, HBK.out.trans (b3.mono hzo)⟩)
          have hz3 := b3.size
          clear q3 b3
          go_wp2
          go_loopw [11] (fun i w2 => ∃ j : Nat, j ≤ n ∧ i = .int .i64 j ∧ Hid (BR w1 w2 os [] g w3.heap.size j)) (fun i _ => n - (intOf i).toNat)
          case atStart => exact ⟨0, by omega, rfl, HST⟩
          case round =>
            clear HST
            obtain ⟨j, hj, rfl, HJ⟩ := hrel
            obtain ⟨s, hrp, hst, hgg, hDr, hbb⟩ := HJ.out
            have HRP := Lib.hid hrp
            have HBB := Lib.hid hbb
            have HSTT := Lib.hid hst
            have HDR := Lib.hid (show w3.heap.size ≤ wr.drew.heap.size from hDr)
            clear hrp hbb hst HJ
            by_cases hjl : j < n
            · obtain ⟨ad, o, rfl, hadb, ho, hfit, hat⟩ := HR.out.at_ hjl
              obtain ⟨c0, c1, c2, c3, c4, c5⟩ := hat.below (B1.out.trans (HBB.out.mono B1.out.size)) hadb
              have hso := HSM.out j o ho
              have hst := HSTT.out
              rw [allEnc_drop os j o ho] at hst
              have HFIT := Lib.hid hfit
              clear hat hfit ho
              obtain ⟨kd, nn, st, lo, hi, most⟩ := o
              simp only at c0 c1 c2 c3 c4 c5 hso
              by_cases hk0 : kd = 0
              · have e0 : (kd == 0) = true := beq_iff_eq.2 hk0
                rw [show opEnc ⟨kd, nn, st, lo, hi, most⟩ = enc nn by unfold opEnc; rw [if_pos hk0]] at hst
                obtain ⟨hnext, hval, _⟩ := rInt_pre (-9223372036854775808) 9223372036854775807 nn _ _ s HFIT.out.2.1 HFIT.out.2.1.1 HFIT.out.2.1.2 hst
                obtain ⟨v, s', hx⟩ : ∃ v s', rInt (-9223372036854775808) 9223372036854775807 s = (v, s') := ⟨_, _, rfl⟩
                rw [hx] at hnext hval
                have HNEXT := Lib.hid hnext
                have HX := Lib.hid hx
                have hok : (v == nn) = true := beq_iff_eq.2 (hval rfl)
                clear hk0 hst hnext hval hx
                go_wp2
                go_region_held3 (fun w' => w'.cell? ⟨(ad.add (j * 6)).block, (ad.add (j * 6)).off + 1, none⟩ = some (Value.int .i64 nn)) (first | assumption | go_keep) ((go_at_call 25; (with_reducible refine (rint_is HRP.out.drew HDR.out HX.out).mono ?_); rintro e w4 ⟨rfl, q4, g4'⟩; (have g4 : wr.grownBy w4 (some g) := ⟨g4'.os, g4'.tape, g4'.output, g4'.size, g4'.block⟩); (have NX1 := Lib.hid (BR.next hgg hDr HBB.out q4 g4 HNEXT.out)); (have cc' : w4.cell? ⟨(ad.add (j * 6)).block, (ad.add (j * 6)).off + 1, none⟩ = some (Value.int .i64 nn) := ((only_lt g4 (Nat.le_trans B1.out.size HBB.out.size) (Nat.le_trans B1.out.size hgg)).cell (p := ⟨(ad.add (j * 6)).block, (ad.add (j * 6)).off + 1, none⟩) hadb).trans c1); clear q4 g4 g4'))
                go_wp2
                go_roundw
                case rel => exact ⟨j + 1, by omega, by go_num, NX1⟩
                case measure => simp [intOf]; omega
              by_cases hk1 : kd = 1
              · have e0 : (kd == 0) = false := beq_eq_false_iff_ne.2 hk0
                have e1 : (kd == 1) = true := beq_iff_eq.2 hk1
                rw [show opEnc ⟨kd, nn, st, lo, hi, most⟩ = encT st.data.toList by unfold opEnc; rw [if_neg hk0, if_pos hk1]] at hst
                obtain ⟨hnext, hval⟩ := rText_pre st.data.toList (by simpa using hso) _ _ s hst
                obtain ⟨v, s', hx⟩ : ∃ v s', rText 100 s = (v, s') := ⟨_, _, rfl⟩
                rw [hx] at hnext hval
                have HNEXT := Lib.hid hnext
                have HX := Lib.hid hx
                have hok : (v == st.toList) = true := by rw [ByteArray.toList_eq]; exact beq_iff_eq.2 (hval rfl)
                clear hk0 hk1 hst hnext hval hx
                go_wp2
                go_region_held3 (fun w' => w'.cell? ⟨(ad.add (j * 6)).block, (ad.add (j * 6)).off + 2, none⟩ = some (Value.string st)) (first | assumption | go_keep) ((go_at_call 27; (with_reducible refine (rtext_is HRP.out.drew HDR.out HX.out).mono ?_); rintro e w4 ⟨rfl, q4, g4'⟩; (have g4 : wr.grownBy w4 (some g) := ⟨g4'.os, g4'.tape, g4'.output, g4'.size, g4'.block⟩); (have NX1 := Lib.hid (BR.next hgg hDr HBB.out q4 g4 HNEXT.out)); (have cc' : w4.cell? ⟨(ad.add (j * 6)).block, (ad.add (j * 6)).off + 2, none⟩ = some (Value.string st) := ((only_lt g4 (Nat.le_trans B1.out.size HBB.out.size) (Nat.le_trans B1.out.size hgg)).cell (p := ⟨(ad.add (j * 6)).block, (ad.add (j * 6)).off + 2, none⟩) hadb).trans c2); clear q4 g4 g4'))
                go_wp2
                go_roundw
                case rel => exact ⟨j + 1, by omega, by go_num, NX1⟩
                case measure => simp [intOf]; omega
              · have e0 : (kd == 0) = false := beq_eq_false_iff_ne.2 hk0
                have e1 : (kd == 1) = false := beq_eq_false_iff_ne.2 hk1
                rw [show opEnc ⟨kd, nn, st, lo, hi, most⟩ = [UInt8.ofNat (nn % 256).toNat] by unfold opEnc; rw [if_neg hk0, if_neg hk1]] at hst
                obtain ⟨hnext, hval⟩ := rByte_pre (UInt8.ofNat (nn % 256).toNat) _ _ s hst
                obtain ⟨v, s', hx⟩ : ∃ v s', rByte s = (v, s') := ⟨_, _, rfl⟩
                rw [hx] at hnext hval
                have HNEXT := Lib.hid hnext
                have HX := Lib.hid hx
                have hw8 : IntKind.u8.wrap nn = nn % 256 := by rw [IntKind.wrap_u8]
                have hok : (v == nn % 256) = true := beq_iff_eq.2 (by have := hval rfl; rw [UInt8.toNat_ofNat'] at this; simp only at this; omega)
                clear hk0 hk1 hst hnext hval hx
                go_wp2
                go_region_held3 (fun w' => w'.cell? ⟨(ad.add (j * 6)).block, (ad.add (j * 6)).off + 1, none⟩ = some (Value.int .i64 nn)) (first | assumption | go_keep) ((go_at_call 29; (with_reducible refine (rbyte_is HRP.out.drew HX.out).mono ?_); rintro e w4 ⟨rfl, q4, g4'⟩; (have g4 : wr.grownBy w4 (some g) := ⟨g4'.os, g4'.tape, g4'.output, g4'.size, g4'.block⟩); (have NX1 := Lib.hid (BR.next hgg hDr HBB.out q4 g4 HNEXT.out)); (have cc' : w4.cell? ⟨(ad.add (j * 6)).block, (ad.add (j * 6)).off + 1, none⟩ = some (Value.int .i64 nn) := ((only_lt g4 (Nat.le_trans B1.out.size HBB.out.size) (Nat.le_trans B1.out.size hgg)).cell (p := ⟨(ad.add (j * 6)).block, (ad.add (j * 6)).off + 1, none⟩) hadb).trans c1); clear q4 g4 g4'))
                go_wp2
                go_roundw
                case rel => exact ⟨j + 1, by omega, by go_num, NX1⟩
                case measure => simp [intOf]; omega
            · have hjn : j = n := by omega
              have hfin := HSTT.out
              rw [show os.drop j = [] from List.drop_eq_nil_of_le (by rw [HR.out.1]; omega)] at hfin
              have hs := hfin.end_.1 rfl
              have HE := Lib.hid hs
              clear hfin hs hjn
              go_wp2_with (go_at_call 31; refine (rend_is HRP.out (v := 0) (by rw [HE.out]; rfl)).mono ?_; rintro e w' ⟨rfl, rfl⟩)
              go_roundw
              case rel => exact ⟨1, by omega, rfl, HBB.out⟩
              case measure => simp [intOf]
        · go_wp2_with fail
          refine (new_c (some ⟨gb, 0, none⟩) m cb L _ ((HRB.out.below HBK.out).more hzo) (by omega)).mono ?_
          rintro e w2 ⟨g2, rfl, hg2, q2, b2⟩
          have hz2 := b2.size
          have HBK2 := Lib.hid (HBK.out.trans (b2.mono hzo))
          clear q2 b2
          go_wp2_with fail
          have hrc := ((HRB.out.below HBK2.out).more HBK2.out.size).take (k := cut) (by omega)
          rw [Nat.mul_one, show (B8 L).take cut = B8 (L.take cut) from by simp [B8]] at hrc
          refine (new_c (some ⟨gb, 0, none⟩) cut cb (L.take cut) _ hrc (by omega)).mono ?_
          clear hrc
          rintro e w3 ⟨g, rfl, hg, q3, b3⟩
          have hq : L.drop cut ≠ [] := by
            intro h
            have := congrArg List.length h
            rw [List.length_drop, HM.out, List.length_nil] at this
            omega
          have HQ := Lib.hid hq
          have HST := Lib.hid (show BR w1 w3 os (L.drop cut) g w3.heap.size 0 from ⟨some (L.take cut), q3, .inr ⟨_, rfl, by rw [List.take_append_drop, ← HL.out]; rfl⟩, by have := HBK2.out.size; omega, Nat.le_refl _, HBK2.out.trans (b3.mono HBK2.out.size)⟩)
          have hz3 := b3.size
          clear q3 b3 hq
          go_wp2
          go_loopw [11] (fun i w2 => ∃ j : Nat, j ≤ n ∧ i = .int .i64 j ∧ Hid (BR w1 w2 os (L.drop cut) g w3.heap.size j)) (fun i _ => n - (intOf i).toNat)
          case atStart => exact ⟨0, by omega, rfl, HST⟩
          case round =>
            clear HST
            obtain ⟨j, hj, rfl, HJ⟩ := hrel
            obtain ⟨s, hrp, hst, hgg, hDr, hbb⟩ := HJ.out
            have HRP := Lib.hid hrp
            have HBB := Lib.hid hbb
            have HSTT := Lib.hid hst
            have HDR := Lib.hid (show w3.heap.size ≤ wr.drew.heap.size from hDr)
            clear hrp hbb hst HJ
            by_cases hjl : j < n
            · obtain ⟨ad, o, rfl, hadb, ho, hfit, hat⟩ := HR.out.at_ hjl
              obtain ⟨c0, c1, c2, c3, c4, c5⟩ := hat.below (B1.out.trans (HBB.out.mono B1.out.size)) hadb
              have hso := HSM.out j o ho
              have hst := HSTT.out
              rw [allEnc_drop os j o ho] at hst
              have HFIT := Lib.hid hfit
              clear hat hfit ho
              obtain ⟨kd, nn, st, lo, hi, most⟩ := o
              simp only at c0 c1 c2 c3 c4 c5 hso
              by_cases hk0 : kd = 0
              · have e0 : (kd == 0) = true := beq_iff_eq.2 hk0
                rw [show opEnc ⟨kd, nn, st, lo, hi, most⟩ = enc nn by unfold opEnc; rw [if_pos hk0]] at hst
                obtain ⟨hnext, hval, _⟩ := rInt_pre (-9223372036854775808) 9223372036854775807 nn _ _ s HFIT.out.2.1 HFIT.out.2.1.1 HFIT.out.2.1.2 hst
                obtain ⟨v, s', hx⟩ : ∃ v s', rInt (-9223372036854775808) 9223372036854775807 s = (v, s') := ⟨_, _, rfl⟩
                rw [hx] at hnext hval
                have HNEXT := Lib.hid hnext
                have HX := Lib.hid hx
                skip
                clear hk0 hst hnext hval hx
                go_wp2
                go_region_held3 (fun w' => w'.cell? ⟨(ad.add (j * 6)).block, (ad.add (j * 6)).off + 1, none⟩ = some (Value.int .i64 nn)) (first | assumption | go_keep) ((go_at_call 25; (with_reducible refine (rint_is HRP.out.drew HDR.out HX.out).mono ?_); rintro e w4 ⟨rfl, q4, g4'⟩; (have g4 : wr.grownBy w4 (some g) := ⟨g4'.os, g4'.tape, g4'.output, g4'.size, g4'.block⟩); (have NX1 := Lib.hid (BR.next hgg hDr HBB.out q4 g4 HNEXT.out)); (have cc' : w4.cell? ⟨(ad.add (j * 6)).block, (ad.add (j * 6)).off + 1, none⟩ = some (Value.int .i64 nn) := ((only_lt g4 (Nat.le_trans B1.out.size HBB.out.size) (Nat.le_trans B1.out.size hgg)).cell (p := ⟨(ad.add (j * 6)).block, (ad.add (j * 6)).off + 1, none⟩) hadb).trans c1); clear q4 g4 g4'))
                go_wp2
                go_roundw
                case rel => exact ⟨j + 1, by omega, by go_num, NX1⟩
                case measure => simp [intOf]; omega
              by_cases hk1 : kd = 1
              · have e0 : (kd == 0) = false := beq_eq_false_iff_ne.2 hk0
                have e1 : (kd == 1) = true := beq_iff_eq.2 hk1
                rw [show opEnc ⟨kd, nn, st, lo, hi, most⟩ = encT st.data.toList by unfold opEnc; rw [if_neg hk0, if_pos hk1]] at hst
                obtain ⟨hnext, hval⟩ := rText_pre st.data.toList (by simpa using hso) _ _ s hst
                obtain ⟨v, s', hx⟩ : ∃ v s', rText 100 s = (v, s') := ⟨_, _, rfl⟩
                rw [hx] at hnext hval
                have HNEXT := Lib.hid hnext
                have HX := Lib.hid hx
                skip
                clear hk0 hk1 hst hnext hval hx
                go_wp2
                go_region_held3 (fun w' => w'.cell? ⟨(ad.add (j * 6)).block, (ad.add (j * 6)).off + 2, none⟩ = some (Value.string st)) (first | assumption | go_keep) ((go_at_call 27; (with_reducible refine (rtext_is HRP.out.drew HDR.out HX.out).mono ?_); rintro e w4 ⟨rfl, q4, g4'⟩; (have g4 : wr.grownBy w4 (some g) := ⟨g4'.os, g4'.tape, g4'.output, g4'.size, g4'.block⟩); (have NX1 := Lib.hid (BR.next hgg hDr HBB.out q4 g4 HNEXT.out)); (have cc' : w4.cell? ⟨(ad.add (j * 6)).block, (ad.add (j * 6)).off + 2, none⟩ = some (Value.string st) := ((only_lt g4 (Nat.le_trans B1.out.size HBB.out.size) (Nat.le_trans B1.out.size hgg)).cell (p := ⟨(ad.add (j * 6)).block, (ad.add (j * 6)).off + 2, none⟩) hadb).trans c2); clear q4 g4 g4'))
                go_wp2
                go_roundw
                case rel => exact ⟨j + 1, by omega, by go_num, NX1⟩
                case measure => simp [intOf]; omega
              · have e0 : (kd == 0) = false := beq_eq_false_iff_ne.2 hk0
                have e1 : (kd == 1) = false := beq_eq_false_iff_ne.2 hk1
                rw [show opEnc ⟨kd, nn, st, lo, hi, most⟩ = [UInt8.ofNat (nn % 256).toNat] by unfold opEnc; rw [if_neg hk0, if_neg hk1]] at hst
                obtain ⟨hnext, hval⟩ := rByte_pre (UInt8.ofNat (nn % 256).toNat) _ _ s hst
                obtain ⟨v, s', hx⟩ : ∃ v s', rByte s = (v, s') := ⟨_, _, rfl⟩
                rw [hx] at hnext hval
                have HNEXT := Lib.hid hnext
                have HX := Lib.hid hx
                have hw8 : IntKind.u8.wrap nn = nn % 256 := by rw [IntKind.wrap_u8]
                skip
                clear hk0 hk1 hst hnext hval hx
                go_wp2
                go_region_held3 (fun w' => w'.cell? ⟨(ad.add (j * 6)).block, (ad.add (j * 6)).off + 1, none⟩ = some (Value.int .i64 nn)) (first | assumption | go_keep) ((go_at_call 29; (with_reducible refine (rbyte_is HRP.out.drew HX.out).mono ?_); rintro e w4 ⟨rfl, q4, g4'⟩; (have g4 : wr.grownBy w4 (some g) := ⟨g4'.os, g4'.tape, g4'.output, g4'.size, g4'.block⟩); (have NX1 := Lib.hid (BR.next hgg hDr HBB.out q4 g4 HNEXT.out)); (have cc' : w4.cell? ⟨(ad.add (j * 6)).block, (ad.add (j * 6)).off + 1, none⟩ = some (Value.int .i64 nn) := ((only_lt g4 (Nat.le_trans B1.out.size HBB.out.size) (Nat.le_trans B1.out.size hgg)).cell (p := ⟨(ad.add (j * 6)).block, (ad.add (j * 6)).off + 1, none⟩) hadb).trans c1); clear q4 g4 g4'))
                go_wp2
                go_roundw
                case rel => exact ⟨j + 1, by omega, by go_num, NX1⟩
                case measure => simp [intOf]; omega
            · have hjn : j = n := by omega
              have hfin := HSTT.out
              rw [show os.drop j = [] from List.drop_eq_nil_of_le (by rw [HR.out.1]; omega)] at hfin
              have hs := hfin.end_.2 HQ.out
              have HE := Lib.hid hs
              clear hfin hs hjn
              go_wp2_with (go_at_call 31; refine (rend_is HRP.out (v := 2) (by rw [HE.out]; rfl)).mono ?_; rintro e w' ⟨rfl, rfl⟩)
              go_roundw
              case rel => exact ⟨2, by omega, rfl, HBB.out⟩
              case measure => simp [intOf]
        · go_wp2_with (go_at_call 17; refine (told1 _).mono ?_; rintro e w2 ⟨rfl, hb2⟩)
          go_ret
          exact ⟨rfl, B1.out.trans ((HBK.out.trans (hb2.mono hzo)).mono B1.out.size)⟩
end Go.Proofs.Ytebinhelnhnbeaa
