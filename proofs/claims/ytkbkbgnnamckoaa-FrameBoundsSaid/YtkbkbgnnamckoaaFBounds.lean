/- The law FrameBounds, walked. -/
import Derived.Test.YtkbkbgnnamckoaaTold4
import Derived.Test.YtkbkbgnnamckoaaFPure
import Derived.Test.YtkbkbgnnamckoaaBelowR
namespace Go.Proofs.Ytkbkbgnnamckoaa
open Go.RowKit
set_option linter.unusedSimpArgs false
set_option linter.unusedVariables false
theorem u_rem (a m : Int) (h0 : 0 < m) : ∃ n : Int, (IntKind.u64.wrap a).tmod m = n ∧ 0 ≤ n ∧ n < m := by
  refine ⟨_, rfl, ?_, ?_⟩
  · rw [IntKind.wrap_u64]; exact Int.tmod_nonneg _ (Int.emod_nonneg _ (by omega))
  · rw [IntKind.wrap_u64, Int.tmod_eq_emod_of_nonneg (Int.emod_nonneg _ (by omega))]; exact Int.emod_lt_of_pos _ h0
def AtK (w : World) (v : Value) (w' : World) : Prop := ∃ k : Int, v = .int .i64 k ∧ 0 ≤ k ∧ k ≤ 3000 ∧ Below w.heap.size w w'
set_option maxRecDepth 100000 in
set_option maxHeartbeats 4000000 in
theorem bounds_walk (a0 : Int) (w : World) : Calls Try.prog 8 #[.int .i64 a0] w fun e w' => e = .returned (.bool true) ∧ Below w.heap.size w w' := by
  obtain ⟨n, hn, n0, n1⟩ := u_rem a0 10 (by omega)
  go_enter Try.func8, Try.ntmps8
  go_upto_region 1 with fail
  go_cut [3] (fun s3 wx => AtK w s3 wx)
  case first =>
    have : n = 0 ∨ n = 1 ∨ n = 2 ∨ n = 3 ∨ n = 4 ∨ n = 5 ∨ n = 6 ∨ n = 7 ∨ n = 8 ∨ n = 9 := by omega
    rcases this with rfl | rfl | rfl | rfl | rfl | rfl | rfl | rfl | rfl | rfl
    all_goals
      go_wp2_with fail
      go_meet
      exact ⟨_, rfl, by omega, by omega, (Below.refl _ _).alloc (Nat.le_refl _) _⟩
  case rest =>
    obtain ⟨k, rfl, hk0, hk, hb⟩ := hcut
    obtain ⟨k, rfl⟩ := Int.eq_ofNat_of_zero_le hk0
    replace hk : k ≤ 3000 := by omega
    clear hk0
    have HB := Lib.hid hb
    clear hb hn n0 n1
    obtain ⟨i0, hi, hz0, hz1, hz2⟩ := info_parts info_u8
    obtain ⟨w1, hmk, hown, hg⟩ := run_make_full (P := Try.prog) wc wc.heap.size 28 5 i0 _ 1 Try.underlying28 hi hz0 hz1 .i64 .i64 k (by rw [hz2]; omega) (by unfold maxLen; omega) (Nat.le_refl _)
    have HOWN := Lib.hid hown
    have HG := Lib.hid hg
    clear hi hz0 hz1 hz2 hown hg
    go_wp2_with fail
    clear hmk
    obtain ⟨G, hG⟩ : ∃ G, wc.heap.size = G := ⟨_, rfl⟩
    rw [hG] at HOWN ⊢
    have HGG := Lib.hid hG
    clear hG
    go_loopw [5] (fun i wr => ∃ (j : Nat) (l : List UInt8), j ≤ k ∧ i = .int .i64 j ∧ Hid (l.length = k ∧ wr.ownsRow G 5 1 (.slice (some ⟨G, 0, none⟩) k k) k (B8 l) ∧ Below G wc wr)) (fun i _ => k - (intOf i).toNat)
    case atStart =>
      refine ⟨0, List.replicate k 0, by omega, rfl, by simp, ?_, ?_⟩
      · have e : B8 (List.replicate k 0) = (madeCells (Value.int IntKind.u8 0).cells (k * 1)).toList := by
          rw [Nat.mul_one]
          have := toList_madeCells_one (.int .u8 0) k
          rw [show (Value.int IntKind.u8 0).cells = #[.int .u8 0] from rfl, this]
          simp [B8]
        rw [e]; exact HOWN.out
      · have := HGG.out; exact (Below.refl _ _).grown HG.out (by omega) (fun _ h => by cases h)
    case round =>
      obtain ⟨j, l, hj, rfl, hq⟩ := hrel
      by_cases hlt : j < k
      · obtain ⟨hl, hrow, hbw⟩ := hq.out
        have hc := hrow.cellAt j (by omega)
        have hf := hrow.frozenAt j
        obtain ⟨x, hx⟩ : ∃ x, (B8 l)[j]? = some x := ⟨_, B8_at l j (by omega)⟩
        rw [hx] at hc
        clear hrow hbw hl hx
        go_wp2_with fail
        go_roundw
        case rel =>
          obtain ⟨hl, hrow, hbw⟩ := hq.out
          refine ⟨j + 1, l.set j (UInt8.ofNat (j * 7)), by omega, by go_num, by simpa using hl, ?_, hbw.setCell (p := ⟨G, j, none⟩) (Nat.le_refl _) _⟩
          have h2 := hrow.stored j (.int .u8 ((j : Int) * 7 % 256))
          have e : B8 (l.set j (UInt8.ofNat (j * 7))) = (B8 l).set j (.int .u8 ((j : Int) * 7 % 256)) := by
            simp only [B8, List.map_set, UInt8.toNat_ofNat']
            rfl
          rw [e]
          exact h2.1
        case measure => simp [intOf]; omega
      · obtain ⟨hl, hrow, hbw⟩ := hq.out
        obtain rfl : j = k := by omega
        have hr : Rd wr wr.heap.size 1 (some ⟨G, 0, none⟩) j (B8 l) := Rd.of_own hrow
        have HR := Lib.hid hr
        have HBW := Lib.hid (show Below w.heap.size w wr from HB.out.trans (hbw.mono (by have := HGG.out; have := HB.out.size; omega)))
        have HL := Lib.hid hl
        have HROW := Lib.hid hrow
        clear hl hrow hbw hr hq HOWN HG HB
        have T5 : True := trivial
        by_cases hk0 : j < 1
        · go_wp2_with fail
          refine (put_no _ j j wr (by omega) (by omega)).mono ?_
          rintro e w' ⟨rfl, rfl⟩
          go_wp2_with (go_at_call 14; refine (told4 _).mono ?_; rintro e w2 ⟨rfl, hb2⟩)
          go_ret
          exact ⟨rfl, HBW.out.trans (hb2.mono HBW.out.size)⟩
        by_cases hk1 : 1000 < j
        · go_wp2_with fail
          refine (put_no _ j j wr (by omega) (by omega)).mono ?_
          rintro e w' ⟨rfl, rfl⟩
          go_wp2_with (go_at_call 14; refine (told4 _).mono ?_; rintro e w2 ⟨rfl, hb2⟩)
          go_ret
          exact ⟨rfl, HBW.out.trans (hb2.mono HBW.out.size)⟩
        · go_wp2_with fail
          refine (put_yes _ j j l wr HR.out (by omega) (by omega)).mono ?_
          rintro e w2 ⟨v2, rfl, h2, b2⟩
          obtain ⟨A2, c2, rfl, hc2, _, r2⟩ := h2.form
          have hfl : (frm l).length = j + 6 := by rw [frm_len, HL.out]
          rw [hfl] at r2 hc2 ⊢
          have B2 := Lib.hid (HBW.out.trans (b2.mono HBW.out.size))
          have R2 := Lib.hid r2
          have R2l := Lib.hid (HR.out.below b2)
          have Z2 := Lib.hid b2.size
          clear h2 b2 r2 hfl
          go_wp2_with fail
          refine (one_any A2 (j + 6) c2 0 _ w2 R2.out (by omega) (by omega) (by omega)).mono ?_
          intro e w3 hq
          unfold OneRet at hq
          rw [show recAt (frm l) 0 = some l from by have := recAt_frm [] l [] (by have := HL.out; omega) (by have := HL.out; omega); simpa using this] at hq
          obtain ⟨v3, rfl, h3, b3⟩ := hq
          rw [show (((0 + 6 + l.length : Nat)) : Int) = (j : Int) + 6 from by have := HL.out; omega]
          obtain ⟨A3, c3, rfl, _, _, r3⟩ := h3.form
          rw [HL.out] at r3 ⊢
          have B3 := Lib.hid (B2.out.trans (b3.mono B2.out.size))
          have R3 := Lib.hid r3
          have R3f := Lib.hid (R2.out.below b3)
          have R3l := Lib.hid ((R2l.out.more Z2.out).below b3)
          have Z3 := Lib.hid b3.size
          clear h3 b3 r3
          go_wp2_with fail
          refine (read_any A2 (j + 6) c2 _ w3 (R3f.out.more Z3.out) (by omega) (by omega)).mono ?_
          rintro e w4 ⟨v4, rfl, h4, b4⟩
          rw [recs_one l (by have := HL.out; omega) (by have := HL.out; omega)] at h4 ⊢
          rw [show (((([l], l.length + 6) : List (List UInt8) × Nat).2 : Nat) : Int) = (j : Int) + 6 from by have := HL.out; simp; omega]
          obtain ⟨vs, h4, _⟩ := h4
          obtain ⟨A4, c4, rfl⟩ : ∃ A4 c4, v4 = .slice A4 1 c4 := by
            rcases h4.2 with ⟨_, h0⟩ | ⟨g, cap, cur, rfl, _⟩
            · cases h0
            · exact ⟨_, _, rfl⟩
          have B4 := Lib.hid (B3.out.trans (b4.mono B3.out.size))
          have R4f := Lib.hid ((R3f.out.more Z3.out).below b4)
          have R4l := Lib.hid ((R3l.out.more Z3.out).below b4)
          have R4 := Lib.hid (R3.out.below b4)
          have Z4 := Lib.hid b4.size
          clear h4 b4
          go_wp2_with fail
          obtain ⟨ad, hA2, had, _⟩ := R4f.out.2 (by omega)
          subst hA2
          have q4 : ∀ s : BW w4.heap.size w4, s.val.cell? ⟨ad.block, ad.off + 4, none⟩ = _ := BW.cell (R4f.out.getD ad rfl 4 (by omega)) (by show ad.block < _; have := Z4.out; have := Z3.out; omega)
          have q5 : ∀ s : BW w4.heap.size w4, s.val.cell? ⟨ad.block, ad.off + 5, none⟩ = _ := BW.cell (R4f.out.getD ad rfl 5 (by omega)) (by show ad.block < _; have := Z4.out; have := Z3.out; omega)
          have b4 := u8_lt ((frm l).getD 4 0)
          have b5 := u8_lt ((frm l).getD 5 0)
          have hx : ((frm l).getD 4 0).toNat + 256 * ((frm l).getD 5 0).toNat = j := by
            rw [frm_six]
            exact (le2_val l.length (by have := HL.out; omega)).trans HL.out
          generalize ((frm l).getD 4 0).toNat = x4 at *
          generalize ((frm l).getD 5 0).toNat = x5 at *
          have e1 : (x4 : Int) + 256 * (x5 : Int) = (j : Int) := by omega
          have k1 : ∀ s : BW w4.heap.size w4, _ := fun s => run_conv_str (c := c3) ((R4.out.more Z4.out).below s.h)
          have k2 : ∀ s : BW w4.heap.size w4, _ := fun s => run_conv_str (c := j) ((R4l.out.more Z4.out).below s.h)
          clear hx
          refine wp_region_below (w4.heap.size) (by kernel_rfl) (by kernel_rfl) ?_
          repeat (first | go_big_quiet_step ((go_at_call 14; exact BW.call (Nat.le_refl _) (told4 _))) | quiet_step ((go_at_call 14; exact BW.call (Nat.le_refl _) (told4 _))))
          refine wpQuiet_nil ?_
          intro _ hw'
          obtain ⟨sb, hw''⟩ := hw'
          subst hw''
          go_wp2
          go_ret
          exact ⟨rfl, B4.out.trans (sb.h.mono B4.out.size)⟩
end Go.Proofs.Ytkbkbgnnamckoaa
