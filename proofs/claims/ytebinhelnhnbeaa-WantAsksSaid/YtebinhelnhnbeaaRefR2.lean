/- sojournref1.R: numbers of the document's own reader, walked. -/
import Derived.Test.YtebinhelnhnbeaaRefR
set_option linter.unusedSimpArgs false
set_option linter.unusedVariables false
namespace Go.Proofs.Ytebinhelnhnbeaa
open Go.RowKit
theorem rr_or (k acc x : Nat) (hk : k ≤ 9) (hacc : acc < 128 ^ k) (hx : x < 256) (h9 : k = 9 → x ≤ 1) :
    bits .or .u64 (acc : Int) (IntKind.u64.wrap (bits .and .u64 (x : Int) 127 * 2 ^ (7 * k))) = ((acc + 128 ^ k * (x % 128) : Nat) : Int) := by
  have e0 : bits .and .u64 (x : Int) 127 = ((x % 128 : Nat) : Int) := by
    rw [show (127 : Int) = ((127 : Nat) : Int) from rfl, u64_and_nat _ _ (by omega) (by omega), nat_mask7]
  have h := grp_or k acc x hk hacc hx h9
  rw [and127 x hx] at h
  rw [e0, ← h, show IntKind.u64.wrap ((x % 128 : Nat) : Int) = ((x % 128 : Nat) : Int) from by rw [IntKind.wrap_u64]; omega]
theorem rr_odd (U : Nat) (hU : U < 18446744073709551616) (h : U % 2 = 1) : bits .and .u64 (U : Int) 1 = 1 ∧ bits .xor .i64 (-1) (wrap64 ((U : Int) / 2)) = unz U := by
  constructor
  · rw [show (1 : Int) = ((1 : Nat) : Int) from rfl, u64_and_nat _ _ hU (by omega), nat_mask1, h]
  · have e1 : wrap64 ((U : Int) / 2) = ((U / 2 : Nat) : Int) := by unfold wrap64; omega
    have e2 : bits .xor .i64 (-1) ((U / 2 : Nat) : Int) = bits .xor .i64 ((U / 2 : Nat) : Int) (-1) := by
      show IntKind.i64.wrap ((BitVec.ofInt 64 (-1) ^^^ BitVec.ofInt 64 _).toNat : Int) = IntKind.i64.wrap ((BitVec.ofInt 64 _ ^^^ BitVec.ofInt 64 (-1)).toNat : Int)
      rw [BitVec.xor_comm]
    rw [e1, e2, xor_m1 _ (by omega)]
    unfold unz
    rw [if_neg (by omega)]
theorem rr_even (U : Nat) (hU : U < 18446744073709551616) (h : ¬ U % 2 = 1) : bits .and .u64 (U : Int) 1 = 0 ∧ wrap64 ((U : Int) / 2) = unz U := by
  constructor
  · rw [show (1 : Int) = ((1 : Nat) : Int) from rfl, u64_and_nat _ _ hU (by omega), nat_mask1, show U % 2 = 0 from by omega]
    rfl
  · unfold unz wrap64
    rw [if_pos (by omega)]
    omega
theorem dec_none {lo hi : Int} {l : List UInt8} (h : ung 10 l = none) : rInt lo hi (some l) = (0, none) := by
  unfold rInt dec
  simp only [h]
theorem dec_out {lo hi : Int} {l : List UInt8} {u n : Nat} (h : ung 10 l = some (u, n)) (ho : unz u < lo ∨ hi < unz u) : rInt lo hi (some l) = (0, none) := by
  unfold rInt dec
  simp only [h]
  rw [if_neg (by omega)]
theorem dec_in {lo hi : Int} {l : List UInt8} {u n : Nat} (h : ung 10 l = some (u, n)) (h1 : ¬ unz u < lo) (h2 : ¬ hi < unz u) : rInt lo hi (some l) = (unz u, some (l.drop n)) := by
  unfold rInt dec
  simp only [h]
  rw [if_pos (by omega)]
theorem u64_of (k acc x : Nat) (hk : k ≤ 9) (hacc : acc < 128 ^ k) (hx : x < 128) (h9 : k = 9 → x ≤ 1) : acc + 128 ^ k * x < 18446744073709551616 := by
  by_cases h : k = 9
  · subst h
    have h1 := h9 rfl
    have h2 : 128 ^ 9 * x ≤ 128 ^ 9 * 1 := Nat.mul_le_mul_left _ h1
    have h3 : (128 : Nat) ^ 9 = 9223372036854775808 := by decide
    omega
  · have h1 : 128 ^ k ≤ 128 ^ 8 := Nat.pow_le_pow_right (by omega) (by omega)
    have h2 : 128 ^ k * x ≤ 128 ^ 8 * 127 := Nat.mul_le_mul h1 (by omega)
    have h3 : (128 : Nat) ^ 8 = 72057594037927936 := by decide
    omega
theorem ba_toList (b : ByteArray) : b.toList = b.data.toList := by rw [ByteArray.toList_eq]
theorem rr_take (S : ByteArray) (l : List UInt8) (h : S.data.toList = l) (k : Nat) : (S.extract 0 (k + 1)).toList = l.take (k + 1) := by
  rw [ba_toList, Lib.extract_data, h]
  simp
theorem only_lt' {a w : World} {g : Nat} (h : Below a.heap.size a w) : a.grownBy w (some g) := ⟨h.os, h.tape, h.output, h.size, fun i hi _ => h.block i hi⟩
set_option maxRecDepth 100000 in
set_option maxHeartbeats 4000000 in
theorem rrint_some (p : Nat) (lo hi : Int) (l : List UInt8) (w : World) (r : RR w p (some l)) (hs : l.length ≤ 1000000000000) :
    Calls Try.prog 26 #[.pointer (some ⟨p, 0, none⟩), .int .i64 lo, .int .i64 hi] w (RRPost w p (.int .i64 (rInt lo hi (some l)).1) (rInt lo hi (some l)).2) := by
  obtain ⟨S, hS, h1⟩ := r.some_
  have c0 : w.cell? ⟨p, 0, none⟩ = some (.string S) := by rw [cellsAt h1]; rfl
  have c1 : w.cell? ⟨p, 1, none⟩ = some (.bool false) := by rw [cellsAt h1]; rfl
  have f0 := free0 (i := 0) h1
  have hplt := blk_lt h1
  have hz : S.size = l.length := by rw [← hS]; simp
  have hz2 : S.size ≤ 1000000000000 := by omega
  have H1 := Lib.hid h1
  have HS := Lib.hid hS
  have HZ := Lib.hid hz
  have R := Lib.hid r
  clear h1 r hs hS hz
  go_enter Try.func26, Try.ntmps26
  go_wp2
  go_loop [7, 8] (fun u i => ∃ (k acc f : Nat), k ≤ S.size ∧ k ≤ 10 ∧ i = .int .i64 k ∧ u = .int .u64 (acc : Int) ∧ Hid (f + k = 10 ∧ acc < 128 ^ k ∧ ung 10 l = (ung f (l.drop k)).map fun p => (acc + 128 ^ k * p.1, k + p.2))) (fun _ i => 10 - (intOf i).toNat)
  case atStart => exact ⟨0, 0, 10, by omega, by omega, rfl, rfl, by omega, by simp, by simp⟩
  case round =>
    obtain ⟨k, acc, f, hk1, hk2, rfl, rfl, HX⟩ := hrel
    by_cases hlt : k < S.size ∧ k < 10
    · have hlt1 := hlt.1
      have hlt2 := hlt.2
      clear hlt
      have hl : k < l.length := by have := HZ.out; omega
      obtain ⟨x, hx⟩ : ∃ x, (l[k]'hl).toNat = x := ⟨_, rfl⟩
      have hxs : S[k].toNat = x := by
        rw [← hx]
        have h2 : S.data.toList[k]? = some l[k] := by rw [HS.out, List.getElem?_eq_getElem hl]
        have h3 : S.data.toList[k]? = some S[k] := by rw [List.getElem?_eq_getElem (by simpa using hlt1)]; rfl
        rw [h3] at h2
        injection h2 with h2
        rw [h2]
      have hb := u8_lt (l[k]'hl)
      rw [hx] at hb
      have HS1 := Lib.hid (ung_step (l := l) (k := k) hl (by omega) (9 - k) rfl acc (by have := HX.out; rw [show 9 - k + 1 = f from by omega]; exact this.2.2))
      rw [hx] at HS1
      clear hx hl
      by_cases hA : k = 9 ∧ 1 < x
      · have HN := Lib.hid (HS1.out.1 hA)
        have h9 : ((k : Int) == 9) = true := beq_iff_eq.2 (by omega)
        have hx1 : 1 < x := hA.2
        clear hA
        go_wp2_with (go_at_call 51; refine (rwrong_c p _ _ R.out).mono ?_; rintro e w1 ⟨rfl, h1, g1⟩; have H1 := Lib.hid h1; have G1 := Lib.hid g1; clear h1 g1)
        go_ret
        unfold RRPost
        rw [dec_none HN.out]
        exact ⟨rfl, H1.out, G1.out⟩
      have H9 : Hid (k = 9 → x ≤ 1) := Lib.hid (by omega)
      have h9b : (((k : Int) == 9) = true ∧ ¬ 1 < x) ∨ ((k : Int) == 9) = false := by
        by_cases h : k = 9
        · exact .inl ⟨beq_iff_eq.2 (by omega), by omega⟩
        · exact .inr (beq_eq_false_iff_ne.2 (by omega))
      by_cases hx1 : x < 128
      · have HOR := Lib.hid (rr_or k acc x (by omega) HX.out.2.1 hb H9.out)
        rw [Nat.mod_eq_of_lt hx1] at HOR
        have HUL := Lib.hid (u64_of k acc x (by omega) HX.out.2.1 hx1 H9.out)
        obtain ⟨U, hU⟩ : ∃ U, acc + 128 ^ k * x = U := ⟨_, rfl⟩
        rw [hU] at HOR HUL
        obtain ⟨v, hv⟩ : ∃ v, unz U = v := ⟨_, rfl⟩
        have HV := Lib.hid hv
        have HI := fun W => Lib.hid (refint_c v W (by rw [← HV.out]; exact (unz_lo U HUL.out).1) (by rw [← HV.out]; exact (unz_lo U HUL.out).2))
        unfold SV at HI
        have hT := rr_take S l HS.out k
        by_cases hD : x = 0 ∧ 0 < k
        · have HN := Lib.hid (HS1.out.2.1 hA hx1 hD.1 hD.2)
          have hne : (enc v == (S.extract 0 (k + 1)).toList) = false := by
            rw [hT]
            refine beq_eq_false_iff_ne.2 (fun he => ?_)
            have := ung_grp U (l.drop (k + 1)) HUL.out
            have h2 : enc v = grp U := by unfold enc; rw [← HV.out, zig_unz]
            rw [← h2, he, List.take_append_drop, HN.out] at this
            cases this
          have hor := HOR.out
          clear hA hD hU hv hT
          rcases h9b with ⟨h9, h9x⟩ | h9
          all_goals (
            by_cases hpar : U % 2 = 1
            · obtain ⟨e1, e2⟩ := rr_odd U HUL.out hpar
              rw [HV.out] at e2
              clear hpar
              have q0 : ∀ s : BW w.heap.size w, s.val.cell? ⟨p, 0, none⟩ = some (.string S) := BW.cell c0 hplt
              by_cases a1 : v < lo
              · have HVO := Lib.hid (show unz U < lo ∨ hi < unz U from by rw [HV.out]; exact .inl a1)
                have d1 : decide (v < lo) = true := decide_eq_true a1
                go_wp2
                clear e1 e2
                refine wp_region_below (w.heap.size) (by kernel_rfl) (by kernel_rfl) ?_
                repeat (first | go_big_quiet_step ((go_at_call 19; exact BW.call (Nat.le_refl _) (HI _).out)) | quiet_step ((go_at_call 19; exact BW.call (Nat.le_refl _) (HI _).out)))
                refine wpQuiet_nil ?_
                intro _ hw'
                obtain ⟨sb, hw''⟩ := hw'
                subst hw''
                have R1 := Lib.hid (R.out.below sb.h hplt)
                go_wp2_with (go_at_call 51; refine (rwrong_c p _ _ R1.out).mono ?_; rintro e w1 ⟨rfl, h1, g1⟩; have H1 := Lib.hid h1; have G1 := Lib.hid g1; clear h1 g1)
                go_ret
                unfold RRPost
                rw [dec_none HN.out]
                exact ⟨rfl, H1.out, only_trans (only_lt' sb.h) G1.out⟩
              by_cases a2 : hi < v
              · have HVO := Lib.hid (show unz U < lo ∨ hi < unz U from by rw [HV.out]; exact .inr a2)
                have d1 : decide (v < lo) = false := decide_eq_false a1
                have d2 : decide (hi < v) = true := decide_eq_true a2
                go_wp2
                clear e1 e2
                refine wp_region_below (w.heap.size) (by kernel_rfl) (by kernel_rfl) ?_
                repeat (first | go_big_quiet_step ((go_at_call 19; exact BW.call (Nat.le_refl _) (HI _).out)) | quiet_step ((go_at_call 19; exact BW.call (Nat.le_refl _) (HI _).out)))
                refine wpQuiet_nil ?_
                intro _ hw'
                obtain ⟨sb, hw''⟩ := hw'
                subst hw''
                have R1 := Lib.hid (R.out.below sb.h hplt)
                go_wp2_with (go_at_call 51; refine (rwrong_c p _ _ R1.out).mono ?_; rintro e w1 ⟨rfl, h1, g1⟩; have H1 := Lib.hid h1; have G1 := Lib.hid g1; clear h1 g1)
                go_ret
                unfold RRPost
                rw [dec_none HN.out]
                exact ⟨rfl, H1.out, only_trans (only_lt' sb.h) G1.out⟩
              have d1 : decide (v < lo) = false := decide_eq_false a1
              have d2 : decide (hi < v) = false := decide_eq_false a2
              go_wp2
              clear e1 e2
              refine wp_region_below (w.heap.size) (by kernel_rfl) (by kernel_rfl) ?_
              repeat (first | go_big_quiet_step ((go_at_call 19; exact BW.call (Nat.le_refl _) (HI _).out)) | quiet_step ((go_at_call 19; exact BW.call (Nat.le_refl _) (HI _).out)))
              refine wpQuiet_nil ?_
              intro _ hw'
              obtain ⟨sb, hw''⟩ := hw'
              subst hw''
              have R1 := Lib.hid (R.out.below sb.h hplt)
              go_wp2_with (go_at_call 51; refine (rwrong_c p _ _ R1.out).mono ?_; rintro e w1 ⟨rfl, h1, g1⟩; have H1 := Lib.hid h1; have G1 := Lib.hid g1; clear h1 g1)
              go_ret
              unfold RRPost
              rw [dec_none HN.out]
              exact ⟨rfl, H1.out, only_trans (only_lt' sb.h) G1.out⟩
            · obtain ⟨e1, e2⟩ := rr_even U HUL.out hpar
              rw [HV.out] at e2
              clear hpar
              have q0 : ∀ s : BW w.heap.size w, s.val.cell? ⟨p, 0, none⟩ = some (.string S) := BW.cell c0 hplt
              by_cases a1 : v < lo
              · have HVO := Lib.hid (show unz U < lo ∨ hi < unz U from by rw [HV.out]; exact .inl a1)
                have d1 : decide (v < lo) = true := decide_eq_true a1
                go_wp2
                clear e1 e2
                refine wp_region_below (w.heap.size) (by kernel_rfl) (by kernel_rfl) ?_
                repeat (first | go_big_quiet_step ((go_at_call 19; exact BW.call (Nat.le_refl _) (HI _).out)) | quiet_step ((go_at_call 19; exact BW.call (Nat.le_refl _) (HI _).out)))
                refine wpQuiet_nil ?_
                intro _ hw'
                obtain ⟨sb, hw''⟩ := hw'
                subst hw''
                have R1 := Lib.hid (R.out.below sb.h hplt)
                go_wp2_with (go_at_call 51; refine (rwrong_c p _ _ R1.out).mono ?_; rintro e w1 ⟨rfl, h1, g1⟩; have H1 := Lib.hid h1; have G1 := Lib.hid g1; clear h1 g1)
                go_ret
                unfold RRPost
                rw [dec_none HN.out]
                exact ⟨rfl, H1.out, only_trans (only_lt' sb.h) G1.out⟩
              by_cases a2 : hi < v
              · have HVO := Lib.hid (show unz U < lo ∨ hi < unz U from by rw [HV.out]; exact .inr a2)
                have d1 : decide (v < lo) = false := decide_eq_false a1
                have d2 : decide (hi < v) = true := decide_eq_true a2
                go_wp2
                clear e1 e2
                refine wp_region_below (w.heap.size) (by kernel_rfl) (by kernel_rfl) ?_
                repeat (first | go_big_quiet_step ((go_at_call 19; exact BW.call (Nat.le_refl _) (HI _).out)) | quiet_step ((go_at_call 19; exact BW.call (Nat.le_refl _) (HI _).out)))
                refine wpQuiet_nil ?_
                intro _ hw'
                obtain ⟨sb, hw''⟩ := hw'
                subst hw''
                have R1 := Lib.hid (R.out.below sb.h hplt)
                go_wp2_with (go_at_call 51; refine (rwrong_c p _ _ R1.out).mono ?_; rintro e w1 ⟨rfl, h1, g1⟩; have H1 := Lib.hid h1; have G1 := Lib.hid g1; clear h1 g1)
                go_ret
                unfold RRPost
                rw [dec_none HN.out]
                exact ⟨rfl, H1.out, only_trans (only_lt' sb.h) G1.out⟩
              have d1 : decide (v < lo) = false := decide_eq_false a1
              have d2 : decide (hi < v) = false := decide_eq_false a2
              go_wp2
              clear e1 e2
              refine wp_region_below (w.heap.size) (by kernel_rfl) (by kernel_rfl) ?_
              repeat (first | go_big_quiet_step ((go_at_call 19; exact BW.call (Nat.le_refl _) (HI _).out)) | quiet_step ((go_at_call 19; exact BW.call (Nat.le_refl _) (HI _).out)))
              refine wpQuiet_nil ?_
              intro _ hw'
              obtain ⟨sb, hw''⟩ := hw'
              subst hw''
              have R1 := Lib.hid (R.out.below sb.h hplt)
              go_wp2_with (go_at_call 51; refine (rwrong_c p _ _ R1.out).mono ?_; rintro e w1 ⟨rfl, h1, g1⟩; have H1 := Lib.hid h1; have G1 := Lib.hid g1; clear h1 g1)
              go_ret
              unfold RRPost
              rw [dec_none HN.out]
              exact ⟨rfl, H1.out, only_trans (only_lt' sb.h) G1.out⟩)
        · have HN := Lib.hid (HS1.out.2.2.1 hA hx1 (by omega))
          rw [hU] at HN
          have hne : (enc v == (S.extract 0 (k + 1)).toList) = true := by
            rw [hT]
            have h2 : enc v = grp U := by unfold enc; rw [← HV.out, zig_unz]
            rw [h2, (ung10 HN.out).2.2.1]
            exact beq_self_eq_true _
          have hor := HOR.out
          clear hA hD hU hv hT
          rcases h9b with ⟨h9, h9x⟩ | h9
          all_goals (
            by_cases hpar : U % 2 = 1
            · obtain ⟨e1, e2⟩ := rr_odd U HUL.out hpar
              rw [HV.out] at e2
              clear hpar
              have q0 : ∀ s : BW w.heap.size w, s.val.cell? ⟨p, 0, none⟩ = some (.string S) := BW.cell c0 hplt
              by_cases a1 : v < lo
              · have HVO := Lib.hid (show unz U < lo ∨ hi < unz U from by rw [HV.out]; exact .inl a1)
                have d1 : decide (v < lo) = true := decide_eq_true a1
                go_wp2
                clear e1 e2
                refine wp_region_below (w.heap.size) (by kernel_rfl) (by kernel_rfl) ?_
                repeat (first | go_big_quiet_step ((go_at_call 19; exact BW.call (Nat.le_refl _) (HI _).out)) | quiet_step ((go_at_call 19; exact BW.call (Nat.le_refl _) (HI _).out)))
                refine wpQuiet_nil ?_
                intro _ hw'
                obtain ⟨sb, hw''⟩ := hw'
                subst hw''
                have R1 := Lib.hid (R.out.below sb.h hplt)
                go_wp2_with (go_at_call 51; refine (rwrong_c p _ _ R1.out).mono ?_; rintro e w1 ⟨rfl, h1, g1⟩; have H1 := Lib.hid h1; have G1 := Lib.hid g1; clear h1 g1)
                go_ret
                unfold RRPost
                rw [dec_out HN.out (HVO.out)]
                exact ⟨rfl, H1.out, only_trans (only_lt' sb.h) G1.out⟩
              by_cases a2 : hi < v
              · have HVO := Lib.hid (show unz U < lo ∨ hi < unz U from by rw [HV.out]; exact .inr a2)
                have d1 : decide (v < lo) = false := decide_eq_false a1
                have d2 : decide (hi < v) = true := decide_eq_true a2
                go_wp2
                clear e1 e2
                refine wp_region_below (w.heap.size) (by kernel_rfl) (by kernel_rfl) ?_
                repeat (first | go_big_quiet_step ((go_at_call 19; exact BW.call (Nat.le_refl _) (HI _).out)) | quiet_step ((go_at_call 19; exact BW.call (Nat.le_refl _) (HI _).out)))
                refine wpQuiet_nil ?_
                intro _ hw'
                obtain ⟨sb, hw''⟩ := hw'
                subst hw''
                have R1 := Lib.hid (R.out.below sb.h hplt)
                go_wp2_with (go_at_call 51; refine (rwrong_c p _ _ R1.out).mono ?_; rintro e w1 ⟨rfl, h1, g1⟩; have H1 := Lib.hid h1; have G1 := Lib.hid g1; clear h1 g1)
                go_ret
                unfold RRPost
                rw [dec_out HN.out (HVO.out)]
                exact ⟨rfl, H1.out, only_trans (only_lt' sb.h) G1.out⟩
              have d1 : decide (v < lo) = false := decide_eq_false a1
              have d2 : decide (hi < v) = false := decide_eq_false a2
              go_wp2
              clear e1 e2
              refine wp_region_below (w.heap.size) (by kernel_rfl) (by kernel_rfl) ?_
              repeat (first | go_big_quiet_step ((go_at_call 19; exact BW.call (Nat.le_refl _) (HI _).out)) | quiet_step ((go_at_call 19; exact BW.call (Nat.le_refl _) (HI _).out)))
              refine wpQuiet_nil ?_
              intro _ hw'
              obtain ⟨sb, hw''⟩ := hw'
              subst hw''
              have R1 := Lib.hid (R.out.below sb.h hplt)
              have c0' := q0 sb
              have f0' := (sb.h.frozen (p := ⟨p, 0, none⟩) hplt).trans f0
              have HH1 := Lib.hid ((sb.h.block p hplt).trans H1.out)
              go_wp2
              go_ret
              unfold RRPost
              rw [dec_in HN.out (by rw [HV.out]; omega) (by rw [HV.out]; omega), HV.out]
              refine ⟨rfl, RR.set HH1.out ?_, only_setCell (p := ⟨p, 0, none⟩) (only_lt' sb.h) (.inl rfl) _⟩
              rw [Lib.extract_data, HS.out, List.take_of_length_le (by rw [List.length_drop, ← HZ.out]; omega)]
            · obtain ⟨e1, e2⟩ := rr_even U HUL.out hpar
              rw [HV.out] at e2
              clear hpar
              have q0 : ∀ s : BW w.heap.size w, s.val.cell? ⟨p, 0, none⟩ = some (.string S) := BW.cell c0 hplt
              by_cases a1 : v < lo
              · have HVO := Lib.hid (show unz U < lo ∨ hi < unz U from by rw [HV.out]; exact .inl a1)
                have d1 : decide (v < lo) = true := decide_eq_true a1
                go_wp2
                clear e1 e2
                refine wp_region_below (w.heap.size) (by kernel_rfl) (by kernel_rfl) ?_
                repeat (first | go_big_quiet_step ((go_at_call 19; exact BW.call (Nat.le_refl _) (HI _).out)) | quiet_step ((go_at_call 19; exact BW.call (Nat.le_refl _) (HI _).out)))
                refine wpQuiet_nil ?_
                intro _ hw'
                obtain ⟨sb, hw''⟩ := hw'
                subst hw''
                have R1 := Lib.hid (R.out.below sb.h hplt)
                go_wp2_with (go_at_call 51; refine (rwrong_c p _ _ R1.out).mono ?_; rintro e w1 ⟨rfl, h1, g1⟩; have H1 := Lib.hid h1; have G1 := Lib.hid g1; clear h1 g1)
                go_ret
                unfold RRPost
                rw [dec_out HN.out (HVO.out)]
                exact ⟨rfl, H1.out, only_trans (only_lt' sb.h) G1.out⟩
              by_cases a2 : hi < v
              · have HVO := Lib.hid (show unz U < lo ∨ hi < unz U from by rw [HV.out]; exact .inr a2)
                have d1 : decide (v < lo) = false := decide_eq_false a1
                have d2 : decide (hi < v) = true := decide_eq_true a2
                go_wp2
                clear e1 e2
                refine wp_region_below (w.heap.size) (by kernel_rfl) (by kernel_rfl) ?_
                repeat (first | go_big_quiet_step ((go_at_call 19; exact BW.call (Nat.le_refl _) (HI _).out)) | quiet_step ((go_at_call 19; exact BW.call (Nat.le_refl _) (HI _).out)))
                refine wpQuiet_nil ?_
                intro _ hw'
                obtain ⟨sb, hw''⟩ := hw'
                subst hw''
                have R1 := Lib.hid (R.out.below sb.h hplt)
                go_wp2_with (go_at_call 51; refine (rwrong_c p _ _ R1.out).mono ?_; rintro e w1 ⟨rfl, h1, g1⟩; have H1 := Lib.hid h1; have G1 := Lib.hid g1; clear h1 g1)
                go_ret
                unfold RRPost
                rw [dec_out HN.out (HVO.out)]
                exact ⟨rfl, H1.out, only_trans (only_lt' sb.h) G1.out⟩
              have d1 : decide (v < lo) = false := decide_eq_false a1
              have d2 : decide (hi < v) = false := decide_eq_false a2
              go_wp2
              clear e1 e2
              refine wp_region_below (w.heap.size) (by kernel_rfl) (by kernel_rfl) ?_
              repeat (first | go_big_quiet_step ((go_at_call 19; exact BW.call (Nat.le_refl _) (HI _).out)) | quiet_step ((go_at_call 19; exact BW.call (Nat.le_refl _) (HI _).out)))
              refine wpQuiet_nil ?_
              intro _ hw'
              obtain ⟨sb, hw''⟩ := hw'
              subst hw''
              have R1 := Lib.hid (R.out.below sb.h hplt)
              have c0' := q0 sb
              have f0' := (sb.h.frozen (p := ⟨p, 0, none⟩) hplt).trans f0
              have HH1 := Lib.hid ((sb.h.block p hplt).trans H1.out)
              go_wp2
              go_ret
              unfold RRPost
              rw [dec_in HN.out (by rw [HV.out]; omega) (by rw [HV.out]; omega), HV.out]
              refine ⟨rfl, RR.set HH1.out ?_, only_setCell (p := ⟨p, 0, none⟩) (only_lt' sb.h) (.inl rfl) _⟩
              rw [Lib.extract_data, HS.out, List.take_of_length_le (by rw [List.length_drop, ← HZ.out]; omega)])
      · have h9 : ((k : Int) == 9) = false := by
          rcases h9b with ⟨h9, h9x⟩ | h9
          · omega
          · exact h9
        clear h9b
        go_wp2
        go_round
        case rel =>
          obtain ⟨q1, q⟩ := HS1.out.2.2.2 hA hx1
          refine ⟨k + 1, acc + 128 ^ k * (x % 128), 9 - k, by omega, by omega, by go_num, by rw [rr_or k acc x (by omega) HX.out.2.1 hb H9.out], by omega, ?_, q⟩
          have h1 := HX.out.2.1
          have h2 : 128 ^ k * (x % 128) ≤ 128 ^ k * 127 := Nat.mul_le_mul_left _ (by omega)
          have h3 : 128 ^ (k + 1) = 128 ^ k * 128 := Nat.pow_succ ..
          omega
        case measure => simp [intOf]; omega
    · have HN := Lib.hid (ung_done acc HX.out.2.2 (by have := HX.out.1; have := HZ.out; omega))
      by_cases h10 : k < 10
      · have hge : ¬ k < S.size := by omega
        clear hlt
        go_wp2_with (go_at_call 51; refine (rwrong_c p _ _ R.out).mono ?_; rintro e w1 ⟨rfl, h1, g1⟩; have H1 := Lib.hid h1; have G1 := Lib.hid g1; clear h1 g1)
        go_ret
        unfold RRPost
        rw [dec_none HN.out]
        exact ⟨rfl, H1.out, G1.out⟩
      · clear hlt
        go_wp2_with (go_at_call 51; refine (rwrong_c p _ _ R.out).mono ?_; rintro e w1 ⟨rfl, h1, g1⟩; have H1 := Lib.hid h1; have G1 := Lib.hid g1; clear h1 g1)
        go_ret
        unfold RRPost
        rw [dec_none HN.out]
        exact ⟨rfl, H1.out, G1.out⟩
end Go.Proofs.Ytebinhelnhnbeaa
