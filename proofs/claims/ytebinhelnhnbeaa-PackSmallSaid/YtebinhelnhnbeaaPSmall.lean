/- The law PackSmall, walked. -/
import Derived.Test.YtebinhelnhnbeaaTold1
import Derived.Test.YtebinhelnhnbeaaOwnB
set_option linter.unusedSimpArgs false
set_option linter.unusedVariables false
namespace Go.Proofs.Ytebinhelnhnbeaa
open Go.RowKit
/-- How many bytes, reckoned from half the number. -/
def cntF : Nat → Nat → Nat
  | 0, _ => 1
  | f + 1, u => if u < 64 then 1 else cntF f (u / 128) + 1
theorem cnt_grp (f : Nat) : ∀ z, (grpF f z).length = cntF f (z / 2) := by
  induction f with
  | zero => intro z; rfl
  | succ f ih =>
    intro z
    by_cases h : z < 128
    · rw [grpF, if_pos h, cntF, if_pos (by omega)]; rfl
    · rw [grpF, if_neg h, cntF, if_neg (by omega), List.length_cons, ih, Nat.div_div_eq_div_mul, Nat.div_div_eq_div_mul]
/-- Each byte but the last goes on. -/
theorem grp_ge (f : Nat) : ∀ z, z < lim f → ∀ i (h : i < (grpF f z).length), (128 ≤ ((grpF f z)[i]'h).toNat ↔ i + 1 < (grpF f z).length) := by
  induction f with
  | zero =>
    intro z hz i h
    simp only [lim] at hz
    simp only [grpF, List.length_cons, List.length_nil] at h ⊢
    have : i = 0 := by omega
    subst this
    simp only [List.getElem_cons_zero, UInt8.toNat_ofNat']
    omega
  | succ f ih =>
    intro z hz i h
    simp only [lim] at hz
    by_cases hlt : z < 128
    · simp only [grpF, if_pos hlt, List.length_cons, List.length_nil] at h ⊢
      have : i = 0 := by omega
      subst this
      simp only [List.getElem_cons_zero, UInt8.toNat_ofNat']
      omega
    · simp only [grpF, if_neg hlt, List.length_cons] at h ⊢
      cases i with
      | zero =>
        simp only [List.getElem_cons_zero, UInt8.toNat_ofNat']
        have := grpF_pos f (z / 128)
        omega
      | succ i =>
        simp only [List.getElem_cons_succ]
        have := ih (z / 128) (by omega) i (by omega)
        omega
theorem grp_first (f : Nat) (z : Nat) (hz : z < lim f) : ((grpF f z)[0]'(grpF_pos f z)).toNat % 2 = z % 2 := by
  cases f with
  | zero =>
    simp only [lim] at hz
    simp only [grpF, List.getElem_cons_zero, UInt8.toNat_ofNat']
    omega
  | succ f =>
    by_cases h : z < 128
    · simp only [grpF, if_pos h, List.getElem_cons_zero, UInt8.toNat_ofNat']
      omega
    · simp only [grpF, if_neg h, List.getElem_cons_zero, UInt8.toNat_ofNat']
      omega
/-- What PackSmall looks at, of a number's bytes. -/
def SmallOk (v : Int) (L : List UInt8) (u : Nat) : Prop :=
  L.length = cntF 9 u ∧ u < 9223372036854775808 ∧ 0 < L.length ∧ L.length ≤ 10 ∧ (∀ i (h : i < L.length), (128 ≤ (L[i]'h).toNat ↔ i + 1 < L.length)) ∧ (∀ h : 0 < L.length, (L[0]'h).toNat % 2 = (if v < 0 then 1 else 0))
theorem small_pos (v : Int) (h0 : 0 ≤ v) (h1 : v ≤ 9223372036854775807) : SmallOk v (enc v) v.toNat := by
  have hz : zig v = 2 * v.toNat := by unfold zig; rw [if_pos h0]; omega
  have hl := zig_lt v (by omega) h1
  refine ⟨?_, by omega, enc_pos v, enc_le v, grp_ge 9 _ (by rw [lim9]; exact hl), fun _ => ?_⟩
  · unfold enc grp; rw [cnt_grp, hz, Nat.mul_div_cancel_left _ (by omega)]
  · have := grp_first 9 (zig v) (by rw [lim9]; exact hl)
    rw [if_neg (by omega)]
    exact Eq.trans this (by rw [hz]; omega)
theorem small_neg (v : Int) (h0 : v < 0) (h1 : -9223372036854775808 ≤ v) : SmallOk v (enc v) (-(v + 1)).toNat := by
  have hz : zig v = 2 * (-(v + 1)).toNat + 1 := by unfold zig; rw [if_neg (by omega)]; omega
  have hl := zig_lt v h1 (by omega)
  refine ⟨?_, by omega, enc_pos v, enc_le v, grp_ge 9 _ (by rw [lim9]; exact hl), fun _ => ?_⟩
  · unfold enc grp; rw [cnt_grp, hz]; congr 1; omega
  · have := grp_first 9 (zig v) (by rw [lim9]; exact hl)
    rw [if_pos h0]
    exact Eq.trans this (by rw [hz]; omega)
theorem t1z : ([] : List UInt8) ++ encT [] = [0] := by decide +kernel
theorem and1_u8 (x : Nat) (h : x < 256) : bits .and .u8 (x : Int) 1 = ((x % 2 : Nat) : Int) := by
  rw [show (1 : Int) = ((1 : Nat) : Int) from rfl, u8_and_nat _ _ h (by omega), nat_mask1]
set_option maxRecDepth 100000 in
set_option maxHeartbeats 4000000 in
theorem small_walk (v : Int) (W : World) (h0 : -9223372036854775808 ≤ v) (h1 : v ≤ 9223372036854775807) : Calls Try.prog 9 #[.int .i64 v] W fun e w' => e = .returned (.bool true) ∧ Below W.heap.size W w' := by
  have hok : ∃ u : Nat, SmallOk v (enc v) u ∧ ((0 ≤ v ∧ v = (u : Int)) ∨ (v < 0 ∧ -(v + 1) = (u : Int))) := by
    by_cases h : 0 ≤ v
    · exact ⟨_, small_pos v h h1, .inl ⟨h, by omega⟩⟩
    · exact ⟨_, small_neg v (by omega) h0, .inr ⟨by omega, by omega⟩⟩
  obtain ⟨u, hok, hvu⟩ := hok
  obtain ⟨L, hL⟩ : ∃ L, enc v = L := ⟨_, rfl⟩
  have HW := Lib.hid (WB.new W W.heap.size (Nat.le_refl _))
  have HWI := Lib.hid (wint_is HW.out (v := v) (l' := L) (by simp) h0 h1 (by rw [hL]; rfl))
  rw [hL] at hok
  obtain ⟨n, hn⟩ : ∃ n, L.length = n := ⟨_, rfl⟩
  obtain ⟨k1, k2, k3, k4, k5, k6⟩ := hok
  rw [hn] at k1 k3 k4
  have HN := Lib.hid hn
  have K1 := Lib.hid k1
  have K5 := Lib.hid k5
  have K6 := Lib.hid k6
  have K2 := Lib.hid k2
  clear hn k1 k2 k5 k6 hL
  obtain ⟨m, rfl⟩ : ∃ m, n = m + 1 := ⟨n - 1, by omega⟩
  go_enter Try.func9, Try.ntmps9
  go_wp2_with fail
  refine HWI.out.mono ?_
  rintro e w1 ⟨rfl, q1, b1, _⟩
  have H1 := Lib.hid q1
  have B1 := Lib.hid (show Below W.heap.size W w1 from ((Below.refl _ _).alloc (Nat.le_refl _) _).trans b1)
  clear q1 b1
  go_wp2_with fail
  refine (wbytes_c _ _ _ _ H1.out (by have := HN.out; omega)).mono ?_
  rintro e w2 ⟨v2, rfl, q2, b2⟩
  have hz1 := B1.out.size
  have B2 := Lib.hid (B1.out.trans (b2.mono B1.out.size))
  obtain ⟨g, c2, rfl, hg1, hg2, hc2, hm2, hcell, _, _⟩ := q2.blk (by have := HN.out; omega)
  have HC := Lib.hid hcell
  rw [HN.out] at hc2 ⊢
  have hz2 := b2.size
  clear q2 b2 hcell
  rcases hvu with ⟨hv, hu⟩ | ⟨hv, hu⟩
  all_goals
    have HU := Lib.hid hu
    clear hu
    have HV : Hid ((v < 0 ∧ v < 0) ∨ (0 ≤ v ∧ 0 ≤ v)) := Lib.hid (by omega)
    go_wp2
    go_loop [5, 6] (fun a c => ∃ (f k j : Nat), a = .int .i64 (k : Int) ∧ c = .int .i64 (j : Int) ∧ Hid (j + cntF f k = m + 2 ∧ 2 * k < lim f ∧ 1 ≤ j) ∧ j ≤ m + 2) (fun a _ => (intOf a).toNat)
    case atStart => exact ⟨9, u, 1, by rw [HU.out], rfl, ⟨by have := K1.out; omega, by rw [lim9]; have := K2.out; omega, by omega⟩, by omega⟩
    case round =>
      obtain ⟨f, k, j, rfl, rfl, HJ, hj⟩ := hrel
      by_cases h64 : 64 ≤ k
      · go_wp2
        go_round
        case rel =>
          obtain ⟨j1, j2, j3⟩ := HJ.out
          obtain ⟨f, rfl⟩ : ∃ f', f = f' + 1 := by
            cases f with
            | zero => simp only [lim] at j2; omega
            | succ f => exact ⟨f, rfl⟩
          simp only [lim] at j2
          rw [cntF, if_neg (by omega)] at j1
          exact ⟨f, k / 128, j + 1, by go_num, by go_num, ⟨by omega, by omega, by omega⟩, by omega⟩
        case measure => simp [intOf]; omega
      · have hjm : j = m + 1 := by
          have := HJ.out.1
          cases f with
          | zero => simp only [cntF] at this; omega
          | succ f => rw [cntF, if_pos (by omega)] at this; omega
        subst hjm
        clear HJ hj
        go_wp2
        go_loop [7] (fun a => ∃ k : Nat, k ≤ m + 1 ∧ a = .int .i64 (k : Int)) (fun a => m + 1 - (intOf a).toNat)
        case atStart => exact ⟨0, by omega, rfl⟩
        case round =>
          obtain ⟨i, hi, rfl⟩ := hrel
          by_cases hlt : i < m + 1
          · have hil : i < L.length := by rw [HN.out]; exact hlt
            have hc := HC.out i hil
            have hk := K5.out i hil
            have hb := u8_lt (L[i]'hil)
            obtain ⟨x, hx⟩ : ∃ x, (L[i]'hil).toNat = x := ⟨_, rfl⟩
            rw [hx] at hc hk hb
            rw [HN.out] at hk
            clear hx hil
            by_cases him : i < m
            · have hx1 : 128 ≤ x := hk.2 (by omega)
              have d1 : decide (128 ≤ (x : Int)) = true := decide_eq_true (by omega)
              have d2 : decide (i < m) = true := decide_eq_true him
              clear hk hx1
              go_wp2
              go_round
              case rel => exact ⟨i + 1, by omega, by go_num⟩
              case measure => simp [intOf]; omega
            · have hx1 : ¬ 128 ≤ x := fun h => him (by have := hk.1 h; omega)
              have d1 : decide (128 ≤ (x : Int)) = false := decide_eq_false (by omega)
              have d2 : decide (i < m) = false := decide_eq_false him
              clear hk hx1
              go_wp2
              go_round
              case rel => exact ⟨i + 1, by omega, by go_num⟩
              case measure => simp [intOf]; omega
          · have hil : 0 < L.length := by rw [HN.out]; omega
            have hc := HC.out 0 hil
            have hk := K6.out hil
            have hb := u8_lt (L[0]'hil)
            obtain ⟨x, hx⟩ : ∃ x, (L[0]'hil).toNat = x := ⟨_, rfl⟩
            rw [hx] at hc hk hb
            have ha := and1_u8 x hb
            rw [hk] at ha
            clear hx hil hk
            have HWX := Lib.hid (WB.new w2 w2.heap.size (Nat.le_refl _))
            have HC0 := Lib.hid hc
            clear hc
            go_wp2_with fail
            refine (wtext_is (l' := [0]) HWX.out (by simp) (by decide) t1z).mono ?_
            rintro e w3 ⟨rfl, q3, b3, _⟩
            have H3 := Lib.hid q3
            have B3 := Lib.hid (show Below w2.heap.size w2 w3 from ((Below.refl _ _).alloc (Nat.le_refl _) _).trans b3)
            clear q3 b3
            go_wp2_with fail
            refine (told1 _).mono ?_
            rintro e w4 ⟨rfl, b4⟩
            have H4 := Lib.hid (H3.out.below b4 (Nat.le_refl _))
            have B4 := Lib.hid (B3.out.trans (b4.mono B3.out.size))
            clear b4
            go_wp2_with fail
            refine (wbytes_c _ _ _ _ H4.out (by simp)).mono ?_
            rintro e w5 ⟨v5, rfl, q5, b5⟩
            obtain ⟨A5, c5, rfl, _, _, r5⟩ := q5.form
            have B5 := Lib.hid (B4.out.trans (b5.mono B4.out.size))
            have hc5 := (B5.out.cell (p := ⟨g, 0, none⟩) hg2).trans HC0.out
            have hcv : (convert 24 9 (.slice A5 1 c5)).run Try.prog w5 = .ok (.string ⟨#[0]⟩) w5 := run_conv_str (l := [0]) r5
            clear q5 b5 r5
            go_wp2
            go_ret
            refine ⟨?_, B2.out.trans (B5.out.mono B2.out.size)⟩
            first
              | exact ret_bool (show (!decide (v < 0)) = true by simp; omega)
              | exact ret_bool (show decide (v < 0) = true by simp; omega)
              | exact rfl
end Go.Proofs.Ytebinhelnhnbeaa
