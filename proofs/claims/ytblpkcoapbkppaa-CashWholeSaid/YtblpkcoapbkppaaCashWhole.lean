/- The law CashWhole, walked. -/
import Derived.Test.YtblpkcoapbkppaaShFacts
set_option linter.unusedSimpArgs false
set_option linter.unusedVariables false
namespace Go.Proofs.Ytblpkcoapbkppaa
open Go.RowKit
def NoOver (w : World) (o : Value) (wx : World) : Prop := o = .bool false ∧ Below w.heap.size w wx
def Seen (w wr : World) (l : List Int) (k : Nat) : Prop := w = wr ∧ ∀ p ∈ l.take k, 0 ≤ p ∧ p ≤ 1000
set_option maxRecDepth 100000 in
set_option maxHeartbeats 8000000 in
theorem whole_walk (A : Option Addr) (n c : Nat) (all : Int) (l : List Int) (w : World) (hr : Rd w w.heap.size 1 A n (I8 l)) (hn : n ≤ maxLen) :
    Calls Try.prog 4 #[.int .i64 all, .slice A n c] w (ByAll w) := by
  have hln : l.length = n := by have := hr.1; rw [I8_len] at this; omega
  have HR := Lib.hid hr
  have HL := Lib.hid hln
  have HN := Lib.hid hn
  have hmn : n ≤ 9223372036854775807 := by unfold maxLen at hn; omega
  clear hr hln hn
  by_cases hbad : n < 1 ∨ 30 < n ∨ all < 0 ∨ 1099511627776 < all
  · have : n < 1 ∨ (¬ n < 1 ∧ 30 < n) ∨ (¬ n < 1 ∧ ¬ 30 < n ∧ all < 0) ∨ (¬ n < 1 ∧ ¬ 30 < n ∧ ¬ all < 0 ∧ 1099511627776 < all) := by omega
    rcases this with h1 | ⟨h1, h2⟩ | ⟨h1, h2, h3⟩ | ⟨h1, h2, h3, h4⟩ <;> clear hbad <;> (
      go_enter Try.func4, Try.ntmps4
      go_wp2_with (go_at_call 15; refine (told2 _).mono ?_; rintro e w2 ⟨rfl, hb2⟩)
      go_ret
      exact ⟨rfl, hb2⟩)
  have h1 : ¬ n < 1 := by omega
  have h2 : ¬ 30 < n := by omega
  have h3 : ¬ all < 0 := by omega
  have h4 : ¬ 1099511627776 < all := by omega
  clear hbad
  go_enter Try.func4, Try.ntmps4
  go_wp2
  go_loopw [5, 6] (fun s i wr => ∃ k : Nat, k ≤ n ∧ i = .int .i64 k ∧ s = .int .i64 (l.take k).sum ∧ Hid (Seen w wr l k)) (fun _ i _ => n - (intOf i).toNat)
  case atStart => exact ⟨0, by omega, rfl, by simp, Lib.hid ⟨rfl, by simp⟩⟩
  case round =>
    obtain ⟨k, hk, rfl, rfl, hq⟩ := hrel
    obtain ⟨rfl, hp⟩ := hq.out
    have HP := Lib.hid hp
    clear hp hq
    by_cases hlt : k < n
    · obtain ⟨ad, hl, rfl, _, hcell⟩ := HR.out.num hlt
      obtain ⟨p, hp⟩ : ∃ p, l[k] = p := ⟨_, rfl⟩
      have HPP := Lib.hid hp
      rw [hp] at hcell
      clear hp
      by_cases p0 : p < 0
      · go_wp2_with (go_at_call 15; refine (told2 _).mono ?_; rintro e w2 ⟨rfl, hb2⟩)
        go_ret
        exact ⟨rfl, hb2⟩
      by_cases p1 : 1000 < p
      · go_wp2_with (go_at_call 15; refine (told2 _).mono ?_; rintro e w2 ⟨rfl, hb2⟩)
        go_ret
        exact ⟨rfl, hb2⟩
      have hs := sum_part l k HP.out
      have hst := sum_take_step l k hl
      rw [HPP.out] at hst
      have HST := Lib.hid hst
      clear hst
      generalize (l.take k).sum = s at *
      go_wp2
      go_roundw
      case rel => exact ⟨k + 1, by omega, by go_num, by rw [HST.out], Lib.hid ⟨rfl, mem_take_step hl HP.out (by rw [HPP.out]; omega) (by rw [HPP.out]; omega)⟩⟩
      case measure => simp [intOf]; omega
    · obtain rfl : n = k := by omega
      have hall : ∀ p ∈ l, 0 ≤ p ∧ p ≤ 1000 := by
        intro p hp
        exact HP.out p (by rw [← HL.out, List.take_length]; exact hp)
      have hsum : (l.take n).sum = l.sum := by rw [← HL.out, List.take_length]
      rw [hsum]
      have hs := sum_pos l hall
      rw [HL.out] at hs
      by_cases hz : l.sum = 0
      · have hno : ¬ ShOk all l := fun h => h.2.2.2.2.2 hz
        have hz' : (l.sum == 0) = true := beq_iff_eq.2 hz
        clear hall hsum
        go_wp2_with fail
        refine (share_c A n c all l _ HR.out HN.out).mono ?_
        intro e w1 hq
        unfold ShPost at hq
        rw [if_neg hno] at hq
        obtain ⟨rfl, b1⟩ := hq
        have B1 := Lib.hid b1
        clear b1 hno hz
        go_wp2_with (go_at_call 15; refine (told2 _).mono ?_; rintro e w2 ⟨rfl, hb2⟩)
        go_ret
        exact ⟨rfl, B1.out.trans (hb2.mono B1.out.size)⟩
      have hok : ShOk all l := ⟨by omega, by omega, by rw [HL.out]; omega, by rw [HL.out]; omega, hall, hz⟩
      have HOK := Lib.hid hok
      obtain ⟨S, hS⟩ : ∃ S, l.sum = S := ⟨_, rfl⟩
      have HSS := Lib.hid hS
      rw [hS] at hs hz ⊢
      have hz1 : (S == 0) = false := beq_eq_false_iff_ne.2 hz
      clear hall hsum hS hok HP
      go_wp2_with fail
      refine (share_c A n c all l _ HR.out HN.out).mono ?_
      intro e w1 hq
      unfold ShPost at hq
      rw [if_pos HOK.out] at hq
      obtain ⟨v, rfl, own, b1⟩ := hq
      obtain ⟨B, cb, rfl, _, _, rd⟩ := own.form
      rw [shs_len, HL.out] at rd ⊢
      have RB := Lib.hid rd
      have RA := Lib.hid ((HR.out.below b1).more b1.size)
      have B1 := Lib.hid b1
      clear own b1 rd
      go_wp2_with fail
      obtain ⟨wo, rfl⟩ : ∃ wo : World, wo = w1 := ⟨_, rfl⟩
      go_loopw [9, 10] (fun s i wr => ∃ k : Nat, k ≤ n ∧ i = .int .i64 k ∧ s = .int .i64 ((shs all l).take k).sum ∧ Hid (Below wo.heap.size wo wr)) (fun _ i _ => n - (intOf i).toNat)
      case atStart => exact ⟨0, by omega, rfl, by simp, Lib.hid (Below.refl _ _)⟩
      case round =>
        obtain ⟨i, hi, rfl, rfl, hb⟩ := hrel
        by_cases hlt2 : i < n
        · obtain ⟨ad, hl1, rfl, _, q1⟩ := (RA.out.below hb.out).num hlt2
          obtain ⟨bd, hl2, rfl, _, q2⟩ := (RB.out.below hb.out).num hlt2
          have hil : i < l.length := hl1
          obtain ⟨p, hp⟩ : ∃ p, l[i] = p := ⟨_, rfl⟩
          obtain ⟨x, hx⟩ : ∃ x, share1 all l i = x := ⟨_, rfl⟩
          have hx2 := shs_get (all := all) i hil
          rw [hx2, hx] at q2
          rw [hp] at q1
          obtain ⟨n1, n2, n3, n4, n5⟩ := sh_near HOK.out i hil p x hp hx
          have hst := sum_take_step (shs all l) i hl2
          rw [hx2, hx] at hst
          have hsb := sh_sum_bounds HOK.out i (by omega)
          have hsb2 := sh_sum_bounds HOK.out (i + 1) (by omega)
          have hmem := sh_fits HOK.out p (hp ▸ List.getElem_mem hil)
          rw [HSS.out] at n1 n2
          rw [hst] at hsb2
          have hM : 0 ≤ x * S ∧ x * S ≤ 2000000000000000 := ⟨Int.mul_nonneg n4 hs.1, by omega⟩
          have e1 : wrap64 (x * S) = x * S := IntWalk.wrap64_in _ (by omega)
          have e2 : wrap64 (all * p) = all * p := IntWalk.wrap64_in _ (by omega)
          have hd1 : decide (all * p + S < x * S) = false := decide_eq_false (by omega)
          have hd2 : decide (x * S ≤ all * p - S) = false := decide_eq_false (by omega)
          have hnz : (p == 0 && x != 0) = false := by
            by_cases h0 : p = 0
            · rw [n3 h0]; simp
            · simp [h0]
          have HST := Lib.hid hst
          have HX := Lib.hid hx
          have HPI := Lib.hid hp
          have HIL := Lib.hid hil
          have HB := Lib.hid hb.out
          generalize ((shs all l).take i).sum = s at *
          clear hst hx hp hx2 n1 n2 hb
          go_upto_region 20 with fail
          go_cut [133] (fun o wx => NoOver wo o wx)
          case first => as_aux_lemma =>
            by_cases hpz : p = 0
            · have hx0 := n3 hpz
              have t1 : (p == 0) = true := beq_iff_eq.2 hpz
              have t2 : (x != 0) = false := by simp [hx0]
              clear hpz hx0 hnz n3
              go_quiet (fail)
              go_wp2_with fail
              go_meet
              exact ⟨rfl, below_drewN HB.out _⟩
            · have t1 : (p == 0) = false := beq_eq_false_iff_ne.2 hpz
              clear hpz hnz n3
              go_quiet (fail)
              go_wp2_with fail
              go_meet
              exact ⟨rfl, below_drewN HB.out _⟩
          case rest =>
          obtain ⟨rfl, hb⟩ := hcut
          have HB := Lib.hid hb
          clear hb q1 q2 e1 e2 hd1 hd2 hM hmem hnz n3
          go_wp2_with fail
          go_loopw [11] (fun j wr => ∃ k : Nat, k ≤ i ∧ j = .int .i64 k ∧ Hid (Below wo.heap.size wo wr)) (fun j _ => i - (intOf j).toNat)
          case atStart => exact ⟨0, by omega, rfl, HB⟩
          case round =>
            obtain ⟨k, hki, rfl, hb⟩ := hrel
            by_cases hlt3 : k < i
            · obtain ⟨ad1, hl1, e1, _, q1⟩ := (RA.out.below hb.out).num (show k < n by omega)
              obtain ⟨bd1, hl2, e2, _, q2⟩ := (RB.out.below hb.out).num (show k < n by omega)
              obtain ⟨ad2, hl3, e3, _, q3⟩ := (RA.out.below hb.out).num hlt2
              obtain ⟨bd2, hl4, e4, _, q4⟩ := (RB.out.below hb.out).num hlt2
              injection e1 with e1
              injection e2 with e2
              injection e3 with e3
              injection e4 with e4
              subst e1 e2 e3 e4
              have hkl : k < l.length := hl1
              have hx2 := shs_get (all := all) k hkl
              have hx3 := shs_get (all := all) i hl3
              rw [hx3, HX.out] at q4
              rw [HPI.out] at q3
              obtain ⟨y, hy⟩ : ∃ y, share1 all l k = y := ⟨_, rfl⟩
              obtain ⟨r, hr⟩ : ∃ r, l[k] = r := ⟨_, rfl⟩
              obtain ⟨_, _, _, m4, m5⟩ := sh_near HOK.out k hkl r y hr hy
              rw [hx2, hy] at q2
              rw [hr] at q1
              have HB3 := Lib.hid hb.out
              have p1 : k < n := by omega
              by_cases hrp : r = p
              · have hlk := sh_like HOK.out k i hki HIL.out (by rw [hr, HPI.out]; exact hrp) y x hy HX.out
                have t1 : (r == p) = true := beq_iff_eq.2 hrp
                have t2 : decide (y < x) = false := decide_eq_false (by omega)
                have t3 : decide (x + 1 < y) = false := decide_eq_false (by omega)
                have t4 : wrap64 (x + 1) = x + 1 := IntWalk.wrap64_in _ (by omega)
                clear hrp hlk hr hy hx2 hx3 hb
                go_wp2_with fail
                go_quiet (fail)
                go_wp2_with fail
                go_roundw
                case rel => exact ⟨k + 1, by omega, by go_num, Lib.hid (below_drewN HB3.out _)⟩
                case measure => simp [intOf]; omega
              · have t1 : (r == p) = false := beq_eq_false_iff_ne.2 hrp
                clear hrp hr hy hx2 hx3 hb
                go_wp2_with fail
                go_quiet (fail)
                go_wp2_with fail
                go_roundw
                case rel => exact ⟨k + 1, by omega, by go_num, Lib.hid (below_drewN HB3.out _)⟩
                case measure => simp [intOf]; omega
            · obtain rfl : k = i := by omega
              go_wp2_with fail
              go_roundw
              case rel => exact ⟨k + 1, by omega, by go_num, by rw [HST.out], hb⟩
              case measure => simp [intOf]; omega
        · obtain rfl : i = n := by omega
          have hsa : ((shs all l).take i).sum = all := by rw [List.take_of_length_le (by rw [shs_len, HL.out]; exact Nat.le_refl _)]; exact sh_all HOK.out
          rw [hsa]
          have HB := Lib.hid (B1.out.trans (hb.out.mono B1.out.size))
          clear hsa hb
          go_wp2_with (go_at_call 15; refine (told2 _).mono ?_; rintro e w2 ⟨rfl, hb2⟩)
          go_ret
          exact ⟨ret_bool (by simp), HB.out.trans (hb2.mono HB.out.size)⟩
end Go.Proofs.Ytblpkcoapbkppaa
