/- The law CashOne, walked. -/
import Derived.Test.YtblpkcoapbkppaaShFacts
set_option linter.unusedSimpArgs false
set_option linter.unusedVariables false
namespace Go.Proofs.Ytblpkcoapbkppaa
open Go.RowKit
def OneAt (w : World) (n : Nat) (o k : Value) (wx : World) : Prop := ∃ (g m : Nat), o = .slice (some ⟨g, 0, none⟩) n n ∧ k = .int .i64 m ∧ m < n ∧ Below w.heap.size w wx ∧ OI wx w.heap.size (.slice (some ⟨g, 0, none⟩) n n) (oneL n m 7)
set_option maxRecDepth 100000 in
set_option maxHeartbeats 8000000 in
theorem one_walk2 (A : Option Addr) (n c : Nat) (all at_ : Int) (l : List Int) (w : World) (hr : Rd w w.heap.size 1 A n (I8 l)) (hn : n ≤ maxLen) :
    Calls Try.prog 5 #[.int .i64 all, .int .i64 at_, .slice A n c] w (ByAll w) := by
  have hln : l.length = n := by have := hr.1; rw [I8_len] at this; omega
  have HR := Lib.hid hr
  have HL := Lib.hid hln
  have HN := Lib.hid hn
  have hmn : n ≤ 9223372036854775807 := by unfold maxLen at hn; omega
  clear hr hln hn
  by_cases hbad : all < 0 ∨ 549755813888 < all ∨ n < 1 ∨ 12 < n
  · have : all < 0 ∨ (¬ all < 0 ∧ 549755813888 < all) ∨ (¬ all < 0 ∧ ¬ 549755813888 < all ∧ n < 1) ∨ (¬ all < 0 ∧ ¬ 549755813888 < all ∧ ¬ n < 1 ∧ 12 < n) := by omega
    rcases this with h1 | ⟨h1, h2⟩ | ⟨h1, h2, h3⟩ | ⟨h1, h2, h3, h4⟩ <;> clear hbad <;> (
      go_enter Try.func5, Try.ntmps5
      go_wp2_with (go_at_call 15; refine (told2 _).mono ?_; rintro e w2 ⟨rfl, hb2⟩)
      go_ret
      exact ⟨rfl, hb2⟩)
  have h1 : ¬ all < 0 := by omega
  have h2 : ¬ 549755813888 < all := by omega
  have h3 : ¬ n < 1 := by omega
  have h4 : ¬ 12 < n := by omega
  clear hbad
  obtain ⟨m, hm, hm2⟩ := u_rem1 at_ n (by omega)
  have hnu : IntKind.u64.wrap (n : Int) = n := by rw [IntKind.wrap_u64]; omega
  have hnz : ¬ (n : Int) = 0 := by omega
  obtain ⟨i0, hi, hz0, hz1, hz2⟩ := info_parts info_i64
  obtain ⟨w1, hmk, hown, hg⟩ := run_make_full (P := Try.prog) w w.heap.size 22 2 i0 _ 1 Try.underlying22 hi hz0 hz1 .i64 .i64 n (by rw [hz2]; omega) (by unfold maxLen; omega) (Nat.le_refl _)
  have hown2 : OI w1 w.heap.size (.slice (some ⟨w.heap.size, 0, none⟩) n n) (List.replicate n 0) := by
    have e : I8 (List.replicate n 0) = (madeCells (Value.int IntKind.i64 0).cells (n * 1)).toList := by
      rw [Nat.mul_one]
      have := toList_madeCells_one (.int .i64 0) n
      rw [show (Value.int IntKind.i64 0).cells = #[.int .i64 0] from rfl, this]
      simp [I8]
    unfold OI
    rw [e, List.length_replicate]
    exact hown
  have hb1 : Below w.heap.size w w1 := (Below.refl _ _).grown hg (Nat.le_refl _) (fun _ h => by cases h)
  have hown3 : w1.ownsRow w.heap.size 2 1 (.slice (some ⟨w.heap.size, 0, none⟩) n n) n (I8 (List.replicate n 0)) := by
    have := hown2
    unfold OI at this
    rwa [List.length_replicate] at this
  have hfz := hown3.frozenAt m
  have hcl := hown3.cellAt m (by omega)
  rw [I8_at _ m (by rw [List.length_replicate]; omega)] at hcl
  have hst := (hown3.stored m (.int .i64 7)).1
  have hb2 : Below w.heap.size w (w1.setCell ⟨w.heap.size, m, none⟩ (.int .i64 7)) := hb1.setCell (Nat.le_refl _) _
  have own2 : OI (w1.setCell ⟨w.heap.size, m, none⟩ (.int .i64 7)) w.heap.size (.slice (some ⟨w.heap.size, 0, none⟩) n n) (oneL n m 7) := by
    unfold OI
    rw [oneL_len]
    unfold oneL
    rw [I8_set]
    exact hst
  obtain ⟨A1, c1, e1, _, _, rd1⟩ := own2.form
  rw [oneL_len] at e1 rd1
  injection e1 with ea eb ec
  subst ea ec
  have RD1 := Lib.hid rd1
  have OWN2 := Lib.hid own2
  have B2 := Lib.hid hb2
  have hml : m < n := by omega
  clear hi hz0 hz1 hz2 hown hg hown2 hb1 hown3 hst hb2 own2 rd1
  go_enter Try.func5, Try.ntmps5
  go_wp2_with fail
  clear hmk hfz hcl hm hm2 hnu hnz
  generalize (w1.setCell ⟨w.heap.size, m, none⟩ (.int .i64 7)) = w2 at *
  refine (share_c _ n n all (oneL n m 7) _ RD1.out HN.out).mono ?_
  intro e w3 hq
  unfold ShPost at hq
  rw [if_pos (one_ok (by omega) (by omega) hml (by omega))] at hq
  obtain ⟨v, rfl, own, b3⟩ := hq
  obtain ⟨B, cb, rfl, _, _, rd⟩ := own.form
  rw [shs_len, oneL_len] at rd ⊢
  have RB := Lib.hid rd
  have B3 := Lib.hid (B2.out.trans (b3.mono B2.out.size))
  clear own b3 rd RD1 OWN2 B2
  go_wp2_with fail
  obtain ⟨wo, rfl⟩ : ∃ wo : World, wo = w3 := ⟨_, rfl⟩
  go_loopw [11] (fun i wr => ∃ k : Nat, k ≤ n ∧ i = .int .i64 k ∧ Hid (Below wo.heap.size wo wr)) (fun i _ => n - (intOf i).toNat)
  case atStart => exact ⟨0, by omega, rfl, Lib.hid (Below.refl _ _)⟩
  case round =>
    obtain ⟨i, hi, rfl, hb⟩ := hrel
    by_cases hlt : i < n
    · obtain ⟨bd, hl2, rfl, _, q2⟩ := (RB.out.below hb.out).num hlt
      rw [shs_get i (by rw [oneL_len]; exact hlt), one_shs (by omega) (by omega) hml (by omega) i hlt] at q2
      have HB := Lib.hid hb.out
      clear hb
      by_cases him : i = m
      · rw [if_pos him] at q2
        have t1 : ((i : Int) == (m : Int)) = true := by simp [him]
        have t2 : ((i : Int) != (m : Int)) = false := by simp [him]
        clear him
        go_wp2_with fail
        go_roundw
        case rel => exact ⟨i + 1, by omega, by go_num, HB⟩
        case measure => simp [intOf]; omega
      · rw [if_neg him] at q2
        have t1 : ((i : Int) == (m : Int)) = false := by simp; omega
        have t2 : ((i : Int) != (m : Int)) = true := by simp; omega
        clear him
        go_wp2_with fail
        go_roundw
        case rel => exact ⟨i + 1, by omega, by go_num, HB⟩
        case measure => simp [intOf]; omega
    · have B4 := Lib.hid (B3.out.trans (hb.out.mono B3.out.size))
      clear hb RB B3
      have hww : wrap64 (2 * all) = 2 * all := IntWalk.wrap64_in _ (by omega)
      have HR3 := Lib.hid ((HR.out.below B4.out).more B4.out.size)
      by_cases hok : ShOk all l
      · have hok2 : ShOk (2 * all) l := ⟨by omega, by omega, hok.2.2⟩
        have HOK := Lib.hid hok
        have HOK2 := Lib.hid hok2
        clear hok hok2
        go_wp2_with fail
        refine (share_c A n c all l _ HR3.out HN.out).mono ?_
        intro e w4 hq
        unfold ShPost at hq
        rw [if_pos HOK.out] at hq
        obtain ⟨v, rfl, own, b4⟩ := hq
        obtain ⟨B, cb, rfl, _, _, rd⟩ := own.form
        rw [shs_len, HL.out] at rd ⊢
        have RB := Lib.hid rd
        have HR4 := Lib.hid ((HR3.out.below b4).more b4.size)
        have B5 := Lib.hid (B4.out.trans (b4.mono B4.out.size))
        clear own b4 rd HR3 B4
        go_wp2_with fail
        refine (share_c A n c (2 * all) l _ HR4.out HN.out).mono ?_
        intro e w5 hq
        unfold ShPost at hq
        rw [if_pos HOK2.out] at hq
        obtain ⟨v, rfl, own, b5⟩ := hq
        obtain ⟨C, cc, rfl, _, _, rd⟩ := own.form
        rw [shs_len, HL.out] at rd ⊢
        have RC := Lib.hid rd
        have RB2 := Lib.hid ((RB.out.below b5).more b5.size)
        have B6 := Lib.hid (B5.out.trans (b5.mono B5.out.size))
        clear own b5 rd HR4 B5 RB
        go_wp2_with fail
        obtain ⟨wo, rfl⟩ : ∃ wo : World, wo = w5 := ⟨_, rfl⟩
        go_loopw [16] (fun i wr => ∃ k : Nat, k ≤ n ∧ i = .int .i64 k ∧ Hid (Below wo.heap.size wo wr)) (fun i _ => n - (intOf i).toNat)
        case atStart => exact ⟨0, by omega, rfl, Lib.hid (Below.refl _ _)⟩
        case round =>
          obtain ⟨i, hi, rfl, hb⟩ := hrel
          by_cases hlt : i < n
          · obtain ⟨bd, hl1, rfl, _, q1⟩ := (RB2.out.below hb.out).num hlt
            obtain ⟨cd, hl2, rfl, _, q2⟩ := (RC.out.below hb.out).num hlt
            have hil : i < l.length := by rw [HL.out]; exact hlt
            obtain ⟨x, hx⟩ : ∃ x, share1 all l i = x := ⟨_, rfl⟩
            obtain ⟨y, hy⟩ : ∃ y, share1 (2 * all) l i = y := ⟨_, rfl⟩
            rw [shs_get i hil, hx] at q1
            rw [shs_get i hil, hy] at q2
            obtain ⟨_, _, _, m4, m5⟩ := sh_near HOK.out i hil _ x rfl hx
            obtain ⟨m6, m7⟩ := sh_twice HOK.out HOK2.out i hil x y hx hy
            have t0 : wrap64 (2 * x) = 2 * x := IntWalk.wrap64_in _ (by omega)
            have t1 : decide (y < 2 * x - 2) = false := decide_eq_false (by omega)
            have t2 : decide (2 * x + 2 < y) = false := decide_eq_false (by omega)
            have t3 : wrap64 (2 * x - 2) = 2 * x - 2 := IntWalk.wrap64_in _ (by omega)
            have t4 : wrap64 (2 * x + 2) = 2 * x + 2 := IntWalk.wrap64_in _ (by omega)
            have t5 : ((n : Int) != (n : Int)) = false := by simp
            have HB := Lib.hid hb.out
            clear hb hx hy
            go_wp2_with fail
            go_quiet (fail)
            go_wp2_with fail
            go_roundw
            case rel => exact ⟨i + 1, by omega, by go_num, Lib.hid (below_drewN HB.out _)⟩
            case measure => simp [intOf]; omega
          · have HB := Lib.hid (B6.out.trans (hb.out.mono B6.out.size))
            go_wp2_with (go_at_call 15; refine (told2 _).mono ?_; rintro e w9 ⟨rfl, hb9⟩)
            go_ret
            exact ⟨rfl, HB.out.trans (hb9.mono HB.out.size)⟩
      · have hok2 : ¬ ShOk (2 * all) l := fun h => hok ⟨by omega, by omega, h.2.2⟩
        have HOK := Lib.hid hok
        have HOK2 := Lib.hid hok2
        clear hok hok2
        go_wp2_with fail
        refine (share_c A n c all l _ HR3.out HN.out).mono ?_
        intro e w4 hq
        unfold ShPost at hq
        rw [if_neg HOK.out] at hq
        obtain ⟨rfl, b4⟩ := hq
        have HR4 := Lib.hid ((HR3.out.below b4).more b4.size)
        have B5 := Lib.hid (B4.out.trans (b4.mono B4.out.size))
        clear b4 HR3 B4
        go_wp2_with fail
        refine (share_c A n c (2 * all) l _ HR4.out HN.out).mono ?_
        intro e w5 hq
        unfold ShPost at hq
        rw [if_neg HOK2.out] at hq
        obtain ⟨rfl, b5⟩ := hq
        have B6 := Lib.hid (B5.out.trans (b5.mono B5.out.size))
        clear b5 HR4 B5
        go_wp2_with fail
        go_loopw [16] (fun i wr => i = .int .i64 0 ∧ Hid (Below w.heap.size w wr)) (fun i _ => 0)
        case atStart => exact ⟨rfl, B6⟩
        case round =>
          obtain ⟨rfl, hb⟩ := hrel
          go_wp2_with (go_at_call 15; refine (told2 _).mono ?_; rintro e w9 ⟨rfl, hb9⟩)
          go_ret
          exact ⟨rfl, hb.out.trans (hb9.mono hb.out.size)⟩
end Go.Proofs.Ytblpkcoapbkppaa
