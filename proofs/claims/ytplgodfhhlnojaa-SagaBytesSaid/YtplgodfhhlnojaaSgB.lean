/- The law SagaBytes, walked (printed by gensagab4.py). -/
import Derived.Test.YtplgodfhhlnojaaSgB3
import Derived.Test.YtplgodfhhlnojaaSagaT
import Derived.Test.YtplgodfhhlnojaaS4
import Derived.Test.YtplgodfhhlnojaaB1
import Derived.Outline
set_option linter.unusedSimpArgs false
set_option linter.unusedVariables false
namespace Go.Proofs.Ytplgodfhhlnojaa
open Go.RowKit
set_option maxRecDepth 100000 in
set_option maxHeartbeats 4000000 in
theorem sgbytes_long (x : S11) (A : Option Addr) (n c : Nat) (l : List UInt8) (w : World) (hr : Rd w w.heap.size 1 A n (B8 l)) (hn : 100 < n) : Calls Try.prog 9 #[x.val, .slice A n c] w fun e w' => e = .returned (.bool true) ∧ Below w.heap.size w w' := by
  have T := Lib.hid told15
  have HR := Lib.hid hr
  have B0 := Lib.hid (Below.refl w.heap.size w)
  clear hr
  unfold S11.val
  go_enter Try.func9, Try.ntmps9
  go_wp2_with fail
  refine (T.out _).mono ?_
  rintro e w1 ⟨rfl, q⟩
  have X_1 := Lib.hid (new1 q)
  have Rb_1 := Lib.hid (rd1 HR.out q)
  have B1 := Lib.hid (bel1 B0.out B0.out.size q)
  clear q HR B0
  go_wp2
  go_ret
  exact ⟨rfl, B1.out⟩
set_option maxRecDepth 100000 in
set_option maxHeartbeats 8000000 in
theorem sgbytes_no (x : S11) (A : Option Addr) (n c : Nat) (l : List UInt8) (w : World) (hr : Rd w w.heap.size 1 A n (B8 l)) (hn : n ≤ 100) (hx : ¬ MayS x) : Calls Try.prog 9 #[x.val, .slice A n c] w fun e w' => e = .returned (.bool true) ∧ Below w.heap.size w w' := by
  have T := Lib.hid told15
  have HR := Lib.hid hr
  have B0 := Lib.hid (Below.refl w.heap.size w)
  have hnl : l.length = n := by have := hr.1; simp [B8] at this; omega
  clear hr
  have HM := Lib.hid (fun W => rmay14_is x false (decide_eq_false hx) W)
  have HP := Lib.hid (fun W => encS_no x W hx)
  clear hx
  obtain ⟨y, kk, hy⟩ : ∃ y k, gS l = (y, k) := ⟨_, _, rfl⟩
  have HG := Lib.hid (fun A c (w : World) (hr : Rd w w.heap.size 1 A n (B8 l)) => (by have := sget_c A n c l w hr (by omega); rw [hy] at this; exact this : Calls Try.prog 41 #[.slice A n c] w (PS w y kk)))
  have HGR := Lib.hid (fun W => (by have := rget14_c ⟨l.toArray⟩ l W rfl (by omega); rw [hS_is, hy] at this; exact this : Calls Try.prog 42 #[.string ⟨l.toArray⟩] W (PS W y kk)))
  have ey := sameS y y true (by simp)
  clear hy hnl
  unfold PS at HG HGR
  simp only [S11.val] at HM HP HG HGR ey
  unfold S11.val
  go_enter Try.func9, Try.ntmps9
  go_wp2_with (first | (refine wpl_row (by rfl) 26 _ rfl _ rfl _ _ _ _ (heap_alloc_new w (.cells #[.int .i64 x.w.b, .int .i64 x.w.c, .int .i64 x.w.d, .int .i64 x.w.m0, .int .i64 x.w.m1, .int .i64 x.w.m2, .int .i64 x.w.p, .int .i64 x.ph, .int .i64 x.st, .int .i64 x.re, .int .i64 x.si] 26)) rfl Try.underlying26 (by kernel_rfl) ?_))
  refine (HM.out _).mono ?_
  rintro e w1 ⟨rfl, q⟩
  have X_1 := Lib.hid (new1 q)
  have Rb_1 := Lib.hid (rd1 HR.out q)
  have B1 := Lib.hid (bel1 B0.out B0.out.size q)
  clear q HR B0
  go_wp2_with (first | (refine wpl_row (by rfl) 26 _ rfl _ rfl _ _ _ _ X_1.out rfl Try.underlying26 (by kernel_rfl) ?_))
  refine (HP.out _).mono ?_
  rintro e w2 ⟨rfl, q⟩
  have X_2 := Lib.hid (blk0 X_1.out q)
  have Rb_2 := Lib.hid (rd0 Rb_1.out q)
  have B2 := Lib.hid (bel0 B1.out B1.out.size q)
  clear q X_1 Rb_1 B1
  go_wp2_with fail
  refine wp_region_below (w2.heap.size) (by kernel_rfl) (by kernel_rfl) ?_
  repeat (first | (refine wpq_row (by rfl) 26 _ rfl _ rfl _ _ _ _ X_2.out (lt_size X_2.out) rfl Try.underlying26 (by kernel_rfl) ?_) | go_big_quiet_step ((fail)) | quiet_step ((fail)))
  refine wpQuiet_nil ?_
  intro _ hw'
  obtain ⟨sb, hw''⟩ := hw'
  subst hw''
  have q := sb.h
  generalize sb.val = w3 at q ⊢
  clear sb
  have X_3 := Lib.hid (blk0 X_2.out q)
  have Rb_3 := Lib.hid (rd0 Rb_2.out q)
  have B3 := Lib.hid (bel0 B2.out B2.out.size q)
  clear q X_2 Rb_2 B2
  go_wp2_with fail
  refine (HG.out _ _ _ Rb_3.out).mono ?_
  rintro e w4 ⟨rfl, q⟩
  have X_4 := Lib.hid (blk0 X_3.out q)
  have Rb_4 := Lib.hid (rd0 Rb_3.out q)
  have B4 := Lib.hid (bel0 B3.out B3.out.size q)
  clear q X_3 Rb_3 B3
  have cv : (convert 59 9 (.slice A n c)).run Try.prog (w4.alloc (.cells #[.int .i64 y.w.b, .int .i64 y.w.c, .int .i64 y.w.d, .int .i64 y.w.m0, .int .i64 y.w.m1, .int .i64 y.w.m2, .int .i64 y.w.p, .int .i64 y.ph, .int .i64 y.st, .int .i64 y.re, .int .i64 y.si] 26)) = .ok (.string ⟨l.toArray⟩) (w4.alloc (.cells #[.int .i64 y.w.b, .int .i64 y.w.c, .int .i64 y.w.d, .int .i64 y.w.m0, .int .i64 y.w.m1, .int .i64 y.w.m2, .int .i64 y.w.p, .int .i64 y.ph, .int .i64 y.st, .int .i64 y.re, .int .i64 y.si] 26)) := run_conv_str (rda (o := (.cells #[.int .i64 y.w.b, .int .i64 y.w.c, .int .i64 y.w.d, .int .i64 y.w.m0, .int .i64 y.w.m1, .int .i64 y.w.m2, .int .i64 y.w.p, .int .i64 y.ph, .int .i64 y.st, .int .i64 y.re, .int .i64 y.si] 26)) Rb_4.out)
  go_wp2_with fail
  refine (HGR.out _).mono ?_
  rintro e w5 ⟨rfl, q⟩
  have X_5 := Lib.hid (blk1 X_4.out q)
  have Y_5 := Lib.hid (new1 q)
  have Rb_5 := Lib.hid (rd1 Rb_4.out q)
  have B5 := Lib.hid (bel1 B4.out B4.out.size q)
  clear q X_4 Rb_4 B4
  clear cv
  go_wp2_with (first | (refine wpl_row (by rfl) 26 _ rfl _ rfl _ _ _ _ (alc (o := (.cells #[.int .i64 y.w.b, .int .i64 y.w.c, .int .i64 y.w.d, .int .i64 y.w.m0, .int .i64 y.w.m1, .int .i64 y.w.m2, .int .i64 y.w.p, .int .i64 y.ph, .int .i64 y.st, .int .i64 y.re, .int .i64 y.si] 26)) Y_5.out) rfl Try.underlying26 (by kernel_rfl) ?_) | (refine wpl_row (by rfl) 26 _ rfl _ rfl _ _ _ _ (heap_alloc_new w5 (.cells #[.int .i64 y.w.b, .int .i64 y.w.c, .int .i64 y.w.d, .int .i64 y.w.m0, .int .i64 y.w.m1, .int .i64 y.w.m2, .int .i64 y.w.p, .int .i64 y.ph, .int .i64 y.st, .int .i64 y.re, .int .i64 y.si] 26)) rfl Try.underlying26 (by kernel_rfl) ?_))
  refine (T.out _).mono ?_
  rintro e w6 ⟨rfl, q⟩
  have X_6 := Lib.hid (blk1 X_5.out q)
  have Y_6 := Lib.hid (blk1 Y_5.out q)
  have Z_6 := Lib.hid (new1 q)
  have Rb_6 := Lib.hid (rd1 Rb_5.out q)
  have B6 := Lib.hid (bel1 B5.out B5.out.size q)
  clear q X_5 Y_5 Rb_5 B5
  go_wp2
  go_ret
  exact ⟨rfl, B6.out⟩
set_option maxRecDepth 100000 in
set_option maxHeartbeats 8000000 in
theorem sgbytes_yes (x : S11) (A : Option Addr) (n c : Nat) (l : List UInt8) (w : World) (hr : Rd w w.heap.size 1 A n (B8 l)) (hn : n ≤ 100) (hx : MayS x) : Calls Try.prog 9 #[x.val, .slice A n c] w fun e w' => e = .returned (.bool true) ∧ Below w.heap.size w w' := by
  have T := Lib.hid told15
  have HR := Lib.hid hr
  have B0 := Lib.hid (Below.refl w.heap.size w)
  have hnl : l.length = n := by have := hr.1; simp [B8] at this; omega
  clear hr
  have HM := Lib.hid (fun W => rmay14_is x true (decide_eq_true hx) W)
  have HP := Lib.hid (fun W => encS_yes x W hx (MayS_fits _ hx))
  have HQ := Lib.hid (fun W => rput_c x W (MayS_fits _ hx))
  have hG := gS_yes x hx
  obtain ⟨lx, ex⟩ : ∃ l, encS x = l := ⟨_, rfl⟩
  have lx1 : lx.length ≤ 110 := by rw [← ex]; exact encS_le x
  rw [ex] at HP HQ hG
  clear ex
  have HG3 := Lib.hid (fun A c (w : World) (hr : Rd w w.heap.size 1 A lx.length (B8 lx)) => (by have := sget_c A lx.length c lx w hr (by omega); rw [hG] at this; exact this : Calls Try.prog 41 #[.slice A lx.length c] w (PS w x 0)))
  obtain ⟨nx, enx⟩ : ∃ n, lx.length = n := ⟨_, rfl⟩
  have stx : (lx == lx) = true := beq_self_eq_true _
  have NX := Lib.hid enx
  clear lx1 hG
  clear hx
  obtain ⟨y, kk, hy⟩ : ∃ y k, gS l = (y, k) := ⟨_, _, rfl⟩
  have HG := Lib.hid (fun A c (w : World) (hr : Rd w w.heap.size 1 A n (B8 l)) => (by have := sget_c A n c l w hr (by omega); rw [hy] at this; exact this : Calls Try.prog 41 #[.slice A n c] w (PS w y kk)))
  have HGR := Lib.hid (fun W => (by have := rget14_c ⟨l.toArray⟩ l W rfl (by omega); rw [hS_is, hy] at this; exact this : Calls Try.prog 42 #[.string ⟨l.toArray⟩] W (PS W y kk)))
  have ey := sameS y y true (by simp)
  have ez := sameS x x true (by simp)
  rw [enx] at HG3
  clear enx
  clear hy hnl
  unfold PS at HG HGR HG3
  unfold RBy at HP
  simp only [S11.val] at HM HP HG HGR ey HQ HG3 ez
  unfold S11.val
  go_enter Try.func9, Try.ntmps9
  go_wp2_with (first | (refine wpl_row (by rfl) 26 _ rfl _ rfl _ _ _ _ (heap_alloc_new w (.cells #[.int .i64 x.w.b, .int .i64 x.w.c, .int .i64 x.w.d, .int .i64 x.w.m0, .int .i64 x.w.m1, .int .i64 x.w.m2, .int .i64 x.w.p, .int .i64 x.ph, .int .i64 x.st, .int .i64 x.re, .int .i64 x.si] 26)) rfl Try.underlying26 (by kernel_rfl) ?_))
  refine (HM.out _).mono ?_
  rintro e w1 ⟨rfl, q⟩
  have X_1 := Lib.hid (new1 q)
  have Rb_1 := Lib.hid (rd1 HR.out q)
  have B1 := Lib.hid (bel1 B0.out B0.out.size q)
  clear q HR B0
  go_wp2_with (first | (refine wpl_row (by rfl) 26 _ rfl _ rfl _ _ _ _ X_1.out rfl Try.underlying26 (by kernel_rfl) ?_))
  refine (HP.out _).mono ?_
  rintro e w2 ⟨vx, rfl, ob, q⟩
  have X_2 := Lib.hid (blk0 X_1.out q)
  have Rb_2 := Lib.hid (rd0 Rb_1.out q)
  have B2 := Lib.hid (bel0 B1.out B1.out.size q)
  clear q X_1 Rb_1 B1
  obtain ⟨Ax, cx, rfl, _, _, rx⟩ := ob.form
  have Rx := Lib.hid rx
  clear rx ob
  rw [NX.out] at *
  have cvx : ∀ s : BW w2.heap.size w2, (convert 59 9 (.slice Ax nx cx)).run Try.prog s.val = .ok (.string ⟨lx.toArray⟩) s.val := fun s => run_conv_str (Rx.out.below s.h)
  go_wp2_with fail
  refine wp_region_below (w2.heap.size) (by kernel_rfl) (by kernel_rfl) ?_
  repeat (first | (refine wpq_row (by rfl) 26 _ rfl _ rfl _ _ _ _ X_2.out (lt_size X_2.out) rfl Try.underlying26 (by kernel_rfl) ?_) | go_big_quiet_step ((go_at_call 40; (with_reducible exact BW.call (Nat.le_refl _) (HQ.out _)))) | quiet_step ((go_at_call 40; (with_reducible exact BW.call (Nat.le_refl _) (HQ.out _)))))
  refine wpQuiet_nil ?_
  intro _ hw'
  obtain ⟨sb, hw''⟩ := hw'
  subst hw''
  have q := sb.h
  generalize sb.val = w3 at q ⊢
  clear sb
  have X_3 := Lib.hid (blk0 X_2.out q)
  have Rb_3 := Lib.hid (rd0 Rb_2.out q)
  have Rx_3 := Lib.hid (rd0 Rx.out q)
  have B3 := Lib.hid (bel0 B2.out B2.out.size q)
  clear q X_2 Rb_2 Rx B2
  clear cvx
  go_wp2_with fail
  refine (HG.out _ _ _ Rb_3.out).mono ?_
  rintro e w4 ⟨rfl, q⟩
  have X_4 := Lib.hid (blk0 X_3.out q)
  have Rb_4 := Lib.hid (rd0 Rb_3.out q)
  have Rx_4 := Lib.hid (rd0 Rx_3.out q)
  have B4 := Lib.hid (bel0 B3.out B3.out.size q)
  clear q X_3 Rb_3 Rx_3 B3
  have cv : (convert 59 9 (.slice A n c)).run Try.prog (w4.alloc (.cells #[.int .i64 y.w.b, .int .i64 y.w.c, .int .i64 y.w.d, .int .i64 y.w.m0, .int .i64 y.w.m1, .int .i64 y.w.m2, .int .i64 y.w.p, .int .i64 y.ph, .int .i64 y.st, .int .i64 y.re, .int .i64 y.si] 26)) = .ok (.string ⟨l.toArray⟩) (w4.alloc (.cells #[.int .i64 y.w.b, .int .i64 y.w.c, .int .i64 y.w.d, .int .i64 y.w.m0, .int .i64 y.w.m1, .int .i64 y.w.m2, .int .i64 y.w.p, .int .i64 y.ph, .int .i64 y.st, .int .i64 y.re, .int .i64 y.si] 26)) := run_conv_str (rda (o := (.cells #[.int .i64 y.w.b, .int .i64 y.w.c, .int .i64 y.w.d, .int .i64 y.w.m0, .int .i64 y.w.m1, .int .i64 y.w.m2, .int .i64 y.w.p, .int .i64 y.ph, .int .i64 y.st, .int .i64 y.re, .int .i64 y.si] 26)) Rb_4.out)
  go_wp2_with fail
  refine (HGR.out _).mono ?_
  rintro e w5 ⟨rfl, q⟩
  have X_5 := Lib.hid (blk1 X_4.out q)
  have Y_5 := Lib.hid (new1 q)
  have Rb_5 := Lib.hid (rd1 Rb_4.out q)
  have Rx_5 := Lib.hid (rd1 Rx_4.out q)
  have B5 := Lib.hid (bel1 B4.out B4.out.size q)
  clear q X_4 Rb_4 Rx_4 B4
  clear cv
  go_wp2_with (first | (refine wpl_row (by rfl) 26 _ rfl _ rfl _ _ _ _ (alc (o := (.cells #[.int .i64 y.w.b, .int .i64 y.w.c, .int .i64 y.w.d, .int .i64 y.w.m0, .int .i64 y.w.m1, .int .i64 y.w.m2, .int .i64 y.w.p, .int .i64 y.ph, .int .i64 y.st, .int .i64 y.re, .int .i64 y.si] 26)) Y_5.out) rfl Try.underlying26 (by kernel_rfl) ?_) | (refine wpl_row (by rfl) 26 _ rfl _ rfl _ _ _ _ (heap_alloc_new w5 (.cells #[.int .i64 y.w.b, .int .i64 y.w.c, .int .i64 y.w.d, .int .i64 y.w.m0, .int .i64 y.w.m1, .int .i64 y.w.m2, .int .i64 y.w.p, .int .i64 y.ph, .int .i64 y.st, .int .i64 y.re, .int .i64 y.si] 26)) rfl Try.underlying26 (by kernel_rfl) ?_))
  refine (HG3.out _ _ _ (rda (o := (.cells #[.int .i64 y.w.b, .int .i64 y.w.c, .int .i64 y.w.d, .int .i64 y.w.m0, .int .i64 y.w.m1, .int .i64 y.w.m2, .int .i64 y.w.p, .int .i64 y.ph, .int .i64 y.st, .int .i64 y.re, .int .i64 y.si] 26)) Rx_5.out)).mono ?_
  rintro e w6 ⟨rfl, q⟩
  have X_6 := Lib.hid (blk1 X_5.out q)
  have Y_6 := Lib.hid (blk1 Y_5.out q)
  have Z_6 := Lib.hid (new1 q)
  have Rb_6 := Lib.hid (rd1 Rb_5.out q)
  have Rx_6 := Lib.hid (rd1 Rx_5.out q)
  have B6 := Lib.hid (bel1 B5.out B5.out.size q)
  clear q X_5 Y_5 Rb_5 Rx_5 B5
  go_wp2_with fail
  refine (T.out _).mono ?_
  rintro e w7 ⟨rfl, q⟩
  have X_7 := Lib.hid (blk1 X_6.out q)
  have Y_7 := Lib.hid (blk1 Y_6.out q)
  have Z_7 := Lib.hid (blk1 Z_6.out q)
  have U_7 := Lib.hid (new1 q)
  have Rb_7 := Lib.hid (rd1 Rb_6.out q)
  have Rx_7 := Lib.hid (rd1 Rx_6.out q)
  have B7 := Lib.hid (bel1 B6.out B6.out.size q)
  clear q X_6 Y_6 Z_6 Rb_6 Rx_6 B6
  go_wp2_with (first | (refine wpl_row (by rfl) 26 _ rfl _ rfl _ _ _ _ U_7.out rfl Try.underlying26 (by kernel_rfl) ?_) | (refine wpl_row (by rfl) 26 _ rfl _ rfl _ _ _ _ X_7.out rfl Try.underlying26 (by kernel_rfl) ?_))
  go_ret
  exact ⟨rfl, B7.out⟩
theorem sgbytes_walk (x : S11) (A : Option Addr) (n c : Nat) (l : List UInt8) (w : World) (hr : Rd w w.heap.size 1 A n (B8 l))  : Calls Try.prog 9 #[x.val, .slice A n c] w fun e w' => e = .returned (.bool true) ∧ Below w.heap.size w w' := by
  by_cases hn : n ≤ 100
  · by_cases hx : MayS x
    · exact sgbytes_yes x A n c l w hr hn hx
    · exact sgbytes_no x A n c l w hr hn hx
  · exact sgbytes_long x A n c l w hr (by omega)
end Go.Proofs.Ytplgodfhhlnojaa
