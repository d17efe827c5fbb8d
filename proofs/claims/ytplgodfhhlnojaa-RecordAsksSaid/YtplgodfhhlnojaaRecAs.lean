/- The law RecordAsks, walked (printed by genrecasks.py). -/
import Derived.Test.YtplgodfhhlnojaaRecT
import Derived.Test.YtplgodfhhlnojaaB1
import Derived.Test.YtplgodfhhlnojaaB4
import Derived.Outline
set_option linter.unusedSimpArgs false
set_option linter.unusedVariables false
namespace Go.Proofs.Ytplgodfhhlnojaa
open Go.RowKit
set_option maxRecDepth 100000 in
set_option maxHeartbeats 4000000 in
theorem recasks_long (x s : R19) (A : Option Addr) (n c : Nat) (l : List UInt8) (w : World) (hr : Rd w w.heap.size 1 A n (B8 l)) (hn : 150 < n) : Calls Try.prog 15 #[x.val, s.val, .slice A n c] w fun e w' => e = .returned (.bool true) ∧ Below w.heap.size w w' := by
  have T := Lib.hid told17
  have HR := Lib.hid hr
  clear hr
  unfold R19.val
  obtain ⟨f1, f2, f3⟩ := two_boxes w (.cells #[.int .i64 x.k, .int .i64 x.now, .int .i64 x.ans, .int .i64 x.o.kind, .int .i64 x.o.book, .int .i64 x.o.units, .int .i64 x.o.cust, .int .i64 x.o.amount, .int .i64 x.s.w.b, .int .i64 x.s.w.c, .int .i64 x.s.w.d, .int .i64 x.s.w.m0, .int .i64 x.s.w.m1, .int .i64 x.s.w.m2, .int .i64 x.s.w.p, .int .i64 x.s.ph, .int .i64 x.s.st, .int .i64 x.s.re, .int .i64 x.s.si] 82) (.cells #[.int .i64 s.k, .int .i64 s.now, .int .i64 s.ans, .int .i64 s.o.kind, .int .i64 s.o.book, .int .i64 s.o.units, .int .i64 s.o.cust, .int .i64 s.o.amount, .int .i64 s.s.w.b, .int .i64 s.s.w.c, .int .i64 s.s.w.d, .int .i64 s.s.w.m0, .int .i64 s.s.w.m1, .int .i64 s.s.w.m2, .int .i64 s.s.w.p, .int .i64 s.s.ph, .int .i64 s.s.st, .int .i64 s.s.re, .int .i64 s.s.si] 82)
  go_enter Try.func15, Try.ntmps15
  go_upto_region 1 with fail
  generalize (w.alloc (.cells #[.int .i64 x.k, .int .i64 x.now, .int .i64 x.ans, .int .i64 x.o.kind, .int .i64 x.o.book, .int .i64 x.o.units, .int .i64 x.o.cust, .int .i64 x.o.amount, .int .i64 x.s.w.b, .int .i64 x.s.w.c, .int .i64 x.s.w.d, .int .i64 x.s.w.m0, .int .i64 x.s.w.m1, .int .i64 x.s.w.m2, .int .i64 x.s.w.p, .int .i64 x.s.ph, .int .i64 x.s.st, .int .i64 x.s.re, .int .i64 x.s.si] 82)).alloc (.cells #[.int .i64 s.k, .int .i64 s.now, .int .i64 s.ans, .int .i64 s.o.kind, .int .i64 s.o.book, .int .i64 s.o.units, .int .i64 s.o.cust, .int .i64 s.o.amount, .int .i64 s.s.w.b, .int .i64 s.s.w.c, .int .i64 s.s.w.d, .int .i64 s.s.w.m0, .int .i64 s.s.w.m1, .int .i64 s.s.w.m2, .int .i64 s.s.w.p, .int .i64 s.s.ph, .int .i64 s.s.st, .int .i64 s.s.re, .int .i64 s.s.si] 82) = w0 at f1 f2 f3 ⊢
  have X_0 := Lib.hid f1
  have S_0 := Lib.hid f2
  have B0 := Lib.hid f3
  have Rb := Lib.hid ((HR.out.below f3).more f3.size)
  clear f1 f2 f3 HR
  go_wp2_with fail
  refine (T.out _).mono ?_
  rintro e w1 ⟨rfl, q⟩
  have X_1 := Lib.hid (blk0 X_0.out q)
  have S_1 := Lib.hid (blk0 S_0.out q)
  have Rb_1 := Lib.hid (rd0 Rb.out q)
  have B1 := Lib.hid (bel0 B0.out B0.out.size q)
  clear q X_0 S_0 Rb B0
  go_wp2
  go_ret
  exact ⟨rfl, B1.out⟩
set_option maxRecDepth 100000 in
set_option maxHeartbeats 8000000 in
theorem recasks_no (x s : R19) (A : Option Addr) (n c : Nat) (l : List UInt8) (w : World) (hr : Rd w w.heap.size 1 A n (B8 l)) (hn : n ≤ 150) (hx : ¬ MayR x) : Calls Try.prog 15 #[x.val, s.val, .slice A n c] w fun e w' => e = .returned (.bool true) ∧ Below w.heap.size w w' := by
  have T := Lib.hid told17
  have HR := Lib.hid hr
  have hnl : l.length = n := by have := hr.1; simp [B8] at this; omega
  clear hr
  have HM := Lib.hid (fun W => rrecmay_c x false (decide_eq_false hx) W)
  have HMP := Lib.hid (fun W => recmay_is x false (decide_eq_false hx) W)
  have HP := Lib.hid (fun W => encR_no x W hx)
  clear hx
  obtain ⟨y, kk, hy⟩ : ∃ y k, gR l = (y, k) := ⟨_, _, rfl⟩
  have HG := Lib.hid (fun A c (w : World) (hr : Rd w w.heap.size 1 A n (B8 l)) => recget_c A n c l w hr (by omega) hy)
  have HGR := Lib.hid (fun W => rrecget_c l W (by omega) hy)
  obtain ⟨b, hb⟩ : ∃ b, decide (x = s) = b := ⟨_, rfl⟩
  have HS1 := Lib.hid (fun W => recsame_c x s b hb W)
  have HS2 := Lib.hid (fun W => recsame_c x x true (by simp) W)
  have ey := sameRec y y true (by simp)
  have exs := sameRec x s b hb
  have sbb : (b == b) = true := beq_self_eq_true b
  clear hy hnl hb
  simp only [R19.val] at HM HMP HP HG HGR HS1 HS2
  unfold R19.val
  obtain ⟨f1, f2, f3⟩ := two_boxes w (.cells #[.int .i64 x.k, .int .i64 x.now, .int .i64 x.ans, .int .i64 x.o.kind, .int .i64 x.o.book, .int .i64 x.o.units, .int .i64 x.o.cust, .int .i64 x.o.amount, .int .i64 x.s.w.b, .int .i64 x.s.w.c, .int .i64 x.s.w.d, .int .i64 x.s.w.m0, .int .i64 x.s.w.m1, .int .i64 x.s.w.m2, .int .i64 x.s.w.p, .int .i64 x.s.ph, .int .i64 x.s.st, .int .i64 x.s.re, .int .i64 x.s.si] 82) (.cells #[.int .i64 s.k, .int .i64 s.now, .int .i64 s.ans, .int .i64 s.o.kind, .int .i64 s.o.book, .int .i64 s.o.units, .int .i64 s.o.cust, .int .i64 s.o.amount, .int .i64 s.s.w.b, .int .i64 s.s.w.c, .int .i64 s.s.w.d, .int .i64 s.s.w.m0, .int .i64 s.s.w.m1, .int .i64 s.s.w.m2, .int .i64 s.s.w.p, .int .i64 s.s.ph, .int .i64 s.s.st, .int .i64 s.s.re, .int .i64 s.s.si] 82)
  go_enter Try.func15, Try.ntmps15
  go_upto_region 1 with fail
  generalize (w.alloc (.cells #[.int .i64 x.k, .int .i64 x.now, .int .i64 x.ans, .int .i64 x.o.kind, .int .i64 x.o.book, .int .i64 x.o.units, .int .i64 x.o.cust, .int .i64 x.o.amount, .int .i64 x.s.w.b, .int .i64 x.s.w.c, .int .i64 x.s.w.d, .int .i64 x.s.w.m0, .int .i64 x.s.w.m1, .int .i64 x.s.w.m2, .int .i64 x.s.w.p, .int .i64 x.s.ph, .int .i64 x.s.st, .int .i64 x.s.re, .int .i64 x.s.si] 82)).alloc (.cells #[.int .i64 s.k, .int .i64 s.now, .int .i64 s.ans, .int .i64 s.o.kind, .int .i64 s.o.book, .int .i64 s.o.units, .int .i64 s.o.cust, .int .i64 s.o.amount, .int .i64 s.s.w.b, .int .i64 s.s.w.c, .int .i64 s.s.w.d, .int .i64 s.s.w.m0, .int .i64 s.s.w.m1, .int .i64 s.s.w.m2, .int .i64 s.s.w.p, .int .i64 s.s.ph, .int .i64 s.s.st, .int .i64 s.s.re, .int .i64 s.s.si] 82) = w0 at f1 f2 f3 ⊢
  have X_0 := Lib.hid f1
  have S_0 := Lib.hid f2
  have B0 := Lib.hid f3
  have Rb := Lib.hid ((HR.out.below f3).more f3.size)
  clear f1 f2 f3 HR
  go_wp2_with (first | (refine wpl_row (by rfl) 82 _ rfl _ rfl _ _ _ _ X_0.out rfl Try.underlying82 (by kernel_rfl) ?_))
  refine (HM.out _).mono ?_
  rintro e w1 ⟨rfl, q⟩
  have X_1 := Lib.hid (blk0 X_0.out q)
  have S_1 := Lib.hid (blk0 S_0.out q)
  have Rb_1 := Lib.hid (rd0 Rb.out q)
  have B1 := Lib.hid (bel0 B0.out B0.out.size q)
  clear q X_0 S_0 Rb B0
  go_wp2_with (first | (refine wpl_row (by rfl) 82 _ rfl _ rfl _ _ _ _ X_1.out rfl Try.underlying82 (by kernel_rfl) ?_))
  refine (HP.out _).mono ?_
  rintro e w2 ⟨rfl, q⟩
  have X_2 := Lib.hid (blk0 X_1.out q)
  have S_2 := Lib.hid (blk0 S_1.out q)
  have Rb_2 := Lib.hid (rd0 Rb_1.out q)
  have B2 := Lib.hid (bel0 B1.out B1.out.size q)
  clear q X_1 S_1 Rb_1 B1
  go_wp2_with fail
  refine wp_region_below (w2.heap.size) (by kernel_rfl) (by kernel_rfl) ?_
  repeat (first | (refine wpq_row (by rfl) 82 _ rfl _ rfl _ _ _ _ X_2.out (lt_size X_2.out) rfl Try.underlying82 (by kernel_rfl) ?_) | go_big_quiet_step (((go_at_call 56; (with_reducible exact BW.call (Nat.le_refl _) (HMP.out _))))) | quiet_step (((go_at_call 56; (with_reducible exact BW.call (Nat.le_refl _) (HMP.out _))))))
  refine wpQuiet_nil ?_
  intro _ hw'
  obtain ⟨sb, hw''⟩ := hw'
  subst hw''
  have q := sb.h
  generalize sb.val = w3 at q ⊢
  clear sb
  have X_3 := Lib.hid (blk0 X_2.out q)
  have S_3 := Lib.hid (blk0 S_2.out q)
  have Rb_3 := Lib.hid (rd0 Rb_2.out q)
  have B3 := Lib.hid (bel0 B2.out B2.out.size q)
  clear q X_2 S_2 Rb_2 B2
  go_wp2_with fail
  refine (HG.out _ _ _ Rb_3.out).mono ?_
  rintro e w4 ⟨rfl, q⟩
  have X_4 := Lib.hid (blk0 X_3.out q)
  have S_4 := Lib.hid (blk0 S_3.out q)
  have Rb_4 := Lib.hid (rd0 Rb_3.out q)
  have B4 := Lib.hid (bel0 B3.out B3.out.size q)
  clear q X_3 S_3 Rb_3 B3
  go_upto_region 8 with (first | (refine wpl_set rfl 82 _ _ rfl w4.heap.size #[.int .i64 y.k, .int .i64 y.now, .int .i64 y.ans, .int .i64 y.o.kind, .int .i64 y.o.book, .int .i64 y.o.units, .int .i64 y.o.cust, .int .i64 y.o.amount, .int .i64 y.s.w.b, .int .i64 y.s.w.c, .int .i64 y.s.w.d, .int .i64 y.s.w.m0, .int .i64 y.s.w.m1, .int .i64 y.s.w.m2, .int .i64 y.s.w.p, .int .i64 y.s.ph, .int .i64 y.s.st, .int .i64 y.s.re, .int .i64 y.s.si] rfl rfl 82 #[.int .i64 0, .int .i64 0, .int .i64 0, .int .i64 0, .int .i64 0, .int .i64 0, .int .i64 0, .int .i64 0, .int .i64 0, .int .i64 0, .int .i64 0, .int .i64 0, .int .i64 0, .int .i64 0, .int .i64 0, .int .i64 0, .int .i64 0, .int .i64 0, .int .i64 0] (heap_alloc_new w4 (.cells #[.int .i64 0, .int .i64 0, .int .i64 0, .int .i64 0, .int .i64 0, .int .i64 0, .int .i64 0, .int .i64 0, .int .i64 0, .int .i64 0, .int .i64 0, .int .i64 0, .int .i64 0, .int .i64 0, .int .i64 0, .int .i64 0, .int .i64 0, .int .i64 0, .int .i64 0] 82)) (by kernel_rfl) rfl (by kernel_rfl) ?_; intro w5 hb5 sb5))
  have lt_X_Y : w.heap.size < w4.heap.size := lt_size X_4.out
  have lt_S_Y : (w.heap.size + 1) < w4.heap.size := lt_size S_4.out
  have X_5 := Lib.hid (sb5.old X_4.out)
  have S_5 := Lib.hid (sb5.old S_4.out)
  have Y_5 := Lib.hid hb5
  have B5 := Lib.hid (sb5.below B4.out B4.out.size)
  have Rb_5 := Lib.hid (show Rd w5 w5.heap.size 1 A n (B8 l) from (Rb_4.out.below (sb5.bel ((Below.refl w4.heap.size w4).alloc (Nat.le_refl _) _) (Nat.le_refl _))).more (by rw [sb5.size]; simp))
  clear hb5 sb5 X_4 S_4 B4
  have cv : (convert 59 9 (.slice A n c)).run Try.prog w5 = .ok (.string ⟨l.toArray⟩) w5 := run_conv_str Rb_5.out
  go_wp2_with fail
  refine (HGR.out _).mono ?_
  rintro e w6 ⟨rfl, q⟩
  have X_6 := Lib.hid (blk0 X_5.out q)
  have S_6 := Lib.hid (blk0 S_5.out q)
  have Y_6 := Lib.hid (blk0 Y_5.out q)
  have B6 := Lib.hid (bel0 B5.out B5.out.size q)
  clear q X_5 S_5 Y_5 B5
  clear cv
  go_upto_region 9 with (first | (refine wpl_set rfl 82 _ _ rfl w6.heap.size #[.int .i64 y.k, .int .i64 y.now, .int .i64 y.ans, .int .i64 y.o.kind, .int .i64 y.o.book, .int .i64 y.o.units, .int .i64 y.o.cust, .int .i64 y.o.amount, .int .i64 y.s.w.b, .int .i64 y.s.w.c, .int .i64 y.s.w.d, .int .i64 y.s.w.m0, .int .i64 y.s.w.m1, .int .i64 y.s.w.m2, .int .i64 y.s.w.p, .int .i64 y.s.ph, .int .i64 y.s.st, .int .i64 y.s.re, .int .i64 y.s.si] rfl rfl 82 #[.int .i64 0, .int .i64 0, .int .i64 0, .int .i64 0, .int .i64 0, .int .i64 0, .int .i64 0, .int .i64 0, .int .i64 0, .int .i64 0, .int .i64 0, .int .i64 0, .int .i64 0, .int .i64 0, .int .i64 0, .int .i64 0, .int .i64 0, .int .i64 0, .int .i64 0] (heap_alloc_new w6 (.cells #[.int .i64 0, .int .i64 0, .int .i64 0, .int .i64 0, .int .i64 0, .int .i64 0, .int .i64 0, .int .i64 0, .int .i64 0, .int .i64 0, .int .i64 0, .int .i64 0, .int .i64 0, .int .i64 0, .int .i64 0, .int .i64 0, .int .i64 0, .int .i64 0, .int .i64 0] 82)) (by kernel_rfl) rfl (by kernel_rfl) ?_; intro w7 hb7 sb7))
  have lt_X_Z : w.heap.size < w6.heap.size := lt_size X_6.out
  have lt_S_Z : (w.heap.size + 1) < w6.heap.size := lt_size S_6.out
  have lt_Y_Z : w4.heap.size < w6.heap.size := lt_size Y_6.out
  have X_7 := Lib.hid (sb7.old X_6.out)
  have S_7 := Lib.hid (sb7.old S_6.out)
  have Y_7 := Lib.hid (sb7.old Y_6.out)
  have Z_7 := Lib.hid hb7
  have B7 := Lib.hid (sb7.below B6.out B6.out.size)
  clear hb7 sb7 X_6 S_6 Y_6 B6
  go_wp2_with fail
  refine wp_region_below (w7.heap.size) (by kernel_rfl) (by kernel_rfl) ?_
  repeat (first | (refine wpq_row (by rfl) 82 _ rfl _ rfl _ _ _ _ Y_7.out (lt_size Y_7.out) rfl Try.underlying82 (by kernel_rfl) ?_) | (refine wpq_row (by rfl) 82 _ rfl _ rfl _ _ _ _ Z_7.out (lt_size Z_7.out) rfl Try.underlying82 (by kernel_rfl) ?_) | (refine wpq_row (by rfl) 82 _ rfl _ rfl _ _ _ _ X_7.out (lt_size X_7.out) rfl Try.underlying82 (by kernel_rfl) ?_) | (refine wpq_row (by rfl) 82 _ rfl _ rfl _ _ _ _ S_7.out (lt_size S_7.out) rfl Try.underlying82 (by kernel_rfl) ?_) | go_big_quiet_step ((first | (go_at_call 53; (with_reducible exact BW.call (Nat.le_refl _) (T.out _))) | (go_at_call 60; (with_reducible exact BW.call (Nat.le_refl _) (HS1.out _))) | (go_at_call 60; (with_reducible exact BW.call (Nat.le_refl _) (HS2.out _))))) | quiet_step ((first | (go_at_call 53; (with_reducible exact BW.call (Nat.le_refl _) (T.out _))) | (go_at_call 60; (with_reducible exact BW.call (Nat.le_refl _) (HS1.out _))) | (go_at_call 60; (with_reducible exact BW.call (Nat.le_refl _) (HS2.out _))))))
  refine wpQuiet_nil ?_
  intro _ hw'
  obtain ⟨sb, hw''⟩ := hw'
  subst hw''
  have q := sb.h
  generalize sb.val = w8 at q ⊢
  clear sb
  have X_8 := Lib.hid (blk0 X_7.out q)
  have S_8 := Lib.hid (blk0 S_7.out q)
  have Y_8 := Lib.hid (blk0 Y_7.out q)
  have Z_8 := Lib.hid (blk0 Z_7.out q)
  have B8 := Lib.hid (bel0 B7.out B7.out.size q)
  clear q X_7 S_7 Y_7 Z_7 B7
  go_wp2
  go_ret
  exact ⟨rfl, B8.out⟩
set_option maxRecDepth 100000 in
set_option maxHeartbeats 8000000 in
theorem recasks_yes (x s : R19) (A : Option Addr) (n c : Nat) (l : List UInt8) (w : World) (hr : Rd w w.heap.size 1 A n (B8 l)) (hn : n ≤ 150) (hx : MayR x) : Calls Try.prog 15 #[x.val, s.val, .slice A n c] w fun e w' => e = .returned (.bool true) ∧ Below w.heap.size w w' := by
  have T := Lib.hid told17
  have HR := Lib.hid hr
  have hnl : l.length = n := by have := hr.1; simp [B8] at this; omega
  clear hr
  have HM := Lib.hid (fun W => rrecmay_c x true (decide_eq_true hx) W)
  have HMP := Lib.hid (fun W => recmay_is x true (decide_eq_true hx) W)
  have HP := Lib.hid (fun W => encR_yes x W hx)
  have HQ := Lib.hid (fun W => rputrec_c x W hx)
  obtain ⟨lx, ex⟩ : ∃ l, encR x = l := ⟨_, rfl⟩
  rw [ex] at HP HQ
  clear ex
  obtain ⟨nx, enx⟩ : ∃ n, lx.length = n := ⟨_, rfl⟩
  have stx : (lx == lx) = true := beq_self_eq_true _
  have NX := Lib.hid enx
  clear enx
  unfold RBy at HP
  clear hx
  obtain ⟨y, kk, hy⟩ : ∃ y k, gR l = (y, k) := ⟨_, _, rfl⟩
  have HG := Lib.hid (fun A c (w : World) (hr : Rd w w.heap.size 1 A n (B8 l)) => recget_c A n c l w hr (by omega) hy)
  have HGR := Lib.hid (fun W => rrecget_c l W (by omega) hy)
  obtain ⟨b, hb⟩ : ∃ b, decide (x = s) = b := ⟨_, rfl⟩
  have HS1 := Lib.hid (fun W => recsame_c x s b hb W)
  have HS2 := Lib.hid (fun W => recsame_c x x true (by simp) W)
  have ey := sameRec y y true (by simp)
  have exs := sameRec x s b hb
  have sbb : (b == b) = true := beq_self_eq_true b
  clear hy hnl hb
  simp only [R19.val] at HM HMP HP HG HGR HS1 HS2 HQ
  unfold R19.val
  obtain ⟨f1, f2, f3⟩ := two_boxes w (.cells #[.int .i64 x.k, .int .i64 x.now, .int .i64 x.ans, .int .i64 x.o.kind, .int .i64 x.o.book, .int .i64 x.o.units, .int .i64 x.o.cust, .int .i64 x.o.amount, .int .i64 x.s.w.b, .int .i64 x.s.w.c, .int .i64 x.s.w.d, .int .i64 x.s.w.m0, .int .i64 x.s.w.m1, .int .i64 x.s.w.m2, .int .i64 x.s.w.p, .int .i64 x.s.ph, .int .i64 x.s.st, .int .i64 x.s.re, .int .i64 x.s.si] 82) (.cells #[.int .i64 s.k, .int .i64 s.now, .int .i64 s.ans, .int .i64 s.o.kind, .int .i64 s.o.book, .int .i64 s.o.units, .int .i64 s.o.cust, .int .i64 s.o.amount, .int .i64 s.s.w.b, .int .i64 s.s.w.c, .int .i64 s.s.w.d, .int .i64 s.s.w.m0, .int .i64 s.s.w.m1, .int .i64 s.s.w.m2, .int .i64 s.s.w.p, .int .i64 s.s.ph, .int .i64 s.s.st, .int .i64 s.s.re, .int .i64 s.s.si] 82)
  go_enter Try.func15, Try.ntmps15
  go_upto_region 1 with fail
  generalize (w.alloc (.cells #[.int .i64 x.k, .int .i64 x.now, .int .i64 x.ans, .int .i64 x.o.kind, .int .i64 x.o.book, .int .i64 x.o.units, .int .i64 x.o.cust, .int .i64 x.o.amount, .int .i64 x.s.w.b, .int .i64 x.s.w.c, .int .i64 x.s.w.d, .int .i64 x.s.w.m0, .int .i64 x.s.w.m1, .int .i64 x.s.w.m2, .int .i64 x.s.w.p, .int .i64 x.s.ph, .int .i64 x.s.st, .int .i64 x.s.re, .int .i64 x.s.si] 82)).alloc (.cells #[.int .i64 s.k, .int .i64 s.now, .int .i64 s.ans, .int .i64 s.o.kind, .int .i64 s.o.book, .int .i64 s.o.units, .int .i64 s.o.cust, .int .i64 s.o.amount, .int .i64 s.s.w.b, .int .i64 s.s.w.c, .int .i64 s.s.w.d, .int .i64 s.s.w.m0, .int .i64 s.s.w.m1, .int .i64 s.s.w.m2, .int .i64 s.s.w.p, .int .i64 s.s.ph, .int .i64 s.s.st, .int .i64 s.s.re, .int .i64 s.s.si] 82) = w0 at f1 f2 f3 ⊢
  have X_0 := Lib.hid f1
  have S_0 := Lib.hid f2
  have B0 := Lib.hid f3
  have Rb := Lib.hid ((HR.out.below f3).more f3.size)
  clear f1 f2 f3 HR
  go_wp2_with (first | (refine wpl_row (by rfl) 82 _ rfl _ rfl _ _ _ _ X_0.out rfl Try.underlying82 (by kernel_rfl) ?_))
  refine (HM.out _).mono ?_
  rintro e w1 ⟨rfl, q⟩
  have X_1 := Lib.hid (blk0 X_0.out q)
  have S_1 := Lib.hid (blk0 S_0.out q)
  have Rb_1 := Lib.hid (rd0 Rb.out q)
  have B1 := Lib.hid (bel0 B0.out B0.out.size q)
  clear q X_0 S_0 Rb B0
  go_wp2_with (first | (refine wpl_row (by rfl) 82 _ rfl _ rfl _ _ _ _ X_1.out rfl Try.underlying82 (by kernel_rfl) ?_))
  refine (HP.out _).mono ?_
  rintro e w2 ⟨vx, rfl, ob, q⟩
  have X_2 := Lib.hid (blk0 X_1.out q)
  have S_2 := Lib.hid (blk0 S_1.out q)
  have Rb_2 := Lib.hid (rd0 Rb_1.out q)
  have B2 := Lib.hid (bel0 B1.out B1.out.size q)
  clear q X_1 S_1 Rb_1 B1
  obtain ⟨Ax, cx, rfl, _, _, rx⟩ := ob.form
  rw [NX.out] at rx ⊢
  have Rx := Lib.hid rx
  clear rx ob
  have cvx : ∀ s : BW w2.heap.size w2, (convert 59 9 (.slice Ax nx cx)).run Try.prog s.val = .ok (.string ⟨lx.toArray⟩) s.val := fun s => run_conv_str (Rx.out.below s.h)
  go_wp2_with fail
  refine wp_region_below (w2.heap.size) (by kernel_rfl) (by kernel_rfl) ?_
  repeat (first | (refine wpq_row (by rfl) 82 _ rfl _ rfl _ _ _ _ X_2.out (lt_size X_2.out) rfl Try.underlying82 (by kernel_rfl) ?_) | go_big_quiet_step ((first | (go_at_call 56; (with_reducible exact BW.call (Nat.le_refl _) (HMP.out _))) | (go_at_call 57; (with_reducible exact BW.call (Nat.le_refl _) (HQ.out _))))) | quiet_step ((first | (go_at_call 56; (with_reducible exact BW.call (Nat.le_refl _) (HMP.out _))) | (go_at_call 57; (with_reducible exact BW.call (Nat.le_refl _) (HQ.out _))))))
  refine wpQuiet_nil ?_
  intro _ hw'
  obtain ⟨sb, hw''⟩ := hw'
  subst hw''
  have q := sb.h
  generalize sb.val = w3 at q ⊢
  clear sb
  have X_3 := Lib.hid (blk0 X_2.out q)
  have S_3 := Lib.hid (blk0 S_2.out q)
  have Rb_3 := Lib.hid (rd0 Rb_2.out q)
  have B3 := Lib.hid (bel0 B2.out B2.out.size q)
  clear q X_2 S_2 Rb_2 B2
  clear cvx Rx
  go_wp2_with fail
  refine (HG.out _ _ _ Rb_3.out).mono ?_
  rintro e w4 ⟨rfl, q⟩
  have X_4 := Lib.hid (blk0 X_3.out q)
  have S_4 := Lib.hid (blk0 S_3.out q)
  have Rb_4 := Lib.hid (rd0 Rb_3.out q)
  have B4 := Lib.hid (bel0 B3.out B3.out.size q)
  clear q X_3 S_3 Rb_3 B3
  go_upto_region 8 with (first | (refine wpl_set rfl 82 _ _ rfl w4.heap.size #[.int .i64 y.k, .int .i64 y.now, .int .i64 y.ans, .int .i64 y.o.kind, .int .i64 y.o.book, .int .i64 y.o.units, .int .i64 y.o.cust, .int .i64 y.o.amount, .int .i64 y.s.w.b, .int .i64 y.s.w.c, .int .i64 y.s.w.d, .int .i64 y.s.w.m0, .int .i64 y.s.w.m1, .int .i64 y.s.w.m2, .int .i64 y.s.w.p, .int .i64 y.s.ph, .int .i64 y.s.st, .int .i64 y.s.re, .int .i64 y.s.si] rfl rfl 82 #[.int .i64 0, .int .i64 0, .int .i64 0, .int .i64 0, .int .i64 0, .int .i64 0, .int .i64 0, .int .i64 0, .int .i64 0, .int .i64 0, .int .i64 0, .int .i64 0, .int .i64 0, .int .i64 0, .int .i64 0, .int .i64 0, .int .i64 0, .int .i64 0, .int .i64 0] (heap_alloc_new w4 (.cells #[.int .i64 0, .int .i64 0, .int .i64 0, .int .i64 0, .int .i64 0, .int .i64 0, .int .i64 0, .int .i64 0, .int .i64 0, .int .i64 0, .int .i64 0, .int .i64 0, .int .i64 0, .int .i64 0, .int .i64 0, .int .i64 0, .int .i64 0, .int .i64 0, .int .i64 0] 82)) (by kernel_rfl) rfl (by kernel_rfl) ?_; intro w5 hb5 sb5))
  have lt_X_Y : w.heap.size < w4.heap.size := lt_size X_4.out
  have lt_S_Y : (w.heap.size + 1) < w4.heap.size := lt_size S_4.out
  have X_5 := Lib.hid (sb5.old X_4.out)
  have S_5 := Lib.hid (sb5.old S_4.out)
  have Y_5 := Lib.hid hb5
  have B5 := Lib.hid (sb5.below B4.out B4.out.size)
  have Rb_5 := Lib.hid (show Rd w5 w5.heap.size 1 A n (B8 l) from (Rb_4.out.below (sb5.bel ((Below.refl w4.heap.size w4).alloc (Nat.le_refl _) _) (Nat.le_refl _))).more (by rw [sb5.size]; simp))
  clear hb5 sb5 X_4 S_4 B4
  have cv : (convert 59 9 (.slice A n c)).run Try.prog w5 = .ok (.string ⟨l.toArray⟩) w5 := run_conv_str Rb_5.out
  go_wp2_with fail
  refine (HGR.out _).mono ?_
  rintro e w6 ⟨rfl, q⟩
  have X_6 := Lib.hid (blk0 X_5.out q)
  have S_6 := Lib.hid (blk0 S_5.out q)
  have Y_6 := Lib.hid (blk0 Y_5.out q)
  have B6 := Lib.hid (bel0 B5.out B5.out.size q)
  clear q X_5 S_5 Y_5 B5
  clear cv
  go_upto_region 9 with (first | (refine wpl_set rfl 82 _ _ rfl w6.heap.size #[.int .i64 y.k, .int .i64 y.now, .int .i64 y.ans, .int .i64 y.o.kind, .int .i64 y.o.book, .int .i64 y.o.units, .int .i64 y.o.cust, .int .i64 y.o.amount, .int .i64 y.s.w.b, .int .i64 y.s.w.c, .int .i64 y.s.w.d, .int .i64 y.s.w.m0, .int .i64 y.s.w.m1, .int .i64 y.s.w.m2, .int .i64 y.s.w.p, .int .i64 y.s.ph, .int .i64 y.s.st, .int .i64 y.s.re, .int .i64 y.s.si] rfl rfl 82 #[.int .i64 0, .int .i64 0, .int .i64 0, .int .i64 0, .int .i64 0, .int .i64 0, .int .i64 0, .int .i64 0, .int .i64 0, .int .i64 0, .int .i64 0, .int .i64 0, .int .i64 0, .int .i64 0, .int .i64 0, .int .i64 0, .int .i64 0, .int .i64 0, .int .i64 0] (heap_alloc_new w6 (.cells #[.int .i64 0, .int .i64 0, .int .i64 0, .int .i64 0, .int .i64 0, .int .i64 0, .int .i64 0, .int .i64 0, .int .i64 0, .int .i64 0, .int .i64 0, .int .i64 0, .int .i64 0, .int .i64 0, .int .i64 0, .int .i64 0, .int .i64 0, .int .i64 0, .int .i64 0] 82)) (by kernel_rfl) rfl (by kernel_rfl) ?_; intro w7 hb7 sb7))
  have lt_X_Z : w.heap.size < w6.heap.size := lt_size X_6.out
  have lt_S_Z : (w.heap.size + 1) < w6.heap.size := lt_size S_6.out
  have lt_Y_Z : w4.heap.size < w6.heap.size := lt_size Y_6.out
  have X_7 := Lib.hid (sb7.old X_6.out)
  have S_7 := Lib.hid (sb7.old S_6.out)
  have Y_7 := Lib.hid (sb7.old Y_6.out)
  have Z_7 := Lib.hid hb7
  have B7 := Lib.hid (sb7.below B6.out B6.out.size)
  clear hb7 sb7 X_6 S_6 Y_6 B6
  go_wp2_with fail
  refine wp_region_below (w7.heap.size) (by kernel_rfl) (by kernel_rfl) ?_
  repeat (first | (refine wpq_row (by rfl) 82 _ rfl _ rfl _ _ _ _ Y_7.out (lt_size Y_7.out) rfl Try.underlying82 (by kernel_rfl) ?_) | (refine wpq_row (by rfl) 82 _ rfl _ rfl _ _ _ _ Z_7.out (lt_size Z_7.out) rfl Try.underlying82 (by kernel_rfl) ?_) | (refine wpq_row (by rfl) 82 _ rfl _ rfl _ _ _ _ X_7.out (lt_size X_7.out) rfl Try.underlying82 (by kernel_rfl) ?_) | (refine wpq_row (by rfl) 82 _ rfl _ rfl _ _ _ _ S_7.out (lt_size S_7.out) rfl Try.underlying82 (by kernel_rfl) ?_) | go_big_quiet_step ((first | (go_at_call 53; (with_reducible exact BW.call (Nat.le_refl _) (T.out _))) | (go_at_call 60; (with_reducible exact BW.call (Nat.le_refl _) (HS1.out _))) | (go_at_call 60; (with_reducible exact BW.call (Nat.le_refl _) (HS2.out _))))) | quiet_step ((first | (go_at_call 53; (with_reducible exact BW.call (Nat.le_refl _) (T.out _))) | (go_at_call 60; (with_reducible exact BW.call (Nat.le_refl _) (HS1.out _))) | (go_at_call 60; (with_reducible exact BW.call (Nat.le_refl _) (HS2.out _))))))
  refine wpQuiet_nil ?_
  intro _ hw'
  obtain ⟨sb, hw''⟩ := hw'
  subst hw''
  have q := sb.h
  generalize sb.val = w8 at q ⊢
  clear sb
  have X_8 := Lib.hid (blk0 X_7.out q)
  have S_8 := Lib.hid (blk0 S_7.out q)
  have Y_8 := Lib.hid (blk0 Y_7.out q)
  have Z_8 := Lib.hid (blk0 Z_7.out q)
  have B8 := Lib.hid (bel0 B7.out B7.out.size q)
  clear q X_7 S_7 Y_7 Z_7 B7
  go_wp2
  go_ret
  exact ⟨rfl, B8.out⟩
theorem recasks_walk (x s : R19) (A : Option Addr) (n c : Nat) (l : List UInt8) (w : World) (hr : Rd w w.heap.size 1 A n (B8 l))  : Calls Try.prog 15 #[x.val, s.val, .slice A n c] w fun e w' => e = .returned (.bool true) ∧ Below w.heap.size w w' := by
  by_cases hn : n ≤ 150
  · by_cases hx : MayR x
    · exact recasks_yes x s A n c l w hr hn hx
    · exact recasks_no x s A n c l w hr hn hx
  · exact recasks_long x s A n c l w hr (by omega)
end Go.Proofs.Ytplgodfhhlnojaa
