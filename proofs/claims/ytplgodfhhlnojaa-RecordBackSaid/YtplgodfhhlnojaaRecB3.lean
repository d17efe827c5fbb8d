/- The law RecordBack, walked in a case (printed by genrecback.py). -/
import Derived.Test.YtplgodfhhlnojaaRecB0
import Derived.Outline
set_option linter.unusedSimpArgs false
set_option linter.unusedVariables false
namespace Go.Proofs.Ytplgodfhhlnojaa
open Go.RowKit
set_option maxRecDepth 100000 in
set_option maxHeartbeats 8000000 in
theorem recback_yf (x s : R19) (at_ : Int) (cb : UInt8) (w : World) (hx : MayR x) (hs : MayR s) (d : decide (x = s) = false) : Calls Try.prog 16 #[x.val, s.val, .int .i64 at_, .int .u8 cb.toNat] w fun e w' => e = .returned (.bool true) ∧ Below w.heap.size w w' := by
  have T := Lib.hid told17
  have HP := Lib.hid (fun W => encR_yes x W hx)
  obtain ⟨l, el⟩ : ∃ l, encR x = l := ⟨_, rfl⟩
  obtain ⟨n, en⟩ : ∃ n, l.length = n := ⟨_, rfl⟩
  have n200 : n ≤ 200 := by rw [← en, ← el]; exact encR_le x
  have n1 : 1 ≤ n := by rw [← en, ← el]; exact encR_pos x
  obtain ⟨i, hi, hil⟩ := u_rem at_ (n : Int) (by omega)
  replace hil : i < n := by omega
  have jn : ((n : Int) == 0) = false := beq_eq_false_iff_ne.2 (by omega)
  have g1 : gR l = (x, 0) := el ▸ gR_yes x hx
  have g2 : gR (l.take i) = (zR, 2) := by have := gR_cut x hx i (by rw [el, en]; exact hil); rwa [el] at this
  have g3 : gR (l ++ [cb]) = (zR, 2) := by have := gR_more x hx cb; rwa [el] at this
  have G1 := Lib.hid (fun A c (w : World) (hr : Rd w w.heap.size 1 A n (B8 l)) => recget_c A n c l w hr (by omega) g1)
  have G2 := Lib.hid (fun A c (w : World) (hr : Rd w w.heap.size 1 A i (B8 (l.take i))) => recget_c A i c (l.take i) w hr (by omega) g2)
  have G3 := Lib.hid (fun A c m (hm : m ≤ 300) (w : World) (hr : Rd w w.heap.size 1 A m (B8 (l ++ [cb]))) => recget_c A m c (l ++ [cb]) w hr (by omega) g3)
  have sx := sameRec x x true (by simp)
  have HQ := Lib.hid (fun W => encR_yes s W hs)
  obtain ⟨lz, elz⟩ : ∃ l, encR s = l := ⟨_, rfl⟩
  obtain ⟨nz, enz⟩ : ∃ n, lz.length = n := ⟨_, rfl⟩
  have sy := sameRec x s false d
  have us : (l == lz) = false := by rw [← el, ← elz, encR_same x s hx hs]; exact d
  rw [elz] at HQ
  have US := Lib.hid us
  have NZ := Lib.hid enz
  clear us d elz enz
  rw [el] at HP
  have EN := Lib.hid en
  clear g1 g2 g3 hx en el hs
  unfold RBy at HP HQ
  simp only [R19.val, zR, zO, z11] at HP HQ G1 G2 G3
  unfold R19.val
  obtain ⟨f1, f2, f3⟩ := two_boxes w (.cells #[.int .i64 x.k, .int .i64 x.now, .int .i64 x.ans, .int .i64 x.o.kind, .int .i64 x.o.book, .int .i64 x.o.units, .int .i64 x.o.cust, .int .i64 x.o.amount, .int .i64 x.s.w.b, .int .i64 x.s.w.c, .int .i64 x.s.w.d, .int .i64 x.s.w.m0, .int .i64 x.s.w.m1, .int .i64 x.s.w.m2, .int .i64 x.s.w.p, .int .i64 x.s.ph, .int .i64 x.s.st, .int .i64 x.s.re, .int .i64 x.s.si] 82) (.cells #[.int .i64 s.k, .int .i64 s.now, .int .i64 s.ans, .int .i64 s.o.kind, .int .i64 s.o.book, .int .i64 s.o.units, .int .i64 s.o.cust, .int .i64 s.o.amount, .int .i64 s.s.w.b, .int .i64 s.s.w.c, .int .i64 s.s.w.d, .int .i64 s.s.w.m0, .int .i64 s.s.w.m1, .int .i64 s.s.w.m2, .int .i64 s.s.w.p, .int .i64 s.s.ph, .int .i64 s.s.st, .int .i64 s.s.re, .int .i64 s.s.si] 82)
  go_enter Try.func16, Try.ntmps16
  go_upto_region 1 with fail
  generalize (w.alloc (.cells #[.int .i64 x.k, .int .i64 x.now, .int .i64 x.ans, .int .i64 x.o.kind, .int .i64 x.o.book, .int .i64 x.o.units, .int .i64 x.o.cust, .int .i64 x.o.amount, .int .i64 x.s.w.b, .int .i64 x.s.w.c, .int .i64 x.s.w.d, .int .i64 x.s.w.m0, .int .i64 x.s.w.m1, .int .i64 x.s.w.m2, .int .i64 x.s.w.p, .int .i64 x.s.ph, .int .i64 x.s.st, .int .i64 x.s.re, .int .i64 x.s.si] 82)).alloc (.cells #[.int .i64 s.k, .int .i64 s.now, .int .i64 s.ans, .int .i64 s.o.kind, .int .i64 s.o.book, .int .i64 s.o.units, .int .i64 s.o.cust, .int .i64 s.o.amount, .int .i64 s.s.w.b, .int .i64 s.s.w.c, .int .i64 s.s.w.d, .int .i64 s.s.w.m0, .int .i64 s.s.w.m1, .int .i64 s.s.w.m2, .int .i64 s.s.w.p, .int .i64 s.s.ph, .int .i64 s.s.st, .int .i64 s.s.re, .int .i64 s.s.si] 82) = w0 at f1 f2 f3 ⊢
  generalize w.heap.size + 1 = gS at f2 ⊢
  have X_0 := Lib.hid f1
  have S_0 := Lib.hid f2
  have B0 := Lib.hid f3
  clear f1 f2 f3
  go_wp2_with (first | (refine wpl_row (by rfl) 82 _ rfl _ rfl _ _ _ _ X_0.out rfl Try.underlying82 (by kernel_rfl) ?_))
  refine (HP.out _).mono ?_
  rintro e w1 ⟨vx, rfl, ob, q⟩
  have X_1 := Lib.hid (blk0 X_0.out q)
  have S_1 := Lib.hid (blk0 S_0.out q)
  have B1 := Lib.hid (bel0 B0.out B0.out.size q)
  clear q X_0 S_0 B0
  obtain ⟨Ax, cx, rfl, hcx, hcm, rx⟩ := ob.form
  rw [EN.out] at rx hcx ⊢
  unfold maxLen at hcm
  have Rx := Lib.hid rx
  clear rx ob
  go_wp2_with fail
  refine (G1.out _ _ _ Rx.out).mono ?_
  rintro e w2 ⟨rfl, q⟩
  have X_2 := Lib.hid (blk0 X_1.out q)
  have S_2 := Lib.hid (blk0 S_1.out q)
  have Rx_2 := Lib.hid (rd0 Rx.out q)
  have B2 := Lib.hid (bel0 B1.out B1.out.size q)
  clear q X_1 S_1 Rx B1
  go_upto_region 5 with (first | (refine wpl_set rfl 82 _ _ rfl w2.heap.size #[.int .i64 x.k, .int .i64 x.now, .int .i64 x.ans, .int .i64 x.o.kind, .int .i64 x.o.book, .int .i64 x.o.units, .int .i64 x.o.cust, .int .i64 x.o.amount, .int .i64 x.s.w.b, .int .i64 x.s.w.c, .int .i64 x.s.w.d, .int .i64 x.s.w.m0, .int .i64 x.s.w.m1, .int .i64 x.s.w.m2, .int .i64 x.s.w.p, .int .i64 x.s.ph, .int .i64 x.s.st, .int .i64 x.s.re, .int .i64 x.s.si] rfl rfl 82 #[.int .i64 0, .int .i64 0, .int .i64 0, .int .i64 0, .int .i64 0, .int .i64 0, .int .i64 0, .int .i64 0, .int .i64 0, .int .i64 0, .int .i64 0, .int .i64 0, .int .i64 0, .int .i64 0, .int .i64 0, .int .i64 0, .int .i64 0, .int .i64 0, .int .i64 0] (heap_alloc_new w2 (.cells #[.int .i64 0, .int .i64 0, .int .i64 0, .int .i64 0, .int .i64 0, .int .i64 0, .int .i64 0, .int .i64 0, .int .i64 0, .int .i64 0, .int .i64 0, .int .i64 0, .int .i64 0, .int .i64 0, .int .i64 0, .int .i64 0, .int .i64 0, .int .i64 0, .int .i64 0] 82)) (by kernel_rfl) rfl (by kernel_rfl) ?_; intro w3 hb3 sb3))
  have lt_X_G : w.heap.size < w2.heap.size := lt_size X_2.out
  have lt_S_G : gS < w2.heap.size := lt_size S_2.out
  have X_3 := Lib.hid (sb3.old X_2.out)
  have S_3 := Lib.hid (sb3.old S_2.out)
  have G_3 := Lib.hid hb3
  have B3 := Lib.hid (sb3.below B2.out B2.out.size)
  have Rx_3 := Lib.hid (show Rd w3 w3.heap.size 1 Ax n (Go.Proofs.Ytplgodfhhlnojaa.B8 l) from (Rx_2.out.below (sb3.bel ((Below.refl w2.heap.size w2).alloc (Nat.le_refl _) _) (Nat.le_refl _))).more (by rw [sb3.size]; simp))
  clear hb3 sb3 X_2 S_2 B2
  clear Rx_2
  go_wp2_with (first | (refine wpl_row (by rfl) 82 _ rfl _ rfl _ _ _ _ G_3.out rfl Try.underlying82 (by kernel_rfl) ?_) | (refine wpl_row (by rfl) 82 _ rfl _ rfl _ _ _ _ X_3.out rfl Try.underlying82 (by kernel_rfl) ?_))
  refine (G2.out _ _ _ (rd_takeB Rx_3.out (by omega))).mono ?_
  rintro e w4 ⟨rfl, q⟩
  have X_4 := Lib.hid (blk0 X_3.out q)
  have S_4 := Lib.hid (blk0 S_3.out q)
  have G_4 := Lib.hid (blk0 G_3.out q)
  have Rx_4 := Lib.hid (rd0 Rx_3.out q)
  have B4 := Lib.hid (bel0 B3.out B3.out.size q)
  clear q X_3 S_3 G_3 Rx_3 B3
  go_upto_region 8 with (first | (refine wpl_set rfl 82 _ _ rfl w4.heap.size #[.int .i64 0, .int .i64 0, .int .i64 0, .int .i64 0, .int .i64 0, .int .i64 0, .int .i64 0, .int .i64 0, .int .i64 0, .int .i64 0, .int .i64 0, .int .i64 0, .int .i64 0, .int .i64 0, .int .i64 0, .int .i64 0, .int .i64 0, .int .i64 0, .int .i64 0] rfl rfl 82 #[.int .i64 0, .int .i64 0, .int .i64 0, .int .i64 0, .int .i64 0, .int .i64 0, .int .i64 0, .int .i64 0, .int .i64 0, .int .i64 0, .int .i64 0, .int .i64 0, .int .i64 0, .int .i64 0, .int .i64 0, .int .i64 0, .int .i64 0, .int .i64 0, .int .i64 0] (heap_alloc_new w4 (.cells #[.int .i64 0, .int .i64 0, .int .i64 0, .int .i64 0, .int .i64 0, .int .i64 0, .int .i64 0, .int .i64 0, .int .i64 0, .int .i64 0, .int .i64 0, .int .i64 0, .int .i64 0, .int .i64 0, .int .i64 0, .int .i64 0, .int .i64 0, .int .i64 0, .int .i64 0] 82)) (by kernel_rfl) rfl (by kernel_rfl) ?_; intro w5 hb5 sb5))
  have lt_X_H : w.heap.size < w4.heap.size := lt_size X_4.out
  have lt_S_H : gS < w4.heap.size := lt_size S_4.out
  have lt_G_H : w2.heap.size < w4.heap.size := lt_size G_4.out
  have X_5 := Lib.hid (sb5.old X_4.out)
  have S_5 := Lib.hid (sb5.old S_4.out)
  have G_5 := Lib.hid (sb5.old G_4.out)
  have H_5 := Lib.hid hb5
  have B5 := Lib.hid (sb5.below B4.out B4.out.size)
  have Rx_5 := Lib.hid (show Rd w5 w5.heap.size 1 Ax n (Go.Proofs.Ytplgodfhhlnojaa.B8 l) from (Rx_4.out.below (sb5.bel ((Below.refl w4.heap.size w4).alloc (Nat.le_refl _) _) (Nat.le_refl _))).more (by rw [sb5.size]; simp))
  clear hb5 sb5 X_4 S_4 G_4 B4
  clear Rx_4
  go_wp2_with (at_builtin; go_must (refine wpl_app rfl (.tmp 63) (.tmp 64) rfl w5.heap.size _ [] rfl (OB.lit w5 _ [] #[] 0 rfl rfl (Nat.le_refl _) (by unfold maxLen; omega)) w5.heap.size _ _ _ _ rfl (Rx_5.out.alloc (Nat.le_refl _) _) ?_ ?_ ?_))
  · simp; omega
  · simp
  intro v2 u2 h2 g2 a2
  have C2 := Lib.hid (show Below w5.heap.size w5 u2 from ((Below.refl _ _).alloc (Nat.le_refl _) _).grown g2 (by simp) (by intro k hk; cases hk; exact Nat.le_refl _))
  have O2 := Lib.hid h2
  have LL2 := Lib.hid h2.lt
  clear h2 g2 a2
  go_wp2_with (at_builtin; go_must (refine wpl_app rfl (.tmp 65) (.tmp 67) rfl w5.heap.size _ _ rfl (O2.out.alloc _) _ _ 1 1 [cb] rfl (rd_litB u2 [cb] #[.int .u8 cb.toNat] 1 rfl rfl _ _) ?_ ?_ ?_))
  · have := EN.out; simp; omega
  · have := C2.out.size; simp; omega
  intro v3 w6 h3 g3 a3
  obtain ⟨A3, c3, rfl, hc3, _, r3⟩ := h3.form
  have len3 : (l ++ [cb]).length ≤ 300 := by have := EN.out; simp; omega
  obtain ⟨m3, hm3⟩ : ∃ m, (l ++ [cb]).length = m := ⟨_, rfl⟩
  rw [hm3] at r3 len3
  simp only [List.nil_append, hm3]
  clear hm3 hc3
  have q : Below w5.heap.size w5 w6 := (C2.out.alloc C2.out.size _).grown g3 (by have := C2.out.size; simp; omega) (fun k hk => (LL2.out k hk).1)
  have R3 := Lib.hid (show Rd w6 w6.heap.size 1 A3 m3 (B8 (l ++ [cb])) from r3)
  clear h3 g3 a3 r3 C2 O2 LL2
  have X_6 := Lib.hid (blk0 X_5.out q)
  have S_6 := Lib.hid (blk0 S_5.out q)
  have G_6 := Lib.hid (blk0 G_5.out q)
  have H_6 := Lib.hid (blk0 H_5.out q)
  have Rx_6 := Lib.hid (rd0 Rx_5.out q)
  have B6 := Lib.hid (bel0 B5.out B5.out.size q)
  clear q X_5 S_5 G_5 H_5 Rx_5 B5
  go_wp2_with fail
  refine (G3.out _ _ _ len3 _ R3.out).mono ?_
  rintro e w7 ⟨rfl, q⟩
  have X_7 := Lib.hid (blk0 X_6.out q)
  have S_7 := Lib.hid (blk0 S_6.out q)
  have G_7 := Lib.hid (blk0 G_6.out q)
  have H_7 := Lib.hid (blk0 H_6.out q)
  have Rx_7 := Lib.hid (rd0 Rx_6.out q)
  have B7 := Lib.hid (bel0 B6.out B6.out.size q)
  clear q X_6 S_6 G_6 H_6 Rx_6 B6
  clear R3 len3
  go_upto_region 9 with (first | (refine wpl_set rfl 82 _ _ rfl w7.heap.size #[.int .i64 0, .int .i64 0, .int .i64 0, .int .i64 0, .int .i64 0, .int .i64 0, .int .i64 0, .int .i64 0, .int .i64 0, .int .i64 0, .int .i64 0, .int .i64 0, .int .i64 0, .int .i64 0, .int .i64 0, .int .i64 0, .int .i64 0, .int .i64 0, .int .i64 0] rfl rfl 82 #[.int .i64 0, .int .i64 0, .int .i64 0, .int .i64 0, .int .i64 0, .int .i64 0, .int .i64 0, .int .i64 0, .int .i64 0, .int .i64 0, .int .i64 0, .int .i64 0, .int .i64 0, .int .i64 0, .int .i64 0, .int .i64 0, .int .i64 0, .int .i64 0, .int .i64 0] (heap_alloc_new w7 (.cells #[.int .i64 0, .int .i64 0, .int .i64 0, .int .i64 0, .int .i64 0, .int .i64 0, .int .i64 0, .int .i64 0, .int .i64 0, .int .i64 0, .int .i64 0, .int .i64 0, .int .i64 0, .int .i64 0, .int .i64 0, .int .i64 0, .int .i64 0, .int .i64 0, .int .i64 0] 82)) (by kernel_rfl) rfl (by kernel_rfl) ?_; intro w8 hb8 sb8))
  have lt_X_J : w.heap.size < w7.heap.size := lt_size X_7.out
  have lt_S_J : gS < w7.heap.size := lt_size S_7.out
  have lt_G_J : w2.heap.size < w7.heap.size := lt_size G_7.out
  have lt_H_J : w4.heap.size < w7.heap.size := lt_size H_7.out
  have X_8 := Lib.hid (sb8.old X_7.out)
  have S_8 := Lib.hid (sb8.old S_7.out)
  have G_8 := Lib.hid (sb8.old G_7.out)
  have H_8 := Lib.hid (sb8.old H_7.out)
  have J_8 := Lib.hid hb8
  have B8 := Lib.hid (sb8.below B7.out B7.out.size)
  have Rx_8 := Lib.hid (show Rd w8 w8.heap.size 1 Ax n (Go.Proofs.Ytplgodfhhlnojaa.B8 l) from (Rx_7.out.below (sb8.bel ((Below.refl w7.heap.size w7).alloc (Nat.le_refl _) _) (Nat.le_refl _))).more (by rw [sb8.size]; simp))
  clear hb8 sb8 X_7 S_7 G_7 H_7 B7
  clear Rx_7
  go_wp2_with (first | (refine wpl_row (by rfl) 82 _ rfl _ rfl _ _ _ _ S_8.out rfl Try.underlying82 (by kernel_rfl) ?_))
  refine (HQ.out _).mono ?_
  rintro e w9 ⟨vz, rfl, ob, q⟩
  have X_9 := Lib.hid (blk0 X_8.out q)
  have S_9 := Lib.hid (blk0 S_8.out q)
  have G_9 := Lib.hid (blk0 G_8.out q)
  have H_9 := Lib.hid (blk0 H_8.out q)
  have J_9 := Lib.hid (blk0 J_8.out q)
  have Rx_9 := Lib.hid (rd0 Rx_8.out q)
  have B9 := Lib.hid (bel0 B8.out B8.out.size q)
  clear q X_8 S_8 G_8 H_8 J_8 Rx_8 B8
  obtain ⟨Az, cz, rfl, hcz, _, rz⟩ := ob.form
  rw [NZ.out] at rz hcz ⊢
  have Rz := Lib.hid rz
  clear rz ob
  have cvx : ∀ s : BW w9.heap.size w9, (convert 59 9 (.slice Ax n cx)).run Try.prog s.val = .ok (.string ⟨l.toArray⟩) s.val := fun s => run_conv_str (Rx_9.out.below s.h)
  have cvz : ∀ s : BW w9.heap.size w9, (convert 59 9 (.slice Az nz cz)).run Try.prog s.val = .ok (.string ⟨lz.toArray⟩) s.val := fun s => run_conv_str (Rz.out.below s.h)
  have us := US.out
  go_wp2_with fail
  refine wp_region_below (w9.heap.size) (by kernel_rfl) (by kernel_rfl) ?_
  repeat (first | (refine wpq_row (by rfl) 82 _ rfl _ rfl _ _ _ _ X_9.out (lt_size X_9.out) rfl Try.underlying82 (by kernel_rfl) ?_) | (refine wpq_row (by rfl) 82 _ rfl _ rfl _ _ _ _ S_9.out (lt_size S_9.out) rfl Try.underlying82 (by kernel_rfl) ?_) | go_big_quiet_step (((go_at_call 53; (with_reducible exact BW.call (Nat.le_refl _) (T.out _))))) | quiet_step (((go_at_call 53; (with_reducible exact BW.call (Nat.le_refl _) (T.out _))))))
  refine wpQuiet_nil ?_
  intro _ hw'
  obtain ⟨sb, hw''⟩ := hw'
  subst hw''
  have q := sb.h
  generalize sb.val = w10 at q ⊢
  clear sb
  have X_10 := Lib.hid (blk0 X_9.out q)
  have S_10 := Lib.hid (blk0 S_9.out q)
  have G_10 := Lib.hid (blk0 G_9.out q)
  have H_10 := Lib.hid (blk0 H_9.out q)
  have J_10 := Lib.hid (blk0 J_9.out q)
  have Rx_10 := Lib.hid (rd0 Rx_9.out q)
  have B10 := Lib.hid (bel0 B9.out B9.out.size q)
  clear q X_9 S_9 G_9 H_9 J_9 Rx_9 B9
  go_wp2
  go_ret
  exact ⟨rfl, B10.out⟩
end Go.Proofs.Ytplgodfhhlnojaa
