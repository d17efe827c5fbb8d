/- record.Put, walked (printed by genrecput.py). -/
import Derived.Test.YtplgodfhhlnojaaRecM
import Derived.Test.YtplgodfhhlnojaaS8
set_option linter.unusedSimpArgs false
set_option linter.unusedVariables false
namespace Go.Proofs.Ytplgodfhhlnojaa
open Go.RowKit
theorem recmay_is (x : R19) (b : Bool) (h : decide (MayR x) = b) (w : World) : Calls Try.prog 56 #[x.val] w fun e w' => e = .returned (.bool b) ∧ Below w.heap.size w w' := recmay_c x b h w
set_option maxRecDepth 100000 in
set_option maxHeartbeats 4000000 in
theorem encR_no (x : R19) (w : World) (h : ¬ MayR x) : Calls Try.prog 55 #[x.val] w fun e w' => e = .returned (.tuple #[.slice none 0 0, .int .i64 1]) ∧ Below w.heap.size w w' := by
  have HM := Lib.hid (recmay_is x false (decide_eq_false h))
  clear h
  obtain ⟨k, now, ans, o, s⟩ := x
  unfold R19.val at *
  simp only at *
  go_enter Try.func55, Try.ntmps55
  go_wp2_with (refine wpl_row (by rfl) 82 _ rfl _ rfl _ _ _ _ (heap_alloc_new w (.cells #[.int .i64 k, .int .i64 now, .int .i64 ans, .int .i64 o.kind, .int .i64 o.book, .int .i64 o.units, .int .i64 o.cust, .int .i64 o.amount, .int .i64 s.w.b, .int .i64 s.w.c, .int .i64 s.w.d, .int .i64 s.w.m0, .int .i64 s.w.m1, .int .i64 s.w.m2, .int .i64 s.w.p, .int .i64 s.ph, .int .i64 s.st, .int .i64 s.re, .int .i64 s.si] 82)) rfl Try.underlying82 (by kernel_rfl) ?_)
  refine (HM.out _).mono ?_
  rintro e w1 ⟨rfl, q⟩
  have B1 := Lib.hid (bel1 (Below.refl w.heap.size w) (Nat.le_refl _) q)
  clear q
  go_wp2
  go_ret2
  exact ⟨rfl, B1.out⟩
set_option maxRecDepth 100000 in
set_option maxHeartbeats 4000000 in
theorem encR_yes1 (now ans : Int) (o : O5) (s : S11) (w : World) (h : MayR ⟨1, now, ans, o, s⟩) : Calls Try.prog 55 #[R19.val ⟨1, now, ans, o, s⟩] w (RBy w (encR ⟨1, now, ans, o, s⟩) 0) := by
  have HM := Lib.hid (recmay_is ⟨1, now, ans, o, s⟩ true (decide_eq_true h))
  obtain ⟨_, In, Ia, Io, Is⟩ := MayR_in _ h
  have hm := h.2
  simp only at In Ia Io Is hm
  have hmo : MayO o := by rcases hm with ⟨_, e, _⟩ | ⟨e, _⟩ | ⟨e, _⟩ <;> first | exact e | (simp at e)
  have HP := Lib.hid (fun W => encO_yes o W hmo Io)
  obtain ⟨Lx, ex⟩ : ∃ L, encO o = L := ⟨_, rfl⟩
  have lx : Lx.length ≤ 50 := by rw [← ex]; exact encO_le o
  have HE : encR ⟨1, now, ans, o, s⟩ = enc 1 ++ enc now ++ encT Lx ++ enc ans := by unfold encR; simp [ex]
  have ln := enc_le now
  have lk := enc_le 1
  have la := enc_le ans
  have lt := encT_le Lx
  rw [ex] at HP
  unfold RBy O5.val at HP
  obtain ⟨LE, eLE⟩ : ∃ L, encR ⟨1, now, ans, o, s⟩ = L := ⟨_, rfl⟩
  rw [eLE] at HE ⊢
  obtain ⟨e1, ee1⟩ : ∃ L, enc 1 = L := ⟨_, rfl⟩
  obtain ⟨e2, ee2⟩ : ∃ L, enc now = L := ⟨_, rfl⟩
  rw [ee1] at lk
  rw [ee2] at ln
  rw [ee1, ee2] at HE
  have E1 := Lib.hid ee1
  have E2 := Lib.hid ee2
  obtain ⟨e4, ee4⟩ : ∃ L, enc ans = L := ⟨_, rfl⟩
  rw [ee4] at la HE
  have E4 := Lib.hid ee4
  obtain ⟨e3, ee3⟩ : ∃ L, encT Lx = L := ⟨_, rfl⟩
  rw [ee3] at lt HE
  have E3 := Lib.hid ee3
  have HEE := Lib.hid HE
  have IN := Lib.hid In
  have IA := Lib.hid Ia
  clear h hm In Ia Io Is eLE ee1 ee2 HE ee3 ex ee4 hmo
  unfold R19.val at *
  simp only at HM ⊢
  unfold RBy
  go_enter Try.func55, Try.ntmps55
  go_wp2_with (refine wpl_row (by rfl) 82 _ rfl _ rfl _ _ _ _ (heap_alloc_new w (.cells #[.int .i64 1, .int .i64 now, .int .i64 ans, .int .i64 o.kind, .int .i64 o.book, .int .i64 o.units, .int .i64 o.cust, .int .i64 o.amount, .int .i64 s.w.b, .int .i64 s.w.c, .int .i64 s.w.d, .int .i64 s.w.m0, .int .i64 s.w.m1, .int .i64 s.w.m2, .int .i64 s.w.p, .int .i64 s.ph, .int .i64 s.st, .int .i64 s.re, .int .i64 s.si] 82)) rfl Try.underlying82 (by kernel_rfl) ?_)
  refine (HM.out _).mono ?_
  rintro e w1 ⟨rfl, q⟩
  have S1 := Lib.hid (new1 q)
  have L1 := Lib.hid (bel1 (Below.refl w.heap.size w) (Nat.le_refl _) q)
  have hz1 : w.heap.size < w1.heap.size := lt_size S1.out
  clear q HM
  have V1 := Lib.hid (WB.new w1 w1.heap.size (Nat.le_refl _))
  have d0 : (w1.alloc (.cells #[.slice none 0 0] 103)).cell? ⟨w.heap.size, 0, none⟩ = some (.int .i64 1) := (cellsB (i := 0) (alc S1.out)).trans rfl
  go_wp2_with fail
  refine (wint_is V1.out (by simp) (by omega) (by omega) (l' := e1) (by rw [← E1.out]; rfl)).mono ?_
  rintro e w2 ⟨rfl, qw, qb, _⟩
  have V2 := Lib.hid qw
  have S2 := Lib.hid ((qb.block _ hz1).trans (alc S1.out))
  have L2 := Lib.hid ((L1.out.alloc L1.out.size _).trans (qb.mono L1.out.size))
  have b2 := qb.size
  clear qw qb d0 S1 L1 V1
  have d1 : w2.cell? ⟨w.heap.size, 1, none⟩ = some (.int .i64 now) := (cellsB (i := 1) S2.out).trans rfl
  go_wp2_with fail
  refine (wint_is V2.out (by omega) IN.out.1 IN.out.2 (l' := e1 ++ e2) (by rw [E2.out])).mono ?_
  rintro e w3 ⟨rfl, qw, qb, _⟩
  have V3 := Lib.hid qw
  have S3 := Lib.hid ((qb.block _ hz1).trans S2.out)
  have L3 := Lib.hid (L2.out.trans (qb.mono (by omega)))
  clear qw qb d1 S2 L2 V2
  have d0 : w3.cell? ⟨w.heap.size, 0, none⟩ = some (.int .i64 1) := (cellsB (i := 0) S3.out).trans rfl
  go_wp2_with (refine wpl_load (by rfl) 28 _ rfl ⟨w.heap.size, 3, none⟩ rfl [.int .i64 o.kind, .int .i64 o.book, .int .i64 o.units, .int .i64 o.cust, .int .i64 o.amount] _ (seg_at S3.out [.int .i64 o.kind, .int .i64 o.book, .int .i64 o.units, .int .i64 o.cust, .int .i64 o.amount] rfl) (by rfl) Try.underlying28 (by kernel_rfl) ?_)
  refine (HP.out _).mono ?_
  rintro e w4 ⟨v, rfl, ob, q⟩
  obtain ⟨A, c, rfl, _, _, rx⟩ := ob.form
  obtain ⟨nx, hnx⟩ : ∃ n, Lx.length = n := ⟨_, rfl⟩
  rw [hnx] at rx ⊢
  have Rx := Lib.hid rx
  have V4 := Lib.hid (V3.out.below q (Nat.le_refl _))
  have S4 := Lib.hid (blk0 S3.out q)
  have L4 := Lib.hid (bel0 L3.out L3.out.size q)
  clear q ob rx d0 S3 L3 V3 HP
  have cv : (convert 59 9 (.slice A nx c)).run Try.prog w4 = .ok (.string ⟨Lx.toArray⟩) w4 := run_conv_str Rx.out
  have HNX := Lib.hid hnx
  clear hnx
  go_wp2_with fail
  clear cv
  refine (wtext_is V4.out (by simp; omega) (by show Lx.toArray.size ≤ _; have := HNX.out; simp; omega) (l' := e1 ++ e2 ++ e3) (by rw [← E3.out])).mono ?_
  rintro e w5 ⟨rfl, qw, qb, _⟩
  have V5 := Lib.hid qw
  have S5 := Lib.hid ((qb.block _ hz1).trans S4.out)
  have L5 := Lib.hid (L4.out.trans (qb.mono (by omega)))
  clear qw qb S4 L4 V4 Rx
  have d2 : w5.cell? ⟨w.heap.size, 2, none⟩ = some (.int .i64 ans) := (cellsB (i := 2) S5.out).trans rfl
  go_wp2_with fail
  refine (wint_is V5.out (by simp; omega) IA.out.1 IA.out.2 (l' := e1 ++ e2 ++ e3 ++ e4) (by rw [E4.out])).mono ?_
  rintro e w6 ⟨rfl, qw, qb, _⟩
  have V6 := Lib.hid qw
  have L6 := Lib.hid (L5.out.trans (qb.mono (by omega)))
  clear qw qb d2 S5 L5 V5
  go_wp2_with fail
  refine (wbytes_c _ _ _ _ V6.out (by simp; omega)).mono ?_
  rintro e w9 ⟨v9, rfl, ob, q⟩
  have L9 := Lib.hid (bel0 L6.out L6.out.size q)
  have V9 := Lib.hid (ob.mono (base' := w.heap.size) L6.out.size)
  clear ob q
  go_wp2
  go_ret2
  refine ⟨v9, rfl, ?_, L9.out⟩
  rw [HEE.out]
  exact V9.out
set_option maxRecDepth 100000 in
set_option maxHeartbeats 4000000 in
theorem encR_yes2 (now ans : Int) (o : O5) (s : S11) (w : World) (h : MayR ⟨2, now, ans, o, s⟩) : Calls Try.prog 55 #[R19.val ⟨2, now, ans, o, s⟩] w (RBy w (encR ⟨2, now, ans, o, s⟩) 0) := by
  have HM := Lib.hid (recmay_is ⟨2, now, ans, o, s⟩ true (decide_eq_true h))
  obtain ⟨_, In, Ia, Io, Is⟩ := MayR_in _ h
  have hm := h.2
  simp only at In Ia Io Is hm
  have HE : encR ⟨2, now, ans, o, s⟩ = enc 2 ++ enc now := by unfold encR; simp
  have ln := enc_le now
  have lk := enc_le 2
  have la := enc_le ans
  obtain ⟨LE, eLE⟩ : ∃ L, encR ⟨2, now, ans, o, s⟩ = L := ⟨_, rfl⟩
  rw [eLE] at HE ⊢
  obtain ⟨e1, ee1⟩ : ∃ L, enc 2 = L := ⟨_, rfl⟩
  obtain ⟨e2, ee2⟩ : ∃ L, enc now = L := ⟨_, rfl⟩
  rw [ee1] at lk
  rw [ee2] at ln
  rw [ee1, ee2] at HE
  have E1 := Lib.hid ee1
  have E2 := Lib.hid ee2
  have HEE := Lib.hid HE
  have IN := Lib.hid In
  have IA := Lib.hid Ia
  clear h hm In Ia Io Is eLE ee1 ee2 HE la
  unfold R19.val at *
  simp only at HM ⊢
  unfold RBy
  go_enter Try.func55, Try.ntmps55
  go_wp2_with (refine wpl_row (by rfl) 82 _ rfl _ rfl _ _ _ _ (heap_alloc_new w (.cells #[.int .i64 2, .int .i64 now, .int .i64 ans, .int .i64 o.kind, .int .i64 o.book, .int .i64 o.units, .int .i64 o.cust, .int .i64 o.amount, .int .i64 s.w.b, .int .i64 s.w.c, .int .i64 s.w.d, .int .i64 s.w.m0, .int .i64 s.w.m1, .int .i64 s.w.m2, .int .i64 s.w.p, .int .i64 s.ph, .int .i64 s.st, .int .i64 s.re, .int .i64 s.si] 82)) rfl Try.underlying82 (by kernel_rfl) ?_)
  refine (HM.out _).mono ?_
  rintro e w1 ⟨rfl, q⟩
  have S1 := Lib.hid (new1 q)
  have L1 := Lib.hid (bel1 (Below.refl w.heap.size w) (Nat.le_refl _) q)
  have hz1 : w.heap.size < w1.heap.size := lt_size S1.out
  clear q HM
  have V1 := Lib.hid (WB.new w1 w1.heap.size (Nat.le_refl _))
  have d0 : (w1.alloc (.cells #[.slice none 0 0] 103)).cell? ⟨w.heap.size, 0, none⟩ = some (.int .i64 2) := (cellsB (i := 0) (alc S1.out)).trans rfl
  go_wp2_with fail
  refine (wint_is V1.out (by simp) (by omega) (by omega) (l' := e1) (by rw [← E1.out]; rfl)).mono ?_
  rintro e w2 ⟨rfl, qw, qb, _⟩
  have V2 := Lib.hid qw
  have S2 := Lib.hid ((qb.block _ hz1).trans (alc S1.out))
  have L2 := Lib.hid ((L1.out.alloc L1.out.size _).trans (qb.mono L1.out.size))
  have b2 := qb.size
  clear qw qb d0 S1 L1 V1
  have d1 : w2.cell? ⟨w.heap.size, 1, none⟩ = some (.int .i64 now) := (cellsB (i := 1) S2.out).trans rfl
  go_wp2_with fail
  refine (wint_is V2.out (by omega) IN.out.1 IN.out.2 (l' := e1 ++ e2) (by rw [E2.out])).mono ?_
  rintro e w3 ⟨rfl, qw, qb, _⟩
  have V3 := Lib.hid qw
  have S3 := Lib.hid ((qb.block _ hz1).trans S2.out)
  have L3 := Lib.hid (L2.out.trans (qb.mono (by omega)))
  clear qw qb d1 S2 L2 V2
  have d0 : w3.cell? ⟨w.heap.size, 0, none⟩ = some (.int .i64 2) := (cellsB (i := 0) S3.out).trans rfl
  go_wp2_with fail
  refine (wbytes_c _ _ _ _ V3.out (by simp; omega)).mono ?_
  rintro e w9 ⟨v9, rfl, ob, q⟩
  have L9 := Lib.hid (bel0 L3.out L3.out.size q)
  have V9 := Lib.hid (ob.mono (base' := w.heap.size) L3.out.size)
  clear ob q
  go_wp2
  go_ret2
  refine ⟨v9, rfl, ?_, L9.out⟩
  rw [HEE.out]
  exact V9.out
set_option maxRecDepth 100000 in
set_option maxHeartbeats 4000000 in
theorem encR_yes3 (now ans : Int) (o : O5) (s : S11) (w : World) (h : MayR ⟨3, now, ans, o, s⟩) : Calls Try.prog 55 #[R19.val ⟨3, now, ans, o, s⟩] w (RBy w (encR ⟨3, now, ans, o, s⟩) 0) := by
  have HM := Lib.hid (recmay_is ⟨3, now, ans, o, s⟩ true (decide_eq_true h))
  obtain ⟨_, In, Ia, Io, Is⟩ := MayR_in _ h
  have hm := h.2
  simp only at In Ia Io Is hm
  have hms : MayS s := by rcases hm with ⟨e, _⟩ | ⟨e, _⟩ | ⟨_, e, _⟩ <;> first | exact e | (simp at e)
  have HP := Lib.hid (fun W => encS_yes s W hms Is)
  obtain ⟨Lx, ex⟩ : ∃ L, encS s = L := ⟨_, rfl⟩
  have lx : Lx.length ≤ 110 := by rw [← ex]; exact encS_le s
  have HE : encR ⟨3, now, ans, o, s⟩ = enc 3 ++ enc now ++ encT Lx := by unfold encR; simp [ex]
  have ln := enc_le now
  have lk := enc_le 3
  have la := enc_le ans
  have lt := encT_le Lx
  rw [ex] at HP
  unfold RBy S11.val at HP
  obtain ⟨LE, eLE⟩ : ∃ L, encR ⟨3, now, ans, o, s⟩ = L := ⟨_, rfl⟩
  rw [eLE] at HE ⊢
  obtain ⟨e1, ee1⟩ : ∃ L, enc 3 = L := ⟨_, rfl⟩
  obtain ⟨e2, ee2⟩ : ∃ L, enc now = L := ⟨_, rfl⟩
  rw [ee1] at lk
  rw [ee2] at ln
  rw [ee1, ee2] at HE
  have E1 := Lib.hid ee1
  have E2 := Lib.hid ee2
  obtain ⟨e3, ee3⟩ : ∃ L, encT Lx = L := ⟨_, rfl⟩
  rw [ee3] at lt HE
  have E3 := Lib.hid ee3
  have HEE := Lib.hid HE
  have IN := Lib.hid In
  have IA := Lib.hid Ia
  clear h hm In Ia Io Is eLE ee1 ee2 HE ee3 ex hms la
  unfold R19.val at *
  simp only at HM ⊢
  unfold RBy
  go_enter Try.func55, Try.ntmps55
  go_wp2_with (refine wpl_row (by rfl) 82 _ rfl _ rfl _ _ _ _ (heap_alloc_new w (.cells #[.int .i64 3, .int .i64 now, .int .i64 ans, .int .i64 o.kind, .int .i64 o.book, .int .i64 o.units, .int .i64 o.cust, .int .i64 o.amount, .int .i64 s.w.b, .int .i64 s.w.c, .int .i64 s.w.d, .int .i64 s.w.m0, .int .i64 s.w.m1, .int .i64 s.w.m2, .int .i64 s.w.p, .int .i64 s.ph, .int .i64 s.st, .int .i64 s.re, .int .i64 s.si] 82)) rfl Try.underlying82 (by kernel_rfl) ?_)
  refine (HM.out _).mono ?_
  rintro e w1 ⟨rfl, q⟩
  have S1 := Lib.hid (new1 q)
  have L1 := Lib.hid (bel1 (Below.refl w.heap.size w) (Nat.le_refl _) q)
  have hz1 : w.heap.size < w1.heap.size := lt_size S1.out
  clear q HM
  have V1 := Lib.hid (WB.new w1 w1.heap.size (Nat.le_refl _))
  have d0 : (w1.alloc (.cells #[.slice none 0 0] 103)).cell? ⟨w.heap.size, 0, none⟩ = some (.int .i64 3) := (cellsB (i := 0) (alc S1.out)).trans rfl
  go_wp2_with fail
  refine (wint_is V1.out (by simp) (by omega) (by omega) (l' := e1) (by rw [← E1.out]; rfl)).mono ?_
  rintro e w2 ⟨rfl, qw, qb, _⟩
  have V2 := Lib.hid qw
  have S2 := Lib.hid ((qb.block _ hz1).trans (alc S1.out))
  have L2 := Lib.hid ((L1.out.alloc L1.out.size _).trans (qb.mono L1.out.size))
  have b2 := qb.size
  clear qw qb d0 S1 L1 V1
  have d1 : w2.cell? ⟨w.heap.size, 1, none⟩ = some (.int .i64 now) := (cellsB (i := 1) S2.out).trans rfl
  go_wp2_with fail
  refine (wint_is V2.out (by omega) IN.out.1 IN.out.2 (l' := e1 ++ e2) (by rw [E2.out])).mono ?_
  rintro e w3 ⟨rfl, qw, qb, _⟩
  have V3 := Lib.hid qw
  have S3 := Lib.hid ((qb.block _ hz1).trans S2.out)
  have L3 := Lib.hid (L2.out.trans (qb.mono (by omega)))
  clear qw qb d1 S2 L2 V2
  have d0 : w3.cell? ⟨w.heap.size, 0, none⟩ = some (.int .i64 3) := (cellsB (i := 0) S3.out).trans rfl
  go_wp2_with (refine wpl_load (by rfl) 26 _ rfl ⟨w.heap.size, 8, none⟩ rfl [.int .i64 s.w.b, .int .i64 s.w.c, .int .i64 s.w.d, .int .i64 s.w.m0, .int .i64 s.w.m1, .int .i64 s.w.m2, .int .i64 s.w.p, .int .i64 s.ph, .int .i64 s.st, .int .i64 s.re, .int .i64 s.si] _ (seg_at S3.out [.int .i64 s.w.b, .int .i64 s.w.c, .int .i64 s.w.d, .int .i64 s.w.m0, .int .i64 s.w.m1, .int .i64 s.w.m2, .int .i64 s.w.p, .int .i64 s.ph, .int .i64 s.st, .int .i64 s.re, .int .i64 s.si] rfl) (by rfl) Try.underlying26 (by kernel_rfl) ?_)
  refine (HP.out _).mono ?_
  rintro e w4 ⟨v, rfl, ob, q⟩
  obtain ⟨A, c, rfl, _, _, rx⟩ := ob.form
  obtain ⟨nx, hnx⟩ : ∃ n, Lx.length = n := ⟨_, rfl⟩
  rw [hnx] at rx ⊢
  have Rx := Lib.hid rx
  have V4 := Lib.hid (V3.out.below q (Nat.le_refl _))
  have S4 := Lib.hid (blk0 S3.out q)
  have L4 := Lib.hid (bel0 L3.out L3.out.size q)
  clear q ob rx d0 S3 L3 V3 HP
  have cv : (convert 59 9 (.slice A nx c)).run Try.prog w4 = .ok (.string ⟨Lx.toArray⟩) w4 := run_conv_str Rx.out
  have HNX := Lib.hid hnx
  clear hnx
  go_wp2_with fail
  clear cv
  refine (wtext_is V4.out (by simp; omega) (by show Lx.toArray.size ≤ _; have := HNX.out; simp; omega) (l' := e1 ++ e2 ++ e3) (by rw [← E3.out])).mono ?_
  rintro e w5 ⟨rfl, qw, qb, _⟩
  have V5 := Lib.hid qw
  have S5 := Lib.hid ((qb.block _ hz1).trans S4.out)
  have L5 := Lib.hid (L4.out.trans (qb.mono (by omega)))
  clear qw qb S4 L4 V4 Rx
  go_wp2_with fail
  refine (wbytes_c _ _ _ _ V5.out (by simp; omega)).mono ?_
  rintro e w9 ⟨v9, rfl, ob, q⟩
  have L9 := Lib.hid (bel0 L5.out L5.out.size q)
  have V9 := Lib.hid (ob.mono (base' := w.heap.size) L5.out.size)
  clear ob q
  go_wp2
  go_ret2
  refine ⟨v9, rfl, ?_, L9.out⟩
  rw [HEE.out]
  exact V9.out
theorem encR_yes (x : R19) (w : World) (h : MayR x) : Calls Try.prog 55 #[x.val] w (RBy w (encR x) 0) := by
  obtain ⟨k, now, ans, o, s⟩ := x
  rcases h.2 with ⟨hk, _⟩ | ⟨hk, _⟩ | ⟨hk, _⟩ <;> (simp only at hk; subst hk)
  · exact encR_yes1 now ans o s w h
  · exact encR_yes2 now ans o s w h
  · exact encR_yes3 now ans o s w h
end Go.Proofs.Ytplgodfhhlnojaa
