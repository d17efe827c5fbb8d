/- sojournref14.Put and Get, walked (printed by gensagab3.py). -/
import Derived.Test.YtplgodfhhlnojaaSgB2
import Derived.Test.YtplgodfhhlnojaaSagaR
import Derived.Test.YtplgodfhhlnojaaB7
set_option linter.unusedSimpArgs false
set_option linter.unusedVariables false
namespace Go.Proofs.Ytplgodfhhlnojaa
open Go.RowKit
set_option maxRecDepth 100000 in
set_option maxHeartbeats 4000000 in
theorem rput_c (x : S11) (w : World) (hf : ∀ z ∈ x.list, In64 z) : Calls Try.prog 40 #[x.val] w fun e w' => e = .returned (.string ⟨(encS x).toArray⟩) ∧ Below w.heap.size w w' := by
  have lw : (encW x.w).length ≤ 70 := by have := encs_le x.w.list; simpa [encW, W7.list] using this
  have C0 := fun W => Lib.hid (refraw_c x.w W (fun z hz => hf z (by rw [S11.list_eq]; exact List.mem_append_left _ hz)))
  obtain ⟨L0, e0⟩ : ∃ L, encW x.w = L := ⟨_, rfl⟩
  rw [e0] at lw C0
  obtain ⟨L1, e1⟩ : ∃ L, enc x.ph = L := ⟨_, rfl⟩
  have l1 : L1.length ≤ 10 := by rw [← e1]; exact enc_le _
  have C1 := fun W => Lib.hid (refint_in x.ph L1 e1 (hf x.ph (by simp [S11.list])) W)
  obtain ⟨L2, e2⟩ : ∃ L, enc x.st = L := ⟨_, rfl⟩
  have l2 : L2.length ≤ 10 := by rw [← e2]; exact enc_le _
  have C2 := fun W => Lib.hid (refint_in x.st L2 e2 (hf x.st (by simp [S11.list])) W)
  obtain ⟨L3, e3⟩ : ∃ L, enc x.re = L := ⟨_, rfl⟩
  have l3 : L3.length ≤ 10 := by rw [← e3]; exact enc_le _
  have C3 := fun W => Lib.hid (refint_in x.re L3 e3 (hf x.re (by simp [S11.list])) W)
  obtain ⟨L4, e4⟩ : ∃ L, enc x.si = L := ⟨_, rfl⟩
  have l4 : L4.length ≤ 10 := by rw [← e4]; exact enc_le _
  have C4 := fun W => Lib.hid (refint_in x.si L4 e4 (hf x.si (by simp [S11.list])) W)
  have HE := Lib.hid (show encS x = L0 ++ (L1 ++ (L2 ++ (L3 ++ L4))) by rw [← e0, ← e1, ← e2, ← e3, ← e4, encS_eq]; simp [encs])
  obtain ⟨LL, hLL⟩ : ∃ LL, encS x = LL := ⟨_, rfl⟩
  rw [hLL] at HE ⊢
  clear hLL e0 e1 e2 e3 e4 hf
  unfold W7.val at C0
  unfold S11.val
  have W0 : ∀ s : BW (w.heap.size + 1) (w.alloc (.cells #[.int .i64 x.w.b, .int .i64 x.w.c, .int .i64 x.w.d, .int .i64 x.w.m0, .int .i64 x.w.m1, .int .i64 x.w.m2, .int .i64 x.w.p, .int .i64 x.ph, .int .i64 x.st, .int .i64 x.re, .int .i64 x.si] 26)), s.val.heap[w.heap.size]? = some (.cells #[.int .i64 x.w.b, .int .i64 x.w.c, .int .i64 x.w.d, .int .i64 x.w.m0, .int .i64 x.w.m1, .int .i64 x.w.m2, .int .i64 x.w.p, .int .i64 x.ph, .int .i64 x.st, .int .i64 x.re, .int .i64 x.si] 26 (0, 0)) := fun s => (s.h.block w.heap.size (by omega)).trans (heap_alloc_new w _)
  have q0 : ∀ s : BW (w.heap.size + 1) (w.alloc (.cells #[.int .i64 x.w.b, .int .i64 x.w.c, .int .i64 x.w.d, .int .i64 x.w.m0, .int .i64 x.w.m1, .int .i64 x.w.m2, .int .i64 x.w.p, .int .i64 x.ph, .int .i64 x.st, .int .i64 x.re, .int .i64 x.si] 26)), s.val.cell? ⟨w.heap.size, 0, none⟩ = some (.int .i64 x.w.b) := fun s => (cellsB (i := 0) (W0 s)).trans rfl
  have q1 : ∀ s : BW (w.heap.size + 1) (w.alloc (.cells #[.int .i64 x.w.b, .int .i64 x.w.c, .int .i64 x.w.d, .int .i64 x.w.m0, .int .i64 x.w.m1, .int .i64 x.w.m2, .int .i64 x.w.p, .int .i64 x.ph, .int .i64 x.st, .int .i64 x.re, .int .i64 x.si] 26)), s.val.cell? ⟨w.heap.size, 1, none⟩ = some (.int .i64 x.w.c) := fun s => (cellsB (i := 1) (W0 s)).trans rfl
  have q2 : ∀ s : BW (w.heap.size + 1) (w.alloc (.cells #[.int .i64 x.w.b, .int .i64 x.w.c, .int .i64 x.w.d, .int .i64 x.w.m0, .int .i64 x.w.m1, .int .i64 x.w.m2, .int .i64 x.w.p, .int .i64 x.ph, .int .i64 x.st, .int .i64 x.re, .int .i64 x.si] 26)), s.val.cell? ⟨w.heap.size, 2, none⟩ = some (.int .i64 x.w.d) := fun s => (cellsB (i := 2) (W0 s)).trans rfl
  have q3 : ∀ s : BW (w.heap.size + 1) (w.alloc (.cells #[.int .i64 x.w.b, .int .i64 x.w.c, .int .i64 x.w.d, .int .i64 x.w.m0, .int .i64 x.w.m1, .int .i64 x.w.m2, .int .i64 x.w.p, .int .i64 x.ph, .int .i64 x.st, .int .i64 x.re, .int .i64 x.si] 26)), s.val.cell? ⟨w.heap.size, 3, none⟩ = some (.int .i64 x.w.m0) := fun s => (cellsB (i := 3) (W0 s)).trans rfl
  have q4 : ∀ s : BW (w.heap.size + 1) (w.alloc (.cells #[.int .i64 x.w.b, .int .i64 x.w.c, .int .i64 x.w.d, .int .i64 x.w.m0, .int .i64 x.w.m1, .int .i64 x.w.m2, .int .i64 x.w.p, .int .i64 x.ph, .int .i64 x.st, .int .i64 x.re, .int .i64 x.si] 26)), s.val.cell? ⟨w.heap.size, 4, none⟩ = some (.int .i64 x.w.m1) := fun s => (cellsB (i := 4) (W0 s)).trans rfl
  have q5 : ∀ s : BW (w.heap.size + 1) (w.alloc (.cells #[.int .i64 x.w.b, .int .i64 x.w.c, .int .i64 x.w.d, .int .i64 x.w.m0, .int .i64 x.w.m1, .int .i64 x.w.m2, .int .i64 x.w.p, .int .i64 x.ph, .int .i64 x.st, .int .i64 x.re, .int .i64 x.si] 26)), s.val.cell? ⟨w.heap.size, 5, none⟩ = some (.int .i64 x.w.m2) := fun s => (cellsB (i := 5) (W0 s)).trans rfl
  have q6 : ∀ s : BW (w.heap.size + 1) (w.alloc (.cells #[.int .i64 x.w.b, .int .i64 x.w.c, .int .i64 x.w.d, .int .i64 x.w.m0, .int .i64 x.w.m1, .int .i64 x.w.m2, .int .i64 x.w.p, .int .i64 x.ph, .int .i64 x.st, .int .i64 x.re, .int .i64 x.si] 26)), s.val.cell? ⟨w.heap.size, 6, none⟩ = some (.int .i64 x.w.p) := fun s => (cellsB (i := 6) (W0 s)).trans rfl
  have q7 : ∀ s : BW (w.heap.size + 1) (w.alloc (.cells #[.int .i64 x.w.b, .int .i64 x.w.c, .int .i64 x.w.d, .int .i64 x.w.m0, .int .i64 x.w.m1, .int .i64 x.w.m2, .int .i64 x.w.p, .int .i64 x.ph, .int .i64 x.st, .int .i64 x.re, .int .i64 x.si] 26)), s.val.cell? ⟨w.heap.size, 7, none⟩ = some (.int .i64 x.ph) := fun s => (cellsB (i := 7) (W0 s)).trans rfl
  have q8 : ∀ s : BW (w.heap.size + 1) (w.alloc (.cells #[.int .i64 x.w.b, .int .i64 x.w.c, .int .i64 x.w.d, .int .i64 x.w.m0, .int .i64 x.w.m1, .int .i64 x.w.m2, .int .i64 x.w.p, .int .i64 x.ph, .int .i64 x.st, .int .i64 x.re, .int .i64 x.si] 26)), s.val.cell? ⟨w.heap.size, 8, none⟩ = some (.int .i64 x.st) := fun s => (cellsB (i := 8) (W0 s)).trans rfl
  have q9 : ∀ s : BW (w.heap.size + 1) (w.alloc (.cells #[.int .i64 x.w.b, .int .i64 x.w.c, .int .i64 x.w.d, .int .i64 x.w.m0, .int .i64 x.w.m1, .int .i64 x.w.m2, .int .i64 x.w.p, .int .i64 x.ph, .int .i64 x.st, .int .i64 x.re, .int .i64 x.si] 26)), s.val.cell? ⟨w.heap.size, 9, none⟩ = some (.int .i64 x.re) := fun s => (cellsB (i := 9) (W0 s)).trans rfl
  have q10 : ∀ s : BW (w.heap.size + 1) (w.alloc (.cells #[.int .i64 x.w.b, .int .i64 x.w.c, .int .i64 x.w.d, .int .i64 x.w.m0, .int .i64 x.w.m1, .int .i64 x.w.m2, .int .i64 x.w.p, .int .i64 x.ph, .int .i64 x.st, .int .i64 x.re, .int .i64 x.si] 26)), s.val.cell? ⟨w.heap.size, 10, none⟩ = some (.int .i64 x.si) := fun s => (cellsB (i := 10) (W0 s)).trans rfl
  clear W0
  go_enter Try.func40, Try.ntmps40
  go_wp2_with fail
  refine wp_region_below (w.heap.size + 1) (by kernel_rfl) (by kernel_rfl) ?_
  repeat (first | go_big_quiet_step ((first | (go_at_call 75; (with_reducible exact BW.call (by simp) (C0 _).out)) | (go_at_call 76; (with_reducible exact BW.call (by simp) (C1 _).out)) | (go_at_call 76; (with_reducible exact BW.call (by simp) (C2 _).out)) | (go_at_call 76; (with_reducible exact BW.call (by simp) (C3 _).out)) | (go_at_call 76; (with_reducible exact BW.call (by simp) (C4 _).out)))) | quiet_step ((first | (go_at_call 75; (with_reducible exact BW.call (by simp) (C0 _).out)) | (go_at_call 76; (with_reducible exact BW.call (by simp) (C1 _).out)) | (go_at_call 76; (with_reducible exact BW.call (by simp) (C2 _).out)) | (go_at_call 76; (with_reducible exact BW.call (by simp) (C3 _).out)) | (go_at_call 76; (with_reducible exact BW.call (by simp) (C4 _).out)))))
  refine wpQuiet_nil ?_
  intro _ hw'
  obtain ⟨sb, hw''⟩ := hw'
  subst hw''
  clear q0 q1 q2 q3 q4 q5 q6 q7 q8 q9 q10
  go_wp2
  go_ret
  refine ⟨ret_str (a := _) (b := ⟨LL.toArray⟩) ?_, ((Below.refl _ _).alloc (Nat.le_refl _) _).trans (sb.h.mono (by omega))⟩
  apply Go.WideShapes.bytes_inj
  rw [HE.out]
  simp
set_option maxRecDepth 100000 in
set_option maxHeartbeats 16000000 in
theorem rget14_c (S : ByteArray) (l : List UInt8) (w : World) (hSl : S.data.toList = l) (hl : l.length ≤ 1000000000000) : Calls Try.prog 42 #[.string S] w (PS w (hS l).1 (hS l).2) := by
  obtain ⟨y, kk, hy⟩ : ∃ y kk, hS l = (y, kk) := ⟨_, _, rfl⟩
  rw [hy]
  unfold hS at hy
  have h0 : Sh (some l) := fun l' e => by injection e with e; subst e; exact hl
  obtain ⟨v1, s1, e1⟩ : ∃ v t, rF (some l) = (v, t) := ⟨_, _, rfl⟩
  obtain ⟨v2, s2, e2⟩ : ∃ v t, rF s1 = (v, t) := ⟨_, _, rfl⟩
  obtain ⟨v3, s3, e3⟩ : ∃ v t, rF s2 = (v, t) := ⟨_, _, rfl⟩
  obtain ⟨v4, s4, e4⟩ : ∃ v t, rF s3 = (v, t) := ⟨_, _, rfl⟩
  obtain ⟨v5, s5, e5⟩ : ∃ v t, rF s4 = (v, t) := ⟨_, _, rfl⟩
  obtain ⟨v6, s6, e6⟩ : ∃ v t, rF s5 = (v, t) := ⟨_, _, rfl⟩
  obtain ⟨v7, s7, e7⟩ : ∃ v t, rF s6 = (v, t) := ⟨_, _, rfl⟩
  obtain ⟨v8, s8, e8⟩ : ∃ v t, rF s7 = (v, t) := ⟨_, _, rfl⟩
  obtain ⟨v9, s9, e9⟩ : ∃ v t, rF s8 = (v, t) := ⟨_, _, rfl⟩
  obtain ⟨v10, s10, e10⟩ : ∃ v t, rF s9 = (v, t) := ⟨_, _, rfl⟩
  obtain ⟨v11, s11, e11⟩ : ∃ v t, rF s10 = (v, t) := ⟨_, _, rfl⟩
  obtain ⟨x, hxx⟩ : ∃ x : S11, x = ⟨⟨v1, v2, v3, v4, v5, v6, v7⟩, v8, v9, v10, v11⟩ := ⟨_, rfl⟩
  have hw : rTS (some l) = (x, s11) := by rw [hxx]; unfold rTS; simp only [e1, e2, e3, e4, e5, e6, e7, e8, e9, e10, e11]
  have ht : rTW (some l) = (⟨v1, v2, v3, v4, v5, v6, v7⟩, s7) := by unfold rTW; simp only [e1, e2, e3, e4, e5, e6, e7]
  have hxv : x.val = .agg #[.int .i64 v1, .int .i64 v2, .int .i64 v3, .int .i64 v4, .int .i64 v5, .int .i64 v6, .int .i64 v7, .int .i64 v8, .int .i64 v9, .int .i64 v10, .int .i64 v11] := by rw [hxx]; rfl
  have h1 := h0.f e1
  have h2 := h1.f e2
  have h3 := h2.f e3
  have h4 := h3.f e4
  have h5 := h4.f e5
  have h6 := h5.f e6
  have h7 := h6.f e7
  have h8 := h7.f e8
  have h9 := h8.f e9
  have h10 := h9.f e10
  have h11 := h10.f e11
  have H7 := Lib.hid h7
  have E7 := Lib.hid e7
  have H8 := Lib.hid h8
  have E8 := Lib.hid e8
  have H9 := Lib.hid h9
  have E9 := Lib.hid e9
  have H10 := Lib.hid h10
  have E10 := Lib.hid e10
  have H11 := Lib.hid h11
  have E11 := Lib.hid e11
  have H0 := Lib.hid h0
  rw [hw] at hy
  simp only at hy ⊢
  have HY := Lib.hid hy
  have HXV := Lib.hid hxv
  have HT := Lib.hid ht
  have HSS := Lib.hid hSl
  clear hw hy hxv hxx ht hSl hl h0 e1 h1 e2 h2 e3 h3 e4 h4 e5 h5 e6 h6 e7 h7 e8 h8 e9 h9 e10 h10 e11 h11
  unfold PS
  go_enter Try.func42, Try.ntmps42
  go_wp2_with fail
  obtain ⟨W, hW⟩ : ∃ W, W = (w.alloc (.cells #[.int .i64 0, .int .i64 0, .int .i64 0, .int .i64 0, .int .i64 0, .int .i64 0, .int .i64 0, .int .i64 0, .int .i64 0, .int .i64 0, .int .i64 0] 26)).alloc (.cells #[.string S, .bool false] 116) := ⟨_, rfl⟩
  have h2 := two_boxes w (.cells #[.int .i64 0, .int .i64 0, .int .i64 0, .int .i64 0, .int .i64 0, .int .i64 0, .int .i64 0, .int .i64 0, .int .i64 0, .int .i64 0, .int .i64 0] 26) (.cells #[.string S, .bool false] 116)
  rw [← hW] at h2 ⊢
  obtain ⟨f1, f2, f3⟩ := h2
  have R0 := Lib.hid f1
  have Q0 := Lib.hid (show RR W (w.heap.size + 1) (some l) from ⟨S, false, f2, by rw [HSS.out]; rfl⟩)
  have L0 := Lib.hid f3
  have hz0 : w.heap.size + 2 ≤ W.heap.size := by rw [hW]; simp
  clear f1 f2 f3 hW
  have TW := Lib.hid (take_w (w.heap.size + 1) (some l) W Q0.out H0.out)
  rw [HT.out] at TW
  unfold RRPost W7.val at TW
  refine TW.out.mono ?_
  rintro e u7 ⟨rfl, q, gg⟩
  have R_7 := Lib.hid (only_blk gg R0.out (by omega))
  have L_7 := Lib.hid (L0.out.trans (only_lt gg L0.out.size (by omega)))
  have hz_7 : w.heap.size + 2 ≤ u7.heap.size := by have := gg.size; omega
  obtain ⟨U, hU⟩ : ∃ U, U = u7.alloc (.cells #[.int .i64 v1, .int .i64 v2, .int .i64 v3, .int .i64 v4, .int .i64 v5, .int .i64 v6, .int .i64 v7, .int .i64 0, .int .i64 0, .int .i64 0, .int .i64 0] 26) := ⟨_, rfl⟩
  have QU := Lib.hid (show RR U (w.heap.size + 1) s7 from hU ▸ q.same (Below.heap_alloc u7 _ _ q.lt))
  have RU := Lib.hid (show U.heap[w.heap.size]? = some (.cells #[.int .i64 0, .int .i64 0, .int .i64 0, .int .i64 0, .int .i64 0, .int .i64 0, .int .i64 0, .int .i64 0, .int .i64 0, .int .i64 0, .int .i64 0] 26 (0, 0)) from hU ▸ alc R_7.out)
  have LU := Lib.hid (show Below w.heap.size w U from hU ▸ L_7.out.alloc L_7.out.size _)
  have TU := Lib.hid (show U.heap[u7.heap.size]? = some (.cells #[.int .i64 v1, .int .i64 v2, .int .i64 v3, .int .i64 v4, .int .i64 v5, .int .i64 v6, .int .i64 v7, .int .i64 0, .int .i64 0, .int .i64 0, .int .i64 0] 26 (0, 0)) from hU ▸ heap_alloc_new u7 _)
  clear q gg Q0 R0 L0 TW hz0 R_7 L_7
  go_wp2_with fail
  rw [← hU]
  clear hU
  refine (rrint_eq QU.out H7.out E8.out).mono ?_
  rintro e u8 ⟨rfl, q, gg⟩
  have Q_8 := Lib.hid q
  have R_8 := Lib.hid (only_blk gg RU.out (by omega))
  have L_8 := Lib.hid (LU.out.trans (only_lt gg LU.out.size (by omega)))
  have T_8 := Lib.hid (only_blk gg TU.out (by omega))
  clear q gg QU RU LU TU
  go_wp2_with (refine wpl_seg rfl 3 _ _ rfl u7.heap.size 7 _ #[.int .i64 v8] rfl rfl rfl 26 #[.int .i64 v1, .int .i64 v2, .int .i64 v3, .int .i64 v4, .int .i64 v5, .int .i64 v6, .int .i64 v7, .int .i64 0, .int .i64 0, .int .i64 0, .int .i64 0] T_8.out (by kernel_rfl) #[.int .i64 v1, .int .i64 v2, .int .i64 v3, .int .i64 v4, .int .i64 v5, .int .i64 v6, .int .i64 v7, .int .i64 v8, .int .i64 0, .int .i64 0, .int .i64 0] (by simp [setSeg]) (by simp) (by kernel_rfl) ?_; intro t8 hb sb)
  have Q_t8 := Lib.hid (Q_8.out.same (sb.ne _ (by omega)))
  have R_t8 := Lib.hid (sb.blk R_8.out (by omega))
  have L_t8 := Lib.hid (sb.bel L_8.out (by omega))
  have T_t8 := Lib.hid hb
  clear hb sb Q_8 R_8 L_8 T_8
  refine (rrint_eq Q_t8.out H8.out E9.out).mono ?_
  rintro e u9 ⟨rfl, q, gg⟩
  have Q_9 := Lib.hid q
  have R_9 := Lib.hid (only_blk gg R_t8.out (by omega))
  have L_9 := Lib.hid (L_t8.out.trans (only_lt gg L_t8.out.size (by omega)))
  have T_9 := Lib.hid (only_blk gg T_t8.out (by omega))
  clear q gg Q_t8 R_t8 L_t8 T_t8
  go_wp2_with (refine wpl_seg rfl 3 _ _ rfl u7.heap.size 8 _ #[.int .i64 v9] rfl rfl rfl 26 #[.int .i64 v1, .int .i64 v2, .int .i64 v3, .int .i64 v4, .int .i64 v5, .int .i64 v6, .int .i64 v7, .int .i64 v8, .int .i64 0, .int .i64 0, .int .i64 0] T_9.out (by kernel_rfl) #[.int .i64 v1, .int .i64 v2, .int .i64 v3, .int .i64 v4, .int .i64 v5, .int .i64 v6, .int .i64 v7, .int .i64 v8, .int .i64 v9, .int .i64 0, .int .i64 0] (by simp [setSeg]) (by simp) (by kernel_rfl) ?_; intro t9 hb sb)
  have Q_t9 := Lib.hid (Q_9.out.same (sb.ne _ (by omega)))
  have R_t9 := Lib.hid (sb.blk R_9.out (by omega))
  have L_t9 := Lib.hid (sb.bel L_9.out (by omega))
  have T_t9 := Lib.hid hb
  clear hb sb Q_9 R_9 L_9 T_9
  refine (rrint_eq Q_t9.out H9.out E10.out).mono ?_
  rintro e u10 ⟨rfl, q, gg⟩
  have Q_10 := Lib.hid q
  have R_10 := Lib.hid (only_blk gg R_t9.out (by omega))
  have L_10 := Lib.hid (L_t9.out.trans (only_lt gg L_t9.out.size (by omega)))
  have T_10 := Lib.hid (only_blk gg T_t9.out (by omega))
  clear q gg Q_t9 R_t9 L_t9 T_t9
  go_wp2_with (refine wpl_seg rfl 3 _ _ rfl u7.heap.size 9 _ #[.int .i64 v10] rfl rfl rfl 26 #[.int .i64 v1, .int .i64 v2, .int .i64 v3, .int .i64 v4, .int .i64 v5, .int .i64 v6, .int .i64 v7, .int .i64 v8, .int .i64 v9, .int .i64 0, .int .i64 0] T_10.out (by kernel_rfl) #[.int .i64 v1, .int .i64 v2, .int .i64 v3, .int .i64 v4, .int .i64 v5, .int .i64 v6, .int .i64 v7, .int .i64 v8, .int .i64 v9, .int .i64 v10, .int .i64 0] (by simp [setSeg]) (by simp) (by kernel_rfl) ?_; intro t10 hb sb)
  have Q_t10 := Lib.hid (Q_10.out.same (sb.ne _ (by omega)))
  have R_t10 := Lib.hid (sb.blk R_10.out (by omega))
  have L_t10 := Lib.hid (sb.bel L_10.out (by omega))
  have T_t10 := Lib.hid hb
  clear hb sb Q_10 R_10 L_10 T_10
  refine (rrint_eq Q_t10.out H10.out E11.out).mono ?_
  rintro e u11 ⟨rfl, q, gg⟩
  have Q_11 := Lib.hid q
  have R_11 := Lib.hid (only_blk gg R_t10.out (by omega))
  have L_11 := Lib.hid (L_t10.out.trans (only_lt gg L_t10.out.size (by omega)))
  have T_11 := Lib.hid (only_blk gg T_t10.out (by omega))
  clear q gg Q_t10 R_t10 L_t10 T_t10
  go_wp2_with (refine wpl_seg rfl 3 _ _ rfl u7.heap.size 10 _ #[.int .i64 v11] rfl rfl rfl 26 #[.int .i64 v1, .int .i64 v2, .int .i64 v3, .int .i64 v4, .int .i64 v5, .int .i64 v6, .int .i64 v7, .int .i64 v8, .int .i64 v9, .int .i64 v10, .int .i64 0] T_11.out (by kernel_rfl) #[.int .i64 v1, .int .i64 v2, .int .i64 v3, .int .i64 v4, .int .i64 v5, .int .i64 v6, .int .i64 v7, .int .i64 v8, .int .i64 v9, .int .i64 v10, .int .i64 v11] (by simp [setSeg]) (by simp) (by kernel_rfl) ?_; intro t11 hb sb)
  have Q_t11 := Lib.hid (Q_11.out.same (sb.ne _ (by omega)))
  have R_t11 := Lib.hid (sb.blk R_11.out (by omega))
  have L_t11 := Lib.hid (sb.bel L_11.out (by omega))
  have T_t11 := Lib.hid hb
  clear hb sb Q_11 R_11 L_11 T_11
  by_cases he : rEnd s11 = 0
  · have HE := Lib.hid he
    clear he
    refine (rrend_w Q_t11.out HE.out).mono ?_
    rintro e w' ⟨rfl, rfl⟩
    by_cases hm : MayS x
    · have HM := Lib.hid hm
      have HC := Lib.hid (fun W => rmay14_is x true (decide_eq_true hm) W)
      rw [HXV.out] at HC
      clear hm
      go_wp2_with (refine wpl_row (by rfl) 26 _ rfl _ rfl _ _ _ _ T_t11.out rfl Try.underlying26 (by kernel_rfl) ?_)
      refine (HC.out _).mono ?_
      rintro e z ⟨rfl, b3⟩
      have R_z := Lib.hid (blk0 R_t11.out b3)
      have L_z := Lib.hid (bel0 L_t11.out L_t11.out.size b3)
      have T_z := Lib.hid (blk0 T_t11.out b3)
      clear b3 Q_t11 R_t11 L_t11 T_t11
      go_wp2_with (first | (refine wpl_row (by rfl) 26 _ rfl _ rfl _ _ _ _ (by exact T_z.out) rfl Try.underlying26 (by kernel_rfl) ?_) | (refine wpl_set rfl 26 _ _ rfl w.heap.size #[.int .i64 v1, .int .i64 v2, .int .i64 v3, .int .i64 v4, .int .i64 v5, .int .i64 v6, .int .i64 v7, .int .i64 v8, .int .i64 v9, .int .i64 v10, .int .i64 v11] rfl rfl 26 #[.int .i64 0, .int .i64 0, .int .i64 0, .int .i64 0, .int .i64 0, .int .i64 0, .int .i64 0, .int .i64 0, .int .i64 0, .int .i64 0, .int .i64 0] (by exact R_z.out) (by kernel_rfl) rfl (by kernel_rfl) ?_; intro zf hb sb))
      have hy := HY.out
      rw [if_pos ⟨HE.out, HM.out⟩] at hy
      injection hy with hy1 hy2
      subst hy1 hy2
      have RF := Lib.hid hb
      have LF := Lib.hid (sb.bel L_z.out (Nat.le_refl _))
      clear hb sb
      have f0 : zf.cell? ⟨w.heap.size, 0, none⟩ = some (.int .i64 v1) := (cellsB (i := 0) RF.out).trans rfl
      have f1 : zf.cell? ⟨w.heap.size, 1, none⟩ = some (.int .i64 v2) := (cellsB (i := 1) RF.out).trans rfl
      have f2 : zf.cell? ⟨w.heap.size, 2, none⟩ = some (.int .i64 v3) := (cellsB (i := 2) RF.out).trans rfl
      have f3 : zf.cell? ⟨w.heap.size, 3, none⟩ = some (.int .i64 v4) := (cellsB (i := 3) RF.out).trans rfl
      have f4 : zf.cell? ⟨w.heap.size, 4, none⟩ = some (.int .i64 v5) := (cellsB (i := 4) RF.out).trans rfl
      have f5 : zf.cell? ⟨w.heap.size, 5, none⟩ = some (.int .i64 v6) := (cellsB (i := 5) RF.out).trans rfl
      have f6 : zf.cell? ⟨w.heap.size, 6, none⟩ = some (.int .i64 v7) := (cellsB (i := 6) RF.out).trans rfl
      have f7 : zf.cell? ⟨w.heap.size, 7, none⟩ = some (.int .i64 v8) := (cellsB (i := 7) RF.out).trans rfl
      have f8 : zf.cell? ⟨w.heap.size, 8, none⟩ = some (.int .i64 v9) := (cellsB (i := 8) RF.out).trans rfl
      have f9 : zf.cell? ⟨w.heap.size, 9, none⟩ = some (.int .i64 v10) := (cellsB (i := 9) RF.out).trans rfl
      have f10 : zf.cell? ⟨w.heap.size, 10, none⟩ = some (.int .i64 v11) := (cellsB (i := 10) RF.out).trans rfl
      go_wp2
      refine bodyPost_ret (v := .tuple #[.agg #[.int .i64 v1, .int .i64 v2, .int .i64 v3, .int .i64 v4, .int .i64 v5, .int .i64 v6, .int .i64 v7, .int .i64 v8, .int .i64 v9, .int .i64 v10, .int .i64 v11], .int .i64 0]) (by simp [results, Try.results42, go_sem, f0, f1, f2, f3, f4, f5, f6, f7, f8, f9, f10]) rfl ?_
      exact ⟨by rw [HXV.out], LF.out⟩
    · have HM := Lib.hid hm
      have HC := Lib.hid (fun W => rmay14_is x false (decide_eq_false hm) W)
      rw [HXV.out] at HC
      clear hm
      go_wp2_with (refine wpl_row (by rfl) 26 _ rfl _ rfl _ _ _ _ T_t11.out rfl Try.underlying26 (by kernel_rfl) ?_)
      refine (HC.out _).mono ?_
      rintro e z ⟨rfl, b3⟩
      have R_z := Lib.hid (blk0 R_t11.out b3)
      have L_z := Lib.hid (bel0 L_t11.out L_t11.out.size b3)
      have T_z := Lib.hid (blk0 T_t11.out b3)
      clear b3 Q_t11 R_t11 L_t11 T_t11
      go_wp2_with (first | (refine wpl_build (by rfl) 26 _ rfl #[.int .i64 0, .int .i64 0, .int .i64 0, .int .i64 0, .int .i64 0, .int .i64 0, .int .i64 0, .int .i64 0, .int .i64 0, .int .i64 0, .int .i64 0] (by kernel_rfl) ?_) | (refine wpl_set rfl 26 _ _ rfl w.heap.size #[.int .i64 0, .int .i64 0, .int .i64 0, .int .i64 0, .int .i64 0, .int .i64 0, .int .i64 0, .int .i64 0, .int .i64 0, .int .i64 0, .int .i64 0] rfl rfl 26 #[.int .i64 0, .int .i64 0, .int .i64 0, .int .i64 0, .int .i64 0, .int .i64 0, .int .i64 0, .int .i64 0, .int .i64 0, .int .i64 0, .int .i64 0] (by exact R_z.out) (by kernel_rfl) rfl (by kernel_rfl) ?_; intro zf hb sb))
      have hy := HY.out
      rw [if_neg (fun h => HM.out h.2)] at hy
      injection hy with hy1 hy2
      subst hy1 hy2
      have RF := Lib.hid hb
      have LF := Lib.hid (sb.bel L_z.out (Nat.le_refl _))
      clear hb sb
      have f0 : zf.cell? ⟨w.heap.size, 0, none⟩ = some (.int .i64 0) := (cellsB (i := 0) RF.out).trans rfl
      have f1 : zf.cell? ⟨w.heap.size, 1, none⟩ = some (.int .i64 0) := (cellsB (i := 1) RF.out).trans rfl
      have f2 : zf.cell? ⟨w.heap.size, 2, none⟩ = some (.int .i64 0) := (cellsB (i := 2) RF.out).trans rfl
      have f3 : zf.cell? ⟨w.heap.size, 3, none⟩ = some (.int .i64 0) := (cellsB (i := 3) RF.out).trans rfl
      have f4 : zf.cell? ⟨w.heap.size, 4, none⟩ = some (.int .i64 0) := (cellsB (i := 4) RF.out).trans rfl
      have f5 : zf.cell? ⟨w.heap.size, 5, none⟩ = some (.int .i64 0) := (cellsB (i := 5) RF.out).trans rfl
      have f6 : zf.cell? ⟨w.heap.size, 6, none⟩ = some (.int .i64 0) := (cellsB (i := 6) RF.out).trans rfl
      have f7 : zf.cell? ⟨w.heap.size, 7, none⟩ = some (.int .i64 0) := (cellsB (i := 7) RF.out).trans rfl
      have f8 : zf.cell? ⟨w.heap.size, 8, none⟩ = some (.int .i64 0) := (cellsB (i := 8) RF.out).trans rfl
      have f9 : zf.cell? ⟨w.heap.size, 9, none⟩ = some (.int .i64 0) := (cellsB (i := 9) RF.out).trans rfl
      have f10 : zf.cell? ⟨w.heap.size, 10, none⟩ = some (.int .i64 0) := (cellsB (i := 10) RF.out).trans rfl
      go_wp2
      refine bodyPost_ret (v := .tuple #[.agg #[.int .i64 0, .int .i64 0, .int .i64 0, .int .i64 0, .int .i64 0, .int .i64 0, .int .i64 0, .int .i64 0, .int .i64 0, .int .i64 0, .int .i64 0], .int .i64 2]) (by simp [results, Try.results42, go_sem, f0, f1, f2, f3, f4, f5, f6, f7, f8, f9, f10]) rfl ?_
      exact ⟨rfl, LF.out⟩
  · obtain ⟨ve, hve⟩ : ∃ v, rEnd s11 = v := ⟨_, rfl⟩
    have hvn : (ve == 0) = false := beq_eq_false_iff_ne.2 (by rw [← hve]; exact he)
    have hvn2 : (ve != 0) = true := by unfold bne; rw [hvn]; rfl
    have HE := Lib.hid he
    have HVE := Lib.hid hve
    clear he hve
    refine (rrend_w Q_t11.out HVE.out).mono ?_
    rintro e w' ⟨rfl, rfl⟩
    go_wp2_with (first | (refine wpl_build (by rfl) 26 _ rfl #[.int .i64 0, .int .i64 0, .int .i64 0, .int .i64 0, .int .i64 0, .int .i64 0, .int .i64 0, .int .i64 0, .int .i64 0, .int .i64 0, .int .i64 0] (by kernel_rfl) ?_) | (refine wpl_set rfl 26 _ _ rfl w.heap.size #[.int .i64 0, .int .i64 0, .int .i64 0, .int .i64 0, .int .i64 0, .int .i64 0, .int .i64 0, .int .i64 0, .int .i64 0, .int .i64 0, .int .i64 0] rfl rfl 26 #[.int .i64 0, .int .i64 0, .int .i64 0, .int .i64 0, .int .i64 0, .int .i64 0, .int .i64 0, .int .i64 0, .int .i64 0, .int .i64 0, .int .i64 0] (by exact R_t11.out) (by kernel_rfl) rfl (by kernel_rfl) ?_; intro zf hb sb))
    have hy := HY.out
    rw [if_neg (fun h => HE.out h.1)] at hy
    injection hy with hy1 hy2
    subst hy1 hy2
    have RF := Lib.hid hb
    have LF := Lib.hid (sb.bel L_t11.out (Nat.le_refl _))
    clear hb sb
    have f0 : zf.cell? ⟨w.heap.size, 0, none⟩ = some (.int .i64 0) := (cellsB (i := 0) RF.out).trans rfl
    have f1 : zf.cell? ⟨w.heap.size, 1, none⟩ = some (.int .i64 0) := (cellsB (i := 1) RF.out).trans rfl
    have f2 : zf.cell? ⟨w.heap.size, 2, none⟩ = some (.int .i64 0) := (cellsB (i := 2) RF.out).trans rfl
    have f3 : zf.cell? ⟨w.heap.size, 3, none⟩ = some (.int .i64 0) := (cellsB (i := 3) RF.out).trans rfl
    have f4 : zf.cell? ⟨w.heap.size, 4, none⟩ = some (.int .i64 0) := (cellsB (i := 4) RF.out).trans rfl
    have f5 : zf.cell? ⟨w.heap.size, 5, none⟩ = some (.int .i64 0) := (cellsB (i := 5) RF.out).trans rfl
    have f6 : zf.cell? ⟨w.heap.size, 6, none⟩ = some (.int .i64 0) := (cellsB (i := 6) RF.out).trans rfl
    have f7 : zf.cell? ⟨w.heap.size, 7, none⟩ = some (.int .i64 0) := (cellsB (i := 7) RF.out).trans rfl
    have f8 : zf.cell? ⟨w.heap.size, 8, none⟩ = some (.int .i64 0) := (cellsB (i := 8) RF.out).trans rfl
    have f9 : zf.cell? ⟨w.heap.size, 9, none⟩ = some (.int .i64 0) := (cellsB (i := 9) RF.out).trans rfl
    have f10 : zf.cell? ⟨w.heap.size, 10, none⟩ = some (.int .i64 0) := (cellsB (i := 10) RF.out).trans rfl
    go_wp2
    refine bodyPost_ret (v := .tuple #[.agg #[.int .i64 0, .int .i64 0, .int .i64 0, .int .i64 0, .int .i64 0, .int .i64 0, .int .i64 0, .int .i64 0, .int .i64 0, .int .i64 0, .int .i64 0], .int .i64 2]) (by simp [results, Try.results42, go_sem, f0, f1, f2, f3, f4, f5, f6, f7, f8, f9, f10]) rfl ?_
    exact ⟨rfl, LF.out⟩
end Go.Proofs.Ytplgodfhhlnojaa
