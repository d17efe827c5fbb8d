/- sojournref14.PutRecord, walked (printed by genrecref.py). -/
import Derived.Test.YtplgodfhhlnojaaRec0
import Derived.Test.YtplgodfhhlnojaaSgB3
import Derived.Test.YtplgodfhhlnojaaB7
import Derived.Test.YtplgodfhhlnojaaB4
set_option linter.unusedSimpArgs false
set_option linter.unusedVariables false
namespace Go.Proofs.Ytplgodfhhlnojaa
open Go.RowKit
set_option maxRecDepth 100000 in
set_option maxHeartbeats 4000000 in
theorem rputrec1 (now ans : Int) (o : O5) (s : S11) (w : World) (h : MayR ⟨1, now, ans, o, s⟩) : Calls Try.prog 57 #[R19.val ⟨1, now, ans, o, s⟩] w fun e w' => e = .returned (.string ⟨(encR ⟨1, now, ans, o, s⟩).toArray⟩) ∧ Below w.heap.size w w' := by
  obtain ⟨_, In, Ia, Io, Is⟩ := MayR_in _ h
  simp only at In Ia Io Is
  obtain ⟨E1, e1⟩ : ∃ L, enc 1 = L := ⟨_, rfl⟩
  have l1 : E1.length ≤ 10 := by rw [← e1]; exact enc_le _
  have C1 := fun W => Lib.hid (refint_in 1 E1 e1 ⟨by omega, by omega⟩ W)
  obtain ⟨E2, e2⟩ : ∃ L, enc now = L := ⟨_, rfl⟩
  have l2 : E2.length ≤ 10 := by rw [← e2]; exact enc_le _
  have C2 := fun W => Lib.hid (refint_in now E2 e2 In W)
  obtain ⟨Lx, ex⟩ : ∃ L, encO o = L := ⟨_, rfl⟩
  have lx : Lx.length ≤ 50 := by rw [← ex]; exact encO_le o
  have CP := fun W => Lib.hid (refputop_c o W Io)
  rw [ex] at CP
  unfold O5.val at CP
  obtain ⟨E4, e4⟩ : ∃ L, enc ans = L := ⟨_, rfl⟩
  have l4 : E4.length ≤ 10 := by rw [← e4]; exact enc_le _
  have C4 := fun W => Lib.hid (refint_in ans E4 e4 Ia W)
  obtain ⟨E3, e3⟩ : ∃ L, encT Lx = L := ⟨_, rfl⟩
  have l3 : E3.length ≤ 130 := by rw [← e3]; have := encT_le Lx; omega
  have CT := fun W => Lib.hid (by have := reftext_c ⟨Lx.toArray⟩ W (by show Lx.toArray.size ≤ _; simp; omega); rw [show (⟨Lx.toArray⟩ : ByteArray).data.toList = Lx from by simp, e3] at this; exact this : Calls Try.prog 93 #[.string ⟨Lx.toArray⟩] W fun e w' => e = .returned (.string ⟨E3.toArray⟩) ∧ Below W.heap.size W w')
  have HE := Lib.hid (show encR ⟨1, now, ans, o, s⟩ = E1 ++ E2 ++ E3 ++ E4 by unfold encR; simp [e1, e2, e3, ex, e4])
  obtain ⟨LE, eLE⟩ : ∃ L, encR ⟨1, now, ans, o, s⟩ = L := ⟨_, rfl⟩
  rw [eLE] at HE ⊢
  clear h In Ia Io Is eLE e1 e2 e3 ex e4
  unfold R19.val
  simp only
  have W0 : ∀ s' : BW (w.heap.size + 1) (w.alloc (.cells #[.int .i64 1, .int .i64 now, .int .i64 ans, .int .i64 o.kind, .int .i64 o.book, .int .i64 o.units, .int .i64 o.cust, .int .i64 o.amount, .int .i64 s.w.b, .int .i64 s.w.c, .int .i64 s.w.d, .int .i64 s.w.m0, .int .i64 s.w.m1, .int .i64 s.w.m2, .int .i64 s.w.p, .int .i64 s.ph, .int .i64 s.st, .int .i64 s.re, .int .i64 s.si] 82)), s'.val.heap[w.heap.size]? = some (.cells #[.int .i64 1, .int .i64 now, .int .i64 ans, .int .i64 o.kind, .int .i64 o.book, .int .i64 o.units, .int .i64 o.cust, .int .i64 o.amount, .int .i64 s.w.b, .int .i64 s.w.c, .int .i64 s.w.d, .int .i64 s.w.m0, .int .i64 s.w.m1, .int .i64 s.w.m2, .int .i64 s.w.p, .int .i64 s.ph, .int .i64 s.st, .int .i64 s.re, .int .i64 s.si] 82 (0, 0)) := fun s' => (s'.h.block w.heap.size (by omega)).trans (heap_alloc_new w _)
  have q0 : ∀ s' : BW (w.heap.size + 1) (w.alloc (.cells #[.int .i64 1, .int .i64 now, .int .i64 ans, .int .i64 o.kind, .int .i64 o.book, .int .i64 o.units, .int .i64 o.cust, .int .i64 o.amount, .int .i64 s.w.b, .int .i64 s.w.c, .int .i64 s.w.d, .int .i64 s.w.m0, .int .i64 s.w.m1, .int .i64 s.w.m2, .int .i64 s.w.p, .int .i64 s.ph, .int .i64 s.st, .int .i64 s.re, .int .i64 s.si] 82)), s'.val.cell? ⟨w.heap.size, 0, none⟩ = some (.int .i64 1) := fun s' => (cellsB (i := 0) (W0 s')).trans rfl
  have q1 : ∀ s' : BW (w.heap.size + 1) (w.alloc (.cells #[.int .i64 1, .int .i64 now, .int .i64 ans, .int .i64 o.kind, .int .i64 o.book, .int .i64 o.units, .int .i64 o.cust, .int .i64 o.amount, .int .i64 s.w.b, .int .i64 s.w.c, .int .i64 s.w.d, .int .i64 s.w.m0, .int .i64 s.w.m1, .int .i64 s.w.m2, .int .i64 s.w.p, .int .i64 s.ph, .int .i64 s.st, .int .i64 s.re, .int .i64 s.si] 82)), s'.val.cell? ⟨w.heap.size, 1, none⟩ = some (.int .i64 now) := fun s' => (cellsB (i := 1) (W0 s')).trans rfl
  clear W0
  go_enter Try.func57, Try.ntmps57
  go_wp2_with fail
  refine wp_region_below (w.heap.size + 1) (by kernel_rfl) (by kernel_rfl) ?_
  repeat (first | go_big_quiet_step ((first | (go_at_call 76; (with_reducible exact BW.call (by simp) (C1 _).out)) | (go_at_call 76; (with_reducible exact BW.call (by simp) (C2 _).out)))) | quiet_step ((first | (go_at_call 76; (with_reducible exact BW.call (by simp) (C1 _).out)) | (go_at_call 76; (with_reducible exact BW.call (by simp) (C2 _).out)))))
  refine wpQuiet_nil ?_
  intro _ hw'
  obtain ⟨sb, hw''⟩ := hw'
  subst hw''
  clear q0 q1 C1 C2
  have q := sb.h
  generalize sb.val = w1 at q ⊢
  clear sb
  have S1 := Lib.hid ((q.block w.heap.size (by omega)).trans (heap_alloc_new w (.cells #[.int .i64 1, .int .i64 now, .int .i64 ans, .int .i64 o.kind, .int .i64 o.book, .int .i64 o.units, .int .i64 o.cust, .int .i64 o.amount, .int .i64 s.w.b, .int .i64 s.w.c, .int .i64 s.w.d, .int .i64 s.w.m0, .int .i64 s.w.m1, .int .i64 s.w.m2, .int .i64 s.w.p, .int .i64 s.ph, .int .i64 s.st, .int .i64 s.re, .int .i64 s.si] 82)))
  have L1 := Lib.hid (show Below w.heap.size w w1 from ((Below.refl _ _).alloc (Nat.le_refl _) _).trans (q.mono (by omega)))
  clear q
  have k0 : w1.cell? ⟨w.heap.size, 0, none⟩ = some (.int .i64 1) := (cellsB (i := 0) S1.out).trans rfl
  have hlt := lt_size S1.out
  have q2 : ∀ s' : BW w1.heap.size w1, s'.val.cell? ⟨w.heap.size, 2, none⟩ = some (.int .i64 ans) := fun s' => (cellsB (i := 2) (blk0 S1.out s'.h)).trans rfl
  have q3 : ∀ s' : BW w1.heap.size w1, s'.val.cell? ⟨w.heap.size, 3, none⟩ = some (.int .i64 o.kind) := fun s' => (cellsB (i := 3) (blk0 S1.out s'.h)).trans rfl
  have q4 : ∀ s' : BW w1.heap.size w1, s'.val.cell? ⟨w.heap.size, 4, none⟩ = some (.int .i64 o.book) := fun s' => (cellsB (i := 4) (blk0 S1.out s'.h)).trans rfl
  have q5 : ∀ s' : BW w1.heap.size w1, s'.val.cell? ⟨w.heap.size, 5, none⟩ = some (.int .i64 o.units) := fun s' => (cellsB (i := 5) (blk0 S1.out s'.h)).trans rfl
  have q6 : ∀ s' : BW w1.heap.size w1, s'.val.cell? ⟨w.heap.size, 6, none⟩ = some (.int .i64 o.cust) := fun s' => (cellsB (i := 6) (blk0 S1.out s'.h)).trans rfl
  have q7 : ∀ s' : BW w1.heap.size w1, s'.val.cell? ⟨w.heap.size, 7, none⟩ = some (.int .i64 o.amount) := fun s' => (cellsB (i := 7) (blk0 S1.out s'.h)).trans rfl
  go_wp2_with fail
  refine wp_region_below (w1.heap.size) (by kernel_rfl) (by kernel_rfl) ?_
  repeat (first | go_big_quiet_step ((first | (go_at_call 94; (with_reducible exact BW.call (Nat.le_refl _) (CP _).out)) | (go_at_call 93; (with_reducible exact BW.call (Nat.le_refl _) (CT _).out)) | (go_at_call 76; (with_reducible exact BW.call (Nat.le_refl _) (C4 _).out)))) | quiet_step ((first | (go_at_call 94; (with_reducible exact BW.call (Nat.le_refl _) (CP _).out)) | (go_at_call 93; (with_reducible exact BW.call (Nat.le_refl _) (CT _).out)) | (go_at_call 76; (with_reducible exact BW.call (Nat.le_refl _) (C4 _).out)))))
  refine wpQuiet_nil ?_
  intro _ hw'
  obtain ⟨sb, hw''⟩ := hw'
  subst hw''
  clear q2 q3 q4 q5 q6 q7
  have L2 := Lib.hid (L1.out.trans (sb.h.mono L1.out.size))
  go_wp2
  go_ret
  refine ⟨ret_str (a := _) (b := ⟨LE.toArray⟩) ?_, L2.out⟩
  apply Go.WideShapes.bytes_inj
  rw [HE.out]
  simp
set_option maxRecDepth 100000 in
set_option maxHeartbeats 4000000 in
theorem rputrec2 (now ans : Int) (o : O5) (s : S11) (w : World) (h : MayR ⟨2, now, ans, o, s⟩) : Calls Try.prog 57 #[R19.val ⟨2, now, ans, o, s⟩] w fun e w' => e = .returned (.string ⟨(encR ⟨2, now, ans, o, s⟩).toArray⟩) ∧ Below w.heap.size w w' := by
  obtain ⟨_, In, Ia, Io, Is⟩ := MayR_in _ h
  simp only at In Ia Io Is
  obtain ⟨E1, e1⟩ : ∃ L, enc 2 = L := ⟨_, rfl⟩
  have l1 : E1.length ≤ 10 := by rw [← e1]; exact enc_le _
  have C1 := fun W => Lib.hid (refint_in 2 E1 e1 ⟨by omega, by omega⟩ W)
  obtain ⟨E2, e2⟩ : ∃ L, enc now = L := ⟨_, rfl⟩
  have l2 : E2.length ≤ 10 := by rw [← e2]; exact enc_le _
  have C2 := fun W => Lib.hid (refint_in now E2 e2 In W)
  have HE := Lib.hid (show encR ⟨2, now, ans, o, s⟩ = E1 ++ E2 by unfold encR; simp [e1, e2])
  obtain ⟨LE, eLE⟩ : ∃ L, encR ⟨2, now, ans, o, s⟩ = L := ⟨_, rfl⟩
  rw [eLE] at HE ⊢
  clear h In Ia Io Is eLE e1 e2
  unfold R19.val
  simp only
  have W0 : ∀ s' : BW (w.heap.size + 1) (w.alloc (.cells #[.int .i64 2, .int .i64 now, .int .i64 ans, .int .i64 o.kind, .int .i64 o.book, .int .i64 o.units, .int .i64 o.cust, .int .i64 o.amount, .int .i64 s.w.b, .int .i64 s.w.c, .int .i64 s.w.d, .int .i64 s.w.m0, .int .i64 s.w.m1, .int .i64 s.w.m2, .int .i64 s.w.p, .int .i64 s.ph, .int .i64 s.st, .int .i64 s.re, .int .i64 s.si] 82)), s'.val.heap[w.heap.size]? = some (.cells #[.int .i64 2, .int .i64 now, .int .i64 ans, .int .i64 o.kind, .int .i64 o.book, .int .i64 o.units, .int .i64 o.cust, .int .i64 o.amount, .int .i64 s.w.b, .int .i64 s.w.c, .int .i64 s.w.d, .int .i64 s.w.m0, .int .i64 s.w.m1, .int .i64 s.w.m2, .int .i64 s.w.p, .int .i64 s.ph, .int .i64 s.st, .int .i64 s.re, .int .i64 s.si] 82 (0, 0)) := fun s' => (s'.h.block w.heap.size (by omega)).trans (heap_alloc_new w _)
  have q0 : ∀ s' : BW (w.heap.size + 1) (w.alloc (.cells #[.int .i64 2, .int .i64 now, .int .i64 ans, .int .i64 o.kind, .int .i64 o.book, .int .i64 o.units, .int .i64 o.cust, .int .i64 o.amount, .int .i64 s.w.b, .int .i64 s.w.c, .int .i64 s.w.d, .int .i64 s.w.m0, .int .i64 s.w.m1, .int .i64 s.w.m2, .int .i64 s.w.p, .int .i64 s.ph, .int .i64 s.st, .int .i64 s.re, .int .i64 s.si] 82)), s'.val.cell? ⟨w.heap.size, 0, none⟩ = some (.int .i64 2) := fun s' => (cellsB (i := 0) (W0 s')).trans rfl
  have q1 : ∀ s' : BW (w.heap.size + 1) (w.alloc (.cells #[.int .i64 2, .int .i64 now, .int .i64 ans, .int .i64 o.kind, .int .i64 o.book, .int .i64 o.units, .int .i64 o.cust, .int .i64 o.amount, .int .i64 s.w.b, .int .i64 s.w.c, .int .i64 s.w.d, .int .i64 s.w.m0, .int .i64 s.w.m1, .int .i64 s.w.m2, .int .i64 s.w.p, .int .i64 s.ph, .int .i64 s.st, .int .i64 s.re, .int .i64 s.si] 82)), s'.val.cell? ⟨w.heap.size, 1, none⟩ = some (.int .i64 now) := fun s' => (cellsB (i := 1) (W0 s')).trans rfl
  clear W0
  go_enter Try.func57, Try.ntmps57
  go_wp2_with fail
  refine wp_region_below (w.heap.size + 1) (by kernel_rfl) (by kernel_rfl) ?_
  repeat (first | go_big_quiet_step ((first | (go_at_call 76; (with_reducible exact BW.call (by simp) (C1 _).out)) | (go_at_call 76; (with_reducible exact BW.call (by simp) (C2 _).out)))) | quiet_step ((first | (go_at_call 76; (with_reducible exact BW.call (by simp) (C1 _).out)) | (go_at_call 76; (with_reducible exact BW.call (by simp) (C2 _).out)))))
  refine wpQuiet_nil ?_
  intro _ hw'
  obtain ⟨sb, hw''⟩ := hw'
  subst hw''
  clear q0 q1 C1 C2
  have q := sb.h
  generalize sb.val = w1 at q ⊢
  clear sb
  have S1 := Lib.hid ((q.block w.heap.size (by omega)).trans (heap_alloc_new w (.cells #[.int .i64 2, .int .i64 now, .int .i64 ans, .int .i64 o.kind, .int .i64 o.book, .int .i64 o.units, .int .i64 o.cust, .int .i64 o.amount, .int .i64 s.w.b, .int .i64 s.w.c, .int .i64 s.w.d, .int .i64 s.w.m0, .int .i64 s.w.m1, .int .i64 s.w.m2, .int .i64 s.w.p, .int .i64 s.ph, .int .i64 s.st, .int .i64 s.re, .int .i64 s.si] 82)))
  have L1 := Lib.hid (show Below w.heap.size w w1 from ((Below.refl _ _).alloc (Nat.le_refl _) _).trans (q.mono (by omega)))
  clear q
  have k0 : w1.cell? ⟨w.heap.size, 0, none⟩ = some (.int .i64 2) := (cellsB (i := 0) S1.out).trans rfl
  go_wp2
  go_ret
  refine ⟨ret_str (a := _) (b := ⟨LE.toArray⟩) ?_, L1.out⟩
  apply Go.WideShapes.bytes_inj
  rw [HE.out]
  simp
set_option maxRecDepth 100000 in
set_option maxHeartbeats 4000000 in
theorem rputrec3 (now ans : Int) (o : O5) (s : S11) (w : World) (h : MayR ⟨3, now, ans, o, s⟩) : Calls Try.prog 57 #[R19.val ⟨3, now, ans, o, s⟩] w fun e w' => e = .returned (.string ⟨(encR ⟨3, now, ans, o, s⟩).toArray⟩) ∧ Below w.heap.size w w' := by
  obtain ⟨_, In, Ia, Io, Is⟩ := MayR_in _ h
  simp only at In Ia Io Is
  obtain ⟨E1, e1⟩ : ∃ L, enc 3 = L := ⟨_, rfl⟩
  have l1 : E1.length ≤ 10 := by rw [← e1]; exact enc_le _
  have C1 := fun W => Lib.hid (refint_in 3 E1 e1 ⟨by omega, by omega⟩ W)
  obtain ⟨E2, e2⟩ : ∃ L, enc now = L := ⟨_, rfl⟩
  have l2 : E2.length ≤ 10 := by rw [← e2]; exact enc_le _
  have C2 := fun W => Lib.hid (refint_in now E2 e2 In W)
  obtain ⟨Lx, ex⟩ : ∃ L, encS s = L := ⟨_, rfl⟩
  have lx : Lx.length ≤ 110 := by rw [← ex]; exact encS_le s
  have CP := fun W => Lib.hid (rput_c s W Is)
  rw [ex] at CP
  unfold S11.val at CP
  obtain ⟨E3, e3⟩ : ∃ L, encT Lx = L := ⟨_, rfl⟩
  have l3 : E3.length ≤ 130 := by rw [← e3]; have := encT_le Lx; omega
  have CT := fun W => Lib.hid (by have := reftext_c ⟨Lx.toArray⟩ W (by show Lx.toArray.size ≤ _; simp; omega); rw [show (⟨Lx.toArray⟩ : ByteArray).data.toList = Lx from by simp, e3] at this; exact this : Calls Try.prog 93 #[.string ⟨Lx.toArray⟩] W fun e w' => e = .returned (.string ⟨E3.toArray⟩) ∧ Below W.heap.size W w')
  have HE := Lib.hid (show encR ⟨3, now, ans, o, s⟩ = E1 ++ E2 ++ E3 by unfold encR; simp [e1, e2, e3, ex])
  obtain ⟨LE, eLE⟩ : ∃ L, encR ⟨3, now, ans, o, s⟩ = L := ⟨_, rfl⟩
  rw [eLE] at HE ⊢
  clear h In Ia Io Is eLE e1 e2 e3 ex
  unfold R19.val
  simp only
  have W0 : ∀ s' : BW (w.heap.size + 1) (w.alloc (.cells #[.int .i64 3, .int .i64 now, .int .i64 ans, .int .i64 o.kind, .int .i64 o.book, .int .i64 o.units, .int .i64 o.cust, .int .i64 o.amount, .int .i64 s.w.b, .int .i64 s.w.c, .int .i64 s.w.d, .int .i64 s.w.m0, .int .i64 s.w.m1, .int .i64 s.w.m2, .int .i64 s.w.p, .int .i64 s.ph, .int .i64 s.st, .int .i64 s.re, .int .i64 s.si] 82)), s'.val.heap[w.heap.size]? = some (.cells #[.int .i64 3, .int .i64 now, .int .i64 ans, .int .i64 o.kind, .int .i64 o.book, .int .i64 o.units, .int .i64 o.cust, .int .i64 o.amount, .int .i64 s.w.b, .int .i64 s.w.c, .int .i64 s.w.d, .int .i64 s.w.m0, .int .i64 s.w.m1, .int .i64 s.w.m2, .int .i64 s.w.p, .int .i64 s.ph, .int .i64 s.st, .int .i64 s.re, .int .i64 s.si] 82 (0, 0)) := fun s' => (s'.h.block w.heap.size (by omega)).trans (heap_alloc_new w _)
  have q0 : ∀ s' : BW (w.heap.size + 1) (w.alloc (.cells #[.int .i64 3, .int .i64 now, .int .i64 ans, .int .i64 o.kind, .int .i64 o.book, .int .i64 o.units, .int .i64 o.cust, .int .i64 o.amount, .int .i64 s.w.b, .int .i64 s.w.c, .int .i64 s.w.d, .int .i64 s.w.m0, .int .i64 s.w.m1, .int .i64 s.w.m2, .int .i64 s.w.p, .int .i64 s.ph, .int .i64 s.st, .int .i64 s.re, .int .i64 s.si] 82)), s'.val.cell? ⟨w.heap.size, 0, none⟩ = some (.int .i64 3) := fun s' => (cellsB (i := 0) (W0 s')).trans rfl
  have q1 : ∀ s' : BW (w.heap.size + 1) (w.alloc (.cells #[.int .i64 3, .int .i64 now, .int .i64 ans, .int .i64 o.kind, .int .i64 o.book, .int .i64 o.units, .int .i64 o.cust, .int .i64 o.amount, .int .i64 s.w.b, .int .i64 s.w.c, .int .i64 s.w.d, .int .i64 s.w.m0, .int .i64 s.w.m1, .int .i64 s.w.m2, .int .i64 s.w.p, .int .i64 s.ph, .int .i64 s.st, .int .i64 s.re, .int .i64 s.si] 82)), s'.val.cell? ⟨w.heap.size, 1, none⟩ = some (.int .i64 now) := fun s' => (cellsB (i := 1) (W0 s')).trans rfl
  clear W0
  go_enter Try.func57, Try.ntmps57
  go_wp2_with fail
  refine wp_region_below (w.heap.size + 1) (by kernel_rfl) (by kernel_rfl) ?_
  repeat (first | go_big_quiet_step ((first | (go_at_call 76; (with_reducible exact BW.call (by simp) (C1 _).out)) | (go_at_call 76; (with_reducible exact BW.call (by simp) (C2 _).out)))) | quiet_step ((first | (go_at_call 76; (with_reducible exact BW.call (by simp) (C1 _).out)) | (go_at_call 76; (with_reducible exact BW.call (by simp) (C2 _).out)))))
  refine wpQuiet_nil ?_
  intro _ hw'
  obtain ⟨sb, hw''⟩ := hw'
  subst hw''
  clear q0 q1 C1 C2
  have q := sb.h
  generalize sb.val = w1 at q ⊢
  clear sb
  have S1 := Lib.hid ((q.block w.heap.size (by omega)).trans (heap_alloc_new w (.cells #[.int .i64 3, .int .i64 now, .int .i64 ans, .int .i64 o.kind, .int .i64 o.book, .int .i64 o.units, .int .i64 o.cust, .int .i64 o.amount, .int .i64 s.w.b, .int .i64 s.w.c, .int .i64 s.w.d, .int .i64 s.w.m0, .int .i64 s.w.m1, .int .i64 s.w.m2, .int .i64 s.w.p, .int .i64 s.ph, .int .i64 s.st, .int .i64 s.re, .int .i64 s.si] 82)))
  have L1 := Lib.hid (show Below w.heap.size w w1 from ((Below.refl _ _).alloc (Nat.le_refl _) _).trans (q.mono (by omega)))
  clear q
  have k0 : w1.cell? ⟨w.heap.size, 0, none⟩ = some (.int .i64 3) := (cellsB (i := 0) S1.out).trans rfl
  go_wp2_with (refine wpl_load (by rfl) 26 _ rfl ⟨w.heap.size, 8, none⟩ rfl [.int .i64 s.w.b, .int .i64 s.w.c, .int .i64 s.w.d, .int .i64 s.w.m0, .int .i64 s.w.m1, .int .i64 s.w.m2, .int .i64 s.w.p, .int .i64 s.ph, .int .i64 s.st, .int .i64 s.re, .int .i64 s.si] _ (seg_at S1.out [.int .i64 s.w.b, .int .i64 s.w.c, .int .i64 s.w.d, .int .i64 s.w.m0, .int .i64 s.w.m1, .int .i64 s.w.m2, .int .i64 s.w.p, .int .i64 s.ph, .int .i64 s.st, .int .i64 s.re, .int .i64 s.si] rfl) (by rfl) Try.underlying26 (by kernel_rfl) ?_)
  refine ((CP _).out).mono ?_
  rintro e w2 ⟨rfl, q⟩
  have L2 := Lib.hid (bel0 L1.out L1.out.size q)
  clear q L1 S1 k0
  go_wp2_with fail
  refine ((CT _).out).mono ?_
  rintro e w3 ⟨rfl, q⟩
  have L3 := Lib.hid (bel0 L2.out L2.out.size q)
  clear q L2
  go_wp2
  go_ret
  refine ⟨ret_str (a := _) (b := ⟨LE.toArray⟩) ?_, L3.out⟩
  apply Go.WideShapes.bytes_inj
  rw [HE.out]
  simp
theorem rputrec_c (x : R19) (w : World) (h : MayR x) : Calls Try.prog 57 #[x.val] w fun e w' => e = .returned (.string ⟨(encR x).toArray⟩) ∧ Below w.heap.size w w' := by
  obtain ⟨k, now, ans, o, s⟩ := x
  rcases h.2 with ⟨hk, _⟩ | ⟨hk, _⟩ | ⟨hk, _⟩ <;> (simp only at hk; subst hk)
  · exact rputrec1 now ans o s w h
  · exact rputrec2 now ans o s w h
  · exact rputrec3 now ans o s w h
end Go.Proofs.Ytplgodfhhlnojaa
