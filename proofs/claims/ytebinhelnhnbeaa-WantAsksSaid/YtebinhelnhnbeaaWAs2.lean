/- The law WantAsks, walked in a case (printed by genwasks.py). -/
import Derived.Test.YtebinhelnhnbeaaWAs0
import Derived.Test.YtebinhelnhnbeaaWRefGO
import Derived.Test.YtebinhelnhnbeaaWRefP
import Derived.Test.YtebinhelnhnbeaaWTurn
import Derived.Test.YtebinhelnhnbeaaBelowR
set_option linter.unusedSimpArgs false
set_option linter.unusedVariables false
namespace Go.Proofs.Ytebinhelnhnbeaa
open Go.RowKit
set_option maxRecDepth 100000 in
set_option maxHeartbeats 4000000 in
theorem wasks3 (x : W7) (o : O5) (A : Option Addr) (n c : Nat) (l : List UInt8) (w : World) (hr : Rd w w.heap.size 1 A n (B8 l)) (hn : n ≤ 100) (hx : ¬ MayW x) (ho : MayO o) : Calls Try.prog 12 #[x.val, o.val, .slice A n c] w fun e w' => e = .returned (.bool true) ∧ Below w.heap.size w w' := by
  have T := Lib.hid told3
  have hnl : l.length = n := by have := hr.1; simp [B8] at this; omega
  have Px := Lib.hid (fun W => encW_no x W hx)
  have Mx := Lib.hid (fun W => may_isW x false (decide_eq_false hx) W)
  have Dx := Lib.hid (fun W => rmay_is2 x false (decide_eq_false hx) W)
  simp only [W7.val, O5.val] at Px Mx Dx
  clear hx
  have Po := Lib.hid (fun W => encO_yes o W ho (MayO_fits _ ho))
  have Qo := Lib.hid (fun W => refputop_c o W (MayO_fits _ ho))
  obtain ⟨lo, eo⟩ : ∃ l, encO o = l := ⟨_, rfl⟩
  obtain ⟨no, eno⟩ : ∃ n, lo.length = n := ⟨_, rfl⟩
  have No := Lib.hid eno
  rw [eo] at Po Qo
  clear eo eno
  have sto : (lo == lo) = true := beq_self_eq_true _
  simp only [W7.val, O5.val] at Qo
  have Mo := Lib.hid (fun W => may_isO o true (decide_eq_true ho) W)
  have Do := Lib.hid (fun W => rmayop_is o true (decide_eq_true ho) W)
  simp only [W7.val, O5.val] at Po Mo Do
  clear ho
  obtain ⟨z, k, hz⟩ : ∃ z k, gW l = (z, k) := ⟨_, _, rfl⟩
  obtain ⟨u, j, hu⟩ : ∃ u j, gO l = (u, j) := ⟨_, _, rfl⟩
  have G1 := Lib.hid (fun A c (w : World) (hr : Rd w w.heap.size 1 A n (B8 l)) => get_is hz A n c w hr (by omega))
  have G2 := Lib.hid (refget_is hz (by omega))
  have G3 := Lib.hid (fun A c (w : World) (hr : Rd w w.heap.size 1 A n (B8 l)) => getop_is hu A n c w hr (by omega))
  have G4 := Lib.hid (refgetop_is hu (by omega))
  have s7 := sameW z z true (by simp)
  have s5 := sameO u u true (by simp)
  have HR := Lib.hid hr
  clear hz hu hr hnl
  simp only [W7.val, O5.val] at G1 G2 G3 G4 s7 s5
  unfold W7.val O5.val
  obtain ⟨f1, f2, f3⟩ := two_boxes w (.cells #[.int .i64 x.b, .int .i64 x.c, .int .i64 x.d, .int .i64 x.m0, .int .i64 x.m1, .int .i64 x.m2, .int .i64 x.p] 57) (.cells #[.int .i64 o.kind, .int .i64 o.book, .int .i64 o.units, .int .i64 o.cust, .int .i64 o.amount] 65)
  have F1 := Lib.hid f1
  have F2 := Lib.hid f2
  have F3 := Lib.hid f3
  clear f1 f2 f3
  have a0 : ∀ s : BW (w.heap.size + 2) ((w.alloc (.cells #[.int .i64 x.b, .int .i64 x.c, .int .i64 x.d, .int .i64 x.m0, .int .i64 x.m1, .int .i64 x.m2, .int .i64 x.p] 57)).alloc (.cells #[.int .i64 o.kind, .int .i64 o.book, .int .i64 o.units, .int .i64 o.cust, .int .i64 o.amount] 65)), s.val.cell? ⟨w.heap.size, 0, none⟩ = some (.int .i64 x.b) := fun s => (cellsW (i := 0) ((s.h.block w.heap.size (by omega)).trans F1.out)).trans rfl
  have a1 : ∀ s : BW (w.heap.size + 2) ((w.alloc (.cells #[.int .i64 x.b, .int .i64 x.c, .int .i64 x.d, .int .i64 x.m0, .int .i64 x.m1, .int .i64 x.m2, .int .i64 x.p] 57)).alloc (.cells #[.int .i64 o.kind, .int .i64 o.book, .int .i64 o.units, .int .i64 o.cust, .int .i64 o.amount] 65)), s.val.cell? ⟨w.heap.size, 1, none⟩ = some (.int .i64 x.c) := fun s => (cellsW (i := 1) ((s.h.block w.heap.size (by omega)).trans F1.out)).trans rfl
  have a2 : ∀ s : BW (w.heap.size + 2) ((w.alloc (.cells #[.int .i64 x.b, .int .i64 x.c, .int .i64 x.d, .int .i64 x.m0, .int .i64 x.m1, .int .i64 x.m2, .int .i64 x.p] 57)).alloc (.cells #[.int .i64 o.kind, .int .i64 o.book, .int .i64 o.units, .int .i64 o.cust, .int .i64 o.amount] 65)), s.val.cell? ⟨w.heap.size, 2, none⟩ = some (.int .i64 x.d) := fun s => (cellsW (i := 2) ((s.h.block w.heap.size (by omega)).trans F1.out)).trans rfl
  have a3 : ∀ s : BW (w.heap.size + 2) ((w.alloc (.cells #[.int .i64 x.b, .int .i64 x.c, .int .i64 x.d, .int .i64 x.m0, .int .i64 x.m1, .int .i64 x.m2, .int .i64 x.p] 57)).alloc (.cells #[.int .i64 o.kind, .int .i64 o.book, .int .i64 o.units, .int .i64 o.cust, .int .i64 o.amount] 65)), s.val.cell? ⟨w.heap.size, 3, none⟩ = some (.int .i64 x.m0) := fun s => (cellsW (i := 3) ((s.h.block w.heap.size (by omega)).trans F1.out)).trans rfl
  have a4 : ∀ s : BW (w.heap.size + 2) ((w.alloc (.cells #[.int .i64 x.b, .int .i64 x.c, .int .i64 x.d, .int .i64 x.m0, .int .i64 x.m1, .int .i64 x.m2, .int .i64 x.p] 57)).alloc (.cells #[.int .i64 o.kind, .int .i64 o.book, .int .i64 o.units, .int .i64 o.cust, .int .i64 o.amount] 65)), s.val.cell? ⟨w.heap.size, 4, none⟩ = some (.int .i64 x.m1) := fun s => (cellsW (i := 4) ((s.h.block w.heap.size (by omega)).trans F1.out)).trans rfl
  have a5 : ∀ s : BW (w.heap.size + 2) ((w.alloc (.cells #[.int .i64 x.b, .int .i64 x.c, .int .i64 x.d, .int .i64 x.m0, .int .i64 x.m1, .int .i64 x.m2, .int .i64 x.p] 57)).alloc (.cells #[.int .i64 o.kind, .int .i64 o.book, .int .i64 o.units, .int .i64 o.cust, .int .i64 o.amount] 65)), s.val.cell? ⟨w.heap.size, 5, none⟩ = some (.int .i64 x.m2) := fun s => (cellsW (i := 5) ((s.h.block w.heap.size (by omega)).trans F1.out)).trans rfl
  have a6 : ∀ s : BW (w.heap.size + 2) ((w.alloc (.cells #[.int .i64 x.b, .int .i64 x.c, .int .i64 x.d, .int .i64 x.m0, .int .i64 x.m1, .int .i64 x.m2, .int .i64 x.p] 57)).alloc (.cells #[.int .i64 o.kind, .int .i64 o.book, .int .i64 o.units, .int .i64 o.cust, .int .i64 o.amount] 65)), s.val.cell? ⟨w.heap.size, 6, none⟩ = some (.int .i64 x.p) := fun s => (cellsW (i := 6) ((s.h.block w.heap.size (by omega)).trans F1.out)).trans rfl
  have b0 : ∀ s : BW (w.heap.size + 2) ((w.alloc (.cells #[.int .i64 x.b, .int .i64 x.c, .int .i64 x.d, .int .i64 x.m0, .int .i64 x.m1, .int .i64 x.m2, .int .i64 x.p] 57)).alloc (.cells #[.int .i64 o.kind, .int .i64 o.book, .int .i64 o.units, .int .i64 o.cust, .int .i64 o.amount] 65)), s.val.cell? ⟨w.heap.size + 1, 0, none⟩ = some (.int .i64 o.kind) := fun s => (cellsW (i := 0) ((s.h.block (w.heap.size + 1) (by omega)).trans F2.out)).trans rfl
  have b1 : ∀ s : BW (w.heap.size + 2) ((w.alloc (.cells #[.int .i64 x.b, .int .i64 x.c, .int .i64 x.d, .int .i64 x.m0, .int .i64 x.m1, .int .i64 x.m2, .int .i64 x.p] 57)).alloc (.cells #[.int .i64 o.kind, .int .i64 o.book, .int .i64 o.units, .int .i64 o.cust, .int .i64 o.amount] 65)), s.val.cell? ⟨w.heap.size + 1, 1, none⟩ = some (.int .i64 o.book) := fun s => (cellsW (i := 1) ((s.h.block (w.heap.size + 1) (by omega)).trans F2.out)).trans rfl
  have b2 : ∀ s : BW (w.heap.size + 2) ((w.alloc (.cells #[.int .i64 x.b, .int .i64 x.c, .int .i64 x.d, .int .i64 x.m0, .int .i64 x.m1, .int .i64 x.m2, .int .i64 x.p] 57)).alloc (.cells #[.int .i64 o.kind, .int .i64 o.book, .int .i64 o.units, .int .i64 o.cust, .int .i64 o.amount] 65)), s.val.cell? ⟨w.heap.size + 1, 2, none⟩ = some (.int .i64 o.units) := fun s => (cellsW (i := 2) ((s.h.block (w.heap.size + 1) (by omega)).trans F2.out)).trans rfl
  have b3 : ∀ s : BW (w.heap.size + 2) ((w.alloc (.cells #[.int .i64 x.b, .int .i64 x.c, .int .i64 x.d, .int .i64 x.m0, .int .i64 x.m1, .int .i64 x.m2, .int .i64 x.p] 57)).alloc (.cells #[.int .i64 o.kind, .int .i64 o.book, .int .i64 o.units, .int .i64 o.cust, .int .i64 o.amount] 65)), s.val.cell? ⟨w.heap.size + 1, 3, none⟩ = some (.int .i64 o.cust) := fun s => (cellsW (i := 3) ((s.h.block (w.heap.size + 1) (by omega)).trans F2.out)).trans rfl
  have b4 : ∀ s : BW (w.heap.size + 2) ((w.alloc (.cells #[.int .i64 x.b, .int .i64 x.c, .int .i64 x.d, .int .i64 x.m0, .int .i64 x.m1, .int .i64 x.m2, .int .i64 x.p] 57)).alloc (.cells #[.int .i64 o.kind, .int .i64 o.book, .int .i64 o.units, .int .i64 o.cust, .int .i64 o.amount] 65)), s.val.cell? ⟨w.heap.size + 1, 4, none⟩ = some (.int .i64 o.amount) := fun s => (cellsW (i := 4) ((s.h.block (w.heap.size + 1) (by omega)).trans F2.out)).trans rfl
  go_enter Try.func12, Try.ntmps12
  go_wp2_with fail
  refine wp_region_below (w.heap.size + 2) (by kernel_rfl) (by kernel_rfl) ?_
  repeat (first | go_big_quiet_step ((first | (go_at_call 37; (with_reducible exact BW.call (by simp) (Dx.out _))) | (go_at_call 40; (with_reducible exact BW.call (by simp) (Do.out _))))) | quiet_step ((first | (go_at_call 37; (with_reducible exact BW.call (by simp) (Dx.out _))) | (go_at_call 40; (with_reducible exact BW.call (by simp) (Do.out _))))))
  refine wpQuiet_nil ?_
  intro _ hw'
  obtain ⟨sb, hw''⟩ := hw'
  subst hw''
  clear a0 a1 a2 a3 a4 a5 a6 b0 b1 b2 b3 b4
  have q := sb.h
  generalize sb.val = w0 at q ⊢
  clear sb
  have x_0 := Lib.hid ((q.block w.heap.size (by omega)).trans F1.out)
  have o_0 := Lib.hid ((q.block (w.heap.size + 1) (by omega)).trans F2.out)
  have B0 := Lib.hid (F3.out.trans (q.mono (by omega)))
  have Rb_0 := Lib.hid ((HR.out.below B0.out).more B0.out.size)
  clear q F1 F2 F3 HR Dx Do
  have cx0 : w0.cell? ⟨w.heap.size, 0, none⟩ = some (.int .i64 x.b) := (cellsW (i := 0) x_0.out).trans rfl
  have cx1 : w0.cell? ⟨w.heap.size, 1, none⟩ = some (.int .i64 x.c) := (cellsW (i := 1) x_0.out).trans rfl
  have cx2 : w0.cell? ⟨w.heap.size, 2, none⟩ = some (.int .i64 x.d) := (cellsW (i := 2) x_0.out).trans rfl
  have cx3 : w0.cell? ⟨w.heap.size, 3, none⟩ = some (.int .i64 x.m0) := (cellsW (i := 3) x_0.out).trans rfl
  have cx4 : w0.cell? ⟨w.heap.size, 4, none⟩ = some (.int .i64 x.m1) := (cellsW (i := 4) x_0.out).trans rfl
  have cx5 : w0.cell? ⟨w.heap.size, 5, none⟩ = some (.int .i64 x.m2) := (cellsW (i := 5) x_0.out).trans rfl
  have cx6 : w0.cell? ⟨w.heap.size, 6, none⟩ = some (.int .i64 x.p) := (cellsW (i := 6) x_0.out).trans rfl
  go_wp2_with fail
  refine (Px.out _).mono ?_
  rintro e w1 ⟨rfl, q⟩
  have x_1 := Lib.hid (blk0 x_0.out q)
  have o_1 := Lib.hid (blk0 o_0.out q)
  have Rb_1 := Lib.hid (rd0 Rb_0.out q)
  have B1 := Lib.hid (bel0 B0.out B0.out.size q)
  clear q x_0 o_0 Rb_0 B0
  clear cx0 cx1 cx2 cx3 cx4 cx5 cx6
  clear Px
  have co0 : w1.cell? ⟨(w.heap.size + 1), 0, none⟩ = some (.int .i64 o.kind) := (cellsW (i := 0) o_1.out).trans rfl
  have co1 : w1.cell? ⟨(w.heap.size + 1), 1, none⟩ = some (.int .i64 o.book) := (cellsW (i := 1) o_1.out).trans rfl
  have co2 : w1.cell? ⟨(w.heap.size + 1), 2, none⟩ = some (.int .i64 o.units) := (cellsW (i := 2) o_1.out).trans rfl
  have co3 : w1.cell? ⟨(w.heap.size + 1), 3, none⟩ = some (.int .i64 o.cust) := (cellsW (i := 3) o_1.out).trans rfl
  have co4 : w1.cell? ⟨(w.heap.size + 1), 4, none⟩ = some (.int .i64 o.amount) := (cellsW (i := 4) o_1.out).trans rfl
  go_wp2_with fail
  refine (Po.out _).mono ?_
  rintro e w2 ⟨vo, rfl, ob, q⟩
  have x_2 := Lib.hid (blk0 x_1.out q)
  have o_2 := Lib.hid (blk0 o_1.out q)
  have Rb_2 := Lib.hid (rd0 Rb_1.out q)
  have B2 := Lib.hid (bel0 B1.out B1.out.size q)
  clear q x_1 o_1 Rb_1 B1
  obtain ⟨Ao, cpo, rfl, mo1, mo2, ro⟩ := ob.form
  have Ro_2 := Lib.hid ro
  clear ro ob
  rw [No.out] at *
  clear co0 co1 co2 co3 co4
  clear Po
  have cx0 : w2.cell? ⟨w.heap.size, 0, none⟩ = some (.int .i64 x.b) := (cellsW (i := 0) x_2.out).trans rfl
  have cx1 : w2.cell? ⟨w.heap.size, 1, none⟩ = some (.int .i64 x.c) := (cellsW (i := 1) x_2.out).trans rfl
  have cx2 : w2.cell? ⟨w.heap.size, 2, none⟩ = some (.int .i64 x.d) := (cellsW (i := 2) x_2.out).trans rfl
  have cx3 : w2.cell? ⟨w.heap.size, 3, none⟩ = some (.int .i64 x.m0) := (cellsW (i := 3) x_2.out).trans rfl
  have cx4 : w2.cell? ⟨w.heap.size, 4, none⟩ = some (.int .i64 x.m1) := (cellsW (i := 4) x_2.out).trans rfl
  have cx5 : w2.cell? ⟨w.heap.size, 5, none⟩ = some (.int .i64 x.m2) := (cellsW (i := 5) x_2.out).trans rfl
  have cx6 : w2.cell? ⟨w.heap.size, 6, none⟩ = some (.int .i64 x.p) := (cellsW (i := 6) x_2.out).trans rfl
  go_wp2_with fail
  refine (Mx.out _).mono ?_
  rintro e w3 ⟨rfl, q⟩
  have x_3 := Lib.hid (blk0 x_2.out q)
  have o_3 := Lib.hid (blk0 o_2.out q)
  have Rb_3 := Lib.hid (rd0 Rb_2.out q)
  have Ro_3 := Lib.hid (rd0 Ro_2.out q)
  have B3 := Lib.hid (bel0 B2.out B2.out.size q)
  clear q x_2 o_2 Rb_2 Ro_2 B2
  clear cx0 cx1 cx2 cx3 cx4 cx5 cx6
  clear Mx
  have co0 : w3.cell? ⟨(w.heap.size + 1), 0, none⟩ = some (.int .i64 o.kind) := (cellsW (i := 0) o_3.out).trans rfl
  have co1 : w3.cell? ⟨(w.heap.size + 1), 1, none⟩ = some (.int .i64 o.book) := (cellsW (i := 1) o_3.out).trans rfl
  have co2 : w3.cell? ⟨(w.heap.size + 1), 2, none⟩ = some (.int .i64 o.units) := (cellsW (i := 2) o_3.out).trans rfl
  have co3 : w3.cell? ⟨(w.heap.size + 1), 3, none⟩ = some (.int .i64 o.cust) := (cellsW (i := 3) o_3.out).trans rfl
  have co4 : w3.cell? ⟨(w.heap.size + 1), 4, none⟩ = some (.int .i64 o.amount) := (cellsW (i := 4) o_3.out).trans rfl
  go_wp2_with fail
  refine (Mo.out _).mono ?_
  rintro e w4 ⟨rfl, q⟩
  have x_4 := Lib.hid (blk0 x_3.out q)
  have o_4 := Lib.hid (blk0 o_3.out q)
  have Rb_4 := Lib.hid (rd0 Rb_3.out q)
  have Ro_4 := Lib.hid (rd0 Ro_3.out q)
  have B4 := Lib.hid (bel0 B3.out B3.out.size q)
  clear q x_3 o_3 Rb_3 Ro_3 B3
  clear co0 co1 co2 co3 co4
  clear Mo
  have ao0 : ∀ s : BW w4.heap.size w4, s.val.cell? ⟨(w.heap.size + 1), 0, none⟩ = some (.int .i64 o.kind) := fun s => (cellsW (i := 0) (blk0 o_4.out s.h)).trans rfl
  have ao1 : ∀ s : BW w4.heap.size w4, s.val.cell? ⟨(w.heap.size + 1), 1, none⟩ = some (.int .i64 o.book) := fun s => (cellsW (i := 1) (blk0 o_4.out s.h)).trans rfl
  have ao2 : ∀ s : BW w4.heap.size w4, s.val.cell? ⟨(w.heap.size + 1), 2, none⟩ = some (.int .i64 o.units) := fun s => (cellsW (i := 2) (blk0 o_4.out s.h)).trans rfl
  have ao3 : ∀ s : BW w4.heap.size w4, s.val.cell? ⟨(w.heap.size + 1), 3, none⟩ = some (.int .i64 o.cust) := fun s => (cellsW (i := 3) (blk0 o_4.out s.h)).trans rfl
  have ao4 : ∀ s : BW w4.heap.size w4, s.val.cell? ⟨(w.heap.size + 1), 4, none⟩ = some (.int .i64 o.amount) := fun s => (cellsW (i := 4) (blk0 o_4.out s.h)).trans rfl
  have cvo : ∀ s : BW w4.heap.size w4, (convert 24 9 (.slice Ao no cpo)).run Try.prog s.val = .ok (.string ⟨lo.toArray⟩) s.val := fun s => run_conv_str (Ro_4.out.below s.h)
  go_wp2_with fail
  refine wp_region_below (w4.heap.size) (by kernel_rfl) (by kernel_rfl) ?_
  repeat (first | go_big_quiet_step ((first | (go_at_call 44; (with_reducible exact BW.call (Nat.le_refl _) (Qo.out _))))) | quiet_step ((first | (go_at_call 44; (with_reducible exact BW.call (Nat.le_refl _) (Qo.out _))))))
  refine wpQuiet_nil ?_
  intro _ hw'
  obtain ⟨sb, hw''⟩ := hw'
  subst hw''
  have q := sb.h
  generalize sb.val = w5 at q ⊢
  clear sb ao0 ao1 ao2 ao3 ao4 cvo
  clear x_4
  clear o_4
  clear Ro_4
  have Rb_5 := Lib.hid (rd0 Rb_4.out q)
  have B5 := Lib.hid (bel0 B4.out B4.out.size q)
  clear q Rb_4 B4
  go_wp2_with fail
  refine (G1.out _ _ _ Rb_5.out).mono ?_
  rintro e w6 ⟨rfl, q⟩
  have Rb_6 := Lib.hid (rd0 Rb_5.out q)
  have B6 := Lib.hid (bel0 B5.out B5.out.size q)
  clear q Rb_5 B5
  have cv : (convert 24 9 (.slice A n c)).run Try.prog (w6.alloc (.cells #[.int .i64 z.b, .int .i64 z.c, .int .i64 z.d, .int .i64 z.m0, .int .i64 z.m1, .int .i64 z.m2, .int .i64 z.p] 57)) = .ok (.string ⟨l.toArray⟩) (w6.alloc (.cells #[.int .i64 z.b, .int .i64 z.c, .int .i64 z.d, .int .i64 z.m0, .int .i64 z.m1, .int .i64 z.m2, .int .i64 z.p] 57)) := run_conv_str (rda (o := (.cells #[.int .i64 z.b, .int .i64 z.c, .int .i64 z.d, .int .i64 z.m0, .int .i64 z.m1, .int .i64 z.m2, .int .i64 z.p] 57)) Rb_6.out)
  go_wp2_with fail
  refine (G2.out _).mono ?_
  rintro e w7 ⟨rfl, q⟩
  have u1_7 := Lib.hid (new1 q)
  have Rb_7 := Lib.hid (rd1 Rb_6.out q)
  have B7 := Lib.hid (bel1 B6.out B6.out.size q)
  clear q Rb_6 B6
  clear cv
  go_wp2_with fail
  refine (G3.out _ _ _ (rda (o := (.cells #[.int .i64 z.b, .int .i64 z.c, .int .i64 z.d, .int .i64 z.m0, .int .i64 z.m1, .int .i64 z.m2, .int .i64 z.p] 57)) Rb_7.out)).mono ?_
  rintro e w8 ⟨rfl, q⟩
  have u1_8 := Lib.hid (blk1 u1_7.out q)
  have u2_8 := Lib.hid (new1 q)
  have Rb_8 := Lib.hid (rd1 Rb_7.out q)
  have B8 := Lib.hid (bel1 B7.out B7.out.size q)
  clear q u1_7 Rb_7 B7
  have cv : (convert 24 9 (.slice A n c)).run Try.prog (w8.alloc (.cells #[.int .i64 u.kind, .int .i64 u.book, .int .i64 u.units, .int .i64 u.cust, .int .i64 u.amount] 65)) = .ok (.string ⟨l.toArray⟩) (w8.alloc (.cells #[.int .i64 u.kind, .int .i64 u.book, .int .i64 u.units, .int .i64 u.cust, .int .i64 u.amount] 65)) := run_conv_str (rda (o := (.cells #[.int .i64 u.kind, .int .i64 u.book, .int .i64 u.units, .int .i64 u.cust, .int .i64 u.amount] 65)) Rb_8.out)
  go_wp2_with fail
  refine (G4.out _).mono ?_
  rintro e w9 ⟨rfl, q⟩
  have u1_9 := Lib.hid (blk1 u1_8.out q)
  have u2_9 := Lib.hid (blk1 u2_8.out q)
  have u3_9 := Lib.hid (new1 q)
  have Rb_9 := Lib.hid (rd1 Rb_8.out q)
  have B9 := Lib.hid (bel1 B8.out B8.out.size q)
  clear q u1_8 u2_8 Rb_8 B8
  clear cv
  clear Rb_9
  go_wp2_with fail
  refine (T.out _).mono ?_
  rintro e w10 ⟨rfl, q⟩
  have u1_10 := Lib.hid (blk1 u1_9.out q)
  have u2_10 := Lib.hid (blk1 u2_9.out q)
  have u3_10 := Lib.hid (blk1 u3_9.out q)
  have u4_10 := Lib.hid (new1 q)
  have B10 := Lib.hid (bel1 B9.out B9.out.size q)
  clear q u1_9 u2_9 u3_9 B9
  have cu10 : w10.cell? ⟨w6.heap.size, 0, none⟩ = some (.int .i64 z.b) := (cellsW (i := 0) u1_10.out).trans rfl
  have cu11 : w10.cell? ⟨w6.heap.size, 1, none⟩ = some (.int .i64 z.c) := (cellsW (i := 1) u1_10.out).trans rfl
  have cu12 : w10.cell? ⟨w6.heap.size, 2, none⟩ = some (.int .i64 z.d) := (cellsW (i := 2) u1_10.out).trans rfl
  have cu13 : w10.cell? ⟨w6.heap.size, 3, none⟩ = some (.int .i64 z.m0) := (cellsW (i := 3) u1_10.out).trans rfl
  have cu14 : w10.cell? ⟨w6.heap.size, 4, none⟩ = some (.int .i64 z.m1) := (cellsW (i := 4) u1_10.out).trans rfl
  have cu15 : w10.cell? ⟨w6.heap.size, 5, none⟩ = some (.int .i64 z.m2) := (cellsW (i := 5) u1_10.out).trans rfl
  have cu16 : w10.cell? ⟨w6.heap.size, 6, none⟩ = some (.int .i64 z.p) := (cellsW (i := 6) u1_10.out).trans rfl
  have cu20 : w10.cell? ⟨w7.heap.size, 0, none⟩ = some (.int .i64 z.b) := (cellsW (i := 0) u2_10.out).trans rfl
  have cu21 : w10.cell? ⟨w7.heap.size, 1, none⟩ = some (.int .i64 z.c) := (cellsW (i := 1) u2_10.out).trans rfl
  have cu22 : w10.cell? ⟨w7.heap.size, 2, none⟩ = some (.int .i64 z.d) := (cellsW (i := 2) u2_10.out).trans rfl
  have cu23 : w10.cell? ⟨w7.heap.size, 3, none⟩ = some (.int .i64 z.m0) := (cellsW (i := 3) u2_10.out).trans rfl
  have cu24 : w10.cell? ⟨w7.heap.size, 4, none⟩ = some (.int .i64 z.m1) := (cellsW (i := 4) u2_10.out).trans rfl
  have cu25 : w10.cell? ⟨w7.heap.size, 5, none⟩ = some (.int .i64 z.m2) := (cellsW (i := 5) u2_10.out).trans rfl
  have cu26 : w10.cell? ⟨w7.heap.size, 6, none⟩ = some (.int .i64 z.p) := (cellsW (i := 6) u2_10.out).trans rfl
  have cu30 : w10.cell? ⟨w8.heap.size, 0, none⟩ = some (.int .i64 u.kind) := (cellsW (i := 0) u3_10.out).trans rfl
  have cu31 : w10.cell? ⟨w8.heap.size, 1, none⟩ = some (.int .i64 u.book) := (cellsW (i := 1) u3_10.out).trans rfl
  have cu32 : w10.cell? ⟨w8.heap.size, 2, none⟩ = some (.int .i64 u.units) := (cellsW (i := 2) u3_10.out).trans rfl
  have cu33 : w10.cell? ⟨w8.heap.size, 3, none⟩ = some (.int .i64 u.cust) := (cellsW (i := 3) u3_10.out).trans rfl
  have cu34 : w10.cell? ⟨w8.heap.size, 4, none⟩ = some (.int .i64 u.amount) := (cellsW (i := 4) u3_10.out).trans rfl
  have cu40 : w10.cell? ⟨w9.heap.size, 0, none⟩ = some (.int .i64 u.kind) := (cellsW (i := 0) u4_10.out).trans rfl
  have cu41 : w10.cell? ⟨w9.heap.size, 1, none⟩ = some (.int .i64 u.book) := (cellsW (i := 1) u4_10.out).trans rfl
  have cu42 : w10.cell? ⟨w9.heap.size, 2, none⟩ = some (.int .i64 u.units) := (cellsW (i := 2) u4_10.out).trans rfl
  have cu43 : w10.cell? ⟨w9.heap.size, 3, none⟩ = some (.int .i64 u.cust) := (cellsW (i := 3) u4_10.out).trans rfl
  have cu44 : w10.cell? ⟨w9.heap.size, 4, none⟩ = some (.int .i64 u.amount) := (cellsW (i := 4) u4_10.out).trans rfl
  go_wp2
  go_ret
  exact ⟨rfl, B10.out⟩
set_option maxRecDepth 100000 in
set_option maxHeartbeats 4000000 in
theorem wasks4 (x : W7) (o : O5) (A : Option Addr) (n c : Nat) (l : List UInt8) (w : World) (hr : Rd w w.heap.size 1 A n (B8 l)) (hn : n ≤ 100) (hx : ¬ MayW x) (ho : ¬ MayO o) : Calls Try.prog 12 #[x.val, o.val, .slice A n c] w fun e w' => e = .returned (.bool true) ∧ Below w.heap.size w w' := by
  have T := Lib.hid told3
  have hnl : l.length = n := by have := hr.1; simp [B8] at this; omega
  have Px := Lib.hid (fun W => encW_no x W hx)
  have Mx := Lib.hid (fun W => may_isW x false (decide_eq_false hx) W)
  have Dx := Lib.hid (fun W => rmay_is2 x false (decide_eq_false hx) W)
  simp only [W7.val, O5.val] at Px Mx Dx
  clear hx
  have Po := Lib.hid (fun W => encO_no o W ho)
  have Mo := Lib.hid (fun W => may_isO o false (decide_eq_false ho) W)
  have Do := Lib.hid (fun W => rmayop_is o false (decide_eq_false ho) W)
  simp only [W7.val, O5.val] at Po Mo Do
  clear ho
  obtain ⟨z, k, hz⟩ : ∃ z k, gW l = (z, k) := ⟨_, _, rfl⟩
  obtain ⟨u, j, hu⟩ : ∃ u j, gO l = (u, j) := ⟨_, _, rfl⟩
  have G1 := Lib.hid (fun A c (w : World) (hr : Rd w w.heap.size 1 A n (B8 l)) => get_is hz A n c w hr (by omega))
  have G2 := Lib.hid (refget_is hz (by omega))
  have G3 := Lib.hid (fun A c (w : World) (hr : Rd w w.heap.size 1 A n (B8 l)) => getop_is hu A n c w hr (by omega))
  have G4 := Lib.hid (refgetop_is hu (by omega))
  have s7 := sameW z z true (by simp)
  have s5 := sameO u u true (by simp)
  have HR := Lib.hid hr
  clear hz hu hr hnl
  simp only [W7.val, O5.val] at G1 G2 G3 G4 s7 s5
  unfold W7.val O5.val
  obtain ⟨f1, f2, f3⟩ := two_boxes w (.cells #[.int .i64 x.b, .int .i64 x.c, .int .i64 x.d, .int .i64 x.m0, .int .i64 x.m1, .int .i64 x.m2, .int .i64 x.p] 57) (.cells #[.int .i64 o.kind, .int .i64 o.book, .int .i64 o.units, .int .i64 o.cust, .int .i64 o.amount] 65)
  have F1 := Lib.hid f1
  have F2 := Lib.hid f2
  have F3 := Lib.hid f3
  clear f1 f2 f3
  have a0 : ∀ s : BW (w.heap.size + 2) ((w.alloc (.cells #[.int .i64 x.b, .int .i64 x.c, .int .i64 x.d, .int .i64 x.m0, .int .i64 x.m1, .int .i64 x.m2, .int .i64 x.p] 57)).alloc (.cells #[.int .i64 o.kind, .int .i64 o.book, .int .i64 o.units, .int .i64 o.cust, .int .i64 o.amount] 65)), s.val.cell? ⟨w.heap.size, 0, none⟩ = some (.int .i64 x.b) := fun s => (cellsW (i := 0) ((s.h.block w.heap.size (by omega)).trans F1.out)).trans rfl
  have a1 : ∀ s : BW (w.heap.size + 2) ((w.alloc (.cells #[.int .i64 x.b, .int .i64 x.c, .int .i64 x.d, .int .i64 x.m0, .int .i64 x.m1, .int .i64 x.m2, .int .i64 x.p] 57)).alloc (.cells #[.int .i64 o.kind, .int .i64 o.book, .int .i64 o.units, .int .i64 o.cust, .int .i64 o.amount] 65)), s.val.cell? ⟨w.heap.size, 1, none⟩ = some (.int .i64 x.c) := fun s => (cellsW (i := 1) ((s.h.block w.heap.size (by omega)).trans F1.out)).trans rfl
  have a2 : ∀ s : BW (w.heap.size + 2) ((w.alloc (.cells #[.int .i64 x.b, .int .i64 x.c, .int .i64 x.d, .int .i64 x.m0, .int .i64 x.m1, .int .i64 x.m2, .int .i64 x.p] 57)).alloc (.cells #[.int .i64 o.kind, .int .i64 o.book, .int .i64 o.units, .int .i64 o.cust, .int .i64 o.amount] 65)), s.val.cell? ⟨w.heap.size, 2, none⟩ = some (.int .i64 x.d) := fun s => (cellsW (i := 2) ((s.h.block w.heap.size (by omega)).trans F1.out)).trans rfl
  have a3 : ∀ s : BW (w.heap.size + 2) ((w.alloc (.cells #[.int .i64 x.b, .int .i64 x.c, .int .i64 x.d, .int .i64 x.m0, .int .i64 x.m1, .int .i64 x.m2, .int .i64 x.p] 57)).alloc (.cells #[.int .i64 o.kind, .int .i64 o.book, .int .i64 o.units, .int .i64 o.cust, .int .i64 o.amount] 65)), s.val.cell? ⟨w.heap.size, 3, none⟩ = some (.int .i64 x.m0) := fun s => (cellsW (i := 3) ((s.h.block w.heap.size (by omega)).trans F1.out)).trans rfl
  have a4 : ∀ s : BW (w.heap.size + 2) ((w.alloc (.cells #[.int .i64 x.b, .int .i64 x.c, .int .i64 x.d, .int .i64 x.m0, .int .i64 x.m1, .int .i64 x.m2, .int .i64 x.p] 57)).alloc (.cells #[.int .i64 o.kind, .int .i64 o.book, .int .i64 o.units, .int .i64 o.cust, .int .i64 o.amount] 65)), s.val.cell? ⟨w.heap.size, 4, none⟩ = some (.int .i64 x.m1) := fun s => (cellsW (i := 4) ((s.h.block w.heap.size (by omega)).trans F1.out)).trans rfl
  have a5 : ∀ s : BW (w.heap.size + 2) ((w.alloc (.cells #[.int .i64 x.b, .int .i64 x.c, .int .i64 x.d, .int .i64 x.m0, .int .i64 x.m1, .int .i64 x.m2, .int .i64 x.p] 57)).alloc (.cells #[.int .i64 o.kind, .int .i64 o.book, .int .i64 o.units, .int .i64 o.cust, .int .i64 o.amount] 65)), s.val.cell? ⟨w.heap.size, 5, none⟩ = some (.int .i64 x.m2) := fun s => (cellsW (i := 5) ((s.h.block w.heap.size (by omega)).trans F1.out)).trans rfl
  have a6 : ∀ s : BW (w.heap.size + 2) ((w.alloc (.cells #[.int .i64 x.b, .int .i64 x.c, .int .i64 x.d, .int .i64 x.m0, .int .i64 x.m1, .int .i64 x.m2, .int .i64 x.p] 57)).alloc (.cells #[.int .i64 o.kind, .int .i64 o.book, .int .i64 o.units, .int .i64 o.cust, .int .i64 o.amount] 65)), s.val.cell? ⟨w.heap.size, 6, none⟩ = some (.int .i64 x.p) := fun s => (cellsW (i := 6) ((s.h.block w.heap.size (by omega)).trans F1.out)).trans rfl
  have b0 : ∀ s : BW (w.heap.size + 2) ((w.alloc (.cells #[.int .i64 x.b, .int .i64 x.c, .int .i64 x.d, .int .i64 x.m0, .int .i64 x.m1, .int .i64 x.m2, .int .i64 x.p] 57)).alloc (.cells #[.int .i64 o.kind, .int .i64 o.book, .int .i64 o.units, .int .i64 o.cust, .int .i64 o.amount] 65)), s.val.cell? ⟨w.heap.size + 1, 0, none⟩ = some (.int .i64 o.kind) := fun s => (cellsW (i := 0) ((s.h.block (w.heap.size + 1) (by omega)).trans F2.out)).trans rfl
  have b1 : ∀ s : BW (w.heap.size + 2) ((w.alloc (.cells #[.int .i64 x.b, .int .i64 x.c, .int .i64 x.d, .int .i64 x.m0, .int .i64 x.m1, .int .i64 x.m2, .int .i64 x.p] 57)).alloc (.cells #[.int .i64 o.kind, .int .i64 o.book, .int .i64 o.units, .int .i64 o.cust, .int .i64 o.amount] 65)), s.val.cell? ⟨w.heap.size + 1, 1, none⟩ = some (.int .i64 o.book) := fun s => (cellsW (i := 1) ((s.h.block (w.heap.size + 1) (by omega)).trans F2.out)).trans rfl
  have b2 : ∀ s : BW (w.heap.size + 2) ((w.alloc (.cells #[.int .i64 x.b, .int .i64 x.c, .int .i64 x.d, .int .i64 x.m0, .int .i64 x.m1, .int .i64 x.m2, .int .i64 x.p] 57)).alloc (.cells #[.int .i64 o.kind, .int .i64 o.book, .int .i64 o.units, .int .i64 o.cust, .int .i64 o.amount] 65)), s.val.cell? ⟨w.heap.size + 1, 2, none⟩ = some (.int .i64 o.units) := fun s => (cellsW (i := 2) ((s.h.block (w.heap.size + 1) (by omega)).trans F2.out)).trans rfl
  have b3 : ∀ s : BW (w.heap.size + 2) ((w.alloc (.cells #[.int .i64 x.b, .int .i64 x.c, .int .i64 x.d, .int .i64 x.m0, .int .i64 x.m1, .int .i64 x.m2, .int .i64 x.p] 57)).alloc (.cells #[.int .i64 o.kind, .int .i64 o.book, .int .i64 o.units, .int .i64 o.cust, .int .i64 o.amount] 65)), s.val.cell? ⟨w.heap.size + 1, 3, none⟩ = some (.int .i64 o.cust) := fun s => (cellsW (i := 3) ((s.h.block (w.heap.size + 1) (by omega)).trans F2.out)).trans rfl
  have b4 : ∀ s : BW (w.heap.size + 2) ((w.alloc (.cells #[.int .i64 x.b, .int .i64 x.c, .int .i64 x.d, .int .i64 x.m0, .int .i64 x.m1, .int .i64 x.m2, .int .i64 x.p] 57)).alloc (.cells #[.int .i64 o.kind, .int .i64 o.book, .int .i64 o.units, .int .i64 o.cust, .int .i64 o.amount] 65)), s.val.cell? ⟨w.heap.size + 1, 4, none⟩ = some (.int .i64 o.amount) := fun s => (cellsW (i := 4) ((s.h.block (w.heap.size + 1) (by omega)).trans F2.out)).trans rfl
  go_enter Try.func12, Try.ntmps12
  go_wp2_with fail
  refine wp_region_below (w.heap.size + 2) (by kernel_rfl) (by kernel_rfl) ?_
  repeat (first | go_big_quiet_step ((first | (go_at_call 37; (with_reducible exact BW.call (by simp) (Dx.out _))) | (go_at_call 40; (with_reducible exact BW.call (by simp) (Do.out _))))) | quiet_step ((first | (go_at_call 37; (with_reducible exact BW.call (by simp) (Dx.out _))) | (go_at_call 40; (with_reducible exact BW.call (by simp) (Do.out _))))))
  refine wpQuiet_nil ?_
  intro _ hw'
  obtain ⟨sb, hw''⟩ := hw'
  subst hw''
  clear a0 a1 a2 a3 a4 a5 a6 b0 b1 b2 b3 b4
  have q := sb.h
  generalize sb.val = w0 at q ⊢
  clear sb
  have x_0 := Lib.hid ((q.block w.heap.size (by omega)).trans F1.out)
  have o_0 := Lib.hid ((q.block (w.heap.size + 1) (by omega)).trans F2.out)
  have B0 := Lib.hid (F3.out.trans (q.mono (by omega)))
  have Rb_0 := Lib.hid ((HR.out.below B0.out).more B0.out.size)
  clear q F1 F2 F3 HR Dx Do
  have cx0 : w0.cell? ⟨w.heap.size, 0, none⟩ = some (.int .i64 x.b) := (cellsW (i := 0) x_0.out).trans rfl
  have cx1 : w0.cell? ⟨w.heap.size, 1, none⟩ = some (.int .i64 x.c) := (cellsW (i := 1) x_0.out).trans rfl
  have cx2 : w0.cell? ⟨w.heap.size, 2, none⟩ = some (.int .i64 x.d) := (cellsW (i := 2) x_0.out).trans rfl
  have cx3 : w0.cell? ⟨w.heap.size, 3, none⟩ = some (.int .i64 x.m0) := (cellsW (i := 3) x_0.out).trans rfl
  have cx4 : w0.cell? ⟨w.heap.size, 4, none⟩ = some (.int .i64 x.m1) := (cellsW (i := 4) x_0.out).trans rfl
  have cx5 : w0.cell? ⟨w.heap.size, 5, none⟩ = some (.int .i64 x.m2) := (cellsW (i := 5) x_0.out).trans rfl
  have cx6 : w0.cell? ⟨w.heap.size, 6, none⟩ = some (.int .i64 x.p) := (cellsW (i := 6) x_0.out).trans rfl
  go_wp2_with fail
  refine (Px.out _).mono ?_
  rintro e w1 ⟨rfl, q⟩
  have x_1 := Lib.hid (blk0 x_0.out q)
  have o_1 := Lib.hid (blk0 o_0.out q)
  have Rb_1 := Lib.hid (rd0 Rb_0.out q)
  have B1 := Lib.hid (bel0 B0.out B0.out.size q)
  clear q x_0 o_0 Rb_0 B0
  clear cx0 cx1 cx2 cx3 cx4 cx5 cx6
  clear Px
  have co0 : w1.cell? ⟨(w.heap.size + 1), 0, none⟩ = some (.int .i64 o.kind) := (cellsW (i := 0) o_1.out).trans rfl
  have co1 : w1.cell? ⟨(w.heap.size + 1), 1, none⟩ = some (.int .i64 o.book) := (cellsW (i := 1) o_1.out).trans rfl
  have co2 : w1.cell? ⟨(w.heap.size + 1), 2, none⟩ = some (.int .i64 o.units) := (cellsW (i := 2) o_1.out).trans rfl
  have co3 : w1.cell? ⟨(w.heap.size + 1), 3, none⟩ = some (.int .i64 o.cust) := (cellsW (i := 3) o_1.out).trans rfl
  have co4 : w1.cell? ⟨(w.heap.size + 1), 4, none⟩ = some (.int .i64 o.amount) := (cellsW (i := 4) o_1.out).trans rfl
  go_wp2_with fail
  refine (Po.out _).mono ?_
  rintro e w2 ⟨rfl, q⟩
  have x_2 := Lib.hid (blk0 x_1.out q)
  have o_2 := Lib.hid (blk0 o_1.out q)
  have Rb_2 := Lib.hid (rd0 Rb_1.out q)
  have B2 := Lib.hid (bel0 B1.out B1.out.size q)
  clear q x_1 o_1 Rb_1 B1
  clear co0 co1 co2 co3 co4
  clear Po
  have cx0 : w2.cell? ⟨w.heap.size, 0, none⟩ = some (.int .i64 x.b) := (cellsW (i := 0) x_2.out).trans rfl
  have cx1 : w2.cell? ⟨w.heap.size, 1, none⟩ = some (.int .i64 x.c) := (cellsW (i := 1) x_2.out).trans rfl
  have cx2 : w2.cell? ⟨w.heap.size, 2, none⟩ = some (.int .i64 x.d) := (cellsW (i := 2) x_2.out).trans rfl
  have cx3 : w2.cell? ⟨w.heap.size, 3, none⟩ = some (.int .i64 x.m0) := (cellsW (i := 3) x_2.out).trans rfl
  have cx4 : w2.cell? ⟨w.heap.size, 4, none⟩ = some (.int .i64 x.m1) := (cellsW (i := 4) x_2.out).trans rfl
  have cx5 : w2.cell? ⟨w.heap.size, 5, none⟩ = some (.int .i64 x.m2) := (cellsW (i := 5) x_2.out).trans rfl
  have cx6 : w2.cell? ⟨w.heap.size, 6, none⟩ = some (.int .i64 x.p) := (cellsW (i := 6) x_2.out).trans rfl
  go_wp2_with fail
  refine (Mx.out _).mono ?_
  rintro e w3 ⟨rfl, q⟩
  have x_3 := Lib.hid (blk0 x_2.out q)
  have o_3 := Lib.hid (blk0 o_2.out q)
  have Rb_3 := Lib.hid (rd0 Rb_2.out q)
  have B3 := Lib.hid (bel0 B2.out B2.out.size q)
  clear q x_2 o_2 Rb_2 B2
  clear cx0 cx1 cx2 cx3 cx4 cx5 cx6
  clear Mx
  have co0 : w3.cell? ⟨(w.heap.size + 1), 0, none⟩ = some (.int .i64 o.kind) := (cellsW (i := 0) o_3.out).trans rfl
  have co1 : w3.cell? ⟨(w.heap.size + 1), 1, none⟩ = some (.int .i64 o.book) := (cellsW (i := 1) o_3.out).trans rfl
  have co2 : w3.cell? ⟨(w.heap.size + 1), 2, none⟩ = some (.int .i64 o.units) := (cellsW (i := 2) o_3.out).trans rfl
  have co3 : w3.cell? ⟨(w.heap.size + 1), 3, none⟩ = some (.int .i64 o.cust) := (cellsW (i := 3) o_3.out).trans rfl
  have co4 : w3.cell? ⟨(w.heap.size + 1), 4, none⟩ = some (.int .i64 o.amount) := (cellsW (i := 4) o_3.out).trans rfl
  go_wp2_with fail
  refine (Mo.out _).mono ?_
  rintro e w4 ⟨rfl, q⟩
  have x_4 := Lib.hid (blk0 x_3.out q)
  have o_4 := Lib.hid (blk0 o_3.out q)
  have Rb_4 := Lib.hid (rd0 Rb_3.out q)
  have B4 := Lib.hid (bel0 B3.out B3.out.size q)
  clear q x_3 o_3 Rb_3 B3
  clear co0 co1 co2 co3 co4
  clear Mo
  go_wp2_with fail
  refine wp_region_below (w4.heap.size) (by kernel_rfl) (by kernel_rfl) ?_
  repeat (first | go_big_quiet_step ((fail)) | quiet_step ((fail)))
  refine wpQuiet_nil ?_
  intro _ hw'
  obtain ⟨sb, hw''⟩ := hw'
  subst hw''
  have q := sb.h
  generalize sb.val = w5 at q ⊢
  clear sb
  clear x_4
  clear o_4
  have Rb_5 := Lib.hid (rd0 Rb_4.out q)
  have B5 := Lib.hid (bel0 B4.out B4.out.size q)
  clear q Rb_4 B4
  go_wp2_with fail
  refine (G1.out _ _ _ Rb_5.out).mono ?_
  rintro e w6 ⟨rfl, q⟩
  have Rb_6 := Lib.hid (rd0 Rb_5.out q)
  have B6 := Lib.hid (bel0 B5.out B5.out.size q)
  clear q Rb_5 B5
  have cv : (convert 24 9 (.slice A n c)).run Try.prog (w6.alloc (.cells #[.int .i64 z.b, .int .i64 z.c, .int .i64 z.d, .int .i64 z.m0, .int .i64 z.m1, .int .i64 z.m2, .int .i64 z.p] 57)) = .ok (.string ⟨l.toArray⟩) (w6.alloc (.cells #[.int .i64 z.b, .int .i64 z.c, .int .i64 z.d, .int .i64 z.m0, .int .i64 z.m1, .int .i64 z.m2, .int .i64 z.p] 57)) := run_conv_str (rda (o := (.cells #[.int .i64 z.b, .int .i64 z.c, .int .i64 z.d, .int .i64 z.m0, .int .i64 z.m1, .int .i64 z.m2, .int .i64 z.p] 57)) Rb_6.out)
  go_wp2_with fail
  refine (G2.out _).mono ?_
  rintro e w7 ⟨rfl, q⟩
  have u1_7 := Lib.hid (new1 q)
  have Rb_7 := Lib.hid (rd1 Rb_6.out q)
  have B7 := Lib.hid (bel1 B6.out B6.out.size q)
  clear q Rb_6 B6
  clear cv
  go_wp2_with fail
  refine (G3.out _ _ _ (rda (o := (.cells #[.int .i64 z.b, .int .i64 z.c, .int .i64 z.d, .int .i64 z.m0, .int .i64 z.m1, .int .i64 z.m2, .int .i64 z.p] 57)) Rb_7.out)).mono ?_
  rintro e w8 ⟨rfl, q⟩
  have u1_8 := Lib.hid (blk1 u1_7.out q)
  have u2_8 := Lib.hid (new1 q)
  have Rb_8 := Lib.hid (rd1 Rb_7.out q)
  have B8 := Lib.hid (bel1 B7.out B7.out.size q)
  clear q u1_7 Rb_7 B7
  have cv : (convert 24 9 (.slice A n c)).run Try.prog (w8.alloc (.cells #[.int .i64 u.kind, .int .i64 u.book, .int .i64 u.units, .int .i64 u.cust, .int .i64 u.amount] 65)) = .ok (.string ⟨l.toArray⟩) (w8.alloc (.cells #[.int .i64 u.kind, .int .i64 u.book, .int .i64 u.units, .int .i64 u.cust, .int .i64 u.amount] 65)) := run_conv_str (rda (o := (.cells #[.int .i64 u.kind, .int .i64 u.book, .int .i64 u.units, .int .i64 u.cust, .int .i64 u.amount] 65)) Rb_8.out)
  go_wp2_with fail
  refine (G4.out _).mono ?_
  rintro e w9 ⟨rfl, q⟩
  have u1_9 := Lib.hid (blk1 u1_8.out q)
  have u2_9 := Lib.hid (blk1 u2_8.out q)
  have u3_9 := Lib.hid (new1 q)
  have Rb_9 := Lib.hid (rd1 Rb_8.out q)
  have B9 := Lib.hid (bel1 B8.out B8.out.size q)
  clear q u1_8 u2_8 Rb_8 B8
  clear cv
  clear Rb_9
  go_wp2_with fail
  refine (T.out _).mono ?_
  rintro e w10 ⟨rfl, q⟩
  have u1_10 := Lib.hid (blk1 u1_9.out q)
  have u2_10 := Lib.hid (blk1 u2_9.out q)
  have u3_10 := Lib.hid (blk1 u3_9.out q)
  have u4_10 := Lib.hid (new1 q)
  have B10 := Lib.hid (bel1 B9.out B9.out.size q)
  clear q u1_9 u2_9 u3_9 B9
  have cu10 : w10.cell? ⟨w6.heap.size, 0, none⟩ = some (.int .i64 z.b) := (cellsW (i := 0) u1_10.out).trans rfl
  have cu11 : w10.cell? ⟨w6.heap.size, 1, none⟩ = some (.int .i64 z.c) := (cellsW (i := 1) u1_10.out).trans rfl
  have cu12 : w10.cell? ⟨w6.heap.size, 2, none⟩ = some (.int .i64 z.d) := (cellsW (i := 2) u1_10.out).trans rfl
  have cu13 : w10.cell? ⟨w6.heap.size, 3, none⟩ = some (.int .i64 z.m0) := (cellsW (i := 3) u1_10.out).trans rfl
  have cu14 : w10.cell? ⟨w6.heap.size, 4, none⟩ = some (.int .i64 z.m1) := (cellsW (i := 4) u1_10.out).trans rfl
  have cu15 : w10.cell? ⟨w6.heap.size, 5, none⟩ = some (.int .i64 z.m2) := (cellsW (i := 5) u1_10.out).trans rfl
  have cu16 : w10.cell? ⟨w6.heap.size, 6, none⟩ = some (.int .i64 z.p) := (cellsW (i := 6) u1_10.out).trans rfl
  have cu20 : w10.cell? ⟨w7.heap.size, 0, none⟩ = some (.int .i64 z.b) := (cellsW (i := 0) u2_10.out).trans rfl
  have cu21 : w10.cell? ⟨w7.heap.size, 1, none⟩ = some (.int .i64 z.c) := (cellsW (i := 1) u2_10.out).trans rfl
  have cu22 : w10.cell? ⟨w7.heap.size, 2, none⟩ = some (.int .i64 z.d) := (cellsW (i := 2) u2_10.out).trans rfl
  have cu23 : w10.cell? ⟨w7.heap.size, 3, none⟩ = some (.int .i64 z.m0) := (cellsW (i := 3) u2_10.out).trans rfl
  have cu24 : w10.cell? ⟨w7.heap.size, 4, none⟩ = some (.int .i64 z.m1) := (cellsW (i := 4) u2_10.out).trans rfl
  have cu25 : w10.cell? ⟨w7.heap.size, 5, none⟩ = some (.int .i64 z.m2) := (cellsW (i := 5) u2_10.out).trans rfl
  have cu26 : w10.cell? ⟨w7.heap.size, 6, none⟩ = some (.int .i64 z.p) := (cellsW (i := 6) u2_10.out).trans rfl
  have cu30 : w10.cell? ⟨w8.heap.size, 0, none⟩ = some (.int .i64 u.kind) := (cellsW (i := 0) u3_10.out).trans rfl
  have cu31 : w10.cell? ⟨w8.heap.size, 1, none⟩ = some (.int .i64 u.book) := (cellsW (i := 1) u3_10.out).trans rfl
  have cu32 : w10.cell? ⟨w8.heap.size, 2, none⟩ = some (.int .i64 u.units) := (cellsW (i := 2) u3_10.out).trans rfl
  have cu33 : w10.cell? ⟨w8.heap.size, 3, none⟩ = some (.int .i64 u.cust) := (cellsW (i := 3) u3_10.out).trans rfl
  have cu34 : w10.cell? ⟨w8.heap.size, 4, none⟩ = some (.int .i64 u.amount) := (cellsW (i := 4) u3_10.out).trans rfl
  have cu40 : w10.cell? ⟨w9.heap.size, 0, none⟩ = some (.int .i64 u.kind) := (cellsW (i := 0) u4_10.out).trans rfl
  have cu41 : w10.cell? ⟨w9.heap.size, 1, none⟩ = some (.int .i64 u.book) := (cellsW (i := 1) u4_10.out).trans rfl
  have cu42 : w10.cell? ⟨w9.heap.size, 2, none⟩ = some (.int .i64 u.units) := (cellsW (i := 2) u4_10.out).trans rfl
  have cu43 : w10.cell? ⟨w9.heap.size, 3, none⟩ = some (.int .i64 u.cust) := (cellsW (i := 3) u4_10.out).trans rfl
  have cu44 : w10.cell? ⟨w9.heap.size, 4, none⟩ = some (.int .i64 u.amount) := (cellsW (i := 4) u4_10.out).trans rfl
  go_wp2
  go_ret
  exact ⟨rfl, B10.out⟩
end Go.Proofs.Ytebinhelnhnbeaa
