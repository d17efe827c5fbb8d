/- The law WantBack, walked in a case (printed by genwback.py). -/
import Derived.Test.YtebinhelnhnbeaaWLem
set_option linter.unusedSimpArgs false
set_option linter.unusedVariables false
namespace Go.Proofs.Ytebinhelnhnbeaa
open Go.RowKit
set_option maxRecDepth 100000 in
set_option maxHeartbeats 4000000 in
theorem wback13 (x y : W7) (o p : O5) (a : Int) (w : World) (hx : MayW x) (hy : MayW y) (dy : decide (x = y) = false) (ho : MayO o) (hp : ¬ MayO p) : Calls Try.prog 13 #[x.val, y.val, o.val, p.val, .int .i64 a] w fun e w' => e = .returned (.bool true) ∧ Below w.heap.size w w' := by
  have T := Lib.hid told3
  have Px := Lib.hid (fun W => encW_yes x W hx (MayW_fits _ hx))
  obtain ⟨lx, ex⟩ : ∃ l, encW x = l := ⟨_, rfl⟩
  obtain ⟨nx, enx⟩ : ∃ n, lx.length = n := ⟨_, rfl⟩
  have zx : 0 < nx ∧ nx ≤ 100 := by rw [← enx, ← ex]; exact encW_len x
  have zx1 := zx.1
  have zx2 := zx.2
  clear zx
  obtain ⟨kx, kkx, klx⟩ := u_rem a (nx : Int) (by omega)
  replace klx : kx < nx := by omega
  have jx : ((nx : Int) == 0) = false := beq_eq_false_iff_ne.2 (by omega)
  have Gtx := Lib.hid (fun A c (w : World) (hr : Rd w w.heap.size 1 A nx (B8 lx)) => get_is (show gW lx = (x, 0) from ex ▸ gW_yes x hx) A nx c w hr (by omega))
  obtain ⟨qx, hqx⟩ : ∃ q, (gW (lx.take kx)).1 = q := ⟨_, rfl⟩
  have gcx : gW (lx.take kx) = (qx, 2) := Prod.ext hqx (by have h := gW_cut x hx kx (by rw [ex, enx]; exact klx); rw [ex] at h; exact h)
  have Cx := Lib.hid (fun A c (w : World) (hr : Rd w w.heap.size 1 A kx (B8 (lx.take kx))) => get_is gcx A kx c w hr (by omega))
  have sx := sameW x x true (by simp)
  have Nx := Lib.hid enx
  clear gcx hqx
  have Po := Lib.hid (fun W => encO_yes o W ho (MayO_fits _ ho))
  obtain ⟨lo, eo⟩ : ∃ l, encO o = l := ⟨_, rfl⟩
  obtain ⟨no, eno⟩ : ∃ n, lo.length = n := ⟨_, rfl⟩
  have zo : 0 < no ∧ no ≤ 100 := by rw [← eno, ← eo]; exact encO_len o
  have zo1 := zo.1
  have zo2 := zo.2
  clear zo
  obtain ⟨ko, kko, klo⟩ := u_rem a (no : Int) (by omega)
  replace klo : ko < no := by omega
  have jo : ((no : Int) == 0) = false := beq_eq_false_iff_ne.2 (by omega)
  have Gto := Lib.hid (fun A c (w : World) (hr : Rd w w.heap.size 1 A no (B8 lo)) => getop_is (show gO lo = (o, 0) from eo ▸ gO_yes o ho) A no c w hr (by omega))
  obtain ⟨qo, hqo⟩ : ∃ q, (gO (lo.take ko)).1 = q := ⟨_, rfl⟩
  have gco : gO (lo.take ko) = (qo, 2) := Prod.ext hqo (by have h := gO_cut o ho ko (by rw [eo, eno]; exact klo); rw [eo] at h; exact h)
  have Co := Lib.hid (fun A c (w : World) (hr : Rd w w.heap.size 1 A ko (B8 (lo.take ko))) => getop_is gco A ko c w hr (by omega))
  have so := sameO o o true (by simp)
  have No := Lib.hid eno
  clear gco hqo
  have Py := Lib.hid (fun W => encW_yes y W hy (MayW_fits _ hy))
  obtain ⟨ly, ey⟩ : ∃ l, encW y = l := ⟨_, rfl⟩
  obtain ⟨ny, eny⟩ : ∃ n, ly.length = n := ⟨_, rfl⟩
  have Ny := Lib.hid eny
  have ty := sameW x y false dy
  have uy : (lx == ly) = false := by rw [← ex, ← ey, encW_same x y hx hy]; exact dy
  have Pp := Lib.hid (fun W => encO_no p W hp)
  rw [ex] at Px
  simp only [W7.val, O5.val] at Px Gtx Cx sx
  rw [ey] at Py
  simp only [W7.val, O5.val] at Py ty
  have Uy := Lib.hid uy
  clear uy dy ey eny
  clear ex enx hx hy
  rw [eo] at Po
  simp only [W7.val, O5.val] at Po Gto Co so
  simp only [W7.val, O5.val] at Pp
  clear eo eno ho hp
  unfold W7.val O5.val
  have F := four_boxes w (.cells #[.int .i64 x.b, .int .i64 x.c, .int .i64 x.d, .int .i64 x.m0, .int .i64 x.m1, .int .i64 x.m2, .int .i64 x.p] 57) (.cells #[.int .i64 y.b, .int .i64 y.c, .int .i64 y.d, .int .i64 y.m0, .int .i64 y.m1, .int .i64 y.m2, .int .i64 y.p] 57) (.cells #[.int .i64 o.kind, .int .i64 o.book, .int .i64 o.units, .int .i64 o.cust, .int .i64 o.amount] 65) (.cells #[.int .i64 p.kind, .int .i64 p.book, .int .i64 p.units, .int .i64 p.cust, .int .i64 p.amount] 65)
  obtain ⟨f1, f2, f3, f4, f5⟩ := F
  go_enter Try.func13, Try.ntmps13
  have x_0 := Lib.hid f1
  have y_0 := Lib.hid f2
  have o_0 := Lib.hid f3
  have p_0 := Lib.hid f4
  have B0 := Lib.hid f5
  clear f1 f2 f3 f4 f5
  go_wp2_with fail
  refine (Px.out _).mono ?_
  rintro e w1 ⟨vx, rfl, ob, q⟩
  have x_1 := Lib.hid (blk0 x_0.out q)
  have y_1 := Lib.hid (blk0 y_0.out q)
  have o_1 := Lib.hid (blk0 o_0.out q)
  have p_1 := Lib.hid (blk0 p_0.out q)
  have B1 := Lib.hid (bel0 B0.out B0.out.size q)
  clear q x_0 y_0 o_0 p_0 B0
  obtain ⟨gx, cpx, rfl, _, _, mx1, mx2, _, _, _⟩ := ob.blk (by rw [Nx.out]; omega)
  have rx : Rd w1 w1.heap.size 1 (some ⟨gx, 0, none⟩) nx (B8 lx) := by obtain ⟨A, c, ev, _, _, r⟩ := ob.form; injection ev with e1 e2 e3; subst e1; rw [Nx.out] at r; exact r
  have Rx_1 := Lib.hid rx
  clear rx ob
  rw [Nx.out] at *
  have cy0 : w1.cell? ⟨(w.heap.size + 1), 0, none⟩ = some (.int .i64 y.b) := (cellsW (i := 0) y_1.out).trans rfl
  have cy1 : w1.cell? ⟨(w.heap.size + 1), 1, none⟩ = some (.int .i64 y.c) := (cellsW (i := 1) y_1.out).trans rfl
  have cy2 : w1.cell? ⟨(w.heap.size + 1), 2, none⟩ = some (.int .i64 y.d) := (cellsW (i := 2) y_1.out).trans rfl
  have cy3 : w1.cell? ⟨(w.heap.size + 1), 3, none⟩ = some (.int .i64 y.m0) := (cellsW (i := 3) y_1.out).trans rfl
  have cy4 : w1.cell? ⟨(w.heap.size + 1), 4, none⟩ = some (.int .i64 y.m1) := (cellsW (i := 4) y_1.out).trans rfl
  have cy5 : w1.cell? ⟨(w.heap.size + 1), 5, none⟩ = some (.int .i64 y.m2) := (cellsW (i := 5) y_1.out).trans rfl
  have cy6 : w1.cell? ⟨(w.heap.size + 1), 6, none⟩ = some (.int .i64 y.p) := (cellsW (i := 6) y_1.out).trans rfl
  go_wp2_with fail
  refine (Py.out _).mono ?_
  rintro e w2 ⟨vy, rfl, ob, q⟩
  have x_2 := Lib.hid (blk0 x_1.out q)
  have y_2 := Lib.hid (blk0 y_1.out q)
  have o_2 := Lib.hid (blk0 o_1.out q)
  have p_2 := Lib.hid (blk0 p_1.out q)
  have Rx_2 := Lib.hid (rd0 Rx_1.out q)
  have B2 := Lib.hid (bel0 B1.out B1.out.size q)
  clear q x_1 y_1 o_1 p_1 Rx_1 B1
  obtain ⟨Ay, cpy, rfl, my1, my2, _⟩ := ob.form
  have ry : Rd w2 w2.heap.size 1 Ay ny (B8 ly) := by obtain ⟨A, c, ev, _, _, r⟩ := ob.form; injection ev with e1 e2 e3; subst e1; rw [Ny.out] at r; exact r
  have Ry_2 := Lib.hid ry
  clear ry ob
  rw [Ny.out] at *
  clear cy0 cy1 cy2 cy3 cy4 cy5 cy6
  go_wp2_with fail
  refine (Gtx.out _ _ _ Rx_2.out).mono ?_
  rintro e w3 ⟨rfl, q⟩
  have x_3 := Lib.hid (blk0 x_2.out q)
  have y_3 := Lib.hid (blk0 y_2.out q)
  have o_3 := Lib.hid (blk0 o_2.out q)
  have p_3 := Lib.hid (blk0 p_2.out q)
  have Rx_3 := Lib.hid (rd0 Rx_2.out q)
  have Ry_3 := Lib.hid (rd0 Ry_2.out q)
  have B3 := Lib.hid (bel0 B2.out B2.out.size q)
  clear q x_2 y_2 o_2 p_2 Rx_2 Ry_2 B2
  have cx0 : (w3.alloc (.cells #[.int .i64 x.b, .int .i64 x.c, .int .i64 x.d, .int .i64 x.m0, .int .i64 x.m1, .int .i64 x.m2, .int .i64 x.p] 57)).cell? ⟨w.heap.size, 0, none⟩ = some (.int .i64 x.b) := (cellsW (i := 0) (alc x_3.out)).trans rfl
  have cx1 : (w3.alloc (.cells #[.int .i64 x.b, .int .i64 x.c, .int .i64 x.d, .int .i64 x.m0, .int .i64 x.m1, .int .i64 x.m2, .int .i64 x.p] 57)).cell? ⟨w.heap.size, 1, none⟩ = some (.int .i64 x.c) := (cellsW (i := 1) (alc x_3.out)).trans rfl
  have cx2 : (w3.alloc (.cells #[.int .i64 x.b, .int .i64 x.c, .int .i64 x.d, .int .i64 x.m0, .int .i64 x.m1, .int .i64 x.m2, .int .i64 x.p] 57)).cell? ⟨w.heap.size, 2, none⟩ = some (.int .i64 x.d) := (cellsW (i := 2) (alc x_3.out)).trans rfl
  have cx3 : (w3.alloc (.cells #[.int .i64 x.b, .int .i64 x.c, .int .i64 x.d, .int .i64 x.m0, .int .i64 x.m1, .int .i64 x.m2, .int .i64 x.p] 57)).cell? ⟨w.heap.size, 3, none⟩ = some (.int .i64 x.m0) := (cellsW (i := 3) (alc x_3.out)).trans rfl
  have cx4 : (w3.alloc (.cells #[.int .i64 x.b, .int .i64 x.c, .int .i64 x.d, .int .i64 x.m0, .int .i64 x.m1, .int .i64 x.m2, .int .i64 x.p] 57)).cell? ⟨w.heap.size, 4, none⟩ = some (.int .i64 x.m1) := (cellsW (i := 4) (alc x_3.out)).trans rfl
  have cx5 : (w3.alloc (.cells #[.int .i64 x.b, .int .i64 x.c, .int .i64 x.d, .int .i64 x.m0, .int .i64 x.m1, .int .i64 x.m2, .int .i64 x.p] 57)).cell? ⟨w.heap.size, 5, none⟩ = some (.int .i64 x.m2) := (cellsW (i := 5) (alc x_3.out)).trans rfl
  have cx6 : (w3.alloc (.cells #[.int .i64 x.b, .int .i64 x.c, .int .i64 x.d, .int .i64 x.m0, .int .i64 x.m1, .int .i64 x.m2, .int .i64 x.p] 57)).cell? ⟨w.heap.size, 6, none⟩ = some (.int .i64 x.p) := (cellsW (i := 6) (alc x_3.out)).trans rfl
  have cy0 : (w3.alloc (.cells #[.int .i64 x.b, .int .i64 x.c, .int .i64 x.d, .int .i64 x.m0, .int .i64 x.m1, .int .i64 x.m2, .int .i64 x.p] 57)).cell? ⟨(w.heap.size + 1), 0, none⟩ = some (.int .i64 y.b) := (cellsW (i := 0) (alc y_3.out)).trans rfl
  have cy1 : (w3.alloc (.cells #[.int .i64 x.b, .int .i64 x.c, .int .i64 x.d, .int .i64 x.m0, .int .i64 x.m1, .int .i64 x.m2, .int .i64 x.p] 57)).cell? ⟨(w.heap.size + 1), 1, none⟩ = some (.int .i64 y.c) := (cellsW (i := 1) (alc y_3.out)).trans rfl
  have cy2 : (w3.alloc (.cells #[.int .i64 x.b, .int .i64 x.c, .int .i64 x.d, .int .i64 x.m0, .int .i64 x.m1, .int .i64 x.m2, .int .i64 x.p] 57)).cell? ⟨(w.heap.size + 1), 2, none⟩ = some (.int .i64 y.d) := (cellsW (i := 2) (alc y_3.out)).trans rfl
  have cy3 : (w3.alloc (.cells #[.int .i64 x.b, .int .i64 x.c, .int .i64 x.d, .int .i64 x.m0, .int .i64 x.m1, .int .i64 x.m2, .int .i64 x.p] 57)).cell? ⟨(w.heap.size + 1), 3, none⟩ = some (.int .i64 y.m0) := (cellsW (i := 3) (alc y_3.out)).trans rfl
  have cy4 : (w3.alloc (.cells #[.int .i64 x.b, .int .i64 x.c, .int .i64 x.d, .int .i64 x.m0, .int .i64 x.m1, .int .i64 x.m2, .int .i64 x.p] 57)).cell? ⟨(w.heap.size + 1), 4, none⟩ = some (.int .i64 y.m1) := (cellsW (i := 4) (alc y_3.out)).trans rfl
  have cy5 : (w3.alloc (.cells #[.int .i64 x.b, .int .i64 x.c, .int .i64 x.d, .int .i64 x.m0, .int .i64 x.m1, .int .i64 x.m2, .int .i64 x.p] 57)).cell? ⟨(w.heap.size + 1), 5, none⟩ = some (.int .i64 y.m2) := (cellsW (i := 5) (alc y_3.out)).trans rfl
  have cy6 : (w3.alloc (.cells #[.int .i64 x.b, .int .i64 x.c, .int .i64 x.d, .int .i64 x.m0, .int .i64 x.m1, .int .i64 x.m2, .int .i64 x.p] 57)).cell? ⟨(w.heap.size + 1), 6, none⟩ = some (.int .i64 y.p) := (cellsW (i := 6) (alc y_3.out)).trans rfl
  have Rxa := Lib.hid (rda (o := (.cells #[.int .i64 x.b, .int .i64 x.c, .int .i64 x.d, .int .i64 x.m0, .int .i64 x.m1, .int .i64 x.m2, .int .i64 x.p] 57)) Rx_3.out)
  have Rya := Lib.hid (rda (o := (.cells #[.int .i64 x.b, .int .i64 x.c, .int .i64 x.d, .int .i64 x.m0, .int .i64 x.m1, .int .i64 x.m2, .int .i64 x.p] 57)) Ry_3.out)
  have cv1 : ∀ k, (convert 24 9 (.slice (some ⟨gx, 0, none⟩) nx cpx)).run Try.prog ((w3.alloc (.cells #[.int .i64 x.b, .int .i64 x.c, .int .i64 x.d, .int .i64 x.m0, .int .i64 x.m1, .int .i64 x.m2, .int .i64 x.p] 57)).drewN k) = .ok (.string ⟨lx.toArray⟩) ((w3.alloc (.cells #[.int .i64 x.b, .int .i64 x.c, .int .i64 x.d, .int .i64 x.m0, .int .i64 x.m1, .int .i64 x.m2, .int .i64 x.p] 57)).drewN k) := fun k => run_conv_str (Rxa.out.drewN k)
  have cv2 : ∀ k, (convert 24 9 (.slice Ay ny cpy)).run Try.prog ((w3.alloc (.cells #[.int .i64 x.b, .int .i64 x.c, .int .i64 x.d, .int .i64 x.m0, .int .i64 x.m1, .int .i64 x.m2, .int .i64 x.p] 57)).drewN k) = .ok (.string ⟨ly.toArray⟩) ((w3.alloc (.cells #[.int .i64 x.b, .int .i64 x.c, .int .i64 x.d, .int .i64 x.m0, .int .i64 x.m1, .int .i64 x.m2, .int .i64 x.p] 57)).drewN k) := fun k => run_conv_str (Rya.out.drewN k)
  have ut := Uy.out
  go_wp2_with fail
  go_quiet (fail)
  go_wp2_with fail
  refine (Cx.out _ _ _ (rd_take ((rda (o := (.cells #[.int .i64 x.b, .int .i64 x.c, .int .i64 x.d, .int .i64 x.m0, .int .i64 x.m1, .int .i64 x.m2, .int .i64 x.p] 57)) Rx_3.out).drewN _) (Nat.le_of_lt klx))).mono ?_
  rintro e w4 ⟨rfl, q⟩
  have x_4 := Lib.hid (blkd x_3.out q)
  have y_4 := Lib.hid (blkd y_3.out q)
  have o_4 := Lib.hid (blkd o_3.out q)
  have p_4 := Lib.hid (blkd p_3.out q)
  have gx_4 := Lib.hid (newd q)
  have Rx_4 := Lib.hid (rdd Rx_3.out q)
  have Ry_4 := Lib.hid (rdd Ry_3.out q)
  have B4 := Lib.hid (beld B3.out B3.out.size q)
  clear q x_3 y_3 o_3 p_3 Rx_3 Ry_3 B3
  clear cx0 cx1 cx2 cx3 cx4 cx5 cx6 cy0 cy1 cy2 cy3 cy4 cy5 cy6
  clear cv1 cv2 ut
  clear gx_4
  clear x_4
  clear y_4
  clear Rx_4
  clear Ry_4
  have co0 : (w4.alloc (.cells #[.int .i64 qx.b, .int .i64 qx.c, .int .i64 qx.d, .int .i64 qx.m0, .int .i64 qx.m1, .int .i64 qx.m2, .int .i64 qx.p] 57)).cell? ⟨(w.heap.size + 2), 0, none⟩ = some (.int .i64 o.kind) := (cellsW (i := 0) (alc o_4.out)).trans rfl
  have co1 : (w4.alloc (.cells #[.int .i64 qx.b, .int .i64 qx.c, .int .i64 qx.d, .int .i64 qx.m0, .int .i64 qx.m1, .int .i64 qx.m2, .int .i64 qx.p] 57)).cell? ⟨(w.heap.size + 2), 1, none⟩ = some (.int .i64 o.book) := (cellsW (i := 1) (alc o_4.out)).trans rfl
  have co2 : (w4.alloc (.cells #[.int .i64 qx.b, .int .i64 qx.c, .int .i64 qx.d, .int .i64 qx.m0, .int .i64 qx.m1, .int .i64 qx.m2, .int .i64 qx.p] 57)).cell? ⟨(w.heap.size + 2), 2, none⟩ = some (.int .i64 o.units) := (cellsW (i := 2) (alc o_4.out)).trans rfl
  have co3 : (w4.alloc (.cells #[.int .i64 qx.b, .int .i64 qx.c, .int .i64 qx.d, .int .i64 qx.m0, .int .i64 qx.m1, .int .i64 qx.m2, .int .i64 qx.p] 57)).cell? ⟨(w.heap.size + 2), 3, none⟩ = some (.int .i64 o.cust) := (cellsW (i := 3) (alc o_4.out)).trans rfl
  have co4 : (w4.alloc (.cells #[.int .i64 qx.b, .int .i64 qx.c, .int .i64 qx.d, .int .i64 qx.m0, .int .i64 qx.m1, .int .i64 qx.m2, .int .i64 qx.p] 57)).cell? ⟨(w.heap.size + 2), 4, none⟩ = some (.int .i64 o.amount) := (cellsW (i := 4) (alc o_4.out)).trans rfl
  go_wp2_with fail
  refine (Po.out _).mono ?_
  rintro e w5 ⟨vo, rfl, ob, q⟩
  have o_5 := Lib.hid (blk1 o_4.out q)
  have p_5 := Lib.hid (blk1 p_4.out q)
  have B5 := Lib.hid (bel1 B4.out B4.out.size q)
  clear q o_4 p_4 B4
  obtain ⟨go, cpo, rfl, _, _, mo1, mo2, _, _, _⟩ := ob.blk (by rw [No.out]; omega)
  have ro : Rd w5 w5.heap.size 1 (some ⟨go, 0, none⟩) no (B8 lo) := by obtain ⟨A, c, ev, _, _, r⟩ := ob.form; injection ev with e1 e2 e3; subst e1; rw [No.out] at r; exact r
  have Ro_5 := Lib.hid ro
  clear ro ob
  rw [No.out] at *
  clear co0 co1 co2 co3 co4
  have cp0 : w5.cell? ⟨(w.heap.size + 3), 0, none⟩ = some (.int .i64 p.kind) := (cellsW (i := 0) p_5.out).trans rfl
  have cp1 : w5.cell? ⟨(w.heap.size + 3), 1, none⟩ = some (.int .i64 p.book) := (cellsW (i := 1) p_5.out).trans rfl
  have cp2 : w5.cell? ⟨(w.heap.size + 3), 2, none⟩ = some (.int .i64 p.units) := (cellsW (i := 2) p_5.out).trans rfl
  have cp3 : w5.cell? ⟨(w.heap.size + 3), 3, none⟩ = some (.int .i64 p.cust) := (cellsW (i := 3) p_5.out).trans rfl
  have cp4 : w5.cell? ⟨(w.heap.size + 3), 4, none⟩ = some (.int .i64 p.amount) := (cellsW (i := 4) p_5.out).trans rfl
  go_wp2_with fail
  refine (Pp.out _).mono ?_
  rintro e w6 ⟨rfl, q⟩
  have o_6 := Lib.hid (blk0 o_5.out q)
  have p_6 := Lib.hid (blk0 p_5.out q)
  have Ro_6 := Lib.hid (rd0 Ro_5.out q)
  have B6 := Lib.hid (bel0 B5.out B5.out.size q)
  clear q o_5 p_5 Ro_5 B5
  clear cp0 cp1 cp2 cp3 cp4
  go_wp2_with fail
  refine (Gto.out _ _ _ Ro_6.out).mono ?_
  rintro e w7 ⟨rfl, q⟩
  have o_7 := Lib.hid (blk0 o_6.out q)
  have p_7 := Lib.hid (blk0 p_6.out q)
  have Ro_7 := Lib.hid (rd0 Ro_6.out q)
  have B7 := Lib.hid (bel0 B6.out B6.out.size q)
  clear q o_6 p_6 Ro_6 B6
  have co0 : (w7.alloc (.cells #[.int .i64 o.kind, .int .i64 o.book, .int .i64 o.units, .int .i64 o.cust, .int .i64 o.amount] 65)).cell? ⟨(w.heap.size + 2), 0, none⟩ = some (.int .i64 o.kind) := (cellsW (i := 0) (alc o_7.out)).trans rfl
  have co1 : (w7.alloc (.cells #[.int .i64 o.kind, .int .i64 o.book, .int .i64 o.units, .int .i64 o.cust, .int .i64 o.amount] 65)).cell? ⟨(w.heap.size + 2), 1, none⟩ = some (.int .i64 o.book) := (cellsW (i := 1) (alc o_7.out)).trans rfl
  have co2 : (w7.alloc (.cells #[.int .i64 o.kind, .int .i64 o.book, .int .i64 o.units, .int .i64 o.cust, .int .i64 o.amount] 65)).cell? ⟨(w.heap.size + 2), 2, none⟩ = some (.int .i64 o.units) := (cellsW (i := 2) (alc o_7.out)).trans rfl
  have co3 : (w7.alloc (.cells #[.int .i64 o.kind, .int .i64 o.book, .int .i64 o.units, .int .i64 o.cust, .int .i64 o.amount] 65)).cell? ⟨(w.heap.size + 2), 3, none⟩ = some (.int .i64 o.cust) := (cellsW (i := 3) (alc o_7.out)).trans rfl
  have co4 : (w7.alloc (.cells #[.int .i64 o.kind, .int .i64 o.book, .int .i64 o.units, .int .i64 o.cust, .int .i64 o.amount] 65)).cell? ⟨(w.heap.size + 2), 4, none⟩ = some (.int .i64 o.amount) := (cellsW (i := 4) (alc o_7.out)).trans rfl
  have Roa := Lib.hid (rda (o := (.cells #[.int .i64 o.kind, .int .i64 o.book, .int .i64 o.units, .int .i64 o.cust, .int .i64 o.amount] 65)) Ro_7.out)
  go_wp2_with fail
  go_quiet (fail)
  go_wp2_with fail
  refine (Co.out _ _ _ (rd_take ((rda (o := (.cells #[.int .i64 o.kind, .int .i64 o.book, .int .i64 o.units, .int .i64 o.cust, .int .i64 o.amount] 65)) Ro_7.out).drewN _) (Nat.le_of_lt klo))).mono ?_
  rintro e w8 ⟨rfl, q⟩
  have o_8 := Lib.hid (blkd o_7.out q)
  have p_8 := Lib.hid (blkd p_7.out q)
  have go_8 := Lib.hid (newd q)
  have Ro_8 := Lib.hid (rdd Ro_7.out q)
  have B8 := Lib.hid (beld B7.out B7.out.size q)
  clear q o_7 p_7 Ro_7 B7
  clear co0 co1 co2 co3 co4
  clear go_8
  clear o_8
  clear p_8
  clear Ro_8
  go_wp2_with fail
  refine (T.out _).mono ?_
  rintro e w9 ⟨rfl, q⟩
  have B9 := Lib.hid (bel1 B8.out B8.out.size q)
  clear q B8
  go_wp2
  go_ret
  exact ⟨rfl, B9.out⟩
end Go.Proofs.Ytebinhelnhnbeaa
