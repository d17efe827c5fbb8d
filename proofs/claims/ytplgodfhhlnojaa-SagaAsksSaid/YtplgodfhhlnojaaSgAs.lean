/- The law SagaAsks, walked (printed by genasks15.py). -/
import Derived.Test.YtplgodfhhlnojaaSagaRT
import Derived.Test.YtplgodfhhlnojaaSgPure
import Derived.Outline
set_option linter.unusedSimpArgs false
set_option linter.unusedVariables false
namespace Go.Proofs.Ytplgodfhhlnojaa
open Go.RowKit
set_option maxRecDepth 100000 in
set_option maxHeartbeats 4000000 in
theorem sgasks_by (s : S11) (x : A6) (answer now : Int) (w : World) (mb ob : Bool) (hmb : decide (MayS s) = mb) (hob : decide (MayS s ∧ (s.ph = 4 ∨ s.ph = 5)) = ob) (hc : (mb = false ∧ ob = false) ∨ (mb = true ∧ ob = true ∧ 4 ≤ s.ph) ∨ (mb = true ∧ ob = false ∧ s.ph < 4)) : Calls Try.prog 3 #[s.val, x.val, .int .i64 answer, .int .i64 now] w fun e w' => e = .returned (.bool true) ∧ Below w.heap.size w w' := by
  obtain ⟨⟨b, c, d, m0, m1, m2, p⟩, ph, st, re, si⟩ := s
  obtain ⟨xn, xk, xb, xu, xc, xa⟩ := x
  obtain ⟨⟨yn, yk, yb, yu, yc, ya⟩, yq, hy⟩ : ∃ v q, nextS ⟨⟨b, c, d, m0, m1, m2, p⟩, ph, st, re, si⟩ = (v, q) := ⟨_, _, rfl⟩
  obtain ⟨tl, htl⟩ : ∃ v, tellS ⟨⟨b, c, d, m0, m1, m2, p⟩, ph, st, re, si⟩ = v := ⟨_, rfl⟩
  obtain ⟨⟨⟨Ab, Ac, Ad, Ae, Af, Ag, Ap⟩, Ah, As, Ar, Ai⟩, Aq, hA⟩ : ∃ v q, ansS ⟨⟨b, c, d, m0, m1, m2, p⟩, ph, st, re, si⟩ ⟨xn, xk, xb, xu, xc, xa⟩ answer = (v, q) := ⟨_, _, rfl⟩
  obtain ⟨⟨⟨Bb, Bc, Bd, Be, Bf, Bg, Bp⟩, Bh, Bs, Br, Bi⟩, Bq, hB⟩ : ∃ v q, ansS ⟨⟨b, c, d, m0, m1, m2, p⟩, ph, st, re, si⟩ ⟨yn, yk, yb, yu, yc, ya⟩ answer = (v, q) := ⟨_, _, rfl⟩
  obtain ⟨⟨⟨Cb, Cc, Cd, Ce, Cf, Cg, Cp⟩, Ch, Cs, Cr, Ci⟩, Cq, hC⟩ : ∃ v q, canS ⟨⟨b, c, d, m0, m1, m2, p⟩, ph, st, re, si⟩ = (v, q) := ⟨_, _, rfl⟩
  obtain ⟨⟨⟨Lb, Lc, Ld, Le, Lf, Lg, Lp⟩, Lh, Ls, Lr, Li⟩, Lq, hL⟩ : ∃ v q, lateS ⟨⟨b, c, d, m0, m1, m2, p⟩, ph, st, re, si⟩ now = (v, q) := ⟨_, _, rfl⟩
  obtain ⟨⟨⟨Nb, Nc, Nd, Ne, Nf, Ng, Np⟩, Nh, Ns, Nr, Ni⟩, Nq, hN⟩ : ∃ v q, newS ⟨b, c, d, m0, m1, m2, p⟩ now = (v, q) := ⟨_, _, rfl⟩
  have HM1 := Lib.hid (fun W => smay_is _ mb hmb W)
  have HM2 := Lib.hid (fun W => rmay14_is _ mb hmb W)
  have HO := Lib.hid (fun W => over_is hob W)
  have HN1 := Lib.hid (fun W => next_is hy W)
  have HN2 := Lib.hid (fun W => rnext_is hy W)
  have HP1 := Lib.hid (fun W => pair_c ⟨yn, yk, yb, yu, yc, ya⟩ W)
  have HP0 := Lib.hid (fun W => pair_c ⟨xn, xk, xb, xu, xc, xa⟩ W)
  have HT1 := Lib.hid (fun W => tells_is htl W)
  have HT2 := Lib.hid (fun W => rtells_is htl W)
  have HA1 := Lib.hid (fun W => ans_is hA W)
  have HA2 := Lib.hid (fun W => rans_is hA W)
  have HB1 := Lib.hid (fun W => ans_is hB W)
  have HB2 := Lib.hid (fun W => rans_is hB W)
  have HC1 := Lib.hid (fun W => can_is hC W)
  have HC2 := Lib.hid (fun W => rcan_is hC W)
  have HL1 := Lib.hid (fun W => late_is hL W)
  have HL2 := Lib.hid (fun W => rlate_is hL W)
  have HW1 := Lib.hid (fun W => new_is hN W)
  have HW2 := Lib.hid (fun W => rnew_is hN W)
  have T0 := Lib.hid told15
  have er := sameR ⟨yn, yk, yb, yu, yc, ya⟩ ⟨yn, yk, yb, yu, yc, ya⟩ true (by simp)
  have eA := sameS ⟨⟨Ab, Ac, Ad, Ae, Af, Ag, Ap⟩, Ah, As, Ar, Ai⟩ ⟨⟨Ab, Ac, Ad, Ae, Af, Ag, Ap⟩, Ah, As, Ar, Ai⟩ true (by simp)
  have eB := sameS ⟨⟨Bb, Bc, Bd, Be, Bf, Bg, Bp⟩, Bh, Bs, Br, Bi⟩ ⟨⟨Bb, Bc, Bd, Be, Bf, Bg, Bp⟩, Bh, Bs, Br, Bi⟩ true (by simp)
  have eC := sameS ⟨⟨Cb, Cc, Cd, Ce, Cf, Cg, Cp⟩, Ch, Cs, Cr, Ci⟩ ⟨⟨Cb, Cc, Cd, Ce, Cf, Cg, Cp⟩, Ch, Cs, Cr, Ci⟩ true (by simp)
  have eL := sameS ⟨⟨Lb, Lc, Ld, Le, Lf, Lg, Lp⟩, Lh, Ls, Lr, Li⟩ ⟨⟨Lb, Lc, Ld, Le, Lf, Lg, Lp⟩, Lh, Ls, Lr, Li⟩ true (by simp)
  have eN := sameS ⟨⟨Nb, Nc, Nd, Ne, Nf, Ng, Np⟩, Nh, Ns, Nr, Ni⟩ ⟨⟨Nb, Nc, Nd, Ne, Nf, Ng, Np⟩, Nh, Ns, Nr, Ni⟩ true (by simp)
  clear hmb hob hy htl hA hB hC hL hN
  simp only at hc
  simp only [S11.val, A6.val, W7.val] at HM1 HM2 HO HN1 HN2 HP0 HP1 HT1 HT2 HA1 HA2 HB1 HB2 HC1 HC2 HL1 HL2 HW1 HW2 er eA eB eC eL eN
  unfold S11.val A6.val
  simp only
  obtain ⟨f1, f2, f3⟩ := two_boxes w (.cells #[.int .i64 b, .int .i64 c, .int .i64 d, .int .i64 m0, .int .i64 m1, .int .i64 m2, .int .i64 p, .int .i64 ph, .int .i64 st, .int .i64 re, .int .i64 si] 26) (.cells #[.int .i64 xn, .int .i64 xk, .int .i64 xb, .int .i64 xu, .int .i64 xc, .int .i64 xa] 30)
  have s_0 := Lib.hid f1
  have x_0 := Lib.hid f2
  have B0 := Lib.hid f3
  clear f1 f2 f3
  go_enter Try.func3, Try.ntmps3
  have L1_0 : ((w.alloc (.cells #[.int .i64 b, .int .i64 c, .int .i64 d, .int .i64 m0, .int .i64 m1, .int .i64 m2, .int .i64 p, .int .i64 ph, .int .i64 st, .int .i64 re, .int .i64 si] 26)).alloc (.cells #[.int .i64 xn, .int .i64 xk, .int .i64 xb, .int .i64 xu, .int .i64 xc, .int .i64 xa] 30)).cell? ⟨w.heap.size, 0, none⟩ = some (.int .i64 b) := (cellsB (i := 0) s_0.out).trans rfl
  have L1_1 : ((w.alloc (.cells #[.int .i64 b, .int .i64 c, .int .i64 d, .int .i64 m0, .int .i64 m1, .int .i64 m2, .int .i64 p, .int .i64 ph, .int .i64 st, .int .i64 re, .int .i64 si] 26)).alloc (.cells #[.int .i64 xn, .int .i64 xk, .int .i64 xb, .int .i64 xu, .int .i64 xc, .int .i64 xa] 30)).cell? ⟨w.heap.size, 1, none⟩ = some (.int .i64 c) := (cellsB (i := 1) s_0.out).trans rfl
  have L1_2 : ((w.alloc (.cells #[.int .i64 b, .int .i64 c, .int .i64 d, .int .i64 m0, .int .i64 m1, .int .i64 m2, .int .i64 p, .int .i64 ph, .int .i64 st, .int .i64 re, .int .i64 si] 26)).alloc (.cells #[.int .i64 xn, .int .i64 xk, .int .i64 xb, .int .i64 xu, .int .i64 xc, .int .i64 xa] 30)).cell? ⟨w.heap.size, 2, none⟩ = some (.int .i64 d) := (cellsB (i := 2) s_0.out).trans rfl
  have L1_3 : ((w.alloc (.cells #[.int .i64 b, .int .i64 c, .int .i64 d, .int .i64 m0, .int .i64 m1, .int .i64 m2, .int .i64 p, .int .i64 ph, .int .i64 st, .int .i64 re, .int .i64 si] 26)).alloc (.cells #[.int .i64 xn, .int .i64 xk, .int .i64 xb, .int .i64 xu, .int .i64 xc, .int .i64 xa] 30)).cell? ⟨w.heap.size, 3, none⟩ = some (.int .i64 m0) := (cellsB (i := 3) s_0.out).trans rfl
  have L1_4 : ((w.alloc (.cells #[.int .i64 b, .int .i64 c, .int .i64 d, .int .i64 m0, .int .i64 m1, .int .i64 m2, .int .i64 p, .int .i64 ph, .int .i64 st, .int .i64 re, .int .i64 si] 26)).alloc (.cells #[.int .i64 xn, .int .i64 xk, .int .i64 xb, .int .i64 xu, .int .i64 xc, .int .i64 xa] 30)).cell? ⟨w.heap.size, 4, none⟩ = some (.int .i64 m1) := (cellsB (i := 4) s_0.out).trans rfl
  have L1_5 : ((w.alloc (.cells #[.int .i64 b, .int .i64 c, .int .i64 d, .int .i64 m0, .int .i64 m1, .int .i64 m2, .int .i64 p, .int .i64 ph, .int .i64 st, .int .i64 re, .int .i64 si] 26)).alloc (.cells #[.int .i64 xn, .int .i64 xk, .int .i64 xb, .int .i64 xu, .int .i64 xc, .int .i64 xa] 30)).cell? ⟨w.heap.size, 5, none⟩ = some (.int .i64 m2) := (cellsB (i := 5) s_0.out).trans rfl
  have L1_6 : ((w.alloc (.cells #[.int .i64 b, .int .i64 c, .int .i64 d, .int .i64 m0, .int .i64 m1, .int .i64 m2, .int .i64 p, .int .i64 ph, .int .i64 st, .int .i64 re, .int .i64 si] 26)).alloc (.cells #[.int .i64 xn, .int .i64 xk, .int .i64 xb, .int .i64 xu, .int .i64 xc, .int .i64 xa] 30)).cell? ⟨w.heap.size, 6, none⟩ = some (.int .i64 p) := (cellsB (i := 6) s_0.out).trans rfl
  have L1_7 : ((w.alloc (.cells #[.int .i64 b, .int .i64 c, .int .i64 d, .int .i64 m0, .int .i64 m1, .int .i64 m2, .int .i64 p, .int .i64 ph, .int .i64 st, .int .i64 re, .int .i64 si] 26)).alloc (.cells #[.int .i64 xn, .int .i64 xk, .int .i64 xb, .int .i64 xu, .int .i64 xc, .int .i64 xa] 30)).cell? ⟨w.heap.size, 7, none⟩ = some (.int .i64 ph) := (cellsB (i := 7) s_0.out).trans rfl
  have L1_8 : ((w.alloc (.cells #[.int .i64 b, .int .i64 c, .int .i64 d, .int .i64 m0, .int .i64 m1, .int .i64 m2, .int .i64 p, .int .i64 ph, .int .i64 st, .int .i64 re, .int .i64 si] 26)).alloc (.cells #[.int .i64 xn, .int .i64 xk, .int .i64 xb, .int .i64 xu, .int .i64 xc, .int .i64 xa] 30)).cell? ⟨w.heap.size, 8, none⟩ = some (.int .i64 st) := (cellsB (i := 8) s_0.out).trans rfl
  have L1_9 : ((w.alloc (.cells #[.int .i64 b, .int .i64 c, .int .i64 d, .int .i64 m0, .int .i64 m1, .int .i64 m2, .int .i64 p, .int .i64 ph, .int .i64 st, .int .i64 re, .int .i64 si] 26)).alloc (.cells #[.int .i64 xn, .int .i64 xk, .int .i64 xb, .int .i64 xu, .int .i64 xc, .int .i64 xa] 30)).cell? ⟨w.heap.size, 9, none⟩ = some (.int .i64 re) := (cellsB (i := 9) s_0.out).trans rfl
  have L1_10 : ((w.alloc (.cells #[.int .i64 b, .int .i64 c, .int .i64 d, .int .i64 m0, .int .i64 m1, .int .i64 m2, .int .i64 p, .int .i64 ph, .int .i64 st, .int .i64 re, .int .i64 si] 26)).alloc (.cells #[.int .i64 xn, .int .i64 xk, .int .i64 xb, .int .i64 xu, .int .i64 xc, .int .i64 xa] 30)).cell? ⟨w.heap.size, 10, none⟩ = some (.int .i64 si) := (cellsB (i := 10) s_0.out).trans rfl
  go_wp2_with fail
  refine (HN1.out _).mono ?_
  rintro e w1 ⟨rfl, q⟩
  have s_1 := Lib.hid (blk0 s_0.out q)
  have x_1 := Lib.hid (blk0 x_0.out q)
  have B1 := Lib.hid (bel0 B0.out B0.out.size q)
  clear q s_0 x_0 B0
  clear L1_0 L1_1 L1_2 L1_3 L1_4 L1_5 L1_6 L1_7 L1_8 L1_9 L1_10
  have L2_0 : (w1.alloc (.cells #[.int .i64 yn, .int .i64 yk, .int .i64 yb, .int .i64 yu, .int .i64 yc, .int .i64 ya] 30)).cell? ⟨w.heap.size, 0, none⟩ = some (.int .i64 b) := (cellsB (i := 0) (alc (o := (.cells #[.int .i64 yn, .int .i64 yk, .int .i64 yb, .int .i64 yu, .int .i64 yc, .int .i64 ya] 30)) s_1.out)).trans rfl
  have L2_1 : (w1.alloc (.cells #[.int .i64 yn, .int .i64 yk, .int .i64 yb, .int .i64 yu, .int .i64 yc, .int .i64 ya] 30)).cell? ⟨w.heap.size, 1, none⟩ = some (.int .i64 c) := (cellsB (i := 1) (alc (o := (.cells #[.int .i64 yn, .int .i64 yk, .int .i64 yb, .int .i64 yu, .int .i64 yc, .int .i64 ya] 30)) s_1.out)).trans rfl
  have L2_2 : (w1.alloc (.cells #[.int .i64 yn, .int .i64 yk, .int .i64 yb, .int .i64 yu, .int .i64 yc, .int .i64 ya] 30)).cell? ⟨w.heap.size, 2, none⟩ = some (.int .i64 d) := (cellsB (i := 2) (alc (o := (.cells #[.int .i64 yn, .int .i64 yk, .int .i64 yb, .int .i64 yu, .int .i64 yc, .int .i64 ya] 30)) s_1.out)).trans rfl
  have L2_3 : (w1.alloc (.cells #[.int .i64 yn, .int .i64 yk, .int .i64 yb, .int .i64 yu, .int .i64 yc, .int .i64 ya] 30)).cell? ⟨w.heap.size, 3, none⟩ = some (.int .i64 m0) := (cellsB (i := 3) (alc (o := (.cells #[.int .i64 yn, .int .i64 yk, .int .i64 yb, .int .i64 yu, .int .i64 yc, .int .i64 ya] 30)) s_1.out)).trans rfl
  have L2_4 : (w1.alloc (.cells #[.int .i64 yn, .int .i64 yk, .int .i64 yb, .int .i64 yu, .int .i64 yc, .int .i64 ya] 30)).cell? ⟨w.heap.size, 4, none⟩ = some (.int .i64 m1) := (cellsB (i := 4) (alc (o := (.cells #[.int .i64 yn, .int .i64 yk, .int .i64 yb, .int .i64 yu, .int .i64 yc, .int .i64 ya] 30)) s_1.out)).trans rfl
  have L2_5 : (w1.alloc (.cells #[.int .i64 yn, .int .i64 yk, .int .i64 yb, .int .i64 yu, .int .i64 yc, .int .i64 ya] 30)).cell? ⟨w.heap.size, 5, none⟩ = some (.int .i64 m2) := (cellsB (i := 5) (alc (o := (.cells #[.int .i64 yn, .int .i64 yk, .int .i64 yb, .int .i64 yu, .int .i64 yc, .int .i64 ya] 30)) s_1.out)).trans rfl
  have L2_6 : (w1.alloc (.cells #[.int .i64 yn, .int .i64 yk, .int .i64 yb, .int .i64 yu, .int .i64 yc, .int .i64 ya] 30)).cell? ⟨w.heap.size, 6, none⟩ = some (.int .i64 p) := (cellsB (i := 6) (alc (o := (.cells #[.int .i64 yn, .int .i64 yk, .int .i64 yb, .int .i64 yu, .int .i64 yc, .int .i64 ya] 30)) s_1.out)).trans rfl
  have L2_7 : (w1.alloc (.cells #[.int .i64 yn, .int .i64 yk, .int .i64 yb, .int .i64 yu, .int .i64 yc, .int .i64 ya] 30)).cell? ⟨w.heap.size, 7, none⟩ = some (.int .i64 ph) := (cellsB (i := 7) (alc (o := (.cells #[.int .i64 yn, .int .i64 yk, .int .i64 yb, .int .i64 yu, .int .i64 yc, .int .i64 ya] 30)) s_1.out)).trans rfl
  have L2_8 : (w1.alloc (.cells #[.int .i64 yn, .int .i64 yk, .int .i64 yb, .int .i64 yu, .int .i64 yc, .int .i64 ya] 30)).cell? ⟨w.heap.size, 8, none⟩ = some (.int .i64 st) := (cellsB (i := 8) (alc (o := (.cells #[.int .i64 yn, .int .i64 yk, .int .i64 yb, .int .i64 yu, .int .i64 yc, .int .i64 ya] 30)) s_1.out)).trans rfl
  have L2_9 : (w1.alloc (.cells #[.int .i64 yn, .int .i64 yk, .int .i64 yb, .int .i64 yu, .int .i64 yc, .int .i64 ya] 30)).cell? ⟨w.heap.size, 9, none⟩ = some (.int .i64 re) := (cellsB (i := 9) (alc (o := (.cells #[.int .i64 yn, .int .i64 yk, .int .i64 yb, .int .i64 yu, .int .i64 yc, .int .i64 ya] 30)) s_1.out)).trans rfl
  have L2_10 : (w1.alloc (.cells #[.int .i64 yn, .int .i64 yk, .int .i64 yb, .int .i64 yu, .int .i64 yc, .int .i64 ya] 30)).cell? ⟨w.heap.size, 10, none⟩ = some (.int .i64 si) := (cellsB (i := 10) (alc (o := (.cells #[.int .i64 yn, .int .i64 yk, .int .i64 yb, .int .i64 yu, .int .i64 yc, .int .i64 ya] 30)) s_1.out)).trans rfl
  go_wp2_with fail
  refine (HN2.out _).mono ?_
  rintro e w2 ⟨rfl, q⟩
  have s_2 := Lib.hid (blk1 s_1.out q)
  have x_2 := Lib.hid (blk1 x_1.out q)
  have n_2 := Lib.hid (new1 q)
  have B2 := Lib.hid (bel1 B1.out B1.out.size q)
  clear q s_1 x_1 B1
  clear L2_0 L2_1 L2_2 L2_3 L2_4 L2_5 L2_6 L2_7 L2_8 L2_9 L2_10
  have s3 : Hid ((w2.alloc (.cells #[.int .i64 yn, .int .i64 yk, .int .i64 yb, .int .i64 yu, .int .i64 yc, .int .i64 ya] 33)).heap[w.heap.size]? = some (.cells #[.int .i64 b, .int .i64 c, .int .i64 d, .int .i64 m0, .int .i64 m1, .int .i64 m2, .int .i64 p, .int .i64 ph, .int .i64 st, .int .i64 re, .int .i64 si] 26 (0, 0))) := Lib.hid (alc s_2.out)
  have x3 : Hid ((w2.alloc (.cells #[.int .i64 yn, .int .i64 yk, .int .i64 yb, .int .i64 yu, .int .i64 yc, .int .i64 ya] 33)).heap[(w.heap.size + 1)]? = some (.cells #[.int .i64 xn, .int .i64 xk, .int .i64 xb, .int .i64 xu, .int .i64 xc, .int .i64 xa] 30 (0, 0))) := Lib.hid (alc x_2.out)
  have n3 : Hid ((w2.alloc (.cells #[.int .i64 yn, .int .i64 yk, .int .i64 yb, .int .i64 yu, .int .i64 yc, .int .i64 ya] 33)).heap[w1.heap.size]? = some (.cells #[.int .i64 yn, .int .i64 yk, .int .i64 yb, .int .i64 yu, .int .i64 yc, .int .i64 ya] 30 (0, 0))) := Lib.hid (alc n_2.out)
  have m3 : Hid ((w2.alloc (.cells #[.int .i64 yn, .int .i64 yk, .int .i64 yb, .int .i64 yu, .int .i64 yc, .int .i64 ya] 33)).heap[w2.heap.size]? = some (.cells #[.int .i64 yn, .int .i64 yk, .int .i64 yb, .int .i64 yu, .int .i64 yc, .int .i64 ya] 33 (0, 0))) := Lib.hid (heap_alloc_new w2 _)
  have B3 : Hid (Below w.heap.size w (w2.alloc (.cells #[.int .i64 yn, .int .i64 yk, .int .i64 yb, .int .i64 yu, .int .i64 yc, .int .i64 ya] 33))) := Lib.hid (B2.out.alloc B2.out.size _)
  clear s_2 x_2 n_2 B2
  go_upto_region 3 with fail
  generalize (w2.alloc (.cells #[.int .i64 yn, .int .i64 yk, .int .i64 yb, .int .i64 yu, .int .i64 yc, .int .i64 ya] 33)) = w3 at s3 x3 n3 m3 B3 ⊢
  go_cut [75] (fun t wx => t = .bool false ∧ Hid (Below w3.heap.size w3 wx))
  case first =>
    rcases hc with ⟨rfl, rfl⟩ | ⟨rfl, rfl, hge⟩ | ⟨rfl, rfl, hlt⟩
    all_goals
      try have hd : decide (4 ≤ ph) = false := decide_eq_false (by omega)
      have la0 : ∀ t : BW w3.heap.size w3, t.val.cell? ⟨w.heap.size, 0, none⟩ = some (.int .i64 b) := fun t => BW.cell ((cellsB (i := 0) s3.out).trans rfl) (lt_size s3.out) t
      have la1 : ∀ t : BW w3.heap.size w3, t.val.cell? ⟨w.heap.size, 1, none⟩ = some (.int .i64 c) := fun t => BW.cell ((cellsB (i := 1) s3.out).trans rfl) (lt_size s3.out) t
      have la2 : ∀ t : BW w3.heap.size w3, t.val.cell? ⟨w.heap.size, 2, none⟩ = some (.int .i64 d) := fun t => BW.cell ((cellsB (i := 2) s3.out).trans rfl) (lt_size s3.out) t
      have la3 : ∀ t : BW w3.heap.size w3, t.val.cell? ⟨w.heap.size, 3, none⟩ = some (.int .i64 m0) := fun t => BW.cell ((cellsB (i := 3) s3.out).trans rfl) (lt_size s3.out) t
      have la4 : ∀ t : BW w3.heap.size w3, t.val.cell? ⟨w.heap.size, 4, none⟩ = some (.int .i64 m1) := fun t => BW.cell ((cellsB (i := 4) s3.out).trans rfl) (lt_size s3.out) t
      have la5 : ∀ t : BW w3.heap.size w3, t.val.cell? ⟨w.heap.size, 5, none⟩ = some (.int .i64 m2) := fun t => BW.cell ((cellsB (i := 5) s3.out).trans rfl) (lt_size s3.out) t
      have la6 : ∀ t : BW w3.heap.size w3, t.val.cell? ⟨w.heap.size, 6, none⟩ = some (.int .i64 p) := fun t => BW.cell ((cellsB (i := 6) s3.out).trans rfl) (lt_size s3.out) t
      have la7 : ∀ t : BW w3.heap.size w3, t.val.cell? ⟨w.heap.size, 7, none⟩ = some (.int .i64 ph) := fun t => BW.cell ((cellsB (i := 7) s3.out).trans rfl) (lt_size s3.out) t
      have la8 : ∀ t : BW w3.heap.size w3, t.val.cell? ⟨w.heap.size, 8, none⟩ = some (.int .i64 st) := fun t => BW.cell ((cellsB (i := 8) s3.out).trans rfl) (lt_size s3.out) t
      have la9 : ∀ t : BW w3.heap.size w3, t.val.cell? ⟨w.heap.size, 9, none⟩ = some (.int .i64 re) := fun t => BW.cell ((cellsB (i := 9) s3.out).trans rfl) (lt_size s3.out) t
      have la10 : ∀ t : BW w3.heap.size w3, t.val.cell? ⟨w.heap.size, 10, none⟩ = some (.int .i64 si) := fun t => BW.cell ((cellsB (i := 10) s3.out).trans rfl) (lt_size s3.out) t
      have ln0 : ∀ t : BW w3.heap.size w3, t.val.cell? ⟨w1.heap.size, 0, none⟩ = some (.int .i64 yn) := fun t => BW.cell ((cellsB (i := 0) n3.out).trans rfl) (lt_size n3.out) t
      have ln1 : ∀ t : BW w3.heap.size w3, t.val.cell? ⟨w1.heap.size, 1, none⟩ = some (.int .i64 yk) := fun t => BW.cell ((cellsB (i := 1) n3.out).trans rfl) (lt_size n3.out) t
      have ln2 : ∀ t : BW w3.heap.size w3, t.val.cell? ⟨w1.heap.size, 2, none⟩ = some (.int .i64 yb) := fun t => BW.cell ((cellsB (i := 2) n3.out).trans rfl) (lt_size n3.out) t
      have ln3 : ∀ t : BW w3.heap.size w3, t.val.cell? ⟨w1.heap.size, 3, none⟩ = some (.int .i64 yu) := fun t => BW.cell ((cellsB (i := 3) n3.out).trans rfl) (lt_size n3.out) t
      have ln4 : ∀ t : BW w3.heap.size w3, t.val.cell? ⟨w1.heap.size, 4, none⟩ = some (.int .i64 yc) := fun t => BW.cell ((cellsB (i := 4) n3.out).trans rfl) (lt_size n3.out) t
      have ln5 : ∀ t : BW w3.heap.size w3, t.val.cell? ⟨w1.heap.size, 5, none⟩ = some (.int .i64 ya) := fun t => BW.cell ((cellsB (i := 5) n3.out).trans rfl) (lt_size n3.out) t
      have lm0 : ∀ t : BW w3.heap.size w3, t.val.cell? ⟨w2.heap.size, 0, none⟩ = some (.int .i64 yn) := fun t => BW.cell ((cellsB (i := 0) m3.out).trans rfl) (lt_size m3.out) t
      have lm1 : ∀ t : BW w3.heap.size w3, t.val.cell? ⟨w2.heap.size, 1, none⟩ = some (.int .i64 yk) := fun t => BW.cell ((cellsB (i := 1) m3.out).trans rfl) (lt_size m3.out) t
      have lm2 : ∀ t : BW w3.heap.size w3, t.val.cell? ⟨w2.heap.size, 2, none⟩ = some (.int .i64 yb) := fun t => BW.cell ((cellsB (i := 2) m3.out).trans rfl) (lt_size m3.out) t
      have lm3 : ∀ t : BW w3.heap.size w3, t.val.cell? ⟨w2.heap.size, 3, none⟩ = some (.int .i64 yu) := fun t => BW.cell ((cellsB (i := 3) m3.out).trans rfl) (lt_size m3.out) t
      have lm4 : ∀ t : BW w3.heap.size w3, t.val.cell? ⟨w2.heap.size, 4, none⟩ = some (.int .i64 yc) := fun t => BW.cell ((cellsB (i := 4) m3.out).trans rfl) (lt_size m3.out) t
      have lm5 : ∀ t : BW w3.heap.size w3, t.val.cell? ⟨w2.heap.size, 5, none⟩ = some (.int .i64 ya) := fun t => BW.cell ((cellsB (i := 5) m3.out).trans rfl) (lt_size m3.out) t
      refine wp_region_below (w3.heap.size) (by kernel_rfl) (by kernel_rfl) ?_
      repeat (first | go_big_quiet_step ((first | (go_at_call 20; exact BW.call (Nat.le_refl _) (HM1.out _)) | (go_at_call 21; exact BW.call (Nat.le_refl _) (HM2.out _)) | (go_at_call 22; exact BW.call (Nat.le_refl _) (HP1.out _)) | (go_at_call 23; exact BW.call (Nat.le_refl _) (HT1.out _)) | (go_at_call 24; exact BW.call (Nat.le_refl _) (HT2.out _)) | (go_at_call 25; exact BW.call (Nat.le_refl _) (HO.out _)))) | quiet_step ((first | (go_at_call 20; exact BW.call (Nat.le_refl _) (HM1.out _)) | (go_at_call 21; exact BW.call (Nat.le_refl _) (HM2.out _)) | (go_at_call 22; exact BW.call (Nat.le_refl _) (HP1.out _)) | (go_at_call 23; exact BW.call (Nat.le_refl _) (HT1.out _)) | (go_at_call 24; exact BW.call (Nat.le_refl _) (HT2.out _)) | (go_at_call 25; exact BW.call (Nat.le_refl _) (HO.out _)))))
      refine wpQuiet_nil ?_
      intro _ hw'
      obtain ⟨sb, hw''⟩ := hw'
      subst hw''
      go_wp2_with fail
      go_meet
      exact ⟨rfl, Lib.hid sb.h⟩
  case rest =>
    obtain ⟨rfl, HC⟩ := hcut
    obtain ⟨w4, hw4⟩ : ∃ w4, w4 = wc := ⟨_, rfl⟩
    rw [← hw4] at HC ⊢
    clear hw4
    have s_4 := Lib.hid (blk0 s3.out HC.out)
    have x_4 := Lib.hid (blk0 x3.out HC.out)
    have n_4 := Lib.hid (blk0 n3.out HC.out)
    have B4 := Lib.hid (bel0 B3.out B3.out.size HC.out)
    clear s3 x3 n3 m3 B3 HC hc HM1 HM2 HO HN1 HN2 HT1 HT2 er
    go_wp2_with fail
    go_loopw [13] (fun i wr => ∃ k : Nat, k ≤ 2 ∧ i = .int .i64 k ∧ Hid (wr.heap[w.heap.size]? = some (.cells #[.int .i64 b, .int .i64 c, .int .i64 d, .int .i64 m0, .int .i64 m1, .int .i64 m2, .int .i64 p, .int .i64 ph, .int .i64 st, .int .i64 re, .int .i64 si] 26 (0, 0)) ∧ wr.heap[w.heap.size + 1]? = some (.cells #[.int .i64 xn, .int .i64 xk, .int .i64 xb, .int .i64 xu, .int .i64 xc, .int .i64 xa] 30 (0, 0)) ∧ wr.heap[w1.heap.size]? = some (.cells #[.int .i64 yn, .int .i64 yk, .int .i64 yb, .int .i64 yu, .int .i64 yc, .int .i64 ya] 30 (0, 0)) ∧ Below w.heap.size w wr)) (fun i _ => 2 - (intOf i).toNat)
    case atStart => exact ⟨0, by omega, rfl, Lib.hid ⟨s_4.out, x_4.out, n_4.out, B4.out⟩⟩
    case round =>
      obtain ⟨k, hk, rfl, HS⟩ := hrel
      obtain ⟨s0, x0, n0, B0⟩ := HS.out
      clear s_4 x_4 n_4 B4 HS
      have s_0 := Lib.hid s0
      have x_0 := Lib.hid x0
      have n_0 := Lib.hid n0
      replace B0 := Lib.hid B0
      clear s0 x0 n0
      have : k = 0 ∨ k = 1 ∨ k = 2 := by omega
      rcases this with rfl | rfl | rfl
      · have L1_0 : wr.cell? ⟨(w.heap.size + 1), 0, none⟩ = some (.int .i64 xn) := (cellsB (i := 0) x_0.out).trans rfl
        have L1_1 : wr.cell? ⟨(w.heap.size + 1), 1, none⟩ = some (.int .i64 xk) := (cellsB (i := 1) x_0.out).trans rfl
        have L1_2 : wr.cell? ⟨(w.heap.size + 1), 2, none⟩ = some (.int .i64 xb) := (cellsB (i := 2) x_0.out).trans rfl
        have L1_3 : wr.cell? ⟨(w.heap.size + 1), 3, none⟩ = some (.int .i64 xu) := (cellsB (i := 3) x_0.out).trans rfl
        have L1_4 : wr.cell? ⟨(w.heap.size + 1), 4, none⟩ = some (.int .i64 xc) := (cellsB (i := 4) x_0.out).trans rfl
        have L1_5 : wr.cell? ⟨(w.heap.size + 1), 5, none⟩ = some (.int .i64 xa) := (cellsB (i := 5) x_0.out).trans rfl
        go_upto_region 11 with fail
        clear L1_0 L1_1 L1_2 L1_3 L1_4 L1_5
        have L2_0 : (wr.alloc (.cells #[.int .i64 xn, .int .i64 xk, .int .i64 xb, .int .i64 xu, .int .i64 xc, .int .i64 xa] 30)).cell? ⟨w.heap.size, 0, none⟩ = some (.int .i64 b) := (cellsB (i := 0) (alc (o := (.cells #[.int .i64 xn, .int .i64 xk, .int .i64 xb, .int .i64 xu, .int .i64 xc, .int .i64 xa] 30)) s_0.out)).trans rfl
        have L2_1 : (wr.alloc (.cells #[.int .i64 xn, .int .i64 xk, .int .i64 xb, .int .i64 xu, .int .i64 xc, .int .i64 xa] 30)).cell? ⟨w.heap.size, 1, none⟩ = some (.int .i64 c) := (cellsB (i := 1) (alc (o := (.cells #[.int .i64 xn, .int .i64 xk, .int .i64 xb, .int .i64 xu, .int .i64 xc, .int .i64 xa] 30)) s_0.out)).trans rfl
        have L2_2 : (wr.alloc (.cells #[.int .i64 xn, .int .i64 xk, .int .i64 xb, .int .i64 xu, .int .i64 xc, .int .i64 xa] 30)).cell? ⟨w.heap.size, 2, none⟩ = some (.int .i64 d) := (cellsB (i := 2) (alc (o := (.cells #[.int .i64 xn, .int .i64 xk, .int .i64 xb, .int .i64 xu, .int .i64 xc, .int .i64 xa] 30)) s_0.out)).trans rfl
        have L2_3 : (wr.alloc (.cells #[.int .i64 xn, .int .i64 xk, .int .i64 xb, .int .i64 xu, .int .i64 xc, .int .i64 xa] 30)).cell? ⟨w.heap.size, 3, none⟩ = some (.int .i64 m0) := (cellsB (i := 3) (alc (o := (.cells #[.int .i64 xn, .int .i64 xk, .int .i64 xb, .int .i64 xu, .int .i64 xc, .int .i64 xa] 30)) s_0.out)).trans rfl
        have L2_4 : (wr.alloc (.cells #[.int .i64 xn, .int .i64 xk, .int .i64 xb, .int .i64 xu, .int .i64 xc, .int .i64 xa] 30)).cell? ⟨w.heap.size, 4, none⟩ = some (.int .i64 m1) := (cellsB (i := 4) (alc (o := (.cells #[.int .i64 xn, .int .i64 xk, .int .i64 xb, .int .i64 xu, .int .i64 xc, .int .i64 xa] 30)) s_0.out)).trans rfl
        have L2_5 : (wr.alloc (.cells #[.int .i64 xn, .int .i64 xk, .int .i64 xb, .int .i64 xu, .int .i64 xc, .int .i64 xa] 30)).cell? ⟨w.heap.size, 5, none⟩ = some (.int .i64 m2) := (cellsB (i := 5) (alc (o := (.cells #[.int .i64 xn, .int .i64 xk, .int .i64 xb, .int .i64 xu, .int .i64 xc, .int .i64 xa] 30)) s_0.out)).trans rfl
        have L2_6 : (wr.alloc (.cells #[.int .i64 xn, .int .i64 xk, .int .i64 xb, .int .i64 xu, .int .i64 xc, .int .i64 xa] 30)).cell? ⟨w.heap.size, 6, none⟩ = some (.int .i64 p) := (cellsB (i := 6) (alc (o := (.cells #[.int .i64 xn, .int .i64 xk, .int .i64 xb, .int .i64 xu, .int .i64 xc, .int .i64 xa] 30)) s_0.out)).trans rfl
        have L2_7 : (wr.alloc (.cells #[.int .i64 xn, .int .i64 xk, .int .i64 xb, .int .i64 xu, .int .i64 xc, .int .i64 xa] 30)).cell? ⟨w.heap.size, 7, none⟩ = some (.int .i64 ph) := (cellsB (i := 7) (alc (o := (.cells #[.int .i64 xn, .int .i64 xk, .int .i64 xb, .int .i64 xu, .int .i64 xc, .int .i64 xa] 30)) s_0.out)).trans rfl
        have L2_8 : (wr.alloc (.cells #[.int .i64 xn, .int .i64 xk, .int .i64 xb, .int .i64 xu, .int .i64 xc, .int .i64 xa] 30)).cell? ⟨w.heap.size, 8, none⟩ = some (.int .i64 st) := (cellsB (i := 8) (alc (o := (.cells #[.int .i64 xn, .int .i64 xk, .int .i64 xb, .int .i64 xu, .int .i64 xc, .int .i64 xa] 30)) s_0.out)).trans rfl
        have L2_9 : (wr.alloc (.cells #[.int .i64 xn, .int .i64 xk, .int .i64 xb, .int .i64 xu, .int .i64 xc, .int .i64 xa] 30)).cell? ⟨w.heap.size, 9, none⟩ = some (.int .i64 re) := (cellsB (i := 9) (alc (o := (.cells #[.int .i64 xn, .int .i64 xk, .int .i64 xb, .int .i64 xu, .int .i64 xc, .int .i64 xa] 30)) s_0.out)).trans rfl
        have L2_10 : (wr.alloc (.cells #[.int .i64 xn, .int .i64 xk, .int .i64 xb, .int .i64 xu, .int .i64 xc, .int .i64 xa] 30)).cell? ⟨w.heap.size, 10, none⟩ = some (.int .i64 si) := (cellsB (i := 10) (alc (o := (.cells #[.int .i64 xn, .int .i64 xk, .int .i64 xb, .int .i64 xu, .int .i64 xc, .int .i64 xa] 30)) s_0.out)).trans rfl
        have L3_0 : (wr.alloc (.cells #[.int .i64 xn, .int .i64 xk, .int .i64 xb, .int .i64 xu, .int .i64 xc, .int .i64 xa] 30)).cell? ⟨wr.heap.size, 0, none⟩ = some (.int .i64 xn) := (cellsB (i := 0) (heap_alloc_new wr (.cells #[.int .i64 xn, .int .i64 xk, .int .i64 xb, .int .i64 xu, .int .i64 xc, .int .i64 xa] 30))).trans rfl
        have L3_1 : (wr.alloc (.cells #[.int .i64 xn, .int .i64 xk, .int .i64 xb, .int .i64 xu, .int .i64 xc, .int .i64 xa] 30)).cell? ⟨wr.heap.size, 1, none⟩ = some (.int .i64 xk) := (cellsB (i := 1) (heap_alloc_new wr (.cells #[.int .i64 xn, .int .i64 xk, .int .i64 xb, .int .i64 xu, .int .i64 xc, .int .i64 xa] 30))).trans rfl
        have L3_2 : (wr.alloc (.cells #[.int .i64 xn, .int .i64 xk, .int .i64 xb, .int .i64 xu, .int .i64 xc, .int .i64 xa] 30)).cell? ⟨wr.heap.size, 2, none⟩ = some (.int .i64 xb) := (cellsB (i := 2) (heap_alloc_new wr (.cells #[.int .i64 xn, .int .i64 xk, .int .i64 xb, .int .i64 xu, .int .i64 xc, .int .i64 xa] 30))).trans rfl
        have L3_3 : (wr.alloc (.cells #[.int .i64 xn, .int .i64 xk, .int .i64 xb, .int .i64 xu, .int .i64 xc, .int .i64 xa] 30)).cell? ⟨wr.heap.size, 3, none⟩ = some (.int .i64 xu) := (cellsB (i := 3) (heap_alloc_new wr (.cells #[.int .i64 xn, .int .i64 xk, .int .i64 xb, .int .i64 xu, .int .i64 xc, .int .i64 xa] 30))).trans rfl
        have L3_4 : (wr.alloc (.cells #[.int .i64 xn, .int .i64 xk, .int .i64 xb, .int .i64 xu, .int .i64 xc, .int .i64 xa] 30)).cell? ⟨wr.heap.size, 4, none⟩ = some (.int .i64 xc) := (cellsB (i := 4) (heap_alloc_new wr (.cells #[.int .i64 xn, .int .i64 xk, .int .i64 xb, .int .i64 xu, .int .i64 xc, .int .i64 xa] 30))).trans rfl
        have L3_5 : (wr.alloc (.cells #[.int .i64 xn, .int .i64 xk, .int .i64 xb, .int .i64 xu, .int .i64 xc, .int .i64 xa] 30)).cell? ⟨wr.heap.size, 5, none⟩ = some (.int .i64 xa) := (cellsB (i := 5) (heap_alloc_new wr (.cells #[.int .i64 xn, .int .i64 xk, .int .i64 xb, .int .i64 xu, .int .i64 xc, .int .i64 xa] 30))).trans rfl
        go_wp2_with fail
        refine (HA1.out _).mono ?_
        rintro e u1 ⟨rfl, q⟩
        have s_1 := Lib.hid (blk1 s_0.out q)
        have x_1 := Lib.hid (blk1 x_0.out q)
        have n_1 := Lib.hid (blk1 n_0.out q)
        have bb_1 := Lib.hid (new1 q)
        have B1 := Lib.hid (bel1 B0.out B0.out.size q)
        clear q s_0 x_0 n_0 B0
        clear L2_0 L2_1 L2_2 L2_3 L2_4 L2_5 L2_6 L2_7 L2_8 L2_9 L2_10 L3_0 L3_1 L3_2 L3_3 L3_4 L3_5
        have s2 : Hid ((u1.alloc (.cells #[.int .i64 Ab, .int .i64 Ac, .int .i64 Ad, .int .i64 Ae, .int .i64 Af, .int .i64 Ag, .int .i64 Ap, .int .i64 Ah, .int .i64 As, .int .i64 Ar, .int .i64 Ai] 26)).heap[w.heap.size]? = some (.cells #[.int .i64 b, .int .i64 c, .int .i64 d, .int .i64 m0, .int .i64 m1, .int .i64 m2, .int .i64 p, .int .i64 ph, .int .i64 st, .int .i64 re, .int .i64 si] 26 (0, 0))) := Lib.hid (alc s_1.out)
        have x2 : Hid ((u1.alloc (.cells #[.int .i64 Ab, .int .i64 Ac, .int .i64 Ad, .int .i64 Ae, .int .i64 Af, .int .i64 Ag, .int .i64 Ap, .int .i64 Ah, .int .i64 As, .int .i64 Ar, .int .i64 Ai] 26)).heap[(w.heap.size + 1)]? = some (.cells #[.int .i64 xn, .int .i64 xk, .int .i64 xb, .int .i64 xu, .int .i64 xc, .int .i64 xa] 30 (0, 0))) := Lib.hid (alc x_1.out)
        have n2 : Hid ((u1.alloc (.cells #[.int .i64 Ab, .int .i64 Ac, .int .i64 Ad, .int .i64 Ae, .int .i64 Af, .int .i64 Ag, .int .i64 Ap, .int .i64 Ah, .int .i64 As, .int .i64 Ar, .int .i64 Ai] 26)).heap[w1.heap.size]? = some (.cells #[.int .i64 yn, .int .i64 yk, .int .i64 yb, .int .i64 yu, .int .i64 yc, .int .i64 ya] 30 (0, 0))) := Lib.hid (alc n_1.out)
        have bb2 : Hid ((u1.alloc (.cells #[.int .i64 Ab, .int .i64 Ac, .int .i64 Ad, .int .i64 Ae, .int .i64 Af, .int .i64 Ag, .int .i64 Ap, .int .i64 Ah, .int .i64 As, .int .i64 Ar, .int .i64 Ai] 26)).heap[wr.heap.size]? = some (.cells #[.int .i64 xn, .int .i64 xk, .int .i64 xb, .int .i64 xu, .int .i64 xc, .int .i64 xa] 30 (0, 0))) := Lib.hid (alc bb_1.out)
        have pa2 : Hid ((u1.alloc (.cells #[.int .i64 Ab, .int .i64 Ac, .int .i64 Ad, .int .i64 Ae, .int .i64 Af, .int .i64 Ag, .int .i64 Ap, .int .i64 Ah, .int .i64 As, .int .i64 Ar, .int .i64 Ai] 26)).heap[u1.heap.size]? = some (.cells #[.int .i64 Ab, .int .i64 Ac, .int .i64 Ad, .int .i64 Ae, .int .i64 Af, .int .i64 Ag, .int .i64 Ap, .int .i64 Ah, .int .i64 As, .int .i64 Ar, .int .i64 Ai] 26 (0, 0))) := Lib.hid (heap_alloc_new u1 _)
        have B2 : Hid (Below w.heap.size w (u1.alloc (.cells #[.int .i64 Ab, .int .i64 Ac, .int .i64 Ad, .int .i64 Ae, .int .i64 Af, .int .i64 Ag, .int .i64 Ap, .int .i64 Ah, .int .i64 As, .int .i64 Ar, .int .i64 Ai] 26))) := Lib.hid (B1.out.alloc B1.out.size _)
        clear s_1 x_1 n_1 bb_1 B1
        go_upto_region 12 with fail
        generalize (u1.alloc (.cells #[.int .i64 Ab, .int .i64 Ac, .int .i64 Ad, .int .i64 Ae, .int .i64 Af, .int .i64 Ag, .int .i64 Ap, .int .i64 Ah, .int .i64 As, .int .i64 Ar, .int .i64 Ai] 26)) = u2 at s2 x2 n2 bb2 pa2 B2 ⊢
        have KS := Lib.hid (show ∀ z, Below u2.heap.size u2 z → (z.cell? ⟨w.heap.size, 0, none⟩ = some (.int .i64 b) ∧ z.cell? ⟨w.heap.size, 1, none⟩ = some (.int .i64 c) ∧ z.cell? ⟨w.heap.size, 2, none⟩ = some (.int .i64 d) ∧ z.cell? ⟨w.heap.size, 3, none⟩ = some (.int .i64 m0) ∧ z.cell? ⟨w.heap.size, 4, none⟩ = some (.int .i64 m1) ∧ z.cell? ⟨w.heap.size, 5, none⟩ = some (.int .i64 m2) ∧ z.cell? ⟨w.heap.size, 6, none⟩ = some (.int .i64 p) ∧ z.cell? ⟨w.heap.size, 7, none⟩ = some (.int .i64 ph) ∧ z.cell? ⟨w.heap.size, 8, none⟩ = some (.int .i64 st) ∧ z.cell? ⟨w.heap.size, 9, none⟩ = some (.int .i64 re) ∧ z.cell? ⟨w.heap.size, 10, none⟩ = some (.int .i64 si) ∧ z.cell? ⟨wr.heap.size, 0, none⟩ = some (.int .i64 xn) ∧ z.cell? ⟨wr.heap.size, 1, none⟩ = some (.int .i64 xk) ∧ z.cell? ⟨wr.heap.size, 2, none⟩ = some (.int .i64 xb) ∧ z.cell? ⟨wr.heap.size, 3, none⟩ = some (.int .i64 xu) ∧ z.cell? ⟨wr.heap.size, 4, none⟩ = some (.int .i64 xc) ∧ z.cell? ⟨wr.heap.size, 5, none⟩ = some (.int .i64 xa)) from fun z hz => ⟨(cellsB (i := 0) (blk0 s2.out hz)).trans rfl, (cellsB (i := 1) (blk0 s2.out hz)).trans rfl, (cellsB (i := 2) (blk0 s2.out hz)).trans rfl, (cellsB (i := 3) (blk0 s2.out hz)).trans rfl, (cellsB (i := 4) (blk0 s2.out hz)).trans rfl, (cellsB (i := 5) (blk0 s2.out hz)).trans rfl, (cellsB (i := 6) (blk0 s2.out hz)).trans rfl, (cellsB (i := 7) (blk0 s2.out hz)).trans rfl, (cellsB (i := 8) (blk0 s2.out hz)).trans rfl, (cellsB (i := 9) (blk0 s2.out hz)).trans rfl, (cellsB (i := 10) (blk0 s2.out hz)).trans rfl, (cellsB (i := 0) (blk0 bb2.out hz)).trans rfl, (cellsB (i := 1) (blk0 bb2.out hz)).trans rfl, (cellsB (i := 2) (blk0 bb2.out hz)).trans rfl, (cellsB (i := 3) (blk0 bb2.out hz)).trans rfl, (cellsB (i := 4) (blk0 bb2.out hz)).trans rfl, (cellsB (i := 5) (blk0 bb2.out hz)).trans rfl⟩)
        go_cut [17, 18] (fun v q wx => ∃ g : Nat, v = .pointer (some ⟨g, 0, none⟩) ∧ q = .bool Aq ∧ Hid (wx.heap[g]? = some (.cells #[.int .i64 Ab, .int .i64 Ac, .int .i64 Ad, .int .i64 Ae, .int .i64 Af, .int .i64 Ag, .int .i64 Ap, .int .i64 Ah, .int .i64 As, .int .i64 Ar, .int .i64 Ai] 26 (0, 0)) ∧ Below u2.heap.size u2 wx))
        case first =>
          have BB := Below.refl u2.heap.size u2
          go_region_held3 (fun w' => w'.cell? ⟨w.heap.size, 0, none⟩ = some (.int .i64 b) ∧ w'.cell? ⟨w.heap.size, 1, none⟩ = some (.int .i64 c) ∧ w'.cell? ⟨w.heap.size, 2, none⟩ = some (.int .i64 d) ∧ w'.cell? ⟨w.heap.size, 3, none⟩ = some (.int .i64 m0) ∧ w'.cell? ⟨w.heap.size, 4, none⟩ = some (.int .i64 m1) ∧ w'.cell? ⟨w.heap.size, 5, none⟩ = some (.int .i64 m2) ∧ w'.cell? ⟨w.heap.size, 6, none⟩ = some (.int .i64 p) ∧ w'.cell? ⟨w.heap.size, 7, none⟩ = some (.int .i64 ph) ∧ w'.cell? ⟨w.heap.size, 8, none⟩ = some (.int .i64 st) ∧ w'.cell? ⟨w.heap.size, 9, none⟩ = some (.int .i64 re) ∧ w'.cell? ⟨w.heap.size, 10, none⟩ = some (.int .i64 si) ∧ w'.cell? ⟨wr.heap.size, 0, none⟩ = some (.int .i64 xn) ∧ w'.cell? ⟨wr.heap.size, 1, none⟩ = some (.int .i64 xk) ∧ w'.cell? ⟨wr.heap.size, 2, none⟩ = some (.int .i64 xb) ∧ w'.cell? ⟨wr.heap.size, 3, none⟩ = some (.int .i64 xu) ∧ w'.cell? ⟨wr.heap.size, 4, none⟩ = some (.int .i64 xc) ∧ w'.cell? ⟨wr.heap.size, 5, none⟩ = some (.int .i64 xa)) (first | (with_reducible exact KS.out _ BB) | (with_reducible exact KS.out _ BB.drew) | (with_reducible exact KS.out _ (BB.alloc BB.size _)) | (with_reducible exact KS.out _ (BB.drew.alloc BB.size _)) | (with_reducible exact KS.out _ (BB.alloc BB.size _).drew) | ((with_reducible refine KS.out _ ?_); (repeat (with_reducible refine belowS ?_ ?hR; case hR => (first | omega | exact Nat.le_refl _))); first | (with_reducible exact BB) | (with_reducible exact BB.drew) | (with_reducible exact (BB.alloc BB.size _)) | (with_reducible exact (BB.drew.alloc BB.size _)) | (with_reducible exact (BB.alloc BB.size _).drew)) | go_keep) (first | (go_at_call 22; (with_reducible refine (HP0.out _).mono ?_); rintro e u3 ⟨rfl, hB⟩; (first | (have BB2 := bel0 BB BB.size hB) | (have BB2 := bel0 BB.drew BB.drew.size hB) | (have BB2 := bel0 (BB.alloc BB.size _) (BB.alloc BB.size _).size hB) | (have BB2 := bel0 (BB.drew.alloc BB.size _) (BB.drew.alloc BB.size _).size hB) | (have BB2 := bel0 (BB.alloc BB.size _).drew (BB.alloc BB.size _).drew.size hB)); (first | (replace NB := blk0 NB hB) | (with_reducible have NB := newd2 hB) | (with_reducible have NB := newd1 hB) | (with_reducible have NB := new1 hB) | skip); (try (have fz := fun i => frozB (i := i) NB)); (try (have zz := fun i => cellsB (i := i) NB)); (replace BB := BB2); (have hsz := BB.size); clear hB) | (go_at_call 27; (with_reducible refine (HA2.out _).mono ?_); rintro e u4 ⟨rfl, hB⟩; (first | (have BB2 := bel0 BB BB.size hB) | (have BB2 := bel0 BB.drew BB.drew.size hB) | (have BB2 := bel0 (BB.alloc BB.size _) (BB.alloc BB.size _).size hB) | (have BB2 := bel0 (BB.drew.alloc BB.size _) (BB.drew.alloc BB.size _).size hB) | (have BB2 := bel0 (BB.alloc BB.size _).drew (BB.alloc BB.size _).drew.size hB)); (first | (replace NB := blk0 NB hB) | (with_reducible have NB := newd2 hB) | (with_reducible have NB := newd1 hB) | (with_reducible have NB := new1 hB) | skip); (try (have fz := fun i => frozB (i := i) NB)); (try (have zz := fun i => cellsB (i := i) NB)); (replace BB := BB2); (have hsz := BB.size); clear hB))
          all_goals
            go_wp2_with fail
            go_meet
            refine ⟨_, rfl, rfl, Lib.hid ?_⟩
            first
              | (have hh := st11_at (v0 := .int .i64 Ab) (v1 := .int .i64 Ac) (v2 := .int .i64 Ad) (v3 := .int .i64 Ae) (v4 := .int .i64 Af) (v5 := .int .i64 Ag) (v6 := .int .i64 Ap) (v7 := .int .i64 Ah) (v8 := .int .i64 As) (v9 := .int .i64 Ar) (v10 := .int .i64 Ai) NB
                 unfold st11 at hh
                 with_reducible refine ⟨hh, ?_⟩
                 repeat (with_reducible refine belowS ?_ ?hR; case hR => (first | omega | exact Nat.le_refl _))
                 with_reducible exact BB)
              | (with_reducible exact ⟨heap_alloc_new _ _, BB.alloc BB.size _⟩)
        case rest =>
          obtain ⟨g, rfl, rfl, HG⟩ := hcut
          obtain ⟨hg, HC⟩ := HG.out
          clear HG
          obtain ⟨u3, hu3⟩ : ∃ z, z = wc := ⟨_, rfl⟩
          rw [← hu3] at hg HC ⊢
          clear hu3
          have s3 := Lib.hid (blk0 s2.out HC)
          have x3 := Lib.hid (blk0 x2.out HC)
          have n3 := Lib.hid (blk0 n2.out HC)
          have pa3 := Lib.hid (blk0 pa2.out HC)
          have g3 := Lib.hid hg
          have B3 := Lib.hid (bel0 B2.out B2.out.size HC)
          clear HC hg s2 x2 n2 bb2 pa2 B2 KS
          have L1_0 : u3.cell? ⟨u1.heap.size, 0, none⟩ = some (.int .i64 Ab) := (cellsB (i := 0) pa3.out).trans rfl
          have L1_1 : u3.cell? ⟨u1.heap.size, 1, none⟩ = some (.int .i64 Ac) := (cellsB (i := 1) pa3.out).trans rfl
          have L1_2 : u3.cell? ⟨u1.heap.size, 2, none⟩ = some (.int .i64 Ad) := (cellsB (i := 2) pa3.out).trans rfl
          have L1_3 : u3.cell? ⟨u1.heap.size, 3, none⟩ = some (.int .i64 Ae) := (cellsB (i := 3) pa3.out).trans rfl
          have L1_4 : u3.cell? ⟨u1.heap.size, 4, none⟩ = some (.int .i64 Af) := (cellsB (i := 4) pa3.out).trans rfl
          have L1_5 : u3.cell? ⟨u1.heap.size, 5, none⟩ = some (.int .i64 Ag) := (cellsB (i := 5) pa3.out).trans rfl
          have L1_6 : u3.cell? ⟨u1.heap.size, 6, none⟩ = some (.int .i64 Ap) := (cellsB (i := 6) pa3.out).trans rfl
          have L1_7 : u3.cell? ⟨u1.heap.size, 7, none⟩ = some (.int .i64 Ah) := (cellsB (i := 7) pa3.out).trans rfl
          have L1_8 : u3.cell? ⟨u1.heap.size, 8, none⟩ = some (.int .i64 As) := (cellsB (i := 8) pa3.out).trans rfl
          have L1_9 : u3.cell? ⟨u1.heap.size, 9, none⟩ = some (.int .i64 Ar) := (cellsB (i := 9) pa3.out).trans rfl
          have L1_10 : u3.cell? ⟨u1.heap.size, 10, none⟩ = some (.int .i64 Ai) := (cellsB (i := 10) pa3.out).trans rfl
          have L2_0 : u3.cell? ⟨g, 0, none⟩ = some (.int .i64 Ab) := (cellsB (i := 0) g3.out).trans rfl
          have L2_1 : u3.cell? ⟨g, 1, none⟩ = some (.int .i64 Ac) := (cellsB (i := 1) g3.out).trans rfl
          have L2_2 : u3.cell? ⟨g, 2, none⟩ = some (.int .i64 Ad) := (cellsB (i := 2) g3.out).trans rfl
          have L2_3 : u3.cell? ⟨g, 3, none⟩ = some (.int .i64 Ae) := (cellsB (i := 3) g3.out).trans rfl
          have L2_4 : u3.cell? ⟨g, 4, none⟩ = some (.int .i64 Af) := (cellsB (i := 4) g3.out).trans rfl
          have L2_5 : u3.cell? ⟨g, 5, none⟩ = some (.int .i64 Ag) := (cellsB (i := 5) g3.out).trans rfl
          have L2_6 : u3.cell? ⟨g, 6, none⟩ = some (.int .i64 Ap) := (cellsB (i := 6) g3.out).trans rfl
          have L2_7 : u3.cell? ⟨g, 7, none⟩ = some (.int .i64 Ah) := (cellsB (i := 7) g3.out).trans rfl
          have L2_8 : u3.cell? ⟨g, 8, none⟩ = some (.int .i64 As) := (cellsB (i := 8) g3.out).trans rfl
          have L2_9 : u3.cell? ⟨g, 9, none⟩ = some (.int .i64 Ar) := (cellsB (i := 9) g3.out).trans rfl
          have L2_10 : u3.cell? ⟨g, 10, none⟩ = some (.int .i64 Ai) := (cellsB (i := 10) g3.out).trans rfl
          go_wp2_with fail
          go_roundw
          case rel => exact ⟨0 + 1, by omega, by first | rfl | go_num, Lib.hid ⟨s3.out, x3.out, n3.out, B3.out⟩⟩
          case measure => simp [intOf]
      · have L1_0 : wr.cell? ⟨(w.heap.size + 1), 0, none⟩ = some (.int .i64 xn) := (cellsB (i := 0) x_0.out).trans rfl
        have L1_1 : wr.cell? ⟨(w.heap.size + 1), 1, none⟩ = some (.int .i64 xk) := (cellsB (i := 1) x_0.out).trans rfl
        have L1_2 : wr.cell? ⟨(w.heap.size + 1), 2, none⟩ = some (.int .i64 xb) := (cellsB (i := 2) x_0.out).trans rfl
        have L1_3 : wr.cell? ⟨(w.heap.size + 1), 3, none⟩ = some (.int .i64 xu) := (cellsB (i := 3) x_0.out).trans rfl
        have L1_4 : wr.cell? ⟨(w.heap.size + 1), 4, none⟩ = some (.int .i64 xc) := (cellsB (i := 4) x_0.out).trans rfl
        have L1_5 : wr.cell? ⟨(w.heap.size + 1), 5, none⟩ = some (.int .i64 xa) := (cellsB (i := 5) x_0.out).trans rfl
        have L2_0 : (wr.alloc (.cells #[.int .i64 xn, .int .i64 xk, .int .i64 xb, .int .i64 xu, .int .i64 xc, .int .i64 xa] 30)).cell? ⟨w1.heap.size, 0, none⟩ = some (.int .i64 yn) := (cellsB (i := 0) (alc (o := (.cells #[.int .i64 xn, .int .i64 xk, .int .i64 xb, .int .i64 xu, .int .i64 xc, .int .i64 xa] 30)) n_0.out)).trans rfl
        have L2_1 : (wr.alloc (.cells #[.int .i64 xn, .int .i64 xk, .int .i64 xb, .int .i64 xu, .int .i64 xc, .int .i64 xa] 30)).cell? ⟨w1.heap.size, 1, none⟩ = some (.int .i64 yk) := (cellsB (i := 1) (alc (o := (.cells #[.int .i64 xn, .int .i64 xk, .int .i64 xb, .int .i64 xu, .int .i64 xc, .int .i64 xa] 30)) n_0.out)).trans rfl
        have L2_2 : (wr.alloc (.cells #[.int .i64 xn, .int .i64 xk, .int .i64 xb, .int .i64 xu, .int .i64 xc, .int .i64 xa] 30)).cell? ⟨w1.heap.size, 2, none⟩ = some (.int .i64 yb) := (cellsB (i := 2) (alc (o := (.cells #[.int .i64 xn, .int .i64 xk, .int .i64 xb, .int .i64 xu, .int .i64 xc, .int .i64 xa] 30)) n_0.out)).trans rfl
        have L2_3 : (wr.alloc (.cells #[.int .i64 xn, .int .i64 xk, .int .i64 xb, .int .i64 xu, .int .i64 xc, .int .i64 xa] 30)).cell? ⟨w1.heap.size, 3, none⟩ = some (.int .i64 yu) := (cellsB (i := 3) (alc (o := (.cells #[.int .i64 xn, .int .i64 xk, .int .i64 xb, .int .i64 xu, .int .i64 xc, .int .i64 xa] 30)) n_0.out)).trans rfl
        have L2_4 : (wr.alloc (.cells #[.int .i64 xn, .int .i64 xk, .int .i64 xb, .int .i64 xu, .int .i64 xc, .int .i64 xa] 30)).cell? ⟨w1.heap.size, 4, none⟩ = some (.int .i64 yc) := (cellsB (i := 4) (alc (o := (.cells #[.int .i64 xn, .int .i64 xk, .int .i64 xb, .int .i64 xu, .int .i64 xc, .int .i64 xa] 30)) n_0.out)).trans rfl
        have L2_5 : (wr.alloc (.cells #[.int .i64 xn, .int .i64 xk, .int .i64 xb, .int .i64 xu, .int .i64 xc, .int .i64 xa] 30)).cell? ⟨w1.heap.size, 5, none⟩ = some (.int .i64 ya) := (cellsB (i := 5) (alc (o := (.cells #[.int .i64 xn, .int .i64 xk, .int .i64 xb, .int .i64 xu, .int .i64 xc, .int .i64 xa] 30)) n_0.out)).trans rfl
        go_upto_region 11 with fail
        clear L1_0 L1_1 L1_2 L1_3 L1_4 L1_5 L2_0 L2_1 L2_2 L2_3 L2_4 L2_5
        have L3_0 : (wr.alloc (.cells #[.int .i64 yn, .int .i64 yk, .int .i64 yb, .int .i64 yu, .int .i64 yc, .int .i64 ya] 30)).cell? ⟨w.heap.size, 0, none⟩ = some (.int .i64 b) := (cellsB (i := 0) (alc (o := (.cells #[.int .i64 yn, .int .i64 yk, .int .i64 yb, .int .i64 yu, .int .i64 yc, .int .i64 ya] 30)) s_0.out)).trans rfl
        have L3_1 : (wr.alloc (.cells #[.int .i64 yn, .int .i64 yk, .int .i64 yb, .int .i64 yu, .int .i64 yc, .int .i64 ya] 30)).cell? ⟨w.heap.size, 1, none⟩ = some (.int .i64 c) := (cellsB (i := 1) (alc (o := (.cells #[.int .i64 yn, .int .i64 yk, .int .i64 yb, .int .i64 yu, .int .i64 yc, .int .i64 ya] 30)) s_0.out)).trans rfl
        have L3_2 : (wr.alloc (.cells #[.int .i64 yn, .int .i64 yk, .int .i64 yb, .int .i64 yu, .int .i64 yc, .int .i64 ya] 30)).cell? ⟨w.heap.size, 2, none⟩ = some (.int .i64 d) := (cellsB (i := 2) (alc (o := (.cells #[.int .i64 yn, .int .i64 yk, .int .i64 yb, .int .i64 yu, .int .i64 yc, .int .i64 ya] 30)) s_0.out)).trans rfl
        have L3_3 : (wr.alloc (.cells #[.int .i64 yn, .int .i64 yk, .int .i64 yb, .int .i64 yu, .int .i64 yc, .int .i64 ya] 30)).cell? ⟨w.heap.size, 3, none⟩ = some (.int .i64 m0) := (cellsB (i := 3) (alc (o := (.cells #[.int .i64 yn, .int .i64 yk, .int .i64 yb, .int .i64 yu, .int .i64 yc, .int .i64 ya] 30)) s_0.out)).trans rfl
        have L3_4 : (wr.alloc (.cells #[.int .i64 yn, .int .i64 yk, .int .i64 yb, .int .i64 yu, .int .i64 yc, .int .i64 ya] 30)).cell? ⟨w.heap.size, 4, none⟩ = some (.int .i64 m1) := (cellsB (i := 4) (alc (o := (.cells #[.int .i64 yn, .int .i64 yk, .int .i64 yb, .int .i64 yu, .int .i64 yc, .int .i64 ya] 30)) s_0.out)).trans rfl
        have L3_5 : (wr.alloc (.cells #[.int .i64 yn, .int .i64 yk, .int .i64 yb, .int .i64 yu, .int .i64 yc, .int .i64 ya] 30)).cell? ⟨w.heap.size, 5, none⟩ = some (.int .i64 m2) := (cellsB (i := 5) (alc (o := (.cells #[.int .i64 yn, .int .i64 yk, .int .i64 yb, .int .i64 yu, .int .i64 yc, .int .i64 ya] 30)) s_0.out)).trans rfl
        have L3_6 : (wr.alloc (.cells #[.int .i64 yn, .int .i64 yk, .int .i64 yb, .int .i64 yu, .int .i64 yc, .int .i64 ya] 30)).cell? ⟨w.heap.size, 6, none⟩ = some (.int .i64 p) := (cellsB (i := 6) (alc (o := (.cells #[.int .i64 yn, .int .i64 yk, .int .i64 yb, .int .i64 yu, .int .i64 yc, .int .i64 ya] 30)) s_0.out)).trans rfl
        have L3_7 : (wr.alloc (.cells #[.int .i64 yn, .int .i64 yk, .int .i64 yb, .int .i64 yu, .int .i64 yc, .int .i64 ya] 30)).cell? ⟨w.heap.size, 7, none⟩ = some (.int .i64 ph) := (cellsB (i := 7) (alc (o := (.cells #[.int .i64 yn, .int .i64 yk, .int .i64 yb, .int .i64 yu, .int .i64 yc, .int .i64 ya] 30)) s_0.out)).trans rfl
        have L3_8 : (wr.alloc (.cells #[.int .i64 yn, .int .i64 yk, .int .i64 yb, .int .i64 yu, .int .i64 yc, .int .i64 ya] 30)).cell? ⟨w.heap.size, 8, none⟩ = some (.int .i64 st) := (cellsB (i := 8) (alc (o := (.cells #[.int .i64 yn, .int .i64 yk, .int .i64 yb, .int .i64 yu, .int .i64 yc, .int .i64 ya] 30)) s_0.out)).trans rfl
        have L3_9 : (wr.alloc (.cells #[.int .i64 yn, .int .i64 yk, .int .i64 yb, .int .i64 yu, .int .i64 yc, .int .i64 ya] 30)).cell? ⟨w.heap.size, 9, none⟩ = some (.int .i64 re) := (cellsB (i := 9) (alc (o := (.cells #[.int .i64 yn, .int .i64 yk, .int .i64 yb, .int .i64 yu, .int .i64 yc, .int .i64 ya] 30)) s_0.out)).trans rfl
        have L3_10 : (wr.alloc (.cells #[.int .i64 yn, .int .i64 yk, .int .i64 yb, .int .i64 yu, .int .i64 yc, .int .i64 ya] 30)).cell? ⟨w.heap.size, 10, none⟩ = some (.int .i64 si) := (cellsB (i := 10) (alc (o := (.cells #[.int .i64 yn, .int .i64 yk, .int .i64 yb, .int .i64 yu, .int .i64 yc, .int .i64 ya] 30)) s_0.out)).trans rfl
        have L4_0 : (wr.alloc (.cells #[.int .i64 yn, .int .i64 yk, .int .i64 yb, .int .i64 yu, .int .i64 yc, .int .i64 ya] 30)).cell? ⟨wr.heap.size, 0, none⟩ = some (.int .i64 yn) := (cellsB (i := 0) (heap_alloc_new wr (.cells #[.int .i64 yn, .int .i64 yk, .int .i64 yb, .int .i64 yu, .int .i64 yc, .int .i64 ya] 30))).trans rfl
        have L4_1 : (wr.alloc (.cells #[.int .i64 yn, .int .i64 yk, .int .i64 yb, .int .i64 yu, .int .i64 yc, .int .i64 ya] 30)).cell? ⟨wr.heap.size, 1, none⟩ = some (.int .i64 yk) := (cellsB (i := 1) (heap_alloc_new wr (.cells #[.int .i64 yn, .int .i64 yk, .int .i64 yb, .int .i64 yu, .int .i64 yc, .int .i64 ya] 30))).trans rfl
        have L4_2 : (wr.alloc (.cells #[.int .i64 yn, .int .i64 yk, .int .i64 yb, .int .i64 yu, .int .i64 yc, .int .i64 ya] 30)).cell? ⟨wr.heap.size, 2, none⟩ = some (.int .i64 yb) := (cellsB (i := 2) (heap_alloc_new wr (.cells #[.int .i64 yn, .int .i64 yk, .int .i64 yb, .int .i64 yu, .int .i64 yc, .int .i64 ya] 30))).trans rfl
        have L4_3 : (wr.alloc (.cells #[.int .i64 yn, .int .i64 yk, .int .i64 yb, .int .i64 yu, .int .i64 yc, .int .i64 ya] 30)).cell? ⟨wr.heap.size, 3, none⟩ = some (.int .i64 yu) := (cellsB (i := 3) (heap_alloc_new wr (.cells #[.int .i64 yn, .int .i64 yk, .int .i64 yb, .int .i64 yu, .int .i64 yc, .int .i64 ya] 30))).trans rfl
        have L4_4 : (wr.alloc (.cells #[.int .i64 yn, .int .i64 yk, .int .i64 yb, .int .i64 yu, .int .i64 yc, .int .i64 ya] 30)).cell? ⟨wr.heap.size, 4, none⟩ = some (.int .i64 yc) := (cellsB (i := 4) (heap_alloc_new wr (.cells #[.int .i64 yn, .int .i64 yk, .int .i64 yb, .int .i64 yu, .int .i64 yc, .int .i64 ya] 30))).trans rfl
        have L4_5 : (wr.alloc (.cells #[.int .i64 yn, .int .i64 yk, .int .i64 yb, .int .i64 yu, .int .i64 yc, .int .i64 ya] 30)).cell? ⟨wr.heap.size, 5, none⟩ = some (.int .i64 ya) := (cellsB (i := 5) (heap_alloc_new wr (.cells #[.int .i64 yn, .int .i64 yk, .int .i64 yb, .int .i64 yu, .int .i64 yc, .int .i64 ya] 30))).trans rfl
        go_wp2_with fail
        refine (HB1.out _).mono ?_
        rintro e u1 ⟨rfl, q⟩
        have s_1 := Lib.hid (blk1 s_0.out q)
        have x_1 := Lib.hid (blk1 x_0.out q)
        have n_1 := Lib.hid (blk1 n_0.out q)
        have bb_1 := Lib.hid (new1 q)
        have B1 := Lib.hid (bel1 B0.out B0.out.size q)
        clear q s_0 x_0 n_0 B0
        clear L3_0 L3_1 L3_2 L3_3 L3_4 L3_5 L3_6 L3_7 L3_8 L3_9 L3_10 L4_0 L4_1 L4_2 L4_3 L4_4 L4_5
        have s2 : Hid ((u1.alloc (.cells #[.int .i64 Bb, .int .i64 Bc, .int .i64 Bd, .int .i64 Be, .int .i64 Bf, .int .i64 Bg, .int .i64 Bp, .int .i64 Bh, .int .i64 Bs, .int .i64 Br, .int .i64 Bi] 26)).heap[w.heap.size]? = some (.cells #[.int .i64 b, .int .i64 c, .int .i64 d, .int .i64 m0, .int .i64 m1, .int .i64 m2, .int .i64 p, .int .i64 ph, .int .i64 st, .int .i64 re, .int .i64 si] 26 (0, 0))) := Lib.hid (alc s_1.out)
        have x2 : Hid ((u1.alloc (.cells #[.int .i64 Bb, .int .i64 Bc, .int .i64 Bd, .int .i64 Be, .int .i64 Bf, .int .i64 Bg, .int .i64 Bp, .int .i64 Bh, .int .i64 Bs, .int .i64 Br, .int .i64 Bi] 26)).heap[(w.heap.size + 1)]? = some (.cells #[.int .i64 xn, .int .i64 xk, .int .i64 xb, .int .i64 xu, .int .i64 xc, .int .i64 xa] 30 (0, 0))) := Lib.hid (alc x_1.out)
        have n2 : Hid ((u1.alloc (.cells #[.int .i64 Bb, .int .i64 Bc, .int .i64 Bd, .int .i64 Be, .int .i64 Bf, .int .i64 Bg, .int .i64 Bp, .int .i64 Bh, .int .i64 Bs, .int .i64 Br, .int .i64 Bi] 26)).heap[w1.heap.size]? = some (.cells #[.int .i64 yn, .int .i64 yk, .int .i64 yb, .int .i64 yu, .int .i64 yc, .int .i64 ya] 30 (0, 0))) := Lib.hid (alc n_1.out)
        have bb2 : Hid ((u1.alloc (.cells #[.int .i64 Bb, .int .i64 Bc, .int .i64 Bd, .int .i64 Be, .int .i64 Bf, .int .i64 Bg, .int .i64 Bp, .int .i64 Bh, .int .i64 Bs, .int .i64 Br, .int .i64 Bi] 26)).heap[wr.heap.size]? = some (.cells #[.int .i64 yn, .int .i64 yk, .int .i64 yb, .int .i64 yu, .int .i64 yc, .int .i64 ya] 30 (0, 0))) := Lib.hid (alc bb_1.out)
        have pa2 : Hid ((u1.alloc (.cells #[.int .i64 Bb, .int .i64 Bc, .int .i64 Bd, .int .i64 Be, .int .i64 Bf, .int .i64 Bg, .int .i64 Bp, .int .i64 Bh, .int .i64 Bs, .int .i64 Br, .int .i64 Bi] 26)).heap[u1.heap.size]? = some (.cells #[.int .i64 Bb, .int .i64 Bc, .int .i64 Bd, .int .i64 Be, .int .i64 Bf, .int .i64 Bg, .int .i64 Bp, .int .i64 Bh, .int .i64 Bs, .int .i64 Br, .int .i64 Bi] 26 (0, 0))) := Lib.hid (heap_alloc_new u1 _)
        have B2 : Hid (Below w.heap.size w (u1.alloc (.cells #[.int .i64 Bb, .int .i64 Bc, .int .i64 Bd, .int .i64 Be, .int .i64 Bf, .int .i64 Bg, .int .i64 Bp, .int .i64 Bh, .int .i64 Bs, .int .i64 Br, .int .i64 Bi] 26))) := Lib.hid (B1.out.alloc B1.out.size _)
        clear s_1 x_1 n_1 bb_1 B1
        go_upto_region 12 with fail
        generalize (u1.alloc (.cells #[.int .i64 Bb, .int .i64 Bc, .int .i64 Bd, .int .i64 Be, .int .i64 Bf, .int .i64 Bg, .int .i64 Bp, .int .i64 Bh, .int .i64 Bs, .int .i64 Br, .int .i64 Bi] 26)) = u2 at s2 x2 n2 bb2 pa2 B2 ⊢
        have KS := Lib.hid (show ∀ z, Below u2.heap.size u2 z → (z.cell? ⟨w.heap.size, 0, none⟩ = some (.int .i64 b) ∧ z.cell? ⟨w.heap.size, 1, none⟩ = some (.int .i64 c) ∧ z.cell? ⟨w.heap.size, 2, none⟩ = some (.int .i64 d) ∧ z.cell? ⟨w.heap.size, 3, none⟩ = some (.int .i64 m0) ∧ z.cell? ⟨w.heap.size, 4, none⟩ = some (.int .i64 m1) ∧ z.cell? ⟨w.heap.size, 5, none⟩ = some (.int .i64 m2) ∧ z.cell? ⟨w.heap.size, 6, none⟩ = some (.int .i64 p) ∧ z.cell? ⟨w.heap.size, 7, none⟩ = some (.int .i64 ph) ∧ z.cell? ⟨w.heap.size, 8, none⟩ = some (.int .i64 st) ∧ z.cell? ⟨w.heap.size, 9, none⟩ = some (.int .i64 re) ∧ z.cell? ⟨w.heap.size, 10, none⟩ = some (.int .i64 si) ∧ z.cell? ⟨wr.heap.size, 0, none⟩ = some (.int .i64 yn) ∧ z.cell? ⟨wr.heap.size, 1, none⟩ = some (.int .i64 yk) ∧ z.cell? ⟨wr.heap.size, 2, none⟩ = some (.int .i64 yb) ∧ z.cell? ⟨wr.heap.size, 3, none⟩ = some (.int .i64 yu) ∧ z.cell? ⟨wr.heap.size, 4, none⟩ = some (.int .i64 yc) ∧ z.cell? ⟨wr.heap.size, 5, none⟩ = some (.int .i64 ya)) from fun z hz => ⟨(cellsB (i := 0) (blk0 s2.out hz)).trans rfl, (cellsB (i := 1) (blk0 s2.out hz)).trans rfl, (cellsB (i := 2) (blk0 s2.out hz)).trans rfl, (cellsB (i := 3) (blk0 s2.out hz)).trans rfl, (cellsB (i := 4) (blk0 s2.out hz)).trans rfl, (cellsB (i := 5) (blk0 s2.out hz)).trans rfl, (cellsB (i := 6) (blk0 s2.out hz)).trans rfl, (cellsB (i := 7) (blk0 s2.out hz)).trans rfl, (cellsB (i := 8) (blk0 s2.out hz)).trans rfl, (cellsB (i := 9) (blk0 s2.out hz)).trans rfl, (cellsB (i := 10) (blk0 s2.out hz)).trans rfl, (cellsB (i := 0) (blk0 bb2.out hz)).trans rfl, (cellsB (i := 1) (blk0 bb2.out hz)).trans rfl, (cellsB (i := 2) (blk0 bb2.out hz)).trans rfl, (cellsB (i := 3) (blk0 bb2.out hz)).trans rfl, (cellsB (i := 4) (blk0 bb2.out hz)).trans rfl, (cellsB (i := 5) (blk0 bb2.out hz)).trans rfl⟩)
        go_cut [17, 18] (fun v q wx => ∃ g : Nat, v = .pointer (some ⟨g, 0, none⟩) ∧ q = .bool Bq ∧ Hid (wx.heap[g]? = some (.cells #[.int .i64 Bb, .int .i64 Bc, .int .i64 Bd, .int .i64 Be, .int .i64 Bf, .int .i64 Bg, .int .i64 Bp, .int .i64 Bh, .int .i64 Bs, .int .i64 Br, .int .i64 Bi] 26 (0, 0)) ∧ Below u2.heap.size u2 wx))
        case first =>
          have BB := Below.refl u2.heap.size u2
          go_region_held3 (fun w' => w'.cell? ⟨w.heap.size, 0, none⟩ = some (.int .i64 b) ∧ w'.cell? ⟨w.heap.size, 1, none⟩ = some (.int .i64 c) ∧ w'.cell? ⟨w.heap.size, 2, none⟩ = some (.int .i64 d) ∧ w'.cell? ⟨w.heap.size, 3, none⟩ = some (.int .i64 m0) ∧ w'.cell? ⟨w.heap.size, 4, none⟩ = some (.int .i64 m1) ∧ w'.cell? ⟨w.heap.size, 5, none⟩ = some (.int .i64 m2) ∧ w'.cell? ⟨w.heap.size, 6, none⟩ = some (.int .i64 p) ∧ w'.cell? ⟨w.heap.size, 7, none⟩ = some (.int .i64 ph) ∧ w'.cell? ⟨w.heap.size, 8, none⟩ = some (.int .i64 st) ∧ w'.cell? ⟨w.heap.size, 9, none⟩ = some (.int .i64 re) ∧ w'.cell? ⟨w.heap.size, 10, none⟩ = some (.int .i64 si) ∧ w'.cell? ⟨wr.heap.size, 0, none⟩ = some (.int .i64 yn) ∧ w'.cell? ⟨wr.heap.size, 1, none⟩ = some (.int .i64 yk) ∧ w'.cell? ⟨wr.heap.size, 2, none⟩ = some (.int .i64 yb) ∧ w'.cell? ⟨wr.heap.size, 3, none⟩ = some (.int .i64 yu) ∧ w'.cell? ⟨wr.heap.size, 4, none⟩ = some (.int .i64 yc) ∧ w'.cell? ⟨wr.heap.size, 5, none⟩ = some (.int .i64 ya)) (first | (with_reducible exact KS.out _ BB) | (with_reducible exact KS.out _ BB.drew) | (with_reducible exact KS.out _ (BB.alloc BB.size _)) | (with_reducible exact KS.out _ (BB.drew.alloc BB.size _)) | (with_reducible exact KS.out _ (BB.alloc BB.size _).drew) | ((with_reducible refine KS.out _ ?_); (repeat (with_reducible refine belowS ?_ ?hR; case hR => (first | omega | exact Nat.le_refl _))); first | (with_reducible exact BB) | (with_reducible exact BB.drew) | (with_reducible exact (BB.alloc BB.size _)) | (with_reducible exact (BB.drew.alloc BB.size _)) | (with_reducible exact (BB.alloc BB.size _).drew)) | go_keep) (first | (go_at_call 22; (with_reducible refine (HP1.out _).mono ?_); rintro e u3 ⟨rfl, hB⟩; (first | (have BB2 := bel0 BB BB.size hB) | (have BB2 := bel0 BB.drew BB.drew.size hB) | (have BB2 := bel0 (BB.alloc BB.size _) (BB.alloc BB.size _).size hB) | (have BB2 := bel0 (BB.drew.alloc BB.size _) (BB.drew.alloc BB.size _).size hB) | (have BB2 := bel0 (BB.alloc BB.size _).drew (BB.alloc BB.size _).drew.size hB)); (first | (replace NB := blk0 NB hB) | (with_reducible have NB := newd2 hB) | (with_reducible have NB := newd1 hB) | (with_reducible have NB := new1 hB) | skip); (try (have fz := fun i => frozB (i := i) NB)); (try (have zz := fun i => cellsB (i := i) NB)); (replace BB := BB2); (have hsz := BB.size); clear hB) | (go_at_call 27; (with_reducible refine (HB2.out _).mono ?_); rintro e u4 ⟨rfl, hB⟩; (first | (have BB2 := bel0 BB BB.size hB) | (have BB2 := bel0 BB.drew BB.drew.size hB) | (have BB2 := bel0 (BB.alloc BB.size _) (BB.alloc BB.size _).size hB) | (have BB2 := bel0 (BB.drew.alloc BB.size _) (BB.drew.alloc BB.size _).size hB) | (have BB2 := bel0 (BB.alloc BB.size _).drew (BB.alloc BB.size _).drew.size hB)); (first | (replace NB := blk0 NB hB) | (with_reducible have NB := newd2 hB) | (with_reducible have NB := newd1 hB) | (with_reducible have NB := new1 hB) | skip); (try (have fz := fun i => frozB (i := i) NB)); (try (have zz := fun i => cellsB (i := i) NB)); (replace BB := BB2); (have hsz := BB.size); clear hB))
          all_goals
            go_wp2_with fail
            go_meet
            refine ⟨_, rfl, rfl, Lib.hid ?_⟩
            first
              | (have hh := st11_at (v0 := .int .i64 Bb) (v1 := .int .i64 Bc) (v2 := .int .i64 Bd) (v3 := .int .i64 Be) (v4 := .int .i64 Bf) (v5 := .int .i64 Bg) (v6 := .int .i64 Bp) (v7 := .int .i64 Bh) (v8 := .int .i64 Bs) (v9 := .int .i64 Br) (v10 := .int .i64 Bi) NB
                 unfold st11 at hh
                 with_reducible refine ⟨hh, ?_⟩
                 repeat (with_reducible refine belowS ?_ ?hR; case hR => (first | omega | exact Nat.le_refl _))
                 with_reducible exact BB)
              | (with_reducible exact ⟨heap_alloc_new _ _, BB.alloc BB.size _⟩)
        case rest =>
          obtain ⟨g, rfl, rfl, HG⟩ := hcut
          obtain ⟨hg, HC⟩ := HG.out
          clear HG
          obtain ⟨u3, hu3⟩ : ∃ z, z = wc := ⟨_, rfl⟩
          rw [← hu3] at hg HC ⊢
          clear hu3
          have s3 := Lib.hid (blk0 s2.out HC)
          have x3 := Lib.hid (blk0 x2.out HC)
          have n3 := Lib.hid (blk0 n2.out HC)
          have pa3 := Lib.hid (blk0 pa2.out HC)
          have g3 := Lib.hid hg
          have B3 := Lib.hid (bel0 B2.out B2.out.size HC)
          clear HC hg s2 x2 n2 bb2 pa2 B2 KS
          have L1_0 : u3.cell? ⟨u1.heap.size, 0, none⟩ = some (.int .i64 Bb) := (cellsB (i := 0) pa3.out).trans rfl
          have L1_1 : u3.cell? ⟨u1.heap.size, 1, none⟩ = some (.int .i64 Bc) := (cellsB (i := 1) pa3.out).trans rfl
          have L1_2 : u3.cell? ⟨u1.heap.size, 2, none⟩ = some (.int .i64 Bd) := (cellsB (i := 2) pa3.out).trans rfl
          have L1_3 : u3.cell? ⟨u1.heap.size, 3, none⟩ = some (.int .i64 Be) := (cellsB (i := 3) pa3.out).trans rfl
          have L1_4 : u3.cell? ⟨u1.heap.size, 4, none⟩ = some (.int .i64 Bf) := (cellsB (i := 4) pa3.out).trans rfl
          have L1_5 : u3.cell? ⟨u1.heap.size, 5, none⟩ = some (.int .i64 Bg) := (cellsB (i := 5) pa3.out).trans rfl
          have L1_6 : u3.cell? ⟨u1.heap.size, 6, none⟩ = some (.int .i64 Bp) := (cellsB (i := 6) pa3.out).trans rfl
          have L1_7 : u3.cell? ⟨u1.heap.size, 7, none⟩ = some (.int .i64 Bh) := (cellsB (i := 7) pa3.out).trans rfl
          have L1_8 : u3.cell? ⟨u1.heap.size, 8, none⟩ = some (.int .i64 Bs) := (cellsB (i := 8) pa3.out).trans rfl
          have L1_9 : u3.cell? ⟨u1.heap.size, 9, none⟩ = some (.int .i64 Br) := (cellsB (i := 9) pa3.out).trans rfl
          have L1_10 : u3.cell? ⟨u1.heap.size, 10, none⟩ = some (.int .i64 Bi) := (cellsB (i := 10) pa3.out).trans rfl
          have L2_0 : u3.cell? ⟨g, 0, none⟩ = some (.int .i64 Bb) := (cellsB (i := 0) g3.out).trans rfl
          have L2_1 : u3.cell? ⟨g, 1, none⟩ = some (.int .i64 Bc) := (cellsB (i := 1) g3.out).trans rfl
          have L2_2 : u3.cell? ⟨g, 2, none⟩ = some (.int .i64 Bd) := (cellsB (i := 2) g3.out).trans rfl
          have L2_3 : u3.cell? ⟨g, 3, none⟩ = some (.int .i64 Be) := (cellsB (i := 3) g3.out).trans rfl
          have L2_4 : u3.cell? ⟨g, 4, none⟩ = some (.int .i64 Bf) := (cellsB (i := 4) g3.out).trans rfl
          have L2_5 : u3.cell? ⟨g, 5, none⟩ = some (.int .i64 Bg) := (cellsB (i := 5) g3.out).trans rfl
          have L2_6 : u3.cell? ⟨g, 6, none⟩ = some (.int .i64 Bp) := (cellsB (i := 6) g3.out).trans rfl
          have L2_7 : u3.cell? ⟨g, 7, none⟩ = some (.int .i64 Bh) := (cellsB (i := 7) g3.out).trans rfl
          have L2_8 : u3.cell? ⟨g, 8, none⟩ = some (.int .i64 Bs) := (cellsB (i := 8) g3.out).trans rfl
          have L2_9 : u3.cell? ⟨g, 9, none⟩ = some (.int .i64 Br) := (cellsB (i := 9) g3.out).trans rfl
          have L2_10 : u3.cell? ⟨g, 10, none⟩ = some (.int .i64 Bi) := (cellsB (i := 10) g3.out).trans rfl
          go_wp2_with fail
          go_roundw
          case rel => exact ⟨1 + 1, by omega, by first | rfl | go_num, Lib.hid ⟨s3.out, x3.out, n3.out, B3.out⟩⟩
          case measure => simp [intOf]
      · clear x_0 n_0
        have L1_0 : wr.cell? ⟨w.heap.size, 0, none⟩ = some (.int .i64 b) := (cellsB (i := 0) s_0.out).trans rfl
        have L1_1 : wr.cell? ⟨w.heap.size, 1, none⟩ = some (.int .i64 c) := (cellsB (i := 1) s_0.out).trans rfl
        have L1_2 : wr.cell? ⟨w.heap.size, 2, none⟩ = some (.int .i64 d) := (cellsB (i := 2) s_0.out).trans rfl
        have L1_3 : wr.cell? ⟨w.heap.size, 3, none⟩ = some (.int .i64 m0) := (cellsB (i := 3) s_0.out).trans rfl
        have L1_4 : wr.cell? ⟨w.heap.size, 4, none⟩ = some (.int .i64 m1) := (cellsB (i := 4) s_0.out).trans rfl
        have L1_5 : wr.cell? ⟨w.heap.size, 5, none⟩ = some (.int .i64 m2) := (cellsB (i := 5) s_0.out).trans rfl
        have L1_6 : wr.cell? ⟨w.heap.size, 6, none⟩ = some (.int .i64 p) := (cellsB (i := 6) s_0.out).trans rfl
        have L1_7 : wr.cell? ⟨w.heap.size, 7, none⟩ = some (.int .i64 ph) := (cellsB (i := 7) s_0.out).trans rfl
        have L1_8 : wr.cell? ⟨w.heap.size, 8, none⟩ = some (.int .i64 st) := (cellsB (i := 8) s_0.out).trans rfl
        have L1_9 : wr.cell? ⟨w.heap.size, 9, none⟩ = some (.int .i64 re) := (cellsB (i := 9) s_0.out).trans rfl
        have L1_10 : wr.cell? ⟨w.heap.size, 10, none⟩ = some (.int .i64 si) := (cellsB (i := 10) s_0.out).trans rfl
        go_wp2_with fail
        refine (HC1.out _).mono ?_
        rintro e v1 ⟨rfl, q⟩
        have s_1 := Lib.hid (blk0 s_0.out q)
        have B1 := Lib.hid (bel0 B0.out B0.out.size q)
        clear q s_0 B0
        clear L1_0 L1_1 L1_2 L1_3 L1_4 L1_5 L1_6 L1_7 L1_8 L1_9 L1_10
        have L2_0 : (v1.alloc (.cells #[.int .i64 Cb, .int .i64 Cc, .int .i64 Cd, .int .i64 Ce, .int .i64 Cf, .int .i64 Cg, .int .i64 Cp, .int .i64 Ch, .int .i64 Cs, .int .i64 Cr, .int .i64 Ci] 26)).cell? ⟨w.heap.size, 0, none⟩ = some (.int .i64 b) := (cellsB (i := 0) (alc (o := (.cells #[.int .i64 Cb, .int .i64 Cc, .int .i64 Cd, .int .i64 Ce, .int .i64 Cf, .int .i64 Cg, .int .i64 Cp, .int .i64 Ch, .int .i64 Cs, .int .i64 Cr, .int .i64 Ci] 26)) s_1.out)).trans rfl
        have L2_1 : (v1.alloc (.cells #[.int .i64 Cb, .int .i64 Cc, .int .i64 Cd, .int .i64 Ce, .int .i64 Cf, .int .i64 Cg, .int .i64 Cp, .int .i64 Ch, .int .i64 Cs, .int .i64 Cr, .int .i64 Ci] 26)).cell? ⟨w.heap.size, 1, none⟩ = some (.int .i64 c) := (cellsB (i := 1) (alc (o := (.cells #[.int .i64 Cb, .int .i64 Cc, .int .i64 Cd, .int .i64 Ce, .int .i64 Cf, .int .i64 Cg, .int .i64 Cp, .int .i64 Ch, .int .i64 Cs, .int .i64 Cr, .int .i64 Ci] 26)) s_1.out)).trans rfl
        have L2_2 : (v1.alloc (.cells #[.int .i64 Cb, .int .i64 Cc, .int .i64 Cd, .int .i64 Ce, .int .i64 Cf, .int .i64 Cg, .int .i64 Cp, .int .i64 Ch, .int .i64 Cs, .int .i64 Cr, .int .i64 Ci] 26)).cell? ⟨w.heap.size, 2, none⟩ = some (.int .i64 d) := (cellsB (i := 2) (alc (o := (.cells #[.int .i64 Cb, .int .i64 Cc, .int .i64 Cd, .int .i64 Ce, .int .i64 Cf, .int .i64 Cg, .int .i64 Cp, .int .i64 Ch, .int .i64 Cs, .int .i64 Cr, .int .i64 Ci] 26)) s_1.out)).trans rfl
        have L2_3 : (v1.alloc (.cells #[.int .i64 Cb, .int .i64 Cc, .int .i64 Cd, .int .i64 Ce, .int .i64 Cf, .int .i64 Cg, .int .i64 Cp, .int .i64 Ch, .int .i64 Cs, .int .i64 Cr, .int .i64 Ci] 26)).cell? ⟨w.heap.size, 3, none⟩ = some (.int .i64 m0) := (cellsB (i := 3) (alc (o := (.cells #[.int .i64 Cb, .int .i64 Cc, .int .i64 Cd, .int .i64 Ce, .int .i64 Cf, .int .i64 Cg, .int .i64 Cp, .int .i64 Ch, .int .i64 Cs, .int .i64 Cr, .int .i64 Ci] 26)) s_1.out)).trans rfl
        have L2_4 : (v1.alloc (.cells #[.int .i64 Cb, .int .i64 Cc, .int .i64 Cd, .int .i64 Ce, .int .i64 Cf, .int .i64 Cg, .int .i64 Cp, .int .i64 Ch, .int .i64 Cs, .int .i64 Cr, .int .i64 Ci] 26)).cell? ⟨w.heap.size, 4, none⟩ = some (.int .i64 m1) := (cellsB (i := 4) (alc (o := (.cells #[.int .i64 Cb, .int .i64 Cc, .int .i64 Cd, .int .i64 Ce, .int .i64 Cf, .int .i64 Cg, .int .i64 Cp, .int .i64 Ch, .int .i64 Cs, .int .i64 Cr, .int .i64 Ci] 26)) s_1.out)).trans rfl
        have L2_5 : (v1.alloc (.cells #[.int .i64 Cb, .int .i64 Cc, .int .i64 Cd, .int .i64 Ce, .int .i64 Cf, .int .i64 Cg, .int .i64 Cp, .int .i64 Ch, .int .i64 Cs, .int .i64 Cr, .int .i64 Ci] 26)).cell? ⟨w.heap.size, 5, none⟩ = some (.int .i64 m2) := (cellsB (i := 5) (alc (o := (.cells #[.int .i64 Cb, .int .i64 Cc, .int .i64 Cd, .int .i64 Ce, .int .i64 Cf, .int .i64 Cg, .int .i64 Cp, .int .i64 Ch, .int .i64 Cs, .int .i64 Cr, .int .i64 Ci] 26)) s_1.out)).trans rfl
        have L2_6 : (v1.alloc (.cells #[.int .i64 Cb, .int .i64 Cc, .int .i64 Cd, .int .i64 Ce, .int .i64 Cf, .int .i64 Cg, .int .i64 Cp, .int .i64 Ch, .int .i64 Cs, .int .i64 Cr, .int .i64 Ci] 26)).cell? ⟨w.heap.size, 6, none⟩ = some (.int .i64 p) := (cellsB (i := 6) (alc (o := (.cells #[.int .i64 Cb, .int .i64 Cc, .int .i64 Cd, .int .i64 Ce, .int .i64 Cf, .int .i64 Cg, .int .i64 Cp, .int .i64 Ch, .int .i64 Cs, .int .i64 Cr, .int .i64 Ci] 26)) s_1.out)).trans rfl
        have L2_7 : (v1.alloc (.cells #[.int .i64 Cb, .int .i64 Cc, .int .i64 Cd, .int .i64 Ce, .int .i64 Cf, .int .i64 Cg, .int .i64 Cp, .int .i64 Ch, .int .i64 Cs, .int .i64 Cr, .int .i64 Ci] 26)).cell? ⟨w.heap.size, 7, none⟩ = some (.int .i64 ph) := (cellsB (i := 7) (alc (o := (.cells #[.int .i64 Cb, .int .i64 Cc, .int .i64 Cd, .int .i64 Ce, .int .i64 Cf, .int .i64 Cg, .int .i64 Cp, .int .i64 Ch, .int .i64 Cs, .int .i64 Cr, .int .i64 Ci] 26)) s_1.out)).trans rfl
        have L2_8 : (v1.alloc (.cells #[.int .i64 Cb, .int .i64 Cc, .int .i64 Cd, .int .i64 Ce, .int .i64 Cf, .int .i64 Cg, .int .i64 Cp, .int .i64 Ch, .int .i64 Cs, .int .i64 Cr, .int .i64 Ci] 26)).cell? ⟨w.heap.size, 8, none⟩ = some (.int .i64 st) := (cellsB (i := 8) (alc (o := (.cells #[.int .i64 Cb, .int .i64 Cc, .int .i64 Cd, .int .i64 Ce, .int .i64 Cf, .int .i64 Cg, .int .i64 Cp, .int .i64 Ch, .int .i64 Cs, .int .i64 Cr, .int .i64 Ci] 26)) s_1.out)).trans rfl
        have L2_9 : (v1.alloc (.cells #[.int .i64 Cb, .int .i64 Cc, .int .i64 Cd, .int .i64 Ce, .int .i64 Cf, .int .i64 Cg, .int .i64 Cp, .int .i64 Ch, .int .i64 Cs, .int .i64 Cr, .int .i64 Ci] 26)).cell? ⟨w.heap.size, 9, none⟩ = some (.int .i64 re) := (cellsB (i := 9) (alc (o := (.cells #[.int .i64 Cb, .int .i64 Cc, .int .i64 Cd, .int .i64 Ce, .int .i64 Cf, .int .i64 Cg, .int .i64 Cp, .int .i64 Ch, .int .i64 Cs, .int .i64 Cr, .int .i64 Ci] 26)) s_1.out)).trans rfl
        have L2_10 : (v1.alloc (.cells #[.int .i64 Cb, .int .i64 Cc, .int .i64 Cd, .int .i64 Ce, .int .i64 Cf, .int .i64 Cg, .int .i64 Cp, .int .i64 Ch, .int .i64 Cs, .int .i64 Cr, .int .i64 Ci] 26)).cell? ⟨w.heap.size, 10, none⟩ = some (.int .i64 si) := (cellsB (i := 10) (alc (o := (.cells #[.int .i64 Cb, .int .i64 Cc, .int .i64 Cd, .int .i64 Ce, .int .i64 Cf, .int .i64 Cg, .int .i64 Cp, .int .i64 Ch, .int .i64 Cs, .int .i64 Cr, .int .i64 Ci] 26)) s_1.out)).trans rfl
        go_wp2_with fail
        refine (HC2.out _).mono ?_
        rintro e v2 ⟨rfl, q⟩
        have s_2 := Lib.hid (blk1 s_1.out q)
        have pC_2 := Lib.hid (new1 q)
        have B2 := Lib.hid (bel1 B1.out B1.out.size q)
        clear q s_1 B1
        clear L2_0 L2_1 L2_2 L2_3 L2_4 L2_5 L2_6 L2_7 L2_8 L2_9 L2_10
        have L3_0 : (v2.alloc (.cells #[.int .i64 Cb, .int .i64 Cc, .int .i64 Cd, .int .i64 Ce, .int .i64 Cf, .int .i64 Cg, .int .i64 Cp, .int .i64 Ch, .int .i64 Cs, .int .i64 Cr, .int .i64 Ci] 26)).cell? ⟨w.heap.size, 0, none⟩ = some (.int .i64 b) := (cellsB (i := 0) (alc (o := (.cells #[.int .i64 Cb, .int .i64 Cc, .int .i64 Cd, .int .i64 Ce, .int .i64 Cf, .int .i64 Cg, .int .i64 Cp, .int .i64 Ch, .int .i64 Cs, .int .i64 Cr, .int .i64 Ci] 26)) s_2.out)).trans rfl
        have L3_1 : (v2.alloc (.cells #[.int .i64 Cb, .int .i64 Cc, .int .i64 Cd, .int .i64 Ce, .int .i64 Cf, .int .i64 Cg, .int .i64 Cp, .int .i64 Ch, .int .i64 Cs, .int .i64 Cr, .int .i64 Ci] 26)).cell? ⟨w.heap.size, 1, none⟩ = some (.int .i64 c) := (cellsB (i := 1) (alc (o := (.cells #[.int .i64 Cb, .int .i64 Cc, .int .i64 Cd, .int .i64 Ce, .int .i64 Cf, .int .i64 Cg, .int .i64 Cp, .int .i64 Ch, .int .i64 Cs, .int .i64 Cr, .int .i64 Ci] 26)) s_2.out)).trans rfl
        have L3_2 : (v2.alloc (.cells #[.int .i64 Cb, .int .i64 Cc, .int .i64 Cd, .int .i64 Ce, .int .i64 Cf, .int .i64 Cg, .int .i64 Cp, .int .i64 Ch, .int .i64 Cs, .int .i64 Cr, .int .i64 Ci] 26)).cell? ⟨w.heap.size, 2, none⟩ = some (.int .i64 d) := (cellsB (i := 2) (alc (o := (.cells #[.int .i64 Cb, .int .i64 Cc, .int .i64 Cd, .int .i64 Ce, .int .i64 Cf, .int .i64 Cg, .int .i64 Cp, .int .i64 Ch, .int .i64 Cs, .int .i64 Cr, .int .i64 Ci] 26)) s_2.out)).trans rfl
        have L3_3 : (v2.alloc (.cells #[.int .i64 Cb, .int .i64 Cc, .int .i64 Cd, .int .i64 Ce, .int .i64 Cf, .int .i64 Cg, .int .i64 Cp, .int .i64 Ch, .int .i64 Cs, .int .i64 Cr, .int .i64 Ci] 26)).cell? ⟨w.heap.size, 3, none⟩ = some (.int .i64 m0) := (cellsB (i := 3) (alc (o := (.cells #[.int .i64 Cb, .int .i64 Cc, .int .i64 Cd, .int .i64 Ce, .int .i64 Cf, .int .i64 Cg, .int .i64 Cp, .int .i64 Ch, .int .i64 Cs, .int .i64 Cr, .int .i64 Ci] 26)) s_2.out)).trans rfl
        have L3_4 : (v2.alloc (.cells #[.int .i64 Cb, .int .i64 Cc, .int .i64 Cd, .int .i64 Ce, .int .i64 Cf, .int .i64 Cg, .int .i64 Cp, .int .i64 Ch, .int .i64 Cs, .int .i64 Cr, .int .i64 Ci] 26)).cell? ⟨w.heap.size, 4, none⟩ = some (.int .i64 m1) := (cellsB (i := 4) (alc (o := (.cells #[.int .i64 Cb, .int .i64 Cc, .int .i64 Cd, .int .i64 Ce, .int .i64 Cf, .int .i64 Cg, .int .i64 Cp, .int .i64 Ch, .int .i64 Cs, .int .i64 Cr, .int .i64 Ci] 26)) s_2.out)).trans rfl
        have L3_5 : (v2.alloc (.cells #[.int .i64 Cb, .int .i64 Cc, .int .i64 Cd, .int .i64 Ce, .int .i64 Cf, .int .i64 Cg, .int .i64 Cp, .int .i64 Ch, .int .i64 Cs, .int .i64 Cr, .int .i64 Ci] 26)).cell? ⟨w.heap.size, 5, none⟩ = some (.int .i64 m2) := (cellsB (i := 5) (alc (o := (.cells #[.int .i64 Cb, .int .i64 Cc, .int .i64 Cd, .int .i64 Ce, .int .i64 Cf, .int .i64 Cg, .int .i64 Cp, .int .i64 Ch, .int .i64 Cs, .int .i64 Cr, .int .i64 Ci] 26)) s_2.out)).trans rfl
        have L3_6 : (v2.alloc (.cells #[.int .i64 Cb, .int .i64 Cc, .int .i64 Cd, .int .i64 Ce, .int .i64 Cf, .int .i64 Cg, .int .i64 Cp, .int .i64 Ch, .int .i64 Cs, .int .i64 Cr, .int .i64 Ci] 26)).cell? ⟨w.heap.size, 6, none⟩ = some (.int .i64 p) := (cellsB (i := 6) (alc (o := (.cells #[.int .i64 Cb, .int .i64 Cc, .int .i64 Cd, .int .i64 Ce, .int .i64 Cf, .int .i64 Cg, .int .i64 Cp, .int .i64 Ch, .int .i64 Cs, .int .i64 Cr, .int .i64 Ci] 26)) s_2.out)).trans rfl
        have L3_7 : (v2.alloc (.cells #[.int .i64 Cb, .int .i64 Cc, .int .i64 Cd, .int .i64 Ce, .int .i64 Cf, .int .i64 Cg, .int .i64 Cp, .int .i64 Ch, .int .i64 Cs, .int .i64 Cr, .int .i64 Ci] 26)).cell? ⟨w.heap.size, 7, none⟩ = some (.int .i64 ph) := (cellsB (i := 7) (alc (o := (.cells #[.int .i64 Cb, .int .i64 Cc, .int .i64 Cd, .int .i64 Ce, .int .i64 Cf, .int .i64 Cg, .int .i64 Cp, .int .i64 Ch, .int .i64 Cs, .int .i64 Cr, .int .i64 Ci] 26)) s_2.out)).trans rfl
        have L3_8 : (v2.alloc (.cells #[.int .i64 Cb, .int .i64 Cc, .int .i64 Cd, .int .i64 Ce, .int .i64 Cf, .int .i64 Cg, .int .i64 Cp, .int .i64 Ch, .int .i64 Cs, .int .i64 Cr, .int .i64 Ci] 26)).cell? ⟨w.heap.size, 8, none⟩ = some (.int .i64 st) := (cellsB (i := 8) (alc (o := (.cells #[.int .i64 Cb, .int .i64 Cc, .int .i64 Cd, .int .i64 Ce, .int .i64 Cf, .int .i64 Cg, .int .i64 Cp, .int .i64 Ch, .int .i64 Cs, .int .i64 Cr, .int .i64 Ci] 26)) s_2.out)).trans rfl
        have L3_9 : (v2.alloc (.cells #[.int .i64 Cb, .int .i64 Cc, .int .i64 Cd, .int .i64 Ce, .int .i64 Cf, .int .i64 Cg, .int .i64 Cp, .int .i64 Ch, .int .i64 Cs, .int .i64 Cr, .int .i64 Ci] 26)).cell? ⟨w.heap.size, 9, none⟩ = some (.int .i64 re) := (cellsB (i := 9) (alc (o := (.cells #[.int .i64 Cb, .int .i64 Cc, .int .i64 Cd, .int .i64 Ce, .int .i64 Cf, .int .i64 Cg, .int .i64 Cp, .int .i64 Ch, .int .i64 Cs, .int .i64 Cr, .int .i64 Ci] 26)) s_2.out)).trans rfl
        have L3_10 : (v2.alloc (.cells #[.int .i64 Cb, .int .i64 Cc, .int .i64 Cd, .int .i64 Ce, .int .i64 Cf, .int .i64 Cg, .int .i64 Cp, .int .i64 Ch, .int .i64 Cs, .int .i64 Cr, .int .i64 Ci] 26)).cell? ⟨w.heap.size, 10, none⟩ = some (.int .i64 si) := (cellsB (i := 10) (alc (o := (.cells #[.int .i64 Cb, .int .i64 Cc, .int .i64 Cd, .int .i64 Ce, .int .i64 Cf, .int .i64 Cg, .int .i64 Cp, .int .i64 Ch, .int .i64 Cs, .int .i64 Cr, .int .i64 Ci] 26)) s_2.out)).trans rfl
        go_wp2_with fail
        refine (HL1.out _).mono ?_
        rintro e v3 ⟨rfl, q⟩
        have s_3 := Lib.hid (blk1 s_2.out q)
        have pC_3 := Lib.hid (blk1 pC_2.out q)
        have qC_3 := Lib.hid (new1 q)
        have B3 := Lib.hid (bel1 B2.out B2.out.size q)
        clear q s_2 pC_2 B2
        clear L3_0 L3_1 L3_2 L3_3 L3_4 L3_5 L3_6 L3_7 L3_8 L3_9 L3_10
        have L4_0 : (v3.alloc (.cells #[.int .i64 Lb, .int .i64 Lc, .int .i64 Ld, .int .i64 Le, .int .i64 Lf, .int .i64 Lg, .int .i64 Lp, .int .i64 Lh, .int .i64 Ls, .int .i64 Lr, .int .i64 Li] 26)).cell? ⟨w.heap.size, 0, none⟩ = some (.int .i64 b) := (cellsB (i := 0) (alc (o := (.cells #[.int .i64 Lb, .int .i64 Lc, .int .i64 Ld, .int .i64 Le, .int .i64 Lf, .int .i64 Lg, .int .i64 Lp, .int .i64 Lh, .int .i64 Ls, .int .i64 Lr, .int .i64 Li] 26)) s_3.out)).trans rfl
        have L4_1 : (v3.alloc (.cells #[.int .i64 Lb, .int .i64 Lc, .int .i64 Ld, .int .i64 Le, .int .i64 Lf, .int .i64 Lg, .int .i64 Lp, .int .i64 Lh, .int .i64 Ls, .int .i64 Lr, .int .i64 Li] 26)).cell? ⟨w.heap.size, 1, none⟩ = some (.int .i64 c) := (cellsB (i := 1) (alc (o := (.cells #[.int .i64 Lb, .int .i64 Lc, .int .i64 Ld, .int .i64 Le, .int .i64 Lf, .int .i64 Lg, .int .i64 Lp, .int .i64 Lh, .int .i64 Ls, .int .i64 Lr, .int .i64 Li] 26)) s_3.out)).trans rfl
        have L4_2 : (v3.alloc (.cells #[.int .i64 Lb, .int .i64 Lc, .int .i64 Ld, .int .i64 Le, .int .i64 Lf, .int .i64 Lg, .int .i64 Lp, .int .i64 Lh, .int .i64 Ls, .int .i64 Lr, .int .i64 Li] 26)).cell? ⟨w.heap.size, 2, none⟩ = some (.int .i64 d) := (cellsB (i := 2) (alc (o := (.cells #[.int .i64 Lb, .int .i64 Lc, .int .i64 Ld, .int .i64 Le, .int .i64 Lf, .int .i64 Lg, .int .i64 Lp, .int .i64 Lh, .int .i64 Ls, .int .i64 Lr, .int .i64 Li] 26)) s_3.out)).trans rfl
        have L4_3 : (v3.alloc (.cells #[.int .i64 Lb, .int .i64 Lc, .int .i64 Ld, .int .i64 Le, .int .i64 Lf, .int .i64 Lg, .int .i64 Lp, .int .i64 Lh, .int .i64 Ls, .int .i64 Lr, .int .i64 Li] 26)).cell? ⟨w.heap.size, 3, none⟩ = some (.int .i64 m0) := (cellsB (i := 3) (alc (o := (.cells #[.int .i64 Lb, .int .i64 Lc, .int .i64 Ld, .int .i64 Le, .int .i64 Lf, .int .i64 Lg, .int .i64 Lp, .int .i64 Lh, .int .i64 Ls, .int .i64 Lr, .int .i64 Li] 26)) s_3.out)).trans rfl
        have L4_4 : (v3.alloc (.cells #[.int .i64 Lb, .int .i64 Lc, .int .i64 Ld, .int .i64 Le, .int .i64 Lf, .int .i64 Lg, .int .i64 Lp, .int .i64 Lh, .int .i64 Ls, .int .i64 Lr, .int .i64 Li] 26)).cell? ⟨w.heap.size, 4, none⟩ = some (.int .i64 m1) := (cellsB (i := 4) (alc (o := (.cells #[.int .i64 Lb, .int .i64 Lc, .int .i64 Ld, .int .i64 Le, .int .i64 Lf, .int .i64 Lg, .int .i64 Lp, .int .i64 Lh, .int .i64 Ls, .int .i64 Lr, .int .i64 Li] 26)) s_3.out)).trans rfl
        have L4_5 : (v3.alloc (.cells #[.int .i64 Lb, .int .i64 Lc, .int .i64 Ld, .int .i64 Le, .int .i64 Lf, .int .i64 Lg, .int .i64 Lp, .int .i64 Lh, .int .i64 Ls, .int .i64 Lr, .int .i64 Li] 26)).cell? ⟨w.heap.size, 5, none⟩ = some (.int .i64 m2) := (cellsB (i := 5) (alc (o := (.cells #[.int .i64 Lb, .int .i64 Lc, .int .i64 Ld, .int .i64 Le, .int .i64 Lf, .int .i64 Lg, .int .i64 Lp, .int .i64 Lh, .int .i64 Ls, .int .i64 Lr, .int .i64 Li] 26)) s_3.out)).trans rfl
        have L4_6 : (v3.alloc (.cells #[.int .i64 Lb, .int .i64 Lc, .int .i64 Ld, .int .i64 Le, .int .i64 Lf, .int .i64 Lg, .int .i64 Lp, .int .i64 Lh, .int .i64 Ls, .int .i64 Lr, .int .i64 Li] 26)).cell? ⟨w.heap.size, 6, none⟩ = some (.int .i64 p) := (cellsB (i := 6) (alc (o := (.cells #[.int .i64 Lb, .int .i64 Lc, .int .i64 Ld, .int .i64 Le, .int .i64 Lf, .int .i64 Lg, .int .i64 Lp, .int .i64 Lh, .int .i64 Ls, .int .i64 Lr, .int .i64 Li] 26)) s_3.out)).trans rfl
        have L4_7 : (v3.alloc (.cells #[.int .i64 Lb, .int .i64 Lc, .int .i64 Ld, .int .i64 Le, .int .i64 Lf, .int .i64 Lg, .int .i64 Lp, .int .i64 Lh, .int .i64 Ls, .int .i64 Lr, .int .i64 Li] 26)).cell? ⟨w.heap.size, 7, none⟩ = some (.int .i64 ph) := (cellsB (i := 7) (alc (o := (.cells #[.int .i64 Lb, .int .i64 Lc, .int .i64 Ld, .int .i64 Le, .int .i64 Lf, .int .i64 Lg, .int .i64 Lp, .int .i64 Lh, .int .i64 Ls, .int .i64 Lr, .int .i64 Li] 26)) s_3.out)).trans rfl
        have L4_8 : (v3.alloc (.cells #[.int .i64 Lb, .int .i64 Lc, .int .i64 Ld, .int .i64 Le, .int .i64 Lf, .int .i64 Lg, .int .i64 Lp, .int .i64 Lh, .int .i64 Ls, .int .i64 Lr, .int .i64 Li] 26)).cell? ⟨w.heap.size, 8, none⟩ = some (.int .i64 st) := (cellsB (i := 8) (alc (o := (.cells #[.int .i64 Lb, .int .i64 Lc, .int .i64 Ld, .int .i64 Le, .int .i64 Lf, .int .i64 Lg, .int .i64 Lp, .int .i64 Lh, .int .i64 Ls, .int .i64 Lr, .int .i64 Li] 26)) s_3.out)).trans rfl
        have L4_9 : (v3.alloc (.cells #[.int .i64 Lb, .int .i64 Lc, .int .i64 Ld, .int .i64 Le, .int .i64 Lf, .int .i64 Lg, .int .i64 Lp, .int .i64 Lh, .int .i64 Ls, .int .i64 Lr, .int .i64 Li] 26)).cell? ⟨w.heap.size, 9, none⟩ = some (.int .i64 re) := (cellsB (i := 9) (alc (o := (.cells #[.int .i64 Lb, .int .i64 Lc, .int .i64 Ld, .int .i64 Le, .int .i64 Lf, .int .i64 Lg, .int .i64 Lp, .int .i64 Lh, .int .i64 Ls, .int .i64 Lr, .int .i64 Li] 26)) s_3.out)).trans rfl
        have L4_10 : (v3.alloc (.cells #[.int .i64 Lb, .int .i64 Lc, .int .i64 Ld, .int .i64 Le, .int .i64 Lf, .int .i64 Lg, .int .i64 Lp, .int .i64 Lh, .int .i64 Ls, .int .i64 Lr, .int .i64 Li] 26)).cell? ⟨w.heap.size, 10, none⟩ = some (.int .i64 si) := (cellsB (i := 10) (alc (o := (.cells #[.int .i64 Lb, .int .i64 Lc, .int .i64 Ld, .int .i64 Le, .int .i64 Lf, .int .i64 Lg, .int .i64 Lp, .int .i64 Lh, .int .i64 Ls, .int .i64 Lr, .int .i64 Li] 26)) s_3.out)).trans rfl
        go_wp2_with fail
        refine (HL2.out _).mono ?_
        rintro e v4 ⟨rfl, q⟩
        have s_4 := Lib.hid (blk1 s_3.out q)
        have pC_4 := Lib.hid (blk1 pC_3.out q)
        have qC_4 := Lib.hid (blk1 qC_3.out q)
        have pL_4 := Lib.hid (new1 q)
        have B4 := Lib.hid (bel1 B3.out B3.out.size q)
        clear q s_3 pC_3 qC_3 B3
        clear L4_0 L4_1 L4_2 L4_3 L4_4 L4_5 L4_6 L4_7 L4_8 L4_9 L4_10
        have L5_0 : (v4.alloc (.cells #[.int .i64 Lb, .int .i64 Lc, .int .i64 Ld, .int .i64 Le, .int .i64 Lf, .int .i64 Lg, .int .i64 Lp, .int .i64 Lh, .int .i64 Ls, .int .i64 Lr, .int .i64 Li] 26)).cell? ⟨w.heap.size, 0, none⟩ = some (.int .i64 b) := (cellsB (i := 0) (alc (o := (.cells #[.int .i64 Lb, .int .i64 Lc, .int .i64 Ld, .int .i64 Le, .int .i64 Lf, .int .i64 Lg, .int .i64 Lp, .int .i64 Lh, .int .i64 Ls, .int .i64 Lr, .int .i64 Li] 26)) s_4.out)).trans rfl
        have L5_1 : (v4.alloc (.cells #[.int .i64 Lb, .int .i64 Lc, .int .i64 Ld, .int .i64 Le, .int .i64 Lf, .int .i64 Lg, .int .i64 Lp, .int .i64 Lh, .int .i64 Ls, .int .i64 Lr, .int .i64 Li] 26)).cell? ⟨w.heap.size, 1, none⟩ = some (.int .i64 c) := (cellsB (i := 1) (alc (o := (.cells #[.int .i64 Lb, .int .i64 Lc, .int .i64 Ld, .int .i64 Le, .int .i64 Lf, .int .i64 Lg, .int .i64 Lp, .int .i64 Lh, .int .i64 Ls, .int .i64 Lr, .int .i64 Li] 26)) s_4.out)).trans rfl
        have L5_2 : (v4.alloc (.cells #[.int .i64 Lb, .int .i64 Lc, .int .i64 Ld, .int .i64 Le, .int .i64 Lf, .int .i64 Lg, .int .i64 Lp, .int .i64 Lh, .int .i64 Ls, .int .i64 Lr, .int .i64 Li] 26)).cell? ⟨w.heap.size, 2, none⟩ = some (.int .i64 d) := (cellsB (i := 2) (alc (o := (.cells #[.int .i64 Lb, .int .i64 Lc, .int .i64 Ld, .int .i64 Le, .int .i64 Lf, .int .i64 Lg, .int .i64 Lp, .int .i64 Lh, .int .i64 Ls, .int .i64 Lr, .int .i64 Li] 26)) s_4.out)).trans rfl
        have L5_3 : (v4.alloc (.cells #[.int .i64 Lb, .int .i64 Lc, .int .i64 Ld, .int .i64 Le, .int .i64 Lf, .int .i64 Lg, .int .i64 Lp, .int .i64 Lh, .int .i64 Ls, .int .i64 Lr, .int .i64 Li] 26)).cell? ⟨w.heap.size, 3, none⟩ = some (.int .i64 m0) := (cellsB (i := 3) (alc (o := (.cells #[.int .i64 Lb, .int .i64 Lc, .int .i64 Ld, .int .i64 Le, .int .i64 Lf, .int .i64 Lg, .int .i64 Lp, .int .i64 Lh, .int .i64 Ls, .int .i64 Lr, .int .i64 Li] 26)) s_4.out)).trans rfl
        have L5_4 : (v4.alloc (.cells #[.int .i64 Lb, .int .i64 Lc, .int .i64 Ld, .int .i64 Le, .int .i64 Lf, .int .i64 Lg, .int .i64 Lp, .int .i64 Lh, .int .i64 Ls, .int .i64 Lr, .int .i64 Li] 26)).cell? ⟨w.heap.size, 4, none⟩ = some (.int .i64 m1) := (cellsB (i := 4) (alc (o := (.cells #[.int .i64 Lb, .int .i64 Lc, .int .i64 Ld, .int .i64 Le, .int .i64 Lf, .int .i64 Lg, .int .i64 Lp, .int .i64 Lh, .int .i64 Ls, .int .i64 Lr, .int .i64 Li] 26)) s_4.out)).trans rfl
        have L5_5 : (v4.alloc (.cells #[.int .i64 Lb, .int .i64 Lc, .int .i64 Ld, .int .i64 Le, .int .i64 Lf, .int .i64 Lg, .int .i64 Lp, .int .i64 Lh, .int .i64 Ls, .int .i64 Lr, .int .i64 Li] 26)).cell? ⟨w.heap.size, 5, none⟩ = some (.int .i64 m2) := (cellsB (i := 5) (alc (o := (.cells #[.int .i64 Lb, .int .i64 Lc, .int .i64 Ld, .int .i64 Le, .int .i64 Lf, .int .i64 Lg, .int .i64 Lp, .int .i64 Lh, .int .i64 Ls, .int .i64 Lr, .int .i64 Li] 26)) s_4.out)).trans rfl
        have L5_6 : (v4.alloc (.cells #[.int .i64 Lb, .int .i64 Lc, .int .i64 Ld, .int .i64 Le, .int .i64 Lf, .int .i64 Lg, .int .i64 Lp, .int .i64 Lh, .int .i64 Ls, .int .i64 Lr, .int .i64 Li] 26)).cell? ⟨w.heap.size, 6, none⟩ = some (.int .i64 p) := (cellsB (i := 6) (alc (o := (.cells #[.int .i64 Lb, .int .i64 Lc, .int .i64 Ld, .int .i64 Le, .int .i64 Lf, .int .i64 Lg, .int .i64 Lp, .int .i64 Lh, .int .i64 Ls, .int .i64 Lr, .int .i64 Li] 26)) s_4.out)).trans rfl
        go_wp2_with fail
        refine (HW1.out _).mono ?_
        rintro e v5 ⟨rfl, q⟩
        have s_5 := Lib.hid (blk1 s_4.out q)
        have pC_5 := Lib.hid (blk1 pC_4.out q)
        have qC_5 := Lib.hid (blk1 qC_4.out q)
        have pL_5 := Lib.hid (blk1 pL_4.out q)
        have qL_5 := Lib.hid (new1 q)
        have B5 := Lib.hid (bel1 B4.out B4.out.size q)
        clear q s_4 pC_4 qC_4 pL_4 B4
        clear L5_0 L5_1 L5_2 L5_3 L5_4 L5_5 L5_6
        have L6_0 : (v5.alloc (.cells #[.int .i64 Nb, .int .i64 Nc, .int .i64 Nd, .int .i64 Ne, .int .i64 Nf, .int .i64 Ng, .int .i64 Np, .int .i64 Nh, .int .i64 Ns, .int .i64 Nr, .int .i64 Ni] 26)).cell? ⟨w.heap.size, 0, none⟩ = some (.int .i64 b) := (cellsB (i := 0) (alc (o := (.cells #[.int .i64 Nb, .int .i64 Nc, .int .i64 Nd, .int .i64 Ne, .int .i64 Nf, .int .i64 Ng, .int .i64 Np, .int .i64 Nh, .int .i64 Ns, .int .i64 Nr, .int .i64 Ni] 26)) s_5.out)).trans rfl
        have L6_1 : (v5.alloc (.cells #[.int .i64 Nb, .int .i64 Nc, .int .i64 Nd, .int .i64 Ne, .int .i64 Nf, .int .i64 Ng, .int .i64 Np, .int .i64 Nh, .int .i64 Ns, .int .i64 Nr, .int .i64 Ni] 26)).cell? ⟨w.heap.size, 1, none⟩ = some (.int .i64 c) := (cellsB (i := 1) (alc (o := (.cells #[.int .i64 Nb, .int .i64 Nc, .int .i64 Nd, .int .i64 Ne, .int .i64 Nf, .int .i64 Ng, .int .i64 Np, .int .i64 Nh, .int .i64 Ns, .int .i64 Nr, .int .i64 Ni] 26)) s_5.out)).trans rfl
        have L6_2 : (v5.alloc (.cells #[.int .i64 Nb, .int .i64 Nc, .int .i64 Nd, .int .i64 Ne, .int .i64 Nf, .int .i64 Ng, .int .i64 Np, .int .i64 Nh, .int .i64 Ns, .int .i64 Nr, .int .i64 Ni] 26)).cell? ⟨w.heap.size, 2, none⟩ = some (.int .i64 d) := (cellsB (i := 2) (alc (o := (.cells #[.int .i64 Nb, .int .i64 Nc, .int .i64 Nd, .int .i64 Ne, .int .i64 Nf, .int .i64 Ng, .int .i64 Np, .int .i64 Nh, .int .i64 Ns, .int .i64 Nr, .int .i64 Ni] 26)) s_5.out)).trans rfl
        have L6_3 : (v5.alloc (.cells #[.int .i64 Nb, .int .i64 Nc, .int .i64 Nd, .int .i64 Ne, .int .i64 Nf, .int .i64 Ng, .int .i64 Np, .int .i64 Nh, .int .i64 Ns, .int .i64 Nr, .int .i64 Ni] 26)).cell? ⟨w.heap.size, 3, none⟩ = some (.int .i64 m0) := (cellsB (i := 3) (alc (o := (.cells #[.int .i64 Nb, .int .i64 Nc, .int .i64 Nd, .int .i64 Ne, .int .i64 Nf, .int .i64 Ng, .int .i64 Np, .int .i64 Nh, .int .i64 Ns, .int .i64 Nr, .int .i64 Ni] 26)) s_5.out)).trans rfl
        have L6_4 : (v5.alloc (.cells #[.int .i64 Nb, .int .i64 Nc, .int .i64 Nd, .int .i64 Ne, .int .i64 Nf, .int .i64 Ng, .int .i64 Np, .int .i64 Nh, .int .i64 Ns, .int .i64 Nr, .int .i64 Ni] 26)).cell? ⟨w.heap.size, 4, none⟩ = some (.int .i64 m1) := (cellsB (i := 4) (alc (o := (.cells #[.int .i64 Nb, .int .i64 Nc, .int .i64 Nd, .int .i64 Ne, .int .i64 Nf, .int .i64 Ng, .int .i64 Np, .int .i64 Nh, .int .i64 Ns, .int .i64 Nr, .int .i64 Ni] 26)) s_5.out)).trans rfl
        have L6_5 : (v5.alloc (.cells #[.int .i64 Nb, .int .i64 Nc, .int .i64 Nd, .int .i64 Ne, .int .i64 Nf, .int .i64 Ng, .int .i64 Np, .int .i64 Nh, .int .i64 Ns, .int .i64 Nr, .int .i64 Ni] 26)).cell? ⟨w.heap.size, 5, none⟩ = some (.int .i64 m2) := (cellsB (i := 5) (alc (o := (.cells #[.int .i64 Nb, .int .i64 Nc, .int .i64 Nd, .int .i64 Ne, .int .i64 Nf, .int .i64 Ng, .int .i64 Np, .int .i64 Nh, .int .i64 Ns, .int .i64 Nr, .int .i64 Ni] 26)) s_5.out)).trans rfl
        have L6_6 : (v5.alloc (.cells #[.int .i64 Nb, .int .i64 Nc, .int .i64 Nd, .int .i64 Ne, .int .i64 Nf, .int .i64 Ng, .int .i64 Np, .int .i64 Nh, .int .i64 Ns, .int .i64 Nr, .int .i64 Ni] 26)).cell? ⟨w.heap.size, 6, none⟩ = some (.int .i64 p) := (cellsB (i := 6) (alc (o := (.cells #[.int .i64 Nb, .int .i64 Nc, .int .i64 Nd, .int .i64 Ne, .int .i64 Nf, .int .i64 Ng, .int .i64 Np, .int .i64 Nh, .int .i64 Ns, .int .i64 Nr, .int .i64 Ni] 26)) s_5.out)).trans rfl
        go_wp2_with fail
        refine (HW2.out _).mono ?_
        rintro e v6 ⟨rfl, q⟩
        have s_6 := Lib.hid (blk1 s_5.out q)
        have pC_6 := Lib.hid (blk1 pC_5.out q)
        have qC_6 := Lib.hid (blk1 qC_5.out q)
        have pL_6 := Lib.hid (blk1 pL_5.out q)
        have qL_6 := Lib.hid (blk1 qL_5.out q)
        have pN_6 := Lib.hid (new1 q)
        have B6 := Lib.hid (bel1 B5.out B5.out.size q)
        clear q s_5 pC_5 qC_5 pL_5 qL_5 B5
        clear L6_0 L6_1 L6_2 L6_3 L6_4 L6_5 L6_6
        go_wp2_with fail
        refine (T0.out _).mono ?_
        rintro e v7 ⟨rfl, q⟩
        have s_7 := Lib.hid (blk1 s_6.out q)
        have pC_7 := Lib.hid (blk1 pC_6.out q)
        have qC_7 := Lib.hid (blk1 qC_6.out q)
        have pL_7 := Lib.hid (blk1 pL_6.out q)
        have qL_7 := Lib.hid (blk1 qL_6.out q)
        have pN_7 := Lib.hid (blk1 pN_6.out q)
        have qN_7 := Lib.hid (new1 q)
        have B7 := Lib.hid (bel1 B6.out B6.out.size q)
        clear q s_6 pC_6 qC_6 pL_6 qL_6 pN_6 B6
        have L7_0 : v7.cell? ⟨v1.heap.size, 0, none⟩ = some (.int .i64 Cb) := (cellsB (i := 0) pC_7.out).trans rfl
        have L7_1 : v7.cell? ⟨v1.heap.size, 1, none⟩ = some (.int .i64 Cc) := (cellsB (i := 1) pC_7.out).trans rfl
        have L7_2 : v7.cell? ⟨v1.heap.size, 2, none⟩ = some (.int .i64 Cd) := (cellsB (i := 2) pC_7.out).trans rfl
        have L7_3 : v7.cell? ⟨v1.heap.size, 3, none⟩ = some (.int .i64 Ce) := (cellsB (i := 3) pC_7.out).trans rfl
        have L7_4 : v7.cell? ⟨v1.heap.size, 4, none⟩ = some (.int .i64 Cf) := (cellsB (i := 4) pC_7.out).trans rfl
        have L7_5 : v7.cell? ⟨v1.heap.size, 5, none⟩ = some (.int .i64 Cg) := (cellsB (i := 5) pC_7.out).trans rfl
        have L7_6 : v7.cell? ⟨v1.heap.size, 6, none⟩ = some (.int .i64 Cp) := (cellsB (i := 6) pC_7.out).trans rfl
        have L7_7 : v7.cell? ⟨v1.heap.size, 7, none⟩ = some (.int .i64 Ch) := (cellsB (i := 7) pC_7.out).trans rfl
        have L7_8 : v7.cell? ⟨v1.heap.size, 8, none⟩ = some (.int .i64 Cs) := (cellsB (i := 8) pC_7.out).trans rfl
        have L7_9 : v7.cell? ⟨v1.heap.size, 9, none⟩ = some (.int .i64 Cr) := (cellsB (i := 9) pC_7.out).trans rfl
        have L7_10 : v7.cell? ⟨v1.heap.size, 10, none⟩ = some (.int .i64 Ci) := (cellsB (i := 10) pC_7.out).trans rfl
        have L8_0 : v7.cell? ⟨v2.heap.size, 0, none⟩ = some (.int .i64 Cb) := (cellsB (i := 0) qC_7.out).trans rfl
        have L8_1 : v7.cell? ⟨v2.heap.size, 1, none⟩ = some (.int .i64 Cc) := (cellsB (i := 1) qC_7.out).trans rfl
        have L8_2 : v7.cell? ⟨v2.heap.size, 2, none⟩ = some (.int .i64 Cd) := (cellsB (i := 2) qC_7.out).trans rfl
        have L8_3 : v7.cell? ⟨v2.heap.size, 3, none⟩ = some (.int .i64 Ce) := (cellsB (i := 3) qC_7.out).trans rfl
        have L8_4 : v7.cell? ⟨v2.heap.size, 4, none⟩ = some (.int .i64 Cf) := (cellsB (i := 4) qC_7.out).trans rfl
        have L8_5 : v7.cell? ⟨v2.heap.size, 5, none⟩ = some (.int .i64 Cg) := (cellsB (i := 5) qC_7.out).trans rfl
        have L8_6 : v7.cell? ⟨v2.heap.size, 6, none⟩ = some (.int .i64 Cp) := (cellsB (i := 6) qC_7.out).trans rfl
        have L8_7 : v7.cell? ⟨v2.heap.size, 7, none⟩ = some (.int .i64 Ch) := (cellsB (i := 7) qC_7.out).trans rfl
        have L8_8 : v7.cell? ⟨v2.heap.size, 8, none⟩ = some (.int .i64 Cs) := (cellsB (i := 8) qC_7.out).trans rfl
        have L8_9 : v7.cell? ⟨v2.heap.size, 9, none⟩ = some (.int .i64 Cr) := (cellsB (i := 9) qC_7.out).trans rfl
        have L8_10 : v7.cell? ⟨v2.heap.size, 10, none⟩ = some (.int .i64 Ci) := (cellsB (i := 10) qC_7.out).trans rfl
        have L9_0 : v7.cell? ⟨v3.heap.size, 0, none⟩ = some (.int .i64 Lb) := (cellsB (i := 0) pL_7.out).trans rfl
        have L9_1 : v7.cell? ⟨v3.heap.size, 1, none⟩ = some (.int .i64 Lc) := (cellsB (i := 1) pL_7.out).trans rfl
        have L9_2 : v7.cell? ⟨v3.heap.size, 2, none⟩ = some (.int .i64 Ld) := (cellsB (i := 2) pL_7.out).trans rfl
        have L9_3 : v7.cell? ⟨v3.heap.size, 3, none⟩ = some (.int .i64 Le) := (cellsB (i := 3) pL_7.out).trans rfl
        have L9_4 : v7.cell? ⟨v3.heap.size, 4, none⟩ = some (.int .i64 Lf) := (cellsB (i := 4) pL_7.out).trans rfl
        have L9_5 : v7.cell? ⟨v3.heap.size, 5, none⟩ = some (.int .i64 Lg) := (cellsB (i := 5) pL_7.out).trans rfl
        have L9_6 : v7.cell? ⟨v3.heap.size, 6, none⟩ = some (.int .i64 Lp) := (cellsB (i := 6) pL_7.out).trans rfl
        have L9_7 : v7.cell? ⟨v3.heap.size, 7, none⟩ = some (.int .i64 Lh) := (cellsB (i := 7) pL_7.out).trans rfl
        have L9_8 : v7.cell? ⟨v3.heap.size, 8, none⟩ = some (.int .i64 Ls) := (cellsB (i := 8) pL_7.out).trans rfl
        have L9_9 : v7.cell? ⟨v3.heap.size, 9, none⟩ = some (.int .i64 Lr) := (cellsB (i := 9) pL_7.out).trans rfl
        have L9_10 : v7.cell? ⟨v3.heap.size, 10, none⟩ = some (.int .i64 Li) := (cellsB (i := 10) pL_7.out).trans rfl
        have L10_0 : v7.cell? ⟨v4.heap.size, 0, none⟩ = some (.int .i64 Lb) := (cellsB (i := 0) qL_7.out).trans rfl
        have L10_1 : v7.cell? ⟨v4.heap.size, 1, none⟩ = some (.int .i64 Lc) := (cellsB (i := 1) qL_7.out).trans rfl
        have L10_2 : v7.cell? ⟨v4.heap.size, 2, none⟩ = some (.int .i64 Ld) := (cellsB (i := 2) qL_7.out).trans rfl
        have L10_3 : v7.cell? ⟨v4.heap.size, 3, none⟩ = some (.int .i64 Le) := (cellsB (i := 3) qL_7.out).trans rfl
        have L10_4 : v7.cell? ⟨v4.heap.size, 4, none⟩ = some (.int .i64 Lf) := (cellsB (i := 4) qL_7.out).trans rfl
        have L10_5 : v7.cell? ⟨v4.heap.size, 5, none⟩ = some (.int .i64 Lg) := (cellsB (i := 5) qL_7.out).trans rfl
        have L10_6 : v7.cell? ⟨v4.heap.size, 6, none⟩ = some (.int .i64 Lp) := (cellsB (i := 6) qL_7.out).trans rfl
        have L10_7 : v7.cell? ⟨v4.heap.size, 7, none⟩ = some (.int .i64 Lh) := (cellsB (i := 7) qL_7.out).trans rfl
        have L10_8 : v7.cell? ⟨v4.heap.size, 8, none⟩ = some (.int .i64 Ls) := (cellsB (i := 8) qL_7.out).trans rfl
        have L10_9 : v7.cell? ⟨v4.heap.size, 9, none⟩ = some (.int .i64 Lr) := (cellsB (i := 9) qL_7.out).trans rfl
        have L10_10 : v7.cell? ⟨v4.heap.size, 10, none⟩ = some (.int .i64 Li) := (cellsB (i := 10) qL_7.out).trans rfl
        have L11_0 : v7.cell? ⟨v5.heap.size, 0, none⟩ = some (.int .i64 Nb) := (cellsB (i := 0) pN_7.out).trans rfl
        have L11_1 : v7.cell? ⟨v5.heap.size, 1, none⟩ = some (.int .i64 Nc) := (cellsB (i := 1) pN_7.out).trans rfl
        have L11_2 : v7.cell? ⟨v5.heap.size, 2, none⟩ = some (.int .i64 Nd) := (cellsB (i := 2) pN_7.out).trans rfl
        have L11_3 : v7.cell? ⟨v5.heap.size, 3, none⟩ = some (.int .i64 Ne) := (cellsB (i := 3) pN_7.out).trans rfl
        have L11_4 : v7.cell? ⟨v5.heap.size, 4, none⟩ = some (.int .i64 Nf) := (cellsB (i := 4) pN_7.out).trans rfl
        have L11_5 : v7.cell? ⟨v5.heap.size, 5, none⟩ = some (.int .i64 Ng) := (cellsB (i := 5) pN_7.out).trans rfl
        have L11_6 : v7.cell? ⟨v5.heap.size, 6, none⟩ = some (.int .i64 Np) := (cellsB (i := 6) pN_7.out).trans rfl
        have L11_7 : v7.cell? ⟨v5.heap.size, 7, none⟩ = some (.int .i64 Nh) := (cellsB (i := 7) pN_7.out).trans rfl
        have L11_8 : v7.cell? ⟨v5.heap.size, 8, none⟩ = some (.int .i64 Ns) := (cellsB (i := 8) pN_7.out).trans rfl
        have L11_9 : v7.cell? ⟨v5.heap.size, 9, none⟩ = some (.int .i64 Nr) := (cellsB (i := 9) pN_7.out).trans rfl
        have L11_10 : v7.cell? ⟨v5.heap.size, 10, none⟩ = some (.int .i64 Ni) := (cellsB (i := 10) pN_7.out).trans rfl
        have L12_0 : v7.cell? ⟨v6.heap.size, 0, none⟩ = some (.int .i64 Nb) := (cellsB (i := 0) qN_7.out).trans rfl
        have L12_1 : v7.cell? ⟨v6.heap.size, 1, none⟩ = some (.int .i64 Nc) := (cellsB (i := 1) qN_7.out).trans rfl
        have L12_2 : v7.cell? ⟨v6.heap.size, 2, none⟩ = some (.int .i64 Nd) := (cellsB (i := 2) qN_7.out).trans rfl
        have L12_3 : v7.cell? ⟨v6.heap.size, 3, none⟩ = some (.int .i64 Ne) := (cellsB (i := 3) qN_7.out).trans rfl
        have L12_4 : v7.cell? ⟨v6.heap.size, 4, none⟩ = some (.int .i64 Nf) := (cellsB (i := 4) qN_7.out).trans rfl
        have L12_5 : v7.cell? ⟨v6.heap.size, 5, none⟩ = some (.int .i64 Ng) := (cellsB (i := 5) qN_7.out).trans rfl
        have L12_6 : v7.cell? ⟨v6.heap.size, 6, none⟩ = some (.int .i64 Np) := (cellsB (i := 6) qN_7.out).trans rfl
        have L12_7 : v7.cell? ⟨v6.heap.size, 7, none⟩ = some (.int .i64 Nh) := (cellsB (i := 7) qN_7.out).trans rfl
        have L12_8 : v7.cell? ⟨v6.heap.size, 8, none⟩ = some (.int .i64 Ns) := (cellsB (i := 8) qN_7.out).trans rfl
        have L12_9 : v7.cell? ⟨v6.heap.size, 9, none⟩ = some (.int .i64 Nr) := (cellsB (i := 9) qN_7.out).trans rfl
        have L12_10 : v7.cell? ⟨v6.heap.size, 10, none⟩ = some (.int .i64 Ni) := (cellsB (i := 10) qN_7.out).trans rfl
        go_wp2
        go_ret
        exact ⟨rfl, B7.out⟩
theorem sgasks_walk (s : S11) (x : A6) (answer now : Int) (w : World) : Calls Try.prog 3 #[s.val, x.val, .int .i64 answer, .int .i64 now] w fun e w' => e = .returned (.bool true) ∧ Below w.heap.size w w' := by
  by_cases hm : MayS s
  · by_cases hp : 4 ≤ s.ph
    · refine sgasks_by s x answer now w true true (decide_eq_true hm) (decide_eq_true ⟨hm, ?_⟩) (.inr (.inl ⟨rfl, rfl, hp⟩))
      obtain ⟨_, _, _, h⟩ := hm
      omega
    · exact sgasks_by s x answer now w true false (decide_eq_true hm) (decide_eq_false (fun h => by have := h.2; omega)) (.inr (.inr ⟨rfl, rfl, by omega⟩))
  · exact sgasks_by s x answer now w false false (decide_eq_false hm) (decide_eq_false (fun h => hm h.1)) (.inl ⟨rfl, rfl⟩)
end Go.Proofs.Ytplgodfhhlnojaa
