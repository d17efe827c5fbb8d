/- The law WantBounds, a part (printed by genwbounds.py). -/
import Derived.Test.YtebinhelnhnbeaaWBounds0
set_option linter.unusedSimpArgs false
set_option linter.unusedVariables false
namespace Go.Proofs.Ytebinhelnhnbeaa
open Go.RowKit
set_option maxRecDepth 100000 in
set_option maxHeartbeats 8000000 in
theorem bounds1 (bw bo : Bool) (x : W7) (o : O5) (a : Int) (w : World) (hk : (IntKind.u64.wrap a).tmod 9 = 1) (hbw : decide (MayW x) = bw) (hbo : decide (MayO o) = bo) : Calls Try.prog 14 #[x.val, o.val, .int .i64 a] w fun e w' => e = .returned (.bool true) ∧ Below w.heap.size w w' := by
  have HMx := Lib.hid (may_isW x bw hbw)
  have HMo := Lib.hid (may_isO o bo hbo)
  have HMX := Lib.hid (may_isW ⟨201, x.c, x.d, x.m0, x.m1, x.m2, x.p⟩ false (decide_eq_false (by unfold MayW UnitsOk; simp)))
  have HMO := Lib.hid (may_isO ⟨o.kind, 201, o.units, o.cust, o.amount⟩ false (decide_eq_false (by unfold MayO UnitsO MoneyO; simp <;> omega)))
  have HMz := Lib.hid (may_isW ⟨x.b, x.c, 0, 0, 0, 0, x.p⟩ false (decide_eq_false (by unfold MayW UnitsOk; simp)))
  simp only [W7.val, O5.val] at HMx HMo HMX HMO HMz
  clear hbw hbo
  have T := Lib.hid told3
  unfold W7.val O5.val
  go_enter Try.func14, Try.ntmps14
  go_upto_region 2 with fail
  go_cut [7, 8] (fun p q wx => TwoAt w x o p q wx)
  case first =>
    go_region
    all_goals
      go_wp2_with fail
      go_meet
    · unfold TwoAt
      refine ⟨_, _, rfl, rfl, by omega, by omega, by omega, (four_at w _ _ _ _).2.2.1, (four_at w _ _ _ _).2.2.2, (four_at w _ _ _ _).1, (four_at w _ _ _ _).2.1, four_below w _ _ _ _⟩
    · unfold TwoAt
      refine ⟨_, _, rfl, rfl, by omega, by omega, by omega, (four_at w _ _ _ _).2.2.2, (four_at w _ _ _ _).2.2.1, (four_at w _ _ _ _).1, (four_at w _ _ _ _).2.1, four_below w _ _ _ _⟩
  case rest =>
    obtain ⟨g, h', rfl, rfl, hg, hh, hne, hG, hH, hA, hB, hb⟩ := hcut
    have f0 := fun i => free0 (i := i) hG
    have f1 := fun i => free0 (i := i) hH
    have HG := Lib.hid hG
    have HH := Lib.hid hH
    have HA := Lib.hid hA
    have HB := Lib.hid hB
    have BX := Lib.hid hb
    have HNE := Lib.hid hne
    have n1 : ¬ g = h' := hne
    have n2 : ¬ h' = g := fun e => hne e.symm
    clear hG hH hA hB hb hne
    have z0 := (cellsW (i := 0) HG.out).trans (show (cW x)[0]? = some (.int .i64 x.b) from rfl)
    have y0 := (cellsW (i := 1) HH.out).trans (show (cO o)[1]? = some (.int .i64 o.book) from rfl)
    cases bw <;> cases bo
    · go_wp2_with fail
      refine (T.out _).mono ?_
      rintro e w1 ⟨rfl, b1⟩
      have HA1 := Lib.hid ((b1.block w.heap.size (by simpa using lt_size HA.out)).trans ((setO (by omega)).trans ((setO (by omega)).trans HA.out)))
      have HB1 := Lib.hid ((b1.block (w.heap.size + 1) (by simpa using lt_size HB.out)).trans ((setO (by omega)).trans ((setO (by omega)).trans HB.out)))
      have HG1 := Lib.hid ((b1.block g (by simpa using lt_size HG.out)).trans ((setO n2).trans (setB HG.out)))
      have HH1 := Lib.hid ((b1.block h' (by simpa using lt_size HH.out)).trans (setB ((setO n1).trans HH.out)))
      have B1 := Lib.hid ((below_setR (below_setR BX.out (show w.heap.size ≤ g by omega)) (show w.heap.size ≤ h' by omega)).trans (b1.mono (by have := BX.out.size; simpa using this)))
      clear b1 z0 y0 f0 f1
      have cA0 : w1.cell? ⟨w.heap.size, 0, none⟩ = some (.int .i64 x.b) := (cellsW (i := 0) HA1.out).trans rfl
      have cA1 : w1.cell? ⟨w.heap.size, 1, none⟩ = some (.int .i64 x.c) := (cellsW (i := 1) HA1.out).trans rfl
      have cA2 : w1.cell? ⟨w.heap.size, 2, none⟩ = some (.int .i64 x.d) := (cellsW (i := 2) HA1.out).trans rfl
      have cA3 : w1.cell? ⟨w.heap.size, 3, none⟩ = some (.int .i64 x.m0) := (cellsW (i := 3) HA1.out).trans rfl
      have cA4 : w1.cell? ⟨w.heap.size, 4, none⟩ = some (.int .i64 x.m1) := (cellsW (i := 4) HA1.out).trans rfl
      have cA5 : w1.cell? ⟨w.heap.size, 5, none⟩ = some (.int .i64 x.m2) := (cellsW (i := 5) HA1.out).trans rfl
      have cA6 : w1.cell? ⟨w.heap.size, 6, none⟩ = some (.int .i64 x.p) := (cellsW (i := 6) HA1.out).trans rfl
      go_wp2_with fail
      refine (HMx.out _).mono ?_
      rintro e w2 ⟨rfl, q⟩
      have HA2 := Lib.hid ((q.block w.heap.size (lt_size HA1.out)).trans HA1.out)
      have HB2 := Lib.hid ((q.block (w.heap.size + 1) (lt_size HB1.out)).trans HB1.out)
      have HG2 := Lib.hid ((q.block g (lt_size HG1.out)).trans HG1.out)
      have HH2 := Lib.hid ((q.block h' (lt_size HH1.out)).trans HH1.out)
      have B2 := Lib.hid (B1.out.trans (q.mono B1.out.size))
      clear q cA0 cA1 cA2 cA3 cA4 cA5 cA6
      have cB0 : w2.cell? ⟨w.heap.size + 1, 0, none⟩ = some (.int .i64 o.kind) := (cellsW (i := 0) HB2.out).trans rfl
      have cB1 : w2.cell? ⟨w.heap.size + 1, 1, none⟩ = some (.int .i64 o.book) := (cellsW (i := 1) HB2.out).trans rfl
      have cB2 : w2.cell? ⟨w.heap.size + 1, 2, none⟩ = some (.int .i64 o.units) := (cellsW (i := 2) HB2.out).trans rfl
      have cB3 : w2.cell? ⟨w.heap.size + 1, 3, none⟩ = some (.int .i64 o.cust) := (cellsW (i := 3) HB2.out).trans rfl
      have cB4 : w2.cell? ⟨w.heap.size + 1, 4, none⟩ = some (.int .i64 o.amount) := (cellsW (i := 4) HB2.out).trans rfl
      go_wp2_with fail
      refine (HMo.out _).mono ?_
      rintro e w3 ⟨rfl, q⟩
      have HA3 := Lib.hid ((q.block w.heap.size (lt_size HA2.out)).trans HA2.out)
      have HH3 := Lib.hid ((q.block h' (lt_size HH2.out)).trans HH2.out)
      have B3 := Lib.hid (B2.out.trans (q.mono B2.out.size))
      clear q cB0 cB1 cB2 cB3 cB4
      have cA0 : w3.cell? ⟨w.heap.size, 0, none⟩ = some (.int .i64 x.b) := (cellsW (i := 0) HA3.out).trans rfl
      have cA1 : w3.cell? ⟨w.heap.size, 1, none⟩ = some (.int .i64 x.c) := (cellsW (i := 1) HA3.out).trans rfl
      have cA2 : w3.cell? ⟨w.heap.size, 2, none⟩ = some (.int .i64 x.d) := (cellsW (i := 2) HA3.out).trans rfl
      have cA3 : w3.cell? ⟨w.heap.size, 3, none⟩ = some (.int .i64 x.m0) := (cellsW (i := 3) HA3.out).trans rfl
      have cA4 : w3.cell? ⟨w.heap.size, 4, none⟩ = some (.int .i64 x.m1) := (cellsW (i := 4) HA3.out).trans rfl
      have cA5 : w3.cell? ⟨w.heap.size, 5, none⟩ = some (.int .i64 x.m2) := (cellsW (i := 5) HA3.out).trans rfl
      have cA6 : w3.cell? ⟨w.heap.size, 6, none⟩ = some (.int .i64 x.p) := (cellsW (i := 6) HA3.out).trans rfl
      go_wp2_with fail
      refine (HMz.out _).mono ?_
      rintro e w4 ⟨rfl, q⟩
      have B4 := Lib.hid (B3.out.trans (q.mono B3.out.size))
      clear q cA0 cA1 cA2 cA3 cA4 cA5 cA6
      go_wp2
      go_ret
      exact ⟨rfl, B4.out⟩
    · go_wp2_with fail
      refine (T.out _).mono ?_
      rintro e w1 ⟨rfl, b1⟩
      have HA1 := Lib.hid ((b1.block w.heap.size (by simpa using lt_size HA.out)).trans ((setO (by omega)).trans ((setO (by omega)).trans HA.out)))
      have HB1 := Lib.hid ((b1.block (w.heap.size + 1) (by simpa using lt_size HB.out)).trans ((setO (by omega)).trans ((setO (by omega)).trans HB.out)))
      have HG1 := Lib.hid ((b1.block g (by simpa using lt_size HG.out)).trans ((setO n2).trans (setB HG.out)))
      have HH1 := Lib.hid ((b1.block h' (by simpa using lt_size HH.out)).trans (setB ((setO n1).trans HH.out)))
      have B1 := Lib.hid ((below_setR (below_setR BX.out (show w.heap.size ≤ g by omega)) (show w.heap.size ≤ h' by omega)).trans (b1.mono (by have := BX.out.size; simpa using this)))
      clear b1 z0 y0 f0 f1
      have cA0 : w1.cell? ⟨w.heap.size, 0, none⟩ = some (.int .i64 x.b) := (cellsW (i := 0) HA1.out).trans rfl
      have cA1 : w1.cell? ⟨w.heap.size, 1, none⟩ = some (.int .i64 x.c) := (cellsW (i := 1) HA1.out).trans rfl
      have cA2 : w1.cell? ⟨w.heap.size, 2, none⟩ = some (.int .i64 x.d) := (cellsW (i := 2) HA1.out).trans rfl
      have cA3 : w1.cell? ⟨w.heap.size, 3, none⟩ = some (.int .i64 x.m0) := (cellsW (i := 3) HA1.out).trans rfl
      have cA4 : w1.cell? ⟨w.heap.size, 4, none⟩ = some (.int .i64 x.m1) := (cellsW (i := 4) HA1.out).trans rfl
      have cA5 : w1.cell? ⟨w.heap.size, 5, none⟩ = some (.int .i64 x.m2) := (cellsW (i := 5) HA1.out).trans rfl
      have cA6 : w1.cell? ⟨w.heap.size, 6, none⟩ = some (.int .i64 x.p) := (cellsW (i := 6) HA1.out).trans rfl
      go_wp2_with fail
      refine (HMx.out _).mono ?_
      rintro e w2 ⟨rfl, q⟩
      have HA2 := Lib.hid ((q.block w.heap.size (lt_size HA1.out)).trans HA1.out)
      have HB2 := Lib.hid ((q.block (w.heap.size + 1) (lt_size HB1.out)).trans HB1.out)
      have HG2 := Lib.hid ((q.block g (lt_size HG1.out)).trans HG1.out)
      have HH2 := Lib.hid ((q.block h' (lt_size HH1.out)).trans HH1.out)
      have B2 := Lib.hid (B1.out.trans (q.mono B1.out.size))
      clear q cA0 cA1 cA2 cA3 cA4 cA5 cA6
      have cB0 : w2.cell? ⟨w.heap.size + 1, 0, none⟩ = some (.int .i64 o.kind) := (cellsW (i := 0) HB2.out).trans rfl
      have cB1 : w2.cell? ⟨w.heap.size + 1, 1, none⟩ = some (.int .i64 o.book) := (cellsW (i := 1) HB2.out).trans rfl
      have cB2 : w2.cell? ⟨w.heap.size + 1, 2, none⟩ = some (.int .i64 o.units) := (cellsW (i := 2) HB2.out).trans rfl
      have cB3 : w2.cell? ⟨w.heap.size + 1, 3, none⟩ = some (.int .i64 o.cust) := (cellsW (i := 3) HB2.out).trans rfl
      have cB4 : w2.cell? ⟨w.heap.size + 1, 4, none⟩ = some (.int .i64 o.amount) := (cellsW (i := 4) HB2.out).trans rfl
      go_wp2_with fail
      refine (HMo.out _).mono ?_
      rintro e w3 ⟨rfl, q⟩
      have HA3 := Lib.hid ((q.block w.heap.size (lt_size HA2.out)).trans HA2.out)
      have HH3 := Lib.hid ((q.block h' (lt_size HH2.out)).trans HH2.out)
      have B3 := Lib.hid (B2.out.trans (q.mono B2.out.size))
      clear q cB0 cB1 cB2 cB3 cB4
      have cH0 : w3.cell? ⟨h', 0, none⟩ = some (.int .i64 o.kind) := (cellsW (i := 0) HH3.out).trans rfl
      have cH1 : w3.cell? ⟨h', 1, none⟩ = some (.int .i64 201) := (cellsW (i := 1) HH3.out).trans rfl
      have cH2 : w3.cell? ⟨h', 2, none⟩ = some (.int .i64 o.units) := (cellsW (i := 2) HH3.out).trans rfl
      have cH3 : w3.cell? ⟨h', 3, none⟩ = some (.int .i64 o.cust) := (cellsW (i := 3) HH3.out).trans rfl
      have cH4 : w3.cell? ⟨h', 4, none⟩ = some (.int .i64 o.amount) := (cellsW (i := 4) HH3.out).trans rfl
      go_wp2_with fail
      refine (HMO.out _).mono ?_
      rintro e w4 ⟨rfl, q⟩
      have HA4 := Lib.hid ((q.block w.heap.size (lt_size HA3.out)).trans HA3.out)
      have B4 := Lib.hid (B3.out.trans (q.mono B3.out.size))
      clear q cH0 cH1 cH2 cH3 cH4
      have cA0 : w4.cell? ⟨w.heap.size, 0, none⟩ = some (.int .i64 x.b) := (cellsW (i := 0) HA4.out).trans rfl
      have cA1 : w4.cell? ⟨w.heap.size, 1, none⟩ = some (.int .i64 x.c) := (cellsW (i := 1) HA4.out).trans rfl
      have cA2 : w4.cell? ⟨w.heap.size, 2, none⟩ = some (.int .i64 x.d) := (cellsW (i := 2) HA4.out).trans rfl
      have cA3 : w4.cell? ⟨w.heap.size, 3, none⟩ = some (.int .i64 x.m0) := (cellsW (i := 3) HA4.out).trans rfl
      have cA4 : w4.cell? ⟨w.heap.size, 4, none⟩ = some (.int .i64 x.m1) := (cellsW (i := 4) HA4.out).trans rfl
      have cA5 : w4.cell? ⟨w.heap.size, 5, none⟩ = some (.int .i64 x.m2) := (cellsW (i := 5) HA4.out).trans rfl
      have cA6 : w4.cell? ⟨w.heap.size, 6, none⟩ = some (.int .i64 x.p) := (cellsW (i := 6) HA4.out).trans rfl
      go_wp2_with fail
      refine (HMz.out _).mono ?_
      rintro e w5 ⟨rfl, q⟩
      have B5 := Lib.hid (B4.out.trans (q.mono B4.out.size))
      clear q cA0 cA1 cA2 cA3 cA4 cA5 cA6
      go_wp2
      go_ret
      exact ⟨rfl, B5.out⟩
    · go_wp2_with fail
      refine (T.out _).mono ?_
      rintro e w1 ⟨rfl, b1⟩
      have HA1 := Lib.hid ((b1.block w.heap.size (by simpa using lt_size HA.out)).trans ((setO (by omega)).trans ((setO (by omega)).trans HA.out)))
      have HB1 := Lib.hid ((b1.block (w.heap.size + 1) (by simpa using lt_size HB.out)).trans ((setO (by omega)).trans ((setO (by omega)).trans HB.out)))
      have HG1 := Lib.hid ((b1.block g (by simpa using lt_size HG.out)).trans ((setO n2).trans (setB HG.out)))
      have HH1 := Lib.hid ((b1.block h' (by simpa using lt_size HH.out)).trans (setB ((setO n1).trans HH.out)))
      have B1 := Lib.hid ((below_setR (below_setR BX.out (show w.heap.size ≤ g by omega)) (show w.heap.size ≤ h' by omega)).trans (b1.mono (by have := BX.out.size; simpa using this)))
      clear b1 z0 y0 f0 f1
      have cA0 : w1.cell? ⟨w.heap.size, 0, none⟩ = some (.int .i64 x.b) := (cellsW (i := 0) HA1.out).trans rfl
      have cA1 : w1.cell? ⟨w.heap.size, 1, none⟩ = some (.int .i64 x.c) := (cellsW (i := 1) HA1.out).trans rfl
      have cA2 : w1.cell? ⟨w.heap.size, 2, none⟩ = some (.int .i64 x.d) := (cellsW (i := 2) HA1.out).trans rfl
      have cA3 : w1.cell? ⟨w.heap.size, 3, none⟩ = some (.int .i64 x.m0) := (cellsW (i := 3) HA1.out).trans rfl
      have cA4 : w1.cell? ⟨w.heap.size, 4, none⟩ = some (.int .i64 x.m1) := (cellsW (i := 4) HA1.out).trans rfl
      have cA5 : w1.cell? ⟨w.heap.size, 5, none⟩ = some (.int .i64 x.m2) := (cellsW (i := 5) HA1.out).trans rfl
      have cA6 : w1.cell? ⟨w.heap.size, 6, none⟩ = some (.int .i64 x.p) := (cellsW (i := 6) HA1.out).trans rfl
      go_wp2_with fail
      refine (HMx.out _).mono ?_
      rintro e w2 ⟨rfl, q⟩
      have HA2 := Lib.hid ((q.block w.heap.size (lt_size HA1.out)).trans HA1.out)
      have HB2 := Lib.hid ((q.block (w.heap.size + 1) (lt_size HB1.out)).trans HB1.out)
      have HG2 := Lib.hid ((q.block g (lt_size HG1.out)).trans HG1.out)
      have HH2 := Lib.hid ((q.block h' (lt_size HH1.out)).trans HH1.out)
      have B2 := Lib.hid (B1.out.trans (q.mono B1.out.size))
      clear q cA0 cA1 cA2 cA3 cA4 cA5 cA6
      have cG0 : w2.cell? ⟨g, 0, none⟩ = some (.int .i64 201) := (cellsW (i := 0) HG2.out).trans rfl
      have cG1 : w2.cell? ⟨g, 1, none⟩ = some (.int .i64 x.c) := (cellsW (i := 1) HG2.out).trans rfl
      have cG2 : w2.cell? ⟨g, 2, none⟩ = some (.int .i64 x.d) := (cellsW (i := 2) HG2.out).trans rfl
      have cG3 : w2.cell? ⟨g, 3, none⟩ = some (.int .i64 x.m0) := (cellsW (i := 3) HG2.out).trans rfl
      have cG4 : w2.cell? ⟨g, 4, none⟩ = some (.int .i64 x.m1) := (cellsW (i := 4) HG2.out).trans rfl
      have cG5 : w2.cell? ⟨g, 5, none⟩ = some (.int .i64 x.m2) := (cellsW (i := 5) HG2.out).trans rfl
      have cG6 : w2.cell? ⟨g, 6, none⟩ = some (.int .i64 x.p) := (cellsW (i := 6) HG2.out).trans rfl
      go_wp2_with fail
      refine (HMX.out _).mono ?_
      rintro e w3 ⟨rfl, q⟩
      have HA3 := Lib.hid ((q.block w.heap.size (lt_size HA2.out)).trans HA2.out)
      have HB3 := Lib.hid ((q.block (w.heap.size + 1) (lt_size HB2.out)).trans HB2.out)
      have HH3 := Lib.hid ((q.block h' (lt_size HH2.out)).trans HH2.out)
      have B3 := Lib.hid (B2.out.trans (q.mono B2.out.size))
      clear q cG0 cG1 cG2 cG3 cG4 cG5 cG6
      have cB0 : w3.cell? ⟨w.heap.size + 1, 0, none⟩ = some (.int .i64 o.kind) := (cellsW (i := 0) HB3.out).trans rfl
      have cB1 : w3.cell? ⟨w.heap.size + 1, 1, none⟩ = some (.int .i64 o.book) := (cellsW (i := 1) HB3.out).trans rfl
      have cB2 : w3.cell? ⟨w.heap.size + 1, 2, none⟩ = some (.int .i64 o.units) := (cellsW (i := 2) HB3.out).trans rfl
      have cB3 : w3.cell? ⟨w.heap.size + 1, 3, none⟩ = some (.int .i64 o.cust) := (cellsW (i := 3) HB3.out).trans rfl
      have cB4 : w3.cell? ⟨w.heap.size + 1, 4, none⟩ = some (.int .i64 o.amount) := (cellsW (i := 4) HB3.out).trans rfl
      go_wp2_with fail
      refine (HMo.out _).mono ?_
      rintro e w4 ⟨rfl, q⟩
      have HA4 := Lib.hid ((q.block w.heap.size (lt_size HA3.out)).trans HA3.out)
      have HH4 := Lib.hid ((q.block h' (lt_size HH3.out)).trans HH3.out)
      have B4 := Lib.hid (B3.out.trans (q.mono B3.out.size))
      clear q cB0 cB1 cB2 cB3 cB4
      have cA0 : w4.cell? ⟨w.heap.size, 0, none⟩ = some (.int .i64 x.b) := (cellsW (i := 0) HA4.out).trans rfl
      have cA1 : w4.cell? ⟨w.heap.size, 1, none⟩ = some (.int .i64 x.c) := (cellsW (i := 1) HA4.out).trans rfl
      have cA2 : w4.cell? ⟨w.heap.size, 2, none⟩ = some (.int .i64 x.d) := (cellsW (i := 2) HA4.out).trans rfl
      have cA3 : w4.cell? ⟨w.heap.size, 3, none⟩ = some (.int .i64 x.m0) := (cellsW (i := 3) HA4.out).trans rfl
      have cA4 : w4.cell? ⟨w.heap.size, 4, none⟩ = some (.int .i64 x.m1) := (cellsW (i := 4) HA4.out).trans rfl
      have cA5 : w4.cell? ⟨w.heap.size, 5, none⟩ = some (.int .i64 x.m2) := (cellsW (i := 5) HA4.out).trans rfl
      have cA6 : w4.cell? ⟨w.heap.size, 6, none⟩ = some (.int .i64 x.p) := (cellsW (i := 6) HA4.out).trans rfl
      go_wp2_with fail
      refine (HMz.out _).mono ?_
      rintro e w5 ⟨rfl, q⟩
      have B5 := Lib.hid (B4.out.trans (q.mono B4.out.size))
      clear q cA0 cA1 cA2 cA3 cA4 cA5 cA6
      go_wp2
      go_ret
      exact ⟨rfl, B5.out⟩
    · go_wp2_with fail
      refine (T.out _).mono ?_
      rintro e w1 ⟨rfl, b1⟩
      have HA1 := Lib.hid ((b1.block w.heap.size (by simpa using lt_size HA.out)).trans ((setO (by omega)).trans ((setO (by omega)).trans HA.out)))
      have HB1 := Lib.hid ((b1.block (w.heap.size + 1) (by simpa using lt_size HB.out)).trans ((setO (by omega)).trans ((setO (by omega)).trans HB.out)))
      have HG1 := Lib.hid ((b1.block g (by simpa using lt_size HG.out)).trans ((setO n2).trans (setB HG.out)))
      have HH1 := Lib.hid ((b1.block h' (by simpa using lt_size HH.out)).trans (setB ((setO n1).trans HH.out)))
      have B1 := Lib.hid ((below_setR (below_setR BX.out (show w.heap.size ≤ g by omega)) (show w.heap.size ≤ h' by omega)).trans (b1.mono (by have := BX.out.size; simpa using this)))
      clear b1 z0 y0 f0 f1
      have cA0 : w1.cell? ⟨w.heap.size, 0, none⟩ = some (.int .i64 x.b) := (cellsW (i := 0) HA1.out).trans rfl
      have cA1 : w1.cell? ⟨w.heap.size, 1, none⟩ = some (.int .i64 x.c) := (cellsW (i := 1) HA1.out).trans rfl
      have cA2 : w1.cell? ⟨w.heap.size, 2, none⟩ = some (.int .i64 x.d) := (cellsW (i := 2) HA1.out).trans rfl
      have cA3 : w1.cell? ⟨w.heap.size, 3, none⟩ = some (.int .i64 x.m0) := (cellsW (i := 3) HA1.out).trans rfl
      have cA4 : w1.cell? ⟨w.heap.size, 4, none⟩ = some (.int .i64 x.m1) := (cellsW (i := 4) HA1.out).trans rfl
      have cA5 : w1.cell? ⟨w.heap.size, 5, none⟩ = some (.int .i64 x.m2) := (cellsW (i := 5) HA1.out).trans rfl
      have cA6 : w1.cell? ⟨w.heap.size, 6, none⟩ = some (.int .i64 x.p) := (cellsW (i := 6) HA1.out).trans rfl
      go_wp2_with fail
      refine (HMx.out _).mono ?_
      rintro e w2 ⟨rfl, q⟩
      have HA2 := Lib.hid ((q.block w.heap.size (lt_size HA1.out)).trans HA1.out)
      have HB2 := Lib.hid ((q.block (w.heap.size + 1) (lt_size HB1.out)).trans HB1.out)
      have HG2 := Lib.hid ((q.block g (lt_size HG1.out)).trans HG1.out)
      have HH2 := Lib.hid ((q.block h' (lt_size HH1.out)).trans HH1.out)
      have B2 := Lib.hid (B1.out.trans (q.mono B1.out.size))
      clear q cA0 cA1 cA2 cA3 cA4 cA5 cA6
      have cG0 : w2.cell? ⟨g, 0, none⟩ = some (.int .i64 201) := (cellsW (i := 0) HG2.out).trans rfl
      have cG1 : w2.cell? ⟨g, 1, none⟩ = some (.int .i64 x.c) := (cellsW (i := 1) HG2.out).trans rfl
      have cG2 : w2.cell? ⟨g, 2, none⟩ = some (.int .i64 x.d) := (cellsW (i := 2) HG2.out).trans rfl
      have cG3 : w2.cell? ⟨g, 3, none⟩ = some (.int .i64 x.m0) := (cellsW (i := 3) HG2.out).trans rfl
      have cG4 : w2.cell? ⟨g, 4, none⟩ = some (.int .i64 x.m1) := (cellsW (i := 4) HG2.out).trans rfl
      have cG5 : w2.cell? ⟨g, 5, none⟩ = some (.int .i64 x.m2) := (cellsW (i := 5) HG2.out).trans rfl
      have cG6 : w2.cell? ⟨g, 6, none⟩ = some (.int .i64 x.p) := (cellsW (i := 6) HG2.out).trans rfl
      go_wp2_with fail
      refine (HMX.out _).mono ?_
      rintro e w3 ⟨rfl, q⟩
      have HA3 := Lib.hid ((q.block w.heap.size (lt_size HA2.out)).trans HA2.out)
      have HB3 := Lib.hid ((q.block (w.heap.size + 1) (lt_size HB2.out)).trans HB2.out)
      have HH3 := Lib.hid ((q.block h' (lt_size HH2.out)).trans HH2.out)
      have B3 := Lib.hid (B2.out.trans (q.mono B2.out.size))
      clear q cG0 cG1 cG2 cG3 cG4 cG5 cG6
      have cB0 : w3.cell? ⟨w.heap.size + 1, 0, none⟩ = some (.int .i64 o.kind) := (cellsW (i := 0) HB3.out).trans rfl
      have cB1 : w3.cell? ⟨w.heap.size + 1, 1, none⟩ = some (.int .i64 o.book) := (cellsW (i := 1) HB3.out).trans rfl
      have cB2 : w3.cell? ⟨w.heap.size + 1, 2, none⟩ = some (.int .i64 o.units) := (cellsW (i := 2) HB3.out).trans rfl
      have cB3 : w3.cell? ⟨w.heap.size + 1, 3, none⟩ = some (.int .i64 o.cust) := (cellsW (i := 3) HB3.out).trans rfl
      have cB4 : w3.cell? ⟨w.heap.size + 1, 4, none⟩ = some (.int .i64 o.amount) := (cellsW (i := 4) HB3.out).trans rfl
      go_wp2_with fail
      refine (HMo.out _).mono ?_
      rintro e w4 ⟨rfl, q⟩
      have HA4 := Lib.hid ((q.block w.heap.size (lt_size HA3.out)).trans HA3.out)
      have HH4 := Lib.hid ((q.block h' (lt_size HH3.out)).trans HH3.out)
      have B4 := Lib.hid (B3.out.trans (q.mono B3.out.size))
      clear q cB0 cB1 cB2 cB3 cB4
      have cH0 : w4.cell? ⟨h', 0, none⟩ = some (.int .i64 o.kind) := (cellsW (i := 0) HH4.out).trans rfl
      have cH1 : w4.cell? ⟨h', 1, none⟩ = some (.int .i64 201) := (cellsW (i := 1) HH4.out).trans rfl
      have cH2 : w4.cell? ⟨h', 2, none⟩ = some (.int .i64 o.units) := (cellsW (i := 2) HH4.out).trans rfl
      have cH3 : w4.cell? ⟨h', 3, none⟩ = some (.int .i64 o.cust) := (cellsW (i := 3) HH4.out).trans rfl
      have cH4 : w4.cell? ⟨h', 4, none⟩ = some (.int .i64 o.amount) := (cellsW (i := 4) HH4.out).trans rfl
      go_wp2_with fail
      refine (HMO.out _).mono ?_
      rintro e w5 ⟨rfl, q⟩
      have HA5 := Lib.hid ((q.block w.heap.size (lt_size HA4.out)).trans HA4.out)
      have B5 := Lib.hid (B4.out.trans (q.mono B4.out.size))
      clear q cH0 cH1 cH2 cH3 cH4
      have cA0 : w5.cell? ⟨w.heap.size, 0, none⟩ = some (.int .i64 x.b) := (cellsW (i := 0) HA5.out).trans rfl
      have cA1 : w5.cell? ⟨w.heap.size, 1, none⟩ = some (.int .i64 x.c) := (cellsW (i := 1) HA5.out).trans rfl
      have cA2 : w5.cell? ⟨w.heap.size, 2, none⟩ = some (.int .i64 x.d) := (cellsW (i := 2) HA5.out).trans rfl
      have cA3 : w5.cell? ⟨w.heap.size, 3, none⟩ = some (.int .i64 x.m0) := (cellsW (i := 3) HA5.out).trans rfl
      have cA4 : w5.cell? ⟨w.heap.size, 4, none⟩ = some (.int .i64 x.m1) := (cellsW (i := 4) HA5.out).trans rfl
      have cA5 : w5.cell? ⟨w.heap.size, 5, none⟩ = some (.int .i64 x.m2) := (cellsW (i := 5) HA5.out).trans rfl
      have cA6 : w5.cell? ⟨w.heap.size, 6, none⟩ = some (.int .i64 x.p) := (cellsW (i := 6) HA5.out).trans rfl
      go_wp2_with fail
      refine (HMz.out _).mono ?_
      rintro e w6 ⟨rfl, q⟩
      have B6 := Lib.hid (B5.out.trans (q.mono B5.out.size))
      clear q cA0 cA1 cA2 cA3 cA4 cA5 cA6
      go_wp2
      go_ret
      exact ⟨rfl, B6.out⟩
end Go.Proofs.Ytebinhelnhnbeaa
