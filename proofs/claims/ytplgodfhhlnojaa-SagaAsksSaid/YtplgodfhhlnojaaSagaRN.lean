/- sojournref14.Next, walked (printed by gensagarn.py). -/
import Derived.Test.YtplgodfhhlnojaaSagaRF
import Derived.Outline
set_option linter.unusedSimpArgs false
set_option linter.unusedVariables false
namespace Go.Proofs.Ytplgodfhhlnojaa
open Go.RowKit
set_option maxRecDepth 100000 in
set_option maxHeartbeats 2000000 in
theorem rnext14 (s : S11) (w : World) : Calls Try.prog 19 #[s.val] w fun e w' => e = .returned (.tuple #[(nextS s).1.val, .bool (nextS s).2]) ∧ Below w.heap.size w w' := by
  obtain ⟨⟨b, c, d, m0, m1, m2, p⟩, ph, st, re, si⟩ := s
  cases hw : decide (MayS ⟨⟨b, c, d, m0, m1, m2, p⟩, ph, st, re, si⟩)
  · obtain ⟨f1, f2, f3⟩ := two_boxes w (.cells #[.int .i64 b, .int .i64 c, .int .i64 d, .int .i64 m0, .int .i64 m1, .int .i64 m2, .int .i64 p, .int .i64 ph, .int .i64 st, .int .i64 re, .int .i64 si] 26) (.cells #[.int .i64 0, .int .i64 0, .int .i64 0, .int .i64 0, .int .i64 0, .int .i64 0] 33)
    have S0 := Lib.hid f1
    have R0 := Lib.hid f2
    have B0 := Lib.hid f3
    clear f1 f2 f3
    have HM := Lib.hid (fun W => rmay14_is ⟨⟨b, c, d, m0, m1, m2, p⟩, ph, st, re, si⟩ false hw W)
    have HW := Lib.hid hw
    clear hw
    unfold S11.val at HM ⊢
    simp only at HM ⊢
    go_enter Try.func19, Try.ntmps19
    go_wp2_with fail
    refine (HM.out _).mono ?_
    rintro e w1 ⟨rfl, q⟩
    have S1 := Lib.hid (blk0 S0.out q)
    have R1 := Lib.hid (blk0 R0.out q)
    have B1 := Lib.hid (bel0 B0.out B0.out.size q)
    clear q 
    have a0 : w1.cell? ⟨w.heap.size, 0, none⟩ = some (.int .i64 b) := (cellsB (i := 0) S1.out).trans rfl
    have a1 : w1.cell? ⟨w.heap.size, 1, none⟩ = some (.int .i64 c) := (cellsB (i := 1) S1.out).trans rfl
    have a2 : w1.cell? ⟨w.heap.size, 2, none⟩ = some (.int .i64 d) := (cellsB (i := 2) S1.out).trans rfl
    have a3 : w1.cell? ⟨w.heap.size, 3, none⟩ = some (.int .i64 m0) := (cellsB (i := 3) S1.out).trans rfl
    have a4 : w1.cell? ⟨w.heap.size, 4, none⟩ = some (.int .i64 m1) := (cellsB (i := 4) S1.out).trans rfl
    have a5 : w1.cell? ⟨w.heap.size, 5, none⟩ = some (.int .i64 m2) := (cellsB (i := 5) S1.out).trans rfl
    have a6 : w1.cell? ⟨w.heap.size, 6, none⟩ = some (.int .i64 p) := (cellsB (i := 6) S1.out).trans rfl
    have a7 : w1.cell? ⟨w.heap.size, 7, none⟩ = some (.int .i64 ph) := (cellsB (i := 7) S1.out).trans rfl
    have a8 : w1.cell? ⟨w.heap.size, 8, none⟩ = some (.int .i64 st) := (cellsB (i := 8) S1.out).trans rfl
    have a9 : w1.cell? ⟨w.heap.size, 9, none⟩ = some (.int .i64 re) := (cellsB (i := 9) S1.out).trans rfl
    have a10 : w1.cell? ⟨w.heap.size, 10, none⟩ = some (.int .i64 si) := (cellsB (i := 10) S1.out).trans rfl
    have z0 : w1.cell? ⟨(w.heap.size + 1), 0, none⟩ = some (.int .i64 0) := (cellsB (i := 0) R1.out).trans rfl
    have z1 : w1.cell? ⟨(w.heap.size + 1), 1, none⟩ = some (.int .i64 0) := (cellsB (i := 1) R1.out).trans rfl
    have z2 : w1.cell? ⟨(w.heap.size + 1), 2, none⟩ = some (.int .i64 0) := (cellsB (i := 2) R1.out).trans rfl
    have z3 : w1.cell? ⟨(w.heap.size + 1), 3, none⟩ = some (.int .i64 0) := (cellsB (i := 3) R1.out).trans rfl
    have z4 : w1.cell? ⟨(w.heap.size + 1), 4, none⟩ = some (.int .i64 0) := (cellsB (i := 4) R1.out).trans rfl
    have z5 : w1.cell? ⟨(w.heap.size + 1), 5, none⟩ = some (.int .i64 0) := (cellsB (i := 5) R1.out).trans rfl
    have y0 : w1.frozen? ⟨(w.heap.size + 1), 0, none⟩ = false := frozB R1.out
    have y1 : w1.frozen? ⟨(w.heap.size + 1), 1, none⟩ = false := frozB R1.out
    have y2 : w1.frozen? ⟨(w.heap.size + 1), 2, none⟩ = false := frozB R1.out
    have y3 : w1.frozen? ⟨(w.heap.size + 1), 3, none⟩ = false := frozB R1.out
    have y4 : w1.frozen? ⟨(w.heap.size + 1), 4, none⟩ = false := frozB R1.out
    have y5 : w1.frozen? ⟨(w.heap.size + 1), 5, none⟩ = false := frozB R1.out
    go_wp2
    refine bodyPost_ret (v := .tuple #[.agg #[.int .i64 0, .int .i64 0, .int .i64 0, .int .i64 0, .int .i64 0, .int .i64 0], .bool false]) (by simp [results, Try.results19, go_sem, z0, z1, z2, z3, z4, z5]) rfl ?_
    refine ⟨?_, ?_⟩
    · rw [nextS, if_neg (fun h => of_decide_eq_false HW.out h.1)]; try rfl
    · repeat (refine belowS ?_ (by omega))
      exact B1.out
  by_cases p1 : ph = 1
  · subst p1
    have hm := of_decide_eq_true hw
    obtain ⟨l, hl⟩ : ∃ l, forwardL ⟨b, c, d, m0, m1, m2, p⟩ = l := ⟨_, rfl⟩
    have HLS := Lib.hid (show ∀ z1 z2 z3 : Int, stepsL ⟨⟨b, c, d, m0, m1, m2, p⟩, 1, z1, z2, z3⟩ = l from fun z1 z2 z3 => (stepsL_1 _ _ _ _).trans hl)
    have FC := Lib.hid (fun W => rforward_c ⟨b, c, d, m0, m1, m2, p⟩ W)
    rw [hl] at FC
    obtain ⟨n, hn⟩ : ∃ n, l.length = n := ⟨_, rfl⟩
    have HN := Lib.hid hn
    obtain ⟨k, hk⟩ : ∃ k : Nat, st = k := ⟨st.toNat, by have := hm.2.2.1.1; simp only at this; omega⟩
    subst hk
    have hkn : k < n := by have g := hm.2.2.1.2; rw [HLS.out, hn] at g; simp only at g; have := (fwd_pos ⟨b, c, d, m0, m1, m2, p⟩ hm.1).1; rw [hl, hn] at this; omega
    clear hm hl hn
    unfold RRA W7.val at FC
    simp only at FC
    obtain ⟨f1, f2, f3⟩ := two_boxes w (.cells #[.int .i64 b, .int .i64 c, .int .i64 d, .int .i64 m0, .int .i64 m1, .int .i64 m2, .int .i64 p, .int .i64 1, .int .i64 (k : Int), .int .i64 re, .int .i64 si] 26) (.cells #[.int .i64 0, .int .i64 0, .int .i64 0, .int .i64 0, .int .i64 0, .int .i64 0] 33)
    have S0 := Lib.hid f1
    have R0 := Lib.hid f2
    have B0 := Lib.hid f3
    clear f1 f2 f3
    have HM := Lib.hid (fun W => rmay14_is ⟨⟨b, c, d, m0, m1, m2, p⟩, 1, (k : Int), re, si⟩ true hw W)
    have HW := Lib.hid hw
    clear hw
    unfold S11.val at HM ⊢
    simp only at HM ⊢
    go_enter Try.func19, Try.ntmps19
    go_wp2_with fail
    refine (HM.out _).mono ?_
    rintro e w1 ⟨rfl, q⟩
    have S1 := Lib.hid (blk0 S0.out q)
    have R1 := Lib.hid (blk0 R0.out q)
    have B1 := Lib.hid (bel0 B0.out B0.out.size q)
    clear q 
    have a0 : w1.cell? ⟨w.heap.size, 0, none⟩ = some (.int .i64 b) := (cellsB (i := 0) S1.out).trans rfl
    have a1 : w1.cell? ⟨w.heap.size, 1, none⟩ = some (.int .i64 c) := (cellsB (i := 1) S1.out).trans rfl
    have a2 : w1.cell? ⟨w.heap.size, 2, none⟩ = some (.int .i64 d) := (cellsB (i := 2) S1.out).trans rfl
    have a3 : w1.cell? ⟨w.heap.size, 3, none⟩ = some (.int .i64 m0) := (cellsB (i := 3) S1.out).trans rfl
    have a4 : w1.cell? ⟨w.heap.size, 4, none⟩ = some (.int .i64 m1) := (cellsB (i := 4) S1.out).trans rfl
    have a5 : w1.cell? ⟨w.heap.size, 5, none⟩ = some (.int .i64 m2) := (cellsB (i := 5) S1.out).trans rfl
    have a6 : w1.cell? ⟨w.heap.size, 6, none⟩ = some (.int .i64 p) := (cellsB (i := 6) S1.out).trans rfl
    have a7 : w1.cell? ⟨w.heap.size, 7, none⟩ = some (.int .i64 1) := (cellsB (i := 7) S1.out).trans rfl
    have a8 : w1.cell? ⟨w.heap.size, 8, none⟩ = some (.int .i64 (k : Int)) := (cellsB (i := 8) S1.out).trans rfl
    have a9 : w1.cell? ⟨w.heap.size, 9, none⟩ = some (.int .i64 re) := (cellsB (i := 9) S1.out).trans rfl
    have a10 : w1.cell? ⟨w.heap.size, 10, none⟩ = some (.int .i64 si) := (cellsB (i := 10) S1.out).trans rfl
    have SB := S1.out
    have RB := R1.out
    have DD := B1.out
    go_wp2_with fail
    go_region_with (go_at_call 62; refine (FC.out _).mono ?_; rintro e w3 ⟨v3, rfl, HF, hB⟩; (have HF2 := OR.rd HF); rw [HN.out] at HF2; obtain ⟨AF, cF, rfl, hc1, hc2, RD⟩ := HF2; (first | (replace SB := blk0 SB hB; replace RB := blk0 RB hB; replace DD := bel0 DD DD.size hB) | (replace DD := bel0 (w := w1.drew) DD.drew DD.size hB; replace SB := blk0 (w := w1.drew) SB hB; replace RB := blk0 (w := w1.drew) RB hB)); obtain ⟨ad, x, rfl, hbd, hx, hca⟩ := RD.ask hkn; obtain ⟨p0, p1, p2, p3, p4, p5⟩ := hca; obtain ⟨_, _, _, _, _, _, _, _, g8, _, _⟩ := cells11 SB; (have HX := Lib.hid hx); (have z0 := (cellsB (i := 0) RB).trans rfl); (have y0 := frozB (i := 0) RB); (have z1 := (cellsB (i := 1) RB).trans rfl); (have y1 := frozB (i := 1) RB); (have z2 := (cellsB (i := 2) RB).trans rfl); (have y2 := frozB (i := 2) RB); (have z3 := (cellsB (i := 3) RB).trans rfl); (have y3 := frozB (i := 3) RB); (have z4 := (cellsB (i := 4) RB).trans rfl); (have y4 := frozB (i := 4) RB); (have z5 := (cellsB (i := 5) RB).trans rfl); (have y5 := frozB (i := 5) RB); clear hB HF hx hc1 hc2 RD)
    all_goals
      go_wp2
      refine bodyPost_ret (v := .tuple #[.agg #[.int .i64 x.node, .int .i64 x.kind, .int .i64 x.book, .int .i64 x.units, .int .i64 x.cust, .int .i64 x.amount], .bool true]) (by simp [results, Try.results19, go_sem, z0, z1, z2, z3, z4, z5, p0, p1, p2, p3, p4, p5]) rfl ?_
      refine ⟨?_, ?_⟩
      · rw [next_at ⟨⟨b, c, d, m0, m1, m2, p⟩, 1, k, re, si⟩ k x rfl (of_decide_eq_true HW.out) (by rw [HLS.out]; exact HX.out)]; rfl
      · repeat (with_reducible refine belowS ?_ ?hR; case hR => omega)
        exact DD
  by_cases p2 : ph = 2
  · subst p2
    have hm := of_decide_eq_true hw
    have KC := Lib.hid (fun W => rcapture_c ⟨b, c, d, m0, m1, m2, p⟩ W)
    obtain ⟨⟨x1, x2, x3, x4, x5, x6⟩, hx⟩ : ∃ x, captureA ⟨b, c, d, m0, m1, m2, p⟩ = x := ⟨_, rfl⟩
    rw [hx] at KC
    have HX := Lib.hid hx
    clear hx
    have hst : st = 0 := by have g := hm.2.2.1; rw [stepsL_2] at g; simp at g; omega
    subst hst
    clear hm
    unfold A6.val W7.val at KC
    simp only at KC
    obtain ⟨f1, f2, f3⟩ := two_boxes w (.cells #[.int .i64 b, .int .i64 c, .int .i64 d, .int .i64 m0, .int .i64 m1, .int .i64 m2, .int .i64 p, .int .i64 2, .int .i64 0, .int .i64 re, .int .i64 si] 26) (.cells #[.int .i64 0, .int .i64 0, .int .i64 0, .int .i64 0, .int .i64 0, .int .i64 0] 33)
    have S0 := Lib.hid f1
    have R0 := Lib.hid f2
    have B0 := Lib.hid f3
    clear f1 f2 f3
    have HM := Lib.hid (fun W => rmay14_is ⟨⟨b, c, d, m0, m1, m2, p⟩, 2, 0, re, si⟩ true hw W)
    have HW := Lib.hid hw
    clear hw
    unfold S11.val at HM ⊢
    simp only at HM ⊢
    go_enter Try.func19, Try.ntmps19
    go_wp2_with fail
    refine (HM.out _).mono ?_
    rintro e w1 ⟨rfl, q⟩
    have S1 := Lib.hid (blk0 S0.out q)
    have R1 := Lib.hid (blk0 R0.out q)
    have B1 := Lib.hid (bel0 B0.out B0.out.size q)
    clear q 
    have a0 : w1.cell? ⟨w.heap.size, 0, none⟩ = some (.int .i64 b) := (cellsB (i := 0) S1.out).trans rfl
    have a1 : w1.cell? ⟨w.heap.size, 1, none⟩ = some (.int .i64 c) := (cellsB (i := 1) S1.out).trans rfl
    have a2 : w1.cell? ⟨w.heap.size, 2, none⟩ = some (.int .i64 d) := (cellsB (i := 2) S1.out).trans rfl
    have a3 : w1.cell? ⟨w.heap.size, 3, none⟩ = some (.int .i64 m0) := (cellsB (i := 3) S1.out).trans rfl
    have a4 : w1.cell? ⟨w.heap.size, 4, none⟩ = some (.int .i64 m1) := (cellsB (i := 4) S1.out).trans rfl
    have a5 : w1.cell? ⟨w.heap.size, 5, none⟩ = some (.int .i64 m2) := (cellsB (i := 5) S1.out).trans rfl
    have a6 : w1.cell? ⟨w.heap.size, 6, none⟩ = some (.int .i64 p) := (cellsB (i := 6) S1.out).trans rfl
    have a7 : w1.cell? ⟨w.heap.size, 7, none⟩ = some (.int .i64 2) := (cellsB (i := 7) S1.out).trans rfl
    have a8 : w1.cell? ⟨w.heap.size, 8, none⟩ = some (.int .i64 0) := (cellsB (i := 8) S1.out).trans rfl
    have a9 : w1.cell? ⟨w.heap.size, 9, none⟩ = some (.int .i64 re) := (cellsB (i := 9) S1.out).trans rfl
    have a10 : w1.cell? ⟨w.heap.size, 10, none⟩ = some (.int .i64 si) := (cellsB (i := 10) S1.out).trans rfl
    go_wp2_with fail
    refine (KC.out _).mono ?_
    rintro e w2 ⟨rfl, q⟩
    have S2 := Lib.hid (blk0 S1.out q)
    have R2 := Lib.hid (blk0 R1.out q)
    have B2 := Lib.hid (bel0 B1.out B1.out.size q)
    clear q 
    clear a0 a1 a2 a3 a4 a5 a6 a7 a8 a9 a10
    have z0 : w2.cell? ⟨(w.heap.size + 1), 0, none⟩ = some (.int .i64 0) := (cellsB (i := 0) R2.out).trans rfl
    have z1 : w2.cell? ⟨(w.heap.size + 1), 1, none⟩ = some (.int .i64 0) := (cellsB (i := 1) R2.out).trans rfl
    have z2 : w2.cell? ⟨(w.heap.size + 1), 2, none⟩ = some (.int .i64 0) := (cellsB (i := 2) R2.out).trans rfl
    have z3 : w2.cell? ⟨(w.heap.size + 1), 3, none⟩ = some (.int .i64 0) := (cellsB (i := 3) R2.out).trans rfl
    have z4 : w2.cell? ⟨(w.heap.size + 1), 4, none⟩ = some (.int .i64 0) := (cellsB (i := 4) R2.out).trans rfl
    have z5 : w2.cell? ⟨(w.heap.size + 1), 5, none⟩ = some (.int .i64 0) := (cellsB (i := 5) R2.out).trans rfl
    have y0 : w2.frozen? ⟨(w.heap.size + 1), 0, none⟩ = false := frozB R2.out
    have y1 : w2.frozen? ⟨(w.heap.size + 1), 1, none⟩ = false := frozB R2.out
    have y2 : w2.frozen? ⟨(w.heap.size + 1), 2, none⟩ = false := frozB R2.out
    have y3 : w2.frozen? ⟨(w.heap.size + 1), 3, none⟩ = false := frozB R2.out
    have y4 : w2.frozen? ⟨(w.heap.size + 1), 4, none⟩ = false := frozB R2.out
    have y5 : w2.frozen? ⟨(w.heap.size + 1), 5, none⟩ = false := frozB R2.out
    go_wp2
    refine bodyPost_ret (v := .tuple #[.agg #[.int .i64 x1, .int .i64 x2, .int .i64 x3, .int .i64 x4, .int .i64 x5, .int .i64 x6], .bool true]) (by simp [results, Try.results19, go_sem, z0, z1, z2, z3, z4, z5]) rfl ?_
    refine ⟨?_, ?_⟩
    · rw [next_at ⟨⟨b, c, d, m0, m1, m2, p⟩, 2, 0, re, si⟩ 0 ⟨x1, x2, x3, x4, x5, x6⟩ rfl (of_decide_eq_true HW.out) (by rw [stepsL_2, HX.out]; rfl)]; rfl
    · repeat (refine belowS ?_ (by omega))
      exact B2.out
  by_cases p3 : ph = 3
  · subst p3
    have hm := of_decide_eq_true hw
    obtain ⟨l, hl⟩ : ∃ l, backL ⟨b, c, d, m0, m1, m2, p⟩ = l := ⟨_, rfl⟩
    have HLS := Lib.hid (show ∀ z1 z2 z3 : Int, stepsL ⟨⟨b, c, d, m0, m1, m2, p⟩, 3, z1, z2, z3⟩ = l from fun z1 z2 z3 => (stepsL_3 _ _ _ _).trans hl)
    have FC := Lib.hid (fun W => rback_c ⟨b, c, d, m0, m1, m2, p⟩ W)
    rw [hl] at FC
    obtain ⟨n, hn⟩ : ∃ n, l.length = n := ⟨_, rfl⟩
    have HN := Lib.hid hn
    obtain ⟨k, hk⟩ : ∃ k : Nat, st = k := ⟨st.toNat, by have := hm.2.2.1.1; simp only at this; omega⟩
    subst hk
    have hkn : k < n := by have g := hm.2.2.1.2; rw [HLS.out, hn] at g; simp only at g; have := (bck_pos ⟨b, c, d, m0, m1, m2, p⟩ hm.1).1; rw [hl, hn] at this; omega
    clear hm hl hn
    unfold RRA W7.val at FC
    simp only at FC
    obtain ⟨f1, f2, f3⟩ := two_boxes w (.cells #[.int .i64 b, .int .i64 c, .int .i64 d, .int .i64 m0, .int .i64 m1, .int .i64 m2, .int .i64 p, .int .i64 3, .int .i64 (k : Int), .int .i64 re, .int .i64 si] 26) (.cells #[.int .i64 0, .int .i64 0, .int .i64 0, .int .i64 0, .int .i64 0, .int .i64 0] 33)
    have S0 := Lib.hid f1
    have R0 := Lib.hid f2
    have B0 := Lib.hid f3
    clear f1 f2 f3
    have HM := Lib.hid (fun W => rmay14_is ⟨⟨b, c, d, m0, m1, m2, p⟩, 3, (k : Int), re, si⟩ true hw W)
    have HW := Lib.hid hw
    clear hw
    unfold S11.val at HM ⊢
    simp only at HM ⊢
    go_enter Try.func19, Try.ntmps19
    go_wp2_with fail
    refine (HM.out _).mono ?_
    rintro e w1 ⟨rfl, q⟩
    have S1 := Lib.hid (blk0 S0.out q)
    have R1 := Lib.hid (blk0 R0.out q)
    have B1 := Lib.hid (bel0 B0.out B0.out.size q)
    clear q 
    have a0 : w1.cell? ⟨w.heap.size, 0, none⟩ = some (.int .i64 b) := (cellsB (i := 0) S1.out).trans rfl
    have a1 : w1.cell? ⟨w.heap.size, 1, none⟩ = some (.int .i64 c) := (cellsB (i := 1) S1.out).trans rfl
    have a2 : w1.cell? ⟨w.heap.size, 2, none⟩ = some (.int .i64 d) := (cellsB (i := 2) S1.out).trans rfl
    have a3 : w1.cell? ⟨w.heap.size, 3, none⟩ = some (.int .i64 m0) := (cellsB (i := 3) S1.out).trans rfl
    have a4 : w1.cell? ⟨w.heap.size, 4, none⟩ = some (.int .i64 m1) := (cellsB (i := 4) S1.out).trans rfl
    have a5 : w1.cell? ⟨w.heap.size, 5, none⟩ = some (.int .i64 m2) := (cellsB (i := 5) S1.out).trans rfl
    have a6 : w1.cell? ⟨w.heap.size, 6, none⟩ = some (.int .i64 p) := (cellsB (i := 6) S1.out).trans rfl
    have a7 : w1.cell? ⟨w.heap.size, 7, none⟩ = some (.int .i64 3) := (cellsB (i := 7) S1.out).trans rfl
    have a8 : w1.cell? ⟨w.heap.size, 8, none⟩ = some (.int .i64 (k : Int)) := (cellsB (i := 8) S1.out).trans rfl
    have a9 : w1.cell? ⟨w.heap.size, 9, none⟩ = some (.int .i64 re) := (cellsB (i := 9) S1.out).trans rfl
    have a10 : w1.cell? ⟨w.heap.size, 10, none⟩ = some (.int .i64 si) := (cellsB (i := 10) S1.out).trans rfl
    have SB := S1.out
    have RB := R1.out
    have DD := B1.out
    go_wp2_with fail
    go_region_with (go_at_call 64; refine (FC.out _).mono ?_; rintro e w3 ⟨v3, rfl, HF, hB⟩; (have HF2 := OR.rd HF); rw [HN.out] at HF2; obtain ⟨AF, cF, rfl, hc1, hc2, RD⟩ := HF2; (first | (replace SB := blk0 SB hB; replace RB := blk0 RB hB; replace DD := bel0 DD DD.size hB) | (replace DD := bel0 (w := w1.drew) DD.drew DD.size hB; replace SB := blk0 (w := w1.drew) SB hB; replace RB := blk0 (w := w1.drew) RB hB)); obtain ⟨ad, x, rfl, hbd, hx, hca⟩ := RD.ask hkn; obtain ⟨p0, p1, p2, p3, p4, p5⟩ := hca; obtain ⟨_, _, _, _, _, _, _, _, g8, _, _⟩ := cells11 SB; (have HX := Lib.hid hx); (have z0 := (cellsB (i := 0) RB).trans rfl); (have y0 := frozB (i := 0) RB); (have z1 := (cellsB (i := 1) RB).trans rfl); (have y1 := frozB (i := 1) RB); (have z2 := (cellsB (i := 2) RB).trans rfl); (have y2 := frozB (i := 2) RB); (have z3 := (cellsB (i := 3) RB).trans rfl); (have y3 := frozB (i := 3) RB); (have z4 := (cellsB (i := 4) RB).trans rfl); (have y4 := frozB (i := 4) RB); (have z5 := (cellsB (i := 5) RB).trans rfl); (have y5 := frozB (i := 5) RB); clear hB HF hx hc1 hc2 RD)
    all_goals
      go_wp2
      refine bodyPost_ret (v := .tuple #[.agg #[.int .i64 x.node, .int .i64 x.kind, .int .i64 x.book, .int .i64 x.units, .int .i64 x.cust, .int .i64 x.amount], .bool true]) (by simp [results, Try.results19, go_sem, z0, z1, z2, z3, z4, z5, p0, p1, p2, p3, p4, p5]) rfl ?_
      refine ⟨?_, ?_⟩
      · rw [next_at ⟨⟨b, c, d, m0, m1, m2, p⟩, 3, k, re, si⟩ k x rfl (of_decide_eq_true HW.out) (by rw [HLS.out]; exact HX.out)]; rfl
      · repeat (with_reducible refine belowS ?_ ?hR; case hR => omega)
        exact DD
  have b1 : (ph == 1) = false := beq_eq_false_iff_ne.2 p1
  have b2 : (ph == 2) = false := beq_eq_false_iff_ne.2 p2
  have b3 : (ph == 3) = false := beq_eq_false_iff_ne.2 p3
  obtain ⟨f1, f2, f3⟩ := two_boxes w (.cells #[.int .i64 b, .int .i64 c, .int .i64 d, .int .i64 m0, .int .i64 m1, .int .i64 m2, .int .i64 p, .int .i64 ph, .int .i64 st, .int .i64 re, .int .i64 si] 26) (.cells #[.int .i64 0, .int .i64 0, .int .i64 0, .int .i64 0, .int .i64 0, .int .i64 0] 33)
  have S0 := Lib.hid f1
  have R0 := Lib.hid f2
  have B0 := Lib.hid f3
  clear f1 f2 f3
  have HM := Lib.hid (fun W => rmay14_is ⟨⟨b, c, d, m0, m1, m2, p⟩, ph, st, re, si⟩ true hw W)
  have HW := Lib.hid hw
  clear hw
  unfold S11.val at HM ⊢
  simp only at HM ⊢
  go_enter Try.func19, Try.ntmps19
  go_wp2_with fail
  refine (HM.out _).mono ?_
  rintro e w1 ⟨rfl, q⟩
  have S1 := Lib.hid (blk0 S0.out q)
  have R1 := Lib.hid (blk0 R0.out q)
  have B1 := Lib.hid (bel0 B0.out B0.out.size q)
  clear q 
  have a0 : w1.cell? ⟨w.heap.size, 0, none⟩ = some (.int .i64 b) := (cellsB (i := 0) S1.out).trans rfl
  have a1 : w1.cell? ⟨w.heap.size, 1, none⟩ = some (.int .i64 c) := (cellsB (i := 1) S1.out).trans rfl
  have a2 : w1.cell? ⟨w.heap.size, 2, none⟩ = some (.int .i64 d) := (cellsB (i := 2) S1.out).trans rfl
  have a3 : w1.cell? ⟨w.heap.size, 3, none⟩ = some (.int .i64 m0) := (cellsB (i := 3) S1.out).trans rfl
  have a4 : w1.cell? ⟨w.heap.size, 4, none⟩ = some (.int .i64 m1) := (cellsB (i := 4) S1.out).trans rfl
  have a5 : w1.cell? ⟨w.heap.size, 5, none⟩ = some (.int .i64 m2) := (cellsB (i := 5) S1.out).trans rfl
  have a6 : w1.cell? ⟨w.heap.size, 6, none⟩ = some (.int .i64 p) := (cellsB (i := 6) S1.out).trans rfl
  have a7 : w1.cell? ⟨w.heap.size, 7, none⟩ = some (.int .i64 ph) := (cellsB (i := 7) S1.out).trans rfl
  have a8 : w1.cell? ⟨w.heap.size, 8, none⟩ = some (.int .i64 st) := (cellsB (i := 8) S1.out).trans rfl
  have a9 : w1.cell? ⟨w.heap.size, 9, none⟩ = some (.int .i64 re) := (cellsB (i := 9) S1.out).trans rfl
  have a10 : w1.cell? ⟨w.heap.size, 10, none⟩ = some (.int .i64 si) := (cellsB (i := 10) S1.out).trans rfl
  have z0 : w1.cell? ⟨(w.heap.size + 1), 0, none⟩ = some (.int .i64 0) := (cellsB (i := 0) R1.out).trans rfl
  have z1 : w1.cell? ⟨(w.heap.size + 1), 1, none⟩ = some (.int .i64 0) := (cellsB (i := 1) R1.out).trans rfl
  have z2 : w1.cell? ⟨(w.heap.size + 1), 2, none⟩ = some (.int .i64 0) := (cellsB (i := 2) R1.out).trans rfl
  have z3 : w1.cell? ⟨(w.heap.size + 1), 3, none⟩ = some (.int .i64 0) := (cellsB (i := 3) R1.out).trans rfl
  have z4 : w1.cell? ⟨(w.heap.size + 1), 4, none⟩ = some (.int .i64 0) := (cellsB (i := 4) R1.out).trans rfl
  have z5 : w1.cell? ⟨(w.heap.size + 1), 5, none⟩ = some (.int .i64 0) := (cellsB (i := 5) R1.out).trans rfl
  have y0 : w1.frozen? ⟨(w.heap.size + 1), 0, none⟩ = false := frozB R1.out
  have y1 : w1.frozen? ⟨(w.heap.size + 1), 1, none⟩ = false := frozB R1.out
  have y2 : w1.frozen? ⟨(w.heap.size + 1), 2, none⟩ = false := frozB R1.out
  have y3 : w1.frozen? ⟨(w.heap.size + 1), 3, none⟩ = false := frozB R1.out
  have y4 : w1.frozen? ⟨(w.heap.size + 1), 4, none⟩ = false := frozB R1.out
  have y5 : w1.frozen? ⟨(w.heap.size + 1), 5, none⟩ = false := frozB R1.out
  go_wp2
  refine bodyPost_ret (v := .tuple #[.agg #[.int .i64 0, .int .i64 0, .int .i64 0, .int .i64 0, .int .i64 0, .int .i64 0], .bool false]) (by simp [results, Try.results19, go_sem, z0, z1, z2, z3, z4, z5]) rfl ?_
  refine ⟨?_, ?_⟩
  · rw [nextS, if_neg (fun h => by have g := h.2; rw [stepsL_none _ p1 p2 p3] at g; simp at g)]; try rfl
  · repeat (refine belowS ?_ (by omega))
    exact B1.out
end Go.Proofs.Ytplgodfhhlnojaa
