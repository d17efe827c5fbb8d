/- SagaC, SagaM, merged. -/
import Derived.Test.YtplgodfhhlnojaaP2
import Derived.Test.YtplgodfhhlnojaaB4
import Derived.Outline
set_option linter.unusedSimpArgs false
set_option linter.unusedVariables false
/- saga.steps, walked (printed by gensaga.py). -/
namespace Go.Proofs.Ytplgodfhhlnojaa
open Go.RowKit
def cS (s : S11) : Array Value := #[.int .i64 s.w.b, .int .i64 s.w.c, .int .i64 s.w.d, .int .i64 s.w.m0, .int .i64 s.w.m1, .int .i64 s.w.m2, .int .i64 s.w.p, .int .i64 s.ph, .int .i64 s.st, .int .i64 s.re, .int .i64 s.si] 
def bxS (w : World) (s : S11) : World := w.alloc (.cells #[.int .i64 s.w.b, .int .i64 s.w.c, .int .i64 s.w.d, .int .i64 s.w.m0, .int .i64 s.w.m1, .int .i64 s.w.m2, .int .i64 s.w.p, .int .i64 s.ph, .int .i64 s.st, .int .i64 s.re, .int .i64 s.si] 26)
def CS (w : World) (s : S11) (wc : World) : Prop := Below (w.heap.size + 1) (bxS w s) wc
theorem CS.next {w wc w2 : World} {s : S11} (h : CS w s wc) (hb : Below wc.heap.size wc w2) : CS w s w2 := h.trans (hb.mono (by have := h.size; simpa [bxS] using this))
theorem CS.drew {w wc : World} {s : S11} (h : CS w s wc) : CS w s wc.drew := Below.drew h
theorem CS.below {w wc : World} {s : S11} (h : CS w s wc) : Below w.heap.size w wc := ((Below.refl _ _).alloc (Nat.le_refl _) _).trans (h.mono (by omega))
theorem CS.size {w wc : World} {s : S11} (h : CS w s wc) : w.heap.size < wc.heap.size := by have := Below.size h; simp [bxS] at this; omega
theorem CS.first (w : World) (s : S11) : CS w s (bxS w s) := Below.refl _ _
theorem CS.blk {w wc : World} {s : S11} (h : CS w s wc) : wc.heap[w.heap.size]? = some (.cells (cS s) 26 (0, 0)) := (Below.block h w.heap.size (by omega)).trans (heap_alloc_new w _)
theorem CS.cells {w wc : World} {s : S11} (h : CS w s wc) : wc.cell? ⟨w.heap.size, 0, none⟩ = some (.int .i64 s.w.b) ∧ wc.cell? ⟨w.heap.size, 1, none⟩ = some (.int .i64 s.w.c) ∧ wc.cell? ⟨w.heap.size, 2, none⟩ = some (.int .i64 s.w.d) ∧ wc.cell? ⟨w.heap.size, 3, none⟩ = some (.int .i64 s.w.m0) ∧ wc.cell? ⟨w.heap.size, 4, none⟩ = some (.int .i64 s.w.m1) ∧ wc.cell? ⟨w.heap.size, 5, none⟩ = some (.int .i64 s.w.m2) ∧ wc.cell? ⟨w.heap.size, 6, none⟩ = some (.int .i64 s.w.p) ∧ wc.cell? ⟨w.heap.size, 7, none⟩ = some (.int .i64 s.ph) ∧ wc.cell? ⟨w.heap.size, 8, none⟩ = some (.int .i64 s.st) ∧ wc.cell? ⟨w.heap.size, 9, none⟩ = some (.int .i64 s.re) ∧ wc.cell? ⟨w.heap.size, 10, none⟩ = some (.int .i64 s.si) :=
  ⟨(cellsB (i := 0) h.blk).trans rfl, (cellsB (i := 1) h.blk).trans rfl, (cellsB (i := 2) h.blk).trans rfl, (cellsB (i := 3) h.blk).trans rfl, (cellsB (i := 4) h.blk).trans rfl, (cellsB (i := 5) h.blk).trans rfl, (cellsB (i := 6) h.blk).trans rfl, (cellsB (i := 7) h.blk).trans rfl, (cellsB (i := 8) h.blk).trans rfl, (cellsB (i := 9) h.blk).trans rfl, (cellsB (i := 10) h.blk).trans rfl⟩
set_option maxRecDepth 100000 in
set_option maxHeartbeats 1000000 in
theorem steps_c (s : S11) (w : World) : Calls Try.prog 61 #[s.val] w (RA w (stepsL s)) := by
  obtain ⟨⟨b, c, d, m0, m1, m2, p⟩, ph, st, re, si⟩ := s
  unfold S11.val
  simp only
  by_cases h1 : ph = 1
  · subst h1
    have e : stepsL ⟨⟨b, c, d, m0, m1, m2, p⟩, 1, st, re, si⟩ = forwardL ⟨b, c, d, m0, m1, m2, p⟩ := by simp [stepsL]
    rw [e]
    have F := Lib.hid (forward_c ⟨b, c, d, m0, m1, m2, p⟩)
    unfold W7.val at F
    clear e
    go_enter Try.func61, Try.ntmps61
    go_wp2_with fail
    refine (F.out _).mono ?_
    rintro e w2 ⟨v, rfl, ho, hb⟩
    have HO := Lib.hid ho
    have HB := Lib.hid hb
    clear ho hb
    go_wp2
    go_ret
    exact ⟨_, rfl, own_mono HO.out (by simp), ((Below.refl _ _).alloc (Nat.le_refl _) _).trans (HB.out.mono (by simp))⟩
  by_cases h2 : ph = 2
  · subst h2
    have e : stepsL ⟨⟨b, c, d, m0, m1, m2, p⟩, 2, st, re, si⟩ = [captureA ⟨b, c, d, m0, m1, m2, p⟩] := by simp [stepsL]
    rw [e]
    obtain ⟨a, ha⟩ : ∃ a, captureA ⟨b, c, d, m0, m1, m2, p⟩ = a := ⟨_, rfl⟩
    have F := Lib.hid (capture_c ⟨b, c, d, m0, m1, m2, p⟩)
    rw [ha] at F ⊢
    unfold W7.val A6.val at F
    clear e ha
    go_enter Try.func61, Try.ntmps61
    go_wp2_with fail
    refine (F.out _).mono ?_
    rintro e w2 ⟨rfl, hb⟩
    have HB := Lib.hid hb
    have hz := hb.size
    clear hb
    go_wp2
    go_ret
    exact ⟨_, rfl, OA.lit1 w2 _ a _ rfl (by simp at hz; omega), ((((Below.refl _ _).alloc (Nat.le_refl _) _).trans (HB.out.mono (by simp))).alloc (by simp at hz; omega) _)⟩
  by_cases h3 : ph = 3
  · subst h3
    have e : stepsL ⟨⟨b, c, d, m0, m1, m2, p⟩, 3, st, re, si⟩ = backL ⟨b, c, d, m0, m1, m2, p⟩ := by simp [stepsL]
    rw [e]
    have F := Lib.hid (back_c ⟨b, c, d, m0, m1, m2, p⟩)
    unfold W7.val at F
    clear e
    go_enter Try.func61, Try.ntmps61
    go_wp2_with fail
    refine (F.out _).mono ?_
    rintro e w2 ⟨v, rfl, ho, hb⟩
    have HO := Lib.hid ho
    have HB := Lib.hid hb
    clear ho hb
    go_wp2
    go_ret
    exact ⟨_, rfl, own_mono HO.out (by simp), ((Below.refl _ _).alloc (Nat.le_refl _) _).trans (HB.out.mono (by simp))⟩
  have b1 : (ph == 1) = false := beq_eq_false_iff_ne.2 h1
  have b2 : (ph == 2) = false := beq_eq_false_iff_ne.2 h2
  have b3 : (ph == 3) = false := beq_eq_false_iff_ne.2 h3
  have e : stepsL ⟨⟨b, c, d, m0, m1, m2, p⟩, ph, st, re, si⟩ = [] := by simp [stepsL, h1, h2, h3]
  rw [e]
  go_enter Try.func61, Try.ntmps61
  go_wp2
  go_ret
  exact ⟨_, rfl, World.ownsRow_nil _ _ _ _, (Below.refl _ _).alloc (Nat.le_refl _) _⟩
end Go.Proofs.Ytplgodfhhlnojaa

/- saga.May, walked (printed by gensaga.py). -/
namespace Go.Proofs.Ytplgodfhhlnojaa
open Go.RowKit
set_option maxRecDepth 100000 in
set_option maxHeartbeats 2000000 in
theorem smay_c (s : S11) (w : World) : Calls Try.prog 20 #[s.val] w fun e w' => e = .returned (.bool (decide (MayS s))) ∧ Below w.heap.size w w' := by
  obtain ⟨⟨b, c, d, m0, m1, m2, p⟩, ph, st, re, si⟩ := s
  obtain ⟨n, hn⟩ : ∃ n, (stepsL ⟨⟨b, c, d, m0, m1, m2, p⟩, ph, st, re, si⟩).length = n := ⟨_, rfl⟩
  have ST := Lib.hid (steps_c ⟨⟨b, c, d, m0, m1, m2, p⟩, ph, st, re, si⟩)
  have HNN := Lib.hid hn
  clear hn
  cases hw : decide (MayW ⟨b, c, d, m0, m1, m2, p⟩)
  · have HM := Lib.hid (fun W => may_is ⟨b, c, d, m0, m1, m2, p⟩ false hw W)
    have HW := Lib.hid (of_decide_eq_false hw)
    clear hw
    unfold S11.val
    unfold W7.val at HM
    simp only at HM ⊢
    go_enter Try.func20, Try.ntmps20
    go_wp2_with fail
    refine (HM.out _).mono ?_
    rintro e w2 ⟨rfl, hb⟩
    have HB := Lib.hid (((Below.refl w.heap.size w).alloc (Nat.le_refl _) _).trans (hb.mono (by simp)))
    clear hb
    go_wp2
    go_ret
    exact ⟨ret_bool (decide_eq_false (show ¬ MayS _ from fun h => HW.out h.1)).symm, HB.out⟩
  have HM := Lib.hid (fun W => may_is ⟨b, c, d, m0, m1, m2, p⟩ true hw W)
  have HW := Lib.hid (of_decide_eq_true hw)
  clear hw
  unfold S11.val at ST ⊢
  unfold RA at ST
  unfold W7.val at HM
  simp only at HM ST ⊢
  by_cases hs6 : si < 0
  · go_enter Try.func20, Try.ntmps20
    go_wp2_with fail
    refine (HM.out _).mono ?_
    rintro e w2 ⟨rfl, hb⟩
    have BB : CS w ⟨⟨b, c, d, m0, m1, m2, p⟩, ph, st, re, si⟩ w2 := (CS.first w ⟨⟨b, c, d, m0, m1, m2, p⟩, ph, st, re, si⟩).next hb
    clear hb
    obtain ⟨c0, c1, c2, c3, c4, c5, c6, c7, c8, c9, c10⟩ := BB.cells
    have HB := Lib.hid BB
    clear BB
    go_wp2
    go_ret
    exact ⟨ret_bool (decide_eq_false (show ¬ MayS _ from fun h => by obtain ⟨g1, g2, g3, g4⟩ := h; simp only at g2 g3 g4; have := HNN.out; omega)).symm, HB.out.below⟩
  by_cases hs18 : 1099511627776 < si
  · go_enter Try.func20, Try.ntmps20
    go_wp2_with fail
    refine (HM.out _).mono ?_
    rintro e w2 ⟨rfl, hb⟩
    have BB : CS w ⟨⟨b, c, d, m0, m1, m2, p⟩, ph, st, re, si⟩ w2 := (CS.first w ⟨⟨b, c, d, m0, m1, m2, p⟩, ph, st, re, si⟩).next hb
    clear hb
    obtain ⟨c0, c1, c2, c3, c4, c5, c6, c7, c8, c9, c10⟩ := BB.cells
    have HB := Lib.hid BB
    clear BB
    go_wp2
    go_ret
    exact ⟨ret_bool (decide_eq_false (show ¬ MayS _ from fun h => by obtain ⟨g1, g2, g3, g4⟩ := h; simp only at g2 g3 g4; have := HNN.out; omega)).symm, HB.out.below⟩
  obtain ⟨r, hr⟩ : ∃ r, decide (0 ≤ st ∧ (st < n ∨ st < 1)) = r := ⟨_, rfl⟩
  have HR := Lib.hid hr
  clear hr
  go_enter Try.func20, Try.ntmps20
  go_wp2_with fail
  refine (HM.out _).mono ?_
  rintro e w2 ⟨rfl, hb⟩
  have BB : CS w ⟨⟨b, c, d, m0, m1, m2, p⟩, ph, st, re, si⟩ w2 := (CS.first w ⟨⟨b, c, d, m0, m1, m2, p⟩, ph, st, re, si⟩).next hb
  clear hb
  obtain ⟨c0, c1, c2, c3, c4, c5, c6, c7, c8, c9, c10⟩ := BB.cells
  have HB := Lib.hid BB
  go_upto_region 4 with fail
  go_cut [3] (fun t wx => t = .bool r ∧ Hid (CS w ⟨⟨b, c, d, m0, m1, m2, p⟩, ph, st, re, si⟩ wx))
  case first =>
    clear HB
    by_cases h0 : st < 0
    · have d0 : decide (0 ≤ st) = false := decide_eq_false (by omega)
      go_quiet (fail)
      go_wp2_with fail
      go_meet
      exact ⟨congrArg Value.bool (by rw [← HR.out]; exact (decide_eq_false (by omega)).symm), Lib.hid (below_drewN BB _)⟩
    have d0 : decide (0 ≤ st) = true := decide_eq_true (by omega)
    go_region_held3 (fun w' => w'.cell? ⟨w.heap.size, 0, none⟩ = some (.int .i64 b) ∧ w'.cell? ⟨w.heap.size, 1, none⟩ = some (.int .i64 c) ∧ w'.cell? ⟨w.heap.size, 2, none⟩ = some (.int .i64 d) ∧ w'.cell? ⟨w.heap.size, 3, none⟩ = some (.int .i64 m0) ∧ w'.cell? ⟨w.heap.size, 4, none⟩ = some (.int .i64 m1) ∧ w'.cell? ⟨w.heap.size, 5, none⟩ = some (.int .i64 m2) ∧ w'.cell? ⟨w.heap.size, 6, none⟩ = some (.int .i64 p) ∧ w'.cell? ⟨w.heap.size, 7, none⟩ = some (.int .i64 ph) ∧ w'.cell? ⟨w.heap.size, 8, none⟩ = some (.int .i64 st) ∧ w'.cell? ⟨w.heap.size, 9, none⟩ = some (.int .i64 re) ∧ w'.cell? ⟨w.heap.size, 10, none⟩ = some (.int .i64 si)) (first | go_keep | exact CS.cells BB) ((go_at_call 61; refine (ST.out _).mono ?_; rintro e w3 ⟨v3, rfl, HF, hB⟩; (have HF2 := Lib.hid HF); obtain ⟨AF, cF, rfl, _, _, _⟩ := own_form HF; (first | replace BB := CS.next BB hB | replace BB := CS.next (CS.drew BB) hB); clear hB HF))
    all_goals go_wp2_with fail
    all_goals (go_meet; exact ⟨congrArg Value.bool (by rw [← HR.out]; exact decide_eq_decide.2 (by have := HNN.out; first | omega | (split <;> omega))), by first | exact Lib.hid BB | exact Lib.hid BB.drew | exact Lib.hid (below_drewN BB _)⟩)
  case rest =>
    obtain ⟨rfl, HC⟩ := hcut
    have BC := HC.out
    obtain ⟨a0, a1, a2, a3, a4, a5, a6, a7, a8, a9, a10⟩ := BC.cells
    clear c0 c1 c2 c3 c4 c5 c6 c7 c8 c9 c10 HB BB ST HM
    have hr := HR.out
    cases r
    · have hr2 := of_decide_eq_false hr
      by_cases p1 : ph = 1
      · subst p1
        go_wp2
        go_ret
        exact ⟨ret_bool (decide_eq_false (show ¬ MayS _ from fun h => by obtain ⟨g1, g2, g3, g4⟩ := h; simp only at g2 g3 g4; have := HNN.out; omega)).symm, BC.below⟩
      by_cases p2 : ph = 2
      · subst p2
        go_wp2
        go_ret
        exact ⟨ret_bool (decide_eq_false (show ¬ MayS _ from fun h => by obtain ⟨g1, g2, g3, g4⟩ := h; simp only at g2 g3 g4; have := HNN.out; omega)).symm, BC.below⟩
      by_cases p4 : ph = 4
      · subst p4
        go_wp2
        go_ret
        exact ⟨ret_bool (decide_eq_false (show ¬ MayS _ from fun h => by obtain ⟨g1, g2, g3, g4⟩ := h; simp only at g2 g3 g4; have := HNN.out; omega)).symm, BC.below⟩
      by_cases p3 : ph = 3
      · subst p3
        go_wp2
        go_ret
        exact ⟨ret_bool (decide_eq_false (show ¬ MayS _ from fun h => by obtain ⟨g1, g2, g3, g4⟩ := h; simp only at g2 g3 g4; have := HNN.out; omega)).symm, BC.below⟩
      by_cases p5 : ph = 5
      · subst p5
        go_wp2
        go_ret
        exact ⟨ret_bool (decide_eq_false (show ¬ MayS _ from fun h => by obtain ⟨g1, g2, g3, g4⟩ := h; simp only at g2 g3 g4; have := HNN.out; omega)).symm, BC.below⟩
      have b1 : (ph == 1) = false := beq_eq_false_iff_ne.2 p1
      have b2 : (ph == 2) = false := beq_eq_false_iff_ne.2 p2
      have b3 : (ph == 3) = false := beq_eq_false_iff_ne.2 p3
      have b4 : (ph == 4) = false := beq_eq_false_iff_ne.2 p4
      have b5 : (ph == 5) = false := beq_eq_false_iff_ne.2 p5
      go_wp2
      go_ret
      exact ⟨ret_bool (decide_eq_false (show ¬ MayS _ from fun h => by obtain ⟨g1, g2, g3, g4⟩ := h; simp only at g2 g3 g4; have := HNN.out; omega)).symm, BC.below⟩
    · have hr2 := of_decide_eq_true hr
      by_cases p1 : ph = 1
      · subst p1
        by_cases hre : re = 0
        · subst hre
          skip
          go_wp2
          go_ret
          exact ⟨ret_bool (decide_eq_true (show MayS ⟨⟨b, c, d, m0, m1, m2, p⟩, 1, st, 0, si⟩ from ⟨HW.out, by simp only; omega, by simp only; have := HNN.out; omega, by first | (simp; done) | (simp; omega)⟩)).symm, BC.below⟩
        have hre2 : (re == 0) = false := beq_eq_false_iff_ne.2 hre
        go_wp2
        go_ret
        exact ⟨ret_bool (decide_eq_false (show ¬ MayS _ from fun h => by obtain ⟨g1, g2, g3, g4⟩ := h; simp only at g2 g3 g4; have := HNN.out; omega)).symm, BC.below⟩
      by_cases p2 : ph = 2
      · subst p2
        by_cases hre : re = 0
        · subst hre
          skip
          go_wp2
          go_ret
          exact ⟨ret_bool (decide_eq_true (show MayS ⟨⟨b, c, d, m0, m1, m2, p⟩, 2, st, 0, si⟩ from ⟨HW.out, by simp only; omega, by simp only; have := HNN.out; omega, by first | (simp; done) | (simp; omega)⟩)).symm, BC.below⟩
        have hre2 : (re == 0) = false := beq_eq_false_iff_ne.2 hre
        go_wp2
        go_ret
        exact ⟨ret_bool (decide_eq_false (show ¬ MayS _ from fun h => by obtain ⟨g1, g2, g3, g4⟩ := h; simp only at g2 g3 g4; have := HNN.out; omega)).symm, BC.below⟩
      by_cases p4 : ph = 4
      · subst p4
        by_cases hre : re = 0
        · subst hre
          skip
          go_wp2
          go_ret
          exact ⟨ret_bool (decide_eq_true (show MayS ⟨⟨b, c, d, m0, m1, m2, p⟩, 4, st, 0, si⟩ from ⟨HW.out, by simp only; omega, by simp only; have := HNN.out; omega, by first | (simp; done) | (simp; omega)⟩)).symm, BC.below⟩
        have hre2 : (re == 0) = false := beq_eq_false_iff_ne.2 hre
        go_wp2
        go_ret
        exact ⟨ret_bool (decide_eq_false (show ¬ MayS _ from fun h => by obtain ⟨g1, g2, g3, g4⟩ := h; simp only at g2 g3 g4; have := HNN.out; omega)).symm, BC.below⟩
      by_cases p3 : ph = 3
      · subst p3
        by_cases hr1 : re < 1
        · skip
          go_wp2
          go_ret
          exact ⟨ret_bool (decide_eq_false (show ¬ MayS _ from fun h => by obtain ⟨g1, g2, g3, g4⟩ := h; simp only at g2 g3 g4; have := HNN.out; omega)).symm, BC.below⟩
        by_cases hr4 : 4 < re
        · skip
          go_wp2
          go_ret
          exact ⟨ret_bool (decide_eq_false (show ¬ MayS _ from fun h => by obtain ⟨g1, g2, g3, g4⟩ := h; simp only at g2 g3 g4; have := HNN.out; omega)).symm, BC.below⟩
        by_cases hr3 : re = 3
        · subst hr3
          by_cases hd : 0 < d
          · skip
            go_wp2
            go_ret
            exact ⟨ret_bool (decide_eq_true (show MayS ⟨⟨b, c, d, m0, m1, m2, p⟩, 3, st, 3, si⟩ from ⟨HW.out, by simp only; omega, by simp only; have := HNN.out; omega, by first | (simp; done) | (simp; omega)⟩)).symm, BC.below⟩
          go_wp2
          go_ret
          exact ⟨ret_bool (decide_eq_false (show ¬ MayS _ from fun h => by obtain ⟨g1, g2, g3, g4⟩ := h; simp only at g2 g3 g4; have := HNN.out; omega)).symm, BC.below⟩
        have hre2 : (re == 3) = false := beq_eq_false_iff_ne.2 hr3
        go_wp2
        go_ret
        exact ⟨ret_bool (decide_eq_true (show MayS ⟨⟨b, c, d, m0, m1, m2, p⟩, 3, st, re, si⟩ from ⟨HW.out, by simp only; omega, by simp only; have := HNN.out; omega, by first | (simp; done) | (simp; omega)⟩)).symm, BC.below⟩
      by_cases p5 : ph = 5
      · subst p5
        by_cases hr1 : re < 1
        · skip
          go_wp2
          go_ret
          exact ⟨ret_bool (decide_eq_false (show ¬ MayS _ from fun h => by obtain ⟨g1, g2, g3, g4⟩ := h; simp only at g2 g3 g4; have := HNN.out; omega)).symm, BC.below⟩
        by_cases hr4 : 4 < re
        · skip
          go_wp2
          go_ret
          exact ⟨ret_bool (decide_eq_false (show ¬ MayS _ from fun h => by obtain ⟨g1, g2, g3, g4⟩ := h; simp only at g2 g3 g4; have := HNN.out; omega)).symm, BC.below⟩
        by_cases hr3 : re = 3
        · subst hr3
          by_cases hd : 0 < d
          · skip
            go_wp2
            go_ret
            exact ⟨ret_bool (decide_eq_true (show MayS ⟨⟨b, c, d, m0, m1, m2, p⟩, 5, st, 3, si⟩ from ⟨HW.out, by simp only; omega, by simp only; have := HNN.out; omega, by first | (simp; done) | (simp; omega)⟩)).symm, BC.below⟩
          go_wp2
          go_ret
          exact ⟨ret_bool (decide_eq_false (show ¬ MayS _ from fun h => by obtain ⟨g1, g2, g3, g4⟩ := h; simp only at g2 g3 g4; have := HNN.out; omega)).symm, BC.below⟩
        have hre2 : (re == 3) = false := beq_eq_false_iff_ne.2 hr3
        go_wp2
        go_ret
        exact ⟨ret_bool (decide_eq_true (show MayS ⟨⟨b, c, d, m0, m1, m2, p⟩, 5, st, re, si⟩ from ⟨HW.out, by simp only; omega, by simp only; have := HNN.out; omega, by first | (simp; done) | (simp; omega)⟩)).symm, BC.below⟩
      have b1 : (ph == 1) = false := beq_eq_false_iff_ne.2 p1
      have b2 : (ph == 2) = false := beq_eq_false_iff_ne.2 p2
      have b3 : (ph == 3) = false := beq_eq_false_iff_ne.2 p3
      have b4 : (ph == 4) = false := beq_eq_false_iff_ne.2 p4
      have b5 : (ph == 5) = false := beq_eq_false_iff_ne.2 p5
      go_wp2
      go_ret
      exact ⟨ret_bool (decide_eq_false (show ¬ MayS _ from fun h => by obtain ⟨g1, g2, g3, g4⟩ := h; simp only at g2 g3 g4; have := HNN.out; omega)).symm, BC.below⟩
end Go.Proofs.Ytplgodfhhlnojaa
