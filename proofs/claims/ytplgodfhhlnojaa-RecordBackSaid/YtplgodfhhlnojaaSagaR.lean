/- sojournref14.May, walked (printed by gensagar.py). -/
import Derived.Test.YtplgodfhhlnojaaS7
import Derived.Outline
import Derived.Deep.RegionLaw
set_option linter.unusedSimpArgs false
set_option linter.unusedVariables false
namespace Go.Proofs.Ytplgodfhhlnojaa
open Go.RowKit
instance (x : W7) (r : Int) : Decidable (ReOk x r) := by unfold ReOk; infer_instance
set_option maxRecDepth 100000 in
set_option maxHeartbeats 4000000 in
theorem rmay14_c (s : S11) (w : World) : Calls Try.prog 21 #[s.val] w fun e w' => e = .returned (.bool (decide (MayS s))) ∧ Below w.heap.size w w' := by
  obtain ⟨⟨b, c, d, m0, m1, m2, p⟩, ph, st, re, si⟩ := s
  cases hw : decide (MayW ⟨b, c, d, m0, m1, m2, p⟩)
  · have HM := Lib.hid (fun W => rmay_is ⟨b, c, d, m0, m1, m2, p⟩ false hw W)
    have HW := Lib.hid (of_decide_eq_false hw)
    clear hw
    unfold S11.val
    unfold W7.val at HM
    simp only at HM ⊢
    go_enter Try.func21, Try.ntmps21
    go_wp2_with fail
    refine (HM.out _).mono ?_
    rintro e w2 ⟨rfl, hb⟩
    have HB := Lib.hid (((Below.refl w.heap.size w).alloc (Nat.le_refl _) _).trans (hb.mono (by simp)))
    clear hb
    go_wp2
    go_ret
    exact ⟨ret_bool (decide_eq_false (show ¬ MayS _ from fun h => HW.out h.1)).symm, HB.out⟩
  have HM := Lib.hid (fun W => rmay_is ⟨b, c, d, m0, m1, m2, p⟩ true hw W)
  have HW := Lib.hid (of_decide_eq_true hw)
  clear hw
  have FC := Lib.hid (fun W => rforward_c ⟨b, c, d, m0, m1, m2, p⟩ W)
  have KC := Lib.hid (fun W => rback_c ⟨b, c, d, m0, m1, m2, p⟩ W)
  obtain ⟨l, hl⟩ : ∃ l, forwardL ⟨b, c, d, m0, m1, m2, p⟩ = l := ⟨_, rfl⟩
  obtain ⟨r, hr⟩ : ∃ r, backL ⟨b, c, d, m0, m1, m2, p⟩ = r := ⟨_, rfl⟩
  have hlp := (fwd_pos ⟨b, c, d, m0, m1, m2, p⟩ HW.out).1
  have hrp := (bck_pos ⟨b, c, d, m0, m1, m2, p⟩ HW.out).1
  rw [hl] at FC hlp
  rw [hr] at KC hrp
  unfold RRA at FC KC
  have HL := Lib.hid (show ∀ z1 z2 z3 : Int, stepsL ⟨⟨b, c, d, m0, m1, m2, p⟩, 1, z1, z2, z3⟩ = l from fun z1 z2 z3 => (stepsL_1 _ _ _ _).trans hl)
  have HR := Lib.hid (show ∀ z1 z2 z3 : Int, stepsL ⟨⟨b, c, d, m0, m1, m2, p⟩, 3, z1, z2, z3⟩ = r from fun z1 z2 z3 => (stepsL_3 _ _ _ _).trans hr)
  clear hl hr
  unfold S11.val
  unfold W7.val at HM FC KC
  simp only at HM FC KC ⊢
  by_cases hs1 : si < 0
  · go_enter Try.func21, Try.ntmps21
    go_wp2_with fail
    refine (HM.out _).mono ?_
    rintro e w2 ⟨rfl, hb⟩
    have BB : CS w ⟨⟨b, c, d, m0, m1, m2, p⟩, ph, st, re, si⟩ w2 := (CS.first w ⟨⟨b, c, d, m0, m1, m2, p⟩, ph, st, re, si⟩).next hb
    clear hb
    obtain ⟨c0, c1, c2, c3, c4, c5, c6, c7, c8, c9, c10⟩ := BB.cells
    have HB := Lib.hid BB
    clear BB
    go_wp2
    go_ret
    exact ⟨ret_bool (decide_eq_false (show ¬ MayS _ from fun h => by obtain ⟨g1, g2, g3, g4⟩ := h; (try simp only at g2 g3 g4); omega)).symm, HB.out.below⟩
  by_cases hs2 : 1099511627776 < si
  · go_enter Try.func21, Try.ntmps21
    go_wp2_with fail
    refine (HM.out _).mono ?_
    rintro e w2 ⟨rfl, hb⟩
    have BB : CS w ⟨⟨b, c, d, m0, m1, m2, p⟩, ph, st, re, si⟩ w2 := (CS.first w ⟨⟨b, c, d, m0, m1, m2, p⟩, ph, st, re, si⟩).next hb
    clear hb
    obtain ⟨c0, c1, c2, c3, c4, c5, c6, c7, c8, c9, c10⟩ := BB.cells
    have HB := Lib.hid BB
    clear BB
    go_wp2
    go_ret
    exact ⟨ret_bool (decide_eq_false (show ¬ MayS _ from fun h => by obtain ⟨g1, g2, g3, g4⟩ := h; (try simp only at g2 g3 g4); omega)).symm, HB.out.below⟩
  obtain ⟨y, hy⟩ : ∃ y, decide (ReOk ⟨b, c, d, m0, m1, m2, p⟩ re) = y := ⟨_, rfl⟩
  have HY := Lib.hid hy
  clear hy
  go_enter Try.func21, Try.ntmps21
  go_wp2_with fail
  refine (HM.out _).mono ?_
  rintro e w2 ⟨rfl, hb⟩
  have BB : CS w ⟨⟨b, c, d, m0, m1, m2, p⟩, ph, st, re, si⟩ w2 := (CS.first w ⟨⟨b, c, d, m0, m1, m2, p⟩, ph, st, re, si⟩).next hb
  clear hb
  obtain ⟨c0, c1, c2, c3, c4, c5, c6, c7, c8, c9, c10⟩ := BB.cells
  have HB := Lib.hid BB
  go_upto_region 3 with fail
  go_cut [3] (fun t wx => t = .bool y ∧ Hid (CS w ⟨⟨b, c, d, m0, m1, m2, p⟩, ph, st, re, si⟩ wx))
  case first =>
    clear HB FC KC HM
    by_cases r1 : re < 1
    · go_wp2_with fail
      go_meet
      exact ⟨congrArg Value.bool (by rw [← HY.out]; exact (decide_eq_false (by unfold ReOk; simp only; omega)).symm), Lib.hid BB⟩
    by_cases r4 : 4 < re
    · go_wp2_with fail
      go_meet
      exact ⟨congrArg Value.bool (by rw [← HY.out]; exact (decide_eq_false (by unfold ReOk; simp only; omega)).symm), Lib.hid BB⟩
    by_cases r3 : re = 3
    · subst r3
      by_cases hd : 0 < d
      · go_wp2_with fail
        go_meet
        exact ⟨congrArg Value.bool (by rw [← HY.out]; exact (decide_eq_true (by unfold ReOk; simp only; omega)).symm), Lib.hid BB⟩
      go_wp2_with fail
      go_meet
      exact ⟨congrArg Value.bool (by rw [← HY.out]; exact (decide_eq_false (by unfold ReOk; simp only; omega)).symm), Lib.hid BB⟩
    have r3b : (re == 3) = false := beq_eq_false_iff_ne.2 r3
    go_wp2_with fail
    go_meet
    exact ⟨congrArg Value.bool (by rw [← HY.out]; exact (decide_eq_true (by unfold ReOk; simp only; omega)).symm), Lib.hid BB⟩
  case rest =>
    obtain ⟨rfl, HC⟩ := hcut
    have BC := HC.out
    obtain ⟨a0, a1, a2, a3, a4, a5, a6, a7, a8, a9, a10⟩ := BC.cells
    clear c0 c1 c2 c3 c4 c5 c6 c7 c8 c9 c10 HB BB HM
    by_cases p1 : ph = 1
    · subst p1
      by_cases h0 : st < 0
      · have d0 : decide (0 ≤ st) = false := decide_eq_false (by omega)
        go_wp2_with fail
        go_quiet (fail)
        go_wp2_with fail
        go_ret
        exact ⟨ret_bool (decide_eq_false (show ¬ MayS _ from fun h => by obtain ⟨g1, g2, g3, g4⟩ := h; (try simp only at g2 g3 g4); omega)).symm, (below_drewN BC.below _)⟩
      have d0 : decide (0 ≤ st) = true := decide_eq_true (by omega)
      by_cases hlt : st < (l.length : Int)
      · have d1 : decide (st < (l.length : Int)) = true := decide_eq_true hlt
        by_cases hre : re = 0
        · subst hre
          go_wp2_with fail
          go_region_held3 (fun w' => w'.cell? ⟨w.heap.size, 0, none⟩ = some (.int .i64 b) ∧ w'.cell? ⟨w.heap.size, 1, none⟩ = some (.int .i64 c) ∧ w'.cell? ⟨w.heap.size, 2, none⟩ = some (.int .i64 d) ∧ w'.cell? ⟨w.heap.size, 3, none⟩ = some (.int .i64 m0) ∧ w'.cell? ⟨w.heap.size, 4, none⟩ = some (.int .i64 m1) ∧ w'.cell? ⟨w.heap.size, 5, none⟩ = some (.int .i64 m2) ∧ w'.cell? ⟨w.heap.size, 6, none⟩ = some (.int .i64 p) ∧ w'.cell? ⟨w.heap.size, 7, none⟩ = some (.int .i64 1) ∧ w'.cell? ⟨w.heap.size, 8, none⟩ = some (.int .i64 st) ∧ w'.cell? ⟨w.heap.size, 9, none⟩ = some (.int .i64 0) ∧ w'.cell? ⟨w.heap.size, 10, none⟩ = some (.int .i64 si)) (first | go_keep | exact CS.cells BC | exact CS.cells BC.drew) ((go_at_call 62; refine (FC.out _).mono ?_; rintro e w3 ⟨v3, rfl, HF, hB⟩; obtain ⟨AF, cF, rfl, _, _, _⟩ := own_form HF; (first | replace BC := CS.next BC hB | replace BC := CS.next (CS.drew BC) hB); clear hB HF))
          all_goals go_wp2_with fail
          all_goals
            go_ret
            exact ⟨ret_bool (decide_eq_true (show MayS ⟨⟨b, c, d, m0, m1, m2, p⟩, 1, st, 0, si⟩ from ⟨HW.out, by simp only; omega, by rw [HL.out]; simp only; omega, by simp⟩)).symm, BC.below⟩
        have hre2 : (re == 0) = false := beq_eq_false_iff_ne.2 hre
        go_wp2_with fail
        go_region_held3 (fun w' => w'.cell? ⟨w.heap.size, 0, none⟩ = some (.int .i64 b) ∧ w'.cell? ⟨w.heap.size, 1, none⟩ = some (.int .i64 c) ∧ w'.cell? ⟨w.heap.size, 2, none⟩ = some (.int .i64 d) ∧ w'.cell? ⟨w.heap.size, 3, none⟩ = some (.int .i64 m0) ∧ w'.cell? ⟨w.heap.size, 4, none⟩ = some (.int .i64 m1) ∧ w'.cell? ⟨w.heap.size, 5, none⟩ = some (.int .i64 m2) ∧ w'.cell? ⟨w.heap.size, 6, none⟩ = some (.int .i64 p) ∧ w'.cell? ⟨w.heap.size, 7, none⟩ = some (.int .i64 1) ∧ w'.cell? ⟨w.heap.size, 8, none⟩ = some (.int .i64 st) ∧ w'.cell? ⟨w.heap.size, 9, none⟩ = some (.int .i64 re) ∧ w'.cell? ⟨w.heap.size, 10, none⟩ = some (.int .i64 si)) (first | go_keep | exact CS.cells BC | exact CS.cells BC.drew) ((go_at_call 62; refine (FC.out _).mono ?_; rintro e w3 ⟨v3, rfl, HF, hB⟩; obtain ⟨AF, cF, rfl, _, _, _⟩ := own_form HF; (first | replace BC := CS.next BC hB | replace BC := CS.next (CS.drew BC) hB); clear hB HF))
        all_goals go_wp2_with fail
        all_goals
          go_ret
          exact ⟨ret_bool (decide_eq_false (show ¬ MayS _ from fun h => by obtain ⟨g1, g2, g3, g4⟩ := h; (try simp only at g2 g3 g4); omega)).symm, BC.below⟩
      have d1 : decide (st < (l.length : Int)) = false := decide_eq_false hlt
      go_wp2_with fail
      first | go_region_law (first | (go_simp; go_at_call 62; refine (FC.out _).mono ?_; rintro e w3 ⟨v3, rfl, HF, hB⟩; (obtain ⟨AF, cF, rfl, _, _, _⟩ := own_form HF); (first | replace BC := CS.next BC hB | replace BC := CS.next (CS.drew BC) hB); (obtain ⟨q0, q1, q2, q3, q4, q5, q6, q7, q8, q9, q10⟩ := CS.cells BC); clear hB HF)) | skip
      all_goals go_wp2_with fail
      all_goals
        go_ret
        exact ⟨ret_bool (decide_eq_false (show ¬ MayS _ from fun h => by obtain ⟨g1, g2, g3, g4⟩ := h; (try simp only at g2 g3 g4); rw [HL.out] at g3; omega)).symm, BC.below⟩
    by_cases p2 : ph = 2
    · subst p2
      by_cases h0 : st = 0
      · subst h0
        by_cases hre : re = 0
        · subst hre
          go_wp2
          go_ret
          exact ⟨ret_bool (decide_eq_true (show MayS ⟨⟨b, c, d, m0, m1, m2, p⟩, 2, 0, 0, si⟩ from ⟨HW.out, by simp only; omega, by simp, by simp⟩)).symm, BC.below⟩
        have hre2 : (re == 0) = false := beq_eq_false_iff_ne.2 hre
        go_wp2
        go_ret
        exact ⟨ret_bool (decide_eq_false (show ¬ MayS _ from fun h => by obtain ⟨g1, g2, g3, g4⟩ := h; (try simp only at g2 g3 g4); omega)).symm, BC.below⟩
      have h0b : (st == 0) = false := beq_eq_false_iff_ne.2 h0
      go_wp2
      go_ret
      exact ⟨ret_bool (decide_eq_false (show ¬ MayS _ from fun h => by obtain ⟨g1, g2, g3, g4⟩ := h; (try simp only at g2 g3 g4); rw [stepsL_2] at g3; simp at g3; omega)).symm, BC.below⟩
    by_cases p4 : ph = 4
    · subst p4
      by_cases h0 : st = 0
      · subst h0
        by_cases hre : re = 0
        · subst hre
          go_wp2
          go_ret
          exact ⟨ret_bool (decide_eq_true (show MayS ⟨⟨b, c, d, m0, m1, m2, p⟩, 4, 0, 0, si⟩ from ⟨HW.out, by simp only; omega, by simp, by simp⟩)).symm, BC.below⟩
        have hre2 : (re == 0) = false := beq_eq_false_iff_ne.2 hre
        go_wp2
        go_ret
        exact ⟨ret_bool (decide_eq_false (show ¬ MayS _ from fun h => by obtain ⟨g1, g2, g3, g4⟩ := h; (try simp only at g2 g3 g4); omega)).symm, BC.below⟩
      have h0b : (st == 0) = false := beq_eq_false_iff_ne.2 h0
      go_wp2
      go_ret
      exact ⟨ret_bool (decide_eq_false (show ¬ MayS _ from fun h => by obtain ⟨g1, g2, g3, g4⟩ := h; (try simp only at g2 g3 g4); rw [stepsL_4] at g3; simp at g3; omega)).symm, BC.below⟩
    by_cases p3 : ph = 3
    · subst p3
      by_cases h0 : st < 0
      · have d0 : decide (0 ≤ st) = false := decide_eq_false (by omega)
        go_wp2_with fail
        go_quiet (fail)
        go_wp2_with fail
        go_ret
        exact ⟨ret_bool (decide_eq_false (show ¬ MayS _ from fun h => by obtain ⟨g1, g2, g3, g4⟩ := h; (try simp only at g2 g3 g4); omega)).symm, (below_drewN BC.below _)⟩
      have d0 : decide (0 ≤ st) = true := decide_eq_true (by omega)
      by_cases hlt : st < (r.length : Int)
      · have d1 : decide (st < (r.length : Int)) = true := decide_eq_true hlt
        cases y
        · have hy := of_decide_eq_false HY.out
          unfold ReOk at hy
          simp only at hy
          go_wp2_with fail
          go_region_held3 (fun w' => w'.cell? ⟨w.heap.size, 0, none⟩ = some (.int .i64 b) ∧ w'.cell? ⟨w.heap.size, 1, none⟩ = some (.int .i64 c) ∧ w'.cell? ⟨w.heap.size, 2, none⟩ = some (.int .i64 d) ∧ w'.cell? ⟨w.heap.size, 3, none⟩ = some (.int .i64 m0) ∧ w'.cell? ⟨w.heap.size, 4, none⟩ = some (.int .i64 m1) ∧ w'.cell? ⟨w.heap.size, 5, none⟩ = some (.int .i64 m2) ∧ w'.cell? ⟨w.heap.size, 6, none⟩ = some (.int .i64 p) ∧ w'.cell? ⟨w.heap.size, 7, none⟩ = some (.int .i64 3) ∧ w'.cell? ⟨w.heap.size, 8, none⟩ = some (.int .i64 st) ∧ w'.cell? ⟨w.heap.size, 9, none⟩ = some (.int .i64 re) ∧ w'.cell? ⟨w.heap.size, 10, none⟩ = some (.int .i64 si)) (first | go_keep | exact CS.cells BC | exact CS.cells BC.drew) ((go_at_call 64; refine (KC.out _).mono ?_; rintro e w3 ⟨v3, rfl, HF, hB⟩; obtain ⟨AF, cF, rfl, _, _, _⟩ := own_form HF; (first | replace BC := CS.next BC hB | replace BC := CS.next (CS.drew BC) hB); clear hB HF))
          all_goals go_wp2_with fail
          all_goals
            go_ret
            exact ⟨ret_bool (decide_eq_false (show ¬ MayS _ from fun h => by obtain ⟨g1, g2, g3, g4⟩ := h; (try simp only at g2 g3 g4); omega)).symm, BC.below⟩
        have hy := of_decide_eq_true HY.out
        unfold ReOk at hy
        simp only at hy
        go_wp2_with fail
        go_region_held3 (fun w' => w'.cell? ⟨w.heap.size, 0, none⟩ = some (.int .i64 b) ∧ w'.cell? ⟨w.heap.size, 1, none⟩ = some (.int .i64 c) ∧ w'.cell? ⟨w.heap.size, 2, none⟩ = some (.int .i64 d) ∧ w'.cell? ⟨w.heap.size, 3, none⟩ = some (.int .i64 m0) ∧ w'.cell? ⟨w.heap.size, 4, none⟩ = some (.int .i64 m1) ∧ w'.cell? ⟨w.heap.size, 5, none⟩ = some (.int .i64 m2) ∧ w'.cell? ⟨w.heap.size, 6, none⟩ = some (.int .i64 p) ∧ w'.cell? ⟨w.heap.size, 7, none⟩ = some (.int .i64 3) ∧ w'.cell? ⟨w.heap.size, 8, none⟩ = some (.int .i64 st) ∧ w'.cell? ⟨w.heap.size, 9, none⟩ = some (.int .i64 re) ∧ w'.cell? ⟨w.heap.size, 10, none⟩ = some (.int .i64 si)) (first | go_keep | exact CS.cells BC | exact CS.cells BC.drew) ((go_at_call 64; refine (KC.out _).mono ?_; rintro e w3 ⟨v3, rfl, HF, hB⟩; obtain ⟨AF, cF, rfl, _, _, _⟩ := own_form HF; (first | replace BC := CS.next BC hB | replace BC := CS.next (CS.drew BC) hB); clear hB HF))
        all_goals go_wp2_with fail
        all_goals
          go_ret
          exact ⟨ret_bool (decide_eq_true (show MayS ⟨⟨b, c, d, m0, m1, m2, p⟩, 3, st, re, si⟩ from ⟨HW.out, by simp only; omega, by rw [HR.out]; simp only; omega, .inr ⟨.inl rfl, hy⟩⟩)).symm, BC.below⟩
      have d1 : decide (st < (r.length : Int)) = false := decide_eq_false hlt
      go_wp2_with fail
      first | go_region_law (first | (go_simp; go_at_call 64; refine (KC.out _).mono ?_; rintro e w3 ⟨v3, rfl, HF, hB⟩; (obtain ⟨AF, cF, rfl, _, _, _⟩ := own_form HF); (first | replace BC := CS.next BC hB | replace BC := CS.next (CS.drew BC) hB); (obtain ⟨q0, q1, q2, q3, q4, q5, q6, q7, q8, q9, q10⟩ := CS.cells BC); clear hB HF)) | skip
      all_goals go_wp2_with fail
      all_goals
        go_ret
        exact ⟨ret_bool (decide_eq_false (show ¬ MayS _ from fun h => by obtain ⟨g1, g2, g3, g4⟩ := h; (try simp only at g2 g3 g4); rw [HR.out] at g3; omega)).symm, BC.below⟩
    by_cases p5 : ph = 5
    · subst p5
      by_cases h0 : st = 0
      · subst h0
        cases y
        · have hy := of_decide_eq_false HY.out
          unfold ReOk at hy
          simp only at hy
          go_wp2
          go_ret
          exact ⟨ret_bool (decide_eq_false (show ¬ MayS _ from fun h => by obtain ⟨g1, g2, g3, g4⟩ := h; (try simp only at g2 g3 g4); omega)).symm, BC.below⟩
        have hy := of_decide_eq_true HY.out
        unfold ReOk at hy
        simp only at hy
        go_wp2
        go_ret
        exact ⟨ret_bool (decide_eq_true (show MayS ⟨⟨b, c, d, m0, m1, m2, p⟩, 5, 0, re, si⟩ from ⟨HW.out, by simp only; omega, by simp, .inr ⟨.inr rfl, hy⟩⟩)).symm, BC.below⟩
      have h0b : (st == 0) = false := beq_eq_false_iff_ne.2 h0
      go_wp2
      go_ret
      exact ⟨ret_bool (decide_eq_false (show ¬ MayS _ from fun h => by obtain ⟨g1, g2, g3, g4⟩ := h; (try simp only at g2 g3 g4); rw [stepsL_5] at g3; simp at g3; omega)).symm, BC.below⟩
    have b1 : (ph == 1) = false := beq_eq_false_iff_ne.2 p1
    have b2 : (ph == 2) = false := beq_eq_false_iff_ne.2 p2
    have b3 : (ph == 3) = false := beq_eq_false_iff_ne.2 p3
    have b4 : (ph == 4) = false := beq_eq_false_iff_ne.2 p4
    have b5 : (ph == 5) = false := beq_eq_false_iff_ne.2 p5
    go_wp2
    go_ret
    exact ⟨ret_bool (decide_eq_false (show ¬ MayS _ from fun h => by obtain ⟨g1, g2, g3, g4⟩ := h; (try simp only at g2 g3 g4); omega)).symm, BC.below⟩
theorem rmay14_is (s : S11) (b : Bool) (h : decide (MayS s) = b) (w : World) : Calls Try.prog 21 #[s.val] w fun e w' => e = .returned (.bool b) ∧ Below w.heap.size w w' := h ▸ rmay14_c s w
end Go.Proofs.Ytplgodfhhlnojaa
