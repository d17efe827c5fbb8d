/- The law AuditUnits, walked (printed by gen20c.py). -/
import Derived.Test.YtplgodfhhlnojaaAudT
import Derived.Test.YtplgodfhhlnojaaAudU2
import Derived.Outline
set_option linter.unusedSimpArgs false
set_option linter.unusedVariables false
namespace Go.Proofs.Ytplgodfhhlnojaa
open Go.RowKit
set_option maxRecDepth 100000 in
set_option maxHeartbeats 2000000 in
theorem rmays_c (cap over : Int) (w : World) : Calls Try.prog 50 #[.agg #[.int .i64 cap, .int .i64 over]] w fun e' w' => e' = .returned (.bool (decide ((0 ≤ cap ∧ cap ≤ 1000000) ∧ (0 ≤ over ∧ over ≤ 1000000)))) ∧ Below w.heap.size w w' := by
  by_cases h1 : 0 ≤ cap
  · skip
    by_cases h2 : cap ≤ 1000000
    · skip
      by_cases h3 : 0 ≤ over
      · skip
        by_cases h4 : over ≤ 1000000
        · skip
          go_enter Try.func50, Try.ntmps50
          go_wp2
          go_ret
          first | exact ⟨rfl, (one_box w _).2⟩ | exact ⟨ret_bool (decide_eq_true (by omega)).symm, (one_box w _).2⟩
        have d4 : decide (over ≤ 1000000) = false := decide_eq_false h4
        go_enter Try.func50, Try.ntmps50
        go_wp2
        go_ret
        first | exact ⟨rfl, (one_box w _).2⟩ | exact ⟨ret_bool (decide_eq_false (by omega)).symm, (one_box w _).2⟩
      have d3 : decide (0 ≤ over) = false := decide_eq_false h3
      go_enter Try.func50, Try.ntmps50
      go_wp2
      go_ret
      first | exact ⟨rfl, (one_box w _).2⟩ | exact ⟨ret_bool (decide_eq_false (by omega)).symm, (one_box w _).2⟩
    have d2 : decide (cap ≤ 1000000) = false := decide_eq_false h2
    go_enter Try.func50, Try.ntmps50
    go_wp2
    go_ret
    first | exact ⟨rfl, (one_box w _).2⟩ | exact ⟨ret_bool (decide_eq_false (by omega)).symm, (one_box w _).2⟩
  have d1 : decide (0 ≤ cap) = false := decide_eq_false h1
  go_enter Try.func50, Try.ntmps50
  go_wp2
  go_ret
  first | exact ⟨rfl, (one_box w _).2⟩ | exact ⟨ret_bool (decide_eq_false (by omega)).symm, (one_box w _).2⟩
theorem rmays_is {cap over : Int} {b : Bool} (h : decide ((0 ≤ cap ∧ cap ≤ 1000000) ∧ (0 ≤ over ∧ over ≤ 1000000)) = b) (w : World) : Calls Try.prog 50 #[.agg #[.int .i64 cap, .int .i64 over]] w fun e' w' => e' = .returned (.bool b) ∧ Below w.heap.size w w' := h ▸ rmays_c cap over w
set_option maxRecDepth 100000 in
set_option maxHeartbeats 4000000 in
theorem auunits_walk (cap over : Int) (A : Option Addr) (n cp : Nat) (l : List En) (hl : l.length = n) (hcp : n ≤ cp) (w : World) (R : Rd w w.heap.size 5 A n (EC l)) (hm64 : cp ≤ 9223372036854775807) : Calls Try.prog 11 #[.agg #[.int .i64 cap, .int .i64 over], .slice A n cp] w fun e w' => e = .returned (.bool true) ∧ Below w.heap.size w w' := by
  have T0 := Lib.hid told20
  have HL := Lib.hid hl
  have R_0 := Lib.hid (rda (o := (.cells #[.int .i64 cap, .int .i64 over] 74)) R)
  clear R hl
  obtain ⟨f1, f3⟩ := one_box w (.cells #[.int .i64 cap, .int .i64 over] 74)
  have s_0 := Lib.hid f1
  have B0 := Lib.hid f3
  clear f1 f3
  by_cases hn : 40 < n
  · skip
    go_enter Try.func11, Try.ntmps11
    go_wp2_with fail
    refine (T0.out _).mono ?_
    rintro e w1 ⟨rfl, q⟩
    have s_1 := Lib.hid (blk0 s_0.out q)
    have R_1 := Lib.hid (rd0 R_0.out q)
    have B1 := Lib.hid (bel0 B0.out B0.out.size q)
    clear q s_0 R_0 B0
    go_wp2
    go_ret
    exact ⟨rfl, B1.out⟩
  cases hm : decide ((0 ≤ cap ∧ cap ≤ 1000000) ∧ (0 ≤ over ∧ over ≤ 1000000))
  · skip
    have HM := Lib.hid (fun W => rmays_is hm W)
    go_enter Try.func11, Try.ntmps11
    go_wp2_with (first | (refine wpl_row (by rfl) 74 _ rfl _ rfl _ _ _ _ s_0.out rfl Try.underlying74 (by kernel_rfl) ?_))
    refine (HM.out _).mono ?_
    rintro e w1 ⟨rfl, q⟩
    have s_1 := Lib.hid (blk0 s_0.out q)
    have R_1 := Lib.hid (rd0 R_0.out q)
    have B1 := Lib.hid (bel0 B0.out B0.out.size q)
    clear q s_0 R_0 B0
    go_wp2_with fail
    refine (T0.out _).mono ?_
    rintro e w2 ⟨rfl, q⟩
    have s_2 := Lib.hid (blk0 s_1.out q)
    have R_2 := Lib.hid (rd0 R_1.out q)
    have B2 := Lib.hid (bel0 B1.out B1.out.size q)
    clear q s_1 R_1 B1
    go_wp2
    go_ret
    exact ⟨rfl, B2.out⟩
  have HM := Lib.hid (fun W => rmays_is hm W)
  obtain ⟨hc, ho⟩ := of_decide_eq_true hm
  obtain ⟨⟨u1, u2, u3, u4⟩, hu⟩ : ∃ r, unS cap over l = r := ⟨_, rfl⟩
  have HU1 := Lib.hid (fun W => units_c cap over hc ho A n cp l HL.out (by omega) hcp W)
  have HU2 := Lib.hid (fun W => runits_c cap over hc ho A n cp l HL.out (by omega) hcp W)
  rw [hu] at HU1 HU2
  unfold unV at HU1 HU2
  simp only at HU1 HU2
  clear hu hm
  go_enter Try.func11, Try.ntmps11
  go_wp2_with (first | (refine wpl_row (by rfl) 74 _ rfl _ rfl _ _ _ _ s_0.out rfl Try.underlying74 (by kernel_rfl) ?_))
  refine (HM.out _).mono ?_
  rintro e w1 ⟨rfl, q⟩
  have s_1 := Lib.hid (blk0 s_0.out q)
  have R_1 := Lib.hid (rd0 R_0.out q)
  have B1 := Lib.hid (bel0 B0.out B0.out.size q)
  clear q s_0 R_0 B0
  go_wp2_with (first | (refine wpl_row (by rfl) 74 _ rfl _ rfl _ _ _ _ s_1.out rfl Try.underlying74 (by kernel_rfl) ?_))
  refine (HU1.out _ R_1.out).mono ?_
  rintro e w2 ⟨rfl, q⟩
  have s_2 := Lib.hid (blk0 s_1.out q)
  have R_2 := Lib.hid (rd0 R_1.out q)
  have B2 := Lib.hid (bel0 B1.out B1.out.size q)
  clear q s_1 R_1 B1
  go_wp2_with (first | (refine wpl_row (by rfl) 74 _ rfl _ rfl _ _ _ _ s_2.out rfl Try.underlying74 (by kernel_rfl) ?_))
  refine (HU2.out _ R_2.out).mono ?_
  rintro e w3 ⟨rfl, q⟩
  have s_3 := Lib.hid (blk0 s_2.out q)
  have R_3 := Lib.hid (rd0 R_2.out q)
  have B3 := Lib.hid (bel0 B2.out B2.out.size q)
  clear q s_2 R_2 B2
  go_wp2_with fail
  refine (T0.out _).mono ?_
  rintro e w4 ⟨rfl, q⟩
  have s_4 := Lib.hid (blk0 s_3.out q)
  have R_4 := Lib.hid (rd0 R_3.out q)
  have B4 := Lib.hid (bel0 B3.out B3.out.size q)
  clear q s_3 R_3 B3
  go_wp2
  go_ret
  exact ⟨rfl, B4.out⟩
end Go.Proofs.Ytplgodfhhlnojaa
