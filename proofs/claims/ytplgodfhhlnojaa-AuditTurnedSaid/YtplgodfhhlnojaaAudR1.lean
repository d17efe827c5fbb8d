/- The document's audits: units, Nothing, Booked, walked (printed by gen20b.py). -/
import Derived.Test.YtplgodfhhlnojaaAud2
import Derived.Test.YtplgodfhhlnojaaPlanRef
import Derived.Outline
set_option linter.unusedSimpArgs false
set_option linter.unusedVariables false
namespace Go.Proofs.Ytplgodfhhlnojaa
open Go.RowKit
/-- What the document asks of an inventory's entry. -/
def ConfR (n : Int) (e : En) : Prop := if 0 < n then e.s = 2 ∧ e.u = n else e.s = 0
instance (n : Int) (e : En) : Decidable (ConfR n e) := by unfold ConfR; infer_instance
def UnF (x : W7) (q : Q4) : Prop := ConfR x.m0 q.e0 ∧ ConfR x.m1 q.e1 ∧ ConfR x.m2 q.e2
instance (x : W7) (q : Q4) : Decidable (UnF x q) := by unfold UnF; infer_instance
def UnT (x : W7) (q : Q4) : Prop := OpenE x.m0 q.e0 ∧ OpenE x.m1 q.e1 ∧ OpenE x.m2 q.e2
instance (x : W7) (q : Q4) : Decidable (UnT x q) := by unfold UnT; infer_instance
theorem conf_same (n : Int) (e : En) (h : 0 ≤ n) : ConfR n e ↔ ConfP n e := by
  unfold ConfR ConfP
  by_cases h0 : n = 0
  · subst h0; simp
  · rw [if_pos (by omega), if_neg h0]
theorem unF_all (x : W7) (q : Q4) (h : MayW x) : UnF x q ↔ AllP x q := by
  have hu := h.1
  unfold UnitsOk at hu
  unfold UnF AllP
  rw [conf_same _ _ hu.1.1, conf_same _ _ hu.2.1.1, conf_same _ _ hu.2.2.1]
  exact ⟨fun g => ⟨g.1, g.2.1, g.2.2, h⟩, fun g => ⟨g.1, g.2.1, g.2.2.1⟩⟩
set_option maxRecDepth 100000 in
set_option maxHeartbeats 4000000 in
theorem unf_0 (b c d m0 m1 m2 p : Int) (es0 eu0 et0 ec0 ea0 es1 eu1 et1 ec1 ea1 es2 eu2 et2 ec2 ea2 es3 eu3 et3 ec3 ea3 : Int) (w : World) : Calls Try.prog 87 #[.agg #[.int .i64 b, .int .i64 c, .int .i64 d, .int .i64 m0, .int .i64 m1, .int .i64 m2, .int .i64 p], .agg #[.int .i64 es0, .int .i64 eu0, .int .i64 et0, .int .i64 ec0, .int .i64 ea0, .int .i64 es1, .int .i64 eu1, .int .i64 et1, .int .i64 ec1, .int .i64 ea1, .int .i64 es2, .int .i64 eu2, .int .i64 et2, .int .i64 ec2, .int .i64 ea2, .int .i64 es3, .int .i64 eu3, .int .i64 et3, .int .i64 ec3, .int .i64 ea3], .bool false] w fun e' w' => e' = .returned (.bool (decide (UnF ⟨b, c, d, m0, m1, m2, p⟩ ⟨⟨es0, eu0, et0, ec0, ea0⟩, ⟨es1, eu1, et1, ec1, ea1⟩, ⟨es2, eu2, et2, ec2, ea2⟩, ⟨es3, eu3, et3, ec3, ea3⟩⟩))) ∧ Below w.heap.size w w' := by
  obtain ⟨f1, f2, f3⟩ := two_boxes w (.cells #[.int .i64 b, .int .i64 c, .int .i64 d, .int .i64 m0, .int .i64 m1, .int .i64 m2, .int .i64 p] 24) (.cells #[.int .i64 es0, .int .i64 eu0, .int .i64 et0, .int .i64 ec0, .int .i64 ea0, .int .i64 es1, .int .i64 eu1, .int .i64 et1, .int .i64 ec1, .int .i64 ea1, .int .i64 es2, .int .i64 eu2, .int .i64 et2, .int .i64 ec2, .int .i64 ea2, .int .i64 es3, .int .i64 eu3, .int .i64 et3, .int .i64 ec3, .int .i64 ea3] 68)
  have x_0 := Lib.hid f1
  have q_0 := Lib.hid f2
  have B0 := Lib.hid f3
  clear f1 f2 f3
  go_enter Try.func87, Try.ntmps87
  go_wp2_with fail
  go_loopw [7] (fun i wr => ∃ k : Nat, k ≤ 3 ∧ i = .int .i64 k ∧ Hid (((1 ≤ k → ConfR m0 ⟨es0, eu0, et0, ec0, ea0⟩) ∧ (2 ≤ k → ConfR m1 ⟨es1, eu1, et1, ec1, ea1⟩) ∧ (3 ≤ k → ConfR m2 ⟨es2, eu2, et2, ec2, ea2⟩)) ∧ wr.heap[w.heap.size]? = some (.cells #[.int .i64 b, .int .i64 c, .int .i64 d, .int .i64 m0, .int .i64 m1, .int .i64 m2, .int .i64 p] 24 (0, 0)) ∧ wr.heap[w.heap.size + 1]? = some (.cells #[.int .i64 es0, .int .i64 eu0, .int .i64 et0, .int .i64 ec0, .int .i64 ea0, .int .i64 es1, .int .i64 eu1, .int .i64 et1, .int .i64 ec1, .int .i64 ea1, .int .i64 es2, .int .i64 eu2, .int .i64 et2, .int .i64 ec2, .int .i64 ea2, .int .i64 es3, .int .i64 eu3, .int .i64 et3, .int .i64 ec3, .int .i64 ea3] 68 (0, 0)) ∧ Below w.heap.size w wr)) (fun i _ => 3 - (intOf i).toNat)
  case atStart => exact ⟨0, by omega, rfl, Lib.hid ⟨⟨by omega, by omega, by omega⟩, x_0.out, q_0.out, B0.out⟩⟩
  case round =>
    obtain ⟨k, hk, rfl, HS⟩ := hrel
    clear x_0 q_0 B0
    have : k = 0 ∨ k = 1 ∨ k = 2 ∨ k = 3 := by omega
    rcases this with rfl | rfl | rfl | rfl
    · skip
      have dm : wr.cell? ⟨w.heap.size, 3, none⟩ = some (.int .i64 m0) := (cellsB (i := 3) HS.out.2.1).trans rfl
      have ds : wr.cell? ⟨w.heap.size + 1, 0, none⟩ = some (.int .i64 es0) := (cellsB (i := 0) HS.out.2.2.1).trans rfl
      have du : wr.cell? ⟨w.heap.size + 1, 1, none⟩ = some (.int .i64 eu0) := (cellsB (i := 1) HS.out.2.2.1).trans rfl
      by_cases hn : 0 < m0
      · skip
        have bn : decide (0 < m0) = true := decide_eq_true hn
        have HN := Lib.hid hn
        clear hn
        by_cases hss : es0 = 2
        · skip
          have b2 : (es0 == 2) = true := by simp [hss]
          have b2n : (es0 != 2) = false := by simp [hss]
          have HSS := Lib.hid hss
          clear hss
          by_cases hu : eu0 = m0
          · skip
            have bu : (eu0 == m0) = true := by simp [hu]
            have bun : (eu0 != m0) = false := by simp [hu]
            have HU := Lib.hid hu
            clear hu
            go_wp2_with fail
            go_quiet (fail)
            go_wp2
            go_roundw
            case rel => exact ⟨1, by omega, by first | rfl | go_num, Lib.hid ⟨⟨fun _ => (show ConfR _ _ from by unfold ConfR; rw [if_pos HN.out]; exact ⟨HSS.out, HU.out⟩), by omega, by omega⟩, HS.out.2.1, HS.out.2.2.1, by (first | exact HS.out.2.2.2 | exact below_drewN HS.out.2.2.2 _ | exact HS.out.2.2.2.drew)⟩⟩
            case measure => simp [intOf]
          have bu : (eu0 == m0) = false := beq_eq_false_iff_ne.2 hu
          have bun : (eu0 != m0) = true := by simp [hu]
          have HU := Lib.hid hu
          clear hu
          go_wp2_with fail
          go_quiet (fail)
          go_wp2
          go_ret
          refine ⟨ret_bool (decide_eq_false (show ¬ UnF _ _ from fun h => by have g := h.1; unfold ConfR at g; rw [if_pos HN.out] at g; exact HU.out g.2)).symm, ?_⟩
          first | exact HS.out.2.2.2 | exact below_drewN HS.out.2.2.2 _ | exact HS.out.2.2.2.drew
        have b2 : (es0 == 2) = false := beq_eq_false_iff_ne.2 hss
        have b2n : (es0 != 2) = true := by simp [hss]
        have HSS := Lib.hid hss
        clear hss
        go_wp2_with fail
        go_quiet (fail)
        go_wp2
        go_ret
        refine ⟨ret_bool (decide_eq_false (show ¬ UnF _ _ from fun h => by have g := h.1; unfold ConfR at g; rw [if_pos HN.out] at g; exact HSS.out g.1)).symm, ?_⟩
        first | exact HS.out.2.2.2 | exact below_drewN HS.out.2.2.2 _ | exact HS.out.2.2.2.drew
      have bn : decide (0 < m0) = false := decide_eq_false hn
      have HN := Lib.hid hn
      clear hn
      by_cases hss : es0 = 0
      · skip
        have b0 : (es0 == 0) = true := by simp [hss]
        have b0n : (es0 != 0) = false := by simp [hss]
        have HSS := Lib.hid hss
        clear hss
        go_wp2
        go_roundw
        case rel => exact ⟨1, by omega, by first | rfl | go_num, Lib.hid ⟨⟨fun _ => (show ConfR _ _ from by unfold ConfR; rw [if_neg (by first | exact HN.out | exact Int.not_lt.2 HN.out)]; exact HSS.out), by omega, by omega⟩, HS.out.2.1, HS.out.2.2.1, by (first | exact HS.out.2.2.2 | exact below_drewN HS.out.2.2.2 _ | exact HS.out.2.2.2.drew)⟩⟩
        case measure => simp [intOf]
      have b0 : (es0 == 0) = false := beq_eq_false_iff_ne.2 hss
      have b0n : (es0 != 0) = true := by simp [hss]
      have HSS := Lib.hid hss
      clear hss
      go_wp2
      go_ret
      refine ⟨ret_bool (decide_eq_false (show ¬ UnF _ _ from fun h => by have g := h.1; unfold ConfR at g; rw [if_neg (by first | exact HN.out | exact Int.not_lt.2 HN.out)] at g; exact HSS.out g)).symm, ?_⟩
      first | exact HS.out.2.2.2 | exact below_drewN HS.out.2.2.2 _ | exact HS.out.2.2.2.drew
    · skip
      have dm : wr.cell? ⟨w.heap.size, 4, none⟩ = some (.int .i64 m1) := (cellsB (i := 4) HS.out.2.1).trans rfl
      have ds : wr.cell? ⟨w.heap.size + 1, 5, none⟩ = some (.int .i64 es1) := (cellsB (i := 5) HS.out.2.2.1).trans rfl
      have du : wr.cell? ⟨w.heap.size + 1, 6, none⟩ = some (.int .i64 eu1) := (cellsB (i := 6) HS.out.2.2.1).trans rfl
      by_cases hn : 0 < m1
      · skip
        have bn : decide (0 < m1) = true := decide_eq_true hn
        have HN := Lib.hid hn
        clear hn
        by_cases hss : es1 = 2
        · skip
          have b2 : (es1 == 2) = true := by simp [hss]
          have b2n : (es1 != 2) = false := by simp [hss]
          have HSS := Lib.hid hss
          clear hss
          by_cases hu : eu1 = m1
          · skip
            have bu : (eu1 == m1) = true := by simp [hu]
            have bun : (eu1 != m1) = false := by simp [hu]
            have HU := Lib.hid hu
            clear hu
            go_wp2_with fail
            go_quiet (fail)
            go_wp2
            go_roundw
            case rel => exact ⟨2, by omega, by first | rfl | go_num, Lib.hid ⟨⟨fun _ => HS.out.1.1 (by omega), fun _ => (show ConfR _ _ from by unfold ConfR; rw [if_pos HN.out]; exact ⟨HSS.out, HU.out⟩), by omega⟩, HS.out.2.1, HS.out.2.2.1, by (first | exact HS.out.2.2.2 | exact below_drewN HS.out.2.2.2 _ | exact HS.out.2.2.2.drew)⟩⟩
            case measure => simp [intOf]
          have bu : (eu1 == m1) = false := beq_eq_false_iff_ne.2 hu
          have bun : (eu1 != m1) = true := by simp [hu]
          have HU := Lib.hid hu
          clear hu
          go_wp2_with fail
          go_quiet (fail)
          go_wp2
          go_ret
          refine ⟨ret_bool (decide_eq_false (show ¬ UnF _ _ from fun h => by have g := h.2.1; unfold ConfR at g; rw [if_pos HN.out] at g; exact HU.out g.2)).symm, ?_⟩
          first | exact HS.out.2.2.2 | exact below_drewN HS.out.2.2.2 _ | exact HS.out.2.2.2.drew
        have b2 : (es1 == 2) = false := beq_eq_false_iff_ne.2 hss
        have b2n : (es1 != 2) = true := by simp [hss]
        have HSS := Lib.hid hss
        clear hss
        go_wp2_with fail
        go_quiet (fail)
        go_wp2
        go_ret
        refine ⟨ret_bool (decide_eq_false (show ¬ UnF _ _ from fun h => by have g := h.2.1; unfold ConfR at g; rw [if_pos HN.out] at g; exact HSS.out g.1)).symm, ?_⟩
        first | exact HS.out.2.2.2 | exact below_drewN HS.out.2.2.2 _ | exact HS.out.2.2.2.drew
      have bn : decide (0 < m1) = false := decide_eq_false hn
      have HN := Lib.hid hn
      clear hn
      by_cases hss : es1 = 0
      · skip
        have b0 : (es1 == 0) = true := by simp [hss]
        have b0n : (es1 != 0) = false := by simp [hss]
        have HSS := Lib.hid hss
        clear hss
        go_wp2
        go_roundw
        case rel => exact ⟨2, by omega, by first | rfl | go_num, Lib.hid ⟨⟨fun _ => HS.out.1.1 (by omega), fun _ => (show ConfR _ _ from by unfold ConfR; rw [if_neg (by first | exact HN.out | exact Int.not_lt.2 HN.out)]; exact HSS.out), by omega⟩, HS.out.2.1, HS.out.2.2.1, by (first | exact HS.out.2.2.2 | exact below_drewN HS.out.2.2.2 _ | exact HS.out.2.2.2.drew)⟩⟩
        case measure => simp [intOf]
      have b0 : (es1 == 0) = false := beq_eq_false_iff_ne.2 hss
      have b0n : (es1 != 0) = true := by simp [hss]
      have HSS := Lib.hid hss
      clear hss
      go_wp2
      go_ret
      refine ⟨ret_bool (decide_eq_false (show ¬ UnF _ _ from fun h => by have g := h.2.1; unfold ConfR at g; rw [if_neg (by first | exact HN.out | exact Int.not_lt.2 HN.out)] at g; exact HSS.out g)).symm, ?_⟩
      first | exact HS.out.2.2.2 | exact below_drewN HS.out.2.2.2 _ | exact HS.out.2.2.2.drew
    · skip
      have dm : wr.cell? ⟨w.heap.size, 5, none⟩ = some (.int .i64 m2) := (cellsB (i := 5) HS.out.2.1).trans rfl
      have ds : wr.cell? ⟨w.heap.size + 1, 10, none⟩ = some (.int .i64 es2) := (cellsB (i := 10) HS.out.2.2.1).trans rfl
      have du : wr.cell? ⟨w.heap.size + 1, 11, none⟩ = some (.int .i64 eu2) := (cellsB (i := 11) HS.out.2.2.1).trans rfl
      by_cases hn : 0 < m2
      · skip
        have bn : decide (0 < m2) = true := decide_eq_true hn
        have HN := Lib.hid hn
        clear hn
        by_cases hss : es2 = 2
        · skip
          have b2 : (es2 == 2) = true := by simp [hss]
          have b2n : (es2 != 2) = false := by simp [hss]
          have HSS := Lib.hid hss
          clear hss
          by_cases hu : eu2 = m2
          · skip
            have bu : (eu2 == m2) = true := by simp [hu]
            have bun : (eu2 != m2) = false := by simp [hu]
            have HU := Lib.hid hu
            clear hu
            go_wp2_with fail
            go_quiet (fail)
            go_wp2
            go_roundw
            case rel => exact ⟨3, by omega, by first | rfl | go_num, Lib.hid ⟨⟨fun _ => HS.out.1.1 (by omega), fun _ => HS.out.1.2.1 (by omega), fun _ => (show ConfR _ _ from by unfold ConfR; rw [if_pos HN.out]; exact ⟨HSS.out, HU.out⟩)⟩, HS.out.2.1, HS.out.2.2.1, by (first | exact HS.out.2.2.2 | exact below_drewN HS.out.2.2.2 _ | exact HS.out.2.2.2.drew)⟩⟩
            case measure => simp [intOf]
          have bu : (eu2 == m2) = false := beq_eq_false_iff_ne.2 hu
          have bun : (eu2 != m2) = true := by simp [hu]
          have HU := Lib.hid hu
          clear hu
          go_wp2_with fail
          go_quiet (fail)
          go_wp2
          go_ret
          refine ⟨ret_bool (decide_eq_false (show ¬ UnF _ _ from fun h => by have g := h.2.2; unfold ConfR at g; rw [if_pos HN.out] at g; exact HU.out g.2)).symm, ?_⟩
          first | exact HS.out.2.2.2 | exact below_drewN HS.out.2.2.2 _ | exact HS.out.2.2.2.drew
        have b2 : (es2 == 2) = false := beq_eq_false_iff_ne.2 hss
        have b2n : (es2 != 2) = true := by simp [hss]
        have HSS := Lib.hid hss
        clear hss
        go_wp2_with fail
        go_quiet (fail)
        go_wp2
        go_ret
        refine ⟨ret_bool (decide_eq_false (show ¬ UnF _ _ from fun h => by have g := h.2.2; unfold ConfR at g; rw [if_pos HN.out] at g; exact HSS.out g.1)).symm, ?_⟩
        first | exact HS.out.2.2.2 | exact below_drewN HS.out.2.2.2 _ | exact HS.out.2.2.2.drew
      have bn : decide (0 < m2) = false := decide_eq_false hn
      have HN := Lib.hid hn
      clear hn
      by_cases hss : es2 = 0
      · skip
        have b0 : (es2 == 0) = true := by simp [hss]
        have b0n : (es2 != 0) = false := by simp [hss]
        have HSS := Lib.hid hss
        clear hss
        go_wp2
        go_roundw
        case rel => exact ⟨3, by omega, by first | rfl | go_num, Lib.hid ⟨⟨fun _ => HS.out.1.1 (by omega), fun _ => HS.out.1.2.1 (by omega), fun _ => (show ConfR _ _ from by unfold ConfR; rw [if_neg (by first | exact HN.out | exact Int.not_lt.2 HN.out)]; exact HSS.out)⟩, HS.out.2.1, HS.out.2.2.1, by (first | exact HS.out.2.2.2 | exact below_drewN HS.out.2.2.2 _ | exact HS.out.2.2.2.drew)⟩⟩
        case measure => simp [intOf]
      have b0 : (es2 == 0) = false := beq_eq_false_iff_ne.2 hss
      have b0n : (es2 != 0) = true := by simp [hss]
      have HSS := Lib.hid hss
      clear hss
      go_wp2
      go_ret
      refine ⟨ret_bool (decide_eq_false (show ¬ UnF _ _ from fun h => by have g := h.2.2; unfold ConfR at g; rw [if_neg (by first | exact HN.out | exact Int.not_lt.2 HN.out)] at g; exact HSS.out g)).symm, ?_⟩
      first | exact HS.out.2.2.2 | exact below_drewN HS.out.2.2.2 _ | exact HS.out.2.2.2.drew
    · skip
      go_wp2
      go_ret
      exact ⟨ret_bool (decide_eq_true (show UnF _ _ from ⟨HS.out.1.1 (by omega), HS.out.1.2.1 (by omega), HS.out.1.2.2 (by omega)⟩)).symm, HS.out.2.2.2⟩
theorem unf_is {x : W7} {q : Q4} {b : Bool} (h : decide (UnF x q) = b) (w : World) : Calls Try.prog 87 #[x.val, q.val, .bool false] w fun e' w' => e' = .returned (.bool b) ∧ Below w.heap.size w w' := h ▸ unf_0 _ _ _ _ _ _ _ _ _ _ _ _ _ _ _ _ _ _ _ _ _ _ _ _ _ _ _ w
set_option maxRecDepth 100000 in
set_option maxHeartbeats 4000000 in
theorem unt_0 (b c d m0 m1 m2 p : Int) (es0 eu0 et0 ec0 ea0 es1 eu1 et1 ec1 ea1 es2 eu2 et2 ec2 ea2 es3 eu3 et3 ec3 ea3 : Int) (w : World) : Calls Try.prog 87 #[.agg #[.int .i64 b, .int .i64 c, .int .i64 d, .int .i64 m0, .int .i64 m1, .int .i64 m2, .int .i64 p], .agg #[.int .i64 es0, .int .i64 eu0, .int .i64 et0, .int .i64 ec0, .int .i64 ea0, .int .i64 es1, .int .i64 eu1, .int .i64 et1, .int .i64 ec1, .int .i64 ea1, .int .i64 es2, .int .i64 eu2, .int .i64 et2, .int .i64 ec2, .int .i64 ea2, .int .i64 es3, .int .i64 eu3, .int .i64 et3, .int .i64 ec3, .int .i64 ea3], .bool true] w fun e' w' => e' = .returned (.bool (decide (UnT ⟨b, c, d, m0, m1, m2, p⟩ ⟨⟨es0, eu0, et0, ec0, ea0⟩, ⟨es1, eu1, et1, ec1, ea1⟩, ⟨es2, eu2, et2, ec2, ea2⟩, ⟨es3, eu3, et3, ec3, ea3⟩⟩))) ∧ Below w.heap.size w w' := by
  obtain ⟨f1, f2, f3⟩ := two_boxes w (.cells #[.int .i64 b, .int .i64 c, .int .i64 d, .int .i64 m0, .int .i64 m1, .int .i64 m2, .int .i64 p] 24) (.cells #[.int .i64 es0, .int .i64 eu0, .int .i64 et0, .int .i64 ec0, .int .i64 ea0, .int .i64 es1, .int .i64 eu1, .int .i64 et1, .int .i64 ec1, .int .i64 ea1, .int .i64 es2, .int .i64 eu2, .int .i64 et2, .int .i64 ec2, .int .i64 ea2, .int .i64 es3, .int .i64 eu3, .int .i64 et3, .int .i64 ec3, .int .i64 ea3] 68)
  have x_0 := Lib.hid f1
  have q_0 := Lib.hid f2
  have B0 := Lib.hid f3
  clear f1 f2 f3
  go_enter Try.func87, Try.ntmps87
  go_wp2_with fail
  go_loopw [7] (fun i wr => ∃ k : Nat, k ≤ 3 ∧ i = .int .i64 k ∧ Hid (((1 ≤ k → OpenE m0 ⟨es0, eu0, et0, ec0, ea0⟩) ∧ (2 ≤ k → OpenE m1 ⟨es1, eu1, et1, ec1, ea1⟩) ∧ (3 ≤ k → OpenE m2 ⟨es2, eu2, et2, ec2, ea2⟩)) ∧ wr.heap[w.heap.size]? = some (.cells #[.int .i64 b, .int .i64 c, .int .i64 d, .int .i64 m0, .int .i64 m1, .int .i64 m2, .int .i64 p] 24 (0, 0)) ∧ wr.heap[w.heap.size + 1]? = some (.cells #[.int .i64 es0, .int .i64 eu0, .int .i64 et0, .int .i64 ec0, .int .i64 ea0, .int .i64 es1, .int .i64 eu1, .int .i64 et1, .int .i64 ec1, .int .i64 ea1, .int .i64 es2, .int .i64 eu2, .int .i64 et2, .int .i64 ec2, .int .i64 ea2, .int .i64 es3, .int .i64 eu3, .int .i64 et3, .int .i64 ec3, .int .i64 ea3] 68 (0, 0)) ∧ Below w.heap.size w wr)) (fun i _ => 3 - (intOf i).toNat)
  case atStart => exact ⟨0, by omega, rfl, Lib.hid ⟨⟨by omega, by omega, by omega⟩, x_0.out, q_0.out, B0.out⟩⟩
  case round =>
    obtain ⟨k, hk, rfl, HS⟩ := hrel
    clear x_0 q_0 B0
    have : k = 0 ∨ k = 1 ∨ k = 2 ∨ k = 3 := by omega
    rcases this with rfl | rfl | rfl | rfl
    · skip
      have dm : wr.cell? ⟨w.heap.size, 3, none⟩ = some (.int .i64 m0) := (cellsB (i := 3) HS.out.2.1).trans rfl
      have ds : wr.cell? ⟨w.heap.size + 1, 0, none⟩ = some (.int .i64 es0) := (cellsB (i := 0) HS.out.2.2.1).trans rfl
      have du : wr.cell? ⟨w.heap.size + 1, 1, none⟩ = some (.int .i64 eu0) := (cellsB (i := 1) HS.out.2.2.1).trans rfl
      by_cases g1 : es0 = 1
      · skip
        have b1 : (es0 == 1) = true := by simp [g1]
        have b1n : (es0 != 1) = false := by simp [g1]
        have GV := Lib.hid (show es0 = 1 ∨ es0 = 2 from by omega)
        clear g1
        by_cases hu : eu0 = m0
        · skip
          have bu : (eu0 == m0) = true := by simp [hu]
          have bun : (eu0 != m0) = false := by simp [hu]
          have HU := Lib.hid hu
          clear hu
          go_wp2_with fail
          go_quiet (fail)
          go_wp2
          go_roundw
          case rel => exact ⟨1, by omega, by first | rfl | go_num, Lib.hid ⟨⟨fun _ => (fun _ => HU.out), by omega, by omega⟩, HS.out.2.1, HS.out.2.2.1, by (first | exact HS.out.2.2.2 | exact below_drewN HS.out.2.2.2 _ | exact HS.out.2.2.2.drew)⟩⟩
          case measure => simp [intOf]
        have bu : (eu0 == m0) = false := beq_eq_false_iff_ne.2 hu
        have bun : (eu0 != m0) = true := by simp [hu]
        have HU := Lib.hid hu
        clear hu
        go_wp2_with fail
        go_quiet (fail)
        go_wp2
        go_ret
        refine ⟨ret_bool (decide_eq_false (show ¬ UnT _ _ from fun h => HU.out (h.1 GV.out))).symm, ?_⟩
        first | exact HS.out.2.2.2 | exact below_drewN HS.out.2.2.2 _ | exact HS.out.2.2.2.drew
      have b1 : (es0 == 1) = false := beq_eq_false_iff_ne.2 g1
      have b1n : (es0 != 1) = true := by simp [g1]
      by_cases g2 : es0 = 2
      · skip
        have b2 : (es0 == 2) = true := by simp [g2]
        have b2n : (es0 != 2) = false := by simp [g2]
        have GV := Lib.hid (show es0 = 1 ∨ es0 = 2 from by omega)
        clear g2
        by_cases hu : eu0 = m0
        · skip
          have bu : (eu0 == m0) = true := by simp [hu]
          have bun : (eu0 != m0) = false := by simp [hu]
          have HU := Lib.hid hu
          clear hu
          go_wp2_with fail
          go_quiet (fail)
          go_wp2
          go_roundw
          case rel => exact ⟨1, by omega, by first | rfl | go_num, Lib.hid ⟨⟨fun _ => (fun _ => HU.out), by omega, by omega⟩, HS.out.2.1, HS.out.2.2.1, by (first | exact HS.out.2.2.2 | exact below_drewN HS.out.2.2.2 _ | exact HS.out.2.2.2.drew)⟩⟩
          case measure => simp [intOf]
        have bu : (eu0 == m0) = false := beq_eq_false_iff_ne.2 hu
        have bun : (eu0 != m0) = true := by simp [hu]
        have HU := Lib.hid hu
        clear hu
        go_wp2_with fail
        go_quiet (fail)
        go_wp2
        go_ret
        refine ⟨ret_bool (decide_eq_false (show ¬ UnT _ _ from fun h => HU.out (h.1 GV.out))).symm, ?_⟩
        first | exact HS.out.2.2.2 | exact below_drewN HS.out.2.2.2 _ | exact HS.out.2.2.2.drew
      have b2 : (es0 == 2) = false := beq_eq_false_iff_ne.2 g2
      have b2n : (es0 != 2) = true := by simp [g2]
      go_wp2
      go_roundw
      case rel => exact ⟨1, by omega, by first | rfl | go_num, Lib.hid ⟨⟨fun _ => (fun h => h.elim (fun h => absurd h g1) (fun h => absurd h g2)), by omega, by omega⟩, HS.out.2.1, HS.out.2.2.1, by (first | exact HS.out.2.2.2 | exact below_drewN HS.out.2.2.2 _ | exact HS.out.2.2.2.drew)⟩⟩
      case measure => simp [intOf]
    · skip
      have dm : wr.cell? ⟨w.heap.size, 4, none⟩ = some (.int .i64 m1) := (cellsB (i := 4) HS.out.2.1).trans rfl
      have ds : wr.cell? ⟨w.heap.size + 1, 5, none⟩ = some (.int .i64 es1) := (cellsB (i := 5) HS.out.2.2.1).trans rfl
      have du : wr.cell? ⟨w.heap.size + 1, 6, none⟩ = some (.int .i64 eu1) := (cellsB (i := 6) HS.out.2.2.1).trans rfl
      by_cases g1 : es1 = 1
      · skip
        have b1 : (es1 == 1) = true := by simp [g1]
        have b1n : (es1 != 1) = false := by simp [g1]
        have GV := Lib.hid (show es1 = 1 ∨ es1 = 2 from by omega)
        clear g1
        by_cases hu : eu1 = m1
        · skip
          have bu : (eu1 == m1) = true := by simp [hu]
          have bun : (eu1 != m1) = false := by simp [hu]
          have HU := Lib.hid hu
          clear hu
          go_wp2_with fail
          go_quiet (fail)
          go_wp2
          go_roundw
          case rel => exact ⟨2, by omega, by first | rfl | go_num, Lib.hid ⟨⟨fun _ => HS.out.1.1 (by omega), fun _ => (fun _ => HU.out), by omega⟩, HS.out.2.1, HS.out.2.2.1, by (first | exact HS.out.2.2.2 | exact below_drewN HS.out.2.2.2 _ | exact HS.out.2.2.2.drew)⟩⟩
          case measure => simp [intOf]
        have bu : (eu1 == m1) = false := beq_eq_false_iff_ne.2 hu
        have bun : (eu1 != m1) = true := by simp [hu]
        have HU := Lib.hid hu
        clear hu
        go_wp2_with fail
        go_quiet (fail)
        go_wp2
        go_ret
        refine ⟨ret_bool (decide_eq_false (show ¬ UnT _ _ from fun h => HU.out (h.2.1 GV.out))).symm, ?_⟩
        first | exact HS.out.2.2.2 | exact below_drewN HS.out.2.2.2 _ | exact HS.out.2.2.2.drew
      have b1 : (es1 == 1) = false := beq_eq_false_iff_ne.2 g1
      have b1n : (es1 != 1) = true := by simp [g1]
      by_cases g2 : es1 = 2
      · skip
        have b2 : (es1 == 2) = true := by simp [g2]
        have b2n : (es1 != 2) = false := by simp [g2]
        have GV := Lib.hid (show es1 = 1 ∨ es1 = 2 from by omega)
        clear g2
        by_cases hu : eu1 = m1
        · skip
          have bu : (eu1 == m1) = true := by simp [hu]
          have bun : (eu1 != m1) = false := by simp [hu]
          have HU := Lib.hid hu
          clear hu
          go_wp2_with fail
          go_quiet (fail)
          go_wp2
          go_roundw
          case rel => exact ⟨2, by omega, by first | rfl | go_num, Lib.hid ⟨⟨fun _ => HS.out.1.1 (by omega), fun _ => (fun _ => HU.out), by omega⟩, HS.out.2.1, HS.out.2.2.1, by (first | exact HS.out.2.2.2 | exact below_drewN HS.out.2.2.2 _ | exact HS.out.2.2.2.drew)⟩⟩
          case measure => simp [intOf]
        have bu : (eu1 == m1) = false := beq_eq_false_iff_ne.2 hu
        have bun : (eu1 != m1) = true := by simp [hu]
        have HU := Lib.hid hu
        clear hu
        go_wp2_with fail
        go_quiet (fail)
        go_wp2
        go_ret
        refine ⟨ret_bool (decide_eq_false (show ¬ UnT _ _ from fun h => HU.out (h.2.1 GV.out))).symm, ?_⟩
        first | exact HS.out.2.2.2 | exact below_drewN HS.out.2.2.2 _ | exact HS.out.2.2.2.drew
      have b2 : (es1 == 2) = false := beq_eq_false_iff_ne.2 g2
      have b2n : (es1 != 2) = true := by simp [g2]
      go_wp2
      go_roundw
      case rel => exact ⟨2, by omega, by first | rfl | go_num, Lib.hid ⟨⟨fun _ => HS.out.1.1 (by omega), fun _ => (fun h => h.elim (fun h => absurd h g1) (fun h => absurd h g2)), by omega⟩, HS.out.2.1, HS.out.2.2.1, by (first | exact HS.out.2.2.2 | exact below_drewN HS.out.2.2.2 _ | exact HS.out.2.2.2.drew)⟩⟩
      case measure => simp [intOf]
    · skip
      have dm : wr.cell? ⟨w.heap.size, 5, none⟩ = some (.int .i64 m2) := (cellsB (i := 5) HS.out.2.1).trans rfl
      have ds : wr.cell? ⟨w.heap.size + 1, 10, none⟩ = some (.int .i64 es2) := (cellsB (i := 10) HS.out.2.2.1).trans rfl
      have du : wr.cell? ⟨w.heap.size + 1, 11, none⟩ = some (.int .i64 eu2) := (cellsB (i := 11) HS.out.2.2.1).trans rfl
      by_cases g1 : es2 = 1
      · skip
        have b1 : (es2 == 1) = true := by simp [g1]
        have b1n : (es2 != 1) = false := by simp [g1]
        have GV := Lib.hid (show es2 = 1 ∨ es2 = 2 from by omega)
        clear g1
        by_cases hu : eu2 = m2
        · skip
          have bu : (eu2 == m2) = true := by simp [hu]
          have bun : (eu2 != m2) = false := by simp [hu]
          have HU := Lib.hid hu
          clear hu
          go_wp2_with fail
          go_quiet (fail)
          go_wp2
          go_roundw
          case rel => exact ⟨3, by omega, by first | rfl | go_num, Lib.hid ⟨⟨fun _ => HS.out.1.1 (by omega), fun _ => HS.out.1.2.1 (by omega), fun _ => (fun _ => HU.out)⟩, HS.out.2.1, HS.out.2.2.1, by (first | exact HS.out.2.2.2 | exact below_drewN HS.out.2.2.2 _ | exact HS.out.2.2.2.drew)⟩⟩
          case measure => simp [intOf]
        have bu : (eu2 == m2) = false := beq_eq_false_iff_ne.2 hu
        have bun : (eu2 != m2) = true := by simp [hu]
        have HU := Lib.hid hu
        clear hu
        go_wp2_with fail
        go_quiet (fail)
        go_wp2
        go_ret
        refine ⟨ret_bool (decide_eq_false (show ¬ UnT _ _ from fun h => HU.out (h.2.2 GV.out))).symm, ?_⟩
        first | exact HS.out.2.2.2 | exact below_drewN HS.out.2.2.2 _ | exact HS.out.2.2.2.drew
      have b1 : (es2 == 1) = false := beq_eq_false_iff_ne.2 g1
      have b1n : (es2 != 1) = true := by simp [g1]
      by_cases g2 : es2 = 2
      · skip
        have b2 : (es2 == 2) = true := by simp [g2]
        have b2n : (es2 != 2) = false := by simp [g2]
        have GV := Lib.hid (show es2 = 1 ∨ es2 = 2 from by omega)
        clear g2
        by_cases hu : eu2 = m2
        · skip
          have bu : (eu2 == m2) = true := by simp [hu]
          have bun : (eu2 != m2) = false := by simp [hu]
          have HU := Lib.hid hu
          clear hu
          go_wp2_with fail
          go_quiet (fail)
          go_wp2
          go_roundw
          case rel => exact ⟨3, by omega, by first | rfl | go_num, Lib.hid ⟨⟨fun _ => HS.out.1.1 (by omega), fun _ => HS.out.1.2.1 (by omega), fun _ => (fun _ => HU.out)⟩, HS.out.2.1, HS.out.2.2.1, by (first | exact HS.out.2.2.2 | exact below_drewN HS.out.2.2.2 _ | exact HS.out.2.2.2.drew)⟩⟩
          case measure => simp [intOf]
        have bu : (eu2 == m2) = false := beq_eq_false_iff_ne.2 hu
        have bun : (eu2 != m2) = true := by simp [hu]
        have HU := Lib.hid hu
        clear hu
        go_wp2_with fail
        go_quiet (fail)
        go_wp2
        go_ret
        refine ⟨ret_bool (decide_eq_false (show ¬ UnT _ _ from fun h => HU.out (h.2.2 GV.out))).symm, ?_⟩
        first | exact HS.out.2.2.2 | exact below_drewN HS.out.2.2.2 _ | exact HS.out.2.2.2.drew
      have b2 : (es2 == 2) = false := beq_eq_false_iff_ne.2 g2
      have b2n : (es2 != 2) = true := by simp [g2]
      go_wp2
      go_roundw
      case rel => exact ⟨3, by omega, by first | rfl | go_num, Lib.hid ⟨⟨fun _ => HS.out.1.1 (by omega), fun _ => HS.out.1.2.1 (by omega), fun _ => (fun h => h.elim (fun h => absurd h g1) (fun h => absurd h g2))⟩, HS.out.2.1, HS.out.2.2.1, by (first | exact HS.out.2.2.2 | exact below_drewN HS.out.2.2.2 _ | exact HS.out.2.2.2.drew)⟩⟩
      case measure => simp [intOf]
    · skip
      go_wp2
      go_ret
      exact ⟨ret_bool (decide_eq_true (show UnT _ _ from ⟨HS.out.1.1 (by omega), HS.out.1.2.1 (by omega), HS.out.1.2.2 (by omega)⟩)).symm, HS.out.2.2.2⟩
theorem unt_is {x : W7} {q : Q4} {b : Bool} (h : decide (UnT x q) = b) (w : World) : Calls Try.prog 87 #[x.val, q.val, .bool true] w fun e' w' => e' = .returned (.bool b) ∧ Below w.heap.size w w' := h ▸ unt_0 _ _ _ _ _ _ _ _ _ _ _ _ _ _ _ _ _ _ _ _ _ _ _ _ _ _ _ w
set_option maxRecDepth 100000 in
set_option maxHeartbeats 2000000 in
theorem rnothing_c (q : Q4) (w : World) : Calls Try.prog 47 #[q.val] w fun e' w' => e' = .returned (.bool (decide (NothingP q))) ∧ Below w.heap.size w w' := by
  obtain ⟨⟨es0, eu0, et0, ec0, ea0⟩, ⟨es1, eu1, et1, ec1, ea1⟩, ⟨es2, eu2, et2, ec2, ea2⟩, ⟨es3, eu3, et3, ec3, ea3⟩⟩ := q
  unfold Q4.val
  simp only
  obtain ⟨f1, f3⟩ := one_box w (.cells #[.int .i64 es0, .int .i64 eu0, .int .i64 et0, .int .i64 ec0, .int .i64 ea0, .int .i64 es1, .int .i64 eu1, .int .i64 et1, .int .i64 ec1, .int .i64 ea1, .int .i64 es2, .int .i64 eu2, .int .i64 et2, .int .i64 ec2, .int .i64 ea2, .int .i64 es3, .int .i64 eu3, .int .i64 et3, .int .i64 ec3, .int .i64 ea3] 68)
  have q_0 := Lib.hid f1
  have B0 := Lib.hid f3
  clear f1 f3
  go_enter Try.func47, Try.ntmps47
  go_wp2_with fail
  go_loopw [3] (fun i wr => ∃ k : Nat, k ≤ 4 ∧ i = .int .i64 k ∧ Hid (((1 ≤ k → GoneE ⟨es0, eu0, et0, ec0, ea0⟩) ∧ (2 ≤ k → GoneE ⟨es1, eu1, et1, ec1, ea1⟩) ∧ (3 ≤ k → GoneE ⟨es2, eu2, et2, ec2, ea2⟩) ∧ (4 ≤ k → GoneE ⟨es3, eu3, et3, ec3, ea3⟩)) ∧ wr.heap[w.heap.size]? = some (.cells #[.int .i64 es0, .int .i64 eu0, .int .i64 et0, .int .i64 ec0, .int .i64 ea0, .int .i64 es1, .int .i64 eu1, .int .i64 et1, .int .i64 ec1, .int .i64 ea1, .int .i64 es2, .int .i64 eu2, .int .i64 et2, .int .i64 ec2, .int .i64 ea2, .int .i64 es3, .int .i64 eu3, .int .i64 et3, .int .i64 ec3, .int .i64 ea3] 68 (0, 0)) ∧ Below w.heap.size w wr)) (fun i _ => 4 - (intOf i).toNat)
  case atStart => exact ⟨0, by omega, rfl, Lib.hid ⟨⟨by omega, by omega, by omega, by omega⟩, q_0.out, B0.out⟩⟩
  case round =>
    obtain ⟨k, hk, rfl, HS⟩ := hrel
    clear q_0 B0
    have : k = 0 ∨ k = 1 ∨ k = 2 ∨ k = 3 ∨ k = 4 := by omega
    rcases this with rfl | rfl | rfl | rfl | rfl
    · skip
      have ds : wr.cell? ⟨w.heap.size, 0, none⟩ = some (.int .i64 es0) := (cellsB (i := 0) HS.out.2.1).trans rfl
      by_cases g1 : es0 = 1
      · skip
        have b1 : (es0 == 1) = true := by simp [g1]
        have G1 := Lib.hid g1
        clear g1
        go_wp2
        go_ret
        exact ⟨ret_bool (decide_eq_false (show ¬ NothingP _ from fun h => h.1.1 G1.out)).symm, HS.out.2.2⟩
      have b1 : (es0 == 1) = false := beq_eq_false_iff_ne.2 g1
      by_cases g2 : es0 = 2
      · skip
        have b2 : (es0 == 2) = true := by simp [g2]
        have G2 := Lib.hid g2
        clear g2
        go_wp2
        go_ret
        exact ⟨ret_bool (decide_eq_false (show ¬ NothingP _ from fun h => h.1.2.1 G2.out)).symm, HS.out.2.2⟩
      have b2 : (es0 == 2) = false := beq_eq_false_iff_ne.2 g2
      by_cases g4 : es0 = 4
      · skip
        have b4 : (es0 == 4) = true := by simp [g4]
        have G4 := Lib.hid g4
        clear g4
        go_wp2
        go_ret
        exact ⟨ret_bool (decide_eq_false (show ¬ NothingP _ from fun h => h.1.2.2.1 G4.out)).symm, HS.out.2.2⟩
      have b4 : (es0 == 4) = false := beq_eq_false_iff_ne.2 g4
      by_cases g5 : es0 = 5
      · skip
        have b5 : (es0 == 5) = true := by simp [g5]
        have G5 := Lib.hid g5
        clear g5
        go_wp2
        go_ret
        exact ⟨ret_bool (decide_eq_false (show ¬ NothingP _ from fun h => h.1.2.2.2 G5.out)).symm, HS.out.2.2⟩
      have b5 : (es0 == 5) = false := beq_eq_false_iff_ne.2 g5
      go_wp2
      go_roundw
      case rel => exact ⟨1, by omega, by first | rfl | go_num, Lib.hid ⟨⟨fun _ => ⟨g1, g2, g4, g5⟩, by omega, by omega, by omega⟩, HS.out.2.1, HS.out.2.2⟩⟩
      case measure => simp [intOf]
    · skip
      have ds : wr.cell? ⟨w.heap.size, 5, none⟩ = some (.int .i64 es1) := (cellsB (i := 5) HS.out.2.1).trans rfl
      by_cases g1 : es1 = 1
      · skip
        have b1 : (es1 == 1) = true := by simp [g1]
        have G1 := Lib.hid g1
        clear g1
        go_wp2
        go_ret
        exact ⟨ret_bool (decide_eq_false (show ¬ NothingP _ from fun h => h.2.1.1 G1.out)).symm, HS.out.2.2⟩
      have b1 : (es1 == 1) = false := beq_eq_false_iff_ne.2 g1
      by_cases g2 : es1 = 2
      · skip
        have b2 : (es1 == 2) = true := by simp [g2]
        have G2 := Lib.hid g2
        clear g2
        go_wp2
        go_ret
        exact ⟨ret_bool (decide_eq_false (show ¬ NothingP _ from fun h => h.2.1.2.1 G2.out)).symm, HS.out.2.2⟩
      have b2 : (es1 == 2) = false := beq_eq_false_iff_ne.2 g2
      by_cases g4 : es1 = 4
      · skip
        have b4 : (es1 == 4) = true := by simp [g4]
        have G4 := Lib.hid g4
        clear g4
        go_wp2
        go_ret
        exact ⟨ret_bool (decide_eq_false (show ¬ NothingP _ from fun h => h.2.1.2.2.1 G4.out)).symm, HS.out.2.2⟩
      have b4 : (es1 == 4) = false := beq_eq_false_iff_ne.2 g4
      by_cases g5 : es1 = 5
      · skip
        have b5 : (es1 == 5) = true := by simp [g5]
        have G5 := Lib.hid g5
        clear g5
        go_wp2
        go_ret
        exact ⟨ret_bool (decide_eq_false (show ¬ NothingP _ from fun h => h.2.1.2.2.2 G5.out)).symm, HS.out.2.2⟩
      have b5 : (es1 == 5) = false := beq_eq_false_iff_ne.2 g5
      go_wp2
      go_roundw
      case rel => exact ⟨2, by omega, by first | rfl | go_num, Lib.hid ⟨⟨fun _ => HS.out.1.1 (by omega), fun _ => ⟨g1, g2, g4, g5⟩, by omega, by omega⟩, HS.out.2.1, HS.out.2.2⟩⟩
      case measure => simp [intOf]
    · skip
      have ds : wr.cell? ⟨w.heap.size, 10, none⟩ = some (.int .i64 es2) := (cellsB (i := 10) HS.out.2.1).trans rfl
      by_cases g1 : es2 = 1
      · skip
        have b1 : (es2 == 1) = true := by simp [g1]
        have G1 := Lib.hid g1
        clear g1
        go_wp2
        go_ret
        exact ⟨ret_bool (decide_eq_false (show ¬ NothingP _ from fun h => h.2.2.1.1 G1.out)).symm, HS.out.2.2⟩
      have b1 : (es2 == 1) = false := beq_eq_false_iff_ne.2 g1
      by_cases g2 : es2 = 2
      · skip
        have b2 : (es2 == 2) = true := by simp [g2]
        have G2 := Lib.hid g2
        clear g2
        go_wp2
        go_ret
        exact ⟨ret_bool (decide_eq_false (show ¬ NothingP _ from fun h => h.2.2.1.2.1 G2.out)).symm, HS.out.2.2⟩
      have b2 : (es2 == 2) = false := beq_eq_false_iff_ne.2 g2
      by_cases g4 : es2 = 4
      · skip
        have b4 : (es2 == 4) = true := by simp [g4]
        have G4 := Lib.hid g4
        clear g4
        go_wp2
        go_ret
        exact ⟨ret_bool (decide_eq_false (show ¬ NothingP _ from fun h => h.2.2.1.2.2.1 G4.out)).symm, HS.out.2.2⟩
      have b4 : (es2 == 4) = false := beq_eq_false_iff_ne.2 g4
      by_cases g5 : es2 = 5
      · skip
        have b5 : (es2 == 5) = true := by simp [g5]
        have G5 := Lib.hid g5
        clear g5
        go_wp2
        go_ret
        exact ⟨ret_bool (decide_eq_false (show ¬ NothingP _ from fun h => h.2.2.1.2.2.2 G5.out)).symm, HS.out.2.2⟩
      have b5 : (es2 == 5) = false := beq_eq_false_iff_ne.2 g5
      go_wp2
      go_roundw
      case rel => exact ⟨3, by omega, by first | rfl | go_num, Lib.hid ⟨⟨fun _ => HS.out.1.1 (by omega), fun _ => HS.out.1.2.1 (by omega), fun _ => ⟨g1, g2, g4, g5⟩, by omega⟩, HS.out.2.1, HS.out.2.2⟩⟩
      case measure => simp [intOf]
    · skip
      have ds : wr.cell? ⟨w.heap.size, 15, none⟩ = some (.int .i64 es3) := (cellsB (i := 15) HS.out.2.1).trans rfl
      by_cases g1 : es3 = 1
      · skip
        have b1 : (es3 == 1) = true := by simp [g1]
        have G1 := Lib.hid g1
        clear g1
        go_wp2
        go_ret
        exact ⟨ret_bool (decide_eq_false (show ¬ NothingP _ from fun h => h.2.2.2.1 G1.out)).symm, HS.out.2.2⟩
      have b1 : (es3 == 1) = false := beq_eq_false_iff_ne.2 g1
      by_cases g2 : es3 = 2
      · skip
        have b2 : (es3 == 2) = true := by simp [g2]
        have G2 := Lib.hid g2
        clear g2
        go_wp2
        go_ret
        exact ⟨ret_bool (decide_eq_false (show ¬ NothingP _ from fun h => h.2.2.2.2.1 G2.out)).symm, HS.out.2.2⟩
      have b2 : (es3 == 2) = false := beq_eq_false_iff_ne.2 g2
      by_cases g4 : es3 = 4
      · skip
        have b4 : (es3 == 4) = true := by simp [g4]
        have G4 := Lib.hid g4
        clear g4
        go_wp2
        go_ret
        exact ⟨ret_bool (decide_eq_false (show ¬ NothingP _ from fun h => h.2.2.2.2.2.1 G4.out)).symm, HS.out.2.2⟩
      have b4 : (es3 == 4) = false := beq_eq_false_iff_ne.2 g4
      by_cases g5 : es3 = 5
      · skip
        have b5 : (es3 == 5) = true := by simp [g5]
        have G5 := Lib.hid g5
        clear g5
        go_wp2
        go_ret
        exact ⟨ret_bool (decide_eq_false (show ¬ NothingP _ from fun h => h.2.2.2.2.2.2 G5.out)).symm, HS.out.2.2⟩
      have b5 : (es3 == 5) = false := beq_eq_false_iff_ne.2 g5
      go_wp2
      go_roundw
      case rel => exact ⟨4, by omega, by first | rfl | go_num, Lib.hid ⟨⟨fun _ => HS.out.1.1 (by omega), fun _ => HS.out.1.2.1 (by omega), fun _ => HS.out.1.2.2.1 (by omega), fun _ => ⟨g1, g2, g4, g5⟩⟩, HS.out.2.1, HS.out.2.2⟩⟩
      case measure => simp [intOf]
    · skip
      go_wp2
      go_ret
      exact ⟨ret_bool (decide_eq_true (show NothingP _ from ⟨HS.out.1.1 (by omega), HS.out.1.2.1 (by omega), HS.out.1.2.2.1 (by omega), HS.out.1.2.2.2 (by omega)⟩)).symm, HS.out.2.2⟩
theorem rnothing_is {q : Q4} {b : Bool} (h : decide (NothingP q) = b) (w : World) : Calls Try.prog 47 #[q.val] w fun e' w' => e' = .returned (.bool b) ∧ Below w.heap.size w w' := h ▸ rnothing_c q w
set_option maxRecDepth 100000 in
set_option maxHeartbeats 2000000 in
theorem rbooked_c (x : W7) (q : Q4) (w : World) : Calls Try.prog 45 #[x.val, q.val] w fun e' w' => e' = .returned (.bool (decide (BookedP x q))) ∧ Below w.heap.size w w' := by
  obtain ⟨b, c, d, m0, m1, m2, p⟩ := x
  obtain ⟨⟨es0, eu0, et0, ec0, ea0⟩, ⟨es1, eu1, et1, ec1, ea1⟩, ⟨es2, eu2, et2, ec2, ea2⟩, ⟨es3, eu3, et3, ec3, ea3⟩⟩ := q
  unfold W7.val Q4.val
  simp only
  cases hm : decide (MayW ⟨b, c, d, m0, m1, m2, p⟩)
  · skip
    have HM := Lib.hid (fun W => rmay_is ⟨b, c, d, m0, m1, m2, p⟩ false hm W)
    unfold W7.val at HM
    simp only at HM
    obtain ⟨f1, f2, f3⟩ := two_boxes w (.cells #[.int .i64 b, .int .i64 c, .int .i64 d, .int .i64 m0, .int .i64 m1, .int .i64 m2, .int .i64 p] 24) (.cells #[.int .i64 es0, .int .i64 eu0, .int .i64 et0, .int .i64 ec0, .int .i64 ea0, .int .i64 es1, .int .i64 eu1, .int .i64 et1, .int .i64 ec1, .int .i64 ea1, .int .i64 es2, .int .i64 eu2, .int .i64 et2, .int .i64 ec2, .int .i64 ea2, .int .i64 es3, .int .i64 eu3, .int .i64 et3, .int .i64 ec3, .int .i64 ea3] 68)
    have x_0 := Lib.hid f1
    have q_0 := Lib.hid f2
    have B0 := Lib.hid f3
    clear f1 f2 f3
    go_enter Try.func45, Try.ntmps45
    go_wp2_with (first | (refine wpl_row (by rfl) 24 _ rfl _ rfl _ _ _ _ x_0.out rfl Try.underlying24 (by kernel_rfl) ?_))
    refine (HM.out _).mono ?_
    rintro e w1 ⟨rfl, q⟩
    have x_1 := Lib.hid (blk0 x_0.out q)
    have q_1 := Lib.hid (blk0 q_0.out q)
    have B1 := Lib.hid (bel0 B0.out B0.out.size q)
    clear q x_0 q_0 B0
    go_wp2
    go_ret
    exact ⟨ret_bool (decide_eq_false (show ¬ BookedP _ _ from fun h => of_decide_eq_false hm h.1.2.2.2)).symm, B1.out⟩
  cases hu : decide (UnF ⟨b, c, d, m0, m1, m2, p⟩ ⟨⟨es0, eu0, et0, ec0, ea0⟩, ⟨es1, eu1, et1, ec1, ea1⟩, ⟨es2, eu2, et2, ec2, ea2⟩, ⟨es3, eu3, et3, ec3, ea3⟩⟩)
  · skip
    have HM := Lib.hid (fun W => rmay_is ⟨b, c, d, m0, m1, m2, p⟩ true hm W)
    unfold W7.val at HM
    simp only at HM
    have HU := Lib.hid (fun W => unf_is hu W)
    unfold W7.val Q4.val at HU
    simp only at HU
    obtain ⟨f1, f2, f3⟩ := two_boxes w (.cells #[.int .i64 b, .int .i64 c, .int .i64 d, .int .i64 m0, .int .i64 m1, .int .i64 m2, .int .i64 p] 24) (.cells #[.int .i64 es0, .int .i64 eu0, .int .i64 et0, .int .i64 ec0, .int .i64 ea0, .int .i64 es1, .int .i64 eu1, .int .i64 et1, .int .i64 ec1, .int .i64 ea1, .int .i64 es2, .int .i64 eu2, .int .i64 et2, .int .i64 ec2, .int .i64 ea2, .int .i64 es3, .int .i64 eu3, .int .i64 et3, .int .i64 ec3, .int .i64 ea3] 68)
    have x_0 := Lib.hid f1
    have q_0 := Lib.hid f2
    have B0 := Lib.hid f3
    clear f1 f2 f3
    go_enter Try.func45, Try.ntmps45
    go_wp2_with (first | (refine wpl_row (by rfl) 24 _ rfl _ rfl _ _ _ _ x_0.out rfl Try.underlying24 (by kernel_rfl) ?_))
    refine (HM.out _).mono ?_
    rintro e w1 ⟨rfl, q⟩
    have x_1 := Lib.hid (blk0 x_0.out q)
    have q_1 := Lib.hid (blk0 q_0.out q)
    have B1 := Lib.hid (bel0 B0.out B0.out.size q)
    clear q x_0 q_0 B0
    go_wp2_with (first | (refine wpl_row (by rfl) 24 _ rfl _ rfl _ _ _ _ x_1.out rfl Try.underlying24 (by kernel_rfl) ?_) | (refine wpl_row (by rfl) 68 _ rfl _ rfl _ _ _ _ q_1.out rfl Try.underlying68 (by kernel_rfl) ?_))
    refine (HU.out _).mono ?_
    rintro e w2 ⟨rfl, q⟩
    have x_2 := Lib.hid (blk0 x_1.out q)
    have q_2 := Lib.hid (blk0 q_1.out q)
    have B2 := Lib.hid (bel0 B1.out B1.out.size q)
    clear q x_1 q_1 B1
    go_wp2
    go_ret
    exact ⟨ret_bool (decide_eq_false (show ¬ BookedP _ _ from fun h => of_decide_eq_false hu ((unF_all _ _ (of_decide_eq_true hm)).2 h.1))).symm, B2.out⟩
  by_cases h5 : es3 = 5
  · skip
    have b5 : (es3 == 5) = true := by simp [h5]
    have H5 := Lib.hid h5
    clear h5
    by_cases hc : ec3 = c
    · skip
      have bc : (ec3 == c) = true := by simp [hc]
      have HC := Lib.hid hc
      clear hc
      by_cases ha : ea3 = p
      · skip
        have ba : (ea3 == p) = true := by simp [ha]
        have HA := Lib.hid ha
        clear ha
        have HM := Lib.hid (fun W => rmay_is ⟨b, c, d, m0, m1, m2, p⟩ true hm W)
        unfold W7.val at HM
        simp only at HM
        have HU := Lib.hid (fun W => unf_is hu W)
        unfold W7.val Q4.val at HU
        simp only at HU
        obtain ⟨f1, f2, f3⟩ := two_boxes w (.cells #[.int .i64 b, .int .i64 c, .int .i64 d, .int .i64 m0, .int .i64 m1, .int .i64 m2, .int .i64 p] 24) (.cells #[.int .i64 es0, .int .i64 eu0, .int .i64 et0, .int .i64 ec0, .int .i64 ea0, .int .i64 es1, .int .i64 eu1, .int .i64 et1, .int .i64 ec1, .int .i64 ea1, .int .i64 es2, .int .i64 eu2, .int .i64 et2, .int .i64 ec2, .int .i64 ea2, .int .i64 es3, .int .i64 eu3, .int .i64 et3, .int .i64 ec3, .int .i64 ea3] 68)
        have x_0 := Lib.hid f1
        have q_0 := Lib.hid f2
        have B0 := Lib.hid f3
        clear f1 f2 f3
        go_enter Try.func45, Try.ntmps45
        go_wp2_with (first | (refine wpl_row (by rfl) 24 _ rfl _ rfl _ _ _ _ x_0.out rfl Try.underlying24 (by kernel_rfl) ?_))
        refine (HM.out _).mono ?_
        rintro e w1 ⟨rfl, q⟩
        have x_1 := Lib.hid (blk0 x_0.out q)
        have q_1 := Lib.hid (blk0 q_0.out q)
        have B1 := Lib.hid (bel0 B0.out B0.out.size q)
        clear q x_0 q_0 B0
        go_wp2_with (first | (refine wpl_row (by rfl) 24 _ rfl _ rfl _ _ _ _ x_1.out rfl Try.underlying24 (by kernel_rfl) ?_) | (refine wpl_row (by rfl) 68 _ rfl _ rfl _ _ _ _ q_1.out rfl Try.underlying68 (by kernel_rfl) ?_))
        refine (HU.out _).mono ?_
        rintro e w2 ⟨rfl, q⟩
        have x_2 := Lib.hid (blk0 x_1.out q)
        have q_2 := Lib.hid (blk0 q_1.out q)
        have B2 := Lib.hid (bel0 B1.out B1.out.size q)
        clear q x_1 q_1 B1
        have L1_15 : w2.cell? ⟨(w.heap.size + 1), 15, none⟩ = some (.int .i64 es3) := (cellsB (i := 15) q_2.out).trans rfl
        have L1_16 : w2.cell? ⟨(w.heap.size + 1), 16, none⟩ = some (.int .i64 eu3) := (cellsB (i := 16) q_2.out).trans rfl
        have L1_17 : w2.cell? ⟨(w.heap.size + 1), 17, none⟩ = some (.int .i64 et3) := (cellsB (i := 17) q_2.out).trans rfl
        have L1_18 : w2.cell? ⟨(w.heap.size + 1), 18, none⟩ = some (.int .i64 ec3) := (cellsB (i := 18) q_2.out).trans rfl
        have L1_19 : w2.cell? ⟨(w.heap.size + 1), 19, none⟩ = some (.int .i64 ea3) := (cellsB (i := 19) q_2.out).trans rfl
        have L2_0 : w2.cell? ⟨w.heap.size, 0, none⟩ = some (.int .i64 b) := (cellsB (i := 0) x_2.out).trans rfl
        have L2_1 : w2.cell? ⟨w.heap.size, 1, none⟩ = some (.int .i64 c) := (cellsB (i := 1) x_2.out).trans rfl
        have L2_2 : w2.cell? ⟨w.heap.size, 2, none⟩ = some (.int .i64 d) := (cellsB (i := 2) x_2.out).trans rfl
        have L2_3 : w2.cell? ⟨w.heap.size, 3, none⟩ = some (.int .i64 m0) := (cellsB (i := 3) x_2.out).trans rfl
        have L2_4 : w2.cell? ⟨w.heap.size, 4, none⟩ = some (.int .i64 m1) := (cellsB (i := 4) x_2.out).trans rfl
        have L2_5 : w2.cell? ⟨w.heap.size, 5, none⟩ = some (.int .i64 m2) := (cellsB (i := 5) x_2.out).trans rfl
        have L2_6 : w2.cell? ⟨w.heap.size, 6, none⟩ = some (.int .i64 p) := (cellsB (i := 6) x_2.out).trans rfl
        go_wp2
        go_ret
        exact ⟨ret_bool (decide_eq_true (show BookedP _ _ from ⟨(unF_all _ _ (of_decide_eq_true hm)).1 (of_decide_eq_true hu), H5.out, HA.out, HC.out⟩)).symm, B2.out⟩
      have ba : (ea3 == p) = false := beq_eq_false_iff_ne.2 ha
      have HM := Lib.hid (fun W => rmay_is ⟨b, c, d, m0, m1, m2, p⟩ true hm W)
      unfold W7.val at HM
      simp only at HM
      have HU := Lib.hid (fun W => unf_is hu W)
      unfold W7.val Q4.val at HU
      simp only at HU
      obtain ⟨f1, f2, f3⟩ := two_boxes w (.cells #[.int .i64 b, .int .i64 c, .int .i64 d, .int .i64 m0, .int .i64 m1, .int .i64 m2, .int .i64 p] 24) (.cells #[.int .i64 es0, .int .i64 eu0, .int .i64 et0, .int .i64 ec0, .int .i64 ea0, .int .i64 es1, .int .i64 eu1, .int .i64 et1, .int .i64 ec1, .int .i64 ea1, .int .i64 es2, .int .i64 eu2, .int .i64 et2, .int .i64 ec2, .int .i64 ea2, .int .i64 es3, .int .i64 eu3, .int .i64 et3, .int .i64 ec3, .int .i64 ea3] 68)
      have x_0 := Lib.hid f1
      have q_0 := Lib.hid f2
      have B0 := Lib.hid f3
      clear f1 f2 f3
      go_enter Try.func45, Try.ntmps45
      go_wp2_with (first | (refine wpl_row (by rfl) 24 _ rfl _ rfl _ _ _ _ x_0.out rfl Try.underlying24 (by kernel_rfl) ?_))
      refine (HM.out _).mono ?_
      rintro e w1 ⟨rfl, q⟩
      have x_1 := Lib.hid (blk0 x_0.out q)
      have q_1 := Lib.hid (blk0 q_0.out q)
      have B1 := Lib.hid (bel0 B0.out B0.out.size q)
      clear q x_0 q_0 B0
      go_wp2_with (first | (refine wpl_row (by rfl) 24 _ rfl _ rfl _ _ _ _ x_1.out rfl Try.underlying24 (by kernel_rfl) ?_) | (refine wpl_row (by rfl) 68 _ rfl _ rfl _ _ _ _ q_1.out rfl Try.underlying68 (by kernel_rfl) ?_))
      refine (HU.out _).mono ?_
      rintro e w2 ⟨rfl, q⟩
      have x_2 := Lib.hid (blk0 x_1.out q)
      have q_2 := Lib.hid (blk0 q_1.out q)
      have B2 := Lib.hid (bel0 B1.out B1.out.size q)
      clear q x_1 q_1 B1
      have L1_15 : w2.cell? ⟨(w.heap.size + 1), 15, none⟩ = some (.int .i64 es3) := (cellsB (i := 15) q_2.out).trans rfl
      have L1_16 : w2.cell? ⟨(w.heap.size + 1), 16, none⟩ = some (.int .i64 eu3) := (cellsB (i := 16) q_2.out).trans rfl
      have L1_17 : w2.cell? ⟨(w.heap.size + 1), 17, none⟩ = some (.int .i64 et3) := (cellsB (i := 17) q_2.out).trans rfl
      have L1_18 : w2.cell? ⟨(w.heap.size + 1), 18, none⟩ = some (.int .i64 ec3) := (cellsB (i := 18) q_2.out).trans rfl
      have L1_19 : w2.cell? ⟨(w.heap.size + 1), 19, none⟩ = some (.int .i64 ea3) := (cellsB (i := 19) q_2.out).trans rfl
      have L2_0 : w2.cell? ⟨w.heap.size, 0, none⟩ = some (.int .i64 b) := (cellsB (i := 0) x_2.out).trans rfl
      have L2_1 : w2.cell? ⟨w.heap.size, 1, none⟩ = some (.int .i64 c) := (cellsB (i := 1) x_2.out).trans rfl
      have L2_2 : w2.cell? ⟨w.heap.size, 2, none⟩ = some (.int .i64 d) := (cellsB (i := 2) x_2.out).trans rfl
      have L2_3 : w2.cell? ⟨w.heap.size, 3, none⟩ = some (.int .i64 m0) := (cellsB (i := 3) x_2.out).trans rfl
      have L2_4 : w2.cell? ⟨w.heap.size, 4, none⟩ = some (.int .i64 m1) := (cellsB (i := 4) x_2.out).trans rfl
      have L2_5 : w2.cell? ⟨w.heap.size, 5, none⟩ = some (.int .i64 m2) := (cellsB (i := 5) x_2.out).trans rfl
      have L2_6 : w2.cell? ⟨w.heap.size, 6, none⟩ = some (.int .i64 p) := (cellsB (i := 6) x_2.out).trans rfl
      go_wp2
      go_ret
      exact ⟨ret_bool (decide_eq_false (show ¬ BookedP _ _ from fun h => ha h.2.2.1)).symm, B2.out⟩
    have bc : (ec3 == c) = false := beq_eq_false_iff_ne.2 hc
    have HM := Lib.hid (fun W => rmay_is ⟨b, c, d, m0, m1, m2, p⟩ true hm W)
    unfold W7.val at HM
    simp only at HM
    have HU := Lib.hid (fun W => unf_is hu W)
    unfold W7.val Q4.val at HU
    simp only at HU
    obtain ⟨f1, f2, f3⟩ := two_boxes w (.cells #[.int .i64 b, .int .i64 c, .int .i64 d, .int .i64 m0, .int .i64 m1, .int .i64 m2, .int .i64 p] 24) (.cells #[.int .i64 es0, .int .i64 eu0, .int .i64 et0, .int .i64 ec0, .int .i64 ea0, .int .i64 es1, .int .i64 eu1, .int .i64 et1, .int .i64 ec1, .int .i64 ea1, .int .i64 es2, .int .i64 eu2, .int .i64 et2, .int .i64 ec2, .int .i64 ea2, .int .i64 es3, .int .i64 eu3, .int .i64 et3, .int .i64 ec3, .int .i64 ea3] 68)
    have x_0 := Lib.hid f1
    have q_0 := Lib.hid f2
    have B0 := Lib.hid f3
    clear f1 f2 f3
    go_enter Try.func45, Try.ntmps45
    go_wp2_with (first | (refine wpl_row (by rfl) 24 _ rfl _ rfl _ _ _ _ x_0.out rfl Try.underlying24 (by kernel_rfl) ?_))
    refine (HM.out _).mono ?_
    rintro e w1 ⟨rfl, q⟩
    have x_1 := Lib.hid (blk0 x_0.out q)
    have q_1 := Lib.hid (blk0 q_0.out q)
    have B1 := Lib.hid (bel0 B0.out B0.out.size q)
    clear q x_0 q_0 B0
    go_wp2_with (first | (refine wpl_row (by rfl) 24 _ rfl _ rfl _ _ _ _ x_1.out rfl Try.underlying24 (by kernel_rfl) ?_) | (refine wpl_row (by rfl) 68 _ rfl _ rfl _ _ _ _ q_1.out rfl Try.underlying68 (by kernel_rfl) ?_))
    refine (HU.out _).mono ?_
    rintro e w2 ⟨rfl, q⟩
    have x_2 := Lib.hid (blk0 x_1.out q)
    have q_2 := Lib.hid (blk0 q_1.out q)
    have B2 := Lib.hid (bel0 B1.out B1.out.size q)
    clear q x_1 q_1 B1
    have L1_15 : w2.cell? ⟨(w.heap.size + 1), 15, none⟩ = some (.int .i64 es3) := (cellsB (i := 15) q_2.out).trans rfl
    have L1_16 : w2.cell? ⟨(w.heap.size + 1), 16, none⟩ = some (.int .i64 eu3) := (cellsB (i := 16) q_2.out).trans rfl
    have L1_17 : w2.cell? ⟨(w.heap.size + 1), 17, none⟩ = some (.int .i64 et3) := (cellsB (i := 17) q_2.out).trans rfl
    have L1_18 : w2.cell? ⟨(w.heap.size + 1), 18, none⟩ = some (.int .i64 ec3) := (cellsB (i := 18) q_2.out).trans rfl
    have L1_19 : w2.cell? ⟨(w.heap.size + 1), 19, none⟩ = some (.int .i64 ea3) := (cellsB (i := 19) q_2.out).trans rfl
    have L2_0 : w2.cell? ⟨w.heap.size, 0, none⟩ = some (.int .i64 b) := (cellsB (i := 0) x_2.out).trans rfl
    have L2_1 : w2.cell? ⟨w.heap.size, 1, none⟩ = some (.int .i64 c) := (cellsB (i := 1) x_2.out).trans rfl
    have L2_2 : w2.cell? ⟨w.heap.size, 2, none⟩ = some (.int .i64 d) := (cellsB (i := 2) x_2.out).trans rfl
    have L2_3 : w2.cell? ⟨w.heap.size, 3, none⟩ = some (.int .i64 m0) := (cellsB (i := 3) x_2.out).trans rfl
    have L2_4 : w2.cell? ⟨w.heap.size, 4, none⟩ = some (.int .i64 m1) := (cellsB (i := 4) x_2.out).trans rfl
    have L2_5 : w2.cell? ⟨w.heap.size, 5, none⟩ = some (.int .i64 m2) := (cellsB (i := 5) x_2.out).trans rfl
    have L2_6 : w2.cell? ⟨w.heap.size, 6, none⟩ = some (.int .i64 p) := (cellsB (i := 6) x_2.out).trans rfl
    go_wp2
    go_ret
    exact ⟨ret_bool (decide_eq_false (show ¬ BookedP _ _ from fun h => hc h.2.2.2)).symm, B2.out⟩
  have b5 : (es3 == 5) = false := beq_eq_false_iff_ne.2 h5
  have HM := Lib.hid (fun W => rmay_is ⟨b, c, d, m0, m1, m2, p⟩ true hm W)
  unfold W7.val at HM
  simp only at HM
  have HU := Lib.hid (fun W => unf_is hu W)
  unfold W7.val Q4.val at HU
  simp only at HU
  obtain ⟨f1, f2, f3⟩ := two_boxes w (.cells #[.int .i64 b, .int .i64 c, .int .i64 d, .int .i64 m0, .int .i64 m1, .int .i64 m2, .int .i64 p] 24) (.cells #[.int .i64 es0, .int .i64 eu0, .int .i64 et0, .int .i64 ec0, .int .i64 ea0, .int .i64 es1, .int .i64 eu1, .int .i64 et1, .int .i64 ec1, .int .i64 ea1, .int .i64 es2, .int .i64 eu2, .int .i64 et2, .int .i64 ec2, .int .i64 ea2, .int .i64 es3, .int .i64 eu3, .int .i64 et3, .int .i64 ec3, .int .i64 ea3] 68)
  have x_0 := Lib.hid f1
  have q_0 := Lib.hid f2
  have B0 := Lib.hid f3
  clear f1 f2 f3
  go_enter Try.func45, Try.ntmps45
  go_wp2_with (first | (refine wpl_row (by rfl) 24 _ rfl _ rfl _ _ _ _ x_0.out rfl Try.underlying24 (by kernel_rfl) ?_))
  refine (HM.out _).mono ?_
  rintro e w1 ⟨rfl, q⟩
  have x_1 := Lib.hid (blk0 x_0.out q)
  have q_1 := Lib.hid (blk0 q_0.out q)
  have B1 := Lib.hid (bel0 B0.out B0.out.size q)
  clear q x_0 q_0 B0
  go_wp2_with (first | (refine wpl_row (by rfl) 24 _ rfl _ rfl _ _ _ _ x_1.out rfl Try.underlying24 (by kernel_rfl) ?_) | (refine wpl_row (by rfl) 68 _ rfl _ rfl _ _ _ _ q_1.out rfl Try.underlying68 (by kernel_rfl) ?_))
  refine (HU.out _).mono ?_
  rintro e w2 ⟨rfl, q⟩
  have x_2 := Lib.hid (blk0 x_1.out q)
  have q_2 := Lib.hid (blk0 q_1.out q)
  have B2 := Lib.hid (bel0 B1.out B1.out.size q)
  clear q x_1 q_1 B1
  have L1_15 : w2.cell? ⟨(w.heap.size + 1), 15, none⟩ = some (.int .i64 es3) := (cellsB (i := 15) q_2.out).trans rfl
  have L1_16 : w2.cell? ⟨(w.heap.size + 1), 16, none⟩ = some (.int .i64 eu3) := (cellsB (i := 16) q_2.out).trans rfl
  have L1_17 : w2.cell? ⟨(w.heap.size + 1), 17, none⟩ = some (.int .i64 et3) := (cellsB (i := 17) q_2.out).trans rfl
  have L1_18 : w2.cell? ⟨(w.heap.size + 1), 18, none⟩ = some (.int .i64 ec3) := (cellsB (i := 18) q_2.out).trans rfl
  have L1_19 : w2.cell? ⟨(w.heap.size + 1), 19, none⟩ = some (.int .i64 ea3) := (cellsB (i := 19) q_2.out).trans rfl
  have L2_0 : w2.cell? ⟨w.heap.size, 0, none⟩ = some (.int .i64 b) := (cellsB (i := 0) x_2.out).trans rfl
  have L2_1 : w2.cell? ⟨w.heap.size, 1, none⟩ = some (.int .i64 c) := (cellsB (i := 1) x_2.out).trans rfl
  have L2_2 : w2.cell? ⟨w.heap.size, 2, none⟩ = some (.int .i64 d) := (cellsB (i := 2) x_2.out).trans rfl
  have L2_3 : w2.cell? ⟨w.heap.size, 3, none⟩ = some (.int .i64 m0) := (cellsB (i := 3) x_2.out).trans rfl
  have L2_4 : w2.cell? ⟨w.heap.size, 4, none⟩ = some (.int .i64 m1) := (cellsB (i := 4) x_2.out).trans rfl
  have L2_5 : w2.cell? ⟨w.heap.size, 5, none⟩ = some (.int .i64 m2) := (cellsB (i := 5) x_2.out).trans rfl
  have L2_6 : w2.cell? ⟨w.heap.size, 6, none⟩ = some (.int .i64 p) := (cellsB (i := 6) x_2.out).trans rfl
  go_wp2
  go_ret
  exact ⟨ret_bool (decide_eq_false (show ¬ BookedP _ _ from fun h => h5 h.2.1)).symm, B2.out⟩
theorem rbooked_is {x : W7} {q : Q4} {b : Bool} (h : decide (BookedP x q) = b) (w : World) : Calls Try.prog 45 #[x.val, q.val] w fun e' w' => e' = .returned (.bool b) ∧ Below w.heap.size w w' := h ▸ rbooked_c x q w
end Go.Proofs.Ytplgodfhhlnojaa
