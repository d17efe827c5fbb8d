/- The law CashEnds, walked. -/
import Derived.Test.YtblpkcoapbkppaaCashLaws
set_option linter.unusedSimpArgs false
set_option linter.unusedVariables false
namespace Go.Proofs.Ytblpkcoapbkppaa
open Go.RowKit
def endsL : List Int := [-9223372036854775808, -9223372036854775807, -4611686018427387904, -2, -1, 0, 1, 2, 4611686018427387904, 9223372036854775806, 9223372036854775807]
theorem ends_fit (k : Nat) (h : k < endsL.length) : Fits endsL[k] := by
  have h' : k < 11 := h
  have : ∀ k : Fin 11, Fits (endsL.getD k 0) := by decide
  have := this ⟨k, h'⟩
  simpa [List.getD, h] using this
def EndsAt (w : World) (v i k : Value) (wx : World) : Prop := ∃ (g : Nat) (m n : Nat), v = .slice (some ⟨g, 0, none⟩) 11 11 ∧ i = .int .i64 m ∧ k = .int .i64 n ∧ m < 11 ∧ n < 11 ∧ Below w.heap.size w wx ∧ OI wx w.heap.size (.slice (some ⟨g, 0, none⟩) 11 11) endsL
def EndXY (w : World) (x y : Value) (wx : World) : Prop := ∃ a b : Int, x = .int .i64 a ∧ y = .int .i64 b ∧ Fits a ∧ Fits b ∧ Below w.heap.size w wx
def OverAt (w : World) (z : Int) (o : Value) (wx : World) : Prop := ∃ v : Bool, o = .bool v ∧ Hid (v = decide (¬ Fits z)) ∧ Below w.heap.size w wx
def NoAt (w : World) (o : Value) (wx : World) : Prop := o = .bool false ∧ Below w.heap.size w wx
set_option maxRecDepth 100000 in
set_option maxHeartbeats 16000000 in
theorem ends_walk (a0 b0 : Int) (w : World) :
    Calls Try.prog 6 #[.int .i64 a0, .int .i64 b0] w (ByAll w) := by
  obtain ⟨m, hm, hm2⟩ := u_rem1 a0 11 (by omega)
  obtain ⟨n, hn, hn2⟩ := u_rem1 b0 11 (by omega)
  go_enter Try.func6, Try.ntmps6
  go_upto_region 2 with fail
  go_cut [5, 6, 7] (fun v i k wx => EndsAt w v i k wx)
  case first => as_aux_lemma =>
    go_wp2_with fail
    go_meet
    refine ⟨_, m, n, rfl, rfl, rfl, by omega, by omega, (Below.refl _ _).alloc (Nat.le_refl _) _, OI.lit w _ endsL _ 11 rfl rfl (Nat.le_refl _) (by unfold maxLen; omega)⟩
  case rest =>
    obtain ⟨g, m, n, rfl, rfl, rfl, h1, h2, hb, own⟩ := hcut
    have q1 := own.at_ m h1
    have q2 := own.at_ n h2
    have hf1 := ends_fit m h1
    have hf2 := ends_fit n h2
    have HB := Lib.hid hb
    have T1 := Lib.hid hf1
    have T2 := Lib.hid hf2
    generalize endsL[m] = x at *
    generalize endsL[n] = y at *
    clear own hb hm hn hm2 hn2 hf1 hf2
    go_upto_region 3 with fail
    go_cut [8, 9] (fun x y wx => EndXY w x y wx)
    case first => as_aux_lemma =>
      go_quiet (fail)
      go_wp2_with fail
      go_meet
      exact ⟨x, y, rfl, rfl, T1.out, T2.out, below_drewN HB.out _⟩
    case rest =>
      obtain ⟨x, y, rfl, rfl, hx, hy, hb⟩ := hcut
      have HX := Lib.hid hx; have HY := Lib.hid hy; have HB := Lib.hid hb
      clear hb hx hy
      obtain ⟨x1, e1, k1⟩ := kept_pr (x + y)
      have c1 := fun ws => add_c x y ws HX.out HY.out
      rw [k1] at c1
      have C1 := Lib.hid c1
      have K1 := Lib.hid k1
      clear c1 k1
      go_wp2_with fail
      refine (C1.out _).mono ?_
      rintro e w1 ⟨rfl, b1⟩
      have HB := Lib.hid (HB.out.trans (b1.mono HB.out.size)); clear b1
      go_upto_region 5 with fail
      go_cut [12] (fun o wx => OverAt w (x + y) o wx)
      case first => as_aux_lemma =>
        have : (0 < x ∧ 9223372036854775807 - x < y) ∨ (0 < x ∧ ¬ 9223372036854775807 - x < y) ∨ (x < 0 ∧ y < -9223372036854775808 - x) ∨ (x < 0 ∧ ¬ y < -9223372036854775808 - x) ∨ x = 0 := by omega
        have hx := HX.out
        have hy := HY.out
        unfold Fits at hx hy
        rcases this with ⟨p, q⟩ | ⟨p, q⟩ | ⟨p, q⟩ | ⟨p, q⟩ | rfl
        all_goals (
          go_wp2_with fail
          go_meet
          have hx := HX.out
          have hy := HY.out
          first
            | exact ⟨_, rfl, Lib.hid (decide_eq_true (by unfold Fits at *; omega)).symm, HB.out⟩
            | exact ⟨_, rfl, Lib.hid (decide_eq_false (by unfold Fits at *; omega)).symm, HB.out⟩)
      case rest =>
      obtain ⟨v, rfl, HV, hb⟩ := hcut
      have HB := Lib.hid hb; clear hb
      go_upto_region 6 with fail
      go_cut [85] (fun o wx => NoAt w o wx)
      case first => as_aux_lemma =>
        by_cases hz : Fits (x + y)
        · have hk := K1.out
          rw [kept_yes hz] at hk
          simp only [Array.mk.injEq, List.cons.injEq, Value.int.injEq, true_and, and_true] at hk
          obtain ⟨rfl, rfl⟩ := hk
          have hw := wrap_fits hz
          have hv : v = false := HV.out.trans (decide_eq_false (fun h => h hz))
          subst hv
          clear hz
          go_wp2_with fail
          go_meet
          exact ⟨rfl, HB.out⟩
        · have hk := K1.out
          rw [kept_no hz] at hk
          simp only [Array.mk.injEq, List.cons.injEq, Value.int.injEq, true_and, and_true] at hk
          obtain ⟨rfl, rfl⟩ := hk
          have hv : v = true := HV.out.trans (decide_eq_true hz)
          subst hv
          clear hz
          go_wp2_with fail
          go_meet
          exact ⟨rfl, HB.out⟩
      case rest =>
      obtain ⟨rfl, hb⟩ := hcut
      have HB := Lib.hid hb; clear hb
      obtain ⟨x2, e2, k2⟩ := kept_pr (x - y)
      have c2 := fun ws => sub_c x y ws HX.out HY.out
      rw [k2] at c2
      have C2 := Lib.hid c2
      have K2 := Lib.hid k2
      clear c2 k2
      go_wp2_with fail
      refine (C2.out _).mono ?_
      rintro e w1 ⟨rfl, b1⟩
      have HB := Lib.hid (HB.out.trans (b1.mono HB.out.size)); clear b1
      go_upto_region 9 with fail
      go_cut [12] (fun o wx => OverAt w (x - y) o wx)
      case first => as_aux_lemma =>
        have : (y < 0 ∧ 9223372036854775807 + y < x) ∨ (y < 0 ∧ ¬ 9223372036854775807 + y < x) ∨ (0 < y ∧ x < -9223372036854775808 + y) ∨ (0 < y ∧ ¬ x < -9223372036854775808 + y) ∨ y = 0 := by omega
        have hx := HX.out
        have hy := HY.out
        unfold Fits at hx hy
        rcases this with ⟨p, q⟩ | ⟨p, q⟩ | ⟨p, q⟩ | ⟨p, q⟩ | rfl
        all_goals (
          go_wp2_with fail
          go_meet
          have hx := HX.out
          have hy := HY.out
          first
            | exact ⟨_, rfl, Lib.hid (decide_eq_true (by unfold Fits at *; omega)).symm, HB.out⟩
            | exact ⟨_, rfl, Lib.hid (decide_eq_false (by unfold Fits at *; omega)).symm, HB.out⟩)
      case rest =>
      obtain ⟨v, rfl, HV, hb⟩ := hcut
      have HB := Lib.hid hb; clear hb
      go_upto_region 10 with fail
      go_cut [135] (fun o wx => NoAt w o wx)
      case first => as_aux_lemma =>
        by_cases hz : Fits (x - y)
        · have hk := K2.out
          rw [kept_yes hz] at hk
          simp only [Array.mk.injEq, List.cons.injEq, Value.int.injEq, true_and, and_true] at hk
          obtain ⟨rfl, rfl⟩ := hk
          have hw := wrap_fits hz
          have hv : v = false := HV.out.trans (decide_eq_false (fun h => h hz))
          subst hv
          clear hz
          go_wp2_with fail
          go_meet
          exact ⟨rfl, HB.out⟩
        · have hk := K2.out
          rw [kept_no hz] at hk
          simp only [Array.mk.injEq, List.cons.injEq, Value.int.injEq, true_and, and_true] at hk
          obtain ⟨rfl, rfl⟩ := hk
          have hv : v = true := HV.out.trans (decide_eq_true hz)
          subst hv
          clear hz
          go_wp2_with fail
          go_meet
          exact ⟨rfl, HB.out⟩
      case rest =>
      obtain ⟨rfl, hb⟩ := hcut
      have HB := Lib.hid hb; clear hb
      obtain ⟨x3, e3, k3⟩ := kept_pr (x * y)
      have c3 := fun ws => mul_k x y ws HX.out HY.out
      have c4 := fun ws => mul_k y x ws HY.out HX.out
      rw [Int.mul_comm y x] at c4
      rw [k3] at c3 c4
      have C3 := Lib.hid c3
      have C4 := Lib.hid c4
      have K3 := Lib.hid k3
      clear c3 c4 k3
      go_wp2_with fail
      refine (C3.out _).mono ?_
      rintro e w1 ⟨rfl, b1⟩
      have HB := Lib.hid (HB.out.trans (b1.mono HB.out.size)); clear b1
      go_wp2_with fail
      refine (C4.out _).mono ?_
      rintro e w1 ⟨rfl, b1⟩
      have HB := Lib.hid (HB.out.trans (b1.mono HB.out.size)); clear b1
      go_upto_region 14 with fail
      go_cut [162] (fun o wx => NoAt w o wx)
      case first => as_aux_lemma =>
        by_cases hz : Fits (x * y)
        · have hk := K3.out
          rw [kept_yes hz] at hk
          simp only [Array.mk.injEq, List.cons.injEq, Value.int.injEq, true_and, and_true] at hk
          obtain ⟨rfl, rfl⟩ := hk
          have e1 : (x * y != x * y) = false := by simp
          clear hz
          go_wp2_with fail
          go_meet
          exact ⟨rfl, HB.out⟩
        · have hk := K3.out
          rw [kept_no hz] at hk
          simp only [Array.mk.injEq, List.cons.injEq, Value.int.injEq, true_and, and_true] at hk
          obtain ⟨rfl, rfl⟩ := hk
          clear hz
          go_wp2_with fail
          go_meet
          exact ⟨rfl, HB.out⟩
      case rest => as_aux_lemma =>
      obtain ⟨rfl, hb⟩ := hcut
      have HB := Lib.hid hb; clear hb
      have hk := K3.out
      have f0 : Fits 0 := by decide
      by_cases x0 : x = 0
      · rw [x0, Int.zero_mul, kept_yes f0] at hk
        simp only [Array.mk.injEq, List.cons.injEq, Value.int.injEq, true_and, and_true] at hk
        obtain ⟨rfl, rfl⟩ := hk
        have b0 : (x == 0) = true := beq_iff_eq.2 x0
        clear x0
        go_wp2_with (go_at_call 15; refine (told2 _).mono ?_; rintro e w9 ⟨rfl, hb9⟩)
        go_ret
        exact ⟨ret_bool (by simp), HB.out.trans (hb9.mono HB.out.size)⟩
      have b0 : (x == 0) = false := beq_eq_false_iff_ne.2 x0
      by_cases y0 : y = 0
      · rw [y0, Int.mul_zero, kept_yes f0] at hk
        simp only [Array.mk.injEq, List.cons.injEq, Value.int.injEq, true_and, and_true] at hk
        obtain ⟨rfl, rfl⟩ := hk
        have b1 : (y == 0) = true := beq_iff_eq.2 y0
        clear y0
        go_wp2_with (go_at_call 15; refine (told2 _).mono ?_; rintro e w9 ⟨rfl, hb9⟩)
        go_ret
        exact ⟨ret_bool (by simp), HB.out.trans (hb9.mono HB.out.size)⟩
      have b1 : (y == 0) = false := beq_eq_false_iff_ne.2 y0
      by_cases x1 : x = 1
      · have hz : Fits (x * y) := by rw [x1, Int.one_mul]; exact HY.out
        rw [kept_yes hz] at hk
        simp only [Array.mk.injEq, List.cons.injEq, Value.int.injEq, true_and, and_true] at hk
        obtain ⟨rfl, rfl⟩ := hk
        have hw := wrap_fits hz
        have b2 : (x == 1) = true := beq_iff_eq.2 x1
        clear x1 hz
        go_wp2_with (go_at_call 15; refine (told2 _).mono ?_; rintro e w9 ⟨rfl, hb9⟩)
        go_ret
        exact ⟨ret_bool (by simp), HB.out.trans (hb9.mono HB.out.size)⟩
      have b2 : (x == 1) = false := beq_eq_false_iff_ne.2 x1
      by_cases y1 : y = 1
      · have hz : Fits (x * y) := by rw [y1, Int.mul_one]; exact HX.out
        rw [kept_yes hz] at hk
        simp only [Array.mk.injEq, List.cons.injEq, Value.int.injEq, true_and, and_true] at hk
        obtain ⟨rfl, rfl⟩ := hk
        have hw := wrap_fits hz
        have b3 : (y == 1) = true := beq_iff_eq.2 y1
        clear y1 hz
        go_wp2_with (go_at_call 15; refine (told2 _).mono ?_; rintro e w9 ⟨rfl, hb9⟩)
        go_ret
        exact ⟨ret_bool (by simp), HB.out.trans (hb9.mono HB.out.size)⟩
      have b3 : (y == 1) = false := beq_eq_false_iff_ne.2 y1
      by_cases xm : x = -1
      · have hm := mul_edge x y HX.out HY.out xm
        have b4 : (x == -1) = true := beq_iff_eq.2 xm
        by_cases ym : y = -9223372036854775808
        · have hz : ¬ Fits (x * y) := fun h => hm.1 h ym
          rw [kept_no hz] at hk
          simp only [Array.mk.injEq, List.cons.injEq, Value.int.injEq, true_and, and_true] at hk
          obtain ⟨rfl, rfl⟩ := hk
          have b5 : (y != -9223372036854775808) = false := by simp [ym]
          clear xm ym hz hm x0 y0 x1 y1
          go_wp2_with (go_at_call 15; refine (told2 _).mono ?_; rintro e w9 ⟨rfl, hb9⟩)
          go_ret
          exact ⟨ret_bool (by simp), HB.out.trans (hb9.mono HB.out.size)⟩
        · have hz : Fits (x * y) := hm.2 ym
          rw [kept_yes hz] at hk
          simp only [Array.mk.injEq, List.cons.injEq, Value.int.injEq, true_and, and_true] at hk
          obtain ⟨rfl, rfl⟩ := hk
          have b5 : (y != -9223372036854775808) = true := bne_iff_ne.2 ym
          have b6 : wrap64 (-y) = x * y := by rw [xm] at hz ⊢; rw [show (-1 : Int) * y = -y by omega] at hz ⊢; exact wrap_fits hz
          clear xm ym hz hm x0 y0 x1 y1
          go_wp2_with (go_at_call 15; refine (told2 _).mono ?_; rintro e w9 ⟨rfl, hb9⟩)
          go_ret
          exact ⟨ret_bool (by simp), HB.out.trans (hb9.mono HB.out.size)⟩
      have b4 : (x == -1) = false := beq_eq_false_iff_ne.2 xm
      by_cases hz : Fits (x * y)
      · rw [kept_yes hz] at hk
        simp only [Array.mk.injEq, List.cons.injEq, Value.int.injEq, true_and, and_true] at hk
        obtain ⟨rfl, rfl⟩ := hk
        have hq : (x * y).tdiv y = x := Int.mul_tdiv_cancel x y0
        have hr : (x * y).tmod y = 0 := Int.mul_tmod_left x y
        have hw := wrap_fits HX.out
        clear hz x0 x1 y1 xm
        go_wp2_with (go_at_call 15; refine (told2 _).mono ?_; rintro e w9 ⟨rfl, hb9⟩)
        go_ret
        exact ⟨ret_bool (by simp), HB.out.trans (hb9.mono HB.out.size)⟩
      · rw [kept_no hz] at hk
        simp only [Array.mk.injEq, List.cons.injEq, Value.int.injEq, true_and, and_true] at hk
        obtain ⟨rfl, rfl⟩ := hk
        clear hz x0 x1 y1 xm
        go_wp2_with (go_at_call 15; refine (told2 _).mono ?_; rintro e w9 ⟨rfl, hb9⟩)
        go_ret
        exact ⟨ret_bool (by simp), HB.out.trans (hb9.mono HB.out.size)⟩
end Go.Proofs.Ytblpkcoapbkppaa
