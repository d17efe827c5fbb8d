/- Which wants may be. -/
import Derived.Test.YtplgodfhhlnojaaKit
set_option linter.unusedSimpArgs false
set_option linter.unusedVariables false
namespace Go.Proofs.Ytplgodfhhlnojaa
open Go.RowKit
structure W7 where
  (b c d m0 m1 m2 p : Int)
def W7.val (x : W7) : Value := .agg #[.int .i64 x.b, .int .i64 x.c, .int .i64 x.d, .int .i64 x.m0, .int .i64 x.m1, .int .i64 x.m2, .int .i64 x.p]
def W7.u (x : W7) (i : Nat) : Int := if i = 0 then x.m0 else if i = 1 then x.m1 else x.m2
def UnitsOk (x : W7) : Prop := (0 ≤ x.m0 ∧ x.m0 ≤ 1000) ∧ (0 ≤ x.m1 ∧ x.m1 ≤ 1000) ∧ (0 ≤ x.m2 ∧ x.m2 ≤ 1000)
def MayW (x : W7) : Prop := UnitsOk x ∧ (0 < x.m0 ∨ 0 < x.m1 ∨ 0 < x.m2) ∧ (1 ≤ x.b ∧ x.b ≤ 200) ∧ (0 ≤ x.c ∧ x.c ≤ 3) ∧ (0 ≤ x.d ∧ x.d ≤ 1099511627776) ∧ (0 ≤ x.p ∧ x.p ≤ 1099511627776)
instance (x : W7) : Decidable (UnitsOk x) := by unfold UnitsOk; infer_instance
instance (x : W7) : Decidable (MayW x) := by unfold MayW; infer_instance
/-- Is there some unit among the first k? -/
def svU (m0 m1 m2 : Int) : Nat → Bool
  | 0 => false
  | 1 => decide (0 < m0)
  | 2 => decide (0 < m0) || decide (0 < m1)
  | _ => decide (0 < m0) || decide (0 < m1) || decide (0 < m2)
def OkU (m0 m1 m2 : Int) (k : Nat) : Prop := (1 ≤ k → 0 ≤ m0 ∧ m0 ≤ 1000) ∧ (2 ≤ k → 0 ≤ m1 ∧ m1 ≤ 1000) ∧ (3 ≤ k → 0 ≤ m2 ∧ m2 ≤ 1000)
theorem int_abs (w : World) (o : Obj) : Below w.heap.size w (w.alloc o) := (Below.refl _ _).alloc (Nat.le_refl _) _
set_option maxHeartbeats 4000000 in
theorem rmay_c (x : W7) (w : World) : Calls Try.prog 35 #[x.val] w fun e w' => e = .returned (.bool (decide (MayW x))) ∧ Below w.heap.size w w' := by
  obtain ⟨b, c, d, m0, m1, m2, p⟩ := x
  unfold W7.val
  go_enter Try.func35, Try.ntmps35
  go_wp2
  go_loop [3, 4] (fun s i => ∃ k : Nat, k ≤ 3 ∧ i = .int .i64 k ∧ s = .bool (svU m0 m1 m2 k) ∧ Hid (OkU m0 m1 m2 k)) (fun _ i => 3 - (intOf i).toNat)
  case atStart => exact ⟨0, by omega, by first | rfl | trivial | simp [svU], by first | rfl | trivial | simp [svU], Lib.hid ⟨by omega, by omega, by omega⟩⟩
  case round =>
    obtain ⟨k, hk, rfl, rfl, HO⟩ := hrel
    obtain ⟨v, hv⟩ : ∃ v, svU m0 m1 m2 k = v := ⟨_, rfl⟩
    rw [hv]
    have HV := Lib.hid hv
    clear hv
    have : k = 0 ∨ k = 1 ∨ k = 2 ∨ k = 3 := by omega
    rcases this with rfl | rfl | rfl | rfl
    · by_cases a : m0 < 0
      · go_wp2
        go_ret
        exact ⟨ret_bool (decide_eq_false (by unfold MayW UnitsOk; simp only; omega)).symm, int_abs _ _⟩
      by_cases a2 : 1000 < m0
      · go_wp2
        go_ret
        exact ⟨ret_bool (decide_eq_false (by unfold MayW UnitsOk; simp only; omega)).symm, int_abs _ _⟩
      cases v <;> (
        go_wp2
        go_round
        case rel => exact ⟨1, by omega, rfl, congrArg Value.bool (by rw [show svU m0 m1 m2 1 = (svU m0 m1 m2 0 || decide (0 < m0)) from rfl, HV.out]; rfl), by have := HO.out; unfold OkU at this; exact Lib.hid ⟨by omega, by omega, by omega⟩⟩
        case measure => simp [intOf])
    · by_cases a : m1 < 0
      · go_wp2
        go_ret
        exact ⟨ret_bool (decide_eq_false (by unfold MayW UnitsOk; simp only; omega)).symm, int_abs _ _⟩
      by_cases a2 : 1000 < m1
      · go_wp2
        go_ret
        exact ⟨ret_bool (decide_eq_false (by unfold MayW UnitsOk; simp only; omega)).symm, int_abs _ _⟩
      cases v <;> (
        go_wp2
        go_round
        case rel => exact ⟨2, by omega, rfl, congrArg Value.bool (by rw [show svU m0 m1 m2 2 = (svU m0 m1 m2 1 || decide (0 < m1)) from rfl, HV.out]; rfl), by have := HO.out; unfold OkU at this; exact Lib.hid ⟨by omega, by omega, by omega⟩⟩
        case measure => simp [intOf])
    · by_cases a : m2 < 0
      · go_wp2
        go_ret
        exact ⟨ret_bool (decide_eq_false (by unfold MayW UnitsOk; simp only; omega)).symm, int_abs _ _⟩
      by_cases a2 : 1000 < m2
      · go_wp2
        go_ret
        exact ⟨ret_bool (decide_eq_false (by unfold MayW UnitsOk; simp only; omega)).symm, int_abs _ _⟩
      cases v <;> (
        go_wp2
        go_round
        case rel => exact ⟨3, by omega, rfl, congrArg Value.bool (by rw [show svU m0 m1 m2 3 = (svU m0 m1 m2 2 || decide (0 < m2)) from rfl, HV.out]; rfl), by have := HO.out; unfold OkU at this; exact Lib.hid ⟨by omega, by omega, by omega⟩⟩
        case measure => simp [intOf])
    · have ho := HO.out
      unfold OkU at ho
      have HO2 := Lib.hid (show UnitsOk ⟨b, c, d, m0, m1, m2, p⟩ from ⟨ho.1 (by omega), ho.2.1 (by omega), ho.2.2 (by omega)⟩)
      have HV2 := Lib.hid (show (v = true ↔ 0 < m0 ∨ 0 < m1 ∨ 0 < m2) by rw [← HV.out]; simp [svU]; omega)
      clear ho HO HV
      cases v <;> go_wp2
      all_goals (
        go_ret
        have h1 := HO2.out
        have h2 := HV2.out
        unfold UnitsOk at h1
        simp only [Bool.false_eq_true, false_iff, true_iff] at h1 h2
        refine ⟨ret_bool ?_, int_abs _ _⟩
        first
          | exact (decide_eq_false (by unfold MayW UnitsOk; simp only; omega)).symm
          | exact (decide_eq_true (by unfold MayW UnitsOk; simp only; omega)).symm
          | exact decide_eq_decide.2 (by unfold MayW UnitsOk; simp only; omega))
/-- Does a number lie between two? -/
def inB (n lo hi : Int) : Bool := decide (lo ≤ n ∧ n ≤ hi)
theorem inB_t {n lo hi : Int} (h : inB n lo hi = true) : lo ≤ n ∧ n ≤ hi := of_decide_eq_true h
theorem inB_f {n lo hi : Int} (h : inB n lo hi = false) : ¬ (lo ≤ n ∧ n ≤ hi) := of_decide_eq_false h
theorem within_c (n lo hi : Int) (w : World) : Calls Try.prog 101 #[.int .i64 n, .int .i64 lo, .int .i64 hi] w fun e w' => e = .returned (.bool (inB n lo hi)) ∧ w = w' := by
  unfold inB
  by_cases h : lo ≤ n
  · go_enter Try.func101, Try.ntmps101
    go_wp2
    go_ret
    exact ⟨ret_bool (decide_eq_decide.2 (by omega)), rfl⟩
  · have h' : decide (lo ≤ n) = false := decide_eq_false h
    go_enter Try.func101, Try.ntmps101
    go_wp2
    go_ret
    first | exact ⟨rfl, rfl⟩ | exact ⟨ret_bool (decide_eq_false (by omega)).symm, rfl⟩
theorem within64_c (n lo hi : Int) (w : World) : Calls Try.prog 102 #[.int .i64 n, .int .i64 lo, .int .i64 hi] w fun e w' => e = .returned (.bool (inB n lo hi)) ∧ w = w' := by
  unfold inB
  by_cases h : lo ≤ n
  · go_enter Try.func102, Try.ntmps102
    go_wp2
    go_ret
    exact ⟨ret_bool (decide_eq_decide.2 (by omega)), rfl⟩
  · have h' : decide (lo ≤ n) = false := decide_eq_false h
    go_enter Try.func102, Try.ntmps102
    go_wp2
    go_ret
    first | exact ⟨rfl, rfl⟩ | exact ⟨ret_bool (decide_eq_false (by omega)).symm, rfl⟩
def smU (m0 m1 m2 : Int) : Nat → Int
  | 0 => 0
  | 1 => m0
  | 2 => m0 + m1
  | _ => m0 + m1 + m2
def mayT (x : W7) (s : Int) : Bool := decide (0 < s) && inB x.b 1 200 && inB x.c 0 3 && inB x.d 0 1099511627776 && inB x.p 0 1099511627776
theorem mayT_is (x : W7) (s : Int) (hs : s = x.m0 + x.m1 + x.m2) (hu : UnitsOk x) : mayT x s = decide (MayW x) := by
  have e : MayW x ↔ 0 < s ∧ (1 ≤ x.b ∧ x.b ≤ 200) ∧ (0 ≤ x.c ∧ x.c ≤ 3) ∧ (0 ≤ x.d ∧ x.d ≤ 1099511627776) ∧ (0 ≤ x.p ∧ x.p ≤ 1099511627776) := by
    have h := hu
    unfold UnitsOk at h
    constructor
    · rintro ⟨_, h1, h2, h3, h4, h5⟩; exact ⟨by omega, h2, h3, h4, h5⟩
    · rintro ⟨h1, h2, h3, h4, h5⟩; exact ⟨hu, by omega, h2, h3, h4, h5⟩
  rw [show decide (MayW x) = decide (0 < s ∧ (1 ≤ x.b ∧ x.b ≤ 200) ∧ (0 ≤ x.c ∧ x.c ≤ 3) ∧ (0 ≤ x.d ∧ x.d ≤ 1099511627776) ∧ (0 ≤ x.p ∧ x.p ≤ 1099511627776)) from decide_eq_decide.2 e]
  simp only [mayT, inB, Bool.decide_and, Bool.and_assoc]
set_option maxHeartbeats 4000000 in
theorem may_c (x : W7) (w : World) : Calls Try.prog 65 #[x.val] w fun e w' => e = .returned (.bool (decide (MayW x))) ∧ Below w.heap.size w w' := by
  obtain ⟨b, c, d, m0, m1, m2, p⟩ := x
  unfold W7.val
  have i0 : ∀ w, (Instr.index 22 (.agg #[.int .i64 m0, .int .i64 m1, .int .i64 m2]) (.int .i64 0)).run Try.prog w = .ok (.int .i64 m0) w := fun _ => by kernel_rfl
  have i1 : ∀ w, (Instr.index 22 (.agg #[.int .i64 m0, .int .i64 m1, .int .i64 m2]) (.int .i64 1)).run Try.prog w = .ok (.int .i64 m1) w := fun _ => by kernel_rfl
  have i2 : ∀ w, (Instr.index 22 (.agg #[.int .i64 m0, .int .i64 m1, .int .i64 m2]) (.int .i64 2)).run Try.prog w = .ok (.int .i64 m2) w := fun _ => by kernel_rfl
  go_enter Try.func65, Try.ntmps65
  go_wp2
  go_loop [3, 8] (fun s i => ∃ (k : Nat) (u : Int), k ≤ 3 ∧ i = .int .i64 k ∧ s = .int .i64 u ∧ 0 ≤ u ∧ u ≤ 3000 ∧ Hid (u = smU m0 m1 m2 k ∧ OkU m0 m1 m2 k)) (fun _ i => 3 - (intOf i).toNat)
  case atStart => exact ⟨0, 0, by omega, by first | rfl | trivial, by first | rfl | trivial, by omega, by omega, Lib.hid ⟨rfl, by unfold OkU; omega⟩⟩
  case round =>
    obtain ⟨k, u, hk, rfl, rfl, u0, u1, HO⟩ := hrel
    have : k = 0 ∨ k = 1 ∨ k = 2 ∨ k = 3 := by omega
    rcases this with rfl | rfl | rfl | rfl
    · by_cases a : 0 ≤ m0 ∧ m0 ≤ 1000
      · have ha : inB m0 0 1000 = true := decide_eq_true a
        go_wp2_with (go_at_call 101; refine (within_c _ _ _ _).mono ?_; rintro e w' ⟨rfl, rfl⟩)
        go_round
        case rel => exact ⟨1, u + m0, by omega, rfl, rfl, by omega, by have := HO.out.1; simp only [smU] at this; omega, by have := HO.out; unfold OkU at *; simp only [smU] at *; exact Lib.hid ⟨by omega, by omega, by omega, by omega⟩⟩
        case measure => simp [intOf]
      · have ha : inB m0 0 1000 = false := decide_eq_false a
        go_wp2_with (go_at_call 101; refine (within_c _ _ _ _).mono ?_; rintro e w' ⟨rfl, rfl⟩)
        go_ret
        exact ⟨ret_bool (decide_eq_false (by unfold MayW UnitsOk; simp only; omega)).symm, int_abs _ _⟩
    · by_cases a : 0 ≤ m1 ∧ m1 ≤ 1000
      · have ha : inB m1 0 1000 = true := decide_eq_true a
        go_wp2_with (go_at_call 101; refine (within_c _ _ _ _).mono ?_; rintro e w' ⟨rfl, rfl⟩)
        go_round
        case rel => exact ⟨2, u + m1, by omega, rfl, rfl, by omega, by have := HO.out; unfold OkU at this; simp only [smU] at this; omega, by have := HO.out; unfold OkU at *; simp only [smU] at *; exact Lib.hid ⟨by omega, by omega, by omega, by omega⟩⟩
        case measure => simp [intOf]
      · have ha : inB m1 0 1000 = false := decide_eq_false a
        go_wp2_with (go_at_call 101; refine (within_c _ _ _ _).mono ?_; rintro e w' ⟨rfl, rfl⟩)
        go_ret
        exact ⟨ret_bool (decide_eq_false (by unfold MayW UnitsOk; simp only; omega)).symm, int_abs _ _⟩
    · by_cases a : 0 ≤ m2 ∧ m2 ≤ 1000
      · have ha : inB m2 0 1000 = true := decide_eq_true a
        go_wp2_with (go_at_call 101; refine (within_c _ _ _ _).mono ?_; rintro e w' ⟨rfl, rfl⟩)
        go_round
        case rel => exact ⟨3, u + m2, by omega, rfl, rfl, by omega, by have := HO.out; unfold OkU at this; simp only [smU] at this; omega, by have := HO.out; unfold OkU at *; simp only [smU] at *; exact Lib.hid ⟨by omega, by omega, by omega, by omega⟩⟩
        case measure => simp [intOf]
      · have ha : inB m2 0 1000 = false := decide_eq_false a
        go_wp2_with (go_at_call 101; refine (within_c _ _ _ _).mono ?_; rintro e w' ⟨rfl, rfl⟩)
        go_ret
        exact ⟨ret_bool (decide_eq_false (by unfold MayW UnitsOk; simp only; omega)).symm, int_abs _ _⟩
    · clear i0 i1 i2
      have HF := Lib.hid (mayT_is ⟨b, c, d, m0, m1, m2, p⟩ u (by have := HO.out.1; unfold smU at this; exact this) (by have := HO.out.2; unfold OkU at this; exact ⟨this.1 (by omega), this.2.1 (by omega), this.2.2 (by omega)⟩))
      go_wp2_with (first | (go_at_call 101; refine (within_c _ _ _ _).mono ?_; rintro e w' ⟨rfl, rfl⟩) | (go_at_call 102; refine (within64_c _ _ _ _).mono ?_; rintro e w' ⟨rfl, rfl⟩))
      all_goals
        go_ret
        refine ⟨ret_bool ?_, int_abs _ _⟩
        rw [← HF.out]
        first | (simp_all [mayT]; done) | (simp_all [mayT]; omega)
end Go.Proofs.Ytplgodfhhlnojaa
