/- Want, MayOp, WCalls, RowL, OpenS, merged. -/
import Derived.Test.YtplgodfhhlnojaaB1
import Derived.Outline
import Derived.Laws.Tables
import Derived.Laws.Rows
import Derived.BigFrame
import Derived.ProofKit
set_option linter.unusedSimpArgs false
set_option linter.unusedVariables false
/- Which wants may be. -/
namespace Go.Proofs.Ytplgodfhhlnojaa
open Go.RowKit
structure W7 where
  (b c d m0 m1 m2 p : Int)
def W7.val (x : W7) : Value := .agg #[.int .i64 x.b, .int .i64 x.c, .int .i64 x.d, .int .i64 x.m0, .int .i64 x.m1, .int .i64 x.m2, .int .i64 x.p]
def W7.u (x : W7) (i : Nat) : Int := if i = 0 then x.m0 else if i = 1 then x.m1 else x.m2
def UnitsOk (x : W7) : Prop := (0 ≤ x.m0 ∧ x.m0 ≤ 1000) ∧ (0 ≤ x.m1 ∧ x.m1 ≤ 1000) ∧ (0 ≤ x.m2 ∧ x.m2 ≤ 1000)
def MayW (x : W7) : Prop := UnitsOk x ∧ (0 < x.m0 ∨ 0 < x.m1 ∨ 0 < x.m2) ∧ (1 ≤ x.b ∧ x.b ≤ 200) ∧ (0 ≤ x.c ∧ x.c ≤ 3) ∧ (0 ≤ x.d ∧ x.d ≤ 1099511627776) ∧ (0 ≤ x.p ∧ x.p ≤ 1099511627776)
instance (x : W7) : Decidable (UnitsOk x) := by unfold UnitsOk; infer_instance
instance (x : W7) : Decidable (MayW x) := by unfold MayW; infer_instance
/-- Is there some unit among the first k? -/
def svU (m0 m1 m2 : Int) : Nat → Bool
  | 0 => false
  | 1 => decide (0 < m0)
  | 2 => decide (0 < m0) || decide (0 < m1)
  | _ => decide (0 < m0) || decide (0 < m1) || decide (0 < m2)
def OkU (m0 m1 m2 : Int) (k : Nat) : Prop := (1 ≤ k → 0 ≤ m0 ∧ m0 ≤ 1000) ∧ (2 ≤ k → 0 ≤ m1 ∧ m1 ≤ 1000) ∧ (3 ≤ k → 0 ≤ m2 ∧ m2 ≤ 1000)
theorem int_abs (w : World) (o : Obj) : Below w.heap.size w (w.alloc o) := (Below.refl _ _).alloc (Nat.le_refl _) _
set_option maxHeartbeats 4000000 in
theorem rmay_c (x : W7) (w : World) : Calls Try.prog 35 #[x.val] w fun e w' => e = .returned (.bool (decide (MayW x))) ∧ Below w.heap.size w w' := by
  obtain ⟨b, c, d, m0, m1, m2, p⟩ := x
  unfold W7.val
  go_enter Try.func35, Try.ntmps35
  go_wp2
  go_loop [3, 4] (fun s i => ∃ k : Nat, k ≤ 3 ∧ i = .int .i64 k ∧ s = .bool (svU m0 m1 m2 k) ∧ Hid (OkU m0 m1 m2 k)) (fun _ i => 3 - (intOf i).toNat)
  case atStart => exact ⟨0, by omega, by first | rfl | trivial | simp [svU], by first | rfl | trivial | simp [svU], Lib.hid ⟨by omega, by omega, by omega⟩⟩
  case round =>
    obtain ⟨k, hk, rfl, rfl, HO⟩ := hrel
    obtain ⟨v, hv⟩ : ∃ v, svU m0 m1 m2 k = v := ⟨_, rfl⟩
    rw [hv]
    have HV := Lib.hid hv
    clear hv
    have : k = 0 ∨ k = 1 ∨ k = 2 ∨ k = 3 := by omega
    rcases this with rfl | rfl | rfl | rfl
    · by_cases a : m0 < 0
      · go_wp2
        go_ret
        exact ⟨ret_bool (decide_eq_false (by unfold MayW UnitsOk; simp only; omega)).symm, int_abs _ _⟩
      by_cases a2 : 1000 < m0
      · go_wp2
        go_ret
        exact ⟨ret_bool (decide_eq_false (by unfold MayW UnitsOk; simp only; omega)).symm, int_abs _ _⟩
      cases v <;> (
        go_wp2
        go_round
        case rel => exact ⟨1, by omega, rfl, congrArg Value.bool (by rw [show svU m0 m1 m2 1 = (svU m0 m1 m2 0 || decide (0 < m0)) from rfl, HV.out]; rfl), by have := HO.out; unfold OkU at this; exact Lib.hid ⟨by omega, by omega, by omega⟩⟩
        case measure => simp [intOf])
    · by_cases a : m1 < 0
      · go_wp2
        go_ret
        exact ⟨ret_bool (decide_eq_false (by unfold MayW UnitsOk; simp only; omega)).symm, int_abs _ _⟩
      by_cases a2 : 1000 < m1
      · go_wp2
        go_ret
        exact ⟨ret_bool (decide_eq_false (by unfold MayW UnitsOk; simp only; omega)).symm, int_abs _ _⟩
      cases v <;> (
        go_wp2
        go_round
        case rel => exact ⟨2, by omega, rfl, congrArg Value.bool (by rw [show svU m0 m1 m2 2 = (svU m0 m1 m2 1 || decide (0 < m1)) from rfl, HV.out]; rfl), by have := HO.out; unfold OkU at this; exact Lib.hid ⟨by omega, by omega, by omega⟩⟩
        case measure => simp [intOf])
    · by_cases a : m2 < 0
      · go_wp2
        go_ret
        exact ⟨ret_bool (decide_eq_false (by unfold MayW UnitsOk; simp only; omega)).symm, int_abs _ _⟩
      by_cases a2 : 1000 < m2
      · go_wp2
        go_ret
        exact ⟨ret_bool (decide_eq_false (by unfold MayW UnitsOk; simp only; omega)).symm, int_abs _ _⟩
      cases v <;> (
        go_wp2
        go_round
        case rel => exact ⟨3, by omega, rfl, congrArg Value.bool (by rw [show svU m0 m1 m2 3 = (svU m0 m1 m2 2 || decide (0 < m2)) from rfl, HV.out]; rfl), by have := HO.out; unfold OkU at this; exact Lib.hid ⟨by omega, by omega, by omega⟩⟩
        case measure => simp [intOf])
    · have ho := HO.out
      unfold OkU at ho
      have HO2 := Lib.hid (show UnitsOk ⟨b, c, d, m0, m1, m2, p⟩ from ⟨ho.1 (by omega), ho.2.1 (by omega), ho.2.2 (by omega)⟩)
      have HV2 := Lib.hid (show (v = true ↔ 0 < m0 ∨ 0 < m1 ∨ 0 < m2) by rw [← HV.out]; simp [svU]; omega)
      clear ho HO HV
      cases v <;> go_wp2
      all_goals (
        go_ret
        have h1 := HO2.out
        have h2 := HV2.out
        unfold UnitsOk at h1
        simp only [Bool.false_eq_true, false_iff, true_iff] at h1 h2
        refine ⟨ret_bool ?_, int_abs _ _⟩
        first
          | exact (decide_eq_false (by unfold MayW UnitsOk; simp only; omega)).symm
          | exact (decide_eq_true (by unfold MayW UnitsOk; simp only; omega)).symm
          | exact decide_eq_decide.2 (by unfold MayW UnitsOk; simp only; omega))
/-- Does a number lie between two? -/
def inB (n lo hi : Int) : Bool := decide (lo ≤ n ∧ n ≤ hi)
theorem inB_t {n lo hi : Int} (h : inB n lo hi = true) : lo ≤ n ∧ n ≤ hi := of_decide_eq_true h
theorem inB_f {n lo hi : Int} (h : inB n lo hi = false) : ¬ (lo ≤ n ∧ n ≤ hi) := of_decide_eq_false h
theorem within_c (n lo hi : Int) (w : World) : Calls Try.prog 101 #[.int .i64 n, .int .i64 lo, .int .i64 hi] w fun e w' => e = .returned (.bool (inB n lo hi)) ∧ w = w' := by
  unfold inB
  by_cases h : lo ≤ n
  · go_enter Try.func101, Try.ntmps101
    go_wp2
    go_ret
    exact ⟨ret_bool (decide_eq_decide.2 (by omega)), rfl⟩
  · have h' : decide (lo ≤ n) = false := decide_eq_false h
    go_enter Try.func101, Try.ntmps101
    go_wp2
    go_ret
    first | exact ⟨rfl, rfl⟩ | exact ⟨ret_bool (decide_eq_false (by omega)).symm, rfl⟩
theorem within64_c (n lo hi : Int) (w : World) : Calls Try.prog 102 #[.int .i64 n, .int .i64 lo, .int .i64 hi] w fun e w' => e = .returned (.bool (inB n lo hi)) ∧ w = w' := by
  unfold inB
  by_cases h : lo ≤ n
  · go_enter Try.func102, Try.ntmps102
    go_wp2
    go_ret
    exact ⟨ret_bool (decide_eq_decide.2 (by omega)), rfl⟩
  · have h' : decide (lo ≤ n) = false := decide_eq_false h
    go_enter Try.func102, Try.ntmps102
    go_wp2
    go_ret
    first | exact ⟨rfl, rfl⟩ | exact ⟨ret_bool (decide_eq_false (by omega)).symm, rfl⟩
def smU (m0 m1 m2 : Int) : Nat → Int
  | 0 => 0
  | 1 => m0
  | 2 => m0 + m1
  | _ => m0 + m1 + m2
def mayT (x : W7) (s : Int) : Bool := decide (0 < s) && inB x.b 1 200 && inB x.c 0 3 && inB x.d 0 1099511627776 && inB x.p 0 1099511627776
theorem mayT_is (x : W7) (s : Int) (hs : s = x.m0 + x.m1 + x.m2) (hu : UnitsOk x) : mayT x s = decide (MayW x) := by
  have e : MayW x ↔ 0 < s ∧ (1 ≤ x.b ∧ x.b ≤ 200) ∧ (0 ≤ x.c ∧ x.c ≤ 3) ∧ (0 ≤ x.d ∧ x.d ≤ 1099511627776) ∧ (0 ≤ x.p ∧ x.p ≤ 1099511627776) := by
    have h := hu
    unfold UnitsOk at h
    constructor
    · rintro ⟨_, h1, h2, h3, h4, h5⟩; exact ⟨by omega, h2, h3, h4, h5⟩
    · rintro ⟨h1, h2, h3, h4, h5⟩; exact ⟨hu, by omega, h2, h3, h4, h5⟩
  rw [show decide (MayW x) = decide (0 < s ∧ (1 ≤ x.b ∧ x.b ≤ 200) ∧ (0 ≤ x.c ∧ x.c ≤ 3) ∧ (0 ≤ x.d ∧ x.d ≤ 1099511627776) ∧ (0 ≤ x.p ∧ x.p ≤ 1099511627776)) from decide_eq_decide.2 e]
  simp only [mayT, inB, Bool.decide_and, Bool.and_assoc]
set_option maxHeartbeats 4000000 in
theorem may_c (x : W7) (w : World) : Calls Try.prog 65 #[x.val] w fun e w' => e = .returned (.bool (decide (MayW x))) ∧ Below w.heap.size w w' := by
  obtain ⟨b, c, d, m0, m1, m2, p⟩ := x
  unfold W7.val
  have i0 : ∀ w, (Instr.index 22 (.agg #[.int .i64 m0, .int .i64 m1, .int .i64 m2]) (.int .i64 0)).run Try.prog w = .ok (.int .i64 m0) w := fun _ => by kernel_rfl
  have i1 : ∀ w, (Instr.index 22 (.agg #[.int .i64 m0, .int .i64 m1, .int .i64 m2]) (.int .i64 1)).run Try.prog w = .ok (.int .i64 m1) w := fun _ => by kernel_rfl
  have i2 : ∀ w, (Instr.index 22 (.agg #[.int .i64 m0, .int .i64 m1, .int .i64 m2]) (.int .i64 2)).run Try.prog w = .ok (.int .i64 m2) w := fun _ => by kernel_rfl
  go_enter Try.func65, Try.ntmps65
  go_wp2
  go_loop [3, 8] (fun s i => ∃ (k : Nat) (u : Int), k ≤ 3 ∧ i = .int .i64 k ∧ s = .int .i64 u ∧ 0 ≤ u ∧ u ≤ 3000 ∧ Hid (u = smU m0 m1 m2 k ∧ OkU m0 m1 m2 k)) (fun _ i => 3 - (intOf i).toNat)
  case atStart => exact ⟨0, 0, by omega, by first | rfl | trivial, by first | rfl | trivial, by omega, by omega, Lib.hid ⟨rfl, by unfold OkU; omega⟩⟩
  case round =>
    obtain ⟨k, u, hk, rfl, rfl, u0, u1, HO⟩ := hrel
    have : k = 0 ∨ k = 1 ∨ k = 2 ∨ k = 3 := by omega
    rcases this with rfl | rfl | rfl | rfl
    · by_cases a : 0 ≤ m0 ∧ m0 ≤ 1000
      · have ha : inB m0 0 1000 = true := decide_eq_true a
        go_wp2_with (go_at_call 101; refine (within_c _ _ _ _).mono ?_; rintro e w' ⟨rfl, rfl⟩)
        go_round
        case rel => exact ⟨1, u + m0, by omega, rfl, rfl, by omega, by have := HO.out.1; simp only [smU] at this; omega, by have := HO.out; unfold OkU at *; simp only [smU] at *; exact Lib.hid ⟨by omega, by omega, by omega, by omega⟩⟩
        case measure => simp [intOf]
      · have ha : inB m0 0 1000 = false := decide_eq_false a
        go_wp2_with (go_at_call 101; refine (within_c _ _ _ _).mono ?_; rintro e w' ⟨rfl, rfl⟩)
        go_ret
        exact ⟨ret_bool (decide_eq_false (by unfold MayW UnitsOk; simp only; omega)).symm, int_abs _ _⟩
    · by_cases a : 0 ≤ m1 ∧ m1 ≤ 1000
      · have ha : inB m1 0 1000 = true := decide_eq_true a
        go_wp2_with (go_at_call 101; refine (within_c _ _ _ _).mono ?_; rintro e w' ⟨rfl, rfl⟩)
        go_round
        case rel => exact ⟨2, u + m1, by omega, rfl, rfl, by omega, by have := HO.out; unfold OkU at this; simp only [smU] at this; omega, by have := HO.out; unfold OkU at *; simp only [smU] at *; exact Lib.hid ⟨by omega, by omega, by omega, by omega⟩⟩
        case measure => simp [intOf]
      · have ha : inB m1 0 1000 = false := decide_eq_false a
        go_wp2_with (go_at_call 101; refine (within_c _ _ _ _).mono ?_; rintro e w' ⟨rfl, rfl⟩)
        go_ret
        exact ⟨ret_bool (decide_eq_false (by unfold MayW UnitsOk; simp only; omega)).symm, int_abs _ _⟩
    · by_cases a : 0 ≤ m2 ∧ m2 ≤ 1000
      · have ha : inB m2 0 1000 = true := decide_eq_true a
        go_wp2_with (go_at_call 101; refine (within_c _ _ _ _).mono ?_; rintro e w' ⟨rfl, rfl⟩)
        go_round
        case rel => exact ⟨3, u + m2, by omega, rfl, rfl, by omega, by have := HO.out; unfold OkU at this; simp only [smU] at this; omega, by have := HO.out; unfold OkU at *; simp only [smU] at *; exact Lib.hid ⟨by omega, by omega, by omega, by omega⟩⟩
        case measure => simp [intOf]
      · have ha : inB m2 0 1000 = false := decide_eq_false a
        go_wp2_with (go_at_call 101; refine (within_c _ _ _ _).mono ?_; rintro e w' ⟨rfl, rfl⟩)
        go_ret
        exact ⟨ret_bool (decide_eq_false (by unfold MayW UnitsOk; simp only; omega)).symm, int_abs _ _⟩
    · clear i0 i1 i2
      have HF := Lib.hid (mayT_is ⟨b, c, d, m0, m1, m2, p⟩ u (by have := HO.out.1; unfold smU at this; exact this) (by have := HO.out.2; unfold OkU at this; exact ⟨this.1 (by omega), this.2.1 (by omega), this.2.2 (by omega)⟩))
      go_wp2_with (first | (go_at_call 101; refine (within_c _ _ _ _).mono ?_; rintro e w' ⟨rfl, rfl⟩) | (go_at_call 102; refine (within64_c _ _ _ _).mono ?_; rintro e w' ⟨rfl, rfl⟩))
      all_goals
        go_ret
        refine ⟨ret_bool ?_, int_abs _ _⟩
        rw [← HF.out]
        first | (simp_all [mayT]; done) | (simp_all [mayT]; omega)
end Go.Proofs.Ytplgodfhhlnojaa

/- Which operations may be: the document's own answer, walked. -/
namespace Go.Proofs.Ytplgodfhhlnojaa
open Go.RowKit
structure O5 where
  (kind book units cust amount : Int)
def O5.val (o : O5) : Value := .agg #[.int .i64 o.kind, .int .i64 o.book, .int .i64 o.units, .int .i64 o.cust, .int .i64 o.amount]
def UnitsO (o : O5) : Prop := (o.kind = 1 ∧ 1 ≤ o.units ∧ o.units ≤ 1000) ∨ (o.kind ≠ 1 ∧ o.units = 0)
def MoneyO (o : O5) : Prop := (o.kind = 4 ∧ 0 ≤ o.cust ∧ o.cust ≤ 3 ∧ 0 ≤ o.amount ∧ o.amount ≤ 1099511627776) ∨ (o.kind ≠ 4 ∧ o.cust = 0 ∧ o.amount = 0)
def MayO (o : O5) : Prop := (1 ≤ o.kind ∧ o.kind ≤ 6) ∧ (1 ≤ o.book ∧ o.book ≤ 200) ∧ UnitsO o ∧ MoneyO o
instance (o : O5) : Decidable (UnitsO o) := by unfold UnitsO; infer_instance
instance (o : O5) : Decidable (MoneyO o) := by unfold MoneyO; infer_instance
instance (o : O5) : Decidable (MayO o) := by unfold MayO; infer_instance
set_option maxHeartbeats 8000000 in
theorem rmayop_c (o : O5) (w : World) : Calls Try.prog 89 #[o.val] w fun e w' => e = .returned (.bool (decide (MayO o))) ∧ Below w.heap.size w w' := by
  obtain ⟨k, b, u, c, a⟩ := o
  unfold O5.val
  obtain ⟨r, hr⟩ : ∃ r, decide (MayO ⟨k, b, u, c, a⟩) = r := ⟨_, rfl⟩
  rw [hr]
  have HR := Lib.hid hr
  clear hr
  by_cases h1 : k < 1 ∨ 6 < k ∨ b < 1 ∨ 200 < b
  · have hno := Lib.hid (show r = false from by rw [← HR.out]; exact decide_eq_false (by unfold MayO; simp only; omega))
    have h1' : k < 1 ∨ (¬ k < 1 ∧ 6 < k) ∨ (¬ k < 1 ∧ ¬ 6 < k ∧ b < 1) ∨ (¬ k < 1 ∧ ¬ 6 < k ∧ ¬ b < 1 ∧ 200 < b) := by omega
    clear h1
    rcases h1' with h1 | ⟨h1, h2⟩ | ⟨h1, h2, h3⟩ | ⟨h1, h2, h3, h4⟩
    all_goals
      go_enter Try.func89, Try.ntmps89
      go_wp2
      go_ret
      exact ⟨ret_bool hno.out.symm, int_abs _ _⟩
  · have k1 : 1 ≤ k := by omega
    have k6 : k ≤ 6 := by omega
    have b1 : 1 ≤ b := by omega
    have b2 : b ≤ 200 := by omega
    clear h1
    have HU := Lib.hid (rfl : u = u)
    have hk : k = 1 ∨ (k ≠ 1 ∧ k = 4) ∨ (k ≠ 1 ∧ k ≠ 4) := by omega
    rcases hk with rfl | ⟨_, rfl⟩ | ⟨e1, e4⟩
    all_goals
      by_cases hc : c = 0
      · subst hc
        by_cases hu : u = 0 <;> by_cases ha : a = 0
        all_goals
          first | have hub : (u == 0) = true := beq_iff_eq.2 hu | have hub : (u == 0) = false := beq_eq_false_iff_ne.2 hu
          first | have hab : (a == 0) = true := beq_iff_eq.2 ha | have hab : (a == 0) = false := beq_eq_false_iff_ne.2 ha
          try have hk1 : (k == 1) = false := beq_eq_false_iff_ne.2 e1
          try have hk4 : (k == 4) = false := beq_eq_false_iff_ne.2 e4
          have HUU := Lib.hid hu
          have HAA := Lib.hid ha
          clear hu ha
          go_enter Try.func89, Try.ntmps89
          go_wp2
          go_quiet (fail)
          clear hub hab
          go_wp2
          all_goals
            go_ret
            have hu := HUU.out
            have ha := HAA.out
            refine ⟨ret_bool ?_, below_drewN (int_abs _ _) _⟩
            rw [← HR.out]
            first
              | exact (decide_eq_false (by unfold MayO UnitsO MoneyO; simp only; omega)).symm
              | exact (decide_eq_true (by unfold MayO UnitsO MoneyO; simp only; omega)).symm
              | exact decide_eq_decide.2 (by unfold MayO UnitsO MoneyO; simp only; omega)
              | (rw [Bool.eq_iff_iff, decide_eq_true_eq]; unfold MayO UnitsO MoneyO; simp; omega)
              | trace_state
      · by_cases hu : u = 0
        all_goals
          first | have hub : (u == 0) = true := beq_iff_eq.2 hu | have hub : (u == 0) = false := beq_eq_false_iff_ne.2 hu
          have hcb : (c == 0) = false := beq_eq_false_iff_ne.2 hc
          try have hk1 : (k == 1) = false := beq_eq_false_iff_ne.2 e1
          try have hk4 : (k == 4) = false := beq_eq_false_iff_ne.2 e4
          have HUU := Lib.hid hu
          have HCC := Lib.hid hc
          clear hu hc
          go_enter Try.func89, Try.ntmps89
          go_wp2
          go_quiet (fail)
          clear hub hcb
          go_wp2
          all_goals
            go_ret
            have hu := HUU.out
            have hc := HCC.out
            refine ⟨ret_bool ?_, below_drewN (int_abs _ _) _⟩
            rw [← HR.out]
            first
              | exact (decide_eq_false (by unfold MayO UnitsO MoneyO; simp only; omega)).symm
              | exact (decide_eq_true (by unfold MayO UnitsO MoneyO; simp only; omega)).symm
              | exact decide_eq_decide.2 (by unfold MayO UnitsO MoneyO; simp only; omega)
              | (rw [Bool.eq_iff_iff, decide_eq_true_eq]; unfold MayO UnitsO MoneyO; simp; omega)
              | trace_state
theorem rmayop_is (o : O5) (v : Bool) (h : decide (MayO o) = v) (w : World) : Calls Try.prog 89 #[o.val] w fun e w' => e = .returned (.bool v) ∧ Below w.heap.size w w' := h ▸ rmayop_c o w
end Go.Proofs.Ytplgodfhhlnojaa

/- Blocks, rows and bounds behind calls, in short (for any seat with want). -/
namespace Go.Proofs.Ytplgodfhhlnojaa
open Go.RowKit
theorem lt_size {w : World} {b : Nat} {o : Obj} (p : w.heap[b]? = some o) : b < w.heap.size := (Array.getElem?_eq_some_iff.1 p).1
theorem setB {w : World} {g i : Nat} {cs : Array Value} {t : TypeId} {m : Nat × Nat} {v : Value} (p : w.heap[g]? = some (.cells cs t m)) : (w.setCell ⟨g, i, none⟩ v).heap[g]? = some (.cells (cs.setIfInBounds i v) t m) := by
  simp [World.setCell, Array.getElem?_modify, p]
theorem setO {w : World} {g b i : Nat} {v : Value} (p : g ≠ b) : (w.setCell ⟨g, i, none⟩ v).heap[b]? = w.heap[b]? := by
  simp [World.setCell, Array.getElem?_modify, p]
theorem belowS {a w : World} {D R i : Nat} {u : Value} (h : Below D a w) (hR : D ≤ R) : Below D a (w.setCell ⟨R, i, none⟩ u) := h.setCell (p := ⟨R, i, none⟩) hR u
theorem cellsB {w : World} {g i : Nat} {cs : Array Value} {t : TypeId} {m : Nat × Nat} (h : w.heap[g]? = some (.cells cs t m)) : w.cell? ⟨g, i, none⟩ = cs[i]? := by simp [World.cell?, h]
theorem frozB {w : World} {g i : Nat} {cs : Array Value} {t : TypeId} (h : w.heap[g]? = some (.cells cs t (0, 0))) : w.frozen? ⟨g, i, none⟩ = false := by
  simp [World.frozen?, h]
section
variable {w w0 w2 : World} {o : Obj} {b D n sz : Nat} {obj : Obj} {A : Option Addr} {xs : List Value}
theorem blk0 (H : w.heap[b]? = some obj) (q : Below w.heap.size w w2) : w2.heap[b]? = some obj := (q.block b (lt_size H)).trans H
theorem blk1 (H : w.heap[b]? = some obj) (q : Below (w.alloc o).heap.size (w.alloc o) w2) : w2.heap[b]? = some obj :=
  (q.block b (by have := lt_size H; simp; omega)).trans ((Below.heap_alloc _ _ _ (lt_size H)).trans H)
theorem alc (H : w.heap[b]? = some obj) : (w.alloc o).heap[b]? = some obj := (Below.heap_alloc _ _ _ (lt_size H)).trans H
theorem new1 (q : Below (w.alloc o).heap.size (w.alloc o) w2) : w2.heap[w.heap.size]? = some o := (q.block w.heap.size (by simp)).trans (heap_alloc_new w o)
theorem bel0 (B : Below D w0 w) (hd : D ≤ w.heap.size) (q : Below w.heap.size w w2) : Below D w0 w2 := B.trans (q.mono hd)
theorem bel1 (B : Below D w0 w) (hd : D ≤ w.heap.size) (q : Below (w.alloc o).heap.size (w.alloc o) w2) : Below D w0 w2 := (B.alloc hd o).trans (q.mono (by simp; omega))
theorem rd0 (R : Rd w w.heap.size sz A n xs) (q : Below w.heap.size w w2) : Rd w2 w2.heap.size sz A n xs := (R.below q).more q.size
theorem rda (R : Rd w w.heap.size sz A n xs) : Rd (w.alloc o) (w.alloc o).heap.size sz A n xs := rd0 R ((Below.refl _ _).alloc (Nat.le_refl _) _)
theorem rd1 (R : Rd w w.heap.size sz A n xs) (q : Below (w.alloc o).heap.size (w.alloc o) w2) : Rd w2 w2.heap.size sz A n xs := rd0 (rda R) q
theorem blkd {k : Nat} (H : w.heap[b]? = some obj) (q : Below ((w.alloc o).drewN k).heap.size ((w.alloc o).drewN k) w2) : w2.heap[b]? = some obj :=
  (q.block b (by have := lt_size H; simp [World.drewN]; omega)).trans ((Below.heap_alloc _ _ _ (lt_size H)).trans H)
theorem newd {k : Nat} (q : Below ((w.alloc o).drewN k).heap.size ((w.alloc o).drewN k) w2) : w2.heap[w.heap.size]? = some o := (q.block w.heap.size (by simp [World.drewN])).trans (heap_alloc_new w o)
theorem beld {k : Nat} (B : Below D w0 w) (hd : D ≤ w.heap.size) (q : Below ((w.alloc o).drewN k).heap.size ((w.alloc o).drewN k) w2) : Below D w0 w2 := (below_drewN (B.alloc hd o) k).trans (q.mono (by simp [World.drewN]; omega))
theorem rdd {k : Nat} (R : Rd w w.heap.size sz A n xs) (q : Below ((w.alloc o).drewN k).heap.size ((w.alloc o).drewN k) w2) : Rd w2 w2.heap.size sz A n xs := rd0 (w := (w.alloc o).drewN k) ((rda R).drewN k) q
theorem one_box (w : World) (a : Obj) : (w.alloc a).heap[w.heap.size]? = some a ∧ Below w.heap.size w (w.alloc a) := ⟨heap_alloc_new w a, (Below.refl _ _).alloc (Nat.le_refl _) _⟩
theorem two_boxes (w : World) (a b : Obj) : ((w.alloc a).alloc b).heap[w.heap.size]? = some a ∧ ((w.alloc a).alloc b).heap[w.heap.size + 1]? = some b ∧ Below w.heap.size w ((w.alloc a).alloc b) := by
  refine ⟨?_, ?_, ?_⟩
  · exact (Below.heap_alloc _ _ _ (by simp)).trans (heap_alloc_new w a)
  · have h := heap_alloc_new (w.alloc a) b; simpa using h
  · exact ((Below.refl _ _).alloc (Nat.le_refl _) _).alloc (by simp) _
end
end Go.Proofs.Ytplgodfhhlnojaa

/- Rows read and written whole, the world behind a store under a name of its own (for any seat with WCalls). -/
namespace Go.Proofs.Ytplgodfhhlnojaa
open Go.RowKit
theorem wpl_row {ops : Array Oper} {rest : List Oper} {o : Oper} {a : Act} {w : World} {Q : Exit → Act → World → Prop} (hw : Region.wanted o (yielded ops a.tmps) = true) (ty : TypeId) (x : Operand) (ho : o.op = .load ty x)
    (g : Nat) (hx : a.eval x = .pointer (some ⟨g, 0, none⟩)) (t : TypeId) (cs : Array Value) (fr : Nat × Nat) (d : TypeDesc) (hg : w.heap[g]? = some (.cells cs t fr))
    (hd : (match d with | .struct _ | .array _ _ => true | _ => false) = true) (hu : Try.prog.underlying ty = some d) (hi : (Try.prog.info? ty).map (·.size) = some cs.size)
    (h : wpList Try.prog ops Q rest (a.put o.dst (.agg cs)) w) : wpList Try.prog ops Q (o :: rest) a w :=
  Go.BigFrame.wpList_want hw fun _ hK => wp_load_row ty x ho g hx t cs fr d hg hu (by cases d <;> first | rfl | (exact absurd hd (by simp))) hi (hK _ _ h)
/-- w' is w with block g written. -/
structure SetR (w w' : World) (g : Nat) : Prop where
  ne : ∀ b, b ≠ g → w'.heap[b]? = w.heap[b]?
  size : w'.heap.size = w.heap.size
  bel : ∀ {D : Nat} {a : World}, Below D a w → D ≤ g → Below D a w'
theorem SetR.blk {w w' : World} {g b : Nat} {o : Obj} (h : SetR w w' g) (hb : w.heap[b]? = some o) (hne : b ≠ g) : w'.heap[b]? = some o := (h.ne b hne).trans hb
theorem SetR.rd {w w' : World} {g sz n : Nat} {A : Option Addr} {xs : List Value} (h : SetR w w' g) (R : Rd w w.heap.size sz A n xs) (hA : ∀ ad, A = some ad → ad.block ≠ g) : Rd w' w'.heap.size sz A n xs := by
  refine ⟨R.1, fun hn => ?_⟩
  obtain ⟨ad, e, hb, hc⟩ := R.2 hn
  refine ⟨ad, e, by rw [h.size]; exact hb, fun j v hj => ?_⟩
  have hh := hc j v hj
  have hbl : (ad.add j).block = ad.block := by unfold Addr.add; split <;> rfl
  have e2 : w'.heap[(ad.add j).block]? = w.heap[(ad.add j).block]? := h.ne _ (by rw [hbl]; exact hA ad e)
  unfold World.cell? at hh ⊢
  rw [e2]
  exact hh
theorem setRow_is {w : World} {g : Nat} {old cells : Array Value} {t : TypeId} (hg : w.heap[g]? = some (.cells old t (0, 0))) : SetR w (w.setRow g cells) g := by
  have hne : ∀ b, b ≠ g → (w.setRow g cells).heap[b]? = w.heap[b]? := fun b hb => by
    simp only [World.setRow, Array.getElem?_modify]
    rw [if_neg (fun e => hb e.symm)]
  exact ⟨hne, by simp [World.setRow], fun hb hD => ⟨hb.os, hb.tape, hb.output, by simpa [World.setRow] using hb.size, fun k hk => (hne k (by omega)).trans (hb.block k hk)⟩⟩
theorem wpl_set {ops : Array Oper} {rest : List Oper} {o : Oper} {a : Act} {w : World} {Q : Exit → Act → World → Prop} (hgd : o.guard = none) (ty : TypeId) (x y : Operand) (ho : o.op = .store ty x y)
    (g : Nat) (cells : Array Value) (hx : a.eval x = .pointer (some ⟨g, 0, none⟩)) (hy : a.eval y = .agg cells)
    (t : TypeId) (old : Array Value) (hg : w.heap[g]? = some (.cells old t (0, 0))) (hi : (Try.prog.info? ty).map (·.size) = some cells.size)
    (hold : old.size = cells.size) (h1 : cells.all (·.oneCell') = true)
    (h : ∀ w', w'.heap[g]? = some (.cells cells t (0, 0)) → SetR w w' g → wpList Try.prog ops Q rest (a.put o.dst undef) w') : wpList Try.prog ops Q (o :: rest) a w :=
  wpList_store_row hgd ty x y ho g cells hx hy t old hg hi hold h1 (h _ (setRow_heap w g old cells t (0, 0) hg) (setRow_is hg))
/-- A struct or an array built of its parts. -/
theorem wpl_build {ops : Array Oper} {rest : List Oper} {o : Oper} {a : Act} {w : World} {Q : Exit → Act → World → Prop} (hw : Region.wanted o (yielded ops a.tmps) = true) (t : TypeId) (parts : Array (Nat × Operand)) (ho : o.op = .build t parts) (cs : Array Value)
    (hf : Try.prog.built t (parts.map fun (i, x) => (i, a.eval x)).toList = some cs)
    (h : wpList Try.prog ops Q rest (a.put o.dst (.agg cs)) w) : wpList Try.prog ops Q (o :: rest) a w :=
  Go.BigFrame.wpList_want hw fun _ hK => wp_build t parts ho (by rw [hf]; rfl) (by rw [hf]; exact hK _ _ h)
/-- A fresh block, written whole: what stood before stands, what is new is known. -/
theorem SetR.old {w w' : World} {b : Nat} {o z : Obj} (h : SetR (w.alloc z) w' w.heap.size) (hb : w.heap[b]? = some o) : w'.heap[b]? = some o := h.blk (alc hb) (Nat.ne_of_lt (lt_size hb))
theorem SetR.below {w w' a : World} {D : Nat} {z : Obj} (h : SetR (w.alloc z) w' w.heap.size) (hb : Below D a w) (hd : D ≤ w.heap.size) : Below D a w' := h.bel (hb.alloc hd z) hd
/-- A whole row read at a step of a quiet region over the worlds below a block. -/
theorem wpq_row {ops : Array Oper} {rest : List Oper} {o : Oper} {a : Act} {D : Nat} {w : World} {Q : Act → Prop} (hw : Region.wanted o (yielded ops a.tmps) = true) (ty : TypeId) (x : Operand) (ho : o.op = .load ty x)
    (g : Nat) (hx : a.eval x = .pointer (some ⟨g, 0, none⟩)) (t : TypeId) (cs : Array Value) (fr : Nat × Nat) (d : TypeDesc) (hg : w.heap[g]? = some (.cells cs t fr)) (hgD : g < D)
    (hd : (match d with | .struct _ | .array _ _ => true | _ => false) = true) (hu : Try.prog.underlying ty = some d) (hi : (Try.prog.info? ty).map (·.size) = some cs.size)
    (h : wpQuiet Try.prog ops (fun w' => ∃ s : BW D w, w' = s.val) Q rest (a.put o.dst (.agg cs))) : wpQuiet Try.prog ops (fun w' => ∃ s : BW D w, w' = s.val) Q (o :: rest) a := by
  refine Go.BigFrame.wpQuiet_want hw fun K hK => ⟨.agg cs, ?_, hK _ h⟩
  rintro w' ⟨s, rfl⟩
  have hg' : s.val.heap[g]? = some (.cells cs t fr) := (s.h.block g hgD).trans hg
  unfold Oper.quietAt execOp
  simp only [ho, hx, Instr.loadAt, Instr.sureAddr, Sem.run_bind, Sem.run_pure, Result.andThen_ok, run_loadVar_row s.val g t ty cs fr d hg' hu (by cases d <;> first | rfl | (exact absurd hd (by simp))) hi]
  exact ⟨rfl, rfl⟩
/-- A struct or an array read at any place. -/
theorem run_load_at {w : World} {ad : Addr} {ty : TypeId} {cs : List Value} {d : TypeDesc} (hc : ∀ j v, cs[j]? = some v → w.cell? (ad.add j) = some v)
    (hd : (match d with | .struct _ | .array _ _ => true | _ => false) = true) (hu : Try.prog.underlying ty = some d) (hi : (Try.prog.info? ty).map (·.size) = some cs.length) :
    (loadVar ty ad).run Try.prog w = .ok (.agg cs.toArray) w := by
  have hl := run_loadCells_list (P := Try.prog) w ad cs hc
  cases hq : Try.prog.info? ty with
  | none => simp [hq] at hi
  | some i =>
    have hs : i.size = cs.length := by simpa [hq] using hi
    have hagg : (isAgg ty).run Try.prog w = .ok true w := by
      unfold isAgg
      rw [Sem.run_bind, run_underlying hu w]
      cases d <;> simp_all
    simp [loadVar, Sem.run_bind, hagg, sizeOf, typeInfo, hq, hs, hl]
theorem wpl_load {ops : Array Oper} {rest : List Oper} {o : Oper} {a : Act} {w : World} {Q : Exit → Act → World → Prop} (hw : Region.wanted o (yielded ops a.tmps) = true) (ty : TypeId) (x : Operand) (ho : o.op = .load ty x)
    (ad : Addr) (hx : a.eval x = .pointer (some ad)) (cs : List Value) (d : TypeDesc) (hc : ∀ j v, cs[j]? = some v → w.cell? (ad.add j) = some v)
    (hd : (match d with | .struct _ | .array _ _ => true | _ => false) = true) (hu : Try.prog.underlying ty = some d) (hi : (Try.prog.info? ty).map (·.size) = some cs.length)
    (h : wpList Try.prog ops Q rest (a.put o.dst (.agg cs.toArray)) w) : wpList Try.prog ops Q (o :: rest) a w :=
  Go.BigFrame.wpList_want hw fun _ hK => by
    unfold Oper.wp execOp
    simp only [ho, hx, Instr.loadAt, Instr.sureAddr, Sem.run_bind, Sem.run_pure, Result.andThen_ok, run_load_at hc hd hu hi]
    exact hK _ _ h
/-- A part of a block. -/
theorem seg_at {w : World} {g o : Nat} {cs : Array Value} {t : TypeId} {m : Nat × Nat} (hg : w.heap[g]? = some (.cells cs t m)) (seg : List Value) (hs : (cs.toList.drop o).take seg.length = seg) : ∀ j v, seg[j]? = some v → w.cell? ((⟨g, o, none⟩ : Addr).add j) = some v := by
  intro j v hj
  have hadd : (⟨g, o, none⟩ : Addr).add j = ⟨g, o + j, none⟩ := by unfold Addr.add; split <;> simp_all
  rw [hadd, cellsB hg]
  have hjl : j < seg.length := (List.getElem?_eq_some_iff.1 hj).1
  rw [← hs, List.getElem?_take, if_pos hjl, List.getElem?_drop] at hj
  simpa using hj
def setSeg (cur : Array Value) (i : Nat) : List Value → Array Value
  | [] => cur
  | v :: vs => setSeg (cur.setIfInBounds i v) (i + 1) vs
theorem setSeg_size (vs : List Value) : ∀ (cur : Array Value) (i : Nat), (setSeg cur i vs).size = cur.size := by
  induction vs with
  | nil => intro cur i; rfl
  | cons v vs ih => intro cur i; simp [setSeg, ih]
theorem run_storeSeg (g t o : Nat) : ∀ (vs : List Value) (i : Nat) (cur : Array Value) (w : World), w.heap[g]? = some (.cells cur t (0, 0)) → o + i + vs.length ≤ cur.size → (∀ v ∈ vs, v.oneCell' = true) →
    (storeCells ⟨g, o, none⟩ vs i).run Try.prog w = .ok () (w.setRow g (setSeg cur (o + i) vs))
  | [], i, cur, w, hg, hl, _ => by
    have := run_storeCells_from (P := Try.prog) g t [] cur.size cur w hg (by simp) (by simp)
    have e : List.take cur.size cur.toList = cur.toList := List.take_of_length_le (by simp)
    simpa [storeCells, setSeg, e] using this
  | v :: rest, i, cur, w, hg, hl, h1 => by
    have hi : o + i < cur.size := by simp at hl; omega
    have hadd : (⟨g, o, none⟩ : Addr).add i = ⟨g, o + i, none⟩ := by unfold Addr.add; split <;> simp_all
    have hcell : w.cell? ⟨g, o + i, none⟩ = some cur[o + i] := by simp [World.cell?, hg, hi]
    have hfro : w.frozen? ⟨g, o + i, none⟩ = false := by simp [World.frozen?, hg]
    have hst : (store ((⟨g, o, none⟩ : Addr).add i) v).run Try.prog w = .ok () (w.setRow g (cur.setIfInBounds (o + i) v)) := by
      rw [hadd, run_store Try.prog w _ v _ (h1 v (by simp)), hcell]
      simp [hfro, setCell_eq_setRow w g (o + i) cur t (0, 0) v hg]
    have ih := run_storeSeg g t o rest (i + 1) (cur.setIfInBounds (o + i) v) (w.setRow g (cur.setIfInBounds (o + i) v)) (setRow_heap w g cur _ t _ hg) (by simp at hl ⊢; omega) (fun x hx => h1 x (by simp [hx]))
    simp only [storeCells, Sem.run_bind, hst, Result.andThen_ok, ih, setRow_setRow, setSeg]
    rfl
/-- Any value written at a place of a block. -/
theorem wpl_seg {ops : Array Oper} {rest : List Oper} {o : Oper} {a : Act} {w : World} {Q : Exit → Act → World → Prop} (hgd : o.guard = none) (ty : TypeId) (x y : Operand) (ho : o.op = .store ty x y)
    (g off : Nat) (v : Value) (cells : Array Value) (hx : a.eval x = .pointer (some ⟨g, off, none⟩)) (hy : a.eval y = v) (hv : v.cells = cells)
    (t : TypeId) (old : Array Value) (hg : w.heap[g]? = some (.cells old t (0, 0))) (hi : (Try.prog.info? ty).map (·.size) = some cells.size)
    (new : Array Value) (hnew : setSeg old off cells.toList = new) (hb : off + cells.size ≤ old.size) (h1 : cells.all (·.oneCell') = true)
    (h : ∀ w', w'.heap[g]? = some (.cells new t (0, 0)) → SetR w w' g → wpList Try.prog ops Q rest (a.put o.dst undef) w') : wpList Try.prog ops Q (o :: rest) a w := by
  subst hnew
  refine wpList_plain hgd fun K hK => ?_
  have hr := run_storeSeg g t off cells.toList 0 old w hg (by simp; omega) (fun v hv => (Array.all_eq_true_iff_forall_mem.1 h1) v (by simpa using hv))
  have hs : (storeVar ty ⟨g, off, none⟩ v).run Try.prog w = .ok () (w.setRow g (setSeg old off cells.toList)) := by
    cases hq : Try.prog.info? ty with
    | none => simp [hq] at hi
    | some i =>
      have hs : cells.size = i.size := by simp [hq] at hi; omega
      simp [storeVar, sizeOf, typeInfo, hq, hv, hs]
      simpa using hr
  unfold Oper.wp execOp
  simp only [ho, hx, hy, Instr.storeAt, Instr.sureAddr, Sem.run_bind, Sem.run_pure, Result.andThen_ok, hs]
  exact hK _ _ (h _ (setRow_heap w g old _ t (0, 0) hg) (setRow_is hg))
end Go.Proofs.Ytplgodfhhlnojaa

/- Structs that came in by value, of whole numbers alone. -/
namespace Go.Proofs.Ytplgodfhhlnojaa
open Go.ChangeShapes Go.WideShapes Go.ChangeAt Go.RowKit
section
variable {P : Program} {w : World} {base : Nat} {t : TypeId} {v : Value}
theorem cell_int {r : Reach} {u : TypeId} {k : IntKind} {x : Value} (hu : P.underlying u = some (.int k)) (h : Cell.okWide P w r base u x) : ∃ n, x = .int k n ∧ k.has n := by
  simp only [Cell.okWide, hu] at h
  cases x <;> simp_all [Cell.ok]
/-- A struct whose cells are all of kind int: its numbers. -/
theorem open_nums_agg {fs : Array Field} {ts : List TypeId} (hu : P.underlying t = some (.struct fs)) (hct : P.cellTypes P.depth t = some ts) (hC : P.cellsOf t = ts.length) (hall : ∀ u ∈ ts, P.underlying u = some (.int .i64))
    (hv : Value.okWide P w .any base t v) : ∃ zs : List Int, v = .agg (zs.map (Value.int .i64)).toArray ∧ zs.length = ts.length ∧ ∀ z ∈ zs, -9223372036854775808 ≤ z ∧ z ≤ 9223372036854775807 := by
  simp only [Value.okWide, hu] at hv
  obtain ⟨cs, rfl, hsz, ts', hct', _, hcell⟩ := hv
  rw [hct] at hct'
  cases hct'
  rw [hC] at hsz
  have hx : ∀ i, (hi : i < cs.size) → ∃ n, cs[i] = .int .i64 n ∧ IntKind.i64.has n := fun i hi => by
    obtain ⟨u, h1, h2⟩ := hcell i _ (Array.getElem?_eq_getElem hi)
    rw [Nat.mod_eq_of_lt (by omega)] at h1
    exact cell_int (hall u (List.mem_of_getElem? h1)) h2
  refine ⟨cs.toList.map fun x => match x with | .int _ n => n | _ => 0, ?_, by simpa using hsz, fun z hz => ?_⟩
  · congr 1
    apply Array.ext
    · simp
    · intro i h1 h2
      obtain ⟨n, e, _⟩ := hx i h1
      simp [e]
  · simp only [List.mem_map, Array.mem_toList_iff] at hz
    obtain ⟨x, hx', rfl⟩ := hz
    obtain ⟨i, hi, rfl⟩ := Array.mem_iff_getElem.mp hx'
    obtain ⟨n, e, h⟩ := hx i hi
    rw [e]
    simp only [IntKind.has, IntKind.min, IntKind.max, IntKind.signed, IntKind.bits] at h
    simp at h ⊢
    omega
end
/-- The numbers of a want fit. -/
def FitsW (x : W7) : Prop := (-9223372036854775808 ≤ x.b ∧ x.b ≤ 9223372036854775807) ∧ (-9223372036854775808 ≤ x.c ∧ x.c ≤ 9223372036854775807) ∧ (-9223372036854775808 ≤ x.d ∧ x.d ≤ 9223372036854775807) ∧ (-9223372036854775808 ≤ x.m0 ∧ x.m0 ≤ 9223372036854775807) ∧ (-9223372036854775808 ≤ x.m1 ∧ x.m1 ≤ 9223372036854775807) ∧ (-9223372036854775808 ≤ x.m2 ∧ x.m2 ≤ 9223372036854775807) ∧ (-9223372036854775808 ≤ x.p ∧ x.p ≤ 9223372036854775807)
set_option maxRecDepth 100000 in
theorem open_want {w : World} {base : Nat} {v : Value} (hv : Value.okWide Try.prog w .any base 24 v) : ∃ x : W7, v = x.val ∧ FitsW x := by
  obtain ⟨zs, rfl, hl, hz⟩ := open_nums_agg (P := Try.prog) (t := 24) (ts := [3, 3, 3, 3, 3, 3, 2]) Try.underlying24 (by kernel_rfl) (by kernel_rfl) (by
    intro u hu
    have : u = 3 ∨ u = 2 := by simp at hu; omega
    rcases this with rfl | rfl
    · exact Try.underlying3
    · exact Try.underlying2) hv
  match zs, hl with
  | [b, c, d, m0, m1, m2, p], _ => exact ⟨⟨b, c, d, m0, m1, m2, p⟩, rfl, hz b (by simp), hz c (by simp), hz d (by simp), hz m0 (by simp), hz m1 (by simp), hz m2 (by simp), hz p (by simp)⟩
end Go.Proofs.Ytplgodfhhlnojaa
