/- Configurations, steps and rounds: what bound and the document answer, walked. -/
import Derived.Test.YtblpkcoapbkppaaPlanTold
import Derived.Outline
set_option linter.unusedSimpArgs false
set_option linter.unusedVariables false
namespace Go.Proofs.Ytblpkcoapbkppaa
open Go.RowKit
structure C10 where
  (a0 o0 a1 o1 a2 o2 f0 f1 f2 f3 : Int)
def C10.val (x : C10) : Value := .agg #[.int .i64 x.a0, .int .i64 x.o0, .int .i64 x.a1, .int .i64 x.o1, .int .i64 x.a2, .int .i64 x.o2, .int .i64 x.f0, .int .i64 x.f1, .int .i64 x.f2, .int .i64 x.f3]
def stockOk (a b : Int) : Prop := (0 ≤ a ∧ a ≤ 1000000) ∧ (0 ≤ b ∧ b ≤ 1000000)
def fundOk (f : Int) : Prop := 0 ≤ f ∧ f ≤ 1099511627776
instance (a b : Int) : Decidable (stockOk a b) := by unfold stockOk; infer_instance
instance (f : Int) : Decidable (fundOk f) := by unfold fundOk; infer_instance
def MayFs (x : C10) : Prop := fundOk x.f0 ∧ fundOk x.f1 ∧ fundOk x.f2 ∧ fundOk x.f3
def MayC (x : C10) : Prop := stockOk x.a0 x.o0 ∧ stockOk x.a1 x.o1 ∧ stockOk x.a2 x.o2 ∧ MayFs x
instance (x : C10) : Decidable (MayFs x) := by unfold MayFs; infer_instance
instance (x : C10) : Decidable (MayC x) := by unfold MayC; infer_instance
theorem rounds_c (n : Int) (w : World) : Calls Try.prog 42 #[.int .i64 n] w fun e w' => e = .returned (.int .i64 (1000 + 5 * min (max n 0) 200)) ∧ w = w' := by
  have : (n < 0) ∨ (0 ≤ n ∧ n < 200) ∨ (0 ≤ n ∧ 200 ≤ n) := by omega
  rcases this with h | ⟨h, h2⟩ | ⟨h, h2⟩
  all_goals
    go_enter Try.func42, Try.ntmps42
    go_wp2
    all_goals
      go_ret
      exact ⟨ret_int (by omega), rfl⟩
theorem rrounds_c (n : Int) (w : World) : Calls Try.prog 43 #[.int .i64 n] w fun e w' => e = .returned (.int .i64 (1000 + 5 * min (max n 0) 200)) ∧ w = w' := by
  have : (n < 0) ∨ (0 ≤ n ∧ n < 200) ∨ (0 ≤ n ∧ 200 ≤ n) := by omega
  rcases this with h | ⟨h, h2⟩ | ⟨h, h2⟩
  all_goals
    go_enter Try.func43, Try.ntmps43
    go_wp2
    all_goals
      go_ret
      exact ⟨ret_int (by omega), rfl⟩
theorem stock_c (a b : Int) (w : World) : Calls Try.prog 54 #[.agg #[.int .i64 a, .int .i64 b]] w fun e w' => e = .returned (.bool (decide (stockOk a b))) ∧ Below w.heap.size w w' := by
  go_enter Try.func54, Try.ntmps54
  go_wp2
  all_goals
    go_ret
    refine ⟨ret_bool ?_, int_abs _ _⟩
    first
      | exact (decide_eq_false (by unfold stockOk; omega)).symm
      | exact (decide_eq_true (by unfold stockOk; omega)).symm
      | exact decide_eq_decide.2 (by unfold stockOk; omega)
theorem stock_is (a b : Int) (v : Bool) (h : decide (stockOk a b) = v) (w : World) : Calls Try.prog 54 #[.agg #[.int .i64 a, .int .i64 b]] w fun e w' => e = .returned (.bool v) ∧ Below w.heap.size w w' := h ▸ stock_c a b w
theorem funds_c (f0 f1 f2 f3 : Int) (w : World) : Calls Try.prog 55 #[.agg #[.int .i64 f0, .int .i64 f1, .int .i64 f2, .int .i64 f3]] w fun e w' => e = .returned (.bool (decide (fundOk f0 ∧ fundOk f1 ∧ fundOk f2 ∧ fundOk f3))) ∧ Below w.heap.size w w' := by
  obtain ⟨r, hr⟩ : ∃ r, decide (fundOk f0 ∧ fundOk f1 ∧ fundOk f2 ∧ fundOk f3) = r := ⟨_, rfl⟩
  rw [hr]
  have HR := Lib.hid hr
  clear hr
  go_enter Try.func55, Try.ntmps55
  go_wp2
  go_loop [3] (fun i => ∃ k : Nat, k ≤ 4 ∧ i = .int .i64 k ∧ Hid ((1 ≤ k → fundOk f0) ∧ (2 ≤ k → fundOk f1) ∧ (3 ≤ k → fundOk f2) ∧ (4 ≤ k → fundOk f3))) (fun i => 4 - (intOf i).toNat)
  case atStart => exact ⟨0, by omega, rfl, Lib.hid ⟨by omega, by omega, by omega, by omega⟩⟩
  case round =>
    obtain ⟨k, hk, rfl, HO⟩ := hrel
    have : k = 0 ∨ k = 1 ∨ k = 2 ∨ k = 3 ∨ k = 4 := by omega
    rcases this with rfl | rfl | rfl | rfl | rfl
    · by_cases a : f0 < 0
      · go_wp2
        go_ret
        exact ⟨ret_bool (by rw [← HR.out]; exact (decide_eq_false (by unfold fundOk; omega)).symm), int_abs _ _⟩
      by_cases b : 1099511627776 < f0
      · go_wp2
        go_ret
        exact ⟨ret_bool (by rw [← HR.out]; exact (decide_eq_false (by unfold fundOk; omega)).symm), int_abs _ _⟩
      go_wp2
      go_round
      case rel => exact ⟨1, by omega, rfl, Lib.hid (by have := HO.out; unfold fundOk at *; omega)⟩
      case measure => simp [intOf]
    · by_cases a : f1 < 0
      · go_wp2
        go_ret
        exact ⟨ret_bool (by rw [← HR.out]; exact (decide_eq_false (by unfold fundOk; omega)).symm), int_abs _ _⟩
      by_cases b : 1099511627776 < f1
      · go_wp2
        go_ret
        exact ⟨ret_bool (by rw [← HR.out]; exact (decide_eq_false (by unfold fundOk; omega)).symm), int_abs _ _⟩
      go_wp2
      go_round
      case rel => exact ⟨2, by omega, rfl, Lib.hid (by have := HO.out; unfold fundOk at *; omega)⟩
      case measure => simp [intOf]
    · by_cases a : f2 < 0
      · go_wp2
        go_ret
        exact ⟨ret_bool (by rw [← HR.out]; exact (decide_eq_false (by unfold fundOk; omega)).symm), int_abs _ _⟩
      by_cases b : 1099511627776 < f2
      · go_wp2
        go_ret
        exact ⟨ret_bool (by rw [← HR.out]; exact (decide_eq_false (by unfold fundOk; omega)).symm), int_abs _ _⟩
      go_wp2
      go_round
      case rel => exact ⟨3, by omega, rfl, Lib.hid (by have := HO.out; unfold fundOk at *; omega)⟩
      case measure => simp [intOf]
    · by_cases a : f3 < 0
      · go_wp2
        go_ret
        exact ⟨ret_bool (by rw [← HR.out]; exact (decide_eq_false (by unfold fundOk; omega)).symm), int_abs _ _⟩
      by_cases b : 1099511627776 < f3
      · go_wp2
        go_ret
        exact ⟨ret_bool (by rw [← HR.out]; exact (decide_eq_false (by unfold fundOk; omega)).symm), int_abs _ _⟩
      go_wp2
      go_round
      case rel => exact ⟨4, by omega, rfl, Lib.hid (by have := HO.out; unfold fundOk at *; omega)⟩
      case measure => simp [intOf]
    · go_wp2
      go_ret
      exact ⟨ret_bool (by rw [← HR.out]; exact (decide_eq_true (by have := HO.out; exact ⟨this.1 (by omega), this.2.1 (by omega), this.2.2.1 (by omega), this.2.2.2 (by omega)⟩)).symm), int_abs _ _⟩
theorem funds_is (f0 f1 f2 f3 : Int) (v : Bool) (h : decide (fundOk f0 ∧ fundOk f1 ∧ fundOk f2 ∧ fundOk f3) = v) (w : World) : Calls Try.prog 55 #[.agg #[.int .i64 f0, .int .i64 f1, .int .i64 f2, .int .i64 f3]] w fun e w' => e = .returned (.bool v) ∧ Below w.heap.size w w' := h ▸ funds_c f0 f1 f2 f3 w
set_option maxHeartbeats 4000000 in
theorem conf_c (x : C10) (w : World) : Calls Try.prog 38 #[x.val] w fun e w' => e = .returned (.bool (decide (MayC x))) ∧ Below w.heap.size w w' := by
  obtain ⟨a0, o0, a1, o1, a2, o2, f0, f1, f2, f3⟩ := x
  unfold C10.val
  obtain ⟨r, hr⟩ : ∃ r, decide (MayC ⟨a0, o0, a1, o1, a2, o2, f0, f1, f2, f3⟩) = r := ⟨_, rfl⟩
  rw [hr]
  have HR := Lib.hid hr
  clear hr
  have i0 : ∀ w, (Instr.index 58 (.agg #[.int .i64 a0, .int .i64 o0, .int .i64 a1, .int .i64 o1, .int .i64 a2, .int .i64 o2]) (.int .i64 0)).run Try.prog w = .ok (.agg #[.int .i64 a0, .int .i64 o0]) w := fun _ => by kernel_rfl
  have i1 : ∀ w, (Instr.index 58 (.agg #[.int .i64 a0, .int .i64 o0, .int .i64 a1, .int .i64 o1, .int .i64 a2, .int .i64 o2]) (.int .i64 1)).run Try.prog w = .ok (.agg #[.int .i64 a1, .int .i64 o1]) w := fun _ => by kernel_rfl
  have i2 : ∀ w, (Instr.index 58 (.agg #[.int .i64 a0, .int .i64 o0, .int .i64 a1, .int .i64 o1, .int .i64 a2, .int .i64 o2]) (.int .i64 2)).run Try.prog w = .ok (.agg #[.int .i64 a2, .int .i64 o2]) w := fun _ => by kernel_rfl
  have j0 : ∀ w, (Instr.index 59 (.agg #[.int .i64 f0, .int .i64 f1, .int .i64 f2, .int .i64 f3]) (.int .i64 0)).run Try.prog w = .ok (.int .i64 f0) w := fun _ => by kernel_rfl
  have j1 : ∀ w, (Instr.index 59 (.agg #[.int .i64 f0, .int .i64 f1, .int .i64 f2, .int .i64 f3]) (.int .i64 1)).run Try.prog w = .ok (.int .i64 f1) w := fun _ => by kernel_rfl
  have j2 : ∀ w, (Instr.index 59 (.agg #[.int .i64 f0, .int .i64 f1, .int .i64 f2, .int .i64 f3]) (.int .i64 2)).run Try.prog w = .ok (.int .i64 f2) w := fun _ => by kernel_rfl
  have j3 : ∀ w, (Instr.index 59 (.agg #[.int .i64 f0, .int .i64 f1, .int .i64 f2, .int .i64 f3]) (.int .i64 3)).run Try.prog w = .ok (.int .i64 f3) w := fun _ => by kernel_rfl
  go_enter Try.func38, Try.ntmps38
  go_wp2
  go_loopw [9] (fun i wr => ∃ k : Nat, k ≤ 3 ∧ i = .int .i64 k ∧ Hid (((1 ≤ k → stockOk a0 o0) ∧ (2 ≤ k → stockOk a1 o1) ∧ (3 ≤ k → stockOk a2 o2)) ∧ Below (w.heap.size + 1) (w.alloc (.cells #[.int .i64 a0, .int .i64 o0, .int .i64 a1, .int .i64 o1, .int .i64 a2, .int .i64 o2, .int .i64 f0, .int .i64 f1, .int .i64 f2, .int .i64 f3] 61)) wr)) (fun i _ => 3 - (intOf i).toNat)
  case atStart => exact ⟨0, by omega, rfl, Lib.hid ⟨⟨by omega, by omega, by omega⟩, Below.refl _ _⟩⟩
  case round =>
    obtain ⟨k, hk, rfl, HO⟩ := hrel
    have HB := Lib.hid (show Below w.heap.size w wr from ((Below.refl _ _).alloc (Nat.le_refl _) _).trans (HO.out.2.mono (by omega)))
    have hz : w.heap.size + 1 ≤ wr.heap.size := by have := HO.out.2.size; simp at this; exact this
    have : k = 0 ∨ k = 1 ∨ k = 2 ∨ k = 3 := by omega
    rcases this with rfl | rfl | rfl | rfl
    · have : (a0 ≤ o0 ∧ ¬ o0 < a0) ∨ (o0 < a0 ∧ ¬ a0 < o0 ∧ ¬ a0 ≤ o0) := by omega
      rcases this with ⟨hao, hao2⟩ | ⟨hao, hao2, hao3⟩
      · by_cases hl : a0 < 0
        · go_wp2
          all_goals
           go_ret
           exact ⟨ret_bool (by rw [← HR.out]; exact (decide_eq_false (by unfold MayC stockOk; simp only; omega)).symm), Below.alloc HB.out (by omega) _⟩
        by_cases hh : 1000000 < o0
        · go_wp2
          all_goals
           go_ret
           exact ⟨ret_bool (by rw [← HR.out]; exact (decide_eq_false (by unfold MayC stockOk; simp only; omega)).symm), Below.alloc HB.out (by omega) _⟩
        have OK := Lib.hid (show stockOk a0 o0 from by unfold stockOk; omega)
        go_wp2
        all_goals
         go_roundw
         case rel => exact ⟨1, by omega, rfl, Lib.hid ⟨by have := HO.out.1; have := OK.out; exact ⟨fun _ => by first | exact this | exact HO.out.1.1 (by omega), fun _ => by first | exact this | exact HO.out.1.2.1 (by omega) | omega, fun _ => by first | exact this | exact HO.out.1.2.2 (by omega) | omega⟩, Below.alloc HO.out.2 hz _⟩⟩
         case measure => simp [intOf]
      · by_cases hl : o0 < 0
        · go_wp2
          all_goals
           go_ret
           exact ⟨ret_bool (by rw [← HR.out]; exact (decide_eq_false (by unfold MayC stockOk; simp only; omega)).symm), Below.alloc HB.out (by omega) _⟩
        by_cases hh : 1000000 < a0
        · go_wp2
          all_goals
           go_ret
           exact ⟨ret_bool (by rw [← HR.out]; exact (decide_eq_false (by unfold MayC stockOk; simp only; omega)).symm), Below.alloc HB.out (by omega) _⟩
        have OK := Lib.hid (show stockOk a0 o0 from by unfold stockOk; omega)
        go_wp2
        all_goals
         go_roundw
         case rel => exact ⟨1, by omega, rfl, Lib.hid ⟨by have := HO.out.1; have := OK.out; exact ⟨fun _ => by first | exact this | exact HO.out.1.1 (by omega), fun _ => by first | exact this | exact HO.out.1.2.1 (by omega) | omega, fun _ => by first | exact this | exact HO.out.1.2.2 (by omega) | omega⟩, Below.alloc HO.out.2 hz _⟩⟩
         case measure => simp [intOf]
    · have : (a1 ≤ o1 ∧ ¬ o1 < a1) ∨ (o1 < a1 ∧ ¬ a1 < o1 ∧ ¬ a1 ≤ o1) := by omega
      rcases this with ⟨hao, hao2⟩ | ⟨hao, hao2, hao3⟩
      · by_cases hl : a1 < 0
        · go_wp2
          all_goals
           go_ret
           exact ⟨ret_bool (by rw [← HR.out]; exact (decide_eq_false (by unfold MayC stockOk; simp only; omega)).symm), Below.alloc HB.out (by omega) _⟩
        by_cases hh : 1000000 < o1
        · go_wp2
          all_goals
           go_ret
           exact ⟨ret_bool (by rw [← HR.out]; exact (decide_eq_false (by unfold MayC stockOk; simp only; omega)).symm), Below.alloc HB.out (by omega) _⟩
        have OK := Lib.hid (show stockOk a1 o1 from by unfold stockOk; omega)
        go_wp2
        all_goals
         go_roundw
         case rel => exact ⟨2, by omega, rfl, Lib.hid ⟨by have := HO.out.1; have := OK.out; exact ⟨fun _ => by first | exact this | exact HO.out.1.1 (by omega), fun _ => by first | exact this | exact HO.out.1.2.1 (by omega) | omega, fun _ => by first | exact this | exact HO.out.1.2.2 (by omega) | omega⟩, Below.alloc HO.out.2 hz _⟩⟩
         case measure => simp [intOf]
      · by_cases hl : o1 < 0
        · go_wp2
          all_goals
           go_ret
           exact ⟨ret_bool (by rw [← HR.out]; exact (decide_eq_false (by unfold MayC stockOk; simp only; omega)).symm), Below.alloc HB.out (by omega) _⟩
        by_cases hh : 1000000 < a1
        · go_wp2
          all_goals
           go_ret
           exact ⟨ret_bool (by rw [← HR.out]; exact (decide_eq_false (by unfold MayC stockOk; simp only; omega)).symm), Below.alloc HB.out (by omega) _⟩
        have OK := Lib.hid (show stockOk a1 o1 from by unfold stockOk; omega)
        go_wp2
        all_goals
         go_roundw
         case rel => exact ⟨2, by omega, rfl, Lib.hid ⟨by have := HO.out.1; have := OK.out; exact ⟨fun _ => by first | exact this | exact HO.out.1.1 (by omega), fun _ => by first | exact this | exact HO.out.1.2.1 (by omega) | omega, fun _ => by first | exact this | exact HO.out.1.2.2 (by omega) | omega⟩, Below.alloc HO.out.2 hz _⟩⟩
         case measure => simp [intOf]
    · have : (a2 ≤ o2 ∧ ¬ o2 < a2) ∨ (o2 < a2 ∧ ¬ a2 < o2 ∧ ¬ a2 ≤ o2) := by omega
      rcases this with ⟨hao, hao2⟩ | ⟨hao, hao2, hao3⟩
      · by_cases hl : a2 < 0
        · go_wp2
          all_goals
           go_ret
           exact ⟨ret_bool (by rw [← HR.out]; exact (decide_eq_false (by unfold MayC stockOk; simp only; omega)).symm), Below.alloc HB.out (by omega) _⟩
        by_cases hh : 1000000 < o2
        · go_wp2
          all_goals
           go_ret
           exact ⟨ret_bool (by rw [← HR.out]; exact (decide_eq_false (by unfold MayC stockOk; simp only; omega)).symm), Below.alloc HB.out (by omega) _⟩
        have OK := Lib.hid (show stockOk a2 o2 from by unfold stockOk; omega)
        go_wp2
        all_goals
         go_roundw
         case rel => exact ⟨3, by omega, rfl, Lib.hid ⟨by have := HO.out.1; have := OK.out; exact ⟨fun _ => by first | exact this | exact HO.out.1.1 (by omega), fun _ => by first | exact this | exact HO.out.1.2.1 (by omega) | omega, fun _ => by first | exact this | exact HO.out.1.2.2 (by omega) | omega⟩, Below.alloc HO.out.2 hz _⟩⟩
         case measure => simp [intOf]
      · by_cases hl : o2 < 0
        · go_wp2
          all_goals
           go_ret
           exact ⟨ret_bool (by rw [← HR.out]; exact (decide_eq_false (by unfold MayC stockOk; simp only; omega)).symm), Below.alloc HB.out (by omega) _⟩
        by_cases hh : 1000000 < a2
        · go_wp2
          all_goals
           go_ret
           exact ⟨ret_bool (by rw [← HR.out]; exact (decide_eq_false (by unfold MayC stockOk; simp only; omega)).symm), Below.alloc HB.out (by omega) _⟩
        have OK := Lib.hid (show stockOk a2 o2 from by unfold stockOk; omega)
        go_wp2
        all_goals
         go_roundw
         case rel => exact ⟨3, by omega, rfl, Lib.hid ⟨by have := HO.out.1; have := OK.out; exact ⟨fun _ => by first | exact this | exact HO.out.1.1 (by omega), fun _ => by first | exact this | exact HO.out.1.2.1 (by omega) | omega, fun _ => by first | exact this | exact HO.out.1.2.2 (by omega) | omega⟩, Below.alloc HO.out.2 hz _⟩⟩
         case measure => simp [intOf]
    · have HS := Lib.hid HO.out.1
      have cells : ∀ k u, (#[.int .i64 a0, .int .i64 o0, .int .i64 a1, .int .i64 o1, .int .i64 a2, .int .i64 o2, .int .i64 f0, .int .i64 f1, .int .i64 f2, .int .i64 f3] : Array Value)[k]? = some u → wr.cell? ⟨w.heap.size, k, none⟩ = some u := fun k u hu => by
        have h := World.news_of_block (heap_alloc_new w (.cells #[.int .i64 a0, .int .i64 o0, .int .i64 a1, .int .i64 o1, .int .i64 a2, .int .i64 o2, .int .i64 f0, .int .i64 f1, .int .i64 f2, .int .i64 f3] 61)) k u (by simpa using hu)
        have e : (⟨w.heap.size, 0, none⟩ : Addr).add k = ⟨w.heap.size, k, none⟩ := by unfold Addr.add; split <;> simp_all
        rw [e] at h
        exact bcell HO.out.2 h (by omega)
      have q6 := cells 6 _ rfl
      have q7 := cells 7 _ rfl
      have q8 := cells 8 _ rfl
      have q9 := cells 9 _ rfl
      clear cells HO
      go_wp2
      go_loopw [29] (fun i wr => ∃ k : Nat, k ≤ 4 ∧ i = .int .i64 k ∧ Hid (((1 ≤ k → fundOk f0) ∧ (2 ≤ k → fundOk f1) ∧ (3 ≤ k → fundOk f2) ∧ (4 ≤ k → fundOk f3)) ∧ Below w.heap.size w wr)) (fun i _ => 4 - (intOf i).toNat)
      case atStart => exact ⟨0, by omega, rfl, Lib.hid ⟨⟨by omega, by omega, by omega, by omega⟩, HB.out⟩⟩
      case round =>
        clear HB hz
        obtain ⟨k, hk, rfl, HO⟩ := hrel
        have : k = 0 ∨ k = 1 ∨ k = 2 ∨ k = 3 ∨ k = 4 := by omega
        rcases this with rfl | rfl | rfl | rfl | rfl
        · by_cases a : f0 < 0
          · go_wp2
            go_ret
            exact ⟨ret_bool (by rw [← HR.out]; exact (decide_eq_false (by unfold MayC MayFs fundOk; simp only; omega)).symm), HO.out.2⟩
          by_cases b : 1099511627776 < f0
          · go_wp2
            go_ret
            exact ⟨ret_bool (by rw [← HR.out]; exact (decide_eq_false (by unfold MayC MayFs fundOk; simp only; omega)).symm), HO.out.2⟩
          go_wp2
          go_roundw
          case rel => exact ⟨1, by omega, rfl, Lib.hid ⟨by have := HO.out.1; unfold fundOk at *; omega, HO.out.2⟩⟩
          case measure => simp [intOf]
        · by_cases a : f1 < 0
          · go_wp2
            go_ret
            exact ⟨ret_bool (by rw [← HR.out]; exact (decide_eq_false (by unfold MayC MayFs fundOk; simp only; omega)).symm), HO.out.2⟩
          by_cases b : 1099511627776 < f1
          · go_wp2
            go_ret
            exact ⟨ret_bool (by rw [← HR.out]; exact (decide_eq_false (by unfold MayC MayFs fundOk; simp only; omega)).symm), HO.out.2⟩
          go_wp2
          go_roundw
          case rel => exact ⟨2, by omega, rfl, Lib.hid ⟨by have := HO.out.1; unfold fundOk at *; omega, HO.out.2⟩⟩
          case measure => simp [intOf]
        · by_cases a : f2 < 0
          · go_wp2
            go_ret
            exact ⟨ret_bool (by rw [← HR.out]; exact (decide_eq_false (by unfold MayC MayFs fundOk; simp only; omega)).symm), HO.out.2⟩
          by_cases b : 1099511627776 < f2
          · go_wp2
            go_ret
            exact ⟨ret_bool (by rw [← HR.out]; exact (decide_eq_false (by unfold MayC MayFs fundOk; simp only; omega)).symm), HO.out.2⟩
          go_wp2
          go_roundw
          case rel => exact ⟨3, by omega, rfl, Lib.hid ⟨by have := HO.out.1; unfold fundOk at *; omega, HO.out.2⟩⟩
          case measure => simp [intOf]
        · by_cases a : f3 < 0
          · go_wp2
            go_ret
            exact ⟨ret_bool (by rw [← HR.out]; exact (decide_eq_false (by unfold MayC MayFs fundOk; simp only; omega)).symm), HO.out.2⟩
          by_cases b : 1099511627776 < f3
          · go_wp2
            go_ret
            exact ⟨ret_bool (by rw [← HR.out]; exact (decide_eq_false (by unfold MayC MayFs fundOk; simp only; omega)).symm), HO.out.2⟩
          go_wp2
          go_roundw
          case rel => exact ⟨4, by omega, rfl, Lib.hid ⟨by have := HO.out.1; unfold fundOk at *; omega, HO.out.2⟩⟩
          case measure => simp [intOf]
        · go_wp2
          go_ret
          exact ⟨ret_bool (by rw [← HR.out]; exact (decide_eq_true (by have h1 := HO.out.1; have h2 := HS.out; exact ⟨h2.1 (by omega), h2.2.1 (by omega), h2.2.2 (by omega), h1.1 (by omega), h1.2.1 (by omega), h1.2.2.1 (by omega), h1.2.2.2 (by omega)⟩)).symm), HO.out.2⟩
set_option maxHeartbeats 4000000 in
theorem rconf_c (x : C10) (w : World) : Calls Try.prog 39 #[x.val] w fun e w' => e = .returned (.bool (decide (MayC x))) ∧ Below w.heap.size w w' := by
  obtain ⟨a0, o0, a1, o1, a2, o2, f0, f1, f2, f3⟩ := x
  unfold C10.val
  obtain ⟨r, hr⟩ : ∃ r, decide (MayC ⟨a0, o0, a1, o1, a2, o2, f0, f1, f2, f3⟩) = r := ⟨_, rfl⟩
  rw [hr]
  have HR := Lib.hid hr
  obtain ⟨rf, hrf⟩ : ∃ rf, decide (fundOk f0 ∧ fundOk f1 ∧ fundOk f2 ∧ fundOk f3) = rf := ⟨_, rfl⟩
  have HF := Lib.hid (funds_is f0 f1 f2 f3 rf hrf)
  have HRF := Lib.hid hrf
  clear hr hrf
  go_enter Try.func39, Try.ntmps39
  go_wp2
  go_loopw [3] (fun i wr => ∃ k : Nat, k ≤ 3 ∧ i = .int .i64 k ∧ Hid (((1 ≤ k → stockOk a0 o0) ∧ (2 ≤ k → stockOk a1 o1) ∧ (3 ≤ k → stockOk a2 o2)) ∧ Below (w.heap.size + 1) (w.alloc (.cells #[.int .i64 a0, .int .i64 o0, .int .i64 a1, .int .i64 o1, .int .i64 a2, .int .i64 o2, .int .i64 f0, .int .i64 f1, .int .i64 f2, .int .i64 f3] 61)) wr)) (fun i _ => 3 - (intOf i).toNat)
  case atStart => exact ⟨0, by omega, rfl, Lib.hid ⟨⟨by omega, by omega, by omega⟩, Below.refl _ _⟩⟩
  case round =>
    obtain ⟨k, hk, rfl, HO⟩ := hrel
    have HB := Lib.hid (show Below w.heap.size w wr from ((Below.refl _ _).alloc (Nat.le_refl _) _).trans (HO.out.2.mono (by omega)))
    have hz : w.heap.size + 1 ≤ wr.heap.size := by have := HO.out.2.size; simp at this; exact this
    have cells : ∀ k u, (#[.int .i64 a0, .int .i64 o0, .int .i64 a1, .int .i64 o1, .int .i64 a2, .int .i64 o2, .int .i64 f0, .int .i64 f1, .int .i64 f2, .int .i64 f3] : Array Value)[k]? = some u → wr.cell? ⟨w.heap.size, k, none⟩ = some u := fun k u hu => by
      have h := World.news_of_block (heap_alloc_new w (.cells #[.int .i64 a0, .int .i64 o0, .int .i64 a1, .int .i64 o1, .int .i64 a2, .int .i64 o2, .int .i64 f0, .int .i64 f1, .int .i64 f2, .int .i64 f3] 61)) k u (by simpa using hu)
      have e : (⟨w.heap.size, 0, none⟩ : Addr).add k = ⟨w.heap.size, k, none⟩ := by unfold Addr.add; split <;> simp_all
      rw [e] at h
      exact bcell HO.out.2 h (by omega)
    have q0 := cells 0 _ rfl
    have q1 := cells 1 _ rfl
    have q2 := cells 2 _ rfl
    have q3 := cells 3 _ rfl
    have q4 := cells 4 _ rfl
    have q5 := cells 5 _ rfl
    have q6 := cells 6 _ rfl
    have q7 := cells 7 _ rfl
    have q8 := cells 8 _ rfl
    have q9 := cells 9 _ rfl
    clear cells
    have : k = 0 ∨ k = 1 ∨ k = 2 ∨ k = 3 := by omega
    rcases this with rfl | rfl | rfl | rfl
    · by_cases ok : stockOk a0 o0
      · have SC := Lib.hid (stock_is a0 o0 true (decide_eq_true ok))
        have OK := Lib.hid ok
        clear ok
        go_wp2_with fail
        refine (SC.out _).mono ?_
        rintro e w1 ⟨rfl, b1⟩
        have HB1 := Lib.hid (HO.out.2.trans (b1.mono hz))
        clear b1
        go_wp2
        go_roundw
        case rel => exact ⟨1, by omega, rfl, Lib.hid ⟨by have := HO.out.1; have := OK.out; exact ⟨fun _ => by first | exact this | exact HO.out.1.1 (by omega), fun _ => by first | exact this | exact HO.out.1.2.1 (by omega) | omega, fun _ => by first | exact this | exact HO.out.1.2.2 (by omega) | omega⟩, HB1.out⟩⟩
        case measure => simp [intOf]
      · have SC := Lib.hid (stock_is a0 o0 false (decide_eq_false ok))
        have OK := Lib.hid ok
        clear ok
        go_wp2_with fail
        refine (SC.out _).mono ?_
        rintro e w1 ⟨rfl, b1⟩
        have HB1 := Lib.hid (HB.out.trans (b1.mono HB.out.size))
        clear b1
        go_wp2
        go_ret
        exact ⟨ret_bool (by rw [← HR.out]; exact (decide_eq_false (fun h => OK.out h.1)).symm), HB1.out⟩
    · by_cases ok : stockOk a1 o1
      · have SC := Lib.hid (stock_is a1 o1 true (decide_eq_true ok))
        have OK := Lib.hid ok
        clear ok
        go_wp2_with fail
        refine (SC.out _).mono ?_
        rintro e w1 ⟨rfl, b1⟩
        have HB1 := Lib.hid (HO.out.2.trans (b1.mono hz))
        clear b1
        go_wp2
        go_roundw
        case rel => exact ⟨2, by omega, rfl, Lib.hid ⟨by have := HO.out.1; have := OK.out; exact ⟨fun _ => by first | exact this | exact HO.out.1.1 (by omega), fun _ => by first | exact this | exact HO.out.1.2.1 (by omega) | omega, fun _ => by first | exact this | exact HO.out.1.2.2 (by omega) | omega⟩, HB1.out⟩⟩
        case measure => simp [intOf]
      · have SC := Lib.hid (stock_is a1 o1 false (decide_eq_false ok))
        have OK := Lib.hid ok
        clear ok
        go_wp2_with fail
        refine (SC.out _).mono ?_
        rintro e w1 ⟨rfl, b1⟩
        have HB1 := Lib.hid (HB.out.trans (b1.mono HB.out.size))
        clear b1
        go_wp2
        go_ret
        exact ⟨ret_bool (by rw [← HR.out]; exact (decide_eq_false (fun h => OK.out h.2.1)).symm), HB1.out⟩
    · by_cases ok : stockOk a2 o2
      · have SC := Lib.hid (stock_is a2 o2 true (decide_eq_true ok))
        have OK := Lib.hid ok
        clear ok
        go_wp2_with fail
        refine (SC.out _).mono ?_
        rintro e w1 ⟨rfl, b1⟩
        have HB1 := Lib.hid (HO.out.2.trans (b1.mono hz))
        clear b1
        go_wp2
        go_roundw
        case rel => exact ⟨3, by omega, rfl, Lib.hid ⟨by have := HO.out.1; have := OK.out; exact ⟨fun _ => by first | exact this | exact HO.out.1.1 (by omega), fun _ => by first | exact this | exact HO.out.1.2.1 (by omega) | omega, fun _ => by first | exact this | exact HO.out.1.2.2 (by omega) | omega⟩, HB1.out⟩⟩
        case measure => simp [intOf]
      · have SC := Lib.hid (stock_is a2 o2 false (decide_eq_false ok))
        have OK := Lib.hid ok
        clear ok
        go_wp2_with fail
        refine (SC.out _).mono ?_
        rintro e w1 ⟨rfl, b1⟩
        have HB1 := Lib.hid (HB.out.trans (b1.mono HB.out.size))
        clear b1
        go_wp2
        go_ret
        exact ⟨ret_bool (by rw [← HR.out]; exact (decide_eq_false (fun h => OK.out h.2.2.1)).symm), HB1.out⟩
    · have OK := Lib.hid HO.out.1
      go_wp2_with fail
      refine (HF.out _).mono ?_
      rintro e w1 ⟨rfl, b1⟩
      have HB1 := Lib.hid (HB.out.trans (b1.mono HB.out.size))
      clear b1
      go_wp2
      go_ret
      exact ⟨ret_bool (by
        rw [← HR.out, ← HRF.out]
        have h := OK.out
        exact decide_eq_decide.2 ⟨fun hf => ⟨h.1 (by omega), h.2.1 (by omega), h.2.2 (by omega), hf⟩, fun hm => hm.2.2.2⟩), HB1.out⟩
/-- How many steps a booking asks at most. -/
def stepsN (x : W7) : Int := if MayW x then (((forwardL x).length + 1 + (backL x).length : Nat) : Int) else 0
theorem fwd_len (x : W7) : (forwardL x).length ≤ 7 := by unfold forwardL; have := partsE_len x 1; have := partsE_len x 2; have := purseL_len x 4; simp only [List.length_append]; unfold purseL at *; split <;> simp at * <;> omega
theorem bck_len (x : W7) : (backL x).length ≤ 6 := by unfold backL; have := partsE_len x 3; have := purseL_len x 6; simp only [List.length_append, List.length_reverse]; omega
def NB (n : Int) (w : World) (e : Ending) (w' : World) : Prop := e = .returned (.int .i64 n) ∧ Below w.heap.size w w'
set_option maxHeartbeats 4000000 in
theorem steps_c (x : W7) (w : World) : Calls Try.prog 40 #[x.val] w (NB (stepsN x) w) := by
  by_cases hm : MayW x
  · have HM := Lib.hid (may_is x true (decide_eq_true hm))
    have FC := Lib.hid (forward_c x)
    have KC := Lib.hid (back_c x)
    rw [show stepsN x = (((forwardL x).length + 1 + (backL x).length : Nat) : Int) from if_pos hm]
    have nF := fwd_len x
    have nK := bck_len x
    generalize forwardL x = fl at *
    generalize backL x = bl at *
    clear hm
    unfold W7.val at *
    go_enter Try.func40, Try.ntmps40
    go_wp2_with fail
    refine (HM.out _).mono ?_
    rintro e w0 ⟨rfl, hB⟩
    have BB : CH w x w0 := CH.next (Below.refl _ _ : CH w x (bxW w x)) hB
    obtain ⟨c0, c1, c2, c3, c4, c5, c6⟩ := CH.cells BB
    clear hB
    go_wp2
    go_region_held3 (fun w' => w'.cell? ⟨w.heap.size, 0, none⟩ = some (.int .i64 x.b) ∧ w'.cell? ⟨w.heap.size, 1, none⟩ = some (.int .i64 x.c) ∧ w'.cell? ⟨w.heap.size, 2, none⟩ = some (.int .i64 x.d) ∧ w'.cell? ⟨w.heap.size, 3, none⟩ = some (.int .i64 x.m0) ∧ w'.cell? ⟨w.heap.size, 4, none⟩ = some (.int .i64 x.m1) ∧ w'.cell? ⟨w.heap.size, 5, none⟩ = some (.int .i64 x.m2) ∧ w'.cell? ⟨w.heap.size, 6, none⟩ = some (.int .i64 x.p)) (first | go_keep | exact CH.cells BB) (first | (go_at_call 29; refine (FC.out _).mono ?_; rintro e w1 ⟨v1, rfl, HF, hB⟩; obtain ⟨AF, cF, rfl, _, _, _⟩ := own_form HF; (first | replace BB := CH.next BB hB | replace BB := CH.next (Below.drew BB) hB); clear hB HF) | (go_at_call 31; refine (KC.out _).mono ?_; rintro e w1 ⟨v1, rfl, HF, hB⟩; obtain ⟨AF, cF, rfl, _, _, _⟩ := own_form HF; (first | replace BB := CH.next BB hB | replace BB := CH.next (Below.drew BB) hB); clear hB HF))
    all_goals
      go_wp2
      go_ret
      refine ⟨ret_int ?_, (bxW_of BB).2.1⟩
      push_cast
      rw [IntWalk.i64_in ((fl.length : Int) + 1) (by omega), IntWalk.i64_in _ (by omega)]
  · have HM := Lib.hid (may_is x false (decide_eq_false hm))
    rw [show stepsN x = 0 from if_neg hm]
    clear hm
    unfold W7.val at *
    go_enter Try.func40, Try.ntmps40
    go_wp2_with fail
    refine (HM.out _).mono ?_
    rintro e w0 ⟨rfl, hB⟩
    have BB : CH w x w0 := CH.next (Below.refl _ _ : CH w x (bxW w x)) hB
    clear hB
    go_wp2
    go_ret
    exact ⟨rfl, (bxW_of BB).2.1⟩
set_option maxHeartbeats 4000000 in
theorem rsteps_c (x : W7) (w : World) : Calls Try.prog 41 #[x.val] w (NB (stepsN x) w) := by
  by_cases hm : MayW x
  · have HM := Lib.hid (rmay_is x true (decide_eq_true hm))
    have FC := Lib.hid (rforward_c x)
    have KC := Lib.hid (rback_c x)
    rw [show stepsN x = (((forwardL x).length + 1 + (backL x).length : Nat) : Int) from if_pos hm]
    have nF := fwd_len x
    have nK := bck_len x
    generalize forwardL x = fl at *
    generalize backL x = bl at *
    clear hm
    unfold W7.val at *
    go_enter Try.func41, Try.ntmps41
    go_wp2_with fail
    refine (HM.out _).mono ?_
    rintro e w0 ⟨rfl, hB⟩
    have BB : CH w x w0 := CH.next (Below.refl _ _ : CH w x (bxW w x)) hB
    obtain ⟨c0, c1, c2, c3, c4, c5, c6⟩ := CH.cells BB
    clear hB
    go_wp2
    go_region_held3 (fun w' => w'.cell? ⟨w.heap.size, 0, none⟩ = some (.int .i64 x.b) ∧ w'.cell? ⟨w.heap.size, 1, none⟩ = some (.int .i64 x.c) ∧ w'.cell? ⟨w.heap.size, 2, none⟩ = some (.int .i64 x.d) ∧ w'.cell? ⟨w.heap.size, 3, none⟩ = some (.int .i64 x.m0) ∧ w'.cell? ⟨w.heap.size, 4, none⟩ = some (.int .i64 x.m1) ∧ w'.cell? ⟨w.heap.size, 5, none⟩ = some (.int .i64 x.m2) ∧ w'.cell? ⟨w.heap.size, 6, none⟩ = some (.int .i64 x.p)) (first | go_keep | exact CH.cells BB) (first | (go_at_call 30; refine (FC.out _).mono ?_; rintro e w1 ⟨v1, rfl, HF, hB⟩; obtain ⟨AF, cF, rfl, _, _, _⟩ := own_form HF; (first | replace BB := CH.next BB hB | replace BB := CH.next (Below.drew BB) hB); clear hB HF) | (go_at_call 32; refine (KC.out _).mono ?_; rintro e w1 ⟨v1, rfl, HF, hB⟩; obtain ⟨AF, cF, rfl, _, _, _⟩ := own_form HF; (first | replace BB := CH.next BB hB | replace BB := CH.next (Below.drew BB) hB); clear hB HF))
    all_goals
      go_wp2
      go_ret
      refine ⟨ret_int ?_, (bxW_of BB).2.1⟩
      push_cast
      rw [IntWalk.i64_in ((fl.length : Int) + 1) (by omega), IntWalk.i64_in _ (by omega)]
  · have HM := Lib.hid (rmay_is x false (decide_eq_false hm))
    rw [show stepsN x = 0 from if_neg hm]
    clear hm
    unfold W7.val at *
    go_enter Try.func41, Try.ntmps41
    go_wp2_with fail
    refine (HM.out _).mono ?_
    rintro e w0 ⟨rfl, hB⟩
    have BB : CH w x w0 := CH.next (Below.refl _ _ : CH w x (bxW w x)) hB
    clear hB
    go_wp2
    go_ret
    exact ⟨rfl, (bxW_of BB).2.1⟩
end Go.Proofs.Ytblpkcoapbkppaa
