/- Checked numbers: sums, differences, products, as the program tells them. -/
import Derived.Test.YtblpkcoapbkppaaSign
set_option linter.unusedSimpArgs false
set_option linter.unusedVariables false
namespace Go.Proofs.Ytblpkcoapbkppaa
open Go.RowKit
instance (z : Int) : Decidable (Fits z) := by unfold Fits; infer_instance
theorem wrap_fits {z : Int} (h : Fits z) : wrap64 z = z := by unfold Fits at h; unfold wrap64; omega
theorem below_c (x : Int) (h : Fits x) (w : World) : Calls Try.prog 46 #[.int .i64 x] w fun e w' => e = .returned (.bool (decide (x < 0))) ∧ w = w' := by
  have e : IntKind.u64.wrap x / 9223372036854775808 = if x < 0 then 1 else 0 := by
    rw [IntKind.wrap_u64]; unfold Fits at h; split <;> omega
  by_cases hx : x < 0
  · rw [if_pos hx] at e
    go_enter Try.func46, Try.ntmps46
    go_wp2
    go_ret
    exact ⟨ret_bool (decide_eq_true (by omega)).symm, rfl⟩
  · rw [if_neg hx] at e
    go_enter Try.func46, Try.ntmps46
    go_wp2
    go_ret
    exact ⟨ret_bool (decide_eq_false (by omega)).symm, rfl⟩
theorem below3 (w : World) (x y z : Obj) : Below w.heap.size w (((w.alloc x).alloc y).alloc z) := (((Below.refl _ _).alloc (Nat.le_refl _) _).alloc (by simp) _).alloc (by simp; omega) _
theorem add_yes (a b : Int) (w : World) (ha : Fits a) (hb : Fits b) (h : Fits (a + b)) : Calls Try.prog 18 #[.int .i64 a, .int .i64 b] w fun e w' => e = .returned (.tuple #[.int .i64 (a + b), .int .i64 0]) ∧ Below w.heap.size w w' := by
  have hmf : ∀ (fn : Fn) (first cap : Array Value) (w : World), (Instr.makeFunc fn first cap).run Try.prog w = .ok (.func fn first cap) w := fun _ _ _ _ => rfl
  have e1 := u_add a b
  have ho := add_over a b ha hb
  rw [wrap_fits h] at e1 ho
  have HF := Lib.hid ho.1
  have hd : decide (bits .and .i64 (bits .xor .i64 a (a + b)) (bits .xor .i64 b (a + b)) < 0) = false := decide_eq_false (fun hh => ho.2.1 hh h)
  clear ho h ha hb
  go_enter Try.func18, Try.ntmps18
  go_wp2_with (first | (go_at_call 46; refine (below_c _ HF.out _).mono ?_; rintro e w' ⟨rfl, rfl⟩) | go_in)
  go_ret2
  exact ⟨rfl, below3 w _ _ _⟩
theorem add_no (a b : Int) (w : World) (ha : Fits a) (hb : Fits b) (h : ¬ Fits (a + b)) : Calls Try.prog 18 #[.int .i64 a, .int .i64 b] w fun e w' => e = .returned (.tuple #[.int .i64 0, .int .i64 3]) ∧ Below w.heap.size w w' := by
  have hmf : ∀ (fn : Fn) (first cap : Array Value) (w : World), (Instr.makeFunc fn first cap).run Try.prog w = .ok (.func fn first cap) w := fun _ _ _ _ => rfl
  have e1 := u_add a b
  have ho := add_over a b ha hb
  have HF := Lib.hid ho.1
  have hd : decide (bits .and .i64 (bits .xor .i64 a (wrap64 (a + b))) (bits .xor .i64 b (wrap64 (a + b))) < 0) = true := decide_eq_true (ho.2.2 h)
  clear ho h ha hb
  go_enter Try.func18, Try.ntmps18
  go_wp2_with (first | (go_at_call 46; refine (below_c _ HF.out _).mono ?_; rintro e w' ⟨rfl, rfl⟩) | go_in)
  go_ret2
  exact ⟨rfl, below3 w _ _ _⟩
theorem sub_yes (a b : Int) (w : World) (ha : Fits a) (hb : Fits b) (h : Fits (a - b)) : Calls Try.prog 19 #[.int .i64 a, .int .i64 b] w fun e w' => e = .returned (.tuple #[.int .i64 (a - b), .int .i64 0]) ∧ Below w.heap.size w w' := by
  have hmf : ∀ (fn : Fn) (first cap : Array Value) (w : World), (Instr.makeFunc fn first cap).run Try.prog w = .ok (.func fn first cap) w := fun _ _ _ _ => rfl
  have e1 := u_sub a b
  have ho := sub_over a b ha hb
  rw [wrap_fits h] at e1 ho
  have HF := Lib.hid ho.1
  have hd : decide (bits .and .i64 (bits .xor .i64 a b) (bits .xor .i64 a (a - b)) < 0) = false := decide_eq_false (fun hh => ho.2.1 hh h)
  clear ho h ha hb
  go_enter Try.func19, Try.ntmps19
  go_wp2_with (first | (go_at_call 46; refine (below_c _ HF.out _).mono ?_; rintro e w' ⟨rfl, rfl⟩) | go_in)
  go_ret2
  exact ⟨rfl, below3 w _ _ _⟩
theorem sub_no (a b : Int) (w : World) (ha : Fits a) (hb : Fits b) (h : ¬ Fits (a - b)) : Calls Try.prog 19 #[.int .i64 a, .int .i64 b] w fun e w' => e = .returned (.tuple #[.int .i64 0, .int .i64 3]) ∧ Below w.heap.size w w' := by
  have hmf : ∀ (fn : Fn) (first cap : Array Value) (w : World), (Instr.makeFunc fn first cap).run Try.prog w = .ok (.func fn first cap) w := fun _ _ _ _ => rfl
  have e1 := u_sub a b
  have ho := sub_over a b ha hb
  have HF := Lib.hid ho.1
  have hd : decide (bits .and .i64 (bits .xor .i64 a b) (bits .xor .i64 a (wrap64 (a - b))) < 0) = true := decide_eq_true (ho.2.2 h)
  clear ho h ha hb
  go_enter Try.func19, Try.ntmps19
  go_wp2_with (first | (go_at_call 46; refine (below_c _ HF.out _).mono ?_; rintro e w' ⟨rfl, rfl⟩) | go_in)
  go_ret2
  exact ⟨rfl, below3 w _ _ _⟩
theorem mul_div (a b : Int) (ha : Fits a) (hb : Fits b) (h0 : b ≠ 0) (h1 : b ≠ -1) : (wrap64 ((wrap64 (a * b)).tdiv b) = a) ↔ Fits (a * b) := by
  have hn := wrap64_fits (a * b)
  have e1 := Int.mul_tdiv_add_tmod (wrap64 (a * b)) b
  have e2 : ((wrap64 (a * b)).tdiv b).natAbs = (wrap64 (a * b)).natAbs / b.natAbs := Int.natAbs_tdiv (wrap64 (a * b)) b
  have e3 := Int.natAbs_tmod (wrap64 (a * b)) b
  have e4 : (wrap64 (a * b)).natAbs % b.natAbs < b.natAbs := Nat.mod_lt _ (by omega)
  have hq : Fits ((wrap64 (a * b)).tdiv b) := by
    by_cases hb1 : b = 1
    · rw [hb1, Int.tdiv_one]; rw [hb1] at hn; exact hn
    · have h2 : 2 ≤ b.natAbs := by omega
      have h3 : (wrap64 (a * b)).natAbs / b.natAbs ≤ (wrap64 (a * b)).natAbs / 2 := Nat.div_le_div_left h2 (by omega)
      generalize (wrap64 (a * b)).natAbs / b.natAbs = g at e2 h3
      clear e1 e3 e4
      unfold Fits at *
      omega
  rw [wrap_fits hq]
  constructor
  · intro h
    rw [h, Int.mul_comm b a] at e1
    generalize (wrap64 (a * b)).tmod b = r at e1 e3
    have hr : r.natAbs < 9223372036854775808 := by unfold Fits at hb; omega
    have hw : wrap64 (a * b) = (a * b + 9223372036854775808) % 18446744073709551616 - 9223372036854775808 := by unfold wrap64; omega
    unfold Fits at *
    generalize a * b = p at *
    omega
  · intro h
    rw [wrap_fits h]
    exact Int.mul_tdiv_cancel a h0
theorem mul_edge (a b : Int) (ha : Fits a) (hb : Fits b) (h : a = -1) : Fits (a * b) ↔ b ≠ -9223372036854775808 := by
  subst h
  unfold Fits at *
  constructor <;> intro h <;> omega
/-- Is a product told? as the program asks. -/
theorem below4 (w : World) (x y z : Obj) (n : Nat) : Below w.heap.size w ((((w.alloc x).alloc y).alloc z).drewN n) := below_drewN (below3 w x y z) n
/-- The closure's answer, by the facts that it asks. -/
theorem mul_walk (a b n : Int) (w : World) (e1 : wrap64 (IntKind.u64.wrap (IntKind.u64.wrap a * IntKind.u64.wrap b)) = n) (v : Bool) (hv : (a == 0) = true ∧ v = false) : Calls Try.prog 20 #[.int .i64 a, .int .i64 b] w fun e w' => e = .returned (.tuple #[.int .i64 (if v then 0 else n), .int .i64 (if v then 3 else 0)]) ∧ Below w.heap.size w w' := by
  have hmf : ∀ (fn : Fn) (first cap : Array Value) (w : World), (Instr.makeFunc fn first cap).run Try.prog w = .ok (.func fn first cap) w := fun _ _ _ _ => rfl
  obtain ⟨h1, rfl⟩ := hv
  go_enter Try.func20, Try.ntmps20
  go_wp2
  go_ret2
  exact ⟨rfl, below3 w _ _ _⟩
theorem mul_walk_b (a b n : Int) (w : World) (e1 : wrap64 (IntKind.u64.wrap (IntKind.u64.wrap a * IntKind.u64.wrap b)) = n) (v : Bool) (hv : (a == 0) = false ∧ (b == 0) = true ∧ v = false) : Calls Try.prog 20 #[.int .i64 a, .int .i64 b] w fun e w' => e = .returned (.tuple #[.int .i64 (if v then 0 else n), .int .i64 (if v then 3 else 0)]) ∧ Below w.heap.size w w' := by
  have hmf : ∀ (fn : Fn) (first cap : Array Value) (w : World), (Instr.makeFunc fn first cap).run Try.prog w = .ok (.func fn first cap) w := fun _ _ _ _ => rfl
  obtain ⟨h1, h2, rfl⟩ := hv
  go_enter Try.func20, Try.ntmps20
  go_wp2
  go_ret2
  exact ⟨rfl, below3 w _ _ _⟩
theorem mul_walk_a1 (a b n : Int) (w : World) (e1 : wrap64 (IntKind.u64.wrap (IntKind.u64.wrap a * IntKind.u64.wrap b)) = n) (v : Bool) (hv : (a == 0) = false ∧ (b == 0) = false ∧ (a == -1) = true ∧ (b == -9223372036854775808) = v) : Calls Try.prog 20 #[.int .i64 a, .int .i64 b] w fun e w' => e = .returned (.tuple #[.int .i64 (if v then 0 else n), .int .i64 (if v then 3 else 0)]) ∧ Below w.heap.size w w' := by
  have hmf : ∀ (fn : Fn) (first cap : Array Value) (w : World), (Instr.makeFunc fn first cap).run Try.prog w = .ok (.func fn first cap) w := fun _ _ _ _ => rfl
  obtain ⟨h1, h2, h3, h4⟩ := hv
  cases v <;>
  · go_enter Try.func20, Try.ntmps20
    go_wp2
    go_ret2
    exact ⟨rfl, below3 w _ _ _⟩
theorem mul_walk_b1 (a b n : Int) (w : World) (e1 : wrap64 (IntKind.u64.wrap (IntKind.u64.wrap a * IntKind.u64.wrap b)) = n) (v : Bool) (hv : (a == 0) = false ∧ (b == 0) = false ∧ (a == -1) = false ∧ (b == -1) = true ∧ (a == -9223372036854775808) = v) : Calls Try.prog 20 #[.int .i64 a, .int .i64 b] w fun e w' => e = .returned (.tuple #[.int .i64 (if v then 0 else n), .int .i64 (if v then 3 else 0)]) ∧ Below w.heap.size w w' := by
  have hmf : ∀ (fn : Fn) (first cap : Array Value) (w : World), (Instr.makeFunc fn first cap).run Try.prog w = .ok (.func fn first cap) w := fun _ _ _ _ => rfl
  obtain ⟨h1, h2, h3, h4, h5⟩ := hv
  cases v <;>
  · go_enter Try.func20, Try.ntmps20
    go_wp2
    go_ret2
    exact ⟨rfl, below3 w _ _ _⟩
theorem mul_walk_q (a b n : Int) (w : World) (e1 : wrap64 (IntKind.u64.wrap (IntKind.u64.wrap a * IntKind.u64.wrap b)) = n) (v : Bool) (hb0 : ¬ b = 0) (hv : (a == 0) = false ∧ (b == 0) = false ∧ (a == -1) = false ∧ (b == -1) = false ∧ (wrap64 (n.tdiv b) != a) = v) : Calls Try.prog 20 #[.int .i64 a, .int .i64 b] w fun e w' => e = .returned (.tuple #[.int .i64 (if v then 0 else n), .int .i64 (if v then 3 else 0)]) ∧ Below w.heap.size w w' := by
  have hmf : ∀ (fn : Fn) (first cap : Array Value) (w : World), (Instr.makeFunc fn first cap).run Try.prog w = .ok (.func fn first cap) w := fun _ _ _ _ => rfl
  obtain ⟨h1, h2, h3, h4, h5⟩ := hv
  cases v <;>
  · go_enter Try.func20, Try.ntmps20
    go_wp2_with (first | go_quiet (fail) | go_in)
    go_ret2
    exact ⟨rfl, below4 w _ _ _ _⟩
theorem mul_c (a b : Int) (w : World) (ha : Fits a) (hb : Fits b) : Calls Try.prog 20 #[.int .i64 a, .int .i64 b] w fun e w' => e = .returned (.tuple #[.int .i64 (if Fits (a * b) then a * b else 0), .int .i64 (if Fits (a * b) then 0 else 3)]) ∧ Below w.heap.size w w' := by
  have e1 := u_mul a b
  have hfin : ∀ v : Bool, (v = true ↔ ¬ Fits (a * b)) → (if v = true then (0 : Int) else wrap64 (a * b)) = (if Fits (a * b) then a * b else 0) ∧ (if v = true then (3 : Int) else 0) = (if Fits (a * b) then 0 else 3) := by
    intro v hv
    by_cases hz : Fits (a * b)
    · have : ¬ v = true := fun h => hv.1 h hz
      rw [if_neg this, if_neg this, if_pos hz, if_pos hz, wrap_fits hz]; exact ⟨rfl, rfl⟩
    · have : v = true := hv.2 hz
      rw [if_pos this, if_pos this, if_neg hz, if_neg hz]; exact ⟨rfl, rfl⟩
  by_cases a0 : a = 0
  · have := mul_walk a b _ w e1 false ⟨beq_iff_eq.2 a0, rfl⟩
    rw [(hfin false (by subst a0; rw [Int.zero_mul]; decide)).1, (hfin false (by subst a0; rw [Int.zero_mul]; decide)).2] at this
    exact this
  have a0' : (a == 0) = false := beq_eq_false_iff_ne.2 a0
  by_cases b0 : b = 0
  · have := mul_walk_b a b _ w e1 false ⟨a0', beq_iff_eq.2 b0, rfl⟩
    rw [(hfin false (by subst b0; rw [Int.mul_zero]; decide)).1, (hfin false (by subst b0; rw [Int.mul_zero]; decide)).2] at this
    exact this
  have b0' : (b == 0) = false := beq_eq_false_iff_ne.2 b0
  by_cases a1 : a = -1
  · have hm := mul_edge a b ha hb a1
    have := mul_walk_a1 a b _ w e1 _ ⟨a0', b0', beq_iff_eq.2 a1, rfl⟩
    have hv : ((b == -9223372036854775808) = true ↔ ¬ Fits (a * b)) := by rw [hm, beq_iff_eq]; simp
    rw [(hfin _ hv).1, (hfin _ hv).2] at this
    exact this
  have a1' : (a == -1) = false := beq_eq_false_iff_ne.2 a1
  by_cases b1 : b = -1
  · have hm := mul_edge b a hb ha b1
    rw [Int.mul_comm] at hm
    have := mul_walk_b1 a b _ w e1 _ ⟨a0', b0', a1', beq_iff_eq.2 b1, rfl⟩
    have hv : ((a == -9223372036854775808) = true ↔ ¬ Fits (a * b)) := by rw [hm, beq_iff_eq]; simp
    rw [(hfin _ hv).1, (hfin _ hv).2] at this
    exact this
  have b1' : (b == -1) = false := beq_eq_false_iff_ne.2 b1
  have hm := mul_div a b ha hb b0 b1
  have := mul_walk_q a b _ w e1 _ b0 ⟨a0', b0', a1', b1', rfl⟩
  have hv : ((wrap64 ((wrap64 (a * b)).tdiv b) != a) = true ↔ ¬ Fits (a * b)) := by rw [bne_iff_ne, ne_eq, hm]
  rw [(hfin _ hv).1, (hfin _ hv).2] at this
  exact this
end Go.Proofs.Ytblpkcoapbkppaa
