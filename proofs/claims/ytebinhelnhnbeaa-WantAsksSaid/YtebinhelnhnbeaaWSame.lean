/- Bookings and operations compared. -/
import Derived.Test.YtebinhelnhnbeaaWGetW1
import Derived.Test.YtebinhelnhnbeaaWGetO1
import Derived.Laws.StructEq
set_option linter.unusedSimpArgs false
set_option linter.unusedVariables false
namespace Go.Proofs.Ytebinhelnhnbeaa
open Go.RowKit
theorem arr_eqd (d : Nat) (a b c a' b' c' : Int) (w : World) : (Op.equalIn (d + 2) 55 (.agg #[.int .i64 a, .int .i64 b, .int .i64 c]) (.agg #[.int .i64 a', .int .i64 b', .int .i64 c'])).run Try.prog w = .ok (a == a' && b == b' && c == c') w := by
  have hs : ∀ w, (Go.sizeOf 3).run Try.prog w = .ok 1 w := fun _ => by kernel_rfl
  have p0 : ∀ (x y z : Int) w, (part 3 #[.int .i64 x, .int .i64 y, .int .i64 z] (0 * 1)).run Try.prog w = .ok (.int .i64 x) w := fun _ _ _ _ => by kernel_rfl
  have p1 : ∀ (x y z : Int) w, (part 3 #[.int .i64 x, .int .i64 y, .int .i64 z] (1 * 1)).run Try.prog w = .ok (.int .i64 y) w := fun _ _ _ _ => by kernel_rfl
  have p2 : ∀ (x y z : Int) w, (part 3 #[.int .i64 x, .int .i64 y, .int .i64 z] (2 * 1)).run Try.prog w = .ok (.int .i64 z) w := fun _ _ _ _ => by kernel_rfl
  have e : ∀ (x y : Int) w, (Op.equalIn (d + 1) 3 (.int .i64 x) (.int .i64 y)).run Try.prog w = .ok (x == y) w := fun x y w => run_equalIn_int w d 3 .i64 .i64 x y Try.underlying3
  unfold Op.equalIn
  simp only [Sem.run_bind, run_underlying Try.underlying55, Result.andThen_ok, hs]
  cases h0 : (a == a') <;> cases h1 : (b == b') <;> cases h2 : (c == c')
  all_goals simp [Std.Legacy.Range.forIn_eq_forIn_range', List.range', p0, p1, p2, e, h0, h1, h2, go_sem]
theorem W7_ext {x y : W7} : x = y ↔ x.b = y.b ∧ x.c = y.c ∧ x.d = y.d ∧ x.m0 = y.m0 ∧ x.m1 = y.m1 ∧ x.m2 = y.m2 ∧ x.p = y.p := by
  cases x; cases y; simp
theorem O5_ext {x y : O5} : x = y ↔ x.kind = y.kind ∧ x.book = y.book ∧ x.units = y.units ∧ x.cust = y.cust ∧ x.amount = y.amount := by
  cases x; cases y; simp
instance : DecidableEq W7 := fun _ _ => decidable_of_iff _ W7_ext.symm
instance : DecidableEq O5 := fun _ _ => decidable_of_iff _ O5_ext.symm
set_option maxHeartbeats 1600000 in
theorem sameW (x y : W7) (r : Bool) (hr : decide (x = y) = r) (w : World) : (Op.equalIn 10000 57 x.val y.val).run Try.prog w = .ok r w := by
  subst hr
  unfold W7.val
  rw [show (10000 : Nat) = 9999 + 1 from rfl, run_equalIn_struct w 9999 57 _ _ (by unfold Program.fieldsOf; rw [Try.underlying57]) (by kernel_rfl)]
  have p0 : ∀ (a b c d e f g : Int) w, (part 3 #[.int .i64 a, .int .i64 b, .int .i64 c, .int .i64 d, .int .i64 e, .int .i64 f, .int .i64 g] 0).run Try.prog w = .ok (.int .i64 a) w := fun _ _ _ _ _ _ _ _ => by kernel_rfl
  have p1 : ∀ (a b c d e f g : Int) w, (part 3 #[.int .i64 a, .int .i64 b, .int .i64 c, .int .i64 d, .int .i64 e, .int .i64 f, .int .i64 g] 1).run Try.prog w = .ok (.int .i64 b) w := fun _ _ _ _ _ _ _ _ => by kernel_rfl
  have p2 : ∀ (a b c d e f g : Int) w, (part 3 #[.int .i64 a, .int .i64 b, .int .i64 c, .int .i64 d, .int .i64 e, .int .i64 f, .int .i64 g] 2).run Try.prog w = .ok (.int .i64 c) w := fun _ _ _ _ _ _ _ _ => by kernel_rfl
  have p3 : ∀ (a b c d e f g : Int) w, (part 55 #[.int .i64 a, .int .i64 b, .int .i64 c, .int .i64 d, .int .i64 e, .int .i64 f, .int .i64 g] 3).run Try.prog w = .ok (.agg #[.int .i64 d, .int .i64 e, .int .i64 f]) w := fun _ _ _ _ _ _ _ _ => by kernel_rfl
  have p6 : ∀ (a b c d e f g : Int) w, (part 2 #[.int .i64 a, .int .i64 b, .int .i64 c, .int .i64 d, .int .i64 e, .int .i64 f, .int .i64 g] 6).run Try.prog w = .ok (.int .i64 g) w := fun _ _ _ _ _ _ _ _ => by kernel_rfl
  have e : ∀ (x y : Int) w, (Op.equalIn 9999 3 (.int .i64 x) (.int .i64 y)).run Try.prog w = .ok (x == y) w := fun x y w => run_equalIn_int w 9998 3 .i64 .i64 x y Try.underlying3
  have e6 : ∀ (x y : Int) w, (Op.equalIn 9999 2 (.int .i64 x) (.int .i64 y)).run Try.prog w = .ok (x == y) w := fun x y w => run_equalIn_int w 9998 2 .i64 .i64 x y Try.underlying2
  have e3 : ∀ (a b c a' b' c' : Int) w, (Op.equalIn 9999 55 (.agg #[.int .i64 a, .int .i64 b, .int .i64 c]) (.agg #[.int .i64 a', .int .i64 b', .int .i64 c'])).run Try.prog w = .ok (a == a' && b == b' && c == c') w := arr_eqd 9997
  have hd : decide (x = y) = (x.b == y.b && (x.c == y.c && (x.d == y.d && ((x.m0 == y.m0 && x.m1 == y.m1 && x.m2 == y.m2) && x.p == y.p)))) := by
    rw [Bool.eq_iff_iff]
    simp only [decide_eq_true_eq, W7_ext, Bool.and_eq_true, beq_iff_eq, and_assoc]
  rw [hd]
  unfold Program.fieldsOf
  rw [Try.underlying57]
  simp only [Op.eqFields, Sem.run_bind, Sem.run_ite, p0, p1, p2, p3, p6, e, e3, e6, Result.andThen_ok]
  cases (x.b == y.b) <;> cases (x.c == y.c) <;> cases (x.d == y.d) <;> cases (x.m0 == y.m0 && x.m1 == y.m1 && x.m2 == y.m2) <;> cases (x.p == y.p)
  all_goals simp [Op.eqFields, Sem.run_bind, Sem.run_ite, p0, p1, p2, p3, p6, e, e3, e6, Result.andThen_ok, go_sem]
set_option maxHeartbeats 1600000 in
theorem sameO (x y : O5) (r : Bool) (hr : decide (x = y) = r) (w : World) : (Op.equalIn 10000 65 x.val y.val).run Try.prog w = .ok r w := by
  subst hr
  unfold O5.val
  rw [show (10000 : Nat) = 9999 + 1 from rfl, run_equalIn_struct w 9999 65 _ _ (by unfold Program.fieldsOf; rw [Try.underlying65]) (by kernel_rfl)]
  have p0 : ∀ (a b c d e : Int) w, (part 3 #[.int .i64 a, .int .i64 b, .int .i64 c, .int .i64 d, .int .i64 e] 0).run Try.prog w = .ok (.int .i64 a) w := fun _ _ _ _ _ _ => by kernel_rfl
  have p1 : ∀ (a b c d e : Int) w, (part 3 #[.int .i64 a, .int .i64 b, .int .i64 c, .int .i64 d, .int .i64 e] 1).run Try.prog w = .ok (.int .i64 b) w := fun _ _ _ _ _ _ => by kernel_rfl
  have p2 : ∀ (a b c d e : Int) w, (part 3 #[.int .i64 a, .int .i64 b, .int .i64 c, .int .i64 d, .int .i64 e] 2).run Try.prog w = .ok (.int .i64 c) w := fun _ _ _ _ _ _ => by kernel_rfl
  have p3 : ∀ (a b c d e : Int) w, (part 3 #[.int .i64 a, .int .i64 b, .int .i64 c, .int .i64 d, .int .i64 e] 3).run Try.prog w = .ok (.int .i64 d) w := fun _ _ _ _ _ _ => by kernel_rfl
  have p4 : ∀ (a b c d e : Int) w, (part 2 #[.int .i64 a, .int .i64 b, .int .i64 c, .int .i64 d, .int .i64 e] 4).run Try.prog w = .ok (.int .i64 e) w := fun _ _ _ _ _ _ => by kernel_rfl
  have e : ∀ (x y : Int) w, (Op.equalIn 9999 3 (.int .i64 x) (.int .i64 y)).run Try.prog w = .ok (x == y) w := fun x y w => run_equalIn_int w 9998 3 .i64 .i64 x y Try.underlying3
  have e6 : ∀ (x y : Int) w, (Op.equalIn 9999 2 (.int .i64 x) (.int .i64 y)).run Try.prog w = .ok (x == y) w := fun x y w => run_equalIn_int w 9998 2 .i64 .i64 x y Try.underlying2
  have hd : decide (x = y) = (x.kind == y.kind && (x.book == y.book && (x.units == y.units && (x.cust == y.cust && x.amount == y.amount)))) := by
    rw [Bool.eq_iff_iff]
    simp only [decide_eq_true_eq, O5_ext, Bool.and_eq_true, beq_iff_eq, and_assoc]
  rw [hd]
  unfold Program.fieldsOf
  rw [Try.underlying65]
  simp only [Op.eqFields, Sem.run_bind, Sem.run_ite, p0, p1, p2, p3, p4, e, e6, Result.andThen_ok]
  cases (x.kind == y.kind) <;> cases (x.book == y.book) <;> cases (x.units == y.units) <;> cases (x.cust == y.cust) <;> cases (x.amount == y.amount)
  all_goals simp [Op.eqFields, Sem.run_bind, Sem.run_ite, p0, p1, p2, p3, p4, e, e6, Result.andThen_ok, go_sem]
end Go.Proofs.Ytebinhelnhnbeaa
