/- SSame, SagaA0, merged. -/
import Derived.Test.YtplgodfhhlnojaaP2
import Derived.Test.YtplgodfhhlnojaaB4
import Derived.Laws.StructEq
import Derived.Test.YtplgodfhhlnojaaS2
import Derived.Outline
set_option linter.unusedSimpArgs false
set_option linter.unusedVariables false
/- == on bookings, operations, steps and sagas (printed by gensame.py). -/
namespace Go.Proofs.Ytplgodfhhlnojaa
open Go.RowKit
theorem arr_eqd (d : Nat) (a b c a' b' c' : Int) (w : World) : (Op.equalIn (d + 2) 22 (.agg #[.int .i64 a, .int .i64 b, .int .i64 c]) (.agg #[.int .i64 a', .int .i64 b', .int .i64 c'])).run Try.prog w = .ok (a == a' && b == b' && c == c') w := by
  have hs : ∀ w, (Go.sizeOf 3).run Try.prog w = .ok 1 w := fun _ => by kernel_rfl
  have p0 : ∀ (x y z : Int) w, (part 3 #[.int .i64 x, .int .i64 y, .int .i64 z] (0 * 1)).run Try.prog w = .ok (.int .i64 x) w := fun _ _ _ _ => by kernel_rfl
  have p1 : ∀ (x y z : Int) w, (part 3 #[.int .i64 x, .int .i64 y, .int .i64 z] (1 * 1)).run Try.prog w = .ok (.int .i64 y) w := fun _ _ _ _ => by kernel_rfl
  have p2 : ∀ (x y z : Int) w, (part 3 #[.int .i64 x, .int .i64 y, .int .i64 z] (2 * 1)).run Try.prog w = .ok (.int .i64 z) w := fun _ _ _ _ => by kernel_rfl
  have e : ∀ (x y : Int) w, (Op.equalIn (d + 1) 3 (.int .i64 x) (.int .i64 y)).run Try.prog w = .ok (x == y) w := fun x y w => run_equalIn_int w d 3 .i64 .i64 x y Try.underlying3
  unfold Op.equalIn
  simp only [Sem.run_bind, run_underlying Try.underlying22, Result.andThen_ok, hs]
  cases h0 : (a == a') <;> cases h1 : (b == b') <;> cases h2 : (c == c')
  all_goals simp [Std.Legacy.Range.forIn_eq_forIn_range', List.range', p0, p1, p2, e, h0, h1, h2, go_sem]
theorem O5_ext' {x y : O5} : x = y ↔ x.kind = y.kind ∧ x.book = y.book ∧ x.units = y.units ∧ x.cust = y.cust ∧ x.amount = y.amount := by
  cases x; cases y; simp
instance : DecidableEq W7 := fun _ _ => decidable_of_iff _ W7_ext'.symm
instance : DecidableEq O5 := fun _ _ => decidable_of_iff _ O5_ext'.symm
set_option maxHeartbeats 4000000 in
theorem sameW9 (x y : W7) (r : Bool) (hr : decide (x = y) = r) (w : World) : (Op.equalIn 9999 24 (.agg #[.int .i64 x.b, .int .i64 x.c, .int .i64 x.d, .int .i64 x.m0, .int .i64 x.m1, .int .i64 x.m2, .int .i64 x.p]) (.agg #[.int .i64 y.b, .int .i64 y.c, .int .i64 y.d, .int .i64 y.m0, .int .i64 y.m1, .int .i64 y.m2, .int .i64 y.p])).run Try.prog w = .ok r w := by
  subst hr
  rw [show (9999 : Nat) = 9998 + 1 from rfl, run_equalIn_struct w 9998 24 _ _ (by unfold Program.fieldsOf; rw [Try.underlying24]) (by kernel_rfl)]
  have p0 : ∀ (a b c d e f g : Int) w, (part 3 #[.int .i64 a, .int .i64 b, .int .i64 c, .int .i64 d, .int .i64 e, .int .i64 f, .int .i64 g] 0).run Try.prog w = .ok (.int .i64 a) w := fun _ _ _ _ _ _ _ _ => by kernel_rfl
  have p1 : ∀ (a b c d e f g : Int) w, (part 3 #[.int .i64 a, .int .i64 b, .int .i64 c, .int .i64 d, .int .i64 e, .int .i64 f, .int .i64 g] 1).run Try.prog w = .ok (.int .i64 b) w := fun _ _ _ _ _ _ _ _ => by kernel_rfl
  have p2 : ∀ (a b c d e f g : Int) w, (part 3 #[.int .i64 a, .int .i64 b, .int .i64 c, .int .i64 d, .int .i64 e, .int .i64 f, .int .i64 g] 2).run Try.prog w = .ok (.int .i64 c) w := fun _ _ _ _ _ _ _ _ => by kernel_rfl
  have p3 : ∀ (a b c d e f g : Int) w, (part 22 #[.int .i64 a, .int .i64 b, .int .i64 c, .int .i64 d, .int .i64 e, .int .i64 f, .int .i64 g] 3).run Try.prog w = .ok (.agg #[.int .i64 d, .int .i64 e, .int .i64 f]) w := fun _ _ _ _ _ _ _ _ => by kernel_rfl
  have p6 : ∀ (a b c d e f g : Int) w, (part 2 #[.int .i64 a, .int .i64 b, .int .i64 c, .int .i64 d, .int .i64 e, .int .i64 f, .int .i64 g] 6).run Try.prog w = .ok (.int .i64 g) w := fun _ _ _ _ _ _ _ _ => by kernel_rfl
  have e : ∀ (x y : Int) w, (Op.equalIn 9998 3 (.int .i64 x) (.int .i64 y)).run Try.prog w = .ok (x == y) w := fun x y w => run_equalIn_int w 9997 3 .i64 .i64 x y Try.underlying3
  have e6 : ∀ (x y : Int) w, (Op.equalIn 9998 2 (.int .i64 x) (.int .i64 y)).run Try.prog w = .ok (x == y) w := fun x y w => run_equalIn_int w 9997 2 .i64 .i64 x y Try.underlying2
  have e3 : ∀ (a b c a' b' c' : Int) w, (Op.equalIn 9998 22 (.agg #[.int .i64 a, .int .i64 b, .int .i64 c]) (.agg #[.int .i64 a', .int .i64 b', .int .i64 c'])).run Try.prog w = .ok (a == a' && b == b' && c == c') w := arr_eqd 9996
  have hd : decide (x = y) = (x.b == y.b && (x.c == y.c && (x.d == y.d && ((x.m0 == y.m0 && x.m1 == y.m1 && x.m2 == y.m2) && x.p == y.p)))) := by
    rw [Bool.eq_iff_iff]
    simp only [decide_eq_true_eq, W7_ext', Bool.and_eq_true, beq_iff_eq, and_assoc]
  rw [hd]
  unfold Program.fieldsOf
  rw [Try.underlying24]
  simp only [Op.eqFields, Sem.run_bind, Sem.run_ite, p0, p1, p2, p3, p6, e, e6, e3, Result.andThen_ok]
  cases (x.b == y.b) <;> cases (x.c == y.c) <;> cases (x.d == y.d) <;> cases (x.m0 == y.m0 && x.m1 == y.m1 && x.m2 == y.m2) <;> cases (x.p == y.p)
  all_goals simp [Op.eqFields, Sem.run_bind, Sem.run_ite, p0, p1, p2, p3, p6, e, e6, e3, Result.andThen_ok, go_sem]
set_option maxHeartbeats 4000000 in
theorem sameW (x y : W7) (r : Bool) (hr : decide (x = y) = r) (w : World) : (Op.equalIn 10000 24 (.agg #[.int .i64 x.b, .int .i64 x.c, .int .i64 x.d, .int .i64 x.m0, .int .i64 x.m1, .int .i64 x.m2, .int .i64 x.p]) (.agg #[.int .i64 y.b, .int .i64 y.c, .int .i64 y.d, .int .i64 y.m0, .int .i64 y.m1, .int .i64 y.m2, .int .i64 y.p])).run Try.prog w = .ok r w := by
  subst hr
  rw [show (10000 : Nat) = 9999 + 1 from rfl, run_equalIn_struct w 9999 24 _ _ (by unfold Program.fieldsOf; rw [Try.underlying24]) (by kernel_rfl)]
  have p0 : ∀ (a b c d e f g : Int) w, (part 3 #[.int .i64 a, .int .i64 b, .int .i64 c, .int .i64 d, .int .i64 e, .int .i64 f, .int .i64 g] 0).run Try.prog w = .ok (.int .i64 a) w := fun _ _ _ _ _ _ _ _ => by kernel_rfl
  have p1 : ∀ (a b c d e f g : Int) w, (part 3 #[.int .i64 a, .int .i64 b, .int .i64 c, .int .i64 d, .int .i64 e, .int .i64 f, .int .i64 g] 1).run Try.prog w = .ok (.int .i64 b) w := fun _ _ _ _ _ _ _ _ => by kernel_rfl
  have p2 : ∀ (a b c d e f g : Int) w, (part 3 #[.int .i64 a, .int .i64 b, .int .i64 c, .int .i64 d, .int .i64 e, .int .i64 f, .int .i64 g] 2).run Try.prog w = .ok (.int .i64 c) w := fun _ _ _ _ _ _ _ _ => by kernel_rfl
  have p3 : ∀ (a b c d e f g : Int) w, (part 22 #[.int .i64 a, .int .i64 b, .int .i64 c, .int .i64 d, .int .i64 e, .int .i64 f, .int .i64 g] 3).run Try.prog w = .ok (.agg #[.int .i64 d, .int .i64 e, .int .i64 f]) w := fun _ _ _ _ _ _ _ _ => by kernel_rfl
  have p6 : ∀ (a b c d e f g : Int) w, (part 2 #[.int .i64 a, .int .i64 b, .int .i64 c, .int .i64 d, .int .i64 e, .int .i64 f, .int .i64 g] 6).run Try.prog w = .ok (.int .i64 g) w := fun _ _ _ _ _ _ _ _ => by kernel_rfl
  have e : ∀ (x y : Int) w, (Op.equalIn 9999 3 (.int .i64 x) (.int .i64 y)).run Try.prog w = .ok (x == y) w := fun x y w => run_equalIn_int w 9998 3 .i64 .i64 x y Try.underlying3
  have e6 : ∀ (x y : Int) w, (Op.equalIn 9999 2 (.int .i64 x) (.int .i64 y)).run Try.prog w = .ok (x == y) w := fun x y w => run_equalIn_int w 9998 2 .i64 .i64 x y Try.underlying2
  have e3 : ∀ (a b c a' b' c' : Int) w, (Op.equalIn 9999 22 (.agg #[.int .i64 a, .int .i64 b, .int .i64 c]) (.agg #[.int .i64 a', .int .i64 b', .int .i64 c'])).run Try.prog w = .ok (a == a' && b == b' && c == c') w := arr_eqd 9997
  have hd : decide (x = y) = (x.b == y.b && (x.c == y.c && (x.d == y.d && ((x.m0 == y.m0 && x.m1 == y.m1 && x.m2 == y.m2) && x.p == y.p)))) := by
    rw [Bool.eq_iff_iff]
    simp only [decide_eq_true_eq, W7_ext', Bool.and_eq_true, beq_iff_eq, and_assoc]
  rw [hd]
  unfold Program.fieldsOf
  rw [Try.underlying24]
  simp only [Op.eqFields, Sem.run_bind, Sem.run_ite, p0, p1, p2, p3, p6, e, e6, e3, Result.andThen_ok]
  cases (x.b == y.b) <;> cases (x.c == y.c) <;> cases (x.d == y.d) <;> cases (x.m0 == y.m0 && x.m1 == y.m1 && x.m2 == y.m2) <;> cases (x.p == y.p)
  all_goals simp [Op.eqFields, Sem.run_bind, Sem.run_ite, p0, p1, p2, p3, p6, e, e6, e3, Result.andThen_ok, go_sem]
set_option maxHeartbeats 4000000 in
theorem sameO9 (x y : O5) (r : Bool) (hr : decide (x = y) = r) (w : World) : (Op.equalIn 9999 28 (.agg #[.int .i64 x.kind, .int .i64 x.book, .int .i64 x.units, .int .i64 x.cust, .int .i64 x.amount]) (.agg #[.int .i64 y.kind, .int .i64 y.book, .int .i64 y.units, .int .i64 y.cust, .int .i64 y.amount])).run Try.prog w = .ok r w := by
  subst hr
  rw [show (9999 : Nat) = 9998 + 1 from rfl, run_equalIn_struct w 9998 28 _ _ (by unfold Program.fieldsOf; rw [Try.underlying28]) (by kernel_rfl)]
  have p0 : ∀ (a b c d e : Int) w, (part 3 #[.int .i64 a, .int .i64 b, .int .i64 c, .int .i64 d, .int .i64 e] 0).run Try.prog w = .ok (.int .i64 a) w := fun _ _ _ _ _ _ => by kernel_rfl
  have p1 : ∀ (a b c d e : Int) w, (part 3 #[.int .i64 a, .int .i64 b, .int .i64 c, .int .i64 d, .int .i64 e] 1).run Try.prog w = .ok (.int .i64 b) w := fun _ _ _ _ _ _ => by kernel_rfl
  have p2 : ∀ (a b c d e : Int) w, (part 3 #[.int .i64 a, .int .i64 b, .int .i64 c, .int .i64 d, .int .i64 e] 2).run Try.prog w = .ok (.int .i64 c) w := fun _ _ _ _ _ _ => by kernel_rfl
  have p3 : ∀ (a b c d e : Int) w, (part 3 #[.int .i64 a, .int .i64 b, .int .i64 c, .int .i64 d, .int .i64 e] 3).run Try.prog w = .ok (.int .i64 d) w := fun _ _ _ _ _ _ => by kernel_rfl
  have p4 : ∀ (a b c d e : Int) w, (part 2 #[.int .i64 a, .int .i64 b, .int .i64 c, .int .i64 d, .int .i64 e] 4).run Try.prog w = .ok (.int .i64 e) w := fun _ _ _ _ _ _ => by kernel_rfl
  have e : ∀ (x y : Int) w, (Op.equalIn 9998 3 (.int .i64 x) (.int .i64 y)).run Try.prog w = .ok (x == y) w := fun x y w => run_equalIn_int w 9997 3 .i64 .i64 x y Try.underlying3
  have e6 : ∀ (x y : Int) w, (Op.equalIn 9998 2 (.int .i64 x) (.int .i64 y)).run Try.prog w = .ok (x == y) w := fun x y w => run_equalIn_int w 9997 2 .i64 .i64 x y Try.underlying2
  have hd : decide (x = y) = (x.kind == y.kind && (x.book == y.book && (x.units == y.units && (x.cust == y.cust && x.amount == y.amount)))) := by
    rw [Bool.eq_iff_iff]
    simp only [decide_eq_true_eq, O5_ext', Bool.and_eq_true, beq_iff_eq, and_assoc]
  rw [hd]
  unfold Program.fieldsOf
  rw [Try.underlying28]
  simp only [Op.eqFields, Sem.run_bind, Sem.run_ite, p0, p1, p2, p3, p4, e, e6, Result.andThen_ok]
  cases (x.kind == y.kind) <;> cases (x.book == y.book) <;> cases (x.units == y.units) <;> cases (x.cust == y.cust) <;> cases (x.amount == y.amount)
  all_goals simp [Op.eqFields, Sem.run_bind, Sem.run_ite, p0, p1, p2, p3, p4, e, e6, Result.andThen_ok, go_sem]
set_option maxHeartbeats 4000000 in
theorem sameO (x y : O5) (r : Bool) (hr : decide (x = y) = r) (w : World) : (Op.equalIn 10000 28 (.agg #[.int .i64 x.kind, .int .i64 x.book, .int .i64 x.units, .int .i64 x.cust, .int .i64 x.amount]) (.agg #[.int .i64 y.kind, .int .i64 y.book, .int .i64 y.units, .int .i64 y.cust, .int .i64 y.amount])).run Try.prog w = .ok r w := by
  subst hr
  rw [show (10000 : Nat) = 9999 + 1 from rfl, run_equalIn_struct w 9999 28 _ _ (by unfold Program.fieldsOf; rw [Try.underlying28]) (by kernel_rfl)]
  have p0 : ∀ (a b c d e : Int) w, (part 3 #[.int .i64 a, .int .i64 b, .int .i64 c, .int .i64 d, .int .i64 e] 0).run Try.prog w = .ok (.int .i64 a) w := fun _ _ _ _ _ _ => by kernel_rfl
  have p1 : ∀ (a b c d e : Int) w, (part 3 #[.int .i64 a, .int .i64 b, .int .i64 c, .int .i64 d, .int .i64 e] 1).run Try.prog w = .ok (.int .i64 b) w := fun _ _ _ _ _ _ => by kernel_rfl
  have p2 : ∀ (a b c d e : Int) w, (part 3 #[.int .i64 a, .int .i64 b, .int .i64 c, .int .i64 d, .int .i64 e] 2).run Try.prog w = .ok (.int .i64 c) w := fun _ _ _ _ _ _ => by kernel_rfl
  have p3 : ∀ (a b c d e : Int) w, (part 3 #[.int .i64 a, .int .i64 b, .int .i64 c, .int .i64 d, .int .i64 e] 3).run Try.prog w = .ok (.int .i64 d) w := fun _ _ _ _ _ _ => by kernel_rfl
  have p4 : ∀ (a b c d e : Int) w, (part 2 #[.int .i64 a, .int .i64 b, .int .i64 c, .int .i64 d, .int .i64 e] 4).run Try.prog w = .ok (.int .i64 e) w := fun _ _ _ _ _ _ => by kernel_rfl
  have e : ∀ (x y : Int) w, (Op.equalIn 9999 3 (.int .i64 x) (.int .i64 y)).run Try.prog w = .ok (x == y) w := fun x y w => run_equalIn_int w 9998 3 .i64 .i64 x y Try.underlying3
  have e6 : ∀ (x y : Int) w, (Op.equalIn 9999 2 (.int .i64 x) (.int .i64 y)).run Try.prog w = .ok (x == y) w := fun x y w => run_equalIn_int w 9998 2 .i64 .i64 x y Try.underlying2
  have hd : decide (x = y) = (x.kind == y.kind && (x.book == y.book && (x.units == y.units && (x.cust == y.cust && x.amount == y.amount)))) := by
    rw [Bool.eq_iff_iff]
    simp only [decide_eq_true_eq, O5_ext', Bool.and_eq_true, beq_iff_eq, and_assoc]
  rw [hd]
  unfold Program.fieldsOf
  rw [Try.underlying28]
  simp only [Op.eqFields, Sem.run_bind, Sem.run_ite, p0, p1, p2, p3, p4, e, e6, Result.andThen_ok]
  cases (x.kind == y.kind) <;> cases (x.book == y.book) <;> cases (x.units == y.units) <;> cases (x.cust == y.cust) <;> cases (x.amount == y.amount)
  all_goals simp [Op.eqFields, Sem.run_bind, Sem.run_ite, p0, p1, p2, p3, p4, e, e6, Result.andThen_ok, go_sem]
set_option maxHeartbeats 4000000 in
theorem sameA (x y : A6) (r : Bool) (hr : decide (x = y) = r) (w : World) : (Op.equalIn 10000 30 (.agg #[.int .i64 x.node, .int .i64 x.kind, .int .i64 x.book, .int .i64 x.units, .int .i64 x.cust, .int .i64 x.amount]) (.agg #[.int .i64 y.node, .int .i64 y.kind, .int .i64 y.book, .int .i64 y.units, .int .i64 y.cust, .int .i64 y.amount])).run Try.prog w = .ok r w := by
  subst hr
  rw [show (10000 : Nat) = 9999 + 1 from rfl, run_equalIn_struct w 9999 30 _ _ (by unfold Program.fieldsOf; rw [Try.underlying30]) (by kernel_rfl)]
  have p0 : ∀ (a b c d e f : Int) w, (part 3 #[.int .i64 a, .int .i64 b, .int .i64 c, .int .i64 d, .int .i64 e, .int .i64 f] 0).run Try.prog w = .ok (.int .i64 a) w := fun _ _ _ _ _ _ _ => by kernel_rfl
  have p1 : ∀ (a b c d e f : Int) w, (part 28 #[.int .i64 a, .int .i64 b, .int .i64 c, .int .i64 d, .int .i64 e, .int .i64 f] 1).run Try.prog w = .ok (.agg #[.int .i64 b, .int .i64 c, .int .i64 d, .int .i64 e, .int .i64 f]) w := fun _ _ _ _ _ _ _ => by kernel_rfl
  have e : ∀ (x y : Int) w, (Op.equalIn 9999 3 (.int .i64 x) (.int .i64 y)).run Try.prog w = .ok (x == y) w := fun x y w => run_equalIn_int w 9998 3 .i64 .i64 x y Try.underlying3
  have e1 : ∀ (a b c d f a' b' c' d' f' : Int) w, (Op.equalIn 9999 28 (.agg #[.int .i64 a, .int .i64 b, .int .i64 c, .int .i64 d, .int .i64 f]) (.agg #[.int .i64 a', .int .i64 b', .int .i64 c', .int .i64 d', .int .i64 f'])).run Try.prog w = .ok (decide ((⟨a, b, c, d, f⟩ : O5) = ⟨a', b', c', d', f'⟩)) w := fun a b c d f a' b' c' d' f' w => sameO9 ⟨a, b, c, d, f⟩ ⟨a', b', c', d', f'⟩ _ rfl w
  have hd : decide (x = y) = (x.node == y.node && decide ((⟨x.kind, x.book, x.units, x.cust, x.amount⟩ : O5) = ⟨y.kind, y.book, y.units, y.cust, y.amount⟩)) := by
    rw [Bool.eq_iff_iff]
    simp only [decide_eq_true_eq, A6_ext, O5.mk.injEq, Bool.and_eq_true, beq_iff_eq, and_assoc]
  rw [hd]
  unfold Program.fieldsOf
  rw [Try.underlying30]
  simp only [Op.eqFields, Sem.run_bind, Sem.run_ite, p0, p1, e, e1, Result.andThen_ok]
  cases (x.node == y.node) <;> cases (decide ((⟨x.kind, x.book, x.units, x.cust, x.amount⟩ : O5) = ⟨y.kind, y.book, y.units, y.cust, y.amount⟩))
  all_goals simp [Op.eqFields, Sem.run_bind, Sem.run_ite, p0, p1, e, e1, Result.andThen_ok, go_sem]
set_option maxHeartbeats 4000000 in
theorem sameR (x y : A6) (r : Bool) (hr : decide (x = y) = r) (w : World) : (Op.equalIn 10000 33 (.agg #[.int .i64 x.node, .int .i64 x.kind, .int .i64 x.book, .int .i64 x.units, .int .i64 x.cust, .int .i64 x.amount]) (.agg #[.int .i64 y.node, .int .i64 y.kind, .int .i64 y.book, .int .i64 y.units, .int .i64 y.cust, .int .i64 y.amount])).run Try.prog w = .ok r w := by
  subst hr
  rw [show (10000 : Nat) = 9999 + 1 from rfl, run_equalIn_struct w 9999 33 _ _ (by unfold Program.fieldsOf; rw [Try.underlying33]) (by kernel_rfl)]
  have p0 : ∀ (a b c d e f : Int) w, (part 3 #[.int .i64 a, .int .i64 b, .int .i64 c, .int .i64 d, .int .i64 e, .int .i64 f] 0).run Try.prog w = .ok (.int .i64 a) w := fun _ _ _ _ _ _ _ => by kernel_rfl
  have p1 : ∀ (a b c d e f : Int) w, (part 28 #[.int .i64 a, .int .i64 b, .int .i64 c, .int .i64 d, .int .i64 e, .int .i64 f] 1).run Try.prog w = .ok (.agg #[.int .i64 b, .int .i64 c, .int .i64 d, .int .i64 e, .int .i64 f]) w := fun _ _ _ _ _ _ _ => by kernel_rfl
  have e : ∀ (x y : Int) w, (Op.equalIn 9999 3 (.int .i64 x) (.int .i64 y)).run Try.prog w = .ok (x == y) w := fun x y w => run_equalIn_int w 9998 3 .i64 .i64 x y Try.underlying3
  have e1 : ∀ (a b c d f a' b' c' d' f' : Int) w, (Op.equalIn 9999 28 (.agg #[.int .i64 a, .int .i64 b, .int .i64 c, .int .i64 d, .int .i64 f]) (.agg #[.int .i64 a', .int .i64 b', .int .i64 c', .int .i64 d', .int .i64 f'])).run Try.prog w = .ok (decide ((⟨a, b, c, d, f⟩ : O5) = ⟨a', b', c', d', f'⟩)) w := fun a b c d f a' b' c' d' f' w => sameO9 ⟨a, b, c, d, f⟩ ⟨a', b', c', d', f'⟩ _ rfl w
  have hd : decide (x = y) = (x.node == y.node && decide ((⟨x.kind, x.book, x.units, x.cust, x.amount⟩ : O5) = ⟨y.kind, y.book, y.units, y.cust, y.amount⟩)) := by
    rw [Bool.eq_iff_iff]
    simp only [decide_eq_true_eq, A6_ext, O5.mk.injEq, Bool.and_eq_true, beq_iff_eq, and_assoc]
  rw [hd]
  unfold Program.fieldsOf
  rw [Try.underlying33]
  simp only [Op.eqFields, Sem.run_bind, Sem.run_ite, p0, p1, e, e1, Result.andThen_ok]
  cases (x.node == y.node) <;> cases (decide ((⟨x.kind, x.book, x.units, x.cust, x.amount⟩ : O5) = ⟨y.kind, y.book, y.units, y.cust, y.amount⟩))
  all_goals simp [Op.eqFields, Sem.run_bind, Sem.run_ite, p0, p1, e, e1, Result.andThen_ok, go_sem]
set_option maxHeartbeats 4000000 in
theorem sameS (x y : S11) (r : Bool) (hr : decide (x = y) = r) (w : World) : (Op.equalIn 10000 26 (.agg #[.int .i64 x.w.b, .int .i64 x.w.c, .int .i64 x.w.d, .int .i64 x.w.m0, .int .i64 x.w.m1, .int .i64 x.w.m2, .int .i64 x.w.p, .int .i64 x.ph, .int .i64 x.st, .int .i64 x.re, .int .i64 x.si]) (.agg #[.int .i64 y.w.b, .int .i64 y.w.c, .int .i64 y.w.d, .int .i64 y.w.m0, .int .i64 y.w.m1, .int .i64 y.w.m2, .int .i64 y.w.p, .int .i64 y.ph, .int .i64 y.st, .int .i64 y.re, .int .i64 y.si])).run Try.prog w = .ok r w := by
  subst hr
  rw [show (10000 : Nat) = 9999 + 1 from rfl, run_equalIn_struct w 9999 26 _ _ (by unfold Program.fieldsOf; rw [Try.underlying26]) (by kernel_rfl)]
  have p0 : ∀ (a b c d e f g h i j k : Int) w, (part 24 #[.int .i64 a, .int .i64 b, .int .i64 c, .int .i64 d, .int .i64 e, .int .i64 f, .int .i64 g, .int .i64 h, .int .i64 i, .int .i64 j, .int .i64 k] 0).run Try.prog w = .ok (.agg #[.int .i64 a, .int .i64 b, .int .i64 c, .int .i64 d, .int .i64 e, .int .i64 f, .int .i64 g]) w := fun _ _ _ _ _ _ _ _ _ _ _ _ => by kernel_rfl
  have p7 : ∀ (a b c d e f g h i j k : Int) w, (part 3 #[.int .i64 a, .int .i64 b, .int .i64 c, .int .i64 d, .int .i64 e, .int .i64 f, .int .i64 g, .int .i64 h, .int .i64 i, .int .i64 j, .int .i64 k] 7).run Try.prog w = .ok (.int .i64 h) w := fun _ _ _ _ _ _ _ _ _ _ _ _ => by kernel_rfl
  have p8 : ∀ (a b c d e f g h i j k : Int) w, (part 3 #[.int .i64 a, .int .i64 b, .int .i64 c, .int .i64 d, .int .i64 e, .int .i64 f, .int .i64 g, .int .i64 h, .int .i64 i, .int .i64 j, .int .i64 k] 8).run Try.prog w = .ok (.int .i64 i) w := fun _ _ _ _ _ _ _ _ _ _ _ _ => by kernel_rfl
  have p9 : ∀ (a b c d e f g h i j k : Int) w, (part 3 #[.int .i64 a, .int .i64 b, .int .i64 c, .int .i64 d, .int .i64 e, .int .i64 f, .int .i64 g, .int .i64 h, .int .i64 i, .int .i64 j, .int .i64 k] 9).run Try.prog w = .ok (.int .i64 j) w := fun _ _ _ _ _ _ _ _ _ _ _ _ => by kernel_rfl
  have p10 : ∀ (a b c d e f g h i j k : Int) w, (part 3 #[.int .i64 a, .int .i64 b, .int .i64 c, .int .i64 d, .int .i64 e, .int .i64 f, .int .i64 g, .int .i64 h, .int .i64 i, .int .i64 j, .int .i64 k] 10).run Try.prog w = .ok (.int .i64 k) w := fun _ _ _ _ _ _ _ _ _ _ _ _ => by kernel_rfl
  have e : ∀ (x y : Int) w, (Op.equalIn 9999 3 (.int .i64 x) (.int .i64 y)).run Try.prog w = .ok (x == y) w := fun x y w => run_equalIn_int w 9998 3 .i64 .i64 x y Try.underlying3
  have e1 : ∀ (a b c d e f g a' b' c' d' e' f' g' : Int) w, (Op.equalIn 9999 24 (.agg #[.int .i64 a, .int .i64 b, .int .i64 c, .int .i64 d, .int .i64 e, .int .i64 f, .int .i64 g]) (.agg #[.int .i64 a', .int .i64 b', .int .i64 c', .int .i64 d', .int .i64 e', .int .i64 f', .int .i64 g'])).run Try.prog w = .ok (decide ((⟨a, b, c, d, e, f, g⟩ : W7) = ⟨a', b', c', d', e', f', g'⟩)) w := fun a b c d e f g a' b' c' d' e' f' g' w => sameW9 ⟨a, b, c, d, e, f, g⟩ ⟨a', b', c', d', e', f', g'⟩ _ rfl w
  have hd : decide (x = y) = (decide ((⟨x.w.b, x.w.c, x.w.d, x.w.m0, x.w.m1, x.w.m2, x.w.p⟩ : W7) = ⟨y.w.b, y.w.c, y.w.d, y.w.m0, y.w.m1, y.w.m2, y.w.p⟩) && (x.ph == y.ph && (x.st == y.st && (x.re == y.re && x.si == y.si)))) := by
    rw [Bool.eq_iff_iff]
    simp only [decide_eq_true_eq, S11_ext, W7.mk.injEq, Bool.and_eq_true, beq_iff_eq, and_assoc]
  rw [hd]
  unfold Program.fieldsOf
  rw [Try.underlying26]
  simp only [Op.eqFields, Sem.run_bind, Sem.run_ite, p0, p7, p8, p9, p10, e, e1, Result.andThen_ok]
  cases (decide ((⟨x.w.b, x.w.c, x.w.d, x.w.m0, x.w.m1, x.w.m2, x.w.p⟩ : W7) = ⟨y.w.b, y.w.c, y.w.d, y.w.m0, y.w.m1, y.w.m2, y.w.p⟩)) <;> cases (x.ph == y.ph) <;> cases (x.st == y.st) <;> cases (x.re == y.re) <;> cases (x.si == y.si)
  all_goals simp [Op.eqFields, Sem.run_bind, Sem.run_ite, p0, p7, p8, p9, p10, e, e1, Result.andThen_ok, go_sem]
end Go.Proofs.Ytplgodfhhlnojaa

/- saga.Answer, walked (printed by gensagan.py). -/
namespace Go.Proofs.Ytplgodfhhlnojaa
open Go.RowKit
theorem acell (w : World) (o : Obj) (b k : Nat) (hb : b < w.heap.size) : (w.alloc o).cell? ⟨b, k, none⟩ = w.cell? ⟨b, k, none⟩ := by
  have e : (w.alloc o).heap[b]? = w.heap[b]? := Below.heap_alloc w o b hb
  unfold World.cell?
  rw [e]
theorem three_boxes (w : World) (a b c : Obj) : (((w.alloc a).alloc b).alloc c).heap[w.heap.size]? = some a ∧ (((w.alloc a).alloc b).alloc c).heap[w.heap.size + 1]? = some b ∧
    (((w.alloc a).alloc b).alloc c).heap[w.heap.size + 1 + 1]? = some c ∧ Below w.heap.size w (((w.alloc a).alloc b).alloc c) := by
  refine ⟨?_, ?_, ?_, ?_⟩
  · exact (Below.heap_alloc _ _ _ (by simp; omega)).trans ((Below.heap_alloc _ _ _ (by simp)).trans (heap_alloc_new w a))
  · exact (Below.heap_alloc _ _ _ (by simp)).trans (by have h := heap_alloc_new (w.alloc a) b; simpa using h)
  · have h := heap_alloc_new ((w.alloc a).alloc b) c
    have e : ((w.alloc a).alloc b).heap.size = w.heap.size + 1 + 1 := by simp
    rw [e] at h
    exact h
  · exact (((Below.refl _ _).alloc (Nat.le_refl _) _).alloc (by simp) _).alloc (by simp; omega) _
theorem stepsL_len (s : S11) : (stepsL s).length ≤ 9 := by
  unfold stepsL
  split
  · unfold forwardL; rw [List.length_append, List.length_append]; have := partsE_len s.w 1; have := partsE_len s.w 2; have := purseL_len s.w 4; omega
  · split
    · simp
    · split
      · unfold backL; rw [List.length_append, List.length_reverse]; have := partsE_len s.w 3; have := purseL_len s.w 6; omega
      · simp
theorem stepsL_none (s : S11) (h1 : s.ph ≠ 1) (h2 : s.ph ≠ 2) (h3 : s.ph ≠ 3) : stepsL s = [] := by simp [stepsL, h1, h2, h3]
theorem stepsL_same (x : W7) (ph a b c a' b' c' : Int) : stepsL ⟨x, ph, a, b, c⟩ = stepsL ⟨x, ph, a', b', c'⟩ := rfl
theorem next_true (s : S11) (h : (nextS s).2 = true) : MayS s ∧ (s.ph = 1 ∨ s.ph = 2 ∨ s.ph = 3) ∧ 0 ≤ s.st ∧ s.st < (stepsL s).length ∧ (stepsL s).length ≤ 9 := by
  unfold nextS at h
  split at h
  · rename_i g
    refine ⟨g.1, ?_, g.1.2.2.1.1, ?_, stepsL_len s⟩
    · by_cases h1 : s.ph = 1
      · exact .inl h1
      by_cases h2 : s.ph = 2
      · exact .inr (.inl h2)
      by_cases h3 : s.ph = 3
      · exact .inr (.inr h3)
      · rw [stepsL_none s h1 h2 h3] at g; exact absurd g.2 (by simp)
    · have := g.1.2.2.1.2; have := g.2; omega
  · cases h
theorem cells11 {w : World} {B : Nat} {b c d m0 m1 m2 p ph st re si : Int} (h : w.heap[B]? = some (.cells #[.int .i64 b, .int .i64 c, .int .i64 d, .int .i64 m0, .int .i64 m1, .int .i64 m2, .int .i64 p, .int .i64 ph, .int .i64 st, .int .i64 re, .int .i64 si] 26 (0, 0))) : w.cell? ⟨B, 0, none⟩ = some (.int .i64 b) ∧ w.cell? ⟨B, 1, none⟩ = some (.int .i64 c) ∧ w.cell? ⟨B, 2, none⟩ = some (.int .i64 d) ∧ w.cell? ⟨B, 3, none⟩ = some (.int .i64 m0) ∧ w.cell? ⟨B, 4, none⟩ = some (.int .i64 m1) ∧ w.cell? ⟨B, 5, none⟩ = some (.int .i64 m2) ∧ w.cell? ⟨B, 6, none⟩ = some (.int .i64 p) ∧ w.cell? ⟨B, 7, none⟩ = some (.int .i64 ph) ∧ w.cell? ⟨B, 8, none⟩ = some (.int .i64 st) ∧ w.cell? ⟨B, 9, none⟩ = some (.int .i64 re) ∧ w.cell? ⟨B, 10, none⟩ = some (.int .i64 si) :=
  ⟨(cellsB (i := 0) h).trans rfl, (cellsB (i := 1) h).trans rfl, (cellsB (i := 2) h).trans rfl, (cellsB (i := 3) h).trans rfl, (cellsB (i := 4) h).trans rfl, (cellsB (i := 5) h).trans rfl, (cellsB (i := 6) h).trans rfl, (cellsB (i := 7) h).trans rfl, (cellsB (i := 8) h).trans rfl, (cellsB (i := 9) h).trans rfl, (cellsB (i := 10) h).trans rfl⟩
end Go.Proofs.Ytplgodfhhlnojaa
