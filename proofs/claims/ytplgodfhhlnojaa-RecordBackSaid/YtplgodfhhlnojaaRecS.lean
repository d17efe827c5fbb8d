/- == of records (printed by genrecmay.py). -/
import Derived.Test.YtplgodfhhlnojaaRec0
import Derived.Test.YtplgodfhhlnojaaS4
set_option linter.unusedSimpArgs false
set_option linter.unusedVariables false
namespace Go.Proofs.Ytplgodfhhlnojaa
open Go.RowKit
set_option maxHeartbeats 4000000 in
theorem sameW8 (x y : W7) (r : Bool) (hr : decide (x = y) = r) (w : World) : (Op.equalIn 9998 24 (.agg #[.int .i64 x.b, .int .i64 x.c, .int .i64 x.d, .int .i64 x.m0, .int .i64 x.m1, .int .i64 x.m2, .int .i64 x.p]) (.agg #[.int .i64 y.b, .int .i64 y.c, .int .i64 y.d, .int .i64 y.m0, .int .i64 y.m1, .int .i64 y.m2, .int .i64 y.p])).run Try.prog w = .ok r w := by
  subst hr
  rw [show (9998 : Nat) = 9997 + 1 from rfl, run_equalIn_struct w 9997 24 _ _ (by unfold Program.fieldsOf; rw [Try.underlying24]) (by kernel_rfl)]
  have p0 : ∀ (a b c d e f g : Int) w, (part 3 #[.int .i64 a, .int .i64 b, .int .i64 c, .int .i64 d, .int .i64 e, .int .i64 f, .int .i64 g] 0).run Try.prog w = .ok (.int .i64 a) w := fun _ _ _ _ _ _ _ _ => by kernel_rfl
  have p1 : ∀ (a b c d e f g : Int) w, (part 3 #[.int .i64 a, .int .i64 b, .int .i64 c, .int .i64 d, .int .i64 e, .int .i64 f, .int .i64 g] 1).run Try.prog w = .ok (.int .i64 b) w := fun _ _ _ _ _ _ _ _ => by kernel_rfl
  have p2 : ∀ (a b c d e f g : Int) w, (part 3 #[.int .i64 a, .int .i64 b, .int .i64 c, .int .i64 d, .int .i64 e, .int .i64 f, .int .i64 g] 2).run Try.prog w = .ok (.int .i64 c) w := fun _ _ _ _ _ _ _ _ => by kernel_rfl
  have p3 : ∀ (a b c d e f g : Int) w, (part 22 #[.int .i64 a, .int .i64 b, .int .i64 c, .int .i64 d, .int .i64 e, .int .i64 f, .int .i64 g] 3).run Try.prog w = .ok (.agg #[.int .i64 d, .int .i64 e, .int .i64 f]) w := fun _ _ _ _ _ _ _ _ => by kernel_rfl
  have p6 : ∀ (a b c d e f g : Int) w, (part 2 #[.int .i64 a, .int .i64 b, .int .i64 c, .int .i64 d, .int .i64 e, .int .i64 f, .int .i64 g] 6).run Try.prog w = .ok (.int .i64 g) w := fun _ _ _ _ _ _ _ _ => by kernel_rfl
  have e : ∀ (x y : Int) w, (Op.equalIn 9997 3 (.int .i64 x) (.int .i64 y)).run Try.prog w = .ok (x == y) w := fun x y w => run_equalIn_int w 9996 3 .i64 .i64 x y Try.underlying3
  have e6 : ∀ (x y : Int) w, (Op.equalIn 9997 2 (.int .i64 x) (.int .i64 y)).run Try.prog w = .ok (x == y) w := fun x y w => run_equalIn_int w 9996 2 .i64 .i64 x y Try.underlying2
  have e3 : ∀ (a b c a' b' c' : Int) w, (Op.equalIn 9997 22 (.agg #[.int .i64 a, .int .i64 b, .int .i64 c]) (.agg #[.int .i64 a', .int .i64 b', .int .i64 c'])).run Try.prog w = .ok (a == a' && b == b' && c == c') w := arr_eqd 9995
  have hd : decide (x = y) = (x.b == y.b && (x.c == y.c && (x.d == y.d && ((x.m0 == y.m0 && x.m1 == y.m1 && x.m2 == y.m2) && x.p == y.p)))) := by
    rw [Bool.eq_iff_iff]
    simp only [decide_eq_true_eq, W7_ext', Bool.and_eq_true, beq_iff_eq, and_assoc]
  rw [hd]
  unfold Program.fieldsOf
  rw [Try.underlying24]
  simp only [Op.eqFields, Sem.run_bind, Sem.run_ite, p0, p1, p2, p3, p6, e, e6, e3, Result.andThen_ok]
  cases (x.b == y.b) <;> cases (x.c == y.c) <;> cases (x.d == y.d) <;> cases (x.m0 == y.m0 && x.m1 == y.m1 && x.m2 == y.m2) <;> cases (x.p == y.p)
  all_goals simp [Op.eqFields, Sem.run_bind, Sem.run_ite, p0, p1, p2, p3, p6, e, e6, e3, Result.andThen_ok, go_sem]
set_option maxHeartbeats 4000000 in
theorem sameS9 (x y : S11) (r : Bool) (hr : decide (x = y) = r) (w : World) : (Op.equalIn 9999 26 (.agg #[.int .i64 x.w.b, .int .i64 x.w.c, .int .i64 x.w.d, .int .i64 x.w.m0, .int .i64 x.w.m1, .int .i64 x.w.m2, .int .i64 x.w.p, .int .i64 x.ph, .int .i64 x.st, .int .i64 x.re, .int .i64 x.si]) (.agg #[.int .i64 y.w.b, .int .i64 y.w.c, .int .i64 y.w.d, .int .i64 y.w.m0, .int .i64 y.w.m1, .int .i64 y.w.m2, .int .i64 y.w.p, .int .i64 y.ph, .int .i64 y.st, .int .i64 y.re, .int .i64 y.si])).run Try.prog w = .ok r w := by
  subst hr
  rw [show (9999 : Nat) = 9998 + 1 from rfl, run_equalIn_struct w 9998 26 _ _ (by unfold Program.fieldsOf; rw [Try.underlying26]) (by kernel_rfl)]
  have p0 : ∀ (a b c d e f g h i j k : Int) w, (part 24 #[.int .i64 a, .int .i64 b, .int .i64 c, .int .i64 d, .int .i64 e, .int .i64 f, .int .i64 g, .int .i64 h, .int .i64 i, .int .i64 j, .int .i64 k] 0).run Try.prog w = .ok (.agg #[.int .i64 a, .int .i64 b, .int .i64 c, .int .i64 d, .int .i64 e, .int .i64 f, .int .i64 g]) w := fun _ _ _ _ _ _ _ _ _ _ _ _ => by kernel_rfl
  have p7 : ∀ (a b c d e f g h i j k : Int) w, (part 3 #[.int .i64 a, .int .i64 b, .int .i64 c, .int .i64 d, .int .i64 e, .int .i64 f, .int .i64 g, .int .i64 h, .int .i64 i, .int .i64 j, .int .i64 k] 7).run Try.prog w = .ok (.int .i64 h) w := fun _ _ _ _ _ _ _ _ _ _ _ _ => by kernel_rfl
  have p8 : ∀ (a b c d e f g h i j k : Int) w, (part 3 #[.int .i64 a, .int .i64 b, .int .i64 c, .int .i64 d, .int .i64 e, .int .i64 f, .int .i64 g, .int .i64 h, .int .i64 i, .int .i64 j, .int .i64 k] 8).run Try.prog w = .ok (.int .i64 i) w := fun _ _ _ _ _ _ _ _ _ _ _ _ => by kernel_rfl
  have p9 : ∀ (a b c d e f g h i j k : Int) w, (part 3 #[.int .i64 a, .int .i64 b, .int .i64 c, .int .i64 d, .int .i64 e, .int .i64 f, .int .i64 g, .int .i64 h, .int .i64 i, .int .i64 j, .int .i64 k] 9).run Try.prog w = .ok (.int .i64 j) w := fun _ _ _ _ _ _ _ _ _ _ _ _ => by kernel_rfl
  have p10 : ∀ (a b c d e f g h i j k : Int) w, (part 3 #[.int .i64 a, .int .i64 b, .int .i64 c, .int .i64 d, .int .i64 e, .int .i64 f, .int .i64 g, .int .i64 h, .int .i64 i, .int .i64 j, .int .i64 k] 10).run Try.prog w = .ok (.int .i64 k) w := fun _ _ _ _ _ _ _ _ _ _ _ _ => by kernel_rfl
  have e : ∀ (x y : Int) w, (Op.equalIn 9998 3 (.int .i64 x) (.int .i64 y)).run Try.prog w = .ok (x == y) w := fun x y w => run_equalIn_int w 9997 3 .i64 .i64 x y Try.underlying3
  have e1 : ∀ (a b c d e f g a' b' c' d' e' f' g' : Int) w, (Op.equalIn 9998 24 (.agg #[.int .i64 a, .int .i64 b, .int .i64 c, .int .i64 d, .int .i64 e, .int .i64 f, .int .i64 g]) (.agg #[.int .i64 a', .int .i64 b', .int .i64 c', .int .i64 d', .int .i64 e', .int .i64 f', .int .i64 g'])).run Try.prog w = .ok (decide ((⟨a, b, c, d, e, f, g⟩ : W7) = ⟨a', b', c', d', e', f', g'⟩)) w := fun a b c d e f g a' b' c' d' e' f' g' w => sameW8 ⟨a, b, c, d, e, f, g⟩ ⟨a', b', c', d', e', f', g'⟩ _ rfl w
  have hd : decide (x = y) = (decide ((⟨x.w.b, x.w.c, x.w.d, x.w.m0, x.w.m1, x.w.m2, x.w.p⟩ : W7) = ⟨y.w.b, y.w.c, y.w.d, y.w.m0, y.w.m1, y.w.m2, y.w.p⟩) && (x.ph == y.ph && (x.st == y.st && (x.re == y.re && x.si == y.si)))) := by
    rw [Bool.eq_iff_iff]
    simp only [decide_eq_true_eq, S11_ext, W7.mk.injEq, Bool.and_eq_true, beq_iff_eq, and_assoc]
  rw [hd]
  unfold Program.fieldsOf
  rw [Try.underlying26]
  simp only [Op.eqFields, Sem.run_bind, Sem.run_ite, p0, p7, p8, p9, p10, e, e1, Result.andThen_ok]
  cases (decide ((⟨x.w.b, x.w.c, x.w.d, x.w.m0, x.w.m1, x.w.m2, x.w.p⟩ : W7) = ⟨y.w.b, y.w.c, y.w.d, y.w.m0, y.w.m1, y.w.m2, y.w.p⟩)) <;> cases (x.ph == y.ph) <;> cases (x.st == y.st) <;> cases (x.re == y.re) <;> cases (x.si == y.si)
  all_goals simp [Op.eqFields, Sem.run_bind, Sem.run_ite, p0, p7, p8, p9, p10, e, e1, Result.andThen_ok, go_sem]
set_option maxHeartbeats 4000000 in
theorem sameRec (x y : R19) (r : Bool) (hr : decide (x = y) = r) (w : World) : (Op.equalIn 10000 82 (.agg #[.int .i64 x.k, .int .i64 x.now, .int .i64 x.ans, .int .i64 x.o.kind, .int .i64 x.o.book, .int .i64 x.o.units, .int .i64 x.o.cust, .int .i64 x.o.amount, .int .i64 x.s.w.b, .int .i64 x.s.w.c, .int .i64 x.s.w.d, .int .i64 x.s.w.m0, .int .i64 x.s.w.m1, .int .i64 x.s.w.m2, .int .i64 x.s.w.p, .int .i64 x.s.ph, .int .i64 x.s.st, .int .i64 x.s.re, .int .i64 x.s.si]) (.agg #[.int .i64 y.k, .int .i64 y.now, .int .i64 y.ans, .int .i64 y.o.kind, .int .i64 y.o.book, .int .i64 y.o.units, .int .i64 y.o.cust, .int .i64 y.o.amount, .int .i64 y.s.w.b, .int .i64 y.s.w.c, .int .i64 y.s.w.d, .int .i64 y.s.w.m0, .int .i64 y.s.w.m1, .int .i64 y.s.w.m2, .int .i64 y.s.w.p, .int .i64 y.s.ph, .int .i64 y.s.st, .int .i64 y.s.re, .int .i64 y.s.si])).run Try.prog w = .ok r w := by
  subst hr
  rw [show (10000 : Nat) = 9999 + 1 from rfl, run_equalIn_struct w 9999 82 _ _ (by unfold Program.fieldsOf; rw [Try.underlying82]) (by kernel_rfl)]
  have p0 : ∀ (a b c d e f g h i j k l m n o p q r s : Int) w, (part 3 #[.int .i64 a, .int .i64 b, .int .i64 c, .int .i64 d, .int .i64 e, .int .i64 f, .int .i64 g, .int .i64 h, .int .i64 i, .int .i64 j, .int .i64 k, .int .i64 l, .int .i64 m, .int .i64 n, .int .i64 o, .int .i64 p, .int .i64 q, .int .i64 r, .int .i64 s] 0).run Try.prog w = .ok (.int .i64 a) w := fun _ _ _ _ _ _ _ _ _ _ _ _ _ _ _ _ _ _ _ _ => by kernel_rfl
  have p1 : ∀ (a b c d e f g h i j k l m n o p q r s : Int) w, (part 3 #[.int .i64 a, .int .i64 b, .int .i64 c, .int .i64 d, .int .i64 e, .int .i64 f, .int .i64 g, .int .i64 h, .int .i64 i, .int .i64 j, .int .i64 k, .int .i64 l, .int .i64 m, .int .i64 n, .int .i64 o, .int .i64 p, .int .i64 q, .int .i64 r, .int .i64 s] 1).run Try.prog w = .ok (.int .i64 b) w := fun _ _ _ _ _ _ _ _ _ _ _ _ _ _ _ _ _ _ _ _ => by kernel_rfl
  have p2 : ∀ (a b c d e f g h i j k l m n o p q r s : Int) w, (part 3 #[.int .i64 a, .int .i64 b, .int .i64 c, .int .i64 d, .int .i64 e, .int .i64 f, .int .i64 g, .int .i64 h, .int .i64 i, .int .i64 j, .int .i64 k, .int .i64 l, .int .i64 m, .int .i64 n, .int .i64 o, .int .i64 p, .int .i64 q, .int .i64 r, .int .i64 s] 2).run Try.prog w = .ok (.int .i64 c) w := fun _ _ _ _ _ _ _ _ _ _ _ _ _ _ _ _ _ _ _ _ => by kernel_rfl
  have p3 : ∀ (a b c d e f g h i j k l m n o p q r s : Int) w, (part 28 #[.int .i64 a, .int .i64 b, .int .i64 c, .int .i64 d, .int .i64 e, .int .i64 f, .int .i64 g, .int .i64 h, .int .i64 i, .int .i64 j, .int .i64 k, .int .i64 l, .int .i64 m, .int .i64 n, .int .i64 o, .int .i64 p, .int .i64 q, .int .i64 r, .int .i64 s] 3).run Try.prog w = .ok (.agg #[.int .i64 d, .int .i64 e, .int .i64 f, .int .i64 g, .int .i64 h]) w := fun _ _ _ _ _ _ _ _ _ _ _ _ _ _ _ _ _ _ _ _ => by kernel_rfl
  have p4 : ∀ (a b c d e f g h i j k l m n o p q r s : Int) w, (part 26 #[.int .i64 a, .int .i64 b, .int .i64 c, .int .i64 d, .int .i64 e, .int .i64 f, .int .i64 g, .int .i64 h, .int .i64 i, .int .i64 j, .int .i64 k, .int .i64 l, .int .i64 m, .int .i64 n, .int .i64 o, .int .i64 p, .int .i64 q, .int .i64 r, .int .i64 s] 8).run Try.prog w = .ok (.agg #[.int .i64 i, .int .i64 j, .int .i64 k, .int .i64 l, .int .i64 m, .int .i64 n, .int .i64 o, .int .i64 p, .int .i64 q, .int .i64 r, .int .i64 s]) w := fun _ _ _ _ _ _ _ _ _ _ _ _ _ _ _ _ _ _ _ _ => by kernel_rfl
  have e : ∀ (x y : Int) w, (Op.equalIn 9999 3 (.int .i64 x) (.int .i64 y)).run Try.prog w = .ok (x == y) w := fun x y w => run_equalIn_int w 9998 3 .i64 .i64 x y Try.underlying3
  have eo : ∀ (x0 x1 x2 x3 x4 y0 y1 y2 y3 y4 : Int) w, (Op.equalIn 9999 28 (.agg #[.int .i64 x0, .int .i64 x1, .int .i64 x2, .int .i64 x3, .int .i64 x4]) (.agg #[.int .i64 y0, .int .i64 y1, .int .i64 y2, .int .i64 y3, .int .i64 y4])).run Try.prog w = .ok (decide ((⟨x0, x1, x2, x3, x4⟩ : O5) = ⟨y0, y1, y2, y3, y4⟩)) w := fun x0 x1 x2 x3 x4 y0 y1 y2 y3 y4 w => sameO9 ⟨x0, x1, x2, x3, x4⟩ ⟨y0, y1, y2, y3, y4⟩ _ rfl w
  have es : ∀ (u0 u1 u2 u3 u4 u5 u6 u7 u8 u9 u10 v0 v1 v2 v3 v4 v5 v6 v7 v8 v9 v10 : Int) w, (Op.equalIn 9999 26 (.agg #[.int .i64 u0, .int .i64 u1, .int .i64 u2, .int .i64 u3, .int .i64 u4, .int .i64 u5, .int .i64 u6, .int .i64 u7, .int .i64 u8, .int .i64 u9, .int .i64 u10]) (.agg #[.int .i64 v0, .int .i64 v1, .int .i64 v2, .int .i64 v3, .int .i64 v4, .int .i64 v5, .int .i64 v6, .int .i64 v7, .int .i64 v8, .int .i64 v9, .int .i64 v10])).run Try.prog w = .ok (decide ((⟨⟨u0, u1, u2, u3, u4, u5, u6⟩, u7, u8, u9, u10⟩ : S11) = ⟨⟨v0, v1, v2, v3, v4, v5, v6⟩, v7, v8, v9, v10⟩)) w := fun u0 u1 u2 u3 u4 u5 u6 u7 u8 u9 u10 v0 v1 v2 v3 v4 v5 v6 v7 v8 v9 v10 w => sameS9 ⟨⟨u0, u1, u2, u3, u4, u5, u6⟩, u7, u8, u9, u10⟩ ⟨⟨v0, v1, v2, v3, v4, v5, v6⟩, v7, v8, v9, v10⟩ _ rfl w
  have hd : decide (x = y) = (x.k == y.k && (x.now == y.now && (x.ans == y.ans && (decide ((⟨x.o.kind, x.o.book, x.o.units, x.o.cust, x.o.amount⟩ : O5) = ⟨y.o.kind, y.o.book, y.o.units, y.o.cust, y.o.amount⟩) && decide ((⟨⟨x.s.w.b, x.s.w.c, x.s.w.d, x.s.w.m0, x.s.w.m1, x.s.w.m2, x.s.w.p⟩, x.s.ph, x.s.st, x.s.re, x.s.si⟩ : S11) = ⟨⟨y.s.w.b, y.s.w.c, y.s.w.d, y.s.w.m0, y.s.w.m1, y.s.w.m2, y.s.w.p⟩, y.s.ph, y.s.st, y.s.re, y.s.si⟩))))) := by
    rw [Bool.eq_iff_iff]
    simp only [decide_eq_true_eq, R19_ext, Bool.and_eq_true, beq_iff_eq, and_assoc]
  rw [hd]
  unfold Program.fieldsOf
  rw [Try.underlying82]
  simp only [Op.eqFields, Sem.run_bind, Sem.run_ite, p0, p1, p2, p3, p4, e, eo, es, Result.andThen_ok]
  cases (x.k == y.k) <;> cases (x.now == y.now) <;> cases (x.ans == y.ans) <;> cases (decide ((⟨x.o.kind, x.o.book, x.o.units, x.o.cust, x.o.amount⟩ : O5) = ⟨y.o.kind, y.o.book, y.o.units, y.o.cust, y.o.amount⟩)) <;> cases (decide ((⟨⟨x.s.w.b, x.s.w.c, x.s.w.d, x.s.w.m0, x.s.w.m1, x.s.w.m2, x.s.w.p⟩, x.s.ph, x.s.st, x.s.re, x.s.si⟩ : S11) = ⟨⟨y.s.w.b, y.s.w.c, y.s.w.d, y.s.w.m0, y.s.w.m1, y.s.w.m2, y.s.w.p⟩, y.s.ph, y.s.st, y.s.re, y.s.si⟩))
  all_goals simp [Op.eqFields, Sem.run_bind, Sem.run_ite, p0, p1, p2, p3, p4, e, eo, es, Result.andThen_ok, go_sem]
end Go.Proofs.Ytplgodfhhlnojaa
