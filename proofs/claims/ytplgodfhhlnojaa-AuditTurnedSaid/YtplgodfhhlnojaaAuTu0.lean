/- The law AuditTurned: what is booked, and what is no more (no program in sight). -/
import Derived.Test.YtplgodfhhlnojaaAudT
import Derived.Test.YtplgodfhhlnojaaAudR1
import Derived.Test.YtplgodfhhlnojaaSgPure
set_option linter.unusedSimpArgs false
set_option linter.unusedVariables false
namespace Go.Proofs.Ytplgodfhhlnojaa
open Go.RowKit
def OkE (m t u : Int) : Prop := u = m ∧ ((0 < m ∧ t = 2) ∨ (m = 0 ∧ t = 0))
theorem ok_conf {m t u a b c : Int} (h : OkE m t u) : ConfP m ⟨t, u, a, b, c⟩ := by
  obtain ⟨rfl, ⟨h1, rfl⟩ | ⟨rfl, rfl⟩⟩ := h
  · unfold ConfP; rw [if_neg (by omega)]; exact ⟨rfl, rfl⟩
  · unfold ConfP; rw [if_pos rfl]
theorem ok_inc {m t u a b c : Int} (h : OkE m t u) : ¬ ConfP m ⟨2, u + 1, a, b, c⟩ := by
  obtain ⟨rfl, ⟨h1, rfl⟩ | ⟨rfl, rfl⟩⟩ := h
  · unfold ConfP; rw [if_neg (by omega)]; simp only; omega
  · unfold ConfP; rw [if_pos rfl]; simp
theorem ok_inc2 {m t u a b c : Int} (h : OkE m t u) (ht : t = 2) : ¬ ConfP m ⟨t, u + 1, a, b, c⟩ := by subst ht; exact ok_inc h
theorem ok_held {m t u a b c : Int} (h : OkE m t u) : ¬ ConfP m ⟨1, u, a, b, c⟩ := by
  obtain ⟨rfl, ⟨h1, rfl⟩ | ⟨rfl, rfl⟩⟩ := h
  · unfold ConfP; rw [if_neg (by omega)]; simp
  · unfold ConfP; rw [if_pos rfl]; simp
theorem tk0 : TickOk 0 := ⟨by omega, by omega⟩
theorem r4_iff (x : W7) (hx : MayW x) (q : Q4) : RightP ⟨x, 4, 0, 0, 0⟩ q ↔ BookedP x q := by
  unfold RightP
  simp only
  rw [if_pos trivial]
  exact ⟨fun h => h.2, fun h => ⟨may_4 x 0 hx tk0, h⟩⟩
theorem r2_iff (x : W7) (hx : MayW x) (q : Q4) : RightP ⟨x, 2, 0, 0, 0⟩ q ↔ AllP x q ∧ (PaidP x q.e3 5 ∨ PaidP x q.e3 4) := by
  unfold RightP
  simp only
  rw [if_neg (by omega), if_neg (by omega), if_pos trivial]
  exact ⟨fun h => h.2, fun h => ⟨may_2 x 0 hx tk0, h⟩⟩
/-- What is turned is booked no more; it may be on its way at the sixth alone. -/
def TurnedP (x : W7) (y : Q4) (n : Int) : Prop := ¬ BookedP x y ∧ ((n == 6) = decide (RightP ⟨x, 2, 0, 0, 0⟩ y))
theorem turned_all {x : W7} (hx : MayW x) {y : Q4} {n : Int} (hn : (n == 6) = false) (h : ¬ AllP x y) : TurnedP x y n :=
  ⟨fun g => h g.1, by rw [hn]; exact (decide_eq_false (fun g => h ((r2_iff x hx y).1 g).1)).symm⟩
theorem turned_paid {x : W7} (hx : MayW x) {y : Q4} {n : Int} (hn : (n == 6) = false) (h5 : ¬ PaidP x y.e3 5) (h4 : ¬ PaidP x y.e3 4) : TurnedP x y n :=
  ⟨fun g => h5 g.2, by rw [hn]; exact (decide_eq_false (fun g => ((r2_iff x hx y).1 g).2.elim h5 h4)).symm⟩
theorem turned_six {x : W7} (hx : MayW x) {y : Q4} (ha : AllP x y) (h5 : ¬ PaidP x y.e3 5) (h4 : PaidP x y.e3 4) : TurnedP x y 6 :=
  ⟨fun g => h5 g.2, (decide_eq_true ((r2_iff x hx y).2 ⟨ha, .inr h4⟩)).symm⟩
def qB (x : W7) (t0 u0 t1 u1 t2 u2 : Int) : Q4 := ⟨⟨t0, u0, 0, 0, 0⟩, ⟨t1, u1, 0, 0, 0⟩, ⟨t2, u2, 0, 0, 0⟩, ⟨5, 0, 0, x.c, x.p⟩⟩
theorem qB_all {x : W7} (hx : MayW x) {t0 u0 t1 u1 t2 u2 : Int} (h0 : OkE x.m0 t0 u0) (h1 : OkE x.m1 t1 u1) (h2 : OkE x.m2 t2 u2) : AllP x (qB x t0 u0 t1 u1 t2 u2) := ⟨ok_conf h0, ok_conf h1, ok_conf h2, hx⟩
theorem qB_booked {x : W7} (hx : MayW x) {t0 u0 t1 u1 t2 u2 : Int} (h0 : OkE x.m0 t0 u0) (h1 : OkE x.m1 t1 u1) (h2 : OkE x.m2 t2 u2) : BookedP x (qB x t0 u0 t1 u1 t2 u2) := ⟨qB_all hx h0 h1 h2, rfl, rfl, rfl⟩
theorem qB_some {x : W7} {t0 u0 t1 u1 t2 u2 : Int} : ¬ NothingP (qB x t0 u0 t1 u1 t2 u2) := fun h => h.2.2.2.2.2.2 rfl
theorem zero_not {x : W7} (h : ¬ MayW x) (q : Q4) : ¬ BookedP x q := fun g => h g.1.2.2.2
end Go.Proofs.Ytplgodfhhlnojaa
