/- Sagas: which may be, what they ask, what they turn into (no program in sight but for the steps' lists). -/
import Derived.Test.YtplgodfhhlnojaaPlanRef2
import Derived.Test.YtplgodfhhlnojaaWCalls
import Derived.Outline
set_option linter.unusedSimpArgs false
set_option linter.unusedVariables false
namespace Go.Proofs.Ytplgodfhhlnojaa
open Go.RowKit
structure S11 where
  (w : W7) (ph st re si : Int)
def S11.val (s : S11) : Value := .agg #[.int .i64 s.w.b, .int .i64 s.w.c, .int .i64 s.w.d, .int .i64 s.w.m0, .int .i64 s.w.m1, .int .i64 s.w.m2, .int .i64 s.w.p, .int .i64 s.ph, .int .i64 s.st, .int .i64 s.re, .int .i64 s.si]
/-- The steps of a saga's phase. -/
def stepsL (s : S11) : List A6 := if s.ph = 1 then forwardL s.w else if s.ph = 2 then [captureA s.w] else if s.ph = 3 then backL s.w else []
def MayS (s : S11) : Prop := MayW s.w ∧ (0 ≤ s.si ∧ s.si ≤ 1099511627776) ∧ (0 ≤ s.st ∧ (s.st < (stepsL s).length ∨ s.st < 1)) ∧
  (((s.ph = 1 ∨ s.ph = 2 ∨ s.ph = 4) ∧ s.re = 0) ∨ ((s.ph = 3 ∨ s.ph = 5) ∧ 1 ≤ s.re ∧ s.re ≤ 4 ∧ (s.re ≠ 3 ∨ 0 < s.w.d)))
instance (s : S11) : Decidable (MayS s) := by unfold MayS; infer_instance
def zA : A6 := ⟨0, 0, 0, 0, 0, 0⟩
def z11 : S11 := ⟨⟨0, 0, 0, 0, 0, 0, 0⟩, 0, 0, 0, 0⟩
/-- What a saga asks. -/
def nextS (s : S11) : A6 × Bool := if MayS s ∧ 0 < (stepsL s).length then ((stepsL s)[s.st.toNat]?.getD zA, true) else (zA, false)
theorem A6_ext {x y : A6} : x = y ↔ x.node = y.node ∧ x.kind = y.kind ∧ x.book = y.book ∧ x.units = y.units ∧ x.cust = y.cust ∧ x.amount = y.amount := by
  cases x; cases y; simp
instance : DecidableEq A6 := fun _ _ => decidable_of_iff _ A6_ext.symm
theorem W7_ext' {x y : W7} : x = y ↔ x.b = y.b ∧ x.c = y.c ∧ x.d = y.d ∧ x.m0 = y.m0 ∧ x.m1 = y.m1 ∧ x.m2 = y.m2 ∧ x.p = y.p := by
  cases x; cases y; simp
theorem S11_ext {x y : S11} : x = y ↔ (x.w.b = y.w.b ∧ x.w.c = y.w.c ∧ x.w.d = y.w.d ∧ x.w.m0 = y.w.m0 ∧ x.w.m1 = y.w.m1 ∧ x.w.m2 = y.w.m2 ∧ x.w.p = y.w.p) ∧ x.ph = y.ph ∧ x.st = y.st ∧ x.re = y.re ∧ x.si = y.si := by
  cases x; cases y; simp [W7_ext']
instance : DecidableEq S11 := fun _ _ => decidable_of_iff _ S11_ext.symm
def backS (s : S11) (r : Int) : S11 := ⟨s.w, 3, 0, r, s.si⟩
/-- A saga behind an answer. -/
def ansS (s : S11) (a : A6) (n : Int) : S11 × Bool :=
  if (nextS s).2 = false ∨ a ≠ (nextS s).1 then (s, false)
  else if n = 2 ∧ s.ph = 1 ∧ a.kind = 4 then (backS s 2, true)
  else if n = 2 ∧ s.ph = 1 then (backS s 1, true)
  else if n ≠ 1 then (s, false)
  else if s.st + 1 < (stepsL s).length then (⟨s.w, s.ph, s.st + 1, s.re, s.si⟩, true)
  else (⟨s.w, if s.ph = 1 then 2 else if s.ph = 2 then 4 else 5, 0, s.re, s.si⟩, true)
def canS (s : S11) : S11 × Bool := if MayS s ∧ s.ph = 1 then (backS s 4, true) else (s, false)
def lateS (s : S11) (now : Int) : S11 × Bool :=
  if MayS s ∧ s.ph = 1 ∧ s.w.d ≠ 0 ∧ now ≤ 1099511627776 ∧ s.w.d ≤ now - s.si ∧ s.si ≤ now then (backS s 3, true) else (s, false)
def tellS (s : S11) : Int := if ¬ MayS s then 0 else if s.ph = 4 then 3 else if s.ph = 5 then 4 else 2
def newS (x : W7) (now : Int) : S11 × Int := if MayW x ∧ 0 ≤ now ∧ now ≤ 1099511627776 then (⟨x, 1, 0, 0, now⟩, 0) else (z11, 1)
end Go.Proofs.Ytplgodfhhlnojaa
