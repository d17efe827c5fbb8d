/- Audits: what is all, nothing, right (no program in sight). -/
import Derived.Test.YtplgodfhhlnojaaSaga0
set_option linter.unusedSimpArgs false
set_option linter.unusedVariables false
namespace Go.Proofs.Ytplgodfhhlnojaa
open Go.RowKit
/-- An entry: state, units, until, customer, amount. -/
structure En where
  (s u t c a : Int)
structure Q4 where
  (e0 e1 e2 e3 : En)
def En.val (e : En) : Value := .agg #[.int .i64 e.s, .int .i64 e.u, .int .i64 e.t, .int .i64 e.c, .int .i64 e.a]
def Q4.val (q : Q4) : Value := .agg #[.int .i64 q.e0.s, .int .i64 q.e0.u, .int .i64 q.e0.t, .int .i64 q.e0.c, .int .i64 q.e0.a, .int .i64 q.e1.s, .int .i64 q.e1.u, .int .i64 q.e1.t, .int .i64 q.e1.c, .int .i64 q.e1.a, .int .i64 q.e2.s, .int .i64 q.e2.u, .int .i64 q.e2.t, .int .i64 q.e2.c, .int .i64 q.e2.a, .int .i64 q.e3.s, .int .i64 q.e3.u, .int .i64 q.e3.t, .int .i64 q.e3.c, .int .i64 q.e3.a]
def ConfP (n : Int) (e : En) : Prop := if n = 0 then e.s = 0 else e.s = 2 ∧ e.u = n
instance (n : Int) (e : En) : Decidable (ConfP n e) := by unfold ConfP; infer_instance
def PaidP (x : W7) (e : En) (k : Int) : Prop := e.s = k ∧ e.a = x.p ∧ e.c = x.c
instance (x : W7) (e : En) (k : Int) : Decidable (PaidP x e k) := by unfold PaidP; infer_instance
def AllP (x : W7) (q : Q4) : Prop := ConfP x.m0 q.e0 ∧ ConfP x.m1 q.e1 ∧ ConfP x.m2 q.e2 ∧ MayW x
instance (x : W7) (q : Q4) : Decidable (AllP x q) := by unfold AllP; infer_instance
def BookedP (x : W7) (q : Q4) : Prop := AllP x q ∧ PaidP x q.e3 5
instance (x : W7) (q : Q4) : Decidable (BookedP x q) := by unfold BookedP; infer_instance
def GoneE (e : En) : Prop := e.s ≠ 1 ∧ e.s ≠ 2 ∧ e.s ≠ 4 ∧ e.s ≠ 5
instance (e : En) : Decidable (GoneE e) := by unfold GoneE; infer_instance
def NothingP (q : Q4) : Prop := GoneE q.e0 ∧ GoneE q.e1 ∧ GoneE q.e2 ∧ GoneE q.e3
instance (q : Q4) : Decidable (NothingP q) := by unfold NothingP; infer_instance
def OpenE (n : Int) (e : En) : Prop := (e.s = 1 ∨ e.s = 2) → e.u = n
instance (n : Int) (e : En) : Decidable (OpenE n e) := by unfold OpenE; infer_instance
def OpenP (x : W7) (q : Q4) : Prop := OpenE x.m0 q.e0 ∧ OpenE x.m1 q.e1 ∧ OpenE x.m2 q.e2 ∧ q.e3.s ≠ 5 ∧ (q.e3.s = 4 → PaidP x q.e3 4)
instance (x : W7) (q : Q4) : Decidable (OpenP x q) := by unfold OpenP; infer_instance
def RightP (s : S11) (q : Q4) : Prop := MayS s ∧ (if s.ph = 4 then BookedP s.w q else if s.ph = 5 then NothingP q else if s.ph = 2 then AllP s.w q ∧ (PaidP s.w q.e3 5 ∨ PaidP s.w q.e3 4) else OpenP s.w q)
instance (s : S11) (q : Q4) : Decidable (RightP s q) := by unfold RightP; infer_instance
end Go.Proofs.Ytplgodfhhlnojaa
