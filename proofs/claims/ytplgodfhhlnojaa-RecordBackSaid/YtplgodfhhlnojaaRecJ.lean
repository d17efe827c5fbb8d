/- record.Get, record.Same and the document's GetRecord, by what they answer. -/
import Derived.Test.YtplgodfhhlnojaaRecG1
import Derived.Test.YtplgodfhhlnojaaRecG2
import Derived.Test.YtplgodfhhlnojaaRecG3
import Derived.Test.YtplgodfhhlnojaaRecRG
import Derived.Test.YtplgodfhhlnojaaRecRP
set_option linter.unusedSimpArgs false
set_option linter.unusedVariables false
namespace Go.Proofs.Ytplgodfhhlnojaa
open Go.RowKit
theorem rN_in (s : Rs) : In64 (rN s).1 := by
  unfold rN rInt
  cases s with
  | none => exact ⟨by simp, by simp⟩
  | some l =>
    cases h : dec 0 1099511627776 l with
    | none => simp only [h]; exact ⟨by simp, by simp⟩
    | some p => obtain ⟨v, r⟩ := p; simp only [h]; have := dec_is h; exact ⟨this.2.2.2.1, this.2.2.2.2⟩
theorem recget_c (A : Option Addr) (n c : Nat) (l : List UInt8) (w : World) (hr : Rd w w.heap.size 1 A n (B8 l)) (hn : n ≤ 100000000) {y : R19} {yk : Int} (hy : gR l = (y, yk)) : Calls Try.prog 58 #[.slice A n c] w fun e w' => e = .returned (.tuple #[y.val, .int .i64 yk]) ∧ Below w.heap.size w w' := by
  unfold gR rRec at hy
  obtain ⟨k, s1, e1⟩ : ∃ v t, rN (some l) = (v, t) := ⟨_, _, rfl⟩
  obtain ⟨now, s2, e2⟩ : ∃ v t, rN s1 = (v, t) := ⟨_, _, rfl⟩
  have IN : In64 now := by have := rN_in s1; rw [e2] at this; exact this
  simp only [e1, e2] at hy
  by_cases h1 : k = 1
  · subst h1
    obtain ⟨t, s3, e3⟩ : ∃ v u, rText 1000 s2 = (v, u) := ⟨_, _, rfl⟩
    obtain ⟨ans, s4, e4⟩ : ∃ v u, rN s3 = (v, u) := ⟨_, _, rfl⟩
    obtain ⟨o, kk, hg⟩ : ∃ o e, gO t = (o, e) := ⟨_, _, rfl⟩
    have IA : In64 ans := by have := rN_in s3; rw [e4] at this; exact this
    simp only [if_pos, e3, e4, hg] at hy
    exact recget1 A n c l w hr hn now s1 s2 e1 e2 t s3 s4 o kk ans e3 hg e4 IA IN y yk hy
  · by_cases h3 : k = 3
    · subst h3
      obtain ⟨t, s3, e3⟩ : ∃ v u, rText 1000 s2 = (v, u) := ⟨_, _, rfl⟩
      obtain ⟨o, kk, hg⟩ : ∃ o e, gS t = (o, e) := ⟨_, _, rfl⟩
      simp only [show ¬ (3 : Int) = 1 from by omega, if_false, if_pos, e3, hg] at hy
      exact recget3 A n c l w hr hn now s1 s2 e1 e2 t s3 o kk e3 hg IN y yk hy
    · simp only [if_neg h1, if_neg h3] at hy
      exact recget0 A n c l w hr hn k now s1 s2 h1 h3 e1 e2 IN y yk hy
theorem rrecget_c (l : List UInt8) (w : World) (hl : l.length ≤ 1000000000000) {y : R19} {yk : Int} (hy : gR l = (y, yk)) : Calls Try.prog 59 #[.string ⟨l.toArray⟩] w fun e w' => e = .returned (.tuple #[y.val, .int .i64 yk]) ∧ Below w.heap.size w w' := by
  rw [← hR_is] at hy
  unfold hR rRec at hy
  have hs : Sh (some l) := fun l' e => by injection e with e; subst e; exact hl
  have hT : (⟨l.toArray⟩ : ByteArray).data.toList = l := by simp
  obtain ⟨k, s1, e1⟩ : ∃ v t, rF (some l) = (v, t) := ⟨_, _, rfl⟩
  obtain ⟨now, s2, e2⟩ : ∃ v t, rF s1 = (v, t) := ⟨_, _, rfl⟩
  simp only [e1, e2] at hy
  by_cases h1 : k = 1
  · subst h1
    obtain ⟨t, s3, e3⟩ : ∃ v u, rText 1000 s2 = (v, u) := ⟨_, _, rfl⟩
    obtain ⟨ans, s4, e4⟩ : ∃ v u, rF s3 = (v, u) := ⟨_, _, rfl⟩
    obtain ⟨o, kk, hg⟩ : ∃ o e, gO t = (o, e) := ⟨_, _, rfl⟩
    simp only [if_pos, e3, e4, hg] at hy
    exact rrecget1 _ l w hT hs now s1 s2 e1 e2 t s3 s4 o kk ans e3 hg e4 y yk hy
  · by_cases h3 : k = 3
    · subst h3
      obtain ⟨t, s3, e3⟩ : ∃ v u, rText 1000 s2 = (v, u) := ⟨_, _, rfl⟩
      obtain ⟨o, kk, hg⟩ : ∃ o e, gS t = (o, e) := ⟨_, _, rfl⟩
      simp only [show ¬ (3 : Int) = 1 from by omega, if_false, if_pos, e3, hg] at hy
      exact rrecget3 _ l w hT hs now s1 s2 e1 e2 t s3 o kk e3 hg y yk hy
    · simp only [if_neg h1, if_neg h3] at hy
      exact rrecget0 _ l w hT hs k now s1 s2 h1 h3 e1 e2 y yk hy
set_option maxRecDepth 100000 in
set_option maxHeartbeats 4000000 in
theorem recsame_c (x y : R19) (b : Bool) (h : decide (x = y) = b) (w : World) : Calls Try.prog 60 #[x.val, y.val] w fun e w' => e = .returned (.bool b) ∧ Below w.heap.size w w' := by
  have er := sameRec x y b h
  clear h
  unfold R19.val
  obtain ⟨f1, f2, f3⟩ := two_boxes w (.cells #[.int .i64 x.k, .int .i64 x.now, .int .i64 x.ans, .int .i64 x.o.kind, .int .i64 x.o.book, .int .i64 x.o.units, .int .i64 x.o.cust, .int .i64 x.o.amount, .int .i64 x.s.w.b, .int .i64 x.s.w.c, .int .i64 x.s.w.d, .int .i64 x.s.w.m0, .int .i64 x.s.w.m1, .int .i64 x.s.w.m2, .int .i64 x.s.w.p, .int .i64 x.s.ph, .int .i64 x.s.st, .int .i64 x.s.re, .int .i64 x.s.si] 82) (.cells #[.int .i64 y.k, .int .i64 y.now, .int .i64 y.ans, .int .i64 y.o.kind, .int .i64 y.o.book, .int .i64 y.o.units, .int .i64 y.o.cust, .int .i64 y.o.amount, .int .i64 y.s.w.b, .int .i64 y.s.w.c, .int .i64 y.s.w.d, .int .i64 y.s.w.m0, .int .i64 y.s.w.m1, .int .i64 y.s.w.m2, .int .i64 y.s.w.p, .int .i64 y.s.ph, .int .i64 y.s.st, .int .i64 y.s.re, .int .i64 y.s.si] 82)
  have F1 := Lib.hid f1
  have F2 := Lib.hid f2
  have F3 := Lib.hid f3
  clear f1 f2 f3
  go_enter Try.func60, Try.ntmps60
  go_wp2_with (first | (refine wpl_row (by rfl) 82 _ rfl _ rfl _ _ _ _ F1.out rfl Try.underlying82 (by kernel_rfl) ?_) | (refine wpl_row (by rfl) 82 _ rfl _ rfl _ _ _ _ F2.out rfl Try.underlying82 (by kernel_rfl) ?_))
  go_ret
  exact ⟨rfl, F3.out⟩
end Go.Proofs.Ytplgodfhhlnojaa
