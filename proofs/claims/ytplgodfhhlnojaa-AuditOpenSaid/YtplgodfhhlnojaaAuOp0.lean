/- The law AuditOpen: what may be on its way (no program in sight). -/
import Derived.Test.YtplgodfhhlnojaaAudT
import Derived.Test.YtplgodfhhlnojaaSgPure
import Derived.Laws.BitsLemmas
set_option linter.unusedSimpArgs false
set_option linter.unusedVariables false
namespace Go.Proofs.Ytplgodfhhlnojaa
open Go.RowKit
theorem i64_and3 (n : Int) : bits .and .i64 n 3 = n % 4 := by
  have h127 : (BitVec.ofInt 64 3).toNat = 2 ^ 2 - 1 := by decide
  have key : (BitVec.ofInt 64 n &&& BitVec.ofInt 64 3).toNat = (n % ((2 ^ 64 : Nat) : Int)).toNat % 2 ^ 2 := by
    rw [BitVec.toNat_and, BitVec.toNat_ofInt, h127, Nat.and_two_pow_sub_one_eq_mod]
  show IntKind.i64.wrap ((BitVec.ofInt 64 n &&& BitVec.ofInt 64 3).toNat : Nat) = n % 4
  rw [key, IntKind.wrap_i64]
  omega
theorem i64_and16 (n : Int) : bits .and .i64 n 65535 = n % 65536 := by
  have h127 : (BitVec.ofInt 64 65535).toNat = 2 ^ 16 - 1 := by decide
  have key : (BitVec.ofInt 64 n &&& BitVec.ofInt 64 65535).toNat = (n % ((2 ^ 64 : Nat) : Int)).toNat % 2 ^ 16 := by
    rw [BitVec.toNat_and, BitVec.toNat_ofInt, h127, Nat.and_two_pow_sub_one_eq_mod]
  show IntKind.i64.wrap ((BitVec.ofInt 64 n &&& BitVec.ofInt 64 65535).toNat : Nat) = n % 65536
  rw [key, IntKind.wrap_i64]
  omega
/-- An entry of its own units; of one more. -/
def OkX (m t u : Int) : Prop := ((t = 0 ∨ t = 3) ∧ u = 0) ∨ ((t = 1 ∨ t = 2) ∧ u = m)
def BadX (m t u : Int) : Prop := (t = 1 ∨ t = 2) ∧ u = m + 1
theorem okx_open {m t u a b c : Int} (h : OkX m t u) : OpenE m ⟨t, u, a, b, c⟩ := by
  unfold OkX at h; unfold OpenE; simp only; omega
theorem badx_not {m t u a b c : Int} (h : BadX m t u) : ¬ OpenE m ⟨t, u, a, b, c⟩ := by
  unfold BadX at h; unfold OpenE; simp only; omega
structure OkB (k : Nat) (ok : Bool) (m0 m1 m2 t0 u0 t1 u1 t2 u2 : Int) : Prop where
  yes : ok = true → (1 ≤ k → OkX m0 t0 u0) ∧ (2 ≤ k → OkX m1 t1 u1) ∧ (3 ≤ k → OkX m2 t2 u2)
  no : ok = false → (1 ≤ k ∧ BadX m0 t0 u0) ∨ (2 ≤ k ∧ BadX m1 t1 u1) ∨ (3 ≤ k ∧ BadX m2 t2 u2)
  z0 : k ≤ 0 → t0 = 0 ∧ u0 = 0
  z1 : k ≤ 1 → t1 = 0 ∧ u1 = 0
  z2 : k ≤ 2 → t2 = 0 ∧ u2 = 0
section
variable {ok : Bool} {m0 m1 m2 t0 u0 t1 u1 t2 u2 t u : Int}
theorem OkB.start : OkB 0 true m0 m1 m2 0 0 0 0 0 0 := ⟨fun _ => ⟨by omega, by omega, by omega⟩, by simp, by simp, by simp, by simp⟩
theorem OkB.s0 (h : OkB 0 ok m0 m1 m2 t0 u0 t1 u1 t2 u2) (g : OkX m0 t u) : OkB 1 ok m0 m1 m2 t u t1 u1 t2 u2 :=
  ⟨fun _ => ⟨fun _ => g, by omega, by omega⟩, fun e => by rcases h.no e with h | h | h <;> exact absurd h.1 (by omega), by omega, fun _ => h.z1 (by omega), fun _ => h.z2 (by omega)⟩
theorem OkB.s1 (h : OkB 1 ok m0 m1 m2 t0 u0 t1 u1 t2 u2) (g : OkX m1 t u) : OkB 2 ok m0 m1 m2 t0 u0 t u t2 u2 :=
  ⟨fun e => ⟨fun _ => (h.yes e).1 (by omega), fun _ => g, by omega⟩, fun e => by
    rcases h.no e with h | h | h
    · exact .inl ⟨by omega, h.2⟩
    · exact absurd h.1 (by omega)
    · exact absurd h.1 (by omega), by omega, by omega, fun _ => h.z2 (by omega)⟩
theorem OkB.s2 (h : OkB 2 ok m0 m1 m2 t0 u0 t1 u1 t2 u2) (g : OkX m2 t u) : OkB 3 ok m0 m1 m2 t0 u0 t1 u1 t u :=
  ⟨fun e => ⟨fun _ => (h.yes e).1 (by omega), fun _ => (h.yes e).2.1 (by omega), fun _ => g⟩, fun e => by
    rcases h.no e with h | h | h
    · exact .inl ⟨by omega, h.2⟩
    · exact .inr (.inl ⟨by omega, h.2⟩)
    · exact absurd h.1 (by omega), by omega, by omega, by omega⟩
theorem OkB.b0 (h : OkB 0 ok m0 m1 m2 t0 u0 t1 u1 t2 u2) (g : BadX m0 t u) : OkB 1 false m0 m1 m2 t u t1 u1 t2 u2 :=
  ⟨by simp, fun _ => .inl ⟨by omega, g⟩, by omega, fun _ => h.z1 (by omega), fun _ => h.z2 (by omega)⟩
theorem OkB.b1 (h : OkB 1 ok m0 m1 m2 t0 u0 t1 u1 t2 u2) (g : BadX m1 t u) : OkB 2 false m0 m1 m2 t0 u0 t u t2 u2 :=
  ⟨by simp, fun _ => .inr (.inl ⟨by omega, g⟩), by omega, by omega, fun _ => h.z2 (by omega)⟩
theorem OkB.b2 (_ : OkB 2 ok m0 m1 m2 t0 u0 t1 u1 t2 u2) (g : BadX m2 t u) : OkB 3 false m0 m1 m2 t0 u0 t1 u1 t u :=
  ⟨by simp, fun _ => .inr (.inr ⟨by omega, g⟩), by omega, by omega, by omega⟩
end
theorem tk4' : TickOk 4 := ⟨by omega, by omega⟩
theorem op1_iff (x : W7) (hx : MayW x) (q : Q4) : RightP ⟨x, 1, 0, 0, 4⟩ q ↔ OpenP x q := by
  unfold RightP
  simp only
  rw [if_neg (by omega), if_neg (by omega), if_neg (by omega)]
  exact ⟨fun h => h.2, fun h => ⟨may_1 x 0 4 hx tk4' (fwd_pos x hx).1, h⟩⟩
theorem op3_iff (x : W7) (hx : MayW x) (q : Q4) : RightP ⟨x, 3, 0, 1, 4⟩ q ↔ OpenP x q := by
  unfold RightP
  simp only
  rw [if_neg (by omega), if_neg (by omega), if_neg (by omega)]
  exact ⟨fun h => h.2, fun h => ⟨may_3 x 0 1 4 hx tk4' ⟨by omega, by omega, .inl (by omega)⟩ (bck_pos x hx).1, h⟩⟩
/-- The purse's entry: none, gone, captured; or of its own price; or of one more. -/
def PurX (x : W7) (ok : Bool) (r : Bool) (t c a : Int) : Prop := (((t = 0 ∨ t = 3) ∧ c = 0 ∧ a = 0) ∧ r = ok) ∨ ((t = 5 ∧ c = 0 ∧ a = 0) ∧ r = false) ∨ ((t = 4 ∧ c = x.c ∧ a = x.p) ∧ r = ok) ∨ ((t = 4 ∧ c = x.c ∧ a = x.p + 1) ∧ r = false)
theorem open_is_x {x : W7} {ok r : Bool} {t0 u0 t1 u1 t2 u2 t c a : Int} (h : OkB 3 ok x.m0 x.m1 x.m2 t0 u0 t1 u1 t2 u2) (g : PurX x ok r t c a) :
    decide (OpenP x ⟨⟨t0, u0, 0, 0, 0⟩, ⟨t1, u1, 0, 0, 0⟩, ⟨t2, u2, 0, 0, 0⟩, ⟨t, 0, 0, c, a⟩⟩) = r := by
  cases ok with
  | false =>
    have hr : r = false := by rcases g with g | g | g | g <;> exact g.2
    subst hr
    refine decide_eq_false (fun o => ?_)
    rcases h.no rfl with h | h | h
    · exact badx_not h.2 o.1
    · exact badx_not h.2 o.2.1
    · exact badx_not h.2 o.2.2.1
  | true =>
    have hy := h.yes rfl
    have y0 := okx_open (a := 0) (b := 0) (c := 0) (hy.1 (by omega))
    have y1 := okx_open (a := 0) (b := 0) (c := 0) (hy.2.1 (by omega))
    have y2 := okx_open (a := 0) (b := 0) (c := 0) (hy.2.2 (by omega))
    rcases g with ⟨⟨ht, _⟩, rfl⟩ | ⟨⟨ht, _⟩, rfl⟩ | ⟨⟨rfl, rfl, rfl⟩, rfl⟩ | ⟨⟨rfl, rfl, rfl⟩, rfl⟩
    · exact decide_eq_true ⟨y0, y1, y2, by simp only; omega, fun e => by simp only at e; omega⟩
    · exact decide_eq_false (fun o => o.2.2.2.1 ht)
    · exact decide_eq_true ⟨y0, y1, y2, by simp, fun _ => ⟨rfl, rfl, rfl⟩⟩
    · exact decide_eq_false (fun o => by have := (o.2.2.2.2 rfl).2.1; simp only at this; omega)
end Go.Proofs.Ytplgodfhhlnojaa
