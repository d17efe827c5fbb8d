/- What want.Get and want.GetOp tell, in plain lists. -/
import Derived.Test.YtebinhelnhnbeaaWGetW1
import Derived.Test.YtebinhelnhnbeaaWGetO1
set_option linter.unusedSimpArgs false
set_option linter.unusedVariables false
namespace Go.Proofs.Ytebinhelnhnbeaa
open Go.RowKit
theorem rInt_back {lo hi v : Int} {s : Rs} {r : List UInt8} (h : rInt lo hi s = (v, some r)) : s = some (enc v ++ r) ∧ lo ≤ v ∧ v ≤ hi ∧ In64 v := by
  unfold rInt at h
  cases s with
  | none => cases h
  | some l =>
    cases h' : dec lo hi l with
    | none => simp only [h'] at h; cases h
    | some p =>
      obtain ⟨u, q⟩ := p
      simp only [h'] at h
      injection h with h1 h2
      injection h2 with h2
      subst h1 h2
      have hd := dec_is h'
      exact ⟨by rw [← hd.1], hd.2.1, hd.2.2.1, hd.2.2.2⟩
theorem rInt_fwd {lo hi v : Int} (r : List UInt8) (h0 : In64 v) (hl : lo ≤ v) (hh : v ≤ hi) : rInt lo hi (some (enc v ++ r)) = (v, some r) := by
  unfold rInt
  simp only [dec_enc lo hi v r h0.1 h0.2 hl hh]
theorem rS_fwd {v : Int} (r : List UInt8) (hl : -4611686018427387904 ≤ v) (hh : v ≤ 4611686018427387904) : rS (some (enc v ++ r)) = (v, some r) := rInt_fwd r ⟨by omega, by omega⟩ hl hh
/-- A number, in the bounds of all. -/
def rF (s : Rs) : Int × Rs := rInt (-9223372036854775808) 9223372036854775807 s
theorem rF_fwd {v : Int} (r : List UInt8) (h : In64 v) : rF (some (enc v ++ r)) = (v, some r) := rInt_fwd r h h.1 h.2
theorem encs_inj (a : List Int) : ∀ (b : List Int) (r s : List UInt8), a.length = b.length → (∀ z ∈ a, In64 z) → (∀ z ∈ b, In64 z) → encs a ++ r = encs b ++ s → a = b ∧ r = s := by
  induction a with
  | nil =>
    intro b r s hl _ _ h
    have : b = [] := List.eq_nil_of_length_eq_zero (by simpa using hl.symm)
    subst this
    exact ⟨rfl, by simpa [encs] using h⟩
  | cons x a ih =>
    intro b r s hl ha hb h
    cases b with
    | nil => simp at hl
    | cons y b =>
      unfold encs at h
      rw [List.flatMap_cons, List.flatMap_cons, List.append_assoc, List.append_assoc] at h
      obtain ⟨e1, e2⟩ := enc_inj (ha x (by simp)) (hb y (by simp)) h
      obtain ⟨e3, e4⟩ := ih b r s (by simpa using hl) (fun z hz => ha z (by simp [hz])) (fun z hz => hb z (by simp [hz])) e2
      exact ⟨by rw [e1, e3], e4⟩
theorem encW_split (x : W7) (r : List UInt8) : encW x ++ r = enc x.b ++ (enc x.c ++ (enc x.d ++ (enc x.m0 ++ (enc x.m1 ++ (enc x.m2 ++ (enc x.p ++ (r))))))) := by
  unfold encW W7.list encs
  simp
theorem rW_fwd (x : W7) (r : List UInt8) (h : ∀ z ∈ x.list, -4611686018427387904 ≤ z ∧ z ≤ 4611686018427387904) : rW (some (encW x ++ r)) = (x, some r) := by
  rw [encW_split]
  have h' : (-4611686018427387904 ≤ x.b ∧ x.b ≤ 4611686018427387904) ∧ (-4611686018427387904 ≤ x.c ∧ x.c ≤ 4611686018427387904) ∧ (-4611686018427387904 ≤ x.d ∧ x.d ≤ 4611686018427387904) ∧ (-4611686018427387904 ≤ x.m0 ∧ x.m0 ≤ 4611686018427387904) ∧ (-4611686018427387904 ≤ x.m1 ∧ x.m1 ≤ 4611686018427387904) ∧ (-4611686018427387904 ≤ x.m2 ∧ x.m2 ≤ 4611686018427387904) ∧ (-4611686018427387904 ≤ x.p ∧ x.p ≤ 4611686018427387904) := ⟨h x.b (by simp [W7.list]), h x.c (by simp [W7.list]), h x.d (by simp [W7.list]), h x.m0 (by simp [W7.list]), h x.m1 (by simp [W7.list]), h x.m2 (by simp [W7.list]), h x.p (by simp [W7.list])⟩
  obtain ⟨h0, h1, h2, h3, h4, h5, h6⟩ := h'
  unfold rW
  simp only [rS_fwd _ h0.1 h0.2, rS_fwd _ h1.1 h1.2, rS_fwd _ h2.1 h2.2, rS_fwd _ h3.1 h3.2, rS_fwd _ h4.1 h4.2, rS_fwd _ h5.1 h5.2, rS_fwd _ h6.1 h6.2]
/-- The same, in the bounds of all. -/
def rTW (s : Rs) : W7 × Rs :=
  (⟨(rF s).1, (rF (rF s).2).1, (rF (rF (rF s).2).2).1, (rF (rF (rF (rF s).2).2).2).1, (rF (rF (rF (rF (rF s).2).2).2).2).1, (rF (rF (rF (rF (rF (rF s).2).2).2).2).2).1, (rF (rF (rF (rF (rF (rF (rF s).2).2).2).2).2).2).1⟩, (rF (rF (rF (rF (rF (rF (rF s).2).2).2).2).2).2).2)
theorem rTW_fwd (x : W7) (r : List UInt8) (h : ∀ z ∈ x.list, In64 z) : rTW (some (encW x ++ r)) = (x, some r) := by
  rw [encW_split]
  have h' : In64 x.b ∧ In64 x.c ∧ In64 x.d ∧ In64 x.m0 ∧ In64 x.m1 ∧ In64 x.m2 ∧ In64 x.p := ⟨h x.b (by simp [W7.list]), h x.c (by simp [W7.list]), h x.d (by simp [W7.list]), h x.m0 (by simp [W7.list]), h x.m1 (by simp [W7.list]), h x.m2 (by simp [W7.list]), h x.p (by simp [W7.list])⟩
  obtain ⟨h0, h1, h2, h3, h4, h5, h6⟩ := h'
  unfold rTW
  simp only [rF_fwd _ h0, rF_fwd _ h1, rF_fwd _ h2, rF_fwd _ h3, rF_fwd _ h4, rF_fwd _ h5, rF_fwd _ h6]
theorem rTW_back (l r : List UInt8) (h : (rTW (some l)).2 = some r) : l = encW (rTW (some l)).1 ++ r := by
  obtain ⟨v1, s1, e1⟩ : ∃ v t, rF (some l) = (v, t) := ⟨_, _, rfl⟩
  obtain ⟨v2, s2, e2⟩ : ∃ v t, rF s1 = (v, t) := ⟨_, _, rfl⟩
  obtain ⟨v3, s3, e3⟩ : ∃ v t, rF s2 = (v, t) := ⟨_, _, rfl⟩
  obtain ⟨v4, s4, e4⟩ : ∃ v t, rF s3 = (v, t) := ⟨_, _, rfl⟩
  obtain ⟨v5, s5, e5⟩ : ∃ v t, rF s4 = (v, t) := ⟨_, _, rfl⟩
  obtain ⟨v6, s6, e6⟩ : ∃ v t, rF s5 = (v, t) := ⟨_, _, rfl⟩
  obtain ⟨v7, s7, e7⟩ : ∃ v t, rF s6 = (v, t) := ⟨_, _, rfl⟩
  have hw : rTW (some l) = (⟨v1, v2, v3, v4, v5, v6, v7⟩, s7) := by unfold rTW; simp only [e1, e2, e3, e4, e5, e6, e7]
  rw [hw] at h ⊢
  simp only at h ⊢
  subst h
  obtain ⟨q7, _⟩ := rInt_back e7
  subst q7
  obtain ⟨q6, _⟩ := rInt_back e6
  subst q6
  obtain ⟨q5, _⟩ := rInt_back e5
  subst q5
  obtain ⟨q4, _⟩ := rInt_back e4
  subst q4
  obtain ⟨q3, _⟩ := rInt_back e3
  subst q3
  obtain ⟨q2, _⟩ := rInt_back e2
  subst q2
  obtain ⟨q1, _⟩ := rInt_back e1
  injection q1 with q1
  rw [q1, encW_split]
theorem MayW_small (x : W7) (h : MayW x) : ∀ z ∈ x.list, -4611686018427387904 ≤ z ∧ z ≤ 4611686018427387904 := by
  intro z hz
  unfold W7.list at hz
  simp only [List.mem_cons, List.not_mem_nil, or_false] at hz
  unfold MayW UnitsOk at h
  omega
theorem MayW_fits (x : W7) (h : MayW x) : ∀ z ∈ x.list, In64 z := fun z hz => ⟨by have := MayW_small x h z hz; omega, by have := MayW_small x h z hz; omega⟩
theorem gW_yes (x : W7) (h : MayW x) : gW (encW x) = (x, 0) := by
  have := rW_fwd x [] (MayW_small x h)
  rw [List.append_nil] at this
  unfold gW
  rw [this]
  rw [if_pos ⟨rfl, h, rfl⟩]
theorem gW_or (l : List UInt8) : (∃ x, MayW x ∧ l = encW x ∧ gW l = (x, 0)) ∨ ((∀ x, MayW x → l ≠ encW x) ∧ gW l = (⟨0, 0, 0, 0, 0, 0, 0⟩, 2)) := by
  by_cases h : rEnd (rW (some l)).2 = 0 ∧ MayW (rW (some l)).1 ∧ encW (rW (some l)).1 = l
  · exact .inl ⟨_, h.2.1, h.2.2.symm, by unfold gW; rw [if_pos h]⟩
  · refine .inr ⟨fun x hx he => ?_, by unfold gW; rw [if_neg h]⟩
    have := gW_yes x hx
    rw [← he] at this
    unfold gW at this
    rw [if_neg h] at this
    have h2 := congrArg Prod.snd this
    simp at h2
theorem encW_inj (x y : W7) (r s : List UInt8) (hx : ∀ z ∈ x.list, In64 z) (hy : ∀ z ∈ y.list, In64 z) (h : encW x ++ r = encW y ++ s) : x = y ∧ r = s := by
  obtain ⟨e1, e2⟩ := encs_inj x.list y.list r s rfl hx hy h
  obtain ⟨a0, a1, a2, a3, a4, a5, a6⟩ := x
  obtain ⟨b0, b1, b2, b3, b4, b5, b6⟩ := y
  unfold W7.list at e1
  simp only [List.cons.injEq, and_true] at e1
  obtain ⟨rfl, rfl, rfl, rfl, rfl, rfl, rfl⟩ := e1
  exact ⟨rfl, e2⟩
theorem gW_cut (x : W7) (h : MayW x) (k : Nat) (hk : k < (encW x).length) : (gW ((encW x).take k)).2 = 2 := by
  rcases gW_or ((encW x).take k) with ⟨y, hy, he, hg⟩ | ⟨_, hg⟩
  · have h1 : encW x ++ [] = encW y ++ (encW x).drop k := by rw [List.append_nil, ← he, List.take_append_drop]
    have := (encW_inj x y _ _ (MayW_fits x h) (MayW_fits y hy) h1).2
    have h2 := congrArg List.length this
    rw [List.length_drop, List.length_nil] at h2
    omega
  · rw [hg]
/-- What the document's own answer tells of bytes. -/
def hW (l : List UInt8) : W7 × Int := if rEnd (rTW (some l)).2 = 0 ∧ MayW (rTW (some l)).1 then ((rTW (some l)).1, 0) else (⟨0, 0, 0, 0, 0, 0, 0⟩, 2)
theorem rEnd_0W {s : Rs} (h : rEnd s = 0) : s = some [] := by
  cases s with
  | none => cases h
  | some l => cases l with
    | nil => rfl
    | cons c l => cases h
theorem hW_is (l : List UInt8) : hW l = gW l := by
  by_cases h : rEnd (rTW (some l)).2 = 0 ∧ MayW (rTW (some l)).1
  · have he := rTW_back l [] (rEnd_0W h.1)
    rw [List.append_nil] at he
    have hg := gW_yes _ h.2
    rw [← he] at hg
    unfold hW
    rw [if_pos h, hg]
  · unfold hW
    rw [if_neg h]
    rcases gW_or l with ⟨x, hx, he, hg⟩ | ⟨_, hg⟩
    · exfalso
      apply h
      have := rTW_fwd x [] (MayW_fits x hx)
      rw [List.append_nil, ← he] at this
      rw [this]
      exact ⟨rfl, hx⟩
    · rw [hg]
theorem encO_split (x : O5) (r : List UInt8) : encO x ++ r = enc x.kind ++ (enc x.book ++ (enc x.units ++ (enc x.cust ++ (enc x.amount ++ (r))))) := by
  unfold encO O5.list encs
  simp
theorem rO_fwd (x : O5) (r : List UInt8) (h : ∀ z ∈ x.list, -4611686018427387904 ≤ z ∧ z ≤ 4611686018427387904) : rO (some (encO x ++ r)) = (x, some r) := by
  rw [encO_split]
  have h' : (-4611686018427387904 ≤ x.kind ∧ x.kind ≤ 4611686018427387904) ∧ (-4611686018427387904 ≤ x.book ∧ x.book ≤ 4611686018427387904) ∧ (-4611686018427387904 ≤ x.units ∧ x.units ≤ 4611686018427387904) ∧ (-4611686018427387904 ≤ x.cust ∧ x.cust ≤ 4611686018427387904) ∧ (-4611686018427387904 ≤ x.amount ∧ x.amount ≤ 4611686018427387904) := ⟨h x.kind (by simp [O5.list]), h x.book (by simp [O5.list]), h x.units (by simp [O5.list]), h x.cust (by simp [O5.list]), h x.amount (by simp [O5.list])⟩
  obtain ⟨h0, h1, h2, h3, h4⟩ := h'
  unfold rO
  simp only [rS_fwd _ h0.1 h0.2, rS_fwd _ h1.1 h1.2, rS_fwd _ h2.1 h2.2, rS_fwd _ h3.1 h3.2, rS_fwd _ h4.1 h4.2]
/-- The same, in the bounds of all. -/
def rTO (s : Rs) : O5 × Rs :=
  (⟨(rF s).1, (rF (rF s).2).1, (rF (rF (rF s).2).2).1, (rF (rF (rF (rF s).2).2).2).1, (rF (rF (rF (rF (rF s).2).2).2).2).1⟩, (rF (rF (rF (rF (rF s).2).2).2).2).2)
theorem rTO_fwd (x : O5) (r : List UInt8) (h : ∀ z ∈ x.list, In64 z) : rTO (some (encO x ++ r)) = (x, some r) := by
  rw [encO_split]
  have h' : In64 x.kind ∧ In64 x.book ∧ In64 x.units ∧ In64 x.cust ∧ In64 x.amount := ⟨h x.kind (by simp [O5.list]), h x.book (by simp [O5.list]), h x.units (by simp [O5.list]), h x.cust (by simp [O5.list]), h x.amount (by simp [O5.list])⟩
  obtain ⟨h0, h1, h2, h3, h4⟩ := h'
  unfold rTO
  simp only [rF_fwd _ h0, rF_fwd _ h1, rF_fwd _ h2, rF_fwd _ h3, rF_fwd _ h4]
theorem rTO_back (l r : List UInt8) (h : (rTO (some l)).2 = some r) : l = encO (rTO (some l)).1 ++ r := by
  obtain ⟨v1, s1, e1⟩ : ∃ v t, rF (some l) = (v, t) := ⟨_, _, rfl⟩
  obtain ⟨v2, s2, e2⟩ : ∃ v t, rF s1 = (v, t) := ⟨_, _, rfl⟩
  obtain ⟨v3, s3, e3⟩ : ∃ v t, rF s2 = (v, t) := ⟨_, _, rfl⟩
  obtain ⟨v4, s4, e4⟩ : ∃ v t, rF s3 = (v, t) := ⟨_, _, rfl⟩
  obtain ⟨v5, s5, e5⟩ : ∃ v t, rF s4 = (v, t) := ⟨_, _, rfl⟩
  have hw : rTO (some l) = (⟨v1, v2, v3, v4, v5⟩, s5) := by unfold rTO; simp only [e1, e2, e3, e4, e5]
  rw [hw] at h ⊢
  simp only at h ⊢
  subst h
  obtain ⟨q5, _⟩ := rInt_back e5
  subst q5
  obtain ⟨q4, _⟩ := rInt_back e4
  subst q4
  obtain ⟨q3, _⟩ := rInt_back e3
  subst q3
  obtain ⟨q2, _⟩ := rInt_back e2
  subst q2
  obtain ⟨q1, _⟩ := rInt_back e1
  injection q1 with q1
  rw [q1, encO_split]
theorem MayO_small (x : O5) (h : MayO x) : ∀ z ∈ x.list, -4611686018427387904 ≤ z ∧ z ≤ 4611686018427387904 := by
  intro z hz
  unfold O5.list at hz
  simp only [List.mem_cons, List.not_mem_nil, or_false] at hz
  unfold MayO UnitsO MoneyO at h
  omega
theorem MayO_fits (x : O5) (h : MayO x) : ∀ z ∈ x.list, In64 z := fun z hz => ⟨by have := MayO_small x h z hz; omega, by have := MayO_small x h z hz; omega⟩
theorem gO_yes (x : O5) (h : MayO x) : gO (encO x) = (x, 0) := by
  have := rO_fwd x [] (MayO_small x h)
  rw [List.append_nil] at this
  unfold gO
  rw [this]
  rw [if_pos ⟨rfl, h, rfl⟩]
theorem gO_or (l : List UInt8) : (∃ x, MayO x ∧ l = encO x ∧ gO l = (x, 0)) ∨ ((∀ x, MayO x → l ≠ encO x) ∧ gO l = (⟨0, 0, 0, 0, 0⟩, 2)) := by
  by_cases h : rEnd (rO (some l)).2 = 0 ∧ MayO (rO (some l)).1 ∧ encO (rO (some l)).1 = l
  · exact .inl ⟨_, h.2.1, h.2.2.symm, by unfold gO; rw [if_pos h]⟩
  · refine .inr ⟨fun x hx he => ?_, by unfold gO; rw [if_neg h]⟩
    have := gO_yes x hx
    rw [← he] at this
    unfold gO at this
    rw [if_neg h] at this
    have h2 := congrArg Prod.snd this
    simp at h2
theorem encO_inj (x y : O5) (r s : List UInt8) (hx : ∀ z ∈ x.list, In64 z) (hy : ∀ z ∈ y.list, In64 z) (h : encO x ++ r = encO y ++ s) : x = y ∧ r = s := by
  obtain ⟨e1, e2⟩ := encs_inj x.list y.list r s rfl hx hy h
  obtain ⟨a0, a1, a2, a3, a4⟩ := x
  obtain ⟨b0, b1, b2, b3, b4⟩ := y
  unfold O5.list at e1
  simp only [List.cons.injEq, and_true] at e1
  obtain ⟨rfl, rfl, rfl, rfl, rfl⟩ := e1
  exact ⟨rfl, e2⟩
theorem gO_cut (x : O5) (h : MayO x) (k : Nat) (hk : k < (encO x).length) : (gO ((encO x).take k)).2 = 2 := by
  rcases gO_or ((encO x).take k) with ⟨y, hy, he, hg⟩ | ⟨_, hg⟩
  · have h1 : encO x ++ [] = encO y ++ (encO x).drop k := by rw [List.append_nil, ← he, List.take_append_drop]
    have := (encO_inj x y _ _ (MayO_fits x h) (MayO_fits y hy) h1).2
    have h2 := congrArg List.length this
    rw [List.length_drop, List.length_nil] at h2
    omega
  · rw [hg]
/-- What the document's own answer tells of bytes. -/
def hO (l : List UInt8) : O5 × Int := if rEnd (rTO (some l)).2 = 0 ∧ MayO (rTO (some l)).1 then ((rTO (some l)).1, 0) else (⟨0, 0, 0, 0, 0⟩, 2)
theorem rEnd_0O {s : Rs} (h : rEnd s = 0) : s = some [] := by
  cases s with
  | none => cases h
  | some l => cases l with
    | nil => rfl
    | cons c l => cases h
theorem hO_is (l : List UInt8) : hO l = gO l := by
  by_cases h : rEnd (rTO (some l)).2 = 0 ∧ MayO (rTO (some l)).1
  · have he := rTO_back l [] (rEnd_0O h.1)
    rw [List.append_nil] at he
    have hg := gO_yes _ h.2
    rw [← he] at hg
    unfold hO
    rw [if_pos h, hg]
  · unfold hO
    rw [if_neg h]
    rcases gO_or l with ⟨x, hx, he, hg⟩ | ⟨_, hg⟩
    · exfalso
      apply h
      have := rTO_fwd x [] (MayO_fits x hx)
      rw [List.append_nil, ← he] at this
      rw [this]
      exact ⟨rfl, hx⟩
    · rw [hg]
end Go.Proofs.Ytebinhelnhnbeaa
