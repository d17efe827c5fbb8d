/- What was put is read: in plain lists. -/
import Derived.Test.YtebinhelnhnbeaaOpenO
import Derived.Test.YtebinhelnhnbeaaPackR6
set_option linter.unusedSimpArgs false
set_option linter.unusedVariables false
namespace Go.Proofs.Ytebinhelnhnbeaa
open Go.RowKit
def opEnc (o : OpV) : List UInt8 := if o.kind = 0 then enc o.n else if o.kind = 1 then encT o.s.data.toList else [UInt8.ofNat (o.n % 256).toNat]
def lo64 : Int := -9223372036854775808
def hi64 : Int := 9223372036854775807
theorem opEnc_pos (o : OpV) : 0 < (opEnc o).length := by
  unfold opEnc
  split
  · exact enc_pos _
  · split
    · unfold encT; rw [List.length_append]; have := enc_pos (o.s.data.toList.length : Int); omega
    · simp
/-- A reader of a beginning of what is to come: q is what was cut off. -/
def St (q rest : List UInt8) (s : Rs) : Prop := (s = none ∧ q ≠ []) ∨ ∃ p, s = some p ∧ p ++ q = rest
theorem St.bad {q rest : List UInt8} (h : q ≠ []) : St q rest none := .inl ⟨rfl, h⟩
theorem St.end_ {q : List UInt8} {s : Rs} (h : St q [] s) : (q = [] → s = some []) ∧ (q ≠ [] → s = none) := by
  rcases h with ⟨rfl, h⟩ | ⟨p, rfl, h⟩
  · exact ⟨fun e => absurd e h, fun _ => rfl⟩
  · rw [List.append_eq_nil_iff] at h
    exact ⟨fun _ => by rw [h.1], fun e => absurd h.2 e⟩
theorem rInt_pre (lo hi v : Int) (q rest : List UInt8) (s : Rs) (h0 : In64 v) (hl : lo ≤ v) (hh : v ≤ hi) (h : St q (enc v ++ rest) s) :
    St q rest (rInt lo hi s).2 ∧ (q = [] → (rInt lo hi s).1 = v) ∧ ((rInt lo hi s).2 ≠ none → (rInt lo hi s).1 = v) := by
  rcases h with ⟨rfl, hq⟩ | ⟨p, rfl, hp⟩
  · exact ⟨St.bad hq, fun e => absurd e hq, fun e => absurd rfl e⟩
  · unfold rInt
    cases h' : dec lo hi p with
    | none =>
      simp only [h']
      have hq : q ≠ [] := by
        rintro rfl
        rw [List.append_nil] at hp
        rw [hp, dec_enc lo hi v rest h0.1 h0.2 hl hh] at h'
        cases h'
      exact ⟨St.bad hq, fun e => absurd e hq, fun e => absurd rfl e⟩
    | some x =>
      obtain ⟨v', r⟩ := x
      simp only [h']
      have hd := dec_is h'
      have he := enc_inj (v := v') (w := v) (r := r ++ q) (s := rest) ⟨hd.2.2.2.1, hd.2.2.2.2⟩ h0 (by rw [← hp, hd.1, List.append_assoc])
      exact ⟨.inr ⟨r, rfl, he.2⟩, fun _ => he.1, fun _ => he.1⟩
theorem rByte_pre (c : UInt8) (q rest : List UInt8) (s : Rs) (h : St q (c :: rest) s) : St q rest (rByte s).2 ∧ (q = [] → (rByte s).1 = (c.toNat : Int)) := by
  rcases h with ⟨rfl, hq⟩ | ⟨p, rfl, hp⟩
  · exact ⟨St.bad hq, fun e => absurd e hq⟩
  · cases p with
    | nil =>
      have hq : q ≠ [] := by rintro rfl; simp at hp
      exact ⟨St.bad hq, fun e => absurd e hq⟩
    | cons x p =>
      simp at hp
      exact ⟨.inr ⟨p, rfl, hp.2⟩, fun _ => by rw [← hp.1]; rfl⟩
theorem rText_pre (l : List UInt8) (hl : l.length ≤ 100) (q rest : List UInt8) (s : Rs) (h : St q (encT l ++ rest) s) : St q rest (rText 100 s).2 ∧ (q = [] → (rText 100 s).1 = l) := by
  unfold encT at h
  rw [List.append_assoc] at h
  obtain ⟨h1, h2, h3⟩ := rInt_pre 0 (max 100 0) (l.length : Int) q (l ++ rest) s ⟨by omega, by omega⟩ (by omega) (by omega) h
  rw [rText_eq]
  rcases h1 with ⟨e, hq⟩ | ⟨p, e, hp⟩
  · rw [e]
    have : (rInt 0 (max 100 0) s).1 = 0 := rInt_bad _ _ _ e
    rw [if_pos this]
    exact ⟨St.bad hq, fun e => absurd e hq⟩
  · rw [e]
    have hv := h3 (by rw [e]; simp)
    rw [hv]
    by_cases h0 : l.length = 0
    · rw [if_pos (by omega)]
      have : l = [] := List.eq_nil_of_length_eq_zero h0
      subst this
      exact ⟨.inr ⟨p, rfl, hp⟩, fun _ => rfl⟩
    · rw [if_neg (by omega), Int.toNat_natCast]
      unfold rTake
      simp only
      by_cases hle : l.length ≤ p.length
      · rw [if_pos hle]
        refine ⟨.inr ⟨_, rfl, ?_⟩, fun _ => ?_⟩
        · have := congrArg (List.drop l.length) hp
          rw [List.drop_append_of_le_length hle, List.drop_left] at this
          exact this
        · have := congrArg (List.take l.length) hp
          rw [List.take_append_of_le_length hle, List.take_left] at this
          exact this
      · rw [if_neg hle]
        have hq : q ≠ [] := by
          rintro rfl
          have := congrArg List.length hp
          simp at this
          omega
        exact ⟨St.bad hq, fun e => absurd e hq⟩
def allEnc (os : List OpV) : List UInt8 := os.flatMap opEnc
theorem allEnc_snoc (os : List OpV) (k : Nat) (o : OpV) (h : os[k]? = some o) : allEnc (os.take (k + 1)) = allEnc (os.take k) ++ opEnc o := by
  have e : os.take (k + 1) = os.take k ++ [o] := by rw [List.take_add_one, h]; rfl
  unfold allEnc
  rw [e]
  simp
theorem allEnc_drop (os : List OpV) (k : Nat) (o : OpV) (h : os[k]? = some o) : allEnc (os.drop k) = opEnc o ++ allEnc (os.drop (k + 1)) := by
  have hk : k < os.length := (List.getElem?_eq_some_iff.1 h).1
  have e : os[k] = o := (List.getElem?_eq_some_iff.1 h).2
  unfold allEnc
  rw [List.drop_eq_getElem_cons hk, e]
  simp
theorem allEnc_pos (os : List OpV) (h : 0 < os.length) : 0 < (allEnc os).length := by
  cases os with
  | nil => simp at h
  | cons o os => unfold allEnc; rw [List.flatMap_cons, List.length_append]; have := opEnc_pos o; omega
end Go.Proofs.Ytebinhelnhnbeaa
