/- Records: which may be, their bytes, what is read (plain lists). -/
import Derived.Test.YtplgodfhhlnojaaS8
import Derived.Test.YtplgodfhhlnojaaB8
set_option linter.unusedSimpArgs false
set_option linter.unusedVariables false
namespace Go.Proofs.Ytplgodfhhlnojaa
open Go.RowKit
structure R19 where
  (k now ans : Int) (o : O5) (s : S11)
def R19.val (r : R19) : Value := .agg #[.int .i64 r.k, .int .i64 r.now, .int .i64 r.ans, .int .i64 r.o.kind, .int .i64 r.o.book, .int .i64 r.o.units, .int .i64 r.o.cust, .int .i64 r.o.amount, .int .i64 r.s.w.b, .int .i64 r.s.w.c, .int .i64 r.s.w.d, .int .i64 r.s.w.m0, .int .i64 r.s.w.m1, .int .i64 r.s.w.m2, .int .i64 r.s.w.p, .int .i64 r.s.ph, .int .i64 r.s.st, .int .i64 r.s.re, .int .i64 r.s.si]
def zO : O5 := ⟨0, 0, 0, 0, 0⟩
def zR : R19 := ⟨0, 0, 0, zO, z11⟩
theorem O5_ext2 {x y : O5} : x = y ↔ x.kind = y.kind ∧ x.book = y.book ∧ x.units = y.units ∧ x.cust = y.cust ∧ x.amount = y.amount := by
  cases x; cases y; simp
instance decO5 : DecidableEq O5 := fun _ _ => decidable_of_iff _ O5_ext2.symm
theorem R19_ext {x y : R19} : x = y ↔ x.k = y.k ∧ x.now = y.now ∧ x.ans = y.ans ∧ x.o = y.o ∧ x.s = y.s := by
  cases x; cases y; simp
instance : DecidableEq R19 := fun _ _ => decidable_of_iff _ R19_ext.symm
def MayR (r : R19) : Prop := (0 ≤ r.now ∧ r.now ≤ 1099511627776) ∧ ((r.k = 1 ∧ MayO r.o ∧ (r.ans = 1 ∨ r.ans = 2) ∧ r.s = z11) ∨ (r.k = 2 ∧ r.o = zO ∧ r.ans = 0 ∧ r.s = z11) ∨ (r.k = 3 ∧ MayS r.s ∧ r.o = zO ∧ r.ans = 0))
instance (r : R19) : Decidable (MayR r) := by unfold MayR; infer_instance
def encR (r : R19) : List UInt8 := enc r.k ++ enc r.now ++ (if r.k = 1 then encT (encO r.o) ++ enc r.ans else if r.k = 3 then encT (encS r.s) else [])
theorem encO_le (x : O5) : (encO x).length ≤ 50 := by have := encs_le x.list; simpa [encO, O5.list] using this
theorem encT_le (l : List UInt8) : (encT l).length ≤ l.length + 10 := by unfold encT; have := enc_le (l.length : Int); simp; omega
theorem encR_le (r : R19) : (encR r).length ≤ 200 := by
  unfold encR
  have h1 := enc_le r.k
  have h2 := enc_le r.now
  split
  · have h3 := enc_le r.ans; have h4 := encT_le (encO r.o); have h5 := encO_le r.o; simp; omega
  · split
    · have h4 := encT_le (encS r.s); have h5 := encS_le r.s; simp; omega
    · simp; omega
/-- A number of a record. -/
def rN (s : Rs) : Int × Rs := rInt 0 1099511627776 s
theorem rN_fwd {v : Int} (r : List UInt8) (h0 : 0 ≤ v) (h1 : v ≤ 1099511627776) : rN (some (enc v ++ r)) = (v, some r) := rInt_fwd r ⟨by omega, by omega⟩ h0 h1
theorem rText_fwd (t r : List UInt8) (h : t.length ≤ 1000) : rText 1000 (some (encT t ++ r)) = (t, some r) := by
  unfold rText encT
  rw [List.append_assoc, rInt_fwd (t ++ r) ⟨by omega, by omega⟩ (by omega) (by omega)]
  simp
theorem rText_back {l t r : List UInt8} (h : rText 1000 (some l) = (t, some r)) : l = encT t ++ r := by
  unfold rText at h
  obtain ⟨v, s, e⟩ : ∃ v s, rInt 0 (max 1000 0) (some l) = (v, s) := ⟨_, _, rfl⟩
  rw [e] at h
  cases s with
  | none => simp at h
  | some q =>
    obtain ⟨e1, h0, _, _⟩ := rInt_back e
    injection e1 with e1
    simp only at h
    split at h
    · rename_i hv
      injection h with h1 h2
      injection h2 with h2
      subst h1 h2
      have hl : ((q.take v.toNat).length : Int) = v := by rw [List.length_take]; omega
      unfold encT
      rw [hl, e1, List.append_assoc, List.take_append_drop]
    · injection h with h1 h2
      cases h2
theorem gO_z (l : List UInt8) (h : (gO l).2 ≠ 0) : gO l = (zO, 2) := by
  rcases gO_or l with ⟨x, _, _, e⟩ | ⟨_, e⟩
  · rw [e] at h; exact absurd rfl h
  · exact e
theorem gO_enc {l : List UInt8} {x : O5} (h : gO l = (x, 0)) : l = encO x ∧ MayO x := by
  rcases gO_or l with ⟨y, h1, h2, e⟩ | ⟨_, e⟩
  · rw [e] at h; injection h with h3 _; subst h3; exact ⟨h2, h1⟩
  · rw [e] at h; injection h with _ h3; cases h3
theorem gS_enc {l : List UInt8} {x : S11} (h : gS l = (x, 0)) : l = encS x ∧ MayS x := by
  rcases gS_or l with ⟨y, h1, h2, e⟩ | ⟨_, e⟩
  · rw [e] at h; injection h with h3 _; subst h3; exact ⟨h2, h1⟩
  · rw [e] at h; injection h with _ h3; cases h3
/-- A record that is read, whatever stands there, by a reader of numbers; is its part right? -/
def rRec (f : Rs → Int × Rs) (s : Rs) : R19 × Int × Rs :=
  if (f s).1 = 1 then (⟨(f s).1, (f (f s).2).1, (f (rText 1000 (f (f s).2).2).2).1, (gO (rText 1000 (f (f s).2).2).1).1, z11⟩, (gO (rText 1000 (f (f s).2).2).1).2, (f (rText 1000 (f (f s).2).2).2).2)
  else if (f s).1 = 3 then (⟨(f s).1, (f (f s).2).1, 0, zO, (gS (rText 1000 (f (f s).2).2).1).1⟩, (gS (rText 1000 (f (f s).2).2).1).2, (rText 1000 (f (f s).2).2).2)
  else (⟨(f s).1, (f (f s).2).1, 0, zO, z11⟩, 0, (f (f s).2).2)
/-- What record.Get tells of bytes. -/
def gR (l : List UInt8) : R19 × Int := if (rRec rN (some l)).2.1 = 0 ∧ rEnd (rRec rN (some l)).2.2 = 0 ∧ MayR (rRec rN (some l)).1 ∧ encR (rRec rN (some l)).1 = l then ((rRec rN (some l)).1, 0) else (zR, 2)
/-- What the document's own answer tells of them. -/
def hR (l : List UInt8) : R19 × Int := if (rRec rF (some l)).2.1 = 0 ∧ rEnd (rRec rF (some l)).2.2 = 0 ∧ MayR (rRec rF (some l)).1 then ((rRec rF (some l)).1, 0) else (zR, 2)
theorem rRec_fwd (f : Rs → Int × Rs) (hf : ∀ (v : Int) (r : List UInt8), 0 ≤ v → v ≤ 1099511627776 → f (some (enc v ++ r)) = (v, some r)) (x : R19) (h : MayR x) (r : List UInt8) : rRec f (some (encR x ++ r)) = (x, 0, some r) := by
  obtain ⟨k, now, ans, o, s⟩ := x
  obtain ⟨⟨n0, n1⟩, h⟩ := h
  simp only at n0 n1 h
  unfold rRec encR
  simp only [List.append_assoc]
  rcases h with ⟨rfl, ho, ha, rfl⟩ | ⟨rfl, rfl, rfl, rfl⟩ | ⟨rfl, hs, rfl, rfl⟩
  · rw [hf 1 _ (by omega) (by omega)]
    simp only [if_pos, hf now _ n0 n1, List.append_assoc]
    rw [rText_fwd (encO o) _ (by have := encO_le o; omega)]
    simp only [hf ans _ (by omega) (by omega), gO_yes o ho]
  · rw [hf 2 _ (by omega) (by omega)]
    simp [hf now _ n0 n1]
  · rw [hf 3 _ (by omega) (by omega)]
    simp only [show ¬ (3 : Int) = 1 from by omega, if_false, if_pos, hf now _ n0 n1, List.append_assoc]
    rw [rText_fwd (encS s) _ (by have := encS_le s; omega)]
    simp only [gS_yes s hs]
theorem rRec_back (f : Rs → Int × Rs) (hf : ∀ (s : Rs) (v : Int) (r : List UInt8), f s = (v, some r) → s = some (enc v ++ r)) (hn : ∀ s, (f s).2 = none → (f s).1 = 0) (l r : List UInt8) (h : (rRec f (some l)).2.2 = some r) (h2 : (rRec f (some l)).2.1 = 0) : l = encR (rRec f (some l)).1 ++ r := by
  obtain ⟨k, s1, e1⟩ : ∃ v t, f (some l) = (v, t) := ⟨_, _, rfl⟩
  obtain ⟨now, s2, e2⟩ : ∃ v t, f s1 = (v, t) := ⟨_, _, rfl⟩
  unfold rRec at h h2 ⊢
  simp only [e1, e2] at h h2 ⊢
  have two : ∀ q, s2 = some q → l = enc k ++ (enc now ++ q) := by
    rintro q rfl
    have := hf _ _ _ e2
    subst this
    have := hf _ _ _ e1
    injection this
  by_cases h1 : k = 1
  · subst h1
    obtain ⟨t, s3, e3⟩ : ∃ v u, rText 1000 s2 = (v, u) := ⟨_, _, rfl⟩
    obtain ⟨ans, s4, e4⟩ : ∃ v u, f s3 = (v, u) := ⟨_, _, rfl⟩
    simp only [if_pos, e3, e4] at h h2 ⊢
    subst h
    have := hf _ _ _ e4
    subst this
    obtain ⟨o, e, hg⟩ : ∃ o e, gO t = (o, e) := ⟨_, _, rfl⟩
    rw [hg] at h2 ⊢
    simp only at h2 ⊢
    subst h2
    obtain ⟨rfl, _⟩ := gO_enc hg
    cases s2 with
    | none => rw [rText_none] at e3; injection e3 with _ e3; cases e3
    | some q =>
      have e5 := rText_back e3
      rw [two q rfl, e5]
      unfold encR
      simp
  · by_cases h3 : k = 3
    · subst h3
      obtain ⟨t, s3, e3⟩ : ∃ v u, rText 1000 s2 = (v, u) := ⟨_, _, rfl⟩
      simp only [show ¬ (3 : Int) = 1 from by omega, if_false, if_pos, e3] at h h2 ⊢
      subst h
      obtain ⟨o, e, hg⟩ : ∃ o e, gS t = (o, e) := ⟨_, _, rfl⟩
      rw [hg] at h2 ⊢
      simp only at h2 ⊢
      subst h2
      obtain ⟨rfl, _⟩ := gS_enc hg
      cases s2 with
      | none => rw [rText_none] at e3; injection e3 with _ e3; cases e3
      | some q =>
        have e5 := rText_back e3
        rw [two q rfl, e5]
        unfold encR
        simp
    · simp only [if_neg h1, if_neg h3] at h ⊢
      rw [two r h]
      unfold encR
      simp [h1, h3]
theorem rN_back (s : Rs) (v : Int) (r : List UInt8) (h : rN s = (v, some r)) : s = some (enc v ++ r) := (rInt_back h).1
theorem rF_back (s : Rs) (v : Int) (r : List UInt8) (h : rF s = (v, some r)) : s = some (enc v ++ r) := (rInt_back h).1
theorem MayR_in (x : R19) (h : MayR x) : In64 x.k ∧ In64 x.now ∧ In64 x.ans ∧ (∀ z ∈ x.o.list, In64 z) ∧ (∀ z ∈ x.s.list, In64 z) := by
  obtain ⟨k, now, ans, o, s⟩ := x
  obtain ⟨⟨n0, n1⟩, h⟩ := h
  simp only at n0 n1 h ⊢
  have zo : ∀ z ∈ zO.list, In64 z := by intro z hz; simp [O5.list, zO] at hz; subst hz; exact ⟨by omega, by omega⟩
  have zs : ∀ z ∈ z11.list, In64 z := by intro z hz; simp [S11.list, z11] at hz; subst hz; exact ⟨by omega, by omega⟩
  rcases h with ⟨rfl, ho, ha, rfl⟩ | ⟨rfl, rfl, rfl, rfl⟩ | ⟨rfl, hs, rfl, rfl⟩
  · exact ⟨⟨by omega, by omega⟩, ⟨by omega, by omega⟩, ⟨by omega, by omega⟩, MayO_fits o ho, zs⟩
  · exact ⟨⟨by omega, by omega⟩, ⟨by omega, by omega⟩, ⟨by omega, by omega⟩, zo, zs⟩
  · exact ⟨⟨by omega, by omega⟩, ⟨by omega, by omega⟩, ⟨by omega, by omega⟩, zo, MayS_fits s hs⟩
theorem gR_yes (x : R19) (h : MayR x) : gR (encR x) = (x, 0) := by
  have := rRec_fwd rN (fun v r => rN_fwd r) x h []
  rw [List.append_nil] at this
  unfold gR
  rw [this]
  exact if_pos ⟨rfl, rfl, h, rfl⟩
theorem gR_or (l : List UInt8) : (∃ x, MayR x ∧ l = encR x ∧ gR l = (x, 0)) ∨ ((∀ x, MayR x → l ≠ encR x) ∧ gR l = (zR, 2)) := by
  by_cases h : (rRec rN (some l)).2.1 = 0 ∧ rEnd (rRec rN (some l)).2.2 = 0 ∧ MayR (rRec rN (some l)).1 ∧ encR (rRec rN (some l)).1 = l
  · exact .inl ⟨_, h.2.2.1, h.2.2.2.symm, by unfold gR; rw [if_pos h]⟩
  · refine .inr ⟨fun x hx he => ?_, by unfold gR; rw [if_neg h]⟩
    have := gR_yes x hx
    rw [← he] at this
    unfold gR at this
    rw [if_neg h] at this
    have h2 := congrArg Prod.snd this
    simp at h2
theorem rRec_same (a b : R19) (r s : List UInt8) (ha : MayR a) (hb : MayR b) (h : encR a ++ r = encR b ++ s) : a = b ∧ r = s := by
  have h1 := rRec_fwd rN (fun v r => rN_fwd r) a ha r
  rw [h, rRec_fwd rN (fun v r => rN_fwd r) b hb s] at h1
  injection h1 with h1 h2
  injection h2 with _ h2
  injection h2 with h2
  exact ⟨h1.symm, h2.symm⟩
theorem gR_cut (x : R19) (h : MayR x) (k : Nat) (hk : k < (encR x).length) : gR ((encR x).take k) = (zR, 2) := by
  rcases gR_or ((encR x).take k) with ⟨y, hy, he, hg⟩ | ⟨_, hg⟩
  · have h1 : encR x ++ [] = encR y ++ (encR x).drop k := by rw [List.append_nil, ← he, List.take_append_drop]
    have := (rRec_same x y _ _ h hy h1).2
    have h2 := congrArg List.length this
    rw [List.length_drop, List.length_nil] at h2
    omega
  · exact hg
theorem gR_more (x : R19) (h : MayR x) (c : UInt8) : gR (encR x ++ [c]) = (zR, 2) := by
  rcases gR_or (encR x ++ [c]) with ⟨y, hy, he, hg⟩ | ⟨_, hg⟩
  · have h1 : encR x ++ [c] = encR y ++ [] := by rw [List.append_nil, ← he]
    have := (rRec_same x y _ _ h hy h1).2
    cases this
  · exact hg
theorem hR_is (l : List UInt8) : hR l = gR l := by
  by_cases h : (rRec rF (some l)).2.1 = 0 ∧ rEnd (rRec rF (some l)).2.2 = 0 ∧ MayR (rRec rF (some l)).1
  · have he := rRec_back rF rF_back (fun s hs => rInt_bad _ _ s hs) l [] (rEnd_0S h.2.1) h.1
    rw [List.append_nil] at he
    have hg := gR_yes _ h.2.2
    rw [← he] at hg
    unfold hR
    rw [if_pos h, hg]
  · unfold hR
    rw [if_neg h]
    rcases gR_or l with ⟨x, hx, he, hg⟩ | ⟨_, hg⟩
    · exfalso
      apply h
      have := rRec_fwd rF (fun v r h0 h1 => rF_fwd r ⟨by omega, by omega⟩) x hx []
      rw [List.append_nil, ← he] at this
      rw [this]
      exact ⟨rfl, rfl, hx⟩
    · rw [hg]
end Go.Proofs.Ytplgodfhhlnojaa
