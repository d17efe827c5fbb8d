/- SgB0, SgB1, merged. -/
import Derived.Test.YtplgodfhhlnojaaB5
import Derived.Test.YtplgodfhhlnojaaS7
import Derived.Test.YtplgodfhhlnojaaS1
import Derived.Test.YtplgodfhhlnojaaB4
set_option linter.unusedSimpArgs false
set_option linter.unusedVariables false
/- What saga.Put, saga.Get and the document's own answer tell, in plain lists. -/
namespace Go.Proofs.Ytplgodfhhlnojaa
open Go.RowKit
def S11.list (s : S11) : List Int := [s.w.b, s.w.c, s.w.d, s.w.m0, s.w.m1, s.w.m2, s.w.p, s.ph, s.st, s.re, s.si]
theorem S11.list_eq (s : S11) : s.list = s.w.list ++ [s.ph, s.st, s.re, s.si] := rfl
/-- A saga's numbers as bytes. -/
def encS (x : S11) : List UInt8 := encs x.list
theorem encS_eq (s : S11) : encS s = encW s.w ++ encs [s.ph, s.st, s.re, s.si] := by unfold encS encW; rw [S11.list_eq, encs_app]
theorem encS_le (s : S11) : (encS s).length ≤ 110 := by have := encs_le s.list; simpa [encS, S11.list] using this
/-- A saga that is read, whatever stands there. -/
def rSg (s : Rs) : S11 × Rs := (⟨⟨(rS s).1, (rS (rS s).2).1, (rS (rS (rS s).2).2).1, (rS (rS (rS (rS s).2).2).2).1, (rS (rS (rS (rS (rS s).2).2).2).2).1, (rS (rS (rS (rS (rS (rS s).2).2).2).2).2).1, (rS (rS (rS (rS (rS (rS (rS s).2).2).2).2).2).2).1⟩, (rS (rS (rS (rS (rS (rS (rS (rS s).2).2).2).2).2).2).2).1, (rS (rS (rS (rS (rS (rS (rS (rS (rS s).2).2).2).2).2).2).2).2).1, (rS (rS (rS (rS (rS (rS (rS (rS (rS (rS s).2).2).2).2).2).2).2).2).2).1, (rS (rS (rS (rS (rS (rS (rS (rS (rS (rS (rS s).2).2).2).2).2).2).2).2).2).2).1⟩, (rS (rS (rS (rS (rS (rS (rS (rS (rS (rS (rS s).2).2).2).2).2).2).2).2).2).2).2)
/-- What Get tells of bytes. -/
def gS (l : List UInt8) : S11 × Int := if rEnd (rSg (some l)).2 = 0 ∧ MayS (rSg (some l)).1 ∧ encS (rSg (some l)).1 = l then ((rSg (some l)).1, 0) else (z11, 2)
theorem rSg_in (s : Rs) : ∀ z ∈ S11.list (rSg s).1, In64 z := by
  intro z hz
  unfold rSg S11.list at hz
  simp only [List.mem_cons, List.not_mem_nil, or_false] at hz
  rcases hz with rfl | rfl | rfl | rfl | rfl | rfl | rfl | rfl | rfl | rfl | rfl <;> exact rS_in _
theorem encS_split (x : S11) (r : List UInt8) : encS x ++ r = enc x.w.b ++ (enc x.w.c ++ (enc x.w.d ++ (enc x.w.m0 ++ (enc x.w.m1 ++ (enc x.w.m2 ++ (enc x.w.p ++ (enc x.ph ++ (enc x.st ++ (enc x.re ++ (enc x.si ++ (r))))))))))) := by
  unfold encS S11.list encs
  simp
theorem rSg_fwd (x : S11) (r : List UInt8) (h : ∀ z ∈ x.list, -4611686018427387904 ≤ z ∧ z ≤ 4611686018427387904) : rSg (some (encS x ++ r)) = (x, some r) := by
  rw [encS_split]
  have h' : (-4611686018427387904 ≤ x.w.b ∧ x.w.b ≤ 4611686018427387904) ∧ (-4611686018427387904 ≤ x.w.c ∧ x.w.c ≤ 4611686018427387904) ∧ (-4611686018427387904 ≤ x.w.d ∧ x.w.d ≤ 4611686018427387904) ∧ (-4611686018427387904 ≤ x.w.m0 ∧ x.w.m0 ≤ 4611686018427387904) ∧ (-4611686018427387904 ≤ x.w.m1 ∧ x.w.m1 ≤ 4611686018427387904) ∧ (-4611686018427387904 ≤ x.w.m2 ∧ x.w.m2 ≤ 4611686018427387904) ∧ (-4611686018427387904 ≤ x.w.p ∧ x.w.p ≤ 4611686018427387904) ∧ (-4611686018427387904 ≤ x.ph ∧ x.ph ≤ 4611686018427387904) ∧ (-4611686018427387904 ≤ x.st ∧ x.st ≤ 4611686018427387904) ∧ (-4611686018427387904 ≤ x.re ∧ x.re ≤ 4611686018427387904) ∧ (-4611686018427387904 ≤ x.si ∧ x.si ≤ 4611686018427387904) := ⟨h x.w.b (by simp [S11.list]), h x.w.c (by simp [S11.list]), h x.w.d (by simp [S11.list]), h x.w.m0 (by simp [S11.list]), h x.w.m1 (by simp [S11.list]), h x.w.m2 (by simp [S11.list]), h x.w.p (by simp [S11.list]), h x.ph (by simp [S11.list]), h x.st (by simp [S11.list]), h x.re (by simp [S11.list]), h x.si (by simp [S11.list])⟩
  obtain ⟨h0, h1, h2, h3, h4, h5, h6, h7, h8, h9, h10⟩ := h'
  unfold rSg
  simp only [rS_fwd _ h0.1 h0.2, rS_fwd _ h1.1 h1.2, rS_fwd _ h2.1 h2.2, rS_fwd _ h3.1 h3.2, rS_fwd _ h4.1 h4.2, rS_fwd _ h5.1 h5.2, rS_fwd _ h6.1 h6.2, rS_fwd _ h7.1 h7.2, rS_fwd _ h8.1 h8.2, rS_fwd _ h9.1 h9.2, rS_fwd _ h10.1 h10.2]
/-- The same, in the bounds of all. -/
def rTS (s : Rs) : S11 × Rs :=
  (⟨⟨(rF s).1, (rF (rF s).2).1, (rF (rF (rF s).2).2).1, (rF (rF (rF (rF s).2).2).2).1, (rF (rF (rF (rF (rF s).2).2).2).2).1, (rF (rF (rF (rF (rF (rF s).2).2).2).2).2).1, (rF (rF (rF (rF (rF (rF (rF s).2).2).2).2).2).2).1⟩, (rF (rF (rF (rF (rF (rF (rF (rF s).2).2).2).2).2).2).2).1, (rF (rF (rF (rF (rF (rF (rF (rF (rF s).2).2).2).2).2).2).2).2).1, (rF (rF (rF (rF (rF (rF (rF (rF (rF (rF s).2).2).2).2).2).2).2).2).2).1, (rF (rF (rF (rF (rF (rF (rF (rF (rF (rF (rF s).2).2).2).2).2).2).2).2).2).2).1⟩, (rF (rF (rF (rF (rF (rF (rF (rF (rF (rF (rF s).2).2).2).2).2).2).2).2).2).2).2)
theorem rTS_fwd (x : S11) (r : List UInt8) (h : ∀ z ∈ x.list, In64 z) : rTS (some (encS x ++ r)) = (x, some r) := by
  rw [encS_split]
  have h' : In64 x.w.b ∧ In64 x.w.c ∧ In64 x.w.d ∧ In64 x.w.m0 ∧ In64 x.w.m1 ∧ In64 x.w.m2 ∧ In64 x.w.p ∧ In64 x.ph ∧ In64 x.st ∧ In64 x.re ∧ In64 x.si := ⟨h x.w.b (by simp [S11.list]), h x.w.c (by simp [S11.list]), h x.w.d (by simp [S11.list]), h x.w.m0 (by simp [S11.list]), h x.w.m1 (by simp [S11.list]), h x.w.m2 (by simp [S11.list]), h x.w.p (by simp [S11.list]), h x.ph (by simp [S11.list]), h x.st (by simp [S11.list]), h x.re (by simp [S11.list]), h x.si (by simp [S11.list])⟩
  obtain ⟨h0, h1, h2, h3, h4, h5, h6, h7, h8, h9, h10⟩ := h'
  unfold rTS
  simp only [rF_fwd _ h0, rF_fwd _ h1, rF_fwd _ h2, rF_fwd _ h3, rF_fwd _ h4, rF_fwd _ h5, rF_fwd _ h6, rF_fwd _ h7, rF_fwd _ h8, rF_fwd _ h9, rF_fwd _ h10]
theorem rTS_back (l r : List UInt8) (h : (rTS (some l)).2 = some r) : l = encS (rTS (some l)).1 ++ r := by
  obtain ⟨v1, s1, e1⟩ : ∃ v t, rF (some l) = (v, t) := ⟨_, _, rfl⟩
  obtain ⟨v2, s2, e2⟩ : ∃ v t, rF s1 = (v, t) := ⟨_, _, rfl⟩
  obtain ⟨v3, s3, e3⟩ : ∃ v t, rF s2 = (v, t) := ⟨_, _, rfl⟩
  obtain ⟨v4, s4, e4⟩ : ∃ v t, rF s3 = (v, t) := ⟨_, _, rfl⟩
  obtain ⟨v5, s5, e5⟩ : ∃ v t, rF s4 = (v, t) := ⟨_, _, rfl⟩
  obtain ⟨v6, s6, e6⟩ : ∃ v t, rF s5 = (v, t) := ⟨_, _, rfl⟩
  obtain ⟨v7, s7, e7⟩ : ∃ v t, rF s6 = (v, t) := ⟨_, _, rfl⟩
  obtain ⟨v8, s8, e8⟩ : ∃ v t, rF s7 = (v, t) := ⟨_, _, rfl⟩
  obtain ⟨v9, s9, e9⟩ : ∃ v t, rF s8 = (v, t) := ⟨_, _, rfl⟩
  obtain ⟨v10, s10, e10⟩ : ∃ v t, rF s9 = (v, t) := ⟨_, _, rfl⟩
  obtain ⟨v11, s11, e11⟩ : ∃ v t, rF s10 = (v, t) := ⟨_, _, rfl⟩
  have hw : rTS (some l) = (⟨⟨v1, v2, v3, v4, v5, v6, v7⟩, v8, v9, v10, v11⟩, s11) := by unfold rTS; simp only [e1, e2, e3, e4, e5, e6, e7, e8, e9, e10, e11]
  rw [hw] at h ⊢
  simp only at h ⊢
  subst h
  obtain ⟨q11, _⟩ := rInt_back e11
  subst q11
  obtain ⟨q10, _⟩ := rInt_back e10
  subst q10
  obtain ⟨q9, _⟩ := rInt_back e9
  subst q9
  obtain ⟨q8, _⟩ := rInt_back e8
  subst q8
  obtain ⟨q7, _⟩ := rInt_back e7
  subst q7
  obtain ⟨q6, _⟩ := rInt_back e6
  subst q6
  obtain ⟨q5, _⟩ := rInt_back e5
  subst q5
  obtain ⟨q4, _⟩ := rInt_back e4
  subst q4
  obtain ⟨q3, _⟩ := rInt_back e3
  subst q3
  obtain ⟨q2, _⟩ := rInt_back e2
  subst q2
  obtain ⟨q1, _⟩ := rInt_back e1
  injection q1 with q1
  rw [q1, encS_split]
theorem MayS_small (x : S11) (h : MayS x) : ∀ z ∈ x.list, -4611686018427387904 ≤ z ∧ z ≤ 4611686018427387904 := by
  intro z hz
  have hw := MayW_small x.w h.1
  have hl : (stepsL x).length ≤ 9 := by
    unfold stepsL
    split
    · exact (fwd_pos x.w h.1).2
    · split
      · simp
      · split
        · exact (bck_pos x.w h.1).2
        · simp
  obtain ⟨_, h2, h3, h4⟩ := h
  rw [S11.list_eq, List.mem_append] at hz
  rcases hz with hz | hz
  · exact hw z hz
  · simp only [List.mem_cons, List.not_mem_nil, or_false] at hz
    rcases hz with rfl | rfl | rfl | rfl <;> omega
theorem MayS_fits (x : S11) (h : MayS x) : ∀ z ∈ x.list, In64 z := fun z hz => ⟨by have := MayS_small x h z hz; omega, by have := MayS_small x h z hz; omega⟩
theorem gS_yes (x : S11) (h : MayS x) : gS (encS x) = (x, 0) := by
  have := rSg_fwd x [] (MayS_small x h)
  rw [List.append_nil] at this
  unfold gS
  rw [this]
  rw [if_pos ⟨rfl, h, rfl⟩]
theorem gS_or (l : List UInt8) : (∃ x, MayS x ∧ l = encS x ∧ gS l = (x, 0)) ∨ ((∀ x, MayS x → l ≠ encS x) ∧ gS l = (z11, 2)) := by
  by_cases h : rEnd (rSg (some l)).2 = 0 ∧ MayS (rSg (some l)).1 ∧ encS (rSg (some l)).1 = l
  · exact .inl ⟨_, h.2.1, h.2.2.symm, by unfold gS; rw [if_pos h]⟩
  · refine .inr ⟨fun x hx he => ?_, by unfold gS; rw [if_neg h]⟩
    have := gS_yes x hx
    rw [← he] at this
    unfold gS at this
    rw [if_neg h] at this
    have h2 := congrArg Prod.snd this
    simp at h2
theorem encS_inj (x y : S11) (r s : List UInt8) (hx : ∀ z ∈ x.list, In64 z) (hy : ∀ z ∈ y.list, In64 z) (h : encS x ++ r = encS y ++ s) : x = y ∧ r = s := by
  obtain ⟨e1, e2⟩ := encs_inj x.list y.list r s rfl hx hy h
  obtain ⟨⟨a0, a1, a2, a3, a4, a5, a6⟩, a7, a8, a9, a10⟩ := x
  obtain ⟨⟨b0, b1, b2, b3, b4, b5, b6⟩, b7, b8, b9, b10⟩ := y
  unfold S11.list at e1
  simp only [List.cons.injEq, and_true] at e1
  obtain ⟨rfl, rfl, rfl, rfl, rfl, rfl, rfl, rfl, rfl, rfl, rfl⟩ := e1
  exact ⟨rfl, e2⟩
theorem gS_cut (x : S11) (h : MayS x) (k : Nat) (hk : k < (encS x).length) : (gS ((encS x).take k)).2 = 2 := by
  rcases gS_or ((encS x).take k) with ⟨y, hy, he, hg⟩ | ⟨_, hg⟩
  · have h1 : encS x ++ [] = encS y ++ (encS x).drop k := by rw [List.append_nil, ← he, List.take_append_drop]
    have := (encS_inj x y _ _ (MayS_fits x h) (MayS_fits y hy) h1).2
    have h2 := congrArg List.length this
    rw [List.length_drop, List.length_nil] at h2
    omega
  · rw [hg]
/-- What the document's own answer tells of bytes. -/
def hS (l : List UInt8) : S11 × Int := if rEnd (rTS (some l)).2 = 0 ∧ MayS (rTS (some l)).1 then ((rTS (some l)).1, 0) else (z11, 2)
theorem rEnd_0S {s : Rs} (h : rEnd s = 0) : s = some [] := by
  cases s with
  | none => cases h
  | some l => cases l with
    | nil => rfl
    | cons c l => cases h
theorem hS_is (l : List UInt8) : hS l = gS l := by
  by_cases h : rEnd (rTS (some l)).2 = 0 ∧ MayS (rTS (some l)).1
  · have he := rTS_back l [] (rEnd_0S h.1)
    rw [List.append_nil] at he
    have hg := gS_yes _ h.2
    rw [← he] at hg
    unfold hS
    rw [if_pos h, hg]
  · unfold hS
    rw [if_neg h]
    rcases gS_or l with ⟨x, hx, he, hg⟩ | ⟨_, hg⟩
    · exfalso
      apply h
      have := rTS_fwd x [] (MayS_fits x hx)
      rw [List.append_nil, ← he] at this
      rw [this]
      exact ⟨rfl, hx⟩
    · rw [hg]
theorem rTS_eq (s : Rs) : rTS s = (⟨(rTW s).1, (rF (rTW s).2).1, (rF (rF (rTW s).2).2).1, (rF (rF (rF (rTW s).2).2).2).1, (rF (rF (rF (rF (rTW s).2).2).2).2).1⟩, (rF (rF (rF (rF (rTW s).2).2).2).2).2) := rfl
end Go.Proofs.Ytplgodfhhlnojaa

/- saga.Put, walked (printed by gensagab1.py). -/
namespace Go.Proofs.Ytplgodfhhlnojaa
open Go.RowKit
theorem smay_b (s : S11) (b : Bool) (h : decide (MayS s) = b) (w : World) : Calls Try.prog 20 #[s.val] w fun e w' => e = .returned (.bool b) ∧ Below w.heap.size w w' := h ▸ smay_c s w
set_option maxRecDepth 100000 in
set_option maxHeartbeats 2000000 in
theorem encS_no (x : S11) (w : World) (h : ¬ MayS x) : Calls Try.prog 39 #[x.val] w fun e w' => e = .returned (.tuple #[.slice none 0 0, .int .i64 1]) ∧ Below w.heap.size w w' := by
  have HM := Lib.hid (smay_b x false (decide_eq_false h))
  clear h
  unfold S11.val at *
  go_enter Try.func39, Try.ntmps39
  go_wp2_with (first | (refine wpl_row (by rfl) 26 _ rfl _ rfl _ _ _ _ (heap_alloc_new w (.cells #[.int .i64 x.w.b, .int .i64 x.w.c, .int .i64 x.w.d, .int .i64 x.w.m0, .int .i64 x.w.m1, .int .i64 x.w.m2, .int .i64 x.w.p, .int .i64 x.ph, .int .i64 x.st, .int .i64 x.re, .int .i64 x.si] 26)) rfl Try.underlying26 (by kernel_rfl) ?_) | (go_at_call 20; refine (HM.out _).mono ?_; rintro e w1 ⟨rfl, b1⟩; have B1 := Lib.hid (show Below w.heap.size w w1 from ((Below.refl _ _).alloc (Nat.le_refl _) _).trans (b1.mono (by simp))); clear b1))
  go_ret2
  exact ⟨rfl, B1.out⟩
set_option maxRecDepth 100000 in
set_option maxHeartbeats 4000000 in
theorem encS_yes (x : S11) (w : World) (h : MayS x) (hf : ∀ z ∈ x.list, In64 z) : Calls Try.prog 39 #[x.val] w (RBy w (encS x) 0) := by
  have HM := Lib.hid (smay_b x true (decide_eq_true h))
  have HP := Lib.hid (fun W => encW_yes x.w W h.1 (fun z hz => hf z (by rw [S11.list_eq]; exact List.mem_append_left _ hz)))
  have hq : In64 x.ph ∧ In64 x.st ∧ In64 x.re ∧ In64 x.si := ⟨hf _ (by simp [S11.list]), hf _ (by simp [S11.list]), hf _ (by simp [S11.list]), hf _ (by simp [S11.list])⟩
  obtain ⟨q1, q2, q3, q4⟩ := hq
  have I1 := Lib.hid q1
  have I2 := Lib.hid q2
  have I3 := Lib.hid q3
  have I4 := Lib.hid q4
  have LW := Lib.hid (encs_le x.w.list)
  have L4 := Lib.hid (encs_le [x.ph, x.st, x.re, x.si])
  have HE := Lib.hid (encS_eq x)
  clear h hf q1 q2 q3 q4
  unfold W7.val at HP
  unfold S11.val at *
  have i0 : ∀ w, (Instr.index 104 (.agg #[.int .i64 x.ph, .int .i64 x.st, .int .i64 x.re, .int .i64 x.si]) (.int .i64 0)).run Try.prog w = .ok (.int .i64 x.ph) w := fun _ => by kernel_rfl
  have i1 : ∀ w, (Instr.index 104 (.agg #[.int .i64 x.ph, .int .i64 x.st, .int .i64 x.re, .int .i64 x.si]) (.int .i64 1)).run Try.prog w = .ok (.int .i64 x.st) w := fun _ => by kernel_rfl
  have i2 : ∀ w, (Instr.index 104 (.agg #[.int .i64 x.ph, .int .i64 x.st, .int .i64 x.re, .int .i64 x.si]) (.int .i64 2)).run Try.prog w = .ok (.int .i64 x.re) w := fun _ => by kernel_rfl
  have i3 : ∀ w, (Instr.index 104 (.agg #[.int .i64 x.ph, .int .i64 x.st, .int .i64 x.re, .int .i64 x.si]) (.int .i64 3)).run Try.prog w = .ok (.int .i64 x.si) w := fun _ => by kernel_rfl
  go_enter Try.func39, Try.ntmps39
  go_wp2_with (refine wpl_row (by rfl) 26 _ rfl _ rfl _ _ _ _ (heap_alloc_new w (.cells #[.int .i64 x.w.b, .int .i64 x.w.c, .int .i64 x.w.d, .int .i64 x.w.m0, .int .i64 x.w.m1, .int .i64 x.w.m2, .int .i64 x.w.p, .int .i64 x.ph, .int .i64 x.st, .int .i64 x.re, .int .i64 x.si] 26)) rfl Try.underlying26 (by kernel_rfl) ?_)
  refine (HM.out _).mono ?_
  rintro e w1 ⟨rfl, b1⟩
  have S1 := Lib.hid (new1 b1)
  have B1 := Lib.hid (bel1 (Below.refl w.heap.size w) (Nat.le_refl _) b1)
  clear b1
  have c0 : w1.cell? ⟨w.heap.size, 0, none⟩ = some (.int .i64 x.w.b) := (cellsB (i := 0) S1.out).trans rfl
  have c1 : w1.cell? ⟨w.heap.size, 1, none⟩ = some (.int .i64 x.w.c) := (cellsB (i := 1) S1.out).trans rfl
  have c2 : w1.cell? ⟨w.heap.size, 2, none⟩ = some (.int .i64 x.w.d) := (cellsB (i := 2) S1.out).trans rfl
  have c3 : w1.cell? ⟨w.heap.size, 3, none⟩ = some (.int .i64 x.w.m0) := (cellsB (i := 3) S1.out).trans rfl
  have c4 : w1.cell? ⟨w.heap.size, 4, none⟩ = some (.int .i64 x.w.m1) := (cellsB (i := 4) S1.out).trans rfl
  have c5 : w1.cell? ⟨w.heap.size, 5, none⟩ = some (.int .i64 x.w.m2) := (cellsB (i := 5) S1.out).trans rfl
  have c6 : w1.cell? ⟨w.heap.size, 6, none⟩ = some (.int .i64 x.w.p) := (cellsB (i := 6) S1.out).trans rfl
  go_wp2_with fail
  refine (HP.out _).mono ?_
  rintro e w2 ⟨v, rfl, ob, b2⟩
  have S2 := Lib.hid (blk0 S1.out b2)
  have B2 := Lib.hid (bel0 B1.out B1.out.size b2)
  have V2 := Lib.hid (ob.mono (base' := w.heap.size) B1.out.size)
  have hz2 : w.heap.size < w2.heap.size := lt_size S2.out
  clear ob b2 S1 B1 c0 c1 c2 c3 c4 c5 c6
  have W2 := Lib.hid (WB.new w2 w2.heap.size (Nat.le_refl _))
  have d0 : (w2.alloc (.cells #[.slice none 0 0] 103)).cell? ⟨w.heap.size, 7, none⟩ = some (.int .i64 x.ph) := (cellsB (i := 7) (alc S2.out)).trans rfl
  have d1 : (w2.alloc (.cells #[.slice none 0 0] 103)).cell? ⟨w.heap.size, 8, none⟩ = some (.int .i64 x.st) := (cellsB (i := 8) (alc S2.out)).trans rfl
  have d2 : (w2.alloc (.cells #[.slice none 0 0] 103)).cell? ⟨w.heap.size, 9, none⟩ = some (.int .i64 x.re) := (cellsB (i := 9) (alc S2.out)).trans rfl
  have d3 : (w2.alloc (.cells #[.slice none 0 0] 103)).cell? ⟨w.heap.size, 10, none⟩ = some (.int .i64 x.si) := (cellsB (i := 10) (alc S2.out)).trans rfl
  go_wp2_with fail
  clear d0 d1 d2 d3
  refine wp_loop_rounds 5 ?_
  rw [rounds_succ]
  go_wp2_with fail
  refine (wint_is W2.out (by have := L4.out; simp [encs] at this ⊢ <;> omega) I1.out.1 I1.out.2 rfl).mono ?_
  rintro e w3 ⟨rfl, qw, qb, _⟩
  have W3 := Lib.hid qw
  have B3 := Lib.hid (show Below w2.heap.size w2 w3 from ((Below.refl _ _).alloc (Nat.le_refl _) _).trans qb)
  clear qw qb W2
  go_wp2_with fail
  rw [rounds_succ]
  go_wp2_with fail
  refine (wint_is W3.out (by have := L4.out; simp [encs] at this ⊢ <;> omega) I2.out.1 I2.out.2 rfl).mono ?_
  rintro e w4 ⟨rfl, qw, qb, _⟩
  have W4 := Lib.hid qw
  have B4 := Lib.hid (B3.out.trans qb)
  clear qw qb W3 B3
  go_wp2_with fail
  rw [rounds_succ]
  go_wp2_with fail
  refine (wint_is W4.out (by have := L4.out; simp [encs] at this ⊢ <;> omega) I3.out.1 I3.out.2 rfl).mono ?_
  rintro e w5 ⟨rfl, qw, qb, _⟩
  have W5 := Lib.hid qw
  have B5 := Lib.hid (B4.out.trans qb)
  clear qw qb W4 B4
  go_wp2_with fail
  rw [rounds_succ]
  go_wp2_with fail
  refine (wint_is W5.out (by have := L4.out; simp [encs] at this ⊢ <;> omega) I4.out.1 I4.out.2 rfl).mono ?_
  rintro e w6 ⟨rfl, qw, qb, _⟩
  have W6 := Lib.hid qw
  have B6 := Lib.hid (B5.out.trans qb)
  clear qw qb W5 B5
  go_wp2_with fail
  rw [rounds_succ]
  go_wp2_with fail
  obtain ⟨L, hL⟩ : ∃ L, (((([] ++ enc x.ph) ++ enc x.st) ++ enc x.re) ++ enc x.si) = L := ⟨_, rfl⟩
  have hl : L.length ≤ 40 := by rw [← hL]; have := L4.out; simp [encs] at this ⊢ <;> omega
  have HL := Lib.hid hL
  rw [hL] at W6
  clear hL
  refine (wbytes_c _ _ _ _ W6.out (by omega)).mono ?_
  rintro e w7 ⟨v7, rfl, ob7, b7⟩
  obtain ⟨A7, c7, rfl, _, _, r7⟩ := ob7.form
  have R7 := Lib.hid r7
  have hz6 := B6.out.size
  have B7 := Lib.hid (B6.out.trans (b7.mono hz6))
  have V7 := Lib.hid (V2.out.below B7.out (Nat.le_refl _))
  have hz7 := B7.out.size
  have T7 := Lib.hid (B2.out.trans (B7.out.mono (by omega)))
  have VL := Lib.hid V7.out.lt
  clear ob7 r7 b7 B6 V2 B7 B2 W6
  go_wp2_with (at_builtin; go_must (refine wpl_app rfl (.tmp 33) (.tmp 34) rfl w.heap.size _ _ rfl V7.out w7.heap.size _ _ _ _ rfl R7.out ?_ ?_ ?_))
  · have h1 := LW.out; have h2 := L4.out; unfold encW; simp [encs, W7.list] at h1 h2 ⊢; omega
  · omega
  intro v8 w8 ob8 g8 _
  have V8 := Lib.hid ob8
  have T8 := Lib.hid (T7.out.grown g8 T7.out.size (fun k hk => (VL.out k hk).1))
  clear ob8 g8
  go_wp2
  go_ret2
  refine ⟨v8, rfl, ?_, T8.out⟩
  have := V8.out
  rw [HE.out]
  rw [← HL.out] at this
  simpa [encs] using this
end Go.Proofs.Ytplgodfhhlnojaa
