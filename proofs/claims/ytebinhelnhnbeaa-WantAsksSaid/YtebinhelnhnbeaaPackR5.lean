/- pack.Reader: bytes, texts, the end. -/
import Derived.Test.YtebinhelnhnbeaaPackR4
set_option linter.unusedSimpArgs false
set_option linter.unusedVariables false
namespace Go.Proofs.Ytebinhelnhnbeaa
open Go.RowKit
def bV : List UInt8 → Int
  | c :: _ => (c.toNat : Int)
  | [] => 0
def bN : List UInt8 → Nat
  | _ :: _ => 1
  | [] => 0
theorem bN_le (l : List UInt8) : bN l ≤ l.length := by cases l <;> simp [bN]
theorem rByte_eq (l : List UInt8) : rByte (some l) = if bN l = 0 then (0, none) else (bV l, some (l.drop (bN l))) := by cases l <;> simp [rByte, bN, bV]
theorem byte1_c (A : Option Addr) (n c : Nat) (l : List UInt8) (w : World) (D : Nat) (hr : Rd w D 1 A n (B8 l)) (hn : n ≤ 9223372036854775807) :
    Calls Try.prog 55 #[.slice A n c] w fun e w' => e = .returned (.tuple #[.int .i64 (bV l), .int .i64 (bN l : Nat)]) ∧ ∃ q, w' = w.drewN q := by
  cases l with
  | nil =>
    have hlen : n = 0 := by have := hr.1; rw [B8_len] at this; simp at this; omega
    subst hlen
    clear hr
    go_enter Try.func55, Try.ntmps55
    go_wp2
    go_ret2
    exact ⟨rfl, 0, rfl⟩
  | cons x l =>
    have hlen : l.length + 1 = n := by have := hr.1; rw [B8_len] at this; simpa using this
    obtain ⟨ad, hl, rfl, _, hc⟩ := hr.byte (k := 0) (by omega)
    have h0 : 0 < n := by omega
    have hnb : ((n : Int) == 0) = false := beq_eq_false_iff_ne.2 (by omega)
    have hx := u8_lt x
    simp only [List.getElem_cons_zero] at hc
    rw [show ad.add 0 = ad from by simp [Addr.add]] at hc
    clear hr hlen hl
    go_enter Try.func55, Try.ntmps55
    go_wp2
    go_ret2
    exact ⟨rfl, 0, rfl⟩
set_option maxRecDepth 100000 in
set_option maxHeartbeats 1000000 in
theorem takeI_c (g : Nat)  (s : Rs) (w : World) (D : Nat) (h : RP w D g s)  :
    Calls Try.prog 54 #[.pointer (some ⟨g, 0, none⟩), .func (.func 55) #[] #[]] w (RPost w D g (.int .i64 (rByte s).1) (rByte s).2) := by
  cases s with
  | none =>
    have H := Lib.hid h
    obtain ⟨A, n, c, h1⟩ := h.none_
    have c1 : w.cell? ⟨g, 1, none⟩ = some (.bool true) := by rw [cellsAt h1]; rfl
    clear h h1
    go_enter Try.func54, Try.ntmps54
    go_wp2
    go_ret
    exact ⟨rfl, H.out, World.grownBy.refl w _⟩
  | some l =>
    have H := Lib.hid h
    obtain ⟨h0, A, n, c, h1, h2, h3, h4, h5, h9⟩ := h.some_
    have c0 : w.cell? ⟨g, 0, none⟩ = some (.slice A n c) := by rw [cellsAt h1]; rfl
    have c1 : w.cell? ⟨g, 1, none⟩ = some (.bool false) := by rw [cellsAt h1]; rfl
    have f0 := free0 (i := 0) h1
    have f1 := free0 (i := 1) h1
    have hlen : l.length = n := by have := h3.1; rw [B8_len] at this; omega
    have hdn : bN l ≤ l.length := bN_le l
    have HC := Lib.hid (byte1_c A n c l w D h3 (by unfold maxLen at h5; omega))
    have HE := Lib.hid (rByte_eq l)
    have HCUT := Lib.hid (fun k hk => RP.cut (k := k) h0 h1 h2 h3 h4 h5 h9 hk)
    obtain ⟨d, hd⟩ : ∃ d, bN l = d := ⟨_, rfl⟩
    obtain ⟨v, hv⟩ : ∃ v, bV l = v := ⟨_, rfl⟩
    rw [hd, hv] at HC HE
    rw [hd, hlen] at hdn
    clear h h1 h2 h3 h9  hlen hd hv
    unfold maxLen at h5
    go_enter Try.func54, Try.ntmps54
    by_cases hd0 : d < 1
    · have hd00 : d = 0 := by omega
      have HD := Lib.hid hd00
      clear hd00
      go_wp2_with (go_at_call 55; refine (HC.out).mono ?_; rintro e w' ⟨rfl, hw'⟩; obtain ⟨nq, rfl⟩ := hw')
      go_ret
      unfold RPost
      rw [HE.out, if_pos HD.out]
      exact ⟨rfl, RP.bad (w := w.drewN nq) (H.out.drewN nq), only_setCell (only_drewN (World.grownBy.refl w _) nq) (.inl rfl) _⟩
    · have hd1 : ¬ (d : Int) < 1 := by omega
      by_cases hcd : c = d
      · subst hcd
        go_wp2_with (go_at_call 55; refine (HC.out).mono ?_; rintro e w' ⟨rfl, hw'⟩; obtain ⟨nq, rfl⟩ := hw')
        go_ret
        unfold RPost
        rw [HE.out, if_neg (by omega)]
        have := HCUT.out c hdn
        rw [if_pos rfl, show n - c = 0 from by omega, Nat.sub_self] at this
        exact ⟨rfl, this.drewN nq, only_setCell (only_drewN (World.grownBy.refl w _) nq) (.inl rfl) _⟩
      · go_wp2_with (go_at_call 55; refine (HC.out).mono ?_; rintro e w' ⟨rfl, hw'⟩; obtain ⟨nq, rfl⟩ := hw')
        go_ret
        unfold RPost
        rw [HE.out, if_neg (by omega)]
        have := HCUT.out d hdn
        rw [if_neg hcd] at this
        exact ⟨rfl, this.drewN nq, only_setCell (only_drewN (World.grownBy.refl w _) nq) (.inl rfl) _⟩
theorem takeI_c_nil (F : Value) (w : World) : Calls Try.prog 54 #[.pointer none, F] w fun e w' => e = .returned (.int .i64 0) ∧ w = w' := by
  go_enter Try.func54, Try.ntmps54
  go_wp2
  go_ret
  exact ⟨rfl, rfl⟩
set_option maxRecDepth 100000 in
theorem rbyte_c (g : Nat) (s : Rs) (w : World) (D : Nat) (h : RP w D g s) :
    Calls Try.prog 29 #[.pointer (some ⟨g, 0, none⟩)] w (RPost w D g (.int .i64 (rByte s).1) (rByte s).2) := by
  have HC := Lib.hid (takeI_c g s w D h)
  unfold RPost at HC ⊢
  generalize rByte s = r at *
  obtain ⟨v, s'⟩ := r
  clear h
  go_enter Try.func29, Try.ntmps29
  go_wp2_with fail
  refine HC.out.mono ?_
  rintro e w1 ⟨rfl, h1, g1⟩
  have H1 := Lib.hid h1
  have G1 := Lib.hid g1
  clear h1 g1
  go_wp2
  go_ret
  exact ⟨rfl, H1.out, G1.out⟩
theorem rbyte_nil (w : World) : Calls Try.prog 29 #[.pointer none] w fun e w' => e = .returned (.int .i64 0) ∧ w = w' := by
  go_enter Try.func29, Try.ntmps29
  go_wp2_with (go_at_call 54; refine (takeI_c_nil _ _).mono ?_; rintro e w' ⟨rfl, rfl⟩)
  go_ret
  exact ⟨rfl, rfl⟩
/-- A text of m bytes, off the front. -/
def tV (m : Nat) (l : List UInt8) : List UInt8 := if m ≤ l.length then l.take m else []
def tN (m : Nat) (l : List UInt8) : Nat := if m ≤ l.length then m else 0
theorem tN_le (m : Nat) (l : List UInt8) : tN m l ≤ l.length := by unfold tN; split <;> omega
def rTake (m : Nat) : Rs → List UInt8 × Rs
  | none => ([], none)
  | some l => if m ≤ l.length then (l.take m, some (l.drop m)) else ([], none)
theorem rTake_eq (m : Nat) (h1 : 1 ≤ m) (l : List UInt8) : rTake m (some l) = if tN m l = 0 then ([], none) else (tV m l, some (l.drop (tN m l))) := by
  unfold rTake tN tV
  by_cases h : m ≤ l.length
  · simp only [if_pos h]; rw [if_neg (by omega)]
  · simp only [if_neg h, if_true]
def SV (l : List UInt8) : Value := .string ⟨l.toArray⟩
set_option maxHeartbeats 1000000 in
theorem text1_c (A : Option Addr) (n c : Nat) (l : List UInt8) (w : World) (D p m : Nat) (hr : Rd w D 1 A n (B8 l)) (hn : n ≤ 9223372036854775807) (hc : n ≤ c) (hp : w.cell? ⟨p, 0, none⟩ = some (.int .i64 (m : Int))) (hm : 1 ≤ m) :
    Calls Try.prog 53 #[.slice A n c, .pointer (some ⟨p, 0, none⟩)] w fun e w' => e = .returned (.tuple #[SV (tV m l), .int .i64 (tN m l : Nat)]) ∧ ∃ q, w' = w.drewN q := by
  have hlen : l.length = n := by have := hr.1; rw [B8_len] at this; omega
  unfold SV tV tN
  rw [hlen]
  by_cases h : n < m
  · rw [if_neg (by omega), if_neg (by omega)]
    clear hr hlen
    go_enter Try.func53, Try.ntmps53
    go_wp2
    go_ret2
    exact ⟨rfl, 0, rfl⟩
  · have h' : m ≤ n := by omega
    have h2 : m ≤ c := by omega
    rw [if_pos h', if_pos h']
    have ht := hr.take h'
    rw [Nat.mul_one, show (B8 l).take m = B8 (l.take m) from by simp [B8]] at ht
    have hcv : ∀ q c', (convert 24 9 (.slice A m c')).run Try.prog (w.drewN q) = .ok (.string ⟨(l.take m).toArray⟩) (w.drewN q) := fun q c' => run_conv_str (ht.drewN q)
    have hA : ∃ ad, A = some ad := by obtain ⟨ad, e, _⟩ := hr.2 (by omega); exact ⟨ad, e⟩
    obtain ⟨ad, rfl⟩ := hA
    clear hr hlen ht h
    go_enter Try.func53, Try.ntmps53
    go_wp2_with fail
    go_quiet (fail)
    go_wp2
    go_ret2
    exact ⟨rfl, _, rfl⟩
set_option maxRecDepth 100000 in
set_option maxHeartbeats 1000000 in
theorem takeS_c (g : Nat) (p m : Nat) (hm : 1 ≤ m) (s : Rs) (w : World) (D : Nat) (h : RP w D g s) (hp : w.cell? ⟨p, 0, none⟩ = some (.int .i64 (m : Int))) :
    Calls Try.prog 52 #[.pointer (some ⟨g, 0, none⟩), .func (.func 53) #[] #[.pointer (some ⟨p, 0, none⟩)]] w (RPost w D g (SV (rTake m s).1) (rTake m s).2) := by
  cases s with
  | none =>
    have H := Lib.hid h
    obtain ⟨A, n, c, h1⟩ := h.none_
    have c1 : w.cell? ⟨g, 1, none⟩ = some (.bool true) := by rw [cellsAt h1]; rfl
    clear h h1
    go_enter Try.func52, Try.ntmps52
    go_wp2
    go_ret
    exact ⟨rfl, H.out, World.grownBy.refl w _⟩
  | some l =>
    have H := Lib.hid h
    obtain ⟨h0, A, n, c, h1, h2, h3, h4, h5, h9⟩ := h.some_
    have c0 : w.cell? ⟨g, 0, none⟩ = some (.slice A n c) := by rw [cellsAt h1]; rfl
    have c1 : w.cell? ⟨g, 1, none⟩ = some (.bool false) := by rw [cellsAt h1]; rfl
    have f0 := free0 (i := 0) h1
    have f1 := free0 (i := 1) h1
    have hlen : l.length = n := by have := h3.1; rw [B8_len] at this; omega
    have hdn : tN m l ≤ l.length := tN_le m l
    have HC := Lib.hid (text1_c A n c l w D p m h3 (by unfold maxLen at h5; omega) h4 hp hm)
    have HE := Lib.hid (rTake_eq m hm l)
    have HCUT := Lib.hid (fun k hk => RP.cut (k := k) h0 h1 h2 h3 h4 h5 h9 hk)
    obtain ⟨d, hd⟩ : ∃ d, tN m l = d := ⟨_, rfl⟩
    obtain ⟨v, hv⟩ : ∃ v, tV m l = v := ⟨_, rfl⟩
    rw [hd, hv] at HC HE
    rw [hd, hlen] at hdn
    clear h h1 h2 h3 h9 hp hlen hd hv
    unfold maxLen at h5
    go_enter Try.func52, Try.ntmps52
    by_cases hd0 : d < 1
    · have hd00 : d = 0 := by omega
      have HD := Lib.hid hd00
      clear hd00
      go_wp2_with (go_at_call 53; refine (HC.out).mono ?_; rintro e w' ⟨rfl, hw'⟩; obtain ⟨nq, rfl⟩ := hw')
      go_ret
      unfold RPost
      rw [HE.out, if_pos HD.out]
      exact ⟨rfl, RP.bad (w := w.drewN nq) (H.out.drewN nq), only_setCell (only_drewN (World.grownBy.refl w _) nq) (.inl rfl) _⟩
    · have hd1 : ¬ (d : Int) < 1 := by omega
      by_cases hcd : c = d
      · subst hcd
        go_wp2_with (go_at_call 53; refine (HC.out).mono ?_; rintro e w' ⟨rfl, hw'⟩; obtain ⟨nq, rfl⟩ := hw')
        go_ret
        unfold RPost
        rw [HE.out, if_neg (by omega)]
        have := HCUT.out c hdn
        rw [if_pos rfl, show n - c = 0 from by omega, Nat.sub_self] at this
        exact ⟨rfl, this.drewN nq, only_setCell (only_drewN (World.grownBy.refl w _) nq) (.inl rfl) _⟩
      · go_wp2_with (go_at_call 53; refine (HC.out).mono ?_; rintro e w' ⟨rfl, hw'⟩; obtain ⟨nq, rfl⟩ := hw')
        go_ret
        unfold RPost
        rw [HE.out, if_neg (by omega)]
        have := HCUT.out d hdn
        rw [if_neg hcd] at this
        exact ⟨rfl, this.drewN nq, only_setCell (only_drewN (World.grownBy.refl w _) nq) (.inl rfl) _⟩
theorem takeS_c_nil (F : Value) (w : World) : Calls Try.prog 52 #[.pointer none, F] w fun e w' => e = .returned (SV []) ∧ w = w' := by
  go_enter Try.func52, Try.ntmps52
  go_wp2
  go_ret
  exact ⟨rfl, rfl⟩
theorem rText_eq (most : Int) (s : Rs) : rText most s = if (rInt 0 (max most 0) s).1 = 0 then ([], (rInt 0 (max most 0) s).2) else rTake (rInt 0 (max most 0) s).1.toNat (rInt 0 (max most 0) s).2 := by
  unfold rText
  obtain ⟨n, s'⟩ := rInt 0 (max most 0) s
  cases s' with
  | none => simp only [rTake]; split <;> rfl
  | some l =>
    simp only [rTake]
    by_cases h : n = 0
    · subst h; simp
    · simp [h]
theorem rInt_nn (hi : Int) (s : Rs) : 0 ≤ (rInt 0 hi s).1 ∧ (rInt 0 hi s).1 ≤ max hi 0 := by
  unfold rInt
  cases s with
  | none => simp; omega
  | some l =>
    cases h : dec 0 hi l with
    | none => simp only [h]; simp; omega
    | some p => obtain ⟨v, r⟩ := p; simp only [h]; have := dec_is h; omega
theorem rInt_bad (lo hi : Int) (s : Rs) (h : (rInt lo hi s).2 = none) : (rInt lo hi s).1 = 0 := by
  unfold rInt at *
  cases s with
  | none => rfl
  | some l =>
    cases h' : dec lo hi l with
    | none => simp only [h']
    | some p => obtain ⟨v, r⟩ := p; simp only [h'] at h; cases h
set_option maxRecDepth 100000 in
set_option maxHeartbeats 1000000 in
theorem rend_c (g : Nat) (s : Rs) (w : World) (D : Nat) (h : RP w D g s) : Calls Try.prog 31 #[.pointer (some ⟨g, 0, none⟩)] w fun e w' => e = .returned (.int .i64 (rEnd s)) ∧ w = w' := by
  cases s with
  | none =>
    obtain ⟨A, n, c, h1⟩ := h.none_
    have c1 : w.cell? ⟨g, 1, none⟩ = some (.bool true) := by rw [cellsAt h1]; rfl
    clear h h1
    go_enter Try.func31, Try.ntmps31
    go_wp2
    go_ret
    exact ⟨rfl, rfl⟩
  | some l =>
    obtain ⟨h0, A, n, c, h1, h2, h3, h4, h5, h9⟩ := h.some_
    have c0 : w.cell? ⟨g, 0, none⟩ = some (.slice A n c) := by rw [cellsAt h1]; rfl
    have c1 : w.cell? ⟨g, 1, none⟩ = some (.bool false) := by rw [cellsAt h1]; rfl
    have hlen : l.length = n := by have := h3.1; rw [B8_len] at this; omega
    cases l with
    | nil =>
      have hn : n = 0 := by simpa using hlen.symm
      subst hn
      clear h h1 h2 h3 hlen
      go_enter Try.func31, Try.ntmps31
      go_wp2
      go_ret
      exact ⟨rfl, rfl⟩
    | cons x l =>
      have hn : 0 < n := by simp at hlen; omega
      clear h h1 h2 h3 hlen
      go_enter Try.func31, Try.ntmps31
      go_wp2
      go_ret
      exact ⟨rfl, rfl⟩
theorem rend_nil (w : World) : Calls Try.prog 31 #[.pointer none] w fun e w' => e = .returned (.int .i64 2) ∧ w = w' := by
  go_enter Try.func31, Try.ntmps31
  go_wp2
  go_ret
  exact ⟨rfl, rfl⟩
end Go.Proofs.Ytebinhelnhnbeaa
