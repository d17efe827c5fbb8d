/- sojournref1.R: all questions to the document's own reader. -/
import Derived.Test.YtebinhelnhnbeaaRefR2
set_option linter.unusedSimpArgs false
set_option linter.unusedVariables false
namespace Go.Proofs.Ytebinhelnhnbeaa
open Go.RowKit
set_option maxRecDepth 100000 in
set_option maxHeartbeats 1000000 in
theorem rrint_none (p : Nat) (lo hi : Int) (w : World) (r : RR w p none) :
    Calls Try.prog 26 #[.pointer (some ⟨p, 0, none⟩), .int .i64 lo, .int .i64 hi] w (RRPost w p (.int .i64 0) none) := by
  obtain ⟨S, h1⟩ := r.none_
  have c0 : w.cell? ⟨p, 0, none⟩ = some (.string S) := by rw [cellsAt h1]; rfl
  have c1 : w.cell? ⟨p, 1, none⟩ = some (.bool true) := by rw [cellsAt h1]; rfl
  have R := Lib.hid r
  clear h1 r
  go_enter Try.func26, Try.ntmps26
  go_wp2
  go_loop [7, 8] (fun u i => u = .int .u64 0 ∧ i = .int .i64 0) (fun _ i => 10 - (intOf i).toNat)
  case atStart => exact ⟨rfl, rfl⟩
  case round =>
    obtain ⟨rfl, rfl⟩ := hrel
    by_cases h0 : 0 < S.size
    · go_wp2_with (go_at_call 51; refine (rwrong_c p _ _ R.out).mono ?_; rintro e w1 ⟨rfl, h1, g1⟩; have H1 := Lib.hid h1; have G1 := Lib.hid g1; clear h1 g1)
      go_ret
      exact ⟨rfl, H1.out, G1.out⟩
    · go_wp2_with (go_at_call 51; refine (rwrong_c p _ _ R.out).mono ?_; rintro e w1 ⟨rfl, h1, g1⟩; have H1 := Lib.hid h1; have G1 := Lib.hid g1; clear h1 g1)
      go_ret
      exact ⟨rfl, H1.out, G1.out⟩
/-- What is left is not too long. -/
def Sh (s : Rs) : Prop := ∀ l, s = some l → l.length ≤ 1000000000000
theorem rrint_c (p : Nat) (lo hi : Int) (s : Rs) (w : World) (r : RR w p s) (hs : Sh s) :
    Calls Try.prog 26 #[.pointer (some ⟨p, 0, none⟩), .int .i64 lo, .int .i64 hi] w (RRPost w p (.int .i64 (rInt lo hi s).1) (rInt lo hi s).2) := by
  cases s with
  | none => exact rrint_none p lo hi w r
  | some l => exact rrint_some p lo hi l w r (hs l rfl)
theorem Sh.int {s : Rs} (h : Sh s) (lo hi : Int) : Sh (rInt lo hi s).2 := by
  intro l hl
  cases s with
  | none => cases hl
  | some l0 =>
    unfold rInt at hl
    cases h' : dec lo hi l0 with
    | none => simp only [h'] at hl; cases hl
    | some q =>
      obtain ⟨v, r⟩ := q
      simp only [h'] at hl
      injection hl with hl
      subst hl
      have h1 := (dec_is h').1
      have h2 := h l0 rfl
      rw [h1, List.length_append] at h2
      omega
theorem Sh.take {s : Rs} (h : Sh s) (m : Nat) : Sh (rTake m s).2 := by
  intro l hl
  cases s with
  | none => cases hl
  | some l0 =>
    have h2 := h l0 rfl
    unfold rTake at hl
    simp only at hl
    split at hl
    · injection hl with hl; subst hl; rw [List.length_drop]; omega
    · cases hl
theorem Sh.text {s : Rs} (h : Sh s) (most : Int) : Sh (rText most s).2 := by
  rw [rText_eq]
  split
  · exact h.int _ _
  · exact (h.int _ _).take _
theorem Sh.byte {s : Rs} (h : Sh s) : Sh (rByte s).2 := by
  intro l hl
  cases s with
  | none => cases hl
  | some l0 =>
    have h2 := h l0 rfl
    cases l0 with
    | nil => cases hl
    | cons c l0 => injection hl with hl; subst hl; simp at h2; omega
def tailT (v : Int) (s : Rs) : List UInt8 × Rs := if v = 0 then ([], s) else rTake v.toNat s
theorem rText_tail (most : Int) (s : Rs) : rText most s = tailT (rInt 0 (max most 0) s).1 (rInt 0 (max most 0) s).2 := rText_eq most s
set_option maxRecDepth 100000 in
set_option maxHeartbeats 1000000 in
theorem rrtext_m (p : Nat) (most M : Int) (s : Rs) (w : World) (r : RR w p s) (hs : Sh s) (hM : (0 ≤ most ∧ M = most) ∨ (most < 0 ∧ M = 0)) :
    Calls Try.prog 28 #[.pointer (some ⟨p, 0, none⟩), .int .i64 most] w
      (RRPost w p (SV (tailT (rInt 0 M s).1 (rInt 0 M s).2).1) (tailT (rInt 0 M s).1 (rInt 0 M s).2).2) := by
  have HC := Lib.hid (rrint_c p 0 M s w r hs)
  have hnn := (rInt_nn M s).1
  have hbad := rInt_bad 0 M s
  have hsh := hs.int 0 M
  unfold RRPost at HC ⊢
  obtain ⟨v, s', hr⟩ : ∃ v s', rInt 0 M s = (v, s') := ⟨_, _, rfl⟩
  rw [hr] at hnn hbad hsh HC ⊢
  simp only at hnn hbad hsh HC ⊢
  have HBAD := Lib.hid hbad
  clear r hr hbad hs
  rcases hM with ⟨h0, rfl⟩ | ⟨h0, rfl⟩
  all_goals
    cases s' with
    | none =>
      have hv : v = 0 := HBAD.out rfl
      subst hv
      clear hsh
      go_enter Try.func28, Try.ntmps28
      go_wp2_with fail
      refine HC.out.mono ?_
      rintro e w1 ⟨rfl, h1, g1⟩
      obtain ⟨S, hh⟩ := h1.none_
      have c1 : w1.cell? ⟨p, 1, none⟩ = some (.bool true) := by rw [cellsAt hh]; rfl
      have H1 := Lib.hid h1
      have G1 := Lib.hid g1
      clear h1 g1 hh
      go_wp2_with (go_at_call 51; refine (rwrong_c p _ _ H1.out).mono ?_; rintro e w2 ⟨rfl, h2, g2⟩; have H2 := Lib.hid h2; have G2 := Lib.hid g2; clear h2 g2)
      go_ret
      exact ⟨rfl, H2.out, only_trans G1.out G2.out⟩
    | some l =>
      have hll := hsh l rfl
      clear hsh
      obtain ⟨m, rfl⟩ := Int.eq_ofNat_of_zero_le hnn
      go_enter Try.func28, Try.ntmps28
      go_wp2_with fail
      refine HC.out.mono ?_
      rintro e w1 ⟨rfl, h1, g1⟩
      obtain ⟨S, hS, hh⟩ := h1.some_
      have c0 : w1.cell? ⟨p, 0, none⟩ = some (.string S) := by rw [cellsAt hh]; rfl
      have c1 : w1.cell? ⟨p, 1, none⟩ = some (.bool false) := by rw [cellsAt hh]; rfl
      have f0 := free0 (i := 0) hh
      have hz : S.size = l.length := by rw [← hS]; simp
      have hz2 : S.size ≤ 1000000000000 := by omega
      have H1 := Lib.hid h1
      have G1 := Lib.hid g1
      have HH := Lib.hid hh
      have HS := Lib.hid hS
      have HZ := Lib.hid hz
      clear h1 g1 hh hS hz hll
      by_cases hm : S.size < m
      · go_wp2_with (go_at_call 51; refine (rwrong_c p _ _ H1.out).mono ?_; rintro e w2 ⟨rfl, h2, g2⟩; have H2 := Lib.hid h2; have G2 := Lib.hid g2; clear h2 g2)
        go_ret
        have e : tailT (m : Int) (some l) = ([], none) := by
          unfold tailT rTake
          rw [if_neg (by omega)]
          simp only [Int.toNat_natCast]
          rw [if_neg (by have := HZ.out; omega)]
        rw [e]
        exact ⟨rfl, H2.out, only_trans G1.out G2.out⟩
      · have hm' : m ≤ S.size := by omega
        clear hm
        go_wp2
        go_ret
        have e : tailT (m : Int) (some l) = (l.take m, some (l.drop m)) := by
          unfold tailT
          by_cases h : m = 0
          · subst h; simp
          · rw [if_neg (by omega)]
            unfold rTake
            simp only [Int.toNat_natCast]
            rw [if_pos (by have := HZ.out; omega)]
        rw [e]
        refine ⟨?_, RR.set HH.out ?_, only_setCell (p := ⟨p, 0, none⟩) G1.out (.inl rfl) _⟩
        · refine ret_str (a := S.extract 0 m) (b := ⟨(l.take m).toArray⟩) ?_
          apply Go.WideShapes.bytes_inj
          rw [Lib.extract_data, HS.out]
          simp
        · rw [Lib.extract_data, HS.out, List.take_of_length_le (by rw [List.length_drop, ← HZ.out]; omega)]
theorem rrtext_c (p : Nat) (most : Int) (s : Rs) (w : World) (r : RR w p s) (hs : Sh s) :
    Calls Try.prog 28 #[.pointer (some ⟨p, 0, none⟩), .int .i64 most] w (RRPost w p (SV (rText most s).1) (rText most s).2) := by
  rw [rText_tail]
  exact rrtext_m p most (max most 0) s w r hs (by omega)
set_option maxHeartbeats 1000000 in
theorem reftext_c (s : ByteArray) (w : World) (hs : s.size ≤ 1000000000000) : Calls Try.prog 21 #[.string s] w fun e w' => e = .returned (SV (encT s.data.toList)) ∧ Below w.heap.size w w' := by
  have HC := Lib.hid (refint_c (s.size : Int) w (by omega) (by omega))
  have HE : Hid (encT s.data.toList = enc (s.size : Int) ++ s.data.toList) := by
    show _ = _
    unfold encT
    simp
  have hL := enc_le (s.size : Int)
  unfold SV at HC
  obtain ⟨L, hLL⟩ : ∃ L, enc (s.size : Int) = L := ⟨_, rfl⟩
  rw [hLL] at HC HE hL
  have hsum : L.length + s.size ≤ 9223372036854775807 := by omega
  clear hLL
  go_enter Try.func21, Try.ntmps21
  go_wp2_with fail
  refine HC.out.mono ?_
  rintro e w1 ⟨rfl, h1⟩
  have H1 := Lib.hid h1
  clear h1
  go_wp2
  go_ret
  refine ⟨ret_str (a := _) (b := ⟨(encT s.data.toList).toArray⟩) ?_, H1.out⟩
  apply Go.WideShapes.bytes_inj
  rw [HE.out]
  simp
end Go.Proofs.Ytebinhelnhnbeaa
