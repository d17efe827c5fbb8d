/- sojournref1.R: the document's own reader, walked. -/
import Derived.Test.YtebinhelnhnbeaaRefP
set_option linter.unusedSimpArgs false
set_option linter.unusedVariables false
namespace Go.Proofs.Ytebinhelnhnbeaa
open Go.RowKit
/-- Block h is a reader of the document's own. -/
def RR (w : World) (h : Nat) (s : Rs) : Prop := ∃ S bad, w.heap[h]? = some (.cells #[.string S, .bool bad] 40 (0, 0)) ∧ s = (if bad then none else some S.data.toList)
def RRPost (w : World) (h : Nat) (v : Value) (s : Rs) (e : Ending) (w' : World) : Prop := e = .returned v ∧ RR w' h s ∧ w.grownBy w' (some h)
section
variable {w w' : World} {h : Nat} {s : Rs}
theorem RR.lt (r : RR w h s) : h < w.heap.size := by obtain ⟨S, bad, h1, _⟩ := r; exact blk_lt h1
theorem RR.same (r : RR w h s) (hb : w'.heap[h]? = w.heap[h]?) : RR w' h s := by obtain ⟨S, bad, h1, h2⟩ := r; exact ⟨S, bad, hb.trans h1, h2⟩
theorem RR.drewN (r : RR w h s) (q : Nat) : RR (w.drewN q) h s := r
theorem RR.grown {k : Nat} (r : RR w h s) (hg : w.grownBy w' (some k)) (hk : h ≠ k) : RR w' h s := r.same (hg.block h r.lt (fun e => hk (by injection e)))
theorem RR.below {D : Nat} (r : RR w h s) (hb : Below D w w') (hd : h < D) : RR w' h s := r.same (hb.block h hd)
theorem RR.some_ {l : List UInt8} (r : RR w h (some l)) : ∃ S, S.data.toList = l ∧ w.heap[h]? = some (.cells #[.string S, .bool false] 40 (0, 0)) := by
  obtain ⟨S, bad, h1, h2⟩ := r
  cases bad with
  | true => cases h2
  | false => injection h2 with h2; exact ⟨S, h2.symm, h1⟩
theorem RR.none_ (r : RR w h none) : ∃ S, w.heap[h]? = some (.cells #[.string S, .bool true] 40 (0, 0)) := by
  obtain ⟨S, bad, h1, h2⟩ := r
  cases bad with
  | true => exact ⟨S, h1⟩
  | false => cases h2
theorem RR.any_ (r : RR w h s) : ∃ S b, w.heap[h]? = some (.cells #[.string S, .bool b] 40 (0, 0)) := by
  obtain ⟨S, bad, h1, h2⟩ := r
  exact ⟨S, bad, h1⟩
theorem RR.bad {S : ByteArray} {b : Bool} (h1 : w.heap[h]? = some (.cells #[.string S, .bool b] 40 (0, 0))) (t : ByteArray) : RR ((w.setCell ⟨h, 1, none⟩ (.bool true)).setCell ⟨h, 0, none⟩ (.string t)) h none :=
  ⟨t, true, (set_two (set_two h1).2).1, rfl⟩
theorem RR.set {S T : ByteArray} {l : List UInt8} (h1 : w.heap[h]? = some (.cells #[.string S, .bool false] 40 (0, 0))) (hl : T.data.toList = l) : RR (w.setCell ⟨h, 0, none⟩ (.string T)) h (some l) :=
  ⟨T, false, (set_two h1).1, by rw [hl]; rfl⟩
end
theorem rwrong_c (h : Nat) (s : Rs) (w : World) (r : RR w h s) : Calls Try.prog 51 #[.pointer (some ⟨h, 0, none⟩)] w fun e w' => e = .returned (.tuple #[]) ∧ RR w' h none ∧ w.grownBy w' (some h) := by
  obtain ⟨S, b, h1⟩ := r.any_
  have c0 : w.cell? ⟨h, 0, none⟩ = some (.string S) := by rw [cellsAt h1]; rfl
  have c1 : w.cell? ⟨h, 1, none⟩ = some (.bool b) := by rw [cellsAt h1]; rfl
  have f0 := free0 (i := 0) h1
  have f1 := free0 (i := 1) h1
  have H1 := Lib.hid h1
  clear h1 r
  go_enter Try.func51, Try.ntmps51
  go_wp2
  go_end0
  refine ⟨rfl, RR.bad H1.out _, ?_⟩
  exact only_setCell (p := ⟨h, 0, none⟩) (only_setCell (p := ⟨h, 1, none⟩) (World.grownBy.refl w _) (.inl rfl) _) (.inl rfl) _
theorem rrend_c (h : Nat) (s : Rs) (w : World) (r : RR w h s) : Calls Try.prog 32 #[.pointer (some ⟨h, 0, none⟩)] w fun e w' => e = .returned (.int .i64 (rEnd s)) ∧ w = w' := by
  cases s with
  | none =>
    obtain ⟨S, h1⟩ := r.none_
    have c1 : w.cell? ⟨h, 1, none⟩ = some (.bool true) := by rw [cellsAt h1]; rfl
    clear h1 r
    go_enter Try.func32, Try.ntmps32
    go_wp2
    go_ret
    exact ⟨rfl, rfl⟩
  | some l =>
    obtain ⟨S, hS, h1⟩ := r.some_
    have c0 : w.cell? ⟨h, 0, none⟩ = some (.string S) := by rw [cellsAt h1]; rfl
    have c1 : w.cell? ⟨h, 1, none⟩ = some (.bool false) := by rw [cellsAt h1]; rfl
    have hz : S.size = l.length := by rw [← hS]; simp
    clear h1 r
    cases l with
    | nil =>
      have hn : S.size = 0 := by simpa using hz
      have hn2 : ¬ 0 < S.size := by omega
      have HN := Lib.hid hn
      clear hz hS hn
      go_enter Try.func32, Try.ntmps32
      go_wp2
      go_ret
      exact ⟨rfl, rfl⟩
    | cons x l =>
      have hn : 0 < S.size := by simp at hz; omega
      clear hz hS
      go_enter Try.func32, Try.ntmps32
      go_wp2
      go_ret
      exact ⟨rfl, rfl⟩
set_option maxHeartbeats 1000000 in
theorem rrbyte_c (h : Nat) (s : Rs) (w : World) (r : RR w h s) (hs : ∀ l, s = some l → l.length ≤ 1000000000000) : Calls Try.prog 30 #[.pointer (some ⟨h, 0, none⟩)] w (RRPost w h (.int .i64 (rByte s).1) (rByte s).2) := by
  cases s with
  | none =>
    obtain ⟨S, h1⟩ := r.none_
    have c1 : w.cell? ⟨h, 1, none⟩ = some (.bool true) := by rw [cellsAt h1]; rfl
    have R := Lib.hid r
    clear h1 r hs
    go_enter Try.func30, Try.ntmps30
    go_wp2_with (go_at_call 51; refine (rwrong_c h _ _ R.out).mono ?_; rintro e w1 ⟨rfl, h1, g1⟩; have H1 := Lib.hid h1; have G1 := Lib.hid g1; clear h1 g1)
    go_ret
    exact ⟨rfl, H1.out, G1.out⟩
  | some l =>
    obtain ⟨S, hS, h1⟩ := r.some_
    have c0 : w.cell? ⟨h, 0, none⟩ = some (.string S) := by rw [cellsAt h1]; rfl
    have c1 : w.cell? ⟨h, 1, none⟩ = some (.bool false) := by rw [cellsAt h1]; rfl
    have f0 := free0 (i := 0) h1
    have hz : S.size = l.length := by rw [← hS]; simp
    have hll := hs l rfl
    have H1 := Lib.hid h1
    have R := Lib.hid r
    clear h1 r hs
    cases l with
    | nil =>
      have hn : S.size = 0 := by simpa using hz
      have hb : ((S.size : Int) == 0) = true := beq_iff_eq.2 (by omega)
      have HN := Lib.hid hn
      have hn2 : S.size ≤ 0 := by omega
      clear hz hS hn
      go_enter Try.func30, Try.ntmps30
      go_wp2_with (go_at_call 51; refine (rwrong_c h _ _ R.out).mono ?_; rintro e w1 ⟨rfl, h1, g1⟩; have H1 := Lib.hid h1; have G1 := Lib.hid g1; clear h1 g1)
      go_ret
      exact ⟨rfl, H1.out, G1.out⟩
    | cons x l =>
      have hn : 0 < S.size := by simp at hz; omega
      have hb : ((S.size : Int) == 0) = false := beq_eq_false_iff_ne.2 (by omega)
      have hx : S[0].toNat = x.toNat := by
        have : S[0] = x := by
          have h2 : S.data.toList[0]? = some x := by rw [hS]; rfl
          have h3 : S.data.toList[0]? = some S[0] := by rw [List.getElem?_eq_getElem (by simpa using hn)]; rfl
          rw [h3] at h2
          injection h2
        rw [this]
      have hxl := u8_lt x
      have HS := Lib.hid hS
      have HZ := Lib.hid hz
      have hle : S.size ≤ 1000000000000 := by omega
      clear hz hS
      go_enter Try.func30, Try.ntmps30
      go_wp2
      go_ret
      refine ⟨rfl, RR.set H1.out ?_, only_setCell (World.grownBy.refl w _) (.inl rfl) _⟩
      rw [Lib.extract_data, HS.out]
      have := HZ.out
      simp at this ⊢
      rw [List.take_of_length_le (by omega)]
end Go.Proofs.Ytebinhelnhnbeaa
