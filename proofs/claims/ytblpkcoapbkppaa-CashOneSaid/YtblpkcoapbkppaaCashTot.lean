/- Totals, and the few examples that each statement of layer 2 asks first. -/
import Derived.Test.YtblpkcoapbkppaaRShare
set_option linter.unusedSimpArgs false
set_option linter.unusedVariables false
namespace Go.Proofs.Ytblpkcoapbkppaa
open Go.RowKit
/-- The total of numbers: told, or refused at the first sum that runs over. -/
def tot : Int → List Int → Array Value
  | s, [] => #[.int .i64 s, .int .i64 0]
  | s, x :: l => if Fits (s + x) then tot (s + x) l else #[.int .i64 0, .int .i64 3]
theorem tot_done (l : List Int) (k : Nat) (s : Int) (h : l.length ≤ k) : tot s (l.drop k) = #[.int .i64 s, .int .i64 0] := by
  rw [List.drop_of_length_le h]; rfl
theorem tot_yes (l : List Int) (k : Nat) (s : Int) (h : k < l.length) (hf : Fits (s + l[k])) : tot s (l.drop k) = tot (s + l[k]) (l.drop (k + 1)) := by
  rw [List.drop_eq_getElem_cons h, tot, if_pos hf]
theorem tot_no (l : List Int) (k : Nat) (s : Int) (h : k < l.length) (hf : ¬ Fits (s + l[k])) : tot s (l.drop k) = #[.int .i64 0, .int .i64 3] := by
  rw [List.drop_eq_getElem_cons h, tot, if_neg hf]
def TotAt (w wr : World) (l : List Int) (k : Nat) (s : Int) : Prop := Below w.heap.size w wr ∧ Fits s ∧ tot 0 l = tot s (l.drop k)
set_option maxHeartbeats 4000000 in
theorem total_c (A : Option Addr) (n c : Nat) (l : List Int) (w : World) (hr : Rd w w.heap.size 1 A n (I8 l)) (hf : ∀ x ∈ l, Fits x) (hn : n ≤ 9223372036854775807) :
    Calls Try.prog 24 #[.slice A n c] w fun e w' => e = .returned (.tuple (tot 0 l)) ∧ Below w.heap.size w w' := by
  have hln : l.length = n := by have := hr.1; rw [I8_len] at this; omega
  have HR := Lib.hid hr
  have HL := Lib.hid hln
  have HF := Lib.hid hf
  clear hr hln hf
  go_enter Try.func24, Try.ntmps24
  go_wp2
  go_loopw [4, 11] (fun s i wr => ∃ (k : Nat) (z : Int), k ≤ n ∧ i = .int .i64 k ∧ s = .int .i64 z ∧ Hid (TotAt w wr l k z)) (fun _ i _ => n - (intOf i).toNat)
  case atStart => exact ⟨0, 0, by omega, rfl, rfl, Lib.hid ⟨Below.refl _ _, by decide, rfl⟩⟩
  case round =>
    obtain ⟨k, z, hk, rfl, rfl, hq⟩ := hrel
    obtain ⟨hb, hz, ht⟩ := hq.out
    by_cases hlt : k < n
    · obtain ⟨ad, hl, rfl, _, hcell⟩ := (HR.out.below hb).num hlt
      have hx := HF.out _ (List.getElem_mem hl)
      by_cases hs : Fits (z + l[k])
      · have ht2 := tot_yes l k z hl hs
        have hc := fun ws => add_c z l[k] ws hz hx
        rw [kept_yes hs] at hc
        have HT := Lib.hid (ht.trans ht2)
        have HS := Lib.hid hs
        have HB := Lib.hid hb
        generalize l[k] = x at *
        clear ht ht2 hs hb hz hx hq
        go_wp2_with (go_at_call 18; refine (hc _).mono ?_; rintro e w' ⟨rfl, hb'⟩)
        go_roundw
        case rel => exact ⟨k + 1, _, by omega, by go_num, rfl, Lib.hid ⟨HB.out.trans (hb'.mono HB.out.size), HS.out, HT.out⟩⟩
        case measure => simp [intOf]; omega
      · have ht2 := tot_no l k z hl hs
        have hc := fun ws => add_c z l[k] ws hz hx
        rw [kept_no hs] at hc
        have HT := Lib.hid (ht.trans ht2)
        have HB := Lib.hid hb
        generalize l[k] = x at *
        clear ht ht2 hs hb hz hx hq
        go_wp2_with (go_at_call 18; refine (hc _).mono ?_; rintro e w' ⟨rfl, hb'⟩)
        go_ret2
        exact ⟨by rw [HT.out]; rfl, HB.out.trans (hb'.mono HB.out.size)⟩
    · have ht2 := tot_done l k z (by rw [HL.out]; omega)
      have HT := Lib.hid (ht.trans ht2)
      have HB := Lib.hid hb
      clear ht ht2 hb hz hq
      go_wp2
      go_ret2
      exact ⟨by rw [HT.out]; rfl, HB.out⟩
set_option maxHeartbeats 4000000 in
theorem rtotal_c (A : Option Addr) (n c : Nat) (l : List Int) (w : World) (hr : Rd w w.heap.size 1 A n (I8 l)) (hf : ∀ x ∈ l, Fits x) (hn : n ≤ 9223372036854775807) :
    Calls Try.prog 25 #[.slice A n c] w fun e w' => e = .returned (.tuple (tot 0 l)) ∧ Below w.heap.size w w' := by
  have hln : l.length = n := by have := hr.1; rw [I8_len] at this; omega
  have HR := Lib.hid hr
  have HL := Lib.hid hln
  have HF := Lib.hid hf
  clear hr hln hf
  go_enter Try.func25, Try.ntmps25
  go_wp2
  go_loopw [4, 5] (fun s i wr => ∃ (k : Nat) (z : Int), k ≤ n ∧ i = .int .i64 k ∧ s = .int .i64 z ∧ Hid (TotAt w wr l k z)) (fun _ i _ => n - (intOf i).toNat)
  case atStart => exact ⟨0, 0, by omega, rfl, rfl, Lib.hid ⟨Below.refl _ _, by decide, rfl⟩⟩
  case round =>
    obtain ⟨k, z, hk, rfl, rfl, hq⟩ := hrel
    obtain ⟨hb, hz, ht⟩ := hq.out
    by_cases hlt : k < n
    · obtain ⟨ad, hl, rfl, _, hcell⟩ := (HR.out.below hb).num hlt
      have hx := HF.out _ (List.getElem_mem hl)
      by_cases hs : Fits (z + l[k])
      · have ht2 := tot_yes l k z hl hs
        have hc := fun ws => radd_c z l[k] ws hz hx
        rw [kept_yes hs] at hc
        have HT := Lib.hid (ht.trans ht2)
        have HS := Lib.hid hs
        have HB := Lib.hid hb
        generalize l[k] = x at *
        clear ht ht2 hs hb hz hx hq
        go_wp2_with (go_at_call 21; refine (hc _).mono ?_; rintro e w' ⟨rfl, rfl⟩)
        go_roundw
        case rel => exact ⟨k + 1, _, by omega, by go_num, rfl, Lib.hid ⟨HB.out, HS.out, HT.out⟩⟩
        case measure => simp [intOf]; omega
      · have ht2 := tot_no l k z hl hs
        have hc := fun ws => radd_c z l[k] ws hz hx
        rw [kept_no hs] at hc
        have HT := Lib.hid (ht.trans ht2)
        have HB := Lib.hid hb
        generalize l[k] = x at *
        clear ht ht2 hs hb hz hx hq
        go_wp2_with (go_at_call 21; refine (hc _).mono ?_; rintro e w' ⟨rfl, rfl⟩)
        go_ret2
        exact ⟨by rw [HT.out]; rfl, HB.out⟩
    · have ht2 := tot_done l k z (by rw [HL.out]; omega)
      have HT := Lib.hid (ht.trans ht2)
      have HB := Lib.hid hb
      clear ht ht2 hb hz hq
      go_wp2
      go_ret2
      exact ⟨by rw [HT.out]; rfl, HB.out⟩
end Go.Proofs.Ytblpkcoapbkppaa
