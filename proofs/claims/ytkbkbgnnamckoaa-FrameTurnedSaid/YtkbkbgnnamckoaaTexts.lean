/- Two lists of texts that are alike are told so. -/
import Derived.Test.YtkbkbgnnamckoaaFPlaces
set_option linter.unusedSimpArgs false
set_option linter.unusedVariables false
namespace Go.Proofs.Ytkbkbgnnamckoaa
open Go.RowKit
/-- Texts as cells. -/
def S8 (bs : List (List UInt8)) : List Value := bs.map fun b => Value.string ⟨b.toArray⟩
set_option maxHeartbeats 2000000 in
theorem texts_yes (A B : Option Addr) (n c d : Nat) (ls : List (List UInt8)) (w : World) (hr : RdRows w w.heap.size A n ls) (hs : Rd w w.heap.size 1 B n (S8 ls)) (hn : n ≤ 9223372036854775807) :
    Calls Try.prog 21 #[.slice A n c, .slice B n d] w fun e w' => e = .returned (.bool true) ∧ Below w.heap.size w w' := by
  have HR := Lib.hid hr
  have HS := Lib.hid hs
  clear hr hs
  go_enter Try.func21, Try.ntmps21
  go_wp2
  go_loopw [5] (fun i wr => ∃ k : Nat, k ≤ n ∧ i = .int .i64 k ∧ Hid (Below w.heap.size w wr)) (fun i _ => n - (intOf i).toNat)
  case atStart => exact ⟨0, by omega, rfl, Below.refl _ _⟩
  case round =>
    obtain ⟨k, hk, rfl, HB⟩ := hrel
    by_cases hlt : k < n
    · obtain ⟨ad, l, Ai, ci, rfl, _, hl, hcell, hci, hci2, hrd⟩ := (HR.out.below HB.out).at_ hlt
      obtain ⟨bd, u, rfl, _, hx, hb⟩ := (HS.out.below HB.out).at1 hlt
      have hu : u = .string ⟨l.toArray⟩ := by
        unfold S8 at hx
        rw [List.getElem?_map, hl] at hx
        simpa using hx.symm
      subst hu
      have q1 : ∀ s : BW wr.heap.size wr, s.val.cell? (ad.add k) = some (.slice Ai l.length ci) := BW.cell hcell (cell_lt hcell)
      have q2 : ∀ s : BW wr.heap.size wr, s.val.cell? (bd.add k) = some (.string ⟨l.toArray⟩) := BW.cell hb (cell_lt hb)
      have k1 : ∀ s : BW wr.heap.size wr, _ := fun s => run_conv_str (c := ci) ((hrd.more HB.out.size).below s.h)
      clear hl hcell hrd hx hb
      go_wp2_with fail
      refine wp_region_below (wr.heap.size) (by kernel_rfl) (by kernel_rfl) ?_
      repeat (first | go_big_quiet_step ((fail)) | quiet_step ((fail)))
      refine wpQuiet_nil ?_
      intro _ hw'
      obtain ⟨sb, hw''⟩ := hw'
      subst hw''
      go_wp2
      go_roundw
      case rel => exact ⟨k + 1, by omega, by go_num, HB.out.trans (sb.h.mono HB.out.size)⟩
      case measure => simp [intOf]; omega
    · obtain rfl : n = k := by omega
      go_wp2
      go_ret
      exact ⟨rfl, HB.out⟩
/-- A row of rows of one's own reads as rows. -/
theorem OBs.rd {w : World} {base : Nat} {A : Option Addr} {n c : Nat} {ls : List (List UInt8)} (h : OBs w base (.slice A n c) ls) : n = ls.length ∧ n ≤ c ∧ c ≤ maxLen ∧ RdRows w w.heap.size A n ls := by
  obtain ⟨vs, h1, h2⟩ := h
  have hn : n = ls.length ∧ n ≤ c ∧ c ≤ maxLen := by
    rcases h1.2 with ⟨e, h0⟩ | ⟨g, cap, cur, e, _, _, hc, hm, _⟩
    · injection e with e1 e2 e3
      subst e2 e3
      exact ⟨h0.symm, Nat.le_refl _, Nat.zero_le _⟩
    · injection e with e1 e2 e3
      subst e2 e3
      exact ⟨rfl, hc, hm⟩
  obtain ⟨rfl, hc, hm⟩ := hn
  refine ⟨rfl, hc, hm, rfl, vs, Rd.of_own h1, fun i l hi => ?_⟩
  obtain ⟨u, e1, e2⟩ := h2 i l hi
  obtain ⟨Ai, ci, rfl, r1, r2, r3⟩ := e2.form
  exact ⟨Ai, ci, e1, r1, r2, r3⟩
theorem OBs.form {w : World} {base : Nat} {v : Value} {ls : List (List UInt8)} (h : OBs w base v ls) : ∃ A c, v = .slice A ls.length c := by
  obtain ⟨vs, h1, _⟩ := h
  rcases h1.2 with ⟨e, h0⟩ | ⟨g, cap, cur, e, _⟩
  · exact ⟨none, 0, by rw [e, h0]⟩
  · exact ⟨_, _, e⟩
end Go.Proofs.Ytkbkbgnnamckoaa
