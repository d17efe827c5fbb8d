/- The few examples that each statement of layer 4 asks first. -/
import Derived.Test.YtkbkbgnnamckoaaRead
set_option linter.unusedSimpArgs false
set_option linter.unusedVariables false
namespace Go.Proofs.Ytkbkbgnnamckoaa
open Go.RowKit
theorem t4a : recAt (frm [97]) 0 = some [97] := by decide +kernel
theorem t4b : recAt (frm [97]) 1 = none := by decide +kernel
theorem t4c : recs (frm [97] ++ [1, 2]) = ([[97]], 7) := by decide +kernel
theorem t4d : (frm [97]).length = 7 := by decide +kernel
theorem rd_lit (w : World) (l : List UInt8) (cs : Array Value) (n : Nat) (hcs : cs.toList = B8 l) (hn : l.length = n) (t : TypeId) (m : Nat × Nat) : Rd (w.alloc (.cells cs t m)) (w.alloc (.cells cs t m)).heap.size 1 (some ⟨w.heap.size, 0, none⟩) n (B8 l) :=
  ⟨by rw [B8_len]; omega, fun _ => ⟨_, rfl, by simp, by rw [← hcs]; exact World.news_of_block (heap_alloc_new w _)⟩⟩
set_option maxHeartbeats 2000000 in
theorem told4 (w : World) : Calls Try.prog 14 #[] w fun e w' => e = .returned (.bool true) ∧ Below w.heap.size w w' := by
  have kc := fun (w : World) (C : Array Value) (n c : Nat) => Lib.run_convert_bytes_const (P := Try.prog) w 28 5 C n c Try.underlying28 Try.underlying5
  go_enter Try.func14, Try.ntmps14
  go_wp2_with fail
  refine (put_yes _ 1 1 [97] _ (rd_lit w [97] #[.int .u8 97] 1 rfl rfl _ _) (by omega) (by omega)).mono ?_
  rintro e w1 ⟨v1, rfl, h1, b1⟩
  obtain ⟨A1, c1, rfl, hc1, _, r1⟩ := h1.form
  have H1 := Lib.hid h1
  have R1 := Lib.hid r1
  have B1 := Lib.hid (((Below.refl _ w).alloc (Nat.le_refl _) (.cells #[.int .u8 97] 5 (1, 2))).trans (b1.mono (by simp)))
  clear h1 r1 b1
  go_wp2_with fail
  refine (put_no none 0 0 _ (by omega) (by omega)).mono ?_
  rintro e w' ⟨rfl, rfl⟩
  go_wp2_with (at_builtin; refine wpl_app rfl (.tmp 22) (.tmp 23) rfl w1.heap.size _ [] rfl (OB.lit w1 _ [] #[] 0 rfl rfl (Nat.le_refl _) (by unfold maxLen; omega)) w1.heap.size _ _ _ _ rfl (R1.out.alloc (Nat.le_refl _) _) ?_ ?_ ?_)
  · simp; have := t4d; omega
  · simp
  intro v2 w2 h2 g2 a2
  obtain ⟨A2, c2, rfl, hc2, _, r2⟩ := h2.form
  have H2 := Lib.hid h2
  have B2 := Lib.hid (show Below w1.heap.size w1 w2 from ((Below.refl _ _).alloc (Nat.le_refl _) _).grown g2 (by simp) (by intro k hk; cases hk; exact Nat.le_refl _))
  have L2 := Lib.hid (h2.lt)
  clear h2 g2 a2 r2
  go_wp2_with (at_builtin; refine wpl_app rfl (.tmp 24) (.tmp 25) rfl w1.heap.size _ _ rfl (H2.out.alloc _) _ _ 2 2 [1, 2] rfl (rd_lit w2 [1, 2] #[.int .u8 1, .int .u8 2] 2 rfl rfl _ _) ?_ ?_ ?_)
  · simp; have := t4d; omega
  · have := B2.out.size; simp; omega
  intro v3 w3 h3 g3 a3
  obtain ⟨A3, c3, rfl, hc3, _, r3⟩ := h3.form
  have B3 := Lib.hid (show Below w1.heap.size w1 w3 from (B2.out.alloc B2.out.size _).grown g3 (by have := B2.out.size; simp; omega) (fun k hk => (L2.out k hk).1))
  have R3 := Lib.hid r3
  clear h3 g3 a3 r3
  go_wp2_with fail
  refine (read_any _ _ _ _ _ R3.out (by simp [t4d]) hc3).mono ?_
  rintro e w4 ⟨v4, rfl, h4, b4⟩
  rw [t4c] at h4 ⊢
  obtain ⟨vs, h4, _⟩ := h4
  obtain ⟨A4, c4, rfl⟩ : ∃ A4 c4, v4 = .slice A4 1 c4 := by
    rcases h4.2 with ⟨_, h0⟩ | ⟨g, cap, cur, rfl, _⟩
    · cases h0
    · exact ⟨_, _, rfl⟩
  have B4 := Lib.hid (show Below w1.heap.size w1 w4 from B3.out.trans (b4.mono B3.out.size))
  clear h4 b4
  go_wp2_with fail
  refine (one_any A1 _ c1 0 _ _ (((R1.out.below B4.out)).more B4.out.size) (by simp [t4d]) hc1 (by omega)).mono ?_
  intro e w5 hq
  unfold OneRet at hq
  rw [t4a] at hq
  obtain ⟨v5, rfl, h5, b5⟩ := hq
  obtain ⟨A5, c5, rfl, hc5, _, r5⟩ := h5.form
  have B5 := Lib.hid (show Below w1.heap.size w1 w5 from B4.out.trans (b5.mono B4.out.size))
  have R5 := Lib.hid r5
  clear h5 b5 r5
  go_wp2_with fail
  refine (one_any A1 _ c1 1 _ _ (((R1.out.below B5.out)).more B5.out.size) (by simp [t4d]) hc1 (by omega)).mono ?_
  intro e w6 hq
  unfold OneRet at hq
  rw [t4b] at hq
  obtain ⟨rfl, q, rfl⟩ := hq
  have hconv : (convert 28 9 (.slice A5 1 c5)).run Try.prog (w5.drewN q) = .ok (.string ⟨#[97]⟩) (w5.drewN q) := run_conv_str (R5.out.drewN q)
  have hl := t4d
  go_wp2
  go_ret
  refine ⟨rfl, below_drewN (B1.out.trans (B5.out.mono ?_)) _⟩
  exact B1.out.size
end Go.Proofs.Ytkbkbgnnamckoaa
