/- Plans: the document's own answer: Back, Capture; which operations may be; lists of steps that are alike. -/
import Derived.Test.YtplgodfhhlnojaaPlanRef
import Derived.Outline
set_option linter.unusedSimpArgs false
set_option linter.unusedVariables false
namespace Go.Proofs.Ytplgodfhhlnojaa
open Go.RowKit
def bckK (x : W7) : Nat → List A6
  | 0 => [⟨3, 6, x.b, 0, 0, 0⟩]
  | j + 1 => bckK x j ++ (if 0 < x.u (2 - j) then [eachA 3 x ((2 - j : Nat) : Int)] else [])
theorem bckK_len (x : W7) : ∀ j, (bckK x j).length ≤ j + 1
  | 0 => by simp [bckK]
  | j + 1 => by have := bckK_len x j; simp only [bckK, List.length_append]; split <;> simp <;> omega
theorem bckK_yes (x : W7) (j : Nat) (h : 0 < x.u (2 - j)) : bckK x (j + 1) = bckK x j ++ [eachA 3 x ((2 - j : Nat) : Int)] := by simp only [bckK]; rw [if_pos h]
theorem bckK_no (x : W7) (j : Nat) (h : ¬ 0 < x.u (2 - j)) : bckK x (j + 1) = bckK x j := by simp only [bckK]; rw [if_neg h, List.append_nil]
theorem backL_is (x : W7) (h : MayW x) : backL x = bckK x 3 := by
  rw [backL_yes x h]
  unfold stepsK
  simp only [bckK, partsK, Nat.sub_zero, Nat.reduceSub]
  by_cases a : 0 < x.u 0 <;> by_cases b : 0 < x.u 1 <;> by_cases c : 0 < x.u 2 <;> simp [a, b, c]
set_option maxRecDepth 100000 in
set_option maxHeartbeats 4000000 in
theorem rback_no (x : W7) (w : World) (hm : ¬ MayW x) : Calls Try.prog 64 #[x.val] w (RRA w (backL x)) := by
  have HM := Lib.hid (rmay_is x false (decide_eq_false hm))
  rw [backL_no x hm]
  clear hm
  unfold W7.val at *
  go_enter Try.func64, Try.ntmps64
  go_wp2_with fail
  refine (HM.out _).mono ?_
  rintro e w1 ⟨rfl, b1⟩
  have B1 := Lib.hid ((bxW_below w x).trans (b1.mono (by simp)))
  clear b1
  go_wp2
  go_ret
  exact ⟨_, rfl, World.ownsRow_nil _ _ _ _, B1.out⟩
set_option maxRecDepth 100000 in
set_option maxHeartbeats 4000000 in
theorem rback_yes (x : W7) (w : World) (hm : MayW x) : Calls Try.prog 64 #[x.val] w (RRA w (backL x)) := by
  have HM := Lib.hid (rmay_is x true (decide_eq_true hm))
  rw [backL_is x hm]
  clear hm
  unfold W7.val at *
  go_enter Try.func64, Try.ntmps64
  go_wp2_with fail
  refine (HM.out _).mono ?_
  rintro e w1 ⟨rfl, b1⟩
  have hz : w.heap.size + 1 ≤ w1.heap.size := by have := b1.size; simp at this; exact this
  obtain ⟨c0, c1, c2, c3, c4, c5, c6⟩ := CH.cells (show CH w x w1 from b1.mono (by simp))
  have nb : w.heap.size < w1.heap.size := by omega
  have B1 := Lib.hid (show CH w x w1 from b1.mono (by simp))
  clear b1
  go_wp2_with (at_builtin; refine wpl_appR rfl (.tmp 9) (.tmp 14) rfl (w.heap.size + 1) _ [] rfl (own_alloc (World.ownsRow_nil _ _ _ _) _) _ _ 1 1 [⟨3, 6, x.b, 0, 0, 0⟩] rfl (rd_ask _ ⟨_, _, _, _, _, _⟩ _ _ w1.heap.size rfl) ?_ ?_ ?_)
  · simp
  · simp; omega
  intro v2 w2 h2 g2 _
  obtain ⟨A2, c2', hv2, _, _, _⟩ := OR.rd h2
  rw [List.length_singleton] at hv2
  subst hv2
  have HB2 := Lib.hid (show CH w x w2 from Below.grown (Below.alloc B1.out hz _) g2 (by simp; omega) (by simp [Value.ownBlock]))
  have H2 := Lib.hid h2
  clear h2 g2 c0 c1 c2 c3 c4 c5 c6 nb B1
  go_wp2
  go_loopw [3, 4] (fun o i wr => ∃ (j m c : Nat) (z : Int) (A : Option Addr), j ≤ 3 ∧ z = 2 - (j : Int) ∧ i = .int .i64 z ∧ o = .slice A m c ∧ m ≤ j + 1 ∧ Hid (OR wr (w.heap.size + 1) (.slice A m c) (bckK x j) ∧ CH w x wr)) (fun _ i _ => (intOf i + 1).toNat)
  case atStart => exact ⟨0, _, c2', 2, A2, by omega, by omega, rfl, rfl, by omega, Lib.hid ⟨H2.out, HB2.out⟩⟩
  case round =>
    clear H2 HB2
    obtain ⟨k, m, c, z, A, hk, hz, rfl, rfl, hm, HO⟩ := hrel
    obtain ⟨ho, hb⟩ := HO.out
    obtain ⟨c0, c1, c2, c3, c4, c5, c6⟩ := CH.cells hb
    have HB := Lib.hid hb
    have HN := Lib.hid ho
    have HMm := Lib.hid (show (bckK x k).length = m from by obtain ⟨A2, c2, e, _⟩ := OR.rd ho; injection e with _ e2 _; exact e2.symm)
    have hzr : w.heap.size + 1 ≤ wr.heap.size := (bxW_of hb).2.2
    have nb : w.heap.size < wr.heap.size := by omega
    clear ho hb HO
    have : k = 0 ∨ k = 1 ∨ k = 2 ∨ k = 3 := by omega
    rcases this with rfl | rfl | rfl | rfl
    · obtain rfl : z = 2 := by omega
      clear hz
      by_cases hy : 0 < x.m2
      · go_wp2_with (at_builtin; refine wpl_appR rfl (.tmp 25) (.tmp 31) rfl (w.heap.size + 1) _ _ rfl (own_alloc HN.out _) _ _ 1 1 [eachA 3 x 2] rfl (rd_ask _ ⟨_, _, _, _, _, _⟩ _ _ wr.heap.size rfl) ?_ ?_ ?_)
        · rw [HMm.out]; omega
        · simp; omega
        intro v2 w2 h2 g2 _
        obtain ⟨A2, c2', hv2, _, _, _⟩ := OR.rd h2
        rw [List.length_append, HMm.out, List.length_singleton] at hv2
        subst hv2
        have HB2 := Lib.hid (show CH w x w2 from Below.grown (Below.alloc HB.out hzr _) g2 (by simp; omega) (own_base HN.out))
        have H2 := Lib.hid h2
        clear h2 g2
        go_wp2
        go_roundw
        case rel => exact ⟨1, _, c2', _, A2, by omega, by omega, rfl, rfl, by omega, Lib.hid ⟨by rw [bckK_yes x 0 hy]; exact H2.out, HB2.out⟩⟩
        case measure => simp [intOf]
      · go_wp2
        go_roundw
        case rel => exact ⟨1, m, c, _, A, by omega, by omega, rfl, rfl, by omega, Lib.hid ⟨by rw [bckK_no x 0 hy]; exact HN.out, HB.out⟩⟩
        case measure => simp [intOf]
    · obtain rfl : z = 1 := by omega
      clear hz
      by_cases hy : 0 < x.m1
      · go_wp2_with (at_builtin; refine wpl_appR rfl (.tmp 25) (.tmp 31) rfl (w.heap.size + 1) _ _ rfl (own_alloc HN.out _) _ _ 1 1 [eachA 3 x 1] rfl (rd_ask _ ⟨_, _, _, _, _, _⟩ _ _ wr.heap.size rfl) ?_ ?_ ?_)
        · rw [HMm.out]; omega
        · simp; omega
        intro v2 w2 h2 g2 _
        obtain ⟨A2, c2', hv2, _, _, _⟩ := OR.rd h2
        rw [List.length_append, HMm.out, List.length_singleton] at hv2
        subst hv2
        have HB2 := Lib.hid (show CH w x w2 from Below.grown (Below.alloc HB.out hzr _) g2 (by simp; omega) (own_base HN.out))
        have H2 := Lib.hid h2
        clear h2 g2
        go_wp2
        go_roundw
        case rel => exact ⟨2, _, c2', _, A2, by omega, by omega, rfl, rfl, by omega, Lib.hid ⟨by rw [bckK_yes x 1 hy]; exact H2.out, HB2.out⟩⟩
        case measure => simp [intOf]
      · go_wp2
        go_roundw
        case rel => exact ⟨2, m, c, _, A, by omega, by omega, rfl, rfl, by omega, Lib.hid ⟨by rw [bckK_no x 1 hy]; exact HN.out, HB.out⟩⟩
        case measure => simp [intOf]
    · obtain rfl : z = 0 := by omega
      clear hz
      by_cases hy : 0 < x.m0
      · go_wp2_with (at_builtin; refine wpl_appR rfl (.tmp 25) (.tmp 31) rfl (w.heap.size + 1) _ _ rfl (own_alloc HN.out _) _ _ 1 1 [eachA 3 x 0] rfl (rd_ask _ ⟨_, _, _, _, _, _⟩ _ _ wr.heap.size rfl) ?_ ?_ ?_)
        · rw [HMm.out]; omega
        · simp; omega
        intro v2 w2 h2 g2 _
        obtain ⟨A2, c2', hv2, _, _, _⟩ := OR.rd h2
        rw [List.length_append, HMm.out, List.length_singleton] at hv2
        subst hv2
        have HB2 := Lib.hid (show CH w x w2 from Below.grown (Below.alloc HB.out hzr _) g2 (by simp; omega) (own_base HN.out))
        have H2 := Lib.hid h2
        clear h2 g2
        go_wp2
        go_roundw
        case rel => exact ⟨3, _, c2', _, A2, by omega, by omega, rfl, rfl, by omega, Lib.hid ⟨by rw [bckK_yes x 2 hy]; exact H2.out, HB2.out⟩⟩
        case measure => simp [intOf]
      · go_wp2
        go_roundw
        case rel => exact ⟨3, m, c, _, A, by omega, by omega, rfl, rfl, by omega, Lib.hid ⟨by rw [bckK_no x 2 hy]; exact HN.out, HB.out⟩⟩
        case measure => simp [intOf]
    · obtain rfl : z = -1 := by omega
      clear hz
      go_wp2
      go_ret
      exact ⟨_, rfl, own_mono HN.out (by omega), (bxW_of HB.out).2.1⟩
theorem rback_c (x : W7) (w : World) : Calls Try.prog 64 #[x.val] w (RRA w (backL x)) := by
  by_cases h : MayW x
  · exact rback_yes x w h
  · exact rback_no x w h
def rcW (w : World) (x : W7) : World := (bxW w x).alloc (.cells #[.int .i64 0, .int .i64 0, .int .i64 0, .int .i64 0, .int .i64 0, .int .i64 0] 33)
theorem rcW_size (w : World) (x : W7) : (rcW w x).heap.size = w.heap.size + 2 := by simp [rcW, bxW_size]
set_option maxRecDepth 100000 in
set_option maxHeartbeats 4000000 in
theorem rcapture_c (x : W7) (w : World) : Calls Try.prog 63 #[x.val] w fun e w' => e = .returned (captureA x).val ∧ Below w.heap.size w w' := by
  obtain ⟨m, hm⟩ : ∃ m, decide (MayW x) = m := ⟨_, rfl⟩
  have HM := Lib.hid (rmay_is x m hm)
  obtain ⟨ca, hca⟩ : ∃ ca, captureA x = ca := ⟨_, rfl⟩
  rw [hca]
  have HC2 := Lib.hid (show ca = if m then ⟨3, 5, x.b, 0, 0, 0⟩ else ⟨0, 0, 0, 0, 0, 0⟩ from by rw [← hca, ← hm]; unfold captureA; by_cases h : MayW x <;> simp [h])
  clear hca hm
  unfold W7.val at *
  cases m
  all_goals
    go_enter Try.func63, Try.ntmps63
    go_wp2_with fail
    refine (HM.out _).mono ?_
    rintro e w1 ⟨rfl, b1⟩
    have hb : Below (rcW w x).heap.size (rcW w x) w1 := b1
    have hr : w1.heap[w.heap.size + 1]? = some (.cells #[.int .i64 0, .int .i64 0, .int .i64 0, .int .i64 0, .int .i64 0, .int .i64 0] 33) := by
      rw [hb.block (w.heap.size + 1) (by rw [rcW_size]; omega)]
      have := heap_alloc_new (bxW w x) (.cells #[.int .i64 0, .int .i64 0, .int .i64 0, .int .i64 0, .int .i64 0, .int .i64 0] 33)
      rw [bxW_size] at this
      exact this
    have hc : CH w x (rcW w x) := (Below.refl _ _).alloc (by rw [bxW_size]; omega) _
    obtain ⟨c0, c1, c2, c3, c4, c5, c6⟩ := CH.cells (hc.trans (hb.mono (by rw [rcW_size]; omega)))
    have hz : w.heap.size + 1 < w1.heap.size := by have := hb.size; rw [rcW_size] at this; omega
    have B1 := Lib.hid (show Below w.heap.size w w1 from ((bxW_below w x).alloc (by rw [bxW_size]; omega) _).trans (hb.mono (by rw [rcW_size]; omega)))
    have r0 : w1.cell? ⟨w.heap.size + 1, 0, none⟩ = some (.int .i64 0) := World.news_of_block hr 0 _ rfl
    have r1 : w1.cell? ⟨w.heap.size + 1, 1, none⟩ = some (.int .i64 0) := World.news_of_block hr 1 _ rfl
    have r2 : w1.cell? ⟨w.heap.size + 1, 2, none⟩ = some (.int .i64 0) := World.news_of_block hr 2 _ rfl
    have r3 : w1.cell? ⟨w.heap.size + 1, 3, none⟩ = some (.int .i64 0) := World.news_of_block hr 3 _ rfl
    have r4 : w1.cell? ⟨w.heap.size + 1, 4, none⟩ = some (.int .i64 0) := World.news_of_block hr 4 _ rfl
    have r5 : w1.cell? ⟨w.heap.size + 1, 5, none⟩ = some (.int .i64 0) := World.news_of_block hr 5 _ rfl
    have hf : ∀ j, w1.frozen? ⟨w.heap.size + 1, j, none⟩ = false := fun j => frozen_of_row w1 _ j _ _ hr
    clear b1 hb hc hr
    go_wp2
    first
      | refine bodyPost_ret (v := .agg #[.int .i64 0, .int .i64 0, .int .i64 0, .int .i64 0, .int .i64 0, .int .i64 0]) (by simp [results, Try.results63, go_sem, r0, r1, r2, r3, r4, r5]; done) rfl ⟨by rw [HC2.out]; rfl, ?_⟩
      | refine bodyPost_ret (v := .agg #[.int .i64 3, .int .i64 5, .int .i64 x.b, .int .i64 0, .int .i64 0, .int .i64 0]) (by simp [results, Try.results63, go_sem, r0, r1, r2, r3, r4, r5]; done) rfl ⟨by rw [HC2.out]; rfl, ?_⟩
    exact ((((((B1.out.setCell (p := ⟨w.heap.size + 1, 0, none⟩) (by simp) _).setCell (p := ⟨w.heap.size + 1, 1, none⟩) (by simp) _).setCell (p := ⟨w.heap.size + 1, 2, none⟩) (by simp) _).setCell (p := ⟨w.heap.size + 1, 3, none⟩) (by simp) _).setCell (p := ⟨w.heap.size + 1, 4, none⟩) (by simp) _).setCell (p := ⟨w.heap.size + 1, 5, none⟩) (by simp) _)
end Go.Proofs.Ytplgodfhhlnojaa
