/- Plans: Capture. -/
import Derived.Test.YtplgodfhhlnojaaPlan4
import Derived.Outline
set_option linter.unusedSimpArgs false
set_option linter.unusedVariables false
namespace Go.Proofs.Ytplgodfhhlnojaa
open Go.RowKit
def captureA (x : W7) : A6 := if MayW x then ⟨3, 5, x.b, 0, 0, 0⟩ else ⟨0, 0, 0, 0, 0, 0⟩
def A6.val (a : A6) : Value := .agg #[.int .i64 a.node, .int .i64 a.kind, .int .i64 a.book, .int .i64 a.units, .int .i64 a.cust, .int .i64 a.amount]
def cpW (w : World) (x : W7) : World := (bxW w x).alloc (.cells #[.int .i64 0, .int .i64 0, .int .i64 0, .int .i64 0, .int .i64 0, .int .i64 0] 30)
theorem cpW_size (w : World) (x : W7) : (cpW w x).heap.size = w.heap.size + 2 := by simp [cpW, bxW_size]
def CP (w : World) (x : W7) (wc : World) : Prop := Below (cpW w x).heap.size (cpW w x) wc
theorem CP.next {w wc w2 : World} {x : W7} (h : CP w x wc) (hb : Below wc.heap.size wc w2) : CP w x w2 := h.trans (hb.mono h.size)
theorem CP.drew {w wc : World} {x : W7} (h : CP w x wc) : CP w x wc.drew := Below.drew h
theorem CP.cells {w wc : World} {x : W7} (h : CP w x wc) : WCs wc w.heap.size x := by
  have hc : CH w x (cpW w x) := (Below.refl _ _).alloc (by rw [bxW_size]; omega) _
  exact CH.cells (hc.trans (h.mono (by rw [cpW_size]; omega)))
theorem CP.res {w wc : World} {x : W7} (h : CP w x wc) : wc.heap[w.heap.size + 1]? = some (.cells #[.int .i64 0, .int .i64 0, .int .i64 0, .int .i64 0, .int .i64 0, .int .i64 0] 30) := by
  rw [h.block (w.heap.size + 1) (by rw [cpW_size]; omega)]
  have := heap_alloc_new (bxW w x) (.cells #[.int .i64 0, .int .i64 0, .int .i64 0, .int .i64 0, .int .i64 0, .int .i64 0] 30)
  rw [bxW_size] at this
  exact this
theorem CP.below {w wc : World} {x : W7} (h : CP w x wc) : Below w.heap.size w wc :=
  ((bxW_below w x).alloc (by rw [bxW_size]; omega) _).trans (h.mono (by rw [cpW_size]; omega))
set_option maxRecDepth 100000 in
set_option maxHeartbeats 4000000 in
theorem capture_c (x : W7) (w : World) : Calls Try.prog 38 #[x.val] w fun e w' => e = .returned (captureA x).val ∧ Below w.heap.size w w' := by
  obtain ⟨ca, hca⟩ : ∃ ca, captureA x = ca := ⟨_, rfl⟩
  rw [hca]
  have HCA := Lib.hid hca
  clear hca
  have BB : CP w x (cpW w x) := Below.refl _ _
  unfold W7.val
  go_enter Try.func38, Try.ntmps38
  go_wp2
  go_region_held3 (fun w' => w'.cell? ⟨w.heap.size, 0, none⟩ = some (.int .i64 x.b) ∧ w'.cell? ⟨w.heap.size, 1, none⟩ = some (.int .i64 x.c) ∧ w'.cell? ⟨w.heap.size, 2, none⟩ = some (.int .i64 x.d) ∧ w'.cell? ⟨w.heap.size, 3, none⟩ = some (.int .i64 x.m0) ∧ w'.cell? ⟨w.heap.size, 4, none⟩ = some (.int .i64 x.m1) ∧ w'.cell? ⟨w.heap.size, 5, none⟩ = some (.int .i64 x.m2) ∧ w'.cell? ⟨w.heap.size, 6, none⟩ = some (.int .i64 x.p)) (first | go_keep | exact CP.cells BB | exact CP.cells (CP.next BB ((Below.refl _ _).alloc (Nat.le_refl _) _)) | exact CP.cells B5.out) (first | (go_at_call 69; refine (purse_mk x 5 _).mono ?_; rintro e w1 ⟨f1, q1, rfl, G1, hB⟩; (first | replace BB := CP.next BB hB | replace BB := CP.next (CP.drew BB) hB); clear hB) | (go_at_call 70; refine (table1 x _ _ _ _ _ G1 (purseL_len x 5)).mono ?_; rintro e w5 ⟨v5, rfl, h5, b5⟩; obtain ⟨A5, c5, rfl, _, _, _⟩ := h5.rd; have H5 := Lib.hid h5; have B5 := Lib.hid (CP.next BB (((Below.refl _ _).alloc (Nat.le_refl _) _).trans (b5.mono (by simp)))); clear h5 b5))
  by_cases hm : MayW x
  · have hl : purseL 5 x = [⟨3, 5, x.b, 0, 0, 0⟩] := by unfold purseL; rw [if_pos hm]; rfl
    have HC2 := Lib.hid (show captureA x = ⟨3, 5, x.b, 0, 0, 0⟩ from if_pos hm)
    rw [hl] at H5 ⊢
    have h5 := H5.out
    obtain ⟨g, hg⟩ : ∃ g, A5 = some ⟨g, 0, none⟩ := by
      rcases h5.2 with ⟨e, h1⟩ | ⟨g, cap, cur, e, hg, _⟩
      · simp at h1
      · injection e with e1; exact ⟨g, e1⟩
    subst hg
    have cl := AC_cell2 w5 _ g c5 [⟨3, 5, x.b, 0, 0, 0⟩] h5
    have q0 := cl 0 _ rfl 0 _ rfl
    have q1 := cl 0 _ rfl 1 _ rfl
    have q2 := cl 0 _ rfl 2 _ rfl
    have q3 := cl 0 _ rfl 3 _ rfl
    have q4 := cl 0 _ rfl 4 _ rfl
    have q5 := cl 0 _ rfl 5 _ rfl
    simp only [Nat.reduceMul, Nat.reduceAdd] at q0 q1 q2 q3 q4 q5
    have hr := CP.res B5.out
    have hz : w.heap.size + 1 < w5.heap.size := by have := B5.out.size; rw [cpW_size] at this; omega
    have hgl : g < w5.heap.size := cell_in q0
    have HR := Lib.hid hr
    have r0 : w5.cell? ⟨w.heap.size + 1, 0, none⟩ = some (.int .i64 0) := World.news_of_block hr 0 _ rfl
    have r1 : w5.cell? ⟨w.heap.size + 1, 1, none⟩ = some (.int .i64 0) := World.news_of_block hr 1 _ rfl
    have r2 : w5.cell? ⟨w.heap.size + 1, 2, none⟩ = some (.int .i64 0) := World.news_of_block hr 2 _ rfl
    have r3 : w5.cell? ⟨w.heap.size + 1, 3, none⟩ = some (.int .i64 0) := World.news_of_block hr 3 _ rfl
    have r4 : w5.cell? ⟨w.heap.size + 1, 4, none⟩ = some (.int .i64 0) := World.news_of_block hr 4 _ rfl
    have r5 : w5.cell? ⟨w.heap.size + 1, 5, none⟩ = some (.int .i64 0) := World.news_of_block hr 5 _ rfl
    have hf : ∀ j, w5.frozen? ⟨w.heap.size + 1, j, none⟩ = false := fun j => frozen_of_row w5 _ j _ _ hr
    clear hl hr h5 cl hm BB
    go_wp2
    refine wp_loop_rounds 1 ?_
    rw [rounds_succ]
    go_wp2
    refine bodyPost_ret (v := .agg #[.int .i64 3, .int .i64 5, .int .i64 x.b, .int .i64 0, .int .i64 0, .int .i64 0]) (by simp [results, Try.results38, go_sem, r0, r1, r2, r3, r4, r5, World.cell?_alloc_lt, hz]) rfl ⟨by rw [← HCA.out, HC2.out]; rfl, ?_⟩
    exact (((((((CP.below B5.out).setCell (p := ⟨w.heap.size + 1, 0, none⟩) (by simp) _).setCell (p := ⟨w.heap.size + 1, 1, none⟩) (by simp) _).setCell (p := ⟨w.heap.size + 1, 2, none⟩) (by simp) _).setCell (p := ⟨w.heap.size + 1, 3, none⟩) (by simp) _).setCell (p := ⟨w.heap.size + 1, 4, none⟩) (by simp) _).setCell (p := ⟨w.heap.size + 1, 5, none⟩) (by simp) _).alloc (by simp; omega) _
  · have hl : purseL 5 x = [] := by unfold purseL; rw [if_neg hm]
    have HC2 := Lib.hid (show captureA x = ⟨0, 0, 0, 0, 0, 0⟩ from if_neg hm)
    rw [hl] at H5 ⊢
    have hr := CP.res B5.out
    have r0 : w5.cell? ⟨w.heap.size + 1, 0, none⟩ = some (.int .i64 0) := World.news_of_block hr 0 _ rfl
    have r1 : w5.cell? ⟨w.heap.size + 1, 1, none⟩ = some (.int .i64 0) := World.news_of_block hr 1 _ rfl
    have r2 : w5.cell? ⟨w.heap.size + 1, 2, none⟩ = some (.int .i64 0) := World.news_of_block hr 2 _ rfl
    have r3 : w5.cell? ⟨w.heap.size + 1, 3, none⟩ = some (.int .i64 0) := World.news_of_block hr 3 _ rfl
    have r4 : w5.cell? ⟨w.heap.size + 1, 4, none⟩ = some (.int .i64 0) := World.news_of_block hr 4 _ rfl
    have r5 : w5.cell? ⟨w.heap.size + 1, 5, none⟩ = some (.int .i64 0) := World.news_of_block hr 5 _ rfl
    have hf : ∀ j, w5.frozen? ⟨w.heap.size + 1, j, none⟩ = false := fun j => frozen_of_row w5 _ j _ _ hr
    clear hl hr hm BB
    go_wp2
    refine wp_loop_rounds 1 ?_
    rw [rounds_succ]
    go_wp2
    refine bodyPost_ret (v := .agg #[.int .i64 0, .int .i64 0, .int .i64 0, .int .i64 0, .int .i64 0, .int .i64 0]) (by simp [results, Try.results38, go_sem, r0, r1, r2, r3, r4, r5]) rfl ⟨by rw [← HCA.out, HC2.out]; rfl, ?_⟩
    exact (((((((CP.below B5.out).setCell (p := ⟨w.heap.size + 1, 0, none⟩) (by simp) _).setCell (p := ⟨w.heap.size + 1, 1, none⟩) (by simp) _).setCell (p := ⟨w.heap.size + 1, 2, none⟩) (by simp) _).setCell (p := ⟨w.heap.size + 1, 3, none⟩) (by simp) _).setCell (p := ⟨w.heap.size + 1, 4, none⟩) (by simp) _).setCell (p := ⟨w.heap.size + 1, 5, none⟩) (by simp) _)
end Go.Proofs.Ytplgodfhhlnojaa
