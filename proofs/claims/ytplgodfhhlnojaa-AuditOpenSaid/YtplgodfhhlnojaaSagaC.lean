/- saga.steps, walked (printed by gensaga.py). -/
import Derived.Test.YtplgodfhhlnojaaSaga0
import Derived.Test.YtplgodfhhlnojaaAskAt
import Derived.Test.YtplgodfhhlnojaaWCalls
import Derived.Outline
set_option linter.unusedSimpArgs false
set_option linter.unusedVariables false
namespace Go.Proofs.Ytplgodfhhlnojaa
open Go.RowKit
def cS (s : S11) : Array Value := #[.int .i64 s.w.b, .int .i64 s.w.c, .int .i64 s.w.d, .int .i64 s.w.m0, .int .i64 s.w.m1, .int .i64 s.w.m2, .int .i64 s.w.p, .int .i64 s.ph, .int .i64 s.st, .int .i64 s.re, .int .i64 s.si] 
def bxS (w : World) (s : S11) : World := w.alloc (.cells #[.int .i64 s.w.b, .int .i64 s.w.c, .int .i64 s.w.d, .int .i64 s.w.m0, .int .i64 s.w.m1, .int .i64 s.w.m2, .int .i64 s.w.p, .int .i64 s.ph, .int .i64 s.st, .int .i64 s.re, .int .i64 s.si] 26)
def CS (w : World) (s : S11) (wc : World) : Prop := Below (w.heap.size + 1) (bxS w s) wc
theorem CS.next {w wc w2 : World} {s : S11} (h : CS w s wc) (hb : Below wc.heap.size wc w2) : CS w s w2 := h.trans (hb.mono (by have := h.size; simpa [bxS] using this))
theorem CS.drew {w wc : World} {s : S11} (h : CS w s wc) : CS w s wc.drew := Below.drew h
theorem CS.below {w wc : World} {s : S11} (h : CS w s wc) : Below w.heap.size w wc := ((Below.refl _ _).alloc (Nat.le_refl _) _).trans (h.mono (by omega))
theorem CS.size {w wc : World} {s : S11} (h : CS w s wc) : w.heap.size < wc.heap.size := by have := Below.size h; simp [bxS] at this; omega
theorem CS.first (w : World) (s : S11) : CS w s (bxS w s) := Below.refl _ _
theorem CS.blk {w wc : World} {s : S11} (h : CS w s wc) : wc.heap[w.heap.size]? = some (.cells (cS s) 26 (0, 0)) := (Below.block h w.heap.size (by omega)).trans (heap_alloc_new w _)
theorem CS.cells {w wc : World} {s : S11} (h : CS w s wc) : wc.cell? ⟨w.heap.size, 0, none⟩ = some (.int .i64 s.w.b) ∧ wc.cell? ⟨w.heap.size, 1, none⟩ = some (.int .i64 s.w.c) ∧ wc.cell? ⟨w.heap.size, 2, none⟩ = some (.int .i64 s.w.d) ∧ wc.cell? ⟨w.heap.size, 3, none⟩ = some (.int .i64 s.w.m0) ∧ wc.cell? ⟨w.heap.size, 4, none⟩ = some (.int .i64 s.w.m1) ∧ wc.cell? ⟨w.heap.size, 5, none⟩ = some (.int .i64 s.w.m2) ∧ wc.cell? ⟨w.heap.size, 6, none⟩ = some (.int .i64 s.w.p) ∧ wc.cell? ⟨w.heap.size, 7, none⟩ = some (.int .i64 s.ph) ∧ wc.cell? ⟨w.heap.size, 8, none⟩ = some (.int .i64 s.st) ∧ wc.cell? ⟨w.heap.size, 9, none⟩ = some (.int .i64 s.re) ∧ wc.cell? ⟨w.heap.size, 10, none⟩ = some (.int .i64 s.si) :=
  ⟨(cellsB (i := 0) h.blk).trans rfl, (cellsB (i := 1) h.blk).trans rfl, (cellsB (i := 2) h.blk).trans rfl, (cellsB (i := 3) h.blk).trans rfl, (cellsB (i := 4) h.blk).trans rfl, (cellsB (i := 5) h.blk).trans rfl, (cellsB (i := 6) h.blk).trans rfl, (cellsB (i := 7) h.blk).trans rfl, (cellsB (i := 8) h.blk).trans rfl, (cellsB (i := 9) h.blk).trans rfl, (cellsB (i := 10) h.blk).trans rfl⟩
set_option maxRecDepth 100000 in
set_option maxHeartbeats 1000000 in
theorem steps_c (s : S11) (w : World) : Calls Try.prog 61 #[s.val] w (RA w (stepsL s)) := by
  obtain ⟨⟨b, c, d, m0, m1, m2, p⟩, ph, st, re, si⟩ := s
  unfold S11.val
  simp only
  by_cases h1 : ph = 1
  · subst h1
    have e : stepsL ⟨⟨b, c, d, m0, m1, m2, p⟩, 1, st, re, si⟩ = forwardL ⟨b, c, d, m0, m1, m2, p⟩ := by simp [stepsL]
    rw [e]
    have F := Lib.hid (forward_c ⟨b, c, d, m0, m1, m2, p⟩)
    unfold W7.val at F
    clear e
    go_enter Try.func61, Try.ntmps61
    go_wp2_with fail
    refine (F.out _).mono ?_
    rintro e w2 ⟨v, rfl, ho, hb⟩
    have HO := Lib.hid ho
    have HB := Lib.hid hb
    clear ho hb
    go_wp2
    go_ret
    exact ⟨_, rfl, own_mono HO.out (by simp), ((Below.refl _ _).alloc (Nat.le_refl _) _).trans (HB.out.mono (by simp))⟩
  by_cases h2 : ph = 2
  · subst h2
    have e : stepsL ⟨⟨b, c, d, m0, m1, m2, p⟩, 2, st, re, si⟩ = [captureA ⟨b, c, d, m0, m1, m2, p⟩] := by simp [stepsL]
    rw [e]
    obtain ⟨a, ha⟩ : ∃ a, captureA ⟨b, c, d, m0, m1, m2, p⟩ = a := ⟨_, rfl⟩
    have F := Lib.hid (capture_c ⟨b, c, d, m0, m1, m2, p⟩)
    rw [ha] at F ⊢
    unfold W7.val A6.val at F
    clear e ha
    go_enter Try.func61, Try.ntmps61
    go_wp2_with fail
    refine (F.out _).mono ?_
    rintro e w2 ⟨rfl, hb⟩
    have HB := Lib.hid hb
    have hz := hb.size
    clear hb
    go_wp2
    go_ret
    exact ⟨_, rfl, OA.lit1 w2 _ a _ rfl (by simp at hz; omega), ((((Below.refl _ _).alloc (Nat.le_refl _) _).trans (HB.out.mono (by simp))).alloc (by simp at hz; omega) _)⟩
  by_cases h3 : ph = 3
  · subst h3
    have e : stepsL ⟨⟨b, c, d, m0, m1, m2, p⟩, 3, st, re, si⟩ = backL ⟨b, c, d, m0, m1, m2, p⟩ := by simp [stepsL]
    rw [e]
    have F := Lib.hid (back_c ⟨b, c, d, m0, m1, m2, p⟩)
    unfold W7.val at F
    clear e
    go_enter Try.func61, Try.ntmps61
    go_wp2_with fail
    refine (F.out _).mono ?_
    rintro e w2 ⟨v, rfl, ho, hb⟩
    have HO := Lib.hid ho
    have HB := Lib.hid hb
    clear ho hb
    go_wp2
    go_ret
    exact ⟨_, rfl, own_mono HO.out (by simp), ((Below.refl _ _).alloc (Nat.le_refl _) _).trans (HB.out.mono (by simp))⟩
  have b1 : (ph == 1) = false := beq_eq_false_iff_ne.2 h1
  have b2 : (ph == 2) = false := beq_eq_false_iff_ne.2 h2
  have b3 : (ph == 3) = false := beq_eq_false_iff_ne.2 h3
  have e : stepsL ⟨⟨b, c, d, m0, m1, m2, p⟩, ph, st, re, si⟩ = [] := by simp [stepsL, h1, h2, h3]
  rw [e]
  go_enter Try.func61, Try.ntmps61
  go_wp2
  go_ret
  exact ⟨_, rfl, World.ownsRow_nil _ _ _ _, (Below.refl _ _).alloc (Nat.le_refl _) _⟩
end Go.Proofs.Ytplgodfhhlnojaa
