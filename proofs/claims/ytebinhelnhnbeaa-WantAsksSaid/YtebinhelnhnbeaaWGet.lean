/- want.Get, walked. -/
import Derived.Test.YtebinhelnhnbeaaWEq
set_option linter.unusedSimpArgs false
set_option linter.unusedVariables false
namespace Go.Proofs.Ytebinhelnhnbeaa
open Go.RowKit
/-- A want that is read, whatever stands there. -/
def rW (s : Rs) : W7 × Rs :=
  (⟨(rS s).1, (rS (rS s).2).1, (rS (rS (rS s).2).2).1, (rS (rS (rS (rS s).2).2).2).1, (rS (rS (rS (rS (rS s).2).2).2).2).1, (rS (rS (rS (rS (rS (rS s).2).2).2).2).2).1, (rS (rS (rS (rS (rS (rS (rS s).2).2).2).2).2).2).1⟩, (rS (rS (rS (rS (rS (rS (rS s).2).2).2).2).2).2).2)
theorem set_at {w : World} {g i : Nat} {cs : Array Value} {t : TypeId} {m : Nat × Nat} {u : Value} (h : w.heap[g]? = some (.cells cs t m)) : (w.setCell ⟨g, i, none⟩ u).heap[g]? = some (.cells (cs.setIfInBounds i u) t m) := by
  simp [World.setCell, Array.getElem?_modify, h]
/-- A reading under way: the reader, a result's block, a variable's block. -/
structure GS (w wk : World) (D g : Nat) (s : Rs) (R T : Nat) (zs cs : Array Value) (t : TypeId) : Prop where
  r : RP wk D g s
  gr : w.grownBy wk (some g)
  hR : wk.heap[R]? = some (.cells zs t (0, 0))
  hT : wk.heap[T]? = some (.cells cs t (0, 0))
  wR : w.heap.size ≤ R
  wT : w.heap.size ≤ T
  dT : D ≤ T
  dD : D ≤ wk.heap.size
  gl : g < w.heap.size
  ne : R ≠ T
section
variable {w wk w2 : World} {D g R T : Nat} {s s' : Rs} {zs cs : Array Value} {t : TypeId}
theorem GS.call (h : GS w wk D g s R T zs cs t) (q : RP w2 D g s') (hg : wk.grownBy w2 (some g)) : GS w w2 D g s' R T zs cs t :=
  ⟨q, only_trans h.gr hg, (hg.block R (blk_lt h.hR) (by intro e; injection e with e; have := h.wR; have := h.gl; omega)).trans h.hR, (hg.block T (blk_lt h.hT) (by intro e; injection e with e; have := h.wT; have := h.gl; omega)).trans h.hT, h.wR, h.wT, h.dT, Nat.le_trans h.dD hg.size, h.gl, h.ne⟩
theorem GS.store (h : GS w wk D g s R T zs cs t) (i : Nat) (u : Value) : GS w (wk.setCell ⟨T, i, none⟩ u) D g s R T zs (cs.setIfInBounds i u) t :=
  ⟨h.r.below ((Below.refl _ _).setCell (p := ⟨T, i, none⟩) h.dT u), only_setCell (p := ⟨T, i, none⟩) h.gr (.inr h.wT) u, (set_other h.ne).trans h.hR, set_at h.hT, h.wR, h.wT, h.dT, by have := h.dD; simpa [World.setCell] using this, h.gl, h.ne⟩
end
theorem RP.setR {w : World} {D g R i : Nat} {s : Rs} {u : Value} (h : RP w D g s) (hR : D ≤ R) : RP (w.setCell ⟨R, i, none⟩ u) D g s := h.below ((Below.refl _ _).setCell (p := ⟨R, i, none⟩) hR u)
theorem only_setR {a w : World} {g R i : Nat} {u : Value} (h : a.grownBy w (some g)) (hR : a.heap.size ≤ R) : a.grownBy (w.setCell ⟨R, i, none⟩ u) (some g) := only_setCell (p := ⟨R, i, none⟩) h (.inr hR) u
set_option maxRecDepth 100000 in
set_option maxHeartbeats 4000000 in
theorem get1W_c (g : Nat) (s : Rs) (w : World) (D : Nat) (h : RP w D g s) (hD : D ≤ w.heap.size) :
    Calls Try.prog 61 #[.pointer (some ⟨g, 0, none⟩)] w (RPost w D g (rW s).1.val (rW s).2) := by
  obtain ⟨v1, s1, e1⟩ : ∃ v t, rS s = (v, t) := ⟨_, _, rfl⟩
  obtain ⟨v2, s2, e2⟩ : ∃ v t, rS s1 = (v, t) := ⟨_, _, rfl⟩
  obtain ⟨v3, s3, e3⟩ : ∃ v t, rS s2 = (v, t) := ⟨_, _, rfl⟩
  obtain ⟨v4, s4, e4⟩ : ∃ v t, rS s3 = (v, t) := ⟨_, _, rfl⟩
  obtain ⟨v5, s5, e5⟩ : ∃ v t, rS s4 = (v, t) := ⟨_, _, rfl⟩
  obtain ⟨v6, s6, e6⟩ : ∃ v t, rS s5 = (v, t) := ⟨_, _, rfl⟩
  obtain ⟨v7, s7, e7⟩ : ∃ v t, rS s6 = (v, t) := ⟨_, _, rfl⟩
  have hw : rW s = (⟨v1, v2, v3, v4, v5, v6, v7⟩, s7) := by unfold rW; simp only [e1, e2, e3, e4, e5, e6, e7]
  rw [hw]
  have hgl := h.lt
  have H := Lib.hid h
  have E1 := Lib.hid e1
  have E2 := Lib.hid e2
  have E3 := Lib.hid e3
  have E4 := Lib.hid e4
  have E5 := Lib.hid e5
  have E6 := Lib.hid e6
  have E7 := Lib.hid e7
  clear h hw e1 e2 e3 e4 e5 e6 e7
  unfold W7.val RPost
  simp only
  go_enter Try.func61, Try.ntmps61
  go_wp2_with fail
  refine (some_c g s s1 v1 _ D (H.out.alloc hD _) (by simp; omega) E1.out).mono ?_
  rintro e wa ⟨rfl, q1, g1⟩
  have hza : w.heap.size + 1 ≤ wa.heap.size := by have := g1.size; simpa using this
  have BRa := Lib.hid ((g1.block w.heap.size (by simp) (by intro e; injection e with e; omega)).trans (heap_alloc_new w _))
  have Q1 := Lib.hid q1
  have G1 := Lib.hid (only_trans (only_alloc (World.grownBy.refl w (some g)) _) g1)
  clear q1 g1
  go_wp2_with fail
  refine (some_c g s1 s2 v2 _ D Q1.out (by omega) E2.out).mono ?_
  rintro e wb ⟨rfl, q2, g2⟩
  have hzb := g2.size
  have BRb := Lib.hid ((g2.block w.heap.size (by omega) (by intro e; injection e with e; omega)).trans BRa.out)
  have Q2 := Lib.hid q2
  have G2 := Lib.hid (only_trans G1.out g2)
  clear q2 g2
  go_wp2_with fail
  refine (some_c g s2 s3 v3 _ D Q2.out (by omega) E3.out).mono ?_
  rintro e wc ⟨rfl, q3, g3⟩
  have hzc := g3.size
  have BRc := Lib.hid ((g3.block w.heap.size (by omega) (by intro e; injection e with e; omega)).trans BRb.out)
  have Q3 := Lib.hid q3
  have G3 := Lib.hid (only_trans G2.out g3)
  clear q3 g3
  have HG0 := Lib.hid (show GS w (wc.alloc (.cells #[.int .i64 v1, .int .i64 v2, .int .i64 v3, .int .i64 0, .int .i64 0, .int .i64 0, .int .i64 0] 57)) D g s3 w.heap.size wc.heap.size #[.int .i64 0, .int .i64 0, .int .i64 0, .int .i64 0, .int .i64 0, .int .i64 0, .int .i64 0] #[.int .i64 v1, .int .i64 v2, .int .i64 v3, .int .i64 0, .int .i64 0, .int .i64 0, .int .i64 0] 57 from
    ⟨Q3.out.alloc (by omega) _, only_alloc G3.out _, (Below.heap_alloc _ _ _ (by omega)).trans BRc.out, heap_alloc_new wc _, by omega, by omega, by omega, by simp; omega, hgl, by omega⟩)
  clear Q1 Q2 Q3 G1 G2 G3 BRa BRb BRc
  go_wp2_with fail
  refine wp_loop_rounds 4 ?_
  rw [rounds_succ]
  go_wp2_with fail
  refine (some_c g s3 s4 v4 _ D HG0.out.r HG0.out.dD E4.out).mono ?_
  rintro e wd0 ⟨rfl, q, gg⟩
  have K0 := Lib.hid (HG0.out.call q gg)
  have c0 : wd0.cell? ⟨wc.heap.size, 3, none⟩ = some (.int .i64 0) := by rw [cellsAt K0.out.hT]; rfl
  have f0 : wd0.frozen? ⟨wc.heap.size, 3, none⟩ = false := free0 K0.out.hT
  have L0 : Hid (GS w (wd0.setCell ⟨wc.heap.size, 3, none⟩ (.int .i64 v4)) D g s4 w.heap.size wc.heap.size #[.int .i64 0, .int .i64 0, .int .i64 0, .int .i64 0, .int .i64 0, .int .i64 0, .int .i64 0] #[.int .i64 v1, .int .i64 v2, .int .i64 v3, .int .i64 v4, .int .i64 0, .int .i64 0, .int .i64 0] 57) := K0.out.store 3 _
  clear q gg HG0
  go_wp2_with fail
  rw [rounds_succ]
  go_wp2_with fail
  refine (some_c g s4 s5 v5 _ D L0.out.r L0.out.dD E5.out).mono ?_
  rintro e wd1 ⟨rfl, q, gg⟩
  have K1 := Lib.hid (L0.out.call q gg)
  have c1 : wd1.cell? ⟨wc.heap.size, 4, none⟩ = some (.int .i64 0) := by rw [cellsAt K1.out.hT]; rfl
  have f1 : wd1.frozen? ⟨wc.heap.size, 4, none⟩ = false := free0 K1.out.hT
  have L1 : Hid (GS w (wd1.setCell ⟨wc.heap.size, 4, none⟩ (.int .i64 v5)) D g s5 w.heap.size wc.heap.size #[.int .i64 0, .int .i64 0, .int .i64 0, .int .i64 0, .int .i64 0, .int .i64 0, .int .i64 0] #[.int .i64 v1, .int .i64 v2, .int .i64 v3, .int .i64 v4, .int .i64 v5, .int .i64 0, .int .i64 0] 57) := K1.out.store 4 _
  clear q gg L0
  go_wp2_with fail
  rw [rounds_succ]
  go_wp2_with fail
  refine (some_c g s5 s6 v6 _ D L1.out.r L1.out.dD E6.out).mono ?_
  rintro e wd2 ⟨rfl, q, gg⟩
  have K2 := Lib.hid (L1.out.call q gg)
  have c2 : wd2.cell? ⟨wc.heap.size, 5, none⟩ = some (.int .i64 0) := by rw [cellsAt K2.out.hT]; rfl
  have f2 : wd2.frozen? ⟨wc.heap.size, 5, none⟩ = false := free0 K2.out.hT
  have L2 : Hid (GS w (wd2.setCell ⟨wc.heap.size, 5, none⟩ (.int .i64 v6)) D g s6 w.heap.size wc.heap.size #[.int .i64 0, .int .i64 0, .int .i64 0, .int .i64 0, .int .i64 0, .int .i64 0, .int .i64 0] #[.int .i64 v1, .int .i64 v2, .int .i64 v3, .int .i64 v4, .int .i64 v5, .int .i64 v6, .int .i64 0] 57) := K2.out.store 5 _
  clear q gg L1
  go_wp2_with fail
  rw [rounds_succ]
  go_wp2_with fail
  refine (some_c g s6 s7 v7 _ D L2.out.r L2.out.dD E7.out).mono ?_
  rintro e we ⟨rfl, q, gg⟩
  have K3 := Lib.hid (L2.out.call q gg)
  have KE := Lib.hid (K3.out.store 6 (.int .i64 v7))
  clear q gg L2
  have hne := K3.out.ne
  have d0 : we.cell? ⟨wc.heap.size, 0, none⟩ = some (.int .i64 v1) := by rw [cellsAt K3.out.hT]; rfl
  have z0 : we.cell? ⟨w.heap.size, 0, none⟩ = some (.int .i64 0) := by rw [cellsAt K3.out.hR]; rfl
  have y0 : we.frozen? ⟨w.heap.size, 0, none⟩ = false := free0 K3.out.hR
  have d1 : we.cell? ⟨wc.heap.size, 1, none⟩ = some (.int .i64 v2) := by rw [cellsAt K3.out.hT]; rfl
  have z1 : we.cell? ⟨w.heap.size, 1, none⟩ = some (.int .i64 0) := by rw [cellsAt K3.out.hR]; rfl
  have y1 : we.frozen? ⟨w.heap.size, 1, none⟩ = false := free0 K3.out.hR
  have d2 : we.cell? ⟨wc.heap.size, 2, none⟩ = some (.int .i64 v3) := by rw [cellsAt K3.out.hT]; rfl
  have z2 : we.cell? ⟨w.heap.size, 2, none⟩ = some (.int .i64 0) := by rw [cellsAt K3.out.hR]; rfl
  have y2 : we.frozen? ⟨w.heap.size, 2, none⟩ = false := free0 K3.out.hR
  have d3 : we.cell? ⟨wc.heap.size, 3, none⟩ = some (.int .i64 v4) := by rw [cellsAt K3.out.hT]; rfl
  have z3 : we.cell? ⟨w.heap.size, 3, none⟩ = some (.int .i64 0) := by rw [cellsAt K3.out.hR]; rfl
  have y3 : we.frozen? ⟨w.heap.size, 3, none⟩ = false := free0 K3.out.hR
  have d4 : we.cell? ⟨wc.heap.size, 4, none⟩ = some (.int .i64 v5) := by rw [cellsAt K3.out.hT]; rfl
  have z4 : we.cell? ⟨w.heap.size, 4, none⟩ = some (.int .i64 0) := by rw [cellsAt K3.out.hR]; rfl
  have y4 : we.frozen? ⟨w.heap.size, 4, none⟩ = false := free0 K3.out.hR
  have d5 : we.cell? ⟨wc.heap.size, 5, none⟩ = some (.int .i64 v6) := by rw [cellsAt K3.out.hT]; rfl
  have z5 : we.cell? ⟨w.heap.size, 5, none⟩ = some (.int .i64 0) := by rw [cellsAt K3.out.hR]; rfl
  have y5 : we.frozen? ⟨w.heap.size, 5, none⟩ = false := free0 K3.out.hR
  have d6 : we.cell? ⟨wc.heap.size, 6, none⟩ = some (.int .i64 0) := by rw [cellsAt K3.out.hT]; rfl
  have z6 : we.cell? ⟨w.heap.size, 6, none⟩ = some (.int .i64 0) := by rw [cellsAt K3.out.hR]; rfl
  have y6 : we.frozen? ⟨w.heap.size, 6, none⟩ = false := free0 K3.out.hR
  have f6 : we.frozen? ⟨wc.heap.size, 6, none⟩ = false := free0 K3.out.hT
  go_wp2
  have hlt : w.heap.size < we.heap.size := blk_lt K3.out.hR
  refine bodyPost_ret (v := .agg #[.int .i64 v1, .int .i64 v2, .int .i64 v3, .int .i64 v4, .int .i64 v5, .int .i64 v6, .int .i64 v7]) (by simp [results, Try.results61, go_sem, d0, d1, d2, d3, d4, d5, d6, z0, z1, z2, z3, z4, z5, z6, hne]) rfl ⟨rfl, ?_, ?_⟩
  · iterate 7 (refine RP.setR ?_ hD)
    exact KE.out.r
  · iterate 7 (refine only_setR ?_ (Nat.le_refl _))
    exact KE.out.gr
end Go.Proofs.Ytebinhelnhnbeaa
