/- sojournref1.Get, walked. -/
import Derived.Test.YtebinhelnhnbeaaWRefG
set_option linter.unusedSimpArgs false
set_option linter.unusedVariables false
namespace Go.Proofs.Ytebinhelnhnbeaa
open Go.RowKit
theorem acell (w : World) (o : Obj) (b k : Nat) (hb : b < w.heap.size) : (w.alloc o).cell? ⟨b, k, none⟩ = w.cell? ⟨b, k, none⟩ := by
  have e : (w.alloc o).heap[b]? = w.heap[b]? := Below.heap_alloc w o b hb
  unfold World.cell?
  rw [e]
set_option maxRecDepth 100000 in
set_option maxHeartbeats 1600000 in
theorem refget_w (S : ByteArray) (l : List UInt8) (w : World) (hS : S.data.toList = l) (hl : l.length ≤ 1000000000000) : Calls Try.prog 45 #[.string S] w (PW w (hW l).1 (hW l).2) := by
  obtain ⟨y, kk, hy⟩ : ∃ y kk, hW l = (y, kk) := ⟨_, _, rfl⟩
  rw [hy]
  unfold hW at hy
  obtain ⟨x, s', hx⟩ : ∃ x s', rTW (some l) = (x, s') := ⟨_, _, rfl⟩
  rw [hx] at hy
  simp only at hy ⊢
  have HX := Lib.hid hx
  have HY := Lib.hid hy
  have HS := Lib.hid (show Sh (some l) from fun l' e => by injection e with e; subst e; exact hl)
  have HSS := Lib.hid hS
  clear hx hy hS hl
  go_enter Try.func45, Try.ntmps45
  go_wp2_with fail
  have hRR : RR ((w.alloc (.cells #[.int .i64 0, .int .i64 0, .int .i64 0, .int .i64 0, .int .i64 0, .int .i64 0, .int .i64 0] 57)).alloc (.cells #[.string S, .bool false] 40)) (w.heap.size + 1) (some l) := ⟨S, false, by rw [show w.heap.size + 1 = (w.alloc (.cells #[.int .i64 0, .int .i64 0, .int .i64 0, .int .i64 0, .int .i64 0, .int .i64 0, .int .i64 0] 57)).heap.size from by simp]; exact heap_alloc_new _ _, by rw [HSS.out]; rfl⟩
  have HT := Lib.hid (take_w (w.heap.size + 1) (some l) _ hRR HS.out)
  rw [HX.out] at HT
  unfold RRPost W7.val at HT
  clear hRR
  refine HT.out.mono ?_
  rintro e w1 ⟨rfl, q1, g1⟩
  have hz1 : w.heap.size + 2 ≤ w1.heap.size := by have := g1.size; simpa using this
  have HR1 := Lib.hid ((g1.block w.heap.size (by simp; omega) (by intro e; injection e with e; omega)).trans ((Below.heap_alloc _ _ _ (by simp)).trans (heap_alloc_new w (.cells #[.int .i64 0, .int .i64 0, .int .i64 0, .int .i64 0, .int .i64 0, .int .i64 0, .int .i64 0] 57))))
  have B1 := Lib.hid (show Below w.heap.size w w1 from (((Below.refl _ _).alloc (Nat.le_refl _) _).alloc (by simp) _).trans (only_lt g1 (by simp; omega) (by omega)))
  have Q1 := Lib.hid (q1.same (Below.heap_alloc w1 (.cells #[.int .i64 x.b, .int .i64 x.c, .int .i64 x.d, .int .i64 x.m0, .int .i64 x.m1, .int .i64 x.m2, .int .i64 x.p] 57) _ q1.lt))
  have HX1 := Lib.hid (heap_alloc_new w1 (.cells #[.int .i64 x.b, .int .i64 x.c, .int .i64 x.d, .int .i64 x.m0, .int .i64 x.m1, .int .i64 x.m2, .int .i64 x.p] 57))
  clear q1 g1 HT
  have hl1 : w.heap.size < w1.heap.size := by omega
  by_cases he : rEnd s' = 0
  · have HE := Lib.hid he
    clear he
    obtain ⟨b, hb⟩ : ∃ b, decide (MayW x) = b := ⟨_, rfl⟩
    have HMC := Lib.hid (fun W => hb ▸ rmay_c x W)
    unfold W7.val at HMC
    have HBB := Lib.hid hb
    clear hb
    cases b
    all_goals
      go_wp2_with fail
      refine (rrend_w Q1.out HE.out).mono ?_
      rintro e w' ⟨rfl, rfl⟩
      go_wp2_with fail
      refine (HMC.out _).mono ?_
      rintro e w2 ⟨rfl, b2⟩
      have HR2 := Lib.hid ((b2.block w.heap.size (by simp; omega)).trans ((Below.heap_alloc _ _ _ (by omega)).trans HR1.out))
      have HX2 := Lib.hid ((b2.block w1.heap.size (by simp)).trans HX1.out)
      have B2 := Lib.hid ((B1.out.alloc (by omega) _).trans (b2.mono (by simp; omega)))
      have hl2 : w.heap.size < w2.heap.size := by have := b2.size; simp at this; omega
      clear b2
      have z0 : w2.cell? ⟨w.heap.size, 0, none⟩ = some (.int .i64 0) := by rw [cellsW HR2.out]; rfl
      have y0 : w2.frozen? ⟨w.heap.size, 0, none⟩ = false := free0 HR2.out
      have d0 : w2.cell? ⟨w1.heap.size, 0, none⟩ = some (.int .i64 x.b) := by rw [cellsW HX2.out]; rfl
      have z1 : w2.cell? ⟨w.heap.size, 1, none⟩ = some (.int .i64 0) := by rw [cellsW HR2.out]; rfl
      have y1 : w2.frozen? ⟨w.heap.size, 1, none⟩ = false := free0 HR2.out
      have d1 : w2.cell? ⟨w1.heap.size, 1, none⟩ = some (.int .i64 x.c) := by rw [cellsW HX2.out]; rfl
      have z2 : w2.cell? ⟨w.heap.size, 2, none⟩ = some (.int .i64 0) := by rw [cellsW HR2.out]; rfl
      have y2 : w2.frozen? ⟨w.heap.size, 2, none⟩ = false := free0 HR2.out
      have d2 : w2.cell? ⟨w1.heap.size, 2, none⟩ = some (.int .i64 x.d) := by rw [cellsW HX2.out]; rfl
      have z3 : w2.cell? ⟨w.heap.size, 3, none⟩ = some (.int .i64 0) := by rw [cellsW HR2.out]; rfl
      have y3 : w2.frozen? ⟨w.heap.size, 3, none⟩ = false := free0 HR2.out
      have d3 : w2.cell? ⟨w1.heap.size, 3, none⟩ = some (.int .i64 x.m0) := by rw [cellsW HX2.out]; rfl
      have z4 : w2.cell? ⟨w.heap.size, 4, none⟩ = some (.int .i64 0) := by rw [cellsW HR2.out]; rfl
      have y4 : w2.frozen? ⟨w.heap.size, 4, none⟩ = false := free0 HR2.out
      have d4 : w2.cell? ⟨w1.heap.size, 4, none⟩ = some (.int .i64 x.m1) := by rw [cellsW HX2.out]; rfl
      have z5 : w2.cell? ⟨w.heap.size, 5, none⟩ = some (.int .i64 0) := by rw [cellsW HR2.out]; rfl
      have y5 : w2.frozen? ⟨w.heap.size, 5, none⟩ = false := free0 HR2.out
      have d5 : w2.cell? ⟨w1.heap.size, 5, none⟩ = some (.int .i64 x.m2) := by rw [cellsW HX2.out]; rfl
      have z6 : w2.cell? ⟨w.heap.size, 6, none⟩ = some (.int .i64 0) := by rw [cellsW HR2.out]; rfl
      have y6 : w2.frozen? ⟨w.heap.size, 6, none⟩ = false := free0 HR2.out
      have d6 : w2.cell? ⟨w1.heap.size, 6, none⟩ = some (.int .i64 x.p) := by rw [cellsW HX2.out]; rfl
      go_wp2
    · refine bodyPost_ret (v := .tuple #[.agg #[.int .i64 0, .int .i64 0, .int .i64 0, .int .i64 0, .int .i64 0, .int .i64 0, .int .i64 0], .int .i64 2]) (by simp [results, Try.results45, go_sem, z0, z1, z2, z3, z4, z5, z6]) rfl ?_
      have hy := HY.out
      rw [if_neg (fun h => of_decide_eq_false HBB.out h.2)] at hy
      injection hy with hy1 hy2
      subst hy1 hy2
      refine ⟨rfl, ?_⟩
      repeat (refine below_setR ?_ (Nat.le_refl _))
      exact B2.out
    · refine bodyPost_ret (v := .tuple #[.agg #[.int .i64 x.b, .int .i64 x.c, .int .i64 x.d, .int .i64 x.m0, .int .i64 x.m1, .int .i64 x.m2, .int .i64 x.p], .int .i64 0]) (by simp [results, Try.results45, go_sem, z0, z1, z2, z3, z4, z5, z6]) rfl ?_
      have hy := HY.out
      rw [if_pos ⟨HE.out, of_decide_eq_true HBB.out⟩] at hy
      injection hy with hy1 hy2
      subst hy1 hy2
      refine ⟨rfl, ?_⟩
      iterate 7 (refine below_setR ?_ (Nat.le_refl _))
      exact B2.out
  · have HE := Lib.hid he
    obtain ⟨ve, hve⟩ : ∃ v, rEnd s' = v := ⟨_, rfl⟩
    have hvn : (ve == 0) = false := beq_eq_false_iff_ne.2 (by rw [← hve]; exact he)
    have hvn2 : (ve != 0) = true := by unfold bne; rw [hvn]; rfl
    have HVE := Lib.hid hve
    have hn1 : ¬ w.heap.size = w1.heap.size := by omega
    clear he hve
    have z0 : w1.cell? ⟨w.heap.size, 0, none⟩ = some (.int .i64 0) := by rw [cellsW HR1.out]; rfl
    have y0 : w1.frozen? ⟨w.heap.size, 0, none⟩ = false := free0 HR1.out
    have z1 : w1.cell? ⟨w.heap.size, 1, none⟩ = some (.int .i64 0) := by rw [cellsW HR1.out]; rfl
    have y1 : w1.frozen? ⟨w.heap.size, 1, none⟩ = false := free0 HR1.out
    have z2 : w1.cell? ⟨w.heap.size, 2, none⟩ = some (.int .i64 0) := by rw [cellsW HR1.out]; rfl
    have y2 : w1.frozen? ⟨w.heap.size, 2, none⟩ = false := free0 HR1.out
    have z3 : w1.cell? ⟨w.heap.size, 3, none⟩ = some (.int .i64 0) := by rw [cellsW HR1.out]; rfl
    have y3 : w1.frozen? ⟨w.heap.size, 3, none⟩ = false := free0 HR1.out
    have z4 : w1.cell? ⟨w.heap.size, 4, none⟩ = some (.int .i64 0) := by rw [cellsW HR1.out]; rfl
    have y4 : w1.frozen? ⟨w.heap.size, 4, none⟩ = false := free0 HR1.out
    have z5 : w1.cell? ⟨w.heap.size, 5, none⟩ = some (.int .i64 0) := by rw [cellsW HR1.out]; rfl
    have y5 : w1.frozen? ⟨w.heap.size, 5, none⟩ = false := free0 HR1.out
    have z6 : w1.cell? ⟨w.heap.size, 6, none⟩ = some (.int .i64 0) := by rw [cellsW HR1.out]; rfl
    have y6 : w1.frozen? ⟨w.heap.size, 6, none⟩ = false := free0 HR1.out
    go_wp2_with fail
    refine (rrend_w Q1.out HVE.out).mono ?_
    rintro e w' ⟨rfl, rfl⟩
    go_wp2
    refine bodyPost_ret (v := .tuple #[.agg #[.int .i64 0, .int .i64 0, .int .i64 0, .int .i64 0, .int .i64 0, .int .i64 0, .int .i64 0], .int .i64 2]) (by simp [results, Try.results45, go_sem, z0, z1, z2, z3, z4, z5, z6, hn1, acell, hl1]) rfl ?_
    have hy := HY.out
    rw [if_neg (fun h => HE.out h.1)] at hy
    injection hy with hy1 hy2
    subst hy1 hy2
    refine ⟨rfl, ?_⟩
    refine Below.alloc ?_ (by simp [World.setCell]; omega) _
    iterate 7 (refine below_setR ?_ (Nat.le_refl _))
    exact B1.out
end Go.Proofs.Ytebinhelnhnbeaa
