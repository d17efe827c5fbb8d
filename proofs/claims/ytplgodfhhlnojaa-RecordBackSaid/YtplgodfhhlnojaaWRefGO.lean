/- sojournref1.GetOp, walked (printed by genwrefgo.py). -/
import Derived.Test.YtplgodfhhlnojaaB7
import Derived.Test.YtplgodfhhlnojaaB5
import Derived.Test.YtplgodfhhlnojaaB8
set_option linter.unusedSimpArgs false
set_option linter.unusedVariables false
namespace Go.Proofs.Ytplgodfhhlnojaa
open Go.RowKit
set_option maxRecDepth 100000 in
set_option maxHeartbeats 4000000 in
theorem refgetop_w (S : ByteArray) (l : List UInt8) (w : World) (hS : S.data.toList = l) (hl : l.length ≤ 1000000000000) : Calls Try.prog 99 #[.string S] w (PO w (hO l).1 (hO l).2) := by
  obtain ⟨y, kk, hy⟩ : ∃ y kk, hO l = (y, kk) := ⟨_, _, rfl⟩
  rw [hy]
  unfold hO at hy
  obtain ⟨v1, s1, e1⟩ : ∃ v t, rF (some l) = (v, t) := ⟨_, _, rfl⟩
  obtain ⟨v2, s2, e2⟩ : ∃ v t, rF s1 = (v, t) := ⟨_, _, rfl⟩
  obtain ⟨v3, s3, e3⟩ : ∃ v t, rF s2 = (v, t) := ⟨_, _, rfl⟩
  obtain ⟨v4, s4, e4⟩ : ∃ v t, rF s3 = (v, t) := ⟨_, _, rfl⟩
  obtain ⟨v5, s5, e5⟩ : ∃ v t, rF s4 = (v, t) := ⟨_, _, rfl⟩
  have hw : rTO (some l) = (⟨v1, v2, v3, v4, v5⟩, s5) := by unfold rTO; simp only [e1, e2, e3, e4, e5]
  rw [hw] at hy
  simp only at hy ⊢
  have HY := Lib.hid hy
  have HS := Lib.hid (show Sh (some l) from fun l' e => by injection e with e; subst e; exact hl)
  have HSS := Lib.hid hS
  have h1 := Lib.hid (HS.out.f e1)
  have h2 := Lib.hid (h1.out.f e2)
  have h3 := Lib.hid (h2.out.f e3)
  have h4 := Lib.hid (h3.out.f e4)
  have h5 := Lib.hid (h4.out.f e5)
  have E1 := Lib.hid e1
  have E2 := Lib.hid e2
  have E3 := Lib.hid e3
  have E4 := Lib.hid e4
  have E5 := Lib.hid e5
  clear hy hS hl hw e1 e2 e3 e4 e5
  unfold PO O5.val
  go_enter Try.func99, Try.ntmps99
  go_wp2_with fail
  have hRR : RR ((w.alloc (.cells #[.int .i64 0, .int .i64 0, .int .i64 0, .int .i64 0, .int .i64 0] 28)).alloc (.cells #[.string S, .bool false] 116)) (w.heap.size + 1) (some l) := ⟨S, false, by rw [show w.heap.size + 1 = (w.alloc (.cells #[.int .i64 0, .int .i64 0, .int .i64 0, .int .i64 0, .int .i64 0] 28)).heap.size from by simp]; exact heap_alloc_new _ _, by rw [HSS.out]; rfl⟩
  refine (rrint_eq hRR HS.out E1.out).mono ?_
  rintro e wa ⟨rfl, q, gg⟩
  clear hRR
  have hza : w.heap.size + 2 ≤ wa.heap.size := by have := gg.size; simpa using this
  have BR := (gg.block w.heap.size (by simp; omega) (by intro e; injection e with e; omega)).trans ((Below.heap_alloc _ _ _ (by simp)).trans (heap_alloc_new w (.cells #[.int .i64 0, .int .i64 0, .int .i64 0, .int .i64 0, .int .i64 0] 28)))
  have K1 := Lib.hid (show GX ((w.alloc (.cells #[.int .i64 0, .int .i64 0, .int .i64 0, .int .i64 0, .int .i64 0] 28)).alloc (.cells #[.string S, .bool false] 116)) (wa.alloc (.cells #[.int .i64 v1, .int .i64 0, .int .i64 0, .int .i64 0, .int .i64 0] 28)) (w.heap.size + 1) s1 w.heap.size wa.heap.size #[.int .i64 0, .int .i64 0, .int .i64 0, .int .i64 0, .int .i64 0] #[.int .i64 v1, .int .i64 0, .int .i64 0, .int .i64 0, .int .i64 0] 28 from
    ⟨q.same (Below.heap_alloc _ _ _ q.lt), only_alloc gg _, (Below.heap_alloc _ _ _ (by omega)).trans BR, heap_alloc_new wa _, by omega, by simp; omega, by simp, by omega⟩)
  clear q gg BR
  go_wp2_with fail
  refine (rrint_eq K1.out.r h1.out E2.out).mono ?_
  rintro e wb2 ⟨rfl, q, gg⟩
  have M2 := Lib.hid (K1.out.call q gg)
  have c2 : wb2.cell? ⟨wa.heap.size, 1, none⟩ = some (.int .i64 0) := by rw [cellsW M2.out.hT]; rfl
  have f2 : wb2.frozen? ⟨wa.heap.size, 1, none⟩ = false := free0 M2.out.hT
  have K2 : Hid (GX ((w.alloc (.cells #[.int .i64 0, .int .i64 0, .int .i64 0, .int .i64 0, .int .i64 0] 28)).alloc (.cells #[.string S, .bool false] 116)) (wb2.setCell ⟨wa.heap.size, 1, none⟩ (.int .i64 v2)) (w.heap.size + 1) s2 w.heap.size wa.heap.size #[.int .i64 0, .int .i64 0, .int .i64 0, .int .i64 0, .int .i64 0] #[.int .i64 v1, .int .i64 v2, .int .i64 0, .int .i64 0, .int .i64 0] 28) := M2.out.store 1 _
  clear q gg K1
  go_wp2_with fail
  refine (rrint_eq K2.out.r h2.out E3.out).mono ?_
  rintro e wb3 ⟨rfl, q, gg⟩
  have M3 := Lib.hid (K2.out.call q gg)
  have c3 : wb3.cell? ⟨wa.heap.size, 2, none⟩ = some (.int .i64 0) := by rw [cellsW M3.out.hT]; rfl
  have f3 : wb3.frozen? ⟨wa.heap.size, 2, none⟩ = false := free0 M3.out.hT
  have K3 : Hid (GX ((w.alloc (.cells #[.int .i64 0, .int .i64 0, .int .i64 0, .int .i64 0, .int .i64 0] 28)).alloc (.cells #[.string S, .bool false] 116)) (wb3.setCell ⟨wa.heap.size, 2, none⟩ (.int .i64 v3)) (w.heap.size + 1) s3 w.heap.size wa.heap.size #[.int .i64 0, .int .i64 0, .int .i64 0, .int .i64 0, .int .i64 0] #[.int .i64 v1, .int .i64 v2, .int .i64 v3, .int .i64 0, .int .i64 0] 28) := M3.out.store 2 _
  clear q gg K2 c2 f2 M2
  go_wp2_with fail
  refine (rrint_eq K3.out.r h3.out E4.out).mono ?_
  rintro e wb4 ⟨rfl, q, gg⟩
  have M4 := Lib.hid (K3.out.call q gg)
  have c4 : wb4.cell? ⟨wa.heap.size, 3, none⟩ = some (.int .i64 0) := by rw [cellsW M4.out.hT]; rfl
  have f4 : wb4.frozen? ⟨wa.heap.size, 3, none⟩ = false := free0 M4.out.hT
  have K4 : Hid (GX ((w.alloc (.cells #[.int .i64 0, .int .i64 0, .int .i64 0, .int .i64 0, .int .i64 0] 28)).alloc (.cells #[.string S, .bool false] 116)) (wb4.setCell ⟨wa.heap.size, 3, none⟩ (.int .i64 v4)) (w.heap.size + 1) s4 w.heap.size wa.heap.size #[.int .i64 0, .int .i64 0, .int .i64 0, .int .i64 0, .int .i64 0] #[.int .i64 v1, .int .i64 v2, .int .i64 v3, .int .i64 v4, .int .i64 0] 28) := M4.out.store 3 _
  clear q gg K3 c3 f3 M3
  go_wp2_with fail
  refine (rrint_eq K4.out.r h4.out E5.out).mono ?_
  rintro e wb5 ⟨rfl, q, gg⟩
  have M5 := Lib.hid (K4.out.call q gg)
  have c5 : wb5.cell? ⟨wa.heap.size, 4, none⟩ = some (.int .i64 0) := by rw [cellsW M5.out.hT]; rfl
  have f5 : wb5.frozen? ⟨wa.heap.size, 4, none⟩ = false := free0 M5.out.hT
  have K5 : Hid (GX ((w.alloc (.cells #[.int .i64 0, .int .i64 0, .int .i64 0, .int .i64 0, .int .i64 0] 28)).alloc (.cells #[.string S, .bool false] 116)) (wb5.setCell ⟨wa.heap.size, 4, none⟩ (.int .i64 v5)) (w.heap.size + 1) s5 w.heap.size wa.heap.size #[.int .i64 0, .int .i64 0, .int .i64 0, .int .i64 0, .int .i64 0] #[.int .i64 v1, .int .i64 v2, .int .i64 v3, .int .i64 v4, .int .i64 v5] 28) := M5.out.store 4 _
  clear q gg K4 c4 f4 M4
  have hne := M5.out.ne
  have hlt : w.heap.size < wb5.heap.size := blk_lt M5.out.hR
  have BB := Lib.hid (show Below w.heap.size w (wb5.setCell ⟨wa.heap.size, 4, none⟩ (.int .i64 v5)) from (((Below.refl _ _).alloc (Nat.le_refl _) _).alloc (by simp) _).trans (only_lt K5.out.gr (by simp; omega) (by omega)))
  have d0 : wb5.cell? ⟨wa.heap.size, 0, none⟩ = some (.int .i64 v1) := by rw [cellsW M5.out.hT]; rfl
  have z0 : wb5.cell? ⟨w.heap.size, 0, none⟩ = some (.int .i64 0) := by rw [cellsW M5.out.hR]; rfl
  have y0 : wb5.frozen? ⟨w.heap.size, 0, none⟩ = false := free0 M5.out.hR
  have d1 : wb5.cell? ⟨wa.heap.size, 1, none⟩ = some (.int .i64 v2) := by rw [cellsW M5.out.hT]; rfl
  have z1 : wb5.cell? ⟨w.heap.size, 1, none⟩ = some (.int .i64 0) := by rw [cellsW M5.out.hR]; rfl
  have y1 : wb5.frozen? ⟨w.heap.size, 1, none⟩ = false := free0 M5.out.hR
  have d2 : wb5.cell? ⟨wa.heap.size, 2, none⟩ = some (.int .i64 v3) := by rw [cellsW M5.out.hT]; rfl
  have z2 : wb5.cell? ⟨w.heap.size, 2, none⟩ = some (.int .i64 0) := by rw [cellsW M5.out.hR]; rfl
  have y2 : wb5.frozen? ⟨w.heap.size, 2, none⟩ = false := free0 M5.out.hR
  have d3 : wb5.cell? ⟨wa.heap.size, 3, none⟩ = some (.int .i64 v4) := by rw [cellsW M5.out.hT]; rfl
  have z3 : wb5.cell? ⟨w.heap.size, 3, none⟩ = some (.int .i64 0) := by rw [cellsW M5.out.hR]; rfl
  have y3 : wb5.frozen? ⟨w.heap.size, 3, none⟩ = false := free0 M5.out.hR
  have z4 : wb5.cell? ⟨w.heap.size, 4, none⟩ = some (.int .i64 0) := by rw [cellsW M5.out.hR]; rfl
  have y4 : wb5.frozen? ⟨w.heap.size, 4, none⟩ = false := free0 M5.out.hR
  by_cases he : rEnd s5 = 0
  · have HE := Lib.hid he
    clear he
    obtain ⟨b, hb⟩ : ∃ b, decide (MayO ⟨v1, v2, v3, v4, v5⟩) = b := ⟨_, rfl⟩
    have HMC := Lib.hid (fun W => rmayop_is ⟨v1, v2, v3, v4, v5⟩ b hb W)
    unfold O5.val at HMC
    have HBB := Lib.hid hb
    clear hb
    cases b
    all_goals
      go_wp2_with fail
      refine (rrend_w K5.out.r HE.out).mono ?_
      rintro e w' ⟨rfl, rfl⟩
      go_wp2_with fail
      refine (HMC.out _).mono ?_
      rintro e w2 ⟨rfl, b2⟩
      have HR2 := Lib.hid ((b2.block w.heap.size (lt_size K5.out.hR)).trans K5.out.hR)
      have HT2 := Lib.hid ((b2.block wa.heap.size (lt_size K5.out.hT)).trans K5.out.hT)
      have B2 := Lib.hid (BB.out.trans (b2.mono BB.out.size))
      have hl2 : w.heap.size < w2.heap.size := lt_size HR2.out
      clear b2 z0 y0 z1 y1 z2 y2 z3 y3 z4 y4 d0 d1 d2 d3 c5 f5
      have z0 : w2.cell? ⟨w.heap.size, 0, none⟩ = some (.int .i64 0) := by rw [cellsW HR2.out]; rfl
      have y0 : w2.frozen? ⟨w.heap.size, 0, none⟩ = false := free0 HR2.out
      have d0 : w2.cell? ⟨wa.heap.size, 0, none⟩ = some (.int .i64 v1) := by rw [cellsW HT2.out]; rfl
      have z1 : w2.cell? ⟨w.heap.size, 1, none⟩ = some (.int .i64 0) := by rw [cellsW HR2.out]; rfl
      have y1 : w2.frozen? ⟨w.heap.size, 1, none⟩ = false := free0 HR2.out
      have d1 : w2.cell? ⟨wa.heap.size, 1, none⟩ = some (.int .i64 v2) := by rw [cellsW HT2.out]; rfl
      have z2 : w2.cell? ⟨w.heap.size, 2, none⟩ = some (.int .i64 0) := by rw [cellsW HR2.out]; rfl
      have y2 : w2.frozen? ⟨w.heap.size, 2, none⟩ = false := free0 HR2.out
      have d2 : w2.cell? ⟨wa.heap.size, 2, none⟩ = some (.int .i64 v3) := by rw [cellsW HT2.out]; rfl
      have z3 : w2.cell? ⟨w.heap.size, 3, none⟩ = some (.int .i64 0) := by rw [cellsW HR2.out]; rfl
      have y3 : w2.frozen? ⟨w.heap.size, 3, none⟩ = false := free0 HR2.out
      have d3 : w2.cell? ⟨wa.heap.size, 3, none⟩ = some (.int .i64 v4) := by rw [cellsW HT2.out]; rfl
      have z4 : w2.cell? ⟨w.heap.size, 4, none⟩ = some (.int .i64 0) := by rw [cellsW HR2.out]; rfl
      have y4 : w2.frozen? ⟨w.heap.size, 4, none⟩ = false := free0 HR2.out
      have d4 : w2.cell? ⟨wa.heap.size, 4, none⟩ = some (.int .i64 v5) := by rw [cellsW HT2.out]; rfl
      go_wp2
    · refine bodyPost_ret (v := .tuple #[.agg #[.int .i64 0, .int .i64 0, .int .i64 0, .int .i64 0, .int .i64 0], .int .i64 2]) (by simp [results, Try.results99, go_sem, z0, z1, z2, z3, z4]) rfl ?_
      have hy := HY.out
      rw [if_neg (fun h => of_decide_eq_false HBB.out h.2)] at hy
      injection hy with hy1 hy2
      subst hy1 hy2
      refine ⟨rfl, ?_⟩
      repeat (refine below_setR ?_ (Nat.le_refl _))
      exact B2.out
    · refine bodyPost_ret (v := .tuple #[.agg #[.int .i64 v1, .int .i64 v2, .int .i64 v3, .int .i64 v4, .int .i64 v5], .int .i64 0]) (by simp [results, Try.results99, go_sem, z0, z1, z2, z3, z4, d0, d1, d2, d3, d4]) rfl ?_
      have hy := HY.out
      rw [if_pos ⟨HE.out, of_decide_eq_true HBB.out⟩] at hy
      injection hy with hy1 hy2
      subst hy1 hy2
      refine ⟨rfl, ?_⟩
      repeat (refine below_setR ?_ (Nat.le_refl _))
      exact B2.out
  · have HE := Lib.hid he
    obtain ⟨ve, hve⟩ : ∃ v, rEnd s5 = v := ⟨_, rfl⟩
    have hvn : (ve == 0) = false := beq_eq_false_iff_ne.2 (by rw [← hve]; exact he)
    have hvn2 : (ve != 0) = true := by unfold bne; rw [hvn]; rfl
    have HVE := Lib.hid hve
    clear he hve
    go_wp2_with fail
    refine (rrend_w K5.out.r HVE.out).mono ?_
    rintro e w' ⟨rfl, rfl⟩
    go_wp2
    refine bodyPost_ret (v := .tuple #[.agg #[.int .i64 0, .int .i64 0, .int .i64 0, .int .i64 0, .int .i64 0], .int .i64 2]) (by simp [results, Try.results99, go_sem, z0, z1, z2, z3, z4, hne]) rfl ?_
    have hy := HY.out
    rw [if_neg (fun h => HE.out h.1)] at hy
    injection hy with hy1 hy2
    subst hy1 hy2
    refine ⟨rfl, ?_⟩
    iterate 5 (refine below_setR ?_ (Nat.le_refl _))
    exact BB.out
/-- sojournref1.GetOp, by what GetOp answers. -/
theorem refgetop_is {x : O5} {k : Int} {l : List UInt8} (e : gO l = (x, k)) (hl : l.length ≤ 1000000000000) (w : World) : Calls Try.prog 99 #[.string ⟨l.toArray⟩] w fun e w' => e = .returned (.tuple #[x.val, .int .i64 k]) ∧ Below w.heap.size w w' := by
  have h := refgetop_w ⟨l.toArray⟩ l w (by simp) hl
  rw [hO_is, e] at h
  exact h
end Go.Proofs.Ytplgodfhhlnojaa
