/- The law WantTurned, walked (printed by genwturn.py). -/
import Derived.Test.YtebinhelnhnbeaaWTurn
import Derived.Test.YtebinhelnhnbeaaOwnB
import Derived.Test.YtebinhelnhnbeaaWBounds0
import Derived.Test.YtebinhelnhnbeaaWRefGW
import Derived.Test.YtebinhelnhnbeaaCrc
set_option linter.unusedSimpArgs false
set_option linter.unusedVariables false
namespace Go.Proofs.Ytebinhelnhnbeaa
open Go.RowKit
set_option maxRecDepth 100000 in
set_option maxHeartbeats 4000000 in
theorem wturned_bad (x : W7) (a y : Int) (w : World) (hx : MayW x) (l : List UInt8) (n k : Nat) (bb zz : UInt8) (hl : encW x = l) (hn : l.length = n) (hl0 : 0 < n) (hl1 : n ≤ 100) (hy0 : 0 < y) (hk : (IntKind.u64.wrap a).tmod (n : Int) = (k : Int)) (hk2 : k < n) (hbb : l[k]? = some bb) (hxy : bits .xor .u8 (bb.toNat : Int) y = (zz.toNat : Int)) (hg : gW (l.set k zz) = ((⟨0, 0, 0, 0, 0, 0, 0⟩ : W7), 2)) : Calls Try.prog 16 #[x.val, .int .i64 a, .int .u8 y] w fun e w' => e = .returned (.bool true) ∧ Below w.heap.size w w' := by
  have T := Lib.hid told3
  have HP := Lib.hid (fun W => encW_yes x W hx (MayW_fits _ hx))
  rw [hl] at HP
  have HG := Lib.hid (fun A c (w : World) (hr : Rd w w.heap.size 1 A n (B8 (l.set k zz))) => get_is hg A n c w hr (by omega))
  have HR := Lib.hid (refget_is hg (by rw [List.length_set]; omega))
  have e7 := sameW (⟨0, 0, 0, 0, 0, 0, 0⟩ : W7) (⟨0, 0, 0, 0, 0, 0, 0⟩ : W7) true (by simp)
  have HN := Lib.hid hn
  have HB := Lib.hid hbb
  have hz0 : (y == 0) = false := beq_eq_false_iff_ne.2 (by omega)
  clear hl hg hx hbb
  simp only [W7.val] at HP HG HR e7
  unfold W7.val
  clear hn
  go_enter Try.func16, Try.ntmps16
  go_wp2_with fail
  refine (HP.out _).mono ?_
  rintro e w2 ⟨v2, rfl, ob, q⟩
  obtain ⟨g, cp, rfl, hg0, hg1, _, _, hc, hf, hs⟩ := ob.blk (by rw [HN.out]; exact hl0)
  have H2 := Lib.hid ((q.block w.heap.size (by simp)).trans (heap_alloc_new w (.cells #[.int .i64 x.b, .int .i64 x.c, .int .i64 x.d, .int .i64 x.m0, .int .i64 x.m1, .int .i64 x.m2, .int .i64 x.p] 57)))
  have B2 := Lib.hid (show Below w.heap.size w w2 from ((Below.refl _ _).alloc (Nat.le_refl _) _).trans (q.mono (by simp)))
  have hg0' : w.heap.size < g := by simp at hg0; omega
  have hc1 : w2.cell? ⟨g, k, none⟩ = some (.int .u8 (bb.toNat : Int)) := by have hq := HB.out; rw [List.getElem?_eq_getElem (by rw [HN.out]; exact hk2)] at hq; rw [hc k (by rw [HN.out]; exact hk2), Option.some.inj hq]
  have hf1 := hf k
  have HS := Lib.hid (hs k zz)
  have R3 := Lib.hid (show Rd (w2.setCell ⟨g, k, none⟩ (.int .u8 (zz.toNat : Int))) (w2.setCell ⟨g, k, none⟩ (.int .u8 (zz.toNat : Int))).heap.size 1 (some ⟨g, 0, none⟩) n (B8 (l.set k zz)) from by obtain ⟨A, c, ev, _, _, r⟩ := HS.out.form; injection ev with e1 e2 e3; subst e1; rw [List.length_set, HN.out] at r; exact r)
  have H3 := Lib.hid ((setO (by omega : g ≠ w.heap.size)).trans H2.out : (w2.setCell ⟨g, k, none⟩ (.int .u8 (zz.toNat : Int))).heap[w.heap.size]? = _)
  have B3 := Lib.hid (below_setR B2.out (by omega) : Below w.heap.size w (w2.setCell ⟨g, k, none⟩ (.int .u8 (zz.toNat : Int))))
  rw [HN.out]
  clear q ob hs hc hf HS
  go_wp2_with fail
  refine (HG.out _ _ _ R3.out).mono ?_
  rintro e w4 ⟨rfl, q⟩
  have H4 := Lib.hid ((q.block w.heap.size (lt_size H3.out)).trans H3.out)
  have B4 := Lib.hid (B3.out.trans (q.mono B3.out.size))
  have R4 := Lib.hid ((R3.out.below q).more q.size)
  clear q
  have hcv : (convert 24 9 (.slice (some ⟨g, 0, none⟩) n cp)).run Try.prog (w4.alloc (.cells #[.int .i64 0, .int .i64 0, .int .i64 0, .int .i64 0, .int .i64 0, .int .i64 0, .int .i64 0] 57)) = .ok (.string ⟨(l.set k zz).toArray⟩) (w4.alloc (.cells #[.int .i64 0, .int .i64 0, .int .i64 0, .int .i64 0, .int .i64 0, .int .i64 0, .int .i64 0] 57)) := run_conv_str (R4.out.below ((Below.refl _ _).alloc (Nat.le_refl _) _))
  go_wp2_with fail
  refine (HR.out _).mono ?_
  rintro e w5 ⟨rfl, q⟩
  have Y5 := Lib.hid ((q.block w4.heap.size (by simp)).trans (heap_alloc_new w4 (.cells #[.int .i64 0, .int .i64 0, .int .i64 0, .int .i64 0, .int .i64 0, .int .i64 0, .int .i64 0] 57)))
  have H5 := Lib.hid ((q.block w.heap.size (by have := lt_size H4.out; simp; omega)).trans ((Below.heap_alloc _ _ _ (lt_size H4.out)).trans H4.out))
  have B5 := Lib.hid ((B4.out.alloc B4.out.size _).trans (q.mono (by have := B4.out.size; simp; omega)))
  clear q hcv
  go_wp2_with fail
  refine (T.out _).mono ?_
  rintro e w6 ⟨rfl, q⟩
  have V6 := Lib.hid ((q.block w5.heap.size (by simp)).trans (heap_alloc_new w5 (.cells #[.int .i64 0, .int .i64 0, .int .i64 0, .int .i64 0, .int .i64 0, .int .i64 0, .int .i64 0] 57)))
  have Y6 := Lib.hid ((q.block w4.heap.size (by have := lt_size Y5.out; simp; omega)).trans ((Below.heap_alloc _ _ _ (lt_size Y5.out)).trans Y5.out))
  have H6 := Lib.hid ((q.block w.heap.size (by have := lt_size H5.out; simp; omega)).trans ((Below.heap_alloc _ _ _ (lt_size H5.out)).trans H5.out))
  have B6 := Lib.hid ((B5.out.alloc B5.out.size _).trans (q.mono (by have := B5.out.size; simp; omega)))
  clear q
  have vv0 : w6.cell? ⟨w5.heap.size, 0, none⟩ = some (.int .i64 0) := (cellsW (i := 0) V6.out).trans rfl
  have vv1 : w6.cell? ⟨w5.heap.size, 1, none⟩ = some (.int .i64 0) := (cellsW (i := 1) V6.out).trans rfl
  have vv2 : w6.cell? ⟨w5.heap.size, 2, none⟩ = some (.int .i64 0) := (cellsW (i := 2) V6.out).trans rfl
  have vv3 : w6.cell? ⟨w5.heap.size, 3, none⟩ = some (.int .i64 0) := (cellsW (i := 3) V6.out).trans rfl
  have vv4 : w6.cell? ⟨w5.heap.size, 4, none⟩ = some (.int .i64 0) := (cellsW (i := 4) V6.out).trans rfl
  have vv5 : w6.cell? ⟨w5.heap.size, 5, none⟩ = some (.int .i64 0) := (cellsW (i := 5) V6.out).trans rfl
  have vv6 : w6.cell? ⟨w5.heap.size, 6, none⟩ = some (.int .i64 0) := (cellsW (i := 6) V6.out).trans rfl
  have yy0 : w6.cell? ⟨w4.heap.size, 0, none⟩ = some (.int .i64 0) := (cellsW (i := 0) Y6.out).trans rfl
  have yy1 : w6.cell? ⟨w4.heap.size, 1, none⟩ = some (.int .i64 0) := (cellsW (i := 1) Y6.out).trans rfl
  have yy2 : w6.cell? ⟨w4.heap.size, 2, none⟩ = some (.int .i64 0) := (cellsW (i := 2) Y6.out).trans rfl
  have yy3 : w6.cell? ⟨w4.heap.size, 3, none⟩ = some (.int .i64 0) := (cellsW (i := 3) Y6.out).trans rfl
  have yy4 : w6.cell? ⟨w4.heap.size, 4, none⟩ = some (.int .i64 0) := (cellsW (i := 4) Y6.out).trans rfl
  have yy5 : w6.cell? ⟨w4.heap.size, 5, none⟩ = some (.int .i64 0) := (cellsW (i := 5) Y6.out).trans rfl
  have yy6 : w6.cell? ⟨w4.heap.size, 6, none⟩ = some (.int .i64 0) := (cellsW (i := 6) Y6.out).trans rfl
  go_wp2
  go_ret
  exact ⟨rfl, B6.out⟩
end Go.Proofs.Ytebinhelnhnbeaa
