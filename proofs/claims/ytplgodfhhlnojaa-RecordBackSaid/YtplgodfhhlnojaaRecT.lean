/- What is told of records (printed by gentold17.py). -/
import Derived.Test.YtplgodfhhlnojaaRecJ
import Derived.Outline
set_option linter.unusedSimpArgs false
set_option linter.unusedVariables false
namespace Go.Proofs.Ytplgodfhhlnojaa
open Go.RowKit
set_option maxRecDepth 100000 in
set_option maxHeartbeats 4000000 in
theorem told17 (w : World) : Calls Try.prog 53 #[] w fun e w' => e = .returned (.bool true) ∧ Below w.heap.size w w' := by
  have hR : MayR (⟨1, 5, 1, ⟨2, 2, 0, 0, 0⟩, z11⟩ : R19) := by decide +kernel
  have B0 := Lib.hid (Below.refl w.heap.size w)
  have HP := Lib.hid (fun W => encR_yes (⟨1, 5, 1, ⟨2, 2, 0, 0, 0⟩, z11⟩ : R19) W hR)
  have hG := gR_yes (⟨1, 5, 1, ⟨2, 2, 0, 0, 0⟩, z11⟩ : R19) hR
  obtain ⟨l, hl⟩ : ∃ l, encR (⟨1, 5, 1, ⟨2, 2, 0, 0, 0⟩, z11⟩ : R19) = l := ⟨_, rfl⟩
  have ll : l.length ≤ 200 := by rw [← hl]; exact encR_le _
  rw [hl] at HP hG
  have HG := Lib.hid (fun A c W (hr : Rd W W.heap.size 1 A l.length (B8 l)) => recget_c A l.length c l W hr (by omega) hG)
  obtain ⟨n, hn⟩ : ∃ n, l.length = n := ⟨_, rfl⟩
  have HN := Lib.hid hn
  rw [hn] at HG
  clear hl hG hn ll
  have HZ := Lib.hid (fun W => recget_c none 0 0 [] W Rd.nil (by omega) (show gR [] = (zR, 2) from by decide +kernel))
  have HN0 := Lib.hid (fun W => encR_no zR W (by decide +kernel))
  have M1 := Lib.hid (fun W => recmay_is (⟨1, 5, 1, ⟨2, 2, 0, 0, 0⟩, z11⟩ : R19) true (by decide +kernel) W)
  have M2 := Lib.hid (fun W => recmay_is (⟨2, 0, 0, zO, z11⟩ : R19) true (by decide +kernel) W)
  have M3 := Lib.hid (fun W => recmay_is (⟨2, 0, 1, zO, z11⟩ : R19) false (by decide +kernel) W)
  have HS := Lib.hid (fun W => recsame_c (⟨1, 5, 1, ⟨2, 2, 0, 0, 0⟩, z11⟩ : R19) (⟨1, 5, 1, ⟨2, 2, 0, 0, 0⟩, z11⟩ : R19) true (by simp) W)
  have er := sameRec (⟨1, 5, 1, ⟨2, 2, 0, 0, 0⟩, z11⟩ : R19) (⟨1, 5, 1, ⟨2, 2, 0, 0, 0⟩, z11⟩ : R19) true (by simp)
  clear hR
  unfold RBy at HP
  simp only [R19.val, zR, zO, z11] at HP HG HZ HN0 M1 M2 M3 HS er
  go_enter Try.func53, Try.ntmps53
  go_upto_region 2 with (first | (refine wpl_build (by rfl) 28 _ rfl #[.int .i64 2, .int .i64 2, .int .i64 0, .int .i64 0, .int .i64 0] (by kernel_rfl) ?_) | (refine wpl_build (by rfl) 82 _ rfl #[.int .i64 1, .int .i64 5, .int .i64 1, .int .i64 2, .int .i64 2, .int .i64 0, .int .i64 0, .int .i64 0, .int .i64 0, .int .i64 0, .int .i64 0, .int .i64 0, .int .i64 0, .int .i64 0, .int .i64 0, .int .i64 0, .int .i64 0, .int .i64 0, .int .i64 0] (by kernel_rfl) ?_) | (refine wpl_set rfl 82 _ _ rfl w.heap.size #[.int .i64 1, .int .i64 5, .int .i64 1, .int .i64 2, .int .i64 2, .int .i64 0, .int .i64 0, .int .i64 0, .int .i64 0, .int .i64 0, .int .i64 0, .int .i64 0, .int .i64 0, .int .i64 0, .int .i64 0, .int .i64 0, .int .i64 0, .int .i64 0, .int .i64 0] rfl rfl 82 #[.int .i64 0, .int .i64 0, .int .i64 0, .int .i64 0, .int .i64 0, .int .i64 0, .int .i64 0, .int .i64 0, .int .i64 0, .int .i64 0, .int .i64 0, .int .i64 0, .int .i64 0, .int .i64 0, .int .i64 0, .int .i64 0, .int .i64 0, .int .i64 0, .int .i64 0] (heap_alloc_new w (.cells #[.int .i64 0, .int .i64 0, .int .i64 0, .int .i64 0, .int .i64 0, .int .i64 0, .int .i64 0, .int .i64 0, .int .i64 0, .int .i64 0, .int .i64 0, .int .i64 0, .int .i64 0, .int .i64 0, .int .i64 0, .int .i64 0, .int .i64 0, .int .i64 0, .int .i64 0] 82)) (by kernel_rfl) rfl (by kernel_rfl) ?_; intro w1 hb1 sb1))
  have R_1 := Lib.hid hb1
  have B1 := Lib.hid (sb1.below B0.out B0.out.size)
  clear hb1 sb1 B0
  go_wp2_with (first | (refine wpl_row (by rfl) 82 _ rfl _ rfl _ _ _ _ R_1.out rfl Try.underlying82 (by kernel_rfl) ?_))
  refine (HP.out _).mono ?_
  rintro e w2 ⟨vx, rfl, ob, q⟩
  have R_2 := Lib.hid (blk0 R_1.out q)
  have B2 := Lib.hid (bel0 B1.out B1.out.size q)
  clear q R_1 B1
  obtain ⟨Ax, cx, rfl, _, _, rx⟩ := ob.form
  rw [HN.out] at rx ⊢
  have Rx := Lib.hid rx
  clear rx ob
  go_wp2_with fail
  refine (HG.out _ _ _ Rx.out).mono ?_
  rintro e w3 ⟨rfl, q⟩
  have R_3 := Lib.hid (blk0 R_2.out q)
  have Rx_3 := Lib.hid (rd0 Rx.out q)
  have B3 := Lib.hid (bel0 B2.out B2.out.size q)
  clear q R_2 Rx B2
  clear Rx_3
  go_upto_region 4 with (first | (refine wpl_set rfl 82 _ _ rfl w3.heap.size #[.int .i64 1, .int .i64 5, .int .i64 1, .int .i64 2, .int .i64 2, .int .i64 0, .int .i64 0, .int .i64 0, .int .i64 0, .int .i64 0, .int .i64 0, .int .i64 0, .int .i64 0, .int .i64 0, .int .i64 0, .int .i64 0, .int .i64 0, .int .i64 0, .int .i64 0] rfl rfl 82 #[.int .i64 0, .int .i64 0, .int .i64 0, .int .i64 0, .int .i64 0, .int .i64 0, .int .i64 0, .int .i64 0, .int .i64 0, .int .i64 0, .int .i64 0, .int .i64 0, .int .i64 0, .int .i64 0, .int .i64 0, .int .i64 0, .int .i64 0, .int .i64 0, .int .i64 0] (heap_alloc_new w3 (.cells #[.int .i64 0, .int .i64 0, .int .i64 0, .int .i64 0, .int .i64 0, .int .i64 0, .int .i64 0, .int .i64 0, .int .i64 0, .int .i64 0, .int .i64 0, .int .i64 0, .int .i64 0, .int .i64 0, .int .i64 0, .int .i64 0, .int .i64 0, .int .i64 0, .int .i64 0] 82)) (by kernel_rfl) rfl (by kernel_rfl) ?_; intro w4 hb4 sb4))
  have lt_R_Y : w.heap.size < w3.heap.size := lt_size R_3.out
  have R_4 := Lib.hid (sb4.old R_3.out)
  have Y_4 := Lib.hid hb4
  have B4 := Lib.hid (sb4.below B3.out B3.out.size)
  clear hb4 sb4 R_3 B3
  go_wp2_with fail
  refine (HZ.out _).mono ?_
  rintro e w5 ⟨rfl, q⟩
  have R_5 := Lib.hid (blk0 R_4.out q)
  have Y_5 := Lib.hid (blk0 Y_4.out q)
  have B5 := Lib.hid (bel0 B4.out B4.out.size q)
  clear q R_4 Y_4 B4
  go_upto_region 5 with (first | (refine wpl_set rfl 82 _ _ rfl w5.heap.size #[.int .i64 0, .int .i64 0, .int .i64 0, .int .i64 0, .int .i64 0, .int .i64 0, .int .i64 0, .int .i64 0, .int .i64 0, .int .i64 0, .int .i64 0, .int .i64 0, .int .i64 0, .int .i64 0, .int .i64 0, .int .i64 0, .int .i64 0, .int .i64 0, .int .i64 0] rfl rfl 82 #[.int .i64 0, .int .i64 0, .int .i64 0, .int .i64 0, .int .i64 0, .int .i64 0, .int .i64 0, .int .i64 0, .int .i64 0, .int .i64 0, .int .i64 0, .int .i64 0, .int .i64 0, .int .i64 0, .int .i64 0, .int .i64 0, .int .i64 0, .int .i64 0, .int .i64 0] (heap_alloc_new w5 (.cells #[.int .i64 0, .int .i64 0, .int .i64 0, .int .i64 0, .int .i64 0, .int .i64 0, .int .i64 0, .int .i64 0, .int .i64 0, .int .i64 0, .int .i64 0, .int .i64 0, .int .i64 0, .int .i64 0, .int .i64 0, .int .i64 0, .int .i64 0, .int .i64 0, .int .i64 0] 82)) (by kernel_rfl) rfl (by kernel_rfl) ?_; intro w6 hb6 sb6))
  have lt_R_Z : w.heap.size < w5.heap.size := lt_size R_5.out
  have lt_Y_Z : w3.heap.size < w5.heap.size := lt_size Y_5.out
  have R_6 := Lib.hid (sb6.old R_5.out)
  have Y_6 := Lib.hid (sb6.old Y_5.out)
  have Z_6 := Lib.hid hb6
  have B6 := Lib.hid (sb6.below B5.out B5.out.size)
  clear hb6 sb6 R_5 Y_5 B5
  go_wp2_with (first | (refine wpl_row (by rfl) 82 _ rfl _ rfl _ _ _ _ R_6.out rfl Try.underlying82 (by kernel_rfl) ?_) | (refine wpl_build (by rfl) 82 _ rfl #[.int .i64 0, .int .i64 0, .int .i64 0, .int .i64 0, .int .i64 0, .int .i64 0, .int .i64 0, .int .i64 0, .int .i64 0, .int .i64 0, .int .i64 0, .int .i64 0, .int .i64 0, .int .i64 0, .int .i64 0, .int .i64 0, .int .i64 0, .int .i64 0, .int .i64 0] (by kernel_rfl) ?_))
  refine (HN0.out _).mono ?_
  rintro e w7 ⟨rfl, q⟩
  have R_7 := Lib.hid (blk0 R_6.out q)
  have Y_7 := Lib.hid (blk0 Y_6.out q)
  have Z_7 := Lib.hid (blk0 Z_6.out q)
  have B7 := Lib.hid (bel0 B6.out B6.out.size q)
  clear q R_6 Y_6 Z_6 B6
  go_wp2_with (first | (refine wpl_row (by rfl) 82 _ rfl _ rfl _ _ _ _ Y_7.out rfl Try.underlying82 (by kernel_rfl) ?_) | (refine wpl_row (by rfl) 82 _ rfl _ rfl _ _ _ _ R_7.out rfl Try.underlying82 (by kernel_rfl) ?_))
  refine (M1.out _).mono ?_
  rintro e w8 ⟨rfl, q⟩
  have R_8 := Lib.hid (blk0 R_7.out q)
  have Y_8 := Lib.hid (blk0 Y_7.out q)
  have Z_8 := Lib.hid (blk0 Z_7.out q)
  have B8 := Lib.hid (bel0 B7.out B7.out.size q)
  clear q R_7 Y_7 Z_7 B7
  go_wp2_with (first | (refine wpl_row (by rfl) 82 _ rfl _ rfl _ _ _ _ R_8.out rfl Try.underlying82 (by kernel_rfl) ?_) | (refine wpl_build (by rfl) 82 _ rfl #[.int .i64 2, .int .i64 0, .int .i64 0, .int .i64 0, .int .i64 0, .int .i64 0, .int .i64 0, .int .i64 0, .int .i64 0, .int .i64 0, .int .i64 0, .int .i64 0, .int .i64 0, .int .i64 0, .int .i64 0, .int .i64 0, .int .i64 0, .int .i64 0, .int .i64 0] (by kernel_rfl) ?_))
  refine (M2.out _).mono ?_
  rintro e w9 ⟨rfl, q⟩
  have R_9 := Lib.hid (blk0 R_8.out q)
  have Y_9 := Lib.hid (blk0 Y_8.out q)
  have Z_9 := Lib.hid (blk0 Z_8.out q)
  have B9 := Lib.hid (bel0 B8.out B8.out.size q)
  clear q R_8 Y_8 Z_8 B8
  go_wp2_with (first | (refine wpl_row (by rfl) 82 _ rfl _ rfl _ _ _ _ R_9.out rfl Try.underlying82 (by kernel_rfl) ?_) | (refine wpl_build (by rfl) 82 _ rfl #[.int .i64 2, .int .i64 0, .int .i64 1, .int .i64 0, .int .i64 0, .int .i64 0, .int .i64 0, .int .i64 0, .int .i64 0, .int .i64 0, .int .i64 0, .int .i64 0, .int .i64 0, .int .i64 0, .int .i64 0, .int .i64 0, .int .i64 0, .int .i64 0, .int .i64 0] (by kernel_rfl) ?_))
  refine (M3.out _).mono ?_
  rintro e w10 ⟨rfl, q⟩
  have R_10 := Lib.hid (blk0 R_9.out q)
  have Y_10 := Lib.hid (blk0 Y_9.out q)
  have Z_10 := Lib.hid (blk0 Z_9.out q)
  have B10 := Lib.hid (bel0 B9.out B9.out.size q)
  clear q R_9 Y_9 Z_9 B9
  go_wp2_with (first | (refine wpl_row (by rfl) 82 _ rfl _ rfl _ _ _ _ R_10.out rfl Try.underlying82 (by kernel_rfl) ?_) | (refine wpl_row (by rfl) 82 _ rfl _ rfl _ _ _ _ Y_10.out rfl Try.underlying82 (by kernel_rfl) ?_))
  refine (HS.out _).mono ?_
  rintro e w11 ⟨rfl, q⟩
  have R_11 := Lib.hid (blk0 R_10.out q)
  have Y_11 := Lib.hid (blk0 Y_10.out q)
  have Z_11 := Lib.hid (blk0 Z_10.out q)
  have B11 := Lib.hid (bel0 B10.out B10.out.size q)
  clear q R_10 Y_10 Z_10 B10
  go_wp2
  go_ret
  exact ⟨rfl, B11.out⟩
end Go.Proofs.Ytplgodfhhlnojaa
