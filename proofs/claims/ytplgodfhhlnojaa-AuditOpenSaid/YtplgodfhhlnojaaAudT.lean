/- The few examples that each statement of layer 20 asks first (printed by gen20c.py). -/
import Derived.Test.YtplgodfhhlnojaaAud3
import Derived.Test.YtplgodfhhlnojaaAudU
import Derived.Test.YtplgodfhhlnojaaSagaA0
import Derived.Outline
set_option linter.unusedSimpArgs false
set_option linter.unusedVariables false
namespace Go.Proofs.Ytplgodfhhlnojaa
open Go.RowKit
theorem t20b : decide (BookedP ⟨1, 1, 0, 2, 0, 0, 7⟩ ⟨⟨2, 2, 0, 0, 0⟩, ⟨0, 0, 0, 0, 0⟩, ⟨0, 0, 0, 0, 0⟩, ⟨5, 0, 0, 1, 7⟩⟩) = true := by decide +kernel
theorem t20n : decide (NothingP ⟨⟨2, 2, 0, 0, 0⟩, ⟨0, 0, 0, 0, 0⟩, ⟨0, 0, 0, 0, 0⟩, ⟨5, 0, 0, 1, 7⟩⟩) = false := by decide +kernel
theorem t20z : decide (NothingP ⟨⟨0, 0, 0, 0, 0⟩, ⟨0, 0, 0, 0, 0⟩, ⟨0, 0, 0, 0, 0⟩, ⟨0, 0, 0, 0, 0⟩⟩) = true := by decide +kernel
theorem t20r : decide (RightP ⟨⟨1, 1, 0, 2, 0, 0, 7⟩, 4, 0, 0, 0⟩ ⟨⟨2, 2, 0, 0, 0⟩, ⟨0, 0, 0, 0, 0⟩, ⟨0, 0, 0, 0, 0⟩, ⟨5, 0, 0, 1, 7⟩⟩) = true := by decide +kernel
theorem t20e : (#[.int .i64 1, .int .i64 2, .int .i64 0, .int .i64 0, .int .i64 0, .int .i64 2, .int .i64 3, .int .i64 0, .int .i64 0, .int .i64 0, .int .i64 3, .int .i64 9, .int .i64 0, .int .i64 0, .int .i64 0] : Array Value).toList = EC [⟨1, 2, 0, 0, 0⟩, ⟨2, 3, 0, 0, 0⟩, ⟨3, 9, 0, 0, 0⟩] := by simp [EC, En.cells]
theorem t20u : unS 5 1 [⟨1, 2, 0, 0, 0⟩, ⟨2, 3, 0, 0, 0⟩, ⟨3, 9, 0, 0, 0⟩] = (1, 2, 3, true) := by decide +kernel
set_option maxRecDepth 100000 in
set_option maxHeartbeats 4000000 in
theorem told20 (w : World) : Calls Try.prog 43 #[] w fun e w' => e = .returned (.bool true) ∧ Below w.heap.size w w' := by
  have HB := Lib.hid (fun W => booked_is t20b W)
  have HN := Lib.hid (fun W => nothing_is t20n W)
  have HZ := Lib.hid (fun W => nothing_is t20z W)
  have HR := Lib.hid (fun W => right_is t20r W)
  simp only [W7.val, S11.val, Q4.val] at HB HN HZ HR
  have B0 := Lib.hid (Below.refl w.heap.size w)
  go_enter Try.func43, Try.ntmps43
  go_upto_region 2 with (first | (refine wpl_set rfl 24 _ _ rfl w.heap.size #[.int .i64 1, .int .i64 1, .int .i64 0, .int .i64 2, .int .i64 0, .int .i64 0, .int .i64 7] rfl rfl 24 #[.int .i64 0, .int .i64 0, .int .i64 0, .int .i64 0, .int .i64 0, .int .i64 0, .int .i64 0] (heap_alloc_new w (.cells #[.int .i64 0, .int .i64 0, .int .i64 0, .int .i64 0, .int .i64 0, .int .i64 0, .int .i64 0] 24)) (by kernel_rfl) rfl (by kernel_rfl) ?_; intro w1 hb1 sb1))
  have x_1 := Lib.hid hb1
  have B1 := Lib.hid (sb1.below B0.out B0.out.size)
  clear hb1 sb1 B0
  go_upto_region 3 with (first | (refine wpl_build (by rfl) 68 _ rfl #[.int .i64 2, .int .i64 2, .int .i64 0, .int .i64 0, .int .i64 0, .int .i64 0, .int .i64 0, .int .i64 0, .int .i64 0, .int .i64 0, .int .i64 0, .int .i64 0, .int .i64 0, .int .i64 0, .int .i64 0, .int .i64 5, .int .i64 0, .int .i64 0, .int .i64 1, .int .i64 7] (by kernel_rfl) ?_) | (refine wpl_set rfl 68 _ _ rfl w1.heap.size #[.int .i64 2, .int .i64 2, .int .i64 0, .int .i64 0, .int .i64 0, .int .i64 0, .int .i64 0, .int .i64 0, .int .i64 0, .int .i64 0, .int .i64 0, .int .i64 0, .int .i64 0, .int .i64 0, .int .i64 0, .int .i64 5, .int .i64 0, .int .i64 0, .int .i64 1, .int .i64 7] rfl rfl 68 #[.int .i64 0, .int .i64 0, .int .i64 0, .int .i64 0, .int .i64 0, .int .i64 0, .int .i64 0, .int .i64 0, .int .i64 0, .int .i64 0, .int .i64 0, .int .i64 0, .int .i64 0, .int .i64 0, .int .i64 0, .int .i64 0, .int .i64 0, .int .i64 0, .int .i64 0, .int .i64 0] (heap_alloc_new w1 (.cells #[.int .i64 0, .int .i64 0, .int .i64 0, .int .i64 0, .int .i64 0, .int .i64 0, .int .i64 0, .int .i64 0, .int .i64 0, .int .i64 0, .int .i64 0, .int .i64 0, .int .i64 0, .int .i64 0, .int .i64 0, .int .i64 0, .int .i64 0, .int .i64 0, .int .i64 0, .int .i64 0] 68)) (by kernel_rfl) rfl (by kernel_rfl) ?_; intro w2 hb2 sb2))
  have lt_x_q : w.heap.size < w1.heap.size := lt_size x_1.out
  have x_2 := Lib.hid (sb2.old x_1.out)
  have q_2 := Lib.hid hb2
  have B2 := Lib.hid (sb2.below B1.out B1.out.size)
  clear hb2 sb2 x_1 B1
  have RD := rd_new w2 #[.int .i64 1, .int .i64 2, .int .i64 0, .int .i64 0, .int .i64 0, .int .i64 2, .int .i64 3, .int .i64 0, .int .i64 0, .int .i64 0, .int .i64 3, .int .i64 9, .int .i64 0, .int .i64 0, .int .i64 0] 67 (0, 0) 3 5 rfl
  rw [t20e] at RD
  have hu := units_c 5 1 (by omega) (by omega) (some ⟨w2.heap.size, 0, none⟩) 3 3 [⟨1, 2, 0, 0, 0⟩, ⟨2, 3, 0, 0, 0⟩, ⟨3, 9, 0, 0, 0⟩] rfl (by omega) (by omega) (w2.alloc (.cells #[.int .i64 1, .int .i64 2, .int .i64 0, .int .i64 0, .int .i64 0, .int .i64 2, .int .i64 3, .int .i64 0, .int .i64 0, .int .i64 0, .int .i64 3, .int .i64 9, .int .i64 0, .int .i64 0, .int .i64 0] 67)) (RD.more (by simp))
  rw [t20u] at hu
  have HU := Lib.hid hu
  clear hu RD
  unfold unV at HU
  go_wp2_with fail
  refine (HU.out).mono ?_
  rintro e w3 ⟨rfl, q⟩
  have x_3 := Lib.hid (blk1 x_2.out q)
  have q_3 := Lib.hid (blk1 q_2.out q)
  have l_3 := Lib.hid (new1 q)
  have B3 := Lib.hid (bel1 B2.out B2.out.size q)
  clear q x_2 q_2 B2
  clear l_3
  go_wp2_with (first | (refine wpl_row (by rfl) 24 _ rfl _ rfl _ _ _ _ x_3.out rfl Try.underlying24 (by kernel_rfl) ?_) | (refine wpl_row (by rfl) 68 _ rfl _ rfl _ _ _ _ q_3.out rfl Try.underlying68 (by kernel_rfl) ?_))
  refine (HB.out _).mono ?_
  rintro e w4 ⟨rfl, q⟩
  have x_4 := Lib.hid (blk0 x_3.out q)
  have q_4 := Lib.hid (blk0 q_3.out q)
  have B4 := Lib.hid (bel0 B3.out B3.out.size q)
  clear q x_3 q_3 B3
  go_wp2_with (first | (refine wpl_row (by rfl) 68 _ rfl _ rfl _ _ _ _ q_4.out rfl Try.underlying68 (by kernel_rfl) ?_))
  refine (HN.out _).mono ?_
  rintro e w5 ⟨rfl, q⟩
  have x_5 := Lib.hid (blk0 x_4.out q)
  have q_5 := Lib.hid (blk0 q_4.out q)
  have B5 := Lib.hid (bel0 B4.out B4.out.size q)
  clear q x_4 q_4 B4
  go_wp2_with (first | (refine wpl_row (by rfl) 68 _ rfl _ rfl _ _ _ _ q_5.out rfl Try.underlying68 (by kernel_rfl) ?_) | (refine wpl_build (by rfl) 68 _ rfl #[.int .i64 0, .int .i64 0, .int .i64 0, .int .i64 0, .int .i64 0, .int .i64 0, .int .i64 0, .int .i64 0, .int .i64 0, .int .i64 0, .int .i64 0, .int .i64 0, .int .i64 0, .int .i64 0, .int .i64 0, .int .i64 0, .int .i64 0, .int .i64 0, .int .i64 0, .int .i64 0] (by kernel_rfl) ?_))
  refine (HZ.out _).mono ?_
  rintro e w6 ⟨rfl, q⟩
  have x_6 := Lib.hid (blk0 x_5.out q)
  have q_6 := Lib.hid (blk0 q_5.out q)
  have B6 := Lib.hid (bel0 B5.out B5.out.size q)
  clear q x_5 q_5 B5
  go_wp2_with (first | (refine wpl_row (by rfl) 24 _ rfl _ rfl _ _ _ _ x_6.out rfl Try.underlying24 (by kernel_rfl) ?_) | (refine wpl_row (by rfl) 68 _ rfl _ rfl _ _ _ _ q_6.out rfl Try.underlying68 (by kernel_rfl) ?_) | (refine wpl_build (by rfl) 68 _ rfl #[.int .i64 0, .int .i64 0, .int .i64 0, .int .i64 0, .int .i64 0, .int .i64 0, .int .i64 0, .int .i64 0, .int .i64 0, .int .i64 0, .int .i64 0, .int .i64 0, .int .i64 0, .int .i64 0, .int .i64 0, .int .i64 0, .int .i64 0, .int .i64 0, .int .i64 0, .int .i64 0] (by kernel_rfl) ?_))
  refine (HR.out _).mono ?_
  rintro e w7 ⟨rfl, q⟩
  have x_7 := Lib.hid (blk0 x_6.out q)
  have q_7 := Lib.hid (blk0 q_6.out q)
  have B7 := Lib.hid (bel0 B6.out B6.out.size q)
  clear q x_6 q_6 B6
  go_wp2
  go_ret
  exact ⟨rfl, B7.out⟩
end Go.Proofs.Ytplgodfhhlnojaa
