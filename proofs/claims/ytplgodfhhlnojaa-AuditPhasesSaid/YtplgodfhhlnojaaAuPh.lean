/- The law AuditPhases, walked (printed by gen20c.py). -/
import Derived.Test.YtplgodfhhlnojaaAuPh0
import Derived.Test.YtplgodfhhlnojaaSagaRF
import Derived.Outline
set_option linter.unusedSimpArgs false
set_option linter.unusedVariables false
namespace Go.Proofs.Ytplgodfhhlnojaa
open Go.RowKit
theorem rnewv {x : W7} {now k : Int} {s : S11} (e : newS x now = (s, k)) (w : World) : Calls Try.prog 33 #[x.val, .int .i64 now] w fun e w' => e = .returned (.tuple #[s.val, .int .i64 k]) ∧ Below w.heap.size w w' := by
  have h := rnew14 x now w
  rw [e] at h
  exact h
set_option maxRecDepth 100000 in
set_option maxHeartbeats 2000000 in
theorem auphases_no (x : W7) (states : Int) (w : World) (h : ¬ MayW x) : Calls Try.prog 13 #[x.val, .int .i64 states] w fun e w' => e = .returned (.bool true) ∧ Below w.heap.size w w' := by
  obtain ⟨b, c, d, m0, m1, m2, p⟩ := x
  have T0 := Lib.hid told20
  have HN := Lib.hid (fun W => rnewv (show newS ⟨b, c, d, m0, m1, m2, p⟩ 4 = (z11, 1) from by rw [newS, if_neg (fun g => h g.1)]) W)
  unfold W7.val S11.val z11 at HN
  unfold W7.val
  simp only at HN ⊢
  obtain ⟨f1, f3⟩ := one_box w (.cells #[.int .i64 b, .int .i64 c, .int .i64 d, .int .i64 m0, .int .i64 m1, .int .i64 m2, .int .i64 p] 24)
  have x_0 := Lib.hid f1
  have B0 := Lib.hid f3
  clear f1 f3
  go_enter Try.func13, Try.ntmps13
  go_wp2_with (first | (refine wpl_row (by rfl) 24 _ rfl _ rfl _ _ _ _ x_0.out rfl Try.underlying24 (by kernel_rfl) ?_))
  refine (HN.out _).mono ?_
  rintro e w1 ⟨rfl, q⟩
  have x_1 := Lib.hid (blk0 x_0.out q)
  have B1 := Lib.hid (bel0 B0.out B0.out.size q)
  clear q x_0 B0
  go_upto_region 2 with (first | (refine wpl_set rfl 26 _ _ rfl w1.heap.size #[.int .i64 0, .int .i64 0, .int .i64 0, .int .i64 0, .int .i64 0, .int .i64 0, .int .i64 0, .int .i64 0, .int .i64 0, .int .i64 0, .int .i64 0] rfl rfl 26 #[.int .i64 0, .int .i64 0, .int .i64 0, .int .i64 0, .int .i64 0, .int .i64 0, .int .i64 0, .int .i64 0, .int .i64 0, .int .i64 0, .int .i64 0] (heap_alloc_new w1 (.cells #[.int .i64 0, .int .i64 0, .int .i64 0, .int .i64 0, .int .i64 0, .int .i64 0, .int .i64 0, .int .i64 0, .int .i64 0, .int .i64 0, .int .i64 0] 26)) (by kernel_rfl) rfl (by kernel_rfl) ?_; intro w2 hb2 sb2))
  have lt_x_s : w.heap.size < w1.heap.size := lt_size x_1.out
  have x_2 := Lib.hid (sb2.old x_1.out)
  have s_2 := Lib.hid hb2
  have B2 := Lib.hid (sb2.below B1.out B1.out.size)
  clear hb2 sb2 x_1 B1
  clear x_2
  clear s_2
  go_wp2_with fail
  refine (T0.out _).mono ?_
  rintro e w3 ⟨rfl, q⟩
  have B3 := Lib.hid (bel0 B2.out B2.out.size q)
  clear q B2
  go_wp2
  go_ret
  exact ⟨rfl, B3.out⟩
set_option maxRecDepth 100000 in
set_option maxHeartbeats 4000000 in
theorem auphases_yes (x : W7) (states : Int) (w : World) (h : MayW x) : Calls Try.prog 13 #[x.val, .int .i64 states] w fun e w' => e = .returned (.bool true) ∧ Below w.heap.size w w' := by
  obtain ⟨b, c, d, m0, m1, m2, p⟩ := x
  have T0 := Lib.hid told20
  have HN := Lib.hid (fun W => rnewv (show newS ⟨b, c, d, m0, m1, m2, p⟩ 4 = (⟨⟨b, c, d, m0, m1, m2, p⟩, 1, 0, 0, 4⟩, 0) from by rw [newS, if_pos ⟨h, by omega, by omega⟩]) W)
  unfold W7.val S11.val at HN
  unfold W7.val
  simp only at HN ⊢
  have HX := Lib.hid h
  clear h
  obtain ⟨f1, f3⟩ := one_box w (.cells #[.int .i64 b, .int .i64 c, .int .i64 d, .int .i64 m0, .int .i64 m1, .int .i64 m2, .int .i64 p] 24)
  have x_0 := Lib.hid f1
  have B0 := Lib.hid f3
  clear f1 f3
  go_enter Try.func13, Try.ntmps13
  go_wp2_with (first | (refine wpl_row (by rfl) 24 _ rfl _ rfl _ _ _ _ x_0.out rfl Try.underlying24 (by kernel_rfl) ?_))
  refine (HN.out _).mono ?_
  rintro e w1 ⟨rfl, q⟩
  have x_1 := Lib.hid (blk0 x_0.out q)
  have B1 := Lib.hid (bel0 B0.out B0.out.size q)
  clear q x_0 B0
  go_upto_region 2 with (first | (refine wpl_set rfl 26 _ _ rfl w1.heap.size #[.int .i64 b, .int .i64 c, .int .i64 d, .int .i64 m0, .int .i64 m1, .int .i64 m2, .int .i64 p, .int .i64 1, .int .i64 0, .int .i64 0, .int .i64 4] rfl rfl 26 #[.int .i64 0, .int .i64 0, .int .i64 0, .int .i64 0, .int .i64 0, .int .i64 0, .int .i64 0, .int .i64 0, .int .i64 0, .int .i64 0, .int .i64 0] (heap_alloc_new w1 (.cells #[.int .i64 0, .int .i64 0, .int .i64 0, .int .i64 0, .int .i64 0, .int .i64 0, .int .i64 0, .int .i64 0, .int .i64 0, .int .i64 0, .int .i64 0] 26)) (by kernel_rfl) rfl (by kernel_rfl) ?_; intro w2 hb2 sb2))
  have lt_x_s : w.heap.size < w1.heap.size := lt_size x_1.out
  have x_2 := Lib.hid (sb2.old x_1.out)
  have s_2 := Lib.hid hb2
  have B2 := Lib.hid (sb2.below B1.out B1.out.size)
  clear hb2 sb2 x_1 B1
  go_upto_region 5 with fail
  have lt_x_q : w.heap.size < w2.heap.size := lt_size x_2.out
  have lt_s_q : w1.heap.size < w2.heap.size := lt_size s_2.out
  have x_3 : Hid ((w2.alloc (.cells #[.int .i64 0, .int .i64 0, .int .i64 0, .int .i64 0, .int .i64 0, .int .i64 0, .int .i64 0, .int .i64 0, .int .i64 0, .int .i64 0, .int .i64 0, .int .i64 0, .int .i64 0, .int .i64 0, .int .i64 0, .int .i64 0, .int .i64 0, .int .i64 0, .int .i64 0, .int .i64 0] 68)).heap[w.heap.size]? = some (.cells #[.int .i64 b, .int .i64 c, .int .i64 d, .int .i64 m0, .int .i64 m1, .int .i64 m2, .int .i64 p] 24 (0, 0))) := Lib.hid (alc x_2.out)
  have s_3 : Hid ((w2.alloc (.cells #[.int .i64 0, .int .i64 0, .int .i64 0, .int .i64 0, .int .i64 0, .int .i64 0, .int .i64 0, .int .i64 0, .int .i64 0, .int .i64 0, .int .i64 0, .int .i64 0, .int .i64 0, .int .i64 0, .int .i64 0, .int .i64 0, .int .i64 0, .int .i64 0, .int .i64 0, .int .i64 0] 68)).heap[w1.heap.size]? = some (.cells #[.int .i64 b, .int .i64 c, .int .i64 d, .int .i64 m0, .int .i64 m1, .int .i64 m2, .int .i64 p, .int .i64 1, .int .i64 0, .int .i64 0, .int .i64 4] 26 (0, 0))) := Lib.hid (alc s_2.out)
  have q_3 : Hid ((w2.alloc (.cells #[.int .i64 0, .int .i64 0, .int .i64 0, .int .i64 0, .int .i64 0, .int .i64 0, .int .i64 0, .int .i64 0, .int .i64 0, .int .i64 0, .int .i64 0, .int .i64 0, .int .i64 0, .int .i64 0, .int .i64 0, .int .i64 0, .int .i64 0, .int .i64 0, .int .i64 0, .int .i64 0] 68)).heap[w2.heap.size]? = some (.cells #[.int .i64 0, .int .i64 0, .int .i64 0, .int .i64 0, .int .i64 0, .int .i64 0, .int .i64 0, .int .i64 0, .int .i64 0, .int .i64 0, .int .i64 0, .int .i64 0, .int .i64 0, .int .i64 0, .int .i64 0, .int .i64 0, .int .i64 0, .int .i64 0, .int .i64 0, .int .i64 0] 68 (0, 0))) := Lib.hid (heap_alloc_new w2 _)
  have B3 : Hid (Below w.heap.size w (w2.alloc (.cells #[.int .i64 0, .int .i64 0, .int .i64 0, .int .i64 0, .int .i64 0, .int .i64 0, .int .i64 0, .int .i64 0, .int .i64 0, .int .i64 0, .int .i64 0, .int .i64 0, .int .i64 0, .int .i64 0, .int .i64 0, .int .i64 0, .int .i64 0, .int .i64 0, .int .i64 0, .int .i64 0] 68))) := Lib.hid (B2.out.alloc B2.out.size _)
  clear x_2 s_2 B2
  generalize (w2.alloc (.cells #[.int .i64 0, .int .i64 0, .int .i64 0, .int .i64 0, .int .i64 0, .int .i64 0, .int .i64 0, .int .i64 0, .int .i64 0, .int .i64 0, .int .i64 0, .int .i64 0, .int .i64 0, .int .i64 0, .int .i64 0, .int .i64 0, .int .i64 0, .int .i64 0, .int .i64 0, .int .i64 0] 68)) = w3 at x_3 s_3 q_3 B3 ⊢
  go_wp2_with fail
  go_loopw [8] (fun i wr => ∃ (k : Nat) (v0 v1 v2 v3 : Int), k ≤ 4 ∧ i = .int .i64 k ∧ Hid ((V03 v0 ∧ V03 v1 ∧ V03 v2 ∧ V03 v3) ∧ wr.heap[w.heap.size]? = some (.cells #[.int .i64 b, .int .i64 c, .int .i64 d, .int .i64 m0, .int .i64 m1, .int .i64 m2, .int .i64 p] 24 (0, 0)) ∧ wr.heap[w1.heap.size]? = some (.cells #[.int .i64 b, .int .i64 c, .int .i64 d, .int .i64 m0, .int .i64 m1, .int .i64 m2, .int .i64 p, .int .i64 1, .int .i64 0, .int .i64 0, .int .i64 4] 26 (0, 0)) ∧ wr.heap[w2.heap.size]? = some (.cells #[.int .i64 v0, .int .i64 0, .int .i64 0, .int .i64 0, .int .i64 0, .int .i64 v1, .int .i64 0, .int .i64 0, .int .i64 0, .int .i64 0, .int .i64 v2, .int .i64 0, .int .i64 0, .int .i64 0, .int .i64 0, .int .i64 v3, .int .i64 0, .int .i64 0, .int .i64 0, .int .i64 0] 68 (0, 0)) ∧ Below w.heap.size w wr)) (fun i _ => 4 - (intOf i).toNat)
  case atStart => exact ⟨0, 0, 0, 0, 0, by omega, rfl, Lib.hid ⟨⟨.inl rfl, .inl rfl, .inl rfl, .inl rfl⟩, x_3.out, s_3.out, q_3.out, B3.out⟩⟩
  case round =>
    obtain ⟨k, v0, v1, v2, v3, hk, rfl, HS⟩ := hrel
    obtain ⟨hv, x0, s0, q0, B0⟩ := HS.out
    have HV := Lib.hid hv
    have x_0 := Lib.hid x0
    have s_0 := Lib.hid s0
    have q_0 := Lib.hid q0
    replace B0 := Lib.hid B0
    clear hv x0 s0 q0 HS x_3 s_3 q_3 B3
    have : k = 0 ∨ k = 1 ∨ k = 2 ∨ k = 3 ∨ k = 4 := by omega
    rcases this with rfl | rfl | rfl | rfl | rfl
    · skip
      go_wp2_with (first | (refine wpl_build (by rfl) 67 _ rfl #[.int .i64 3, .int .i64 0, .int .i64 0, .int .i64 0, .int .i64 0] (by kernel_rfl) ?_) | (refine wpl_put rfl 67 _ _ rfl w2.heap.size 0 _ #[.int .i64 3, .int .i64 0, .int .i64 0, .int .i64 0, .int .i64 0] rfl rfl rfl 68 #[.int .i64 v0, .int .i64 0, .int .i64 0, .int .i64 0, .int .i64 0, .int .i64 v1, .int .i64 0, .int .i64 0, .int .i64 0, .int .i64 0, .int .i64 v2, .int .i64 0, .int .i64 0, .int .i64 0, .int .i64 0, .int .i64 v3, .int .i64 0, .int .i64 0, .int .i64 0, .int .i64 0] q_0.out (by kernel_rfl) #[.int .i64 3, .int .i64 0, .int .i64 0, .int .i64 0, .int .i64 0, .int .i64 v1, .int .i64 0, .int .i64 0, .int .i64 0, .int .i64 0, .int .i64 v2, .int .i64 0, .int .i64 0, .int .i64 0, .int .i64 0, .int .i64 v3, .int .i64 0, .int .i64 0, .int .i64 0, .int .i64 0] (by simp [setSeg]) (by simp) (by kernel_rfl) ?_; intro u1 hb1 sb1))
      all_goals go_roundw
      all_goals first
        | case rel =>
            first
              | exact ⟨0 + 1, 3, v1, v2, v3, by omega, by first | rfl | go_num, Lib.hid ⟨⟨.inr rfl, HV.out.2.1, HV.out.2.2.1, HV.out.2.2.2⟩, sb1.blk x_0.out (by omega), sb1.blk s_0.out (by omega), hb1, sb1.bel B0.out (by omega)⟩⟩
              | exact ⟨0 + 1, v0, v1, v2, v3, by omega, by first | rfl | go_num, Lib.hid ⟨⟨HV.out.1, HV.out.2.1, HV.out.2.2.1, HV.out.2.2.2⟩, x_0.out, s_0.out, q_0.out, B0.out⟩⟩
        | case measure => simp [intOf]
    · skip
      go_wp2_with (first | (refine wpl_build (by rfl) 67 _ rfl #[.int .i64 3, .int .i64 0, .int .i64 0, .int .i64 0, .int .i64 0] (by kernel_rfl) ?_) | (refine wpl_put rfl 67 _ _ rfl w2.heap.size 5 _ #[.int .i64 3, .int .i64 0, .int .i64 0, .int .i64 0, .int .i64 0] rfl rfl rfl 68 #[.int .i64 v0, .int .i64 0, .int .i64 0, .int .i64 0, .int .i64 0, .int .i64 v1, .int .i64 0, .int .i64 0, .int .i64 0, .int .i64 0, .int .i64 v2, .int .i64 0, .int .i64 0, .int .i64 0, .int .i64 0, .int .i64 v3, .int .i64 0, .int .i64 0, .int .i64 0, .int .i64 0] q_0.out (by kernel_rfl) #[.int .i64 v0, .int .i64 0, .int .i64 0, .int .i64 0, .int .i64 0, .int .i64 3, .int .i64 0, .int .i64 0, .int .i64 0, .int .i64 0, .int .i64 v2, .int .i64 0, .int .i64 0, .int .i64 0, .int .i64 0, .int .i64 v3, .int .i64 0, .int .i64 0, .int .i64 0, .int .i64 0] (by simp [setSeg]) (by simp) (by kernel_rfl) ?_; intro u1 hb1 sb1))
      all_goals go_roundw
      all_goals first
        | case rel =>
            first
              | exact ⟨1 + 1, v0, 3, v2, v3, by omega, by first | rfl | go_num, Lib.hid ⟨⟨HV.out.1, .inr rfl, HV.out.2.2.1, HV.out.2.2.2⟩, sb1.blk x_0.out (by omega), sb1.blk s_0.out (by omega), hb1, sb1.bel B0.out (by omega)⟩⟩
              | exact ⟨1 + 1, v0, v1, v2, v3, by omega, by first | rfl | go_num, Lib.hid ⟨⟨HV.out.1, HV.out.2.1, HV.out.2.2.1, HV.out.2.2.2⟩, x_0.out, s_0.out, q_0.out, B0.out⟩⟩
        | case measure => simp [intOf]
    · skip
      go_wp2_with (first | (refine wpl_build (by rfl) 67 _ rfl #[.int .i64 3, .int .i64 0, .int .i64 0, .int .i64 0, .int .i64 0] (by kernel_rfl) ?_) | (refine wpl_put rfl 67 _ _ rfl w2.heap.size 10 _ #[.int .i64 3, .int .i64 0, .int .i64 0, .int .i64 0, .int .i64 0] rfl rfl rfl 68 #[.int .i64 v0, .int .i64 0, .int .i64 0, .int .i64 0, .int .i64 0, .int .i64 v1, .int .i64 0, .int .i64 0, .int .i64 0, .int .i64 0, .int .i64 v2, .int .i64 0, .int .i64 0, .int .i64 0, .int .i64 0, .int .i64 v3, .int .i64 0, .int .i64 0, .int .i64 0, .int .i64 0] q_0.out (by kernel_rfl) #[.int .i64 v0, .int .i64 0, .int .i64 0, .int .i64 0, .int .i64 0, .int .i64 v1, .int .i64 0, .int .i64 0, .int .i64 0, .int .i64 0, .int .i64 3, .int .i64 0, .int .i64 0, .int .i64 0, .int .i64 0, .int .i64 v3, .int .i64 0, .int .i64 0, .int .i64 0, .int .i64 0] (by simp [setSeg]) (by simp) (by kernel_rfl) ?_; intro u1 hb1 sb1))
      all_goals go_roundw
      all_goals first
        | case rel =>
            first
              | exact ⟨2 + 1, v0, v1, 3, v3, by omega, by first | rfl | go_num, Lib.hid ⟨⟨HV.out.1, HV.out.2.1, .inr rfl, HV.out.2.2.2⟩, sb1.blk x_0.out (by omega), sb1.blk s_0.out (by omega), hb1, sb1.bel B0.out (by omega)⟩⟩
              | exact ⟨2 + 1, v0, v1, v2, v3, by omega, by first | rfl | go_num, Lib.hid ⟨⟨HV.out.1, HV.out.2.1, HV.out.2.2.1, HV.out.2.2.2⟩, x_0.out, s_0.out, q_0.out, B0.out⟩⟩
        | case measure => simp [intOf]
    · skip
      go_wp2_with (first | (refine wpl_build (by rfl) 67 _ rfl #[.int .i64 3, .int .i64 0, .int .i64 0, .int .i64 0, .int .i64 0] (by kernel_rfl) ?_) | (refine wpl_put rfl 67 _ _ rfl w2.heap.size 15 _ #[.int .i64 3, .int .i64 0, .int .i64 0, .int .i64 0, .int .i64 0] rfl rfl rfl 68 #[.int .i64 v0, .int .i64 0, .int .i64 0, .int .i64 0, .int .i64 0, .int .i64 v1, .int .i64 0, .int .i64 0, .int .i64 0, .int .i64 0, .int .i64 v2, .int .i64 0, .int .i64 0, .int .i64 0, .int .i64 0, .int .i64 v3, .int .i64 0, .int .i64 0, .int .i64 0, .int .i64 0] q_0.out (by kernel_rfl) #[.int .i64 v0, .int .i64 0, .int .i64 0, .int .i64 0, .int .i64 0, .int .i64 v1, .int .i64 0, .int .i64 0, .int .i64 0, .int .i64 0, .int .i64 v2, .int .i64 0, .int .i64 0, .int .i64 0, .int .i64 0, .int .i64 3, .int .i64 0, .int .i64 0, .int .i64 0, .int .i64 0] (by simp [setSeg]) (by simp) (by kernel_rfl) ?_; intro u1 hb1 sb1))
      all_goals go_roundw
      all_goals first
        | case rel =>
            first
              | exact ⟨3 + 1, v0, v1, v2, 3, by omega, by first | rfl | go_num, Lib.hid ⟨⟨HV.out.1, HV.out.2.1, HV.out.2.2.1, .inr rfl⟩, sb1.blk x_0.out (by omega), sb1.blk s_0.out (by omega), hb1, sb1.bel B0.out (by omega)⟩⟩
              | exact ⟨3 + 1, v0, v1, v2, v3, by omega, by first | rfl | go_num, Lib.hid ⟨⟨HV.out.1, HV.out.2.1, HV.out.2.2.1, HV.out.2.2.2⟩, x_0.out, s_0.out, q_0.out, B0.out⟩⟩
        | case measure => simp [intOf]
    · skip
      go_upto_region 11 with (first | (refine wpl_row (by rfl) 26 _ rfl _ rfl _ _ _ _ s_0.out rfl Try.underlying26 (by kernel_rfl) ?_) | (refine wpl_set rfl 26 _ _ rfl wr.heap.size #[.int .i64 b, .int .i64 c, .int .i64 d, .int .i64 m0, .int .i64 m1, .int .i64 m2, .int .i64 p, .int .i64 1, .int .i64 0, .int .i64 0, .int .i64 4] rfl rfl 26 #[.int .i64 0, .int .i64 0, .int .i64 0, .int .i64 0, .int .i64 0, .int .i64 0, .int .i64 0, .int .i64 0, .int .i64 0, .int .i64 0, .int .i64 0] (heap_alloc_new wr (.cells #[.int .i64 0, .int .i64 0, .int .i64 0, .int .i64 0, .int .i64 0, .int .i64 0, .int .i64 0, .int .i64 0, .int .i64 0, .int .i64 0, .int .i64 0] 26)) (by kernel_rfl) rfl (by kernel_rfl) ?_; intro u1 hb1 sb1))
      have lt_x_bk : w.heap.size < wr.heap.size := lt_size x_0.out
      have lt_s_bk : w1.heap.size < wr.heap.size := lt_size s_0.out
      have lt_q_bk : w2.heap.size < wr.heap.size := lt_size q_0.out
      have x_1 := Lib.hid (sb1.old x_0.out)
      have s_1 := Lib.hid (sb1.old s_0.out)
      have q_1 := Lib.hid (sb1.old q_0.out)
      have bk_1 := Lib.hid hb1
      have B1 := Lib.hid (sb1.below B0.out B0.out.size)
      clear hb1 sb1 x_0 s_0 q_0 B0
      go_upto_region 12 with (first | (refine wpl_put rfl 3 _ _ rfl wr.heap.size 7 _ #[.int .i64 3] rfl rfl rfl 26 #[.int .i64 b, .int .i64 c, .int .i64 d, .int .i64 m0, .int .i64 m1, .int .i64 m2, .int .i64 p, .int .i64 1, .int .i64 0, .int .i64 0, .int .i64 4] bk_1.out (by kernel_rfl) #[.int .i64 b, .int .i64 c, .int .i64 d, .int .i64 m0, .int .i64 m1, .int .i64 m2, .int .i64 p, .int .i64 3, .int .i64 0, .int .i64 0, .int .i64 4] (by simp [setSeg]) (by simp) (by kernel_rfl) ?_; intro u2 hb2 sb2) | (refine wpl_put rfl 3 _ _ rfl wr.heap.size 9 _ #[.int .i64 4] rfl rfl rfl 26 #[.int .i64 b, .int .i64 c, .int .i64 d, .int .i64 m0, .int .i64 m1, .int .i64 m2, .int .i64 p, .int .i64 3, .int .i64 0, .int .i64 0, .int .i64 4] hb2 (by kernel_rfl) #[.int .i64 b, .int .i64 c, .int .i64 d, .int .i64 m0, .int .i64 m1, .int .i64 m2, .int .i64 p, .int .i64 3, .int .i64 0, .int .i64 4, .int .i64 4] (by simp [setSeg]) (by simp) (by kernel_rfl) ?_; intro u3 hb3 sb3))
      have x_3 := Lib.hid (sb3.blk (sb2.blk x_1.out (by omega)) (by omega))
      have s_3 := Lib.hid (sb3.blk (sb2.blk s_1.out (by omega)) (by omega))
      have q_3 := Lib.hid (sb3.blk (sb2.blk q_1.out (by omega)) (by omega))
      have bk_3 := Lib.hid hb3
      have B3 := Lib.hid (sb3.bel (sb2.bel B1.out (by omega)) (by omega))
      clear x_1 s_1 q_1 bk_1 B1 hb2 sb2 hb3 sb3
      go_upto_region 13 with (first | (refine wpl_row (by rfl) 26 _ rfl _ rfl _ _ _ _ bk_3.out rfl Try.underlying26 (by kernel_rfl) ?_) | (refine wpl_set rfl 26 _ _ rfl u3.heap.size #[.int .i64 b, .int .i64 c, .int .i64 d, .int .i64 m0, .int .i64 m1, .int .i64 m2, .int .i64 p, .int .i64 3, .int .i64 0, .int .i64 4, .int .i64 4] rfl rfl 26 #[.int .i64 0, .int .i64 0, .int .i64 0, .int .i64 0, .int .i64 0, .int .i64 0, .int .i64 0, .int .i64 0, .int .i64 0, .int .i64 0, .int .i64 0] (heap_alloc_new u3 (.cells #[.int .i64 0, .int .i64 0, .int .i64 0, .int .i64 0, .int .i64 0, .int .i64 0, .int .i64 0, .int .i64 0, .int .i64 0, .int .i64 0, .int .i64 0] 26)) (by kernel_rfl) rfl (by kernel_rfl) ?_; intro u4 hb4 sb4))
      have lt_x_gn : w.heap.size < u3.heap.size := lt_size x_3.out
      have lt_s_gn : w1.heap.size < u3.heap.size := lt_size s_3.out
      have lt_q_gn : w2.heap.size < u3.heap.size := lt_size q_3.out
      have lt_bk_gn : wr.heap.size < u3.heap.size := lt_size bk_3.out
      have x_4 := Lib.hid (sb4.old x_3.out)
      have s_4 := Lib.hid (sb4.old s_3.out)
      have q_4 := Lib.hid (sb4.old q_3.out)
      have bk_4 := Lib.hid (sb4.old bk_3.out)
      have gn_4 := Lib.hid hb4
      have B4 := Lib.hid (sb4.below B3.out B3.out.size)
      clear hb4 sb4 x_3 s_3 q_3 bk_3 B3
      go_upto_region 14 with (first | (refine wpl_put rfl 3 _ _ rfl u3.heap.size 7 _ #[.int .i64 5] rfl rfl rfl 26 #[.int .i64 b, .int .i64 c, .int .i64 d, .int .i64 m0, .int .i64 m1, .int .i64 m2, .int .i64 p, .int .i64 3, .int .i64 0, .int .i64 4, .int .i64 4] gn_4.out (by kernel_rfl) #[.int .i64 b, .int .i64 c, .int .i64 d, .int .i64 m0, .int .i64 m1, .int .i64 m2, .int .i64 p, .int .i64 5, .int .i64 0, .int .i64 4, .int .i64 4] (by simp [setSeg]) (by simp) (by kernel_rfl) ?_; intro u5 hb5 sb5))
      have x_5 := Lib.hid (sb5.blk x_4.out (by omega))
      have s_5 := Lib.hid (sb5.blk s_4.out (by omega))
      have q_5 := Lib.hid (sb5.blk q_4.out (by omega))
      have bk_5 := Lib.hid (sb5.blk bk_4.out (by omega))
      have gn_5 := Lib.hid hb5
      have B5 := Lib.hid (sb5.bel B4.out (by omega))
      clear x_4 s_4 q_4 bk_4 gn_4 B4 hb5 sb5
      go_upto_region 15 with (first | (refine wpl_row (by rfl) 26 _ rfl _ rfl _ _ _ _ s_5.out rfl Try.underlying26 (by kernel_rfl) ?_) | (refine wpl_set rfl 26 _ _ rfl u5.heap.size #[.int .i64 b, .int .i64 c, .int .i64 d, .int .i64 m0, .int .i64 m1, .int .i64 m2, .int .i64 p, .int .i64 1, .int .i64 0, .int .i64 0, .int .i64 4] rfl rfl 26 #[.int .i64 0, .int .i64 0, .int .i64 0, .int .i64 0, .int .i64 0, .int .i64 0, .int .i64 0, .int .i64 0, .int .i64 0, .int .i64 0, .int .i64 0] (heap_alloc_new u5 (.cells #[.int .i64 0, .int .i64 0, .int .i64 0, .int .i64 0, .int .i64 0, .int .i64 0, .int .i64 0, .int .i64 0, .int .i64 0, .int .i64 0, .int .i64 0] 26)) (by kernel_rfl) rfl (by kernel_rfl) ?_; intro u6 hb6 sb6))
      have lt_x_cm : w.heap.size < u5.heap.size := lt_size x_5.out
      have lt_s_cm : w1.heap.size < u5.heap.size := lt_size s_5.out
      have lt_q_cm : w2.heap.size < u5.heap.size := lt_size q_5.out
      have lt_bk_cm : wr.heap.size < u5.heap.size := lt_size bk_5.out
      have lt_gn_cm : u3.heap.size < u5.heap.size := lt_size gn_5.out
      have x_6 := Lib.hid (sb6.old x_5.out)
      have s_6 := Lib.hid (sb6.old s_5.out)
      have q_6 := Lib.hid (sb6.old q_5.out)
      have bk_6 := Lib.hid (sb6.old bk_5.out)
      have gn_6 := Lib.hid (sb6.old gn_5.out)
      have cm_6 := Lib.hid hb6
      have B6 := Lib.hid (sb6.below B5.out B5.out.size)
      clear hb6 sb6 x_5 s_5 q_5 bk_5 gn_5 B5
      go_upto_region 16 with (first | (refine wpl_put rfl 3 _ _ rfl u5.heap.size 7 _ #[.int .i64 2] rfl rfl rfl 26 #[.int .i64 b, .int .i64 c, .int .i64 d, .int .i64 m0, .int .i64 m1, .int .i64 m2, .int .i64 p, .int .i64 1, .int .i64 0, .int .i64 0, .int .i64 4] cm_6.out (by kernel_rfl) #[.int .i64 b, .int .i64 c, .int .i64 d, .int .i64 m0, .int .i64 m1, .int .i64 m2, .int .i64 p, .int .i64 2, .int .i64 0, .int .i64 0, .int .i64 4] (by simp [setSeg]) (by simp) (by kernel_rfl) ?_; intro u7 hb7 sb7))
      have x_7 := Lib.hid (sb7.blk x_6.out (by omega))
      have s_7 := Lib.hid (sb7.blk s_6.out (by omega))
      have q_7 := Lib.hid (sb7.blk q_6.out (by omega))
      have bk_7 := Lib.hid (sb7.blk bk_6.out (by omega))
      have gn_7 := Lib.hid (sb7.blk gn_6.out (by omega))
      have cm_7 := Lib.hid hb7
      have B7 := Lib.hid (sb7.bel B6.out (by omega))
      clear x_6 s_6 q_6 bk_6 gn_6 cm_6 B6 hb7 sb7
      go_upto_region 17 with (first | (refine wpl_row (by rfl) 26 _ rfl _ rfl _ _ _ _ s_7.out rfl Try.underlying26 (by kernel_rfl) ?_) | (refine wpl_set rfl 26 _ _ rfl u7.heap.size #[.int .i64 b, .int .i64 c, .int .i64 d, .int .i64 m0, .int .i64 m1, .int .i64 m2, .int .i64 p, .int .i64 1, .int .i64 0, .int .i64 0, .int .i64 4] rfl rfl 26 #[.int .i64 0, .int .i64 0, .int .i64 0, .int .i64 0, .int .i64 0, .int .i64 0, .int .i64 0, .int .i64 0, .int .i64 0, .int .i64 0, .int .i64 0] (heap_alloc_new u7 (.cells #[.int .i64 0, .int .i64 0, .int .i64 0, .int .i64 0, .int .i64 0, .int .i64 0, .int .i64 0, .int .i64 0, .int .i64 0, .int .i64 0, .int .i64 0] 26)) (by kernel_rfl) rfl (by kernel_rfl) ?_; intro u8 hb8 sb8))
      have lt_x_bd : w.heap.size < u7.heap.size := lt_size x_7.out
      have lt_s_bd : w1.heap.size < u7.heap.size := lt_size s_7.out
      have lt_q_bd : w2.heap.size < u7.heap.size := lt_size q_7.out
      have lt_bk_bd : wr.heap.size < u7.heap.size := lt_size bk_7.out
      have lt_gn_bd : u3.heap.size < u7.heap.size := lt_size gn_7.out
      have lt_cm_bd : u5.heap.size < u7.heap.size := lt_size cm_7.out
      have x_8 := Lib.hid (sb8.old x_7.out)
      have s_8 := Lib.hid (sb8.old s_7.out)
      have q_8 := Lib.hid (sb8.old q_7.out)
      have bk_8 := Lib.hid (sb8.old bk_7.out)
      have gn_8 := Lib.hid (sb8.old gn_7.out)
      have cm_8 := Lib.hid (sb8.old cm_7.out)
      have bd_8 := Lib.hid hb8
      have B8 := Lib.hid (sb8.below B7.out B7.out.size)
      clear hb8 sb8 x_7 s_7 q_7 bk_7 gn_7 cm_7 B7
      go_upto_region 18 with (first | (refine wpl_put rfl 3 _ _ rfl u7.heap.size 7 _ #[.int .i64 4] rfl rfl rfl 26 #[.int .i64 b, .int .i64 c, .int .i64 d, .int .i64 m0, .int .i64 m1, .int .i64 m2, .int .i64 p, .int .i64 1, .int .i64 0, .int .i64 0, .int .i64 4] bd_8.out (by kernel_rfl) #[.int .i64 b, .int .i64 c, .int .i64 d, .int .i64 m0, .int .i64 m1, .int .i64 m2, .int .i64 p, .int .i64 4, .int .i64 0, .int .i64 0, .int .i64 4] (by simp [setSeg]) (by simp) (by kernel_rfl) ?_; intro u9 hb9 sb9))
      have x_9 := Lib.hid (sb9.blk x_8.out (by omega))
      have s_9 := Lib.hid (sb9.blk s_8.out (by omega))
      have q_9 := Lib.hid (sb9.blk q_8.out (by omega))
      have bk_9 := Lib.hid (sb9.blk bk_8.out (by omega))
      have gn_9 := Lib.hid (sb9.blk gn_8.out (by omega))
      have cm_9 := Lib.hid (sb9.blk cm_8.out (by omega))
      have bd_9 := Lib.hid hb9
      have B9 := Lib.hid (sb9.bel B8.out (by omega))
      clear x_8 s_8 q_8 bk_8 gn_8 cm_8 bd_8 B8 hb9 sb9
      have C1 := Lib.hid (fun W => nothing_is (show decide (NothingP (q03 v0 v1 v2 v3)) = true from decide_eq_true (nothing03 HV.out.1 HV.out.2.1 HV.out.2.2.1 HV.out.2.2.2)) W)
      simp only [W7.val, S11.val, Q4.val, q03, z11] at C1
      have C2 := Lib.hid (fun W => rnothing_is (show decide (NothingP (q03 v0 v1 v2 v3)) = true from decide_eq_true (nothing03 HV.out.1 HV.out.2.1 HV.out.2.2.1 HV.out.2.2.2)) W)
      simp only [W7.val, S11.val, Q4.val, q03, z11] at C2
      have R1 := Lib.hid (fun W => right_is (show decide (RightP ⟨⟨b, c, d, m0, m1, m2, p⟩, 1, 0, 0, 4⟩ (q03 v0 v1 v2 v3)) = true from decide_eq_true (ph1_03 _ HX.out HV.out.1 HV.out.2.1 HV.out.2.2.1 HV.out.2.2.2)) W)
      simp only [W7.val, S11.val, Q4.val, q03, z11] at R1
      have R3 := Lib.hid (fun W => right_is (show decide (RightP ⟨⟨b, c, d, m0, m1, m2, p⟩, 3, 0, 4, 4⟩ (q03 v0 v1 v2 v3)) = true from decide_eq_true (ph3_03 _ HX.out HV.out.1 HV.out.2.1 HV.out.2.2.1 HV.out.2.2.2)) W)
      simp only [W7.val, S11.val, Q4.val, q03, z11] at R3
      have R5 := Lib.hid (fun W => right_is (show decide (RightP ⟨⟨b, c, d, m0, m1, m2, p⟩, 5, 0, 4, 4⟩ (q03 v0 v1 v2 v3)) = true from decide_eq_true (ph5_03 _ HX.out HV.out.1 HV.out.2.1 HV.out.2.2.1 HV.out.2.2.2)) W)
      simp only [W7.val, S11.val, Q4.val, q03, z11] at R5
      have R2 := Lib.hid (fun W => right_is (show decide (RightP ⟨⟨b, c, d, m0, m1, m2, p⟩, 2, 0, 0, 4⟩ (q03 v0 v1 v2 v3)) = false from decide_eq_false (ph2_03 _ HX.out HV.out.1 HV.out.2.1 HV.out.2.2.1)) W)
      simp only [W7.val, S11.val, Q4.val, q03, z11] at R2
      have R4 := Lib.hid (fun W => right_is (show decide (RightP ⟨⟨b, c, d, m0, m1, m2, p⟩, 4, 0, 0, 4⟩ (q03 v0 v1 v2 v3)) = false from decide_eq_false (ph4_03 _ HX.out HV.out.1 HV.out.2.1 HV.out.2.2.1)) W)
      simp only [W7.val, S11.val, Q4.val, q03, z11] at R4
      have RZ := Lib.hid (fun W => right_is (show decide (RightP z11 (q03 v0 v1 v2 v3)) = false from decide_eq_false (fun h => z11_no h.1)) W)
      simp only [W7.val, S11.val, Q4.val, q03, z11] at RZ
      go_wp2_with fail
      refine (T0.out _).mono ?_
      rintro e u10 ⟨rfl, q⟩
      have x_10 := Lib.hid (blk0 x_9.out q)
      have s_10 := Lib.hid (blk0 s_9.out q)
      have q_10 := Lib.hid (blk0 q_9.out q)
      have bk_10 := Lib.hid (blk0 bk_9.out q)
      have gn_10 := Lib.hid (blk0 gn_9.out q)
      have cm_10 := Lib.hid (blk0 cm_9.out q)
      have bd_10 := Lib.hid (blk0 bd_9.out q)
      have B10 := Lib.hid (bel0 B9.out B9.out.size q)
      clear q x_9 s_9 q_9 bk_9 gn_9 cm_9 bd_9 B9
      go_wp2_with (first | (refine wpl_row (by rfl) 68 _ rfl _ rfl _ _ _ _ q_10.out rfl Try.underlying68 (by kernel_rfl) ?_))
      refine (C1.out _).mono ?_
      rintro e u11 ⟨rfl, q⟩
      have x_11 := Lib.hid (blk0 x_10.out q)
      have s_11 := Lib.hid (blk0 s_10.out q)
      have q_11 := Lib.hid (blk0 q_10.out q)
      have bk_11 := Lib.hid (blk0 bk_10.out q)
      have gn_11 := Lib.hid (blk0 gn_10.out q)
      have cm_11 := Lib.hid (blk0 cm_10.out q)
      have bd_11 := Lib.hid (blk0 bd_10.out q)
      have B11 := Lib.hid (bel0 B10.out B10.out.size q)
      clear q x_10 s_10 q_10 bk_10 gn_10 cm_10 bd_10 B10
      go_wp2_with (first | (refine wpl_row (by rfl) 26 _ rfl _ rfl _ _ _ _ s_11.out rfl Try.underlying26 (by kernel_rfl) ?_) | (refine wpl_row (by rfl) 68 _ rfl _ rfl _ _ _ _ q_11.out rfl Try.underlying68 (by kernel_rfl) ?_))
      refine (R1.out _).mono ?_
      rintro e u12 ⟨rfl, q⟩
      have x_12 := Lib.hid (blk0 x_11.out q)
      have s_12 := Lib.hid (blk0 s_11.out q)
      have q_12 := Lib.hid (blk0 q_11.out q)
      have bk_12 := Lib.hid (blk0 bk_11.out q)
      have gn_12 := Lib.hid (blk0 gn_11.out q)
      have cm_12 := Lib.hid (blk0 cm_11.out q)
      have bd_12 := Lib.hid (blk0 bd_11.out q)
      have B12 := Lib.hid (bel0 B11.out B11.out.size q)
      clear q x_11 s_11 q_11 bk_11 gn_11 cm_11 bd_11 B11
      go_wp2_with (first | (refine wpl_row (by rfl) 26 _ rfl _ rfl _ _ _ _ bk_12.out rfl Try.underlying26 (by kernel_rfl) ?_) | (refine wpl_row (by rfl) 68 _ rfl _ rfl _ _ _ _ q_12.out rfl Try.underlying68 (by kernel_rfl) ?_))
      refine (R3.out _).mono ?_
      rintro e u13 ⟨rfl, q⟩
      have x_13 := Lib.hid (blk0 x_12.out q)
      have s_13 := Lib.hid (blk0 s_12.out q)
      have q_13 := Lib.hid (blk0 q_12.out q)
      have bk_13 := Lib.hid (blk0 bk_12.out q)
      have gn_13 := Lib.hid (blk0 gn_12.out q)
      have cm_13 := Lib.hid (blk0 cm_12.out q)
      have bd_13 := Lib.hid (blk0 bd_12.out q)
      have B13 := Lib.hid (bel0 B12.out B12.out.size q)
      clear q x_12 s_12 q_12 bk_12 gn_12 cm_12 bd_12 B12
      go_wp2_with (first | (refine wpl_row (by rfl) 26 _ rfl _ rfl _ _ _ _ gn_13.out rfl Try.underlying26 (by kernel_rfl) ?_) | (refine wpl_row (by rfl) 68 _ rfl _ rfl _ _ _ _ q_13.out rfl Try.underlying68 (by kernel_rfl) ?_))
      refine (R5.out _).mono ?_
      rintro e u14 ⟨rfl, q⟩
      have x_14 := Lib.hid (blk0 x_13.out q)
      have s_14 := Lib.hid (blk0 s_13.out q)
      have q_14 := Lib.hid (blk0 q_13.out q)
      have bk_14 := Lib.hid (blk0 bk_13.out q)
      have gn_14 := Lib.hid (blk0 gn_13.out q)
      have cm_14 := Lib.hid (blk0 cm_13.out q)
      have bd_14 := Lib.hid (blk0 bd_13.out q)
      have B14 := Lib.hid (bel0 B13.out B13.out.size q)
      clear q x_13 s_13 q_13 bk_13 gn_13 cm_13 bd_13 B13
      go_wp2_with (first | (refine wpl_row (by rfl) 26 _ rfl _ rfl _ _ _ _ cm_14.out rfl Try.underlying26 (by kernel_rfl) ?_) | (refine wpl_row (by rfl) 68 _ rfl _ rfl _ _ _ _ q_14.out rfl Try.underlying68 (by kernel_rfl) ?_))
      refine (R2.out _).mono ?_
      rintro e u15 ⟨rfl, q⟩
      have x_15 := Lib.hid (blk0 x_14.out q)
      have s_15 := Lib.hid (blk0 s_14.out q)
      have q_15 := Lib.hid (blk0 q_14.out q)
      have bk_15 := Lib.hid (blk0 bk_14.out q)
      have gn_15 := Lib.hid (blk0 gn_14.out q)
      have cm_15 := Lib.hid (blk0 cm_14.out q)
      have bd_15 := Lib.hid (blk0 bd_14.out q)
      have B15 := Lib.hid (bel0 B14.out B14.out.size q)
      clear q x_14 s_14 q_14 bk_14 gn_14 cm_14 bd_14 B14
      go_wp2_with (first | (refine wpl_row (by rfl) 26 _ rfl _ rfl _ _ _ _ bd_15.out rfl Try.underlying26 (by kernel_rfl) ?_) | (refine wpl_row (by rfl) 68 _ rfl _ rfl _ _ _ _ q_15.out rfl Try.underlying68 (by kernel_rfl) ?_))
      refine (R4.out _).mono ?_
      rintro e u16 ⟨rfl, q⟩
      have x_16 := Lib.hid (blk0 x_15.out q)
      have s_16 := Lib.hid (blk0 s_15.out q)
      have q_16 := Lib.hid (blk0 q_15.out q)
      have bk_16 := Lib.hid (blk0 bk_15.out q)
      have gn_16 := Lib.hid (blk0 gn_15.out q)
      have cm_16 := Lib.hid (blk0 cm_15.out q)
      have bd_16 := Lib.hid (blk0 bd_15.out q)
      have B16 := Lib.hid (bel0 B15.out B15.out.size q)
      clear q x_15 s_15 q_15 bk_15 gn_15 cm_15 bd_15 B15
      go_wp2_with (first | (refine wpl_row (by rfl) 68 _ rfl _ rfl _ _ _ _ q_16.out rfl Try.underlying68 (by kernel_rfl) ?_) | (refine wpl_build (by rfl) 26 _ rfl #[.int .i64 0, .int .i64 0, .int .i64 0, .int .i64 0, .int .i64 0, .int .i64 0, .int .i64 0, .int .i64 0, .int .i64 0, .int .i64 0, .int .i64 0] (by kernel_rfl) ?_))
      refine (RZ.out _).mono ?_
      rintro e u17 ⟨rfl, q⟩
      have x_17 := Lib.hid (blk0 x_16.out q)
      have s_17 := Lib.hid (blk0 s_16.out q)
      have q_17 := Lib.hid (blk0 q_16.out q)
      have bk_17 := Lib.hid (blk0 bk_16.out q)
      have gn_17 := Lib.hid (blk0 gn_16.out q)
      have cm_17 := Lib.hid (blk0 cm_16.out q)
      have bd_17 := Lib.hid (blk0 bd_16.out q)
      have B17 := Lib.hid (bel0 B16.out B16.out.size q)
      clear q x_16 s_16 q_16 bk_16 gn_16 cm_16 bd_16 B16
      go_wp2_with (first | (refine wpl_row (by rfl) 68 _ rfl _ rfl _ _ _ _ q_17.out rfl Try.underlying68 (by kernel_rfl) ?_))
      refine (C2.out _).mono ?_
      rintro e u18 ⟨rfl, q⟩
      have x_18 := Lib.hid (blk0 x_17.out q)
      have s_18 := Lib.hid (blk0 s_17.out q)
      have q_18 := Lib.hid (blk0 q_17.out q)
      have bk_18 := Lib.hid (blk0 bk_17.out q)
      have gn_18 := Lib.hid (blk0 gn_17.out q)
      have cm_18 := Lib.hid (blk0 cm_17.out q)
      have bd_18 := Lib.hid (blk0 bd_17.out q)
      have B18 := Lib.hid (bel0 B17.out B17.out.size q)
      clear q x_17 s_17 q_17 bk_17 gn_17 cm_17 bd_17 B17
      go_wp2
      go_ret
      exact ⟨rfl, B18.out⟩
theorem auphases_walk (x : W7) (states : Int) (w : World) : Calls Try.prog 13 #[x.val, .int .i64 states] w fun e w' => e = .returned (.bool true) ∧ Below w.heap.size w w' := by
  by_cases h : MayW x
  · exact auphases_yes x states w h
  · exact auphases_no x states w h
end Go.Proofs.Ytplgodfhhlnojaa
