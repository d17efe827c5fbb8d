/- The law AuditOpen, walked (printed by gen20d.py). -/
import Derived.Test.YtplgodfhhlnojaaAuOp0
import Derived.Test.YtplgodfhhlnojaaSagaRF
import Derived.Outline
set_option linter.unusedSimpArgs false
set_option linter.unusedVariables false
namespace Go.Proofs.Ytplgodfhhlnojaa
open Go.RowKit
theorem rnewv {x : W7} {now k : Int} {s : S11} (e : newS x now = (s, k)) (w : World) : Calls Try.prog 33 #[x.val, .int .i64 now] w fun e w' => e = .returned (.tuple #[s.val, .int .i64 k]) ∧ Below w.heap.size w w' := by
  have h := rnew14 x now w
  rw [e] at h
  exact h
set_option maxRecDepth 100000 in
set_option maxHeartbeats 2000000 in
theorem auopen_no (x : W7) (states wrong : Int) (w : World) (h : ¬ MayW x) : Calls Try.prog 14 #[x.val, .int .i64 states, .int .i64 wrong] w fun e w' => e = .returned (.bool true) ∧ Below w.heap.size w w' := by
  obtain ⟨b, c, d, m0, m1, m2, p⟩ := x
  have T0 := Lib.hid told20
  have HN := Lib.hid (fun W => rnewv (show newS ⟨b, c, d, m0, m1, m2, p⟩ 4 = (z11, 1) from by rw [newS, if_neg (fun g => h g.1)]) W)
  unfold W7.val S11.val z11 at HN
  unfold W7.val
  simp only at HN ⊢
  obtain ⟨f1, f3⟩ := one_box w (.cells #[.int .i64 b, .int .i64 c, .int .i64 d, .int .i64 m0, .int .i64 m1, .int .i64 m2, .int .i64 p] 24)
  have x_0 := Lib.hid f1
  have B0 := Lib.hid f3
  clear f1 f3
  go_enter Try.func14, Try.ntmps14
  go_wp2_with (first | (refine wpl_row (by rfl) 24 _ rfl _ rfl _ _ _ _ x_0.out rfl Try.underlying24 (by kernel_rfl) ?_))
  refine (HN.out _).mono ?_
  rintro e w1 ⟨rfl, q⟩
  have x_1 := Lib.hid (blk0 x_0.out q)
  have B1 := Lib.hid (bel0 B0.out B0.out.size q)
  clear q x_0 B0
  go_upto_region 2 with (first | (refine wpl_set rfl 26 _ _ rfl w1.heap.size #[.int .i64 0, .int .i64 0, .int .i64 0, .int .i64 0, .int .i64 0, .int .i64 0, .int .i64 0, .int .i64 0, .int .i64 0, .int .i64 0, .int .i64 0] rfl rfl 26 #[.int .i64 0, .int .i64 0, .int .i64 0, .int .i64 0, .int .i64 0, .int .i64 0, .int .i64 0, .int .i64 0, .int .i64 0, .int .i64 0, .int .i64 0] (heap_alloc_new w1 (.cells #[.int .i64 0, .int .i64 0, .int .i64 0, .int .i64 0, .int .i64 0, .int .i64 0, .int .i64 0, .int .i64 0, .int .i64 0, .int .i64 0, .int .i64 0] 26)) (by kernel_rfl) rfl (by kernel_rfl) ?_; intro w2 hb2 sb2))
  have lt_x_s : w.heap.size < w1.heap.size := lt_size x_1.out
  have x_2 := Lib.hid (sb2.old x_1.out)
  have s_2 := Lib.hid hb2
  have B2 := Lib.hid (sb2.below B1.out B1.out.size)
  clear hb2 sb2 x_1 B1
  clear x_2
  clear s_2
  go_wp2_with fail
  refine (T0.out _).mono ?_
  rintro e w3 ⟨rfl, q⟩
  have B3 := Lib.hid (bel0 B2.out B2.out.size q)
  clear q B2
  go_wp2
  go_ret
  exact ⟨rfl, B3.out⟩
set_option maxRecDepth 100000 in
set_option maxHeartbeats 16000000 in
theorem auopen_yes (x : W7) (states wrong : Int) (w : World) (h : MayW x) : Calls Try.prog 14 #[x.val, .int .i64 states, .int .i64 wrong] w fun e w' => e = .returned (.bool true) ∧ Below w.heap.size w w' := by
  obtain ⟨b, c, d, m0, m1, m2, p⟩ := x
  obtain ⟨kv, hkv⟩ : ∃ k, bits .and .i64 states 65535 = k := ⟨_, rfl⟩
  have bk : 0 ≤ kv ∧ kv ≤ 65535 := by rw [i64_and16] at hkv; omega
  have T0 := Lib.hid told20
  have HN := Lib.hid (fun W => rnewv (show newS ⟨b, c, d, m0, m1, m2, p⟩ 4 = (⟨⟨b, c, d, m0, m1, m2, p⟩, 1, 0, 0, 4⟩, 0) from by rw [newS, if_pos ⟨h, by omega, by omega⟩]) W)
  unfold W7.val S11.val at HN
  unfold W7.val
  simp only at HN ⊢
  have HX := Lib.hid h
  obtain ⟨⟨⟨l0, g0⟩, ⟨l1, g1⟩, l2, g2⟩, _, _, ⟨lc, gc⟩, _, lp, gp⟩ := h
  simp only at l0 g0 l1 g1 l2 g2 lc gc lp gp
  obtain ⟨f1, f3⟩ := one_box w (.cells #[.int .i64 b, .int .i64 c, .int .i64 d, .int .i64 m0, .int .i64 m1, .int .i64 m2, .int .i64 p] 24)
  have x_0 := Lib.hid f1
  have B0 := Lib.hid f3
  clear f1 f3
  go_enter Try.func14, Try.ntmps14
  go_wp2_with (first | (refine wpl_row (by rfl) 24 _ rfl _ rfl _ _ _ _ x_0.out rfl Try.underlying24 (by kernel_rfl) ?_))
  refine (HN.out _).mono ?_
  rintro e w1 ⟨rfl, q⟩
  have x_1 := Lib.hid (blk0 x_0.out q)
  have B1 := Lib.hid (bel0 B0.out B0.out.size q)
  clear q x_0 B0
  go_upto_region 2 with (first | (refine wpl_set rfl 26 _ _ rfl w1.heap.size #[.int .i64 b, .int .i64 c, .int .i64 d, .int .i64 m0, .int .i64 m1, .int .i64 m2, .int .i64 p, .int .i64 1, .int .i64 0, .int .i64 0, .int .i64 4] rfl rfl 26 #[.int .i64 0, .int .i64 0, .int .i64 0, .int .i64 0, .int .i64 0, .int .i64 0, .int .i64 0, .int .i64 0, .int .i64 0, .int .i64 0, .int .i64 0] (heap_alloc_new w1 (.cells #[.int .i64 0, .int .i64 0, .int .i64 0, .int .i64 0, .int .i64 0, .int .i64 0, .int .i64 0, .int .i64 0, .int .i64 0, .int .i64 0, .int .i64 0] 26)) (by kernel_rfl) rfl (by kernel_rfl) ?_; intro w2 hb2 sb2))
  have lt_x_s : w.heap.size < w1.heap.size := lt_size x_1.out
  have x_2 := Lib.hid (sb2.old x_1.out)
  have s_2 := Lib.hid hb2
  have B2 := Lib.hid (sb2.below B1.out B1.out.size)
  clear hb2 sb2 x_1 B1
  go_upto_region 5 with fail
  have lt_x_q : w.heap.size < w2.heap.size := lt_size x_2.out
  have lt_s_q : w1.heap.size < w2.heap.size := lt_size s_2.out
  have x_3 : Hid ((w2.alloc (.cells #[.int .i64 0, .int .i64 0, .int .i64 0, .int .i64 0, .int .i64 0, .int .i64 0, .int .i64 0, .int .i64 0, .int .i64 0, .int .i64 0, .int .i64 0, .int .i64 0, .int .i64 0, .int .i64 0, .int .i64 0, .int .i64 0, .int .i64 0, .int .i64 0, .int .i64 0, .int .i64 0] 68)).heap[w.heap.size]? = some (.cells #[.int .i64 b, .int .i64 c, .int .i64 d, .int .i64 m0, .int .i64 m1, .int .i64 m2, .int .i64 p] 24 (0, 0))) := Lib.hid (alc x_2.out)
  have s_3 : Hid ((w2.alloc (.cells #[.int .i64 0, .int .i64 0, .int .i64 0, .int .i64 0, .int .i64 0, .int .i64 0, .int .i64 0, .int .i64 0, .int .i64 0, .int .i64 0, .int .i64 0, .int .i64 0, .int .i64 0, .int .i64 0, .int .i64 0, .int .i64 0, .int .i64 0, .int .i64 0, .int .i64 0, .int .i64 0] 68)).heap[w1.heap.size]? = some (.cells #[.int .i64 b, .int .i64 c, .int .i64 d, .int .i64 m0, .int .i64 m1, .int .i64 m2, .int .i64 p, .int .i64 1, .int .i64 0, .int .i64 0, .int .i64 4] 26 (0, 0))) := Lib.hid (alc s_2.out)
  have q_3 : Hid ((w2.alloc (.cells #[.int .i64 0, .int .i64 0, .int .i64 0, .int .i64 0, .int .i64 0, .int .i64 0, .int .i64 0, .int .i64 0, .int .i64 0, .int .i64 0, .int .i64 0, .int .i64 0, .int .i64 0, .int .i64 0, .int .i64 0, .int .i64 0, .int .i64 0, .int .i64 0, .int .i64 0, .int .i64 0] 68)).heap[w2.heap.size]? = some (.cells #[.int .i64 0, .int .i64 0, .int .i64 0, .int .i64 0, .int .i64 0, .int .i64 0, .int .i64 0, .int .i64 0, .int .i64 0, .int .i64 0, .int .i64 0, .int .i64 0, .int .i64 0, .int .i64 0, .int .i64 0, .int .i64 0, .int .i64 0, .int .i64 0, .int .i64 0, .int .i64 0] 68 (0, 0))) := Lib.hid (heap_alloc_new w2 _)
  have B3 : Hid (Below w.heap.size w (w2.alloc (.cells #[.int .i64 0, .int .i64 0, .int .i64 0, .int .i64 0, .int .i64 0, .int .i64 0, .int .i64 0, .int .i64 0, .int .i64 0, .int .i64 0, .int .i64 0, .int .i64 0, .int .i64 0, .int .i64 0, .int .i64 0, .int .i64 0, .int .i64 0, .int .i64 0, .int .i64 0, .int .i64 0] 68))) := Lib.hid (B2.out.alloc B2.out.size _)
  clear x_2 s_2 B2
  generalize (w2.alloc (.cells #[.int .i64 0, .int .i64 0, .int .i64 0, .int .i64 0, .int .i64 0, .int .i64 0, .int .i64 0, .int .i64 0, .int .i64 0, .int .i64 0, .int .i64 0, .int .i64 0, .int .i64 0, .int .i64 0, .int .i64 0, .int .i64 0, .int .i64 0, .int .i64 0, .int .i64 0, .int .i64 0] 68)) = w3 at x_3 s_3 q_3 B3 ⊢
  go_wp2_with fail
  clear hkv
  go_loopw [10, 11, 12] (fun kx bx i wr => ∃ (k : Nat) (kw : Int) (ok : Bool) (t0 u0 t1 u1 t2 u2 : Int), k ≤ 3 ∧ kx = .int .i64 kw ∧ bx = .bool ok ∧ i = .int .i64 k ∧ (0 ≤ kw ∧ kw ≤ 65535) ∧ Hid (OkB k ok m0 m1 m2 t0 u0 t1 u1 t2 u2 ∧ wr.heap[w.heap.size]? = some (.cells #[.int .i64 b, .int .i64 c, .int .i64 d, .int .i64 m0, .int .i64 m1, .int .i64 m2, .int .i64 p] 24 (0, 0)) ∧ wr.heap[w1.heap.size]? = some (.cells #[.int .i64 b, .int .i64 c, .int .i64 d, .int .i64 m0, .int .i64 m1, .int .i64 m2, .int .i64 p, .int .i64 1, .int .i64 0, .int .i64 0, .int .i64 4] 26 (0, 0)) ∧ wr.heap[w2.heap.size]? = some (.cells #[.int .i64 t0, .int .i64 u0, .int .i64 0, .int .i64 0, .int .i64 0, .int .i64 t1, .int .i64 u1, .int .i64 0, .int .i64 0, .int .i64 0, .int .i64 t2, .int .i64 u2, .int .i64 0, .int .i64 0, .int .i64 0, .int .i64 0, .int .i64 0, .int .i64 0, .int .i64 0, .int .i64 0] 68 (0, 0)) ∧ Below w.heap.size w wr)) (fun _ _ i _ => 3 - (intOf i).toNat)
  case atStart => exact ⟨0, kv, true, 0, 0, 0, 0, 0, 0, by omega, rfl, rfl, rfl, bk, Lib.hid ⟨OkB.start, x_3.out, s_3.out, q_3.out, B3.out⟩⟩
  case round =>
    obtain ⟨k, kw, ok, t0, u0, t1, u1, t2, u2, hk, rfl, rfl, rfl, ⟨kw0, kw1⟩, HS⟩ := hrel
    obtain ⟨hv, x0, s0, q0, B0⟩ := HS.out
    have HV := Lib.hid hv
    have x_0 := Lib.hid x0
    have s_0 := Lib.hid s0
    have q_0 := Lib.hid q0
    replace B0 := Lib.hid B0
    clear hv x0 s0 q0 HS x_3 s_3 q_3 B3 bk
    obtain ⟨r, hr⟩ : ∃ r, kw % 4 = r := ⟨_, rfl⟩
    have hrb : bits .and .i64 kw 3 = r := (i64_and3 kw).trans hr
    have hr4 : r = 0 ∨ r = 1 ∨ r = 2 ∨ r = 3 := by omega
    clear hr
    have : k = 0 ∨ k = 1 ∨ k = 2 ∨ k = 3 := by omega
    rcases this with rfl | rfl | rfl | rfl
    · skip
      rcases hr4 with rfl | rfl | rfl | rfl
      · skip
        go_upto_region 12 with fail
        have lt_x_sl : w.heap.size < wr.heap.size := lt_size x_0.out
        have lt_s_sl : w1.heap.size < wr.heap.size := lt_size s_0.out
        have lt_q_sl : w2.heap.size < wr.heap.size := lt_size q_0.out
        have x_1 : Hid ((wr.alloc (.cells #[.int .i64 0, .int .i64 1, .int .i64 2, .int .i64 3] 3)).heap[w.heap.size]? = some (.cells #[.int .i64 b, .int .i64 c, .int .i64 d, .int .i64 m0, .int .i64 m1, .int .i64 m2, .int .i64 p] 24 (0, 0))) := Lib.hid (alc x_0.out)
        have s_1 : Hid ((wr.alloc (.cells #[.int .i64 0, .int .i64 1, .int .i64 2, .int .i64 3] 3)).heap[w1.heap.size]? = some (.cells #[.int .i64 b, .int .i64 c, .int .i64 d, .int .i64 m0, .int .i64 m1, .int .i64 m2, .int .i64 p, .int .i64 1, .int .i64 0, .int .i64 0, .int .i64 4] 26 (0, 0))) := Lib.hid (alc s_0.out)
        have q_1 : Hid ((wr.alloc (.cells #[.int .i64 0, .int .i64 1, .int .i64 2, .int .i64 3] 3)).heap[w2.heap.size]? = some (.cells #[.int .i64 t0, .int .i64 u0, .int .i64 0, .int .i64 0, .int .i64 0, .int .i64 t1, .int .i64 u1, .int .i64 0, .int .i64 0, .int .i64 0, .int .i64 t2, .int .i64 u2, .int .i64 0, .int .i64 0, .int .i64 0, .int .i64 0, .int .i64 0, .int .i64 0, .int .i64 0, .int .i64 0] 68 (0, 0))) := Lib.hid (alc q_0.out)
        have sl_1 : Hid ((wr.alloc (.cells #[.int .i64 0, .int .i64 1, .int .i64 2, .int .i64 3] 3)).heap[wr.heap.size]? = some (.cells #[.int .i64 0, .int .i64 1, .int .i64 2, .int .i64 3] 3 (0, 0))) := Lib.hid (heap_alloc_new wr _)
        have B1 : Hid (Below w.heap.size w (wr.alloc (.cells #[.int .i64 0, .int .i64 1, .int .i64 2, .int .i64 3] 3))) := Lib.hid (B0.out.alloc B0.out.size _)
        clear x_0 s_0 q_0 B0
        generalize (wr.alloc (.cells #[.int .i64 0, .int .i64 1, .int .i64 2, .int .i64 3] 3)) = v1 at x_1 s_1 q_1 sl_1 B1 ⊢
        clear sl_1
        go_upto_region 13 with (first | (refine wpl_put rfl 3 _ _ rfl w2.heap.size 0 _ #[.int .i64 0] rfl rfl rfl 68 #[.int .i64 t0, .int .i64 u0, .int .i64 0, .int .i64 0, .int .i64 0, .int .i64 t1, .int .i64 u1, .int .i64 0, .int .i64 0, .int .i64 0, .int .i64 t2, .int .i64 u2, .int .i64 0, .int .i64 0, .int .i64 0, .int .i64 0, .int .i64 0, .int .i64 0, .int .i64 0, .int .i64 0] q_1.out (by kernel_rfl) #[.int .i64 0, .int .i64 u0, .int .i64 0, .int .i64 0, .int .i64 0, .int .i64 t1, .int .i64 u1, .int .i64 0, .int .i64 0, .int .i64 0, .int .i64 t2, .int .i64 u2, .int .i64 0, .int .i64 0, .int .i64 0, .int .i64 0, .int .i64 0, .int .i64 0, .int .i64 0, .int .i64 0] (by simp [setSeg]) (by simp) (by kernel_rfl) ?_; intro v2 hb2 sb2))
        have x_2 := Lib.hid (sb2.blk x_1.out (by omega))
        have s_2 := Lib.hid (sb2.blk s_1.out (by omega))
        have q_2 := Lib.hid hb2
        have B2 := Lib.hid (sb2.bel B1.out (by omega))
        clear x_1 s_1 q_1 B1 hb2 sb2
        go_wp2_with fail
        go_roundw
        case rel =>
          have hz := HV.out.z0 (by omega)
          obtain ⟨_, hu⟩ := hz
          exact ⟨0 + 1, kw / 4, ok, 0, u0, t1, u1, t2, u2, by omega, rfl, rfl, by first | rfl | go_num, ⟨by omega, by omega⟩, Lib.hid ⟨HV.out.s0 (.inl ⟨by omega, hu⟩), x_2.out, s_2.out, q_2.out, B2.out⟩⟩
        case measure => simp [intOf]
      · skip
        go_upto_region 12 with fail
        have lt_x_sl : w.heap.size < wr.heap.size := lt_size x_0.out
        have lt_s_sl : w1.heap.size < wr.heap.size := lt_size s_0.out
        have lt_q_sl : w2.heap.size < wr.heap.size := lt_size q_0.out
        have x_1 : Hid ((wr.alloc (.cells #[.int .i64 0, .int .i64 1, .int .i64 2, .int .i64 3] 3)).heap[w.heap.size]? = some (.cells #[.int .i64 b, .int .i64 c, .int .i64 d, .int .i64 m0, .int .i64 m1, .int .i64 m2, .int .i64 p] 24 (0, 0))) := Lib.hid (alc x_0.out)
        have s_1 : Hid ((wr.alloc (.cells #[.int .i64 0, .int .i64 1, .int .i64 2, .int .i64 3] 3)).heap[w1.heap.size]? = some (.cells #[.int .i64 b, .int .i64 c, .int .i64 d, .int .i64 m0, .int .i64 m1, .int .i64 m2, .int .i64 p, .int .i64 1, .int .i64 0, .int .i64 0, .int .i64 4] 26 (0, 0))) := Lib.hid (alc s_0.out)
        have q_1 : Hid ((wr.alloc (.cells #[.int .i64 0, .int .i64 1, .int .i64 2, .int .i64 3] 3)).heap[w2.heap.size]? = some (.cells #[.int .i64 t0, .int .i64 u0, .int .i64 0, .int .i64 0, .int .i64 0, .int .i64 t1, .int .i64 u1, .int .i64 0, .int .i64 0, .int .i64 0, .int .i64 t2, .int .i64 u2, .int .i64 0, .int .i64 0, .int .i64 0, .int .i64 0, .int .i64 0, .int .i64 0, .int .i64 0, .int .i64 0] 68 (0, 0))) := Lib.hid (alc q_0.out)
        have sl_1 : Hid ((wr.alloc (.cells #[.int .i64 0, .int .i64 1, .int .i64 2, .int .i64 3] 3)).heap[wr.heap.size]? = some (.cells #[.int .i64 0, .int .i64 1, .int .i64 2, .int .i64 3] 3 (0, 0))) := Lib.hid (heap_alloc_new wr _)
        have B1 : Hid (Below w.heap.size w (wr.alloc (.cells #[.int .i64 0, .int .i64 1, .int .i64 2, .int .i64 3] 3))) := Lib.hid (B0.out.alloc B0.out.size _)
        clear x_0 s_0 q_0 B0
        generalize (wr.alloc (.cells #[.int .i64 0, .int .i64 1, .int .i64 2, .int .i64 3] 3)) = v1 at x_1 s_1 q_1 sl_1 B1 ⊢
        clear sl_1
        go_upto_region 13 with (first | (refine wpl_put rfl 3 _ _ rfl w2.heap.size 0 _ #[.int .i64 1] rfl rfl rfl 68 #[.int .i64 t0, .int .i64 u0, .int .i64 0, .int .i64 0, .int .i64 0, .int .i64 t1, .int .i64 u1, .int .i64 0, .int .i64 0, .int .i64 0, .int .i64 t2, .int .i64 u2, .int .i64 0, .int .i64 0, .int .i64 0, .int .i64 0, .int .i64 0, .int .i64 0, .int .i64 0, .int .i64 0] q_1.out (by kernel_rfl) #[.int .i64 1, .int .i64 u0, .int .i64 0, .int .i64 0, .int .i64 0, .int .i64 t1, .int .i64 u1, .int .i64 0, .int .i64 0, .int .i64 0, .int .i64 t2, .int .i64 u2, .int .i64 0, .int .i64 0, .int .i64 0, .int .i64 0, .int .i64 0, .int .i64 0, .int .i64 0, .int .i64 0] (by simp [setSeg]) (by simp) (by kernel_rfl) ?_; intro v2 hb2 sb2))
        have x_2 := Lib.hid (sb2.blk x_1.out (by omega))
        have s_2 := Lib.hid (sb2.blk s_1.out (by omega))
        have q_2 := Lib.hid hb2
        have B2 := Lib.hid (sb2.bel B1.out (by omega))
        clear x_1 s_1 q_1 B1 hb2 sb2
        have L1_3 : v2.cell? ⟨w.heap.size, 3, none⟩ = some (.int .i64 m0) := (cellsB (i := 3) x_2.out).trans rfl
        go_upto_region 15 with (first | (refine wpl_put rfl 3 _ _ rfl w2.heap.size 1 _ #[.int .i64 m0] rfl rfl rfl 68 #[.int .i64 1, .int .i64 u0, .int .i64 0, .int .i64 0, .int .i64 0, .int .i64 t1, .int .i64 u1, .int .i64 0, .int .i64 0, .int .i64 0, .int .i64 t2, .int .i64 u2, .int .i64 0, .int .i64 0, .int .i64 0, .int .i64 0, .int .i64 0, .int .i64 0, .int .i64 0, .int .i64 0] q_2.out (by kernel_rfl) #[.int .i64 1, .int .i64 m0, .int .i64 0, .int .i64 0, .int .i64 0, .int .i64 t1, .int .i64 u1, .int .i64 0, .int .i64 0, .int .i64 0, .int .i64 t2, .int .i64 u2, .int .i64 0, .int .i64 0, .int .i64 0, .int .i64 0, .int .i64 0, .int .i64 0, .int .i64 0, .int .i64 0] (by simp [setSeg]) (by simp) (by kernel_rfl) ?_; intro v3 hb3 sb3))
        have x_3 := Lib.hid (sb3.blk x_2.out (by omega))
        have s_3 := Lib.hid (sb3.blk s_2.out (by omega))
        have q_3 := Lib.hid hb3
        have B3 := Lib.hid (sb3.bel B2.out (by omega))
        clear x_2 s_2 q_2 B2 hb3 sb3
        clear L1_3
        have L2_1 : v3.cell? ⟨w2.heap.size, 1, none⟩ = some (.int .i64 m0) := (cellsB (i := 1) q_3.out).trans rfl
        go_wp2_with (first | (refine wpl_put rfl 3 _ _ rfl w2.heap.size 1 _ #[.int .i64 (m0 + 1)] rfl rfl rfl 68 #[.int .i64 1, .int .i64 m0, .int .i64 0, .int .i64 0, .int .i64 0, .int .i64 t1, .int .i64 u1, .int .i64 0, .int .i64 0, .int .i64 0, .int .i64 t2, .int .i64 u2, .int .i64 0, .int .i64 0, .int .i64 0, .int .i64 0, .int .i64 0, .int .i64 0, .int .i64 0, .int .i64 0] q_3.out (by kernel_rfl) #[.int .i64 1, .int .i64 (m0 + 1), .int .i64 0, .int .i64 0, .int .i64 0, .int .i64 t1, .int .i64 u1, .int .i64 0, .int .i64 0, .int .i64 0, .int .i64 t2, .int .i64 u2, .int .i64 0, .int .i64 0, .int .i64 0, .int .i64 0, .int .i64 0, .int .i64 0, .int .i64 0, .int .i64 0] (by simp [setSeg]) (by simp) (by kernel_rfl) ?_; intro vz hbz sbz))
        all_goals go_roundw
        all_goals first
          | case rel =>
              first
                | exact ⟨0 + 1, kw / 4, false, 1, m0 + 1, t1, u1, t2, u2, by omega, rfl, rfl, by first | rfl | go_num, ⟨by omega, by omega⟩, Lib.hid ⟨HV.out.b0 ⟨by omega, rfl⟩, sbz.blk x_3.out (by omega), sbz.blk s_3.out (by omega), hbz, sbz.bel B3.out (by omega)⟩⟩
                | exact ⟨0 + 1, kw / 4, ok, 1, m0, t1, u1, t2, u2, by omega, rfl, rfl, by first | rfl | go_num, ⟨by omega, by omega⟩, Lib.hid ⟨HV.out.s0 (.inr ⟨by omega, rfl⟩), x_3.out, s_3.out, q_3.out, B3.out⟩⟩
          | case measure => simp [intOf]
      · skip
        go_upto_region 12 with fail
        have lt_x_sl : w.heap.size < wr.heap.size := lt_size x_0.out
        have lt_s_sl : w1.heap.size < wr.heap.size := lt_size s_0.out
        have lt_q_sl : w2.heap.size < wr.heap.size := lt_size q_0.out
        have x_1 : Hid ((wr.alloc (.cells #[.int .i64 0, .int .i64 1, .int .i64 2, .int .i64 3] 3)).heap[w.heap.size]? = some (.cells #[.int .i64 b, .int .i64 c, .int .i64 d, .int .i64 m0, .int .i64 m1, .int .i64 m2, .int .i64 p] 24 (0, 0))) := Lib.hid (alc x_0.out)
        have s_1 : Hid ((wr.alloc (.cells #[.int .i64 0, .int .i64 1, .int .i64 2, .int .i64 3] 3)).heap[w1.heap.size]? = some (.cells #[.int .i64 b, .int .i64 c, .int .i64 d, .int .i64 m0, .int .i64 m1, .int .i64 m2, .int .i64 p, .int .i64 1, .int .i64 0, .int .i64 0, .int .i64 4] 26 (0, 0))) := Lib.hid (alc s_0.out)
        have q_1 : Hid ((wr.alloc (.cells #[.int .i64 0, .int .i64 1, .int .i64 2, .int .i64 3] 3)).heap[w2.heap.size]? = some (.cells #[.int .i64 t0, .int .i64 u0, .int .i64 0, .int .i64 0, .int .i64 0, .int .i64 t1, .int .i64 u1, .int .i64 0, .int .i64 0, .int .i64 0, .int .i64 t2, .int .i64 u2, .int .i64 0, .int .i64 0, .int .i64 0, .int .i64 0, .int .i64 0, .int .i64 0, .int .i64 0, .int .i64 0] 68 (0, 0))) := Lib.hid (alc q_0.out)
        have sl_1 : Hid ((wr.alloc (.cells #[.int .i64 0, .int .i64 1, .int .i64 2, .int .i64 3] 3)).heap[wr.heap.size]? = some (.cells #[.int .i64 0, .int .i64 1, .int .i64 2, .int .i64 3] 3 (0, 0))) := Lib.hid (heap_alloc_new wr _)
        have B1 : Hid (Below w.heap.size w (wr.alloc (.cells #[.int .i64 0, .int .i64 1, .int .i64 2, .int .i64 3] 3))) := Lib.hid (B0.out.alloc B0.out.size _)
        clear x_0 s_0 q_0 B0
        generalize (wr.alloc (.cells #[.int .i64 0, .int .i64 1, .int .i64 2, .int .i64 3] 3)) = v1 at x_1 s_1 q_1 sl_1 B1 ⊢
        clear sl_1
        go_upto_region 13 with (first | (refine wpl_put rfl 3 _ _ rfl w2.heap.size 0 _ #[.int .i64 2] rfl rfl rfl 68 #[.int .i64 t0, .int .i64 u0, .int .i64 0, .int .i64 0, .int .i64 0, .int .i64 t1, .int .i64 u1, .int .i64 0, .int .i64 0, .int .i64 0, .int .i64 t2, .int .i64 u2, .int .i64 0, .int .i64 0, .int .i64 0, .int .i64 0, .int .i64 0, .int .i64 0, .int .i64 0, .int .i64 0] q_1.out (by kernel_rfl) #[.int .i64 2, .int .i64 u0, .int .i64 0, .int .i64 0, .int .i64 0, .int .i64 t1, .int .i64 u1, .int .i64 0, .int .i64 0, .int .i64 0, .int .i64 t2, .int .i64 u2, .int .i64 0, .int .i64 0, .int .i64 0, .int .i64 0, .int .i64 0, .int .i64 0, .int .i64 0, .int .i64 0] (by simp [setSeg]) (by simp) (by kernel_rfl) ?_; intro v2 hb2 sb2))
        have x_2 := Lib.hid (sb2.blk x_1.out (by omega))
        have s_2 := Lib.hid (sb2.blk s_1.out (by omega))
        have q_2 := Lib.hid hb2
        have B2 := Lib.hid (sb2.bel B1.out (by omega))
        clear x_1 s_1 q_1 B1 hb2 sb2
        have L1_3 : v2.cell? ⟨w.heap.size, 3, none⟩ = some (.int .i64 m0) := (cellsB (i := 3) x_2.out).trans rfl
        go_upto_region 15 with (first | (refine wpl_put rfl 3 _ _ rfl w2.heap.size 1 _ #[.int .i64 m0] rfl rfl rfl 68 #[.int .i64 2, .int .i64 u0, .int .i64 0, .int .i64 0, .int .i64 0, .int .i64 t1, .int .i64 u1, .int .i64 0, .int .i64 0, .int .i64 0, .int .i64 t2, .int .i64 u2, .int .i64 0, .int .i64 0, .int .i64 0, .int .i64 0, .int .i64 0, .int .i64 0, .int .i64 0, .int .i64 0] q_2.out (by kernel_rfl) #[.int .i64 2, .int .i64 m0, .int .i64 0, .int .i64 0, .int .i64 0, .int .i64 t1, .int .i64 u1, .int .i64 0, .int .i64 0, .int .i64 0, .int .i64 t2, .int .i64 u2, .int .i64 0, .int .i64 0, .int .i64 0, .int .i64 0, .int .i64 0, .int .i64 0, .int .i64 0, .int .i64 0] (by simp [setSeg]) (by simp) (by kernel_rfl) ?_; intro v3 hb3 sb3))
        have x_3 := Lib.hid (sb3.blk x_2.out (by omega))
        have s_3 := Lib.hid (sb3.blk s_2.out (by omega))
        have q_3 := Lib.hid hb3
        have B3 := Lib.hid (sb3.bel B2.out (by omega))
        clear x_2 s_2 q_2 B2 hb3 sb3
        clear L1_3
        have L2_1 : v3.cell? ⟨w2.heap.size, 1, none⟩ = some (.int .i64 m0) := (cellsB (i := 1) q_3.out).trans rfl
        go_wp2_with (first | (refine wpl_put rfl 3 _ _ rfl w2.heap.size 1 _ #[.int .i64 (m0 + 1)] rfl rfl rfl 68 #[.int .i64 2, .int .i64 m0, .int .i64 0, .int .i64 0, .int .i64 0, .int .i64 t1, .int .i64 u1, .int .i64 0, .int .i64 0, .int .i64 0, .int .i64 t2, .int .i64 u2, .int .i64 0, .int .i64 0, .int .i64 0, .int .i64 0, .int .i64 0, .int .i64 0, .int .i64 0, .int .i64 0] q_3.out (by kernel_rfl) #[.int .i64 2, .int .i64 (m0 + 1), .int .i64 0, .int .i64 0, .int .i64 0, .int .i64 t1, .int .i64 u1, .int .i64 0, .int .i64 0, .int .i64 0, .int .i64 t2, .int .i64 u2, .int .i64 0, .int .i64 0, .int .i64 0, .int .i64 0, .int .i64 0, .int .i64 0, .int .i64 0, .int .i64 0] (by simp [setSeg]) (by simp) (by kernel_rfl) ?_; intro vz hbz sbz))
        all_goals go_roundw
        all_goals first
          | case rel =>
              first
                | exact ⟨0 + 1, kw / 4, false, 2, m0 + 1, t1, u1, t2, u2, by omega, rfl, rfl, by first | rfl | go_num, ⟨by omega, by omega⟩, Lib.hid ⟨HV.out.b0 ⟨by omega, rfl⟩, sbz.blk x_3.out (by omega), sbz.blk s_3.out (by omega), hbz, sbz.bel B3.out (by omega)⟩⟩
                | exact ⟨0 + 1, kw / 4, ok, 2, m0, t1, u1, t2, u2, by omega, rfl, rfl, by first | rfl | go_num, ⟨by omega, by omega⟩, Lib.hid ⟨HV.out.s0 (.inr ⟨by omega, rfl⟩), x_3.out, s_3.out, q_3.out, B3.out⟩⟩
          | case measure => simp [intOf]
      · skip
        go_upto_region 12 with fail
        have lt_x_sl : w.heap.size < wr.heap.size := lt_size x_0.out
        have lt_s_sl : w1.heap.size < wr.heap.size := lt_size s_0.out
        have lt_q_sl : w2.heap.size < wr.heap.size := lt_size q_0.out
        have x_1 : Hid ((wr.alloc (.cells #[.int .i64 0, .int .i64 1, .int .i64 2, .int .i64 3] 3)).heap[w.heap.size]? = some (.cells #[.int .i64 b, .int .i64 c, .int .i64 d, .int .i64 m0, .int .i64 m1, .int .i64 m2, .int .i64 p] 24 (0, 0))) := Lib.hid (alc x_0.out)
        have s_1 : Hid ((wr.alloc (.cells #[.int .i64 0, .int .i64 1, .int .i64 2, .int .i64 3] 3)).heap[w1.heap.size]? = some (.cells #[.int .i64 b, .int .i64 c, .int .i64 d, .int .i64 m0, .int .i64 m1, .int .i64 m2, .int .i64 p, .int .i64 1, .int .i64 0, .int .i64 0, .int .i64 4] 26 (0, 0))) := Lib.hid (alc s_0.out)
        have q_1 : Hid ((wr.alloc (.cells #[.int .i64 0, .int .i64 1, .int .i64 2, .int .i64 3] 3)).heap[w2.heap.size]? = some (.cells #[.int .i64 t0, .int .i64 u0, .int .i64 0, .int .i64 0, .int .i64 0, .int .i64 t1, .int .i64 u1, .int .i64 0, .int .i64 0, .int .i64 0, .int .i64 t2, .int .i64 u2, .int .i64 0, .int .i64 0, .int .i64 0, .int .i64 0, .int .i64 0, .int .i64 0, .int .i64 0, .int .i64 0] 68 (0, 0))) := Lib.hid (alc q_0.out)
        have sl_1 : Hid ((wr.alloc (.cells #[.int .i64 0, .int .i64 1, .int .i64 2, .int .i64 3] 3)).heap[wr.heap.size]? = some (.cells #[.int .i64 0, .int .i64 1, .int .i64 2, .int .i64 3] 3 (0, 0))) := Lib.hid (heap_alloc_new wr _)
        have B1 : Hid (Below w.heap.size w (wr.alloc (.cells #[.int .i64 0, .int .i64 1, .int .i64 2, .int .i64 3] 3))) := Lib.hid (B0.out.alloc B0.out.size _)
        clear x_0 s_0 q_0 B0
        generalize (wr.alloc (.cells #[.int .i64 0, .int .i64 1, .int .i64 2, .int .i64 3] 3)) = v1 at x_1 s_1 q_1 sl_1 B1 ⊢
        clear sl_1
        go_upto_region 13 with (first | (refine wpl_put rfl 3 _ _ rfl w2.heap.size 0 _ #[.int .i64 3] rfl rfl rfl 68 #[.int .i64 t0, .int .i64 u0, .int .i64 0, .int .i64 0, .int .i64 0, .int .i64 t1, .int .i64 u1, .int .i64 0, .int .i64 0, .int .i64 0, .int .i64 t2, .int .i64 u2, .int .i64 0, .int .i64 0, .int .i64 0, .int .i64 0, .int .i64 0, .int .i64 0, .int .i64 0, .int .i64 0] q_1.out (by kernel_rfl) #[.int .i64 3, .int .i64 u0, .int .i64 0, .int .i64 0, .int .i64 0, .int .i64 t1, .int .i64 u1, .int .i64 0, .int .i64 0, .int .i64 0, .int .i64 t2, .int .i64 u2, .int .i64 0, .int .i64 0, .int .i64 0, .int .i64 0, .int .i64 0, .int .i64 0, .int .i64 0, .int .i64 0] (by simp [setSeg]) (by simp) (by kernel_rfl) ?_; intro v2 hb2 sb2))
        have x_2 := Lib.hid (sb2.blk x_1.out (by omega))
        have s_2 := Lib.hid (sb2.blk s_1.out (by omega))
        have q_2 := Lib.hid hb2
        have B2 := Lib.hid (sb2.bel B1.out (by omega))
        clear x_1 s_1 q_1 B1 hb2 sb2
        go_wp2_with fail
        go_roundw
        case rel =>
          have hz := HV.out.z0 (by omega)
          obtain ⟨_, hu⟩ := hz
          exact ⟨0 + 1, kw / 4, ok, 3, u0, t1, u1, t2, u2, by omega, rfl, rfl, by first | rfl | go_num, ⟨by omega, by omega⟩, Lib.hid ⟨HV.out.s0 (.inl ⟨by omega, hu⟩), x_2.out, s_2.out, q_2.out, B2.out⟩⟩
        case measure => simp [intOf]
    · skip
      rcases hr4 with rfl | rfl | rfl | rfl
      · skip
        go_upto_region 12 with fail
        have lt_x_sl : w.heap.size < wr.heap.size := lt_size x_0.out
        have lt_s_sl : w1.heap.size < wr.heap.size := lt_size s_0.out
        have lt_q_sl : w2.heap.size < wr.heap.size := lt_size q_0.out
        have x_1 : Hid ((wr.alloc (.cells #[.int .i64 0, .int .i64 1, .int .i64 2, .int .i64 3] 3)).heap[w.heap.size]? = some (.cells #[.int .i64 b, .int .i64 c, .int .i64 d, .int .i64 m0, .int .i64 m1, .int .i64 m2, .int .i64 p] 24 (0, 0))) := Lib.hid (alc x_0.out)
        have s_1 : Hid ((wr.alloc (.cells #[.int .i64 0, .int .i64 1, .int .i64 2, .int .i64 3] 3)).heap[w1.heap.size]? = some (.cells #[.int .i64 b, .int .i64 c, .int .i64 d, .int .i64 m0, .int .i64 m1, .int .i64 m2, .int .i64 p, .int .i64 1, .int .i64 0, .int .i64 0, .int .i64 4] 26 (0, 0))) := Lib.hid (alc s_0.out)
        have q_1 : Hid ((wr.alloc (.cells #[.int .i64 0, .int .i64 1, .int .i64 2, .int .i64 3] 3)).heap[w2.heap.size]? = some (.cells #[.int .i64 t0, .int .i64 u0, .int .i64 0, .int .i64 0, .int .i64 0, .int .i64 t1, .int .i64 u1, .int .i64 0, .int .i64 0, .int .i64 0, .int .i64 t2, .int .i64 u2, .int .i64 0, .int .i64 0, .int .i64 0, .int .i64 0, .int .i64 0, .int .i64 0, .int .i64 0, .int .i64 0] 68 (0, 0))) := Lib.hid (alc q_0.out)
        have sl_1 : Hid ((wr.alloc (.cells #[.int .i64 0, .int .i64 1, .int .i64 2, .int .i64 3] 3)).heap[wr.heap.size]? = some (.cells #[.int .i64 0, .int .i64 1, .int .i64 2, .int .i64 3] 3 (0, 0))) := Lib.hid (heap_alloc_new wr _)
        have B1 : Hid (Below w.heap.size w (wr.alloc (.cells #[.int .i64 0, .int .i64 1, .int .i64 2, .int .i64 3] 3))) := Lib.hid (B0.out.alloc B0.out.size _)
        clear x_0 s_0 q_0 B0
        generalize (wr.alloc (.cells #[.int .i64 0, .int .i64 1, .int .i64 2, .int .i64 3] 3)) = v1 at x_1 s_1 q_1 sl_1 B1 ⊢
        clear sl_1
        go_upto_region 13 with (first | (refine wpl_put rfl 3 _ _ rfl w2.heap.size 5 _ #[.int .i64 0] rfl rfl rfl 68 #[.int .i64 t0, .int .i64 u0, .int .i64 0, .int .i64 0, .int .i64 0, .int .i64 t1, .int .i64 u1, .int .i64 0, .int .i64 0, .int .i64 0, .int .i64 t2, .int .i64 u2, .int .i64 0, .int .i64 0, .int .i64 0, .int .i64 0, .int .i64 0, .int .i64 0, .int .i64 0, .int .i64 0] q_1.out (by kernel_rfl) #[.int .i64 t0, .int .i64 u0, .int .i64 0, .int .i64 0, .int .i64 0, .int .i64 0, .int .i64 u1, .int .i64 0, .int .i64 0, .int .i64 0, .int .i64 t2, .int .i64 u2, .int .i64 0, .int .i64 0, .int .i64 0, .int .i64 0, .int .i64 0, .int .i64 0, .int .i64 0, .int .i64 0] (by simp [setSeg]) (by simp) (by kernel_rfl) ?_; intro v2 hb2 sb2))
        have x_2 := Lib.hid (sb2.blk x_1.out (by omega))
        have s_2 := Lib.hid (sb2.blk s_1.out (by omega))
        have q_2 := Lib.hid hb2
        have B2 := Lib.hid (sb2.bel B1.out (by omega))
        clear x_1 s_1 q_1 B1 hb2 sb2
        go_wp2_with fail
        go_roundw
        case rel =>
          have hz := HV.out.z1 (by omega)
          obtain ⟨_, hu⟩ := hz
          exact ⟨1 + 1, kw / 4, ok, t0, u0, 0, u1, t2, u2, by omega, rfl, rfl, by first | rfl | go_num, ⟨by omega, by omega⟩, Lib.hid ⟨HV.out.s1 (.inl ⟨by omega, hu⟩), x_2.out, s_2.out, q_2.out, B2.out⟩⟩
        case measure => simp [intOf]
      · skip
        go_upto_region 12 with fail
        have lt_x_sl : w.heap.size < wr.heap.size := lt_size x_0.out
        have lt_s_sl : w1.heap.size < wr.heap.size := lt_size s_0.out
        have lt_q_sl : w2.heap.size < wr.heap.size := lt_size q_0.out
        have x_1 : Hid ((wr.alloc (.cells #[.int .i64 0, .int .i64 1, .int .i64 2, .int .i64 3] 3)).heap[w.heap.size]? = some (.cells #[.int .i64 b, .int .i64 c, .int .i64 d, .int .i64 m0, .int .i64 m1, .int .i64 m2, .int .i64 p] 24 (0, 0))) := Lib.hid (alc x_0.out)
        have s_1 : Hid ((wr.alloc (.cells #[.int .i64 0, .int .i64 1, .int .i64 2, .int .i64 3] 3)).heap[w1.heap.size]? = some (.cells #[.int .i64 b, .int .i64 c, .int .i64 d, .int .i64 m0, .int .i64 m1, .int .i64 m2, .int .i64 p, .int .i64 1, .int .i64 0, .int .i64 0, .int .i64 4] 26 (0, 0))) := Lib.hid (alc s_0.out)
        have q_1 : Hid ((wr.alloc (.cells #[.int .i64 0, .int .i64 1, .int .i64 2, .int .i64 3] 3)).heap[w2.heap.size]? = some (.cells #[.int .i64 t0, .int .i64 u0, .int .i64 0, .int .i64 0, .int .i64 0, .int .i64 t1, .int .i64 u1, .int .i64 0, .int .i64 0, .int .i64 0, .int .i64 t2, .int .i64 u2, .int .i64 0, .int .i64 0, .int .i64 0, .int .i64 0, .int .i64 0, .int .i64 0, .int .i64 0, .int .i64 0] 68 (0, 0))) := Lib.hid (alc q_0.out)
        have sl_1 : Hid ((wr.alloc (.cells #[.int .i64 0, .int .i64 1, .int .i64 2, .int .i64 3] 3)).heap[wr.heap.size]? = some (.cells #[.int .i64 0, .int .i64 1, .int .i64 2, .int .i64 3] 3 (0, 0))) := Lib.hid (heap_alloc_new wr _)
        have B1 : Hid (Below w.heap.size w (wr.alloc (.cells #[.int .i64 0, .int .i64 1, .int .i64 2, .int .i64 3] 3))) := Lib.hid (B0.out.alloc B0.out.size _)
        clear x_0 s_0 q_0 B0
        generalize (wr.alloc (.cells #[.int .i64 0, .int .i64 1, .int .i64 2, .int .i64 3] 3)) = v1 at x_1 s_1 q_1 sl_1 B1 ⊢
        clear sl_1
        go_upto_region 13 with (first | (refine wpl_put rfl 3 _ _ rfl w2.heap.size 5 _ #[.int .i64 1] rfl rfl rfl 68 #[.int .i64 t0, .int .i64 u0, .int .i64 0, .int .i64 0, .int .i64 0, .int .i64 t1, .int .i64 u1, .int .i64 0, .int .i64 0, .int .i64 0, .int .i64 t2, .int .i64 u2, .int .i64 0, .int .i64 0, .int .i64 0, .int .i64 0, .int .i64 0, .int .i64 0, .int .i64 0, .int .i64 0] q_1.out (by kernel_rfl) #[.int .i64 t0, .int .i64 u0, .int .i64 0, .int .i64 0, .int .i64 0, .int .i64 1, .int .i64 u1, .int .i64 0, .int .i64 0, .int .i64 0, .int .i64 t2, .int .i64 u2, .int .i64 0, .int .i64 0, .int .i64 0, .int .i64 0, .int .i64 0, .int .i64 0, .int .i64 0, .int .i64 0] (by simp [setSeg]) (by simp) (by kernel_rfl) ?_; intro v2 hb2 sb2))
        have x_2 := Lib.hid (sb2.blk x_1.out (by omega))
        have s_2 := Lib.hid (sb2.blk s_1.out (by omega))
        have q_2 := Lib.hid hb2
        have B2 := Lib.hid (sb2.bel B1.out (by omega))
        clear x_1 s_1 q_1 B1 hb2 sb2
        have L1_4 : v2.cell? ⟨w.heap.size, 4, none⟩ = some (.int .i64 m1) := (cellsB (i := 4) x_2.out).trans rfl
        go_upto_region 15 with (first | (refine wpl_put rfl 3 _ _ rfl w2.heap.size 6 _ #[.int .i64 m1] rfl rfl rfl 68 #[.int .i64 t0, .int .i64 u0, .int .i64 0, .int .i64 0, .int .i64 0, .int .i64 1, .int .i64 u1, .int .i64 0, .int .i64 0, .int .i64 0, .int .i64 t2, .int .i64 u2, .int .i64 0, .int .i64 0, .int .i64 0, .int .i64 0, .int .i64 0, .int .i64 0, .int .i64 0, .int .i64 0] q_2.out (by kernel_rfl) #[.int .i64 t0, .int .i64 u0, .int .i64 0, .int .i64 0, .int .i64 0, .int .i64 1, .int .i64 m1, .int .i64 0, .int .i64 0, .int .i64 0, .int .i64 t2, .int .i64 u2, .int .i64 0, .int .i64 0, .int .i64 0, .int .i64 0, .int .i64 0, .int .i64 0, .int .i64 0, .int .i64 0] (by simp [setSeg]) (by simp) (by kernel_rfl) ?_; intro v3 hb3 sb3))
        have x_3 := Lib.hid (sb3.blk x_2.out (by omega))
        have s_3 := Lib.hid (sb3.blk s_2.out (by omega))
        have q_3 := Lib.hid hb3
        have B3 := Lib.hid (sb3.bel B2.out (by omega))
        clear x_2 s_2 q_2 B2 hb3 sb3
        clear L1_4
        have L2_6 : v3.cell? ⟨w2.heap.size, 6, none⟩ = some (.int .i64 m1) := (cellsB (i := 6) q_3.out).trans rfl
        go_wp2_with (first | (refine wpl_put rfl 3 _ _ rfl w2.heap.size 6 _ #[.int .i64 (m1 + 1)] rfl rfl rfl 68 #[.int .i64 t0, .int .i64 u0, .int .i64 0, .int .i64 0, .int .i64 0, .int .i64 1, .int .i64 m1, .int .i64 0, .int .i64 0, .int .i64 0, .int .i64 t2, .int .i64 u2, .int .i64 0, .int .i64 0, .int .i64 0, .int .i64 0, .int .i64 0, .int .i64 0, .int .i64 0, .int .i64 0] q_3.out (by kernel_rfl) #[.int .i64 t0, .int .i64 u0, .int .i64 0, .int .i64 0, .int .i64 0, .int .i64 1, .int .i64 (m1 + 1), .int .i64 0, .int .i64 0, .int .i64 0, .int .i64 t2, .int .i64 u2, .int .i64 0, .int .i64 0, .int .i64 0, .int .i64 0, .int .i64 0, .int .i64 0, .int .i64 0, .int .i64 0] (by simp [setSeg]) (by simp) (by kernel_rfl) ?_; intro vz hbz sbz))
        all_goals go_roundw
        all_goals first
          | case rel =>
              first
                | exact ⟨1 + 1, kw / 4, false, t0, u0, 1, m1 + 1, t2, u2, by omega, rfl, rfl, by first | rfl | go_num, ⟨by omega, by omega⟩, Lib.hid ⟨HV.out.b1 ⟨by omega, rfl⟩, sbz.blk x_3.out (by omega), sbz.blk s_3.out (by omega), hbz, sbz.bel B3.out (by omega)⟩⟩
                | exact ⟨1 + 1, kw / 4, ok, t0, u0, 1, m1, t2, u2, by omega, rfl, rfl, by first | rfl | go_num, ⟨by omega, by omega⟩, Lib.hid ⟨HV.out.s1 (.inr ⟨by omega, rfl⟩), x_3.out, s_3.out, q_3.out, B3.out⟩⟩
          | case measure => simp [intOf]
      · skip
        go_upto_region 12 with fail
        have lt_x_sl : w.heap.size < wr.heap.size := lt_size x_0.out
        have lt_s_sl : w1.heap.size < wr.heap.size := lt_size s_0.out
        have lt_q_sl : w2.heap.size < wr.heap.size := lt_size q_0.out
        have x_1 : Hid ((wr.alloc (.cells #[.int .i64 0, .int .i64 1, .int .i64 2, .int .i64 3] 3)).heap[w.heap.size]? = some (.cells #[.int .i64 b, .int .i64 c, .int .i64 d, .int .i64 m0, .int .i64 m1, .int .i64 m2, .int .i64 p] 24 (0, 0))) := Lib.hid (alc x_0.out)
        have s_1 : Hid ((wr.alloc (.cells #[.int .i64 0, .int .i64 1, .int .i64 2, .int .i64 3] 3)).heap[w1.heap.size]? = some (.cells #[.int .i64 b, .int .i64 c, .int .i64 d, .int .i64 m0, .int .i64 m1, .int .i64 m2, .int .i64 p, .int .i64 1, .int .i64 0, .int .i64 0, .int .i64 4] 26 (0, 0))) := Lib.hid (alc s_0.out)
        have q_1 : Hid ((wr.alloc (.cells #[.int .i64 0, .int .i64 1, .int .i64 2, .int .i64 3] 3)).heap[w2.heap.size]? = some (.cells #[.int .i64 t0, .int .i64 u0, .int .i64 0, .int .i64 0, .int .i64 0, .int .i64 t1, .int .i64 u1, .int .i64 0, .int .i64 0, .int .i64 0, .int .i64 t2, .int .i64 u2, .int .i64 0, .int .i64 0, .int .i64 0, .int .i64 0, .int .i64 0, .int .i64 0, .int .i64 0, .int .i64 0] 68 (0, 0))) := Lib.hid (alc q_0.out)
        have sl_1 : Hid ((wr.alloc (.cells #[.int .i64 0, .int .i64 1, .int .i64 2, .int .i64 3] 3)).heap[wr.heap.size]? = some (.cells #[.int .i64 0, .int .i64 1, .int .i64 2, .int .i64 3] 3 (0, 0))) := Lib.hid (heap_alloc_new wr _)
        have B1 : Hid (Below w.heap.size w (wr.alloc (.cells #[.int .i64 0, .int .i64 1, .int .i64 2, .int .i64 3] 3))) := Lib.hid (B0.out.alloc B0.out.size _)
        clear x_0 s_0 q_0 B0
        generalize (wr.alloc (.cells #[.int .i64 0, .int .i64 1, .int .i64 2, .int .i64 3] 3)) = v1 at x_1 s_1 q_1 sl_1 B1 ⊢
        clear sl_1
        go_upto_region 13 with (first | (refine wpl_put rfl 3 _ _ rfl w2.heap.size 5 _ #[.int .i64 2] rfl rfl rfl 68 #[.int .i64 t0, .int .i64 u0, .int .i64 0, .int .i64 0, .int .i64 0, .int .i64 t1, .int .i64 u1, .int .i64 0, .int .i64 0, .int .i64 0, .int .i64 t2, .int .i64 u2, .int .i64 0, .int .i64 0, .int .i64 0, .int .i64 0, .int .i64 0, .int .i64 0, .int .i64 0, .int .i64 0] q_1.out (by kernel_rfl) #[.int .i64 t0, .int .i64 u0, .int .i64 0, .int .i64 0, .int .i64 0, .int .i64 2, .int .i64 u1, .int .i64 0, .int .i64 0, .int .i64 0, .int .i64 t2, .int .i64 u2, .int .i64 0, .int .i64 0, .int .i64 0, .int .i64 0, .int .i64 0, .int .i64 0, .int .i64 0, .int .i64 0] (by simp [setSeg]) (by simp) (by kernel_rfl) ?_; intro v2 hb2 sb2))
        have x_2 := Lib.hid (sb2.blk x_1.out (by omega))
        have s_2 := Lib.hid (sb2.blk s_1.out (by omega))
        have q_2 := Lib.hid hb2
        have B2 := Lib.hid (sb2.bel B1.out (by omega))
        clear x_1 s_1 q_1 B1 hb2 sb2
        have L1_4 : v2.cell? ⟨w.heap.size, 4, none⟩ = some (.int .i64 m1) := (cellsB (i := 4) x_2.out).trans rfl
        go_upto_region 15 with (first | (refine wpl_put rfl 3 _ _ rfl w2.heap.size 6 _ #[.int .i64 m1] rfl rfl rfl 68 #[.int .i64 t0, .int .i64 u0, .int .i64 0, .int .i64 0, .int .i64 0, .int .i64 2, .int .i64 u1, .int .i64 0, .int .i64 0, .int .i64 0, .int .i64 t2, .int .i64 u2, .int .i64 0, .int .i64 0, .int .i64 0, .int .i64 0, .int .i64 0, .int .i64 0, .int .i64 0, .int .i64 0] q_2.out (by kernel_rfl) #[.int .i64 t0, .int .i64 u0, .int .i64 0, .int .i64 0, .int .i64 0, .int .i64 2, .int .i64 m1, .int .i64 0, .int .i64 0, .int .i64 0, .int .i64 t2, .int .i64 u2, .int .i64 0, .int .i64 0, .int .i64 0, .int .i64 0, .int .i64 0, .int .i64 0, .int .i64 0, .int .i64 0] (by simp [setSeg]) (by simp) (by kernel_rfl) ?_; intro v3 hb3 sb3))
        have x_3 := Lib.hid (sb3.blk x_2.out (by omega))
        have s_3 := Lib.hid (sb3.blk s_2.out (by omega))
        have q_3 := Lib.hid hb3
        have B3 := Lib.hid (sb3.bel B2.out (by omega))
        clear x_2 s_2 q_2 B2 hb3 sb3
        clear L1_4
        have L2_6 : v3.cell? ⟨w2.heap.size, 6, none⟩ = some (.int .i64 m1) := (cellsB (i := 6) q_3.out).trans rfl
        go_wp2_with (first | (refine wpl_put rfl 3 _ _ rfl w2.heap.size 6 _ #[.int .i64 (m1 + 1)] rfl rfl rfl 68 #[.int .i64 t0, .int .i64 u0, .int .i64 0, .int .i64 0, .int .i64 0, .int .i64 2, .int .i64 m1, .int .i64 0, .int .i64 0, .int .i64 0, .int .i64 t2, .int .i64 u2, .int .i64 0, .int .i64 0, .int .i64 0, .int .i64 0, .int .i64 0, .int .i64 0, .int .i64 0, .int .i64 0] q_3.out (by kernel_rfl) #[.int .i64 t0, .int .i64 u0, .int .i64 0, .int .i64 0, .int .i64 0, .int .i64 2, .int .i64 (m1 + 1), .int .i64 0, .int .i64 0, .int .i64 0, .int .i64 t2, .int .i64 u2, .int .i64 0, .int .i64 0, .int .i64 0, .int .i64 0, .int .i64 0, .int .i64 0, .int .i64 0, .int .i64 0] (by simp [setSeg]) (by simp) (by kernel_rfl) ?_; intro vz hbz sbz))
        all_goals go_roundw
        all_goals first
          | case rel =>
              first
                | exact ⟨1 + 1, kw / 4, false, t0, u0, 2, m1 + 1, t2, u2, by omega, rfl, rfl, by first | rfl | go_num, ⟨by omega, by omega⟩, Lib.hid ⟨HV.out.b1 ⟨by omega, rfl⟩, sbz.blk x_3.out (by omega), sbz.blk s_3.out (by omega), hbz, sbz.bel B3.out (by omega)⟩⟩
                | exact ⟨1 + 1, kw / 4, ok, t0, u0, 2, m1, t2, u2, by omega, rfl, rfl, by first | rfl | go_num, ⟨by omega, by omega⟩, Lib.hid ⟨HV.out.s1 (.inr ⟨by omega, rfl⟩), x_3.out, s_3.out, q_3.out, B3.out⟩⟩
          | case measure => simp [intOf]
      · skip
        go_upto_region 12 with fail
        have lt_x_sl : w.heap.size < wr.heap.size := lt_size x_0.out
        have lt_s_sl : w1.heap.size < wr.heap.size := lt_size s_0.out
        have lt_q_sl : w2.heap.size < wr.heap.size := lt_size q_0.out
        have x_1 : Hid ((wr.alloc (.cells #[.int .i64 0, .int .i64 1, .int .i64 2, .int .i64 3] 3)).heap[w.heap.size]? = some (.cells #[.int .i64 b, .int .i64 c, .int .i64 d, .int .i64 m0, .int .i64 m1, .int .i64 m2, .int .i64 p] 24 (0, 0))) := Lib.hid (alc x_0.out)
        have s_1 : Hid ((wr.alloc (.cells #[.int .i64 0, .int .i64 1, .int .i64 2, .int .i64 3] 3)).heap[w1.heap.size]? = some (.cells #[.int .i64 b, .int .i64 c, .int .i64 d, .int .i64 m0, .int .i64 m1, .int .i64 m2, .int .i64 p, .int .i64 1, .int .i64 0, .int .i64 0, .int .i64 4] 26 (0, 0))) := Lib.hid (alc s_0.out)
        have q_1 : Hid ((wr.alloc (.cells #[.int .i64 0, .int .i64 1, .int .i64 2, .int .i64 3] 3)).heap[w2.heap.size]? = some (.cells #[.int .i64 t0, .int .i64 u0, .int .i64 0, .int .i64 0, .int .i64 0, .int .i64 t1, .int .i64 u1, .int .i64 0, .int .i64 0, .int .i64 0, .int .i64 t2, .int .i64 u2, .int .i64 0, .int .i64 0, .int .i64 0, .int .i64 0, .int .i64 0, .int .i64 0, .int .i64 0, .int .i64 0] 68 (0, 0))) := Lib.hid (alc q_0.out)
        have sl_1 : Hid ((wr.alloc (.cells #[.int .i64 0, .int .i64 1, .int .i64 2, .int .i64 3] 3)).heap[wr.heap.size]? = some (.cells #[.int .i64 0, .int .i64 1, .int .i64 2, .int .i64 3] 3 (0, 0))) := Lib.hid (heap_alloc_new wr _)
        have B1 : Hid (Below w.heap.size w (wr.alloc (.cells #[.int .i64 0, .int .i64 1, .int .i64 2, .int .i64 3] 3))) := Lib.hid (B0.out.alloc B0.out.size _)
        clear x_0 s_0 q_0 B0
        generalize (wr.alloc (.cells #[.int .i64 0, .int .i64 1, .int .i64 2, .int .i64 3] 3)) = v1 at x_1 s_1 q_1 sl_1 B1 ⊢
        clear sl_1
        go_upto_region 13 with (first | (refine wpl_put rfl 3 _ _ rfl w2.heap.size 5 _ #[.int .i64 3] rfl rfl rfl 68 #[.int .i64 t0, .int .i64 u0, .int .i64 0, .int .i64 0, .int .i64 0, .int .i64 t1, .int .i64 u1, .int .i64 0, .int .i64 0, .int .i64 0, .int .i64 t2, .int .i64 u2, .int .i64 0, .int .i64 0, .int .i64 0, .int .i64 0, .int .i64 0, .int .i64 0, .int .i64 0, .int .i64 0] q_1.out (by kernel_rfl) #[.int .i64 t0, .int .i64 u0, .int .i64 0, .int .i64 0, .int .i64 0, .int .i64 3, .int .i64 u1, .int .i64 0, .int .i64 0, .int .i64 0, .int .i64 t2, .int .i64 u2, .int .i64 0, .int .i64 0, .int .i64 0, .int .i64 0, .int .i64 0, .int .i64 0, .int .i64 0, .int .i64 0] (by simp [setSeg]) (by simp) (by kernel_rfl) ?_; intro v2 hb2 sb2))
        have x_2 := Lib.hid (sb2.blk x_1.out (by omega))
        have s_2 := Lib.hid (sb2.blk s_1.out (by omega))
        have q_2 := Lib.hid hb2
        have B2 := Lib.hid (sb2.bel B1.out (by omega))
        clear x_1 s_1 q_1 B1 hb2 sb2
        go_wp2_with fail
        go_roundw
        case rel =>
          have hz := HV.out.z1 (by omega)
          obtain ⟨_, hu⟩ := hz
          exact ⟨1 + 1, kw / 4, ok, t0, u0, 3, u1, t2, u2, by omega, rfl, rfl, by first | rfl | go_num, ⟨by omega, by omega⟩, Lib.hid ⟨HV.out.s1 (.inl ⟨by omega, hu⟩), x_2.out, s_2.out, q_2.out, B2.out⟩⟩
        case measure => simp [intOf]
    · skip
      rcases hr4 with rfl | rfl | rfl | rfl
      · skip
        go_upto_region 12 with fail
        have lt_x_sl : w.heap.size < wr.heap.size := lt_size x_0.out
        have lt_s_sl : w1.heap.size < wr.heap.size := lt_size s_0.out
        have lt_q_sl : w2.heap.size < wr.heap.size := lt_size q_0.out
        have x_1 : Hid ((wr.alloc (.cells #[.int .i64 0, .int .i64 1, .int .i64 2, .int .i64 3] 3)).heap[w.heap.size]? = some (.cells #[.int .i64 b, .int .i64 c, .int .i64 d, .int .i64 m0, .int .i64 m1, .int .i64 m2, .int .i64 p] 24 (0, 0))) := Lib.hid (alc x_0.out)
        have s_1 : Hid ((wr.alloc (.cells #[.int .i64 0, .int .i64 1, .int .i64 2, .int .i64 3] 3)).heap[w1.heap.size]? = some (.cells #[.int .i64 b, .int .i64 c, .int .i64 d, .int .i64 m0, .int .i64 m1, .int .i64 m2, .int .i64 p, .int .i64 1, .int .i64 0, .int .i64 0, .int .i64 4] 26 (0, 0))) := Lib.hid (alc s_0.out)
        have q_1 : Hid ((wr.alloc (.cells #[.int .i64 0, .int .i64 1, .int .i64 2, .int .i64 3] 3)).heap[w2.heap.size]? = some (.cells #[.int .i64 t0, .int .i64 u0, .int .i64 0, .int .i64 0, .int .i64 0, .int .i64 t1, .int .i64 u1, .int .i64 0, .int .i64 0, .int .i64 0, .int .i64 t2, .int .i64 u2, .int .i64 0, .int .i64 0, .int .i64 0, .int .i64 0, .int .i64 0, .int .i64 0, .int .i64 0, .int .i64 0] 68 (0, 0))) := Lib.hid (alc q_0.out)
        have sl_1 : Hid ((wr.alloc (.cells #[.int .i64 0, .int .i64 1, .int .i64 2, .int .i64 3] 3)).heap[wr.heap.size]? = some (.cells #[.int .i64 0, .int .i64 1, .int .i64 2, .int .i64 3] 3 (0, 0))) := Lib.hid (heap_alloc_new wr _)
        have B1 : Hid (Below w.heap.size w (wr.alloc (.cells #[.int .i64 0, .int .i64 1, .int .i64 2, .int .i64 3] 3))) := Lib.hid (B0.out.alloc B0.out.size _)
        clear x_0 s_0 q_0 B0
        generalize (wr.alloc (.cells #[.int .i64 0, .int .i64 1, .int .i64 2, .int .i64 3] 3)) = v1 at x_1 s_1 q_1 sl_1 B1 ⊢
        clear sl_1
        go_upto_region 13 with (first | (refine wpl_put rfl 3 _ _ rfl w2.heap.size 10 _ #[.int .i64 0] rfl rfl rfl 68 #[.int .i64 t0, .int .i64 u0, .int .i64 0, .int .i64 0, .int .i64 0, .int .i64 t1, .int .i64 u1, .int .i64 0, .int .i64 0, .int .i64 0, .int .i64 t2, .int .i64 u2, .int .i64 0, .int .i64 0, .int .i64 0, .int .i64 0, .int .i64 0, .int .i64 0, .int .i64 0, .int .i64 0] q_1.out (by kernel_rfl) #[.int .i64 t0, .int .i64 u0, .int .i64 0, .int .i64 0, .int .i64 0, .int .i64 t1, .int .i64 u1, .int .i64 0, .int .i64 0, .int .i64 0, .int .i64 0, .int .i64 u2, .int .i64 0, .int .i64 0, .int .i64 0, .int .i64 0, .int .i64 0, .int .i64 0, .int .i64 0, .int .i64 0] (by simp [setSeg]) (by simp) (by kernel_rfl) ?_; intro v2 hb2 sb2))
        have x_2 := Lib.hid (sb2.blk x_1.out (by omega))
        have s_2 := Lib.hid (sb2.blk s_1.out (by omega))
        have q_2 := Lib.hid hb2
        have B2 := Lib.hid (sb2.bel B1.out (by omega))
        clear x_1 s_1 q_1 B1 hb2 sb2
        go_wp2_with fail
        go_roundw
        case rel =>
          have hz := HV.out.z2 (by omega)
          obtain ⟨_, hu⟩ := hz
          exact ⟨2 + 1, kw / 4, ok, t0, u0, t1, u1, 0, u2, by omega, rfl, rfl, by first | rfl | go_num, ⟨by omega, by omega⟩, Lib.hid ⟨HV.out.s2 (.inl ⟨by omega, hu⟩), x_2.out, s_2.out, q_2.out, B2.out⟩⟩
        case measure => simp [intOf]
      · skip
        go_upto_region 12 with fail
        have lt_x_sl : w.heap.size < wr.heap.size := lt_size x_0.out
        have lt_s_sl : w1.heap.size < wr.heap.size := lt_size s_0.out
        have lt_q_sl : w2.heap.size < wr.heap.size := lt_size q_0.out
        have x_1 : Hid ((wr.alloc (.cells #[.int .i64 0, .int .i64 1, .int .i64 2, .int .i64 3] 3)).heap[w.heap.size]? = some (.cells #[.int .i64 b, .int .i64 c, .int .i64 d, .int .i64 m0, .int .i64 m1, .int .i64 m2, .int .i64 p] 24 (0, 0))) := Lib.hid (alc x_0.out)
        have s_1 : Hid ((wr.alloc (.cells #[.int .i64 0, .int .i64 1, .int .i64 2, .int .i64 3] 3)).heap[w1.heap.size]? = some (.cells #[.int .i64 b, .int .i64 c, .int .i64 d, .int .i64 m0, .int .i64 m1, .int .i64 m2, .int .i64 p, .int .i64 1, .int .i64 0, .int .i64 0, .int .i64 4] 26 (0, 0))) := Lib.hid (alc s_0.out)
        have q_1 : Hid ((wr.alloc (.cells #[.int .i64 0, .int .i64 1, .int .i64 2, .int .i64 3] 3)).heap[w2.heap.size]? = some (.cells #[.int .i64 t0, .int .i64 u0, .int .i64 0, .int .i64 0, .int .i64 0, .int .i64 t1, .int .i64 u1, .int .i64 0, .int .i64 0, .int .i64 0, .int .i64 t2, .int .i64 u2, .int .i64 0, .int .i64 0, .int .i64 0, .int .i64 0, .int .i64 0, .int .i64 0, .int .i64 0, .int .i64 0] 68 (0, 0))) := Lib.hid (alc q_0.out)
        have sl_1 : Hid ((wr.alloc (.cells #[.int .i64 0, .int .i64 1, .int .i64 2, .int .i64 3] 3)).heap[wr.heap.size]? = some (.cells #[.int .i64 0, .int .i64 1, .int .i64 2, .int .i64 3] 3 (0, 0))) := Lib.hid (heap_alloc_new wr _)
        have B1 : Hid (Below w.heap.size w (wr.alloc (.cells #[.int .i64 0, .int .i64 1, .int .i64 2, .int .i64 3] 3))) := Lib.hid (B0.out.alloc B0.out.size _)
        clear x_0 s_0 q_0 B0
        generalize (wr.alloc (.cells #[.int .i64 0, .int .i64 1, .int .i64 2, .int .i64 3] 3)) = v1 at x_1 s_1 q_1 sl_1 B1 ⊢
        clear sl_1
        go_upto_region 13 with (first | (refine wpl_put rfl 3 _ _ rfl w2.heap.size 10 _ #[.int .i64 1] rfl rfl rfl 68 #[.int .i64 t0, .int .i64 u0, .int .i64 0, .int .i64 0, .int .i64 0, .int .i64 t1, .int .i64 u1, .int .i64 0, .int .i64 0, .int .i64 0, .int .i64 t2, .int .i64 u2, .int .i64 0, .int .i64 0, .int .i64 0, .int .i64 0, .int .i64 0, .int .i64 0, .int .i64 0, .int .i64 0] q_1.out (by kernel_rfl) #[.int .i64 t0, .int .i64 u0, .int .i64 0, .int .i64 0, .int .i64 0, .int .i64 t1, .int .i64 u1, .int .i64 0, .int .i64 0, .int .i64 0, .int .i64 1, .int .i64 u2, .int .i64 0, .int .i64 0, .int .i64 0, .int .i64 0, .int .i64 0, .int .i64 0, .int .i64 0, .int .i64 0] (by simp [setSeg]) (by simp) (by kernel_rfl) ?_; intro v2 hb2 sb2))
        have x_2 := Lib.hid (sb2.blk x_1.out (by omega))
        have s_2 := Lib.hid (sb2.blk s_1.out (by omega))
        have q_2 := Lib.hid hb2
        have B2 := Lib.hid (sb2.bel B1.out (by omega))
        clear x_1 s_1 q_1 B1 hb2 sb2
        have L1_5 : v2.cell? ⟨w.heap.size, 5, none⟩ = some (.int .i64 m2) := (cellsB (i := 5) x_2.out).trans rfl
        go_upto_region 15 with (first | (refine wpl_put rfl 3 _ _ rfl w2.heap.size 11 _ #[.int .i64 m2] rfl rfl rfl 68 #[.int .i64 t0, .int .i64 u0, .int .i64 0, .int .i64 0, .int .i64 0, .int .i64 t1, .int .i64 u1, .int .i64 0, .int .i64 0, .int .i64 0, .int .i64 1, .int .i64 u2, .int .i64 0, .int .i64 0, .int .i64 0, .int .i64 0, .int .i64 0, .int .i64 0, .int .i64 0, .int .i64 0] q_2.out (by kernel_rfl) #[.int .i64 t0, .int .i64 u0, .int .i64 0, .int .i64 0, .int .i64 0, .int .i64 t1, .int .i64 u1, .int .i64 0, .int .i64 0, .int .i64 0, .int .i64 1, .int .i64 m2, .int .i64 0, .int .i64 0, .int .i64 0, .int .i64 0, .int .i64 0, .int .i64 0, .int .i64 0, .int .i64 0] (by simp [setSeg]) (by simp) (by kernel_rfl) ?_; intro v3 hb3 sb3))
        have x_3 := Lib.hid (sb3.blk x_2.out (by omega))
        have s_3 := Lib.hid (sb3.blk s_2.out (by omega))
        have q_3 := Lib.hid hb3
        have B3 := Lib.hid (sb3.bel B2.out (by omega))
        clear x_2 s_2 q_2 B2 hb3 sb3
        clear L1_5
        have L2_11 : v3.cell? ⟨w2.heap.size, 11, none⟩ = some (.int .i64 m2) := (cellsB (i := 11) q_3.out).trans rfl
        go_wp2_with (first | (refine wpl_put rfl 3 _ _ rfl w2.heap.size 11 _ #[.int .i64 (m2 + 1)] rfl rfl rfl 68 #[.int .i64 t0, .int .i64 u0, .int .i64 0, .int .i64 0, .int .i64 0, .int .i64 t1, .int .i64 u1, .int .i64 0, .int .i64 0, .int .i64 0, .int .i64 1, .int .i64 m2, .int .i64 0, .int .i64 0, .int .i64 0, .int .i64 0, .int .i64 0, .int .i64 0, .int .i64 0, .int .i64 0] q_3.out (by kernel_rfl) #[.int .i64 t0, .int .i64 u0, .int .i64 0, .int .i64 0, .int .i64 0, .int .i64 t1, .int .i64 u1, .int .i64 0, .int .i64 0, .int .i64 0, .int .i64 1, .int .i64 (m2 + 1), .int .i64 0, .int .i64 0, .int .i64 0, .int .i64 0, .int .i64 0, .int .i64 0, .int .i64 0, .int .i64 0] (by simp [setSeg]) (by simp) (by kernel_rfl) ?_; intro vz hbz sbz))
        all_goals go_roundw
        all_goals first
          | case rel =>
              first
                | exact ⟨2 + 1, kw / 4, false, t0, u0, t1, u1, 1, m2 + 1, by omega, rfl, rfl, by first | rfl | go_num, ⟨by omega, by omega⟩, Lib.hid ⟨HV.out.b2 ⟨by omega, rfl⟩, sbz.blk x_3.out (by omega), sbz.blk s_3.out (by omega), hbz, sbz.bel B3.out (by omega)⟩⟩
                | exact ⟨2 + 1, kw / 4, ok, t0, u0, t1, u1, 1, m2, by omega, rfl, rfl, by first | rfl | go_num, ⟨by omega, by omega⟩, Lib.hid ⟨HV.out.s2 (.inr ⟨by omega, rfl⟩), x_3.out, s_3.out, q_3.out, B3.out⟩⟩
          | case measure => simp [intOf]
      · skip
        go_upto_region 12 with fail
        have lt_x_sl : w.heap.size < wr.heap.size := lt_size x_0.out
        have lt_s_sl : w1.heap.size < wr.heap.size := lt_size s_0.out
        have lt_q_sl : w2.heap.size < wr.heap.size := lt_size q_0.out
        have x_1 : Hid ((wr.alloc (.cells #[.int .i64 0, .int .i64 1, .int .i64 2, .int .i64 3] 3)).heap[w.heap.size]? = some (.cells #[.int .i64 b, .int .i64 c, .int .i64 d, .int .i64 m0, .int .i64 m1, .int .i64 m2, .int .i64 p] 24 (0, 0))) := Lib.hid (alc x_0.out)
        have s_1 : Hid ((wr.alloc (.cells #[.int .i64 0, .int .i64 1, .int .i64 2, .int .i64 3] 3)).heap[w1.heap.size]? = some (.cells #[.int .i64 b, .int .i64 c, .int .i64 d, .int .i64 m0, .int .i64 m1, .int .i64 m2, .int .i64 p, .int .i64 1, .int .i64 0, .int .i64 0, .int .i64 4] 26 (0, 0))) := Lib.hid (alc s_0.out)
        have q_1 : Hid ((wr.alloc (.cells #[.int .i64 0, .int .i64 1, .int .i64 2, .int .i64 3] 3)).heap[w2.heap.size]? = some (.cells #[.int .i64 t0, .int .i64 u0, .int .i64 0, .int .i64 0, .int .i64 0, .int .i64 t1, .int .i64 u1, .int .i64 0, .int .i64 0, .int .i64 0, .int .i64 t2, .int .i64 u2, .int .i64 0, .int .i64 0, .int .i64 0, .int .i64 0, .int .i64 0, .int .i64 0, .int .i64 0, .int .i64 0] 68 (0, 0))) := Lib.hid (alc q_0.out)
        have sl_1 : Hid ((wr.alloc (.cells #[.int .i64 0, .int .i64 1, .int .i64 2, .int .i64 3] 3)).heap[wr.heap.size]? = some (.cells #[.int .i64 0, .int .i64 1, .int .i64 2, .int .i64 3] 3 (0, 0))) := Lib.hid (heap_alloc_new wr _)
        have B1 : Hid (Below w.heap.size w (wr.alloc (.cells #[.int .i64 0, .int .i64 1, .int .i64 2, .int .i64 3] 3))) := Lib.hid (B0.out.alloc B0.out.size _)
        clear x_0 s_0 q_0 B0
        generalize (wr.alloc (.cells #[.int .i64 0, .int .i64 1, .int .i64 2, .int .i64 3] 3)) = v1 at x_1 s_1 q_1 sl_1 B1 ⊢
        clear sl_1
        go_upto_region 13 with (first | (refine wpl_put rfl 3 _ _ rfl w2.heap.size 10 _ #[.int .i64 2] rfl rfl rfl 68 #[.int .i64 t0, .int .i64 u0, .int .i64 0, .int .i64 0, .int .i64 0, .int .i64 t1, .int .i64 u1, .int .i64 0, .int .i64 0, .int .i64 0, .int .i64 t2, .int .i64 u2, .int .i64 0, .int .i64 0, .int .i64 0, .int .i64 0, .int .i64 0, .int .i64 0, .int .i64 0, .int .i64 0] q_1.out (by kernel_rfl) #[.int .i64 t0, .int .i64 u0, .int .i64 0, .int .i64 0, .int .i64 0, .int .i64 t1, .int .i64 u1, .int .i64 0, .int .i64 0, .int .i64 0, .int .i64 2, .int .i64 u2, .int .i64 0, .int .i64 0, .int .i64 0, .int .i64 0, .int .i64 0, .int .i64 0, .int .i64 0, .int .i64 0] (by simp [setSeg]) (by simp) (by kernel_rfl) ?_; intro v2 hb2 sb2))
        have x_2 := Lib.hid (sb2.blk x_1.out (by omega))
        have s_2 := Lib.hid (sb2.blk s_1.out (by omega))
        have q_2 := Lib.hid hb2
        have B2 := Lib.hid (sb2.bel B1.out (by omega))
        clear x_1 s_1 q_1 B1 hb2 sb2
        have L1_5 : v2.cell? ⟨w.heap.size, 5, none⟩ = some (.int .i64 m2) := (cellsB (i := 5) x_2.out).trans rfl
        go_upto_region 15 with (first | (refine wpl_put rfl 3 _ _ rfl w2.heap.size 11 _ #[.int .i64 m2] rfl rfl rfl 68 #[.int .i64 t0, .int .i64 u0, .int .i64 0, .int .i64 0, .int .i64 0, .int .i64 t1, .int .i64 u1, .int .i64 0, .int .i64 0, .int .i64 0, .int .i64 2, .int .i64 u2, .int .i64 0, .int .i64 0, .int .i64 0, .int .i64 0, .int .i64 0, .int .i64 0, .int .i64 0, .int .i64 0] q_2.out (by kernel_rfl) #[.int .i64 t0, .int .i64 u0, .int .i64 0, .int .i64 0, .int .i64 0, .int .i64 t1, .int .i64 u1, .int .i64 0, .int .i64 0, .int .i64 0, .int .i64 2, .int .i64 m2, .int .i64 0, .int .i64 0, .int .i64 0, .int .i64 0, .int .i64 0, .int .i64 0, .int .i64 0, .int .i64 0] (by simp [setSeg]) (by simp) (by kernel_rfl) ?_; intro v3 hb3 sb3))
        have x_3 := Lib.hid (sb3.blk x_2.out (by omega))
        have s_3 := Lib.hid (sb3.blk s_2.out (by omega))
        have q_3 := Lib.hid hb3
        have B3 := Lib.hid (sb3.bel B2.out (by omega))
        clear x_2 s_2 q_2 B2 hb3 sb3
        clear L1_5
        have L2_11 : v3.cell? ⟨w2.heap.size, 11, none⟩ = some (.int .i64 m2) := (cellsB (i := 11) q_3.out).trans rfl
        go_wp2_with (first | (refine wpl_put rfl 3 _ _ rfl w2.heap.size 11 _ #[.int .i64 (m2 + 1)] rfl rfl rfl 68 #[.int .i64 t0, .int .i64 u0, .int .i64 0, .int .i64 0, .int .i64 0, .int .i64 t1, .int .i64 u1, .int .i64 0, .int .i64 0, .int .i64 0, .int .i64 2, .int .i64 m2, .int .i64 0, .int .i64 0, .int .i64 0, .int .i64 0, .int .i64 0, .int .i64 0, .int .i64 0, .int .i64 0] q_3.out (by kernel_rfl) #[.int .i64 t0, .int .i64 u0, .int .i64 0, .int .i64 0, .int .i64 0, .int .i64 t1, .int .i64 u1, .int .i64 0, .int .i64 0, .int .i64 0, .int .i64 2, .int .i64 (m2 + 1), .int .i64 0, .int .i64 0, .int .i64 0, .int .i64 0, .int .i64 0, .int .i64 0, .int .i64 0, .int .i64 0] (by simp [setSeg]) (by simp) (by kernel_rfl) ?_; intro vz hbz sbz))
        all_goals go_roundw
        all_goals first
          | case rel =>
              first
                | exact ⟨2 + 1, kw / 4, false, t0, u0, t1, u1, 2, m2 + 1, by omega, rfl, rfl, by first | rfl | go_num, ⟨by omega, by omega⟩, Lib.hid ⟨HV.out.b2 ⟨by omega, rfl⟩, sbz.blk x_3.out (by omega), sbz.blk s_3.out (by omega), hbz, sbz.bel B3.out (by omega)⟩⟩
                | exact ⟨2 + 1, kw / 4, ok, t0, u0, t1, u1, 2, m2, by omega, rfl, rfl, by first | rfl | go_num, ⟨by omega, by omega⟩, Lib.hid ⟨HV.out.s2 (.inr ⟨by omega, rfl⟩), x_3.out, s_3.out, q_3.out, B3.out⟩⟩
          | case measure => simp [intOf]
      · skip
        go_upto_region 12 with fail
        have lt_x_sl : w.heap.size < wr.heap.size := lt_size x_0.out
        have lt_s_sl : w1.heap.size < wr.heap.size := lt_size s_0.out
        have lt_q_sl : w2.heap.size < wr.heap.size := lt_size q_0.out
        have x_1 : Hid ((wr.alloc (.cells #[.int .i64 0, .int .i64 1, .int .i64 2, .int .i64 3] 3)).heap[w.heap.size]? = some (.cells #[.int .i64 b, .int .i64 c, .int .i64 d, .int .i64 m0, .int .i64 m1, .int .i64 m2, .int .i64 p] 24 (0, 0))) := Lib.hid (alc x_0.out)
        have s_1 : Hid ((wr.alloc (.cells #[.int .i64 0, .int .i64 1, .int .i64 2, .int .i64 3] 3)).heap[w1.heap.size]? = some (.cells #[.int .i64 b, .int .i64 c, .int .i64 d, .int .i64 m0, .int .i64 m1, .int .i64 m2, .int .i64 p, .int .i64 1, .int .i64 0, .int .i64 0, .int .i64 4] 26 (0, 0))) := Lib.hid (alc s_0.out)
        have q_1 : Hid ((wr.alloc (.cells #[.int .i64 0, .int .i64 1, .int .i64 2, .int .i64 3] 3)).heap[w2.heap.size]? = some (.cells #[.int .i64 t0, .int .i64 u0, .int .i64 0, .int .i64 0, .int .i64 0, .int .i64 t1, .int .i64 u1, .int .i64 0, .int .i64 0, .int .i64 0, .int .i64 t2, .int .i64 u2, .int .i64 0, .int .i64 0, .int .i64 0, .int .i64 0, .int .i64 0, .int .i64 0, .int .i64 0, .int .i64 0] 68 (0, 0))) := Lib.hid (alc q_0.out)
        have sl_1 : Hid ((wr.alloc (.cells #[.int .i64 0, .int .i64 1, .int .i64 2, .int .i64 3] 3)).heap[wr.heap.size]? = some (.cells #[.int .i64 0, .int .i64 1, .int .i64 2, .int .i64 3] 3 (0, 0))) := Lib.hid (heap_alloc_new wr _)
        have B1 : Hid (Below w.heap.size w (wr.alloc (.cells #[.int .i64 0, .int .i64 1, .int .i64 2, .int .i64 3] 3))) := Lib.hid (B0.out.alloc B0.out.size _)
        clear x_0 s_0 q_0 B0
        generalize (wr.alloc (.cells #[.int .i64 0, .int .i64 1, .int .i64 2, .int .i64 3] 3)) = v1 at x_1 s_1 q_1 sl_1 B1 ⊢
        clear sl_1
        go_upto_region 13 with (first | (refine wpl_put rfl 3 _ _ rfl w2.heap.size 10 _ #[.int .i64 3] rfl rfl rfl 68 #[.int .i64 t0, .int .i64 u0, .int .i64 0, .int .i64 0, .int .i64 0, .int .i64 t1, .int .i64 u1, .int .i64 0, .int .i64 0, .int .i64 0, .int .i64 t2, .int .i64 u2, .int .i64 0, .int .i64 0, .int .i64 0, .int .i64 0, .int .i64 0, .int .i64 0, .int .i64 0, .int .i64 0] q_1.out (by kernel_rfl) #[.int .i64 t0, .int .i64 u0, .int .i64 0, .int .i64 0, .int .i64 0, .int .i64 t1, .int .i64 u1, .int .i64 0, .int .i64 0, .int .i64 0, .int .i64 3, .int .i64 u2, .int .i64 0, .int .i64 0, .int .i64 0, .int .i64 0, .int .i64 0, .int .i64 0, .int .i64 0, .int .i64 0] (by simp [setSeg]) (by simp) (by kernel_rfl) ?_; intro v2 hb2 sb2))
        have x_2 := Lib.hid (sb2.blk x_1.out (by omega))
        have s_2 := Lib.hid (sb2.blk s_1.out (by omega))
        have q_2 := Lib.hid hb2
        have B2 := Lib.hid (sb2.bel B1.out (by omega))
        clear x_1 s_1 q_1 B1 hb2 sb2
        go_wp2_with fail
        go_roundw
        case rel =>
          have hz := HV.out.z2 (by omega)
          obtain ⟨_, hu⟩ := hz
          exact ⟨2 + 1, kw / 4, ok, t0, u0, t1, u1, 3, u2, by omega, rfl, rfl, by first | rfl | go_num, ⟨by omega, by omega⟩, Lib.hid ⟨HV.out.s2 (.inl ⟨by omega, hu⟩), x_2.out, s_2.out, q_2.out, B2.out⟩⟩
        case measure => simp [intOf]
    · skip
      rcases hr4 with rfl | rfl | rfl | rfl
      · skip
        go_upto_region 19 with (first | (refine wpl_put rfl 3 _ _ rfl w2.heap.size 15 _ #[.int .i64 0] rfl rfl rfl 68 #[.int .i64 t0, .int .i64 u0, .int .i64 0, .int .i64 0, .int .i64 0, .int .i64 t1, .int .i64 u1, .int .i64 0, .int .i64 0, .int .i64 0, .int .i64 t2, .int .i64 u2, .int .i64 0, .int .i64 0, .int .i64 0, .int .i64 0, .int .i64 0, .int .i64 0, .int .i64 0, .int .i64 0] (alc (o := (.cells #[.int .i64 0, .int .i64 4, .int .i64 5, .int .i64 3] 3)) q_0.out) (by kernel_rfl) #[.int .i64 t0, .int .i64 u0, .int .i64 0, .int .i64 0, .int .i64 0, .int .i64 t1, .int .i64 u1, .int .i64 0, .int .i64 0, .int .i64 0, .int .i64 t2, .int .i64 u2, .int .i64 0, .int .i64 0, .int .i64 0, .int .i64 0, .int .i64 0, .int .i64 0, .int .i64 0, .int .i64 0] (by simp [setSeg]) (by simp) (by kernel_rfl) ?_; intro v1 hb1 sb1))
        have x_1 := Lib.hid (sb1.blk (alc x_0.out) (by omega))
        have s_1 := Lib.hid (sb1.blk (alc s_0.out) (by omega))
        have q_1 := Lib.hid hb1
        have B1 := Lib.hid (sb1.bel (B0.out.alloc B0.out.size _) (by omega))
        clear x_0 s_0 q_0 B0 hb1 sb1
        cases ok
        · skip
          have L1_15 : v1.cell? ⟨w2.heap.size, 15, none⟩ = some (.int .i64 0) := (cellsB (i := 15) q_1.out).trans rfl
          go_upto_region 25 with fail
          clear L1_15
          have ho := open_is_x (x := ⟨b, c, d, m0, m1, m2, p⟩) (ok := false) (r := false) (t := 0) (c := 0) (a := 0) HV.out (.inl ⟨⟨.inl rfl, rfl, rfl⟩, rfl⟩)
          have R1 := Lib.hid (fun W => right_is (show decide (RightP ⟨⟨b, c, d, m0, m1, m2, p⟩, 1, 0, 0, 4⟩ ⟨⟨t0, u0, 0, 0, 0⟩, ⟨t1, u1, 0, 0, 0⟩, ⟨t2, u2, 0, 0, 0⟩, ⟨0, 0, 0, 0, 0⟩⟩) = false from (decide_eq_decide.2 (op1_iff _ HX.out _)).trans ho) W)
          have R3 := Lib.hid (fun W => right_is (show decide (RightP ⟨⟨b, c, d, m0, m1, m2, p⟩, 3, 0, 1, 4⟩ ⟨⟨t0, u0, 0, 0, 0⟩, ⟨t1, u1, 0, 0, 0⟩, ⟨t2, u2, 0, 0, 0⟩, ⟨0, 0, 0, 0, 0⟩⟩) = false from (decide_eq_decide.2 (op3_iff _ HX.out _)).trans ho) W)
          simp only [W7.val, S11.val, Q4.val] at R1 R3
          clear ho
          go_upto_region 26 with (first | (refine wpl_row (by rfl) 26 _ rfl _ rfl _ _ _ _ s_1.out rfl Try.underlying26 (by kernel_rfl) ?_) | (refine wpl_set rfl 26 _ _ rfl v1.heap.size #[.int .i64 b, .int .i64 c, .int .i64 d, .int .i64 m0, .int .i64 m1, .int .i64 m2, .int .i64 p, .int .i64 1, .int .i64 0, .int .i64 0, .int .i64 4] rfl rfl 26 #[.int .i64 0, .int .i64 0, .int .i64 0, .int .i64 0, .int .i64 0, .int .i64 0, .int .i64 0, .int .i64 0, .int .i64 0, .int .i64 0, .int .i64 0] (heap_alloc_new v1 (.cells #[.int .i64 0, .int .i64 0, .int .i64 0, .int .i64 0, .int .i64 0, .int .i64 0, .int .i64 0, .int .i64 0, .int .i64 0, .int .i64 0, .int .i64 0] 26)) (by kernel_rfl) rfl (by kernel_rfl) ?_; intro v2 hb2 sb2))
          have lt_x_bk : w.heap.size < v1.heap.size := lt_size x_1.out
          have lt_s_bk : w1.heap.size < v1.heap.size := lt_size s_1.out
          have lt_q_bk : w2.heap.size < v1.heap.size := lt_size q_1.out
          have x_2 := Lib.hid (sb2.old x_1.out)
          have s_2 := Lib.hid (sb2.old s_1.out)
          have q_2 := Lib.hid (sb2.old q_1.out)
          have bk_2 := Lib.hid hb2
          have B2 := Lib.hid (sb2.below B1.out B1.out.size)
          clear hb2 sb2 x_1 s_1 q_1 B1
          go_upto_region 27 with (first | (refine wpl_put rfl 3 _ _ rfl v1.heap.size 7 _ #[.int .i64 3] rfl rfl rfl 26 #[.int .i64 b, .int .i64 c, .int .i64 d, .int .i64 m0, .int .i64 m1, .int .i64 m2, .int .i64 p, .int .i64 1, .int .i64 0, .int .i64 0, .int .i64 4] bk_2.out (by kernel_rfl) #[.int .i64 b, .int .i64 c, .int .i64 d, .int .i64 m0, .int .i64 m1, .int .i64 m2, .int .i64 p, .int .i64 3, .int .i64 0, .int .i64 0, .int .i64 4] (by simp [setSeg]) (by simp) (by kernel_rfl) ?_; intro v3 hb3 sb3) | (refine wpl_put rfl 3 _ _ rfl v1.heap.size 9 _ #[.int .i64 1] rfl rfl rfl 26 #[.int .i64 b, .int .i64 c, .int .i64 d, .int .i64 m0, .int .i64 m1, .int .i64 m2, .int .i64 p, .int .i64 3, .int .i64 0, .int .i64 0, .int .i64 4] hb3 (by kernel_rfl) #[.int .i64 b, .int .i64 c, .int .i64 d, .int .i64 m0, .int .i64 m1, .int .i64 m2, .int .i64 p, .int .i64 3, .int .i64 0, .int .i64 1, .int .i64 4] (by simp [setSeg]) (by simp) (by kernel_rfl) ?_; intro v4 hb4 sb4))
          have x_4 := Lib.hid (sb4.blk (sb3.blk x_2.out (by omega)) (by omega))
          have s_4 := Lib.hid (sb4.blk (sb3.blk s_2.out (by omega)) (by omega))
          have q_4 := Lib.hid (sb4.blk (sb3.blk q_2.out (by omega)) (by omega))
          have bk_4 := Lib.hid hb4
          have B4 := Lib.hid (sb4.bel (sb3.bel B2.out (by omega)) (by omega))
          clear x_2 s_2 q_2 bk_2 B2 hb3 sb3 hb4 sb4
          go_wp2_with fail
          refine (T0.out _).mono ?_
          rintro e v5 ⟨rfl, q⟩
          have x_5 := Lib.hid (blk0 x_4.out q)
          have s_5 := Lib.hid (blk0 s_4.out q)
          have q_5 := Lib.hid (blk0 q_4.out q)
          have bk_5 := Lib.hid (blk0 bk_4.out q)
          have B5 := Lib.hid (bel0 B4.out B4.out.size q)
          clear q x_4 s_4 q_4 bk_4 B4
          go_wp2_with (first | (refine wpl_row (by rfl) 26 _ rfl _ rfl _ _ _ _ s_5.out rfl Try.underlying26 (by kernel_rfl) ?_) | (refine wpl_row (by rfl) 68 _ rfl _ rfl _ _ _ _ q_5.out rfl Try.underlying68 (by kernel_rfl) ?_))
          refine (R1.out _).mono ?_
          rintro e v6 ⟨rfl, q⟩
          have x_6 := Lib.hid (blk0 x_5.out q)
          have s_6 := Lib.hid (blk0 s_5.out q)
          have q_6 := Lib.hid (blk0 q_5.out q)
          have bk_6 := Lib.hid (blk0 bk_5.out q)
          have B6 := Lib.hid (bel0 B5.out B5.out.size q)
          clear q x_5 s_5 q_5 bk_5 B5
          go_wp2_with (first | (refine wpl_row (by rfl) 26 _ rfl _ rfl _ _ _ _ bk_6.out rfl Try.underlying26 (by kernel_rfl) ?_) | (refine wpl_row (by rfl) 68 _ rfl _ rfl _ _ _ _ q_6.out rfl Try.underlying68 (by kernel_rfl) ?_))
          refine (R3.out _).mono ?_
          rintro e v7 ⟨rfl, q⟩
          have x_7 := Lib.hid (blk0 x_6.out q)
          have s_7 := Lib.hid (blk0 s_6.out q)
          have q_7 := Lib.hid (blk0 q_6.out q)
          have bk_7 := Lib.hid (blk0 bk_6.out q)
          have B7 := Lib.hid (bel0 B6.out B6.out.size q)
          clear q x_6 s_6 q_6 bk_6 B6
          go_wp2
          go_ret
          exact ⟨rfl, B7.out⟩
        · skip
          have L1_15 : v1.cell? ⟨w2.heap.size, 15, none⟩ = some (.int .i64 0) := (cellsB (i := 15) q_1.out).trans rfl
          go_upto_region 25 with fail
          clear L1_15
          have ho := open_is_x (x := ⟨b, c, d, m0, m1, m2, p⟩) (ok := true) (r := true) (t := 0) (c := 0) (a := 0) HV.out (.inl ⟨⟨.inl rfl, rfl, rfl⟩, rfl⟩)
          have R1 := Lib.hid (fun W => right_is (show decide (RightP ⟨⟨b, c, d, m0, m1, m2, p⟩, 1, 0, 0, 4⟩ ⟨⟨t0, u0, 0, 0, 0⟩, ⟨t1, u1, 0, 0, 0⟩, ⟨t2, u2, 0, 0, 0⟩, ⟨0, 0, 0, 0, 0⟩⟩) = true from (decide_eq_decide.2 (op1_iff _ HX.out _)).trans ho) W)
          have R3 := Lib.hid (fun W => right_is (show decide (RightP ⟨⟨b, c, d, m0, m1, m2, p⟩, 3, 0, 1, 4⟩ ⟨⟨t0, u0, 0, 0, 0⟩, ⟨t1, u1, 0, 0, 0⟩, ⟨t2, u2, 0, 0, 0⟩, ⟨0, 0, 0, 0, 0⟩⟩) = true from (decide_eq_decide.2 (op3_iff _ HX.out _)).trans ho) W)
          simp only [W7.val, S11.val, Q4.val] at R1 R3
          clear ho
          go_upto_region 26 with (first | (refine wpl_row (by rfl) 26 _ rfl _ rfl _ _ _ _ s_1.out rfl Try.underlying26 (by kernel_rfl) ?_) | (refine wpl_set rfl 26 _ _ rfl v1.heap.size #[.int .i64 b, .int .i64 c, .int .i64 d, .int .i64 m0, .int .i64 m1, .int .i64 m2, .int .i64 p, .int .i64 1, .int .i64 0, .int .i64 0, .int .i64 4] rfl rfl 26 #[.int .i64 0, .int .i64 0, .int .i64 0, .int .i64 0, .int .i64 0, .int .i64 0, .int .i64 0, .int .i64 0, .int .i64 0, .int .i64 0, .int .i64 0] (heap_alloc_new v1 (.cells #[.int .i64 0, .int .i64 0, .int .i64 0, .int .i64 0, .int .i64 0, .int .i64 0, .int .i64 0, .int .i64 0, .int .i64 0, .int .i64 0, .int .i64 0] 26)) (by kernel_rfl) rfl (by kernel_rfl) ?_; intro v2 hb2 sb2))
          have lt_x_bk : w.heap.size < v1.heap.size := lt_size x_1.out
          have lt_s_bk : w1.heap.size < v1.heap.size := lt_size s_1.out
          have lt_q_bk : w2.heap.size < v1.heap.size := lt_size q_1.out
          have x_2 := Lib.hid (sb2.old x_1.out)
          have s_2 := Lib.hid (sb2.old s_1.out)
          have q_2 := Lib.hid (sb2.old q_1.out)
          have bk_2 := Lib.hid hb2
          have B2 := Lib.hid (sb2.below B1.out B1.out.size)
          clear hb2 sb2 x_1 s_1 q_1 B1
          go_upto_region 27 with (first | (refine wpl_put rfl 3 _ _ rfl v1.heap.size 7 _ #[.int .i64 3] rfl rfl rfl 26 #[.int .i64 b, .int .i64 c, .int .i64 d, .int .i64 m0, .int .i64 m1, .int .i64 m2, .int .i64 p, .int .i64 1, .int .i64 0, .int .i64 0, .int .i64 4] bk_2.out (by kernel_rfl) #[.int .i64 b, .int .i64 c, .int .i64 d, .int .i64 m0, .int .i64 m1, .int .i64 m2, .int .i64 p, .int .i64 3, .int .i64 0, .int .i64 0, .int .i64 4] (by simp [setSeg]) (by simp) (by kernel_rfl) ?_; intro v3 hb3 sb3) | (refine wpl_put rfl 3 _ _ rfl v1.heap.size 9 _ #[.int .i64 1] rfl rfl rfl 26 #[.int .i64 b, .int .i64 c, .int .i64 d, .int .i64 m0, .int .i64 m1, .int .i64 m2, .int .i64 p, .int .i64 3, .int .i64 0, .int .i64 0, .int .i64 4] hb3 (by kernel_rfl) #[.int .i64 b, .int .i64 c, .int .i64 d, .int .i64 m0, .int .i64 m1, .int .i64 m2, .int .i64 p, .int .i64 3, .int .i64 0, .int .i64 1, .int .i64 4] (by simp [setSeg]) (by simp) (by kernel_rfl) ?_; intro v4 hb4 sb4))
          have x_4 := Lib.hid (sb4.blk (sb3.blk x_2.out (by omega)) (by omega))
          have s_4 := Lib.hid (sb4.blk (sb3.blk s_2.out (by omega)) (by omega))
          have q_4 := Lib.hid (sb4.blk (sb3.blk q_2.out (by omega)) (by omega))
          have bk_4 := Lib.hid hb4
          have B4 := Lib.hid (sb4.bel (sb3.bel B2.out (by omega)) (by omega))
          clear x_2 s_2 q_2 bk_2 B2 hb3 sb3 hb4 sb4
          go_wp2_with fail
          refine (T0.out _).mono ?_
          rintro e v5 ⟨rfl, q⟩
          have x_5 := Lib.hid (blk0 x_4.out q)
          have s_5 := Lib.hid (blk0 s_4.out q)
          have q_5 := Lib.hid (blk0 q_4.out q)
          have bk_5 := Lib.hid (blk0 bk_4.out q)
          have B5 := Lib.hid (bel0 B4.out B4.out.size q)
          clear q x_4 s_4 q_4 bk_4 B4
          go_wp2_with (first | (refine wpl_row (by rfl) 26 _ rfl _ rfl _ _ _ _ s_5.out rfl Try.underlying26 (by kernel_rfl) ?_) | (refine wpl_row (by rfl) 68 _ rfl _ rfl _ _ _ _ q_5.out rfl Try.underlying68 (by kernel_rfl) ?_))
          refine (R1.out _).mono ?_
          rintro e v6 ⟨rfl, q⟩
          have x_6 := Lib.hid (blk0 x_5.out q)
          have s_6 := Lib.hid (blk0 s_5.out q)
          have q_6 := Lib.hid (blk0 q_5.out q)
          have bk_6 := Lib.hid (blk0 bk_5.out q)
          have B6 := Lib.hid (bel0 B5.out B5.out.size q)
          clear q x_5 s_5 q_5 bk_5 B5
          go_wp2_with (first | (refine wpl_row (by rfl) 26 _ rfl _ rfl _ _ _ _ bk_6.out rfl Try.underlying26 (by kernel_rfl) ?_) | (refine wpl_row (by rfl) 68 _ rfl _ rfl _ _ _ _ q_6.out rfl Try.underlying68 (by kernel_rfl) ?_))
          refine (R3.out _).mono ?_
          rintro e v7 ⟨rfl, q⟩
          have x_7 := Lib.hid (blk0 x_6.out q)
          have s_7 := Lib.hid (blk0 s_6.out q)
          have q_7 := Lib.hid (blk0 q_6.out q)
          have bk_7 := Lib.hid (blk0 bk_6.out q)
          have B7 := Lib.hid (bel0 B6.out B6.out.size q)
          clear q x_6 s_6 q_6 bk_6 B6
          go_wp2
          go_ret
          exact ⟨rfl, B7.out⟩
      · skip
        go_upto_region 19 with (first | (refine wpl_put rfl 3 _ _ rfl w2.heap.size 15 _ #[.int .i64 4] rfl rfl rfl 68 #[.int .i64 t0, .int .i64 u0, .int .i64 0, .int .i64 0, .int .i64 0, .int .i64 t1, .int .i64 u1, .int .i64 0, .int .i64 0, .int .i64 0, .int .i64 t2, .int .i64 u2, .int .i64 0, .int .i64 0, .int .i64 0, .int .i64 0, .int .i64 0, .int .i64 0, .int .i64 0, .int .i64 0] (alc (o := (.cells #[.int .i64 0, .int .i64 4, .int .i64 5, .int .i64 3] 3)) q_0.out) (by kernel_rfl) #[.int .i64 t0, .int .i64 u0, .int .i64 0, .int .i64 0, .int .i64 0, .int .i64 t1, .int .i64 u1, .int .i64 0, .int .i64 0, .int .i64 0, .int .i64 t2, .int .i64 u2, .int .i64 0, .int .i64 0, .int .i64 0, .int .i64 4, .int .i64 0, .int .i64 0, .int .i64 0, .int .i64 0] (by simp [setSeg]) (by simp) (by kernel_rfl) ?_; intro v1 hb1 sb1))
        have x_1 := Lib.hid (sb1.blk (alc x_0.out) (by omega))
        have s_1 := Lib.hid (sb1.blk (alc s_0.out) (by omega))
        have q_1 := Lib.hid hb1
        have B1 := Lib.hid (sb1.bel (B0.out.alloc B0.out.size _) (by omega))
        clear x_0 s_0 q_0 B0 hb1 sb1
        have L1_15 : v1.cell? ⟨w2.heap.size, 15, none⟩ = some (.int .i64 4) := (cellsB (i := 15) q_1.out).trans rfl
        go_upto_region 20 with fail
        clear L1_15
        have L2_1 : v1.cell? ⟨w.heap.size, 1, none⟩ = some (.int .i64 c) := (cellsB (i := 1) x_1.out).trans rfl
        have L2_6 : v1.cell? ⟨w.heap.size, 6, none⟩ = some (.int .i64 p) := (cellsB (i := 6) x_1.out).trans rfl
        have L3_18 : v1.cell? ⟨w2.heap.size, 18, none⟩ = some (.int .i64 0) := (cellsB (i := 18) q_1.out).trans rfl
        have F3_18 : v1.frozen? ⟨w2.heap.size, 18, none⟩ = false := frozB q_1.out
        have L3_19 : v1.cell? ⟨w2.heap.size, 19, none⟩ = some (.int .i64 0) := (cellsB (i := 19) q_1.out).trans rfl
        have F3_19 : v1.frozen? ⟨w2.heap.size, 19, none⟩ = false := frozB q_1.out
        go_region
        clear L2_1 L2_6 L3_18 F3_18 L3_19 F3_19
        have q_2 : Hid (((v1.setCell ⟨w2.heap.size, 19, none⟩ (.int .i64 p)).setCell ⟨w2.heap.size, 18, none⟩ (.int .i64 c)).drew.heap[w2.heap.size]? = some (.cells #[.int .i64 t0, .int .i64 u0, .int .i64 0, .int .i64 0, .int .i64 0, .int .i64 t1, .int .i64 u1, .int .i64 0, .int .i64 0, .int .i64 0, .int .i64 t2, .int .i64 u2, .int .i64 0, .int .i64 0, .int .i64 0, .int .i64 4, .int .i64 0, .int .i64 0, .int .i64 c, .int .i64 p] 68 (0, 0))) := Lib.hid ((setB (i := 18) (v := .int .i64 c) (setB (i := 19) (v := .int .i64 p) q_1.out)).trans (by simp))
        have x_2 : Hid (((v1.setCell ⟨w2.heap.size, 19, none⟩ (.int .i64 p)).setCell ⟨w2.heap.size, 18, none⟩ (.int .i64 c)).drew.heap[w.heap.size]? = some (.cells #[.int .i64 b, .int .i64 c, .int .i64 d, .int .i64 m0, .int .i64 m1, .int .i64 m2, .int .i64 p] 24 (0, 0))) := Lib.hid ((setO (by omega)).trans ((setO (by omega)).trans x_1.out))
        have s_2 : Hid (((v1.setCell ⟨w2.heap.size, 19, none⟩ (.int .i64 p)).setCell ⟨w2.heap.size, 18, none⟩ (.int .i64 c)).drew.heap[w1.heap.size]? = some (.cells #[.int .i64 b, .int .i64 c, .int .i64 d, .int .i64 m0, .int .i64 m1, .int .i64 m2, .int .i64 p, .int .i64 1, .int .i64 0, .int .i64 0, .int .i64 4] 26 (0, 0))) := Lib.hid ((setO (by omega)).trans ((setO (by omega)).trans s_1.out))
        have B2 : Hid (Below w.heap.size w ((v1.setCell ⟨w2.heap.size, 19, none⟩ (.int .i64 p)).setCell ⟨w2.heap.size, 18, none⟩ (.int .i64 c)).drew) := Lib.hid (belowS (belowS B1.out (by omega)) (by omega)).drew
        clear q_1 x_1 s_1 B1
        generalize ((v1.setCell ⟨w2.heap.size, 19, none⟩ (.int .i64 p)).setCell ⟨w2.heap.size, 18, none⟩ (.int .i64 c)).drew = v2 at q_2 x_2 s_2 B2 ⊢
        have L4_19 : v2.cell? ⟨w2.heap.size, 19, none⟩ = some (.int .i64 p) := (cellsB (i := 19) q_2.out).trans rfl
        go_upto_region 24 with (first | (refine wpl_put rfl 2 _ _ rfl w2.heap.size 19 _ #[.int .i64 (p + 1)] rfl rfl rfl 68 #[.int .i64 t0, .int .i64 u0, .int .i64 0, .int .i64 0, .int .i64 0, .int .i64 t1, .int .i64 u1, .int .i64 0, .int .i64 0, .int .i64 0, .int .i64 t2, .int .i64 u2, .int .i64 0, .int .i64 0, .int .i64 0, .int .i64 4, .int .i64 0, .int .i64 0, .int .i64 c, .int .i64 p] q_2.out (by kernel_rfl) #[.int .i64 t0, .int .i64 u0, .int .i64 0, .int .i64 0, .int .i64 0, .int .i64 t1, .int .i64 u1, .int .i64 0, .int .i64 0, .int .i64 0, .int .i64 t2, .int .i64 u2, .int .i64 0, .int .i64 0, .int .i64 0, .int .i64 4, .int .i64 0, .int .i64 0, .int .i64 c, .int .i64 (p + 1)] (by simp [setSeg]) (by simp) (by kernel_rfl) ?_; intro v3 hb3 sb3))
        · skip
          clear L4_19
          have x_3 := Lib.hid (sb3.blk x_2.out (by omega))
          have s_3 := Lib.hid (sb3.blk s_2.out (by omega))
          have q_3 := Lib.hid hb3
          have B3 := Lib.hid (sb3.bel B2.out (by omega))
          clear x_2 s_2 q_2 B2 hb3 sb3
          go_upto_region 25 with fail
          have ho := open_is_x (x := ⟨b, c, d, m0, m1, m2, p⟩) (ok := ok) (r := false) (t := 4) (c := c) (a := (p + 1)) HV.out (.inr (.inr (.inr ⟨⟨rfl, rfl, rfl⟩, rfl⟩)))
          have R1 := Lib.hid (fun W => right_is (show decide (RightP ⟨⟨b, c, d, m0, m1, m2, p⟩, 1, 0, 0, 4⟩ ⟨⟨t0, u0, 0, 0, 0⟩, ⟨t1, u1, 0, 0, 0⟩, ⟨t2, u2, 0, 0, 0⟩, ⟨4, 0, 0, c, (p + 1)⟩⟩) = false from (decide_eq_decide.2 (op1_iff _ HX.out _)).trans ho) W)
          have R3 := Lib.hid (fun W => right_is (show decide (RightP ⟨⟨b, c, d, m0, m1, m2, p⟩, 3, 0, 1, 4⟩ ⟨⟨t0, u0, 0, 0, 0⟩, ⟨t1, u1, 0, 0, 0⟩, ⟨t2, u2, 0, 0, 0⟩, ⟨4, 0, 0, c, (p + 1)⟩⟩) = false from (decide_eq_decide.2 (op3_iff _ HX.out _)).trans ho) W)
          simp only [W7.val, S11.val, Q4.val] at R1 R3
          clear ho
          go_upto_region 26 with (first | (refine wpl_row (by rfl) 26 _ rfl _ rfl _ _ _ _ s_3.out rfl Try.underlying26 (by kernel_rfl) ?_) | (refine wpl_set rfl 26 _ _ rfl v3.heap.size #[.int .i64 b, .int .i64 c, .int .i64 d, .int .i64 m0, .int .i64 m1, .int .i64 m2, .int .i64 p, .int .i64 1, .int .i64 0, .int .i64 0, .int .i64 4] rfl rfl 26 #[.int .i64 0, .int .i64 0, .int .i64 0, .int .i64 0, .int .i64 0, .int .i64 0, .int .i64 0, .int .i64 0, .int .i64 0, .int .i64 0, .int .i64 0] (heap_alloc_new v3 (.cells #[.int .i64 0, .int .i64 0, .int .i64 0, .int .i64 0, .int .i64 0, .int .i64 0, .int .i64 0, .int .i64 0, .int .i64 0, .int .i64 0, .int .i64 0] 26)) (by kernel_rfl) rfl (by kernel_rfl) ?_; intro v4 hb4 sb4))
          have lt_x_bk : w.heap.size < v3.heap.size := lt_size x_3.out
          have lt_s_bk : w1.heap.size < v3.heap.size := lt_size s_3.out
          have lt_q_bk : w2.heap.size < v3.heap.size := lt_size q_3.out
          have x_4 := Lib.hid (sb4.old x_3.out)
          have s_4 := Lib.hid (sb4.old s_3.out)
          have q_4 := Lib.hid (sb4.old q_3.out)
          have bk_4 := Lib.hid hb4
          have B4 := Lib.hid (sb4.below B3.out B3.out.size)
          clear hb4 sb4 x_3 s_3 q_3 B3
          go_upto_region 27 with (first | (refine wpl_put rfl 3 _ _ rfl v3.heap.size 7 _ #[.int .i64 3] rfl rfl rfl 26 #[.int .i64 b, .int .i64 c, .int .i64 d, .int .i64 m0, .int .i64 m1, .int .i64 m2, .int .i64 p, .int .i64 1, .int .i64 0, .int .i64 0, .int .i64 4] bk_4.out (by kernel_rfl) #[.int .i64 b, .int .i64 c, .int .i64 d, .int .i64 m0, .int .i64 m1, .int .i64 m2, .int .i64 p, .int .i64 3, .int .i64 0, .int .i64 0, .int .i64 4] (by simp [setSeg]) (by simp) (by kernel_rfl) ?_; intro v5 hb5 sb5) | (refine wpl_put rfl 3 _ _ rfl v3.heap.size 9 _ #[.int .i64 1] rfl rfl rfl 26 #[.int .i64 b, .int .i64 c, .int .i64 d, .int .i64 m0, .int .i64 m1, .int .i64 m2, .int .i64 p, .int .i64 3, .int .i64 0, .int .i64 0, .int .i64 4] hb5 (by kernel_rfl) #[.int .i64 b, .int .i64 c, .int .i64 d, .int .i64 m0, .int .i64 m1, .int .i64 m2, .int .i64 p, .int .i64 3, .int .i64 0, .int .i64 1, .int .i64 4] (by simp [setSeg]) (by simp) (by kernel_rfl) ?_; intro v6 hb6 sb6))
          have x_6 := Lib.hid (sb6.blk (sb5.blk x_4.out (by omega)) (by omega))
          have s_6 := Lib.hid (sb6.blk (sb5.blk s_4.out (by omega)) (by omega))
          have q_6 := Lib.hid (sb6.blk (sb5.blk q_4.out (by omega)) (by omega))
          have bk_6 := Lib.hid hb6
          have B6 := Lib.hid (sb6.bel (sb5.bel B4.out (by omega)) (by omega))
          clear x_4 s_4 q_4 bk_4 B4 hb5 sb5 hb6 sb6
          go_wp2_with fail
          refine (T0.out _).mono ?_
          rintro e v7 ⟨rfl, q⟩
          have x_7 := Lib.hid (blk0 x_6.out q)
          have s_7 := Lib.hid (blk0 s_6.out q)
          have q_7 := Lib.hid (blk0 q_6.out q)
          have bk_7 := Lib.hid (blk0 bk_6.out q)
          have B7 := Lib.hid (bel0 B6.out B6.out.size q)
          clear q x_6 s_6 q_6 bk_6 B6
          go_wp2_with (first | (refine wpl_row (by rfl) 26 _ rfl _ rfl _ _ _ _ s_7.out rfl Try.underlying26 (by kernel_rfl) ?_) | (refine wpl_row (by rfl) 68 _ rfl _ rfl _ _ _ _ q_7.out rfl Try.underlying68 (by kernel_rfl) ?_))
          refine (R1.out _).mono ?_
          rintro e v8 ⟨rfl, q⟩
          have x_8 := Lib.hid (blk0 x_7.out q)
          have s_8 := Lib.hid (blk0 s_7.out q)
          have q_8 := Lib.hid (blk0 q_7.out q)
          have bk_8 := Lib.hid (blk0 bk_7.out q)
          have B8 := Lib.hid (bel0 B7.out B7.out.size q)
          clear q x_7 s_7 q_7 bk_7 B7
          go_wp2_with (first | (refine wpl_row (by rfl) 26 _ rfl _ rfl _ _ _ _ bk_8.out rfl Try.underlying26 (by kernel_rfl) ?_) | (refine wpl_row (by rfl) 68 _ rfl _ rfl _ _ _ _ q_8.out rfl Try.underlying68 (by kernel_rfl) ?_))
          refine (R3.out _).mono ?_
          rintro e v9 ⟨rfl, q⟩
          have x_9 := Lib.hid (blk0 x_8.out q)
          have s_9 := Lib.hid (blk0 s_8.out q)
          have q_9 := Lib.hid (blk0 q_8.out q)
          have bk_9 := Lib.hid (blk0 bk_8.out q)
          have B9 := Lib.hid (bel0 B8.out B8.out.size q)
          clear q x_8 s_8 q_8 bk_8 B8
          go_wp2
          go_ret
          exact ⟨rfl, B9.out⟩
        · skip
          cases ok
          · skip
            clear L4_19
            have L5_15 : v2.cell? ⟨w2.heap.size, 15, none⟩ = some (.int .i64 4) := (cellsB (i := 15) q_2.out).trans rfl
            go_upto_region 25 with fail
            clear L5_15
            have ho := open_is_x (x := ⟨b, c, d, m0, m1, m2, p⟩) (ok := false) (r := false) (t := 4) (c := c) (a := p) HV.out (.inr (.inr (.inl ⟨⟨rfl, rfl, rfl⟩, rfl⟩)))
            have R1 := Lib.hid (fun W => right_is (show decide (RightP ⟨⟨b, c, d, m0, m1, m2, p⟩, 1, 0, 0, 4⟩ ⟨⟨t0, u0, 0, 0, 0⟩, ⟨t1, u1, 0, 0, 0⟩, ⟨t2, u2, 0, 0, 0⟩, ⟨4, 0, 0, c, p⟩⟩) = false from (decide_eq_decide.2 (op1_iff _ HX.out _)).trans ho) W)
            have R3 := Lib.hid (fun W => right_is (show decide (RightP ⟨⟨b, c, d, m0, m1, m2, p⟩, 3, 0, 1, 4⟩ ⟨⟨t0, u0, 0, 0, 0⟩, ⟨t1, u1, 0, 0, 0⟩, ⟨t2, u2, 0, 0, 0⟩, ⟨4, 0, 0, c, p⟩⟩) = false from (decide_eq_decide.2 (op3_iff _ HX.out _)).trans ho) W)
            simp only [W7.val, S11.val, Q4.val] at R1 R3
            clear ho
            go_upto_region 26 with (first | (refine wpl_row (by rfl) 26 _ rfl _ rfl _ _ _ _ s_2.out rfl Try.underlying26 (by kernel_rfl) ?_) | (refine wpl_set rfl 26 _ _ rfl v2.heap.size #[.int .i64 b, .int .i64 c, .int .i64 d, .int .i64 m0, .int .i64 m1, .int .i64 m2, .int .i64 p, .int .i64 1, .int .i64 0, .int .i64 0, .int .i64 4] rfl rfl 26 #[.int .i64 0, .int .i64 0, .int .i64 0, .int .i64 0, .int .i64 0, .int .i64 0, .int .i64 0, .int .i64 0, .int .i64 0, .int .i64 0, .int .i64 0] (heap_alloc_new v2 (.cells #[.int .i64 0, .int .i64 0, .int .i64 0, .int .i64 0, .int .i64 0, .int .i64 0, .int .i64 0, .int .i64 0, .int .i64 0, .int .i64 0, .int .i64 0] 26)) (by kernel_rfl) rfl (by kernel_rfl) ?_; intro v3 hb3 sb3))
            have lt_x_bk : w.heap.size < v2.heap.size := lt_size x_2.out
            have lt_s_bk : w1.heap.size < v2.heap.size := lt_size s_2.out
            have lt_q_bk : w2.heap.size < v2.heap.size := lt_size q_2.out
            have x_3 := Lib.hid (sb3.old x_2.out)
            have s_3 := Lib.hid (sb3.old s_2.out)
            have q_3 := Lib.hid (sb3.old q_2.out)
            have bk_3 := Lib.hid hb3
            have B3 := Lib.hid (sb3.below B2.out B2.out.size)
            clear hb3 sb3 x_2 s_2 q_2 B2
            go_upto_region 27 with (first | (refine wpl_put rfl 3 _ _ rfl v2.heap.size 7 _ #[.int .i64 3] rfl rfl rfl 26 #[.int .i64 b, .int .i64 c, .int .i64 d, .int .i64 m0, .int .i64 m1, .int .i64 m2, .int .i64 p, .int .i64 1, .int .i64 0, .int .i64 0, .int .i64 4] bk_3.out (by kernel_rfl) #[.int .i64 b, .int .i64 c, .int .i64 d, .int .i64 m0, .int .i64 m1, .int .i64 m2, .int .i64 p, .int .i64 3, .int .i64 0, .int .i64 0, .int .i64 4] (by simp [setSeg]) (by simp) (by kernel_rfl) ?_; intro v4 hb4 sb4) | (refine wpl_put rfl 3 _ _ rfl v2.heap.size 9 _ #[.int .i64 1] rfl rfl rfl 26 #[.int .i64 b, .int .i64 c, .int .i64 d, .int .i64 m0, .int .i64 m1, .int .i64 m2, .int .i64 p, .int .i64 3, .int .i64 0, .int .i64 0, .int .i64 4] hb4 (by kernel_rfl) #[.int .i64 b, .int .i64 c, .int .i64 d, .int .i64 m0, .int .i64 m1, .int .i64 m2, .int .i64 p, .int .i64 3, .int .i64 0, .int .i64 1, .int .i64 4] (by simp [setSeg]) (by simp) (by kernel_rfl) ?_; intro v5 hb5 sb5))
            have x_5 := Lib.hid (sb5.blk (sb4.blk x_3.out (by omega)) (by omega))
            have s_5 := Lib.hid (sb5.blk (sb4.blk s_3.out (by omega)) (by omega))
            have q_5 := Lib.hid (sb5.blk (sb4.blk q_3.out (by omega)) (by omega))
            have bk_5 := Lib.hid hb5
            have B5 := Lib.hid (sb5.bel (sb4.bel B3.out (by omega)) (by omega))
            clear x_3 s_3 q_3 bk_3 B3 hb4 sb4 hb5 sb5
            go_wp2_with fail
            refine (T0.out _).mono ?_
            rintro e v6 ⟨rfl, q⟩
            have x_6 := Lib.hid (blk0 x_5.out q)
            have s_6 := Lib.hid (blk0 s_5.out q)
            have q_6 := Lib.hid (blk0 q_5.out q)
            have bk_6 := Lib.hid (blk0 bk_5.out q)
            have B6 := Lib.hid (bel0 B5.out B5.out.size q)
            clear q x_5 s_5 q_5 bk_5 B5
            go_wp2_with (first | (refine wpl_row (by rfl) 26 _ rfl _ rfl _ _ _ _ s_6.out rfl Try.underlying26 (by kernel_rfl) ?_) | (refine wpl_row (by rfl) 68 _ rfl _ rfl _ _ _ _ q_6.out rfl Try.underlying68 (by kernel_rfl) ?_))
            refine (R1.out _).mono ?_
            rintro e v7 ⟨rfl, q⟩
            have x_7 := Lib.hid (blk0 x_6.out q)
            have s_7 := Lib.hid (blk0 s_6.out q)
            have q_7 := Lib.hid (blk0 q_6.out q)
            have bk_7 := Lib.hid (blk0 bk_6.out q)
            have B7 := Lib.hid (bel0 B6.out B6.out.size q)
            clear q x_6 s_6 q_6 bk_6 B6
            go_wp2_with (first | (refine wpl_row (by rfl) 26 _ rfl _ rfl _ _ _ _ bk_7.out rfl Try.underlying26 (by kernel_rfl) ?_) | (refine wpl_row (by rfl) 68 _ rfl _ rfl _ _ _ _ q_7.out rfl Try.underlying68 (by kernel_rfl) ?_))
            refine (R3.out _).mono ?_
            rintro e v8 ⟨rfl, q⟩
            have x_8 := Lib.hid (blk0 x_7.out q)
            have s_8 := Lib.hid (blk0 s_7.out q)
            have q_8 := Lib.hid (blk0 q_7.out q)
            have bk_8 := Lib.hid (blk0 bk_7.out q)
            have B8 := Lib.hid (bel0 B7.out B7.out.size q)
            clear q x_7 s_7 q_7 bk_7 B7
            go_wp2
            go_ret
            exact ⟨rfl, B8.out⟩
          · skip
            clear L4_19
            have L5_15 : v2.cell? ⟨w2.heap.size, 15, none⟩ = some (.int .i64 4) := (cellsB (i := 15) q_2.out).trans rfl
            go_upto_region 25 with fail
            clear L5_15
            have ho := open_is_x (x := ⟨b, c, d, m0, m1, m2, p⟩) (ok := true) (r := true) (t := 4) (c := c) (a := p) HV.out (.inr (.inr (.inl ⟨⟨rfl, rfl, rfl⟩, rfl⟩)))
            have R1 := Lib.hid (fun W => right_is (show decide (RightP ⟨⟨b, c, d, m0, m1, m2, p⟩, 1, 0, 0, 4⟩ ⟨⟨t0, u0, 0, 0, 0⟩, ⟨t1, u1, 0, 0, 0⟩, ⟨t2, u2, 0, 0, 0⟩, ⟨4, 0, 0, c, p⟩⟩) = true from (decide_eq_decide.2 (op1_iff _ HX.out _)).trans ho) W)
            have R3 := Lib.hid (fun W => right_is (show decide (RightP ⟨⟨b, c, d, m0, m1, m2, p⟩, 3, 0, 1, 4⟩ ⟨⟨t0, u0, 0, 0, 0⟩, ⟨t1, u1, 0, 0, 0⟩, ⟨t2, u2, 0, 0, 0⟩, ⟨4, 0, 0, c, p⟩⟩) = true from (decide_eq_decide.2 (op3_iff _ HX.out _)).trans ho) W)
            simp only [W7.val, S11.val, Q4.val] at R1 R3
            clear ho
            go_upto_region 26 with (first | (refine wpl_row (by rfl) 26 _ rfl _ rfl _ _ _ _ s_2.out rfl Try.underlying26 (by kernel_rfl) ?_) | (refine wpl_set rfl 26 _ _ rfl v2.heap.size #[.int .i64 b, .int .i64 c, .int .i64 d, .int .i64 m0, .int .i64 m1, .int .i64 m2, .int .i64 p, .int .i64 1, .int .i64 0, .int .i64 0, .int .i64 4] rfl rfl 26 #[.int .i64 0, .int .i64 0, .int .i64 0, .int .i64 0, .int .i64 0, .int .i64 0, .int .i64 0, .int .i64 0, .int .i64 0, .int .i64 0, .int .i64 0] (heap_alloc_new v2 (.cells #[.int .i64 0, .int .i64 0, .int .i64 0, .int .i64 0, .int .i64 0, .int .i64 0, .int .i64 0, .int .i64 0, .int .i64 0, .int .i64 0, .int .i64 0] 26)) (by kernel_rfl) rfl (by kernel_rfl) ?_; intro v3 hb3 sb3))
            have lt_x_bk : w.heap.size < v2.heap.size := lt_size x_2.out
            have lt_s_bk : w1.heap.size < v2.heap.size := lt_size s_2.out
            have lt_q_bk : w2.heap.size < v2.heap.size := lt_size q_2.out
            have x_3 := Lib.hid (sb3.old x_2.out)
            have s_3 := Lib.hid (sb3.old s_2.out)
            have q_3 := Lib.hid (sb3.old q_2.out)
            have bk_3 := Lib.hid hb3
            have B3 := Lib.hid (sb3.below B2.out B2.out.size)
            clear hb3 sb3 x_2 s_2 q_2 B2
            go_upto_region 27 with (first | (refine wpl_put rfl 3 _ _ rfl v2.heap.size 7 _ #[.int .i64 3] rfl rfl rfl 26 #[.int .i64 b, .int .i64 c, .int .i64 d, .int .i64 m0, .int .i64 m1, .int .i64 m2, .int .i64 p, .int .i64 1, .int .i64 0, .int .i64 0, .int .i64 4] bk_3.out (by kernel_rfl) #[.int .i64 b, .int .i64 c, .int .i64 d, .int .i64 m0, .int .i64 m1, .int .i64 m2, .int .i64 p, .int .i64 3, .int .i64 0, .int .i64 0, .int .i64 4] (by simp [setSeg]) (by simp) (by kernel_rfl) ?_; intro v4 hb4 sb4) | (refine wpl_put rfl 3 _ _ rfl v2.heap.size 9 _ #[.int .i64 1] rfl rfl rfl 26 #[.int .i64 b, .int .i64 c, .int .i64 d, .int .i64 m0, .int .i64 m1, .int .i64 m2, .int .i64 p, .int .i64 3, .int .i64 0, .int .i64 0, .int .i64 4] hb4 (by kernel_rfl) #[.int .i64 b, .int .i64 c, .int .i64 d, .int .i64 m0, .int .i64 m1, .int .i64 m2, .int .i64 p, .int .i64 3, .int .i64 0, .int .i64 1, .int .i64 4] (by simp [setSeg]) (by simp) (by kernel_rfl) ?_; intro v5 hb5 sb5))
            have x_5 := Lib.hid (sb5.blk (sb4.blk x_3.out (by omega)) (by omega))
            have s_5 := Lib.hid (sb5.blk (sb4.blk s_3.out (by omega)) (by omega))
            have q_5 := Lib.hid (sb5.blk (sb4.blk q_3.out (by omega)) (by omega))
            have bk_5 := Lib.hid hb5
            have B5 := Lib.hid (sb5.bel (sb4.bel B3.out (by omega)) (by omega))
            clear x_3 s_3 q_3 bk_3 B3 hb4 sb4 hb5 sb5
            go_wp2_with fail
            refine (T0.out _).mono ?_
            rintro e v6 ⟨rfl, q⟩
            have x_6 := Lib.hid (blk0 x_5.out q)
            have s_6 := Lib.hid (blk0 s_5.out q)
            have q_6 := Lib.hid (blk0 q_5.out q)
            have bk_6 := Lib.hid (blk0 bk_5.out q)
            have B6 := Lib.hid (bel0 B5.out B5.out.size q)
            clear q x_5 s_5 q_5 bk_5 B5
            go_wp2_with (first | (refine wpl_row (by rfl) 26 _ rfl _ rfl _ _ _ _ s_6.out rfl Try.underlying26 (by kernel_rfl) ?_) | (refine wpl_row (by rfl) 68 _ rfl _ rfl _ _ _ _ q_6.out rfl Try.underlying68 (by kernel_rfl) ?_))
            refine (R1.out _).mono ?_
            rintro e v7 ⟨rfl, q⟩
            have x_7 := Lib.hid (blk0 x_6.out q)
            have s_7 := Lib.hid (blk0 s_6.out q)
            have q_7 := Lib.hid (blk0 q_6.out q)
            have bk_7 := Lib.hid (blk0 bk_6.out q)
            have B7 := Lib.hid (bel0 B6.out B6.out.size q)
            clear q x_6 s_6 q_6 bk_6 B6
            go_wp2_with (first | (refine wpl_row (by rfl) 26 _ rfl _ rfl _ _ _ _ bk_7.out rfl Try.underlying26 (by kernel_rfl) ?_) | (refine wpl_row (by rfl) 68 _ rfl _ rfl _ _ _ _ q_7.out rfl Try.underlying68 (by kernel_rfl) ?_))
            refine (R3.out _).mono ?_
            rintro e v8 ⟨rfl, q⟩
            have x_8 := Lib.hid (blk0 x_7.out q)
            have s_8 := Lib.hid (blk0 s_7.out q)
            have q_8 := Lib.hid (blk0 q_7.out q)
            have bk_8 := Lib.hid (blk0 bk_7.out q)
            have B8 := Lib.hid (bel0 B7.out B7.out.size q)
            clear q x_7 s_7 q_7 bk_7 B7
            go_wp2
            go_ret
            exact ⟨rfl, B8.out⟩
      · skip
        go_upto_region 19 with (first | (refine wpl_put rfl 3 _ _ rfl w2.heap.size 15 _ #[.int .i64 5] rfl rfl rfl 68 #[.int .i64 t0, .int .i64 u0, .int .i64 0, .int .i64 0, .int .i64 0, .int .i64 t1, .int .i64 u1, .int .i64 0, .int .i64 0, .int .i64 0, .int .i64 t2, .int .i64 u2, .int .i64 0, .int .i64 0, .int .i64 0, .int .i64 0, .int .i64 0, .int .i64 0, .int .i64 0, .int .i64 0] (alc (o := (.cells #[.int .i64 0, .int .i64 4, .int .i64 5, .int .i64 3] 3)) q_0.out) (by kernel_rfl) #[.int .i64 t0, .int .i64 u0, .int .i64 0, .int .i64 0, .int .i64 0, .int .i64 t1, .int .i64 u1, .int .i64 0, .int .i64 0, .int .i64 0, .int .i64 t2, .int .i64 u2, .int .i64 0, .int .i64 0, .int .i64 0, .int .i64 5, .int .i64 0, .int .i64 0, .int .i64 0, .int .i64 0] (by simp [setSeg]) (by simp) (by kernel_rfl) ?_; intro v1 hb1 sb1))
        have x_1 := Lib.hid (sb1.blk (alc x_0.out) (by omega))
        have s_1 := Lib.hid (sb1.blk (alc s_0.out) (by omega))
        have q_1 := Lib.hid hb1
        have B1 := Lib.hid (sb1.bel (B0.out.alloc B0.out.size _) (by omega))
        clear x_0 s_0 q_0 B0 hb1 sb1
        cases ok
        · skip
          have L1_15 : v1.cell? ⟨w2.heap.size, 15, none⟩ = some (.int .i64 5) := (cellsB (i := 15) q_1.out).trans rfl
          go_upto_region 25 with fail
          clear L1_15
          have ho := open_is_x (x := ⟨b, c, d, m0, m1, m2, p⟩) (ok := false) (r := false) (t := 5) (c := 0) (a := 0) HV.out (.inr (.inl ⟨⟨rfl, rfl, rfl⟩, rfl⟩))
          have R1 := Lib.hid (fun W => right_is (show decide (RightP ⟨⟨b, c, d, m0, m1, m2, p⟩, 1, 0, 0, 4⟩ ⟨⟨t0, u0, 0, 0, 0⟩, ⟨t1, u1, 0, 0, 0⟩, ⟨t2, u2, 0, 0, 0⟩, ⟨5, 0, 0, 0, 0⟩⟩) = false from (decide_eq_decide.2 (op1_iff _ HX.out _)).trans ho) W)
          have R3 := Lib.hid (fun W => right_is (show decide (RightP ⟨⟨b, c, d, m0, m1, m2, p⟩, 3, 0, 1, 4⟩ ⟨⟨t0, u0, 0, 0, 0⟩, ⟨t1, u1, 0, 0, 0⟩, ⟨t2, u2, 0, 0, 0⟩, ⟨5, 0, 0, 0, 0⟩⟩) = false from (decide_eq_decide.2 (op3_iff _ HX.out _)).trans ho) W)
          simp only [W7.val, S11.val, Q4.val] at R1 R3
          clear ho
          go_upto_region 26 with (first | (refine wpl_row (by rfl) 26 _ rfl _ rfl _ _ _ _ s_1.out rfl Try.underlying26 (by kernel_rfl) ?_) | (refine wpl_set rfl 26 _ _ rfl v1.heap.size #[.int .i64 b, .int .i64 c, .int .i64 d, .int .i64 m0, .int .i64 m1, .int .i64 m2, .int .i64 p, .int .i64 1, .int .i64 0, .int .i64 0, .int .i64 4] rfl rfl 26 #[.int .i64 0, .int .i64 0, .int .i64 0, .int .i64 0, .int .i64 0, .int .i64 0, .int .i64 0, .int .i64 0, .int .i64 0, .int .i64 0, .int .i64 0] (heap_alloc_new v1 (.cells #[.int .i64 0, .int .i64 0, .int .i64 0, .int .i64 0, .int .i64 0, .int .i64 0, .int .i64 0, .int .i64 0, .int .i64 0, .int .i64 0, .int .i64 0] 26)) (by kernel_rfl) rfl (by kernel_rfl) ?_; intro v2 hb2 sb2))
          have lt_x_bk : w.heap.size < v1.heap.size := lt_size x_1.out
          have lt_s_bk : w1.heap.size < v1.heap.size := lt_size s_1.out
          have lt_q_bk : w2.heap.size < v1.heap.size := lt_size q_1.out
          have x_2 := Lib.hid (sb2.old x_1.out)
          have s_2 := Lib.hid (sb2.old s_1.out)
          have q_2 := Lib.hid (sb2.old q_1.out)
          have bk_2 := Lib.hid hb2
          have B2 := Lib.hid (sb2.below B1.out B1.out.size)
          clear hb2 sb2 x_1 s_1 q_1 B1
          go_upto_region 27 with (first | (refine wpl_put rfl 3 _ _ rfl v1.heap.size 7 _ #[.int .i64 3] rfl rfl rfl 26 #[.int .i64 b, .int .i64 c, .int .i64 d, .int .i64 m0, .int .i64 m1, .int .i64 m2, .int .i64 p, .int .i64 1, .int .i64 0, .int .i64 0, .int .i64 4] bk_2.out (by kernel_rfl) #[.int .i64 b, .int .i64 c, .int .i64 d, .int .i64 m0, .int .i64 m1, .int .i64 m2, .int .i64 p, .int .i64 3, .int .i64 0, .int .i64 0, .int .i64 4] (by simp [setSeg]) (by simp) (by kernel_rfl) ?_; intro v3 hb3 sb3) | (refine wpl_put rfl 3 _ _ rfl v1.heap.size 9 _ #[.int .i64 1] rfl rfl rfl 26 #[.int .i64 b, .int .i64 c, .int .i64 d, .int .i64 m0, .int .i64 m1, .int .i64 m2, .int .i64 p, .int .i64 3, .int .i64 0, .int .i64 0, .int .i64 4] hb3 (by kernel_rfl) #[.int .i64 b, .int .i64 c, .int .i64 d, .int .i64 m0, .int .i64 m1, .int .i64 m2, .int .i64 p, .int .i64 3, .int .i64 0, .int .i64 1, .int .i64 4] (by simp [setSeg]) (by simp) (by kernel_rfl) ?_; intro v4 hb4 sb4))
          have x_4 := Lib.hid (sb4.blk (sb3.blk x_2.out (by omega)) (by omega))
          have s_4 := Lib.hid (sb4.blk (sb3.blk s_2.out (by omega)) (by omega))
          have q_4 := Lib.hid (sb4.blk (sb3.blk q_2.out (by omega)) (by omega))
          have bk_4 := Lib.hid hb4
          have B4 := Lib.hid (sb4.bel (sb3.bel B2.out (by omega)) (by omega))
          clear x_2 s_2 q_2 bk_2 B2 hb3 sb3 hb4 sb4
          go_wp2_with fail
          refine (T0.out _).mono ?_
          rintro e v5 ⟨rfl, q⟩
          have x_5 := Lib.hid (blk0 x_4.out q)
          have s_5 := Lib.hid (blk0 s_4.out q)
          have q_5 := Lib.hid (blk0 q_4.out q)
          have bk_5 := Lib.hid (blk0 bk_4.out q)
          have B5 := Lib.hid (bel0 B4.out B4.out.size q)
          clear q x_4 s_4 q_4 bk_4 B4
          go_wp2_with (first | (refine wpl_row (by rfl) 26 _ rfl _ rfl _ _ _ _ s_5.out rfl Try.underlying26 (by kernel_rfl) ?_) | (refine wpl_row (by rfl) 68 _ rfl _ rfl _ _ _ _ q_5.out rfl Try.underlying68 (by kernel_rfl) ?_))
          refine (R1.out _).mono ?_
          rintro e v6 ⟨rfl, q⟩
          have x_6 := Lib.hid (blk0 x_5.out q)
          have s_6 := Lib.hid (blk0 s_5.out q)
          have q_6 := Lib.hid (blk0 q_5.out q)
          have bk_6 := Lib.hid (blk0 bk_5.out q)
          have B6 := Lib.hid (bel0 B5.out B5.out.size q)
          clear q x_5 s_5 q_5 bk_5 B5
          go_wp2_with (first | (refine wpl_row (by rfl) 26 _ rfl _ rfl _ _ _ _ bk_6.out rfl Try.underlying26 (by kernel_rfl) ?_) | (refine wpl_row (by rfl) 68 _ rfl _ rfl _ _ _ _ q_6.out rfl Try.underlying68 (by kernel_rfl) ?_))
          refine (R3.out _).mono ?_
          rintro e v7 ⟨rfl, q⟩
          have x_7 := Lib.hid (blk0 x_6.out q)
          have s_7 := Lib.hid (blk0 s_6.out q)
          have q_7 := Lib.hid (blk0 q_6.out q)
          have bk_7 := Lib.hid (blk0 bk_6.out q)
          have B7 := Lib.hid (bel0 B6.out B6.out.size q)
          clear q x_6 s_6 q_6 bk_6 B6
          go_wp2
          go_ret
          exact ⟨rfl, B7.out⟩
        · skip
          have L1_15 : v1.cell? ⟨w2.heap.size, 15, none⟩ = some (.int .i64 5) := (cellsB (i := 15) q_1.out).trans rfl
          go_upto_region 25 with fail
          clear L1_15
          have ho := open_is_x (x := ⟨b, c, d, m0, m1, m2, p⟩) (ok := true) (r := false) (t := 5) (c := 0) (a := 0) HV.out (.inr (.inl ⟨⟨rfl, rfl, rfl⟩, rfl⟩))
          have R1 := Lib.hid (fun W => right_is (show decide (RightP ⟨⟨b, c, d, m0, m1, m2, p⟩, 1, 0, 0, 4⟩ ⟨⟨t0, u0, 0, 0, 0⟩, ⟨t1, u1, 0, 0, 0⟩, ⟨t2, u2, 0, 0, 0⟩, ⟨5, 0, 0, 0, 0⟩⟩) = false from (decide_eq_decide.2 (op1_iff _ HX.out _)).trans ho) W)
          have R3 := Lib.hid (fun W => right_is (show decide (RightP ⟨⟨b, c, d, m0, m1, m2, p⟩, 3, 0, 1, 4⟩ ⟨⟨t0, u0, 0, 0, 0⟩, ⟨t1, u1, 0, 0, 0⟩, ⟨t2, u2, 0, 0, 0⟩, ⟨5, 0, 0, 0, 0⟩⟩) = false from (decide_eq_decide.2 (op3_iff _ HX.out _)).trans ho) W)
          simp only [W7.val, S11.val, Q4.val] at R1 R3
          clear ho
          go_upto_region 26 with (first | (refine wpl_row (by rfl) 26 _ rfl _ rfl _ _ _ _ s_1.out rfl Try.underlying26 (by kernel_rfl) ?_) | (refine wpl_set rfl 26 _ _ rfl v1.heap.size #[.int .i64 b, .int .i64 c, .int .i64 d, .int .i64 m0, .int .i64 m1, .int .i64 m2, .int .i64 p, .int .i64 1, .int .i64 0, .int .i64 0, .int .i64 4] rfl rfl 26 #[.int .i64 0, .int .i64 0, .int .i64 0, .int .i64 0, .int .i64 0, .int .i64 0, .int .i64 0, .int .i64 0, .int .i64 0, .int .i64 0, .int .i64 0] (heap_alloc_new v1 (.cells #[.int .i64 0, .int .i64 0, .int .i64 0, .int .i64 0, .int .i64 0, .int .i64 0, .int .i64 0, .int .i64 0, .int .i64 0, .int .i64 0, .int .i64 0] 26)) (by kernel_rfl) rfl (by kernel_rfl) ?_; intro v2 hb2 sb2))
          have lt_x_bk : w.heap.size < v1.heap.size := lt_size x_1.out
          have lt_s_bk : w1.heap.size < v1.heap.size := lt_size s_1.out
          have lt_q_bk : w2.heap.size < v1.heap.size := lt_size q_1.out
          have x_2 := Lib.hid (sb2.old x_1.out)
          have s_2 := Lib.hid (sb2.old s_1.out)
          have q_2 := Lib.hid (sb2.old q_1.out)
          have bk_2 := Lib.hid hb2
          have B2 := Lib.hid (sb2.below B1.out B1.out.size)
          clear hb2 sb2 x_1 s_1 q_1 B1
          go_upto_region 27 with (first | (refine wpl_put rfl 3 _ _ rfl v1.heap.size 7 _ #[.int .i64 3] rfl rfl rfl 26 #[.int .i64 b, .int .i64 c, .int .i64 d, .int .i64 m0, .int .i64 m1, .int .i64 m2, .int .i64 p, .int .i64 1, .int .i64 0, .int .i64 0, .int .i64 4] bk_2.out (by kernel_rfl) #[.int .i64 b, .int .i64 c, .int .i64 d, .int .i64 m0, .int .i64 m1, .int .i64 m2, .int .i64 p, .int .i64 3, .int .i64 0, .int .i64 0, .int .i64 4] (by simp [setSeg]) (by simp) (by kernel_rfl) ?_; intro v3 hb3 sb3) | (refine wpl_put rfl 3 _ _ rfl v1.heap.size 9 _ #[.int .i64 1] rfl rfl rfl 26 #[.int .i64 b, .int .i64 c, .int .i64 d, .int .i64 m0, .int .i64 m1, .int .i64 m2, .int .i64 p, .int .i64 3, .int .i64 0, .int .i64 0, .int .i64 4] hb3 (by kernel_rfl) #[.int .i64 b, .int .i64 c, .int .i64 d, .int .i64 m0, .int .i64 m1, .int .i64 m2, .int .i64 p, .int .i64 3, .int .i64 0, .int .i64 1, .int .i64 4] (by simp [setSeg]) (by simp) (by kernel_rfl) ?_; intro v4 hb4 sb4))
          have x_4 := Lib.hid (sb4.blk (sb3.blk x_2.out (by omega)) (by omega))
          have s_4 := Lib.hid (sb4.blk (sb3.blk s_2.out (by omega)) (by omega))
          have q_4 := Lib.hid (sb4.blk (sb3.blk q_2.out (by omega)) (by omega))
          have bk_4 := Lib.hid hb4
          have B4 := Lib.hid (sb4.bel (sb3.bel B2.out (by omega)) (by omega))
          clear x_2 s_2 q_2 bk_2 B2 hb3 sb3 hb4 sb4
          go_wp2_with fail
          refine (T0.out _).mono ?_
          rintro e v5 ⟨rfl, q⟩
          have x_5 := Lib.hid (blk0 x_4.out q)
          have s_5 := Lib.hid (blk0 s_4.out q)
          have q_5 := Lib.hid (blk0 q_4.out q)
          have bk_5 := Lib.hid (blk0 bk_4.out q)
          have B5 := Lib.hid (bel0 B4.out B4.out.size q)
          clear q x_4 s_4 q_4 bk_4 B4
          go_wp2_with (first | (refine wpl_row (by rfl) 26 _ rfl _ rfl _ _ _ _ s_5.out rfl Try.underlying26 (by kernel_rfl) ?_) | (refine wpl_row (by rfl) 68 _ rfl _ rfl _ _ _ _ q_5.out rfl Try.underlying68 (by kernel_rfl) ?_))
          refine (R1.out _).mono ?_
          rintro e v6 ⟨rfl, q⟩
          have x_6 := Lib.hid (blk0 x_5.out q)
          have s_6 := Lib.hid (blk0 s_5.out q)
          have q_6 := Lib.hid (blk0 q_5.out q)
          have bk_6 := Lib.hid (blk0 bk_5.out q)
          have B6 := Lib.hid (bel0 B5.out B5.out.size q)
          clear q x_5 s_5 q_5 bk_5 B5
          go_wp2_with (first | (refine wpl_row (by rfl) 26 _ rfl _ rfl _ _ _ _ bk_6.out rfl Try.underlying26 (by kernel_rfl) ?_) | (refine wpl_row (by rfl) 68 _ rfl _ rfl _ _ _ _ q_6.out rfl Try.underlying68 (by kernel_rfl) ?_))
          refine (R3.out _).mono ?_
          rintro e v7 ⟨rfl, q⟩
          have x_7 := Lib.hid (blk0 x_6.out q)
          have s_7 := Lib.hid (blk0 s_6.out q)
          have q_7 := Lib.hid (blk0 q_6.out q)
          have bk_7 := Lib.hid (blk0 bk_6.out q)
          have B7 := Lib.hid (bel0 B6.out B6.out.size q)
          clear q x_6 s_6 q_6 bk_6 B6
          go_wp2
          go_ret
          exact ⟨rfl, B7.out⟩
      · skip
        go_upto_region 19 with (first | (refine wpl_put rfl 3 _ _ rfl w2.heap.size 15 _ #[.int .i64 3] rfl rfl rfl 68 #[.int .i64 t0, .int .i64 u0, .int .i64 0, .int .i64 0, .int .i64 0, .int .i64 t1, .int .i64 u1, .int .i64 0, .int .i64 0, .int .i64 0, .int .i64 t2, .int .i64 u2, .int .i64 0, .int .i64 0, .int .i64 0, .int .i64 0, .int .i64 0, .int .i64 0, .int .i64 0, .int .i64 0] (alc (o := (.cells #[.int .i64 0, .int .i64 4, .int .i64 5, .int .i64 3] 3)) q_0.out) (by kernel_rfl) #[.int .i64 t0, .int .i64 u0, .int .i64 0, .int .i64 0, .int .i64 0, .int .i64 t1, .int .i64 u1, .int .i64 0, .int .i64 0, .int .i64 0, .int .i64 t2, .int .i64 u2, .int .i64 0, .int .i64 0, .int .i64 0, .int .i64 3, .int .i64 0, .int .i64 0, .int .i64 0, .int .i64 0] (by simp [setSeg]) (by simp) (by kernel_rfl) ?_; intro v1 hb1 sb1))
        have x_1 := Lib.hid (sb1.blk (alc x_0.out) (by omega))
        have s_1 := Lib.hid (sb1.blk (alc s_0.out) (by omega))
        have q_1 := Lib.hid hb1
        have B1 := Lib.hid (sb1.bel (B0.out.alloc B0.out.size _) (by omega))
        clear x_0 s_0 q_0 B0 hb1 sb1
        cases ok
        · skip
          have L1_15 : v1.cell? ⟨w2.heap.size, 15, none⟩ = some (.int .i64 3) := (cellsB (i := 15) q_1.out).trans rfl
          go_upto_region 25 with fail
          clear L1_15
          have ho := open_is_x (x := ⟨b, c, d, m0, m1, m2, p⟩) (ok := false) (r := false) (t := 3) (c := 0) (a := 0) HV.out (.inl ⟨⟨.inr rfl, rfl, rfl⟩, rfl⟩)
          have R1 := Lib.hid (fun W => right_is (show decide (RightP ⟨⟨b, c, d, m0, m1, m2, p⟩, 1, 0, 0, 4⟩ ⟨⟨t0, u0, 0, 0, 0⟩, ⟨t1, u1, 0, 0, 0⟩, ⟨t2, u2, 0, 0, 0⟩, ⟨3, 0, 0, 0, 0⟩⟩) = false from (decide_eq_decide.2 (op1_iff _ HX.out _)).trans ho) W)
          have R3 := Lib.hid (fun W => right_is (show decide (RightP ⟨⟨b, c, d, m0, m1, m2, p⟩, 3, 0, 1, 4⟩ ⟨⟨t0, u0, 0, 0, 0⟩, ⟨t1, u1, 0, 0, 0⟩, ⟨t2, u2, 0, 0, 0⟩, ⟨3, 0, 0, 0, 0⟩⟩) = false from (decide_eq_decide.2 (op3_iff _ HX.out _)).trans ho) W)
          simp only [W7.val, S11.val, Q4.val] at R1 R3
          clear ho
          go_upto_region 26 with (first | (refine wpl_row (by rfl) 26 _ rfl _ rfl _ _ _ _ s_1.out rfl Try.underlying26 (by kernel_rfl) ?_) | (refine wpl_set rfl 26 _ _ rfl v1.heap.size #[.int .i64 b, .int .i64 c, .int .i64 d, .int .i64 m0, .int .i64 m1, .int .i64 m2, .int .i64 p, .int .i64 1, .int .i64 0, .int .i64 0, .int .i64 4] rfl rfl 26 #[.int .i64 0, .int .i64 0, .int .i64 0, .int .i64 0, .int .i64 0, .int .i64 0, .int .i64 0, .int .i64 0, .int .i64 0, .int .i64 0, .int .i64 0] (heap_alloc_new v1 (.cells #[.int .i64 0, .int .i64 0, .int .i64 0, .int .i64 0, .int .i64 0, .int .i64 0, .int .i64 0, .int .i64 0, .int .i64 0, .int .i64 0, .int .i64 0] 26)) (by kernel_rfl) rfl (by kernel_rfl) ?_; intro v2 hb2 sb2))
          have lt_x_bk : w.heap.size < v1.heap.size := lt_size x_1.out
          have lt_s_bk : w1.heap.size < v1.heap.size := lt_size s_1.out
          have lt_q_bk : w2.heap.size < v1.heap.size := lt_size q_1.out
          have x_2 := Lib.hid (sb2.old x_1.out)
          have s_2 := Lib.hid (sb2.old s_1.out)
          have q_2 := Lib.hid (sb2.old q_1.out)
          have bk_2 := Lib.hid hb2
          have B2 := Lib.hid (sb2.below B1.out B1.out.size)
          clear hb2 sb2 x_1 s_1 q_1 B1
          go_upto_region 27 with (first | (refine wpl_put rfl 3 _ _ rfl v1.heap.size 7 _ #[.int .i64 3] rfl rfl rfl 26 #[.int .i64 b, .int .i64 c, .int .i64 d, .int .i64 m0, .int .i64 m1, .int .i64 m2, .int .i64 p, .int .i64 1, .int .i64 0, .int .i64 0, .int .i64 4] bk_2.out (by kernel_rfl) #[.int .i64 b, .int .i64 c, .int .i64 d, .int .i64 m0, .int .i64 m1, .int .i64 m2, .int .i64 p, .int .i64 3, .int .i64 0, .int .i64 0, .int .i64 4] (by simp [setSeg]) (by simp) (by kernel_rfl) ?_; intro v3 hb3 sb3) | (refine wpl_put rfl 3 _ _ rfl v1.heap.size 9 _ #[.int .i64 1] rfl rfl rfl 26 #[.int .i64 b, .int .i64 c, .int .i64 d, .int .i64 m0, .int .i64 m1, .int .i64 m2, .int .i64 p, .int .i64 3, .int .i64 0, .int .i64 0, .int .i64 4] hb3 (by kernel_rfl) #[.int .i64 b, .int .i64 c, .int .i64 d, .int .i64 m0, .int .i64 m1, .int .i64 m2, .int .i64 p, .int .i64 3, .int .i64 0, .int .i64 1, .int .i64 4] (by simp [setSeg]) (by simp) (by kernel_rfl) ?_; intro v4 hb4 sb4))
          have x_4 := Lib.hid (sb4.blk (sb3.blk x_2.out (by omega)) (by omega))
          have s_4 := Lib.hid (sb4.blk (sb3.blk s_2.out (by omega)) (by omega))
          have q_4 := Lib.hid (sb4.blk (sb3.blk q_2.out (by omega)) (by omega))
          have bk_4 := Lib.hid hb4
          have B4 := Lib.hid (sb4.bel (sb3.bel B2.out (by omega)) (by omega))
          clear x_2 s_2 q_2 bk_2 B2 hb3 sb3 hb4 sb4
          go_wp2_with fail
          refine (T0.out _).mono ?_
          rintro e v5 ⟨rfl, q⟩
          have x_5 := Lib.hid (blk0 x_4.out q)
          have s_5 := Lib.hid (blk0 s_4.out q)
          have q_5 := Lib.hid (blk0 q_4.out q)
          have bk_5 := Lib.hid (blk0 bk_4.out q)
          have B5 := Lib.hid (bel0 B4.out B4.out.size q)
          clear q x_4 s_4 q_4 bk_4 B4
          go_wp2_with (first | (refine wpl_row (by rfl) 26 _ rfl _ rfl _ _ _ _ s_5.out rfl Try.underlying26 (by kernel_rfl) ?_) | (refine wpl_row (by rfl) 68 _ rfl _ rfl _ _ _ _ q_5.out rfl Try.underlying68 (by kernel_rfl) ?_))
          refine (R1.out _).mono ?_
          rintro e v6 ⟨rfl, q⟩
          have x_6 := Lib.hid (blk0 x_5.out q)
          have s_6 := Lib.hid (blk0 s_5.out q)
          have q_6 := Lib.hid (blk0 q_5.out q)
          have bk_6 := Lib.hid (blk0 bk_5.out q)
          have B6 := Lib.hid (bel0 B5.out B5.out.size q)
          clear q x_5 s_5 q_5 bk_5 B5
          go_wp2_with (first | (refine wpl_row (by rfl) 26 _ rfl _ rfl _ _ _ _ bk_6.out rfl Try.underlying26 (by kernel_rfl) ?_) | (refine wpl_row (by rfl) 68 _ rfl _ rfl _ _ _ _ q_6.out rfl Try.underlying68 (by kernel_rfl) ?_))
          refine (R3.out _).mono ?_
          rintro e v7 ⟨rfl, q⟩
          have x_7 := Lib.hid (blk0 x_6.out q)
          have s_7 := Lib.hid (blk0 s_6.out q)
          have q_7 := Lib.hid (blk0 q_6.out q)
          have bk_7 := Lib.hid (blk0 bk_6.out q)
          have B7 := Lib.hid (bel0 B6.out B6.out.size q)
          clear q x_6 s_6 q_6 bk_6 B6
          go_wp2
          go_ret
          exact ⟨rfl, B7.out⟩
        · skip
          have L1_15 : v1.cell? ⟨w2.heap.size, 15, none⟩ = some (.int .i64 3) := (cellsB (i := 15) q_1.out).trans rfl
          go_upto_region 25 with fail
          clear L1_15
          have ho := open_is_x (x := ⟨b, c, d, m0, m1, m2, p⟩) (ok := true) (r := true) (t := 3) (c := 0) (a := 0) HV.out (.inl ⟨⟨.inr rfl, rfl, rfl⟩, rfl⟩)
          have R1 := Lib.hid (fun W => right_is (show decide (RightP ⟨⟨b, c, d, m0, m1, m2, p⟩, 1, 0, 0, 4⟩ ⟨⟨t0, u0, 0, 0, 0⟩, ⟨t1, u1, 0, 0, 0⟩, ⟨t2, u2, 0, 0, 0⟩, ⟨3, 0, 0, 0, 0⟩⟩) = true from (decide_eq_decide.2 (op1_iff _ HX.out _)).trans ho) W)
          have R3 := Lib.hid (fun W => right_is (show decide (RightP ⟨⟨b, c, d, m0, m1, m2, p⟩, 3, 0, 1, 4⟩ ⟨⟨t0, u0, 0, 0, 0⟩, ⟨t1, u1, 0, 0, 0⟩, ⟨t2, u2, 0, 0, 0⟩, ⟨3, 0, 0, 0, 0⟩⟩) = true from (decide_eq_decide.2 (op3_iff _ HX.out _)).trans ho) W)
          simp only [W7.val, S11.val, Q4.val] at R1 R3
          clear ho
          go_upto_region 26 with (first | (refine wpl_row (by rfl) 26 _ rfl _ rfl _ _ _ _ s_1.out rfl Try.underlying26 (by kernel_rfl) ?_) | (refine wpl_set rfl 26 _ _ rfl v1.heap.size #[.int .i64 b, .int .i64 c, .int .i64 d, .int .i64 m0, .int .i64 m1, .int .i64 m2, .int .i64 p, .int .i64 1, .int .i64 0, .int .i64 0, .int .i64 4] rfl rfl 26 #[.int .i64 0, .int .i64 0, .int .i64 0, .int .i64 0, .int .i64 0, .int .i64 0, .int .i64 0, .int .i64 0, .int .i64 0, .int .i64 0, .int .i64 0] (heap_alloc_new v1 (.cells #[.int .i64 0, .int .i64 0, .int .i64 0, .int .i64 0, .int .i64 0, .int .i64 0, .int .i64 0, .int .i64 0, .int .i64 0, .int .i64 0, .int .i64 0] 26)) (by kernel_rfl) rfl (by kernel_rfl) ?_; intro v2 hb2 sb2))
          have lt_x_bk : w.heap.size < v1.heap.size := lt_size x_1.out
          have lt_s_bk : w1.heap.size < v1.heap.size := lt_size s_1.out
          have lt_q_bk : w2.heap.size < v1.heap.size := lt_size q_1.out
          have x_2 := Lib.hid (sb2.old x_1.out)
          have s_2 := Lib.hid (sb2.old s_1.out)
          have q_2 := Lib.hid (sb2.old q_1.out)
          have bk_2 := Lib.hid hb2
          have B2 := Lib.hid (sb2.below B1.out B1.out.size)
          clear hb2 sb2 x_1 s_1 q_1 B1
          go_upto_region 27 with (first | (refine wpl_put rfl 3 _ _ rfl v1.heap.size 7 _ #[.int .i64 3] rfl rfl rfl 26 #[.int .i64 b, .int .i64 c, .int .i64 d, .int .i64 m0, .int .i64 m1, .int .i64 m2, .int .i64 p, .int .i64 1, .int .i64 0, .int .i64 0, .int .i64 4] bk_2.out (by kernel_rfl) #[.int .i64 b, .int .i64 c, .int .i64 d, .int .i64 m0, .int .i64 m1, .int .i64 m2, .int .i64 p, .int .i64 3, .int .i64 0, .int .i64 0, .int .i64 4] (by simp [setSeg]) (by simp) (by kernel_rfl) ?_; intro v3 hb3 sb3) | (refine wpl_put rfl 3 _ _ rfl v1.heap.size 9 _ #[.int .i64 1] rfl rfl rfl 26 #[.int .i64 b, .int .i64 c, .int .i64 d, .int .i64 m0, .int .i64 m1, .int .i64 m2, .int .i64 p, .int .i64 3, .int .i64 0, .int .i64 0, .int .i64 4] hb3 (by kernel_rfl) #[.int .i64 b, .int .i64 c, .int .i64 d, .int .i64 m0, .int .i64 m1, .int .i64 m2, .int .i64 p, .int .i64 3, .int .i64 0, .int .i64 1, .int .i64 4] (by simp [setSeg]) (by simp) (by kernel_rfl) ?_; intro v4 hb4 sb4))
          have x_4 := Lib.hid (sb4.blk (sb3.blk x_2.out (by omega)) (by omega))
          have s_4 := Lib.hid (sb4.blk (sb3.blk s_2.out (by omega)) (by omega))
          have q_4 := Lib.hid (sb4.blk (sb3.blk q_2.out (by omega)) (by omega))
          have bk_4 := Lib.hid hb4
          have B4 := Lib.hid (sb4.bel (sb3.bel B2.out (by omega)) (by omega))
          clear x_2 s_2 q_2 bk_2 B2 hb3 sb3 hb4 sb4
          go_wp2_with fail
          refine (T0.out _).mono ?_
          rintro e v5 ⟨rfl, q⟩
          have x_5 := Lib.hid (blk0 x_4.out q)
          have s_5 := Lib.hid (blk0 s_4.out q)
          have q_5 := Lib.hid (blk0 q_4.out q)
          have bk_5 := Lib.hid (blk0 bk_4.out q)
          have B5 := Lib.hid (bel0 B4.out B4.out.size q)
          clear q x_4 s_4 q_4 bk_4 B4
          go_wp2_with (first | (refine wpl_row (by rfl) 26 _ rfl _ rfl _ _ _ _ s_5.out rfl Try.underlying26 (by kernel_rfl) ?_) | (refine wpl_row (by rfl) 68 _ rfl _ rfl _ _ _ _ q_5.out rfl Try.underlying68 (by kernel_rfl) ?_))
          refine (R1.out _).mono ?_
          rintro e v6 ⟨rfl, q⟩
          have x_6 := Lib.hid (blk0 x_5.out q)
          have s_6 := Lib.hid (blk0 s_5.out q)
          have q_6 := Lib.hid (blk0 q_5.out q)
          have bk_6 := Lib.hid (blk0 bk_5.out q)
          have B6 := Lib.hid (bel0 B5.out B5.out.size q)
          clear q x_5 s_5 q_5 bk_5 B5
          go_wp2_with (first | (refine wpl_row (by rfl) 26 _ rfl _ rfl _ _ _ _ bk_6.out rfl Try.underlying26 (by kernel_rfl) ?_) | (refine wpl_row (by rfl) 68 _ rfl _ rfl _ _ _ _ q_6.out rfl Try.underlying68 (by kernel_rfl) ?_))
          refine (R3.out _).mono ?_
          rintro e v7 ⟨rfl, q⟩
          have x_7 := Lib.hid (blk0 x_6.out q)
          have s_7 := Lib.hid (blk0 s_6.out q)
          have q_7 := Lib.hid (blk0 q_6.out q)
          have bk_7 := Lib.hid (blk0 bk_6.out q)
          have B7 := Lib.hid (bel0 B6.out B6.out.size q)
          clear q x_6 s_6 q_6 bk_6 B6
          go_wp2
          go_ret
          exact ⟨rfl, B7.out⟩
theorem auopen_walk (x : W7) (states wrong : Int) (w : World) : Calls Try.prog 14 #[x.val, .int .i64 states, .int .i64 wrong] w fun e w' => e = .returned (.bool true) ∧ Below w.heap.size w w' := by
  by_cases h : MayW x
  · exact auopen_yes x states wrong w h
  · exact auopen_no x states wrong w h
end Go.Proofs.Ytplgodfhhlnojaa
