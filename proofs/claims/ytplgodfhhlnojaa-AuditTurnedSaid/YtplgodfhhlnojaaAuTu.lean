/- The law AuditTurned, walked (printed by gen20c.py). -/
import Derived.Test.YtplgodfhhlnojaaAuTu0
import Derived.Test.YtplgodfhhlnojaaSagaRF
import Derived.Outline
set_option linter.unusedSimpArgs false
set_option linter.unusedVariables false
namespace Go.Proofs.Ytplgodfhhlnojaa
open Go.RowKit
theorem u_rem15 (a m : Int) (h0 : 0 < m) : ∃ n : Nat, (IntKind.u64.wrap a).tmod m = (n : Int) ∧ (n : Int) < m := by
  have h1 : 0 ≤ (IntKind.u64.wrap a).tmod m := by rw [IntKind.wrap_u64]; exact Int.tmod_nonneg _ (Int.emod_nonneg _ (by omega))
  have h2 : (IntKind.u64.wrap a).tmod m < m := by rw [IntKind.wrap_u64, Int.tmod_eq_emod_of_nonneg (Int.emod_nonneg _ (by omega))]; exact Int.emod_lt_of_pos _ h0
  obtain ⟨n, hn⟩ := Int.eq_ofNat_of_zero_le h1
  exact ⟨n, hn, by omega⟩
theorem rnewv {x : W7} {now k : Int} {s : S11} (e : newS x now = (s, k)) (w : World) : Calls Try.prog 33 #[x.val, .int .i64 now] w fun e w' => e = .returned (.tuple #[s.val, .int .i64 k]) ∧ Below w.heap.size w w' := by
  have h := rnew14 x now w
  rw [e] at h
  exact h
set_option maxRecDepth 100000 in
set_option maxHeartbeats 2000000 in
theorem auturned_no (x : W7) (part : Int) (w : World) (h : ¬ MayW x) : Calls Try.prog 12 #[x.val, .int .i64 part] w fun e w' => e = .returned (.bool true) ∧ Below w.heap.size w w' := by
  obtain ⟨b, c, d, m0, m1, m2, p⟩ := x
  have T0 := Lib.hid told20
  have HN := Lib.hid (fun W => rnewv (show newS ⟨b, c, d, m0, m1, m2, p⟩ 0 = (z11, 1) from by rw [newS, if_neg (fun g => h g.1)]) W)
  have HB := Lib.hid (fun W => booked_is (show decide (BookedP ⟨b, c, d, m0, m1, m2, p⟩ ⟨⟨0, 0, 0, 0, 0⟩, ⟨0, 0, 0, 0, 0⟩, ⟨0, 0, 0, 0, 0⟩, ⟨0, 0, 0, 0, 0⟩⟩) = false from decide_eq_false (zero_not h _)) W)
  unfold W7.val S11.val z11 at HN
  simp only [W7.val, Q4.val] at HB
  unfold W7.val
  simp only at HN ⊢
  clear h
  obtain ⟨f1, f3⟩ := one_box w (.cells #[.int .i64 b, .int .i64 c, .int .i64 d, .int .i64 m0, .int .i64 m1, .int .i64 m2, .int .i64 p] 24)
  have x_0 := Lib.hid f1
  have B0 := Lib.hid f3
  clear f1 f3
  go_enter Try.func12, Try.ntmps12
  go_wp2_with (first | (refine wpl_row (by rfl) 24 _ rfl _ rfl _ _ _ _ x_0.out rfl Try.underlying24 (by kernel_rfl) ?_))
  refine (HN.out _).mono ?_
  rintro e w1 ⟨rfl, q⟩
  have x_1 := Lib.hid (blk0 x_0.out q)
  have B1 := Lib.hid (bel0 B0.out B0.out.size q)
  clear q x_0 B0
  go_upto_region 2 with (first | (refine wpl_set rfl 26 _ _ rfl w1.heap.size #[.int .i64 0, .int .i64 0, .int .i64 0, .int .i64 0, .int .i64 0, .int .i64 0, .int .i64 0, .int .i64 0, .int .i64 0, .int .i64 0, .int .i64 0] rfl rfl 26 #[.int .i64 0, .int .i64 0, .int .i64 0, .int .i64 0, .int .i64 0, .int .i64 0, .int .i64 0, .int .i64 0, .int .i64 0, .int .i64 0, .int .i64 0] (heap_alloc_new w1 (.cells #[.int .i64 0, .int .i64 0, .int .i64 0, .int .i64 0, .int .i64 0, .int .i64 0, .int .i64 0, .int .i64 0, .int .i64 0, .int .i64 0, .int .i64 0] 26)) (by kernel_rfl) rfl (by kernel_rfl) ?_; intro w2 hb2 sb2))
  have lt_x_s : w.heap.size < w1.heap.size := lt_size x_1.out
  have x_2 := Lib.hid (sb2.old x_1.out)
  have s_2 := Lib.hid hb2
  have B2 := Lib.hid (sb2.below B1.out B1.out.size)
  clear hb2 sb2 x_1 B1
  clear s_2
  go_wp2_with fail
  refine (T0.out _).mono ?_
  rintro e w3 ⟨rfl, q⟩
  have x_3 := Lib.hid (blk0 x_2.out q)
  have B3 := Lib.hid (bel0 B2.out B2.out.size q)
  clear q x_2 B2
  go_wp2_with (first | (refine wpl_row (by rfl) 24 _ rfl _ rfl _ _ _ _ x_3.out rfl Try.underlying24 (by kernel_rfl) ?_) | (refine wpl_build (by rfl) 68 _ rfl #[.int .i64 0, .int .i64 0, .int .i64 0, .int .i64 0, .int .i64 0, .int .i64 0, .int .i64 0, .int .i64 0, .int .i64 0, .int .i64 0, .int .i64 0, .int .i64 0, .int .i64 0, .int .i64 0, .int .i64 0, .int .i64 0, .int .i64 0, .int .i64 0, .int .i64 0, .int .i64 0] (by kernel_rfl) ?_))
  refine (HB.out _).mono ?_
  rintro e w4 ⟨rfl, q⟩
  have x_4 := Lib.hid (blk0 x_3.out q)
  have B4 := Lib.hid (bel0 B3.out B3.out.size q)
  clear q x_3 B3
  go_wp2
  go_ret
  exact ⟨rfl, B4.out⟩
set_option maxRecDepth 100000 in
set_option maxHeartbeats 4000000 in
theorem auturned_yes (x : W7) (part : Int) (w : World) (h : MayW x) : Calls Try.prog 12 #[x.val, .int .i64 part] w fun e w' => e = .returned (.bool true) ∧ Below w.heap.size w w' := by
  obtain ⟨n, hpn, hn9⟩ := u_rem15 part 9 (by omega)
  obtain ⟨b, c, d, m0, m1, m2, p⟩ := x
  have T0 := Lib.hid told20
  have HN := Lib.hid (fun W => rnewv (show newS ⟨b, c, d, m0, m1, m2, p⟩ 0 = (⟨⟨b, c, d, m0, m1, m2, p⟩, 1, 0, 0, 0⟩, 0) from by rw [newS, if_pos ⟨h, by omega, by omega⟩]) W)
  unfold W7.val S11.val at HN
  unfold W7.val
  simp only at HN ⊢
  have HX := Lib.hid h
  obtain ⟨⟨⟨l0, g0⟩, ⟨l1, g1⟩, l2, g2⟩, _, _, ⟨lc, gc⟩, _, lp, gp⟩ := h
  simp only at l0 g0 l1 g1 l2 g2 lc gc lp gp
  obtain ⟨f1, f3⟩ := one_box w (.cells #[.int .i64 b, .int .i64 c, .int .i64 d, .int .i64 m0, .int .i64 m1, .int .i64 m2, .int .i64 p] 24)
  have x_0 := Lib.hid f1
  have B0 := Lib.hid f3
  clear f1 f3
  go_enter Try.func12, Try.ntmps12
  go_wp2_with (first | (refine wpl_row (by rfl) 24 _ rfl _ rfl _ _ _ _ x_0.out rfl Try.underlying24 (by kernel_rfl) ?_))
  refine (HN.out _).mono ?_
  rintro e w1 ⟨rfl, q⟩
  have x_1 := Lib.hid (blk0 x_0.out q)
  have B1 := Lib.hid (bel0 B0.out B0.out.size q)
  clear q x_0 B0
  go_upto_region 2 with (first | (refine wpl_set rfl 26 _ _ rfl w1.heap.size #[.int .i64 b, .int .i64 c, .int .i64 d, .int .i64 m0, .int .i64 m1, .int .i64 m2, .int .i64 p, .int .i64 1, .int .i64 0, .int .i64 0, .int .i64 0] rfl rfl 26 #[.int .i64 0, .int .i64 0, .int .i64 0, .int .i64 0, .int .i64 0, .int .i64 0, .int .i64 0, .int .i64 0, .int .i64 0, .int .i64 0, .int .i64 0] (heap_alloc_new w1 (.cells #[.int .i64 0, .int .i64 0, .int .i64 0, .int .i64 0, .int .i64 0, .int .i64 0, .int .i64 0, .int .i64 0, .int .i64 0, .int .i64 0, .int .i64 0] 26)) (by kernel_rfl) rfl (by kernel_rfl) ?_; intro w2 hb2 sb2))
  have lt_x_s : w.heap.size < w1.heap.size := lt_size x_1.out
  have x_2 := Lib.hid (sb2.old x_1.out)
  have s_2 := Lib.hid hb2
  have B2 := Lib.hid (sb2.below B1.out B1.out.size)
  clear hb2 sb2 x_1 B1
  go_upto_region 5 with fail
  have lt_x_q : w.heap.size < w2.heap.size := lt_size x_2.out
  have lt_s_q : w1.heap.size < w2.heap.size := lt_size s_2.out
  have x_3 : Hid ((w2.alloc (.cells #[.int .i64 0, .int .i64 0, .int .i64 0, .int .i64 0, .int .i64 0, .int .i64 0, .int .i64 0, .int .i64 0, .int .i64 0, .int .i64 0, .int .i64 0, .int .i64 0, .int .i64 0, .int .i64 0, .int .i64 0, .int .i64 0, .int .i64 0, .int .i64 0, .int .i64 0, .int .i64 0] 68)).heap[w.heap.size]? = some (.cells #[.int .i64 b, .int .i64 c, .int .i64 d, .int .i64 m0, .int .i64 m1, .int .i64 m2, .int .i64 p] 24 (0, 0))) := Lib.hid (alc x_2.out)
  have s_3 : Hid ((w2.alloc (.cells #[.int .i64 0, .int .i64 0, .int .i64 0, .int .i64 0, .int .i64 0, .int .i64 0, .int .i64 0, .int .i64 0, .int .i64 0, .int .i64 0, .int .i64 0, .int .i64 0, .int .i64 0, .int .i64 0, .int .i64 0, .int .i64 0, .int .i64 0, .int .i64 0, .int .i64 0, .int .i64 0] 68)).heap[w1.heap.size]? = some (.cells #[.int .i64 b, .int .i64 c, .int .i64 d, .int .i64 m0, .int .i64 m1, .int .i64 m2, .int .i64 p, .int .i64 1, .int .i64 0, .int .i64 0, .int .i64 0] 26 (0, 0))) := Lib.hid (alc s_2.out)
  have q_3 : Hid ((w2.alloc (.cells #[.int .i64 0, .int .i64 0, .int .i64 0, .int .i64 0, .int .i64 0, .int .i64 0, .int .i64 0, .int .i64 0, .int .i64 0, .int .i64 0, .int .i64 0, .int .i64 0, .int .i64 0, .int .i64 0, .int .i64 0, .int .i64 0, .int .i64 0, .int .i64 0, .int .i64 0, .int .i64 0] 68)).heap[w2.heap.size]? = some (.cells #[.int .i64 0, .int .i64 0, .int .i64 0, .int .i64 0, .int .i64 0, .int .i64 0, .int .i64 0, .int .i64 0, .int .i64 0, .int .i64 0, .int .i64 0, .int .i64 0, .int .i64 0, .int .i64 0, .int .i64 0, .int .i64 0, .int .i64 0, .int .i64 0, .int .i64 0, .int .i64 0] 68 (0, 0))) := Lib.hid (heap_alloc_new w2 _)
  have B3 : Hid (Below w.heap.size w (w2.alloc (.cells #[.int .i64 0, .int .i64 0, .int .i64 0, .int .i64 0, .int .i64 0, .int .i64 0, .int .i64 0, .int .i64 0, .int .i64 0, .int .i64 0, .int .i64 0, .int .i64 0, .int .i64 0, .int .i64 0, .int .i64 0, .int .i64 0, .int .i64 0, .int .i64 0, .int .i64 0, .int .i64 0] 68))) := Lib.hid (B2.out.alloc B2.out.size _)
  clear x_2 s_2 B2
  generalize (w2.alloc (.cells #[.int .i64 0, .int .i64 0, .int .i64 0, .int .i64 0, .int .i64 0, .int .i64 0, .int .i64 0, .int .i64 0, .int .i64 0, .int .i64 0, .int .i64 0, .int .i64 0, .int .i64 0, .int .i64 0, .int .i64 0, .int .i64 0, .int .i64 0, .int .i64 0, .int .i64 0, .int .i64 0] 68)) = w3 at x_3 s_3 q_3 B3 ⊢
  go_wp2_with fail
  go_loopw [8] (fun i wr => ∃ (k : Nat) (t0 u0 t1 u1 t2 u2 : Int), k ≤ 3 ∧ i = .int .i64 k ∧ Hid ((((1 ≤ k → OkE m0 t0 u0) ∧ (k ≤ 0 → t0 = 0 ∧ u0 = 0)) ∧ ((2 ≤ k → OkE m1 t1 u1) ∧ (k ≤ 1 → t1 = 0 ∧ u1 = 0)) ∧ ((3 ≤ k → OkE m2 t2 u2) ∧ (k ≤ 2 → t2 = 0 ∧ u2 = 0))) ∧ wr.heap[w.heap.size]? = some (.cells #[.int .i64 b, .int .i64 c, .int .i64 d, .int .i64 m0, .int .i64 m1, .int .i64 m2, .int .i64 p] 24 (0, 0)) ∧ wr.heap[w1.heap.size]? = some (.cells #[.int .i64 b, .int .i64 c, .int .i64 d, .int .i64 m0, .int .i64 m1, .int .i64 m2, .int .i64 p, .int .i64 1, .int .i64 0, .int .i64 0, .int .i64 0] 26 (0, 0)) ∧ wr.heap[w2.heap.size]? = some (.cells #[.int .i64 t0, .int .i64 u0, .int .i64 0, .int .i64 0, .int .i64 0, .int .i64 t1, .int .i64 u1, .int .i64 0, .int .i64 0, .int .i64 0, .int .i64 t2, .int .i64 u2, .int .i64 0, .int .i64 0, .int .i64 0, .int .i64 0, .int .i64 0, .int .i64 0, .int .i64 0, .int .i64 0] 68 (0, 0)) ∧ Below w.heap.size w wr)) (fun i _ => 3 - (intOf i).toNat)
  case atStart => exact ⟨0, 0, 0, 0, 0, 0, 0, by omega, rfl, Lib.hid ⟨⟨⟨by omega, fun _ => ⟨rfl, rfl⟩⟩, ⟨by omega, fun _ => ⟨rfl, rfl⟩⟩, ⟨by omega, fun _ => ⟨rfl, rfl⟩⟩⟩, x_3.out, s_3.out, q_3.out, B3.out⟩⟩
  case round =>
    obtain ⟨k, t0, u0, t1, u1, t2, u2, hk, rfl, HS⟩ := hrel
    obtain ⟨hv, x0, s0, q0, B0⟩ := HS.out
    have HV := Lib.hid hv
    have x_0 := Lib.hid x0
    have s_0 := Lib.hid s0
    have q_0 := Lib.hid q0
    replace B0 := Lib.hid B0
    clear hv x0 s0 q0 HS x_3 s_3 q_3 B3
    have : k = 0 ∨ k = 1 ∨ k = 2 ∨ k = 3 := by omega
    rcases this with rfl | rfl | rfl | rfl
    · skip
      have cm : wr.cell? ⟨w.heap.size, 3, none⟩ = some (.int .i64 m0) := (cellsB (i := 3) x_0.out).trans rfl
      by_cases hm : 0 < m0
      · skip
        have hd : decide (0 < m0) = true := decide_eq_true hm
        go_wp2_with (first | (refine wpl_build (by rfl) 67 _ rfl #[.int .i64 2, .int .i64 m0, .int .i64 0, .int .i64 0, .int .i64 0] (by kernel_rfl) ?_) | (refine wpl_put rfl 67 _ _ rfl w2.heap.size 0 _ #[.int .i64 2, .int .i64 m0, .int .i64 0, .int .i64 0, .int .i64 0] rfl rfl rfl 68 #[.int .i64 t0, .int .i64 u0, .int .i64 0, .int .i64 0, .int .i64 0, .int .i64 t1, .int .i64 u1, .int .i64 0, .int .i64 0, .int .i64 0, .int .i64 t2, .int .i64 u2, .int .i64 0, .int .i64 0, .int .i64 0, .int .i64 0, .int .i64 0, .int .i64 0, .int .i64 0, .int .i64 0] q_0.out (by kernel_rfl) #[.int .i64 2, .int .i64 m0, .int .i64 0, .int .i64 0, .int .i64 0, .int .i64 t1, .int .i64 u1, .int .i64 0, .int .i64 0, .int .i64 0, .int .i64 t2, .int .i64 u2, .int .i64 0, .int .i64 0, .int .i64 0, .int .i64 0, .int .i64 0, .int .i64 0, .int .i64 0, .int .i64 0] (by simp [setSeg]) (by simp) (by kernel_rfl) ?_; intro v1 hb1 sb1))
        go_roundw
        case rel => exact ⟨0 + 1, 2, m0, t1, u1, t2, u2, by omega, by first | rfl | go_num, Lib.hid ⟨⟨⟨fun _ => ⟨rfl, .inl ⟨hm, rfl⟩⟩, by omega⟩, ⟨by omega, fun _ => HV.out.2.1.2 (by omega)⟩, ⟨by omega, fun _ => HV.out.2.2.2 (by omega)⟩⟩, sb1.blk x_0.out (by omega), sb1.blk s_0.out (by omega), hb1, sb1.bel B0.out (by omega)⟩⟩
        case measure => simp [intOf]
      have hd : decide (0 < m0) = false := decide_eq_false hm
      have HM0 := Lib.hid hm
      clear hm
      go_wp2_with fail
      go_roundw
      case rel => exact ⟨0 + 1, t0, u0, t1, u1, t2, u2, by omega, by first | rfl | go_num, Lib.hid ⟨⟨⟨fun _ => (by obtain ⟨rfl, rfl⟩ := HV.out.1.2 (by omega); exact ⟨by have := HM0.out; omega, .inr ⟨by have := HM0.out; omega, rfl⟩⟩), by omega⟩, ⟨by omega, fun _ => HV.out.2.1.2 (by omega)⟩, ⟨by omega, fun _ => HV.out.2.2.2 (by omega)⟩⟩, x_0.out, s_0.out, q_0.out, B0.out⟩⟩
      case measure => simp [intOf]
    · skip
      have cm : wr.cell? ⟨w.heap.size, 4, none⟩ = some (.int .i64 m1) := (cellsB (i := 4) x_0.out).trans rfl
      by_cases hm : 0 < m1
      · skip
        have hd : decide (0 < m1) = true := decide_eq_true hm
        go_wp2_with (first | (refine wpl_build (by rfl) 67 _ rfl #[.int .i64 2, .int .i64 m1, .int .i64 0, .int .i64 0, .int .i64 0] (by kernel_rfl) ?_) | (refine wpl_put rfl 67 _ _ rfl w2.heap.size 5 _ #[.int .i64 2, .int .i64 m1, .int .i64 0, .int .i64 0, .int .i64 0] rfl rfl rfl 68 #[.int .i64 t0, .int .i64 u0, .int .i64 0, .int .i64 0, .int .i64 0, .int .i64 t1, .int .i64 u1, .int .i64 0, .int .i64 0, .int .i64 0, .int .i64 t2, .int .i64 u2, .int .i64 0, .int .i64 0, .int .i64 0, .int .i64 0, .int .i64 0, .int .i64 0, .int .i64 0, .int .i64 0] q_0.out (by kernel_rfl) #[.int .i64 t0, .int .i64 u0, .int .i64 0, .int .i64 0, .int .i64 0, .int .i64 2, .int .i64 m1, .int .i64 0, .int .i64 0, .int .i64 0, .int .i64 t2, .int .i64 u2, .int .i64 0, .int .i64 0, .int .i64 0, .int .i64 0, .int .i64 0, .int .i64 0, .int .i64 0, .int .i64 0] (by simp [setSeg]) (by simp) (by kernel_rfl) ?_; intro v1 hb1 sb1))
        go_roundw
        case rel => exact ⟨1 + 1, t0, u0, 2, m1, t2, u2, by omega, by first | rfl | go_num, Lib.hid ⟨⟨⟨fun _ => HV.out.1.1 (by omega), by omega⟩, ⟨fun _ => ⟨rfl, .inl ⟨hm, rfl⟩⟩, by omega⟩, ⟨by omega, fun _ => HV.out.2.2.2 (by omega)⟩⟩, sb1.blk x_0.out (by omega), sb1.blk s_0.out (by omega), hb1, sb1.bel B0.out (by omega)⟩⟩
        case measure => simp [intOf]
      have hd : decide (0 < m1) = false := decide_eq_false hm
      have HM0 := Lib.hid hm
      clear hm
      go_wp2_with fail
      go_roundw
      case rel => exact ⟨1 + 1, t0, u0, t1, u1, t2, u2, by omega, by first | rfl | go_num, Lib.hid ⟨⟨⟨fun _ => HV.out.1.1 (by omega), by omega⟩, ⟨fun _ => (by obtain ⟨rfl, rfl⟩ := HV.out.2.1.2 (by omega); exact ⟨by have := HM0.out; omega, .inr ⟨by have := HM0.out; omega, rfl⟩⟩), by omega⟩, ⟨by omega, fun _ => HV.out.2.2.2 (by omega)⟩⟩, x_0.out, s_0.out, q_0.out, B0.out⟩⟩
      case measure => simp [intOf]
    · skip
      have cm : wr.cell? ⟨w.heap.size, 5, none⟩ = some (.int .i64 m2) := (cellsB (i := 5) x_0.out).trans rfl
      by_cases hm : 0 < m2
      · skip
        have hd : decide (0 < m2) = true := decide_eq_true hm
        go_wp2_with (first | (refine wpl_build (by rfl) 67 _ rfl #[.int .i64 2, .int .i64 m2, .int .i64 0, .int .i64 0, .int .i64 0] (by kernel_rfl) ?_) | (refine wpl_put rfl 67 _ _ rfl w2.heap.size 10 _ #[.int .i64 2, .int .i64 m2, .int .i64 0, .int .i64 0, .int .i64 0] rfl rfl rfl 68 #[.int .i64 t0, .int .i64 u0, .int .i64 0, .int .i64 0, .int .i64 0, .int .i64 t1, .int .i64 u1, .int .i64 0, .int .i64 0, .int .i64 0, .int .i64 t2, .int .i64 u2, .int .i64 0, .int .i64 0, .int .i64 0, .int .i64 0, .int .i64 0, .int .i64 0, .int .i64 0, .int .i64 0] q_0.out (by kernel_rfl) #[.int .i64 t0, .int .i64 u0, .int .i64 0, .int .i64 0, .int .i64 0, .int .i64 t1, .int .i64 u1, .int .i64 0, .int .i64 0, .int .i64 0, .int .i64 2, .int .i64 m2, .int .i64 0, .int .i64 0, .int .i64 0, .int .i64 0, .int .i64 0, .int .i64 0, .int .i64 0, .int .i64 0] (by simp [setSeg]) (by simp) (by kernel_rfl) ?_; intro v1 hb1 sb1))
        go_roundw
        case rel => exact ⟨2 + 1, t0, u0, t1, u1, 2, m2, by omega, by first | rfl | go_num, Lib.hid ⟨⟨⟨fun _ => HV.out.1.1 (by omega), by omega⟩, ⟨fun _ => HV.out.2.1.1 (by omega), by omega⟩, ⟨fun _ => ⟨rfl, .inl ⟨hm, rfl⟩⟩, by omega⟩⟩, sb1.blk x_0.out (by omega), sb1.blk s_0.out (by omega), hb1, sb1.bel B0.out (by omega)⟩⟩
        case measure => simp [intOf]
      have hd : decide (0 < m2) = false := decide_eq_false hm
      have HM0 := Lib.hid hm
      clear hm
      go_wp2_with fail
      go_roundw
      case rel => exact ⟨2 + 1, t0, u0, t1, u1, t2, u2, by omega, by first | rfl | go_num, Lib.hid ⟨⟨⟨fun _ => HV.out.1.1 (by omega), by omega⟩, ⟨fun _ => HV.out.2.1.1 (by omega), by omega⟩, ⟨fun _ => (by obtain ⟨rfl, rfl⟩ := HV.out.2.2.2 (by omega); exact ⟨by have := HM0.out; omega, .inr ⟨by have := HM0.out; omega, rfl⟩⟩), by omega⟩⟩, x_0.out, s_0.out, q_0.out, B0.out⟩⟩
      case measure => simp [intOf]
    · skip
      have o0 := HV.out.1.1 (by omega)
      have o1 := HV.out.2.1.1 (by omega)
      have o2 := HV.out.2.2.1 (by omega)
      have O0 := Lib.hid o0
      have O1 := Lib.hid o1
      have O2 := Lib.hid o2
      have bu0 : 0 ≤ u0 ∧ u0 ≤ 1000 := by have := o0.1; omega
      have bu1 : 0 ≤ u1 ∧ u1 ≤ 1000 := by have := o1.1; omega
      have bu2 : 0 ≤ u2 ∧ u2 ≤ 1000 := by have := o2.1; omega
      clear o0 o1 o2
      have L1_1 : wr.cell? ⟨w.heap.size, 1, none⟩ = some (.int .i64 c) := (cellsB (i := 1) x_0.out).trans rfl
      have L1_6 : wr.cell? ⟨w.heap.size, 6, none⟩ = some (.int .i64 p) := (cellsB (i := 6) x_0.out).trans rfl
      go_upto_region 11 with (first | (refine wpl_build (by rfl) 67 _ rfl #[.int .i64 5, .int .i64 0, .int .i64 0, .int .i64 c, .int .i64 p] (by kernel_rfl) ?_) | (refine wpl_put rfl 67 _ _ rfl w2.heap.size 15 _ #[.int .i64 5, .int .i64 0, .int .i64 0, .int .i64 c, .int .i64 p] rfl rfl rfl 68 #[.int .i64 t0, .int .i64 u0, .int .i64 0, .int .i64 0, .int .i64 0, .int .i64 t1, .int .i64 u1, .int .i64 0, .int .i64 0, .int .i64 0, .int .i64 t2, .int .i64 u2, .int .i64 0, .int .i64 0, .int .i64 0, .int .i64 0, .int .i64 0, .int .i64 0, .int .i64 0, .int .i64 0] q_0.out (by kernel_rfl) #[.int .i64 t0, .int .i64 u0, .int .i64 0, .int .i64 0, .int .i64 0, .int .i64 t1, .int .i64 u1, .int .i64 0, .int .i64 0, .int .i64 0, .int .i64 t2, .int .i64 u2, .int .i64 0, .int .i64 0, .int .i64 0, .int .i64 5, .int .i64 0, .int .i64 0, .int .i64 c, .int .i64 p] (by simp [setSeg]) (by simp) (by kernel_rfl) ?_; intro v1 hb1 sb1))
      have x_1 := Lib.hid (sb1.blk x_0.out (by omega))
      have s_1 := Lib.hid (sb1.blk s_0.out (by omega))
      have q_1 := Lib.hid hb1
      have B1 := Lib.hid (sb1.bel B0.out (by omega))
      clear x_0 s_0 q_0 B0 hb1 sb1 L1_1 L1_6
      go_upto_region 12 with (first | (refine wpl_put rfl 3 _ _ rfl w1.heap.size 7 _ #[.int .i64 4] rfl rfl rfl 26 #[.int .i64 b, .int .i64 c, .int .i64 d, .int .i64 m0, .int .i64 m1, .int .i64 m2, .int .i64 p, .int .i64 1, .int .i64 0, .int .i64 0, .int .i64 0] s_1.out (by kernel_rfl) #[.int .i64 b, .int .i64 c, .int .i64 d, .int .i64 m0, .int .i64 m1, .int .i64 m2, .int .i64 p, .int .i64 4, .int .i64 0, .int .i64 0, .int .i64 0] (by simp [setSeg]) (by simp) (by kernel_rfl) ?_; intro v2 hb2 sb2))
      have x_2 := Lib.hid (sb2.blk x_1.out (by omega))
      have q_2 := Lib.hid (sb2.blk q_1.out (by omega))
      have s_2 := Lib.hid hb2
      have B2 := Lib.hid (sb2.bel B1.out (by omega))
      clear x_1 s_1 q_1 B1 hb2 sb2
      have C1 := Lib.hid (fun W => booked_is (show decide (BookedP ⟨b, c, d, m0, m1, m2, p⟩ (qB ⟨b, c, d, m0, m1, m2, p⟩ t0 u0 t1 u1 t2 u2)) = true from decide_eq_true (qB_booked HX.out O0.out O1.out O2.out)) W)
      simp only [W7.val, S11.val, Q4.val, qB] at C1
      have C2 := Lib.hid (fun W => right_is (show decide (RightP ⟨⟨b, c, d, m0, m1, m2, p⟩, 4, 0, 0, 0⟩ (qB ⟨b, c, d, m0, m1, m2, p⟩ t0 u0 t1 u1 t2 u2)) = true from decide_eq_true ((r4_iff _ HX.out _).2 (qB_booked HX.out O0.out O1.out O2.out))) W)
      simp only [W7.val, S11.val, Q4.val, qB] at C2
      have C3 := Lib.hid (fun W => nothing_is (show decide (NothingP (qB ⟨b, c, d, m0, m1, m2, p⟩ t0 u0 t1 u1 t2 u2)) = false from decide_eq_false (qB_some)) W)
      simp only [W7.val, S11.val, Q4.val, qB] at C3
      have C4 := Lib.hid (fun W => right_is (show decide (RightP ⟨⟨b, c, d, m0, m1, m2, p⟩, 2, 0, 0, 0⟩ (qB ⟨b, c, d, m0, m1, m2, p⟩ t0 u0 t1 u1 t2 u2)) = true from decide_eq_true ((r2_iff _ HX.out _).2 ⟨qB_all HX.out O0.out O1.out O2.out, .inl ⟨rfl, rfl, rfl⟩⟩)) W)
      simp only [W7.val, S11.val, Q4.val, qB] at C4
      go_wp2_with (first | (refine wpl_row (by rfl) 24 _ rfl _ rfl _ _ _ _ x_2.out rfl Try.underlying24 (by kernel_rfl) ?_) | (refine wpl_row (by rfl) 68 _ rfl _ rfl _ _ _ _ q_2.out rfl Try.underlying68 (by kernel_rfl) ?_))
      refine (C1.out _).mono ?_
      rintro e v3 ⟨rfl, q⟩
      have x_3 := Lib.hid (blk0 x_2.out q)
      have s_3 := Lib.hid (blk0 s_2.out q)
      have q_3 := Lib.hid (blk0 q_2.out q)
      have B3 := Lib.hid (bel0 B2.out B2.out.size q)
      clear q x_2 s_2 q_2 B2
      go_wp2_with (first | (refine wpl_row (by rfl) 26 _ rfl _ rfl _ _ _ _ s_3.out rfl Try.underlying26 (by kernel_rfl) ?_) | (refine wpl_row (by rfl) 68 _ rfl _ rfl _ _ _ _ q_3.out rfl Try.underlying68 (by kernel_rfl) ?_))
      refine (C2.out _).mono ?_
      rintro e v4 ⟨rfl, q⟩
      have x_4 := Lib.hid (blk0 x_3.out q)
      have s_4 := Lib.hid (blk0 s_3.out q)
      have q_4 := Lib.hid (blk0 q_3.out q)
      have B4 := Lib.hid (bel0 B3.out B3.out.size q)
      clear q x_3 s_3 q_3 B3
      go_wp2_with (first | (refine wpl_row (by rfl) 68 _ rfl _ rfl _ _ _ _ q_4.out rfl Try.underlying68 (by kernel_rfl) ?_))
      refine (C3.out _).mono ?_
      rintro e v5 ⟨rfl, q⟩
      have x_5 := Lib.hid (blk0 x_4.out q)
      have s_5 := Lib.hid (blk0 s_4.out q)
      have q_5 := Lib.hid (blk0 q_4.out q)
      have B5 := Lib.hid (bel0 B4.out B4.out.size q)
      clear q x_4 s_4 q_4 B4
      go_upto_region 15 with (first | (refine wpl_row (by rfl) 68 _ rfl _ rfl _ _ _ _ q_5.out rfl Try.underlying68 (by kernel_rfl) ?_) | (refine wpl_set rfl 68 _ _ rfl v5.heap.size #[.int .i64 t0, .int .i64 u0, .int .i64 0, .int .i64 0, .int .i64 0, .int .i64 t1, .int .i64 u1, .int .i64 0, .int .i64 0, .int .i64 0, .int .i64 t2, .int .i64 u2, .int .i64 0, .int .i64 0, .int .i64 0, .int .i64 5, .int .i64 0, .int .i64 0, .int .i64 c, .int .i64 p] rfl rfl 68 #[.int .i64 0, .int .i64 0, .int .i64 0, .int .i64 0, .int .i64 0, .int .i64 0, .int .i64 0, .int .i64 0, .int .i64 0, .int .i64 0, .int .i64 0, .int .i64 0, .int .i64 0, .int .i64 0, .int .i64 0, .int .i64 0, .int .i64 0, .int .i64 0, .int .i64 0, .int .i64 0] (heap_alloc_new v5 (.cells #[.int .i64 0, .int .i64 0, .int .i64 0, .int .i64 0, .int .i64 0, .int .i64 0, .int .i64 0, .int .i64 0, .int .i64 0, .int .i64 0, .int .i64 0, .int .i64 0, .int .i64 0, .int .i64 0, .int .i64 0, .int .i64 0, .int .i64 0, .int .i64 0, .int .i64 0, .int .i64 0] 68)) (by kernel_rfl) rfl (by kernel_rfl) ?_; intro v6 hb6 sb6))
      have lt_x_y : w.heap.size < v5.heap.size := lt_size x_5.out
      have lt_s_y : w1.heap.size < v5.heap.size := lt_size s_5.out
      have lt_q_y : w2.heap.size < v5.heap.size := lt_size q_5.out
      have x_6 := Lib.hid (sb6.old x_5.out)
      have s_6 := Lib.hid (sb6.old s_5.out)
      have q_6 := Lib.hid (sb6.old q_5.out)
      have y_6 := Lib.hid hb6
      have B6 := Lib.hid (sb6.below B5.out B5.out.size)
      clear hb6 sb6 x_5 s_5 q_5 B5
      go_upto_block 2 with fail
      go_cut [10] (fun v wx => v = .int .i64 n ∧ ∃ y00 y01 y02 y03 y04 y10 y11 y12 y13 y14 y20 y21 y22 y23 y24 y30 y31 y32 y33 y34 : Int, Hid (TurnedP ⟨b, c, d, m0, m1, m2, p⟩ ⟨⟨y00, y01, y02, y03, y04⟩, ⟨y10, y11, y12, y13, y14⟩, ⟨y20, y21, y22, y23, y24⟩, ⟨y30, y31, y32, y33, y34⟩⟩ n ∧ wx.heap[w.heap.size]? = some (.cells #[.int .i64 b, .int .i64 c, .int .i64 d, .int .i64 m0, .int .i64 m1, .int .i64 m2, .int .i64 p] 24 (0, 0)) ∧ wx.heap[w1.heap.size]? = some (.cells #[.int .i64 b, .int .i64 c, .int .i64 d, .int .i64 m0, .int .i64 m1, .int .i64 m2, .int .i64 p, .int .i64 4, .int .i64 0, .int .i64 0, .int .i64 0] 26 (0, 0)) ∧ wx.heap[w2.heap.size]? = some (.cells #[.int .i64 t0, .int .i64 u0, .int .i64 0, .int .i64 0, .int .i64 0, .int .i64 t1, .int .i64 u1, .int .i64 0, .int .i64 0, .int .i64 0, .int .i64 t2, .int .i64 u2, .int .i64 0, .int .i64 0, .int .i64 0, .int .i64 5, .int .i64 0, .int .i64 0, .int .i64 c, .int .i64 p] 68 (0, 0)) ∧ wx.heap[v5.heap.size]? = some (.cells #[.int .i64 y00, .int .i64 y01, .int .i64 y02, .int .i64 y03, .int .i64 y04, .int .i64 y10, .int .i64 y11, .int .i64 y12, .int .i64 y13, .int .i64 y14, .int .i64 y20, .int .i64 y21, .int .i64 y22, .int .i64 y23, .int .i64 y24, .int .i64 y30, .int .i64 y31, .int .i64 y32, .int .i64 y33, .int .i64 y34] 68 (0, 0)) ∧ Below w.heap.size w wx))
      case first =>
        have : n = 0 ∨ n = 1 ∨ n = 2 ∨ n = 3 ∨ n = 4 ∨ n = 5 ∨ n = 6 ∨ n = 7 ∨ n = 8 := by omega
        rcases this with rfl | rfl | rfl | rfl | rfl | rfl | rfl | rfl | rfl
        · skip
          rcases O0.out.2 with ⟨hmj, ht⟩ | ⟨hmj, ht⟩
          · skip
            clear hmj
            have bt : (t0 == 0) = false := by rw [ht]; rfl
            have HT := Lib.hid ht
            clear ht
            have L1_0 : v6.cell? ⟨v5.heap.size, 0, none⟩ = some (.int .i64 t0) := (cellsB (i := 0) y_6.out).trans rfl
            have L1_1 : v6.cell? ⟨v5.heap.size, 1, none⟩ = some (.int .i64 u0) := (cellsB (i := 1) y_6.out).trans rfl
            go_upto_region 22 with (first | (refine wpl_put rfl 3 _ _ rfl v5.heap.size 1 _ #[.int .i64 (u0 + 1)] rfl rfl rfl 68 #[.int .i64 t0, .int .i64 u0, .int .i64 0, .int .i64 0, .int .i64 0, .int .i64 t1, .int .i64 u1, .int .i64 0, .int .i64 0, .int .i64 0, .int .i64 t2, .int .i64 u2, .int .i64 0, .int .i64 0, .int .i64 0, .int .i64 5, .int .i64 0, .int .i64 0, .int .i64 c, .int .i64 p] y_6.out (by kernel_rfl) #[.int .i64 t0, .int .i64 (u0 + 1), .int .i64 0, .int .i64 0, .int .i64 0, .int .i64 t1, .int .i64 u1, .int .i64 0, .int .i64 0, .int .i64 0, .int .i64 t2, .int .i64 u2, .int .i64 0, .int .i64 0, .int .i64 0, .int .i64 5, .int .i64 0, .int .i64 0, .int .i64 c, .int .i64 p] (by simp [setSeg]) (by simp) (by kernel_rfl) ?_; intro v7 hb7 sb7))
            have x_7 := Lib.hid (sb7.blk x_6.out (by omega))
            have s_7 := Lib.hid (sb7.blk s_6.out (by omega))
            have q_7 := Lib.hid (sb7.blk q_6.out (by omega))
            have y_7 := Lib.hid hb7
            have B7 := Lib.hid (sb7.bel B6.out (by omega))
            clear x_6 s_6 q_6 y_6 B6 hb7 sb7
            clear L1_0 L1_1
            have L2_0 : v7.cell? ⟨v5.heap.size, 0, none⟩ = some (.int .i64 t0) := (cellsB (i := 0) y_7.out).trans rfl
            go_wp2_with fail
            go_meet
            refine ⟨rfl, t0, (u0 + 1), 0, 0, 0, t1, u1, 0, 0, 0, t2, u2, 0, 0, 0, 5, 0, 0, c, p, Lib.hid ⟨turned_all HX.out (by decide) (fun g => ok_inc2 O0.out HT.out g.1), x_7.out, s_7.out, q_7.out, y_7.out, B7.out⟩⟩
          · skip
            clear hmj
            have bt : (t0 == 0) = true := by rw [ht]; rfl
            have HT := Lib.hid ht
            clear ht
            have L1_0 : v6.cell? ⟨v5.heap.size, 0, none⟩ = some (.int .i64 t0) := (cellsB (i := 0) y_6.out).trans rfl
            have L1_1 : v6.cell? ⟨v5.heap.size, 1, none⟩ = some (.int .i64 u0) := (cellsB (i := 1) y_6.out).trans rfl
            go_upto_region 22 with (first | (refine wpl_put rfl 3 _ _ rfl v5.heap.size 1 _ #[.int .i64 (u0 + 1)] rfl rfl rfl 68 #[.int .i64 t0, .int .i64 u0, .int .i64 0, .int .i64 0, .int .i64 0, .int .i64 t1, .int .i64 u1, .int .i64 0, .int .i64 0, .int .i64 0, .int .i64 t2, .int .i64 u2, .int .i64 0, .int .i64 0, .int .i64 0, .int .i64 5, .int .i64 0, .int .i64 0, .int .i64 c, .int .i64 p] y_6.out (by kernel_rfl) #[.int .i64 t0, .int .i64 (u0 + 1), .int .i64 0, .int .i64 0, .int .i64 0, .int .i64 t1, .int .i64 u1, .int .i64 0, .int .i64 0, .int .i64 0, .int .i64 t2, .int .i64 u2, .int .i64 0, .int .i64 0, .int .i64 0, .int .i64 5, .int .i64 0, .int .i64 0, .int .i64 c, .int .i64 p] (by simp [setSeg]) (by simp) (by kernel_rfl) ?_; intro v7 hb7 sb7))
            have x_7 := Lib.hid (sb7.blk x_6.out (by omega))
            have s_7 := Lib.hid (sb7.blk s_6.out (by omega))
            have q_7 := Lib.hid (sb7.blk q_6.out (by omega))
            have y_7 := Lib.hid hb7
            have B7 := Lib.hid (sb7.bel B6.out (by omega))
            clear x_6 s_6 q_6 y_6 B6 hb7 sb7
            clear L1_0 L1_1
            have L2_0 : v7.cell? ⟨v5.heap.size, 0, none⟩ = some (.int .i64 t0) := (cellsB (i := 0) y_7.out).trans rfl
            go_wp2_with (first | (refine wpl_put rfl 3 _ _ rfl v5.heap.size 0 _ #[.int .i64 2] rfl rfl rfl 68 #[.int .i64 t0, .int .i64 (u0 + 1), .int .i64 0, .int .i64 0, .int .i64 0, .int .i64 t1, .int .i64 u1, .int .i64 0, .int .i64 0, .int .i64 0, .int .i64 t2, .int .i64 u2, .int .i64 0, .int .i64 0, .int .i64 0, .int .i64 5, .int .i64 0, .int .i64 0, .int .i64 c, .int .i64 p] y_7.out (by kernel_rfl) #[.int .i64 2, .int .i64 (u0 + 1), .int .i64 0, .int .i64 0, .int .i64 0, .int .i64 t1, .int .i64 u1, .int .i64 0, .int .i64 0, .int .i64 0, .int .i64 t2, .int .i64 u2, .int .i64 0, .int .i64 0, .int .i64 0, .int .i64 5, .int .i64 0, .int .i64 0, .int .i64 c, .int .i64 p] (by simp [setSeg]) (by simp) (by kernel_rfl) ?_; intro v8 hb8 sb8))
            have x_8 := Lib.hid (sb8.blk x_7.out (by omega))
            have s_8 := Lib.hid (sb8.blk s_7.out (by omega))
            have q_8 := Lib.hid (sb8.blk q_7.out (by omega))
            have y_8 := Lib.hid hb8
            have B8 := Lib.hid (sb8.bel B7.out (by omega))
            go_meet
            refine ⟨rfl, 2, (u0 + 1), 0, 0, 0, t1, u1, 0, 0, 0, t2, u2, 0, 0, 0, 5, 0, 0, c, p, Lib.hid ⟨turned_all HX.out (by decide) (fun g => ok_inc O0.out g.1), x_8.out, s_8.out, q_8.out, y_8.out, B8.out⟩⟩
        · skip
          rcases O1.out.2 with ⟨hmj, ht⟩ | ⟨hmj, ht⟩
          · skip
            clear hmj
            have bt : (t1 == 0) = false := by rw [ht]; rfl
            have HT := Lib.hid ht
            clear ht
            have L1_5 : v6.cell? ⟨v5.heap.size, 5, none⟩ = some (.int .i64 t1) := (cellsB (i := 5) y_6.out).trans rfl
            have L1_6 : v6.cell? ⟨v5.heap.size, 6, none⟩ = some (.int .i64 u1) := (cellsB (i := 6) y_6.out).trans rfl
            go_upto_region 22 with (first | (refine wpl_put rfl 3 _ _ rfl v5.heap.size 6 _ #[.int .i64 (u1 + 1)] rfl rfl rfl 68 #[.int .i64 t0, .int .i64 u0, .int .i64 0, .int .i64 0, .int .i64 0, .int .i64 t1, .int .i64 u1, .int .i64 0, .int .i64 0, .int .i64 0, .int .i64 t2, .int .i64 u2, .int .i64 0, .int .i64 0, .int .i64 0, .int .i64 5, .int .i64 0, .int .i64 0, .int .i64 c, .int .i64 p] y_6.out (by kernel_rfl) #[.int .i64 t0, .int .i64 u0, .int .i64 0, .int .i64 0, .int .i64 0, .int .i64 t1, .int .i64 (u1 + 1), .int .i64 0, .int .i64 0, .int .i64 0, .int .i64 t2, .int .i64 u2, .int .i64 0, .int .i64 0, .int .i64 0, .int .i64 5, .int .i64 0, .int .i64 0, .int .i64 c, .int .i64 p] (by simp [setSeg]) (by simp) (by kernel_rfl) ?_; intro v7 hb7 sb7))
            have x_7 := Lib.hid (sb7.blk x_6.out (by omega))
            have s_7 := Lib.hid (sb7.blk s_6.out (by omega))
            have q_7 := Lib.hid (sb7.blk q_6.out (by omega))
            have y_7 := Lib.hid hb7
            have B7 := Lib.hid (sb7.bel B6.out (by omega))
            clear x_6 s_6 q_6 y_6 B6 hb7 sb7
            clear L1_5 L1_6
            have L2_5 : v7.cell? ⟨v5.heap.size, 5, none⟩ = some (.int .i64 t1) := (cellsB (i := 5) y_7.out).trans rfl
            go_wp2_with fail
            go_meet
            refine ⟨rfl, t0, u0, 0, 0, 0, t1, (u1 + 1), 0, 0, 0, t2, u2, 0, 0, 0, 5, 0, 0, c, p, Lib.hid ⟨turned_all HX.out (by decide) (fun g => ok_inc2 O1.out HT.out g.2.1), x_7.out, s_7.out, q_7.out, y_7.out, B7.out⟩⟩
          · skip
            clear hmj
            have bt : (t1 == 0) = true := by rw [ht]; rfl
            have HT := Lib.hid ht
            clear ht
            have L1_5 : v6.cell? ⟨v5.heap.size, 5, none⟩ = some (.int .i64 t1) := (cellsB (i := 5) y_6.out).trans rfl
            have L1_6 : v6.cell? ⟨v5.heap.size, 6, none⟩ = some (.int .i64 u1) := (cellsB (i := 6) y_6.out).trans rfl
            go_upto_region 22 with (first | (refine wpl_put rfl 3 _ _ rfl v5.heap.size 6 _ #[.int .i64 (u1 + 1)] rfl rfl rfl 68 #[.int .i64 t0, .int .i64 u0, .int .i64 0, .int .i64 0, .int .i64 0, .int .i64 t1, .int .i64 u1, .int .i64 0, .int .i64 0, .int .i64 0, .int .i64 t2, .int .i64 u2, .int .i64 0, .int .i64 0, .int .i64 0, .int .i64 5, .int .i64 0, .int .i64 0, .int .i64 c, .int .i64 p] y_6.out (by kernel_rfl) #[.int .i64 t0, .int .i64 u0, .int .i64 0, .int .i64 0, .int .i64 0, .int .i64 t1, .int .i64 (u1 + 1), .int .i64 0, .int .i64 0, .int .i64 0, .int .i64 t2, .int .i64 u2, .int .i64 0, .int .i64 0, .int .i64 0, .int .i64 5, .int .i64 0, .int .i64 0, .int .i64 c, .int .i64 p] (by simp [setSeg]) (by simp) (by kernel_rfl) ?_; intro v7 hb7 sb7))
            have x_7 := Lib.hid (sb7.blk x_6.out (by omega))
            have s_7 := Lib.hid (sb7.blk s_6.out (by omega))
            have q_7 := Lib.hid (sb7.blk q_6.out (by omega))
            have y_7 := Lib.hid hb7
            have B7 := Lib.hid (sb7.bel B6.out (by omega))
            clear x_6 s_6 q_6 y_6 B6 hb7 sb7
            clear L1_5 L1_6
            have L2_5 : v7.cell? ⟨v5.heap.size, 5, none⟩ = some (.int .i64 t1) := (cellsB (i := 5) y_7.out).trans rfl
            go_wp2_with (first | (refine wpl_put rfl 3 _ _ rfl v5.heap.size 5 _ #[.int .i64 2] rfl rfl rfl 68 #[.int .i64 t0, .int .i64 u0, .int .i64 0, .int .i64 0, .int .i64 0, .int .i64 t1, .int .i64 (u1 + 1), .int .i64 0, .int .i64 0, .int .i64 0, .int .i64 t2, .int .i64 u2, .int .i64 0, .int .i64 0, .int .i64 0, .int .i64 5, .int .i64 0, .int .i64 0, .int .i64 c, .int .i64 p] y_7.out (by kernel_rfl) #[.int .i64 t0, .int .i64 u0, .int .i64 0, .int .i64 0, .int .i64 0, .int .i64 2, .int .i64 (u1 + 1), .int .i64 0, .int .i64 0, .int .i64 0, .int .i64 t2, .int .i64 u2, .int .i64 0, .int .i64 0, .int .i64 0, .int .i64 5, .int .i64 0, .int .i64 0, .int .i64 c, .int .i64 p] (by simp [setSeg]) (by simp) (by kernel_rfl) ?_; intro v8 hb8 sb8))
            have x_8 := Lib.hid (sb8.blk x_7.out (by omega))
            have s_8 := Lib.hid (sb8.blk s_7.out (by omega))
            have q_8 := Lib.hid (sb8.blk q_7.out (by omega))
            have y_8 := Lib.hid hb8
            have B8 := Lib.hid (sb8.bel B7.out (by omega))
            go_meet
            refine ⟨rfl, t0, u0, 0, 0, 0, 2, (u1 + 1), 0, 0, 0, t2, u2, 0, 0, 0, 5, 0, 0, c, p, Lib.hid ⟨turned_all HX.out (by decide) (fun g => ok_inc O1.out g.2.1), x_8.out, s_8.out, q_8.out, y_8.out, B8.out⟩⟩
        · skip
          rcases O2.out.2 with ⟨hmj, ht⟩ | ⟨hmj, ht⟩
          · skip
            clear hmj
            have bt : (t2 == 0) = false := by rw [ht]; rfl
            have HT := Lib.hid ht
            clear ht
            have L1_10 : v6.cell? ⟨v5.heap.size, 10, none⟩ = some (.int .i64 t2) := (cellsB (i := 10) y_6.out).trans rfl
            have L1_11 : v6.cell? ⟨v5.heap.size, 11, none⟩ = some (.int .i64 u2) := (cellsB (i := 11) y_6.out).trans rfl
            go_upto_region 22 with (first | (refine wpl_put rfl 3 _ _ rfl v5.heap.size 11 _ #[.int .i64 (u2 + 1)] rfl rfl rfl 68 #[.int .i64 t0, .int .i64 u0, .int .i64 0, .int .i64 0, .int .i64 0, .int .i64 t1, .int .i64 u1, .int .i64 0, .int .i64 0, .int .i64 0, .int .i64 t2, .int .i64 u2, .int .i64 0, .int .i64 0, .int .i64 0, .int .i64 5, .int .i64 0, .int .i64 0, .int .i64 c, .int .i64 p] y_6.out (by kernel_rfl) #[.int .i64 t0, .int .i64 u0, .int .i64 0, .int .i64 0, .int .i64 0, .int .i64 t1, .int .i64 u1, .int .i64 0, .int .i64 0, .int .i64 0, .int .i64 t2, .int .i64 (u2 + 1), .int .i64 0, .int .i64 0, .int .i64 0, .int .i64 5, .int .i64 0, .int .i64 0, .int .i64 c, .int .i64 p] (by simp [setSeg]) (by simp) (by kernel_rfl) ?_; intro v7 hb7 sb7))
            have x_7 := Lib.hid (sb7.blk x_6.out (by omega))
            have s_7 := Lib.hid (sb7.blk s_6.out (by omega))
            have q_7 := Lib.hid (sb7.blk q_6.out (by omega))
            have y_7 := Lib.hid hb7
            have B7 := Lib.hid (sb7.bel B6.out (by omega))
            clear x_6 s_6 q_6 y_6 B6 hb7 sb7
            clear L1_10 L1_11
            have L2_10 : v7.cell? ⟨v5.heap.size, 10, none⟩ = some (.int .i64 t2) := (cellsB (i := 10) y_7.out).trans rfl
            go_wp2_with fail
            go_meet
            refine ⟨rfl, t0, u0, 0, 0, 0, t1, u1, 0, 0, 0, t2, (u2 + 1), 0, 0, 0, 5, 0, 0, c, p, Lib.hid ⟨turned_all HX.out (by decide) (fun g => ok_inc2 O2.out HT.out g.2.2.1), x_7.out, s_7.out, q_7.out, y_7.out, B7.out⟩⟩
          · skip
            clear hmj
            have bt : (t2 == 0) = true := by rw [ht]; rfl
            have HT := Lib.hid ht
            clear ht
            have L1_10 : v6.cell? ⟨v5.heap.size, 10, none⟩ = some (.int .i64 t2) := (cellsB (i := 10) y_6.out).trans rfl
            have L1_11 : v6.cell? ⟨v5.heap.size, 11, none⟩ = some (.int .i64 u2) := (cellsB (i := 11) y_6.out).trans rfl
            go_upto_region 22 with (first | (refine wpl_put rfl 3 _ _ rfl v5.heap.size 11 _ #[.int .i64 (u2 + 1)] rfl rfl rfl 68 #[.int .i64 t0, .int .i64 u0, .int .i64 0, .int .i64 0, .int .i64 0, .int .i64 t1, .int .i64 u1, .int .i64 0, .int .i64 0, .int .i64 0, .int .i64 t2, .int .i64 u2, .int .i64 0, .int .i64 0, .int .i64 0, .int .i64 5, .int .i64 0, .int .i64 0, .int .i64 c, .int .i64 p] y_6.out (by kernel_rfl) #[.int .i64 t0, .int .i64 u0, .int .i64 0, .int .i64 0, .int .i64 0, .int .i64 t1, .int .i64 u1, .int .i64 0, .int .i64 0, .int .i64 0, .int .i64 t2, .int .i64 (u2 + 1), .int .i64 0, .int .i64 0, .int .i64 0, .int .i64 5, .int .i64 0, .int .i64 0, .int .i64 c, .int .i64 p] (by simp [setSeg]) (by simp) (by kernel_rfl) ?_; intro v7 hb7 sb7))
            have x_7 := Lib.hid (sb7.blk x_6.out (by omega))
            have s_7 := Lib.hid (sb7.blk s_6.out (by omega))
            have q_7 := Lib.hid (sb7.blk q_6.out (by omega))
            have y_7 := Lib.hid hb7
            have B7 := Lib.hid (sb7.bel B6.out (by omega))
            clear x_6 s_6 q_6 y_6 B6 hb7 sb7
            clear L1_10 L1_11
            have L2_10 : v7.cell? ⟨v5.heap.size, 10, none⟩ = some (.int .i64 t2) := (cellsB (i := 10) y_7.out).trans rfl
            go_wp2_with (first | (refine wpl_put rfl 3 _ _ rfl v5.heap.size 10 _ #[.int .i64 2] rfl rfl rfl 68 #[.int .i64 t0, .int .i64 u0, .int .i64 0, .int .i64 0, .int .i64 0, .int .i64 t1, .int .i64 u1, .int .i64 0, .int .i64 0, .int .i64 0, .int .i64 t2, .int .i64 (u2 + 1), .int .i64 0, .int .i64 0, .int .i64 0, .int .i64 5, .int .i64 0, .int .i64 0, .int .i64 c, .int .i64 p] y_7.out (by kernel_rfl) #[.int .i64 t0, .int .i64 u0, .int .i64 0, .int .i64 0, .int .i64 0, .int .i64 t1, .int .i64 u1, .int .i64 0, .int .i64 0, .int .i64 0, .int .i64 2, .int .i64 (u2 + 1), .int .i64 0, .int .i64 0, .int .i64 0, .int .i64 5, .int .i64 0, .int .i64 0, .int .i64 c, .int .i64 p] (by simp [setSeg]) (by simp) (by kernel_rfl) ?_; intro v8 hb8 sb8))
            have x_8 := Lib.hid (sb8.blk x_7.out (by omega))
            have s_8 := Lib.hid (sb8.blk s_7.out (by omega))
            have q_8 := Lib.hid (sb8.blk q_7.out (by omega))
            have y_8 := Lib.hid hb8
            have B8 := Lib.hid (sb8.bel B7.out (by omega))
            go_meet
            refine ⟨rfl, t0, u0, 0, 0, 0, t1, u1, 0, 0, 0, 2, (u2 + 1), 0, 0, 0, 5, 0, 0, c, p, Lib.hid ⟨turned_all HX.out (by decide) (fun g => ok_inc O2.out g.2.2.1), x_8.out, s_8.out, q_8.out, y_8.out, B8.out⟩⟩
        · skip
          go_wp2_with (first | (refine wpl_put rfl 3 _ _ rfl v5.heap.size 0 _ #[.int .i64 1] rfl rfl rfl 68 #[.int .i64 t0, .int .i64 u0, .int .i64 0, .int .i64 0, .int .i64 0, .int .i64 t1, .int .i64 u1, .int .i64 0, .int .i64 0, .int .i64 0, .int .i64 t2, .int .i64 u2, .int .i64 0, .int .i64 0, .int .i64 0, .int .i64 5, .int .i64 0, .int .i64 0, .int .i64 c, .int .i64 p] y_6.out (by kernel_rfl) #[.int .i64 1, .int .i64 u0, .int .i64 0, .int .i64 0, .int .i64 0, .int .i64 t1, .int .i64 u1, .int .i64 0, .int .i64 0, .int .i64 0, .int .i64 t2, .int .i64 u2, .int .i64 0, .int .i64 0, .int .i64 0, .int .i64 5, .int .i64 0, .int .i64 0, .int .i64 c, .int .i64 p] (by simp [setSeg]) (by simp) (by kernel_rfl) ?_; intro v7 hb7 sb7))
          have x_7 := Lib.hid (sb7.blk x_6.out (by omega))
          have s_7 := Lib.hid (sb7.blk s_6.out (by omega))
          have q_7 := Lib.hid (sb7.blk q_6.out (by omega))
          have y_7 := Lib.hid hb7
          have B7 := Lib.hid (sb7.bel B6.out (by omega))
          go_meet
          refine ⟨rfl, 1, u0, 0, 0, 0, t1, u1, 0, 0, 0, t2, u2, 0, 0, 0, 5, 0, 0, c, p, Lib.hid ⟨turned_all HX.out (by decide) (fun g => ok_held O0.out g.1), x_7.out, s_7.out, q_7.out, y_7.out, B7.out⟩⟩
        · skip
          go_wp2_with (first | (refine wpl_put rfl 3 _ _ rfl v5.heap.size 5 _ #[.int .i64 1] rfl rfl rfl 68 #[.int .i64 t0, .int .i64 u0, .int .i64 0, .int .i64 0, .int .i64 0, .int .i64 t1, .int .i64 u1, .int .i64 0, .int .i64 0, .int .i64 0, .int .i64 t2, .int .i64 u2, .int .i64 0, .int .i64 0, .int .i64 0, .int .i64 5, .int .i64 0, .int .i64 0, .int .i64 c, .int .i64 p] y_6.out (by kernel_rfl) #[.int .i64 t0, .int .i64 u0, .int .i64 0, .int .i64 0, .int .i64 0, .int .i64 1, .int .i64 u1, .int .i64 0, .int .i64 0, .int .i64 0, .int .i64 t2, .int .i64 u2, .int .i64 0, .int .i64 0, .int .i64 0, .int .i64 5, .int .i64 0, .int .i64 0, .int .i64 c, .int .i64 p] (by simp [setSeg]) (by simp) (by kernel_rfl) ?_; intro v7 hb7 sb7))
          have x_7 := Lib.hid (sb7.blk x_6.out (by omega))
          have s_7 := Lib.hid (sb7.blk s_6.out (by omega))
          have q_7 := Lib.hid (sb7.blk q_6.out (by omega))
          have y_7 := Lib.hid hb7
          have B7 := Lib.hid (sb7.bel B6.out (by omega))
          go_meet
          refine ⟨rfl, t0, u0, 0, 0, 0, 1, u1, 0, 0, 0, t2, u2, 0, 0, 0, 5, 0, 0, c, p, Lib.hid ⟨turned_all HX.out (by decide) (fun g => ok_held O1.out g.2.1), x_7.out, s_7.out, q_7.out, y_7.out, B7.out⟩⟩
        · skip
          go_wp2_with (first | (refine wpl_put rfl 3 _ _ rfl v5.heap.size 10 _ #[.int .i64 1] rfl rfl rfl 68 #[.int .i64 t0, .int .i64 u0, .int .i64 0, .int .i64 0, .int .i64 0, .int .i64 t1, .int .i64 u1, .int .i64 0, .int .i64 0, .int .i64 0, .int .i64 t2, .int .i64 u2, .int .i64 0, .int .i64 0, .int .i64 0, .int .i64 5, .int .i64 0, .int .i64 0, .int .i64 c, .int .i64 p] y_6.out (by kernel_rfl) #[.int .i64 t0, .int .i64 u0, .int .i64 0, .int .i64 0, .int .i64 0, .int .i64 t1, .int .i64 u1, .int .i64 0, .int .i64 0, .int .i64 0, .int .i64 1, .int .i64 u2, .int .i64 0, .int .i64 0, .int .i64 0, .int .i64 5, .int .i64 0, .int .i64 0, .int .i64 c, .int .i64 p] (by simp [setSeg]) (by simp) (by kernel_rfl) ?_; intro v7 hb7 sb7))
          have x_7 := Lib.hid (sb7.blk x_6.out (by omega))
          have s_7 := Lib.hid (sb7.blk s_6.out (by omega))
          have q_7 := Lib.hid (sb7.blk q_6.out (by omega))
          have y_7 := Lib.hid hb7
          have B7 := Lib.hid (sb7.bel B6.out (by omega))
          go_meet
          refine ⟨rfl, t0, u0, 0, 0, 0, t1, u1, 0, 0, 0, 1, u2, 0, 0, 0, 5, 0, 0, c, p, Lib.hid ⟨turned_all HX.out (by decide) (fun g => ok_held O2.out g.2.2.1), x_7.out, s_7.out, q_7.out, y_7.out, B7.out⟩⟩
        · skip
          go_wp2_with (first | (refine wpl_put rfl 3 _ _ rfl v5.heap.size 15 _ #[.int .i64 4] rfl rfl rfl 68 #[.int .i64 t0, .int .i64 u0, .int .i64 0, .int .i64 0, .int .i64 0, .int .i64 t1, .int .i64 u1, .int .i64 0, .int .i64 0, .int .i64 0, .int .i64 t2, .int .i64 u2, .int .i64 0, .int .i64 0, .int .i64 0, .int .i64 5, .int .i64 0, .int .i64 0, .int .i64 c, .int .i64 p] y_6.out (by kernel_rfl) #[.int .i64 t0, .int .i64 u0, .int .i64 0, .int .i64 0, .int .i64 0, .int .i64 t1, .int .i64 u1, .int .i64 0, .int .i64 0, .int .i64 0, .int .i64 t2, .int .i64 u2, .int .i64 0, .int .i64 0, .int .i64 0, .int .i64 4, .int .i64 0, .int .i64 0, .int .i64 c, .int .i64 p] (by simp [setSeg]) (by simp) (by kernel_rfl) ?_; intro v7 hb7 sb7))
          have x_7 := Lib.hid (sb7.blk x_6.out (by omega))
          have s_7 := Lib.hid (sb7.blk s_6.out (by omega))
          have q_7 := Lib.hid (sb7.blk q_6.out (by omega))
          have y_7 := Lib.hid hb7
          have B7 := Lib.hid (sb7.bel B6.out (by omega))
          go_meet
          refine ⟨rfl, t0, u0, 0, 0, 0, t1, u1, 0, 0, 0, t2, u2, 0, 0, 0, 4, 0, 0, c, p, Lib.hid ⟨turned_six HX.out ⟨ok_conf O0.out, ok_conf O1.out, ok_conf O2.out, HX.out⟩ (fun g => by have := g.1; simp at this) ⟨rfl, rfl, rfl⟩, x_7.out, s_7.out, q_7.out, y_7.out, B7.out⟩⟩
        · skip
          have L1_19 : v6.cell? ⟨v5.heap.size, 19, none⟩ = some (.int .i64 p) := (cellsB (i := 19) y_6.out).trans rfl
          go_wp2_with (first | (refine wpl_put rfl 2 _ _ rfl v5.heap.size 19 _ #[.int .i64 (p + 1)] rfl rfl rfl 68 #[.int .i64 t0, .int .i64 u0, .int .i64 0, .int .i64 0, .int .i64 0, .int .i64 t1, .int .i64 u1, .int .i64 0, .int .i64 0, .int .i64 0, .int .i64 t2, .int .i64 u2, .int .i64 0, .int .i64 0, .int .i64 0, .int .i64 5, .int .i64 0, .int .i64 0, .int .i64 c, .int .i64 p] y_6.out (by kernel_rfl) #[.int .i64 t0, .int .i64 u0, .int .i64 0, .int .i64 0, .int .i64 0, .int .i64 t1, .int .i64 u1, .int .i64 0, .int .i64 0, .int .i64 0, .int .i64 t2, .int .i64 u2, .int .i64 0, .int .i64 0, .int .i64 0, .int .i64 5, .int .i64 0, .int .i64 0, .int .i64 c, .int .i64 (p + 1)] (by simp [setSeg]) (by simp) (by kernel_rfl) ?_; intro v7 hb7 sb7))
          have x_7 := Lib.hid (sb7.blk x_6.out (by omega))
          have s_7 := Lib.hid (sb7.blk s_6.out (by omega))
          have q_7 := Lib.hid (sb7.blk q_6.out (by omega))
          have y_7 := Lib.hid hb7
          have B7 := Lib.hid (sb7.bel B6.out (by omega))
          go_meet
          refine ⟨rfl, t0, u0, 0, 0, 0, t1, u1, 0, 0, 0, t2, u2, 0, 0, 0, 5, 0, 0, c, (p + 1), Lib.hid ⟨turned_paid HX.out (by decide) (fun g => by have := g.2.1; simp only at this; omega) (fun g => by have := g.2.1; simp only at this; omega), x_7.out, s_7.out, q_7.out, y_7.out, B7.out⟩⟩
        · skip
          have L1_18 : v6.cell? ⟨v5.heap.size, 18, none⟩ = some (.int .i64 c) := (cellsB (i := 18) y_6.out).trans rfl
          go_wp2_with (first | (refine wpl_put rfl 3 _ _ rfl v5.heap.size 18 _ #[.int .i64 ((c + 1) % 4)] rfl rfl rfl 68 #[.int .i64 t0, .int .i64 u0, .int .i64 0, .int .i64 0, .int .i64 0, .int .i64 t1, .int .i64 u1, .int .i64 0, .int .i64 0, .int .i64 0, .int .i64 t2, .int .i64 u2, .int .i64 0, .int .i64 0, .int .i64 0, .int .i64 5, .int .i64 0, .int .i64 0, .int .i64 c, .int .i64 p] y_6.out (by kernel_rfl) #[.int .i64 t0, .int .i64 u0, .int .i64 0, .int .i64 0, .int .i64 0, .int .i64 t1, .int .i64 u1, .int .i64 0, .int .i64 0, .int .i64 0, .int .i64 t2, .int .i64 u2, .int .i64 0, .int .i64 0, .int .i64 0, .int .i64 5, .int .i64 0, .int .i64 0, .int .i64 ((c + 1) % 4), .int .i64 p] (by simp [setSeg]) (by simp) (by kernel_rfl) ?_; intro v7 hb7 sb7))
          have x_7 := Lib.hid (sb7.blk x_6.out (by omega))
          have s_7 := Lib.hid (sb7.blk s_6.out (by omega))
          have q_7 := Lib.hid (sb7.blk q_6.out (by omega))
          have y_7 := Lib.hid hb7
          have B7 := Lib.hid (sb7.bel B6.out (by omega))
          go_meet
          refine ⟨rfl, t0, u0, 0, 0, 0, t1, u1, 0, 0, 0, t2, u2, 0, 0, 0, 5, 0, 0, ((c + 1) % 4), p, Lib.hid ⟨turned_paid HX.out (by decide) (fun g => by have := g.2.2; simp only at this; omega) (fun g => by have := g.2.2; simp only at this; omega), x_7.out, s_7.out, q_7.out, y_7.out, B7.out⟩⟩
      case rest =>
        obtain ⟨rfl, y00, y01, y02, y03, y04, y10, y11, y12, y13, y14, y20, y21, y22, y23, y24, y30, y31, y32, y33, y34, HC⟩ := hcut
        obtain ⟨htp, x0, s0, q0, y0, b0⟩ := HC.out
        have D1 := Lib.hid (fun W => booked_is (show decide (BookedP ⟨b, c, d, m0, m1, m2, p⟩ ⟨⟨y00, y01, y02, y03, y04⟩, ⟨y10, y11, y12, y13, y14⟩, ⟨y20, y21, y22, y23, y24⟩, ⟨y30, y31, y32, y33, y34⟩⟩) = false from decide_eq_false htp.1) W)
        have D2 := Lib.hid (fun W => right_is (show decide (RightP ⟨⟨b, c, d, m0, m1, m2, p⟩, 4, 0, 0, 0⟩ ⟨⟨y00, y01, y02, y03, y04⟩, ⟨y10, y11, y12, y13, y14⟩, ⟨y20, y21, y22, y23, y24⟩, ⟨y30, y31, y32, y33, y34⟩⟩) = false from decide_eq_false (fun g => htp.1 ((r4_iff _ HX.out _).1 g))) W)
        obtain ⟨r6, hr6⟩ : ∃ r, decide (RightP ⟨⟨b, c, d, m0, m1, m2, p⟩, 2, 0, 0, 0⟩ ⟨⟨y00, y01, y02, y03, y04⟩, ⟨y10, y11, y12, y13, y14⟩, ⟨y20, y21, y22, y23, y24⟩, ⟨y30, y31, y32, y33, y34⟩⟩) = r := ⟨_, rfl⟩
        have h6 := htp.2
        rw [hr6] at h6
        have D3 := Lib.hid (fun W => right_is hr6 W)
        simp only [W7.val, S11.val, Q4.val] at D1 D2 D3
        obtain ⟨z0, hz0⟩ : ∃ z, z = wc := ⟨_, rfl⟩
        rw [← hz0] at x0 s0 q0 y0 b0 ⊢
        have x_0 := Lib.hid x0
        have s_0 := Lib.hid s0
        have q_0 := Lib.hid q0
        have y_0 := Lib.hid y0
        have B0 := Lib.hid b0
        clear x0 s0 q0 y0 b0 hz0 hr6 htp HC x_6 s_6 q_6 y_6 B6
        go_wp2_with (first | (refine wpl_row (by rfl) 24 _ rfl _ rfl _ _ _ _ x_0.out rfl Try.underlying24 (by kernel_rfl) ?_) | (refine wpl_row (by rfl) 68 _ rfl _ rfl _ _ _ _ y_0.out rfl Try.underlying68 (by kernel_rfl) ?_))
        refine (D1.out _).mono ?_
        rintro e z1 ⟨rfl, q⟩
        have x_1 := Lib.hid (blk0 x_0.out q)
        have s_1 := Lib.hid (blk0 s_0.out q)
        have q_1 := Lib.hid (blk0 q_0.out q)
        have y_1 := Lib.hid (blk0 y_0.out q)
        have B1 := Lib.hid (bel0 B0.out B0.out.size q)
        clear q x_0 s_0 q_0 y_0 B0
        go_wp2_with (first | (refine wpl_row (by rfl) 26 _ rfl _ rfl _ _ _ _ s_1.out rfl Try.underlying26 (by kernel_rfl) ?_) | (refine wpl_row (by rfl) 68 _ rfl _ rfl _ _ _ _ y_1.out rfl Try.underlying68 (by kernel_rfl) ?_))
        refine (D2.out _).mono ?_
        rintro e z2 ⟨rfl, q⟩
        have x_2 := Lib.hid (blk0 x_1.out q)
        have s_2 := Lib.hid (blk0 s_1.out q)
        have q_2 := Lib.hid (blk0 q_1.out q)
        have y_2 := Lib.hid (blk0 y_1.out q)
        have B2 := Lib.hid (bel0 B1.out B1.out.size q)
        clear q x_1 s_1 q_1 y_1 B1
        go_upto_region 35 with (first | (refine wpl_put rfl 3 _ _ rfl w1.heap.size 7 _ #[.int .i64 2] rfl rfl rfl 26 #[.int .i64 b, .int .i64 c, .int .i64 d, .int .i64 m0, .int .i64 m1, .int .i64 m2, .int .i64 p, .int .i64 4, .int .i64 0, .int .i64 0, .int .i64 0] s_2.out (by kernel_rfl) #[.int .i64 b, .int .i64 c, .int .i64 d, .int .i64 m0, .int .i64 m1, .int .i64 m2, .int .i64 p, .int .i64 2, .int .i64 0, .int .i64 0, .int .i64 0] (by simp [setSeg]) (by simp) (by kernel_rfl) ?_; intro z3 hb3 sb3))
        have x_3 := Lib.hid (sb3.blk x_2.out (by omega))
        have q_3 := Lib.hid (sb3.blk q_2.out (by omega))
        have y_3 := Lib.hid (sb3.blk y_2.out (by omega))
        have s_3 := Lib.hid hb3
        have B3 := Lib.hid (sb3.bel B2.out (by omega))
        clear x_2 s_2 q_2 y_2 B2 hb3 sb3
        go_wp2_with fail
        refine (T0.out _).mono ?_
        rintro e z4 ⟨rfl, q⟩
        have x_4 := Lib.hid (blk0 x_3.out q)
        have s_4 := Lib.hid (blk0 s_3.out q)
        have q_4 := Lib.hid (blk0 q_3.out q)
        have y_4 := Lib.hid (blk0 y_3.out q)
        have B4 := Lib.hid (bel0 B3.out B3.out.size q)
        clear q x_3 s_3 q_3 y_3 B3
        go_wp2_with (first | (refine wpl_row (by rfl) 26 _ rfl _ rfl _ _ _ _ s_4.out rfl Try.underlying26 (by kernel_rfl) ?_) | (refine wpl_row (by rfl) 68 _ rfl _ rfl _ _ _ _ q_4.out rfl Try.underlying68 (by kernel_rfl) ?_))
        refine (C4.out _).mono ?_
        rintro e z5 ⟨rfl, q⟩
        have x_5 := Lib.hid (blk0 x_4.out q)
        have s_5 := Lib.hid (blk0 s_4.out q)
        have q_5 := Lib.hid (blk0 q_4.out q)
        have y_5 := Lib.hid (blk0 y_4.out q)
        have B5 := Lib.hid (bel0 B4.out B4.out.size q)
        clear q x_4 s_4 q_4 y_4 B4
        go_wp2_with (first | (refine wpl_row (by rfl) 26 _ rfl _ rfl _ _ _ _ s_5.out rfl Try.underlying26 (by kernel_rfl) ?_) | (refine wpl_row (by rfl) 68 _ rfl _ rfl _ _ _ _ y_5.out rfl Try.underlying68 (by kernel_rfl) ?_))
        refine (D3.out _).mono ?_
        rintro e z6 ⟨rfl, q⟩
        have x_6 := Lib.hid (blk0 x_5.out q)
        have s_6 := Lib.hid (blk0 s_5.out q)
        have q_6 := Lib.hid (blk0 q_5.out q)
        have y_6 := Lib.hid (blk0 y_5.out q)
        have B6 := Lib.hid (bel0 B5.out B5.out.size q)
        clear q x_5 s_5 q_5 y_5 B5
        go_wp2
        go_ret
        exact ⟨rfl, B6.out⟩
theorem auturned_walk (x : W7) (part : Int) (w : World) : Calls Try.prog 12 #[x.val, .int .i64 part] w fun e w' => e = .returned (.bool true) ∧ Below w.heap.size w w' := by
  by_cases h : MayW x
  · exact auturned_yes x part w h
  · exact auturned_no x part w h
end Go.Proofs.Ytplgodfhhlnojaa
