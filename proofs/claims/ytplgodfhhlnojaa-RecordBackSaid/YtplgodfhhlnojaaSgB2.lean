/- saga.Get, walked (printed by gensagab2.py). -/
import Derived.Test.YtplgodfhhlnojaaS8
set_option linter.unusedSimpArgs false
set_option linter.unusedVariables false
namespace Go.Proofs.Ytplgodfhhlnojaa
open Go.RowKit
theorem only_blk {w w2 : World} {g b : Nat} {o : Obj} (gg : w.grownBy w2 (some g)) (H : w.heap[b]? = some o) (ne : b ≠ g) : w2.heap[b]? = some o := (gg.block b (blk_lt H) (by intro e; injection e with e; exact ne e)).trans H
theorem num_c (p g : Nat) (s s' : Rs) (v : Int) (w : World) (D : Nat) (h : RP w D g s) (hD : D ≤ w.heap.size) (hp : w.heap[p]? = some (.cells #[.pointer (some ⟨g, 0, none⟩)] 109 (0, 0))) (e : rS s = (v, s')) : Calls Try.prog 78 #[.pointer (some ⟨p, 0, none⟩)] w (RPost w D g (.int .i64 v) s') := by
  have HC := Lib.hid (rint_c g (-4611686018427387904) 4611686018427387904 s w D h hD)
  have c0 := cell0 hp
  unfold rS at e
  rw [e] at HC
  unfold RPost at HC ⊢
  clear e h hp
  go_enter Try.func78, Try.ntmps78
  go_wp2_with fail
  refine HC.out.mono ?_
  rintro e w1 ⟨rfl, q1, g1⟩
  have Q := Lib.hid q1
  have G := Lib.hid g1
  clear q1 g1 HC
  go_wp2
  go_ret
  exact ⟨rfl, Q.out, G.out⟩
/-- How Get ends. -/
def PS (w : World) (y : S11) (k : Int) (e : Ending) (w' : World) : Prop := e = .returned (.tuple #[y.val, .int .i64 k]) ∧ Below w.heap.size w w'
set_option maxRecDepth 100000 in
set_option maxHeartbeats 16000000 in
theorem sget_c (A : Option Addr) (n c : Nat) (l : List UInt8) (w : World) (hr : Rd w w.heap.size 1 A n (B8 l)) (hn : n ≤ 100000000) : Calls Try.prog 41 #[.slice A n c] w (PS w (gS l).1 (gS l).2) := by
  have HL := Lib.hid hr
  clear hr
  have HF := Lib.hid (rSg_in (some l))
  obtain ⟨y, kk, hy⟩ : ∃ y kk, gS l = (y, kk) := ⟨_, _, rfl⟩
  rw [hy]
  unfold gS at hy
  obtain ⟨v1, s1, e1⟩ : ∃ v t, rS (some l) = (v, t) := ⟨_, _, rfl⟩
  obtain ⟨v2, s2, e2⟩ : ∃ v t, rS s1 = (v, t) := ⟨_, _, rfl⟩
  obtain ⟨v3, s3, e3⟩ : ∃ v t, rS s2 = (v, t) := ⟨_, _, rfl⟩
  obtain ⟨v4, s4, e4⟩ : ∃ v t, rS s3 = (v, t) := ⟨_, _, rfl⟩
  obtain ⟨v5, s5, e5⟩ : ∃ v t, rS s4 = (v, t) := ⟨_, _, rfl⟩
  obtain ⟨v6, s6, e6⟩ : ∃ v t, rS s5 = (v, t) := ⟨_, _, rfl⟩
  obtain ⟨v7, s7, e7⟩ : ∃ v t, rS s6 = (v, t) := ⟨_, _, rfl⟩
  obtain ⟨v8, s8, e8⟩ : ∃ v t, rS s7 = (v, t) := ⟨_, _, rfl⟩
  obtain ⟨v9, s9, e9⟩ : ∃ v t, rS s8 = (v, t) := ⟨_, _, rfl⟩
  obtain ⟨v10, s10, e10⟩ : ∃ v t, rS s9 = (v, t) := ⟨_, _, rfl⟩
  obtain ⟨v11, s11, e11⟩ : ∃ v t, rS s10 = (v, t) := ⟨_, _, rfl⟩
  obtain ⟨x, hxx⟩ : ∃ x : S11, x = ⟨⟨v1, v2, v3, v4, v5, v6, v7⟩, v8, v9, v10, v11⟩ := ⟨_, rfl⟩
  have hw : rSg (some l) = (x, s11) := by rw [hxx]; unfold rSg; simp only [e1, e2, e3, e4, e5, e6, e7, e8, e9, e10, e11]
  have hxv : x.val = .agg #[.int .i64 v1, .int .i64 v2, .int .i64 v3, .int .i64 v4, .int .i64 v5, .int .i64 v6, .int .i64 v7, .int .i64 v8, .int .i64 v9, .int .i64 v10, .int .i64 v11] := by rw [hxx]; rfl
  rw [hw] at HF hy
  simp only at HF hy ⊢
  have HY := Lib.hid hy
  have HXV := Lib.hid hxv
  have E1 := Lib.hid e1
  have E2 := Lib.hid e2
  have E3 := Lib.hid e3
  have E4 := Lib.hid e4
  have E5 := Lib.hid e5
  have E6 := Lib.hid e6
  have E7 := Lib.hid e7
  have E8 := Lib.hid e8
  have E9 := Lib.hid e9
  have E10 := Lib.hid e10
  have E11 := Lib.hid e11
  clear hw hy hxv hxx e1 e2 e3 e4 e5 e6 e7 e8 e9 e10 e11
  unfold PS
  go_enter Try.func41, Try.ntmps41
  go_wp2_with fail
  refine (new_c A n c l _ ((HL.out.alloc (Nat.le_refl _) _).more (by simp)) (by omega)).mono ?_
  rintro e w1 ⟨g, rfl, hg, q1, b1⟩
  have hg2 : w.heap.size + 1 ≤ g := by simpa using hg
  have hgl := q1.lt
  have R1 := Lib.hid (new1 b1)
  have L1 := Lib.hid (bel1 (Below.refl w.heap.size w) (Nat.le_refl _) b1)
  have hz1 : w.heap.size + 1 ≤ w1.heap.size := by have := b1.size; simpa using this
  obtain ⟨W, hW⟩ : ∃ W, W = w1.alloc (.cells #[.pointer (some ⟨g, 0, none⟩)] 109) := ⟨_, rfl⟩
  have Q1 := Lib.hid (show RP W w1.heap.size g (some l) from hW ▸ q1.alloc (Nat.le_refl _) _)
  have P1 := Lib.hid (show W.heap[w1.heap.size]? = some (.cells #[.pointer (some ⟨g, 0, none⟩)] 109 (0, 0)) from hW ▸ heap_alloc_new w1 _)
  have R1' := Lib.hid (show W.heap[w.heap.size]? = some (.cells #[.int .i64 0, .int .i64 0, .int .i64 0, .int .i64 0, .int .i64 0, .int .i64 0, .int .i64 0, .int .i64 0, .int .i64 0, .int .i64 0, .int .i64 0] 26 (0, 0)) from hW ▸ alc R1.out)
  have L1' := Lib.hid (show Below w.heap.size w W from hW ▸ L1.out.alloc L1.out.size _)
  have hzW : w1.heap.size + 1 ≤ W.heap.size := by rw [hW]; simp
  clear hg q1 b1 R1 L1
  go_wp2_with fail
  rw [← hW]
  clear hW
  refine (num_c w1.heap.size g (some l) s1 v1 _ w1.heap.size Q1.out (by omega) P1.out E1.out).mono ?_
  rintro e u1 ⟨rfl, q, gg⟩
  have Q_1 := Lib.hid q
  have P_1 := Lib.hid (only_blk gg P1.out (by omega))
  have R_1 := Lib.hid (only_blk gg R1'.out (by omega))
  have L_1 := Lib.hid (L1'.out.trans (only_lt gg L1'.out.size (by omega)))
  have hz_1 : w1.heap.size + 1 ≤ u1.heap.size := by have := gg.size; omega
  clear q gg Q1 P1 R1' L1' hzW
  go_wp2_with fail
  refine (num_c w1.heap.size g s1 s2 v2 _ w1.heap.size Q_1.out (by omega) P_1.out E2.out).mono ?_
  rintro e u2 ⟨rfl, q, gg⟩
  have Q_2 := Lib.hid q
  have P_2 := Lib.hid (only_blk gg P_1.out (by omega))
  have R_2 := Lib.hid (only_blk gg R_1.out (by omega))
  have L_2 := Lib.hid (L_1.out.trans (only_lt gg L_1.out.size (by omega)))
  have hz_2 : w1.heap.size + 1 ≤ u2.heap.size := by have := gg.size; omega
  clear q gg Q_1 P_1 R_1 L_1 hz_1
  go_wp2_with fail
  refine (num_c w1.heap.size g s2 s3 v3 _ w1.heap.size Q_2.out (by omega) P_2.out E3.out).mono ?_
  rintro e u3 ⟨rfl, q, gg⟩
  have Q_3 := Lib.hid q
  have P_3 := Lib.hid (only_blk gg P_2.out (by omega))
  have R_3 := Lib.hid (only_blk gg R_2.out (by omega))
  have L_3 := Lib.hid (L_2.out.trans (only_lt gg L_2.out.size (by omega)))
  have hz_3 : w1.heap.size + 1 ≤ u3.heap.size := by have := gg.size; omega
  clear q gg Q_2 P_2 R_2 L_2 hz_2
  obtain ⟨U, hU⟩ : ∃ U, U = u3.alloc (.cells #[.int .i64 v1, .int .i64 v2, .int .i64 v3, .int .i64 0, .int .i64 0, .int .i64 0, .int .i64 0, .int .i64 0, .int .i64 0, .int .i64 0, .int .i64 0] 26) := ⟨_, rfl⟩
  have QU := Lib.hid (show RP U w1.heap.size g s3 from hU ▸ Q_3.out.alloc (by omega) _)
  have PU := Lib.hid (show U.heap[w1.heap.size]? = some (.cells #[.pointer (some ⟨g, 0, none⟩)] 109 (0, 0)) from hU ▸ alc P_3.out)
  have RU := Lib.hid (show U.heap[w.heap.size]? = some (.cells #[.int .i64 0, .int .i64 0, .int .i64 0, .int .i64 0, .int .i64 0, .int .i64 0, .int .i64 0, .int .i64 0, .int .i64 0, .int .i64 0, .int .i64 0] 26 (0, 0)) from hU ▸ alc R_3.out)
  have LU := Lib.hid (show Below w.heap.size w U from hU ▸ L_3.out.alloc L_3.out.size _)
  have TU := Lib.hid (show U.heap[u3.heap.size]? = some (.cells #[.int .i64 v1, .int .i64 v2, .int .i64 v3, .int .i64 0, .int .i64 0, .int .i64 0, .int .i64 0, .int .i64 0, .int .i64 0, .int .i64 0, .int .i64 0] 26 (0, 0)) from hU ▸ heap_alloc_new u3 _)
  have hzU : w1.heap.size + 1 ≤ U.heap.size := by rw [hU]; simp; omega
  clear Q_3 P_3 R_3 L_3
  go_wp2_with fail
  rw [← hU]
  clear hU
  refine wp_loop_rounds 4 ?_
  rw [rounds_succ]
  go_wp2_with fail
  refine (num_c w1.heap.size g s3 s4 v4 _ w1.heap.size QU.out (by omega) PU.out E4.out).mono ?_
  rintro e u4 ⟨rfl, q, gg⟩
  have Q_4 := Lib.hid q
  have P_4 := Lib.hid (only_blk gg PU.out (by omega))
  have R_4 := Lib.hid (only_blk gg RU.out (by omega))
  have L_4 := Lib.hid (LU.out.trans (only_lt gg LU.out.size (by omega)))
  have hz_4 : w1.heap.size + 1 ≤ u4.heap.size := by have := gg.size; omega
  have T_4 := Lib.hid (only_blk gg TU.out (by omega))
  clear q gg QU PU RU LU hzU TU
  go_wp2_with (refine wpl_seg rfl 3 _ _ rfl u3.heap.size 3 _ #[.int .i64 v4] rfl rfl rfl 26 #[.int .i64 v1, .int .i64 v2, .int .i64 v3, .int .i64 0, .int .i64 0, .int .i64 0, .int .i64 0, .int .i64 0, .int .i64 0, .int .i64 0, .int .i64 0] T_4.out (by kernel_rfl) #[.int .i64 v1, .int .i64 v2, .int .i64 v3, .int .i64 v4, .int .i64 0, .int .i64 0, .int .i64 0, .int .i64 0, .int .i64 0, .int .i64 0, .int .i64 0] (by simp [setSeg]) (by simp) (by kernel_rfl) ?_; intro t1 hb sb)
  have Q_t1 := Lib.hid (Q_4.out.below (sb.bel (Below.refl _ _) (by omega)))
  have P_t1 := Lib.hid (sb.blk P_4.out (by omega))
  have R_t1 := Lib.hid (sb.blk R_4.out (by omega))
  have L_t1 := Lib.hid (sb.bel L_4.out (by omega))
  have T_t1 := Lib.hid hb
  have hz_t1 : w1.heap.size + 1 ≤ t1.heap.size := by rw [sb.size]; exact hz_4
  clear hb sb Q_4 P_4 R_4 L_4 T_4 hz_4
  go_wp2_with fail
  rw [rounds_succ]
  go_wp2_with fail
  refine (num_c w1.heap.size g s4 s5 v5 _ w1.heap.size Q_t1.out (by omega) P_t1.out E5.out).mono ?_
  rintro e u5 ⟨rfl, q, gg⟩
  have Q_5 := Lib.hid q
  have P_5 := Lib.hid (only_blk gg P_t1.out (by omega))
  have R_5 := Lib.hid (only_blk gg R_t1.out (by omega))
  have L_5 := Lib.hid (L_t1.out.trans (only_lt gg L_t1.out.size (by omega)))
  have hz_5 : w1.heap.size + 1 ≤ u5.heap.size := by have := gg.size; omega
  have T_5 := Lib.hid (only_blk gg T_t1.out (by omega))
  clear q gg Q_t1 P_t1 R_t1 L_t1 hz_t1 T_t1
  go_wp2_with (refine wpl_seg rfl 3 _ _ rfl u3.heap.size 4 _ #[.int .i64 v5] rfl rfl rfl 26 #[.int .i64 v1, .int .i64 v2, .int .i64 v3, .int .i64 v4, .int .i64 0, .int .i64 0, .int .i64 0, .int .i64 0, .int .i64 0, .int .i64 0, .int .i64 0] T_5.out (by kernel_rfl) #[.int .i64 v1, .int .i64 v2, .int .i64 v3, .int .i64 v4, .int .i64 v5, .int .i64 0, .int .i64 0, .int .i64 0, .int .i64 0, .int .i64 0, .int .i64 0] (by simp [setSeg]) (by simp) (by kernel_rfl) ?_; intro t2 hb sb)
  have Q_t2 := Lib.hid (Q_5.out.below (sb.bel (Below.refl _ _) (by omega)))
  have P_t2 := Lib.hid (sb.blk P_5.out (by omega))
  have R_t2 := Lib.hid (sb.blk R_5.out (by omega))
  have L_t2 := Lib.hid (sb.bel L_5.out (by omega))
  have T_t2 := Lib.hid hb
  have hz_t2 : w1.heap.size + 1 ≤ t2.heap.size := by rw [sb.size]; exact hz_5
  clear hb sb Q_5 P_5 R_5 L_5 T_5 hz_5
  go_wp2_with fail
  rw [rounds_succ]
  go_wp2_with fail
  refine (num_c w1.heap.size g s5 s6 v6 _ w1.heap.size Q_t2.out (by omega) P_t2.out E6.out).mono ?_
  rintro e u6 ⟨rfl, q, gg⟩
  have Q_6 := Lib.hid q
  have P_6 := Lib.hid (only_blk gg P_t2.out (by omega))
  have R_6 := Lib.hid (only_blk gg R_t2.out (by omega))
  have L_6 := Lib.hid (L_t2.out.trans (only_lt gg L_t2.out.size (by omega)))
  have hz_6 : w1.heap.size + 1 ≤ u6.heap.size := by have := gg.size; omega
  have T_6 := Lib.hid (only_blk gg T_t2.out (by omega))
  clear q gg Q_t2 P_t2 R_t2 L_t2 hz_t2 T_t2
  go_wp2_with (refine wpl_seg rfl 3 _ _ rfl u3.heap.size 5 _ #[.int .i64 v6] rfl rfl rfl 26 #[.int .i64 v1, .int .i64 v2, .int .i64 v3, .int .i64 v4, .int .i64 v5, .int .i64 0, .int .i64 0, .int .i64 0, .int .i64 0, .int .i64 0, .int .i64 0] T_6.out (by kernel_rfl) #[.int .i64 v1, .int .i64 v2, .int .i64 v3, .int .i64 v4, .int .i64 v5, .int .i64 v6, .int .i64 0, .int .i64 0, .int .i64 0, .int .i64 0, .int .i64 0] (by simp [setSeg]) (by simp) (by kernel_rfl) ?_; intro t3 hb sb)
  have Q_t3 := Lib.hid (Q_6.out.below (sb.bel (Below.refl _ _) (by omega)))
  have P_t3 := Lib.hid (sb.blk P_6.out (by omega))
  have R_t3 := Lib.hid (sb.blk R_6.out (by omega))
  have L_t3 := Lib.hid (sb.bel L_6.out (by omega))
  have T_t3 := Lib.hid hb
  have hz_t3 : w1.heap.size + 1 ≤ t3.heap.size := by rw [sb.size]; exact hz_6
  clear hb sb Q_6 P_6 R_6 L_6 T_6 hz_6
  go_wp2_with fail
  rw [rounds_succ]
  go_wp2_with fail
  refine (num_c w1.heap.size g s6 s7 v7 _ w1.heap.size Q_t3.out (by omega) P_t3.out E7.out).mono ?_
  rintro e u7 ⟨rfl, q, gg⟩
  have Q_7 := Lib.hid q
  have P_7 := Lib.hid (only_blk gg P_t3.out (by omega))
  have R_7 := Lib.hid (only_blk gg R_t3.out (by omega))
  have L_7 := Lib.hid (L_t3.out.trans (only_lt gg L_t3.out.size (by omega)))
  have hz_7 : w1.heap.size + 1 ≤ u7.heap.size := by have := gg.size; omega
  have T_7 := Lib.hid (only_blk gg T_t3.out (by omega))
  clear q gg Q_t3 P_t3 R_t3 L_t3 hz_t3 T_t3
  go_wp2_with (refine wpl_seg rfl 2 _ _ rfl u3.heap.size 6 _ #[.int .i64 v7] rfl rfl rfl 26 #[.int .i64 v1, .int .i64 v2, .int .i64 v3, .int .i64 v4, .int .i64 v5, .int .i64 v6, .int .i64 0, .int .i64 0, .int .i64 0, .int .i64 0, .int .i64 0] T_7.out (by kernel_rfl) #[.int .i64 v1, .int .i64 v2, .int .i64 v3, .int .i64 v4, .int .i64 v5, .int .i64 v6, .int .i64 v7, .int .i64 0, .int .i64 0, .int .i64 0, .int .i64 0] (by simp [setSeg]) (by simp) (by kernel_rfl) ?_; intro t4 hb sb)
  have Q_t4 := Lib.hid (Q_7.out.below (sb.bel (Below.refl _ _) (by omega)))
  have P_t4 := Lib.hid (sb.blk P_7.out (by omega))
  have R_t4 := Lib.hid (sb.blk R_7.out (by omega))
  have L_t4 := Lib.hid (sb.bel L_7.out (by omega))
  have T_t4 := Lib.hid hb
  have hz_t4 : w1.heap.size + 1 ≤ t4.heap.size := by rw [sb.size]; exact hz_7
  clear hb sb Q_7 P_7 R_7 L_7 T_7 hz_7
  go_wp2_with fail
  refine (num_c w1.heap.size g s7 s8 v8 _ w1.heap.size Q_t4.out (by omega) P_t4.out E8.out).mono ?_
  rintro e u8 ⟨rfl, q, gg⟩
  have Q_8 := Lib.hid q
  have P_8 := Lib.hid (only_blk gg P_t4.out (by omega))
  have R_8 := Lib.hid (only_blk gg R_t4.out (by omega))
  have L_8 := Lib.hid (L_t4.out.trans (only_lt gg L_t4.out.size (by omega)))
  have hz_8 : w1.heap.size + 1 ≤ u8.heap.size := by have := gg.size; omega
  have T_8 := Lib.hid (only_blk gg T_t4.out (by omega))
  clear q gg Q_t4 P_t4 R_t4 L_t4 hz_t4 T_t4
  go_wp2_with fail
  refine (num_c w1.heap.size g s8 s9 v9 _ w1.heap.size Q_8.out (by omega) P_8.out E9.out).mono ?_
  rintro e u9 ⟨rfl, q, gg⟩
  have Q_9 := Lib.hid q
  have P_9 := Lib.hid (only_blk gg P_8.out (by omega))
  have R_9 := Lib.hid (only_blk gg R_8.out (by omega))
  have L_9 := Lib.hid (L_8.out.trans (only_lt gg L_8.out.size (by omega)))
  have hz_9 : w1.heap.size + 1 ≤ u9.heap.size := by have := gg.size; omega
  have T_9 := Lib.hid (only_blk gg T_8.out (by omega))
  clear q gg Q_8 P_8 R_8 L_8 hz_8 T_8
  go_wp2_with fail
  refine (num_c w1.heap.size g s9 s10 v10 _ w1.heap.size Q_9.out (by omega) P_9.out E10.out).mono ?_
  rintro e u10 ⟨rfl, q, gg⟩
  have Q_10 := Lib.hid q
  have P_10 := Lib.hid (only_blk gg P_9.out (by omega))
  have R_10 := Lib.hid (only_blk gg R_9.out (by omega))
  have L_10 := Lib.hid (L_9.out.trans (only_lt gg L_9.out.size (by omega)))
  have hz_10 : w1.heap.size + 1 ≤ u10.heap.size := by have := gg.size; omega
  have T_10 := Lib.hid (only_blk gg T_9.out (by omega))
  clear q gg Q_9 P_9 R_9 L_9 hz_9 T_9
  go_wp2_with fail
  refine (num_c w1.heap.size g s10 s11 v11 _ w1.heap.size Q_10.out (by omega) P_10.out E11.out).mono ?_
  rintro e u11 ⟨rfl, q, gg⟩
  have Q_11 := Lib.hid q
  have P_11 := Lib.hid (only_blk gg P_10.out (by omega))
  have R_11 := Lib.hid (only_blk gg R_10.out (by omega))
  have L_11 := Lib.hid (L_10.out.trans (only_lt gg L_10.out.size (by omega)))
  have hz_11 : w1.heap.size + 1 ≤ u11.heap.size := by have := gg.size; omega
  have T_11 := Lib.hid (only_blk gg T_10.out (by omega))
  clear q gg Q_10 P_10 R_10 L_10 hz_10 T_10
  go_wp2_with (first | (refine wpl_row (by rfl) 26 _ rfl _ rfl _ _ _ _ hb3 rfl Try.underlying26 (by kernel_rfl) ?_) | (refine wpl_seg rfl 3 _ _ rfl u3.heap.size 10 _ #[.int .i64 v11] rfl rfl rfl 26 #[.int .i64 v1, .int .i64 v2, .int .i64 v3, .int .i64 v4, .int .i64 v5, .int .i64 v6, .int .i64 v7, .int .i64 v8, .int .i64 v9, .int .i64 v10, .int .i64 0] hb2 (by kernel_rfl) #[.int .i64 v1, .int .i64 v2, .int .i64 v3, .int .i64 v4, .int .i64 v5, .int .i64 v6, .int .i64 v7, .int .i64 v8, .int .i64 v9, .int .i64 v10, .int .i64 v11] (by simp [setSeg]) (by simp) (by kernel_rfl) ?_; intro y3 hb3 sb3) | (refine wpl_seg rfl 3 _ _ rfl u3.heap.size 9 _ #[.int .i64 v10] rfl rfl rfl 26 #[.int .i64 v1, .int .i64 v2, .int .i64 v3, .int .i64 v4, .int .i64 v5, .int .i64 v6, .int .i64 v7, .int .i64 v8, .int .i64 v9, .int .i64 0, .int .i64 0] hb1 (by kernel_rfl) #[.int .i64 v1, .int .i64 v2, .int .i64 v3, .int .i64 v4, .int .i64 v5, .int .i64 v6, .int .i64 v7, .int .i64 v8, .int .i64 v9, .int .i64 v10, .int .i64 0] (by simp [setSeg]) (by simp) (by kernel_rfl) ?_; intro y2 hb2 sb2) | (refine wpl_seg rfl 3 _ _ rfl u3.heap.size 8 _ #[.int .i64 v9] rfl rfl rfl 26 #[.int .i64 v1, .int .i64 v2, .int .i64 v3, .int .i64 v4, .int .i64 v5, .int .i64 v6, .int .i64 v7, .int .i64 v8, .int .i64 0, .int .i64 0, .int .i64 0] hb0 (by kernel_rfl) #[.int .i64 v1, .int .i64 v2, .int .i64 v3, .int .i64 v4, .int .i64 v5, .int .i64 v6, .int .i64 v7, .int .i64 v8, .int .i64 v9, .int .i64 0, .int .i64 0] (by simp [setSeg]) (by simp) (by kernel_rfl) ?_; intro y1 hb1 sb1) | (refine wpl_seg rfl 3 _ _ rfl u3.heap.size 7 _ #[.int .i64 v8] rfl rfl rfl 26 #[.int .i64 v1, .int .i64 v2, .int .i64 v3, .int .i64 v4, .int .i64 v5, .int .i64 v6, .int .i64 v7, .int .i64 0, .int .i64 0, .int .i64 0, .int .i64 0] T_11.out (by kernel_rfl) #[.int .i64 v1, .int .i64 v2, .int .i64 v3, .int .i64 v4, .int .i64 v5, .int .i64 v6, .int .i64 v7, .int .i64 v8, .int .i64 0, .int .i64 0, .int .i64 0] (by simp [setSeg]) (by simp) (by kernel_rfl) ?_; intro y0 hb0 sb0))
  have Q_y3 := Lib.hid ((((Q_11.out.below (sb0.bel (Below.refl _ _) (by omega))).below (sb1.bel (Below.refl _ _) (by omega))).below (sb2.bel (Below.refl _ _) (by omega))).below (sb3.bel (Below.refl _ _) (by omega)))
  have P_y3 := Lib.hid (sb3.blk (sb2.blk (sb1.blk (sb0.blk P_11.out (by omega)) (by omega)) (by omega)) (by omega))
  have R_y3 := Lib.hid (sb3.blk (sb2.blk (sb1.blk (sb0.blk R_11.out (by omega)) (by omega)) (by omega)) (by omega))
  have L_y3 := Lib.hid (sb3.bel (sb2.bel (sb1.bel (sb0.bel L_11.out (by omega)) (by omega)) (by omega)) (by omega))
  have T_y3 := Lib.hid hb3
  have hz_y3 : w1.heap.size + 1 ≤ y3.heap.size := by have := sb0.size; have := sb1.size; have := sb2.size; have := sb3.size; omega
  clear hb0 sb0 hb1 sb1 hb2 sb2 hb3 sb3 Q_11 P_11 R_11 L_11 T_11 hz_11
  have hT := blk_lt T_y3.out
  have hRT := blk_lt R_y3.out
  by_cases hm : MayS x
  · have HM := Lib.hid hm
    clear hm
    have HPUT := Lib.hid (fun W => encS_yes x W HM.out HF.out)
    unfold RBy at HPUT
    rw [HXV.out] at HPUT
    refine (HPUT.out _).mono ?_
    rintro e z ⟨va, rfl, q3, b3⟩
    obtain ⟨A3, c3, rfl, hc3, _, r3⟩ := q3.form
    have R3 := Lib.hid r3
    clear q3 r3
    have Q := Lib.hid (Q_y3.out.below (b3.mono (by omega)))
    have P := Lib.hid (blk0 P_y3.out b3)
    have R := Lib.hid (blk0 R_y3.out b3)
    have T := Lib.hid (blk0 T_y3.out b3)
    have L := Lib.hid (bel0 L_y3.out L_y3.out.size b3)
    have B := Lib.hid (HL.out.below L.out)
    have c0 : z.cell? ⟨w1.heap.size, 0, none⟩ = some (.pointer (some ⟨g, 0, none⟩)) := cell0 P.out
    clear b3 Q_y3 P_y3 R_y3 T_y3 L_y3 hz_y3 HPUT HL
    go_wp2_with fail
    by_cases he : rEnd s11 = 0
    · have HVE := Lib.hid he
      clear he
      refine (rend_is Q.out (v := 0) HVE.out).mono ?_
      rintro e w' ⟨rfl, rfl⟩
      by_cases hq : encS x = l
      · have HQ := Lib.hid hq
        clear hq
        go_wp2_with fail
        refine (equal_c A3 A _ n c3 c (encS x) l _ _ _ R3.out B.out (by have := encS_le x; omega) (by omega) true (decide_eq_true HQ.out)).mono ?_
        rintro e w4 ⟨rfl, nq, rfl⟩
        go_wp2_with (first | (refine wpl_row (by rfl) 26 _ rfl _ rfl _ _ _ _ (by exact T.out) rfl Try.underlying26 (by kernel_rfl) ?_) | (refine wpl_set rfl 26 _ _ rfl w.heap.size #[.int .i64 v1, .int .i64 v2, .int .i64 v3, .int .i64 v4, .int .i64 v5, .int .i64 v6, .int .i64 v7, .int .i64 v8, .int .i64 v9, .int .i64 v10, .int .i64 v11] rfl rfl 26 #[.int .i64 0, .int .i64 0, .int .i64 0, .int .i64 0, .int .i64 0, .int .i64 0, .int .i64 0, .int .i64 0, .int .i64 0, .int .i64 0, .int .i64 0] (by exact R.out) (by kernel_rfl) rfl (by kernel_rfl) ?_; intro zf hb sb))
        have hy := HY.out
        rw [if_pos ⟨HVE.out, HM.out, HQ.out⟩] at hy
        injection hy with hy1 hy2
        subst hy1 hy2
        have RF := Lib.hid hb
        have LF := Lib.hid (sb.bel (below_drewN L.out _) (Nat.le_refl _))
        clear hb sb
        have f0 : zf.cell? ⟨w.heap.size, 0, none⟩ = some (.int .i64 v1) := (cellsB (i := 0) RF.out).trans rfl
        have f1 : zf.cell? ⟨w.heap.size, 1, none⟩ = some (.int .i64 v2) := (cellsB (i := 1) RF.out).trans rfl
        have f2 : zf.cell? ⟨w.heap.size, 2, none⟩ = some (.int .i64 v3) := (cellsB (i := 2) RF.out).trans rfl
        have f3 : zf.cell? ⟨w.heap.size, 3, none⟩ = some (.int .i64 v4) := (cellsB (i := 3) RF.out).trans rfl
        have f4 : zf.cell? ⟨w.heap.size, 4, none⟩ = some (.int .i64 v5) := (cellsB (i := 4) RF.out).trans rfl
        have f5 : zf.cell? ⟨w.heap.size, 5, none⟩ = some (.int .i64 v6) := (cellsB (i := 5) RF.out).trans rfl
        have f6 : zf.cell? ⟨w.heap.size, 6, none⟩ = some (.int .i64 v7) := (cellsB (i := 6) RF.out).trans rfl
        have f7 : zf.cell? ⟨w.heap.size, 7, none⟩ = some (.int .i64 v8) := (cellsB (i := 7) RF.out).trans rfl
        have f8 : zf.cell? ⟨w.heap.size, 8, none⟩ = some (.int .i64 v9) := (cellsB (i := 8) RF.out).trans rfl
        have f9 : zf.cell? ⟨w.heap.size, 9, none⟩ = some (.int .i64 v10) := (cellsB (i := 9) RF.out).trans rfl
        have f10 : zf.cell? ⟨w.heap.size, 10, none⟩ = some (.int .i64 v11) := (cellsB (i := 10) RF.out).trans rfl
        go_wp2
        refine bodyPost_ret (v := .tuple #[.agg #[.int .i64 v1, .int .i64 v2, .int .i64 v3, .int .i64 v4, .int .i64 v5, .int .i64 v6, .int .i64 v7, .int .i64 v8, .int .i64 v9, .int .i64 v10, .int .i64 v11], .int .i64 0]) (by simp [results, Try.results41, go_sem, f0, f1, f2, f3, f4, f5, f6, f7, f8, f9, f10]) rfl ?_
        exact ⟨by rw [HXV.out], LF.out⟩
      · have HQ := Lib.hid hq
        clear hq
        go_wp2_with fail
        refine (equal_c A3 A _ n c3 c (encS x) l _ _ _ R3.out B.out (by have := encS_le x; omega) (by omega) false (decide_eq_false HQ.out)).mono ?_
        rintro e w4 ⟨rfl, nq, rfl⟩
        go_wp2_with (first | (refine wpl_build (by rfl) 26 _ rfl #[.int .i64 0, .int .i64 0, .int .i64 0, .int .i64 0, .int .i64 0, .int .i64 0, .int .i64 0, .int .i64 0, .int .i64 0, .int .i64 0, .int .i64 0] (by kernel_rfl) ?_) | (refine wpl_set rfl 26 _ _ rfl w.heap.size #[.int .i64 0, .int .i64 0, .int .i64 0, .int .i64 0, .int .i64 0, .int .i64 0, .int .i64 0, .int .i64 0, .int .i64 0, .int .i64 0, .int .i64 0] rfl rfl 26 #[.int .i64 0, .int .i64 0, .int .i64 0, .int .i64 0, .int .i64 0, .int .i64 0, .int .i64 0, .int .i64 0, .int .i64 0, .int .i64 0, .int .i64 0] (by exact R.out) (by kernel_rfl) rfl (by kernel_rfl) ?_; intro zf hb sb))
        have hy := HY.out
        rw [if_neg (fun h => HQ.out h.2.2)] at hy
        injection hy with hy1 hy2
        subst hy1 hy2
        have RF := Lib.hid hb
        have LF := Lib.hid (sb.bel (below_drewN L.out _) (Nat.le_refl _))
        clear hb sb
        have f0 : zf.cell? ⟨w.heap.size, 0, none⟩ = some (.int .i64 0) := (cellsB (i := 0) RF.out).trans rfl
        have f1 : zf.cell? ⟨w.heap.size, 1, none⟩ = some (.int .i64 0) := (cellsB (i := 1) RF.out).trans rfl
        have f2 : zf.cell? ⟨w.heap.size, 2, none⟩ = some (.int .i64 0) := (cellsB (i := 2) RF.out).trans rfl
        have f3 : zf.cell? ⟨w.heap.size, 3, none⟩ = some (.int .i64 0) := (cellsB (i := 3) RF.out).trans rfl
        have f4 : zf.cell? ⟨w.heap.size, 4, none⟩ = some (.int .i64 0) := (cellsB (i := 4) RF.out).trans rfl
        have f5 : zf.cell? ⟨w.heap.size, 5, none⟩ = some (.int .i64 0) := (cellsB (i := 5) RF.out).trans rfl
        have f6 : zf.cell? ⟨w.heap.size, 6, none⟩ = some (.int .i64 0) := (cellsB (i := 6) RF.out).trans rfl
        have f7 : zf.cell? ⟨w.heap.size, 7, none⟩ = some (.int .i64 0) := (cellsB (i := 7) RF.out).trans rfl
        have f8 : zf.cell? ⟨w.heap.size, 8, none⟩ = some (.int .i64 0) := (cellsB (i := 8) RF.out).trans rfl
        have f9 : zf.cell? ⟨w.heap.size, 9, none⟩ = some (.int .i64 0) := (cellsB (i := 9) RF.out).trans rfl
        have f10 : zf.cell? ⟨w.heap.size, 10, none⟩ = some (.int .i64 0) := (cellsB (i := 10) RF.out).trans rfl
        go_wp2
        refine bodyPost_ret (v := .tuple #[.agg #[.int .i64 0, .int .i64 0, .int .i64 0, .int .i64 0, .int .i64 0, .int .i64 0, .int .i64 0, .int .i64 0, .int .i64 0, .int .i64 0, .int .i64 0], .int .i64 2]) (by simp [results, Try.results41, go_sem, f0, f1, f2, f3, f4, f5, f6, f7, f8, f9, f10]) rfl ?_
        exact ⟨rfl, LF.out⟩
    · obtain ⟨ve, hve⟩ : ∃ v, rEnd s11 = v := ⟨_, rfl⟩
      have hvn : (ve == 0) = false := beq_eq_false_iff_ne.2 (by rw [← hve]; exact he)
      have hvn2 : (ve != 0) = true := by unfold bne; rw [hvn]; rfl
      have HE := Lib.hid he
      have HVE := Lib.hid hve
      clear he hve
      refine (rend_is Q.out HVE.out).mono ?_
      rintro e w' ⟨rfl, rfl⟩
      go_wp2_with (first | (refine wpl_build (by rfl) 26 _ rfl #[.int .i64 0, .int .i64 0, .int .i64 0, .int .i64 0, .int .i64 0, .int .i64 0, .int .i64 0, .int .i64 0, .int .i64 0, .int .i64 0, .int .i64 0] (by kernel_rfl) ?_) | (refine wpl_set rfl 26 _ _ rfl w.heap.size #[.int .i64 0, .int .i64 0, .int .i64 0, .int .i64 0, .int .i64 0, .int .i64 0, .int .i64 0, .int .i64 0, .int .i64 0, .int .i64 0, .int .i64 0] rfl rfl 26 #[.int .i64 0, .int .i64 0, .int .i64 0, .int .i64 0, .int .i64 0, .int .i64 0, .int .i64 0, .int .i64 0, .int .i64 0, .int .i64 0, .int .i64 0] (by exact R.out) (by kernel_rfl) rfl (by kernel_rfl) ?_; intro zf hb sb))
      have hy := HY.out
      rw [if_neg (fun h => HE.out h.1)] at hy
      injection hy with hy1 hy2
      subst hy1 hy2
      have RF := Lib.hid hb
      have LF := Lib.hid (sb.bel L.out (Nat.le_refl _))
      clear hb sb
      have f0 : zf.cell? ⟨w.heap.size, 0, none⟩ = some (.int .i64 0) := (cellsB (i := 0) RF.out).trans rfl
      have f1 : zf.cell? ⟨w.heap.size, 1, none⟩ = some (.int .i64 0) := (cellsB (i := 1) RF.out).trans rfl
      have f2 : zf.cell? ⟨w.heap.size, 2, none⟩ = some (.int .i64 0) := (cellsB (i := 2) RF.out).trans rfl
      have f3 : zf.cell? ⟨w.heap.size, 3, none⟩ = some (.int .i64 0) := (cellsB (i := 3) RF.out).trans rfl
      have f4 : zf.cell? ⟨w.heap.size, 4, none⟩ = some (.int .i64 0) := (cellsB (i := 4) RF.out).trans rfl
      have f5 : zf.cell? ⟨w.heap.size, 5, none⟩ = some (.int .i64 0) := (cellsB (i := 5) RF.out).trans rfl
      have f6 : zf.cell? ⟨w.heap.size, 6, none⟩ = some (.int .i64 0) := (cellsB (i := 6) RF.out).trans rfl
      have f7 : zf.cell? ⟨w.heap.size, 7, none⟩ = some (.int .i64 0) := (cellsB (i := 7) RF.out).trans rfl
      have f8 : zf.cell? ⟨w.heap.size, 8, none⟩ = some (.int .i64 0) := (cellsB (i := 8) RF.out).trans rfl
      have f9 : zf.cell? ⟨w.heap.size, 9, none⟩ = some (.int .i64 0) := (cellsB (i := 9) RF.out).trans rfl
      have f10 : zf.cell? ⟨w.heap.size, 10, none⟩ = some (.int .i64 0) := (cellsB (i := 10) RF.out).trans rfl
      go_wp2
      refine bodyPost_ret (v := .tuple #[.agg #[.int .i64 0, .int .i64 0, .int .i64 0, .int .i64 0, .int .i64 0, .int .i64 0, .int .i64 0, .int .i64 0, .int .i64 0, .int .i64 0, .int .i64 0], .int .i64 2]) (by simp [results, Try.results41, go_sem, f0, f1, f2, f3, f4, f5, f6, f7, f8, f9, f10]) rfl ?_
      exact ⟨rfl, LF.out⟩
  · have HM := Lib.hid hm
    clear hm
    have HPUT := Lib.hid (fun W => encS_no x W HM.out)
    rw [HXV.out] at HPUT
    refine (HPUT.out _).mono ?_
    rintro e z ⟨rfl, b3⟩
    have Q := Lib.hid (Q_y3.out.below (b3.mono (by omega)))
    have P := Lib.hid (blk0 P_y3.out b3)
    have R := Lib.hid (blk0 R_y3.out b3)
    have T := Lib.hid (blk0 T_y3.out b3)
    have L := Lib.hid (bel0 L_y3.out L_y3.out.size b3)
    have B := Lib.hid (HL.out.below L.out)
    have c0 : z.cell? ⟨w1.heap.size, 0, none⟩ = some (.pointer (some ⟨g, 0, none⟩)) := cell0 P.out
    clear b3 Q_y3 P_y3 R_y3 T_y3 L_y3 hz_y3 HPUT HL
    go_wp2_with fail
    by_cases he : rEnd s11 = 0
    · have HVE := Lib.hid he
      clear he
      refine (rend_is Q.out (v := 0) HVE.out).mono ?_
      rintro e w' ⟨rfl, rfl⟩
      go_wp2_with (first | (refine wpl_build (by rfl) 26 _ rfl #[.int .i64 0, .int .i64 0, .int .i64 0, .int .i64 0, .int .i64 0, .int .i64 0, .int .i64 0, .int .i64 0, .int .i64 0, .int .i64 0, .int .i64 0] (by kernel_rfl) ?_) | (refine wpl_set rfl 26 _ _ rfl w.heap.size #[.int .i64 0, .int .i64 0, .int .i64 0, .int .i64 0, .int .i64 0, .int .i64 0, .int .i64 0, .int .i64 0, .int .i64 0, .int .i64 0, .int .i64 0] rfl rfl 26 #[.int .i64 0, .int .i64 0, .int .i64 0, .int .i64 0, .int .i64 0, .int .i64 0, .int .i64 0, .int .i64 0, .int .i64 0, .int .i64 0, .int .i64 0] (by exact R.out) (by kernel_rfl) rfl (by kernel_rfl) ?_; intro zf hb sb))
      have hy := HY.out
      rw [if_neg (fun h => HM.out h.2.1)] at hy
      injection hy with hy1 hy2
      subst hy1 hy2
      have RF := Lib.hid hb
      have LF := Lib.hid (sb.bel L.out (Nat.le_refl _))
      clear hb sb
      have f0 : zf.cell? ⟨w.heap.size, 0, none⟩ = some (.int .i64 0) := (cellsB (i := 0) RF.out).trans rfl
      have f1 : zf.cell? ⟨w.heap.size, 1, none⟩ = some (.int .i64 0) := (cellsB (i := 1) RF.out).trans rfl
      have f2 : zf.cell? ⟨w.heap.size, 2, none⟩ = some (.int .i64 0) := (cellsB (i := 2) RF.out).trans rfl
      have f3 : zf.cell? ⟨w.heap.size, 3, none⟩ = some (.int .i64 0) := (cellsB (i := 3) RF.out).trans rfl
      have f4 : zf.cell? ⟨w.heap.size, 4, none⟩ = some (.int .i64 0) := (cellsB (i := 4) RF.out).trans rfl
      have f5 : zf.cell? ⟨w.heap.size, 5, none⟩ = some (.int .i64 0) := (cellsB (i := 5) RF.out).trans rfl
      have f6 : zf.cell? ⟨w.heap.size, 6, none⟩ = some (.int .i64 0) := (cellsB (i := 6) RF.out).trans rfl
      have f7 : zf.cell? ⟨w.heap.size, 7, none⟩ = some (.int .i64 0) := (cellsB (i := 7) RF.out).trans rfl
      have f8 : zf.cell? ⟨w.heap.size, 8, none⟩ = some (.int .i64 0) := (cellsB (i := 8) RF.out).trans rfl
      have f9 : zf.cell? ⟨w.heap.size, 9, none⟩ = some (.int .i64 0) := (cellsB (i := 9) RF.out).trans rfl
      have f10 : zf.cell? ⟨w.heap.size, 10, none⟩ = some (.int .i64 0) := (cellsB (i := 10) RF.out).trans rfl
      go_wp2
      refine bodyPost_ret (v := .tuple #[.agg #[.int .i64 0, .int .i64 0, .int .i64 0, .int .i64 0, .int .i64 0, .int .i64 0, .int .i64 0, .int .i64 0, .int .i64 0, .int .i64 0, .int .i64 0], .int .i64 2]) (by simp [results, Try.results41, go_sem, f0, f1, f2, f3, f4, f5, f6, f7, f8, f9, f10]) rfl ?_
      exact ⟨rfl, LF.out⟩
    · obtain ⟨ve, hve⟩ : ∃ v, rEnd s11 = v := ⟨_, rfl⟩
      have hvn : (ve == 0) = false := beq_eq_false_iff_ne.2 (by rw [← hve]; exact he)
      have hvn2 : (ve != 0) = true := by unfold bne; rw [hvn]; rfl
      have HE := Lib.hid he
      have HVE := Lib.hid hve
      clear he hve
      refine (rend_is Q.out HVE.out).mono ?_
      rintro e w' ⟨rfl, rfl⟩
      go_wp2_with (first | (refine wpl_build (by rfl) 26 _ rfl #[.int .i64 0, .int .i64 0, .int .i64 0, .int .i64 0, .int .i64 0, .int .i64 0, .int .i64 0, .int .i64 0, .int .i64 0, .int .i64 0, .int .i64 0] (by kernel_rfl) ?_) | (refine wpl_set rfl 26 _ _ rfl w.heap.size #[.int .i64 0, .int .i64 0, .int .i64 0, .int .i64 0, .int .i64 0, .int .i64 0, .int .i64 0, .int .i64 0, .int .i64 0, .int .i64 0, .int .i64 0] rfl rfl 26 #[.int .i64 0, .int .i64 0, .int .i64 0, .int .i64 0, .int .i64 0, .int .i64 0, .int .i64 0, .int .i64 0, .int .i64 0, .int .i64 0, .int .i64 0] (by exact R.out) (by kernel_rfl) rfl (by kernel_rfl) ?_; intro zf hb sb))
      have hy := HY.out
      rw [if_neg (fun h => HE.out h.1)] at hy
      injection hy with hy1 hy2
      subst hy1 hy2
      have RF := Lib.hid hb
      have LF := Lib.hid (sb.bel L.out (Nat.le_refl _))
      clear hb sb
      have f0 : zf.cell? ⟨w.heap.size, 0, none⟩ = some (.int .i64 0) := (cellsB (i := 0) RF.out).trans rfl
      have f1 : zf.cell? ⟨w.heap.size, 1, none⟩ = some (.int .i64 0) := (cellsB (i := 1) RF.out).trans rfl
      have f2 : zf.cell? ⟨w.heap.size, 2, none⟩ = some (.int .i64 0) := (cellsB (i := 2) RF.out).trans rfl
      have f3 : zf.cell? ⟨w.heap.size, 3, none⟩ = some (.int .i64 0) := (cellsB (i := 3) RF.out).trans rfl
      have f4 : zf.cell? ⟨w.heap.size, 4, none⟩ = some (.int .i64 0) := (cellsB (i := 4) RF.out).trans rfl
      have f5 : zf.cell? ⟨w.heap.size, 5, none⟩ = some (.int .i64 0) := (cellsB (i := 5) RF.out).trans rfl
      have f6 : zf.cell? ⟨w.heap.size, 6, none⟩ = some (.int .i64 0) := (cellsB (i := 6) RF.out).trans rfl
      have f7 : zf.cell? ⟨w.heap.size, 7, none⟩ = some (.int .i64 0) := (cellsB (i := 7) RF.out).trans rfl
      have f8 : zf.cell? ⟨w.heap.size, 8, none⟩ = some (.int .i64 0) := (cellsB (i := 8) RF.out).trans rfl
      have f9 : zf.cell? ⟨w.heap.size, 9, none⟩ = some (.int .i64 0) := (cellsB (i := 9) RF.out).trans rfl
      have f10 : zf.cell? ⟨w.heap.size, 10, none⟩ = some (.int .i64 0) := (cellsB (i := 10) RF.out).trans rfl
      go_wp2
      refine bodyPost_ret (v := .tuple #[.agg #[.int .i64 0, .int .i64 0, .int .i64 0, .int .i64 0, .int .i64 0, .int .i64 0, .int .i64 0, .int .i64 0, .int .i64 0, .int .i64 0, .int .i64 0], .int .i64 2]) (by simp [results, Try.results41, go_sem, f0, f1, f2, f3, f4, f5, f6, f7, f8, f9, f10]) rfl ?_
      exact ⟨rfl, LF.out⟩
end Go.Proofs.Ytplgodfhhlnojaa
