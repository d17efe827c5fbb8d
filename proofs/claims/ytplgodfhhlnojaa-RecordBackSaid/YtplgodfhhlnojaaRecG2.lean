/- record.Get, walked (printed by genrecget.py). -/
import Derived.Test.YtplgodfhhlnojaaRecG0
set_option linter.unusedSimpArgs false
set_option linter.unusedVariables false
namespace Go.Proofs.Ytplgodfhhlnojaa
open Go.RowKit
set_option maxRecDepth 100000 in
set_option maxHeartbeats 16000000 in
theorem recget0 (A : Option Addr) (n c : Nat) (l : List UInt8) (w : World) (hr : Rd w w.heap.size 1 A n (B8 l)) (hn : n ≤ 100000000) (k : Int) (now : Int) (s1 s2 : Rs) (hk1 : ¬ k = 1) (hk3 : ¬ k = 3) (e1 : rN (some l) = (k, s1)) (e2 : rN s1 = (now, s2)) (IN : In64 now) (y : R19) (yk : Int) (hy : (if True ∧ rEnd s2 = 0 ∧ MayR ⟨k, now, 0, zO, z11⟩ ∧ encR ⟨k, now, 0, zO, z11⟩ = l then (⟨k, now, 0, zO, z11⟩, 0) else (zR, 2)) = (y, yk)) : Calls Try.prog 58 #[.slice A n c] w fun e w' => e = .returned (.tuple #[y.val, .int .i64 yk]) ∧ Below w.heap.size w w' := by
  have HL := Lib.hid hr
  obtain ⟨x, hx⟩ : ∃ x : R19, x = ⟨k, now, 0, zO, z11⟩ := ⟨_, rfl⟩
  have hxv : x.val = .agg #[.int .i64 k, .int .i64 now, .int .i64 0, .int .i64 0, .int .i64 0, .int .i64 0, .int .i64 0, .int .i64 0, .int .i64 0, .int .i64 0, .int .i64 0, .int .i64 0, .int .i64 0, .int .i64 0, .int .i64 0, .int .i64 0, .int .i64 0, .int .i64 0, .int .i64 0] := by rw [hx]; rfl
  rw [← hx] at hy
  have HXV := Lib.hid hxv
  have HY := Lib.hid hy
  have E1 := Lib.hid e1
  have E2 := Lib.hid e2
  clear hr hx hxv hy e1 e2
  have q1 : (k == 1) = false := beq_eq_false_iff_ne.2 hk1
  have q3 : (k == 3) = false := beq_eq_false_iff_ne.2 hk3
  clear hk1 hk3
  go_enter Try.func58, Try.ntmps58
  go_wp2_with fail
  refine (new_c A n c l _ ((HL.out.alloc (Nat.le_refl _) _).more (by simp)) (by omega)).mono ?_
  rintro e w1 ⟨g, rfl, hg0, q, b1⟩
  have hg2 : w.heap.size + 1 ≤ g := by simpa using hg0
  have hgl := q.lt
  have R1 := Lib.hid (new1 b1)
  have L1 := Lib.hid (bel1 (Below.refl w.heap.size w) (Nat.le_refl _) b1)
  have hz1 : w.heap.size + 1 ≤ w1.heap.size := by have := b1.size; simpa using this
  obtain ⟨W, hW⟩ : ∃ W, W = w1.alloc (.cells #[.pointer (some ⟨g, 0, none⟩)] 109) := ⟨_, rfl⟩
  have Q1 := Lib.hid (show RP W w1.heap.size g (some l) from hW ▸ q.alloc (Nat.le_refl _) _)
  have P1 := Lib.hid (show W.heap[w1.heap.size]? = some (.cells #[.pointer (some ⟨g, 0, none⟩)] 109 (0, 0)) from hW ▸ heap_alloc_new w1 _)
  have R2 := Lib.hid (show W.heap[w.heap.size]? = some (.cells #[.int .i64 0, .int .i64 0, .int .i64 0, .int .i64 0, .int .i64 0, .int .i64 0, .int .i64 0, .int .i64 0, .int .i64 0, .int .i64 0, .int .i64 0, .int .i64 0, .int .i64 0, .int .i64 0, .int .i64 0, .int .i64 0, .int .i64 0, .int .i64 0, .int .i64 0] 82 (0, 0)) from hW ▸ alc R1.out)
  have L2 := Lib.hid (show Below w.heap.size w W from hW ▸ L1.out.alloc L1.out.size _)
  have hzW : w1.heap.size + 1 ≤ W.heap.size := by rw [hW]; simp
  clear hg0 q b1 R1 L1
  go_wp2_with fail
  rw [← hW]
  clear hW
  refine (numr_c w1.heap.size g (some l) s1 k _ w1.heap.size Q1.out (by omega) P1.out E1.out).mono ?_
  rintro e u1 ⟨rfl, q, gg⟩
  have Q_1 := Lib.hid q
  have P_1 := Lib.hid (only_blk gg P1.out (by omega))
  have R_1 := Lib.hid (only_blk gg R2.out (by omega))
  have L_1 := Lib.hid (L2.out.trans (only_lt gg L2.out.size (by omega)))
  have hz_1 : w1.heap.size + 1 ≤ u1.heap.size := by have := gg.size; omega
  clear q gg Q1 P1 R2 L2 hzW
  go_wp2_with fail
  refine (numr_c w1.heap.size g s1 s2 now _ w1.heap.size Q_1.out (by omega) P_1.out E2.out).mono ?_
  rintro e u2 ⟨rfl, q, gg⟩
  have Q_2 := Lib.hid q
  have P_2 := Lib.hid (only_blk gg P_1.out (by omega))
  have R_2 := Lib.hid (only_blk gg R_1.out (by omega))
  have L_2 := Lib.hid (L_1.out.trans (only_lt gg L_1.out.size (by omega)))
  have hz_2 : w1.heap.size + 1 ≤ u2.heap.size := by have := gg.size; omega
  clear q gg Q_1 P_1 R_1 L_1 hz_1
  go_upto_region 4 with (first | (refine wpl_build (by rfl) 82 _ rfl #[.int .i64 k, .int .i64 now, .int .i64 0, .int .i64 0, .int .i64 0, .int .i64 0, .int .i64 0, .int .i64 0, .int .i64 0, .int .i64 0, .int .i64 0, .int .i64 0, .int .i64 0, .int .i64 0, .int .i64 0, .int .i64 0, .int .i64 0, .int .i64 0, .int .i64 0] (by kernel_rfl) ?_) | (refine wpl_set rfl 82 _ _ rfl u2.heap.size #[.int .i64 k, .int .i64 now, .int .i64 0, .int .i64 0, .int .i64 0, .int .i64 0, .int .i64 0, .int .i64 0, .int .i64 0, .int .i64 0, .int .i64 0, .int .i64 0, .int .i64 0, .int .i64 0, .int .i64 0, .int .i64 0, .int .i64 0, .int .i64 0, .int .i64 0] rfl rfl 82 #[.int .i64 0, .int .i64 0, .int .i64 0, .int .i64 0, .int .i64 0, .int .i64 0, .int .i64 0, .int .i64 0, .int .i64 0, .int .i64 0, .int .i64 0, .int .i64 0, .int .i64 0, .int .i64 0, .int .i64 0, .int .i64 0, .int .i64 0, .int .i64 0, .int .i64 0] (heap_alloc_new u2 (.cells #[.int .i64 0, .int .i64 0, .int .i64 0, .int .i64 0, .int .i64 0, .int .i64 0, .int .i64 0, .int .i64 0, .int .i64 0, .int .i64 0, .int .i64 0, .int .i64 0, .int .i64 0, .int .i64 0, .int .i64 0, .int .i64 0, .int .i64 0, .int .i64 0, .int .i64 0] 82)) (by kernel_rfl) rfl (by kernel_rfl) ?_; intro U hb sb))
  have QU := Lib.hid ((Q_2.out.alloc (by omega) (.cells #[.int .i64 0, .int .i64 0, .int .i64 0, .int .i64 0, .int .i64 0, .int .i64 0, .int .i64 0, .int .i64 0, .int .i64 0, .int .i64 0, .int .i64 0, .int .i64 0, .int .i64 0, .int .i64 0, .int .i64 0, .int .i64 0, .int .i64 0, .int .i64 0, .int .i64 0] 82)).below (sb.bel (Below.refl _ _) (by omega)))
  have PU := Lib.hid (sb.old P_2.out)
  have RU := Lib.hid (sb.old R_2.out)
  have LU := Lib.hid (sb.below L_2.out L_2.out.size)
  have TU := Lib.hid hb
  have hzU : w1.heap.size + 1 ≤ U.heap.size := by rw [sb.size]; simp; omega
  clear hb sb Q_2 P_2 R_2 L_2
  have k0 : U.cell? ⟨u2.heap.size, 0, none⟩ = some (.int .i64 k) := (cellsB (i := 0) TU.out).trans rfl
  have p0 : U.cell? ⟨w1.heap.size, 0, none⟩ = some (.pointer (some ⟨g, 0, none⟩)) := cell0 PU.out
  go_wp2_with (refine wpl_row (by rfl) 82 _ rfl _ rfl _ _ _ _ TU.out rfl Try.underlying82 (by kernel_rfl) ?_)
  clear k0 p0
  have hT := blk_lt TU.out
  by_cases hm : MayR x
  · have HM := Lib.hid hm
    clear hm
    have HPUT := Lib.hid (fun W => encR_yes x W HM.out)
    unfold RBy at HPUT
    rw [HXV.out] at HPUT
    refine (HPUT.out _).mono ?_
    rintro e z ⟨va, rfl, q3, b3⟩
    obtain ⟨A3, c3, rfl, hc3, _, r3⟩ := q3.form
    have R3 := Lib.hid r3
    clear q3 r3
    have Q := Lib.hid (QU.out.below (b3.mono (by omega)))
    have P := Lib.hid (blk0 PU.out b3)
    have R := Lib.hid (blk0 RU.out b3)
    have T := Lib.hid (blk0 TU.out b3)
    have L := Lib.hid (bel0 LU.out LU.out.size b3)
    have B := Lib.hid (HL.out.below L.out)
    have c0 : z.cell? ⟨w1.heap.size, 0, none⟩ = some (.pointer (some ⟨g, 0, none⟩)) := cell0 P.out
    clear b3 QU PU RU TU LU hzU HPUT HL
    go_wp2_with fail
    by_cases he : rEnd s2 = 0
    · have HVE := Lib.hid he
      clear he
      refine (rend_is Q.out (v := 0) HVE.out).mono ?_
      rintro e w' ⟨rfl, rfl⟩
      by_cases hq : encR x = l
      · have HQ := Lib.hid hq
        clear hq
        go_wp2_with fail
        refine (equal_c A3 A _ n c3 c (encR x) l _ _ _ R3.out B.out (by have := encR_le x; omega) (by omega) true (decide_eq_true HQ.out)).mono ?_
        rintro e w4 ⟨rfl, nq, rfl⟩
        go_wp2_with (first | (refine wpl_row (by rfl) 82 _ rfl _ rfl _ _ _ _ (by exact T.out) rfl Try.underlying82 (by kernel_rfl) ?_) | (refine wpl_set rfl 82 _ _ rfl w.heap.size #[.int .i64 k, .int .i64 now, .int .i64 0, .int .i64 0, .int .i64 0, .int .i64 0, .int .i64 0, .int .i64 0, .int .i64 0, .int .i64 0, .int .i64 0, .int .i64 0, .int .i64 0, .int .i64 0, .int .i64 0, .int .i64 0, .int .i64 0, .int .i64 0, .int .i64 0] rfl rfl 82 #[.int .i64 0, .int .i64 0, .int .i64 0, .int .i64 0, .int .i64 0, .int .i64 0, .int .i64 0, .int .i64 0, .int .i64 0, .int .i64 0, .int .i64 0, .int .i64 0, .int .i64 0, .int .i64 0, .int .i64 0, .int .i64 0, .int .i64 0, .int .i64 0, .int .i64 0] (by exact R.out) (by kernel_rfl) rfl (by kernel_rfl) ?_; intro zf hb sb))
        have hy := HY.out
        rw [if_pos ⟨trivial, HVE.out, HM.out, HQ.out⟩] at hy
        injection hy with hy1 hy2
        subst hy1 hy2
        have RF := Lib.hid hb
        have LF := Lib.hid (sb.bel (below_drewN L.out _) (Nat.le_refl _))
        clear hb sb
        go_wp2
        refine bodyPost_ret (v := .tuple #[.agg #[.int .i64 k, .int .i64 now, .int .i64 0, .int .i64 0, .int .i64 0, .int .i64 0, .int .i64 0, .int .i64 0, .int .i64 0, .int .i64 0, .int .i64 0, .int .i64 0, .int .i64 0, .int .i64 0, .int .i64 0, .int .i64 0, .int .i64 0, .int .i64 0, .int .i64 0], .int .i64 0]) (results_row2 (p := 2) (q := 3) Try.results58 _ _ w.heap.size 82 #[.int .i64 k, .int .i64 now, .int .i64 0, .int .i64 0, .int .i64 0, .int .i64 0, .int .i64 0, .int .i64 0, .int .i64 0, .int .i64 0, .int .i64 0, .int .i64 0, .int .i64 0, .int .i64 0, .int .i64 0, .int .i64 0, .int .i64 0, .int .i64 0, .int .i64 0] (0, 0) _ rfl RF.out rfl Try.underlying82 (by kernel_rfl) rfl) rfl ?_
        exact ⟨by rw [HXV.out], LF.out⟩
      · have HQ := Lib.hid hq
        clear hq
        go_wp2_with fail
        refine (equal_c A3 A _ n c3 c (encR x) l _ _ _ R3.out B.out (by have := encR_le x; omega) (by omega) false (decide_eq_false HQ.out)).mono ?_
        rintro e w4 ⟨rfl, nq, rfl⟩
        go_wp2_with (first | (refine wpl_build (by rfl) 82 _ rfl #[.int .i64 0, .int .i64 0, .int .i64 0, .int .i64 0, .int .i64 0, .int .i64 0, .int .i64 0, .int .i64 0, .int .i64 0, .int .i64 0, .int .i64 0, .int .i64 0, .int .i64 0, .int .i64 0, .int .i64 0, .int .i64 0, .int .i64 0, .int .i64 0, .int .i64 0] (by kernel_rfl) ?_) | (refine wpl_set rfl 82 _ _ rfl w.heap.size #[.int .i64 0, .int .i64 0, .int .i64 0, .int .i64 0, .int .i64 0, .int .i64 0, .int .i64 0, .int .i64 0, .int .i64 0, .int .i64 0, .int .i64 0, .int .i64 0, .int .i64 0, .int .i64 0, .int .i64 0, .int .i64 0, .int .i64 0, .int .i64 0, .int .i64 0] rfl rfl 82 #[.int .i64 0, .int .i64 0, .int .i64 0, .int .i64 0, .int .i64 0, .int .i64 0, .int .i64 0, .int .i64 0, .int .i64 0, .int .i64 0, .int .i64 0, .int .i64 0, .int .i64 0, .int .i64 0, .int .i64 0, .int .i64 0, .int .i64 0, .int .i64 0, .int .i64 0] (by exact R.out) (by kernel_rfl) rfl (by kernel_rfl) ?_; intro zf hb sb))
        have hy := HY.out
        rw [if_neg (fun h => HQ.out h.2.2.2)] at hy
        injection hy with hy1 hy2
        subst hy1 hy2
        have RF := Lib.hid hb
        have LF := Lib.hid (sb.bel (below_drewN L.out _) (Nat.le_refl _))
        clear hb sb
        go_wp2
        refine bodyPost_ret (v := .tuple #[.agg #[.int .i64 0, .int .i64 0, .int .i64 0, .int .i64 0, .int .i64 0, .int .i64 0, .int .i64 0, .int .i64 0, .int .i64 0, .int .i64 0, .int .i64 0, .int .i64 0, .int .i64 0, .int .i64 0, .int .i64 0, .int .i64 0, .int .i64 0, .int .i64 0, .int .i64 0], .int .i64 2]) (results_row2 (p := 2) (q := 3) Try.results58 _ _ w.heap.size 82 #[.int .i64 0, .int .i64 0, .int .i64 0, .int .i64 0, .int .i64 0, .int .i64 0, .int .i64 0, .int .i64 0, .int .i64 0, .int .i64 0, .int .i64 0, .int .i64 0, .int .i64 0, .int .i64 0, .int .i64 0, .int .i64 0, .int .i64 0, .int .i64 0, .int .i64 0] (0, 0) _ rfl RF.out rfl Try.underlying82 (by kernel_rfl) rfl) rfl ?_
        exact ⟨rfl, LF.out⟩
    · obtain ⟨ve, hve⟩ : ∃ v, rEnd s2 = v := ⟨_, rfl⟩
      have hvn : (ve == 0) = false := beq_eq_false_iff_ne.2 (by rw [← hve]; exact he)
      have hvn2 : (ve != 0) = true := by unfold bne; rw [hvn]; rfl
      have HE := Lib.hid he
      have HVE := Lib.hid hve
      clear he hve
      refine (rend_is Q.out HVE.out).mono ?_
      rintro e w' ⟨rfl, rfl⟩
      go_wp2_with (first | (refine wpl_build (by rfl) 82 _ rfl #[.int .i64 0, .int .i64 0, .int .i64 0, .int .i64 0, .int .i64 0, .int .i64 0, .int .i64 0, .int .i64 0, .int .i64 0, .int .i64 0, .int .i64 0, .int .i64 0, .int .i64 0, .int .i64 0, .int .i64 0, .int .i64 0, .int .i64 0, .int .i64 0, .int .i64 0] (by kernel_rfl) ?_) | (refine wpl_set rfl 82 _ _ rfl w.heap.size #[.int .i64 0, .int .i64 0, .int .i64 0, .int .i64 0, .int .i64 0, .int .i64 0, .int .i64 0, .int .i64 0, .int .i64 0, .int .i64 0, .int .i64 0, .int .i64 0, .int .i64 0, .int .i64 0, .int .i64 0, .int .i64 0, .int .i64 0, .int .i64 0, .int .i64 0] rfl rfl 82 #[.int .i64 0, .int .i64 0, .int .i64 0, .int .i64 0, .int .i64 0, .int .i64 0, .int .i64 0, .int .i64 0, .int .i64 0, .int .i64 0, .int .i64 0, .int .i64 0, .int .i64 0, .int .i64 0, .int .i64 0, .int .i64 0, .int .i64 0, .int .i64 0, .int .i64 0] (by exact R.out) (by kernel_rfl) rfl (by kernel_rfl) ?_; intro zf hb sb))
      have hy := HY.out
      rw [if_neg (fun h => HE.out h.2.1)] at hy
      injection hy with hy1 hy2
      subst hy1 hy2
      have RF := Lib.hid hb
      have LF := Lib.hid (sb.bel L.out (Nat.le_refl _))
      clear hb sb
      go_wp2
      refine bodyPost_ret (v := .tuple #[.agg #[.int .i64 0, .int .i64 0, .int .i64 0, .int .i64 0, .int .i64 0, .int .i64 0, .int .i64 0, .int .i64 0, .int .i64 0, .int .i64 0, .int .i64 0, .int .i64 0, .int .i64 0, .int .i64 0, .int .i64 0, .int .i64 0, .int .i64 0, .int .i64 0, .int .i64 0], .int .i64 2]) (results_row2 (p := 2) (q := 3) Try.results58 _ _ w.heap.size 82 #[.int .i64 0, .int .i64 0, .int .i64 0, .int .i64 0, .int .i64 0, .int .i64 0, .int .i64 0, .int .i64 0, .int .i64 0, .int .i64 0, .int .i64 0, .int .i64 0, .int .i64 0, .int .i64 0, .int .i64 0, .int .i64 0, .int .i64 0, .int .i64 0, .int .i64 0] (0, 0) _ rfl RF.out rfl Try.underlying82 (by kernel_rfl) rfl) rfl ?_
      exact ⟨rfl, LF.out⟩
  · have HM := Lib.hid hm
    clear hm
    have HPUT := Lib.hid (fun W => encR_no x W HM.out)
    rw [HXV.out] at HPUT
    refine (HPUT.out _).mono ?_
    rintro e z ⟨rfl, b3⟩
    have Q := Lib.hid (QU.out.below (b3.mono (by omega)))
    have P := Lib.hid (blk0 PU.out b3)
    have R := Lib.hid (blk0 RU.out b3)
    have T := Lib.hid (blk0 TU.out b3)
    have L := Lib.hid (bel0 LU.out LU.out.size b3)
    have B := Lib.hid (HL.out.below L.out)
    have c0 : z.cell? ⟨w1.heap.size, 0, none⟩ = some (.pointer (some ⟨g, 0, none⟩)) := cell0 P.out
    clear b3 QU PU RU TU LU hzU HPUT HL
    go_wp2_with fail
    by_cases he : rEnd s2 = 0
    · have HVE := Lib.hid he
      clear he
      refine (rend_is Q.out (v := 0) HVE.out).mono ?_
      rintro e w' ⟨rfl, rfl⟩
      go_wp2_with (first | (refine wpl_build (by rfl) 82 _ rfl #[.int .i64 0, .int .i64 0, .int .i64 0, .int .i64 0, .int .i64 0, .int .i64 0, .int .i64 0, .int .i64 0, .int .i64 0, .int .i64 0, .int .i64 0, .int .i64 0, .int .i64 0, .int .i64 0, .int .i64 0, .int .i64 0, .int .i64 0, .int .i64 0, .int .i64 0] (by kernel_rfl) ?_) | (refine wpl_set rfl 82 _ _ rfl w.heap.size #[.int .i64 0, .int .i64 0, .int .i64 0, .int .i64 0, .int .i64 0, .int .i64 0, .int .i64 0, .int .i64 0, .int .i64 0, .int .i64 0, .int .i64 0, .int .i64 0, .int .i64 0, .int .i64 0, .int .i64 0, .int .i64 0, .int .i64 0, .int .i64 0, .int .i64 0] rfl rfl 82 #[.int .i64 0, .int .i64 0, .int .i64 0, .int .i64 0, .int .i64 0, .int .i64 0, .int .i64 0, .int .i64 0, .int .i64 0, .int .i64 0, .int .i64 0, .int .i64 0, .int .i64 0, .int .i64 0, .int .i64 0, .int .i64 0, .int .i64 0, .int .i64 0, .int .i64 0] (by exact R.out) (by kernel_rfl) rfl (by kernel_rfl) ?_; intro zf hb sb))
      have hy := HY.out
      rw [if_neg (fun h => HM.out h.2.2.1)] at hy
      injection hy with hy1 hy2
      subst hy1 hy2
      have RF := Lib.hid hb
      have LF := Lib.hid (sb.bel L.out (Nat.le_refl _))
      clear hb sb
      go_wp2
      refine bodyPost_ret (v := .tuple #[.agg #[.int .i64 0, .int .i64 0, .int .i64 0, .int .i64 0, .int .i64 0, .int .i64 0, .int .i64 0, .int .i64 0, .int .i64 0, .int .i64 0, .int .i64 0, .int .i64 0, .int .i64 0, .int .i64 0, .int .i64 0, .int .i64 0, .int .i64 0, .int .i64 0, .int .i64 0], .int .i64 2]) (results_row2 (p := 2) (q := 3) Try.results58 _ _ w.heap.size 82 #[.int .i64 0, .int .i64 0, .int .i64 0, .int .i64 0, .int .i64 0, .int .i64 0, .int .i64 0, .int .i64 0, .int .i64 0, .int .i64 0, .int .i64 0, .int .i64 0, .int .i64 0, .int .i64 0, .int .i64 0, .int .i64 0, .int .i64 0, .int .i64 0, .int .i64 0] (0, 0) _ rfl RF.out rfl Try.underlying82 (by kernel_rfl) rfl) rfl ?_
      exact ⟨rfl, LF.out⟩
    · obtain ⟨ve, hve⟩ : ∃ v, rEnd s2 = v := ⟨_, rfl⟩
      have hvn : (ve == 0) = false := beq_eq_false_iff_ne.2 (by rw [← hve]; exact he)
      have hvn2 : (ve != 0) = true := by unfold bne; rw [hvn]; rfl
      have HE := Lib.hid he
      have HVE := Lib.hid hve
      clear he hve
      refine (rend_is Q.out HVE.out).mono ?_
      rintro e w' ⟨rfl, rfl⟩
      go_wp2_with (first | (refine wpl_build (by rfl) 82 _ rfl #[.int .i64 0, .int .i64 0, .int .i64 0, .int .i64 0, .int .i64 0, .int .i64 0, .int .i64 0, .int .i64 0, .int .i64 0, .int .i64 0, .int .i64 0, .int .i64 0, .int .i64 0, .int .i64 0, .int .i64 0, .int .i64 0, .int .i64 0, .int .i64 0, .int .i64 0] (by kernel_rfl) ?_) | (refine wpl_set rfl 82 _ _ rfl w.heap.size #[.int .i64 0, .int .i64 0, .int .i64 0, .int .i64 0, .int .i64 0, .int .i64 0, .int .i64 0, .int .i64 0, .int .i64 0, .int .i64 0, .int .i64 0, .int .i64 0, .int .i64 0, .int .i64 0, .int .i64 0, .int .i64 0, .int .i64 0, .int .i64 0, .int .i64 0] rfl rfl 82 #[.int .i64 0, .int .i64 0, .int .i64 0, .int .i64 0, .int .i64 0, .int .i64 0, .int .i64 0, .int .i64 0, .int .i64 0, .int .i64 0, .int .i64 0, .int .i64 0, .int .i64 0, .int .i64 0, .int .i64 0, .int .i64 0, .int .i64 0, .int .i64 0, .int .i64 0] (by exact R.out) (by kernel_rfl) rfl (by kernel_rfl) ?_; intro zf hb sb))
      have hy := HY.out
      rw [if_neg (fun h => HE.out h.2.1)] at hy
      injection hy with hy1 hy2
      subst hy1 hy2
      have RF := Lib.hid hb
      have LF := Lib.hid (sb.bel L.out (Nat.le_refl _))
      clear hb sb
      go_wp2
      refine bodyPost_ret (v := .tuple #[.agg #[.int .i64 0, .int .i64 0, .int .i64 0, .int .i64 0, .int .i64 0, .int .i64 0, .int .i64 0, .int .i64 0, .int .i64 0, .int .i64 0, .int .i64 0, .int .i64 0, .int .i64 0, .int .i64 0, .int .i64 0, .int .i64 0, .int .i64 0, .int .i64 0, .int .i64 0], .int .i64 2]) (results_row2 (p := 2) (q := 3) Try.results58 _ _ w.heap.size 82 #[.int .i64 0, .int .i64 0, .int .i64 0, .int .i64 0, .int .i64 0, .int .i64 0, .int .i64 0, .int .i64 0, .int .i64 0, .int .i64 0, .int .i64 0, .int .i64 0, .int .i64 0, .int .i64 0, .int .i64 0, .int .i64 0, .int .i64 0, .int .i64 0, .int .i64 0] (0, 0) _ rfl RF.out rfl Try.underlying82 (by kernel_rfl) rfl) rfl ?_
      exact ⟨rfl, LF.out⟩
end Go.Proofs.Ytplgodfhhlnojaa
