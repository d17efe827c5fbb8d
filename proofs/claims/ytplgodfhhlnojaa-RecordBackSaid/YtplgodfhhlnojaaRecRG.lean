/- sojournref14.GetRecord, walked (printed by genrecref.py). -/
import Derived.Test.YtplgodfhhlnojaaRecRM
import Derived.Test.YtplgodfhhlnojaaRecG0
import Derived.Test.YtplgodfhhlnojaaWRefGO
import Derived.Test.YtplgodfhhlnojaaSgB3
set_option linter.unusedSimpArgs false
set_option linter.unusedVariables false
namespace Go.Proofs.Ytplgodfhhlnojaa
open Go.RowKit
theorem rrtextV {p : Nat} {l : List UInt8} {s s' : Rs} {w : World} (r : RR w p s) (hs : Sh s) (e : rText 1000 s = (l, s')) :
    Calls Try.prog 100 #[.pointer (some ⟨p, 0, none⟩), .int .i64 1000] w fun e w' => e = .returned (.string ⟨l.toArray⟩) ∧ RR w' p s' ∧ w.grownBy w' (some p) := by
  have := rrtext_c p 1000 s w r hs
  rw [e] at this
  exact this
set_option maxRecDepth 100000 in
set_option maxHeartbeats 16000000 in
theorem rrecget1 (T : ByteArray) (l : List UInt8) (w : World) (hT : T.data.toList = l) (hs : Sh (some l)) (now : Int) (s1 s2 : Rs) (e1 : rF (some l) = (1, s1)) (e2 : rF s1 = (now, s2)) (t : List UInt8) (s3 s4 : Rs) (o : O5) (kk ans : Int) (e3 : rText 1000 s2 = (t, s3)) (hg : gO t = (o, kk)) (e4 : rF s3 = (ans, s4)) (y : R19) (yk : Int) (hy : (if kk = 0 ∧ rEnd s4 = 0 ∧ MayR ⟨1, now, ans, o, z11⟩ then (⟨1, now, ans, o, z11⟩, 0) else (zR, 2)) = (y, yk)) : Calls Try.prog 59 #[.string T] w fun e w' => e = .returned (.tuple #[y.val, .int .i64 yk]) ∧ Below w.heap.size w w' := by
  obtain ⟨x, hx⟩ : ∃ x : R19, x = ⟨1, now, ans, o, z11⟩ := ⟨_, rfl⟩
  have hxv : x.val = .agg #[.int .i64 1, .int .i64 now, .int .i64 ans, .int .i64 o.kind, .int .i64 o.book, .int .i64 o.units, .int .i64 o.cust, .int .i64 o.amount, .int .i64 0, .int .i64 0, .int .i64 0, .int .i64 0, .int .i64 0, .int .i64 0, .int .i64 0, .int .i64 0, .int .i64 0, .int .i64 0, .int .i64 0] := by rw [hx]; rfl
  rw [← hx] at hy
  have HXV := Lib.hid hxv
  have HY := Lib.hid hy
  have E1 := Lib.hid e1
  have E2 := Lib.hid e2
  have H0 := Lib.hid hs
  have H1 := Lib.hid (hs.f e1)
  have H2 := Lib.hid ((hs.f e1).f e2)
  have tl : t.length ≤ 1000 := by have := rText_le s2; rw [e3] at this; exact this
  have H3 := Lib.hid (by have := H2.out.text 1000; rw [e3] at this; exact this : Sh s3)
  have E3 := Lib.hid e3
  have H4 := Lib.hid (H3.out.f e4)
  have E4 := Lib.hid e4
  have HG := Lib.hid (fun W => refgetop_is hg (by omega) W)
  unfold O5.val at HG
  have HT := Lib.hid hT
  clear hT hs hx hxv hy e1 e2 e3 hg e4
  go_enter Try.func59, Try.ntmps59
  go_wp2_with fail
  obtain ⟨W, hW⟩ : ∃ W, W = (w.alloc (.cells #[.int .i64 0, .int .i64 0, .int .i64 0, .int .i64 0, .int .i64 0, .int .i64 0, .int .i64 0, .int .i64 0, .int .i64 0, .int .i64 0, .int .i64 0, .int .i64 0, .int .i64 0, .int .i64 0, .int .i64 0, .int .i64 0, .int .i64 0, .int .i64 0, .int .i64 0] 82)).alloc (.cells #[.string T, .bool false] 116) := ⟨_, rfl⟩
  have h2 := two_boxes w (.cells #[.int .i64 0, .int .i64 0, .int .i64 0, .int .i64 0, .int .i64 0, .int .i64 0, .int .i64 0, .int .i64 0, .int .i64 0, .int .i64 0, .int .i64 0, .int .i64 0, .int .i64 0, .int .i64 0, .int .i64 0, .int .i64 0, .int .i64 0, .int .i64 0, .int .i64 0] 82) (.cells #[.string T, .bool false] 116)
  rw [← hW] at h2 ⊢
  obtain ⟨f1, f2, f3⟩ := h2
  have R0 := Lib.hid f1
  have Q0 := Lib.hid (show RR W (w.heap.size + 1) (some l) from ⟨T, false, f2, by rw [HT.out]; rfl⟩)
  have L0 := Lib.hid f3
  have hz0 : w.heap.size + 2 ≤ W.heap.size := by rw [hW]; simp
  clear f1 f2 f3 hW
  refine (rrint_eq Q0.out H0.out E1.out).mono ?_
  rintro e u1 ⟨rfl, q, gg⟩
  have Q_1 := Lib.hid q
  have R_1 := Lib.hid (only_blk gg R0.out (by omega))
  have L_1 := Lib.hid (L0.out.trans (only_lt gg L0.out.size (by omega)))
  have hz_1 : w.heap.size + 2 ≤ u1.heap.size := by have := gg.size; omega
  clear q gg Q0 R0 L0
  go_upto_region 4 with (first | (refine wpl_build (by rfl) 82 _ rfl #[.int .i64 1, .int .i64 0, .int .i64 0, .int .i64 0, .int .i64 0, .int .i64 0, .int .i64 0, .int .i64 0, .int .i64 0, .int .i64 0, .int .i64 0, .int .i64 0, .int .i64 0, .int .i64 0, .int .i64 0, .int .i64 0, .int .i64 0, .int .i64 0, .int .i64 0] (by kernel_rfl) ?_) | (refine wpl_set rfl 82 _ _ rfl u1.heap.size #[.int .i64 1, .int .i64 0, .int .i64 0, .int .i64 0, .int .i64 0, .int .i64 0, .int .i64 0, .int .i64 0, .int .i64 0, .int .i64 0, .int .i64 0, .int .i64 0, .int .i64 0, .int .i64 0, .int .i64 0, .int .i64 0, .int .i64 0, .int .i64 0, .int .i64 0] rfl rfl 82 #[.int .i64 0, .int .i64 0, .int .i64 0, .int .i64 0, .int .i64 0, .int .i64 0, .int .i64 0, .int .i64 0, .int .i64 0, .int .i64 0, .int .i64 0, .int .i64 0, .int .i64 0, .int .i64 0, .int .i64 0, .int .i64 0, .int .i64 0, .int .i64 0, .int .i64 0] (heap_alloc_new u1 (.cells #[.int .i64 0, .int .i64 0, .int .i64 0, .int .i64 0, .int .i64 0, .int .i64 0, .int .i64 0, .int .i64 0, .int .i64 0, .int .i64 0, .int .i64 0, .int .i64 0, .int .i64 0, .int .i64 0, .int .i64 0, .int .i64 0, .int .i64 0, .int .i64 0, .int .i64 0] 82)) (by kernel_rfl) rfl (by kernel_rfl) ?_; intro U hb sb))
  have QU := Lib.hid ((show RR (u1.alloc (.cells #[.int .i64 0, .int .i64 0, .int .i64 0, .int .i64 0, .int .i64 0, .int .i64 0, .int .i64 0, .int .i64 0, .int .i64 0, .int .i64 0, .int .i64 0, .int .i64 0, .int .i64 0, .int .i64 0, .int .i64 0, .int .i64 0, .int .i64 0, .int .i64 0, .int .i64 0] 82)) (w.heap.size + 1) s1 from Q_1.out.same (Below.heap_alloc u1 _ _ Q_1.out.lt)).same (sb.ne _ (by omega)))
  have RU := Lib.hid (sb.old R_1.out)
  have LU := Lib.hid (sb.below L_1.out L_1.out.size)
  have TU := Lib.hid hb
  have hzU : w.heap.size + 2 ≤ U.heap.size := by rw [sb.size]; simp; omega
  clear hb sb Q_1 R_1 L_1
  go_wp2_with fail
  refine (rrint_eq QU.out H1.out E2.out).mono ?_
  rintro e u2 ⟨rfl, q, gg⟩
  have Q_2 := Lib.hid q
  have R_2 := Lib.hid (only_blk gg RU.out (by omega))
  have L_2 := Lib.hid (LU.out.trans (only_lt gg LU.out.size (by omega)))
  have hz_2 : w.heap.size + 2 ≤ u2.heap.size := by have := gg.size; omega
  have T_2 := Lib.hid (only_blk gg TU.out (by omega))
  clear q gg QU RU LU TU
  go_upto_region 6 with (first | (refine wpl_seg rfl 3 _ _ rfl u1.heap.size 1 _ #[.int .i64 now] rfl rfl rfl 82 #[.int .i64 1, .int .i64 0, .int .i64 0, .int .i64 0, .int .i64 0, .int .i64 0, .int .i64 0, .int .i64 0, .int .i64 0, .int .i64 0, .int .i64 0, .int .i64 0, .int .i64 0, .int .i64 0, .int .i64 0, .int .i64 0, .int .i64 0, .int .i64 0, .int .i64 0] T_2.out (by kernel_rfl) #[.int .i64 1, .int .i64 now, .int .i64 0, .int .i64 0, .int .i64 0, .int .i64 0, .int .i64 0, .int .i64 0, .int .i64 0, .int .i64 0, .int .i64 0, .int .i64 0, .int .i64 0, .int .i64 0, .int .i64 0, .int .i64 0, .int .i64 0, .int .i64 0, .int .i64 0] (by simp [setSeg]) (by simp) (by kernel_rfl) ?_; intro t1 hb sb))
  have Q_t1 := Lib.hid (Q_2.out.same (sb.ne _ (by omega)))
  have R_t1 := Lib.hid (sb.blk R_2.out (by omega))
  have L_t1 := Lib.hid (sb.bel L_2.out (by omega))
  have T_t1 := Lib.hid hb
  have hz_t1 : w.heap.size + 2 ≤ t1.heap.size := by rw [sb.size]; exact hz_2
  clear hb sb Q_2 R_2 L_2 T_2 hz_2
  have k0 : t1.cell? ⟨u1.heap.size, 0, none⟩ = some (.int .i64 1) := (cellsB (i := 0) T_t1.out).trans rfl
  go_wp2_with fail
  clear k0
  refine (rrtextV Q_t1.out H2.out E3.out).mono ?_
  rintro e u3 ⟨rfl, q, gg⟩
  have Q_3 := Lib.hid q
  have R_3 := Lib.hid (only_blk gg R_t1.out (by omega))
  have L_3 := Lib.hid (L_t1.out.trans (only_lt gg L_t1.out.size (by omega)))
  have hz_3 : w.heap.size + 2 ≤ u3.heap.size := by have := gg.size; omega
  have T_3 := Lib.hid (only_blk gg T_t1.out (by omega))
  clear q gg Q_t1 R_t1 L_t1 T_t1
  go_wp2_with fail
  refine (HG.out _).mono ?_
  rintro e u9 ⟨rfl, q⟩
  have Q_u9 := Lib.hid (Q_3.out.below q (by omega))
  have R_u9 := Lib.hid (blk0 R_3.out q)
  have L_u9 := Lib.hid (bel0 L_3.out L_3.out.size q)
  have hz_u9 : w.heap.size + 2 ≤ u9.heap.size := by have := q.size; omega
  have T_u9 := Lib.hid (blk0 T_3.out q)
  clear q Q_3 R_3 L_3 T_3
  go_wp2_with (first | (refine wpl_seg rfl 28 _ _ rfl u1.heap.size 3 _ #[.int .i64 o.kind, .int .i64 o.book, .int .i64 o.units, .int .i64 o.cust, .int .i64 o.amount] rfl rfl rfl 82 #[.int .i64 1, .int .i64 now, .int .i64 0, .int .i64 0, .int .i64 0, .int .i64 0, .int .i64 0, .int .i64 0, .int .i64 0, .int .i64 0, .int .i64 0, .int .i64 0, .int .i64 0, .int .i64 0, .int .i64 0, .int .i64 0, .int .i64 0, .int .i64 0, .int .i64 0] T_u9.out (by kernel_rfl) #[.int .i64 1, .int .i64 now, .int .i64 0, .int .i64 o.kind, .int .i64 o.book, .int .i64 o.units, .int .i64 o.cust, .int .i64 o.amount, .int .i64 0, .int .i64 0, .int .i64 0, .int .i64 0, .int .i64 0, .int .i64 0, .int .i64 0, .int .i64 0, .int .i64 0, .int .i64 0, .int .i64 0] (by simp [setSeg]) (by simp) (by kernel_rfl) ?_; intro t2 hb sb))
  have Q_t2 := Lib.hid (Q_u9.out.same (sb.ne _ (by omega)))
  have R_t2 := Lib.hid (sb.blk R_u9.out (by omega))
  have L_t2 := Lib.hid (sb.bel L_u9.out (by omega))
  have T_t2 := Lib.hid hb
  have hz_t2 : w.heap.size + 2 ≤ t2.heap.size := by rw [sb.size]; exact hz_u9
  clear hb sb Q_u9 R_u9 L_u9 T_u9 hz_u9
  refine (rrint_eq Q_t2.out H3.out E4.out).mono ?_
  rintro e u4 ⟨rfl, q, gg⟩
  have Q_4 := Lib.hid q
  have R_4 := Lib.hid (only_blk gg R_t2.out (by omega))
  have L_4 := Lib.hid (L_t2.out.trans (only_lt gg L_t2.out.size (by omega)))
  have hz_4 : w.heap.size + 2 ≤ u4.heap.size := by have := gg.size; omega
  have T_4 := Lib.hid (only_blk gg T_t2.out (by omega))
  clear q gg Q_t2 R_t2 L_t2 T_t2
  go_upto_region 12 with (first | (refine wpl_seg rfl 3 _ _ rfl u1.heap.size 2 _ #[.int .i64 ans] rfl rfl rfl 82 #[.int .i64 1, .int .i64 now, .int .i64 0, .int .i64 o.kind, .int .i64 o.book, .int .i64 o.units, .int .i64 o.cust, .int .i64 o.amount, .int .i64 0, .int .i64 0, .int .i64 0, .int .i64 0, .int .i64 0, .int .i64 0, .int .i64 0, .int .i64 0, .int .i64 0, .int .i64 0, .int .i64 0] T_4.out (by kernel_rfl) #[.int .i64 1, .int .i64 now, .int .i64 ans, .int .i64 o.kind, .int .i64 o.book, .int .i64 o.units, .int .i64 o.cust, .int .i64 o.amount, .int .i64 0, .int .i64 0, .int .i64 0, .int .i64 0, .int .i64 0, .int .i64 0, .int .i64 0, .int .i64 0, .int .i64 0, .int .i64 0, .int .i64 0] (by simp [setSeg]) (by simp) (by kernel_rfl) ?_; intro t3 hb sb))
  have Q_t3 := Lib.hid (Q_4.out.same (sb.ne _ (by omega)))
  have R_t3 := Lib.hid (sb.blk R_4.out (by omega))
  have L_t3 := Lib.hid (sb.bel L_4.out (by omega))
  have T_t3 := Lib.hid hb
  have hz_t3 : w.heap.size + 2 ≤ t3.heap.size := by rw [sb.size]; exact hz_4
  clear hb sb Q_4 R_4 L_4 T_4 hz_4
  by_cases hk : kk = 0
  · have hk0 := Lib.hid hk
    have kb : (kk == 0) = true := by rw [hk]; rfl
    have kb2 : (kk != 0) = false := by unfold bne; rw [kb]; rfl
    clear hk
    go_wp2_with fail
    by_cases he : rEnd s4 = 0
    · have HE := Lib.hid he
      clear he
      refine (rrend_w Q_t3.out HE.out).mono ?_
      rintro e w' ⟨rfl, rfl⟩
      have R := R_t3
      have L := L_t3
      have T := T_t3
      clear R_t3 L_t3 T_t3
      by_cases hm : MayR x
      · have HM := Lib.hid hm
        have HC := Lib.hid (fun W => rrecmay_c x true (decide_eq_true hm) W)
        rw [HXV.out] at HC
        clear hm
        go_wp2_with (refine wpl_row (by rfl) 82 _ rfl _ rfl _ _ _ _ T.out rfl Try.underlying82 (by kernel_rfl) ?_)
        refine (HC.out _).mono ?_
        rintro e z ⟨rfl, b3⟩
        have R2 := Lib.hid (blk0 R.out b3)
        have L2 := Lib.hid (bel0 L.out L.out.size b3)
        have T2 := Lib.hid (blk0 T.out b3)
        clear b3 R L T HC
        have R := R2
        have L := L2
        have T := T2
        clear R2 L2 T2
        go_wp2_with (first | (refine wpl_row (by rfl) 82 _ rfl _ rfl _ _ _ _ (by exact T.out) rfl Try.underlying82 (by kernel_rfl) ?_) | (refine wpl_set rfl 82 _ _ rfl w.heap.size #[.int .i64 1, .int .i64 now, .int .i64 ans, .int .i64 o.kind, .int .i64 o.book, .int .i64 o.units, .int .i64 o.cust, .int .i64 o.amount, .int .i64 0, .int .i64 0, .int .i64 0, .int .i64 0, .int .i64 0, .int .i64 0, .int .i64 0, .int .i64 0, .int .i64 0, .int .i64 0, .int .i64 0] rfl rfl 82 #[.int .i64 0, .int .i64 0, .int .i64 0, .int .i64 0, .int .i64 0, .int .i64 0, .int .i64 0, .int .i64 0, .int .i64 0, .int .i64 0, .int .i64 0, .int .i64 0, .int .i64 0, .int .i64 0, .int .i64 0, .int .i64 0, .int .i64 0, .int .i64 0, .int .i64 0] (by exact R.out) (by kernel_rfl) rfl (by kernel_rfl) ?_; intro zf hb sb))
        have hy := HY.out
        rw [if_pos ⟨hk0.out, HE.out, HM.out⟩] at hy
        injection hy with hy1 hy2
        subst hy1 hy2
        have RF := Lib.hid hb
        have LF := Lib.hid (sb.bel L.out (Nat.le_refl _))
        clear hb sb
        go_wp2
        refine bodyPost_ret (v := .tuple #[.agg #[.int .i64 1, .int .i64 now, .int .i64 ans, .int .i64 o.kind, .int .i64 o.book, .int .i64 o.units, .int .i64 o.cust, .int .i64 o.amount, .int .i64 0, .int .i64 0, .int .i64 0, .int .i64 0, .int .i64 0, .int .i64 0, .int .i64 0, .int .i64 0, .int .i64 0, .int .i64 0, .int .i64 0], .int .i64 0]) (results_row2 (p := 2) (q := 3) Try.results59 _ _ w.heap.size 82 #[.int .i64 1, .int .i64 now, .int .i64 ans, .int .i64 o.kind, .int .i64 o.book, .int .i64 o.units, .int .i64 o.cust, .int .i64 o.amount, .int .i64 0, .int .i64 0, .int .i64 0, .int .i64 0, .int .i64 0, .int .i64 0, .int .i64 0, .int .i64 0, .int .i64 0, .int .i64 0, .int .i64 0] (0, 0) _ rfl RF.out rfl Try.underlying82 (by kernel_rfl) rfl) rfl ?_
        exact ⟨by rw [HXV.out], LF.out⟩
      · have HM := Lib.hid hm
        have HC := Lib.hid (fun W => rrecmay_c x false (decide_eq_false hm) W)
        rw [HXV.out] at HC
        clear hm
        go_wp2_with (refine wpl_row (by rfl) 82 _ rfl _ rfl _ _ _ _ T.out rfl Try.underlying82 (by kernel_rfl) ?_)
        refine (HC.out _).mono ?_
        rintro e z ⟨rfl, b3⟩
        have R2 := Lib.hid (blk0 R.out b3)
        have L2 := Lib.hid (bel0 L.out L.out.size b3)
        have T2 := Lib.hid (blk0 T.out b3)
        clear b3 R L T HC
        have R := R2
        have L := L2
        have T := T2
        clear R2 L2 T2
        go_wp2_with (first | (refine wpl_build (by rfl) 82 _ rfl #[.int .i64 0, .int .i64 0, .int .i64 0, .int .i64 0, .int .i64 0, .int .i64 0, .int .i64 0, .int .i64 0, .int .i64 0, .int .i64 0, .int .i64 0, .int .i64 0, .int .i64 0, .int .i64 0, .int .i64 0, .int .i64 0, .int .i64 0, .int .i64 0, .int .i64 0] (by kernel_rfl) ?_) | (refine wpl_set rfl 82 _ _ rfl w.heap.size #[.int .i64 0, .int .i64 0, .int .i64 0, .int .i64 0, .int .i64 0, .int .i64 0, .int .i64 0, .int .i64 0, .int .i64 0, .int .i64 0, .int .i64 0, .int .i64 0, .int .i64 0, .int .i64 0, .int .i64 0, .int .i64 0, .int .i64 0, .int .i64 0, .int .i64 0] rfl rfl 82 #[.int .i64 0, .int .i64 0, .int .i64 0, .int .i64 0, .int .i64 0, .int .i64 0, .int .i64 0, .int .i64 0, .int .i64 0, .int .i64 0, .int .i64 0, .int .i64 0, .int .i64 0, .int .i64 0, .int .i64 0, .int .i64 0, .int .i64 0, .int .i64 0, .int .i64 0] (by exact R.out) (by kernel_rfl) rfl (by kernel_rfl) ?_; intro zf hb sb))
        have hy := HY.out
        rw [if_neg (fun h => HM.out h.2.2)] at hy
        injection hy with hy1 hy2
        subst hy1 hy2
        have RF := Lib.hid hb
        have LF := Lib.hid (sb.bel L.out (Nat.le_refl _))
        clear hb sb
        go_wp2
        refine bodyPost_ret (v := .tuple #[.agg #[.int .i64 0, .int .i64 0, .int .i64 0, .int .i64 0, .int .i64 0, .int .i64 0, .int .i64 0, .int .i64 0, .int .i64 0, .int .i64 0, .int .i64 0, .int .i64 0, .int .i64 0, .int .i64 0, .int .i64 0, .int .i64 0, .int .i64 0, .int .i64 0, .int .i64 0], .int .i64 2]) (results_row2 (p := 2) (q := 3) Try.results59 _ _ w.heap.size 82 #[.int .i64 0, .int .i64 0, .int .i64 0, .int .i64 0, .int .i64 0, .int .i64 0, .int .i64 0, .int .i64 0, .int .i64 0, .int .i64 0, .int .i64 0, .int .i64 0, .int .i64 0, .int .i64 0, .int .i64 0, .int .i64 0, .int .i64 0, .int .i64 0, .int .i64 0] (0, 0) _ rfl RF.out rfl Try.underlying82 (by kernel_rfl) rfl) rfl ?_
        exact ⟨rfl, LF.out⟩
    · obtain ⟨ve, hve⟩ : ∃ v, rEnd s4 = v := ⟨_, rfl⟩
      have hvn : (ve == 0) = false := beq_eq_false_iff_ne.2 (by rw [← hve]; exact he)
      have hvn2 : (ve != 0) = true := by unfold bne; rw [hvn]; rfl
      have HE := Lib.hid he
      have HVE := Lib.hid hve
      clear he hve
      refine (rrend_w Q_t3.out HVE.out).mono ?_
      rintro e w' ⟨rfl, rfl⟩
      have R := R_t3
      have L := L_t3
      have T := T_t3
      clear R_t3 L_t3 T_t3
      go_wp2_with (first | (refine wpl_build (by rfl) 82 _ rfl #[.int .i64 0, .int .i64 0, .int .i64 0, .int .i64 0, .int .i64 0, .int .i64 0, .int .i64 0, .int .i64 0, .int .i64 0, .int .i64 0, .int .i64 0, .int .i64 0, .int .i64 0, .int .i64 0, .int .i64 0, .int .i64 0, .int .i64 0, .int .i64 0, .int .i64 0] (by kernel_rfl) ?_) | (refine wpl_set rfl 82 _ _ rfl w.heap.size #[.int .i64 0, .int .i64 0, .int .i64 0, .int .i64 0, .int .i64 0, .int .i64 0, .int .i64 0, .int .i64 0, .int .i64 0, .int .i64 0, .int .i64 0, .int .i64 0, .int .i64 0, .int .i64 0, .int .i64 0, .int .i64 0, .int .i64 0, .int .i64 0, .int .i64 0] rfl rfl 82 #[.int .i64 0, .int .i64 0, .int .i64 0, .int .i64 0, .int .i64 0, .int .i64 0, .int .i64 0, .int .i64 0, .int .i64 0, .int .i64 0, .int .i64 0, .int .i64 0, .int .i64 0, .int .i64 0, .int .i64 0, .int .i64 0, .int .i64 0, .int .i64 0, .int .i64 0] (by exact R.out) (by kernel_rfl) rfl (by kernel_rfl) ?_; intro zf hb sb))
      have hy := HY.out
      rw [if_neg (fun h => HE.out h.2.1)] at hy
      injection hy with hy1 hy2
      subst hy1 hy2
      have RF := Lib.hid hb
      have LF := Lib.hid (sb.bel L.out (Nat.le_refl _))
      clear hb sb
      go_wp2
      refine bodyPost_ret (v := .tuple #[.agg #[.int .i64 0, .int .i64 0, .int .i64 0, .int .i64 0, .int .i64 0, .int .i64 0, .int .i64 0, .int .i64 0, .int .i64 0, .int .i64 0, .int .i64 0, .int .i64 0, .int .i64 0, .int .i64 0, .int .i64 0, .int .i64 0, .int .i64 0, .int .i64 0, .int .i64 0], .int .i64 2]) (results_row2 (p := 2) (q := 3) Try.results59 _ _ w.heap.size 82 #[.int .i64 0, .int .i64 0, .int .i64 0, .int .i64 0, .int .i64 0, .int .i64 0, .int .i64 0, .int .i64 0, .int .i64 0, .int .i64 0, .int .i64 0, .int .i64 0, .int .i64 0, .int .i64 0, .int .i64 0, .int .i64 0, .int .i64 0, .int .i64 0, .int .i64 0] (0, 0) _ rfl RF.out rfl Try.underlying82 (by kernel_rfl) rfl) rfl ?_
      exact ⟨rfl, LF.out⟩
  · have HK := Lib.hid hk
    have kb : (kk == 0) = false := beq_eq_false_iff_ne.2 hk
    have kb2 : (kk != 0) = true := by unfold bne; rw [kb]; rfl
    clear hk
    have R := R_t3
    have L := L_t3
    have T := T_t3
    clear R_t3 L_t3 T_t3
    go_wp2_with (first | (refine wpl_build (by rfl) 82 _ rfl #[.int .i64 0, .int .i64 0, .int .i64 0, .int .i64 0, .int .i64 0, .int .i64 0, .int .i64 0, .int .i64 0, .int .i64 0, .int .i64 0, .int .i64 0, .int .i64 0, .int .i64 0, .int .i64 0, .int .i64 0, .int .i64 0, .int .i64 0, .int .i64 0, .int .i64 0] (by kernel_rfl) ?_) | (refine wpl_set rfl 82 _ _ rfl w.heap.size #[.int .i64 0, .int .i64 0, .int .i64 0, .int .i64 0, .int .i64 0, .int .i64 0, .int .i64 0, .int .i64 0, .int .i64 0, .int .i64 0, .int .i64 0, .int .i64 0, .int .i64 0, .int .i64 0, .int .i64 0, .int .i64 0, .int .i64 0, .int .i64 0, .int .i64 0] rfl rfl 82 #[.int .i64 0, .int .i64 0, .int .i64 0, .int .i64 0, .int .i64 0, .int .i64 0, .int .i64 0, .int .i64 0, .int .i64 0, .int .i64 0, .int .i64 0, .int .i64 0, .int .i64 0, .int .i64 0, .int .i64 0, .int .i64 0, .int .i64 0, .int .i64 0, .int .i64 0] (by exact R.out) (by kernel_rfl) rfl (by kernel_rfl) ?_; intro zf hb sb))
    have hy := HY.out
    rw [if_neg (fun h => HK.out h.1)] at hy
    injection hy with hy1 hy2
    subst hy1 hy2
    have RF := Lib.hid hb
    have LF := Lib.hid (sb.bel L.out (Nat.le_refl _))
    clear hb sb
    go_wp2
    refine bodyPost_ret (v := .tuple #[.agg #[.int .i64 0, .int .i64 0, .int .i64 0, .int .i64 0, .int .i64 0, .int .i64 0, .int .i64 0, .int .i64 0, .int .i64 0, .int .i64 0, .int .i64 0, .int .i64 0, .int .i64 0, .int .i64 0, .int .i64 0, .int .i64 0, .int .i64 0, .int .i64 0, .int .i64 0], .int .i64 2]) (results_row2 (p := 2) (q := 3) Try.results59 _ _ w.heap.size 82 #[.int .i64 0, .int .i64 0, .int .i64 0, .int .i64 0, .int .i64 0, .int .i64 0, .int .i64 0, .int .i64 0, .int .i64 0, .int .i64 0, .int .i64 0, .int .i64 0, .int .i64 0, .int .i64 0, .int .i64 0, .int .i64 0, .int .i64 0, .int .i64 0, .int .i64 0] (0, 0) _ rfl RF.out rfl Try.underlying82 (by kernel_rfl) rfl) rfl ?_
    exact ⟨rfl, LF.out⟩
set_option maxRecDepth 100000 in
set_option maxHeartbeats 16000000 in
theorem rrecget3 (T : ByteArray) (l : List UInt8) (w : World) (hT : T.data.toList = l) (hs : Sh (some l)) (now : Int) (s1 s2 : Rs) (e1 : rF (some l) = (3, s1)) (e2 : rF s1 = (now, s2)) (t : List UInt8) (s3 : Rs) (q : S11) (kk : Int) (e3 : rText 1000 s2 = (t, s3)) (hg : gS t = (q, kk)) (y : R19) (yk : Int) (hy : (if kk = 0 ∧ rEnd s3 = 0 ∧ MayR ⟨3, now, 0, zO, q⟩ then (⟨3, now, 0, zO, q⟩, 0) else (zR, 2)) = (y, yk)) : Calls Try.prog 59 #[.string T] w fun e w' => e = .returned (.tuple #[y.val, .int .i64 yk]) ∧ Below w.heap.size w w' := by
  obtain ⟨x, hx⟩ : ∃ x : R19, x = ⟨3, now, 0, zO, q⟩ := ⟨_, rfl⟩
  have hxv : x.val = .agg #[.int .i64 3, .int .i64 now, .int .i64 0, .int .i64 0, .int .i64 0, .int .i64 0, .int .i64 0, .int .i64 0, .int .i64 q.w.b, .int .i64 q.w.c, .int .i64 q.w.d, .int .i64 q.w.m0, .int .i64 q.w.m1, .int .i64 q.w.m2, .int .i64 q.w.p, .int .i64 q.ph, .int .i64 q.st, .int .i64 q.re, .int .i64 q.si] := by rw [hx]; rfl
  rw [← hx] at hy
  have HXV := Lib.hid hxv
  have HY := Lib.hid hy
  have E1 := Lib.hid e1
  have E2 := Lib.hid e2
  have H0 := Lib.hid hs
  have H1 := Lib.hid (hs.f e1)
  have H2 := Lib.hid ((hs.f e1).f e2)
  have tl : t.length ≤ 1000 := by have := rText_le s2; rw [e3] at this; exact this
  have H3 := Lib.hid (by have := H2.out.text 1000; rw [e3] at this; exact this : Sh s3)
  have E3 := Lib.hid e3
  have HG := Lib.hid (fun W => (by have := rget14_c ⟨t.toArray⟩ t W (by simp) (by omega); rw [hS_is, hg] at this; exact this : Calls Try.prog 42 #[.string ⟨t.toArray⟩] W (PS W q kk)))
  unfold PS S11.val at HG
  have HT := Lib.hid hT
  clear hT hs hx hxv hy e1 e2 e3 hg
  go_enter Try.func59, Try.ntmps59
  go_wp2_with fail
  obtain ⟨W, hW⟩ : ∃ W, W = (w.alloc (.cells #[.int .i64 0, .int .i64 0, .int .i64 0, .int .i64 0, .int .i64 0, .int .i64 0, .int .i64 0, .int .i64 0, .int .i64 0, .int .i64 0, .int .i64 0, .int .i64 0, .int .i64 0, .int .i64 0, .int .i64 0, .int .i64 0, .int .i64 0, .int .i64 0, .int .i64 0] 82)).alloc (.cells #[.string T, .bool false] 116) := ⟨_, rfl⟩
  have h2 := two_boxes w (.cells #[.int .i64 0, .int .i64 0, .int .i64 0, .int .i64 0, .int .i64 0, .int .i64 0, .int .i64 0, .int .i64 0, .int .i64 0, .int .i64 0, .int .i64 0, .int .i64 0, .int .i64 0, .int .i64 0, .int .i64 0, .int .i64 0, .int .i64 0, .int .i64 0, .int .i64 0] 82) (.cells #[.string T, .bool false] 116)
  rw [← hW] at h2 ⊢
  obtain ⟨f1, f2, f3⟩ := h2
  have R0 := Lib.hid f1
  have Q0 := Lib.hid (show RR W (w.heap.size + 1) (some l) from ⟨T, false, f2, by rw [HT.out]; rfl⟩)
  have L0 := Lib.hid f3
  have hz0 : w.heap.size + 2 ≤ W.heap.size := by rw [hW]; simp
  clear f1 f2 f3 hW
  refine (rrint_eq Q0.out H0.out E1.out).mono ?_
  rintro e u1 ⟨rfl, q, gg⟩
  have Q_1 := Lib.hid q
  have R_1 := Lib.hid (only_blk gg R0.out (by omega))
  have L_1 := Lib.hid (L0.out.trans (only_lt gg L0.out.size (by omega)))
  have hz_1 : w.heap.size + 2 ≤ u1.heap.size := by have := gg.size; omega
  clear q gg Q0 R0 L0
  go_upto_region 4 with (first | (refine wpl_build (by rfl) 82 _ rfl #[.int .i64 3, .int .i64 0, .int .i64 0, .int .i64 0, .int .i64 0, .int .i64 0, .int .i64 0, .int .i64 0, .int .i64 0, .int .i64 0, .int .i64 0, .int .i64 0, .int .i64 0, .int .i64 0, .int .i64 0, .int .i64 0, .int .i64 0, .int .i64 0, .int .i64 0] (by kernel_rfl) ?_) | (refine wpl_set rfl 82 _ _ rfl u1.heap.size #[.int .i64 3, .int .i64 0, .int .i64 0, .int .i64 0, .int .i64 0, .int .i64 0, .int .i64 0, .int .i64 0, .int .i64 0, .int .i64 0, .int .i64 0, .int .i64 0, .int .i64 0, .int .i64 0, .int .i64 0, .int .i64 0, .int .i64 0, .int .i64 0, .int .i64 0] rfl rfl 82 #[.int .i64 0, .int .i64 0, .int .i64 0, .int .i64 0, .int .i64 0, .int .i64 0, .int .i64 0, .int .i64 0, .int .i64 0, .int .i64 0, .int .i64 0, .int .i64 0, .int .i64 0, .int .i64 0, .int .i64 0, .int .i64 0, .int .i64 0, .int .i64 0, .int .i64 0] (heap_alloc_new u1 (.cells #[.int .i64 0, .int .i64 0, .int .i64 0, .int .i64 0, .int .i64 0, .int .i64 0, .int .i64 0, .int .i64 0, .int .i64 0, .int .i64 0, .int .i64 0, .int .i64 0, .int .i64 0, .int .i64 0, .int .i64 0, .int .i64 0, .int .i64 0, .int .i64 0, .int .i64 0] 82)) (by kernel_rfl) rfl (by kernel_rfl) ?_; intro U hb sb))
  have QU := Lib.hid ((show RR (u1.alloc (.cells #[.int .i64 0, .int .i64 0, .int .i64 0, .int .i64 0, .int .i64 0, .int .i64 0, .int .i64 0, .int .i64 0, .int .i64 0, .int .i64 0, .int .i64 0, .int .i64 0, .int .i64 0, .int .i64 0, .int .i64 0, .int .i64 0, .int .i64 0, .int .i64 0, .int .i64 0] 82)) (w.heap.size + 1) s1 from Q_1.out.same (Below.heap_alloc u1 _ _ Q_1.out.lt)).same (sb.ne _ (by omega)))
  have RU := Lib.hid (sb.old R_1.out)
  have LU := Lib.hid (sb.below L_1.out L_1.out.size)
  have TU := Lib.hid hb
  have hzU : w.heap.size + 2 ≤ U.heap.size := by rw [sb.size]; simp; omega
  clear hb sb Q_1 R_1 L_1
  go_wp2_with fail
  refine (rrint_eq QU.out H1.out E2.out).mono ?_
  rintro e u2 ⟨rfl, q, gg⟩
  have Q_2 := Lib.hid q
  have R_2 := Lib.hid (only_blk gg RU.out (by omega))
  have L_2 := Lib.hid (LU.out.trans (only_lt gg LU.out.size (by omega)))
  have hz_2 : w.heap.size + 2 ≤ u2.heap.size := by have := gg.size; omega
  have T_2 := Lib.hid (only_blk gg TU.out (by omega))
  clear q gg QU RU LU TU
  go_upto_region 6 with (first | (refine wpl_seg rfl 3 _ _ rfl u1.heap.size 1 _ #[.int .i64 now] rfl rfl rfl 82 #[.int .i64 3, .int .i64 0, .int .i64 0, .int .i64 0, .int .i64 0, .int .i64 0, .int .i64 0, .int .i64 0, .int .i64 0, .int .i64 0, .int .i64 0, .int .i64 0, .int .i64 0, .int .i64 0, .int .i64 0, .int .i64 0, .int .i64 0, .int .i64 0, .int .i64 0] T_2.out (by kernel_rfl) #[.int .i64 3, .int .i64 now, .int .i64 0, .int .i64 0, .int .i64 0, .int .i64 0, .int .i64 0, .int .i64 0, .int .i64 0, .int .i64 0, .int .i64 0, .int .i64 0, .int .i64 0, .int .i64 0, .int .i64 0, .int .i64 0, .int .i64 0, .int .i64 0, .int .i64 0] (by simp [setSeg]) (by simp) (by kernel_rfl) ?_; intro t1 hb sb))
  have Q_t1 := Lib.hid (Q_2.out.same (sb.ne _ (by omega)))
  have R_t1 := Lib.hid (sb.blk R_2.out (by omega))
  have L_t1 := Lib.hid (sb.bel L_2.out (by omega))
  have T_t1 := Lib.hid hb
  have hz_t1 : w.heap.size + 2 ≤ t1.heap.size := by rw [sb.size]; exact hz_2
  clear hb sb Q_2 R_2 L_2 T_2 hz_2
  have k0 : t1.cell? ⟨u1.heap.size, 0, none⟩ = some (.int .i64 3) := (cellsB (i := 0) T_t1.out).trans rfl
  go_wp2_with fail
  clear k0
  refine (rrtextV Q_t1.out H2.out E3.out).mono ?_
  rintro e u3 ⟨rfl, q, gg⟩
  have Q_3 := Lib.hid q
  have R_3 := Lib.hid (only_blk gg R_t1.out (by omega))
  have L_3 := Lib.hid (L_t1.out.trans (only_lt gg L_t1.out.size (by omega)))
  have hz_3 : w.heap.size + 2 ≤ u3.heap.size := by have := gg.size; omega
  have T_3 := Lib.hid (only_blk gg T_t1.out (by omega))
  clear q gg Q_t1 R_t1 L_t1 T_t1
  go_wp2_with fail
  refine (HG.out _).mono ?_
  rintro e u9 ⟨rfl, q⟩
  have Q_u9 := Lib.hid (Q_3.out.below q (by omega))
  have R_u9 := Lib.hid (blk0 R_3.out q)
  have L_u9 := Lib.hid (bel0 L_3.out L_3.out.size q)
  have hz_u9 : w.heap.size + 2 ≤ u9.heap.size := by have := q.size; omega
  have T_u9 := Lib.hid (blk0 T_3.out q)
  clear q Q_3 R_3 L_3 T_3
  go_upto_region 12 with (first | (refine wpl_seg rfl 26 _ _ rfl u1.heap.size 8 _ #[.int .i64 q.w.b, .int .i64 q.w.c, .int .i64 q.w.d, .int .i64 q.w.m0, .int .i64 q.w.m1, .int .i64 q.w.m2, .int .i64 q.w.p, .int .i64 q.ph, .int .i64 q.st, .int .i64 q.re, .int .i64 q.si] rfl rfl rfl 82 #[.int .i64 3, .int .i64 now, .int .i64 0, .int .i64 0, .int .i64 0, .int .i64 0, .int .i64 0, .int .i64 0, .int .i64 0, .int .i64 0, .int .i64 0, .int .i64 0, .int .i64 0, .int .i64 0, .int .i64 0, .int .i64 0, .int .i64 0, .int .i64 0, .int .i64 0] T_u9.out (by kernel_rfl) #[.int .i64 3, .int .i64 now, .int .i64 0, .int .i64 0, .int .i64 0, .int .i64 0, .int .i64 0, .int .i64 0, .int .i64 q.w.b, .int .i64 q.w.c, .int .i64 q.w.d, .int .i64 q.w.m0, .int .i64 q.w.m1, .int .i64 q.w.m2, .int .i64 q.w.p, .int .i64 q.ph, .int .i64 q.st, .int .i64 q.re, .int .i64 q.si] (by simp [setSeg]) (by simp) (by kernel_rfl) ?_; intro t2 hb sb))
  have Q_t2 := Lib.hid (Q_u9.out.same (sb.ne _ (by omega)))
  have R_t2 := Lib.hid (sb.blk R_u9.out (by omega))
  have L_t2 := Lib.hid (sb.bel L_u9.out (by omega))
  have T_t2 := Lib.hid hb
  have hz_t2 : w.heap.size + 2 ≤ t2.heap.size := by rw [sb.size]; exact hz_u9
  clear hb sb Q_u9 R_u9 L_u9 T_u9 hz_u9
  by_cases hk : kk = 0
  · have hk0 := Lib.hid hk
    have kb : (kk == 0) = true := by rw [hk]; rfl
    have kb2 : (kk != 0) = false := by unfold bne; rw [kb]; rfl
    clear hk
    go_wp2_with fail
    by_cases he : rEnd s3 = 0
    · have HE := Lib.hid he
      clear he
      refine (rrend_w Q_t2.out HE.out).mono ?_
      rintro e w' ⟨rfl, rfl⟩
      have R := R_t2
      have L := L_t2
      have T := T_t2
      clear R_t2 L_t2 T_t2
      by_cases hm : MayR x
      · have HM := Lib.hid hm
        have HC := Lib.hid (fun W => rrecmay_c x true (decide_eq_true hm) W)
        rw [HXV.out] at HC
        clear hm
        go_wp2_with (refine wpl_row (by rfl) 82 _ rfl _ rfl _ _ _ _ T.out rfl Try.underlying82 (by kernel_rfl) ?_)
        refine (HC.out _).mono ?_
        rintro e z ⟨rfl, b3⟩
        have R2 := Lib.hid (blk0 R.out b3)
        have L2 := Lib.hid (bel0 L.out L.out.size b3)
        have T2 := Lib.hid (blk0 T.out b3)
        clear b3 R L T HC
        have R := R2
        have L := L2
        have T := T2
        clear R2 L2 T2
        go_wp2_with (first | (refine wpl_row (by rfl) 82 _ rfl _ rfl _ _ _ _ (by exact T.out) rfl Try.underlying82 (by kernel_rfl) ?_) | (refine wpl_set rfl 82 _ _ rfl w.heap.size #[.int .i64 3, .int .i64 now, .int .i64 0, .int .i64 0, .int .i64 0, .int .i64 0, .int .i64 0, .int .i64 0, .int .i64 q.w.b, .int .i64 q.w.c, .int .i64 q.w.d, .int .i64 q.w.m0, .int .i64 q.w.m1, .int .i64 q.w.m2, .int .i64 q.w.p, .int .i64 q.ph, .int .i64 q.st, .int .i64 q.re, .int .i64 q.si] rfl rfl 82 #[.int .i64 0, .int .i64 0, .int .i64 0, .int .i64 0, .int .i64 0, .int .i64 0, .int .i64 0, .int .i64 0, .int .i64 0, .int .i64 0, .int .i64 0, .int .i64 0, .int .i64 0, .int .i64 0, .int .i64 0, .int .i64 0, .int .i64 0, .int .i64 0, .int .i64 0] (by exact R.out) (by kernel_rfl) rfl (by kernel_rfl) ?_; intro zf hb sb))
        have hy := HY.out
        rw [if_pos ⟨hk0.out, HE.out, HM.out⟩] at hy
        injection hy with hy1 hy2
        subst hy1 hy2
        have RF := Lib.hid hb
        have LF := Lib.hid (sb.bel L.out (Nat.le_refl _))
        clear hb sb
        go_wp2
        refine bodyPost_ret (v := .tuple #[.agg #[.int .i64 3, .int .i64 now, .int .i64 0, .int .i64 0, .int .i64 0, .int .i64 0, .int .i64 0, .int .i64 0, .int .i64 q.w.b, .int .i64 q.w.c, .int .i64 q.w.d, .int .i64 q.w.m0, .int .i64 q.w.m1, .int .i64 q.w.m2, .int .i64 q.w.p, .int .i64 q.ph, .int .i64 q.st, .int .i64 q.re, .int .i64 q.si], .int .i64 0]) (results_row2 (p := 2) (q := 3) Try.results59 _ _ w.heap.size 82 #[.int .i64 3, .int .i64 now, .int .i64 0, .int .i64 0, .int .i64 0, .int .i64 0, .int .i64 0, .int .i64 0, .int .i64 q.w.b, .int .i64 q.w.c, .int .i64 q.w.d, .int .i64 q.w.m0, .int .i64 q.w.m1, .int .i64 q.w.m2, .int .i64 q.w.p, .int .i64 q.ph, .int .i64 q.st, .int .i64 q.re, .int .i64 q.si] (0, 0) _ rfl RF.out rfl Try.underlying82 (by kernel_rfl) rfl) rfl ?_
        exact ⟨by rw [HXV.out], LF.out⟩
      · have HM := Lib.hid hm
        have HC := Lib.hid (fun W => rrecmay_c x false (decide_eq_false hm) W)
        rw [HXV.out] at HC
        clear hm
        go_wp2_with (refine wpl_row (by rfl) 82 _ rfl _ rfl _ _ _ _ T.out rfl Try.underlying82 (by kernel_rfl) ?_)
        refine (HC.out _).mono ?_
        rintro e z ⟨rfl, b3⟩
        have R2 := Lib.hid (blk0 R.out b3)
        have L2 := Lib.hid (bel0 L.out L.out.size b3)
        have T2 := Lib.hid (blk0 T.out b3)
        clear b3 R L T HC
        have R := R2
        have L := L2
        have T := T2
        clear R2 L2 T2
        go_wp2_with (first | (refine wpl_build (by rfl) 82 _ rfl #[.int .i64 0, .int .i64 0, .int .i64 0, .int .i64 0, .int .i64 0, .int .i64 0, .int .i64 0, .int .i64 0, .int .i64 0, .int .i64 0, .int .i64 0, .int .i64 0, .int .i64 0, .int .i64 0, .int .i64 0, .int .i64 0, .int .i64 0, .int .i64 0, .int .i64 0] (by kernel_rfl) ?_) | (refine wpl_set rfl 82 _ _ rfl w.heap.size #[.int .i64 0, .int .i64 0, .int .i64 0, .int .i64 0, .int .i64 0, .int .i64 0, .int .i64 0, .int .i64 0, .int .i64 0, .int .i64 0, .int .i64 0, .int .i64 0, .int .i64 0, .int .i64 0, .int .i64 0, .int .i64 0, .int .i64 0, .int .i64 0, .int .i64 0] rfl rfl 82 #[.int .i64 0, .int .i64 0, .int .i64 0, .int .i64 0, .int .i64 0, .int .i64 0, .int .i64 0, .int .i64 0, .int .i64 0, .int .i64 0, .int .i64 0, .int .i64 0, .int .i64 0, .int .i64 0, .int .i64 0, .int .i64 0, .int .i64 0, .int .i64 0, .int .i64 0] (by exact R.out) (by kernel_rfl) rfl (by kernel_rfl) ?_; intro zf hb sb))
        have hy := HY.out
        rw [if_neg (fun h => HM.out h.2.2)] at hy
        injection hy with hy1 hy2
        subst hy1 hy2
        have RF := Lib.hid hb
        have LF := Lib.hid (sb.bel L.out (Nat.le_refl _))
        clear hb sb
        go_wp2
        refine bodyPost_ret (v := .tuple #[.agg #[.int .i64 0, .int .i64 0, .int .i64 0, .int .i64 0, .int .i64 0, .int .i64 0, .int .i64 0, .int .i64 0, .int .i64 0, .int .i64 0, .int .i64 0, .int .i64 0, .int .i64 0, .int .i64 0, .int .i64 0, .int .i64 0, .int .i64 0, .int .i64 0, .int .i64 0], .int .i64 2]) (results_row2 (p := 2) (q := 3) Try.results59 _ _ w.heap.size 82 #[.int .i64 0, .int .i64 0, .int .i64 0, .int .i64 0, .int .i64 0, .int .i64 0, .int .i64 0, .int .i64 0, .int .i64 0, .int .i64 0, .int .i64 0, .int .i64 0, .int .i64 0, .int .i64 0, .int .i64 0, .int .i64 0, .int .i64 0, .int .i64 0, .int .i64 0] (0, 0) _ rfl RF.out rfl Try.underlying82 (by kernel_rfl) rfl) rfl ?_
        exact ⟨rfl, LF.out⟩
    · obtain ⟨ve, hve⟩ : ∃ v, rEnd s3 = v := ⟨_, rfl⟩
      have hvn : (ve == 0) = false := beq_eq_false_iff_ne.2 (by rw [← hve]; exact he)
      have hvn2 : (ve != 0) = true := by unfold bne; rw [hvn]; rfl
      have HE := Lib.hid he
      have HVE := Lib.hid hve
      clear he hve
      refine (rrend_w Q_t2.out HVE.out).mono ?_
      rintro e w' ⟨rfl, rfl⟩
      have R := R_t2
      have L := L_t2
      have T := T_t2
      clear R_t2 L_t2 T_t2
      go_wp2_with (first | (refine wpl_build (by rfl) 82 _ rfl #[.int .i64 0, .int .i64 0, .int .i64 0, .int .i64 0, .int .i64 0, .int .i64 0, .int .i64 0, .int .i64 0, .int .i64 0, .int .i64 0, .int .i64 0, .int .i64 0, .int .i64 0, .int .i64 0, .int .i64 0, .int .i64 0, .int .i64 0, .int .i64 0, .int .i64 0] (by kernel_rfl) ?_) | (refine wpl_set rfl 82 _ _ rfl w.heap.size #[.int .i64 0, .int .i64 0, .int .i64 0, .int .i64 0, .int .i64 0, .int .i64 0, .int .i64 0, .int .i64 0, .int .i64 0, .int .i64 0, .int .i64 0, .int .i64 0, .int .i64 0, .int .i64 0, .int .i64 0, .int .i64 0, .int .i64 0, .int .i64 0, .int .i64 0] rfl rfl 82 #[.int .i64 0, .int .i64 0, .int .i64 0, .int .i64 0, .int .i64 0, .int .i64 0, .int .i64 0, .int .i64 0, .int .i64 0, .int .i64 0, .int .i64 0, .int .i64 0, .int .i64 0, .int .i64 0, .int .i64 0, .int .i64 0, .int .i64 0, .int .i64 0, .int .i64 0] (by exact R.out) (by kernel_rfl) rfl (by kernel_rfl) ?_; intro zf hb sb))
      have hy := HY.out
      rw [if_neg (fun h => HE.out h.2.1)] at hy
      injection hy with hy1 hy2
      subst hy1 hy2
      have RF := Lib.hid hb
      have LF := Lib.hid (sb.bel L.out (Nat.le_refl _))
      clear hb sb
      go_wp2
      refine bodyPost_ret (v := .tuple #[.agg #[.int .i64 0, .int .i64 0, .int .i64 0, .int .i64 0, .int .i64 0, .int .i64 0, .int .i64 0, .int .i64 0, .int .i64 0, .int .i64 0, .int .i64 0, .int .i64 0, .int .i64 0, .int .i64 0, .int .i64 0, .int .i64 0, .int .i64 0, .int .i64 0, .int .i64 0], .int .i64 2]) (results_row2 (p := 2) (q := 3) Try.results59 _ _ w.heap.size 82 #[.int .i64 0, .int .i64 0, .int .i64 0, .int .i64 0, .int .i64 0, .int .i64 0, .int .i64 0, .int .i64 0, .int .i64 0, .int .i64 0, .int .i64 0, .int .i64 0, .int .i64 0, .int .i64 0, .int .i64 0, .int .i64 0, .int .i64 0, .int .i64 0, .int .i64 0] (0, 0) _ rfl RF.out rfl Try.underlying82 (by kernel_rfl) rfl) rfl ?_
      exact ⟨rfl, LF.out⟩
  · have HK := Lib.hid hk
    have kb : (kk == 0) = false := beq_eq_false_iff_ne.2 hk
    have kb2 : (kk != 0) = true := by unfold bne; rw [kb]; rfl
    clear hk
    have R := R_t2
    have L := L_t2
    have T := T_t2
    clear R_t2 L_t2 T_t2
    go_wp2_with (first | (refine wpl_build (by rfl) 82 _ rfl #[.int .i64 0, .int .i64 0, .int .i64 0, .int .i64 0, .int .i64 0, .int .i64 0, .int .i64 0, .int .i64 0, .int .i64 0, .int .i64 0, .int .i64 0, .int .i64 0, .int .i64 0, .int .i64 0, .int .i64 0, .int .i64 0, .int .i64 0, .int .i64 0, .int .i64 0] (by kernel_rfl) ?_) | (refine wpl_set rfl 82 _ _ rfl w.heap.size #[.int .i64 0, .int .i64 0, .int .i64 0, .int .i64 0, .int .i64 0, .int .i64 0, .int .i64 0, .int .i64 0, .int .i64 0, .int .i64 0, .int .i64 0, .int .i64 0, .int .i64 0, .int .i64 0, .int .i64 0, .int .i64 0, .int .i64 0, .int .i64 0, .int .i64 0] rfl rfl 82 #[.int .i64 0, .int .i64 0, .int .i64 0, .int .i64 0, .int .i64 0, .int .i64 0, .int .i64 0, .int .i64 0, .int .i64 0, .int .i64 0, .int .i64 0, .int .i64 0, .int .i64 0, .int .i64 0, .int .i64 0, .int .i64 0, .int .i64 0, .int .i64 0, .int .i64 0] (by exact R.out) (by kernel_rfl) rfl (by kernel_rfl) ?_; intro zf hb sb))
    have hy := HY.out
    rw [if_neg (fun h => HK.out h.1)] at hy
    injection hy with hy1 hy2
    subst hy1 hy2
    have RF := Lib.hid hb
    have LF := Lib.hid (sb.bel L.out (Nat.le_refl _))
    clear hb sb
    go_wp2
    refine bodyPost_ret (v := .tuple #[.agg #[.int .i64 0, .int .i64 0, .int .i64 0, .int .i64 0, .int .i64 0, .int .i64 0, .int .i64 0, .int .i64 0, .int .i64 0, .int .i64 0, .int .i64 0, .int .i64 0, .int .i64 0, .int .i64 0, .int .i64 0, .int .i64 0, .int .i64 0, .int .i64 0, .int .i64 0], .int .i64 2]) (results_row2 (p := 2) (q := 3) Try.results59 _ _ w.heap.size 82 #[.int .i64 0, .int .i64 0, .int .i64 0, .int .i64 0, .int .i64 0, .int .i64 0, .int .i64 0, .int .i64 0, .int .i64 0, .int .i64 0, .int .i64 0, .int .i64 0, .int .i64 0, .int .i64 0, .int .i64 0, .int .i64 0, .int .i64 0, .int .i64 0, .int .i64 0] (0, 0) _ rfl RF.out rfl Try.underlying82 (by kernel_rfl) rfl) rfl ?_
    exact ⟨rfl, LF.out⟩
set_option maxRecDepth 100000 in
set_option maxHeartbeats 16000000 in
theorem rrecget0 (T : ByteArray) (l : List UInt8) (w : World) (hT : T.data.toList = l) (hs : Sh (some l)) (k : Int) (now : Int) (s1 s2 : Rs) (hk1 : ¬ k = 1) (hk3 : ¬ k = 3) (e1 : rF (some l) = (k, s1)) (e2 : rF s1 = (now, s2)) (y : R19) (yk : Int) (hy : (if True ∧ rEnd s2 = 0 ∧ MayR ⟨k, now, 0, zO, z11⟩ then (⟨k, now, 0, zO, z11⟩, 0) else (zR, 2)) = (y, yk)) : Calls Try.prog 59 #[.string T] w fun e w' => e = .returned (.tuple #[y.val, .int .i64 yk]) ∧ Below w.heap.size w w' := by
  obtain ⟨x, hx⟩ : ∃ x : R19, x = ⟨k, now, 0, zO, z11⟩ := ⟨_, rfl⟩
  have hxv : x.val = .agg #[.int .i64 k, .int .i64 now, .int .i64 0, .int .i64 0, .int .i64 0, .int .i64 0, .int .i64 0, .int .i64 0, .int .i64 0, .int .i64 0, .int .i64 0, .int .i64 0, .int .i64 0, .int .i64 0, .int .i64 0, .int .i64 0, .int .i64 0, .int .i64 0, .int .i64 0] := by rw [hx]; rfl
  rw [← hx] at hy
  have HXV := Lib.hid hxv
  have HY := Lib.hid hy
  have E1 := Lib.hid e1
  have E2 := Lib.hid e2
  have H0 := Lib.hid hs
  have H1 := Lib.hid (hs.f e1)
  have H2 := Lib.hid ((hs.f e1).f e2)
  have HT := Lib.hid hT
  clear hT hs hx hxv hy e1 e2
  have q1 : (k == 1) = false := beq_eq_false_iff_ne.2 hk1
  have q3 : (k == 3) = false := beq_eq_false_iff_ne.2 hk3
  clear hk1 hk3
  go_enter Try.func59, Try.ntmps59
  go_wp2_with fail
  obtain ⟨W, hW⟩ : ∃ W, W = (w.alloc (.cells #[.int .i64 0, .int .i64 0, .int .i64 0, .int .i64 0, .int .i64 0, .int .i64 0, .int .i64 0, .int .i64 0, .int .i64 0, .int .i64 0, .int .i64 0, .int .i64 0, .int .i64 0, .int .i64 0, .int .i64 0, .int .i64 0, .int .i64 0, .int .i64 0, .int .i64 0] 82)).alloc (.cells #[.string T, .bool false] 116) := ⟨_, rfl⟩
  have h2 := two_boxes w (.cells #[.int .i64 0, .int .i64 0, .int .i64 0, .int .i64 0, .int .i64 0, .int .i64 0, .int .i64 0, .int .i64 0, .int .i64 0, .int .i64 0, .int .i64 0, .int .i64 0, .int .i64 0, .int .i64 0, .int .i64 0, .int .i64 0, .int .i64 0, .int .i64 0, .int .i64 0] 82) (.cells #[.string T, .bool false] 116)
  rw [← hW] at h2 ⊢
  obtain ⟨f1, f2, f3⟩ := h2
  have R0 := Lib.hid f1
  have Q0 := Lib.hid (show RR W (w.heap.size + 1) (some l) from ⟨T, false, f2, by rw [HT.out]; rfl⟩)
  have L0 := Lib.hid f3
  have hz0 : w.heap.size + 2 ≤ W.heap.size := by rw [hW]; simp
  clear f1 f2 f3 hW
  refine (rrint_eq Q0.out H0.out E1.out).mono ?_
  rintro e u1 ⟨rfl, q, gg⟩
  have Q_1 := Lib.hid q
  have R_1 := Lib.hid (only_blk gg R0.out (by omega))
  have L_1 := Lib.hid (L0.out.trans (only_lt gg L0.out.size (by omega)))
  have hz_1 : w.heap.size + 2 ≤ u1.heap.size := by have := gg.size; omega
  clear q gg Q0 R0 L0
  go_upto_region 4 with (first | (refine wpl_build (by rfl) 82 _ rfl #[.int .i64 k, .int .i64 0, .int .i64 0, .int .i64 0, .int .i64 0, .int .i64 0, .int .i64 0, .int .i64 0, .int .i64 0, .int .i64 0, .int .i64 0, .int .i64 0, .int .i64 0, .int .i64 0, .int .i64 0, .int .i64 0, .int .i64 0, .int .i64 0, .int .i64 0] (by kernel_rfl) ?_) | (refine wpl_set rfl 82 _ _ rfl u1.heap.size #[.int .i64 k, .int .i64 0, .int .i64 0, .int .i64 0, .int .i64 0, .int .i64 0, .int .i64 0, .int .i64 0, .int .i64 0, .int .i64 0, .int .i64 0, .int .i64 0, .int .i64 0, .int .i64 0, .int .i64 0, .int .i64 0, .int .i64 0, .int .i64 0, .int .i64 0] rfl rfl 82 #[.int .i64 0, .int .i64 0, .int .i64 0, .int .i64 0, .int .i64 0, .int .i64 0, .int .i64 0, .int .i64 0, .int .i64 0, .int .i64 0, .int .i64 0, .int .i64 0, .int .i64 0, .int .i64 0, .int .i64 0, .int .i64 0, .int .i64 0, .int .i64 0, .int .i64 0] (heap_alloc_new u1 (.cells #[.int .i64 0, .int .i64 0, .int .i64 0, .int .i64 0, .int .i64 0, .int .i64 0, .int .i64 0, .int .i64 0, .int .i64 0, .int .i64 0, .int .i64 0, .int .i64 0, .int .i64 0, .int .i64 0, .int .i64 0, .int .i64 0, .int .i64 0, .int .i64 0, .int .i64 0] 82)) (by kernel_rfl) rfl (by kernel_rfl) ?_; intro U hb sb))
  have QU := Lib.hid ((show RR (u1.alloc (.cells #[.int .i64 0, .int .i64 0, .int .i64 0, .int .i64 0, .int .i64 0, .int .i64 0, .int .i64 0, .int .i64 0, .int .i64 0, .int .i64 0, .int .i64 0, .int .i64 0, .int .i64 0, .int .i64 0, .int .i64 0, .int .i64 0, .int .i64 0, .int .i64 0, .int .i64 0] 82)) (w.heap.size + 1) s1 from Q_1.out.same (Below.heap_alloc u1 _ _ Q_1.out.lt)).same (sb.ne _ (by omega)))
  have RU := Lib.hid (sb.old R_1.out)
  have LU := Lib.hid (sb.below L_1.out L_1.out.size)
  have TU := Lib.hid hb
  have hzU : w.heap.size + 2 ≤ U.heap.size := by rw [sb.size]; simp; omega
  clear hb sb Q_1 R_1 L_1
  go_wp2_with fail
  refine (rrint_eq QU.out H1.out E2.out).mono ?_
  rintro e u2 ⟨rfl, q, gg⟩
  have Q_2 := Lib.hid q
  have R_2 := Lib.hid (only_blk gg RU.out (by omega))
  have L_2 := Lib.hid (LU.out.trans (only_lt gg LU.out.size (by omega)))
  have hz_2 : w.heap.size + 2 ≤ u2.heap.size := by have := gg.size; omega
  have T_2 := Lib.hid (only_blk gg TU.out (by omega))
  clear q gg QU RU LU TU
  go_upto_region 6 with (first | (refine wpl_seg rfl 3 _ _ rfl u1.heap.size 1 _ #[.int .i64 now] rfl rfl rfl 82 #[.int .i64 k, .int .i64 0, .int .i64 0, .int .i64 0, .int .i64 0, .int .i64 0, .int .i64 0, .int .i64 0, .int .i64 0, .int .i64 0, .int .i64 0, .int .i64 0, .int .i64 0, .int .i64 0, .int .i64 0, .int .i64 0, .int .i64 0, .int .i64 0, .int .i64 0] T_2.out (by kernel_rfl) #[.int .i64 k, .int .i64 now, .int .i64 0, .int .i64 0, .int .i64 0, .int .i64 0, .int .i64 0, .int .i64 0, .int .i64 0, .int .i64 0, .int .i64 0, .int .i64 0, .int .i64 0, .int .i64 0, .int .i64 0, .int .i64 0, .int .i64 0, .int .i64 0, .int .i64 0] (by simp [setSeg]) (by simp) (by kernel_rfl) ?_; intro t1 hb sb))
  have Q_t1 := Lib.hid (Q_2.out.same (sb.ne _ (by omega)))
  have R_t1 := Lib.hid (sb.blk R_2.out (by omega))
  have L_t1 := Lib.hid (sb.bel L_2.out (by omega))
  have T_t1 := Lib.hid hb
  have hz_t1 : w.heap.size + 2 ≤ t1.heap.size := by rw [sb.size]; exact hz_2
  clear hb sb Q_2 R_2 L_2 T_2 hz_2
  have k0 : t1.cell? ⟨u1.heap.size, 0, none⟩ = some (.int .i64 k) := (cellsB (i := 0) T_t1.out).trans rfl
  go_wp2_with fail
  clear k0
  by_cases he : rEnd s2 = 0
  · have HE := Lib.hid he
    clear he
    refine (rrend_w Q_t1.out HE.out).mono ?_
    rintro e w' ⟨rfl, rfl⟩
    have R := R_t1
    have L := L_t1
    have T := T_t1
    clear R_t1 L_t1 T_t1
    by_cases hm : MayR x
    · have HM := Lib.hid hm
      have HC := Lib.hid (fun W => rrecmay_c x true (decide_eq_true hm) W)
      rw [HXV.out] at HC
      clear hm
      go_wp2_with (refine wpl_row (by rfl) 82 _ rfl _ rfl _ _ _ _ T.out rfl Try.underlying82 (by kernel_rfl) ?_)
      refine (HC.out _).mono ?_
      rintro e z ⟨rfl, b3⟩
      have R2 := Lib.hid (blk0 R.out b3)
      have L2 := Lib.hid (bel0 L.out L.out.size b3)
      have T2 := Lib.hid (blk0 T.out b3)
      clear b3 R L T HC
      have R := R2
      have L := L2
      have T := T2
      clear R2 L2 T2
      go_wp2_with (first | (refine wpl_row (by rfl) 82 _ rfl _ rfl _ _ _ _ (by exact T.out) rfl Try.underlying82 (by kernel_rfl) ?_) | (refine wpl_set rfl 82 _ _ rfl w.heap.size #[.int .i64 k, .int .i64 now, .int .i64 0, .int .i64 0, .int .i64 0, .int .i64 0, .int .i64 0, .int .i64 0, .int .i64 0, .int .i64 0, .int .i64 0, .int .i64 0, .int .i64 0, .int .i64 0, .int .i64 0, .int .i64 0, .int .i64 0, .int .i64 0, .int .i64 0] rfl rfl 82 #[.int .i64 0, .int .i64 0, .int .i64 0, .int .i64 0, .int .i64 0, .int .i64 0, .int .i64 0, .int .i64 0, .int .i64 0, .int .i64 0, .int .i64 0, .int .i64 0, .int .i64 0, .int .i64 0, .int .i64 0, .int .i64 0, .int .i64 0, .int .i64 0, .int .i64 0] (by exact R.out) (by kernel_rfl) rfl (by kernel_rfl) ?_; intro zf hb sb))
      have hy := HY.out
      rw [if_pos ⟨trivial, HE.out, HM.out⟩] at hy
      injection hy with hy1 hy2
      subst hy1 hy2
      have RF := Lib.hid hb
      have LF := Lib.hid (sb.bel L.out (Nat.le_refl _))
      clear hb sb
      go_wp2
      refine bodyPost_ret (v := .tuple #[.agg #[.int .i64 k, .int .i64 now, .int .i64 0, .int .i64 0, .int .i64 0, .int .i64 0, .int .i64 0, .int .i64 0, .int .i64 0, .int .i64 0, .int .i64 0, .int .i64 0, .int .i64 0, .int .i64 0, .int .i64 0, .int .i64 0, .int .i64 0, .int .i64 0, .int .i64 0], .int .i64 0]) (results_row2 (p := 2) (q := 3) Try.results59 _ _ w.heap.size 82 #[.int .i64 k, .int .i64 now, .int .i64 0, .int .i64 0, .int .i64 0, .int .i64 0, .int .i64 0, .int .i64 0, .int .i64 0, .int .i64 0, .int .i64 0, .int .i64 0, .int .i64 0, .int .i64 0, .int .i64 0, .int .i64 0, .int .i64 0, .int .i64 0, .int .i64 0] (0, 0) _ rfl RF.out rfl Try.underlying82 (by kernel_rfl) rfl) rfl ?_
      exact ⟨by rw [HXV.out], LF.out⟩
    · have HM := Lib.hid hm
      have HC := Lib.hid (fun W => rrecmay_c x false (decide_eq_false hm) W)
      rw [HXV.out] at HC
      clear hm
      go_wp2_with (refine wpl_row (by rfl) 82 _ rfl _ rfl _ _ _ _ T.out rfl Try.underlying82 (by kernel_rfl) ?_)
      refine (HC.out _).mono ?_
      rintro e z ⟨rfl, b3⟩
      have R2 := Lib.hid (blk0 R.out b3)
      have L2 := Lib.hid (bel0 L.out L.out.size b3)
      have T2 := Lib.hid (blk0 T.out b3)
      clear b3 R L T HC
      have R := R2
      have L := L2
      have T := T2
      clear R2 L2 T2
      go_wp2_with (first | (refine wpl_build (by rfl) 82 _ rfl #[.int .i64 0, .int .i64 0, .int .i64 0, .int .i64 0, .int .i64 0, .int .i64 0, .int .i64 0, .int .i64 0, .int .i64 0, .int .i64 0, .int .i64 0, .int .i64 0, .int .i64 0, .int .i64 0, .int .i64 0, .int .i64 0, .int .i64 0, .int .i64 0, .int .i64 0] (by kernel_rfl) ?_) | (refine wpl_set rfl 82 _ _ rfl w.heap.size #[.int .i64 0, .int .i64 0, .int .i64 0, .int .i64 0, .int .i64 0, .int .i64 0, .int .i64 0, .int .i64 0, .int .i64 0, .int .i64 0, .int .i64 0, .int .i64 0, .int .i64 0, .int .i64 0, .int .i64 0, .int .i64 0, .int .i64 0, .int .i64 0, .int .i64 0] rfl rfl 82 #[.int .i64 0, .int .i64 0, .int .i64 0, .int .i64 0, .int .i64 0, .int .i64 0, .int .i64 0, .int .i64 0, .int .i64 0, .int .i64 0, .int .i64 0, .int .i64 0, .int .i64 0, .int .i64 0, .int .i64 0, .int .i64 0, .int .i64 0, .int .i64 0, .int .i64 0] (by exact R.out) (by kernel_rfl) rfl (by kernel_rfl) ?_; intro zf hb sb))
      have hy := HY.out
      rw [if_neg (fun h => HM.out h.2.2)] at hy
      injection hy with hy1 hy2
      subst hy1 hy2
      have RF := Lib.hid hb
      have LF := Lib.hid (sb.bel L.out (Nat.le_refl _))
      clear hb sb
      go_wp2
      refine bodyPost_ret (v := .tuple #[.agg #[.int .i64 0, .int .i64 0, .int .i64 0, .int .i64 0, .int .i64 0, .int .i64 0, .int .i64 0, .int .i64 0, .int .i64 0, .int .i64 0, .int .i64 0, .int .i64 0, .int .i64 0, .int .i64 0, .int .i64 0, .int .i64 0, .int .i64 0, .int .i64 0, .int .i64 0], .int .i64 2]) (results_row2 (p := 2) (q := 3) Try.results59 _ _ w.heap.size 82 #[.int .i64 0, .int .i64 0, .int .i64 0, .int .i64 0, .int .i64 0, .int .i64 0, .int .i64 0, .int .i64 0, .int .i64 0, .int .i64 0, .int .i64 0, .int .i64 0, .int .i64 0, .int .i64 0, .int .i64 0, .int .i64 0, .int .i64 0, .int .i64 0, .int .i64 0] (0, 0) _ rfl RF.out rfl Try.underlying82 (by kernel_rfl) rfl) rfl ?_
      exact ⟨rfl, LF.out⟩
  · obtain ⟨ve, hve⟩ : ∃ v, rEnd s2 = v := ⟨_, rfl⟩
    have hvn : (ve == 0) = false := beq_eq_false_iff_ne.2 (by rw [← hve]; exact he)
    have hvn2 : (ve != 0) = true := by unfold bne; rw [hvn]; rfl
    have HE := Lib.hid he
    have HVE := Lib.hid hve
    clear he hve
    refine (rrend_w Q_t1.out HVE.out).mono ?_
    rintro e w' ⟨rfl, rfl⟩
    have R := R_t1
    have L := L_t1
    have T := T_t1
    clear R_t1 L_t1 T_t1
    go_wp2_with (first | (refine wpl_build (by rfl) 82 _ rfl #[.int .i64 0, .int .i64 0, .int .i64 0, .int .i64 0, .int .i64 0, .int .i64 0, .int .i64 0, .int .i64 0, .int .i64 0, .int .i64 0, .int .i64 0, .int .i64 0, .int .i64 0, .int .i64 0, .int .i64 0, .int .i64 0, .int .i64 0, .int .i64 0, .int .i64 0] (by kernel_rfl) ?_) | (refine wpl_set rfl 82 _ _ rfl w.heap.size #[.int .i64 0, .int .i64 0, .int .i64 0, .int .i64 0, .int .i64 0, .int .i64 0, .int .i64 0, .int .i64 0, .int .i64 0, .int .i64 0, .int .i64 0, .int .i64 0, .int .i64 0, .int .i64 0, .int .i64 0, .int .i64 0, .int .i64 0, .int .i64 0, .int .i64 0] rfl rfl 82 #[.int .i64 0, .int .i64 0, .int .i64 0, .int .i64 0, .int .i64 0, .int .i64 0, .int .i64 0, .int .i64 0, .int .i64 0, .int .i64 0, .int .i64 0, .int .i64 0, .int .i64 0, .int .i64 0, .int .i64 0, .int .i64 0, .int .i64 0, .int .i64 0, .int .i64 0] (by exact R.out) (by kernel_rfl) rfl (by kernel_rfl) ?_; intro zf hb sb))
    have hy := HY.out
    rw [if_neg (fun h => HE.out h.2.1)] at hy
    injection hy with hy1 hy2
    subst hy1 hy2
    have RF := Lib.hid hb
    have LF := Lib.hid (sb.bel L.out (Nat.le_refl _))
    clear hb sb
    go_wp2
    refine bodyPost_ret (v := .tuple #[.agg #[.int .i64 0, .int .i64 0, .int .i64 0, .int .i64 0, .int .i64 0, .int .i64 0, .int .i64 0, .int .i64 0, .int .i64 0, .int .i64 0, .int .i64 0, .int .i64 0, .int .i64 0, .int .i64 0, .int .i64 0, .int .i64 0, .int .i64 0, .int .i64 0, .int .i64 0], .int .i64 2]) (results_row2 (p := 2) (q := 3) Try.results59 _ _ w.heap.size 82 #[.int .i64 0, .int .i64 0, .int .i64 0, .int .i64 0, .int .i64 0, .int .i64 0, .int .i64 0, .int .i64 0, .int .i64 0, .int .i64 0, .int .i64 0, .int .i64 0, .int .i64 0, .int .i64 0, .int .i64 0, .int .i64 0, .int .i64 0, .int .i64 0, .int .i64 0] (0, 0) _ rfl RF.out rfl Try.underlying82 (by kernel_rfl) rfl) rfl ?_
    exact ⟨rfl, LF.out⟩
end Go.Proofs.Ytplgodfhhlnojaa
