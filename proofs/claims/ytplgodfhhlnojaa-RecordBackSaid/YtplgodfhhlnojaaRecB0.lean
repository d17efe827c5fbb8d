/- The law RecordBack, walked: words, and the case of none (printed by genrecback.py). -/
import Derived.Test.YtplgodfhhlnojaaRecT
import Derived.Test.YtplgodfhhlnojaaOwnB
import Derived.Test.YtplgodfhhlnojaaB1
import Derived.Test.YtplgodfhhlnojaaB4
import Derived.Outline
set_option linter.unusedSimpArgs false
set_option linter.unusedVariables false
namespace Go.Proofs.Ytplgodfhhlnojaa
open Go.RowKit
theorem rd_takeB {w : World} {D n k : Nat} {A : Option Addr} {l : List UInt8} (R : Rd w D 1 A n (B8 l)) (hk : k ≤ n) : Rd w D 1 A k (B8 (l.take k)) := by
  have h := R.take hk
  rw [Nat.mul_one] at h
  unfold B8 at h ⊢
  rwa [List.map_take]
theorem encR_pos (x : R19) : 1 ≤ (encR x).length := by
  unfold encR
  have := enc_pos x.k
  simp only [List.length_append]
  omega
theorem encR_same (x y : R19) (hx : MayR x) (hy : MayR y) : (encR x == encR y) = decide (x = y) := by
  rw [Bool.eq_iff_iff]
  simp only [beq_iff_eq, decide_eq_true_eq]
  exact ⟨fun h => (rRec_same x y [] [] hx hy (by rw [h])).1, fun h => by rw [h]⟩
set_option maxRecDepth 100000 in
set_option maxHeartbeats 4000000 in
theorem recback_no (x s : R19) (at_ : Int) (cb : UInt8) (w : World) (hx : ¬ MayR x) : Calls Try.prog 16 #[x.val, s.val, .int .i64 at_, .int .u8 cb.toNat] w fun e w' => e = .returned (.bool true) ∧ Below w.heap.size w w' := by
  have T := Lib.hid told17
  have HP := Lib.hid (fun W => encR_no x W hx)
  have HM := Lib.hid (fun W => recmay_is x false (decide_eq_false hx) W)
  clear hx
  simp only [R19.val] at HP HM
  unfold R19.val
  obtain ⟨f1, f2, f3⟩ := two_boxes w (.cells #[.int .i64 x.k, .int .i64 x.now, .int .i64 x.ans, .int .i64 x.o.kind, .int .i64 x.o.book, .int .i64 x.o.units, .int .i64 x.o.cust, .int .i64 x.o.amount, .int .i64 x.s.w.b, .int .i64 x.s.w.c, .int .i64 x.s.w.d, .int .i64 x.s.w.m0, .int .i64 x.s.w.m1, .int .i64 x.s.w.m2, .int .i64 x.s.w.p, .int .i64 x.s.ph, .int .i64 x.s.st, .int .i64 x.s.re, .int .i64 x.s.si] 82) (.cells #[.int .i64 s.k, .int .i64 s.now, .int .i64 s.ans, .int .i64 s.o.kind, .int .i64 s.o.book, .int .i64 s.o.units, .int .i64 s.o.cust, .int .i64 s.o.amount, .int .i64 s.s.w.b, .int .i64 s.s.w.c, .int .i64 s.s.w.d, .int .i64 s.s.w.m0, .int .i64 s.s.w.m1, .int .i64 s.s.w.m2, .int .i64 s.s.w.p, .int .i64 s.s.ph, .int .i64 s.s.st, .int .i64 s.s.re, .int .i64 s.s.si] 82)
  go_enter Try.func16, Try.ntmps16
  go_upto_region 1 with fail
  generalize (w.alloc (.cells #[.int .i64 x.k, .int .i64 x.now, .int .i64 x.ans, .int .i64 x.o.kind, .int .i64 x.o.book, .int .i64 x.o.units, .int .i64 x.o.cust, .int .i64 x.o.amount, .int .i64 x.s.w.b, .int .i64 x.s.w.c, .int .i64 x.s.w.d, .int .i64 x.s.w.m0, .int .i64 x.s.w.m1, .int .i64 x.s.w.m2, .int .i64 x.s.w.p, .int .i64 x.s.ph, .int .i64 x.s.st, .int .i64 x.s.re, .int .i64 x.s.si] 82)).alloc (.cells #[.int .i64 s.k, .int .i64 s.now, .int .i64 s.ans, .int .i64 s.o.kind, .int .i64 s.o.book, .int .i64 s.o.units, .int .i64 s.o.cust, .int .i64 s.o.amount, .int .i64 s.s.w.b, .int .i64 s.s.w.c, .int .i64 s.s.w.d, .int .i64 s.s.w.m0, .int .i64 s.s.w.m1, .int .i64 s.s.w.m2, .int .i64 s.s.w.p, .int .i64 s.s.ph, .int .i64 s.s.st, .int .i64 s.s.re, .int .i64 s.s.si] 82) = w0 at f1 f2 f3 ⊢
  generalize w.heap.size + 1 = gS at f2 ⊢
  have X_0 := Lib.hid f1
  have S_0 := Lib.hid f2
  have B0 := Lib.hid f3
  clear f1 f2 f3
  go_wp2_with (first | (refine wpl_row (by rfl) 82 _ rfl _ rfl _ _ _ _ X_0.out rfl Try.underlying82 (by kernel_rfl) ?_))
  refine (HP.out _).mono ?_
  rintro e w1 ⟨rfl, q⟩
  have X_1 := Lib.hid (blk0 X_0.out q)
  have S_1 := Lib.hid (blk0 S_0.out q)
  have B1 := Lib.hid (bel0 B0.out B0.out.size q)
  clear q X_0 S_0 B0
  go_wp2_with fail
  refine (T.out _).mono ?_
  rintro e w2 ⟨rfl, q⟩
  have X_2 := Lib.hid (blk0 X_1.out q)
  have S_2 := Lib.hid (blk0 S_1.out q)
  have B2 := Lib.hid (bel0 B1.out B1.out.size q)
  clear q X_1 S_1 B1
  go_wp2_with (first | (refine wpl_row (by rfl) 82 _ rfl _ rfl _ _ _ _ X_2.out rfl Try.underlying82 (by kernel_rfl) ?_))
  refine (HM.out _).mono ?_
  rintro e w3 ⟨rfl, q⟩
  have X_3 := Lib.hid (blk0 X_2.out q)
  have S_3 := Lib.hid (blk0 S_2.out q)
  have B3 := Lib.hid (bel0 B2.out B2.out.size q)
  clear q X_2 S_2 B2
  go_wp2
  go_ret
  exact ⟨rfl, B3.out⟩
end Go.Proofs.Ytplgodfhhlnojaa
