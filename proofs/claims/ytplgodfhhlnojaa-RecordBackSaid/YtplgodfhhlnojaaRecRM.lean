/- sojourn/sojournref14.MayRecord (printed by genrecmay.py). -/
import Derived.Test.YtplgodfhhlnojaaRecS
import Derived.Test.YtplgodfhhlnojaaB4
import Derived.Test.YtplgodfhhlnojaaSagaR
import Derived.Test.YtplgodfhhlnojaaS8
set_option linter.unusedSimpArgs false
set_option linter.unusedVariables false
namespace Go.Proofs.Ytplgodfhhlnojaa
open Go.RowKit
set_option maxRecDepth 100000 in
set_option maxHeartbeats 1000000 in
theorem rrecmay_c_1 (now : Int) (o : O5) (w : World) (n0 : 0 ≤ now) (n1 : now ≤ 1099511627776) (hm : MayO o) : Calls Try.prog 54 #[.agg #[.int .i64 1, .int .i64 now, .int .i64 1, .int .i64 o.kind, .int .i64 o.book, .int .i64 o.units, .int .i64 o.cust, .int .i64 o.amount, .int .i64 0, .int .i64 0, .int .i64 0, .int .i64 0, .int .i64 0, .int .i64 0, .int .i64 0, .int .i64 0, .int .i64 0, .int .i64 0, .int .i64 0]] w fun e w' => e = .returned (.bool true) ∧ Below w.heap.size w w' := by
  have HO := Lib.hid (fun W => rmayop_is o true (decide_eq_true hm) W)
  unfold O5.val at HO
  have es := sameS z11 z11 true (by simp)
  simp only [z11] at es
  clear hm
  go_enter Try.func54, Try.ntmps54
  go_wp2_with (first | (refine wpl_load (by rfl) 28 _ rfl ⟨w.heap.size, 3, none⟩ rfl [.int .i64 o.kind, .int .i64 o.book, .int .i64 o.units, .int .i64 o.cust, .int .i64 o.amount] _ (seg_at (heap_alloc_new w (.cells #[.int .i64 1, .int .i64 now, .int .i64 1, .int .i64 o.kind, .int .i64 o.book, .int .i64 o.units, .int .i64 o.cust, .int .i64 o.amount, .int .i64 0, .int .i64 0, .int .i64 0, .int .i64 0, .int .i64 0, .int .i64 0, .int .i64 0, .int .i64 0, .int .i64 0, .int .i64 0, .int .i64 0] 82)) [.int .i64 o.kind, .int .i64 o.book, .int .i64 o.units, .int .i64 o.cust, .int .i64 o.amount] rfl) (by rfl) Try.underlying28 (by kernel_rfl) ?_) | (refine wpl_build (by rfl) 28 _ rfl #[.int .i64 0, .int .i64 0, .int .i64 0, .int .i64 0, .int .i64 0] (by kernel_rfl) ?_))
  refine (HO.out _).mono ?_
  rintro e w1 ⟨rfl, q⟩
  have S1 := Lib.hid (new1 q)
  have B1 := Lib.hid (bel1 (Below.refl w.heap.size w) (Nat.le_refl _) q)
  have d2 : w1.cell? ⟨w.heap.size, 2, none⟩ = some (.int .i64 1) := (cellsB (i := 2) S1.out).trans rfl
  clear q
  go_wp2_with (first | (refine wpl_load (by rfl) 26 _ rfl ⟨w.heap.size, 8, none⟩ rfl [.int .i64 0, .int .i64 0, .int .i64 0, .int .i64 0, .int .i64 0, .int .i64 0, .int .i64 0, .int .i64 0, .int .i64 0, .int .i64 0, .int .i64 0] _ (seg_at S1.out [.int .i64 0, .int .i64 0, .int .i64 0, .int .i64 0, .int .i64 0, .int .i64 0, .int .i64 0, .int .i64 0, .int .i64 0, .int .i64 0, .int .i64 0] rfl) (by rfl) Try.underlying26 (by kernel_rfl) ?_) | (refine wpl_build (by rfl) 26 _ rfl #[.int .i64 0, .int .i64 0, .int .i64 0, .int .i64 0, .int .i64 0, .int .i64 0, .int .i64 0, .int .i64 0, .int .i64 0, .int .i64 0, .int .i64 0] (by kernel_rfl) ?_))
  go_ret
  exact ⟨rfl, B1.out⟩
set_option maxRecDepth 100000 in
set_option maxHeartbeats 1000000 in
theorem rrecmay_c_2 (now : Int) (o : O5) (s : S11) (w : World) (n0 : 0 ≤ now) (n1 : now ≤ 1099511627776) (hm : MayO o) (hs : ¬ s = z11) : Calls Try.prog 54 #[.agg #[.int .i64 1, .int .i64 now, .int .i64 1, .int .i64 o.kind, .int .i64 o.book, .int .i64 o.units, .int .i64 o.cust, .int .i64 o.amount, .int .i64 s.w.b, .int .i64 s.w.c, .int .i64 s.w.d, .int .i64 s.w.m0, .int .i64 s.w.m1, .int .i64 s.w.m2, .int .i64 s.w.p, .int .i64 s.ph, .int .i64 s.st, .int .i64 s.re, .int .i64 s.si]] w fun e w' => e = .returned (.bool false) ∧ Below w.heap.size w w' := by
  have HO := Lib.hid (fun W => rmayop_is o true (decide_eq_true hm) W)
  unfold O5.val at HO
  have es := sameS s z11 false (decide_eq_false hs)
  simp only [z11] at es
  clear hm hs
  go_enter Try.func54, Try.ntmps54
  go_wp2_with (first | (refine wpl_load (by rfl) 28 _ rfl ⟨w.heap.size, 3, none⟩ rfl [.int .i64 o.kind, .int .i64 o.book, .int .i64 o.units, .int .i64 o.cust, .int .i64 o.amount] _ (seg_at (heap_alloc_new w (.cells #[.int .i64 1, .int .i64 now, .int .i64 1, .int .i64 o.kind, .int .i64 o.book, .int .i64 o.units, .int .i64 o.cust, .int .i64 o.amount, .int .i64 s.w.b, .int .i64 s.w.c, .int .i64 s.w.d, .int .i64 s.w.m0, .int .i64 s.w.m1, .int .i64 s.w.m2, .int .i64 s.w.p, .int .i64 s.ph, .int .i64 s.st, .int .i64 s.re, .int .i64 s.si] 82)) [.int .i64 o.kind, .int .i64 o.book, .int .i64 o.units, .int .i64 o.cust, .int .i64 o.amount] rfl) (by rfl) Try.underlying28 (by kernel_rfl) ?_) | (refine wpl_build (by rfl) 28 _ rfl #[.int .i64 0, .int .i64 0, .int .i64 0, .int .i64 0, .int .i64 0] (by kernel_rfl) ?_))
  refine (HO.out _).mono ?_
  rintro e w1 ⟨rfl, q⟩
  have S1 := Lib.hid (new1 q)
  have B1 := Lib.hid (bel1 (Below.refl w.heap.size w) (Nat.le_refl _) q)
  have d2 : w1.cell? ⟨w.heap.size, 2, none⟩ = some (.int .i64 1) := (cellsB (i := 2) S1.out).trans rfl
  clear q
  go_wp2_with (first | (refine wpl_load (by rfl) 26 _ rfl ⟨w.heap.size, 8, none⟩ rfl [.int .i64 s.w.b, .int .i64 s.w.c, .int .i64 s.w.d, .int .i64 s.w.m0, .int .i64 s.w.m1, .int .i64 s.w.m2, .int .i64 s.w.p, .int .i64 s.ph, .int .i64 s.st, .int .i64 s.re, .int .i64 s.si] _ (seg_at S1.out [.int .i64 s.w.b, .int .i64 s.w.c, .int .i64 s.w.d, .int .i64 s.w.m0, .int .i64 s.w.m1, .int .i64 s.w.m2, .int .i64 s.w.p, .int .i64 s.ph, .int .i64 s.st, .int .i64 s.re, .int .i64 s.si] rfl) (by rfl) Try.underlying26 (by kernel_rfl) ?_) | (refine wpl_build (by rfl) 26 _ rfl #[.int .i64 0, .int .i64 0, .int .i64 0, .int .i64 0, .int .i64 0, .int .i64 0, .int .i64 0, .int .i64 0, .int .i64 0, .int .i64 0, .int .i64 0] (by kernel_rfl) ?_))
  go_ret
  exact ⟨rfl, B1.out⟩
set_option maxRecDepth 100000 in
set_option maxHeartbeats 1000000 in
theorem rrecmay_c_3 (now : Int) (o : O5) (w : World) (n0 : 0 ≤ now) (n1 : now ≤ 1099511627776) (hm : MayO o) : Calls Try.prog 54 #[.agg #[.int .i64 1, .int .i64 now, .int .i64 2, .int .i64 o.kind, .int .i64 o.book, .int .i64 o.units, .int .i64 o.cust, .int .i64 o.amount, .int .i64 0, .int .i64 0, .int .i64 0, .int .i64 0, .int .i64 0, .int .i64 0, .int .i64 0, .int .i64 0, .int .i64 0, .int .i64 0, .int .i64 0]] w fun e w' => e = .returned (.bool true) ∧ Below w.heap.size w w' := by
  have HO := Lib.hid (fun W => rmayop_is o true (decide_eq_true hm) W)
  unfold O5.val at HO
  have es := sameS z11 z11 true (by simp)
  simp only [z11] at es
  clear hm
  go_enter Try.func54, Try.ntmps54
  go_wp2_with (first | (refine wpl_load (by rfl) 28 _ rfl ⟨w.heap.size, 3, none⟩ rfl [.int .i64 o.kind, .int .i64 o.book, .int .i64 o.units, .int .i64 o.cust, .int .i64 o.amount] _ (seg_at (heap_alloc_new w (.cells #[.int .i64 1, .int .i64 now, .int .i64 2, .int .i64 o.kind, .int .i64 o.book, .int .i64 o.units, .int .i64 o.cust, .int .i64 o.amount, .int .i64 0, .int .i64 0, .int .i64 0, .int .i64 0, .int .i64 0, .int .i64 0, .int .i64 0, .int .i64 0, .int .i64 0, .int .i64 0, .int .i64 0] 82)) [.int .i64 o.kind, .int .i64 o.book, .int .i64 o.units, .int .i64 o.cust, .int .i64 o.amount] rfl) (by rfl) Try.underlying28 (by kernel_rfl) ?_) | (refine wpl_build (by rfl) 28 _ rfl #[.int .i64 0, .int .i64 0, .int .i64 0, .int .i64 0, .int .i64 0] (by kernel_rfl) ?_))
  refine (HO.out _).mono ?_
  rintro e w1 ⟨rfl, q⟩
  have S1 := Lib.hid (new1 q)
  have B1 := Lib.hid (bel1 (Below.refl w.heap.size w) (Nat.le_refl _) q)
  have d2 : w1.cell? ⟨w.heap.size, 2, none⟩ = some (.int .i64 2) := (cellsB (i := 2) S1.out).trans rfl
  clear q
  go_wp2_with (first | (refine wpl_load (by rfl) 26 _ rfl ⟨w.heap.size, 8, none⟩ rfl [.int .i64 0, .int .i64 0, .int .i64 0, .int .i64 0, .int .i64 0, .int .i64 0, .int .i64 0, .int .i64 0, .int .i64 0, .int .i64 0, .int .i64 0] _ (seg_at S1.out [.int .i64 0, .int .i64 0, .int .i64 0, .int .i64 0, .int .i64 0, .int .i64 0, .int .i64 0, .int .i64 0, .int .i64 0, .int .i64 0, .int .i64 0] rfl) (by rfl) Try.underlying26 (by kernel_rfl) ?_) | (refine wpl_build (by rfl) 26 _ rfl #[.int .i64 0, .int .i64 0, .int .i64 0, .int .i64 0, .int .i64 0, .int .i64 0, .int .i64 0, .int .i64 0, .int .i64 0, .int .i64 0, .int .i64 0] (by kernel_rfl) ?_))
  go_ret
  exact ⟨rfl, B1.out⟩
set_option maxRecDepth 100000 in
set_option maxHeartbeats 1000000 in
theorem rrecmay_c_4 (now : Int) (o : O5) (s : S11) (w : World) (n0 : 0 ≤ now) (n1 : now ≤ 1099511627776) (hm : MayO o) (hs : ¬ s = z11) : Calls Try.prog 54 #[.agg #[.int .i64 1, .int .i64 now, .int .i64 2, .int .i64 o.kind, .int .i64 o.book, .int .i64 o.units, .int .i64 o.cust, .int .i64 o.amount, .int .i64 s.w.b, .int .i64 s.w.c, .int .i64 s.w.d, .int .i64 s.w.m0, .int .i64 s.w.m1, .int .i64 s.w.m2, .int .i64 s.w.p, .int .i64 s.ph, .int .i64 s.st, .int .i64 s.re, .int .i64 s.si]] w fun e w' => e = .returned (.bool false) ∧ Below w.heap.size w w' := by
  have HO := Lib.hid (fun W => rmayop_is o true (decide_eq_true hm) W)
  unfold O5.val at HO
  have es := sameS s z11 false (decide_eq_false hs)
  simp only [z11] at es
  clear hm hs
  go_enter Try.func54, Try.ntmps54
  go_wp2_with (first | (refine wpl_load (by rfl) 28 _ rfl ⟨w.heap.size, 3, none⟩ rfl [.int .i64 o.kind, .int .i64 o.book, .int .i64 o.units, .int .i64 o.cust, .int .i64 o.amount] _ (seg_at (heap_alloc_new w (.cells #[.int .i64 1, .int .i64 now, .int .i64 2, .int .i64 o.kind, .int .i64 o.book, .int .i64 o.units, .int .i64 o.cust, .int .i64 o.amount, .int .i64 s.w.b, .int .i64 s.w.c, .int .i64 s.w.d, .int .i64 s.w.m0, .int .i64 s.w.m1, .int .i64 s.w.m2, .int .i64 s.w.p, .int .i64 s.ph, .int .i64 s.st, .int .i64 s.re, .int .i64 s.si] 82)) [.int .i64 o.kind, .int .i64 o.book, .int .i64 o.units, .int .i64 o.cust, .int .i64 o.amount] rfl) (by rfl) Try.underlying28 (by kernel_rfl) ?_) | (refine wpl_build (by rfl) 28 _ rfl #[.int .i64 0, .int .i64 0, .int .i64 0, .int .i64 0, .int .i64 0] (by kernel_rfl) ?_))
  refine (HO.out _).mono ?_
  rintro e w1 ⟨rfl, q⟩
  have S1 := Lib.hid (new1 q)
  have B1 := Lib.hid (bel1 (Below.refl w.heap.size w) (Nat.le_refl _) q)
  have d2 : w1.cell? ⟨w.heap.size, 2, none⟩ = some (.int .i64 2) := (cellsB (i := 2) S1.out).trans rfl
  clear q
  go_wp2_with (first | (refine wpl_load (by rfl) 26 _ rfl ⟨w.heap.size, 8, none⟩ rfl [.int .i64 s.w.b, .int .i64 s.w.c, .int .i64 s.w.d, .int .i64 s.w.m0, .int .i64 s.w.m1, .int .i64 s.w.m2, .int .i64 s.w.p, .int .i64 s.ph, .int .i64 s.st, .int .i64 s.re, .int .i64 s.si] _ (seg_at S1.out [.int .i64 s.w.b, .int .i64 s.w.c, .int .i64 s.w.d, .int .i64 s.w.m0, .int .i64 s.w.m1, .int .i64 s.w.m2, .int .i64 s.w.p, .int .i64 s.ph, .int .i64 s.st, .int .i64 s.re, .int .i64 s.si] rfl) (by rfl) Try.underlying26 (by kernel_rfl) ?_) | (refine wpl_build (by rfl) 26 _ rfl #[.int .i64 0, .int .i64 0, .int .i64 0, .int .i64 0, .int .i64 0, .int .i64 0, .int .i64 0, .int .i64 0, .int .i64 0, .int .i64 0, .int .i64 0] (by kernel_rfl) ?_))
  go_ret
  exact ⟨rfl, B1.out⟩
set_option maxRecDepth 100000 in
set_option maxHeartbeats 1000000 in
theorem rrecmay_c_5 (now : Int) (ans : Int) (o : O5) (s : S11) (w : World) (n0 : 0 ≤ now) (n1 : now ≤ 1099511627776) (hm : MayO o) (ha : ¬ ans = 1) (hb : ¬ ans = 2) : Calls Try.prog 54 #[.agg #[.int .i64 1, .int .i64 now, .int .i64 ans, .int .i64 o.kind, .int .i64 o.book, .int .i64 o.units, .int .i64 o.cust, .int .i64 o.amount, .int .i64 s.w.b, .int .i64 s.w.c, .int .i64 s.w.d, .int .i64 s.w.m0, .int .i64 s.w.m1, .int .i64 s.w.m2, .int .i64 s.w.p, .int .i64 s.ph, .int .i64 s.st, .int .i64 s.re, .int .i64 s.si]] w fun e w' => e = .returned (.bool false) ∧ Below w.heap.size w w' := by
  have HO := Lib.hid (fun W => rmayop_is o true (decide_eq_true hm) W)
  unfold O5.val at HO
  have q1 : (ans == 1) = false := beq_eq_false_iff_ne.2 ha
  have q2 : (ans == 2) = false := beq_eq_false_iff_ne.2 hb
  clear hm ha hb
  go_enter Try.func54, Try.ntmps54
  go_wp2_with (first | (refine wpl_load (by rfl) 28 _ rfl ⟨w.heap.size, 3, none⟩ rfl [.int .i64 o.kind, .int .i64 o.book, .int .i64 o.units, .int .i64 o.cust, .int .i64 o.amount] _ (seg_at (heap_alloc_new w (.cells #[.int .i64 1, .int .i64 now, .int .i64 ans, .int .i64 o.kind, .int .i64 o.book, .int .i64 o.units, .int .i64 o.cust, .int .i64 o.amount, .int .i64 s.w.b, .int .i64 s.w.c, .int .i64 s.w.d, .int .i64 s.w.m0, .int .i64 s.w.m1, .int .i64 s.w.m2, .int .i64 s.w.p, .int .i64 s.ph, .int .i64 s.st, .int .i64 s.re, .int .i64 s.si] 82)) [.int .i64 o.kind, .int .i64 o.book, .int .i64 o.units, .int .i64 o.cust, .int .i64 o.amount] rfl) (by rfl) Try.underlying28 (by kernel_rfl) ?_) | (refine wpl_build (by rfl) 28 _ rfl #[.int .i64 0, .int .i64 0, .int .i64 0, .int .i64 0, .int .i64 0] (by kernel_rfl) ?_))
  refine (HO.out _).mono ?_
  rintro e w1 ⟨rfl, q⟩
  have S1 := Lib.hid (new1 q)
  have B1 := Lib.hid (bel1 (Below.refl w.heap.size w) (Nat.le_refl _) q)
  have d2 : w1.cell? ⟨w.heap.size, 2, none⟩ = some (.int .i64 ans) := (cellsB (i := 2) S1.out).trans rfl
  clear q
  go_wp2_with fail
  go_ret
  exact ⟨rfl, B1.out⟩
set_option maxRecDepth 100000 in
set_option maxHeartbeats 1000000 in
theorem rrecmay_c_6 (now : Int) (ans : Int) (o : O5) (s : S11) (w : World) (n0 : 0 ≤ now) (n1 : now ≤ 1099511627776) (hm : ¬ MayO o) : Calls Try.prog 54 #[.agg #[.int .i64 1, .int .i64 now, .int .i64 ans, .int .i64 o.kind, .int .i64 o.book, .int .i64 o.units, .int .i64 o.cust, .int .i64 o.amount, .int .i64 s.w.b, .int .i64 s.w.c, .int .i64 s.w.d, .int .i64 s.w.m0, .int .i64 s.w.m1, .int .i64 s.w.m2, .int .i64 s.w.p, .int .i64 s.ph, .int .i64 s.st, .int .i64 s.re, .int .i64 s.si]] w fun e w' => e = .returned (.bool false) ∧ Below w.heap.size w w' := by
  have HO := Lib.hid (fun W => rmayop_is o false (decide_eq_false hm) W)
  unfold O5.val at HO
  clear hm
  go_enter Try.func54, Try.ntmps54
  go_wp2_with (first | (refine wpl_load (by rfl) 28 _ rfl ⟨w.heap.size, 3, none⟩ rfl [.int .i64 o.kind, .int .i64 o.book, .int .i64 o.units, .int .i64 o.cust, .int .i64 o.amount] _ (seg_at (heap_alloc_new w (.cells #[.int .i64 1, .int .i64 now, .int .i64 ans, .int .i64 o.kind, .int .i64 o.book, .int .i64 o.units, .int .i64 o.cust, .int .i64 o.amount, .int .i64 s.w.b, .int .i64 s.w.c, .int .i64 s.w.d, .int .i64 s.w.m0, .int .i64 s.w.m1, .int .i64 s.w.m2, .int .i64 s.w.p, .int .i64 s.ph, .int .i64 s.st, .int .i64 s.re, .int .i64 s.si] 82)) [.int .i64 o.kind, .int .i64 o.book, .int .i64 o.units, .int .i64 o.cust, .int .i64 o.amount] rfl) (by rfl) Try.underlying28 (by kernel_rfl) ?_) | (refine wpl_build (by rfl) 28 _ rfl #[.int .i64 0, .int .i64 0, .int .i64 0, .int .i64 0, .int .i64 0] (by kernel_rfl) ?_))
  refine (HO.out _).mono ?_
  rintro e w1 ⟨rfl, q⟩
  have S1 := Lib.hid (new1 q)
  have B1 := Lib.hid (bel1 (Below.refl w.heap.size w) (Nat.le_refl _) q)
  have d2 : w1.cell? ⟨w.heap.size, 2, none⟩ = some (.int .i64 ans) := (cellsB (i := 2) S1.out).trans rfl
  clear q
  go_wp2_with fail
  go_ret
  exact ⟨rfl, B1.out⟩
set_option maxRecDepth 100000 in
set_option maxHeartbeats 1000000 in
theorem rrecmay_c_7 (now : Int) (w : World) (n0 : 0 ≤ now) (n1 : now ≤ 1099511627776) : Calls Try.prog 54 #[.agg #[.int .i64 2, .int .i64 now, .int .i64 0, .int .i64 0, .int .i64 0, .int .i64 0, .int .i64 0, .int .i64 0, .int .i64 0, .int .i64 0, .int .i64 0, .int .i64 0, .int .i64 0, .int .i64 0, .int .i64 0, .int .i64 0, .int .i64 0, .int .i64 0, .int .i64 0]] w fun e w' => e = .returned (.bool true) ∧ Below w.heap.size w w' := by
  have eo := sameO zO zO true (by simp)
  simp only [zO] at eo
  have es := sameS z11 z11 true (by simp)
  simp only [z11] at es
  go_enter Try.func54, Try.ntmps54
  go_wp2_with (first | (refine wpl_load (by rfl) 28 _ rfl ⟨w.heap.size, 3, none⟩ rfl [.int .i64 0, .int .i64 0, .int .i64 0, .int .i64 0, .int .i64 0] _ (seg_at (heap_alloc_new w (.cells #[.int .i64 2, .int .i64 now, .int .i64 0, .int .i64 0, .int .i64 0, .int .i64 0, .int .i64 0, .int .i64 0, .int .i64 0, .int .i64 0, .int .i64 0, .int .i64 0, .int .i64 0, .int .i64 0, .int .i64 0, .int .i64 0, .int .i64 0, .int .i64 0, .int .i64 0] 82)) [.int .i64 0, .int .i64 0, .int .i64 0, .int .i64 0, .int .i64 0] rfl) (by rfl) Try.underlying28 (by kernel_rfl) ?_) | (refine wpl_build (by rfl) 28 _ rfl #[.int .i64 0, .int .i64 0, .int .i64 0, .int .i64 0, .int .i64 0] (by kernel_rfl) ?_) | (refine wpl_load (by rfl) 26 _ rfl ⟨w.heap.size, 8, none⟩ rfl [.int .i64 0, .int .i64 0, .int .i64 0, .int .i64 0, .int .i64 0, .int .i64 0, .int .i64 0, .int .i64 0, .int .i64 0, .int .i64 0, .int .i64 0] _ (seg_at (heap_alloc_new w (.cells #[.int .i64 2, .int .i64 now, .int .i64 0, .int .i64 0, .int .i64 0, .int .i64 0, .int .i64 0, .int .i64 0, .int .i64 0, .int .i64 0, .int .i64 0, .int .i64 0, .int .i64 0, .int .i64 0, .int .i64 0, .int .i64 0, .int .i64 0, .int .i64 0, .int .i64 0] 82)) [.int .i64 0, .int .i64 0, .int .i64 0, .int .i64 0, .int .i64 0, .int .i64 0, .int .i64 0, .int .i64 0, .int .i64 0, .int .i64 0, .int .i64 0] rfl) (by rfl) Try.underlying26 (by kernel_rfl) ?_) | (refine wpl_build (by rfl) 26 _ rfl #[.int .i64 0, .int .i64 0, .int .i64 0, .int .i64 0, .int .i64 0, .int .i64 0, .int .i64 0, .int .i64 0, .int .i64 0, .int .i64 0, .int .i64 0] (by kernel_rfl) ?_))
  go_ret
  exact ⟨rfl, (Below.refl w.heap.size w).alloc (Nat.le_refl _) _⟩
set_option maxRecDepth 100000 in
set_option maxHeartbeats 1000000 in
theorem rrecmay_c_8 (now : Int) (s : S11) (w : World) (n0 : 0 ≤ now) (n1 : now ≤ 1099511627776) (hs : ¬ s = z11) : Calls Try.prog 54 #[.agg #[.int .i64 2, .int .i64 now, .int .i64 0, .int .i64 0, .int .i64 0, .int .i64 0, .int .i64 0, .int .i64 0, .int .i64 s.w.b, .int .i64 s.w.c, .int .i64 s.w.d, .int .i64 s.w.m0, .int .i64 s.w.m1, .int .i64 s.w.m2, .int .i64 s.w.p, .int .i64 s.ph, .int .i64 s.st, .int .i64 s.re, .int .i64 s.si]] w fun e w' => e = .returned (.bool false) ∧ Below w.heap.size w w' := by
  have eo := sameO zO zO true (by simp)
  simp only [zO] at eo
  have es := sameS s z11 false (decide_eq_false hs)
  simp only [z11] at es
  clear hs
  go_enter Try.func54, Try.ntmps54
  go_wp2_with (first | (refine wpl_load (by rfl) 28 _ rfl ⟨w.heap.size, 3, none⟩ rfl [.int .i64 0, .int .i64 0, .int .i64 0, .int .i64 0, .int .i64 0] _ (seg_at (heap_alloc_new w (.cells #[.int .i64 2, .int .i64 now, .int .i64 0, .int .i64 0, .int .i64 0, .int .i64 0, .int .i64 0, .int .i64 0, .int .i64 s.w.b, .int .i64 s.w.c, .int .i64 s.w.d, .int .i64 s.w.m0, .int .i64 s.w.m1, .int .i64 s.w.m2, .int .i64 s.w.p, .int .i64 s.ph, .int .i64 s.st, .int .i64 s.re, .int .i64 s.si] 82)) [.int .i64 0, .int .i64 0, .int .i64 0, .int .i64 0, .int .i64 0] rfl) (by rfl) Try.underlying28 (by kernel_rfl) ?_) | (refine wpl_build (by rfl) 28 _ rfl #[.int .i64 0, .int .i64 0, .int .i64 0, .int .i64 0, .int .i64 0] (by kernel_rfl) ?_) | (refine wpl_load (by rfl) 26 _ rfl ⟨w.heap.size, 8, none⟩ rfl [.int .i64 s.w.b, .int .i64 s.w.c, .int .i64 s.w.d, .int .i64 s.w.m0, .int .i64 s.w.m1, .int .i64 s.w.m2, .int .i64 s.w.p, .int .i64 s.ph, .int .i64 s.st, .int .i64 s.re, .int .i64 s.si] _ (seg_at (heap_alloc_new w (.cells #[.int .i64 2, .int .i64 now, .int .i64 0, .int .i64 0, .int .i64 0, .int .i64 0, .int .i64 0, .int .i64 0, .int .i64 s.w.b, .int .i64 s.w.c, .int .i64 s.w.d, .int .i64 s.w.m0, .int .i64 s.w.m1, .int .i64 s.w.m2, .int .i64 s.w.p, .int .i64 s.ph, .int .i64 s.st, .int .i64 s.re, .int .i64 s.si] 82)) [.int .i64 s.w.b, .int .i64 s.w.c, .int .i64 s.w.d, .int .i64 s.w.m0, .int .i64 s.w.m1, .int .i64 s.w.m2, .int .i64 s.w.p, .int .i64 s.ph, .int .i64 s.st, .int .i64 s.re, .int .i64 s.si] rfl) (by rfl) Try.underlying26 (by kernel_rfl) ?_) | (refine wpl_build (by rfl) 26 _ rfl #[.int .i64 0, .int .i64 0, .int .i64 0, .int .i64 0, .int .i64 0, .int .i64 0, .int .i64 0, .int .i64 0, .int .i64 0, .int .i64 0, .int .i64 0] (by kernel_rfl) ?_))
  go_ret
  exact ⟨rfl, (Below.refl w.heap.size w).alloc (Nat.le_refl _) _⟩
set_option maxRecDepth 100000 in
set_option maxHeartbeats 1000000 in
theorem rrecmay_c_9 (now : Int) (ans : Int) (s : S11) (w : World) (n0 : 0 ≤ now) (n1 : now ≤ 1099511627776) (ha : ¬ ans = 0) : Calls Try.prog 54 #[.agg #[.int .i64 2, .int .i64 now, .int .i64 ans, .int .i64 0, .int .i64 0, .int .i64 0, .int .i64 0, .int .i64 0, .int .i64 s.w.b, .int .i64 s.w.c, .int .i64 s.w.d, .int .i64 s.w.m0, .int .i64 s.w.m1, .int .i64 s.w.m2, .int .i64 s.w.p, .int .i64 s.ph, .int .i64 s.st, .int .i64 s.re, .int .i64 s.si]] w fun e w' => e = .returned (.bool false) ∧ Below w.heap.size w w' := by
  have eo := sameO zO zO true (by simp)
  simp only [zO] at eo
  have q0 : (ans == 0) = false := beq_eq_false_iff_ne.2 ha
  clear ha
  go_enter Try.func54, Try.ntmps54
  go_wp2_with (first | (refine wpl_load (by rfl) 28 _ rfl ⟨w.heap.size, 3, none⟩ rfl [.int .i64 0, .int .i64 0, .int .i64 0, .int .i64 0, .int .i64 0] _ (seg_at (heap_alloc_new w (.cells #[.int .i64 2, .int .i64 now, .int .i64 ans, .int .i64 0, .int .i64 0, .int .i64 0, .int .i64 0, .int .i64 0, .int .i64 s.w.b, .int .i64 s.w.c, .int .i64 s.w.d, .int .i64 s.w.m0, .int .i64 s.w.m1, .int .i64 s.w.m2, .int .i64 s.w.p, .int .i64 s.ph, .int .i64 s.st, .int .i64 s.re, .int .i64 s.si] 82)) [.int .i64 0, .int .i64 0, .int .i64 0, .int .i64 0, .int .i64 0] rfl) (by rfl) Try.underlying28 (by kernel_rfl) ?_) | (refine wpl_build (by rfl) 28 _ rfl #[.int .i64 0, .int .i64 0, .int .i64 0, .int .i64 0, .int .i64 0] (by kernel_rfl) ?_))
  go_ret
  exact ⟨rfl, (Below.refl w.heap.size w).alloc (Nat.le_refl _) _⟩
set_option maxRecDepth 100000 in
set_option maxHeartbeats 1000000 in
theorem rrecmay_c_10 (now : Int) (ans : Int) (o : O5) (s : S11) (w : World) (n0 : 0 ≤ now) (n1 : now ≤ 1099511627776) (ho : ¬ o = zO) : Calls Try.prog 54 #[.agg #[.int .i64 2, .int .i64 now, .int .i64 ans, .int .i64 o.kind, .int .i64 o.book, .int .i64 o.units, .int .i64 o.cust, .int .i64 o.amount, .int .i64 s.w.b, .int .i64 s.w.c, .int .i64 s.w.d, .int .i64 s.w.m0, .int .i64 s.w.m1, .int .i64 s.w.m2, .int .i64 s.w.p, .int .i64 s.ph, .int .i64 s.st, .int .i64 s.re, .int .i64 s.si]] w fun e w' => e = .returned (.bool false) ∧ Below w.heap.size w w' := by
  have eo := sameO o zO false (decide_eq_false ho)
  simp only [zO] at eo
  clear ho
  go_enter Try.func54, Try.ntmps54
  go_wp2_with (first | (refine wpl_load (by rfl) 28 _ rfl ⟨w.heap.size, 3, none⟩ rfl [.int .i64 o.kind, .int .i64 o.book, .int .i64 o.units, .int .i64 o.cust, .int .i64 o.amount] _ (seg_at (heap_alloc_new w (.cells #[.int .i64 2, .int .i64 now, .int .i64 ans, .int .i64 o.kind, .int .i64 o.book, .int .i64 o.units, .int .i64 o.cust, .int .i64 o.amount, .int .i64 s.w.b, .int .i64 s.w.c, .int .i64 s.w.d, .int .i64 s.w.m0, .int .i64 s.w.m1, .int .i64 s.w.m2, .int .i64 s.w.p, .int .i64 s.ph, .int .i64 s.st, .int .i64 s.re, .int .i64 s.si] 82)) [.int .i64 o.kind, .int .i64 o.book, .int .i64 o.units, .int .i64 o.cust, .int .i64 o.amount] rfl) (by rfl) Try.underlying28 (by kernel_rfl) ?_) | (refine wpl_build (by rfl) 28 _ rfl #[.int .i64 0, .int .i64 0, .int .i64 0, .int .i64 0, .int .i64 0] (by kernel_rfl) ?_))
  go_ret
  exact ⟨rfl, (Below.refl w.heap.size w).alloc (Nat.le_refl _) _⟩
set_option maxRecDepth 100000 in
set_option maxHeartbeats 1000000 in
theorem rrecmay_c_11 (now : Int) (s : S11) (w : World) (n0 : 0 ≤ now) (n1 : now ≤ 1099511627776) (hm : MayS s) : Calls Try.prog 54 #[.agg #[.int .i64 3, .int .i64 now, .int .i64 0, .int .i64 0, .int .i64 0, .int .i64 0, .int .i64 0, .int .i64 0, .int .i64 s.w.b, .int .i64 s.w.c, .int .i64 s.w.d, .int .i64 s.w.m0, .int .i64 s.w.m1, .int .i64 s.w.m2, .int .i64 s.w.p, .int .i64 s.ph, .int .i64 s.st, .int .i64 s.re, .int .i64 s.si]] w fun e w' => e = .returned (.bool true) ∧ Below w.heap.size w w' := by
  have HS := Lib.hid (fun W => rmay14_is s true (decide_eq_true hm) W)
  unfold S11.val at HS
  have eo := sameO zO zO true (by simp)
  simp only [zO] at eo
  clear hm
  go_enter Try.func54, Try.ntmps54
  go_wp2_with (first | (refine wpl_load (by rfl) 28 _ rfl ⟨w.heap.size, 3, none⟩ rfl [.int .i64 0, .int .i64 0, .int .i64 0, .int .i64 0, .int .i64 0] _ (seg_at (heap_alloc_new w (.cells #[.int .i64 3, .int .i64 now, .int .i64 0, .int .i64 0, .int .i64 0, .int .i64 0, .int .i64 0, .int .i64 0, .int .i64 s.w.b, .int .i64 s.w.c, .int .i64 s.w.d, .int .i64 s.w.m0, .int .i64 s.w.m1, .int .i64 s.w.m2, .int .i64 s.w.p, .int .i64 s.ph, .int .i64 s.st, .int .i64 s.re, .int .i64 s.si] 82)) [.int .i64 0, .int .i64 0, .int .i64 0, .int .i64 0, .int .i64 0] rfl) (by rfl) Try.underlying28 (by kernel_rfl) ?_) | (refine wpl_build (by rfl) 28 _ rfl #[.int .i64 0, .int .i64 0, .int .i64 0, .int .i64 0, .int .i64 0] (by kernel_rfl) ?_) | (refine wpl_load (by rfl) 26 _ rfl ⟨w.heap.size, 8, none⟩ rfl [.int .i64 s.w.b, .int .i64 s.w.c, .int .i64 s.w.d, .int .i64 s.w.m0, .int .i64 s.w.m1, .int .i64 s.w.m2, .int .i64 s.w.p, .int .i64 s.ph, .int .i64 s.st, .int .i64 s.re, .int .i64 s.si] _ (seg_at (heap_alloc_new w (.cells #[.int .i64 3, .int .i64 now, .int .i64 0, .int .i64 0, .int .i64 0, .int .i64 0, .int .i64 0, .int .i64 0, .int .i64 s.w.b, .int .i64 s.w.c, .int .i64 s.w.d, .int .i64 s.w.m0, .int .i64 s.w.m1, .int .i64 s.w.m2, .int .i64 s.w.p, .int .i64 s.ph, .int .i64 s.st, .int .i64 s.re, .int .i64 s.si] 82)) [.int .i64 s.w.b, .int .i64 s.w.c, .int .i64 s.w.d, .int .i64 s.w.m0, .int .i64 s.w.m1, .int .i64 s.w.m2, .int .i64 s.w.p, .int .i64 s.ph, .int .i64 s.st, .int .i64 s.re, .int .i64 s.si] rfl) (by rfl) Try.underlying26 (by kernel_rfl) ?_) | (refine wpl_build (by rfl) 26 _ rfl #[.int .i64 0, .int .i64 0, .int .i64 0, .int .i64 0, .int .i64 0, .int .i64 0, .int .i64 0, .int .i64 0, .int .i64 0, .int .i64 0, .int .i64 0] (by kernel_rfl) ?_))
  refine (HS.out _).mono ?_
  rintro e w1 ⟨rfl, q⟩
  have S1 := Lib.hid (new1 q)
  have B1 := Lib.hid (bel1 (Below.refl w.heap.size w) (Nat.le_refl _) q)
  have d2 : w1.cell? ⟨w.heap.size, 2, none⟩ = some (.int .i64 0) := (cellsB (i := 2) S1.out).trans rfl
  clear q
  go_wp2_with fail
  go_ret
  exact ⟨rfl, B1.out⟩
set_option maxRecDepth 100000 in
set_option maxHeartbeats 1000000 in
theorem rrecmay_c_12 (now : Int) (s : S11) (w : World) (n0 : 0 ≤ now) (n1 : now ≤ 1099511627776) (hm : ¬ MayS s) : Calls Try.prog 54 #[.agg #[.int .i64 3, .int .i64 now, .int .i64 0, .int .i64 0, .int .i64 0, .int .i64 0, .int .i64 0, .int .i64 0, .int .i64 s.w.b, .int .i64 s.w.c, .int .i64 s.w.d, .int .i64 s.w.m0, .int .i64 s.w.m1, .int .i64 s.w.m2, .int .i64 s.w.p, .int .i64 s.ph, .int .i64 s.st, .int .i64 s.re, .int .i64 s.si]] w fun e w' => e = .returned (.bool false) ∧ Below w.heap.size w w' := by
  have HS := Lib.hid (fun W => rmay14_is s false (decide_eq_false hm) W)
  unfold S11.val at HS
  have eo := sameO zO zO true (by simp)
  simp only [zO] at eo
  clear hm
  go_enter Try.func54, Try.ntmps54
  go_wp2_with (first | (refine wpl_load (by rfl) 28 _ rfl ⟨w.heap.size, 3, none⟩ rfl [.int .i64 0, .int .i64 0, .int .i64 0, .int .i64 0, .int .i64 0] _ (seg_at (heap_alloc_new w (.cells #[.int .i64 3, .int .i64 now, .int .i64 0, .int .i64 0, .int .i64 0, .int .i64 0, .int .i64 0, .int .i64 0, .int .i64 s.w.b, .int .i64 s.w.c, .int .i64 s.w.d, .int .i64 s.w.m0, .int .i64 s.w.m1, .int .i64 s.w.m2, .int .i64 s.w.p, .int .i64 s.ph, .int .i64 s.st, .int .i64 s.re, .int .i64 s.si] 82)) [.int .i64 0, .int .i64 0, .int .i64 0, .int .i64 0, .int .i64 0] rfl) (by rfl) Try.underlying28 (by kernel_rfl) ?_) | (refine wpl_build (by rfl) 28 _ rfl #[.int .i64 0, .int .i64 0, .int .i64 0, .int .i64 0, .int .i64 0] (by kernel_rfl) ?_) | (refine wpl_load (by rfl) 26 _ rfl ⟨w.heap.size, 8, none⟩ rfl [.int .i64 s.w.b, .int .i64 s.w.c, .int .i64 s.w.d, .int .i64 s.w.m0, .int .i64 s.w.m1, .int .i64 s.w.m2, .int .i64 s.w.p, .int .i64 s.ph, .int .i64 s.st, .int .i64 s.re, .int .i64 s.si] _ (seg_at (heap_alloc_new w (.cells #[.int .i64 3, .int .i64 now, .int .i64 0, .int .i64 0, .int .i64 0, .int .i64 0, .int .i64 0, .int .i64 0, .int .i64 s.w.b, .int .i64 s.w.c, .int .i64 s.w.d, .int .i64 s.w.m0, .int .i64 s.w.m1, .int .i64 s.w.m2, .int .i64 s.w.p, .int .i64 s.ph, .int .i64 s.st, .int .i64 s.re, .int .i64 s.si] 82)) [.int .i64 s.w.b, .int .i64 s.w.c, .int .i64 s.w.d, .int .i64 s.w.m0, .int .i64 s.w.m1, .int .i64 s.w.m2, .int .i64 s.w.p, .int .i64 s.ph, .int .i64 s.st, .int .i64 s.re, .int .i64 s.si] rfl) (by rfl) Try.underlying26 (by kernel_rfl) ?_) | (refine wpl_build (by rfl) 26 _ rfl #[.int .i64 0, .int .i64 0, .int .i64 0, .int .i64 0, .int .i64 0, .int .i64 0, .int .i64 0, .int .i64 0, .int .i64 0, .int .i64 0, .int .i64 0] (by kernel_rfl) ?_))
  refine (HS.out _).mono ?_
  rintro e w1 ⟨rfl, q⟩
  have S1 := Lib.hid (new1 q)
  have B1 := Lib.hid (bel1 (Below.refl w.heap.size w) (Nat.le_refl _) q)
  have d2 : w1.cell? ⟨w.heap.size, 2, none⟩ = some (.int .i64 0) := (cellsB (i := 2) S1.out).trans rfl
  clear q
  go_wp2_with fail
  go_ret
  exact ⟨rfl, B1.out⟩
set_option maxRecDepth 100000 in
set_option maxHeartbeats 1000000 in
theorem rrecmay_c_13 (now : Int) (ans : Int) (s : S11) (w : World) (n0 : 0 ≤ now) (n1 : now ≤ 1099511627776) (ha : ¬ ans = 0) : Calls Try.prog 54 #[.agg #[.int .i64 3, .int .i64 now, .int .i64 ans, .int .i64 0, .int .i64 0, .int .i64 0, .int .i64 0, .int .i64 0, .int .i64 s.w.b, .int .i64 s.w.c, .int .i64 s.w.d, .int .i64 s.w.m0, .int .i64 s.w.m1, .int .i64 s.w.m2, .int .i64 s.w.p, .int .i64 s.ph, .int .i64 s.st, .int .i64 s.re, .int .i64 s.si]] w fun e w' => e = .returned (.bool false) ∧ Below w.heap.size w w' := by
  have eo := sameO zO zO true (by simp)
  simp only [zO] at eo
  have q0 : (ans == 0) = false := beq_eq_false_iff_ne.2 ha
  clear ha
  go_enter Try.func54, Try.ntmps54
  go_wp2_with (first | (refine wpl_load (by rfl) 28 _ rfl ⟨w.heap.size, 3, none⟩ rfl [.int .i64 0, .int .i64 0, .int .i64 0, .int .i64 0, .int .i64 0] _ (seg_at (heap_alloc_new w (.cells #[.int .i64 3, .int .i64 now, .int .i64 ans, .int .i64 0, .int .i64 0, .int .i64 0, .int .i64 0, .int .i64 0, .int .i64 s.w.b, .int .i64 s.w.c, .int .i64 s.w.d, .int .i64 s.w.m0, .int .i64 s.w.m1, .int .i64 s.w.m2, .int .i64 s.w.p, .int .i64 s.ph, .int .i64 s.st, .int .i64 s.re, .int .i64 s.si] 82)) [.int .i64 0, .int .i64 0, .int .i64 0, .int .i64 0, .int .i64 0] rfl) (by rfl) Try.underlying28 (by kernel_rfl) ?_) | (refine wpl_build (by rfl) 28 _ rfl #[.int .i64 0, .int .i64 0, .int .i64 0, .int .i64 0, .int .i64 0] (by kernel_rfl) ?_))
  go_ret
  exact ⟨rfl, (Below.refl w.heap.size w).alloc (Nat.le_refl _) _⟩
set_option maxRecDepth 100000 in
set_option maxHeartbeats 1000000 in
theorem rrecmay_c_14 (now : Int) (ans : Int) (o : O5) (s : S11) (w : World) (n0 : 0 ≤ now) (n1 : now ≤ 1099511627776) (ho : ¬ o = zO) : Calls Try.prog 54 #[.agg #[.int .i64 3, .int .i64 now, .int .i64 ans, .int .i64 o.kind, .int .i64 o.book, .int .i64 o.units, .int .i64 o.cust, .int .i64 o.amount, .int .i64 s.w.b, .int .i64 s.w.c, .int .i64 s.w.d, .int .i64 s.w.m0, .int .i64 s.w.m1, .int .i64 s.w.m2, .int .i64 s.w.p, .int .i64 s.ph, .int .i64 s.st, .int .i64 s.re, .int .i64 s.si]] w fun e w' => e = .returned (.bool false) ∧ Below w.heap.size w w' := by
  have eo := sameO o zO false (decide_eq_false ho)
  simp only [zO] at eo
  clear ho
  go_enter Try.func54, Try.ntmps54
  go_wp2_with (first | (refine wpl_load (by rfl) 28 _ rfl ⟨w.heap.size, 3, none⟩ rfl [.int .i64 o.kind, .int .i64 o.book, .int .i64 o.units, .int .i64 o.cust, .int .i64 o.amount] _ (seg_at (heap_alloc_new w (.cells #[.int .i64 3, .int .i64 now, .int .i64 ans, .int .i64 o.kind, .int .i64 o.book, .int .i64 o.units, .int .i64 o.cust, .int .i64 o.amount, .int .i64 s.w.b, .int .i64 s.w.c, .int .i64 s.w.d, .int .i64 s.w.m0, .int .i64 s.w.m1, .int .i64 s.w.m2, .int .i64 s.w.p, .int .i64 s.ph, .int .i64 s.st, .int .i64 s.re, .int .i64 s.si] 82)) [.int .i64 o.kind, .int .i64 o.book, .int .i64 o.units, .int .i64 o.cust, .int .i64 o.amount] rfl) (by rfl) Try.underlying28 (by kernel_rfl) ?_) | (refine wpl_build (by rfl) 28 _ rfl #[.int .i64 0, .int .i64 0, .int .i64 0, .int .i64 0, .int .i64 0] (by kernel_rfl) ?_))
  go_ret
  exact ⟨rfl, (Below.refl w.heap.size w).alloc (Nat.le_refl _) _⟩
set_option maxRecDepth 100000 in
set_option maxHeartbeats 1000000 in
theorem rrecmay_c_15 (k : Int) (now : Int) (ans : Int) (o : O5) (s : S11) (w : World) (n0 : 0 ≤ now) (n1 : now ≤ 1099511627776) (hk : ¬ k = 1) (hk2 : ¬ k = 2) (hk3 : ¬ k = 3) : Calls Try.prog 54 #[.agg #[.int .i64 k, .int .i64 now, .int .i64 ans, .int .i64 o.kind, .int .i64 o.book, .int .i64 o.units, .int .i64 o.cust, .int .i64 o.amount, .int .i64 s.w.b, .int .i64 s.w.c, .int .i64 s.w.d, .int .i64 s.w.m0, .int .i64 s.w.m1, .int .i64 s.w.m2, .int .i64 s.w.p, .int .i64 s.ph, .int .i64 s.st, .int .i64 s.re, .int .i64 s.si]] w fun e w' => e = .returned (.bool false) ∧ Below w.heap.size w w' := by
  have q1 : (k == 1) = false := beq_eq_false_iff_ne.2 hk
  have q2 : (k == 2) = false := beq_eq_false_iff_ne.2 hk2
  have q3 : (k == 3) = false := beq_eq_false_iff_ne.2 hk3
  clear hk hk2 hk3
  go_enter Try.func54, Try.ntmps54
  go_wp2_with fail
  go_ret
  exact ⟨rfl, (Below.refl w.heap.size w).alloc (Nat.le_refl _) _⟩
set_option maxRecDepth 100000 in
set_option maxHeartbeats 1000000 in
theorem rrecmay_c_16 (k : Int) (now : Int) (ans : Int) (o : O5) (s : S11) (w : World) (n0 : 0 ≤ now) (nb : 1099511627776 < now) : Calls Try.prog 54 #[.agg #[.int .i64 k, .int .i64 now, .int .i64 ans, .int .i64 o.kind, .int .i64 o.book, .int .i64 o.units, .int .i64 o.cust, .int .i64 o.amount, .int .i64 s.w.b, .int .i64 s.w.c, .int .i64 s.w.d, .int .i64 s.w.m0, .int .i64 s.w.m1, .int .i64 s.w.m2, .int .i64 s.w.p, .int .i64 s.ph, .int .i64 s.st, .int .i64 s.re, .int .i64 s.si]] w fun e w' => e = .returned (.bool false) ∧ Below w.heap.size w w' := by
  have g1 : decide (1099511627776 < now) = true := decide_eq_true (by omega)
  go_enter Try.func54, Try.ntmps54
  go_wp2_with fail
  go_ret
  exact ⟨rfl, (Below.refl w.heap.size w).alloc (Nat.le_refl _) _⟩
set_option maxRecDepth 100000 in
set_option maxHeartbeats 1000000 in
theorem rrecmay_c_17 (k : Int) (now : Int) (ans : Int) (o : O5) (s : S11) (w : World) (nb : now < 0) : Calls Try.prog 54 #[.agg #[.int .i64 k, .int .i64 now, .int .i64 ans, .int .i64 o.kind, .int .i64 o.book, .int .i64 o.units, .int .i64 o.cust, .int .i64 o.amount, .int .i64 s.w.b, .int .i64 s.w.c, .int .i64 s.w.d, .int .i64 s.w.m0, .int .i64 s.w.m1, .int .i64 s.w.m2, .int .i64 s.w.p, .int .i64 s.ph, .int .i64 s.st, .int .i64 s.re, .int .i64 s.si]] w fun e w' => e = .returned (.bool false) ∧ Below w.heap.size w w' := by
  have g0 : decide (now < 0) = true := decide_eq_true (by omega)
  go_enter Try.func54, Try.ntmps54
  go_wp2_with fail
  go_ret
  exact ⟨rfl, (Below.refl w.heap.size w).alloc (Nat.le_refl _) _⟩
set_option maxRecDepth 100000 in
set_option maxHeartbeats 16000000 in
theorem rrecmay_c (x : R19) (b : Bool) (h : decide (MayR x) = b) (w : World) : Calls Try.prog 54 #[x.val] w fun e w' => e = .returned (.bool b) ∧ Below w.heap.size w w' := by
  obtain ⟨k, now, ans, o, s⟩ := x
  unfold R19.val
  simp only
  by_cases n0 : 0 ≤ now
  · by_cases n1 : now ≤ 1099511627776
    · by_cases hk : k = 1
      · subst hk
        by_cases hm : MayO o
        · by_cases ha : ans = 1
          · subst ha
            by_cases hs : s = z11
            · subst hs
              simp only [z11]
              obtain rfl : true = b := (show decide (MayR _) = true from decide_eq_true (by exact ⟨⟨n0, n1⟩, .inl ⟨rfl, hm, by simp, rfl⟩⟩)).symm.trans h
              exact rrecmay_c_1 now o w n0 n1 hm
            · obtain rfl : false = b := (show decide (MayR _) = false from decide_eq_false (fun hh => by obtain ⟨_, hh⟩ := hh; rcases hh with ⟨_, _, _, e⟩ | ⟨e, _⟩ | ⟨e, _⟩ <;> first | exact hs e | (simp at e))).symm.trans h
              exact rrecmay_c_2 now o s w n0 n1 hm hs
          · by_cases hb : ans = 2
            · subst hb
              by_cases hs : s = z11
              · subst hs
                simp only [z11]
                obtain rfl : true = b := (show decide (MayR _) = true from decide_eq_true (by exact ⟨⟨n0, n1⟩, .inl ⟨rfl, hm, by simp, rfl⟩⟩)).symm.trans h
                exact rrecmay_c_3 now o w n0 n1 hm
              · obtain rfl : false = b := (show decide (MayR _) = false from decide_eq_false (fun hh => by obtain ⟨_, hh⟩ := hh; rcases hh with ⟨_, _, _, e⟩ | ⟨e, _⟩ | ⟨e, _⟩ <;> first | exact hs e | (simp at e))).symm.trans h
                exact rrecmay_c_4 now o s w n0 n1 hm hs
            · obtain rfl : false = b := (show decide (MayR _) = false from decide_eq_false (fun hh => by obtain ⟨_, hh⟩ := hh; rcases hh with ⟨_, _, e, _⟩ | ⟨e, _⟩ | ⟨e, _⟩ <;> first | (simp only at e; omega) | (simp at e; done))).symm.trans h
              exact rrecmay_c_5 now ans o s w n0 n1 hm ha hb
        · obtain rfl : false = b := (show decide (MayR _) = false from decide_eq_false (fun hh => by obtain ⟨_, hh⟩ := hh; rcases hh with ⟨_, e, _⟩ | ⟨e, _⟩ | ⟨e, _⟩ <;> first | exact hm e | (simp at e))).symm.trans h
          exact rrecmay_c_6 now ans o s w n0 n1 hm
      · by_cases hk2 : k = 2
        · subst hk2
          by_cases ho : o = zO
          · subst ho
            simp only [zO]
            by_cases ha : ans = 0
            · subst ha
              by_cases hs : s = z11
              · subst hs
                simp only [z11]
                obtain rfl : true = b := (show decide (MayR _) = true from decide_eq_true (by exact ⟨⟨n0, n1⟩, .inr (.inl ⟨rfl, rfl, rfl, rfl⟩)⟩)).symm.trans h
                exact rrecmay_c_7 now w n0 n1
              · obtain rfl : false = b := (show decide (MayR _) = false from decide_eq_false (fun hh => by obtain ⟨_, hh⟩ := hh; rcases hh with ⟨e, _⟩ | ⟨_, e1, e2, e3⟩ | ⟨e, _⟩ <;> first | exact hs e3 | (simp at e))).symm.trans h
                exact rrecmay_c_8 now s w n0 n1 hs
            · obtain rfl : false = b := (show decide (MayR _) = false from decide_eq_false (fun hh => by obtain ⟨_, hh⟩ := hh; rcases hh with ⟨e, _⟩ | ⟨_, e1, e2, e3⟩ | ⟨e, _⟩ <;> first | exact ha e2 | (simp at e))).symm.trans h
              exact rrecmay_c_9 now ans s w n0 n1 ha
          · obtain rfl : false = b := (show decide (MayR _) = false from decide_eq_false (fun hh => by obtain ⟨_, hh⟩ := hh; rcases hh with ⟨e, _⟩ | ⟨_, e1, e2, e3⟩ | ⟨e, _⟩ <;> first | exact ho e1 | (simp at e))).symm.trans h
            exact rrecmay_c_10 now ans o s w n0 n1 ho
        · by_cases hk3 : k = 3
          · subst hk3
            by_cases ho : o = zO
            · subst ho
              simp only [zO]
              by_cases ha : ans = 0
              · subst ha
                by_cases hm : MayS s
                · obtain rfl : true = b := (show decide (MayR _) = true from decide_eq_true (by exact ⟨⟨n0, n1⟩, .inr (.inr ⟨rfl, hm, rfl, rfl⟩)⟩)).symm.trans h
                  exact rrecmay_c_11 now s w n0 n1 hm
                · obtain rfl : false = b := (show decide (MayR _) = false from decide_eq_false (fun hh => by obtain ⟨_, hh⟩ := hh; rcases hh with ⟨e, _⟩ | ⟨e, _⟩ | ⟨_, e1, e2, e3⟩ <;> first | exact hm e1 | (simp at e))).symm.trans h
                  exact rrecmay_c_12 now s w n0 n1 hm
              · obtain rfl : false = b := (show decide (MayR _) = false from decide_eq_false (fun hh => by obtain ⟨_, hh⟩ := hh; rcases hh with ⟨e, _⟩ | ⟨e, _⟩ | ⟨_, e1, e2, e3⟩ <;> first | exact ha e3 | (simp at e))).symm.trans h
                exact rrecmay_c_13 now ans s w n0 n1 ha
            · obtain rfl : false = b := (show decide (MayR _) = false from decide_eq_false (fun hh => by obtain ⟨_, hh⟩ := hh; rcases hh with ⟨e, _⟩ | ⟨e, _⟩ | ⟨_, e1, e2, e3⟩ <;> first | exact ho e2 | (simp at e))).symm.trans h
              exact rrecmay_c_14 now ans o s w n0 n1 ho
          · obtain rfl : false = b := (show decide (MayR _) = false from decide_eq_false (fun hh => by obtain ⟨_, hh⟩ := hh; rcases hh with ⟨e, _⟩ | ⟨e, _⟩ | ⟨e, _⟩ <;> (simp only at e; omega))).symm.trans h
            exact rrecmay_c_15 k now ans o s w n0 n1 hk hk2 hk3
    · obtain rfl : false = b := (show decide (MayR _) = false from decide_eq_false (fun hh => by obtain ⟨hh, _⟩ := hh; simp only at hh; omega)).symm.trans h
      exact rrecmay_c_16 k now ans o s w n0 (by omega)
  · obtain rfl : false = b := (show decide (MayR _) = false from decide_eq_false (fun hh => by obtain ⟨hh, _⟩ := hh; simp only at hh; omega)).symm.trans h
    exact rrecmay_c_17 k now ans o s w (by omega)
end Go.Proofs.Ytplgodfhhlnojaa
