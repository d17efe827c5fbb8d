/- record.part, walked (printed by genrecget.py). -/
import Derived.Test.YtplgodfhhlnojaaRecP
import Derived.Test.YtplgodfhhlnojaaSgB2
import Derived.Test.YtplgodfhhlnojaaConvB
import Derived.Test.YtplgodfhhlnojaaB8
import Derived.Test.YtplgodfhhlnojaaRes2
set_option linter.unusedSimpArgs false
set_option linter.unusedVariables false
namespace Go.Proofs.Ytplgodfhhlnojaa
open Go.RowKit
theorem rText_le (s : Rs) : (rText 1000 s).1.length ≤ 1000 := by
  unfold rText
  have hb := rInt_nn (max 1000 0) s
  obtain ⟨v, q, e⟩ : ∃ v q, rInt 0 (max 1000 0) s = (v, q) := ⟨_, _, rfl⟩
  rw [e] at hb ⊢
  simp only at hb
  cases q with
  | none => simp
  | some l =>
    simp only
    split
    · simp only [List.length_take]; omega
    · simp
theorem only_setRow {w V zf : World} {g R : Nat} (G : w.grownBy V (some g)) (sb : SetR V zf R) (hR : w.heap.size ≤ R) : w.grownBy zf (some g) := by
  have b := sb.bel (Below.refl R V) (Nat.le_refl _)
  exact ⟨b.os.trans G.os, b.tape.trans G.tape, b.output.trans G.output, by rw [sb.size]; exact G.size, fun k hk hne => (sb.ne k (by omega)).trans (G.block k hk hne)⟩
theorem numr_c (p g : Nat) (s s' : Rs) (v : Int) (w : World) (D : Nat) (h : RP w D g s) (hD : D ≤ w.heap.size) (hp : w.heap[p]? = some (.cells #[.pointer (some ⟨g, 0, none⟩)] 109 (0, 0))) (e : rN s = (v, s')) : Calls Try.prog 95 #[.pointer (some ⟨p, 0, none⟩)] w (RPost w D g (.int .i64 v) s') := by
  have HC := Lib.hid (rint_c g 0 1099511627776 s w D h hD)
  have c0 := cell0 hp
  unfold rN at e
  rw [e] at HC
  unfold RPost at HC ⊢
  clear e h hp
  go_enter Try.func95, Try.ntmps95
  go_wp2_with fail
  refine HC.out.mono ?_
  rintro e w1 ⟨rfl, q1, g1⟩
  have Q := Lib.hid q1
  have G := Lib.hid g1
  clear q1 g1 HC
  go_wp2
  go_ret
  exact ⟨rfl, Q.out, G.out⟩
set_option maxRecDepth 100000 in
set_option maxHeartbeats 4000000 in
theorem parto_c (g : Nat) (s s' : Rs) (t : List UInt8) (x : O5) (kk : Int) (w : World) (D : Nat) (h : RP w D g s) (hD : D ≤ w.heap.size) (e : rText 1000 s = (t, s')) (hg : gO t = (x, kk)) : Calls Try.prog 96 #[.pointer (some ⟨g, 0, none⟩), .func (.func 97) #[] #[]] w (RPost w D g (.tuple #[x.val, .bool (kk == 0)]) s') := by
  have ht : t.length ≤ 1000 := by have := rText_le s; rw [e] at this; exact this
  have hgl := h.lt
  have H := Lib.hid h
  have E := Lib.hid e
  have HG := Lib.hid (fun A c (w : World) (hr : Rd w w.heap.size 1 A t.length (B8 t)) => (by have := getop_w A t.length c t w hr (by omega); unfold GO at this; rw [hg] at this; exact this : Calls Try.prog 97 #[.slice A t.length c] w (PO w x kk)))
  unfold PO O5.val at HG
  unfold RPost O5.val
  clear h e hg
  go_enter Try.func96, Try.ntmps96
  go_wp2_with fail
  refine (rtext_is (H.out.alloc hD _) (by simp; omega) E.out).mono ?_
  rintro e w1 ⟨rfl, q, gg⟩
  have Q1 := Lib.hid q
  have R1 := Lib.hid (only_blk gg (heap_alloc_new w (.cells #[.int .i64 0, .int .i64 0, .int .i64 0, .int .i64 0, .int .i64 0] 28)) (by omega))
  have G1 := Lib.hid (only_trans (only_alloc (World.grownBy.refl w (some g)) _) gg)
  have hz1 : w.heap.size + 1 ≤ w1.heap.size := by have := gg.size; simpa using this
  clear q gg H
  obtain ⟨W, c, hcv, bW, rW, zW⟩ := conv_bytes w1 t
  have Q2 := Lib.hid (Q1.out.below (bW.mono (by omega)))
  have R2 := Lib.hid (blk0 R1.out bW)
  have G2 := Lib.hid (only_below G1.out bW)
  have RW := Lib.hid rW
  have HZW : w1.heap.size < W.heap.size := by omega
  clear bW rW zW Q1 R1 G1
  go_wp2_with fail
  clear hcv
  refine (HG.out _ _ _ RW.out).mono ?_
  rintro e w3 ⟨rfl, b3⟩
  have Q3 := Lib.hid (Q2.out.below (b3.mono (by omega)))
  have R3 := Lib.hid (blk0 R2.out b3)
  have G3 := Lib.hid (only_below G2.out b3)
  have hz3 := b3.size
  clear b3 Q2 R2 G2 RW HG
  obtain ⟨V, hV⟩ : ∃ V, V = w3.alloc (.cells #[.int .i64 x.kind, .int .i64 x.book, .int .i64 x.units, .int .i64 x.cust, .int .i64 x.amount] 28) := ⟨_, rfl⟩
  have Q4 := Lib.hid (show RP V D g s' from hV ▸ Q3.out.alloc (by omega) _)
  have R4 := Lib.hid (show V.heap[w.heap.size]? = some (.cells #[.int .i64 0, .int .i64 0, .int .i64 0, .int .i64 0, .int .i64 0] 28 (0, 0)) from hV ▸ alc R3.out)
  have G4 := Lib.hid (show w.grownBy V (some g) from hV ▸ only_alloc G3.out _)
  have X4 := Lib.hid (show V.heap[w3.heap.size]? = some (.cells #[.int .i64 x.kind, .int .i64 x.book, .int .i64 x.units, .int .i64 x.cust, .int .i64 x.amount] 28 (0, 0)) from hV ▸ heap_alloc_new w3 _)
  clear Q3 R3 G3
  go_upto_region 2 with fail
  rw [← hV]
  clear hV
  go_wp2_with (first | (refine wpl_row (by rfl) 28 _ rfl _ rfl _ _ _ _ X4.out rfl Try.underlying28 (by kernel_rfl) ?_) | (refine wpl_set rfl 28 _ _ rfl w.heap.size #[.int .i64 x.kind, .int .i64 x.book, .int .i64 x.units, .int .i64 x.cust, .int .i64 x.amount] rfl rfl 28 #[.int .i64 0, .int .i64 0, .int .i64 0, .int .i64 0, .int .i64 0] R4.out (by kernel_rfl) rfl (by kernel_rfl) ?_; intro zf hb sb))
  have RF := Lib.hid hb
  have QF := Lib.hid (Q4.out.below (sb.bel (Below.refl _ _) hD))
  have GF := Lib.hid (only_setRow G4.out sb (Nat.le_refl _))
  clear hb sb
  have f0 : zf.cell? ⟨w.heap.size, 0, none⟩ = some (.int .i64 x.kind) := (cellsB (i := 0) RF.out).trans rfl
  have f1 : zf.cell? ⟨w.heap.size, 1, none⟩ = some (.int .i64 x.book) := (cellsB (i := 1) RF.out).trans rfl
  have f2 : zf.cell? ⟨w.heap.size, 2, none⟩ = some (.int .i64 x.units) := (cellsB (i := 2) RF.out).trans rfl
  have f3 : zf.cell? ⟨w.heap.size, 3, none⟩ = some (.int .i64 x.cust) := (cellsB (i := 3) RF.out).trans rfl
  have f4 : zf.cell? ⟨w.heap.size, 4, none⟩ = some (.int .i64 x.amount) := (cellsB (i := 4) RF.out).trans rfl
  go_wp2
  refine bodyPost_ret (v := .tuple #[.agg #[.int .i64 x.kind, .int .i64 x.book, .int .i64 x.units, .int .i64 x.cust, .int .i64 x.amount], .bool (kk == 0)]) (by simp [results, Try.results96, go_sem, f0, f1, f2, f3, f4]) rfl ?_
  exact ⟨rfl, QF.out, GF.out⟩
set_option maxRecDepth 100000 in
set_option maxHeartbeats 4000000 in
theorem partsg_c (g : Nat) (s s' : Rs) (t : List UInt8) (x : S11) (kk : Int) (w : World) (D : Nat) (h : RP w D g s) (hD : D ≤ w.heap.size) (e : rText 1000 s = (t, s')) (hg : gS t = (x, kk)) : Calls Try.prog 98 #[.pointer (some ⟨g, 0, none⟩), .func (.func 41) #[] #[]] w (RPost w D g (.tuple #[x.val, .bool (kk == 0)]) s') := by
  have ht : t.length ≤ 1000 := by have := rText_le s; rw [e] at this; exact this
  have hgl := h.lt
  have H := Lib.hid h
  have E := Lib.hid e
  have HG := Lib.hid (fun A c (w : World) (hr : Rd w w.heap.size 1 A t.length (B8 t)) => (by have := sget_c A t.length c t w hr (by omega); rw [hg] at this; exact this : Calls Try.prog 41 #[.slice A t.length c] w (PS w x kk)))
  unfold PS S11.val at HG
  unfold RPost S11.val
  clear h e hg
  go_enter Try.func98, Try.ntmps98
  go_wp2_with fail
  refine (rtext_is (H.out.alloc hD _) (by simp; omega) E.out).mono ?_
  rintro e w1 ⟨rfl, q, gg⟩
  have Q1 := Lib.hid q
  have R1 := Lib.hid (only_blk gg (heap_alloc_new w (.cells #[.int .i64 0, .int .i64 0, .int .i64 0, .int .i64 0, .int .i64 0, .int .i64 0, .int .i64 0, .int .i64 0, .int .i64 0, .int .i64 0, .int .i64 0] 26)) (by omega))
  have G1 := Lib.hid (only_trans (only_alloc (World.grownBy.refl w (some g)) _) gg)
  have hz1 : w.heap.size + 1 ≤ w1.heap.size := by have := gg.size; simpa using this
  clear q gg H
  obtain ⟨W, c, hcv, bW, rW, zW⟩ := conv_bytes w1 t
  have Q2 := Lib.hid (Q1.out.below (bW.mono (by omega)))
  have R2 := Lib.hid (blk0 R1.out bW)
  have G2 := Lib.hid (only_below G1.out bW)
  have RW := Lib.hid rW
  have HZW : w1.heap.size < W.heap.size := by omega
  clear bW rW zW Q1 R1 G1
  go_wp2_with fail
  clear hcv
  refine (HG.out _ _ _ RW.out).mono ?_
  rintro e w3 ⟨rfl, b3⟩
  have Q3 := Lib.hid (Q2.out.below (b3.mono (by omega)))
  have R3 := Lib.hid (blk0 R2.out b3)
  have G3 := Lib.hid (only_below G2.out b3)
  have hz3 := b3.size
  clear b3 Q2 R2 G2 RW HG
  obtain ⟨V, hV⟩ : ∃ V, V = w3.alloc (.cells #[.int .i64 x.w.b, .int .i64 x.w.c, .int .i64 x.w.d, .int .i64 x.w.m0, .int .i64 x.w.m1, .int .i64 x.w.m2, .int .i64 x.w.p, .int .i64 x.ph, .int .i64 x.st, .int .i64 x.re, .int .i64 x.si] 26) := ⟨_, rfl⟩
  have Q4 := Lib.hid (show RP V D g s' from hV ▸ Q3.out.alloc (by omega) _)
  have R4 := Lib.hid (show V.heap[w.heap.size]? = some (.cells #[.int .i64 0, .int .i64 0, .int .i64 0, .int .i64 0, .int .i64 0, .int .i64 0, .int .i64 0, .int .i64 0, .int .i64 0, .int .i64 0, .int .i64 0] 26 (0, 0)) from hV ▸ alc R3.out)
  have G4 := Lib.hid (show w.grownBy V (some g) from hV ▸ only_alloc G3.out _)
  have X4 := Lib.hid (show V.heap[w3.heap.size]? = some (.cells #[.int .i64 x.w.b, .int .i64 x.w.c, .int .i64 x.w.d, .int .i64 x.w.m0, .int .i64 x.w.m1, .int .i64 x.w.m2, .int .i64 x.w.p, .int .i64 x.ph, .int .i64 x.st, .int .i64 x.re, .int .i64 x.si] 26 (0, 0)) from hV ▸ heap_alloc_new w3 _)
  clear Q3 R3 G3
  go_upto_region 2 with fail
  rw [← hV]
  clear hV
  go_wp2_with (first | (refine wpl_row (by rfl) 26 _ rfl _ rfl _ _ _ _ X4.out rfl Try.underlying26 (by kernel_rfl) ?_) | (refine wpl_set rfl 26 _ _ rfl w.heap.size #[.int .i64 x.w.b, .int .i64 x.w.c, .int .i64 x.w.d, .int .i64 x.w.m0, .int .i64 x.w.m1, .int .i64 x.w.m2, .int .i64 x.w.p, .int .i64 x.ph, .int .i64 x.st, .int .i64 x.re, .int .i64 x.si] rfl rfl 26 #[.int .i64 0, .int .i64 0, .int .i64 0, .int .i64 0, .int .i64 0, .int .i64 0, .int .i64 0, .int .i64 0, .int .i64 0, .int .i64 0, .int .i64 0] R4.out (by kernel_rfl) rfl (by kernel_rfl) ?_; intro zf hb sb))
  have RF := Lib.hid hb
  have QF := Lib.hid (Q4.out.below (sb.bel (Below.refl _ _) hD))
  have GF := Lib.hid (only_setRow G4.out sb (Nat.le_refl _))
  clear hb sb
  have f0 : zf.cell? ⟨w.heap.size, 0, none⟩ = some (.int .i64 x.w.b) := (cellsB (i := 0) RF.out).trans rfl
  have f1 : zf.cell? ⟨w.heap.size, 1, none⟩ = some (.int .i64 x.w.c) := (cellsB (i := 1) RF.out).trans rfl
  have f2 : zf.cell? ⟨w.heap.size, 2, none⟩ = some (.int .i64 x.w.d) := (cellsB (i := 2) RF.out).trans rfl
  have f3 : zf.cell? ⟨w.heap.size, 3, none⟩ = some (.int .i64 x.w.m0) := (cellsB (i := 3) RF.out).trans rfl
  have f4 : zf.cell? ⟨w.heap.size, 4, none⟩ = some (.int .i64 x.w.m1) := (cellsB (i := 4) RF.out).trans rfl
  have f5 : zf.cell? ⟨w.heap.size, 5, none⟩ = some (.int .i64 x.w.m2) := (cellsB (i := 5) RF.out).trans rfl
  have f6 : zf.cell? ⟨w.heap.size, 6, none⟩ = some (.int .i64 x.w.p) := (cellsB (i := 6) RF.out).trans rfl
  have f7 : zf.cell? ⟨w.heap.size, 7, none⟩ = some (.int .i64 x.ph) := (cellsB (i := 7) RF.out).trans rfl
  have f8 : zf.cell? ⟨w.heap.size, 8, none⟩ = some (.int .i64 x.st) := (cellsB (i := 8) RF.out).trans rfl
  have f9 : zf.cell? ⟨w.heap.size, 9, none⟩ = some (.int .i64 x.re) := (cellsB (i := 9) RF.out).trans rfl
  have f10 : zf.cell? ⟨w.heap.size, 10, none⟩ = some (.int .i64 x.si) := (cellsB (i := 10) RF.out).trans rfl
  go_wp2
  refine bodyPost_ret (v := .tuple #[.agg #[.int .i64 x.w.b, .int .i64 x.w.c, .int .i64 x.w.d, .int .i64 x.w.m0, .int .i64 x.w.m1, .int .i64 x.w.m2, .int .i64 x.w.p, .int .i64 x.ph, .int .i64 x.st, .int .i64 x.re, .int .i64 x.si], .bool (kk == 0)]) (by simp [results, Try.results98, go_sem, f0, f1, f2, f3, f4, f5, f6, f7, f8, f9, f10]) rfl ?_
  exact ⟨rfl, QF.out, GF.out⟩
theorem partoV (g : Nat) (s s' : Rs) (t : List UInt8) (x : O5) (kk : Int) (w : World) (D : Nat) (h : RP w D g s) (hD : D ≤ w.heap.size) (e : rText 1000 s = (t, s')) (hg : gO t = (x, kk)) : Calls Try.prog 96 #[.pointer (some ⟨g, 0, none⟩), .func (.func 97) #[] #[]] w fun e w' => e = .returned (.tuple #[.agg #[.int .i64 x.kind, .int .i64 x.book, .int .i64 x.units, .int .i64 x.cust, .int .i64 x.amount], .bool (kk == 0)]) ∧ RP w' D g s' ∧ w.grownBy w' (some g) := parto_c g s s' t x kk w D h hD e hg
theorem partsV (g : Nat) (s s' : Rs) (t : List UInt8) (x : S11) (kk : Int) (w : World) (D : Nat) (h : RP w D g s) (hD : D ≤ w.heap.size) (e : rText 1000 s = (t, s')) (hg : gS t = (x, kk)) : Calls Try.prog 98 #[.pointer (some ⟨g, 0, none⟩), .func (.func 41) #[] #[]] w fun e w' => e = .returned (.tuple #[.agg #[.int .i64 x.w.b, .int .i64 x.w.c, .int .i64 x.w.d, .int .i64 x.w.m0, .int .i64 x.w.m1, .int .i64 x.w.m2, .int .i64 x.w.p, .int .i64 x.ph, .int .i64 x.st, .int .i64 x.re, .int .i64 x.si], .bool (kk == 0)]) ∧ RP w' D g s' ∧ w.grownBy w' (some g) := partsg_c g s s' t x kk w D h hD e hg
end Go.Proofs.Ytplgodfhhlnojaa
