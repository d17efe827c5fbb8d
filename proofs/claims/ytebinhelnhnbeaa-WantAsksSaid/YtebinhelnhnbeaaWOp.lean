/- want.PutOp, walked. -/
import Derived.Test.YtebinhelnhnbeaaWOp0
set_option linter.unusedSimpArgs false
set_option linter.unusedVariables false
namespace Go.Proofs.Ytebinhelnhnbeaa
open Go.RowKit
theorem may_isO (x : O5) (b : Bool) (h : decide (MayO x) = b) (w : World) : Calls Try.prog 42 #[x.val] w fun e w' => e = .returned (.bool b) ∧ Below w.heap.size w w' := h ▸ mayop_c x w
set_option maxRecDepth 100000 in
set_option maxHeartbeats 2000000 in
theorem encO_no (x : O5) (w : World) (h : ¬ MayO x) : Calls Try.prog 41 #[x.val] w fun e w' => e = .returned (.tuple #[.slice none 0 0, .int .i64 1]) ∧ Below w.heap.size w w' := by
  have HM := Lib.hid (may_isO x false (decide_eq_false h))
  clear h
  unfold O5.val at *
  go_enter Try.func41, Try.ntmps41
  go_wp2_with (go_at_call 42; refine (HM.out _).mono ?_; rintro e w1 ⟨rfl, b1⟩; have B1 := Lib.hid (show Below w.heap.size w w1 from ((Below.refl _ _).alloc (Nat.le_refl _) _).trans (b1.mono (by simp))); clear b1)
  go_ret2
  exact ⟨rfl, B1.out⟩
set_option maxRecDepth 100000 in
set_option maxHeartbeats 2000000 in
theorem encO_yes (x : O5) (w : World) (h : MayO x) (hf : ∀ z ∈ O5.list x, In64 z) : Calls Try.prog 41 #[x.val] w (RBy w (encO x) 0) := by
  have HM := Lib.hid (may_isO x true (decide_eq_true h))
  have HF := Lib.hid hf
  clear h hf
  unfold O5.val at *
  go_enter Try.func41, Try.ntmps41
  go_wp2_with fail
  refine (HM.out _).mono ?_
  rintro e w1 ⟨rfl, b1⟩
  have hb := (b1.block w.heap.size (by simp)).trans (heap_alloc_new w (.cells #[.int .i64 x.kind, .int .i64 x.book, .int .i64 x.units, .int .i64 x.cust, .int .i64 x.amount] 65))
  have c0 : w1.cell? ⟨w.heap.size, 0, none⟩ = some (.int .i64 x.kind) := by rw [cellsW hb]; rfl
  have c1 : w1.cell? ⟨w.heap.size, 1, none⟩ = some (.int .i64 x.book) := by rw [cellsW hb]; rfl
  have c2 : w1.cell? ⟨w.heap.size, 2, none⟩ = some (.int .i64 x.units) := by rw [cellsW hb]; rfl
  have c3 : w1.cell? ⟨w.heap.size, 3, none⟩ = some (.int .i64 x.cust) := by rw [cellsW hb]; rfl
  have c4 : w1.cell? ⟨w.heap.size, 4, none⟩ = some (.int .i64 x.amount) := by rw [cellsW hb]; rfl
  have hz1 : w.heap.size + 1 ≤ w1.heap.size := by have := b1.size; simpa using this
  have hlt1 : w.heap.size < w1.heap.size := by omega
  have hne1 : ¬ w.heap.size = w1.heap.size := by omega
  have B1 := Lib.hid (show Below w.heap.size w w1 from ((Below.refl _ _).alloc (Nat.le_refl _) _).trans (b1.mono (by simp)))
  have HW := Lib.hid ((WB.new w1 w1.heap.size (Nat.le_refl _)).below ((Below.refl _ _).alloc (Nat.le_refl _) (.cells #[.int .i64 x.kind, .int .i64 x.book, .int .i64 x.units, .int .i64 x.cust] 3)) (Nat.le_refl _))
  have HQ := Lib.hid (show ((w1.alloc (.cells #[.slice none 0 0] 26)).alloc (.cells #[.int .i64 x.kind, .int .i64 x.book, .int .i64 x.units, .int .i64 x.cust] 3)).heap[w1.heap.size + 1]? = some (.cells (NW8 [x.kind, x.book, x.units, x.cust]) 3 (0, 0)) from by have := heap_alloc_new (w1.alloc (.cells #[.slice none 0 0] 26)) (.cells #[.int .i64 x.kind, .int .i64 x.book, .int .i64 x.units, .int .i64 x.cust] 3); simpa [NW8] using this)
  have hlast := c4
  clear b1 hb
  go_wp2_with fail
  refine (put_int_c w1.heap.size (w1.heap.size + 1) 4 4 [x.kind, x.book, x.units, x.cust] [] w1.heap.size _ (0, 0) HW.out HQ.out (fun z hz => HF.out z (by simp [O5.list] at hz ⊢; omega)) rfl (by omega) (by simp)).mono ?_
  rintro e w2 ⟨rfl, q2, b2, k2⟩
  have hz2 := b2.size
  have d4 := (b2.cell (p := ⟨w.heap.size, 4, none⟩) (show w.heap.size < w1.heap.size by omega)).trans (show ((w1.alloc (.cells #[.slice none 0 0] 26)).alloc (.cells #[.int .i64 x.kind, .int .i64 x.book, .int .i64 x.units, .int .i64 x.cust] 3)).cell? ⟨w.heap.size, 4, none⟩ = some (.int .i64 x.amount) from by rw [World.cell?_alloc_lt _ _ _ (by simp; omega), World.cell?_alloc_lt _ _ _ (by omega)]; exact hlast)
  have B2 := Lib.hid (show Below w1.heap.size w1 w2 from (((Below.refl _ _).alloc (Nat.le_refl _) _).alloc (by simp) _).trans b2)
  have Q2 := Lib.hid (q2.below ((Below.refl _ _).alloc (Nat.le_refl _) (.cells #[.int .i64 x.amount] 2)) (Nat.le_refl _))
  have HQ2 := Lib.hid (show (w2.alloc (.cells #[.int .i64 x.amount] 2)).heap[w2.heap.size]? = some (.cells (NW8 [x.amount]) 2 (0, 0)) from heap_alloc_new w2 _)
  clear q2 b2 k2 c0 c1 c2 c3 c4 hlast
  go_wp2_with fail
  refine (put_int64_c w1.heap.size w2.heap.size 1 1 [x.amount] _ w1.heap.size _ (0, 0) Q2.out HQ2.out (fun z hz => HF.out z (by simp [O5.list] at hz ⊢; omega)) rfl (by omega) (by have := encs_le [x.kind, x.book, x.units, x.cust]; simp at this ⊢; omega)).mono ?_
  rintro e w3 ⟨rfl, q3, b3, k3⟩
  have Q3 := Lib.hid q3
  have B3 := Lib.hid (show Below w1.heap.size w1 w3 from (B2.out.alloc B2.out.size _).trans b3)
  clear q3 b3 k3 d4
  have hlen : (([] : List UInt8) ++ encs [x.kind, x.book, x.units, x.cust] ++ encs [x.amount]).length ≤ 1000 := by
    have h1 := encs_le [x.kind, x.book, x.units, x.cust]
    have h2 := encs_le [x.amount]
    simp only [List.length_append, List.length_cons, List.length_nil] at *
    omega
  have HLN := Lib.hid hlen
  clear hlen
  go_wp2_with fail
  refine (wbytes_c _ _ _ _ Q3.out (by have := HLN.out; omega)).mono ?_
  rintro e w4 ⟨v4, rfl, q4, b4⟩
  have hz3 := B3.out.size
  have Q4 := Lib.hid q4
  have B4 := Lib.hid (B1.out.trans ((B3.out.trans (b4.mono hz3)).mono (by omega)))
  clear q4 b4
  go_wp2
  go_ret2
  refine ⟨v4, rfl, ?_, B4.out⟩
  have := Q4.out.mono (base' := w.heap.size) (by omega)
  rw [List.nil_append, ← encs_app] at this
  exact this
end Go.Proofs.Ytebinhelnhnbeaa
