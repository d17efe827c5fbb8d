/- sojournref1.Raw and PutOp, walked. -/
import Derived.Test.YtebinhelnhnbeaaRefR3
import Derived.Test.YtebinhelnhnbeaaWPure
set_option linter.unusedSimpArgs false
set_option linter.unusedVariables false
namespace Go.Proofs.Ytebinhelnhnbeaa
open Go.RowKit
theorem refint_in (v : Int) (L : List UInt8) (h : enc v = L) (hv : In64 v) (w : World) : Calls Try.prog 19 #[.int .i64 v] w fun e w' => e = .returned (.string ⟨L.toArray⟩) ∧ Below w.heap.size w w' := by
  have := refint_c v w hv.1 hv.2
  rw [h] at this
  exact this
set_option maxRecDepth 100000 in
set_option maxHeartbeats 4000000 in
theorem refputop_c (x : O5) (w : World) (hf : ∀ z ∈ x.list, In64 z) : Calls Try.prog 44 #[x.val] w fun e w' => e = .returned (.string ⟨(encO x).toArray⟩) ∧ Below w.heap.size w w' := by
  obtain ⟨L0, e0⟩ : ∃ L, enc x.kind = L := ⟨_, rfl⟩
  have l0 : L0.length ≤ 10 := by rw [← e0]; exact enc_le _
  have C0 := fun W => Lib.hid (refint_in x.kind L0 e0 (hf x.kind (by simp [O5.list])) W)
  obtain ⟨L1, e1⟩ : ∃ L, enc x.book = L := ⟨_, rfl⟩
  have l1 : L1.length ≤ 10 := by rw [← e1]; exact enc_le _
  have C1 := fun W => Lib.hid (refint_in x.book L1 e1 (hf x.book (by simp [O5.list])) W)
  obtain ⟨L2, e2⟩ : ∃ L, enc x.units = L := ⟨_, rfl⟩
  have l2 : L2.length ≤ 10 := by rw [← e2]; exact enc_le _
  have C2 := fun W => Lib.hid (refint_in x.units L2 e2 (hf x.units (by simp [O5.list])) W)
  obtain ⟨L3, e3⟩ : ∃ L, enc x.cust = L := ⟨_, rfl⟩
  have l3 : L3.length ≤ 10 := by rw [← e3]; exact enc_le _
  have C3 := fun W => Lib.hid (refint_in x.cust L3 e3 (hf x.cust (by simp [O5.list])) W)
  obtain ⟨L4, e4⟩ : ∃ L, enc x.amount = L := ⟨_, rfl⟩
  have l4 : L4.length ≤ 10 := by rw [← e4]; exact enc_le _
  have C4 := fun W => Lib.hid (refint_in x.amount L4 e4 (hf x.amount (by simp [O5.list])) W)
  have HE := Lib.hid (show encO x = L0 ++ (L1 ++ (L2 ++ (L3 ++ L4))) by rw [← e0, ← e1, ← e2, ← e3, ← e4]; have := encO_split x []; simpa using this)
  obtain ⟨LL, hLL⟩ : ∃ LL, encO x = LL := ⟨_, rfl⟩
  rw [hLL] at HE ⊢
  clear hLL e0 e1 e2 e3 e4 hf
  unfold O5.val
  have W0 : ∀ s : BW (w.heap.size + 1) (w.alloc (.cells #[.int .i64 x.kind, .int .i64 x.book, .int .i64 x.units, .int .i64 x.cust, .int .i64 x.amount] 65)), s.val.heap[w.heap.size]? = some (.cells #[.int .i64 x.kind, .int .i64 x.book, .int .i64 x.units, .int .i64 x.cust, .int .i64 x.amount] 65 (0, 0)) := fun s => (s.h.block w.heap.size (by omega)).trans (heap_alloc_new w _)
  have q0 : ∀ s : BW (w.heap.size + 1) (w.alloc (.cells #[.int .i64 x.kind, .int .i64 x.book, .int .i64 x.units, .int .i64 x.cust, .int .i64 x.amount] 65)), s.val.cell? ⟨w.heap.size, 0, none⟩ = some (.int .i64 x.kind) := fun s => by rw [cellsW (W0 s)]; rfl
  have q1 : ∀ s : BW (w.heap.size + 1) (w.alloc (.cells #[.int .i64 x.kind, .int .i64 x.book, .int .i64 x.units, .int .i64 x.cust, .int .i64 x.amount] 65)), s.val.cell? ⟨w.heap.size, 1, none⟩ = some (.int .i64 x.book) := fun s => by rw [cellsW (W0 s)]; rfl
  have q2 : ∀ s : BW (w.heap.size + 1) (w.alloc (.cells #[.int .i64 x.kind, .int .i64 x.book, .int .i64 x.units, .int .i64 x.cust, .int .i64 x.amount] 65)), s.val.cell? ⟨w.heap.size, 2, none⟩ = some (.int .i64 x.units) := fun s => by rw [cellsW (W0 s)]; rfl
  have q3 : ∀ s : BW (w.heap.size + 1) (w.alloc (.cells #[.int .i64 x.kind, .int .i64 x.book, .int .i64 x.units, .int .i64 x.cust, .int .i64 x.amount] 65)), s.val.cell? ⟨w.heap.size, 3, none⟩ = some (.int .i64 x.cust) := fun s => by rw [cellsW (W0 s)]; rfl
  have q4 : ∀ s : BW (w.heap.size + 1) (w.alloc (.cells #[.int .i64 x.kind, .int .i64 x.book, .int .i64 x.units, .int .i64 x.cust, .int .i64 x.amount] 65)), s.val.cell? ⟨w.heap.size, 4, none⟩ = some (.int .i64 x.amount) := fun s => by rw [cellsW (W0 s)]; rfl
  clear W0
  go_enter Try.func44, Try.ntmps44
  go_wp2_with fail
  refine wp_region_below (w.heap.size + 1) (by kernel_rfl) (by kernel_rfl) ?_
  repeat (first | go_big_quiet_step ((first | (go_at_call 19; (with_reducible exact BW.call (by simp) (C0 _).out)) | (go_at_call 19; (with_reducible exact BW.call (by simp) (C1 _).out)) | (go_at_call 19; (with_reducible exact BW.call (by simp) (C2 _).out)) | (go_at_call 19; (with_reducible exact BW.call (by simp) (C3 _).out)) | (go_at_call 19; (with_reducible exact BW.call (by simp) (C4 _).out)))) | quiet_step ((first | (go_at_call 19; (with_reducible exact BW.call (by simp) (C0 _).out)) | (go_at_call 19; (with_reducible exact BW.call (by simp) (C1 _).out)) | (go_at_call 19; (with_reducible exact BW.call (by simp) (C2 _).out)) | (go_at_call 19; (with_reducible exact BW.call (by simp) (C3 _).out)) | (go_at_call 19; (with_reducible exact BW.call (by simp) (C4 _).out)))))
  refine wpQuiet_nil ?_
  intro _ hw'
  obtain ⟨sb, hw''⟩ := hw'
  subst hw''
  clear q0 q1 q2 q3 q4
  go_wp2
  go_ret
  refine ⟨ret_str (a := _) (b := ⟨LL.toArray⟩) ?_, ((Below.refl _ _).alloc (Nat.le_refl _) _).trans (sb.h.mono (by omega))⟩
  apply Go.WideShapes.bytes_inj
  rw [HE.out]
  simp
/-- How far Raw has come. -/
def RawS (w wr : World) (x : W7) (S : ByteArray) (k : Nat) : Prop := S.data.toList = encs (x.list.take (3 + k)) ∧ Below (w.heap.size + 1) (w.alloc (.cells #[.int .i64 x.b, .int .i64 x.c, .int .i64 x.d, .int .i64 x.m0, .int .i64 x.m1, .int .i64 x.m2, .int .i64 x.p] 57)) wr
theorem RawS.len {w wr : World} {x : W7} {S : ByteArray} {k : Nat} (h : RawS w wr x S k) : S.size ≤ 70 := by
  have h1 := encs_le (x.list.take (3 + k))
  have h2 : S.size = (encs (x.list.take (3 + k))).length := by rw [← h.1]; simp
  have h3 : (x.list.take (3 + k)).length ≤ 7 := by rw [List.length_take]; simp [W7.list]; omega
  omega
theorem RawS.next {w wr w2 : World} {x : W7} {S : ByteArray} {k : Nat} {z : Int} {L : List UInt8} (h : RawS w wr x S k) (hz : x.list[3 + k]? = some z) (hL : enc z = L) (hb : Below wr.heap.size wr w2) : RawS w w2 x (S ++ ⟨L.toArray⟩) (k + 1) := by
  refine ⟨?_, h.2.trans (hb.mono (by have := h.2.size; simpa using this))⟩
  rw [show 3 + (k + 1) = 3 + k + 1 from rfl, encs_snoc _ _ z hz, ← h.1, ← hL]
  simp
set_option maxRecDepth 100000 in
set_option maxHeartbeats 4000000 in
theorem refraw_c (x : W7) (w : World) (hf : ∀ z ∈ x.list, In64 z) : Calls Try.prog 43 #[x.val] w fun e w' => e = .returned (.string ⟨(encW x).toArray⟩) ∧ Below w.heap.size w w' := by
  obtain ⟨L0, e0⟩ : ∃ L, enc x.b = L := ⟨_, rfl⟩
  have l0 : L0.length ≤ 10 := by rw [← e0]; exact enc_le _
  have C0 := fun W => Lib.hid (refint_in x.b L0 e0 (hf x.b (by simp [W7.list])) W)
  obtain ⟨L1, e1⟩ : ∃ L, enc x.c = L := ⟨_, rfl⟩
  have l1 : L1.length ≤ 10 := by rw [← e1]; exact enc_le _
  have C1 := fun W => Lib.hid (refint_in x.c L1 e1 (hf x.c (by simp [W7.list])) W)
  obtain ⟨L2, e2⟩ : ∃ L, enc x.d = L := ⟨_, rfl⟩
  have l2 : L2.length ≤ 10 := by rw [← e2]; exact enc_le _
  have C2 := fun W => Lib.hid (refint_in x.d L2 e2 (hf x.d (by simp [W7.list])) W)
  obtain ⟨L3, e3⟩ : ∃ L, enc x.m0 = L := ⟨_, rfl⟩
  have l3 : L3.length ≤ 10 := by rw [← e3]; exact enc_le _
  have C3 := fun W => Lib.hid (refint_in x.m0 L3 e3 (hf x.m0 (by simp [W7.list])) W)
  obtain ⟨L4, e4⟩ : ∃ L, enc x.m1 = L := ⟨_, rfl⟩
  have l4 : L4.length ≤ 10 := by rw [← e4]; exact enc_le _
  have C4 := fun W => Lib.hid (refint_in x.m1 L4 e4 (hf x.m1 (by simp [W7.list])) W)
  obtain ⟨L5, e5⟩ : ∃ L, enc x.m2 = L := ⟨_, rfl⟩
  have l5 : L5.length ≤ 10 := by rw [← e5]; exact enc_le _
  have C5 := fun W => Lib.hid (refint_in x.m2 L5 e5 (hf x.m2 (by simp [W7.list])) W)
  obtain ⟨L6, e6⟩ : ∃ L, enc x.p = L := ⟨_, rfl⟩
  have l6 : L6.length ≤ 10 := by rw [← e6]; exact enc_le _
  have C6 := fun W => Lib.hid (refint_in x.p L6 e6 (hf x.p (by simp [W7.list])) W)
  have E3 := Lib.hid e3
  have E4 := Lib.hid e4
  have E5 := Lib.hid e5
  have E6 := Lib.hid e6
  have HE := Lib.hid (show encs (x.list.take 3) = L0 ++ (L1 ++ L2) by rw [← e0, ← e1, ← e2]; simp [W7.list, encs])
  obtain ⟨LL, hLL⟩ : ∃ LL, encW x = LL := ⟨_, rfl⟩
  have HLL := Lib.hid hLL
  rw [hLL]
  clear hLL e0 e1 e2 e3 e4 e5 e6 hf
  unfold W7.val
  have W0 : ∀ s : BW (w.heap.size + 1) (w.alloc (.cells #[.int .i64 x.b, .int .i64 x.c, .int .i64 x.d, .int .i64 x.m0, .int .i64 x.m1, .int .i64 x.m2, .int .i64 x.p] 57)), s.val.heap[w.heap.size]? = some (.cells #[.int .i64 x.b, .int .i64 x.c, .int .i64 x.d, .int .i64 x.m0, .int .i64 x.m1, .int .i64 x.m2, .int .i64 x.p] 57 (0, 0)) := fun s => (s.h.block w.heap.size (by omega)).trans (heap_alloc_new w _)
  have q0 : ∀ s : BW (w.heap.size + 1) (w.alloc (.cells #[.int .i64 x.b, .int .i64 x.c, .int .i64 x.d, .int .i64 x.m0, .int .i64 x.m1, .int .i64 x.m2, .int .i64 x.p] 57)), s.val.cell? ⟨w.heap.size, 0, none⟩ = some (.int .i64 x.b) := fun s => by rw [cellsW (W0 s)]; rfl
  have q1 : ∀ s : BW (w.heap.size + 1) (w.alloc (.cells #[.int .i64 x.b, .int .i64 x.c, .int .i64 x.d, .int .i64 x.m0, .int .i64 x.m1, .int .i64 x.m2, .int .i64 x.p] 57)), s.val.cell? ⟨w.heap.size, 1, none⟩ = some (.int .i64 x.c) := fun s => by rw [cellsW (W0 s)]; rfl
  have q2 : ∀ s : BW (w.heap.size + 1) (w.alloc (.cells #[.int .i64 x.b, .int .i64 x.c, .int .i64 x.d, .int .i64 x.m0, .int .i64 x.m1, .int .i64 x.m2, .int .i64 x.p] 57)), s.val.cell? ⟨w.heap.size, 2, none⟩ = some (.int .i64 x.d) := fun s => by rw [cellsW (W0 s)]; rfl
  clear W0
  go_enter Try.func43, Try.ntmps43
  go_wp2_with fail
  refine wp_region_below (w.heap.size + 1) (by kernel_rfl) (by kernel_rfl) ?_
  repeat (first | go_big_quiet_step ((first | (go_at_call 19; (with_reducible exact BW.call (by simp) (C0 _).out)) | (go_at_call 19; (with_reducible exact BW.call (by simp) (C1 _).out)) | (go_at_call 19; (with_reducible exact BW.call (by simp) (C2 _).out)))) | quiet_step ((first | (go_at_call 19; (with_reducible exact BW.call (by simp) (C0 _).out)) | (go_at_call 19; (with_reducible exact BW.call (by simp) (C1 _).out)) | (go_at_call 19; (with_reducible exact BW.call (by simp) (C2 _).out)))))
  refine wpQuiet_nil ?_
  intro _ hw'
  obtain ⟨sb, hw''⟩ := hw'
  subst hw''
  clear q0 q1 q2
  have HST := Lib.hid (show RawS w sb.val x (⟨L0.toArray⟩ ++ ⟨L1.toArray⟩ ++ ⟨L2.toArray⟩) 0 from ⟨by rw [HE.out]; simp, sb.h⟩)
  go_wp2
  go_loopw [3, 4] (fun s i wr => ∃ (k : Nat) (S : ByteArray), k ≤ 3 ∧ i = .int .i64 k ∧ s = .string S ∧ Hid (RawS w wr x S k)) (fun _ i _ => 3 - (intOf i).toNat)
  case atStart => exact ⟨0, _, by omega, rfl, rfl, HST.out⟩
  case round =>
    clear HST
    obtain ⟨k, S, hk, rfl, rfl, HS⟩ := hrel
    have hsl := HS.out.len
    have hblk := (HS.out.2.block w.heap.size (by omega)).trans (heap_alloc_new w _)
    have hk4 : k = 0 ∨ k = 1 ∨ k = 2 ∨ k = 3 := by omega
    rcases hk4 with rfl | rfl | rfl | rfl
    · have c : wr.cell? ⟨w.heap.size, 3, none⟩ = some (.int .i64 x.m0) := by rw [cellsW hblk]; rfl
      clear hblk
      go_wp2_with fail
      refine (C3 _).out.mono ?_
      rintro e w2 ⟨rfl, b2⟩
      have NX := Lib.hid (HS.out.next (z := x.m0) rfl E3.out b2)
      clear b2
      go_wp2
      go_roundw
      case rel => exact ⟨1, _, by omega, rfl, rfl, NX.out⟩
      case measure => simp [intOf]
    · have c : wr.cell? ⟨w.heap.size, 4, none⟩ = some (.int .i64 x.m1) := by rw [cellsW hblk]; rfl
      clear hblk
      go_wp2_with fail
      refine (C4 _).out.mono ?_
      rintro e w2 ⟨rfl, b2⟩
      have NX := Lib.hid (HS.out.next (z := x.m1) rfl E4.out b2)
      clear b2
      go_wp2
      go_roundw
      case rel => exact ⟨2, _, by omega, rfl, rfl, NX.out⟩
      case measure => simp [intOf]
    · have c : wr.cell? ⟨w.heap.size, 5, none⟩ = some (.int .i64 x.m2) := by rw [cellsW hblk]; rfl
      clear hblk
      go_wp2_with fail
      refine (C5 _).out.mono ?_
      rintro e w2 ⟨rfl, b2⟩
      have NX := Lib.hid (HS.out.next (z := x.m2) rfl E5.out b2)
      clear b2
      go_wp2
      go_roundw
      case rel => exact ⟨3, _, by omega, rfl, rfl, NX.out⟩
      case measure => simp [intOf]
    · have c : wr.cell? ⟨w.heap.size, 6, none⟩ = some (.int .i64 x.p) := by rw [cellsW hblk]; rfl
      clear hblk
      go_wp2_with fail
      refine (C6 _).out.mono ?_
      rintro e w2 ⟨rfl, b2⟩
      have NX := Lib.hid (HS.out.next (z := x.p) rfl E6.out b2)
      clear b2
      go_wp2
      go_ret
      refine ⟨ret_str (a := _) (b := ⟨LL.toArray⟩) ?_, ((Below.refl _ _).alloc (Nat.le_refl _) _).trans (NX.out.2.mono (by omega))⟩
      apply Go.WideShapes.bytes_inj
      rw [NX.out.1, ← HLL.out]
      rfl
end Go.Proofs.Ytebinhelnhnbeaa
