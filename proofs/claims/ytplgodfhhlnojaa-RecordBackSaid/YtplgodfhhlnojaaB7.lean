/- WRefP, WRefG, merged. -/
import Derived.Test.YtplgodfhhlnojaaB6
import Derived.Test.YtplgodfhhlnojaaB5
set_option linter.unusedSimpArgs false
set_option linter.unusedVariables false
/- sojournref1.Raw and PutOp, walked. -/
namespace Go.Proofs.Ytplgodfhhlnojaa
open Go.RowKit
theorem refint_in (v : Int) (L : List UInt8) (h : enc v = L) (hv : In64 v) (w : World) : Calls Try.prog 76 #[.int .i64 v] w fun e w' => e = .returned (.string ⟨L.toArray⟩) ∧ Below w.heap.size w w' := by
  have := refint_c v w hv.1 hv.2
  rw [h] at this
  exact this
set_option maxRecDepth 100000 in
set_option maxHeartbeats 4000000 in
theorem refputop_c (x : O5) (w : World) (hf : ∀ z ∈ x.list, In64 z) : Calls Try.prog 94 #[x.val] w fun e w' => e = .returned (.string ⟨(encO x).toArray⟩) ∧ Below w.heap.size w w' := by
  obtain ⟨L0, e0⟩ : ∃ L, enc x.kind = L := ⟨_, rfl⟩
  have l0 : L0.length ≤ 10 := by rw [← e0]; exact enc_le _
  have C0 := fun W => Lib.hid (refint_in x.kind L0 e0 (hf x.kind (by simp [O5.list])) W)
  obtain ⟨L1, e1⟩ : ∃ L, enc x.book = L := ⟨_, rfl⟩
  have l1 : L1.length ≤ 10 := by rw [← e1]; exact enc_le _
  have C1 := fun W => Lib.hid (refint_in x.book L1 e1 (hf x.book (by simp [O5.list])) W)
  obtain ⟨L2, e2⟩ : ∃ L, enc x.units = L := ⟨_, rfl⟩
  have l2 : L2.length ≤ 10 := by rw [← e2]; exact enc_le _
  have C2 := fun W => Lib.hid (refint_in x.units L2 e2 (hf x.units (by simp [O5.list])) W)
  obtain ⟨L3, e3⟩ : ∃ L, enc x.cust = L := ⟨_, rfl⟩
  have l3 : L3.length ≤ 10 := by rw [← e3]; exact enc_le _
  have C3 := fun W => Lib.hid (refint_in x.cust L3 e3 (hf x.cust (by simp [O5.list])) W)
  obtain ⟨L4, e4⟩ : ∃ L, enc x.amount = L := ⟨_, rfl⟩
  have l4 : L4.length ≤ 10 := by rw [← e4]; exact enc_le _
  have C4 := fun W => Lib.hid (refint_in x.amount L4 e4 (hf x.amount (by simp [O5.list])) W)
  have HE := Lib.hid (show encO x = L0 ++ (L1 ++ (L2 ++ (L3 ++ L4))) by rw [← e0, ← e1, ← e2, ← e3, ← e4]; have := encO_split x []; simpa using this)
  obtain ⟨LL, hLL⟩ : ∃ LL, encO x = LL := ⟨_, rfl⟩
  rw [hLL] at HE ⊢
  clear hLL e0 e1 e2 e3 e4 hf
  unfold O5.val
  have W0 : ∀ s : BW (w.heap.size + 1) (w.alloc (.cells #[.int .i64 x.kind, .int .i64 x.book, .int .i64 x.units, .int .i64 x.cust, .int .i64 x.amount] 28)), s.val.heap[w.heap.size]? = some (.cells #[.int .i64 x.kind, .int .i64 x.book, .int .i64 x.units, .int .i64 x.cust, .int .i64 x.amount] 28 (0, 0)) := fun s => (s.h.block w.heap.size (by omega)).trans (heap_alloc_new w _)
  have q0 : ∀ s : BW (w.heap.size + 1) (w.alloc (.cells #[.int .i64 x.kind, .int .i64 x.book, .int .i64 x.units, .int .i64 x.cust, .int .i64 x.amount] 28)), s.val.cell? ⟨w.heap.size, 0, none⟩ = some (.int .i64 x.kind) := fun s => by rw [cellsW (W0 s)]; rfl
  have q1 : ∀ s : BW (w.heap.size + 1) (w.alloc (.cells #[.int .i64 x.kind, .int .i64 x.book, .int .i64 x.units, .int .i64 x.cust, .int .i64 x.amount] 28)), s.val.cell? ⟨w.heap.size, 1, none⟩ = some (.int .i64 x.book) := fun s => by rw [cellsW (W0 s)]; rfl
  have q2 : ∀ s : BW (w.heap.size + 1) (w.alloc (.cells #[.int .i64 x.kind, .int .i64 x.book, .int .i64 x.units, .int .i64 x.cust, .int .i64 x.amount] 28)), s.val.cell? ⟨w.heap.size, 2, none⟩ = some (.int .i64 x.units) := fun s => by rw [cellsW (W0 s)]; rfl
  have q3 : ∀ s : BW (w.heap.size + 1) (w.alloc (.cells #[.int .i64 x.kind, .int .i64 x.book, .int .i64 x.units, .int .i64 x.cust, .int .i64 x.amount] 28)), s.val.cell? ⟨w.heap.size, 3, none⟩ = some (.int .i64 x.cust) := fun s => by rw [cellsW (W0 s)]; rfl
  have q4 : ∀ s : BW (w.heap.size + 1) (w.alloc (.cells #[.int .i64 x.kind, .int .i64 x.book, .int .i64 x.units, .int .i64 x.cust, .int .i64 x.amount] 28)), s.val.cell? ⟨w.heap.size, 4, none⟩ = some (.int .i64 x.amount) := fun s => by rw [cellsW (W0 s)]; rfl
  clear W0
  go_enter Try.func94, Try.ntmps94
  go_wp2_with fail
  refine wp_region_below (w.heap.size + 1) (by kernel_rfl) (by kernel_rfl) ?_
  repeat (first | go_big_quiet_step ((first | (go_at_call 76; (with_reducible exact BW.call (by simp) (C0 _).out)) | (go_at_call 76; (with_reducible exact BW.call (by simp) (C1 _).out)) | (go_at_call 76; (with_reducible exact BW.call (by simp) (C2 _).out)) | (go_at_call 76; (with_reducible exact BW.call (by simp) (C3 _).out)) | (go_at_call 76; (with_reducible exact BW.call (by simp) (C4 _).out)))) | quiet_step ((first | (go_at_call 76; (with_reducible exact BW.call (by simp) (C0 _).out)) | (go_at_call 76; (with_reducible exact BW.call (by simp) (C1 _).out)) | (go_at_call 76; (with_reducible exact BW.call (by simp) (C2 _).out)) | (go_at_call 76; (with_reducible exact BW.call (by simp) (C3 _).out)) | (go_at_call 76; (with_reducible exact BW.call (by simp) (C4 _).out)))))
  refine wpQuiet_nil ?_
  intro _ hw'
  obtain ⟨sb, hw''⟩ := hw'
  subst hw''
  clear q0 q1 q2 q3 q4
  go_wp2
  go_ret
  refine ⟨ret_str (a := _) (b := ⟨LL.toArray⟩) ?_, ((Below.refl _ _).alloc (Nat.le_refl _) _).trans (sb.h.mono (by omega))⟩
  apply Go.WideShapes.bytes_inj
  rw [HE.out]
  simp
/-- How far Raw has come. -/
def RawS (w wr : World) (x : W7) (S : ByteArray) (k : Nat) : Prop := S.data.toList = encs (x.list.take (3 + k)) ∧ Below (w.heap.size + 1) (w.alloc (.cells #[.int .i64 x.b, .int .i64 x.c, .int .i64 x.d, .int .i64 x.m0, .int .i64 x.m1, .int .i64 x.m2, .int .i64 x.p] 24)) wr
theorem RawS.len {w wr : World} {x : W7} {S : ByteArray} {k : Nat} (h : RawS w wr x S k) : S.size ≤ 70 := by
  have h1 := encs_le (x.list.take (3 + k))
  have h2 : S.size = (encs (x.list.take (3 + k))).length := by rw [← h.1]; simp
  have h3 : (x.list.take (3 + k)).length ≤ 7 := by rw [List.length_take]; simp [W7.list]; omega
  omega
theorem RawS.next {w wr w2 : World} {x : W7} {S : ByteArray} {k : Nat} {z : Int} {L : List UInt8} (h : RawS w wr x S k) (hz : x.list[3 + k]? = some z) (hL : enc z = L) (hb : Below wr.heap.size wr w2) : RawS w w2 x (S ++ ⟨L.toArray⟩) (k + 1) := by
  refine ⟨?_, h.2.trans (hb.mono (by have := h.2.size; simpa using this))⟩
  rw [show 3 + (k + 1) = 3 + k + 1 from rfl, encs_snoc _ _ z hz, ← h.1, ← hL]
  simp
set_option maxRecDepth 100000 in
set_option maxHeartbeats 4000000 in
theorem refraw_c (x : W7) (w : World) (hf : ∀ z ∈ x.list, In64 z) : Calls Try.prog 75 #[x.val] w fun e w' => e = .returned (.string ⟨(encW x).toArray⟩) ∧ Below w.heap.size w w' := by
  obtain ⟨L0, e0⟩ : ∃ L, enc x.b = L := ⟨_, rfl⟩
  have l0 : L0.length ≤ 10 := by rw [← e0]; exact enc_le _
  have C0 := fun W => Lib.hid (refint_in x.b L0 e0 (hf x.b (by simp [W7.list])) W)
  obtain ⟨L1, e1⟩ : ∃ L, enc x.c = L := ⟨_, rfl⟩
  have l1 : L1.length ≤ 10 := by rw [← e1]; exact enc_le _
  have C1 := fun W => Lib.hid (refint_in x.c L1 e1 (hf x.c (by simp [W7.list])) W)
  obtain ⟨L2, e2⟩ : ∃ L, enc x.d = L := ⟨_, rfl⟩
  have l2 : L2.length ≤ 10 := by rw [← e2]; exact enc_le _
  have C2 := fun W => Lib.hid (refint_in x.d L2 e2 (hf x.d (by simp [W7.list])) W)
  obtain ⟨L3, e3⟩ : ∃ L, enc x.m0 = L := ⟨_, rfl⟩
  have l3 : L3.length ≤ 10 := by rw [← e3]; exact enc_le _
  have C3 := fun W => Lib.hid (refint_in x.m0 L3 e3 (hf x.m0 (by simp [W7.list])) W)
  obtain ⟨L4, e4⟩ : ∃ L, enc x.m1 = L := ⟨_, rfl⟩
  have l4 : L4.length ≤ 10 := by rw [← e4]; exact enc_le _
  have C4 := fun W => Lib.hid (refint_in x.m1 L4 e4 (hf x.m1 (by simp [W7.list])) W)
  obtain ⟨L5, e5⟩ : ∃ L, enc x.m2 = L := ⟨_, rfl⟩
  have l5 : L5.length ≤ 10 := by rw [← e5]; exact enc_le _
  have C5 := fun W => Lib.hid (refint_in x.m2 L5 e5 (hf x.m2 (by simp [W7.list])) W)
  obtain ⟨L6, e6⟩ : ∃ L, enc x.p = L := ⟨_, rfl⟩
  have l6 : L6.length ≤ 10 := by rw [← e6]; exact enc_le _
  have C6 := fun W => Lib.hid (refint_in x.p L6 e6 (hf x.p (by simp [W7.list])) W)
  have E3 := Lib.hid e3
  have E4 := Lib.hid e4
  have E5 := Lib.hid e5
  have E6 := Lib.hid e6
  have HE := Lib.hid (show encs (x.list.take 3) = L0 ++ (L1 ++ L2) by rw [← e0, ← e1, ← e2]; simp [W7.list, encs])
  obtain ⟨LL, hLL⟩ : ∃ LL, encW x = LL := ⟨_, rfl⟩
  have HLL := Lib.hid hLL
  rw [hLL]
  clear hLL e0 e1 e2 e3 e4 e5 e6 hf
  unfold W7.val
  have W0 : ∀ s : BW (w.heap.size + 1) (w.alloc (.cells #[.int .i64 x.b, .int .i64 x.c, .int .i64 x.d, .int .i64 x.m0, .int .i64 x.m1, .int .i64 x.m2, .int .i64 x.p] 24)), s.val.heap[w.heap.size]? = some (.cells #[.int .i64 x.b, .int .i64 x.c, .int .i64 x.d, .int .i64 x.m0, .int .i64 x.m1, .int .i64 x.m2, .int .i64 x.p] 24 (0, 0)) := fun s => (s.h.block w.heap.size (by omega)).trans (heap_alloc_new w _)
  have q0 : ∀ s : BW (w.heap.size + 1) (w.alloc (.cells #[.int .i64 x.b, .int .i64 x.c, .int .i64 x.d, .int .i64 x.m0, .int .i64 x.m1, .int .i64 x.m2, .int .i64 x.p] 24)), s.val.cell? ⟨w.heap.size, 0, none⟩ = some (.int .i64 x.b) := fun s => by rw [cellsW (W0 s)]; rfl
  have q1 : ∀ s : BW (w.heap.size + 1) (w.alloc (.cells #[.int .i64 x.b, .int .i64 x.c, .int .i64 x.d, .int .i64 x.m0, .int .i64 x.m1, .int .i64 x.m2, .int .i64 x.p] 24)), s.val.cell? ⟨w.heap.size, 1, none⟩ = some (.int .i64 x.c) := fun s => by rw [cellsW (W0 s)]; rfl
  have q2 : ∀ s : BW (w.heap.size + 1) (w.alloc (.cells #[.int .i64 x.b, .int .i64 x.c, .int .i64 x.d, .int .i64 x.m0, .int .i64 x.m1, .int .i64 x.m2, .int .i64 x.p] 24)), s.val.cell? ⟨w.heap.size, 2, none⟩ = some (.int .i64 x.d) := fun s => by rw [cellsW (W0 s)]; rfl
  clear W0
  go_enter Try.func75, Try.ntmps75
  go_wp2_with fail
  refine wp_region_below (w.heap.size + 1) (by kernel_rfl) (by kernel_rfl) ?_
  repeat (first | go_big_quiet_step ((first | (go_at_call 76; (with_reducible exact BW.call (by simp) (C0 _).out)) | (go_at_call 76; (with_reducible exact BW.call (by simp) (C1 _).out)) | (go_at_call 76; (with_reducible exact BW.call (by simp) (C2 _).out)))) | quiet_step ((first | (go_at_call 76; (with_reducible exact BW.call (by simp) (C0 _).out)) | (go_at_call 76; (with_reducible exact BW.call (by simp) (C1 _).out)) | (go_at_call 76; (with_reducible exact BW.call (by simp) (C2 _).out)))))
  refine wpQuiet_nil ?_
  intro _ hw'
  obtain ⟨sb, hw''⟩ := hw'
  subst hw''
  clear q0 q1 q2
  have HST := Lib.hid (show RawS w sb.val x (⟨L0.toArray⟩ ++ ⟨L1.toArray⟩ ++ ⟨L2.toArray⟩) 0 from ⟨by rw [HE.out]; simp, sb.h⟩)
  go_wp2
  go_loopw [3, 4] (fun s i wr => ∃ (k : Nat) (S : ByteArray), k ≤ 3 ∧ i = .int .i64 k ∧ s = .string S ∧ Hid (RawS w wr x S k)) (fun _ i _ => 3 - (intOf i).toNat)
  case atStart => exact ⟨0, _, by omega, rfl, rfl, HST.out⟩
  case round =>
    clear HST
    obtain ⟨k, S, hk, rfl, rfl, HS⟩ := hrel
    have hsl := HS.out.len
    have hblk := (HS.out.2.block w.heap.size (by omega)).trans (heap_alloc_new w _)
    have hk4 : k = 0 ∨ k = 1 ∨ k = 2 ∨ k = 3 := by omega
    rcases hk4 with rfl | rfl | rfl | rfl
    · have c : wr.cell? ⟨w.heap.size, 3, none⟩ = some (.int .i64 x.m0) := by rw [cellsW hblk]; rfl
      clear hblk
      go_wp2_with fail
      refine (C3 _).out.mono ?_
      rintro e w2 ⟨rfl, b2⟩
      have NX := Lib.hid (HS.out.next (z := x.m0) rfl E3.out b2)
      clear b2
      go_wp2
      go_roundw
      case rel => exact ⟨1, _, by omega, rfl, rfl, NX.out⟩
      case measure => simp [intOf]
    · have c : wr.cell? ⟨w.heap.size, 4, none⟩ = some (.int .i64 x.m1) := by rw [cellsW hblk]; rfl
      clear hblk
      go_wp2_with fail
      refine (C4 _).out.mono ?_
      rintro e w2 ⟨rfl, b2⟩
      have NX := Lib.hid (HS.out.next (z := x.m1) rfl E4.out b2)
      clear b2
      go_wp2
      go_roundw
      case rel => exact ⟨2, _, by omega, rfl, rfl, NX.out⟩
      case measure => simp [intOf]
    · have c : wr.cell? ⟨w.heap.size, 5, none⟩ = some (.int .i64 x.m2) := by rw [cellsW hblk]; rfl
      clear hblk
      go_wp2_with fail
      refine (C5 _).out.mono ?_
      rintro e w2 ⟨rfl, b2⟩
      have NX := Lib.hid (HS.out.next (z := x.m2) rfl E5.out b2)
      clear b2
      go_wp2
      go_roundw
      case rel => exact ⟨3, _, by omega, rfl, rfl, NX.out⟩
      case measure => simp [intOf]
    · have c : wr.cell? ⟨w.heap.size, 6, none⟩ = some (.int .i64 x.p) := by rw [cellsW hblk]; rfl
      clear hblk
      go_wp2_with fail
      refine (C6 _).out.mono ?_
      rintro e w2 ⟨rfl, b2⟩
      have NX := Lib.hid (HS.out.next (z := x.p) rfl E6.out b2)
      clear b2
      go_wp2
      go_ret
      refine ⟨ret_str (a := _) (b := ⟨LL.toArray⟩) ?_, ((Below.refl _ _).alloc (Nat.le_refl _) _).trans (NX.out.2.mono (by omega))⟩
      apply Go.WideShapes.bytes_inj
      rw [NX.out.1, ← HLL.out]
      rfl
end Go.Proofs.Ytplgodfhhlnojaa

/- sojournref1: Take, Get and GetOp, walked. -/
namespace Go.Proofs.Ytplgodfhhlnojaa
open Go.RowKit
theorem rrint_eq {p : Nat} {v : Int} {s s' : Rs} {w : World} (r : RR w p s) (hs : Sh s) (e : rF s = (v, s')) :
    Calls Try.prog 83 #[.pointer (some ⟨p, 0, none⟩), .int .i64 (-9223372036854775808), .int .i64 9223372036854775807] w (RRPost w p (.int .i64 v) s') := by
  have := rrint_c p (-9223372036854775808) 9223372036854775807 s w r hs
  unfold rF at e
  rwa [e] at this
theorem Sh.f {s s' : Rs} {v : Int} (h : Sh s) (e : rF s = (v, s')) : Sh s' := by
  have := h.int (-9223372036854775808) 9223372036854775807
  unfold rF at e
  rwa [e] at this
/-- A reading under way, by the document's own reader. -/
structure GX (w wk : World) (h : Nat) (s : Rs) (R T : Nat) (zs cs : Array Value) (t : TypeId) : Prop where
  r : RR wk h s
  gr : w.grownBy wk (some h)
  hR : wk.heap[R]? = some (.cells zs t (0, 0))
  hT : wk.heap[T]? = some (.cells cs t (0, 0))
  rh : R ≠ h
  wT : w.heap.size ≤ T
  hl : h < w.heap.size
  ne : R ≠ T
section
variable {w wk w2 : World} {h R T : Nat} {s s' : Rs} {zs cs : Array Value} {t : TypeId}
theorem GX.call (k : GX w wk h s R T zs cs t) (q : RR w2 h s') (hg : wk.grownBy w2 (some h)) : GX w w2 h s' R T zs cs t :=
  ⟨q, only_trans k.gr hg, (hg.block R (blk_lt k.hR) (by intro e; injection e with e; exact k.rh e)).trans k.hR, (hg.block T (blk_lt k.hT) (by intro e; injection e with e; have := k.wT; have := k.hl; omega)).trans k.hT, k.rh, k.wT, k.hl, k.ne⟩
theorem GX.store (k : GX w wk h s R T zs cs t) (i : Nat) (u : Value) : GX w (wk.setCell ⟨T, i, none⟩ u) h s R T zs (cs.setIfInBounds i u) t :=
  ⟨k.r.same (set_other (by have := k.wT; have := k.hl; omega)), only_setCell (p := ⟨T, i, none⟩) k.gr (.inr k.wT) u, (set_other k.ne).trans k.hR, set_at k.hT, k.rh, k.wT, k.hl, k.ne⟩
end
theorem RR.setR {w : World} {h R i : Nat} {s : Rs} {u : Value} (r : RR w h s) (hR : h ≠ R) : RR (w.setCell ⟨R, i, none⟩ u) h s := r.same (set_other hR)
set_option maxRecDepth 100000 in
set_option maxHeartbeats 8000000 in
theorem take_w (h : Nat) (s : Rs) (w : World) (r : RR w h s) (hs : Sh s) : Calls Try.prog 82 #[.pointer (some ⟨h, 0, none⟩)] w (RRPost w h (rTW s).1.val (rTW s).2) := by
  obtain ⟨v1, s1, e1⟩ : ∃ v t, rF s = (v, t) := ⟨_, _, rfl⟩
  obtain ⟨v2, s2, e2⟩ : ∃ v t, rF s1 = (v, t) := ⟨_, _, rfl⟩
  obtain ⟨v3, s3, e3⟩ : ∃ v t, rF s2 = (v, t) := ⟨_, _, rfl⟩
  obtain ⟨v4, s4, e4⟩ : ∃ v t, rF s3 = (v, t) := ⟨_, _, rfl⟩
  obtain ⟨v5, s5, e5⟩ : ∃ v t, rF s4 = (v, t) := ⟨_, _, rfl⟩
  obtain ⟨v6, s6, e6⟩ : ∃ v t, rF s5 = (v, t) := ⟨_, _, rfl⟩
  obtain ⟨v7, s7, e7⟩ : ∃ v t, rF s6 = (v, t) := ⟨_, _, rfl⟩
  have hw : rTW s = (⟨v1, v2, v3, v4, v5, v6, v7⟩, s7) := by unfold rTW; simp only [e1, e2, e3, e4, e5, e6, e7]
  rw [hw]
  have h1 := Lib.hid (hs.f e1)
  have h2 := Lib.hid (h1.out.f e2)
  have h3 := Lib.hid (h2.out.f e3)
  have h4 := Lib.hid (h3.out.f e4)
  have h5 := Lib.hid (h4.out.f e5)
  have h6 := Lib.hid (h5.out.f e6)
  have h7 := Lib.hid (h6.out.f e7)
  have HS := Lib.hid hs
  have HR := Lib.hid r
  have hl := r.lt
  have E1 := Lib.hid e1
  have E2 := Lib.hid e2
  have E3 := Lib.hid e3
  have E4 := Lib.hid e4
  have E5 := Lib.hid e5
  have E6 := Lib.hid e6
  have E7 := Lib.hid e7
  clear r hs hw e1 e2 e3 e4 e5 e6 e7
  unfold W7.val RRPost
  simp only
  go_enter Try.func82, Try.ntmps82
  go_wp2_with fail
  refine (rrint_eq (HR.out.below ((Below.refl w.heap.size w).alloc (Nat.le_refl _) (.cells #[.int .i64 0, .int .i64 0, .int .i64 0, .int .i64 0, .int .i64 0, .int .i64 0, .int .i64 0] 24)) hl) HS.out E1.out).mono ?_
  rintro e wa ⟨rfl, q, gg⟩
  have hza : w.heap.size + 1 ≤ wa.heap.size := by have := gg.size; simpa using this
  have BR := (gg.block w.heap.size (by simp) (by intro e; injection e with e; omega)).trans (heap_alloc_new w (.cells #[.int .i64 0, .int .i64 0, .int .i64 0, .int .i64 0, .int .i64 0, .int .i64 0, .int .i64 0] 24))
  have K1 := Lib.hid (show GX w (wa.alloc (.cells #[.int .i64 v1, .int .i64 0, .int .i64 0, .int .i64 0, .int .i64 0, .int .i64 0, .int .i64 0] 24)) h s1 w.heap.size wa.heap.size #[.int .i64 0, .int .i64 0, .int .i64 0, .int .i64 0, .int .i64 0, .int .i64 0, .int .i64 0] #[.int .i64 v1, .int .i64 0, .int .i64 0, .int .i64 0, .int .i64 0, .int .i64 0, .int .i64 0] 24 from
    ⟨q.same (Below.heap_alloc _ _ _ q.lt), only_alloc (only_trans (only_alloc (World.grownBy.refl w _) _) gg) _, (Below.heap_alloc _ _ _ (by omega)).trans BR, heap_alloc_new wa _, by omega, by omega, hl, by omega⟩)
  clear q gg BR
  go_wp2_with fail
  refine (rrint_eq K1.out.r h1.out E2.out).mono ?_
  rintro e wb2 ⟨rfl, q, gg⟩
  have M2 := Lib.hid (K1.out.call q gg)
  have c2 : wb2.cell? ⟨wa.heap.size, 1, none⟩ = some (.int .i64 0) := by rw [cellsW M2.out.hT]; rfl
  have f2 : wb2.frozen? ⟨wa.heap.size, 1, none⟩ = false := free0 M2.out.hT
  have K2 : Hid (GX w (wb2.setCell ⟨wa.heap.size, 1, none⟩ (.int .i64 v2)) h s2 w.heap.size wa.heap.size #[.int .i64 0, .int .i64 0, .int .i64 0, .int .i64 0, .int .i64 0, .int .i64 0, .int .i64 0] #[.int .i64 v1, .int .i64 v2, .int .i64 0, .int .i64 0, .int .i64 0, .int .i64 0, .int .i64 0] 24) := M2.out.store 1 _
  clear q gg K1
  go_wp2_with fail
  refine (rrint_eq K2.out.r h2.out E3.out).mono ?_
  rintro e wb3 ⟨rfl, q, gg⟩
  have M3 := Lib.hid (K2.out.call q gg)
  have c3 : wb3.cell? ⟨wa.heap.size, 2, none⟩ = some (.int .i64 0) := by rw [cellsW M3.out.hT]; rfl
  have f3 : wb3.frozen? ⟨wa.heap.size, 2, none⟩ = false := free0 M3.out.hT
  have K3 : Hid (GX w (wb3.setCell ⟨wa.heap.size, 2, none⟩ (.int .i64 v3)) h s3 w.heap.size wa.heap.size #[.int .i64 0, .int .i64 0, .int .i64 0, .int .i64 0, .int .i64 0, .int .i64 0, .int .i64 0] #[.int .i64 v1, .int .i64 v2, .int .i64 v3, .int .i64 0, .int .i64 0, .int .i64 0, .int .i64 0] 24) := M3.out.store 2 _
  clear q gg K2
  go_wp2_with fail
  refine wp_loop_rounds 4 ?_
  rw [rounds_succ]
  go_wp2_with fail
  refine (rrint_eq K3.out.r h3.out E4.out).mono ?_
  rintro e wb4 ⟨rfl, q, gg⟩
  have M4 := Lib.hid (K3.out.call q gg)
  have c4 : wb4.cell? ⟨wa.heap.size, 3, none⟩ = some (.int .i64 0) := by rw [cellsW M4.out.hT]; rfl
  have f4 : wb4.frozen? ⟨wa.heap.size, 3, none⟩ = false := free0 M4.out.hT
  have K4 : Hid (GX w (wb4.setCell ⟨wa.heap.size, 3, none⟩ (.int .i64 v4)) h s4 w.heap.size wa.heap.size #[.int .i64 0, .int .i64 0, .int .i64 0, .int .i64 0, .int .i64 0, .int .i64 0, .int .i64 0] #[.int .i64 v1, .int .i64 v2, .int .i64 v3, .int .i64 v4, .int .i64 0, .int .i64 0, .int .i64 0] 24) := M4.out.store 3 _
  clear q gg K3
  go_wp2_with fail
  rw [rounds_succ]
  go_wp2_with fail
  refine (rrint_eq K4.out.r h4.out E5.out).mono ?_
  rintro e wb5 ⟨rfl, q, gg⟩
  have M5 := Lib.hid (K4.out.call q gg)
  have c5 : wb5.cell? ⟨wa.heap.size, 4, none⟩ = some (.int .i64 0) := by rw [cellsW M5.out.hT]; rfl
  have f5 : wb5.frozen? ⟨wa.heap.size, 4, none⟩ = false := free0 M5.out.hT
  have K5 : Hid (GX w (wb5.setCell ⟨wa.heap.size, 4, none⟩ (.int .i64 v5)) h s5 w.heap.size wa.heap.size #[.int .i64 0, .int .i64 0, .int .i64 0, .int .i64 0, .int .i64 0, .int .i64 0, .int .i64 0] #[.int .i64 v1, .int .i64 v2, .int .i64 v3, .int .i64 v4, .int .i64 v5, .int .i64 0, .int .i64 0] 24) := M5.out.store 4 _
  clear q gg K4
  go_wp2_with fail
  rw [rounds_succ]
  go_wp2_with fail
  refine (rrint_eq K5.out.r h5.out E6.out).mono ?_
  rintro e wb6 ⟨rfl, q, gg⟩
  have M6 := Lib.hid (K5.out.call q gg)
  have c6 : wb6.cell? ⟨wa.heap.size, 5, none⟩ = some (.int .i64 0) := by rw [cellsW M6.out.hT]; rfl
  have f6 : wb6.frozen? ⟨wa.heap.size, 5, none⟩ = false := free0 M6.out.hT
  have K6 : Hid (GX w (wb6.setCell ⟨wa.heap.size, 5, none⟩ (.int .i64 v6)) h s6 w.heap.size wa.heap.size #[.int .i64 0, .int .i64 0, .int .i64 0, .int .i64 0, .int .i64 0, .int .i64 0, .int .i64 0] #[.int .i64 v1, .int .i64 v2, .int .i64 v3, .int .i64 v4, .int .i64 v5, .int .i64 v6, .int .i64 0] 24) := M6.out.store 5 _
  clear q gg K5
  go_wp2_with fail
  rw [rounds_succ]
  go_wp2_with fail
  refine (rrint_eq K6.out.r h6.out E7.out).mono ?_
  rintro e wb7 ⟨rfl, q, gg⟩
  have M7 := Lib.hid (K6.out.call q gg)
  have c7 : wb7.cell? ⟨wa.heap.size, 6, none⟩ = some (.int .i64 0) := by rw [cellsW M7.out.hT]; rfl
  have f7 : wb7.frozen? ⟨wa.heap.size, 6, none⟩ = false := free0 M7.out.hT
  have K7 : Hid (GX w (wb7.setCell ⟨wa.heap.size, 6, none⟩ (.int .i64 v7)) h s7 w.heap.size wa.heap.size #[.int .i64 0, .int .i64 0, .int .i64 0, .int .i64 0, .int .i64 0, .int .i64 0, .int .i64 0] #[.int .i64 v1, .int .i64 v2, .int .i64 v3, .int .i64 v4, .int .i64 v5, .int .i64 v6, .int .i64 v7] 24) := M7.out.store 6 _
  clear q gg K6
  have hne := M7.out.ne
  have hlt : w.heap.size < wb7.heap.size := blk_lt M7.out.hR
  have d0 : wb7.cell? ⟨wa.heap.size, 0, none⟩ = some (.int .i64 v1) := by rw [cellsW M7.out.hT]; rfl
  have z0 : wb7.cell? ⟨w.heap.size, 0, none⟩ = some (.int .i64 0) := by rw [cellsW M7.out.hR]; rfl
  have y0 : wb7.frozen? ⟨w.heap.size, 0, none⟩ = false := free0 M7.out.hR
  have d1 : wb7.cell? ⟨wa.heap.size, 1, none⟩ = some (.int .i64 v2) := by rw [cellsW M7.out.hT]; rfl
  have z1 : wb7.cell? ⟨w.heap.size, 1, none⟩ = some (.int .i64 0) := by rw [cellsW M7.out.hR]; rfl
  have y1 : wb7.frozen? ⟨w.heap.size, 1, none⟩ = false := free0 M7.out.hR
  have d2 : wb7.cell? ⟨wa.heap.size, 2, none⟩ = some (.int .i64 v3) := by rw [cellsW M7.out.hT]; rfl
  have z2 : wb7.cell? ⟨w.heap.size, 2, none⟩ = some (.int .i64 0) := by rw [cellsW M7.out.hR]; rfl
  have y2 : wb7.frozen? ⟨w.heap.size, 2, none⟩ = false := free0 M7.out.hR
  have d3 : wb7.cell? ⟨wa.heap.size, 3, none⟩ = some (.int .i64 v4) := by rw [cellsW M7.out.hT]; rfl
  have z3 : wb7.cell? ⟨w.heap.size, 3, none⟩ = some (.int .i64 0) := by rw [cellsW M7.out.hR]; rfl
  have y3 : wb7.frozen? ⟨w.heap.size, 3, none⟩ = false := free0 M7.out.hR
  have d4 : wb7.cell? ⟨wa.heap.size, 4, none⟩ = some (.int .i64 v5) := by rw [cellsW M7.out.hT]; rfl
  have z4 : wb7.cell? ⟨w.heap.size, 4, none⟩ = some (.int .i64 0) := by rw [cellsW M7.out.hR]; rfl
  have y4 : wb7.frozen? ⟨w.heap.size, 4, none⟩ = false := free0 M7.out.hR
  have d5 : wb7.cell? ⟨wa.heap.size, 5, none⟩ = some (.int .i64 v6) := by rw [cellsW M7.out.hT]; rfl
  have z5 : wb7.cell? ⟨w.heap.size, 5, none⟩ = some (.int .i64 0) := by rw [cellsW M7.out.hR]; rfl
  have y5 : wb7.frozen? ⟨w.heap.size, 5, none⟩ = false := free0 M7.out.hR
  have d6 : wb7.cell? ⟨wa.heap.size, 6, none⟩ = some (.int .i64 0) := by rw [cellsW M7.out.hT]; rfl
  have z6 : wb7.cell? ⟨w.heap.size, 6, none⟩ = some (.int .i64 0) := by rw [cellsW M7.out.hR]; rfl
  have y6 : wb7.frozen? ⟨w.heap.size, 6, none⟩ = false := free0 M7.out.hR
  go_wp2
  refine bodyPost_ret (v := .agg #[.int .i64 v1, .int .i64 v2, .int .i64 v3, .int .i64 v4, .int .i64 v5, .int .i64 v6, .int .i64 v7]) (by simp [results, Try.results82, go_sem, d0, d1, d2, d3, d4, d5, d6, z0, z1, z2, z3, z4, z5, z6, hne]) rfl ⟨rfl, ?_, ?_⟩
  · iterate 7 (refine RR.setR ?_ (by omega))
    exact K7.out.r
  · iterate 7 (refine only_setR ?_ (Nat.le_refl _))
    exact K7.out.gr
theorem rrend_w {p : Nat} {v : Int} {s : Rs} {w : World} (r : RR w p s) (e : rEnd s = v) : Calls Try.prog 84 #[.pointer (some ⟨p, 0, none⟩)] w fun e w' => e = .returned (.int .i64 v) ∧ w = w' := by
  have := rrend_c p s w r
  rwa [e] at this
end Go.Proofs.Ytplgodfhhlnojaa
