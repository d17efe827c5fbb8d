/- want.Put and want.PutOp, walked. -/
import Derived.Test.YtebinhelnhnbeaaPackW3
import Derived.Test.YtebinhelnhnbeaaOpenE
import Derived.Test.YtebinhelnhnbeaaMayOp
set_option linter.unusedSimpArgs false
set_option linter.unusedVariables false
namespace Go.Proofs.Ytebinhelnhnbeaa
open Go.RowKit
def encs (ns : List Int) : List UInt8 := ns.flatMap enc
theorem encs_app (a b : List Int) : encs (a ++ b) = encs a ++ encs b := by simp [encs]
theorem encs_snoc (ns : List Int) (k : Nat) (z : Int) (h : ns[k]? = some z) : encs (ns.take (k + 1)) = encs (ns.take k) ++ enc z := by
  have e : ns.take (k + 1) = ns.take k ++ [z] := by rw [List.take_add_one, h]; rfl
  rw [e, encs_app]
  simp [encs]
theorem encs_le (ns : List Int) : (encs ns).length ≤ ns.length * 10 := by
  induction ns with
  | nil => simp [encs]
  | cons a ns ih =>
    have := enc_le a
    unfold encs at *
    rw [List.flatMap_cons, List.length_append, List.length_cons]
    omega
def NW8 (ns : List Int) : Array Value := (ns.map (Value.int .i64)).toArray
theorem NW8_at (ns : List Int) (k : Nat) (z : Int) (h : ns[k]? = some z) : (NW8 ns)[k]? = some (.int .i64 z) := by simp [NW8, h]
set_option maxRecDepth 100000 in
set_option maxHeartbeats 1000000 in
theorem put_int_c (g q n c : Nat) (ns : List Int) (l : List UInt8) (base : Nat) (w : World) (m0 : Nat × Nat) (h : WB w base g l) (hq : w.heap[q]? = some (.cells (NW8 ns) 3 m0)) (hns : ∀ z ∈ ns, In64 z) (hn : ns.length = n) (hn2 : n ≤ 100) (hl : l.length ≤ 100000000) :
    Calls Try.prog 58 #[.pointer (some ⟨g, 0, none⟩), .slice (some ⟨q, 0, none⟩) n c] w (WP w base g (l ++ encs ns)) := by
  have H := Lib.hid h
  have HQ := Lib.hid hq
  have HNS := Lib.hid hns
  have HN := Lib.hid hn
  have HL := Lib.hid hl
  clear h hq hns hn hl
  go_enter Try.func58, Try.ntmps58
  go_wp2
  go_loopw [8] (fun i wr => ∃ k : Nat, k ≤ n ∧ i = .int .i64 k ∧ Hid (WB wr base g (l ++ encs (ns.take k)) ∧ Below base w wr ∧ Keep [5, 26] w wr)) (fun i _ => n - (intOf i).toNat)
  case atStart => exact ⟨0, by omega, rfl, by simpa [encs] using H.out, Below.refl _ _, Keep.refl _ _⟩
  case round =>
    obtain ⟨k, hk, rfl, HS⟩ := hrel
    by_cases hlt : k < n
    · obtain ⟨z, hz⟩ : ∃ z, ns[k]? = some z := ⟨_, List.getElem?_eq_getElem (by have := HN.out; omega)⟩
      have hc : wr.cell? ⟨q, k, none⟩ = some (.int .i64 z) := by
        rw [cellsW (HS.out.2.2.block q _ HQ.out (fun cs t m e => by cases e; decide))]
        exact NW8_at ns k z hz
      have hf := Lib.hid (HNS.out z (List.mem_of_getElem? hz))
      have HZ := Lib.hid (encs_snoc ns k z hz)
      clear hz
      go_wp2_with (go_at_call 18; (refine (wint_c g z _ base _ HS.out.1 (by have := HL.out; have := encs_le (ns.take k); rw [List.length_take] at this; have := HN.out; simp; omega) hf.out.1 hf.out.2).mono ?_); rintro e w1 ⟨rfl, q1, b1, k1⟩; have HX := Lib.hid (show WB w1 base g (l ++ encs (ns.take (k + 1))) ∧ Below base w w1 ∧ Keep [5, 26] w w1 from ⟨by rw [HZ.out, ← List.append_assoc]; exact q1, HS.out.2.1.trans b1, HS.out.2.2.trans k1⟩); clear q1 b1 k1)
      go_roundw
      case rel => exact ⟨k + 1, by omega, by go_num, HX⟩
      case measure => simp [intOf]; omega
    · have ht : ns.take k = ns := List.take_of_length_le (by have := HN.out; omega)
      rw [ht] at HS
      clear ht
      go_wp2
      refine bodyPost_ret (results_none rfl _ _ _) rfl ?_
      exact ⟨rfl, HS.out.1, HS.out.2.1, HS.out.2.2⟩
set_option maxRecDepth 100000 in
set_option maxHeartbeats 1000000 in
theorem put_int64_c (g q n c : Nat) (ns : List Int) (l : List UInt8) (base : Nat) (w : World) (m0 : Nat × Nat) (h : WB w base g l) (hq : w.heap[q]? = some (.cells (NW8 ns) 2 m0)) (hns : ∀ z ∈ ns, In64 z) (hn : ns.length = n) (hn2 : n ≤ 100) (hl : l.length ≤ 100000000) :
    Calls Try.prog 59 #[.pointer (some ⟨g, 0, none⟩), .slice (some ⟨q, 0, none⟩) n c] w (WP w base g (l ++ encs ns)) := by
  have H := Lib.hid h
  have HQ := Lib.hid hq
  have HNS := Lib.hid hns
  have HN := Lib.hid hn
  have HL := Lib.hid hl
  clear h hq hns hn hl
  go_enter Try.func59, Try.ntmps59
  go_wp2
  go_loopw [8] (fun i wr => ∃ k : Nat, k ≤ n ∧ i = .int .i64 k ∧ Hid (WB wr base g (l ++ encs (ns.take k)) ∧ Below base w wr ∧ Keep [5, 26] w wr)) (fun i _ => n - (intOf i).toNat)
  case atStart => exact ⟨0, by omega, rfl, by simpa [encs] using H.out, Below.refl _ _, Keep.refl _ _⟩
  case round =>
    obtain ⟨k, hk, rfl, HS⟩ := hrel
    by_cases hlt : k < n
    · obtain ⟨z, hz⟩ : ∃ z, ns[k]? = some z := ⟨_, List.getElem?_eq_getElem (by have := HN.out; omega)⟩
      have hc : wr.cell? ⟨q, k, none⟩ = some (.int .i64 z) := by
        rw [cellsW (HS.out.2.2.block q _ HQ.out (fun cs t m e => by cases e; decide))]
        exact NW8_at ns k z hz
      have hf := Lib.hid (HNS.out z (List.mem_of_getElem? hz))
      have HZ := Lib.hid (encs_snoc ns k z hz)
      clear hz
      go_wp2_with (go_at_call 18; (refine (wint_c g z _ base _ HS.out.1 (by have := HL.out; have := encs_le (ns.take k); rw [List.length_take] at this; have := HN.out; simp; omega) hf.out.1 hf.out.2).mono ?_); rintro e w1 ⟨rfl, q1, b1, k1⟩; have HX := Lib.hid (show WB w1 base g (l ++ encs (ns.take (k + 1))) ∧ Below base w w1 ∧ Keep [5, 26] w w1 from ⟨by rw [HZ.out, ← List.append_assoc]; exact q1, HS.out.2.1.trans b1, HS.out.2.2.trans k1⟩); clear q1 b1 k1)
      go_roundw
      case rel => exact ⟨k + 1, by omega, by go_num, HX⟩
      case measure => simp [intOf]; omega
    · have ht : ns.take k = ns := List.take_of_length_le (by have := HN.out; omega)
      rw [ht] at HS
      clear ht
      go_wp2
      refine bodyPost_ret (results_none rfl _ _ _) rfl ?_
      exact ⟨rfl, HS.out.1, HS.out.2.1, HS.out.2.2⟩
/-- Bytes of the call's own beside a number: how a call ends. -/
def RBy (w : World) (l : List UInt8) (k : Int) (e : Ending) (w' : World) : Prop := ∃ v, e = .returned (.tuple #[v, .int .i64 k]) ∧ OB w' w.heap.size v l ∧ Below w.heap.size w w'
def W7.list (x : W7) : List Int := [x.b, x.c, x.d, x.m0, x.m1, x.m2, x.p]
/-- A want's numbers as bytes. -/
def encW (x : W7) : List UInt8 := encs x.list
def O5.list (x : O5) : List Int := [x.kind, x.book, x.units, x.cust, x.amount]
/-- An operation's numbers as bytes. -/
def encO (x : O5) : List UInt8 := encs x.list
theorem may_isW (x : W7) (b : Bool) (h : decide (MayW x) = b) (w : World) : Calls Try.prog 35 #[x.val] w fun e w' => e = .returned (.bool b) ∧ Below w.heap.size w w' := h ▸ may_c x w
set_option maxRecDepth 100000 in
set_option maxHeartbeats 2000000 in
theorem encW_no (x : W7) (w : World) (h : ¬ MayW x) : Calls Try.prog 38 #[x.val] w fun e w' => e = .returned (.tuple #[.slice none 0 0, .int .i64 1]) ∧ Below w.heap.size w w' := by
  have HM := Lib.hid (may_isW x false (decide_eq_false h))
  clear h
  unfold W7.val at *
  go_enter Try.func38, Try.ntmps38
  go_wp2_with (go_at_call 35; refine (HM.out _).mono ?_; rintro e w1 ⟨rfl, b1⟩; have B1 := Lib.hid (show Below w.heap.size w w1 from ((Below.refl _ _).alloc (Nat.le_refl _) _).trans (b1.mono (by simp))); clear b1)
  go_ret2
  exact ⟨rfl, B1.out⟩
set_option maxRecDepth 100000 in
set_option maxHeartbeats 2000000 in
theorem encW_yes (x : W7) (w : World) (h : MayW x) (hf : ∀ z ∈ W7.list x, In64 z) : Calls Try.prog 38 #[x.val] w (RBy w (encW x) 0) := by
  have HM := Lib.hid (may_isW x true (decide_eq_true h))
  have HF := Lib.hid hf
  clear h hf
  unfold W7.val at *
  go_enter Try.func38, Try.ntmps38
  go_wp2_with fail
  refine (HM.out _).mono ?_
  rintro e w1 ⟨rfl, b1⟩
  have hb := (b1.block w.heap.size (by simp)).trans (heap_alloc_new w (.cells #[.int .i64 x.b, .int .i64 x.c, .int .i64 x.d, .int .i64 x.m0, .int .i64 x.m1, .int .i64 x.m2, .int .i64 x.p] 57))
  have c0 : w1.cell? ⟨w.heap.size, 0, none⟩ = some (.int .i64 x.b) := by rw [cellsW hb]; rfl
  have c1 : w1.cell? ⟨w.heap.size, 1, none⟩ = some (.int .i64 x.c) := by rw [cellsW hb]; rfl
  have c2 : w1.cell? ⟨w.heap.size, 2, none⟩ = some (.int .i64 x.d) := by rw [cellsW hb]; rfl
  have c3 : w1.cell? ⟨w.heap.size, 3, none⟩ = some (.int .i64 x.m0) := by rw [cellsW hb]; rfl
  have c4 : w1.cell? ⟨w.heap.size, 4, none⟩ = some (.int .i64 x.m1) := by rw [cellsW hb]; rfl
  have c5 : w1.cell? ⟨w.heap.size, 5, none⟩ = some (.int .i64 x.m2) := by rw [cellsW hb]; rfl
  have c6 : w1.cell? ⟨w.heap.size, 6, none⟩ = some (.int .i64 x.p) := by rw [cellsW hb]; rfl
  have hz1 : w.heap.size + 1 ≤ w1.heap.size := by have := b1.size; simpa using this
  have hlt1 : w.heap.size < w1.heap.size := by omega
  have hne1 : ¬ w.heap.size = w1.heap.size := by omega
  have B1 := Lib.hid (show Below w.heap.size w w1 from ((Below.refl _ _).alloc (Nat.le_refl _) _).trans (b1.mono (by simp)))
  have HW := Lib.hid ((WB.new w1 w1.heap.size (Nat.le_refl _)).below ((Below.refl _ _).alloc (Nat.le_refl _) (.cells #[.int .i64 x.b, .int .i64 x.c, .int .i64 x.d, .int .i64 x.m0, .int .i64 x.m1, .int .i64 x.m2] 3)) (Nat.le_refl _))
  have HQ := Lib.hid (show ((w1.alloc (.cells #[.slice none 0 0] 26)).alloc (.cells #[.int .i64 x.b, .int .i64 x.c, .int .i64 x.d, .int .i64 x.m0, .int .i64 x.m1, .int .i64 x.m2] 3)).heap[w1.heap.size + 1]? = some (.cells (NW8 [x.b, x.c, x.d, x.m0, x.m1, x.m2]) 3 (0, 0)) from by have := heap_alloc_new (w1.alloc (.cells #[.slice none 0 0] 26)) (.cells #[.int .i64 x.b, .int .i64 x.c, .int .i64 x.d, .int .i64 x.m0, .int .i64 x.m1, .int .i64 x.m2] 3); simpa [NW8] using this)
  have hlast := c6
  clear b1 hb
  go_wp2_with fail
  refine (put_int_c w1.heap.size (w1.heap.size + 1) 6 6 [x.b, x.c, x.d, x.m0, x.m1, x.m2] [] w1.heap.size _ (0, 0) HW.out HQ.out (fun z hz => HF.out z (by simp [W7.list] at hz ⊢; omega)) rfl (by omega) (by simp)).mono ?_
  rintro e w2 ⟨rfl, q2, b2, k2⟩
  have hz2 := b2.size
  have d6 := (b2.cell (p := ⟨w.heap.size, 6, none⟩) (show w.heap.size < w1.heap.size by omega)).trans (show ((w1.alloc (.cells #[.slice none 0 0] 26)).alloc (.cells #[.int .i64 x.b, .int .i64 x.c, .int .i64 x.d, .int .i64 x.m0, .int .i64 x.m1, .int .i64 x.m2] 3)).cell? ⟨w.heap.size, 6, none⟩ = some (.int .i64 x.p) from by rw [World.cell?_alloc_lt _ _ _ (by simp; omega), World.cell?_alloc_lt _ _ _ (by omega)]; exact hlast)
  have B2 := Lib.hid (show Below w1.heap.size w1 w2 from (((Below.refl _ _).alloc (Nat.le_refl _) _).alloc (by simp) _).trans b2)
  have Q2 := Lib.hid (q2.below ((Below.refl _ _).alloc (Nat.le_refl _) (.cells #[.int .i64 x.p] 2)) (Nat.le_refl _))
  have HQ2 := Lib.hid (show (w2.alloc (.cells #[.int .i64 x.p] 2)).heap[w2.heap.size]? = some (.cells (NW8 [x.p]) 2 (0, 0)) from heap_alloc_new w2 _)
  clear q2 b2 k2 c0 c1 c2 c3 c4 c5 c6 hlast
  go_wp2_with fail
  refine (put_int64_c w1.heap.size w2.heap.size 1 1 [x.p] _ w1.heap.size _ (0, 0) Q2.out HQ2.out (fun z hz => HF.out z (by simp [W7.list] at hz ⊢; omega)) rfl (by omega) (by have := encs_le [x.b, x.c, x.d, x.m0, x.m1, x.m2]; simp at this ⊢; omega)).mono ?_
  rintro e w3 ⟨rfl, q3, b3, k3⟩
  have Q3 := Lib.hid q3
  have B3 := Lib.hid (show Below w1.heap.size w1 w3 from (B2.out.alloc B2.out.size _).trans b3)
  clear q3 b3 k3 d6
  have hlen : (([] : List UInt8) ++ encs [x.b, x.c, x.d, x.m0, x.m1, x.m2] ++ encs [x.p]).length ≤ 1000 := by
    have h1 := encs_le [x.b, x.c, x.d, x.m0, x.m1, x.m2]
    have h2 := encs_le [x.p]
    simp only [List.length_append, List.length_cons, List.length_nil] at *
    omega
  have HLN := Lib.hid hlen
  clear hlen
  go_wp2_with fail
  refine (wbytes_c _ _ _ _ Q3.out (by have := HLN.out; omega)).mono ?_
  rintro e w4 ⟨v4, rfl, q4, b4⟩
  have hz3 := B3.out.size
  have Q4 := Lib.hid q4
  have B4 := Lib.hid (B1.out.trans ((B3.out.trans (b4.mono hz3)).mono (by omega)))
  clear q4 b4
  go_wp2
  go_ret2
  refine ⟨v4, rfl, ?_, B4.out⟩
  have := Q4.out.mono (base' := w.heap.size) (by omega)
  rw [List.nil_append, ← encs_app] at this
  exact this
theorem quiet_left {P : Program} {f : FuncId} {args : Array Value} {w : World} {n : Nat} {v : Value}
    (h : Calls P f args (w.drewN n) fun e w' => e = .returned v ∧ w.drewN n = w') : Calls P f args (w.drewN n) fun e w'' => e = .returned v ∧ ∃ m, w'' = w.drewN m :=
  h.mono fun _ _ ⟨he, hm⟩ => ⟨he, n, hm.symm⟩
/-- Which operations may be, as the program asks. -/
def mayOT (o : O5) : Bool := inB o.kind 1 6 && inB o.book 1 200 && (if o.kind = 1 then inB o.units 1 1000 else o.units == 0) && (if o.kind = 4 then inB o.cust 0 3 else o.cust == 0) && (if o.kind = 4 then inB o.amount 0 1099511627776 else o.amount == 0)
theorem mayOT_is (o : O5) : mayOT o = decide (MayO o) := by
  obtain ⟨k, b, u, c, a⟩ := o
  rw [Bool.eq_iff_iff, decide_eq_true_eq]
  unfold mayOT MayO UnitsO MoneyO inB
  simp only
  by_cases h1 : k = 1
  · simp [h1]; omega
  · by_cases h4 : k = 4
    · simp [h4]; omega
    · simp [h1, h4]; omega
end Go.Proofs.Ytebinhelnhnbeaa
