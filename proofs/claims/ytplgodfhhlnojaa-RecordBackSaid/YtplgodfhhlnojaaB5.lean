/- WPut, WEq, WGet0, WOp0, WOp, WGetO, WGetS, WPure0, merged. -/
import Derived.Test.YtplgodfhhlnojaaB2
import Derived.Test.YtplgodfhhlnojaaB1
import Derived.Test.YtplgodfhhlnojaaB4
import Derived.Test.YtplgodfhhlnojaaB3
set_option linter.unusedSimpArgs false
set_option linter.unusedVariables false
/- want.Put and want.PutOp, walked. -/
namespace Go.Proofs.Ytplgodfhhlnojaa
open Go.RowKit
def encs (ns : List Int) : List UInt8 := ns.flatMap enc
theorem encs_app (a b : List Int) : encs (a ++ b) = encs a ++ encs b := by simp [encs]
theorem encs_snoc (ns : List Int) (k : Nat) (z : Int) (h : ns[k]? = some z) : encs (ns.take (k + 1)) = encs (ns.take k) ++ enc z := by
  have e : ns.take (k + 1) = ns.take k ++ [z] := by rw [List.take_add_one, h]; rfl
  rw [e, encs_app]
  simp [encs]
theorem encs_le (ns : List Int) : (encs ns).length ≤ ns.length * 10 := by
  induction ns with
  | nil => simp [encs]
  | cons a ns ih =>
    have := enc_le a
    unfold encs at *
    rw [List.flatMap_cons, List.length_append, List.length_cons]
    omega
def NW8 (ns : List Int) : Array Value := (ns.map (Value.int .i64)).toArray
theorem NW8_at (ns : List Int) (k : Nat) (z : Int) (h : ns[k]? = some z) : (NW8 ns)[k]? = some (.int .i64 z) := by simp [NW8, h]
set_option maxRecDepth 100000 in
set_option maxHeartbeats 1000000 in
theorem put_int_c (g q n c : Nat) (ns : List Int) (l : List UInt8) (base : Nat) (w : World) (m0 : Nat × Nat) (h : WB w base g l) (hq : w.heap[q]? = some (.cells (NW8 ns) 3 m0)) (hns : ∀ z ∈ ns, In64 z) (hn : ns.length = n) (hn2 : n ≤ 100) (hl : l.length ≤ 100000000) :
    Calls Try.prog 108 #[.pointer (some ⟨g, 0, none⟩), .slice (some ⟨q, 0, none⟩) n c] w (WP w base g (l ++ encs ns)) := by
  have H := Lib.hid h
  have HQ := Lib.hid hq
  have HNS := Lib.hid hns
  have HN := Lib.hid hn
  have HL := Lib.hid hl
  clear h hq hns hn hl
  go_enter Try.func108, Try.ntmps108
  go_wp2
  go_loopw [8] (fun i wr => ∃ k : Nat, k ≤ n ∧ i = .int .i64 k ∧ Hid (WB wr base g (l ++ encs (ns.take k)) ∧ Below base w wr ∧ Keep [5, 103] w wr)) (fun i _ => n - (intOf i).toNat)
  case atStart => exact ⟨0, by omega, rfl, by simpa [encs] using H.out, Below.refl _ _, Keep.refl _ _⟩
  case round =>
    obtain ⟨k, hk, rfl, HS⟩ := hrel
    by_cases hlt : k < n
    · obtain ⟨z, hz⟩ : ∃ z, ns[k]? = some z := ⟨_, List.getElem?_eq_getElem (by have := HN.out; omega)⟩
      have hc : wr.cell? ⟨q, k, none⟩ = some (.int .i64 z) := by
        rw [cellsW (HS.out.2.2.block q _ HQ.out (fun cs t m e => by cases e; decide))]
        exact NW8_at ns k z hz
      have hf := Lib.hid (HNS.out z (List.mem_of_getElem? hz))
      have HZ := Lib.hid (encs_snoc ns k z hz)
      clear hz
      go_wp2_with (go_at_call 73; (refine (wint_c g z _ base _ HS.out.1 (by have := HL.out; have := encs_le (ns.take k); rw [List.length_take] at this; have := HN.out; simp; omega) hf.out.1 hf.out.2).mono ?_); rintro e w1 ⟨rfl, q1, b1, k1⟩; have HX := Lib.hid (show WB w1 base g (l ++ encs (ns.take (k + 1))) ∧ Below base w w1 ∧ Keep [5, 103] w w1 from ⟨by rw [HZ.out, ← List.append_assoc]; exact q1, HS.out.2.1.trans b1, HS.out.2.2.trans k1⟩); clear q1 b1 k1)
      go_roundw
      case rel => exact ⟨k + 1, by omega, by go_num, HX⟩
      case measure => simp [intOf]; omega
    · have ht : ns.take k = ns := List.take_of_length_le (by have := HN.out; omega)
      rw [ht] at HS
      clear ht
      go_wp2
      refine bodyPost_ret (results_none rfl _ _ _) rfl ?_
      exact ⟨rfl, HS.out.1, HS.out.2.1, HS.out.2.2⟩
set_option maxRecDepth 100000 in
set_option maxHeartbeats 1000000 in
theorem put_int64_c (g q n c : Nat) (ns : List Int) (l : List UInt8) (base : Nat) (w : World) (m0 : Nat × Nat) (h : WB w base g l) (hq : w.heap[q]? = some (.cells (NW8 ns) 2 m0)) (hns : ∀ z ∈ ns, In64 z) (hn : ns.length = n) (hn2 : n ≤ 100) (hl : l.length ≤ 100000000) :
    Calls Try.prog 109 #[.pointer (some ⟨g, 0, none⟩), .slice (some ⟨q, 0, none⟩) n c] w (WP w base g (l ++ encs ns)) := by
  have H := Lib.hid h
  have HQ := Lib.hid hq
  have HNS := Lib.hid hns
  have HN := Lib.hid hn
  have HL := Lib.hid hl
  clear h hq hns hn hl
  go_enter Try.func109, Try.ntmps109
  go_wp2
  go_loopw [8] (fun i wr => ∃ k : Nat, k ≤ n ∧ i = .int .i64 k ∧ Hid (WB wr base g (l ++ encs (ns.take k)) ∧ Below base w wr ∧ Keep [5, 103] w wr)) (fun i _ => n - (intOf i).toNat)
  case atStart => exact ⟨0, by omega, rfl, by simpa [encs] using H.out, Below.refl _ _, Keep.refl _ _⟩
  case round =>
    obtain ⟨k, hk, rfl, HS⟩ := hrel
    by_cases hlt : k < n
    · obtain ⟨z, hz⟩ : ∃ z, ns[k]? = some z := ⟨_, List.getElem?_eq_getElem (by have := HN.out; omega)⟩
      have hc : wr.cell? ⟨q, k, none⟩ = some (.int .i64 z) := by
        rw [cellsW (HS.out.2.2.block q _ HQ.out (fun cs t m e => by cases e; decide))]
        exact NW8_at ns k z hz
      have hf := Lib.hid (HNS.out z (List.mem_of_getElem? hz))
      have HZ := Lib.hid (encs_snoc ns k z hz)
      clear hz
      go_wp2_with (go_at_call 73; (refine (wint_c g z _ base _ HS.out.1 (by have := HL.out; have := encs_le (ns.take k); rw [List.length_take] at this; have := HN.out; simp; omega) hf.out.1 hf.out.2).mono ?_); rintro e w1 ⟨rfl, q1, b1, k1⟩; have HX := Lib.hid (show WB w1 base g (l ++ encs (ns.take (k + 1))) ∧ Below base w w1 ∧ Keep [5, 103] w w1 from ⟨by rw [HZ.out, ← List.append_assoc]; exact q1, HS.out.2.1.trans b1, HS.out.2.2.trans k1⟩); clear q1 b1 k1)
      go_roundw
      case rel => exact ⟨k + 1, by omega, by go_num, HX⟩
      case measure => simp [intOf]; omega
    · have ht : ns.take k = ns := List.take_of_length_le (by have := HN.out; omega)
      rw [ht] at HS
      clear ht
      go_wp2
      refine bodyPost_ret (results_none rfl _ _ _) rfl ?_
      exact ⟨rfl, HS.out.1, HS.out.2.1, HS.out.2.2⟩
/-- Bytes of the call's own beside a number: how a call ends. -/
def RBy (w : World) (l : List UInt8) (k : Int) (e : Ending) (w' : World) : Prop := ∃ v, e = .returned (.tuple #[v, .int .i64 k]) ∧ OB w' w.heap.size v l ∧ Below w.heap.size w w'
def W7.list (x : W7) : List Int := [x.b, x.c, x.d, x.m0, x.m1, x.m2, x.p]
/-- A want's numbers as bytes. -/
def encW (x : W7) : List UInt8 := encs x.list
def O5.list (x : O5) : List Int := [x.kind, x.book, x.units, x.cust, x.amount]
/-- An operation's numbers as bytes. -/
def encO (x : O5) : List UInt8 := encs x.list
theorem may_isW (x : W7) (b : Bool) (h : decide (MayW x) = b) (w : World) : Calls Try.prog 65 #[x.val] w fun e w' => e = .returned (.bool b) ∧ Below w.heap.size w w' := h ▸ may_c x w
set_option maxRecDepth 100000 in
set_option maxHeartbeats 2000000 in
theorem encW_no (x : W7) (w : World) (h : ¬ MayW x) : Calls Try.prog 72 #[x.val] w fun e w' => e = .returned (.tuple #[.slice none 0 0, .int .i64 1]) ∧ Below w.heap.size w w' := by
  have HM := Lib.hid (may_isW x false (decide_eq_false h))
  clear h
  unfold W7.val at *
  go_enter Try.func72, Try.ntmps72
  go_wp2_with (go_at_call 65; refine (HM.out _).mono ?_; rintro e w1 ⟨rfl, b1⟩; have B1 := Lib.hid (show Below w.heap.size w w1 from ((Below.refl _ _).alloc (Nat.le_refl _) _).trans (b1.mono (by simp))); clear b1)
  go_ret2
  exact ⟨rfl, B1.out⟩
set_option maxRecDepth 100000 in
set_option maxHeartbeats 2000000 in
theorem encW_yes (x : W7) (w : World) (h : MayW x) (hf : ∀ z ∈ W7.list x, In64 z) : Calls Try.prog 72 #[x.val] w (RBy w (encW x) 0) := by
  have HM := Lib.hid (may_isW x true (decide_eq_true h))
  have HF := Lib.hid hf
  clear h hf
  unfold W7.val at *
  go_enter Try.func72, Try.ntmps72
  go_wp2_with fail
  refine (HM.out _).mono ?_
  rintro e w1 ⟨rfl, b1⟩
  have hb := (b1.block w.heap.size (by simp)).trans (heap_alloc_new w (.cells #[.int .i64 x.b, .int .i64 x.c, .int .i64 x.d, .int .i64 x.m0, .int .i64 x.m1, .int .i64 x.m2, .int .i64 x.p] 24))
  have c0 : w1.cell? ⟨w.heap.size, 0, none⟩ = some (.int .i64 x.b) := by rw [cellsW hb]; rfl
  have c1 : w1.cell? ⟨w.heap.size, 1, none⟩ = some (.int .i64 x.c) := by rw [cellsW hb]; rfl
  have c2 : w1.cell? ⟨w.heap.size, 2, none⟩ = some (.int .i64 x.d) := by rw [cellsW hb]; rfl
  have c3 : w1.cell? ⟨w.heap.size, 3, none⟩ = some (.int .i64 x.m0) := by rw [cellsW hb]; rfl
  have c4 : w1.cell? ⟨w.heap.size, 4, none⟩ = some (.int .i64 x.m1) := by rw [cellsW hb]; rfl
  have c5 : w1.cell? ⟨w.heap.size, 5, none⟩ = some (.int .i64 x.m2) := by rw [cellsW hb]; rfl
  have c6 : w1.cell? ⟨w.heap.size, 6, none⟩ = some (.int .i64 x.p) := by rw [cellsW hb]; rfl
  have hz1 : w.heap.size + 1 ≤ w1.heap.size := by have := b1.size; simpa using this
  have hlt1 : w.heap.size < w1.heap.size := by omega
  have hne1 : ¬ w.heap.size = w1.heap.size := by omega
  have B1 := Lib.hid (show Below w.heap.size w w1 from ((Below.refl _ _).alloc (Nat.le_refl _) _).trans (b1.mono (by simp)))
  have HW := Lib.hid ((WB.new w1 w1.heap.size (Nat.le_refl _)).below ((Below.refl _ _).alloc (Nat.le_refl _) (.cells #[.int .i64 x.b, .int .i64 x.c, .int .i64 x.d, .int .i64 x.m0, .int .i64 x.m1, .int .i64 x.m2] 3)) (Nat.le_refl _))
  have HQ := Lib.hid (show ((w1.alloc (.cells #[.slice none 0 0] 103)).alloc (.cells #[.int .i64 x.b, .int .i64 x.c, .int .i64 x.d, .int .i64 x.m0, .int .i64 x.m1, .int .i64 x.m2] 3)).heap[w1.heap.size + 1]? = some (.cells (NW8 [x.b, x.c, x.d, x.m0, x.m1, x.m2]) 3 (0, 0)) from by have := heap_alloc_new (w1.alloc (.cells #[.slice none 0 0] 103)) (.cells #[.int .i64 x.b, .int .i64 x.c, .int .i64 x.d, .int .i64 x.m0, .int .i64 x.m1, .int .i64 x.m2] 3); simpa [NW8] using this)
  have hlast := c6
  clear b1 hb
  go_wp2_with fail
  refine (put_int_c w1.heap.size (w1.heap.size + 1) 6 6 [x.b, x.c, x.d, x.m0, x.m1, x.m2] [] w1.heap.size _ (0, 0) HW.out HQ.out (fun z hz => HF.out z (by simp [W7.list] at hz ⊢; omega)) rfl (by omega) (by simp)).mono ?_
  rintro e w2 ⟨rfl, q2, b2, k2⟩
  have hz2 := b2.size
  have d6 := (b2.cell (p := ⟨w.heap.size, 6, none⟩) (show w.heap.size < w1.heap.size by omega)).trans (show ((w1.alloc (.cells #[.slice none 0 0] 103)).alloc (.cells #[.int .i64 x.b, .int .i64 x.c, .int .i64 x.d, .int .i64 x.m0, .int .i64 x.m1, .int .i64 x.m2] 3)).cell? ⟨w.heap.size, 6, none⟩ = some (.int .i64 x.p) from by rw [World.cell?_alloc_lt _ _ _ (by simp; omega), World.cell?_alloc_lt _ _ _ (by omega)]; exact hlast)
  have B2 := Lib.hid (show Below w1.heap.size w1 w2 from (((Below.refl _ _).alloc (Nat.le_refl _) _).alloc (by simp) _).trans b2)
  have Q2 := Lib.hid (q2.below ((Below.refl _ _).alloc (Nat.le_refl _) (.cells #[.int .i64 x.p] 2)) (Nat.le_refl _))
  have HQ2 := Lib.hid (show (w2.alloc (.cells #[.int .i64 x.p] 2)).heap[w2.heap.size]? = some (.cells (NW8 [x.p]) 2 (0, 0)) from heap_alloc_new w2 _)
  clear q2 b2 k2 c0 c1 c2 c3 c4 c5 c6 hlast
  go_wp2_with fail
  refine (put_int64_c w1.heap.size w2.heap.size 1 1 [x.p] _ w1.heap.size _ (0, 0) Q2.out HQ2.out (fun z hz => HF.out z (by simp [W7.list] at hz ⊢; omega)) rfl (by omega) (by have := encs_le [x.b, x.c, x.d, x.m0, x.m1, x.m2]; simp at this ⊢; omega)).mono ?_
  rintro e w3 ⟨rfl, q3, b3, k3⟩
  have Q3 := Lib.hid q3
  have B3 := Lib.hid (show Below w1.heap.size w1 w3 from (B2.out.alloc B2.out.size _).trans b3)
  clear q3 b3 k3 d6
  have hlen : (([] : List UInt8) ++ encs [x.b, x.c, x.d, x.m0, x.m1, x.m2] ++ encs [x.p]).length ≤ 1000 := by
    have h1 := encs_le [x.b, x.c, x.d, x.m0, x.m1, x.m2]
    have h2 := encs_le [x.p]
    simp only [List.length_append, List.length_cons, List.length_nil] at *
    omega
  have HLN := Lib.hid hlen
  clear hlen
  go_wp2_with fail
  refine (wbytes_c _ _ _ _ Q3.out (by have := HLN.out; omega)).mono ?_
  rintro e w4 ⟨v4, rfl, q4, b4⟩
  have hz3 := B3.out.size
  have Q4 := Lib.hid q4
  have B4 := Lib.hid (B1.out.trans ((B3.out.trans (b4.mono hz3)).mono (by omega)))
  clear q4 b4
  go_wp2
  go_ret2
  refine ⟨v4, rfl, ?_, B4.out⟩
  have := Q4.out.mono (base' := w.heap.size) (by omega)
  rw [List.nil_append, ← encs_app] at this
  exact this
theorem quiet_left {P : Program} {f : FuncId} {args : Array Value} {w : World} {n : Nat} {v : Value}
    (h : Calls P f args (w.drewN n) fun e w' => e = .returned v ∧ w.drewN n = w') : Calls P f args (w.drewN n) fun e w'' => e = .returned v ∧ ∃ m, w'' = w.drewN m :=
  h.mono fun _ _ ⟨he, hm⟩ => ⟨he, n, hm.symm⟩
/-- Which operations may be, as the program asks. -/
def mayOT (o : O5) : Bool := inB o.kind 1 6 && inB o.book 1 200 && (if o.kind = 1 then inB o.units 1 1000 else o.units == 0) && (if o.kind = 4 then inB o.cust 0 3 else o.cust == 0) && (if o.kind = 4 then inB o.amount 0 1099511627776 else o.amount == 0)
theorem mayOT_is (o : O5) : mayOT o = decide (MayO o) := by
  obtain ⟨k, b, u, c, a⟩ := o
  rw [Bool.eq_iff_iff, decide_eq_true_eq]
  unfold mayOT MayO UnitsO MoneyO inB
  simp only
  by_cases h1 : k = 1
  · simp [h1]; omega
  · by_cases h4 : k = 4
    · simp [h4]; omega
    · simp [h1, h4]; omega
end Go.Proofs.Ytplgodfhhlnojaa

/- slices.Equal of bytes, and want.some, walked. -/
namespace Go.Proofs.Ytplgodfhhlnojaa
open Go.RowKit
/-- How far two lists are alike. -/
def alikeTo (a b : List UInt8) (k : Nat) : Prop := a.take k = b.take k
theorem alike_next {a b : List UInt8} {k : Nat} (h : alikeTo a b k) (ha : k < a.length) (hb : k < b.length) (he : a[k] = b[k]) : alikeTo a b (k + 1) := by
  unfold alikeTo at *
  rw [List.take_succ_eq_append_getElem ha, List.take_succ_eq_append_getElem hb, h, he]
set_option maxRecDepth 100000 in
set_option maxHeartbeats 2000000 in
theorem equal_c (A B : Option Addr) (n m c d : Nat) (a b : List UInt8) (w : World) (D E : Nat) (ha : Rd w D 1 A n (B8 a)) (hb : Rd w E 1 B m (B8 b)) (hn : n ≤ 1000000000000) (hm : m ≤ 1000000000000) (r : Bool) (hr : decide (a = b) = r) :
    Calls Try.prog 81 #[.slice A n c, .slice B m d] w fun e w' => e = .returned (.bool r) ∧ ∃ q, w' = w.drewN q := by
  have hla : a.length = n := by have := ha.1; rw [B8_len] at this; omega
  have hlb : b.length = m := by have := hb.1; rw [B8_len] at this; omega
  have HA := Lib.hid ha
  have HB := Lib.hid hb
  have HLA := Lib.hid hla
  have HLB := Lib.hid hlb
  have HR := Lib.hid hr
  clear ha hb hla hlb hr
  by_cases hnm : n = m
  · subst hnm
    go_enter Try.func81, Try.ntmps81
    go_wp2
    go_loopw [13] (fun i wr => ∃ k : Nat, k ≤ n ∧ i = .int .i64 k ∧ Hid (alikeTo a b k ∧ ∃ q, wr = w.drewN q)) (fun i _ => n - (intOf i).toNat)
    case atStart => exact ⟨0, by omega, rfl, rfl, 0, rfl⟩
    case round =>
      obtain ⟨k, hk, rfl, HS⟩ := hrel
      obtain ⟨hal, q, hq⟩ := HS.out
      subst hq
      have HAL := Lib.hid hal
      clear HS hal
      by_cases hlt : k < n
      · obtain ⟨ad, hl, rfl, _, hc⟩ := HA.out.byte hlt
        obtain ⟨bd, hl2, rfl, _, hc2⟩ := HB.out.byte hlt
        have hi0 : (0 : Int) ≤ (k : Int) := by omega
        have hi1 : (k : Int) < (n : Int) := by omega
        obtain ⟨x, hx⟩ : ∃ x, a[k] = x := ⟨_, rfl⟩
        obtain ⟨y, hy⟩ : ∃ y, b[k] = y := ⟨_, rfl⟩
        rw [hx] at hc
        rw [hy] at hc2
        have HX := Lib.hid hx
        have HY := Lib.hid hy
        clear hx hy
        by_cases hxy : x = y
        · subst hxy
          go_wp2
          go_quiet (fail)
          go_wp2
          go_roundw
          case rel => exact ⟨k + 1, by omega, by go_num, alike_next HAL.out hl hl2 (by rw [HX.out, HY.out]), _, rfl⟩
          case measure => simp [intOf]; omega
        · have hne : ((x.toNat : Int) == (y.toNat : Int)) = false := beq_eq_false_iff_ne.2 (fun h => hxy (UInt8.toNat_inj.mp (by omega)))
          have hne2 : ((x.toNat : Int) != (y.toNat : Int)) = true := by unfold bne; rw [hne]; rfl
          have HF := Lib.hid (show r = false from by rw [← HR.out]; exact decide_eq_false (fun h => hxy (by rw [← HX.out, ← HY.out]; subst h; rfl)))
          clear hxy
          go_wp2
          go_quiet (fail)
          go_wp2
          go_ret
          exact ⟨ret_bool HF.out.symm, q + nq, by first | rfl | rw [World.drewN_drewN]⟩
      · have HT := Lib.hid (show r = true from by
          rw [← HR.out]
          refine decide_eq_true ?_
          have := HAL.out
          unfold alikeTo at this
          rwa [List.take_of_length_le (by have := HLA.out; omega), List.take_of_length_le (by have := HLB.out; omega)] at this)
        go_wp2
        go_ret
        exact ⟨ret_bool HT.out.symm, _, rfl⟩
  · have hb1 : ((n : Int) == (m : Int)) = false := beq_eq_false_iff_ne.2 (by omega)
    have HF := Lib.hid (show r = false from by rw [← HR.out]; exact decide_eq_false (fun h => hnm (by rw [← HLA.out, ← HLB.out, h])))
    clear hnm
    go_enter Try.func81, Try.ntmps81
    go_wp2
    go_ret
    exact ⟨ret_bool HF.out.symm, 0, rfl⟩
/-- A number that is read. -/
def rS (s : Rs) : Int × Rs := rInt (-4611686018427387904) 4611686018427387904 s
set_option maxRecDepth 100000 in
theorem some_c (g : Nat) (s s' : Rs) (v : Int) (w : World) (D : Nat) (h : RP w D g s) (hD : D ≤ w.heap.size) (e : rS s = (v, s')) : Calls Try.prog 118 #[.pointer (some ⟨g, 0, none⟩)] w (RPost w D g (.int .i64 v) s') := by
  have HC := Lib.hid (rint_c g (-4611686018427387904) 4611686018427387904 s w D h hD)
  unfold rS at e
  rw [e] at HC
  unfold RPost at HC ⊢
  clear e h
  go_enter Try.func118, Try.ntmps118
  go_wp2_with fail
  refine HC.out.mono ?_
  rintro e w1 ⟨rfl, h1, g1⟩
  have H1 := Lib.hid h1
  have G1 := Lib.hid g1
  clear h1 g1
  go_wp2
  go_ret
  exact ⟨rfl, H1.out, G1.out⟩
end Go.Proofs.Ytplgodfhhlnojaa

/- A reading under way: words. -/
namespace Go.Proofs.Ytplgodfhhlnojaa
open Go.RowKit
/-- A want that is read, whatever stands there. -/
def rW (s : Rs) : W7 × Rs :=
  (⟨(rS s).1, (rS (rS s).2).1, (rS (rS (rS s).2).2).1, (rS (rS (rS (rS s).2).2).2).1, (rS (rS (rS (rS (rS s).2).2).2).2).1, (rS (rS (rS (rS (rS (rS s).2).2).2).2).2).1, (rS (rS (rS (rS (rS (rS (rS s).2).2).2).2).2).2).1⟩, (rS (rS (rS (rS (rS (rS (rS s).2).2).2).2).2).2).2)
theorem set_at {w : World} {g i : Nat} {cs : Array Value} {t : TypeId} {m : Nat × Nat} {u : Value} (h : w.heap[g]? = some (.cells cs t m)) : (w.setCell ⟨g, i, none⟩ u).heap[g]? = some (.cells (cs.setIfInBounds i u) t m) := by
  simp [World.setCell, Array.getElem?_modify, h]
/-- A reading under way: the reader, a result's block, a variable's block. -/
structure GS (w wk : World) (D g : Nat) (s : Rs) (R T : Nat) (zs cs : Array Value) (t : TypeId) : Prop where
  r : RP wk D g s
  gr : w.grownBy wk (some g)
  hR : wk.heap[R]? = some (.cells zs t (0, 0))
  hT : wk.heap[T]? = some (.cells cs t (0, 0))
  wR : w.heap.size ≤ R
  wT : w.heap.size ≤ T
  dT : D ≤ T
  dD : D ≤ wk.heap.size
  gl : g < w.heap.size
  ne : R ≠ T
section
variable {w wk w2 : World} {D g R T : Nat} {s s' : Rs} {zs cs : Array Value} {t : TypeId}
theorem GS.call (h : GS w wk D g s R T zs cs t) (q : RP w2 D g s') (hg : wk.grownBy w2 (some g)) : GS w w2 D g s' R T zs cs t :=
  ⟨q, only_trans h.gr hg, (hg.block R (blk_lt h.hR) (by intro e; injection e with e; have := h.wR; have := h.gl; omega)).trans h.hR, (hg.block T (blk_lt h.hT) (by intro e; injection e with e; have := h.wT; have := h.gl; omega)).trans h.hT, h.wR, h.wT, h.dT, Nat.le_trans h.dD hg.size, h.gl, h.ne⟩
theorem GS.store (h : GS w wk D g s R T zs cs t) (i : Nat) (u : Value) : GS w (wk.setCell ⟨T, i, none⟩ u) D g s R T zs (cs.setIfInBounds i u) t :=
  ⟨h.r.below ((Below.refl _ _).setCell (p := ⟨T, i, none⟩) h.dT u), only_setCell (p := ⟨T, i, none⟩) h.gr (.inr h.wT) u, (set_other h.ne).trans h.hR, set_at h.hT, h.wR, h.wT, h.dT, by have := h.dD; simpa [World.setCell] using this, h.gl, h.ne⟩
end
theorem RP.setR {w : World} {D g R i : Nat} {s : Rs} {u : Value} (h : RP w D g s) (hR : D ≤ R) : RP (w.setCell ⟨R, i, none⟩ u) D g s := h.below ((Below.refl _ _).setCell (p := ⟨R, i, none⟩) hR u)
theorem only_setR {a w : World} {g R i : Nat} {u : Value} (h : a.grownBy w (some g)) (hR : a.heap.size ≤ R) : a.grownBy (w.setCell ⟨R, i, none⟩ u) (some g) := only_setCell (p := ⟨R, i, none⟩) h (.inr hR) u
end Go.Proofs.Ytplgodfhhlnojaa

/- want.MayOp, walked. -/
namespace Go.Proofs.Ytplgodfhhlnojaa
open Go.RowKit
theorem quiet_add_left {P : Program} {f : FuncId} {args : Array Value} {w : World} {a n : Nat} {v : Value}
    (h : Calls P f args (w.drewN (a + n)) fun e w' => e = .returned v ∧ w.drewN (a + n) = w') :
    Calls P f args (w.drewN (a + n)) fun e w'' => e = .returned v ∧ ∃ m, w'' = w.drewN (a + m) :=
  h.mono fun _ _ ⟨he, hm⟩ => ⟨he, n, hm.symm⟩
set_option maxRecDepth 100000 in
set_option maxHeartbeats 8000000 in
theorem mayop_c (o : O5) (w : World) : Calls Try.prog 92 #[o.val] w fun e w' => e = .returned (.bool (decide (MayO o))) ∧ Below w.heap.size w w' := by
  rw [← mayOT_is]
  obtain ⟨k, b, u, c, a⟩ := o
  unfold O5.val
  obtain ⟨r, hr⟩ : ∃ r, mayOT ⟨k, b, u, c, a⟩ = r := ⟨_, rfl⟩
  rw [hr]
  unfold mayOT at hr
  simp only at hr
  obtain ⟨qk, hqk⟩ : ∃ q, inB k 1 6 = q := ⟨_, rfl⟩
  obtain ⟨qb, hqb⟩ : ∃ q, inB b 1 200 = q := ⟨_, rfl⟩
  obtain ⟨eu, heu⟩ : ∃ q, (u == 0) = q := ⟨_, rfl⟩
  obtain ⟨ec, hec⟩ : ∃ q, (c == 0) = q := ⟨_, rfl⟩
  obtain ⟨ea, hea⟩ : ∃ q, (a == 0) = q := ⟨_, rfl⟩
  obtain ⟨qu, hqu⟩ : ∃ q, inB u 1 1000 = q := ⟨_, rfl⟩
  obtain ⟨qc, hqc⟩ : ∃ q, inB c 0 3 = q := ⟨_, rfl⟩
  obtain ⟨qa, hqa⟩ : ∃ q, inB a 0 1099511627776 = q := ⟨_, rfl⟩
  rw [hqk, hqb, heu, hec, hea, hqu, hqc, hqa] at hr
  have CK := fun w => Lib.hid (hqk ▸ within_c k 1 6 w)
  have CB := fun w => Lib.hid (hqb ▸ within_c b 1 200 w)
  have CU := fun w => Lib.hid (hqu ▸ within_c u 1 1000 w)
  have CC := fun w => Lib.hid (hqc ▸ within_c c 0 3 w)
  have CA := fun w => Lib.hid (hqa ▸ within64_c a 0 1099511627776 w)
  have HR := Lib.hid hr
  clear hr hqk hqb hqu hqc hqa
  have hk : k = 1 ∨ (k ≠ 1 ∧ k = 4) ∨ (k ≠ 1 ∧ k ≠ 4) := by omega
  rcases hk with rfl | ⟨hk1, rfl⟩ | ⟨hk1, hk4⟩
  · go_enter Try.func92, Try.ntmps92
    go_wp2
    go_quiet (fail)
    clear heu hec hea
    go_wp2_with (first | (go_at_call 101; first | ((with_reducible refine ((CU _).out).mono ?_); rintro e w' ⟨rfl, rfl⟩) | ((with_reducible refine ((CK _).out).mono ?_); rintro e w' ⟨rfl, rfl⟩) | ((with_reducible refine ((CB _).out).mono ?_); rintro e w' ⟨rfl, rfl⟩)))
    all_goals
      go_ret
      refine ⟨ret_bool ?_, below_drewN (int_abs _ _) _⟩
      rw [← HR.out]
      first | rfl | (simp_all; done)
  · have hk1b : ((4 : Int) == 1) = false := rfl
    go_enter Try.func92, Try.ntmps92
    go_wp2
    go_quiet (fail)
    clear heu hec hea
    go_wp2_with fail
    go_quiet (first | (go_at_call 101; exact quiet_add_left (CC _).out) | (go_at_call 102; exact quiet_add_left (CA _).out) | (go_at_call 101; exact quiet_left (CC _).out) | (go_at_call 102; exact quiet_left (CA _).out))
    go_wp2_with (first | (go_at_call 101; first | ((with_reducible refine ((CU _).out).mono ?_); rintro e w' ⟨rfl, rfl⟩) | ((with_reducible refine ((CK _).out).mono ?_); rintro e w' ⟨rfl, rfl⟩) | ((with_reducible refine ((CB _).out).mono ?_); rintro e w' ⟨rfl, rfl⟩)))
    all_goals
      go_ret
      refine ⟨ret_bool ?_, below_drewN (int_abs _ _) _⟩
      rw [← HR.out]
      first | rfl | (simp_all; done)
  · have hk1b : (k == 1) = false := beq_eq_false_iff_ne.2 hk1
    have hk4b : (k == 4) = false := beq_eq_false_iff_ne.2 hk4
    have HK1 := Lib.hid hk1
    have HK4 := Lib.hid hk4
    rw [if_neg hk1, if_neg hk4, if_neg hk4] at HR
    clear hk1 hk4
    go_enter Try.func92, Try.ntmps92
    go_wp2
    go_quiet (fail)
    clear heu hec hea
    go_wp2_with (first | (go_at_call 101; first | ((with_reducible refine ((CU _).out).mono ?_); rintro e w' ⟨rfl, rfl⟩) | ((with_reducible refine ((CK _).out).mono ?_); rintro e w' ⟨rfl, rfl⟩) | ((with_reducible refine ((CB _).out).mono ?_); rintro e w' ⟨rfl, rfl⟩)))
    all_goals
      go_ret
      refine ⟨ret_bool ?_, below_drewN (int_abs _ _) _⟩
      rw [← HR.out]
      first | rfl | (simp_all; done)
end Go.Proofs.Ytplgodfhhlnojaa

/- want.PutOp, walked. -/
namespace Go.Proofs.Ytplgodfhhlnojaa
open Go.RowKit
theorem may_isO (x : O5) (b : Bool) (h : decide (MayO x) = b) (w : World) : Calls Try.prog 92 #[x.val] w fun e w' => e = .returned (.bool b) ∧ Below w.heap.size w w' := h ▸ mayop_c x w
set_option maxRecDepth 100000 in
set_option maxHeartbeats 2000000 in
theorem encO_no (x : O5) (w : World) (h : ¬ MayO x) : Calls Try.prog 90 #[x.val] w fun e w' => e = .returned (.tuple #[.slice none 0 0, .int .i64 1]) ∧ Below w.heap.size w w' := by
  have HM := Lib.hid (may_isO x false (decide_eq_false h))
  clear h
  unfold O5.val at *
  go_enter Try.func90, Try.ntmps90
  go_wp2_with (go_at_call 92; refine (HM.out _).mono ?_; rintro e w1 ⟨rfl, b1⟩; have B1 := Lib.hid (show Below w.heap.size w w1 from ((Below.refl _ _).alloc (Nat.le_refl _) _).trans (b1.mono (by simp))); clear b1)
  go_ret2
  exact ⟨rfl, B1.out⟩
set_option maxRecDepth 100000 in
set_option maxHeartbeats 2000000 in
theorem encO_yes (x : O5) (w : World) (h : MayO x) (hf : ∀ z ∈ O5.list x, In64 z) : Calls Try.prog 90 #[x.val] w (RBy w (encO x) 0) := by
  have HM := Lib.hid (may_isO x true (decide_eq_true h))
  have HF := Lib.hid hf
  clear h hf
  unfold O5.val at *
  go_enter Try.func90, Try.ntmps90
  go_wp2_with fail
  refine (HM.out _).mono ?_
  rintro e w1 ⟨rfl, b1⟩
  have hb := (b1.block w.heap.size (by simp)).trans (heap_alloc_new w (.cells #[.int .i64 x.kind, .int .i64 x.book, .int .i64 x.units, .int .i64 x.cust, .int .i64 x.amount] 28))
  have c0 : w1.cell? ⟨w.heap.size, 0, none⟩ = some (.int .i64 x.kind) := by rw [cellsW hb]; rfl
  have c1 : w1.cell? ⟨w.heap.size, 1, none⟩ = some (.int .i64 x.book) := by rw [cellsW hb]; rfl
  have c2 : w1.cell? ⟨w.heap.size, 2, none⟩ = some (.int .i64 x.units) := by rw [cellsW hb]; rfl
  have c3 : w1.cell? ⟨w.heap.size, 3, none⟩ = some (.int .i64 x.cust) := by rw [cellsW hb]; rfl
  have c4 : w1.cell? ⟨w.heap.size, 4, none⟩ = some (.int .i64 x.amount) := by rw [cellsW hb]; rfl
  have hz1 : w.heap.size + 1 ≤ w1.heap.size := by have := b1.size; simpa using this
  have hlt1 : w.heap.size < w1.heap.size := by omega
  have hne1 : ¬ w.heap.size = w1.heap.size := by omega
  have B1 := Lib.hid (show Below w.heap.size w w1 from ((Below.refl _ _).alloc (Nat.le_refl _) _).trans (b1.mono (by simp)))
  have HW := Lib.hid ((WB.new w1 w1.heap.size (Nat.le_refl _)).below ((Below.refl _ _).alloc (Nat.le_refl _) (.cells #[.int .i64 x.kind, .int .i64 x.book, .int .i64 x.units, .int .i64 x.cust] 3)) (Nat.le_refl _))
  have HQ := Lib.hid (show ((w1.alloc (.cells #[.slice none 0 0] 103)).alloc (.cells #[.int .i64 x.kind, .int .i64 x.book, .int .i64 x.units, .int .i64 x.cust] 3)).heap[w1.heap.size + 1]? = some (.cells (NW8 [x.kind, x.book, x.units, x.cust]) 3 (0, 0)) from by have := heap_alloc_new (w1.alloc (.cells #[.slice none 0 0] 103)) (.cells #[.int .i64 x.kind, .int .i64 x.book, .int .i64 x.units, .int .i64 x.cust] 3); simpa [NW8] using this)
  have hlast := c4
  clear b1 hb
  go_wp2_with fail
  refine (put_int_c w1.heap.size (w1.heap.size + 1) 4 4 [x.kind, x.book, x.units, x.cust] [] w1.heap.size _ (0, 0) HW.out HQ.out (fun z hz => HF.out z (by simp [O5.list] at hz ⊢; omega)) rfl (by omega) (by simp)).mono ?_
  rintro e w2 ⟨rfl, q2, b2, k2⟩
  have hz2 := b2.size
  have d4 := (b2.cell (p := ⟨w.heap.size, 4, none⟩) (show w.heap.size < w1.heap.size by omega)).trans (show ((w1.alloc (.cells #[.slice none 0 0] 103)).alloc (.cells #[.int .i64 x.kind, .int .i64 x.book, .int .i64 x.units, .int .i64 x.cust] 3)).cell? ⟨w.heap.size, 4, none⟩ = some (.int .i64 x.amount) from by rw [World.cell?_alloc_lt _ _ _ (by simp; omega), World.cell?_alloc_lt _ _ _ (by omega)]; exact hlast)
  have B2 := Lib.hid (show Below w1.heap.size w1 w2 from (((Below.refl _ _).alloc (Nat.le_refl _) _).alloc (by simp) _).trans b2)
  have Q2 := Lib.hid (q2.below ((Below.refl _ _).alloc (Nat.le_refl _) (.cells #[.int .i64 x.amount] 2)) (Nat.le_refl _))
  have HQ2 := Lib.hid (show (w2.alloc (.cells #[.int .i64 x.amount] 2)).heap[w2.heap.size]? = some (.cells (NW8 [x.amount]) 2 (0, 0)) from heap_alloc_new w2 _)
  clear q2 b2 k2 c0 c1 c2 c3 c4 hlast
  go_wp2_with fail
  refine (put_int64_c w1.heap.size w2.heap.size 1 1 [x.amount] _ w1.heap.size _ (0, 0) Q2.out HQ2.out (fun z hz => HF.out z (by simp [O5.list] at hz ⊢; omega)) rfl (by omega) (by have := encs_le [x.kind, x.book, x.units, x.cust]; simp at this ⊢; omega)).mono ?_
  rintro e w3 ⟨rfl, q3, b3, k3⟩
  have Q3 := Lib.hid q3
  have B3 := Lib.hid (show Below w1.heap.size w1 w3 from (B2.out.alloc B2.out.size _).trans b3)
  clear q3 b3 k3 d4
  have hlen : (([] : List UInt8) ++ encs [x.kind, x.book, x.units, x.cust] ++ encs [x.amount]).length ≤ 1000 := by
    have h1 := encs_le [x.kind, x.book, x.units, x.cust]
    have h2 := encs_le [x.amount]
    simp only [List.length_append, List.length_cons, List.length_nil] at *
    omega
  have HLN := Lib.hid hlen
  clear hlen
  go_wp2_with fail
  refine (wbytes_c _ _ _ _ Q3.out (by have := HLN.out; omega)).mono ?_
  rintro e w4 ⟨v4, rfl, q4, b4⟩
  have hz3 := B3.out.size
  have Q4 := Lib.hid q4
  have B4 := Lib.hid (B1.out.trans ((B3.out.trans (b4.mono hz3)).mono (by omega)))
  clear q4 b4
  go_wp2
  go_ret2
  refine ⟨v4, rfl, ?_, B4.out⟩
  have := Q4.out.mono (base' := w.heap.size) (by omega)
  rw [List.nil_append, ← encs_app] at this
  exact this
end Go.Proofs.Ytplgodfhhlnojaa

/- want.GetOp's reading, walked. -/
namespace Go.Proofs.Ytplgodfhhlnojaa
open Go.RowKit
/-- An operation that is read, whatever stands there. -/
def rO (s : Rs) : O5 × Rs :=
  (⟨(rS s).1, (rS ((rS s).2)).1, (rS ((rS (rS s).2).2)).1, (rS ((rS (rS (rS s).2).2).2)).1, (rS ((rS (rS (rS (rS s).2).2).2).2)).1⟩, (rS (rS (rS (rS (rS s).2).2).2).2).2)
set_option maxRecDepth 100000 in
set_option maxHeartbeats 4000000 in
theorem get1O_c (g : Nat) (s : Rs) (w : World) (D : Nat) (h : RP w D g s) (hD : D ≤ w.heap.size) :
    Calls Try.prog 117 #[.pointer (some ⟨g, 0, none⟩)] w (RPost w D g (rO s).1.val (rO s).2) := by
  obtain ⟨v1, s1, e1⟩ : ∃ v t, rS s = (v, t) := ⟨_, _, rfl⟩
  obtain ⟨v2, s2, e2⟩ : ∃ v t, rS s1 = (v, t) := ⟨_, _, rfl⟩
  obtain ⟨v3, s3, e3⟩ : ∃ v t, rS s2 = (v, t) := ⟨_, _, rfl⟩
  obtain ⟨v4, s4, e4⟩ : ∃ v t, rS s3 = (v, t) := ⟨_, _, rfl⟩
  obtain ⟨v5, s5, e5⟩ : ∃ v t, rS s4 = (v, t) := ⟨_, _, rfl⟩
  have hw : rO s = (⟨v1, v2, v3, v4, v5⟩, s5) := by unfold rO; simp only [e1, e2, e3, e4, e5]
  rw [hw]
  have hgl := h.lt
  have H := Lib.hid h
  have E1 := Lib.hid e1
  have E2 := Lib.hid e2
  have E3 := Lib.hid e3
  have E4 := Lib.hid e4
  have E5 := Lib.hid e5
  clear h hw e1 e2 e3 e4 e5
  unfold O5.val RPost
  simp only
  go_enter Try.func117, Try.ntmps117
  go_wp2_with fail
  refine (some_c g s s1 v1 _ D (H.out.alloc hD _) (by simp; omega) E1.out).mono ?_
  rintro e wa1 ⟨rfl, q1, g1⟩
  have hz1 : w.heap.size + 1 ≤ wa1.heap.size := by have := g1.size; simpa using this
  have B1 := Lib.hid ((g1.block w.heap.size (by simp) (by intro e; injection e with e; omega)).trans (heap_alloc_new w _))
  have Q1 := Lib.hid q1
  have G1 := Lib.hid (only_trans (only_alloc (World.grownBy.refl w (some g)) _) g1)
  clear q1 g1
  go_wp2_with fail
  refine (some_c g s1 s2 v2 _ D Q1.out (by omega) E2.out).mono ?_
  rintro e wa2 ⟨rfl, q2, g2⟩
  have hz2 := g2.size
  have B2 := Lib.hid ((g2.block w.heap.size (by omega) (by intro e; injection e with e; omega)).trans B1.out)
  have Q2 := Lib.hid q2
  have G2 := Lib.hid (only_trans G1.out g2)
  clear q2 g2
  go_wp2_with fail
  refine (some_c g s2 s3 v3 _ D Q2.out (by omega) E3.out).mono ?_
  rintro e wa3 ⟨rfl, q3, g3⟩
  have hz3 := g3.size
  have B3 := Lib.hid ((g3.block w.heap.size (by omega) (by intro e; injection e with e; omega)).trans B2.out)
  have Q3 := Lib.hid q3
  have G3 := Lib.hid (only_trans G2.out g3)
  clear q3 g3
  go_wp2_with fail
  refine (some_c g s3 s4 v4 _ D Q3.out (by omega) E4.out).mono ?_
  rintro e wa4 ⟨rfl, q4, g4⟩
  have hz4 := g4.size
  have B4 := Lib.hid ((g4.block w.heap.size (by omega) (by intro e; injection e with e; omega)).trans B3.out)
  have Q4 := Lib.hid q4
  have G4 := Lib.hid (only_trans G3.out g4)
  clear q4 g4
  go_wp2_with fail
  refine (some_c g s4 s5 v5 _ D Q4.out (by omega) E5.out).mono ?_
  rintro e wa5 ⟨rfl, q5, g5⟩
  have hz5 := g5.size
  have B5 := Lib.hid ((g5.block w.heap.size (by omega) (by intro e; injection e with e; omega)).trans B4.out)
  have Q5 := Lib.hid q5
  have G5 := Lib.hid (only_trans G4.out g5)
  clear q5 g5
  have hlt : w.heap.size < wa5.heap.size := by omega
  have z0 : wa5.cell? ⟨w.heap.size, 0, none⟩ = some (.int .i64 0) := by rw [cellsAt B5.out]; rfl
  have y0 : wa5.frozen? ⟨w.heap.size, 0, none⟩ = false := free0 B5.out
  have z1 : wa5.cell? ⟨w.heap.size, 1, none⟩ = some (.int .i64 0) := by rw [cellsAt B5.out]; rfl
  have y1 : wa5.frozen? ⟨w.heap.size, 1, none⟩ = false := free0 B5.out
  have z2 : wa5.cell? ⟨w.heap.size, 2, none⟩ = some (.int .i64 0) := by rw [cellsAt B5.out]; rfl
  have y2 : wa5.frozen? ⟨w.heap.size, 2, none⟩ = false := free0 B5.out
  have z3 : wa5.cell? ⟨w.heap.size, 3, none⟩ = some (.int .i64 0) := by rw [cellsAt B5.out]; rfl
  have y3 : wa5.frozen? ⟨w.heap.size, 3, none⟩ = false := free0 B5.out
  have z4 : wa5.cell? ⟨w.heap.size, 4, none⟩ = some (.int .i64 0) := by rw [cellsAt B5.out]; rfl
  have y4 : wa5.frozen? ⟨w.heap.size, 4, none⟩ = false := free0 B5.out
  go_wp2
  refine bodyPost_ret (v := .agg #[.int .i64 v1, .int .i64 v2, .int .i64 v3, .int .i64 v4, .int .i64 v5]) (by simp [results, Try.results117, go_sem, z0, z1, z2, z3, z4]) rfl ⟨rfl, ?_, ?_⟩
  · iterate 5 (refine RP.setR ?_ hD)
    exact Q5.out
  · iterate 5 (refine only_setR ?_ (Nat.le_refl _))
    exact G5.out
end Go.Proofs.Ytplgodfhhlnojaa

/- want.Get and want.GetOp, walked. -/
namespace Go.Proofs.Ytplgodfhhlnojaa
open Go.RowKit
theorem below_setR {a w : World} {D R i : Nat} {u : Value} (h : Below D a w) (hR : D ≤ R) : Below D a (w.setCell ⟨R, i, none⟩ u) := h.setCell (p := ⟨R, i, none⟩) hR u
theorem rS_in (s : Rs) : In64 (rS s).1 := by
  unfold rS rInt
  cases s with
  | none => exact ⟨by simp, by simp⟩
  | some l =>
    cases h : dec (-4611686018427387904) 4611686018427387904 l with
    | none => simp only [h]; exact ⟨by simp, by simp⟩
    | some p => obtain ⟨v, r⟩ := p; simp only [h]; have := dec_is h; exact ⟨this.2.2.2.1, this.2.2.2.2⟩
end Go.Proofs.Ytplgodfhhlnojaa

/- What want.Get and want.GetOp tell, in plain lists. -/
namespace Go.Proofs.Ytplgodfhhlnojaa
open Go.RowKit
theorem rInt_back {lo hi v : Int} {s : Rs} {r : List UInt8} (h : rInt lo hi s = (v, some r)) : s = some (enc v ++ r) ∧ lo ≤ v ∧ v ≤ hi ∧ In64 v := by
  unfold rInt at h
  cases s with
  | none => cases h
  | some l =>
    cases h' : dec lo hi l with
    | none => simp only [h'] at h; cases h
    | some p =>
      obtain ⟨u, q⟩ := p
      simp only [h'] at h
      injection h with h1 h2
      injection h2 with h2
      subst h1 h2
      have hd := dec_is h'
      exact ⟨by rw [← hd.1], hd.2.1, hd.2.2.1, hd.2.2.2⟩
theorem rInt_fwd {lo hi v : Int} (r : List UInt8) (h0 : In64 v) (hl : lo ≤ v) (hh : v ≤ hi) : rInt lo hi (some (enc v ++ r)) = (v, some r) := by
  unfold rInt
  simp only [dec_enc lo hi v r h0.1 h0.2 hl hh]
theorem rS_fwd {v : Int} (r : List UInt8) (hl : -4611686018427387904 ≤ v) (hh : v ≤ 4611686018427387904) : rS (some (enc v ++ r)) = (v, some r) := rInt_fwd r ⟨by omega, by omega⟩ hl hh
/-- A number, in the bounds of all. -/
def rF (s : Rs) : Int × Rs := rInt (-9223372036854775808) 9223372036854775807 s
theorem rF_fwd {v : Int} (r : List UInt8) (h : In64 v) : rF (some (enc v ++ r)) = (v, some r) := rInt_fwd r h h.1 h.2
theorem encs_inj (a : List Int) : ∀ (b : List Int) (r s : List UInt8), a.length = b.length → (∀ z ∈ a, In64 z) → (∀ z ∈ b, In64 z) → encs a ++ r = encs b ++ s → a = b ∧ r = s := by
  induction a with
  | nil =>
    intro b r s hl _ _ h
    have : b = [] := List.eq_nil_of_length_eq_zero (by simpa using hl.symm)
    subst this
    exact ⟨rfl, by simpa [encs] using h⟩
  | cons x a ih =>
    intro b r s hl ha hb h
    cases b with
    | nil => simp at hl
    | cons y b =>
      unfold encs at h
      rw [List.flatMap_cons, List.flatMap_cons, List.append_assoc, List.append_assoc] at h
      obtain ⟨e1, e2⟩ := enc_inj (ha x (by simp)) (hb y (by simp)) h
      obtain ⟨e3, e4⟩ := ih b r s (by simpa using hl) (fun z hz => ha z (by simp [hz])) (fun z hz => hb z (by simp [hz])) e2
      exact ⟨by rw [e1, e3], e4⟩
theorem encW_split (x : W7) (r : List UInt8) : encW x ++ r = enc x.b ++ (enc x.c ++ (enc x.d ++ (enc x.m0 ++ (enc x.m1 ++ (enc x.m2 ++ (enc x.p ++ (r))))))) := by
  unfold encW W7.list encs
  simp
theorem rW_fwd (x : W7) (r : List UInt8) (h : ∀ z ∈ x.list, -4611686018427387904 ≤ z ∧ z ≤ 4611686018427387904) : rW (some (encW x ++ r)) = (x, some r) := by
  rw [encW_split]
  have h' : (-4611686018427387904 ≤ x.b ∧ x.b ≤ 4611686018427387904) ∧ (-4611686018427387904 ≤ x.c ∧ x.c ≤ 4611686018427387904) ∧ (-4611686018427387904 ≤ x.d ∧ x.d ≤ 4611686018427387904) ∧ (-4611686018427387904 ≤ x.m0 ∧ x.m0 ≤ 4611686018427387904) ∧ (-4611686018427387904 ≤ x.m1 ∧ x.m1 ≤ 4611686018427387904) ∧ (-4611686018427387904 ≤ x.m2 ∧ x.m2 ≤ 4611686018427387904) ∧ (-4611686018427387904 ≤ x.p ∧ x.p ≤ 4611686018427387904) := ⟨h x.b (by simp [W7.list]), h x.c (by simp [W7.list]), h x.d (by simp [W7.list]), h x.m0 (by simp [W7.list]), h x.m1 (by simp [W7.list]), h x.m2 (by simp [W7.list]), h x.p (by simp [W7.list])⟩
  obtain ⟨h0, h1, h2, h3, h4, h5, h6⟩ := h'
  unfold rW
  simp only [rS_fwd _ h0.1 h0.2, rS_fwd _ h1.1 h1.2, rS_fwd _ h2.1 h2.2, rS_fwd _ h3.1 h3.2, rS_fwd _ h4.1 h4.2, rS_fwd _ h5.1 h5.2, rS_fwd _ h6.1 h6.2]
/-- The same, in the bounds of all. -/
def rTW (s : Rs) : W7 × Rs :=
  (⟨(rF s).1, (rF (rF s).2).1, (rF (rF (rF s).2).2).1, (rF (rF (rF (rF s).2).2).2).1, (rF (rF (rF (rF (rF s).2).2).2).2).1, (rF (rF (rF (rF (rF (rF s).2).2).2).2).2).1, (rF (rF (rF (rF (rF (rF (rF s).2).2).2).2).2).2).1⟩, (rF (rF (rF (rF (rF (rF (rF s).2).2).2).2).2).2).2)
theorem rTW_fwd (x : W7) (r : List UInt8) (h : ∀ z ∈ x.list, In64 z) : rTW (some (encW x ++ r)) = (x, some r) := by
  rw [encW_split]
  have h' : In64 x.b ∧ In64 x.c ∧ In64 x.d ∧ In64 x.m0 ∧ In64 x.m1 ∧ In64 x.m2 ∧ In64 x.p := ⟨h x.b (by simp [W7.list]), h x.c (by simp [W7.list]), h x.d (by simp [W7.list]), h x.m0 (by simp [W7.list]), h x.m1 (by simp [W7.list]), h x.m2 (by simp [W7.list]), h x.p (by simp [W7.list])⟩
  obtain ⟨h0, h1, h2, h3, h4, h5, h6⟩ := h'
  unfold rTW
  simp only [rF_fwd _ h0, rF_fwd _ h1, rF_fwd _ h2, rF_fwd _ h3, rF_fwd _ h4, rF_fwd _ h5, rF_fwd _ h6]
theorem rTW_back (l r : List UInt8) (h : (rTW (some l)).2 = some r) : l = encW (rTW (some l)).1 ++ r := by
  obtain ⟨v1, s1, e1⟩ : ∃ v t, rF (some l) = (v, t) := ⟨_, _, rfl⟩
  obtain ⟨v2, s2, e2⟩ : ∃ v t, rF s1 = (v, t) := ⟨_, _, rfl⟩
  obtain ⟨v3, s3, e3⟩ : ∃ v t, rF s2 = (v, t) := ⟨_, _, rfl⟩
  obtain ⟨v4, s4, e4⟩ : ∃ v t, rF s3 = (v, t) := ⟨_, _, rfl⟩
  obtain ⟨v5, s5, e5⟩ : ∃ v t, rF s4 = (v, t) := ⟨_, _, rfl⟩
  obtain ⟨v6, s6, e6⟩ : ∃ v t, rF s5 = (v, t) := ⟨_, _, rfl⟩
  obtain ⟨v7, s7, e7⟩ : ∃ v t, rF s6 = (v, t) := ⟨_, _, rfl⟩
  have hw : rTW (some l) = (⟨v1, v2, v3, v4, v5, v6, v7⟩, s7) := by unfold rTW; simp only [e1, e2, e3, e4, e5, e6, e7]
  rw [hw] at h ⊢
  simp only at h ⊢
  subst h
  obtain ⟨q7, _⟩ := rInt_back e7
  subst q7
  obtain ⟨q6, _⟩ := rInt_back e6
  subst q6
  obtain ⟨q5, _⟩ := rInt_back e5
  subst q5
  obtain ⟨q4, _⟩ := rInt_back e4
  subst q4
  obtain ⟨q3, _⟩ := rInt_back e3
  subst q3
  obtain ⟨q2, _⟩ := rInt_back e2
  subst q2
  obtain ⟨q1, _⟩ := rInt_back e1
  injection q1 with q1
  rw [q1, encW_split]
theorem MayW_small (x : W7) (h : MayW x) : ∀ z ∈ x.list, -4611686018427387904 ≤ z ∧ z ≤ 4611686018427387904 := by
  intro z hz
  unfold W7.list at hz
  simp only [List.mem_cons, List.not_mem_nil, or_false] at hz
  unfold MayW UnitsOk at h
  omega
theorem MayW_fits (x : W7) (h : MayW x) : ∀ z ∈ x.list, In64 z := fun z hz => ⟨by have := MayW_small x h z hz; omega, by have := MayW_small x h z hz; omega⟩
theorem encW_inj (x y : W7) (r s : List UInt8) (hx : ∀ z ∈ x.list, In64 z) (hy : ∀ z ∈ y.list, In64 z) (h : encW x ++ r = encW y ++ s) : x = y ∧ r = s := by
  obtain ⟨e1, e2⟩ := encs_inj x.list y.list r s rfl hx hy h
  obtain ⟨a0, a1, a2, a3, a4, a5, a6⟩ := x
  obtain ⟨b0, b1, b2, b3, b4, b5, b6⟩ := y
  unfold W7.list at e1
  simp only [List.cons.injEq, and_true] at e1
  obtain ⟨rfl, rfl, rfl, rfl, rfl, rfl, rfl⟩ := e1
  exact ⟨rfl, e2⟩
theorem encO_split (x : O5) (r : List UInt8) : encO x ++ r = enc x.kind ++ (enc x.book ++ (enc x.units ++ (enc x.cust ++ (enc x.amount ++ (r))))) := by
  unfold encO O5.list encs
  simp
theorem rO_fwd (x : O5) (r : List UInt8) (h : ∀ z ∈ x.list, -4611686018427387904 ≤ z ∧ z ≤ 4611686018427387904) : rO (some (encO x ++ r)) = (x, some r) := by
  rw [encO_split]
  have h' : (-4611686018427387904 ≤ x.kind ∧ x.kind ≤ 4611686018427387904) ∧ (-4611686018427387904 ≤ x.book ∧ x.book ≤ 4611686018427387904) ∧ (-4611686018427387904 ≤ x.units ∧ x.units ≤ 4611686018427387904) ∧ (-4611686018427387904 ≤ x.cust ∧ x.cust ≤ 4611686018427387904) ∧ (-4611686018427387904 ≤ x.amount ∧ x.amount ≤ 4611686018427387904) := ⟨h x.kind (by simp [O5.list]), h x.book (by simp [O5.list]), h x.units (by simp [O5.list]), h x.cust (by simp [O5.list]), h x.amount (by simp [O5.list])⟩
  obtain ⟨h0, h1, h2, h3, h4⟩ := h'
  unfold rO
  simp only [rS_fwd _ h0.1 h0.2, rS_fwd _ h1.1 h1.2, rS_fwd _ h2.1 h2.2, rS_fwd _ h3.1 h3.2, rS_fwd _ h4.1 h4.2]
/-- The same, in the bounds of all. -/
def rTO (s : Rs) : O5 × Rs :=
  (⟨(rF s).1, (rF (rF s).2).1, (rF (rF (rF s).2).2).1, (rF (rF (rF (rF s).2).2).2).1, (rF (rF (rF (rF (rF s).2).2).2).2).1⟩, (rF (rF (rF (rF (rF s).2).2).2).2).2)
theorem rTO_fwd (x : O5) (r : List UInt8) (h : ∀ z ∈ x.list, In64 z) : rTO (some (encO x ++ r)) = (x, some r) := by
  rw [encO_split]
  have h' : In64 x.kind ∧ In64 x.book ∧ In64 x.units ∧ In64 x.cust ∧ In64 x.amount := ⟨h x.kind (by simp [O5.list]), h x.book (by simp [O5.list]), h x.units (by simp [O5.list]), h x.cust (by simp [O5.list]), h x.amount (by simp [O5.list])⟩
  obtain ⟨h0, h1, h2, h3, h4⟩ := h'
  unfold rTO
  simp only [rF_fwd _ h0, rF_fwd _ h1, rF_fwd _ h2, rF_fwd _ h3, rF_fwd _ h4]
theorem rTO_back (l r : List UInt8) (h : (rTO (some l)).2 = some r) : l = encO (rTO (some l)).1 ++ r := by
  obtain ⟨v1, s1, e1⟩ : ∃ v t, rF (some l) = (v, t) := ⟨_, _, rfl⟩
  obtain ⟨v2, s2, e2⟩ : ∃ v t, rF s1 = (v, t) := ⟨_, _, rfl⟩
  obtain ⟨v3, s3, e3⟩ : ∃ v t, rF s2 = (v, t) := ⟨_, _, rfl⟩
  obtain ⟨v4, s4, e4⟩ : ∃ v t, rF s3 = (v, t) := ⟨_, _, rfl⟩
  obtain ⟨v5, s5, e5⟩ : ∃ v t, rF s4 = (v, t) := ⟨_, _, rfl⟩
  have hw : rTO (some l) = (⟨v1, v2, v3, v4, v5⟩, s5) := by unfold rTO; simp only [e1, e2, e3, e4, e5]
  rw [hw] at h ⊢
  simp only at h ⊢
  subst h
  obtain ⟨q5, _⟩ := rInt_back e5
  subst q5
  obtain ⟨q4, _⟩ := rInt_back e4
  subst q4
  obtain ⟨q3, _⟩ := rInt_back e3
  subst q3
  obtain ⟨q2, _⟩ := rInt_back e2
  subst q2
  obtain ⟨q1, _⟩ := rInt_back e1
  injection q1 with q1
  rw [q1, encO_split]
theorem MayO_small (x : O5) (h : MayO x) : ∀ z ∈ x.list, -4611686018427387904 ≤ z ∧ z ≤ 4611686018427387904 := by
  intro z hz
  unfold O5.list at hz
  simp only [List.mem_cons, List.not_mem_nil, or_false] at hz
  unfold MayO UnitsO MoneyO at h
  omega
theorem MayO_fits (x : O5) (h : MayO x) : ∀ z ∈ x.list, In64 z := fun z hz => ⟨by have := MayO_small x h z hz; omega, by have := MayO_small x h z hz; omega⟩
theorem encO_inj (x y : O5) (r s : List UInt8) (hx : ∀ z ∈ x.list, In64 z) (hy : ∀ z ∈ y.list, In64 z) (h : encO x ++ r = encO y ++ s) : x = y ∧ r = s := by
  obtain ⟨e1, e2⟩ := encs_inj x.list y.list r s rfl hx hy h
  obtain ⟨a0, a1, a2, a3, a4⟩ := x
  obtain ⟨b0, b1, b2, b3, b4⟩ := y
  unfold O5.list at e1
  simp only [List.cons.injEq, and_true] at e1
  obtain ⟨rfl, rfl, rfl, rfl, rfl⟩ := e1
  exact ⟨rfl, e2⟩
end Go.Proofs.Ytplgodfhhlnojaa
