/- RefP, RefR, RefR2, RefR3, merged. -/
import Derived.Test.YtplgodfhhlnojaaB3
import Derived.Test.YtplgodfhhlnojaaB1
import Derived.Lib.Strings
import Derived.Lib.IndexBytes
set_option linter.unusedSimpArgs false
set_option linter.unusedVariables false
/- sojournref1: Int, and the reader of the document's own answer. -/
namespace Go.Proofs.Ytplgodfhhlnojaa
open Go.RowKit
/-- A row of bytes gets one byte more. -/
theorem wpl_app1B {w : World} {ops : Array Oper} {rest : List Oper} {o : Oper} {a : Act} {Q : Exit → Act → World → Prop} (hgd : o.guard = none) (s x : Operand)
    (ho : o.op = .call { callee := .builtin .append, args := #[s, x], argTypes := #[59, 59] })
    (w0 : World) (base : Nat) (v : Value) (l : List UInt8) (b : UInt8) (z : Int) (hz : z = (b.toNat : Int)) (hw : w = w0.alloc (.cells #[.int .u8 z] 5)) (hs : a.eval s = v) (hx : a.eval x = .slice (some ⟨w0.heap.size, 0, none⟩) 1 1)
    (hown : OB w0 base v l) (hl : l.length ≤ 1000000100) (hbase : base ≤ w0.heap.size)
    (h : ∀ A' n' c' w', Hid (OB w' base (.slice A' n' c') (l ++ [b]) ∧ Below base w0 w') → wpList Try.prog ops Q rest (a.put o.dst (.slice A' n' c')) w') : wpList Try.prog ops Q (o :: rest) a w := by
  subst hw hz
  refine wpl_app hgd s x ho base v l hs (hown.alloc _) (w0.heap.size + 1) (some ⟨w0.heap.size, 0, none⟩) 1 1 [b] hx ?_ ?_ ?_ ?_
  · exact rd_new w0 #[.int .u8 (b.toNat : Int)] _ _ 1 1 rfl
  · omega
  · simp; omega
  · intro v1 w1 h1 g1 _
    have hb : Below base w0 w1 := ((Below.refl _ _).alloc hbase _).grown g1 (by simp; omega) (fun k hk => (hown.lt k hk).1)
    have H1 := h1
    obtain ⟨A1, c1, rfl, _⟩ := h1.form
    exact h _ _ _ w1 (Lib.hid ⟨H1, hb⟩)
theorem zig_neg (v : Int) (h0 : -9223372036854775808 ≤ v) (hv : v < 0) : bits .xor .u64 IntKind.u64.max (IntKind.u64.wrap (IntKind.u64.wrap v * 2)) = ((zig v : Nat) : Int) := by
  rw [show IntKind.u64.max = ((18446744073709551615 : Nat) : Int) from rfl]
  simp only [IntKind.wrap_u64]
  unfold zig
  rw [if_neg (by omega)]
  have e1 : v % 18446744073709551616 * 2 % 18446744073709551616 = (((2 * v + 18446744073709551616).toNat : Nat) : Int) := by omega
  rw [e1, u64_xor_nat _ _ (by omega) (by omega), Nat.xor_comm, xor_ones _ (by omega)]
  omega
theorem zig_pos (v : Int) (hv : ¬ v < 0) : v * 2 = ((zig v : Nat) : Int) := by unfold zig; rw [if_pos (by omega)]; omega
set_option maxRecDepth 100000 in
set_option maxHeartbeats 1000000 in
theorem refint_c (v : Int) (w : World) (h0 : -9223372036854775808 ≤ v) (h1 : v ≤ 9223372036854775807) :
    Calls Try.prog 76 #[.int .i64 v] w fun e w' => e = .returned (SV (enc v)) ∧ Below w.heap.size w w' := by
  obtain ⟨L, hL⟩ : ∃ L, enc v = L := ⟨_, rfl⟩
  rw [hL]
  obtain ⟨z, hzz⟩ : ∃ z, zig v = z := ⟨_, rfl⟩
  have hzl := zig_lt v h0 h1
  have HE := Lib.hid (show L = grpF 9 z from by rw [← hzz, ← hL]; rfl)
  rw [hzz] at hzl
  have HZL := Lib.hid hzl
  clear hzl hL
  go_enter Try.func76, Try.ntmps76
  by_cases hv : v < 0
  · have hz := zig_neg v h0 hv
    rw [hzz] at hz
    clear hzz
    go_wp2
    clear hz
    go_loopw [3, 4] (fun u o wr => ∃ (k f n c : Nat) (A : Option Addr) (m : List UInt8), u = .int .u64 (k : Int) ∧ o = .slice A n c ∧ Hid (OB wr w.heap.size (.slice A n c) m ∧ m ++ grpF f k = L ∧ k < lim f ∧ m.length + f ≤ 9 ∧ f ≤ 9 ∧ Below w.heap.size w wr)) (fun u _ _ => (intOf u).toNat)
    case atStart => exact ⟨z, 9, 0, 0, none, [], rfl, rfl, OB.nil _ _, by rw [HE.out]; rfl, by rw [lim9]; exact HZL.out, by simp, by omega, Below.refl _ _⟩
    case round =>
      clear h0 h1 hv
      obtain ⟨k, f, n, c, A, m, rfl, rfl, HR⟩ := hrel
      have hor := or128 k
      by_cases hlt : 128 ≤ k
      · have HLT := Lib.hid hlt
        obtain ⟨b, hc⟩ : ∃ b, UInt8.ofNat (k % 128 + 128) = b := ⟨_, rfl⟩
        have hct : b.toNat = k % 128 + 128 := by rw [← hc, UInt8.toNat_ofNat']; omega
        rw [← hct] at hor
        have HC := Lib.hid hc
        clear hc hct
        go_wp2_with (at_builtin; refine wpl_app1B rfl (.tmp 14) (.tmp 18) rfl wr w.heap.size _ m b _ rfl rfl rfl rfl HR.out.1 (by have := HR.out.2.2.2.1; omega) (HR.out.2.2.2.2.2.size) ?_)
        intro A1 n1 c1 w1 H1
        clear hor
        go_wp2
        go_roundw
        case rel =>
          obtain ⟨r1, r2, r3, r4, r5, r6⟩ := HR.out
          have hlt := HLT.out
          obtain ⟨f, rfl⟩ : ∃ f', f = f' + 1 := by
            cases f with
            | zero => simp only [lim] at r3; omega
            | succ f => exact ⟨f, rfl⟩
          simp only [lim] at r3
          rw [grpF, if_neg (by omega), HC.out] at r2
          exact ⟨k / 128, f, n1, c1, A1, m ++ [b], by go_num, rfl, H1.out.1, by simpa using r2, by omega, by simp; omega, by omega, r6.trans H1.out.2⟩
        case measure => simp [intOf]; omega
      · clear hor
        have HLT := Lib.hid hlt
        obtain ⟨b, hc⟩ : ∃ b, UInt8.ofNat k = b := ⟨_, rfl⟩
        have hct : (k : Int) = (b.toNat : Int) := by rw [← hc, UInt8.toNat_ofNat']; omega
        have HC := Lib.hid hc
        have HCT := Lib.hid hct
        clear hc hct
        go_wp2_with (at_builtin; refine wpl_app1B rfl (.tmp 22) (.tmp 25) rfl wr w.heap.size _ m b _ HCT.out rfl rfl rfl HR.out.1 (by have := HR.out.2.2.2.1; omega) (HR.out.2.2.2.2.2.size) ?_)
        intro A1 n1 c1 w1 H1
        have hL : L = m ++ [b] := by
          rw [← HR.out.2.1, ← HC.out]
          have hlt := HLT.out
          cases f with
          | zero => rfl
          | succ f => rw [grpF, if_pos (by omega)]
        obtain ⟨Ax, cx, ex, _, _, rx⟩ := H1.out.1.form
        injection ex with e1 e2 e3
        subst e1 e2 e3
        have hcv : (convert 59 9 (.slice A1 (m ++ [b]).length c1)).run Try.prog w1 = .ok (.string ⟨(m ++ [b]).toArray⟩) w1 := run_conv_str rx
        rw [← hL] at hcv
        have HLL := Lib.hid hL
        clear hL rx
        rw [← HLL.out]
        go_wp2
        go_ret
        exact ⟨rfl, HR.out.2.2.2.2.2.trans H1.out.2⟩
  · have hz := zig_pos v hv
    rw [hzz] at hz
    have HZ := Lib.hid hz
    clear hzz hz
    go_wp2
    rw [HZ.out]
    go_loopw [3, 4] (fun u o wr => ∃ (k f n c : Nat) (A : Option Addr) (m : List UInt8), u = .int .u64 (k : Int) ∧ o = .slice A n c ∧ Hid (OB wr w.heap.size (.slice A n c) m ∧ m ++ grpF f k = L ∧ k < lim f ∧ m.length + f ≤ 9 ∧ f ≤ 9 ∧ Below w.heap.size w wr)) (fun u _ _ => (intOf u).toNat)
    case atStart => exact ⟨z, 9, 0, 0, none, [], rfl, rfl, OB.nil _ _, by rw [HE.out]; rfl, by rw [lim9]; exact HZL.out, by simp, by omega, Below.refl _ _⟩
    case round =>
      clear h0 h1 hv
      obtain ⟨k, f, n, c, A, m, rfl, rfl, HR⟩ := hrel
      have hor := or128 k
      by_cases hlt : 128 ≤ k
      · have HLT := Lib.hid hlt
        obtain ⟨b, hc⟩ : ∃ b, UInt8.ofNat (k % 128 + 128) = b := ⟨_, rfl⟩
        have hct : b.toNat = k % 128 + 128 := by rw [← hc, UInt8.toNat_ofNat']; omega
        rw [← hct] at hor
        have HC := Lib.hid hc
        clear hc hct
        go_wp2_with (at_builtin; refine wpl_app1B rfl (.tmp 14) (.tmp 18) rfl wr w.heap.size _ m b _ rfl rfl rfl rfl HR.out.1 (by have := HR.out.2.2.2.1; omega) (HR.out.2.2.2.2.2.size) ?_)
        intro A1 n1 c1 w1 H1
        clear hor
        go_wp2
        go_roundw
        case rel =>
          obtain ⟨r1, r2, r3, r4, r5, r6⟩ := HR.out
          have hlt := HLT.out
          obtain ⟨f, rfl⟩ : ∃ f', f = f' + 1 := by
            cases f with
            | zero => simp only [lim] at r3; omega
            | succ f => exact ⟨f, rfl⟩
          simp only [lim] at r3
          rw [grpF, if_neg (by omega), HC.out] at r2
          exact ⟨k / 128, f, n1, c1, A1, m ++ [b], by go_num, rfl, H1.out.1, by simpa using r2, by omega, by simp; omega, by omega, r6.trans H1.out.2⟩
        case measure => simp [intOf]; omega
      · clear hor
        have HLT := Lib.hid hlt
        obtain ⟨b, hc⟩ : ∃ b, UInt8.ofNat k = b := ⟨_, rfl⟩
        have hct : (k : Int) = (b.toNat : Int) := by rw [← hc, UInt8.toNat_ofNat']; omega
        have HC := Lib.hid hc
        have HCT := Lib.hid hct
        clear hc hct
        go_wp2_with (at_builtin; refine wpl_app1B rfl (.tmp 22) (.tmp 25) rfl wr w.heap.size _ m b _ HCT.out rfl rfl rfl HR.out.1 (by have := HR.out.2.2.2.1; omega) (HR.out.2.2.2.2.2.size) ?_)
        intro A1 n1 c1 w1 H1
        have hL : L = m ++ [b] := by
          rw [← HR.out.2.1, ← HC.out]
          have hlt := HLT.out
          cases f with
          | zero => rfl
          | succ f => rw [grpF, if_pos (by omega)]
        obtain ⟨Ax, cx, ex, _, _, rx⟩ := H1.out.1.form
        injection ex with e1 e2 e3
        subst e1 e2 e3
        have hcv : (convert 59 9 (.slice A1 (m ++ [b]).length c1)).run Try.prog w1 = .ok (.string ⟨(m ++ [b]).toArray⟩) w1 := run_conv_str rx
        rw [← hL] at hcv
        have HLL := Lib.hid hL
        clear hL rx
        rw [← HLL.out]
        go_wp2
        go_ret
        exact ⟨rfl, HR.out.2.2.2.2.2.trans H1.out.2⟩
end Go.Proofs.Ytplgodfhhlnojaa

/- sojournref1.R: the document's own reader, walked. -/
namespace Go.Proofs.Ytplgodfhhlnojaa
open Go.RowKit
/-- Block h is a reader of the document's own. -/
def RR (w : World) (h : Nat) (s : Rs) : Prop := ∃ S bad, w.heap[h]? = some (.cells #[.string S, .bool bad] 116 (0, 0)) ∧ s = (if bad then none else some S.data.toList)
def RRPost (w : World) (h : Nat) (v : Value) (s : Rs) (e : Ending) (w' : World) : Prop := e = .returned v ∧ RR w' h s ∧ w.grownBy w' (some h)
section
variable {w w' : World} {h : Nat} {s : Rs}
theorem RR.lt (r : RR w h s) : h < w.heap.size := by obtain ⟨S, bad, h1, _⟩ := r; exact blk_lt h1
theorem RR.same (r : RR w h s) (hb : w'.heap[h]? = w.heap[h]?) : RR w' h s := by obtain ⟨S, bad, h1, h2⟩ := r; exact ⟨S, bad, hb.trans h1, h2⟩
theorem RR.drewN (r : RR w h s) (q : Nat) : RR (w.drewN q) h s := r
theorem RR.grown {k : Nat} (r : RR w h s) (hg : w.grownBy w' (some k)) (hk : h ≠ k) : RR w' h s := r.same (hg.block h r.lt (fun e => hk (by injection e)))
theorem RR.below {D : Nat} (r : RR w h s) (hb : Below D w w') (hd : h < D) : RR w' h s := r.same (hb.block h hd)
theorem RR.some_ {l : List UInt8} (r : RR w h (some l)) : ∃ S, S.data.toList = l ∧ w.heap[h]? = some (.cells #[.string S, .bool false] 116 (0, 0)) := by
  obtain ⟨S, bad, h1, h2⟩ := r
  cases bad with
  | true => cases h2
  | false => injection h2 with h2; exact ⟨S, h2.symm, h1⟩
theorem RR.none_ (r : RR w h none) : ∃ S, w.heap[h]? = some (.cells #[.string S, .bool true] 116 (0, 0)) := by
  obtain ⟨S, bad, h1, h2⟩ := r
  cases bad with
  | true => exact ⟨S, h1⟩
  | false => cases h2
theorem RR.any_ (r : RR w h s) : ∃ S b, w.heap[h]? = some (.cells #[.string S, .bool b] 116 (0, 0)) := by
  obtain ⟨S, bad, h1, h2⟩ := r
  exact ⟨S, bad, h1⟩
theorem RR.bad {S : ByteArray} {b : Bool} (h1 : w.heap[h]? = some (.cells #[.string S, .bool b] 116 (0, 0))) (t : ByteArray) : RR ((w.setCell ⟨h, 1, none⟩ (.bool true)).setCell ⟨h, 0, none⟩ (.string t)) h none :=
  ⟨t, true, (set_two (set_two h1).2).1, rfl⟩
theorem RR.set {S T : ByteArray} {l : List UInt8} (h1 : w.heap[h]? = some (.cells #[.string S, .bool false] 116 (0, 0))) (hl : T.data.toList = l) : RR (w.setCell ⟨h, 0, none⟩ (.string T)) h (some l) :=
  ⟨T, false, (set_two h1).1, by rw [hl]; rfl⟩
end
theorem rwrong_c (h : Nat) (s : Rs) (w : World) (r : RR w h s) : Calls Try.prog 113 #[.pointer (some ⟨h, 0, none⟩)] w fun e w' => e = .returned (.tuple #[]) ∧ RR w' h none ∧ w.grownBy w' (some h) := by
  obtain ⟨S, b, h1⟩ := r.any_
  have c0 : w.cell? ⟨h, 0, none⟩ = some (.string S) := by rw [cellsAt h1]; rfl
  have c1 : w.cell? ⟨h, 1, none⟩ = some (.bool b) := by rw [cellsAt h1]; rfl
  have f0 := free0 (i := 0) h1
  have f1 := free0 (i := 1) h1
  have H1 := Lib.hid h1
  clear h1 r
  go_enter Try.func113, Try.ntmps113
  go_wp2
  go_end0
  refine ⟨rfl, RR.bad H1.out _, ?_⟩
  exact only_setCell (p := ⟨h, 0, none⟩) (only_setCell (p := ⟨h, 1, none⟩) (World.grownBy.refl w _) (.inl rfl) _) (.inl rfl) _
theorem rrend_c (h : Nat) (s : Rs) (w : World) (r : RR w h s) : Calls Try.prog 84 #[.pointer (some ⟨h, 0, none⟩)] w fun e w' => e = .returned (.int .i64 (rEnd s)) ∧ w = w' := by
  cases s with
  | none =>
    obtain ⟨S, h1⟩ := r.none_
    have c1 : w.cell? ⟨h, 1, none⟩ = some (.bool true) := by rw [cellsAt h1]; rfl
    clear h1 r
    go_enter Try.func84, Try.ntmps84
    go_wp2
    go_ret
    exact ⟨rfl, rfl⟩
  | some l =>
    obtain ⟨S, hS, h1⟩ := r.some_
    have c0 : w.cell? ⟨h, 0, none⟩ = some (.string S) := by rw [cellsAt h1]; rfl
    have c1 : w.cell? ⟨h, 1, none⟩ = some (.bool false) := by rw [cellsAt h1]; rfl
    have hz : S.size = l.length := by rw [← hS]; simp
    clear h1 r
    cases l with
    | nil =>
      have hn : S.size = 0 := by simpa using hz
      have hn2 : ¬ 0 < S.size := by omega
      have HN := Lib.hid hn
      clear hz hS hn
      go_enter Try.func84, Try.ntmps84
      go_wp2
      go_ret
      exact ⟨rfl, rfl⟩
    | cons x l =>
      have hn : 0 < S.size := by simp at hz; omega
      clear hz hS
      go_enter Try.func84, Try.ntmps84
      go_wp2
      go_ret
      exact ⟨rfl, rfl⟩
end Go.Proofs.Ytplgodfhhlnojaa

/- sojournref1.R: numbers of the document's own reader, walked. -/
namespace Go.Proofs.Ytplgodfhhlnojaa
open Go.RowKit
theorem rr_or (k acc x : Nat) (hk : k ≤ 9) (hacc : acc < 128 ^ k) (hx : x < 256) (h9 : k = 9 → x ≤ 1) :
    bits .or .u64 (acc : Int) (IntKind.u64.wrap (bits .and .u64 (x : Int) 127 * 2 ^ (7 * k))) = ((acc + 128 ^ k * (x % 128) : Nat) : Int) := by
  have e0 : bits .and .u64 (x : Int) 127 = ((x % 128 : Nat) : Int) := by
    rw [show (127 : Int) = ((127 : Nat) : Int) from rfl, u64_and_nat _ _ (by omega) (by omega), nat_mask7]
  have h := grp_or k acc x hk hacc hx h9
  rw [and127 x hx] at h
  rw [e0, ← h, show IntKind.u64.wrap ((x % 128 : Nat) : Int) = ((x % 128 : Nat) : Int) from by rw [IntKind.wrap_u64]; omega]
theorem rr_odd (U : Nat) (hU : U < 18446744073709551616) (h : U % 2 = 1) : bits .and .u64 (U : Int) 1 = 1 ∧ bits .xor .i64 (-1) (wrap64 ((U : Int) / 2)) = unz U := by
  constructor
  · rw [show (1 : Int) = ((1 : Nat) : Int) from rfl, u64_and_nat _ _ hU (by omega), nat_mask1, h]
  · have e1 : wrap64 ((U : Int) / 2) = ((U / 2 : Nat) : Int) := by unfold wrap64; omega
    have e2 : bits .xor .i64 (-1) ((U / 2 : Nat) : Int) = bits .xor .i64 ((U / 2 : Nat) : Int) (-1) := by
      show IntKind.i64.wrap ((BitVec.ofInt 64 (-1) ^^^ BitVec.ofInt 64 _).toNat : Int) = IntKind.i64.wrap ((BitVec.ofInt 64 _ ^^^ BitVec.ofInt 64 (-1)).toNat : Int)
      rw [BitVec.xor_comm]
    rw [e1, e2, xor_m1 _ (by omega)]
    unfold unz
    rw [if_neg (by omega)]
theorem rr_even (U : Nat) (hU : U < 18446744073709551616) (h : ¬ U % 2 = 1) : bits .and .u64 (U : Int) 1 = 0 ∧ wrap64 ((U : Int) / 2) = unz U := by
  constructor
  · rw [show (1 : Int) = ((1 : Nat) : Int) from rfl, u64_and_nat _ _ hU (by omega), nat_mask1, show U % 2 = 0 from by omega]
    rfl
  · unfold unz wrap64
    rw [if_pos (by omega)]
    omega
theorem dec_none {lo hi : Int} {l : List UInt8} (h : ung 10 l = none) : rInt lo hi (some l) = (0, none) := by
  unfold rInt dec
  simp only [h]
theorem dec_out {lo hi : Int} {l : List UInt8} {u n : Nat} (h : ung 10 l = some (u, n)) (ho : unz u < lo ∨ hi < unz u) : rInt lo hi (some l) = (0, none) := by
  unfold rInt dec
  simp only [h]
  rw [if_neg (by omega)]
theorem dec_in {lo hi : Int} {l : List UInt8} {u n : Nat} (h : ung 10 l = some (u, n)) (h1 : ¬ unz u < lo) (h2 : ¬ hi < unz u) : rInt lo hi (some l) = (unz u, some (l.drop n)) := by
  unfold rInt dec
  simp only [h]
  rw [if_pos (by omega)]
theorem u64_of (k acc x : Nat) (hk : k ≤ 9) (hacc : acc < 128 ^ k) (hx : x < 128) (h9 : k = 9 → x ≤ 1) : acc + 128 ^ k * x < 18446744073709551616 := by
  by_cases h : k = 9
  · subst h
    have h1 := h9 rfl
    have h2 : 128 ^ 9 * x ≤ 128 ^ 9 * 1 := Nat.mul_le_mul_left _ h1
    have h3 : (128 : Nat) ^ 9 = 9223372036854775808 := by decide
    omega
  · have h1 : 128 ^ k ≤ 128 ^ 8 := Nat.pow_le_pow_right (by omega) (by omega)
    have h2 : 128 ^ k * x ≤ 128 ^ 8 * 127 := Nat.mul_le_mul h1 (by omega)
    have h3 : (128 : Nat) ^ 8 = 72057594037927936 := by decide
    omega
theorem ba_toList (b : ByteArray) : b.toList = b.data.toList := by rw [ByteArray.toList_eq]
theorem rr_take (S : ByteArray) (l : List UInt8) (h : S.data.toList = l) (k : Nat) : (S.extract 0 (k + 1)).toList = l.take (k + 1) := by
  rw [ba_toList, Lib.extract_data, h]
  simp
theorem only_lt' {a w : World} {g : Nat} (h : Below a.heap.size a w) : a.grownBy w (some g) := ⟨h.os, h.tape, h.output, h.size, fun i hi _ => h.block i hi⟩
set_option maxRecDepth 100000 in
set_option maxHeartbeats 4000000 in
theorem rrint_some (p : Nat) (lo hi : Int) (l : List UInt8) (w : World) (r : RR w p (some l)) (hs : l.length ≤ 1000000000000) :
    Calls Try.prog 83 #[.pointer (some ⟨p, 0, none⟩), .int .i64 lo, .int .i64 hi] w (RRPost w p (.int .i64 (rInt lo hi (some l)).1) (rInt lo hi (some l)).2) := by
  obtain ⟨S, hS, h1⟩ := r.some_
  have c0 : w.cell? ⟨p, 0, none⟩ = some (.string S) := by rw [cellsAt h1]; rfl
  have c1 : w.cell? ⟨p, 1, none⟩ = some (.bool false) := by rw [cellsAt h1]; rfl
  have f0 := free0 (i := 0) h1
  have hplt := blk_lt h1
  have hz : S.size = l.length := by rw [← hS]; simp
  have hz2 : S.size ≤ 1000000000000 := by omega
  have H1 := Lib.hid h1
  have HS := Lib.hid hS
  have HZ := Lib.hid hz
  have R := Lib.hid r
  clear h1 r hs hS hz
  go_enter Try.func83, Try.ntmps83
  go_wp2
  go_loop [7, 8] (fun u i => ∃ (k acc f : Nat), k ≤ S.size ∧ k ≤ 10 ∧ i = .int .i64 k ∧ u = .int .u64 (acc : Int) ∧ Hid (f + k = 10 ∧ acc < 128 ^ k ∧ ung 10 l = (ung f (l.drop k)).map fun p => (acc + 128 ^ k * p.1, k + p.2))) (fun _ i => 10 - (intOf i).toNat)
  case atStart => exact ⟨0, 0, 10, by omega, by omega, rfl, rfl, by omega, by simp, by simp⟩
  case round =>
    obtain ⟨k, acc, f, hk1, hk2, rfl, rfl, HX⟩ := hrel
    by_cases hlt : k < S.size ∧ k < 10
    · have hlt1 := hlt.1
      have hlt2 := hlt.2
      clear hlt
      have hl : k < l.length := by have := HZ.out; omega
      obtain ⟨x, hx⟩ : ∃ x, (l[k]'hl).toNat = x := ⟨_, rfl⟩
      have hxs : S[k].toNat = x := by
        rw [← hx]
        have h2 : S.data.toList[k]? = some l[k] := by rw [HS.out, List.getElem?_eq_getElem hl]
        have h3 : S.data.toList[k]? = some S[k] := by rw [List.getElem?_eq_getElem (by simpa using hlt1)]; rfl
        rw [h3] at h2
        injection h2 with h2
        rw [h2]
      have hb := u8_lt (l[k]'hl)
      rw [hx] at hb
      have HS1 := Lib.hid (ung_step (l := l) (k := k) hl (by omega) (9 - k) rfl acc (by have := HX.out; rw [show 9 - k + 1 = f from by omega]; exact this.2.2))
      rw [hx] at HS1
      clear hx hl
      by_cases hA : k = 9 ∧ 1 < x
      · have HN := Lib.hid (HS1.out.1 hA)
        have h9 : ((k : Int) == 9) = true := beq_iff_eq.2 (by omega)
        have hx1 : 1 < x := hA.2
        clear hA
        go_wp2_with (go_at_call 113; refine (rwrong_c p _ _ R.out).mono ?_; rintro e w1 ⟨rfl, h1, g1⟩; have H1 := Lib.hid h1; have G1 := Lib.hid g1; clear h1 g1)
        go_ret
        unfold RRPost
        rw [dec_none HN.out]
        exact ⟨rfl, H1.out, G1.out⟩
      have H9 : Hid (k = 9 → x ≤ 1) := Lib.hid (by omega)
      have h9b : (((k : Int) == 9) = true ∧ ¬ 1 < x) ∨ ((k : Int) == 9) = false := by
        by_cases h : k = 9
        · exact .inl ⟨beq_iff_eq.2 (by omega), by omega⟩
        · exact .inr (beq_eq_false_iff_ne.2 (by omega))
      by_cases hx1 : x < 128
      · have HOR := Lib.hid (rr_or k acc x (by omega) HX.out.2.1 hb H9.out)
        rw [Nat.mod_eq_of_lt hx1] at HOR
        have HUL := Lib.hid (u64_of k acc x (by omega) HX.out.2.1 hx1 H9.out)
        obtain ⟨U, hU⟩ : ∃ U, acc + 128 ^ k * x = U := ⟨_, rfl⟩
        rw [hU] at HOR HUL
        obtain ⟨v, hv⟩ : ∃ v, unz U = v := ⟨_, rfl⟩
        have HV := Lib.hid hv
        have HI := fun W => Lib.hid (refint_c v W (by rw [← HV.out]; exact (unz_lo U HUL.out).1) (by rw [← HV.out]; exact (unz_lo U HUL.out).2))
        unfold SV at HI
        have hT := rr_take S l HS.out k
        by_cases hD : x = 0 ∧ 0 < k
        · have HN := Lib.hid (HS1.out.2.1 hA hx1 hD.1 hD.2)
          have hne : (enc v == (S.extract 0 (k + 1)).toList) = false := by
            rw [hT]
            refine beq_eq_false_iff_ne.2 (fun he => ?_)
            have := ung_grp U (l.drop (k + 1)) HUL.out
            have h2 : enc v = grp U := by unfold enc; rw [← HV.out, zig_unz]
            rw [← h2, he, List.take_append_drop, HN.out] at this
            cases this
          have hor := HOR.out
          clear hA hD hU hv hT
          rcases h9b with ⟨h9, h9x⟩ | h9
          all_goals (
            by_cases hpar : U % 2 = 1
            · obtain ⟨e1, e2⟩ := rr_odd U HUL.out hpar
              rw [HV.out] at e2
              clear hpar
              have q0 : ∀ s : BW w.heap.size w, s.val.cell? ⟨p, 0, none⟩ = some (.string S) := BW.cell c0 hplt
              by_cases a1 : v < lo
              · have HVO := Lib.hid (show unz U < lo ∨ hi < unz U from by rw [HV.out]; exact .inl a1)
                have d1 : decide (v < lo) = true := decide_eq_true a1
                go_wp2
                clear e1 e2
                refine wp_region_below (w.heap.size) (by kernel_rfl) (by kernel_rfl) ?_
                repeat (first | go_big_quiet_step ((go_at_call 76; exact BW.call (Nat.le_refl _) (HI _).out)) | quiet_step ((go_at_call 76; exact BW.call (Nat.le_refl _) (HI _).out)))
                refine wpQuiet_nil ?_
                intro _ hw'
                obtain ⟨sb, hw''⟩ := hw'
                subst hw''
                have R1 := Lib.hid (R.out.below sb.h hplt)
                go_wp2_with (go_at_call 113; refine (rwrong_c p _ _ R1.out).mono ?_; rintro e w1 ⟨rfl, h1, g1⟩; have H1 := Lib.hid h1; have G1 := Lib.hid g1; clear h1 g1)
                go_ret
                unfold RRPost
                rw [dec_none HN.out]
                exact ⟨rfl, H1.out, only_trans (only_lt' sb.h) G1.out⟩
              by_cases a2 : hi < v
              · have HVO := Lib.hid (show unz U < lo ∨ hi < unz U from by rw [HV.out]; exact .inr a2)
                have d1 : decide (v < lo) = false := decide_eq_false a1
                have d2 : decide (hi < v) = true := decide_eq_true a2
                go_wp2
                clear e1 e2
                refine wp_region_below (w.heap.size) (by kernel_rfl) (by kernel_rfl) ?_
                repeat (first | go_big_quiet_step ((go_at_call 76; exact BW.call (Nat.le_refl _) (HI _).out)) | quiet_step ((go_at_call 76; exact BW.call (Nat.le_refl _) (HI _).out)))
                refine wpQuiet_nil ?_
                intro _ hw'
                obtain ⟨sb, hw''⟩ := hw'
                subst hw''
                have R1 := Lib.hid (R.out.below sb.h hplt)
                go_wp2_with (go_at_call 113; refine (rwrong_c p _ _ R1.out).mono ?_; rintro e w1 ⟨rfl, h1, g1⟩; have H1 := Lib.hid h1; have G1 := Lib.hid g1; clear h1 g1)
                go_ret
                unfold RRPost
                rw [dec_none HN.out]
                exact ⟨rfl, H1.out, only_trans (only_lt' sb.h) G1.out⟩
              have d1 : decide (v < lo) = false := decide_eq_false a1
              have d2 : decide (hi < v) = false := decide_eq_false a2
              go_wp2
              clear e1 e2
              refine wp_region_below (w.heap.size) (by kernel_rfl) (by kernel_rfl) ?_
              repeat (first | go_big_quiet_step ((go_at_call 76; exact BW.call (Nat.le_refl _) (HI _).out)) | quiet_step ((go_at_call 76; exact BW.call (Nat.le_refl _) (HI _).out)))
              refine wpQuiet_nil ?_
              intro _ hw'
              obtain ⟨sb, hw''⟩ := hw'
              subst hw''
              have R1 := Lib.hid (R.out.below sb.h hplt)
              go_wp2_with (go_at_call 113; refine (rwrong_c p _ _ R1.out).mono ?_; rintro e w1 ⟨rfl, h1, g1⟩; have H1 := Lib.hid h1; have G1 := Lib.hid g1; clear h1 g1)
              go_ret
              unfold RRPost
              rw [dec_none HN.out]
              exact ⟨rfl, H1.out, only_trans (only_lt' sb.h) G1.out⟩
            · obtain ⟨e1, e2⟩ := rr_even U HUL.out hpar
              rw [HV.out] at e2
              clear hpar
              have q0 : ∀ s : BW w.heap.size w, s.val.cell? ⟨p, 0, none⟩ = some (.string S) := BW.cell c0 hplt
              by_cases a1 : v < lo
              · have HVO := Lib.hid (show unz U < lo ∨ hi < unz U from by rw [HV.out]; exact .inl a1)
                have d1 : decide (v < lo) = true := decide_eq_true a1
                go_wp2
                clear e1 e2
                refine wp_region_below (w.heap.size) (by kernel_rfl) (by kernel_rfl) ?_
                repeat (first | go_big_quiet_step ((go_at_call 76; exact BW.call (Nat.le_refl _) (HI _).out)) | quiet_step ((go_at_call 76; exact BW.call (Nat.le_refl _) (HI _).out)))
                refine wpQuiet_nil ?_
                intro _ hw'
                obtain ⟨sb, hw''⟩ := hw'
                subst hw''
                have R1 := Lib.hid (R.out.below sb.h hplt)
                go_wp2_with (go_at_call 113; refine (rwrong_c p _ _ R1.out).mono ?_; rintro e w1 ⟨rfl, h1, g1⟩; have H1 := Lib.hid h1; have G1 := Lib.hid g1; clear h1 g1)
                go_ret
                unfold RRPost
                rw [dec_none HN.out]
                exact ⟨rfl, H1.out, only_trans (only_lt' sb.h) G1.out⟩
              by_cases a2 : hi < v
              · have HVO := Lib.hid (show unz U < lo ∨ hi < unz U from by rw [HV.out]; exact .inr a2)
                have d1 : decide (v < lo) = false := decide_eq_false a1
                have d2 : decide (hi < v) = true := decide_eq_true a2
                go_wp2
                clear e1 e2
                refine wp_region_below (w.heap.size) (by kernel_rfl) (by kernel_rfl) ?_
                repeat (first | go_big_quiet_step ((go_at_call 76; exact BW.call (Nat.le_refl _) (HI _).out)) | quiet_step ((go_at_call 76; exact BW.call (Nat.le_refl _) (HI _).out)))
                refine wpQuiet_nil ?_
                intro _ hw'
                obtain ⟨sb, hw''⟩ := hw'
                subst hw''
                have R1 := Lib.hid (R.out.below sb.h hplt)
                go_wp2_with (go_at_call 113; refine (rwrong_c p _ _ R1.out).mono ?_; rintro e w1 ⟨rfl, h1, g1⟩; have H1 := Lib.hid h1; have G1 := Lib.hid g1; clear h1 g1)
                go_ret
                unfold RRPost
                rw [dec_none HN.out]
                exact ⟨rfl, H1.out, only_trans (only_lt' sb.h) G1.out⟩
              have d1 : decide (v < lo) = false := decide_eq_false a1
              have d2 : decide (hi < v) = false := decide_eq_false a2
              go_wp2
              clear e1 e2
              refine wp_region_below (w.heap.size) (by kernel_rfl) (by kernel_rfl) ?_
              repeat (first | go_big_quiet_step ((go_at_call 76; exact BW.call (Nat.le_refl _) (HI _).out)) | quiet_step ((go_at_call 76; exact BW.call (Nat.le_refl _) (HI _).out)))
              refine wpQuiet_nil ?_
              intro _ hw'
              obtain ⟨sb, hw''⟩ := hw'
              subst hw''
              have R1 := Lib.hid (R.out.below sb.h hplt)
              go_wp2_with (go_at_call 113; refine (rwrong_c p _ _ R1.out).mono ?_; rintro e w1 ⟨rfl, h1, g1⟩; have H1 := Lib.hid h1; have G1 := Lib.hid g1; clear h1 g1)
              go_ret
              unfold RRPost
              rw [dec_none HN.out]
              exact ⟨rfl, H1.out, only_trans (only_lt' sb.h) G1.out⟩)
        · have HN := Lib.hid (HS1.out.2.2.1 hA hx1 (by omega))
          rw [hU] at HN
          have hne : (enc v == (S.extract 0 (k + 1)).toList) = true := by
            rw [hT]
            have h2 : enc v = grp U := by unfold enc; rw [← HV.out, zig_unz]
            rw [h2, (ung10 HN.out).2.2.1]
            exact beq_self_eq_true _
          have hor := HOR.out
          clear hA hD hU hv hT
          rcases h9b with ⟨h9, h9x⟩ | h9
          all_goals (
            by_cases hpar : U % 2 = 1
            · obtain ⟨e1, e2⟩ := rr_odd U HUL.out hpar
              rw [HV.out] at e2
              clear hpar
              have q0 : ∀ s : BW w.heap.size w, s.val.cell? ⟨p, 0, none⟩ = some (.string S) := BW.cell c0 hplt
              by_cases a1 : v < lo
              · have HVO := Lib.hid (show unz U < lo ∨ hi < unz U from by rw [HV.out]; exact .inl a1)
                have d1 : decide (v < lo) = true := decide_eq_true a1
                go_wp2
                clear e1 e2
                refine wp_region_below (w.heap.size) (by kernel_rfl) (by kernel_rfl) ?_
                repeat (first | go_big_quiet_step ((go_at_call 76; exact BW.call (Nat.le_refl _) (HI _).out)) | quiet_step ((go_at_call 76; exact BW.call (Nat.le_refl _) (HI _).out)))
                refine wpQuiet_nil ?_
                intro _ hw'
                obtain ⟨sb, hw''⟩ := hw'
                subst hw''
                have R1 := Lib.hid (R.out.below sb.h hplt)
                go_wp2_with (go_at_call 113; refine (rwrong_c p _ _ R1.out).mono ?_; rintro e w1 ⟨rfl, h1, g1⟩; have H1 := Lib.hid h1; have G1 := Lib.hid g1; clear h1 g1)
                go_ret
                unfold RRPost
                rw [dec_out HN.out (HVO.out)]
                exact ⟨rfl, H1.out, only_trans (only_lt' sb.h) G1.out⟩
              by_cases a2 : hi < v
              · have HVO := Lib.hid (show unz U < lo ∨ hi < unz U from by rw [HV.out]; exact .inr a2)
                have d1 : decide (v < lo) = false := decide_eq_false a1
                have d2 : decide (hi < v) = true := decide_eq_true a2
                go_wp2
                clear e1 e2
                refine wp_region_below (w.heap.size) (by kernel_rfl) (by kernel_rfl) ?_
                repeat (first | go_big_quiet_step ((go_at_call 76; exact BW.call (Nat.le_refl _) (HI _).out)) | quiet_step ((go_at_call 76; exact BW.call (Nat.le_refl _) (HI _).out)))
                refine wpQuiet_nil ?_
                intro _ hw'
                obtain ⟨sb, hw''⟩ := hw'
                subst hw''
                have R1 := Lib.hid (R.out.below sb.h hplt)
                go_wp2_with (go_at_call 113; refine (rwrong_c p _ _ R1.out).mono ?_; rintro e w1 ⟨rfl, h1, g1⟩; have H1 := Lib.hid h1; have G1 := Lib.hid g1; clear h1 g1)
                go_ret
                unfold RRPost
                rw [dec_out HN.out (HVO.out)]
                exact ⟨rfl, H1.out, only_trans (only_lt' sb.h) G1.out⟩
              have d1 : decide (v < lo) = false := decide_eq_false a1
              have d2 : decide (hi < v) = false := decide_eq_false a2
              go_wp2
              clear e1 e2
              refine wp_region_below (w.heap.size) (by kernel_rfl) (by kernel_rfl) ?_
              repeat (first | go_big_quiet_step ((go_at_call 76; exact BW.call (Nat.le_refl _) (HI _).out)) | quiet_step ((go_at_call 76; exact BW.call (Nat.le_refl _) (HI _).out)))
              refine wpQuiet_nil ?_
              intro _ hw'
              obtain ⟨sb, hw''⟩ := hw'
              subst hw''
              have R1 := Lib.hid (R.out.below sb.h hplt)
              have c0' := q0 sb
              have f0' := (sb.h.frozen (p := ⟨p, 0, none⟩) hplt).trans f0
              have HH1 := Lib.hid ((sb.h.block p hplt).trans H1.out)
              go_wp2
              go_ret
              unfold RRPost
              rw [dec_in HN.out (by rw [HV.out]; omega) (by rw [HV.out]; omega), HV.out]
              refine ⟨rfl, RR.set HH1.out ?_, only_setCell (p := ⟨p, 0, none⟩) (only_lt' sb.h) (.inl rfl) _⟩
              rw [Lib.extract_data, HS.out, List.take_of_length_le (by rw [List.length_drop, ← HZ.out]; omega)]
            · obtain ⟨e1, e2⟩ := rr_even U HUL.out hpar
              rw [HV.out] at e2
              clear hpar
              have q0 : ∀ s : BW w.heap.size w, s.val.cell? ⟨p, 0, none⟩ = some (.string S) := BW.cell c0 hplt
              by_cases a1 : v < lo
              · have HVO := Lib.hid (show unz U < lo ∨ hi < unz U from by rw [HV.out]; exact .inl a1)
                have d1 : decide (v < lo) = true := decide_eq_true a1
                go_wp2
                clear e1 e2
                refine wp_region_below (w.heap.size) (by kernel_rfl) (by kernel_rfl) ?_
                repeat (first | go_big_quiet_step ((go_at_call 76; exact BW.call (Nat.le_refl _) (HI _).out)) | quiet_step ((go_at_call 76; exact BW.call (Nat.le_refl _) (HI _).out)))
                refine wpQuiet_nil ?_
                intro _ hw'
                obtain ⟨sb, hw''⟩ := hw'
                subst hw''
                have R1 := Lib.hid (R.out.below sb.h hplt)
                go_wp2_with (go_at_call 113; refine (rwrong_c p _ _ R1.out).mono ?_; rintro e w1 ⟨rfl, h1, g1⟩; have H1 := Lib.hid h1; have G1 := Lib.hid g1; clear h1 g1)
                go_ret
                unfold RRPost
                rw [dec_out HN.out (HVO.out)]
                exact ⟨rfl, H1.out, only_trans (only_lt' sb.h) G1.out⟩
              by_cases a2 : hi < v
              · have HVO := Lib.hid (show unz U < lo ∨ hi < unz U from by rw [HV.out]; exact .inr a2)
                have d1 : decide (v < lo) = false := decide_eq_false a1
                have d2 : decide (hi < v) = true := decide_eq_true a2
                go_wp2
                clear e1 e2
                refine wp_region_below (w.heap.size) (by kernel_rfl) (by kernel_rfl) ?_
                repeat (first | go_big_quiet_step ((go_at_call 76; exact BW.call (Nat.le_refl _) (HI _).out)) | quiet_step ((go_at_call 76; exact BW.call (Nat.le_refl _) (HI _).out)))
                refine wpQuiet_nil ?_
                intro _ hw'
                obtain ⟨sb, hw''⟩ := hw'
                subst hw''
                have R1 := Lib.hid (R.out.below sb.h hplt)
                go_wp2_with (go_at_call 113; refine (rwrong_c p _ _ R1.out).mono ?_; rintro e w1 ⟨rfl, h1, g1⟩; have H1 := Lib.hid h1; have G1 := Lib.hid g1; clear h1 g1)
                go_ret
                unfold RRPost
                rw [dec_out HN.out (HVO.out)]
                exact ⟨rfl, H1.out, only_trans (only_lt' sb.h) G1.out⟩
              have d1 : decide (v < lo) = false := decide_eq_false a1
              have d2 : decide (hi < v) = false := decide_eq_false a2
              go_wp2
              clear e1 e2
              refine wp_region_below (w.heap.size) (by kernel_rfl) (by kernel_rfl) ?_
              repeat (first | go_big_quiet_step ((go_at_call 76; exact BW.call (Nat.le_refl _) (HI _).out)) | quiet_step ((go_at_call 76; exact BW.call (Nat.le_refl _) (HI _).out)))
              refine wpQuiet_nil ?_
              intro _ hw'
              obtain ⟨sb, hw''⟩ := hw'
              subst hw''
              have R1 := Lib.hid (R.out.below sb.h hplt)
              have c0' := q0 sb
              have f0' := (sb.h.frozen (p := ⟨p, 0, none⟩) hplt).trans f0
              have HH1 := Lib.hid ((sb.h.block p hplt).trans H1.out)
              go_wp2
              go_ret
              unfold RRPost
              rw [dec_in HN.out (by rw [HV.out]; omega) (by rw [HV.out]; omega), HV.out]
              refine ⟨rfl, RR.set HH1.out ?_, only_setCell (p := ⟨p, 0, none⟩) (only_lt' sb.h) (.inl rfl) _⟩
              rw [Lib.extract_data, HS.out, List.take_of_length_le (by rw [List.length_drop, ← HZ.out]; omega)])
      · have h9 : ((k : Int) == 9) = false := by
          rcases h9b with ⟨h9, h9x⟩ | h9
          · omega
          · exact h9
        clear h9b
        go_wp2
        go_round
        case rel =>
          obtain ⟨q1, q⟩ := HS1.out.2.2.2 hA hx1
          refine ⟨k + 1, acc + 128 ^ k * (x % 128), 9 - k, by omega, by omega, by go_num, by rw [rr_or k acc x (by omega) HX.out.2.1 hb H9.out], by omega, ?_, q⟩
          have h1 := HX.out.2.1
          have h2 : 128 ^ k * (x % 128) ≤ 128 ^ k * 127 := Nat.mul_le_mul_left _ (by omega)
          have h3 : 128 ^ (k + 1) = 128 ^ k * 128 := Nat.pow_succ ..
          omega
        case measure => simp [intOf]; omega
    · have HN := Lib.hid (ung_done acc HX.out.2.2 (by have := HX.out.1; have := HZ.out; omega))
      by_cases h10 : k < 10
      · have hge : ¬ k < S.size := by omega
        clear hlt
        go_wp2_with (go_at_call 113; refine (rwrong_c p _ _ R.out).mono ?_; rintro e w1 ⟨rfl, h1, g1⟩; have H1 := Lib.hid h1; have G1 := Lib.hid g1; clear h1 g1)
        go_ret
        unfold RRPost
        rw [dec_none HN.out]
        exact ⟨rfl, H1.out, G1.out⟩
      · clear hlt
        go_wp2_with (go_at_call 113; refine (rwrong_c p _ _ R.out).mono ?_; rintro e w1 ⟨rfl, h1, g1⟩; have H1 := Lib.hid h1; have G1 := Lib.hid g1; clear h1 g1)
        go_ret
        unfold RRPost
        rw [dec_none HN.out]
        exact ⟨rfl, H1.out, G1.out⟩
end Go.Proofs.Ytplgodfhhlnojaa

/- sojournref1.R: all questions to the document's own reader. -/
namespace Go.Proofs.Ytplgodfhhlnojaa
open Go.RowKit
set_option maxRecDepth 100000 in
set_option maxHeartbeats 1000000 in
theorem rrint_none (p : Nat) (lo hi : Int) (w : World) (r : RR w p none) :
    Calls Try.prog 83 #[.pointer (some ⟨p, 0, none⟩), .int .i64 lo, .int .i64 hi] w (RRPost w p (.int .i64 0) none) := by
  obtain ⟨S, h1⟩ := r.none_
  have c0 : w.cell? ⟨p, 0, none⟩ = some (.string S) := by rw [cellsAt h1]; rfl
  have c1 : w.cell? ⟨p, 1, none⟩ = some (.bool true) := by rw [cellsAt h1]; rfl
  have R := Lib.hid r
  clear h1 r
  go_enter Try.func83, Try.ntmps83
  go_wp2
  go_loop [7, 8] (fun u i => u = .int .u64 0 ∧ i = .int .i64 0) (fun _ i => 10 - (intOf i).toNat)
  case atStart => exact ⟨rfl, rfl⟩
  case round =>
    obtain ⟨rfl, rfl⟩ := hrel
    by_cases h0 : 0 < S.size
    · go_wp2_with (go_at_call 113; refine (rwrong_c p _ _ R.out).mono ?_; rintro e w1 ⟨rfl, h1, g1⟩; have H1 := Lib.hid h1; have G1 := Lib.hid g1; clear h1 g1)
      go_ret
      exact ⟨rfl, H1.out, G1.out⟩
    · go_wp2_with (go_at_call 113; refine (rwrong_c p _ _ R.out).mono ?_; rintro e w1 ⟨rfl, h1, g1⟩; have H1 := Lib.hid h1; have G1 := Lib.hid g1; clear h1 g1)
      go_ret
      exact ⟨rfl, H1.out, G1.out⟩
/-- What is left is not too long. -/
def Sh (s : Rs) : Prop := ∀ l, s = some l → l.length ≤ 1000000000000
theorem rrint_c (p : Nat) (lo hi : Int) (s : Rs) (w : World) (r : RR w p s) (hs : Sh s) :
    Calls Try.prog 83 #[.pointer (some ⟨p, 0, none⟩), .int .i64 lo, .int .i64 hi] w (RRPost w p (.int .i64 (rInt lo hi s).1) (rInt lo hi s).2) := by
  cases s with
  | none => exact rrint_none p lo hi w r
  | some l => exact rrint_some p lo hi l w r (hs l rfl)
theorem Sh.int {s : Rs} (h : Sh s) (lo hi : Int) : Sh (rInt lo hi s).2 := by
  intro l hl
  cases s with
  | none => cases hl
  | some l0 =>
    unfold rInt at hl
    cases h' : dec lo hi l0 with
    | none => simp only [h'] at hl; cases hl
    | some q =>
      obtain ⟨v, r⟩ := q
      simp only [h'] at hl
      injection hl with hl
      subst hl
      have h1 := (dec_is h').1
      have h2 := h l0 rfl
      rw [h1, List.length_append] at h2
      omega
theorem Sh.take {s : Rs} (h : Sh s) (m : Nat) : Sh (rTake m s).2 := by
  intro l hl
  cases s with
  | none => cases hl
  | some l0 =>
    have h2 := h l0 rfl
    unfold rTake at hl
    simp only at hl
    split at hl
    · injection hl with hl; subst hl; rw [List.length_drop]; omega
    · cases hl
theorem Sh.text {s : Rs} (h : Sh s) (most : Int) : Sh (rText most s).2 := by
  rw [rText_eq]
  split
  · exact h.int _ _
  · exact (h.int _ _).take _
theorem Sh.byte {s : Rs} (h : Sh s) : Sh (rByte s).2 := by
  intro l hl
  cases s with
  | none => cases hl
  | some l0 =>
    have h2 := h l0 rfl
    cases l0 with
    | nil => cases hl
    | cons c l0 => injection hl with hl; subst hl; simp at h2; omega
def tailT (v : Int) (s : Rs) : List UInt8 × Rs := if v = 0 then ([], s) else rTake v.toNat s
theorem rText_tail (most : Int) (s : Rs) : rText most s = tailT (rInt 0 (max most 0) s).1 (rInt 0 (max most 0) s).2 := rText_eq most s
set_option maxRecDepth 100000 in
set_option maxHeartbeats 1000000 in
theorem rrtext_m (p : Nat) (most M : Int) (s : Rs) (w : World) (r : RR w p s) (hs : Sh s) (hM : (0 ≤ most ∧ M = most) ∨ (most < 0 ∧ M = 0)) :
    Calls Try.prog 100 #[.pointer (some ⟨p, 0, none⟩), .int .i64 most] w
      (RRPost w p (SV (tailT (rInt 0 M s).1 (rInt 0 M s).2).1) (tailT (rInt 0 M s).1 (rInt 0 M s).2).2) := by
  have HC := Lib.hid (rrint_c p 0 M s w r hs)
  have hnn := (rInt_nn M s).1
  have hbad := rInt_bad 0 M s
  have hsh := hs.int 0 M
  unfold RRPost at HC ⊢
  obtain ⟨v, s', hr⟩ : ∃ v s', rInt 0 M s = (v, s') := ⟨_, _, rfl⟩
  rw [hr] at hnn hbad hsh HC ⊢
  simp only at hnn hbad hsh HC ⊢
  have HBAD := Lib.hid hbad
  clear r hr hbad hs
  rcases hM with ⟨h0, rfl⟩ | ⟨h0, rfl⟩
  all_goals
    cases s' with
    | none =>
      have hv : v = 0 := HBAD.out rfl
      subst hv
      clear hsh
      go_enter Try.func100, Try.ntmps100
      go_wp2_with fail
      refine HC.out.mono ?_
      rintro e w1 ⟨rfl, h1, g1⟩
      obtain ⟨S, hh⟩ := h1.none_
      have c1 : w1.cell? ⟨p, 1, none⟩ = some (.bool true) := by rw [cellsAt hh]; rfl
      have H1 := Lib.hid h1
      have G1 := Lib.hid g1
      clear h1 g1 hh
      go_wp2_with (go_at_call 113; refine (rwrong_c p _ _ H1.out).mono ?_; rintro e w2 ⟨rfl, h2, g2⟩; have H2 := Lib.hid h2; have G2 := Lib.hid g2; clear h2 g2)
      go_ret
      exact ⟨rfl, H2.out, only_trans G1.out G2.out⟩
    | some l =>
      have hll := hsh l rfl
      clear hsh
      obtain ⟨m, rfl⟩ := Int.eq_ofNat_of_zero_le hnn
      go_enter Try.func100, Try.ntmps100
      go_wp2_with fail
      refine HC.out.mono ?_
      rintro e w1 ⟨rfl, h1, g1⟩
      obtain ⟨S, hS, hh⟩ := h1.some_
      have c0 : w1.cell? ⟨p, 0, none⟩ = some (.string S) := by rw [cellsAt hh]; rfl
      have c1 : w1.cell? ⟨p, 1, none⟩ = some (.bool false) := by rw [cellsAt hh]; rfl
      have f0 := free0 (i := 0) hh
      have hz : S.size = l.length := by rw [← hS]; simp
      have hz2 : S.size ≤ 1000000000000 := by omega
      have H1 := Lib.hid h1
      have G1 := Lib.hid g1
      have HH := Lib.hid hh
      have HS := Lib.hid hS
      have HZ := Lib.hid hz
      clear h1 g1 hh hS hz hll
      by_cases hm : S.size < m
      · go_wp2_with (go_at_call 113; refine (rwrong_c p _ _ H1.out).mono ?_; rintro e w2 ⟨rfl, h2, g2⟩; have H2 := Lib.hid h2; have G2 := Lib.hid g2; clear h2 g2)
        go_ret
        have e : tailT (m : Int) (some l) = ([], none) := by
          unfold tailT rTake
          rw [if_neg (by omega)]
          simp only [Int.toNat_natCast]
          rw [if_neg (by have := HZ.out; omega)]
        rw [e]
        exact ⟨rfl, H2.out, only_trans G1.out G2.out⟩
      · have hm' : m ≤ S.size := by omega
        clear hm
        go_wp2
        go_ret
        have e : tailT (m : Int) (some l) = (l.take m, some (l.drop m)) := by
          unfold tailT
          by_cases h : m = 0
          · subst h; simp
          · rw [if_neg (by omega)]
            unfold rTake
            simp only [Int.toNat_natCast]
            rw [if_pos (by have := HZ.out; omega)]
        rw [e]
        refine ⟨?_, RR.set HH.out ?_, only_setCell (p := ⟨p, 0, none⟩) G1.out (.inl rfl) _⟩
        · refine ret_str (a := S.extract 0 m) (b := ⟨(l.take m).toArray⟩) ?_
          apply Go.WideShapes.bytes_inj
          rw [Lib.extract_data, HS.out]
          simp
        · rw [Lib.extract_data, HS.out, List.take_of_length_le (by rw [List.length_drop, ← HZ.out]; omega)]
theorem rrtext_c (p : Nat) (most : Int) (s : Rs) (w : World) (r : RR w p s) (hs : Sh s) :
    Calls Try.prog 100 #[.pointer (some ⟨p, 0, none⟩), .int .i64 most] w (RRPost w p (SV (rText most s).1) (rText most s).2) := by
  rw [rText_tail]
  exact rrtext_m p most (max most 0) s w r hs (by omega)
set_option maxHeartbeats 1000000 in
theorem reftext_c (s : ByteArray) (w : World) (hs : s.size ≤ 1000000000000) : Calls Try.prog 93 #[.string s] w fun e w' => e = .returned (SV (encT s.data.toList)) ∧ Below w.heap.size w w' := by
  have HC := Lib.hid (refint_c (s.size : Int) w (by omega) (by omega))
  have HE : Hid (encT s.data.toList = enc (s.size : Int) ++ s.data.toList) := by
    show _ = _
    unfold encT
    simp
  have hL := enc_le (s.size : Int)
  unfold SV at HC
  obtain ⟨L, hLL⟩ : ∃ L, enc (s.size : Int) = L := ⟨_, rfl⟩
  rw [hLL] at HC HE hL
  have hsum : L.length + s.size ≤ 9223372036854775807 := by omega
  clear hLL
  go_enter Try.func93, Try.ntmps93
  go_wp2_with fail
  refine HC.out.mono ?_
  rintro e w1 ⟨rfl, h1⟩
  have H1 := Lib.hid h1
  clear h1
  go_wp2
  go_ret
  refine ⟨ret_str (a := _) (b := ⟨(encT s.data.toList).toArray⟩) ?_, H1.out⟩
  apply Go.WideShapes.bytes_inj
  rw [HE.out]
  simp
end Go.Proofs.Ytplgodfhhlnojaa
