/- sojournref1: Int, and the reader of the document's own answer. -/
import Derived.Test.YtebinhelnhnbeaaPackR5
import Derived.Test.YtebinhelnhnbeaaBelowR
import Derived.Lib.Strings
import Derived.Lib.IndexBytes
set_option linter.unusedSimpArgs false
set_option linter.unusedVariables false
namespace Go.Proofs.Ytebinhelnhnbeaa
open Go.RowKit
/-- A row of bytes gets one byte more. -/
theorem wpl_app1B {w : World} {ops : Array Oper} {rest : List Oper} {o : Oper} {a : Act} {Q : Exit → Act → World → Prop} (hgd : o.guard = none) (s x : Operand)
    (ho : o.op = .call { callee := .builtin .append, args := #[s, x], argTypes := #[24, 24] })
    (w0 : World) (base : Nat) (v : Value) (l : List UInt8) (b : UInt8) (z : Int) (hz : z = (b.toNat : Int)) (hw : w = w0.alloc (.cells #[.int .u8 z] 5)) (hs : a.eval s = v) (hx : a.eval x = .slice (some ⟨w0.heap.size, 0, none⟩) 1 1)
    (hown : OB w0 base v l) (hl : l.length ≤ 1000000100) (hbase : base ≤ w0.heap.size)
    (h : ∀ A' n' c' w', Hid (OB w' base (.slice A' n' c') (l ++ [b]) ∧ Below base w0 w') → wpList Try.prog ops Q rest (a.put o.dst (.slice A' n' c')) w') : wpList Try.prog ops Q (o :: rest) a w := by
  subst hw hz
  refine wpl_app hgd s x ho base v l hs (hown.alloc _) (w0.heap.size + 1) (some ⟨w0.heap.size, 0, none⟩) 1 1 [b] hx ?_ ?_ ?_ ?_
  · exact rd_new w0 #[.int .u8 (b.toNat : Int)] _ _ 1 1 rfl
  · omega
  · simp; omega
  · intro v1 w1 h1 g1 _
    have hb : Below base w0 w1 := ((Below.refl _ _).alloc hbase _).grown g1 (by simp; omega) (fun k hk => (hown.lt k hk).1)
    have H1 := h1
    obtain ⟨A1, c1, rfl, _⟩ := h1.form
    exact h _ _ _ w1 (Lib.hid ⟨H1, hb⟩)
theorem zig_neg (v : Int) (h0 : -9223372036854775808 ≤ v) (hv : v < 0) : bits .xor .u64 IntKind.u64.max (IntKind.u64.wrap (IntKind.u64.wrap v * 2)) = ((zig v : Nat) : Int) := by
  rw [show IntKind.u64.max = ((18446744073709551615 : Nat) : Int) from rfl]
  simp only [IntKind.wrap_u64]
  unfold zig
  rw [if_neg (by omega)]
  have e1 : v % 18446744073709551616 * 2 % 18446744073709551616 = (((2 * v + 18446744073709551616).toNat : Nat) : Int) := by omega
  rw [e1, u64_xor_nat _ _ (by omega) (by omega), Nat.xor_comm, xor_ones _ (by omega)]
  omega
theorem zig_pos (v : Int) (hv : ¬ v < 0) : v * 2 = ((zig v : Nat) : Int) := by unfold zig; rw [if_pos (by omega)]; omega
set_option maxRecDepth 100000 in
set_option maxHeartbeats 1000000 in
theorem refint_c (v : Int) (w : World) (h0 : -9223372036854775808 ≤ v) (h1 : v ≤ 9223372036854775807) :
    Calls Try.prog 19 #[.int .i64 v] w fun e w' => e = .returned (SV (enc v)) ∧ Below w.heap.size w w' := by
  obtain ⟨L, hL⟩ : ∃ L, enc v = L := ⟨_, rfl⟩
  rw [hL]
  obtain ⟨z, hzz⟩ : ∃ z, zig v = z := ⟨_, rfl⟩
  have hzl := zig_lt v h0 h1
  have HE := Lib.hid (show L = grpF 9 z from by rw [← hzz, ← hL]; rfl)
  rw [hzz] at hzl
  have HZL := Lib.hid hzl
  clear hzl hL
  go_enter Try.func19, Try.ntmps19
  by_cases hv : v < 0
  · have hz := zig_neg v h0 hv
    rw [hzz] at hz
    clear hzz
    go_wp2
    clear hz
    go_loopw [3, 4] (fun u o wr => ∃ (k f n c : Nat) (A : Option Addr) (m : List UInt8), u = .int .u64 (k : Int) ∧ o = .slice A n c ∧ Hid (OB wr w.heap.size (.slice A n c) m ∧ m ++ grpF f k = L ∧ k < lim f ∧ m.length + f ≤ 9 ∧ f ≤ 9 ∧ Below w.heap.size w wr)) (fun u _ _ => (intOf u).toNat)
    case atStart => exact ⟨z, 9, 0, 0, none, [], rfl, rfl, OB.nil _ _, by rw [HE.out]; rfl, by rw [lim9]; exact HZL.out, by simp, by omega, Below.refl _ _⟩
    case round =>
      clear h0 h1 hv
      obtain ⟨k, f, n, c, A, m, rfl, rfl, HR⟩ := hrel
      have hor := or128 k
      by_cases hlt : 128 ≤ k
      · have HLT := Lib.hid hlt
        obtain ⟨b, hc⟩ : ∃ b, UInt8.ofNat (k % 128 + 128) = b := ⟨_, rfl⟩
        have hct : b.toNat = k % 128 + 128 := by rw [← hc, UInt8.toNat_ofNat']; omega
        rw [← hct] at hor
        have HC := Lib.hid hc
        clear hc hct
        go_wp2_with (at_builtin; refine wpl_app1B rfl (.tmp 14) (.tmp 18) rfl wr w.heap.size _ m b _ rfl rfl rfl rfl HR.out.1 (by have := HR.out.2.2.2.1; omega) (HR.out.2.2.2.2.2.size) ?_)
        intro A1 n1 c1 w1 H1
        clear hor
        go_wp2
        go_roundw
        case rel =>
          obtain ⟨r1, r2, r3, r4, r5, r6⟩ := HR.out
          have hlt := HLT.out
          obtain ⟨f, rfl⟩ : ∃ f', f = f' + 1 := by
            cases f with
            | zero => simp only [lim] at r3; omega
            | succ f => exact ⟨f, rfl⟩
          simp only [lim] at r3
          rw [grpF, if_neg (by omega), HC.out] at r2
          exact ⟨k / 128, f, n1, c1, A1, m ++ [b], by go_num, rfl, H1.out.1, by simpa using r2, by omega, by simp; omega, by omega, r6.trans H1.out.2⟩
        case measure => simp [intOf]; omega
      · clear hor
        have HLT := Lib.hid hlt
        obtain ⟨b, hc⟩ : ∃ b, UInt8.ofNat k = b := ⟨_, rfl⟩
        have hct : (k : Int) = (b.toNat : Int) := by rw [← hc, UInt8.toNat_ofNat']; omega
        have HC := Lib.hid hc
        have HCT := Lib.hid hct
        clear hc hct
        go_wp2_with (at_builtin; refine wpl_app1B rfl (.tmp 22) (.tmp 25) rfl wr w.heap.size _ m b _ HCT.out rfl rfl rfl HR.out.1 (by have := HR.out.2.2.2.1; omega) (HR.out.2.2.2.2.2.size) ?_)
        intro A1 n1 c1 w1 H1
        have hL : L = m ++ [b] := by
          rw [← HR.out.2.1, ← HC.out]
          have hlt := HLT.out
          cases f with
          | zero => rfl
          | succ f => rw [grpF, if_pos (by omega)]
        obtain ⟨Ax, cx, ex, _, _, rx⟩ := H1.out.1.form
        injection ex with e1 e2 e3
        subst e1 e2 e3
        have hcv : (convert 24 9 (.slice A1 (m ++ [b]).length c1)).run Try.prog w1 = .ok (.string ⟨(m ++ [b]).toArray⟩) w1 := run_conv_str rx
        rw [← hL] at hcv
        have HLL := Lib.hid hL
        clear hL rx
        rw [← HLL.out]
        go_wp2
        go_ret
        exact ⟨rfl, HR.out.2.2.2.2.2.trans H1.out.2⟩
  · have hz := zig_pos v hv
    rw [hzz] at hz
    have HZ := Lib.hid hz
    clear hzz hz
    go_wp2
    rw [HZ.out]
    go_loopw [3, 4] (fun u o wr => ∃ (k f n c : Nat) (A : Option Addr) (m : List UInt8), u = .int .u64 (k : Int) ∧ o = .slice A n c ∧ Hid (OB wr w.heap.size (.slice A n c) m ∧ m ++ grpF f k = L ∧ k < lim f ∧ m.length + f ≤ 9 ∧ f ≤ 9 ∧ Below w.heap.size w wr)) (fun u _ _ => (intOf u).toNat)
    case atStart => exact ⟨z, 9, 0, 0, none, [], rfl, rfl, OB.nil _ _, by rw [HE.out]; rfl, by rw [lim9]; exact HZL.out, by simp, by omega, Below.refl _ _⟩
    case round =>
      clear h0 h1 hv
      obtain ⟨k, f, n, c, A, m, rfl, rfl, HR⟩ := hrel
      have hor := or128 k
      by_cases hlt : 128 ≤ k
      · have HLT := Lib.hid hlt
        obtain ⟨b, hc⟩ : ∃ b, UInt8.ofNat (k % 128 + 128) = b := ⟨_, rfl⟩
        have hct : b.toNat = k % 128 + 128 := by rw [← hc, UInt8.toNat_ofNat']; omega
        rw [← hct] at hor
        have HC := Lib.hid hc
        clear hc hct
        go_wp2_with (at_builtin; refine wpl_app1B rfl (.tmp 14) (.tmp 18) rfl wr w.heap.size _ m b _ rfl rfl rfl rfl HR.out.1 (by have := HR.out.2.2.2.1; omega) (HR.out.2.2.2.2.2.size) ?_)
        intro A1 n1 c1 w1 H1
        clear hor
        go_wp2
        go_roundw
        case rel =>
          obtain ⟨r1, r2, r3, r4, r5, r6⟩ := HR.out
          have hlt := HLT.out
          obtain ⟨f, rfl⟩ : ∃ f', f = f' + 1 := by
            cases f with
            | zero => simp only [lim] at r3; omega
            | succ f => exact ⟨f, rfl⟩
          simp only [lim] at r3
          rw [grpF, if_neg (by omega), HC.out] at r2
          exact ⟨k / 128, f, n1, c1, A1, m ++ [b], by go_num, rfl, H1.out.1, by simpa using r2, by omega, by simp; omega, by omega, r6.trans H1.out.2⟩
        case measure => simp [intOf]; omega
      · clear hor
        have HLT := Lib.hid hlt
        obtain ⟨b, hc⟩ : ∃ b, UInt8.ofNat k = b := ⟨_, rfl⟩
        have hct : (k : Int) = (b.toNat : Int) := by rw [← hc, UInt8.toNat_ofNat']; omega
        have HC := Lib.hid hc
        have HCT := Lib.hid hct
        clear hc hct
        go_wp2_with (at_builtin; refine wpl_app1B rfl (.tmp 22) (.tmp 25) rfl wr w.heap.size _ m b _ HCT.out rfl rfl rfl HR.out.1 (by have := HR.out.2.2.2.1; omega) (HR.out.2.2.2.2.2.size) ?_)
        intro A1 n1 c1 w1 H1
        have hL : L = m ++ [b] := by
          rw [← HR.out.2.1, ← HC.out]
          have hlt := HLT.out
          cases f with
          | zero => rfl
          | succ f => rw [grpF, if_pos (by omega)]
        obtain ⟨Ax, cx, ex, _, _, rx⟩ := H1.out.1.form
        injection ex with e1 e2 e3
        subst e1 e2 e3
        have hcv : (convert 24 9 (.slice A1 (m ++ [b]).length c1)).run Try.prog w1 = .ok (.string ⟨(m ++ [b]).toArray⟩) w1 := run_conv_str rx
        rw [← hL] at hcv
        have HLL := Lib.hid hL
        clear hL rx
        rw [← HLL.out]
        go_wp2
        go_ret
        exact ⟨rfl, HR.out.2.2.2.2.2.trans H1.out.2⟩
end Go.Proofs.Ytebinhelnhnbeaa
