/- pack.Writer: its methods, walked. -/
import Derived.Test.YtebinhelnhnbeaaPackW
set_option linter.unusedSimpArgs false
set_option linter.unusedVariables false
namespace Go.Proofs.Ytebinhelnhnbeaa
open Go.RowKit
theorem xor_ones (x : Nat) (h : x < 18446744073709551616) : x ^^^ 18446744073709551615 = 18446744073709551615 - x := by
  have h1 : (BitVec.ofNat 64 x ^^^ BitVec.allOnes 64).toNat = (~~~ (BitVec.ofNat 64 x)).toNat := by rw [BitVec.xor_allOnes]
  rw [BitVec.toNat_xor, BitVec.toNat_not, BitVec.toNat_allOnes, BitVec.toNat_ofNat] at h1
  have h2 : x % 2 ^ 64 = x := Nat.mod_eq_of_lt h
  rw [h2] at h1
  exact h1
theorem zig_bits (v : Int) (h0 : -9223372036854775808 ≤ v) (h1 : v ≤ 9223372036854775807) :
    bits .xor .u64 (IntKind.u64.wrap (IntKind.u64.wrap v * 2)) (IntKind.u64.wrap (v / 9223372036854775808)) = ((zig v : Nat) : Int) := by
  simp only [IntKind.wrap_u64]
  unfold zig
  by_cases hv : 0 ≤ v
  · rw [if_pos hv]
    have e1 : v % 18446744073709551616 * 2 % 18446744073709551616 = (((2 * v).toNat : Nat) : Int) := by omega
    have e2 : v / 9223372036854775808 % 18446744073709551616 = ((0 : Nat) : Int) := by omega
    rw [e1, e2, u64_xor_nat _ _ (by omega) (by omega), Nat.xor_zero]
  · rw [if_neg hv]
    have e1 : v % 18446744073709551616 * 2 % 18446744073709551616 = (((2 * v + 18446744073709551616).toNat : Nat) : Int) := by omega
    have e2 : v / 9223372036854775808 % 18446744073709551616 = ((18446744073709551615 : Nat) : Int) := by omega
    rw [e1, e2, u64_xor_nat _ _ (by omega) (by omega), xor_ones _ (by omega)]
    omega
theorem or128_8 : ∀ a : Fin 256, a.val ||| 128 = a.val % 128 + 128 := by decide +kernel
theorem or128 (u : Nat) : bits .or .u8 ((u : Int) % 256) 128 = ((u % 128 + 128 : Nat) : Int) := by
  rw [show (u : Int) % 256 = ((u % 256 : Nat) : Int) from by omega, show (128 : Int) = ((128 : Nat) : Int) from rfl, u8_or_nat _ _ (by omega) (by omega)]
  have := or128_8 ⟨u % 256, by omega⟩
  simp only at this
  rw [this]
  omega
theorem cell_u8 (x : Nat) (h : x < 256) : [Value.int .u8 (x : Int)] = B8 [UInt8.ofNat x] := by
  simp only [B8, List.map_cons, List.map_nil, UInt8.toNat_ofNat']
  rw [Nat.mod_eq_of_lt (by omega)]
/-- One byte is put. -/
theorem wpl_put {w : World} {ops : Array Oper} {rest : List Oper} {o : Oper} {a : Act} {Q : Exit → Act → World → Prop} (hgd : o.guard = none) (s x : Operand)
    (ho : o.op = .call { callee := .builtin .append, args := #[s, x], argTypes := #[24, 24] })
    (w0 : World) (base g : Nat) (v : Value) (l : List UInt8) (b : UInt8) (z : Int) (hz : z = (b.toNat : Int)) (hw : w = w0.alloc (.cells #[.int .u8 z] 5)) (hs : a.eval s = v) (hx : a.eval x = .slice (some ⟨w0.heap.size, 0, none⟩) 1 1)
    (hbg : base ≤ g) (hg : w0.heap[g]? = some (.cells #[v] 26 (0, 0))) (hown : OB w0 base v l) (hl : l.length ≤ 1000000100)
    (h : ∀ A' n' c' w', Hid (WB (w'.setCell ⟨g, 0, none⟩ (.slice A' n' c')) base g (l ++ [b]) ∧ Below base w0 (w'.setCell ⟨g, 0, none⟩ (.slice A' n' c')) ∧ Keep [5, 26] w0 (w'.setCell ⟨g, 0, none⟩ (.slice A' n' c'))) → w'.cell? ⟨g, 0, none⟩ = some v → w'.frozen? ⟨g, 0, none⟩ = false → wpList Try.prog ops Q rest (a.put o.dst (.slice A' n' c')) w') : wpList Try.prog ops Q (o :: rest) a w := by
  subst hw hz
  have hlt := blk_lt hg
  refine wpl_app hgd s x ho base v l hs (hown.alloc _) (w0.heap.size + 1) (some ⟨w0.heap.size, 0, none⟩) 1 1 [b] hx ?_ ?_ ?_ ?_
  · exact rd_new w0 #[.int .u8 (b.toNat : Int)] _ _ 1 1 rfl
  · omega
  · simp; omega
  · intro v1 w1 h1 g1 _
    have hne : v.ownBlock ≠ some g := own_ne_blk (show w0.ownsRow base 5 1 v l.length (B8 l) from hown) hg (by decide)
    have hg1 : w1.heap[g]? = some (.cells #[v] 26 (0, 0)) := by
      rw [g1.block g (by simp; omega) (fun h => hne h.symm), Below.heap_alloc _ _ _ hlt]; exact hg
    have hst := WB.step hbg hg hown h1 g1
    obtain ⟨A1, c1, rfl, _⟩ := h1.form
    exact h _ _ _ w1 (Lib.hid hst) (cell0 hg1) (free0 hg1)
set_option maxRecDepth 100000 in
set_option maxHeartbeats 1000000 in
theorem wint_c (g : Nat) (v : Int) (l : List UInt8) (base : Nat) (w : World) (h : WB w base g l) (hl : l.length ≤ 1000000000) (h0 : -9223372036854775808 ≤ v) (h1 : v ≤ 9223372036854775807) :
    Calls Try.prog 18 #[.pointer (some ⟨g, 0, none⟩), .int .i64 v] w (WP w base g (l ++ enc v)) := by
  obtain ⟨z, hzz⟩ : ∃ z, zig v = z := ⟨_, rfl⟩
  have hz := zig_bits v h0 h1
  have hzl := zig_lt v h0 h1
  have HE := Lib.hid (show enc v = grpF 9 z from by rw [← hzz]; rfl)
  rw [hzz] at hz hzl
  clear hzz
  have H := Lib.hid h
  have HL := Lib.hid hl
  clear h hl
  go_enter Try.func18, Try.ntmps18
  go_wp2
  clear hz
  have HZL := Lib.hid hzl
  clear hzl
  go_loopw [4] (fun u wr => ∃ (k f : Nat) (m : List UInt8), u = .int .u64 (k : Int) ∧ Hid (WB wr base g m ∧ m ++ grpF f k = l ++ enc v ∧ k < lim f ∧ m.length + f ≤ l.length + 9 ∧ f ≤ 9 ∧ Below base w wr ∧ Keep [5, 26] w wr)) (fun u _ => (intOf u).toNat)
  case atStart => exact ⟨z, 9, l, rfl, H.out, by rw [HE.out], by rw [lim9]; exact HZL.out, by omega, by omega, Below.refl _ _, Keep.refl _ _⟩
  case round =>
    obtain ⟨k, f, m, rfl, HR⟩ := hrel
    obtain ⟨⟨hbg, vv, hg, hown⟩, heq, hlim, hml, hf9, hbl, hkp⟩ := HR.out
    have c0 := cell0 hg
    have f0 := free0 (i := 0) hg
    have hor := or128 k
    have HG := Lib.hid hg
    have HO := Lib.hid hown
    have HQ := Lib.hid heq
    have HM := Lib.hid hml
    have HB := Lib.hid hbl
    have HK := Lib.hid hkp
    have HLM := Lib.hid hlim
    clear hg hown heq hbl hkp hml hlim HR
    by_cases hlt : 128 ≤ k
    · clear h0 h1
      have HLT := Lib.hid hlt
      obtain ⟨c, hc⟩ : ∃ c, UInt8.ofNat (k % 128 + 128) = c := ⟨_, rfl⟩
      have hct : c.toNat = k % 128 + 128 := by rw [← hc, UInt8.toNat_ofNat']; omega
      rw [← hct] at hor
      have HC := Lib.hid hc
      clear hc hct
      go_wp2_with (at_builtin; refine wpl_put rfl (.tmp 22) (.tmp 26) rfl wr base g vv m c _ rfl rfl rfl rfl hbg HG.out HO.out (by have := HM.out; have := HL.out; omega) ?_)
      intro A1 n1 c1 w1 HST d0 e0
      clear hor
      go_wp2
      go_roundw
      case rel =>
        obtain ⟨q1, q2, q3⟩ := HST.out
        have hlim := HLM.out
        have hlt := HLT.out
        obtain ⟨f, rfl⟩ : ∃ f', f = f' + 1 := by
          cases f with
          | zero => simp only [lim] at hlim; omega
          | succ f => exact ⟨f, rfl⟩
        simp only [lim] at hlim
        refine ⟨k / 128, f, m ++ [c], by go_num, q1, ?_, by omega, by have := HM.out; simp; omega, by omega, HB.out.trans q2, HK.out.trans q3⟩
        have := HQ.out
        rw [grpF, if_neg (by omega), HC.out] at this
        simpa using this
      case measure => simp [intOf]; omega
    · clear h0 h1 hor
      have HLT := Lib.hid hlt
      obtain ⟨c, hc⟩ : ∃ c, UInt8.ofNat k = c := ⟨_, rfl⟩
      have hct : (k : Int) = (c.toNat : Int) := by rw [← hc, UInt8.toNat_ofNat']; omega
      have HC := Lib.hid hc
      have HCT := Lib.hid hct
      clear hc hct
      go_wp2_with (at_builtin; refine wpl_put rfl (.tmp 34) (.tmp 37) rfl wr base g vv m c _ HCT.out rfl rfl rfl hbg HG.out HO.out (by have := HM.out; have := HL.out; omega) ?_)
      intro A1 n1 c1 w1 HST d0 e0
      go_wp2
      go_end0
      obtain ⟨q1, q2, q3⟩ := HST.out
      have e : l ++ enc v = m ++ [c] := by
        rw [← HQ.out, ← HC.out]
        have hlt := HLT.out
        cases f with
        | zero => rfl
        | succ f => rw [grpF, if_pos (by omega)]
      exact ⟨rfl, by rw [e]; exact q1, HB.out.trans q2, HK.out.trans q3⟩
end Go.Proofs.Ytebinhelnhnbeaa
