/- PackW, PackW2, PackW3, merged. -/
import Derived.Test.YtplgodfhhlnojaaB1
import Derived.Outline
set_option linter.unusedSimpArgs false
set_option linter.unusedVariables false
/- pack.Writer: what is put, walked. -/
namespace Go.Proofs.Ytplgodfhhlnojaa
open Go.RowKit
theorem set_other {w : World} {g k o : Nat} {u : Value} (h : k ≠ g) : (w.setCell ⟨g, o, none⟩ u).heap[k]? = w.heap[k]? := Below.heap_setCell w ⟨g, o, none⟩ u k h
theorem set_one {w : World} {g : Nat} {v u : Value} {t : TypeId} {m : Nat × Nat} (h : w.heap[g]? = some (.cells #[v] t m)) : (w.setCell ⟨g, 0, none⟩ u).heap[g]? = some (.cells #[u] t m) := by
  simp [World.setCell, Array.getElem?_modify, h]
theorem free0 {w : World} {g i : Nat} {cs : Array Value} {t : TypeId} (h : w.heap[g]? = some (.cells cs t (0, 0))) : w.frozen? ⟨g, i, none⟩ = false := by
  simp [World.frozen?, h]
theorem cell0 {w : World} {g : Nat} {v : Value} {t : TypeId} {m : Nat × Nat} (h : w.heap[g]? = some (.cells #[v] t m)) : w.cell? ⟨g, 0, none⟩ = some v := by
  simp [World.cell?, h]
theorem blk_lt {w : World} {g : Nat} {o : Obj} (h : w.heap[g]? = some o) : g < w.heap.size := by
  rcases Nat.lt_or_ge g w.heap.size with h' | h'
  · exact h'
  · rw [Array.getElem?_eq_none h'] at h; cases h
/-- All blocks stand whose cells are of none of these types. -/
structure Keep (ts : List TypeId) (w w' : World) : Prop where
  size : w.heap.size ≤ w'.heap.size
  block : ∀ (k : Nat) (o : Obj), w.heap[k]? = some o → (∀ cs t m, o = .cells cs t m → t ∉ ts) → w'.heap[k]? = some o
section
variable {w w' w'' : World} {ts : List TypeId}
theorem Keep.refl (ts : List TypeId) (w : World) : Keep ts w w := ⟨Nat.le_refl _, fun _ _ h _ => h⟩
theorem Keep.trans (h : Keep ts w w') (k : Keep ts w' w'') : Keep ts w w'' := ⟨Nat.le_trans h.size k.size, fun i o hi ht => k.block i o (h.block i o hi ht) ht⟩
theorem Keep.alloc (h : Keep ts w w') (o : Obj) : Keep ts w (w'.alloc o) :=
  ⟨Nat.le_trans h.size (by simp), fun k x hk ht => by
    have h1 := h.block k x hk ht
    rw [Below.heap_alloc _ _ _ (blk_lt h1)]; exact h1⟩
theorem Keep.drewN (h : Keep ts w w') (n : Nat) : Keep ts w (w'.drewN n) := ⟨h.size, h.block⟩
theorem Keep.below (h : Keep ts w w') (hb : Below w'.heap.size w' w'') : Keep ts w w'' :=
  ⟨Nat.le_trans h.size hb.size, fun k x hk ht => by
    have h1 := h.block k x hk ht
    rw [hb.block k (blk_lt h1)]; exact h1⟩
theorem Keep.set {g o : Nat} {cs : Array Value} {t : TypeId} {m : Nat × Nat} (h : Keep ts w w') (hg : w'.heap[g]? = some (.cells cs t m)) (ht : t ∈ ts) (u : Value) : Keep ts w (w'.setCell ⟨g, o, none⟩ u) :=
  ⟨by simpa [World.setCell] using h.size, fun k x hk hx => by
    have h1 := h.block k x hk hx
    have hne : k ≠ g := by
      rintro rfl
      rw [h1] at hg
      injection hg with hg
      exact hx _ _ _ hg ht
    rw [set_other hne]; exact h1⟩
theorem Keep.own {base s n : Nat} {e : TypeId} {v : Value} {xs : List Value} (h : Keep ts w w') (hv : w'.ownsRow base e s v n xs) (ht : e ∈ ts) (hg : w'.grownBy w'' v.ownBlock) : Keep ts w w'' :=
  ⟨Nat.le_trans h.size hg.size, fun k x hk hx => by
    have h1 := h.block k x hk hx
    rw [hg.block k (blk_lt h1) ?_]
    · exact h1
    · intro he
      rcases hv.2 with ⟨rfl, _⟩ | ⟨g', cap, cur, rfl, _, hh, _⟩
      · cases he
      · simp only [Value.ownBlock, Option.some.injEq] at he
        subst he
        rw [h1] at hh
        injection hh with hh
        exact hx _ _ _ hh ht⟩
end
/-- Block g is a writer that has put these bytes; all is of the call's own, from base on. -/
def WB (w : World) (base g : Nat) (l : List UInt8) : Prop := base ≤ g ∧ ∃ v, w.heap[g]? = some (.cells #[v] 103 (0, 0)) ∧ OB w base v l
/-- How a putting ends. -/
def WP (w : World) (base g : Nat) (l : List UInt8) (e : Ending) (w' : World) : Prop :=
  e = .returned (.tuple #[]) ∧ WB w' base g l ∧ Below base w w' ∧ Keep [5, 103] w w'
theorem WB.below {w w' : World} {base g D : Nat} {l : List UInt8} (h : WB w base g l) (hb : Below D w w') (hd : w.heap.size ≤ D) : WB w' base g l := by
  obtain ⟨h1, v, h2, h3⟩ := h
  exact ⟨h1, v, (hb.block g (Nat.lt_of_lt_of_le (blk_lt h2) hd)).trans h2, h3.below hb hd⟩
theorem WB.lt {w : World} {base g : Nat} {l : List UInt8} (h : WB w base g l) : g < w.heap.size := by obtain ⟨_, v, h2, _⟩ := h; exact blk_lt h2
theorem WB.new (w : World) (base : Nat) (hb : base ≤ w.heap.size) : WB (w.alloc (.cells #[.slice none 0 0] 103)) base w.heap.size [] :=
  ⟨hb, _, heap_alloc_new w _, OB.nil _ _⟩
/-- What one put of bytes does to a writer. -/
theorem WB.step {w w1 : World} {base g : Nat} {l r : List UInt8} {v v1 : Value} {o : Obj} (hbg : base ≤ g) (hg : w.heap[g]? = some (.cells #[v] 103 (0, 0))) (hv : OB w base v l) (h1 : OB w1 base v1 (l ++ r)) (hgr : (w.alloc o).grownBy w1 v.ownBlock) :
    WB (w1.setCell ⟨g, 0, none⟩ v1) base g (l ++ r) ∧ Below base w (w1.setCell ⟨g, 0, none⟩ v1) ∧ Keep [5, 103] w (w1.setCell ⟨g, 0, none⟩ v1) := by
  have hlt := blk_lt hg
  have hv' : (w.alloc o).ownsRow base 5 1 v l.length (B8 l) := hv.alloc o
  have hne : v.ownBlock ≠ some g := own_ne_blk (show w.ownsRow base 5 1 v l.length (B8 l) from hv) hg (by decide)
  have hg1 : w1.heap[g]? = some (.cells #[v] 103 (0, 0)) := by
    rw [hgr.block g (by simp; omega) (fun h => hne h.symm), Below.heap_alloc _ _ _ hlt]; exact hg
  have h1' : w1.ownsRow base 5 1 v1 (l ++ r).length (B8 (l ++ r)) := h1
  have hne1 : v1.ownBlock ≠ some g := own_ne_blk h1' hg1 (by decide)
  refine ⟨⟨hbg, v1, set_one hg1, ?_⟩, ?_, ?_⟩
  · exact World.ownsRow.kept (row := some g) h1' ⟨rfl, rfl, rfl, by simp [World.setCell], fun k _ hk => set_other (fun e => hk (by rw [e]))⟩ (.inr hne1)
  · refine Below.setCell ?_ hbg _
    refine Below.grown ((Below.refl base w).alloc (by omega) o) hgr (by simp; omega) ?_
    intro k hk
    exact (World.ownsRow.lt hv' k hk).1
  · refine Keep.set ?_ hg1 (by decide) _
    exact ((Keep.refl _ w).alloc o).own hv' (by decide) hgr
/-- The same where nothing is made ahead. -/
theorem WB.step0 {w w1 : World} {base g : Nat} {l r : List UInt8} {v v1 : Value} (hbg : base ≤ g) (hg : w.heap[g]? = some (.cells #[v] 103 (0, 0))) (hv : OB w base v l) (h1 : OB w1 base v1 (l ++ r)) (hgr : w.grownBy w1 v.ownBlock) :
    WB (w1.setCell ⟨g, 0, none⟩ v1) base g (l ++ r) ∧ Below base w (w1.setCell ⟨g, 0, none⟩ v1) ∧ Keep [5, 103] w (w1.setCell ⟨g, 0, none⟩ v1) := by
  have hlt := blk_lt hg
  have hv' : w.ownsRow base 5 1 v l.length (B8 l) := hv
  have hne : v.ownBlock ≠ some g := own_ne_blk hv' hg (by decide)
  have hg1 : w1.heap[g]? = some (.cells #[v] 103 (0, 0)) := by
    rw [hgr.block g hlt (fun h => hne h.symm)]; exact hg
  have h1' : w1.ownsRow base 5 1 v1 (l ++ r).length (B8 (l ++ r)) := h1
  have hne1 : v1.ownBlock ≠ some g := own_ne_blk h1' hg1 (by decide)
  refine ⟨⟨hbg, v1, set_one hg1, ?_⟩, ?_, ?_⟩
  · exact World.ownsRow.kept (row := some g) h1' ⟨rfl, rfl, rfl, by simp [World.setCell], fun k _ hk => set_other (fun e => hk (by rw [e]))⟩ (.inr hne1)
  · refine Below.setCell ?_ hbg _
    refine Below.grown (Below.refl base w) hgr (by omega) ?_
    intro k hk
    exact (World.ownsRow.lt hv' k hk).1
  · refine Keep.set ?_ hg1 (by decide) _
    exact (Keep.refl _ w).own hv' (by decide) hgr
end Go.Proofs.Ytplgodfhhlnojaa

/- pack.Writer: its methods, walked. -/
namespace Go.Proofs.Ytplgodfhhlnojaa
open Go.RowKit
theorem xor_ones (x : Nat) (h : x < 18446744073709551616) : x ^^^ 18446744073709551615 = 18446744073709551615 - x := by
  have h1 : (BitVec.ofNat 64 x ^^^ BitVec.allOnes 64).toNat = (~~~ (BitVec.ofNat 64 x)).toNat := by rw [BitVec.xor_allOnes]
  rw [BitVec.toNat_xor, BitVec.toNat_not, BitVec.toNat_allOnes, BitVec.toNat_ofNat] at h1
  have h2 : x % 2 ^ 64 = x := Nat.mod_eq_of_lt h
  rw [h2] at h1
  exact h1
theorem zig_bits (v : Int) (h0 : -9223372036854775808 ≤ v) (h1 : v ≤ 9223372036854775807) :
    bits .xor .u64 (IntKind.u64.wrap (IntKind.u64.wrap v * 2)) (IntKind.u64.wrap (v / 9223372036854775808)) = ((zig v : Nat) : Int) := by
  simp only [IntKind.wrap_u64]
  unfold zig
  by_cases hv : 0 ≤ v
  · rw [if_pos hv]
    have e1 : v % 18446744073709551616 * 2 % 18446744073709551616 = (((2 * v).toNat : Nat) : Int) := by omega
    have e2 : v / 9223372036854775808 % 18446744073709551616 = ((0 : Nat) : Int) := by omega
    rw [e1, e2, u64_xor_nat _ _ (by omega) (by omega), Nat.xor_zero]
  · rw [if_neg hv]
    have e1 : v % 18446744073709551616 * 2 % 18446744073709551616 = (((2 * v + 18446744073709551616).toNat : Nat) : Int) := by omega
    have e2 : v / 9223372036854775808 % 18446744073709551616 = ((18446744073709551615 : Nat) : Int) := by omega
    rw [e1, e2, u64_xor_nat _ _ (by omega) (by omega), xor_ones _ (by omega)]
    omega
theorem or128_8 : ∀ a : Fin 256, a.val ||| 128 = a.val % 128 + 128 := by decide +kernel
theorem or128 (u : Nat) : bits .or .u8 ((u : Int) % 256) 128 = ((u % 128 + 128 : Nat) : Int) := by
  rw [show (u : Int) % 256 = ((u % 256 : Nat) : Int) from by omega, show (128 : Int) = ((128 : Nat) : Int) from rfl, u8_or_nat _ _ (by omega) (by omega)]
  have := or128_8 ⟨u % 256, by omega⟩
  simp only at this
  rw [this]
  omega
theorem cell_u8 (x : Nat) (h : x < 256) : [Value.int .u8 (x : Int)] = B8 [UInt8.ofNat x] := by
  simp only [B8, List.map_cons, List.map_nil, UInt8.toNat_ofNat']
  rw [Nat.mod_eq_of_lt (by omega)]
/-- One byte is put. -/
theorem wpl_put {w : World} {ops : Array Oper} {rest : List Oper} {o : Oper} {a : Act} {Q : Exit → Act → World → Prop} (hgd : o.guard = none) (s x : Operand)
    (ho : o.op = .call { callee := .builtin .append, args := #[s, x], argTypes := #[59, 59] })
    (w0 : World) (base g : Nat) (v : Value) (l : List UInt8) (b : UInt8) (z : Int) (hz : z = (b.toNat : Int)) (hw : w = w0.alloc (.cells #[.int .u8 z] 5)) (hs : a.eval s = v) (hx : a.eval x = .slice (some ⟨w0.heap.size, 0, none⟩) 1 1)
    (hbg : base ≤ g) (hg : w0.heap[g]? = some (.cells #[v] 103 (0, 0))) (hown : OB w0 base v l) (hl : l.length ≤ 1000000100)
    (h : ∀ A' n' c' w', Hid (WB (w'.setCell ⟨g, 0, none⟩ (.slice A' n' c')) base g (l ++ [b]) ∧ Below base w0 (w'.setCell ⟨g, 0, none⟩ (.slice A' n' c')) ∧ Keep [5, 103] w0 (w'.setCell ⟨g, 0, none⟩ (.slice A' n' c'))) → w'.cell? ⟨g, 0, none⟩ = some v → w'.frozen? ⟨g, 0, none⟩ = false → wpList Try.prog ops Q rest (a.put o.dst (.slice A' n' c')) w') : wpList Try.prog ops Q (o :: rest) a w := by
  subst hw hz
  have hlt := blk_lt hg
  refine wpl_app hgd s x ho base v l hs (hown.alloc _) (w0.heap.size + 1) (some ⟨w0.heap.size, 0, none⟩) 1 1 [b] hx ?_ ?_ ?_ ?_
  · exact rd_new w0 #[.int .u8 (b.toNat : Int)] _ _ 1 1 rfl
  · omega
  · simp; omega
  · intro v1 w1 h1 g1 _
    have hne : v.ownBlock ≠ some g := own_ne_blk (show w0.ownsRow base 5 1 v l.length (B8 l) from hown) hg (by decide)
    have hg1 : w1.heap[g]? = some (.cells #[v] 103 (0, 0)) := by
      rw [g1.block g (by simp; omega) (fun h => hne h.symm), Below.heap_alloc _ _ _ hlt]; exact hg
    have hst := WB.step hbg hg hown h1 g1
    obtain ⟨A1, c1, rfl, _⟩ := h1.form
    exact h _ _ _ w1 (Lib.hid hst) (cell0 hg1) (free0 hg1)
set_option maxRecDepth 100000 in
set_option maxHeartbeats 1000000 in
theorem wint_c (g : Nat) (v : Int) (l : List UInt8) (base : Nat) (w : World) (h : WB w base g l) (hl : l.length ≤ 1000000000) (h0 : -9223372036854775808 ≤ v) (h1 : v ≤ 9223372036854775807) :
    Calls Try.prog 73 #[.pointer (some ⟨g, 0, none⟩), .int .i64 v] w (WP w base g (l ++ enc v)) := by
  obtain ⟨z, hzz⟩ : ∃ z, zig v = z := ⟨_, rfl⟩
  have hz := zig_bits v h0 h1
  have hzl := zig_lt v h0 h1
  have HE := Lib.hid (show enc v = grpF 9 z from by rw [← hzz]; rfl)
  rw [hzz] at hz hzl
  clear hzz
  have H := Lib.hid h
  have HL := Lib.hid hl
  clear h hl
  go_enter Try.func73, Try.ntmps73
  go_wp2
  clear hz
  have HZL := Lib.hid hzl
  clear hzl
  go_loopw [4] (fun u wr => ∃ (k f : Nat) (m : List UInt8), u = .int .u64 (k : Int) ∧ Hid (WB wr base g m ∧ m ++ grpF f k = l ++ enc v ∧ k < lim f ∧ m.length + f ≤ l.length + 9 ∧ f ≤ 9 ∧ Below base w wr ∧ Keep [5, 103] w wr)) (fun u _ => (intOf u).toNat)
  case atStart => exact ⟨z, 9, l, rfl, H.out, by rw [HE.out], by rw [lim9]; exact HZL.out, by omega, by omega, Below.refl _ _, Keep.refl _ _⟩
  case round =>
    obtain ⟨k, f, m, rfl, HR⟩ := hrel
    obtain ⟨⟨hbg, vv, hg, hown⟩, heq, hlim, hml, hf9, hbl, hkp⟩ := HR.out
    have c0 := cell0 hg
    have f0 := free0 (i := 0) hg
    have hor := or128 k
    have HG := Lib.hid hg
    have HO := Lib.hid hown
    have HQ := Lib.hid heq
    have HM := Lib.hid hml
    have HB := Lib.hid hbl
    have HK := Lib.hid hkp
    have HLM := Lib.hid hlim
    clear hg hown heq hbl hkp hml hlim HR
    by_cases hlt : 128 ≤ k
    · clear h0 h1
      have HLT := Lib.hid hlt
      obtain ⟨c, hc⟩ : ∃ c, UInt8.ofNat (k % 128 + 128) = c := ⟨_, rfl⟩
      have hct : c.toNat = k % 128 + 128 := by rw [← hc, UInt8.toNat_ofNat']; omega
      rw [← hct] at hor
      have HC := Lib.hid hc
      clear hc hct
      go_wp2_with (at_builtin; refine wpl_put rfl (.tmp 22) (.tmp 26) rfl wr base g vv m c _ rfl rfl rfl rfl hbg HG.out HO.out (by have := HM.out; have := HL.out; omega) ?_)
      intro A1 n1 c1 w1 HST d0 e0
      clear hor
      go_wp2
      go_roundw
      case rel =>
        obtain ⟨q1, q2, q3⟩ := HST.out
        have hlim := HLM.out
        have hlt := HLT.out
        obtain ⟨f, rfl⟩ : ∃ f', f = f' + 1 := by
          cases f with
          | zero => simp only [lim] at hlim; omega
          | succ f => exact ⟨f, rfl⟩
        simp only [lim] at hlim
        refine ⟨k / 128, f, m ++ [c], by go_num, q1, ?_, by omega, by have := HM.out; simp; omega, by omega, HB.out.trans q2, HK.out.trans q3⟩
        have := HQ.out
        rw [grpF, if_neg (by omega), HC.out] at this
        simpa using this
      case measure => simp [intOf]; omega
    · clear h0 h1 hor
      have HLT := Lib.hid hlt
      obtain ⟨c, hc⟩ : ∃ c, UInt8.ofNat k = c := ⟨_, rfl⟩
      have hct : (k : Int) = (c.toNat : Int) := by rw [← hc, UInt8.toNat_ofNat']; omega
      have HC := Lib.hid hc
      have HCT := Lib.hid hct
      clear hc hct
      go_wp2_with (at_builtin; refine wpl_put rfl (.tmp 34) (.tmp 37) rfl wr base g vv m c _ HCT.out rfl rfl rfl hbg HG.out HO.out (by have := HM.out; have := HL.out; omega) ?_)
      intro A1 n1 c1 w1 HST d0 e0
      go_wp2
      go_end0
      obtain ⟨q1, q2, q3⟩ := HST.out
      have e : l ++ enc v = m ++ [c] := by
        rw [← HQ.out, ← HC.out]
        have hlt := HLT.out
        cases f with
        | zero => rfl
        | succ f => rw [grpF, if_pos (by omega)]
      exact ⟨rfl, by rw [e]; exact q1, HB.out.trans q2, HK.out.trans q3⟩
end Go.Proofs.Ytplgodfhhlnojaa

/- pack.Writer: bytes and texts, and what is had in the end; a writer that is none. -/
namespace Go.Proofs.Ytplgodfhhlnojaa
open Go.RowKit
/-- A text is put behind. -/
theorem wpl_putS {w : World} {ops : Array Oper} {rest : List Oper} {o : Oper} {a : Act} {Q : Exit → Act → World → Prop} (hgd : o.guard = none) (s x : Operand)
    (ho : o.op = .call { callee := .builtin .append, args := #[s, x], argTypes := #[59, 9] })
    (base g : Nat) (v : Value) (l : List UInt8) (t : ByteArray) (hs : a.eval s = v) (hx : a.eval x = .string t)
    (hbg : base ≤ g) (hg : w.heap[g]? = some (.cells #[v] 103 (0, 0))) (hown : OB w base v l) (hl : l.length + t.size ≤ 140737488355328)
    (h : ∀ A' n' c' w', Hid (WB (w'.setCell ⟨g, 0, none⟩ (.slice A' n' c')) base g (l ++ t.data.toList) ∧ Below base w (w'.setCell ⟨g, 0, none⟩ (.slice A' n' c')) ∧ Keep [5, 103] w (w'.setCell ⟨g, 0, none⟩ (.slice A' n' c'))) → w'.cell? ⟨g, 0, none⟩ = some v → w'.frozen? ⟨g, 0, none⟩ = false → wpList Try.prog ops Q rest (a.put o.dst (.slice A' n' c')) w') : wpList Try.prog ops Q (o :: rest) a w := by
  have hlt := blk_lt hg
  obtain ⟨i0, hi, hz0, hz1, hz2⟩ := info_parts info_u8
  refine Lib.wpList_append_own_string w hgd s x 59 9 ho base 5 i0 Try.underlying59 Try.underlying9 hi hz0 hz1 hz2 v l.length (B8 l) hs hown t hx (by unfold maxLen; omega) (by omega) (by omega) ?_
  intro v1 w1 h1 g1 _
  have hne : v.ownBlock ≠ some g := own_ne_blk (show w.ownsRow base 5 1 v l.length (B8 l) from hown) hg (by decide)
  have hg1 : w1.heap[g]? = some (.cells #[v] 103 (0, 0)) := by rw [g1.block g hlt (fun h => hne h.symm)]; exact hg
  have h1' : OB w1 base v1 (l ++ t.data.toList) := by
    unfold OB
    rw [List.length_append, B8_app, B8_str, show t.data.toList.length = t.size from by simp]
    exact h1
  have hst := WB.step0 hbg hg hown h1' g1
  obtain ⟨A1, c1, rfl, _⟩ := h1'.form
  exact h _ _ _ w1 (Lib.hid hst) (cell0 hg1) (free0 hg1)
/-- A text as bytes. -/
def encT (l : List UInt8) : List UInt8 := enc (l.length : Int) ++ l
set_option maxRecDepth 100000 in
set_option maxHeartbeats 1000000 in
theorem wtext_c (g : Nat) (s : ByteArray) (l : List UInt8) (base : Nat) (w : World) (h : WB w base g l) (hl : l.length ≤ 1000000000) (hs : s.size ≤ 1000000000) :
    Calls Try.prog 91 #[.pointer (some ⟨g, 0, none⟩), .string s] w (WP w base g (l ++ encT s.data.toList)) := by
  have H := Lib.hid h
  have HL := Lib.hid hl
  have HS := Lib.hid hs
  clear h hl
  go_enter Try.func91, Try.ntmps91
  go_wp2_with fail
  refine (wint_c g (s.size : Int) l base _ H.out HL.out (by omega) (by have := HS.out; omega)).mono ?_
  rintro e w1 ⟨rfl, h1, b1, k1⟩
  obtain ⟨hbg, vv, hg, hown⟩ := h1
  have c0 := cell0 hg
  have f0 := free0 (i := 0) hg
  have HG := Lib.hid hg
  have HO := Lib.hid hown
  have HB := Lib.hid b1
  have HK := Lib.hid k1
  clear hg hown b1 k1
  go_wp2_with (at_builtin; refine wpl_putS rfl (.tmp 14) (.tmp 15) rfl base g vv _ s rfl rfl hbg HG.out HO.out (by have := HL.out; have := HS.out; have := enc_le (s.size : Int); simp; omega) ?_)
  intro A1 n1 c1 w2 HST d0 e0
  go_wp2
  go_end0
  obtain ⟨q1, q2, q3⟩ := HST.out
  refine ⟨rfl, ?_, HB.out.trans q2, HK.out.trans q3⟩
  unfold encT
  rw [show (s.data.toList.length : Int) = (s.size : Int) from by simp]
  exact q1
set_option maxHeartbeats 1000000 in
theorem wbytes_c (g : Nat) (l : List UInt8) (base : Nat) (w : World) (h : WB w base g l) (hl : l.length ≤ 100000000000) :
    Calls Try.prog 74 #[.pointer (some ⟨g, 0, none⟩)] w fun e w' => ∃ v, e = .returned v ∧ OB w' w.heap.size v l ∧ Below w.heap.size w w' := by
  obtain ⟨hbg, vv, hg, hown⟩ := h
  have c0 := cell0 hg
  obtain ⟨A, c, rfl, hc, hm, hr⟩ := hown.form
  have hlt := blk_lt hg
  have HR := Lib.hid hr
  have HL := Lib.hid hl
  clear hr hl hown hg
  go_enter Try.func74, Try.ntmps74
  go_wp2_with (at_builtin; refine wpl_app rfl (.tmp 5) (.tmp 9) rfl w.heap.size _ [] rfl (OB.lit w _ [] #[] 0 rfl rfl (Nat.le_refl _) (by unfold maxLen; omega)) w.heap.size A l.length c l rfl (HR.out.alloc (Nat.le_refl _) _) ?_ ?_ ?_)
  · have := HL.out; simp; omega
  · simp
  intro v1 w1 h1 g1 _
  go_wp2
  go_ret
  exact ⟨v1, rfl, h1, ((Below.refl _ _).alloc (Nat.le_refl _) _).grown g1 (by simp) (by intro k hk; cases hk; exact Nat.le_refl _)⟩
theorem wbytes_nil (w : World) : Calls Try.prog 74 #[.pointer none] w fun e w' => e = .returned (.slice none 0 0) ∧ w = w' := by
  go_enter Try.func74, Try.ntmps74
  go_wp2
  go_ret
  exact ⟨rfl, rfl⟩
theorem wint_nil (v : Int) (w : World) : Calls Try.prog 73 #[.pointer none, .int .i64 v] w fun e w' => e = .returned (.tuple #[]) ∧ w = w' := by
  go_enter Try.func73, Try.ntmps73
  go_wp2
  refine bodyPost_ret (results_none rfl _ _ _) rfl ?_
  exact ⟨rfl, rfl⟩
theorem wtext_nil (s : ByteArray) (w : World) : Calls Try.prog 91 #[.pointer none, .string s] w fun e w' => e = .returned (.tuple #[]) ∧ w = w' := by
  go_enter Try.func91, Try.ntmps91
  go_wp2
  refine bodyPost_ret (results_none rfl _ _ _) rfl ?_
  exact ⟨rfl, rfl⟩
end Go.Proofs.Ytplgodfhhlnojaa
