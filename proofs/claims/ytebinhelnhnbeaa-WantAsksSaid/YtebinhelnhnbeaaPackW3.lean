/- pack.Writer: bytes and texts, and what is had in the end; a writer that is none. -/
import Derived.Test.YtebinhelnhnbeaaPackW2
set_option linter.unusedSimpArgs false
set_option linter.unusedVariables false
namespace Go.Proofs.Ytebinhelnhnbeaa
open Go.RowKit
set_option maxRecDepth 100000 in
set_option maxHeartbeats 1000000 in
theorem wbyte_c (g : Nat) (v : Int) (c : UInt8) (l : List UInt8) (base : Nat) (w : World) (hc : (c.toNat : Int) = v % 256) (h : WB w base g l) (hl : l.length ≤ 1000000000) :
    Calls Try.prog 22 #[.pointer (some ⟨g, 0, none⟩), .int .i64 v] w (WP w base g (l ++ [c])) := by
  obtain ⟨hbg, vv, hg, hown⟩ := h
  have c0 := cell0 hg
  have f0 := free0 (i := 0) hg
  have HC := Lib.hid (show IntKind.u8.wrap v = (c.toNat : Int) by rw [IntKind.wrap_u8]; exact hc.symm)
  have HG := Lib.hid hg
  have HO := Lib.hid hown
  have HL := Lib.hid hl
  clear hg hown hc hl
  go_enter Try.func22, Try.ntmps22
  go_wp2_with (at_builtin; refine wpl_put rfl (.tmp 10) (.tmp 13) rfl w base g vv l c _ HC.out rfl rfl rfl hbg HG.out HO.out (by have := HL.out; omega) ?_)
  intro A1 n1 c1 w1 HST d0 e0
  go_wp2
  go_end0
  obtain ⟨q1, q2, q3⟩ := HST.out
  exact ⟨rfl, q1, q2, q3⟩
/-- A text is put behind. -/
theorem wpl_putS {w : World} {ops : Array Oper} {rest : List Oper} {o : Oper} {a : Act} {Q : Exit → Act → World → Prop} (hgd : o.guard = none) (s x : Operand)
    (ho : o.op = .call { callee := .builtin .append, args := #[s, x], argTypes := #[24, 9] })
    (base g : Nat) (v : Value) (l : List UInt8) (t : ByteArray) (hs : a.eval s = v) (hx : a.eval x = .string t)
    (hbg : base ≤ g) (hg : w.heap[g]? = some (.cells #[v] 26 (0, 0))) (hown : OB w base v l) (hl : l.length + t.size ≤ 140737488355328)
    (h : ∀ A' n' c' w', Hid (WB (w'.setCell ⟨g, 0, none⟩ (.slice A' n' c')) base g (l ++ t.data.toList) ∧ Below base w (w'.setCell ⟨g, 0, none⟩ (.slice A' n' c')) ∧ Keep [5, 26] w (w'.setCell ⟨g, 0, none⟩ (.slice A' n' c'))) → w'.cell? ⟨g, 0, none⟩ = some v → w'.frozen? ⟨g, 0, none⟩ = false → wpList Try.prog ops Q rest (a.put o.dst (.slice A' n' c')) w') : wpList Try.prog ops Q (o :: rest) a w := by
  have hlt := blk_lt hg
  obtain ⟨i0, hi, hz0, hz1, hz2⟩ := info_parts info_u8
  refine Lib.wpList_append_own_string w hgd s x 24 9 ho base 5 i0 Try.underlying24 Try.underlying9 hi hz0 hz1 hz2 v l.length (B8 l) hs hown t hx (by unfold maxLen; omega) (by omega) (by omega) ?_
  intro v1 w1 h1 g1 _
  have hne : v.ownBlock ≠ some g := own_ne_blk (show w.ownsRow base 5 1 v l.length (B8 l) from hown) hg (by decide)
  have hg1 : w1.heap[g]? = some (.cells #[v] 26 (0, 0)) := by rw [g1.block g hlt (fun h => hne h.symm)]; exact hg
  have h1' : OB w1 base v1 (l ++ t.data.toList) := by
    unfold OB
    rw [List.length_append, B8_app, B8_str, show t.data.toList.length = t.size from by simp]
    exact h1
  have hst := WB.step0 hbg hg hown h1' g1
  obtain ⟨A1, c1, rfl, _⟩ := h1'.form
  exact h _ _ _ w1 (Lib.hid hst) (cell0 hg1) (free0 hg1)
/-- A text as bytes. -/
def encT (l : List UInt8) : List UInt8 := enc (l.length : Int) ++ l
set_option maxRecDepth 100000 in
set_option maxHeartbeats 1000000 in
theorem wtext_c (g : Nat) (s : ByteArray) (l : List UInt8) (base : Nat) (w : World) (h : WB w base g l) (hl : l.length ≤ 1000000000) (hs : s.size ≤ 1000000000) :
    Calls Try.prog 20 #[.pointer (some ⟨g, 0, none⟩), .string s] w (WP w base g (l ++ encT s.data.toList)) := by
  have H := Lib.hid h
  have HL := Lib.hid hl
  have HS := Lib.hid hs
  clear h hl
  go_enter Try.func20, Try.ntmps20
  go_wp2_with fail
  refine (wint_c g (s.size : Int) l base _ H.out HL.out (by omega) (by have := HS.out; omega)).mono ?_
  rintro e w1 ⟨rfl, h1, b1, k1⟩
  obtain ⟨hbg, vv, hg, hown⟩ := h1
  have c0 := cell0 hg
  have f0 := free0 (i := 0) hg
  have HG := Lib.hid hg
  have HO := Lib.hid hown
  have HB := Lib.hid b1
  have HK := Lib.hid k1
  clear hg hown b1 k1
  go_wp2_with (at_builtin; refine wpl_putS rfl (.tmp 14) (.tmp 15) rfl base g vv _ s rfl rfl hbg HG.out HO.out (by have := HL.out; have := HS.out; have := enc_le (s.size : Int); simp; omega) ?_)
  intro A1 n1 c1 w2 HST d0 e0
  go_wp2
  go_end0
  obtain ⟨q1, q2, q3⟩ := HST.out
  refine ⟨rfl, ?_, HB.out.trans q2, HK.out.trans q3⟩
  unfold encT
  rw [show (s.data.toList.length : Int) = (s.size : Int) from by simp]
  exact q1
set_option maxHeartbeats 1000000 in
theorem wbytes_c (g : Nat) (l : List UInt8) (base : Nat) (w : World) (h : WB w base g l) (hl : l.length ≤ 100000000000) :
    Calls Try.prog 23 #[.pointer (some ⟨g, 0, none⟩)] w fun e w' => ∃ v, e = .returned v ∧ OB w' w.heap.size v l ∧ Below w.heap.size w w' := by
  obtain ⟨hbg, vv, hg, hown⟩ := h
  have c0 := cell0 hg
  obtain ⟨A, c, rfl, hc, hm, hr⟩ := hown.form
  have hlt := blk_lt hg
  have HR := Lib.hid hr
  have HL := Lib.hid hl
  clear hr hl hown hg
  go_enter Try.func23, Try.ntmps23
  go_wp2_with (at_builtin; refine wpl_app rfl (.tmp 5) (.tmp 9) rfl w.heap.size _ [] rfl (OB.lit w _ [] #[] 0 rfl rfl (Nat.le_refl _) (by unfold maxLen; omega)) w.heap.size A l.length c l rfl (HR.out.alloc (Nat.le_refl _) _) ?_ ?_ ?_)
  · have := HL.out; simp; omega
  · simp
  intro v1 w1 h1 g1 _
  go_wp2
  go_ret
  exact ⟨v1, rfl, h1, ((Below.refl _ _).alloc (Nat.le_refl _) _).grown g1 (by simp) (by intro k hk; cases hk; exact Nat.le_refl _)⟩
theorem wbytes_nil (w : World) : Calls Try.prog 23 #[.pointer none] w fun e w' => e = .returned (.slice none 0 0) ∧ w = w' := by
  go_enter Try.func23, Try.ntmps23
  go_wp2
  go_ret
  exact ⟨rfl, rfl⟩
theorem wint_nil (v : Int) (w : World) : Calls Try.prog 18 #[.pointer none, .int .i64 v] w fun e w' => e = .returned (.tuple #[]) ∧ w = w' := by
  go_enter Try.func18, Try.ntmps18
  go_wp2
  refine bodyPost_ret (results_none rfl _ _ _) rfl ?_
  exact ⟨rfl, rfl⟩
theorem wtext_nil (s : ByteArray) (w : World) : Calls Try.prog 20 #[.pointer none, .string s] w fun e w' => e = .returned (.tuple #[]) ∧ w = w' := by
  go_enter Try.func20, Try.ntmps20
  go_wp2
  refine bodyPost_ret (results_none rfl _ _ _) rfl ?_
  exact ⟨rfl, rfl⟩
theorem wbyte_nil (v : Int) (w : World) : Calls Try.prog 22 #[.pointer none, .int .i64 v] w fun e w' => e = .returned (.tuple #[]) ∧ w = w' := by
  go_enter Try.func22, Try.ntmps22
  go_wp2
  go_end0
  exact ⟨rfl, rfl⟩
end Go.Proofs.Ytebinhelnhnbeaa
