/- Plans: the rows of the tables, and what a table makes of a want. -/
import Derived.Test.YtplgodfhhlnojaaPlan2
import Derived.Outline
set_option linter.unusedSimpArgs false
set_option linter.unusedVariables false
namespace Go.Proofs.Ytplgodfhhlnojaa
open Go.RowKit
/-- What a function value makes of a want, from a world on. -/
def Gives (D : Nat) (w : World) (F : Value) (x : W7) (l : List A6) : Prop :=
  ∃ f q, F = .func (.func f) #[] #[.pointer (some ⟨q, 0, none⟩)] ∧ (f = 103 ∨ f = 105 ∨ f = 106) ∧ ∀ w', Below D w w' → D ≤ w'.heap.size → Calls Try.prog f #[x.val, .pointer (some ⟨q, 0, none⟩)] w' (RA w' l)
theorem Gives.below {D : Nat} {w w2 : World} {F : Value} {x : W7} {l : List A6} (h : Gives D w F x l) (hb : Below D w w2) : Gives D w2 F x l := by
  obtain ⟨f, q, e, hf, h⟩ := h
  exact ⟨f, q, e, hf, fun w' hw hd => h w' (hb.trans hw) hd⟩
theorem Gives.mono {D D' : Nat} {w : World} {F : Value} {x : W7} {l : List A6} (h : Gives D w F x l) (hd : D ≤ D') : Gives D' w F x l := by
  obtain ⟨f, q, e, hf, h⟩ := h
  exact ⟨f, q, e, hf, fun w' hw hd' => h w' (hw.mono hd) (by omega)⟩
theorem OA.lit1 (w : World) (base : Nat) (a : A6) (H : Nat) (hH : w.heap.size = H) (hb : base ≤ H) : OA (w.alloc (.cells #[.int .i64 a.node, .int .i64 a.kind, .int .i64 a.book, .int .i64 a.units, .int .i64 a.cust, .int .i64 a.amount] 30)) base (.slice (some ⟨H, 0, none⟩) 1 1) [a] := by
  subst hH
  exact World.ownsRow_lit w #[.int .i64 a.node, .int .i64 a.kind, .int .i64 a.book, .int .i64 a.units, .int .i64 a.cust, .int .i64 a.amount] 1 hb (by unfold maxLen; omega) rfl
def purseL (K : Int) (x : W7) : List A6 := if MayW x then [⟨3, K, x.b, 0, if K = 4 then x.c else 0, if K = 4 then x.p else 0⟩] else []
theorem each_gives (D : Nat) (w : World) (q : Nat) (K : Int) (x : W7) (hq : w.cell? ⟨q, 0, none⟩ = some (.int .i64 K)) (hd : q < D) : Gives D w (.func (.func 103) #[] #[.pointer (some ⟨q, 0, none⟩)]) x ((parts x).map (eachA K x)) :=
  ⟨_, q, rfl, by decide, fun w' hw _ => each_c x K q w' (bcell hw hq hd)⟩
set_option maxHeartbeats 2000000 in
theorem purse_c (x : W7) (K : Int) (q : Nat) (w : World) (hq : w.cell? ⟨q, 0, none⟩ = some (.int .i64 K)) :
    Calls Try.prog 105 #[x.val, .pointer (some ⟨q, 0, none⟩)] w (RA w (purseL K x)) := by
  have hqb : q < w.heap.size := cell_in hq
  by_cases hm : MayW x
  · have HM := Lib.hid (may_is x true (decide_eq_true hm))
    by_cases hK : K = 4
    · subst hK
      have hl : purseL 4 x = [⟨3, 4, x.b, 0, x.c, x.p⟩] := by unfold purseL; rw [if_pos hm, if_pos rfl, if_pos rfl]
      rw [hl]
      clear hl
      unfold W7.val at *
      go_enter Try.func105, Try.ntmps105
      go_wp2_with fail
      refine (HM.out _).mono ?_
      rintro e w1 ⟨rfl, b1⟩
      obtain ⟨c0, c1, c2, c3, c4, c5, c6⟩ := (WC.new w x 24).below b1 (by simp)
      have cq : w1.cell? ⟨q, 0, none⟩ = some (.int .i64 4) := bcell b1 (bcell (bxW_below w x) hq hqb) (by simp; omega)
      have hz : w.heap.size + 1 ≤ w1.heap.size := by have := b1.size; simp at this; exact this
      have hq2 : q < w1.heap.size := by omega
      have hb2 : w.heap.size < w1.heap.size := by omega
      have B1 := Lib.hid ((bxW_below w x).trans (b1.mono (by simp)))
      clear b1 hq
      go_wp2
      go_region
      go_wp2
      go_ret
      exact ⟨_, rfl, OA.lit1 _ _ ⟨_, _, _, _, _, _⟩ _ (by simp) (by omega), ((((B1.out.alloc (by omega) _).drew).alloc (by simp; omega) _))⟩
    · have hKb : (K == 4) = false := beq_eq_false_iff_ne.2 hK
      have hl : purseL K x = [⟨3, K, x.b, 0, 0, 0⟩] := by unfold purseL; rw [if_pos hm, if_neg hK, if_neg hK]
      rw [hl]
      clear hl
      unfold W7.val at *
      go_enter Try.func105, Try.ntmps105
      go_wp2_with fail
      refine (HM.out _).mono ?_
      rintro e w1 ⟨rfl, b1⟩
      obtain ⟨c0, c1, c2, c3, c4, c5, c6⟩ := (WC.new w x 24).below b1 (by simp)
      have cq : w1.cell? ⟨q, 0, none⟩ = some (.int .i64 K) := bcell b1 (bcell (bxW_below w x) hq hqb) (by simp; omega)
      have hz : w.heap.size + 1 ≤ w1.heap.size := by have := b1.size; simp at this; exact this
      have hq2 : q < w1.heap.size := by omega
      have hb2 : w.heap.size < w1.heap.size := by omega
      have B1 := Lib.hid ((bxW_below w x).trans (b1.mono (by simp)))
      clear b1 hq
      go_wp2
      go_ret
      exact ⟨_, rfl, OA.lit1 _ _ ⟨_, _, _, _, _, _⟩ _ (by simp) (by omega), ((((B1.out.alloc (by omega) _)).alloc (by simp; omega) _))⟩
  · have HM := Lib.hid (may_is x false (decide_eq_false hm))
    have hl : purseL K x = [] := by unfold purseL; rw [if_neg hm]
    rw [hl]
    clear hl
    unfold W7.val at *
    go_enter Try.func105, Try.ntmps105
    go_wp2_with fail
    refine (HM.out _).mono ?_
    rintro e w1 ⟨rfl, b1⟩
    have B1 := Lib.hid ((bxW_below w x).trans (b1.mono (by simp)))
    clear b1
    go_wp2
    go_ret
    exact ⟨_, rfl, World.ownsRow_nil _ _ _ _, B1.out⟩
theorem purse_gives (D : Nat) (w : World) (q : Nat) (K : Int) (x : W7) (hq : w.cell? ⟨q, 0, none⟩ = some (.int .i64 K)) (hd : q < D) : Gives D w (.func (.func 105) #[] #[.pointer (some ⟨q, 0, none⟩)]) x (purseL K x) :=
  ⟨_, q, rfl, by decide, fun w' hw _ => purse_c x K q w' (bcell hw hq hd)⟩
set_option maxHeartbeats 2000000 in
theorem falling_c (x : W7) (F : Value) (l : List A6) (q D : Nat) (w : World) (hq : w.cell? ⟨q, 0, none⟩ = some F) (hF : Gives D w F x l) (hD : D ≤ w.heap.size) (hl : l.length ≤ 3) :
    Calls Try.prog 106 #[x.val, .pointer (some ⟨q, 0, none⟩)] w (RA w l.reverse) := by
  have hqb : q < w.heap.size := cell_in hq
  obtain ⟨f, q', rfl, hf, hc⟩ := hF
  have HC := Lib.hid hc
  clear hc
  unfold W7.val at *
  rcases hf with rfl | rfl | rfl
  all_goals
    go_enter Try.func106, Try.ntmps106
    go_wp2_with fail
    refine (HC.out _ ((bxW_below w x).mono hD) (by rw [bxW_size]; omega)).mono ?_
    rintro e w1 ⟨v1, rfl, h1, b1⟩
    obtain ⟨A1, c1, rfl, _, _, _⟩ := h1.rd
    have H1 := Lib.hid h1
    have B1 := Lib.hid ((bxW_below w x).trans (b1.mono (by rw [bxW_size]; omega)))
    clear h1 b1
    go_wp2_with fail
    refine (rev_c _ _ A1 l.length c1 l H1.out rfl hl).mono ?_
    rintro e w2 ⟨rfl, h2, b2⟩
    have H2 := Lib.hid h2
    have B2 := Lib.hid (B1.out.trans (b2.mono (by rw [bxW_size]; omega)))
    clear h2 b2
    go_wp2
    go_ret
    exact ⟨_, rfl, own_mono H2.out (by rw [bxW_size]; omega), B2.out⟩
theorem falling_gives (D D2 : Nat) (w : World) (q : Nat) (F : Value) (x : W7) (l : List A6) (hq : w.cell? ⟨q, 0, none⟩ = some F) (hF : Gives D w F x l) (hd : q < D2) (hDD : D ≤ D2) (hl : l.length ≤ 3) :
    Gives D2 w (.func (.func 106) #[] #[.pointer (some ⟨q, 0, none⟩)]) x l.reverse :=
  ⟨_, q, rfl, by decide, fun w' hw hw2 => falling_c x F l q D w' (bcell hw hq hd) (hF.below (hw.mono hDD)) (by omega) hl⟩
/-- The steps of rows, one behind the other. -/
def catA : List (List A6) → List A6 := List.flatten
theorem catA_snoc (ls : List (List A6)) (k : Nat) (l : List A6) (h : ls[k]? = some l) : catA (ls.take (k + 1)) = catA (ls.take k) ++ l := by
  have hk : k < ls.length := by
    rcases Nat.lt_or_ge k ls.length with h' | h'
    · exact h'
    · rw [List.getElem?_eq_none h'] at h; cases h
  rw [List.getElem?_eq_getElem hk] at h
  cases h
  unfold catA
  rw [List.take_succ_eq_append_getElem hk, List.flatten_append]
  simp
set_option maxHeartbeats 4000000 in
theorem of_c (x : W7) (A : Option Addr) (n c D : Nat) (fs : List Value) (ls : List (List A6)) (w : World) (hr : Rd w w.heap.size 1 A n fs) (hD : D ≤ w.heap.size) (hn : n ≤ 3) (hls : ls.length = n)
    (hg : ∀ (k : Nat) (F : Value) (l : List A6), fs[k]? = some F → ls[k]? = some l → Gives D w F x l ∧ l.length ≤ 3) :
    Calls Try.prog 70 #[.slice A n c, x.val] w (RA w (catA ls)) := by
  have HR := Lib.hid hr
  have HG := Lib.hid hg
  have HLS := Lib.hid hls
  clear hr hg hls
  unfold W7.val at *
  go_enter Try.func70, Try.ntmps70
  go_wp2
  go_loopw [5, 10] (fun o i wr => ∃ (k m c : Nat) (A : Option Addr), k ≤ n ∧ i = .int .i64 k ∧ o = .slice A m c ∧ m ≤ 3 * k ∧ Hid (OA wr (w.heap.size + 1) (.slice A m c) (catA (ls.take k)) ∧ Below (w.heap.size + 1) (bxW w x) wr)) (fun _ i _ => n - (intOf i).toNat)
  case atStart => exact ⟨0, 0, 0, none, by omega, rfl, rfl, by omega, Lib.hid ⟨World.ownsRow_nil _ _ _ _, Below.refl _ _⟩⟩
  case round =>
    obtain ⟨k, m, c', A', hk, rfl, rfl, hm, HO⟩ := hrel
    obtain ⟨ho, hb⟩ := HO.out
    obtain ⟨hwc, hbw, hz⟩ := bxW_of hb
    by_cases hlt : k < n
    · obtain ⟨ad, F, rfl, had, hF, hcell⟩ := (HR.out.below hbw).at1 hlt
      obtain ⟨l, hl⟩ : ∃ l, ls[k]? = some l := ⟨ls[k]'(by rw [HLS.out]; exact hlt), List.getElem?_eq_getElem _⟩
      obtain ⟨hgv, hl3⟩ := HG.out k F l hF hl
      obtain ⟨f, q', rfl, hf, hc⟩ := hgv.below (hbw.mono hD)
      obtain ⟨c0, c1, c2, c3, c4, c5, c6⟩ := hwc
      have HC := Lib.hid hc
      have HB := Lib.hid hb
      have HN := Lib.hid ho
      have HL := Lib.hid hl
      have HM := Lib.hid (show (catA (ls.take k)).length = m from by obtain ⟨A2, c2, e, _⟩ := ho.rd; injection e with _ e2 _; exact e2.symm)
      clear hc hb ho hl hF hbw HO hgv
      rcases hf with rfl | rfl | rfl
      all_goals
        go_wp2_with fail
        refine (HC.out _ (Below.refl _ _) (by omega)).mono ?_
        rintro e w1 ⟨v1, rfl, h1, b1⟩
        obtain ⟨A1, c1', rfl, _, _, r1⟩ := h1.rd
        have H1 := Lib.hid h1
        have B1 := Lib.hid b1
        have R1 := Lib.hid r1
        clear h1 b1 r1
        go_wp2_with (at_builtin; refine wpl_appA rfl (.tmp 14) (.tmp 17) rfl (w.heap.size + 1) _ _ rfl (own_below HN.out B1.out (Nat.le_refl _)) _ _ _ _ l rfl R1.out ?_ ?_ ?_)
        · rw [HM.out]; omega
        · exact Nat.le_trans hz B1.out.size
        intro v2 w2 h2 g2 _
        obtain ⟨A2, c2', hv2, _, _, _⟩ := h2.rd
        rw [List.length_append, HM.out] at hv2
        subst hv2
        have HB2 := Lib.hid ((HB.out.trans (B1.out.mono hz)).grown g2 (Nat.le_trans hz B1.out.size) (own_base HN.out))
        have H2 := Lib.hid h2
        clear h2 g2
        go_wp2
        go_roundw
        case rel => exact ⟨k + 1, _, c2', A2, by omega, by go_num, rfl, by omega, Lib.hid ⟨by rw [catA_snoc ls k l HL.out]; exact H2.out, HB2.out⟩⟩
        case measure => simp [intOf]; omega
    · obtain rfl : k = n := by omega
      have HB := Lib.hid hbw
      have HN := Lib.hid ho
      clear ho hb HO hwc hbw
      go_wp2
      go_ret
      exact ⟨_, rfl, own_mono (by have := HN.out; rw [← HLS.out, List.take_length] at this; exact this) (by omega), HB.out⟩
end Go.Proofs.Ytplgodfhhlnojaa
