/- The law PackForms, walked. -/
import Derived.Test.YtebinhelnhnbeaaTold1
import Derived.Test.YtebinhelnhnbeaaOwnB
import Derived.Test.YtebinhelnhnbeaaRefP
set_option linter.unusedSimpArgs false
set_option linter.unusedVariables false
namespace Go.Proofs.Ytebinhelnhnbeaa
open Go.RowKit
/-- Bytes that go on, and a nought: no number. -/
theorem ung_noughts (xs : List UInt8) : ∀ f, f ≤ 9 → (∀ x ∈ xs, 128 ≤ x.toNat) → (xs ≠ [] ∨ f < 9) → ung (f + 1) (xs ++ [0]) = none := by
  induction xs with
  | nil =>
    intro f hf _ h
    have hf9 : f ≠ 9 := by rcases h with h | h <;> first | exact absurd rfl h | omega
    rw [List.nil_append, ung]
    simp [hf9]
  | cons x xs ih =>
    intro f hf hx _
    have h1 := hx x (by simp)
    rw [List.cons_append, ung]
    by_cases h0 : f = 0
    · rw [if_pos ⟨h0, by omega⟩]
    · obtain ⟨g, rfl⟩ : ∃ g, f = g + 1 := ⟨f - 1, by omega⟩
      rw [if_neg (by omega), if_neg (by omega), ih g (by omega) (fun y hy => hx y (List.mem_cons_of_mem _ hy)) (.inr (by omega))]
      rfl
/-- All but the last byte of a number go on. -/
theorem grpF_init (f : Nat) : ∀ u, u < lim f → ∀ x ∈ (grpF f u).dropLast, 128 ≤ x.toNat := by
  induction f with
  | zero => intro u _ x hx; simp [grpF] at hx
  | succ f ih =>
    intro u hu x hx
    simp only [lim] at hu
    by_cases h : u < 128
    · simp [grpF, h] at hx
    · rw [grpF, if_neg h] at hx
      have hne : grpF f (u / 128) ≠ [] := by intro e; have := grpF_pos f (u / 128); rw [e] at this; simp at this
      rw [List.dropLast_cons_of_ne_nil hne] at hx
      rcases List.mem_cons.1 hx with rfl | hx
      · rw [UInt8.toNat_ofNat']; omega
      · exact ih (u / 128) (by omega) x hx
theorem enc_init (v : Int) (h0 : -9223372036854775808 ≤ v) (h1 : v ≤ 9223372036854775807) : ∀ x ∈ (enc v).dropLast, 128 ≤ x.toNat := grpF_init 9 (zig v) (by rw [lim9]; exact zig_lt v h0 h1)
theorem set_last {α : Type} (l : List α) (h : 0 < l.length) (y : α) : l.set (l.length - 1) y = l.dropLast ++ [y] := by
  have hne : l ≠ [] := by intro e; subst e; simp at h
  conv => lhs; rw [← List.dropLast_concat_getLast hne]
  rw [List.set_append_right _ _ (by simp)]
  simp
theorem or128_ge (a : Nat) (h : a < 256) : ∃ y : UInt8, bits .or .u8 (a : Int) 128 = (y.toNat : Int) ∧ 128 ≤ y.toNat := by
  have e := or128 a
  rw [show (a : Int) % 256 = (a : Int) from by omega] at e
  exact ⟨UInt8.ofNat (a % 128 + 128), by rw [e, UInt8.toNat_ofNat']; omega, by rw [UInt8.toNat_ofNat']; omega⟩
theorem forms_in (v lo hi : Int) (h0 : -9223372036854775808 ≤ v) (h1 : v ≤ 9223372036854775807) (h : lo ≤ v ∧ v ≤ hi) : rInt lo hi (some (enc v)) = (v, some []) := by
  have := dec_enc lo hi v [] h0 h1 h.1 h.2
  rw [List.append_nil] at this
  unfold rInt
  simp only [this]
theorem forms_out (v lo hi : Int) (h0 : -9223372036854775808 ≤ v) (h1 : v ≤ 9223372036854775807) (h : ¬ (lo ≤ v ∧ v ≤ hi)) : rInt lo hi (some (enc v)) = (0, none) := by
  unfold rInt
  cases h' : dec lo hi (enc v) with
  | none => simp only [h']
  | some p =>
    obtain ⟨x, r⟩ := p
    have hd := dec_is h'
    have hi' := enc_inj (v := v) (w := x) (r := []) (s := r) ⟨h0, h1⟩ ⟨hd.2.2.2.1, hd.2.2.2.2⟩ (by rw [List.append_nil]; exact hd.1)
    exact absurd (by rw [hi'.1]; exact ⟨hd.2.1, hd.2.2.1⟩) h
/-- The reading of a number is as its bounds say. -/
theorem forms_x (v lo hi : Int) (h0 : -9223372036854775808 ≤ v) (h1 : v ≤ 9223372036854775807) : (lo ≤ v ∧ v ≤ hi ∧ rInt lo hi (some (enc v)) = (v, some [])) ∨ ((v < lo ∨ (lo ≤ v ∧ hi < v)) ∧ rInt lo hi (some (enc v)) = (0, none)) := by
  by_cases h : lo ≤ v ∧ v ≤ hi
  · exact .inl ⟨h.1, h.2, forms_in v lo hi h0 h1 h⟩
  · exact .inr ⟨by omega, forms_out v lo hi h0 h1 h⟩
theorem RP.blk {w : World} {D g : Nat} {s : Rs} (h : RP w D g s) : ∃ cs, w.heap[g]? = some (.cells cs 81 (0, 0)) := by
  obtain ⟨_, A, n, c, l, bad, h1, _⟩ := h
  exact ⟨_, h1⟩
theorem OB.rdN {w : World} {base n0 n c : Nat} {A : Option Addr} {l : List UInt8} (h : OB w base (.slice A n0 c) l) (hn : l.length = n) : Rd w w.heap.size 1 A n (B8 l) := by
  obtain ⟨A', c', e, _, _, r⟩ := h.form
  injection e with e1 e2 e3
  subst e1 e3
  rw [← hn]
  exact r
theorem OB.keepR {w w' : World} {base D g : Nat} {v : Value} {l : List UInt8} {s : Rs} (h : OB w base v l) (r : RP w D g s) (hg : w.grownBy w' (some g)) : OB w' base v l := by
  obtain ⟨cs, hb⟩ := r.blk
  exact World.ownsRow.kept h hg (.inr (own_ne_blk (show w.ownsRow base 5 1 v l.length (B8 l) from h) hb (by decide)))
set_option maxRecDepth 100000 in
set_option maxHeartbeats 4000000 in
theorem forms_walk (v lo hi more : Int) (W : World) (h0 : -9223372036854775808 ≤ v) (h1 : v ≤ 9223372036854775807) : Calls Try.prog 6 #[.int .i64 v, .int .i64 lo, .int .i64 hi, .int .i64 more] W fun e w' => e = .returned (.bool true) ∧ Below W.heap.size W w' := by
  obtain ⟨L, hL⟩ : ∃ L, enc v = L := ⟨_, rfl⟩
  have hLp := enc_pos v
  have hLe := enc_le v
  have HIN := Lib.hid (enc_init v h0 h1)
  have HX := Lib.hid (forms_x v lo hi h0 h1)
  have HW := Lib.hid (WB.new W W.heap.size (Nat.le_refl _))
  have HWI := Lib.hid (wint_is HW.out (v := v) (l' := L) (by simp) h0 h1 (by rw [hL]; rfl))
  rw [hL] at hLp hLe HIN HX
  obtain ⟨n, hn⟩ : ∃ n, L.length = n := ⟨_, rfl⟩
  rw [hn] at hLp hLe
  obtain ⟨m, rfl⟩ : ∃ m, n = m + 1 := ⟨n - 1, by omega⟩
  have HN := Lib.hid hn
  clear hL hn
  obtain ⟨mo, hmo, hmo3⟩ := u_rem more 3 (by omega)
  replace hmo3 : mo < 3 := by omega
  go_enter Try.func6, Try.ntmps6
  go_wp2_with fail
  refine HWI.out.mono ?_
  rintro e w1 ⟨rfl, q1, b1, _⟩
  have H1 := Lib.hid q1
  have B1 := Lib.hid (show Below W.heap.size W w1 from ((Below.refl _ _).alloc (Nat.le_refl _) _).trans b1)
  clear q1 b1
  go_wp2_with fail
  refine (wbytes_c _ _ _ _ H1.out (by have := HN.out; omega)).mono ?_
  rintro e w2 ⟨v2, rfl, q2, b2⟩
  have hz1 := B1.out.size
  have B2 := Lib.hid (B1.out.trans (b2.mono B1.out.size))
  have Q2 := Lib.hid q2
  obtain ⟨A2, c2, rfl, hc2, hm2, r2⟩ := q2.form
  rw [HN.out] at r2 hc2 ⊢
  have R2 := Lib.hid r2
  have hz2 := b2.size
  have hnb : (((m : Int) + 1) == 0) = false := beq_eq_false_iff_ne.2 (by omega)
  clear q2 b2 r2
  go_wp2_with fail
  refine (new_c A2 (m + 1) c2 L _ R2.out (by omega)).mono ?_
  rintro e w3 ⟨g, rfl, hg, q3, b3⟩
  have R3 := Lib.hid ((R2.out.below b3).more b3.size)
  have H3 := Lib.hid q3
  have B3 := Lib.hid (B2.out.trans (b3.mono B2.out.size))
  have hz3 := b3.size
  have hgl := q3.lt
  have Q3 := Lib.hid (Q2.out.below b3 (Nat.le_refl _))
  clear q3 b3 hnb
  go_wp2_with fail
  have hcase : ∃ x s', rInt lo hi (some L) = (x, s') ∧ ((lo ≤ v ∧ v ≤ hi ∧ x = v ∧ s' = some []) ∨ (v < lo ∧ x = 0 ∧ s' = none) ∨ (lo ≤ v ∧ hi < v ∧ x = 0 ∧ s' = none)) := by
    rcases HX.out with ⟨a1, a2, e⟩ | ⟨a | a, e⟩
    · exact ⟨_, _, e, .inl ⟨a1, a2, rfl, rfl⟩⟩
    · exact ⟨_, _, e, .inr (.inl ⟨a, rfl, rfl⟩)⟩
    · exact ⟨_, _, e, .inr (.inr ⟨a.1, a.2, rfl, rfl⟩)⟩
  obtain ⟨x, s', hx, hcase⟩ := hcase
  refine (rint_is H3.out (Nat.le_refl _) hx).mono ?_
  rintro e w4 ⟨rfl, q4, g4⟩
  have H4 := Lib.hid q4
  have B4 := Lib.hid (B3.out.trans (only_lt g4 B3.out.size (by omega)))
  have hz4 := g4.size
  have Q4 := Lib.hid (Q3.out.keepR H3.out g4)
  clear q4 g4 hx
  rcases hcase with ⟨a1, a2, rfl, rfl⟩ | ⟨a1, rfl, rfl⟩ | ⟨a1, a2, rfl, rfl⟩
  all_goals
    go_wp2_with (first | (go_at_call 31; (first | refine (rend_is H4.out (v := 0) rfl).mono ?_ | refine (rend_is H4.out (v := 2) rfl).mono ?_); rintro e w' ⟨rfl, rfl⟩) | (at_builtin; refine wpl_app rfl (.tmp 61) (.tmp 62) rfl W.heap.size _ [] rfl (OB.lit w4 _ [] #[] 0 rfl rfl (by omega) (by unfold maxLen; omega)) w4.heap.size A2 (m + 1) c2 L rfl ((Q4.out.rdN HN.out).alloc (Nat.le_refl _) _) ?_ ?_ ?_))
    · simp; omega
    · simp; omega
    intro v5 w5 q5 g5 _
    have B5 := Lib.hid ((B4.out.alloc (by omega) _).grown g5 (by simp; omega) (by intro k hk; cases hk; show W.heap.size ≤ w4.heap.size; omega))
    obtain ⟨gc, cc, rfl, hgc1, hgc2, hcc1, hcc2, hcell, hfr, hset⟩ := q5.blk (by have := HN.out; omega)
    have hxm := hcell m (by have := HN.out; omega)
    have hfm := hfr m
    obtain ⟨xm, hxe⟩ : ∃ xm, (L[m]'(by have := HN.out; omega)).toNat = xm := ⟨_, rfl⟩
    have hxl := u8_lt (L[m]'(by have := HN.out; omega))
    rw [hxe] at hxm hxl
    obtain ⟨y, hy, hy128⟩ := or128_ge xm hxl
    have HSET := Lib.hid (hset m y)
    have HY := Lib.hid hy128
    rw [HN.out] at hcc1 ⊢
    have HGC := Lib.hid hgc1
    clear hcell hfr hset hxe q5 g5 hy128
    go_wp2
    go_loopw [14, 15] (fun o i wr => ∃ (j k c : Nat) (A : Option Addr) (ls : List UInt8), j ≤ mo ∧ i = .int .i64 j ∧ o = .slice A k c ∧ Hid (OB wr W.heap.size (.slice A k c) ls ∧ ls.length ≤ 10 + j ∧ (∃ xs, ls = xs ∧ xs ≠ [] ∧ ∀ x ∈ xs, 128 ≤ x.toNat) ∧ Below W.heap.size W wr)) (fun _ i _ => 3 - (intOf i).toNat)
    case atStart =>
      refine ⟨0, _, _, _, _, by omega, rfl, rfl, by have := HSET.out; rw [HN.out] at this; exact this, ?_, ⟨_, rfl, ?_, ?_⟩, B5.out.setCell (p := ⟨gc, m, none⟩) HGC.out _⟩
      · have := HN.out; simp; omega
      · intro e; have h1 := congrArg List.length e; have h2 := HN.out; rw [List.length_set, List.length_nil] at h1; omega
      · intro z hz
        have hl := HN.out
        have e : m = L.length - 1 := by omega
        rw [e, set_last L (by omega)] at hz
        rcases List.mem_append.1 hz with hz | hz
        · exact HIN.out z hz
        · simp at hz; subst hz; exact HY.out
    case round =>
      clear hxm hfm hxl hy hgc1 hgc2 hcc1 hcc2
      obtain ⟨j, k, c, A, ls, hj, rfl, rfl, HR⟩ := hrel
      by_cases hlt : j < mo
      · go_wp2_with (at_builtin; refine wpl_app1B rfl (.tmp 84) (.tmp 85) rfl wr W.heap.size _ ls 128 _ (by decide) rfl rfl rfl HR.out.1 (by have := HR.out.2.1; omega) HR.out.2.2.2.size ?_)
        intro A6 n6 c6 w6 H6
        go_wp2
        go_roundw
        case rel =>
          obtain ⟨r1, r2, ⟨xs, rfl, r3, r4⟩, r5⟩ := HR.out
          refine ⟨j + 1, n6, c6, A6, ls ++ [128], by omega, by go_num, rfl, H6.out.1, by simp; omega, ⟨_, rfl, by simp, ?_⟩, r5.trans H6.out.2⟩
          intro z hz
          rcases List.mem_append.1 hz with hz | hz
          · exact r4 z hz
          · simp at hz; subst hz; decide
        case measure => simp [intOf]; omega
      · go_wp2_with (at_builtin; refine wpl_app1B rfl (.tmp 87) (.tmp 88) rfl wr W.heap.size _ ls 0 _ (by decide) rfl rfl rfl HR.out.1 (by have := HR.out.2.1; omega) HR.out.2.2.2.size ?_)
        intro A6 n6 c6 w6 H6
        have B6 := Lib.hid (HR.out.2.2.2.trans H6.out.2)
        have hw6 := B6.out.size
        have hn6 : (ls ++ [0]).length = n6 := by
          obtain ⟨Ax, cx, ex, _⟩ := H6.out.1.form
          injection ex with e1 e2 e3
          exact e2.symm
        have HN6 := Lib.hid hn6
        have HL6 : Hid (n6 ≤ 20) := Lib.hid (by have := HR.out.2.1; simp at hn6; omega)
        clear hn6
        go_wp2_with fail
        refine (new_c A6 n6 c6 _ _ (H6.out.1.rdN HN6.out) (by have := HL6.out; omega)).mono ?_
        rintro e w7 ⟨g7, rfl, hg7, q7, b7⟩
        have H7 := Lib.hid q7
        have B7 := Lib.hid (B6.out.trans (b7.mono hw6))
        have hz7 := b7.size
        clear q7 b7
        go_wp2_with fail
        refine (told1 _).mono ?_
        rintro e w8 ⟨rfl, b8⟩
        have H8 := Lib.hid (H7.out.below b8)
        have hz8 := b8.size
        have B8' := Lib.hid (B7.out.trans (b8.mono B7.out.size))
        clear b8
        have hno : rInt (-9223372036854775808) 9223372036854775807 (some (ls ++ [0])) = (0, none) := by
          obtain ⟨r1, r2, ⟨xs, rfl, r3, r4⟩, r5⟩ := HR.out
          have hu : ung 10 (ls ++ [0]) = none := ung_noughts ls 9 (by omega) r4 (.inl r3)
          unfold rInt dec
          simp only [hu]
        have HNO := Lib.hid hno
        clear hno
        go_wp2_with fail
        refine (rint_is H8.out hz8 HNO.out).mono ?_
        rintro e w9 ⟨rfl, q9, g9⟩
        have H9 := Lib.hid q9
        have B9 := Lib.hid (B8'.out.trans (only_lt g9 B8'.out.size (by omega)))
        clear q9 g9
        go_wp2_with fail
        refine (rend_is H9.out (v := 2) rfl).mono ?_
        rintro e w' ⟨rfl, rfl⟩
        go_wp2
        go_ret
        exact ⟨rfl, B9.out⟩
end Go.Proofs.Ytebinhelnhnbeaa
