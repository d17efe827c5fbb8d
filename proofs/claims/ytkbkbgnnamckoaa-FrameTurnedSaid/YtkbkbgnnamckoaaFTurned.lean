/- The law FrameTurned, walked. -/
import Derived.Test.YtkbkbgnnamckoaaFTurn0
set_option linter.unusedSimpArgs false
set_option linter.unusedVariables false
namespace Go.Proofs.Ytkbkbgnnamckoaa
open Go.RowKit
theorem u_rem1 (a m : Int) (h0 : 0 < m) : ∃ n : Nat, (IntKind.u64.wrap a).tmod m = (n : Int) ∧ (n : Int) < m := by
  have h1 : 0 ≤ (IntKind.u64.wrap a).tmod m := by rw [IntKind.wrap_u64]; exact Int.tmod_nonneg _ (Int.emod_nonneg _ (by omega))
  have h2 : (IntKind.u64.wrap a).tmod m < m := by rw [IntKind.wrap_u64, Int.tmod_eq_emod_of_nonneg (Int.emod_nonneg _ (by omega))]; exact Int.emod_lt_of_pos _ h0
  obtain ⟨n, hn⟩ := Int.eq_ofNat_of_zero_le h1
  exact ⟨n, hn, by omega⟩
theorem info_str : (Try.prog.info? 9).map (fun i => (i.zero, i.size, i.bytes)) = some (some (.string ⟨#[]⟩), 1, 16) := by kernel_rfl
/-- A row of texts of the call's own. -/
def OS (w : World) (base : Nat) (v : Value) (bs : List (List UInt8)) : Prop := w.ownsRow base 9 1 v bs.length (S8 bs)
theorem OS.rd {w : World} {base : Nat} {v : Value} {bs : List (List UInt8)} (h : OS w base v bs) : ∃ A c, v = .slice A bs.length c ∧ bs.length ≤ c ∧ Rd w w.heap.size 1 A bs.length (S8 bs) := by
  have h' : w.ownsRow base 9 1 v bs.length (S8 bs) := h
  rcases h'.2 with ⟨rfl, h0⟩ | ⟨g, cap, cur, rfl, _, _, hc, _⟩
  · have : bs = [] := List.eq_nil_of_length_eq_zero h0
    subst this
    exact ⟨none, 0, rfl, Nat.le_refl _, Rd.nil⟩
  · exact ⟨_, _, rfl, hc, Rd.of_own h'⟩
theorem OS.below {w w' : World} {base D : Nat} {v : Value} {bs : List (List UInt8)} (h : OS w base v bs) (hb : Below D w w') (hd : w.heap.size ≤ D) : OS w' base v bs :=
  World.ownsRow.kept h (row := none) ⟨hb.os, hb.tape, hb.output, hb.size, fun k hk _ => hb.block k (by omega)⟩ (by cases v.ownBlock <;> simp)
theorem OS.grown {w w' : World} {base b : Nat} {v u : Value} {bs : List (List UInt8)} {l : List UInt8} (h : OS w base v bs) (hu : OB w b u l) (hg : w.grownBy w' u.ownBlock) : OS w' base v bs :=
  World.ownsRow.kept h hg (own_ne h hu (by decide))
theorem OB.grown {w w' : World} {base b : Nat} {v u : Value} {bs : List (List UInt8)} {l : List UInt8} (h : OB w base v l) (hu : OS w b u bs) (hg : w.grownBy w' u.ownBlock) : OB w' base v l :=
  World.ownsRow.kept h hg (own_ne h hu (by decide))
theorem RdRows.more {w : World} {D D' n : Nat} {A : Option Addr} {ls : List (List UInt8)} (h : RdRows w D A n ls) (hd : D ≤ D') : RdRows w D' A n ls := by
  obtain ⟨hl, vs, hr, he⟩ := h
  exact ⟨hl, vs, hr.more hd, fun i l hi => let ⟨Ai, ci, h1, h2, h3, h4⟩ := he i l hi; ⟨Ai, ci, h1, h2, h3, h4.more hd⟩⟩
def TB (ls : List (List UInt8)) (wi k : Nat) (bs : List UInt8) : Prop :=
  (k ≤ wi ∧ bs = frms (ls.take k)) ∨ (wi < k ∧ ∃ l j y r, ls[wi]? = some l ∧ j < (frm l).length ∧ (j < 4 ∨ 6 ≤ j) ∧ (frm l)[j]? ≠ some y ∧ bs = frms (ls.take wi) ++ ((frm l).set j y ++ r))
def TS (W w : World) (ls : List (List UInt8)) (wi k : Nat) (vb va : Value) (nb : Nat) : Prop :=
  ∃ bs, bs.length = nb ∧ nb ≤ k * 66 ∧ OB w W.heap.size vb bs ∧ OS w W.heap.size va (ls.take (min k wi)) ∧ Below W.heap.size W w ∧ Small 60 (ls.take k) ∧ TB ls wi k bs
set_option maxRecDepth 100000 in
set_option maxHeartbeats 4000000 in
theorem turned_walk (A : Option Addr) (n c : Nat) (ls : List (List UInt8)) (a1 a2 : Int) (x : Int) (W : World) (hr : RdRows W W.heap.size A n ls) (hn : n ≤ maxLen) (hx0 : 0 ≤ x) (hx1 : x < 256) :
    Calls Try.prog 7 #[.slice A n c, .int .i64 a1, .int .i64 a2, .int .u8 x] W fun e w' => e = .returned (.bool true) ∧ Below W.heap.size W w' := by
  unfold maxLen at hn
  have HR := Lib.hid hr; clear hr
  by_cases h0 : n < 1
  · go_enter Try.func7, Try.ntmps7
    go_wp2_with (go_at_call 14; refine (told4 _).mono ?_; rintro e w2 ⟨rfl, hb2⟩)
    go_ret
    exact ⟨rfl, hb2⟩
  by_cases h6 : 6 < n
  · go_enter Try.func7, Try.ntmps7
    go_wp2_with (go_at_call 14; refine (told4 _).mono ?_; rintro e w2 ⟨rfl, hb2⟩)
    go_ret
    exact ⟨rfl, hb2⟩
  by_cases hx : x = 0
  · subst hx
    go_enter Try.func7, Try.ntmps7
    go_wp2_with (go_at_call 14; refine (told4 _).mono ?_; rintro e w2 ⟨rfl, hb2⟩)
    go_ret
    exact ⟨rfl, hb2⟩
  have hxb : (x == 0) = false := beq_eq_false_iff_ne.2 hx
  obtain ⟨xn, rfl⟩ := Int.eq_ofNat_of_zero_le hx0
  have hxn : xn ≠ 0 := by omega
  obtain ⟨wi, hwi, hwn⟩ := u_rem1 a1 (n : Int) (by omega)
  replace hwn : wi < n := by omega
  obtain ⟨ad, hA⟩ : ∃ ad, A = some ad := by obtain ⟨ad, _, _, _, e, _⟩ := HR.out.at_ (k := 0) (by omega); exact ⟨ad, e⟩
  subst hA
  have HX := Lib.hid hxn
  have HXI := Lib.hid hx
  clear hx hxn hx0
  go_enter Try.func7, Try.ntmps7
  go_wp2
  go_loopw [10, 11, 12, 13] (fun b e al i wr => ∃ (k nb cb : Nat) (Ab Aa : Option Addr) (ca : Nat), k ≤ n ∧ i = .int .i64 k ∧ b = .slice Ab nb cb ∧ al = .slice Aa (min k wi) ca ∧ e = .int .i64 (frms (ls.take (min k wi))).length ∧ Hid (TS W wr ls wi k (.slice Ab nb cb) (.slice Aa (min k wi) ca) nb)) (fun _ _ _ i _ => n - (intOf i).toNat)
  case atStart =>
    refine ⟨0, 0, 0, none, none, 0, by omega, rfl, rfl, by simp, by simp [frms], [], rfl, by omega, OB.nil _ _, ?_, Below.refl _ _, fun l hl => by simp at hl, .inl ⟨by omega, rfl⟩⟩
    have : ls.take (min 0 wi) = [] := by simp
    rw [this]
    have e : (min 0 wi) = 0 := by omega
    rw [e]
    exact World.ownsRow_nil _ _ _ _
  case round =>
    obtain ⟨k, nb, cb, Ab, Aa, ca, hk, rfl, rfl, rfl, rfl, HT⟩ := hrel
    by_cases hlt : k < n
    · obtain ⟨bs, hbl, hnb, hob, hos, hbw, hsm, htb⟩ := HT.out
      obtain ⟨_, l, Ai, ci, hA, _, hl, hcell, hci, hci2, hrd⟩ := (HR.out.below hbw).at_ hlt
      cases hA
      have HL := Lib.hid hl
      have HRD := Lib.hid hrd
      have hw := hbw.size
      have HOB := Lib.hid hob
      have HOS := Lib.hid hos
      have HBW := Lib.hid hbw
      have HSM := Lib.hid hsm
      have HTB := Lib.hid htb
      have HBL := Lib.hid hbl
      clear hl hrd hob hos hbw hsm htb hbl HT
      unfold maxLen at hci2
      by_cases h1 : l.length < 1
      · go_wp2_with (go_at_call 14; refine (told4 _).mono ?_; rintro e w2 ⟨rfl, hb2⟩)
        go_ret
        exact ⟨rfl, HBW.out.trans (hb2.mono HBW.out.size)⟩
      by_cases h60 : 60 < l.length
      · go_wp2_with (go_at_call 14; refine (told4 _).mono ?_; rintro e w2 ⟨rfl, hb2⟩)
        go_ret
        exact ⟨rfl, HBW.out.trans (hb2.mono HBW.out.size)⟩
      go_wp2_with fail
      refine (put_yes Ai l.length ci l wr (HRD.out.more hw) (by omega) (by omega)).mono ?_
      rintro e w2 ⟨v2, rfl, h2, b2⟩
      have h2' : w2.ownsRow wr.heap.size 5 1 v2 (frm l).length (B8 (frm l)) := h2
      obtain ⟨g, cap2, hv2, hg2, hg2'⟩ := h2'.form (by rw [frm_len]; omega)
      subst hv2
      have hfl := frm_len l
      have HFL := Lib.hid hfl
      have hcap := h2.rd.2.1
      rw [hfl] at h2 h2' hcap ⊢
      have HB2 := Lib.hid (HBW.out.trans (b2.mono hw))
      have HOB2 := Lib.hid (HOB.out.below b2 (Nat.le_refl _))
      have HOS2 := Lib.hid (HOS.out.below b2 (Nat.le_refl _))
      have H2 := Lib.hid h2
      have H2o := Lib.hid h2'
      clear h2'
      have q2 := (b2.cell (cell_lt hcell)).trans hcell
      have HRD2 := Lib.hid ((HRD.out.more hw).below b2)
      have hw2 := b2.size
      clear h2 b2 hfl
      have htl : (ls.take (k + 1)) = ls.take k ++ [l] := take_snoc ls k l HL.out
      have HTL := Lib.hid htl
      clear htl
      have hkn := HR.out.1
      rcases Nat.lt_trichotomy k wi with hkw | hkw | hkw
      · have hmin : min k wi = k := by omega
        have hmin1 : min (k + 1) wi = k + 1 := by omega
        have hlk : (ls.take k).length = k := by rw [List.length_take]; omega
        have hos2 : w2.ownsRow W.heap.size 9 1 (.slice Aa k ca) k (S8 (ls.take k)) := by
          have := HOS2.out
          rw [hmin] at this
          unfold OS at this
          rwa [hlk] at this
        have HO2 := Lib.hid hos2
        rw [hmin]
        have M1 := Lib.hid hmin1
        have hc2 : (convert 28 9 (.slice Ai l.length ci)).run Try.prog w2 = _ := run_conv_str HRD2.out
        have hlen := frms_len_le (ls.take k) 60 (fun x hx => (HSM.out x hx).2)
        have hin : (ls.take k).length * 66 ≤ 6 * 66 := Nat.mul_le_mul_right _ (by omega)
        have hbf : (frms (ls.take k)).length ≤ 400 := by omega
        clear hos2 hmin hmin1 hlk HOS HOS2 HOB hlen hin hkn
        go_wp2_with (at_builtin; refine wpl_app1 rfl (.tmp 88) (.tmp 94) 35 9 (.string ⟨#[]⟩) 16 Try.underlying35 info_str rfl rfl W.heap.size _ k (S8 (ls.take k)) rfl (HO2.out.alloc _) _ _ 1 1 [_] rfl (rd_of_new w2 _ _) (fun u hu => by simp at hu; subst hu; rfl) ?_ ?_ ?_ ?_)
        · omega
        · omega
        · have := HB2.out.size; simp; omega
        intro v3 w3 h3 g3 a3
        obtain ⟨A3, c3, hv3⟩ : ∃ A3 c3, v3 = .slice A3 (k + 1) c3 := by
          rcases h3.2 with ⟨_, h0⟩ | ⟨g, cap, cur, e, _⟩
          · omega
          · exact ⟨_, _, e⟩
        subst hv3
        have HOS3 := Lib.hid (show OS w3 W.heap.size (.slice A3 (k + 1) c3) (ls.take (k + 1)) from by
          unfold OS
          have e : (ls.take (k + 1)).length = k + 1 := by rw [List.length_take]; have := HR.out.1; omega
          rw [e, HTL.out]
          have : S8 (ls.take k ++ [l]) = S8 (ls.take k) ++ [.string ⟨l.toArray⟩] := by simp [S8]
          rw [this]; exact h3)
        have HB3 := Lib.hid ((HB2.out.alloc HB2.out.size (.cells #[.string ⟨l.toArray⟩] 9)).grown g3 (by have := HB2.out.size; simp; omega) (fun j hj => (HO2.out.lt j hj).1))
        have HOB3 := Lib.hid (show OB w3 W.heap.size (.slice Ab nb cb) _ from World.ownsRow.kept (HOB2.out.alloc (.cells #[.string ⟨l.toArray⟩] 9)) g3 (own_ne (HOB2.out.alloc (.cells #[.string ⟨l.toArray⟩] 9)) (HO2.out.alloc (.cells #[.string ⟨l.toArray⟩] 9)) (by decide)))
        have HF3 := Lib.hid (show OB w3 wr.heap.size (.slice (some ⟨g, 0, none⟩) (l.length + 6) cap2) (frm l) from World.ownsRow.kept (H2.out.alloc (.cells #[.string ⟨l.toArray⟩] 9)) g3 (own_ne (H2.out.alloc (.cells #[.string ⟨l.toArray⟩] 9)) (HO2.out.alloc (.cells #[.string ⟨l.toArray⟩] 9)) (by decide)))
        clear h3 g3 a3 hc2
        go_wp2_with (at_builtin; refine wpl_app rfl (.tmp 123) (.tmp 124) rfl W.heap.size _ _ rfl HOB3.out w3.heap.size _ _ _ (frm l) rfl (by have := HF3.out.rd.2.2.2; rw [HFL.out] at this; exact this) ?_ ?_ ?_)
        · have := HBL.out; omega
        · exact HB3.out.size
        intro v4 w4 h4 g4 _
        obtain ⟨A4, c4, rfl, _, _, _⟩ := h4.form
        have HOB4 := Lib.hid h4
        have HB4 := Lib.hid (HB3.out.grown g4 HB3.out.size (fun j hj => (HOB3.out.lt j hj).1))
        have HOS4 := Lib.hid (HOS3.out.grown HOB3.out g4)
        clear h4 g4
        go_wp2
        go_roundw
        case rel =>
          refine ⟨k + 1, _, c4, A4, A3, c3, by omega, by go_num, rfl, by rw [M1.out], ?_, ?_⟩
          · rw [M1.out, HTL.out, frms_snoc, List.length_append, HFL.out]; go_num
          · refine ⟨_, rfl, ?_, HOB4.out, ?_, HB4.out, ?_, .inl ⟨by omega, ?_⟩⟩
            · rw [List.length_append, HFL.out]; have := HBL.out; omega
            · rw [M1.out]; exact HOS4.out
            · rw [HTL.out]; exact HSM.out.snoc (by omega) (by omega)
            · rw [HTL.out, frms_snoc]
              rcases HTB.out with ⟨_, e⟩ | ⟨h, _⟩
              · rw [e]
              · omega
        case measure => simp [intOf]; omega
      · subst hkw
        have hmin : min k k = k := by omega
        have hmin1 : min (k + 1) k = k := by omega
        rw [hmin] at *
        have M1 := Lib.hid hmin1
        obtain ⟨jj, hjj, hjl⟩ := u_rem1 a2 ((l.length : Int) + 4) (by omega)
        have hlen := frms_len_le (ls.take k) 60 (fun x hx => (HSM.out x hx).2)
        have hin : (ls.take k).length * 66 ≤ 6 * 66 := Nat.mul_le_mul_right _ (by rw [List.length_take]; omega)
        have hbf : (frms (ls.take k)).length ≤ 400 := by omega
        have farb : ∀ (v : Value) (e : TypeId) (m : Nat) (xs : List Value), wr.ownsRow W.heap.size e 1 v m xs → w2.ownsRow W.heap.size e 1 v m xs → ∀ (j : Nat) (u : Value), (w2.setCell ⟨g, j, none⟩ u).ownsRow W.heap.size e 1 v m xs := by
          intro v e m xs h1 h2 j u
          refine h2.kept (H2o.out.stored j u).2 ?_
          by_cases hz : v.ownBlock = none
          · exact .inl hz
          · refine .inr (fun he => ?_)
            have := (h1.lt g he).2
            omega
        have SETB : Hid (∀ (j : Nat) (u : Value), OB (w2.setCell ⟨g, j, none⟩ u) W.heap.size (.slice Ab nb cb) bs) := farb _ _ _ _ HOB.out HOB2.out
        have SETS : Hid (∀ (j : Nat) (u : Value), OS (w2.setCell ⟨g, j, none⟩ u) W.heap.size (.slice Aa k ca) (ls.take k)) := farb _ _ _ _ (by have := HOS.out; rw [Nat.min_self] at this; exact this) (by have := HOS2.out; rw [Nat.min_self] at this; exact this)
        have SETF : Hid (∀ (j y : Nat), y < 256 → OB (w2.setCell ⟨g, j, none⟩ (.int .u8 y)) wr.heap.size (.slice (some ⟨g, 0, none⟩) (l.length + 6) cap2) ((frm l).set j (UInt8.ofNat y))) := by
          intro j y hy
          have h := (H2o.out.stored j (.int .u8 y)).1
          have e : B8 ((frm l).set j (UInt8.ofNat y)) = (B8 (frm l)).set j (.int .u8 y) := by
            simp only [B8, List.map_set, UInt8.toNat_ofNat']
            rw [Nat.mod_eq_of_lt hy]
          unfold OB
          rw [e, List.length_set, HFL.out]
          exact h
        have SETW : Hid (∀ (j : Nat) (u : Value), Below W.heap.size W (w2.setCell ⟨g, j, none⟩ u)) := fun j u => HB2.out.setCell (p := ⟨g, j, none⟩) (by show _ ≤ g; omega) u
        clear hmin hmin1 HOS HOB HOS2 HOB2 farb hlen hin hkn
        have step : ∀ j : Nat, j < l.length + 6 → (j < 4 ∨ 6 ≤ j) → ∃ y : Nat, y < 256 ∧ w2.cell? ⟨g, j, none⟩ = some (.int .u8 y) ∧ w2.frozen? ⟨g, j, none⟩ = false ∧ bits .xor .u8 (y : Int) (xn : Int) = ((y ^^^ xn : Nat) : Int) ∧ (frm l)[j]? ≠ some (UInt8.ofNat (y ^^^ xn)) := by
          intro j hj _
          have hx := H2o.out.cellAt j (by omega)
          obtain ⟨bb, hbb⟩ : ∃ bb, (frm l)[j]? = some bb := ⟨_, List.getElem?_eq_getElem (by rw [HFL.out]; exact hj)⟩
          have hx' : (B8 (frm l))[j]? = some (.int .u8 bb.toNat) := by unfold B8; rw [List.getElem?_map, hbb]; rfl
          rw [hx'] at hx
          have hb := u8_lt bb
          refine ⟨_, hb, hx, H2o.out.frozenAt j, u8_xor_nat _ _ hb (by omega), ?_⟩
          rw [hbb]
          intro h
          have h2 := congrArg UInt8.toNat (Option.some.inj h)
          have hlt : bb.toNat ^^^ xn < 256 := Nat.xor_lt_two_pow (n := 8) hb (by omega)
          have h3 : (bb.toNat ^^^ xn) % 2 ^ 8 = bb.toNat ^^^ xn := Nat.mod_eq_of_lt hlt
          rw [UInt8.toNat_ofNat'] at h2
          exact xor_ne _ _ HX.out (h3.symm.trans h2.symm)
        have STEP := Lib.hid step
        clear step
        by_cases hj4 : jj < 4
        · obtain ⟨y, hy, hcy, hfy, hxy, hne⟩ := STEP.out jj (by omega) (.inl hj4)
          have HNE := Lib.hid hne
          clear hne
          go_wp2_with (at_builtin; refine wpl_app rfl (.tmp 123) (.tmp 124) rfl W.heap.size _ _ rfl (SETB.out _ _) (w2.setCell ⟨g, jj, none⟩ (.int .u8 (y ^^^ xn : Nat))).heap.size _ _ _ _ rfl (by have := (SETF.out jj (y ^^^ xn) (Nat.xor_lt_two_pow (n := 8) hy (by omega))).rd; rw [← this.1] at this; exact this.2.2.2) ?_ ?_ ?_)
          · have := HBL.out; omega
          · exact (SETW.out _ _).size
          intro v4 w4 h4 g4 _
          obtain ⟨A4, c4, rfl, _, _, _⟩ := h4.form
          have HOB4 := Lib.hid h4
          have HB4 := Lib.hid ((SETW.out _ _).grown g4 (SETW.out _ _).size (fun j hj => ((SETB.out 0 undef).lt j hj).1))
          have HOS4 := Lib.hid ((SETS.out _ _).grown (SETB.out _ _) g4)
          clear h4 g4
          go_wp2
          go_roundw
          case rel =>
            refine ⟨k + 1, _, c4, A4, Aa, ca, by omega, by go_num, rfl, by rw [M1.out], by rw [M1.out], ?_⟩
            · refine ⟨_, rfl, ?_, HOB4.out, ?_, HB4.out, ?_, .inr ⟨by omega, l, jj, UInt8.ofNat (y ^^^ xn), [], HL.out, by rw [HFL.out]; omega, .inl hj4, HNE.out, ?_⟩⟩
              · rw [List.length_append, List.length_set, HFL.out]; have := HBL.out; omega
              · rw [M1.out]; exact HOS4.out
              · rw [HTL.out]; exact HSM.out.snoc (by omega) (by omega)
              · rcases HTB.out with ⟨_, e⟩ | ⟨h, _⟩
                · rw [e, List.append_nil]; first | done | simp only [UInt8.ofNat_xor]
                · omega
          case measure => simp [intOf]; omega
        · obtain ⟨j2, hj2⟩ : ∃ j2 : Nat, j2 = jj + 2 := ⟨_, rfl⟩
          have hj2' : (jj : Int) + 2 = (j2 : Int) := by omega
          have hj2l : j2 < l.length + 6 := by omega
          have hj26 : 6 ≤ j2 := by omega
          obtain ⟨y, hy, hcy, hfy, hxy, hne⟩ := STEP.out j2 hj2l (.inr hj26)
          have HNE := Lib.hid hne
          clear hne hj2
          go_wp2_with (at_builtin; refine wpl_app rfl (.tmp 123) (.tmp 124) rfl W.heap.size _ _ rfl (SETB.out _ _) (w2.setCell ⟨g, j2, none⟩ (.int .u8 (y ^^^ xn : Nat))).heap.size _ _ _ _ rfl (by have := (SETF.out j2 (y ^^^ xn) (Nat.xor_lt_two_pow (n := 8) hy (by omega))).rd; rw [← this.1] at this; exact this.2.2.2) ?_ ?_ ?_)
          · have := HBL.out; omega
          · exact (SETW.out _ _).size
          intro v4 w4 h4 g4 _
          obtain ⟨A4, c4, rfl, _, _, _⟩ := h4.form
          have HOB4 := Lib.hid h4
          have HB4 := Lib.hid ((SETW.out _ _).grown g4 (SETW.out _ _).size (fun j hj => ((SETB.out 0 undef).lt j hj).1))
          have HOS4 := Lib.hid ((SETS.out _ _).grown (SETB.out _ _) g4)
          clear h4 g4
          go_wp2
          go_roundw
          case rel =>
            refine ⟨k + 1, _, c4, A4, Aa, ca, by omega, by go_num, rfl, by rw [M1.out], by rw [M1.out], ?_⟩
            · refine ⟨_, rfl, ?_, HOB4.out, ?_, HB4.out, ?_, .inr ⟨by omega, l, j2, UInt8.ofNat (y ^^^ xn), [], HL.out, by rw [HFL.out]; omega, .inr hj26, HNE.out, ?_⟩⟩
              · rw [List.length_append, List.length_set, HFL.out]; have := HBL.out; omega
              · rw [M1.out]; exact HOS4.out
              · rw [HTL.out]; exact HSM.out.snoc (by omega) (by omega)
              · rcases HTB.out with ⟨_, e⟩ | ⟨h, _⟩
                · rw [e, List.append_nil]; first | done | simp only [UInt8.ofNat_xor]
                · omega
          case measure => simp [intOf]; omega
      · have hmin : min k wi = wi := by omega
        have hmin1 : min (k + 1) wi = wi := by omega
        have M0 := Lib.hid hmin
        have M1 := Lib.hid hmin1
        clear hmin1 hkn
        go_wp2_with (at_builtin; refine wpl_app rfl (.tmp 123) (.tmp 124) rfl W.heap.size _ _ rfl HOB2.out w2.heap.size _ _ _ (frm l) rfl (by have := H2.out.rd.2.2.2; rw [HFL.out] at this; exact this) ?_ ?_ ?_)
        · have := HBL.out; omega
        · exact HB2.out.size
        intro v4 w4 h4 g4 _
        obtain ⟨A4, c4, rfl, _, _, _⟩ := h4.form
        have HOB4 := Lib.hid h4
        have HB4 := Lib.hid (HB2.out.grown g4 HB2.out.size (fun j hj => (HOB2.out.lt j hj).1))
        have HOS4 := Lib.hid (HOS2.out.grown HOB2.out g4)
        clear h4 g4
        go_wp2
        go_roundw
        case rel =>
          refine ⟨k + 1, _, c4, A4, Aa, ca, by omega, by go_num, rfl, by rw [M1.out], by rw [M1.out], ?_⟩
          refine ⟨_, rfl, ?_, HOB4.out, ?_, HB4.out, ?_, .inr ⟨by omega, ?_⟩⟩
          · rw [List.length_append, HFL.out]; have := HBL.out; omega
          · rw [M1.out]; have := HOS4.out; rw [M0.out] at this; exact this
          · rw [HTL.out]; exact HSM.out.snoc (by omega) (by omega)
          · rcases HTB.out with ⟨h, _⟩ | ⟨_, l', j, y, r, e1, e2, e3, e4, e5⟩
            · omega
            · exact ⟨l', j, y, r ++ frm l, e1, e2, e3, e4, by rw [e5]; simp⟩
        case measure => simp [intOf]; omega
    · obtain rfl : n = k := by omega
      obtain ⟨bs, hbl, hnb, hob, hos, hbw, hsm, htb⟩ := HT.out
      have hmin : min n wi = wi := by omega
      have hrec : recs bs = (ls.take wi, (frms (ls.take wi)).length) := by
        rcases htb with ⟨h, _⟩ | ⟨_, l, j, y, r, e1, e2, e3, e4, e5⟩
        · omega
        · have hall : ls.take n = ls := by rw [← HR.out.1]; exact List.take_length
          rw [hall] at hsm
          have hl := hsm l (List.mem_of_getElem? e1)
          rw [e5]
          exact recs_frms _ _ (fun x hx => (hsm.fits (by omega)) x (List.mem_of_mem_take hx)) (recAt_turned _ l r j y hl.1 (by omega) e2 e3 e4)
      have HREC := Lib.hid hrec
      rw [hmin] at hos ⊢
      obtain ⟨hn1, hn2, _, hrb⟩ := hob.rd
      have hwl : (ls.take wi).length = wi := by rw [List.length_take, HR.out.1]; omega
      obtain ⟨Aq, cq, hv, hcq, hrs⟩ := hos.rd
      rw [hwl] at hv hrs hcq
      injection hv with hv1 hv2 hv3
      subst hv1 hv3
      have HRS := Lib.hid hrs
      have HBW := Lib.hid hbw
      have HWL := Lib.hid hwl
      rw [← hn1] at hrb hn2
      have hn2' : nb ≤ cb := hn2
      have HRB := Lib.hid hrb
      clear hbl hob hos hbw hsm htb HT hrec hwl hrb hrs hmin hn2 hn1 hv2
      go_wp2_with fail
      refine (read_any Ab nb cb bs wr HRB.out (by omega) (by omega)).mono ?_
      rintro e w4 ⟨v4, rfl, h4, b4⟩
      rw [HREC.out] at h4 ⊢
      obtain ⟨A4, c4, rfl⟩ := h4.form
      have hrr := h4.rd.2.2.2
      rw [HWL.out] at hrr ⊢
      have HRR := Lib.hid hrr
      have HB4 := Lib.hid (HBW.out.trans (b4.mono HBW.out.size))
      have HRS4 := Lib.hid ((HRS.out.below b4).more b4.size)
      clear h4 b4 hrr
      go_wp2_with (first | (go_at_call 14; refine (told4 _).mono ?_; rintro e w5 ⟨rfl, hb5⟩) | (go_at_call 21; refine (texts_yes _ _ wi _ _ _ w5 (RdRows.more (HRR.out.below hb5) hb5.size) ((HRS4.out.below hb5).more hb5.size) (by omega)).mono ?_; rintro e w6 ⟨rfl, hb6⟩))
      go_ret
      exact ⟨rfl, HB4.out.trans ((hb5.trans (hb6.mono hb5.size)).mono HB4.out.size)⟩
end Go.Proofs.Ytkbkbgnnamckoaa
