/- The law FramePlaces, walked. -/
import Derived.Test.YtkbkbgnnamckoaaTold4
import Derived.Test.YtkbkbgnnamckoaaFPure
import Derived.Test.YtkbkbgnnamckoaaBelowR
import Derived.Test.YtkbkbgnnamckoaaOpen
set_option linter.unusedSimpArgs false
set_option linter.unusedVariables false
namespace Go.Proofs.Ytkbkbgnnamckoaa
open Go.RowKit
theorem take_snoc {α : Type} (l : List α) (k : Nat) (x : α) (h : l[k]? = some x) : l.take (k + 1) = l.take k ++ [x] := by
  rw [List.take_add_one, h]; rfl
theorem fits_get {ls : List (List UInt8)} (h : Fits ls) {k : Nat} {l : List UInt8} (hk : ls[k]? = some l) : 1 ≤ l.length ∧ l.length ≤ 1000 := h l (List.mem_of_getElem? hk)
theorem frms_len_le (ls : List (List UInt8)) (m : Nat) (h : ∀ l ∈ ls, l.length ≤ m) : (frms ls).length ≤ ls.length * (m + 6) := by
  induction ls with
  | nil => simp [frms]
  | cons l ls ih =>
    rw [frms_cons, List.length_append, frm_len, List.length_cons, Nat.succ_mul]
    have := h l (by simp)
    have := ih (fun x hx => h x (by simp [hx]))
    omega
theorem RdRows.at_ {w : World} {D n : Nat} {A : Option Addr} {ls : List (List UInt8)} (h : RdRows w D A n ls) {k : Nat} (hk : k < n) :
    ∃ ad l Ai ci, A = some ad ∧ ad.block < D ∧ ls[k]? = some l ∧ w.cell? (ad.add k) = some (.slice Ai l.length ci) ∧ l.length ≤ ci ∧ ci ≤ maxLen ∧ Rd w D 1 Ai l.length (B8 l) := by
  obtain ⟨hl, vs, hr, he⟩ := h
  obtain ⟨ad, u, e, hb, hx, hc⟩ := hr.at1 hk
  have hkl : k < ls.length := by omega
  obtain ⟨Ai, ci, h1, h2, h3, h4⟩ := he k _ (List.getElem?_eq_getElem hkl)
  rw [hx] at h1
  cases h1
  exact ⟨ad, _, Ai, ci, e, hb, List.getElem?_eq_getElem hkl, hc, h2, h3, h4⟩
theorem RdRows.below {w w' : World} {D n : Nat} {A : Option Addr} {ls : List (List UInt8)} (h : RdRows w D A n ls) (hb : Below D w w') : RdRows w' D A n ls := by
  obtain ⟨hl, vs, hr, he⟩ := h
  exact ⟨hl, vs, hr.below hb, fun i l hi => let ⟨Ai, ci, h1, h2, h3, h4⟩ := he i l hi; ⟨Ai, ci, h1, h2, h3, h4.below hb⟩⟩
def Small (m : Nat) (ls : List (List UInt8)) : Prop := ∀ l ∈ ls, 1 ≤ l.length ∧ l.length ≤ m
theorem Small.fits {m : Nat} {ls : List (List UInt8)} (h : Small m ls) (hm : m ≤ 1000) : Fits ls := fun l hl => ⟨(h l hl).1, Nat.le_trans (h l hl).2 hm⟩
theorem Small.snoc {m : Nat} {ls : List (List UInt8)} {l : List UInt8} (h : Small m ls) (h1 : 1 ≤ l.length) (h2 : l.length ≤ m) : Small m (ls ++ [l]) := by
  intro x hx
  rcases List.mem_append.1 hx with h' | h'
  · exact h x h'
  · simp at h'; subst h'; exact ⟨h1, h2⟩
theorem OB.rd {w : World} {base : Nat} {A : Option Addr} {n c : Nat} {l : List UInt8} (h : OB w base (.slice A n c) l) : n = l.length ∧ l.length ≤ c ∧ c ≤ maxLen ∧ Rd w w.heap.size 1 A l.length (B8 l) := by
  obtain ⟨A', c', e, h1, h2, h3⟩ := h.form
  injection e with e1 e2 e3
  subst e1 e3
  exact ⟨e2, h1, h2, h3⟩
theorem split_at {α : Type} (ls : List α) (k : Nat) (l : α) (h : ls[k]? = some l) : ls = ls.take k ++ l :: ls.drop (k + 1) := by
  obtain ⟨hk, hx⟩ := List.getElem?_eq_some_iff.1 h
  rw [← hx, List.getElem_cons_drop]
  exact (List.take_append_drop k ls).symm
theorem recAt_frms_at (ls : List (List UInt8)) (hf : Fits ls) (k : Nat) (l : List UInt8) (h : ls[k]? = some l) : recAt (frms ls) (frms (ls.take k)).length = some l := by
  have hb := fits_get hf h
  have e : frms ls = frms (ls.take k) ++ (frm l ++ frms (ls.drop (k + 1))) := by
    have := congrArg frms (split_at ls k l h)
    rw [frms_app, frms_cons] at this
    exact this
  have := recAt_frm (frms (ls.take k)) l (frms (ls.drop (k + 1))) hb.1 hb.2
  rw [← e] at this
  exact this
theorem frms_take_le (ls : List (List UInt8)) (k : Nat) : (frms (ls.take k)).length ≤ (frms ls).length := by
  have : frms ls = frms (ls.take k) ++ frms (ls.drop k) := by rw [← frms_app, List.take_append_drop]
  have h := congrArg List.length this
  rw [List.length_append] at h
  omega
/-- What the first loop holds. -/
def Put1 (W w : World) (m : Nat) (ls : List (List UInt8)) (k : Nat) (v : Value) : Prop := OB w W.heap.size v (frms (ls.take k)) ∧ Below W.heap.size W w ∧ Small m (ls.take k)
set_option maxRecDepth 100000 in
set_option maxHeartbeats 4000000 in
theorem places_walk (A : Option Addr) (n c : Nat) (ls : List (List UInt8)) (W : World) (hr : RdRows W W.heap.size A n ls) (hn : n ≤ maxLen) :
    Calls Try.prog 9 #[.slice A n c] W fun e w' => e = .returned (.bool true) ∧ Below W.heap.size W w' := by
  unfold maxLen at hn
  have HR := Lib.hid hr; clear hr
  by_cases h0 : n < 1
  · go_enter Try.func9, Try.ntmps9
    go_wp2_with (go_at_call 14; refine (told4 _).mono ?_; rintro e w2 ⟨rfl, hb2⟩)
    go_ret
    exact ⟨rfl, hb2⟩
  by_cases h8 : 8 < n
  · go_enter Try.func9, Try.ntmps9
    go_wp2_with (go_at_call 14; refine (told4 _).mono ?_; rintro e w2 ⟨rfl, hb2⟩)
    go_ret
    exact ⟨rfl, hb2⟩
  obtain ⟨ad, hA⟩ : ∃ ad, A = some ad := by obtain ⟨ad, _, _, _, e, _⟩ := HR.out.at_ (k := 0) (by omega); exact ⟨ad, e⟩
  subst hA
  go_enter Try.func9, Try.ntmps9
  go_wp2
  go_loopw [3, 4] (fun v i wr => ∃ (k : Nat) (Av : Option Addr) (cv : Nat), k ≤ n ∧ i = .int .i64 k ∧ v = .slice Av (frms (ls.take k)).length cv ∧ Hid (Put1 W wr 40 ls k (.slice Av (frms (ls.take k)).length cv))) (fun _ i _ => n - (intOf i).toNat)
  case atStart => exact ⟨0, none, 0, by omega, rfl, rfl, OB.nil _ _, Below.refl _ _, fun l hl => by simp at hl⟩
  case round =>
    obtain ⟨k, Av, cv, hk, rfl, rfl, HP⟩ := hrel
    by_cases hlt : k < n
    · obtain ⟨hob, hbw, hsm⟩ := HP.out
      obtain ⟨_, l, Ai, ci, hA, _, hl, hcell, hci, hci2, hrd⟩ := (HR.out.below hbw).at_ hlt
      cases hA
      have HL := Lib.hid hl
      have HRD := Lib.hid hrd
      have hw := hbw.size
      have HOB := Lib.hid hob
      have HBW := Lib.hid hbw
      have HSM := Lib.hid hsm
      clear hl hrd hob hbw hsm
      unfold maxLen at hci2
      by_cases h1 : l.length < 1
      · go_wp2_with (go_at_call 14; refine (told4 _).mono ?_; rintro e w2 ⟨rfl, hb2⟩)
        go_ret
        exact ⟨rfl, HBW.out.trans (hb2.mono HBW.out.size)⟩
      by_cases h40 : 40 < l.length
      · go_wp2_with (go_at_call 14; refine (told4 _).mono ?_; rintro e w2 ⟨rfl, hb2⟩)
        go_ret
        exact ⟨rfl, HBW.out.trans (hb2.mono HBW.out.size)⟩
      · go_wp2_with fail
        refine (put_yes Ai l.length ci l wr (HRD.out.more hw) (by omega) (by omega)).mono ?_
        rintro e w2 ⟨v2, rfl, h2, b2⟩
        obtain ⟨A2, c2, rfl, _, _, r2⟩ := h2.form
        have hlen := frms_len_le (ls.take k) 40 (fun x hx => (HSM.out x hx).2)
        have hlk : (ls.take k).length ≤ 8 := by rw [List.length_take]; omega
        have hln := frm_len l
        have hin : (ls.take k).length * 46 ≤ 8 * 46 := Nat.mul_le_mul_right _ hlk
        have hbound : (frms (ls.take k)).length + (frm l).length ≤ 140737488355328 := by omega
        have HB2 := Lib.hid (HBW.out.trans (b2.mono hw))
        have HO2 := Lib.hid (HOB.out.below b2 (Nat.le_refl _))
        have R2 := Lib.hid r2
        clear h2 b2 r2 hlen hlk hln hin
        go_wp2_with (at_builtin; refine wpl_app rfl (.tmp 57) (.tmp 58) rfl W.heap.size _ _ rfl HO2.out w2.heap.size _ _ _ _ rfl R2.out hbound HB2.out.size ?_)
        intro v3 w3 h3 g3 _
        obtain ⟨A3, c3, rfl, _, _, _⟩ := h3.form
        have HO3 := Lib.hid h3
        have HB3 := Lib.hid (HB2.out.grown g3 HB2.out.size (fun j hj => (HO2.out.lt j hj).1))
        clear h3 g3
        go_wp2
        go_roundw
        case rel =>
          have e : frms (ls.take (k + 1)) = frms (ls.take k) ++ frm l := by rw [take_snoc ls k l HL.out, frms_snoc]
          refine ⟨k + 1, A3, c3, by omega, by go_num, by rw [e], ?_, HB3.out, ?_⟩
          · rw [e]; exact HO3.out
          · rw [take_snoc ls k l HL.out]; exact HSM.out.snoc (by omega) (by omega)
        case measure => simp [intOf]; omega
    · obtain rfl : n = k := by omega
      have hall : ls.take n = ls := by rw [← HR.out.1]; exact List.take_length
      obtain ⟨hob, hbw, hsm⟩ := HP.out
      rw [hall] at hob hsm ⊢
      obtain ⟨_, hcc, hcm, hrb⟩ := hob.rd
      have HRB := Lib.hid hrb
      have HBW := Lib.hid hbw
      have HSM := Lib.hid hsm
      have HFT := Lib.hid (hsm.fits (by omega))
      have hln : (frms ls).length ≤ 1000 := by
        have h1 := frms_len_le ls 40 (fun x hx => (hsm x hx).2)
        have h2 : ls.length * 46 ≤ 8 * 46 := Nat.mul_le_mul_right _ (by rw [HR.out.1]; omega)
        omega
      clear hob hbw hsm hrb hall HP hk
      obtain ⟨wo, rfl⟩ : ∃ wo : World, wo = wr := ⟨_, rfl⟩
      go_wp2
      go_loopw [7, 8] (fun p i w => ∃ k : Nat, k ≤ n ∧ i = .int .i64 k ∧ p = .int .i64 (frms (ls.take k)).length ∧ Hid (Below wo.heap.size wo w)) (fun _ i _ => n - (intOf i).toNat)
      case atStart => exact ⟨0, by omega, rfl, rfl, Below.refl _ _⟩
      case round =>
        obtain ⟨k, hk, rfl, rfl, HB⟩ := hrel
        have hkl := frms_take_le ls k
        have HBw := Lib.hid (HBW.out.trans (HB.out.mono HBW.out.size))
        have HRw := Lib.hid ((HRB.out.below HB.out).more HB.out.size)
        by_cases hlt : k < n
        · obtain ⟨_, l, Ai, ci, hA, _, hl, hcell, hci, hci2, hrd⟩ := (HR.out.below HBw.out).at_ hlt
          cases hA
          have HL := Lib.hid hl
          have HRD := Lib.hid hrd
          have hll := (HFT.out l (List.mem_of_getElem? hl))
          have hrec := recAt_frms_at ls HFT.out k l hl
          have HREC := Lib.hid hrec
          clear hl hrd hrec
          go_wp2_with fail
          refine (one_any Av _ cv (frms (ls.take k)).length _ wr HRw.out (by omega) hcc (by omega)).mono ?_
          intro e w3 hq
          unfold OneRet at hq
          rw [HREC.out] at hq
          obtain ⟨v3, rfl, h3, b3⟩ := hq
          obtain ⟨A3, c3, rfl, _, _, r3⟩ := h3.form
          have e3 : (((frms (ls.take k)).length + 6 + l.length : Nat) : Int) = ((frms (ls.take k)).length : Int) + 6 + (l.length : Int) := by omega
          rw [e3]
          clear e3
          have q1 : ∀ s : BW w3.heap.size w3, s.val.cell? (ad.add k) = some (.slice Ai l.length ci) := BW.cell ((b3.cell (cell_lt hcell)).trans hcell) (Nat.lt_of_lt_of_le (cell_lt hcell) b3.size)
          have k1 : ∀ s : BW w3.heap.size w3, _ := fun s => run_conv_str (c := c3) (r3.below s.h)
          have k2 : ∀ s : BW w3.heap.size w3, _ := fun s => run_conv_str (c := ci) (((HRD.out.more HBw.out.size).below b3 |>.more b3.size).below s.h)
          have HB3 := Lib.hid (HB.out.trans (b3.mono HB.out.size))
          clear h3 b3 r3 hcell
          go_wp2_with fail
          refine wp_region_below (w3.heap.size) (by kernel_rfl) (by kernel_rfl) ?_
          repeat (first | go_big_quiet_step ((fail)) | quiet_step ((fail)))
          refine wpQuiet_nil ?_
          intro _ hw'
          obtain ⟨sb, hw''⟩ := hw'
          subst hw''
          go_wp2
          go_roundw
          case rel =>
            refine ⟨k + 1, by omega, by go_num, ?_, ?_⟩
            · rw [take_snoc ls k l HL.out, frms_snoc, List.length_append, frm_len]
              go_num
            · exact HB3.out.trans (sb.h.mono HB3.out.size)
          case measure => simp [intOf]; omega
        · obtain rfl : n = k := by omega
          have hall : ls.take n = ls := by rw [← HR.out.1]; exact List.take_length
          rw [hall] at hkl ⊢
          clear hall hkl hk
          have hnb : (frms ls).length ≤ 9223372036854775807 := by omega
          go_wp2_with (first | (go_at_call 19; refine (one_out _ _ _ _ _ hnb (by omega) (by omega) (by omega)).mono ?_; rintro e w' ⟨rfl, rfl⟩) | (go_at_call 14; refine (told4 _).mono ?_; rintro e w2 ⟨rfl, hb2⟩))
          go_ret
          exact ⟨rfl, HBw.out.trans (hb2.mono HBw.out.size)⟩
end Go.Proofs.Ytkbkbgnnamckoaa
