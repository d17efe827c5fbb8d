/- The law PackWrong, walked. -/
import Derived.Test.YtebinhelnhnbeaaOpenO
import Derived.Test.YtebinhelnhnbeaaTold1
set_option linter.unusedSimpArgs false
set_option linter.unusedVariables false
namespace Go.Proofs.Ytebinhelnhnbeaa
open Go.RowKit
/-- A world in which the reader is wrong. -/
structure NW (W : World) (D g : Nat) where
  val : World
  r : RP val D g none
  hD : D ≤ val.heap.size
  b : Below W.heap.size W val
theorem wp_region_none {P : Program} {id : Nat} {Q : Exit → Act → World → Prop} {a : Act} {w : World} {l : List Oper} (W : World) (D g : Nat) (hr : RP w D g none) (hD : D ≤ w.heap.size) (hb : Below W.heap.size W w) (hm : P.follows .mixedOrders = true) (hB : Region.lexB .any l.toArray = true)
    (h : wpQuiet P l.toArray (fun w' => ∃ s : NW W D g, w' = s.val) (fun a' => ∀ w', (∃ s : NW W D g, w' = s.val) → Q .normal a' w') l a) : (Code.region id l.toArray true).wp P Q a w :=
  wp_region_quiet (C := fun w' => ∃ s : NW W D g, w' = s.val) hm hB ⟨⟨w.drew, hr, hD, hb.drew⟩, rfl⟩ (by simpa using h)
theorem NW.next {W : World} {D g : Nat} (s : NW W D g) (hg : W.heap.size ≤ g) {w' : World} (q : RP w' D g none) (hgr : s.val.grownBy w' (some g)) : ∃ s' : NW W D g, w' = s'.val :=
  ⟨⟨w', q, Nat.le_trans s.hD hgr.size, s.b.trans (only_lt hgr s.b.size hg)⟩, rfl⟩
theorem NW.int {W : World} {D g : Nat} (s : NW W D g) (hg : W.heap.size ≤ g) (lo hi : Int) : Calls Try.prog 25 #[.pointer (some ⟨g, 0, none⟩), .int .i64 lo, .int .i64 hi] s.val (fun e w'' => e = .returned (.int .i64 0) ∧ ∃ s' : NW W D g, w'' = s'.val) :=
  (rint_is s.r s.hD (rInt_none lo hi)).mono fun _ _ ⟨he, q, hgr⟩ => ⟨he, s.next hg q hgr⟩
theorem NW.text {W : World} {D g : Nat} (s : NW W D g) (hg : W.heap.size ≤ g) (most : Int) : Calls Try.prog 27 #[.pointer (some ⟨g, 0, none⟩), .int .i64 most] s.val (fun e w'' => e = .returned (.string ⟨#[]⟩) ∧ ∃ s' : NW W D g, w'' = s'.val) :=
  (rtext_is s.r s.hD (rText_none most)).mono fun _ _ ⟨he, q, hgr⟩ => ⟨he, s.next hg q hgr⟩
theorem NW.byte {W : World} {D g : Nat} (s : NW W D g) (hg : W.heap.size ≤ g) : Calls Try.prog 29 #[.pointer (some ⟨g, 0, none⟩)] s.val (fun e w'' => e = .returned (.int .i64 0) ∧ ∃ s' : NW W D g, w'' = s'.val) :=
  (rbyte_is s.r rByte_none).mono fun _ _ ⟨he, q, hgr⟩ => ⟨he, s.next hg q hgr⟩
theorem NW.end_ {W : World} {D g : Nat} (s : NW W D g) : Calls Try.prog 31 #[.pointer (some ⟨g, 0, none⟩)] s.val (fun e w'' => e = .returned (.int .i64 2) ∧ ∃ s' : NW W D g, w'' = s'.val) :=
  (rend_is s.r rfl).mono fun _ _ ⟨he, hw⟩ => ⟨he, s, hw.symm⟩
def WR (W wr : World) (g D : Nat) (s : Rs) : Prop := RP wr D g s ∧ D ≤ wr.heap.size ∧ W.heap.size ≤ g ∧ Below W.heap.size W wr
theorem WR.next {W wr w2 : World} {g D : Nat} {s s' : Rs} (h : WR W wr g D s) (q : RP w2 D g s') (hgr : wr.grownBy w2 (some g)) : WR W w2 g D s' :=
  ⟨q, Nat.le_trans h.2.1 hgr.size, h.2.2.1, h.2.2.2.trans (only_lt hgr h.2.2.2.size h.2.2.1)⟩
theorem rByte_drop (l : List UInt8) (k : Nat) (h : k < l.length) : rByte (some (l.drop k)) = ((l[k].toNat : Int), some (l.drop (k + 1))) := by
  rw [List.drop_eq_getElem_cons h]; rfl
set_option maxRecDepth 100000 in
set_option maxHeartbeats 8000000 in
theorem wrong_walk (A B : Option Addr) (n c m d : Nat) (l : List UInt8) (os : List OpV) (W : World) (hl : Rd W W.heap.size 1 A n (B8 l)) (hr : RdOps W W.heap.size B m os) (hn : n ≤ maxLen) (hm : m ≤ maxLen) : Calls Try.prog 10 #[.slice A n c, .slice B m d] W fun e w' => e = .returned (.bool true) ∧ Below W.heap.size W w' := by
  replace hn : n ≤ 9223372036854775807 := by unfold maxLen at hn; omega
  replace hm : m ≤ 9223372036854775807 := by unfold maxLen at hm; omega
  have hlen : l.length = n := by have := hl.1; rw [B8_len] at this; omega
  have HR := Lib.hid hr
  have HL := Lib.hid hl
  have HN := Lib.hid hlen
  clear hr hl hlen
  by_cases h60 : 60 < n
  · go_enter Try.func10, Try.ntmps10
    go_wp2_with (go_at_call 17; refine (told1 _).mono ?_; rintro e w2 ⟨rfl, hb2⟩)
    go_ret
    exact ⟨rfl, hb2⟩
  by_cases h20 : 20 < m
  · go_enter Try.func10, Try.ntmps10
    go_wp2_with (go_at_call 17; refine (told1 _).mono ?_; rintro e w2 ⟨rfl, hb2⟩)
    go_ret
    exact ⟨rfl, hb2⟩
  go_enter Try.func10, Try.ntmps10
  go_wp2_with fail
  refine (new_c A n c l _ HL.out (by omega)).mono ?_
  rintro e w1 ⟨g, rfl, hg, q1, b1⟩
  have HW1 := Lib.hid (show WR W w1 g w1.heap.size (some (l.drop 0)) from ⟨q1, Nat.le_refl _, hg, b1⟩)
  clear q1 b1
  go_wp2
  go_loopw [6] (fun i wr => ∃ k : Nat, k ≤ n ∧ i = .int .i64 k ∧ Hid (WR W wr g w1.heap.size (some (l.drop k)))) (fun i _ => n - (intOf i).toNat)
  case atStart => exact ⟨0, by omega, rfl, HW1.out⟩
  case round =>
    clear HW1
    obtain ⟨k, hk, rfl, HS⟩ := hrel
    by_cases hlt : k < n
    · have HX := Lib.hid (rByte_drop l k (by have := HN.out; omega))
      go_wp2_with (go_at_call 29; refine (rbyte_is HS.out.1 HX.out).mono ?_; rintro e w2 ⟨rfl, q2, g2⟩; have NX := Lib.hid (HS.out.next q2 g2); clear q2 g2)
      go_roundw
      case rel => exact ⟨k + 1, by omega, by go_num, NX⟩
      case measure => simp [intOf]; omega
    · have hd : l.drop k = [] := List.drop_eq_nil_of_le (by have := HN.out; omega)
      rw [hd] at HS
      clear hd
      go_wp2_with fail
      refine (rend_is HS.out.1 (v := 0) rfl).mono ?_
      rintro e w' ⟨rfl, rfl⟩
      go_wp2_with fail
      refine (rbyte_is HS.out.1 (v := 0) (s' := none) rfl).mono ?_
      rintro e w2 ⟨rfl, q2, g2⟩
      have NX := Lib.hid (HS.out.next q2 g2)
      clear q2 g2
      go_wp2_with fail
      refine (rend_is NX.out.1 (v := 2) rfl).mono ?_
      rintro e w' ⟨rfl, rfl⟩
      go_wp2
      go_loopw [7] (fun i wr => ∃ k : Nat, k ≤ m ∧ i = .int .i64 k ∧ Hid (WR W wr g w1.heap.size none)) (fun i _ => m - (intOf i).toNat)
      case atStart => exact ⟨0, by omega, rfl, NX⟩
      case round =>
        clear NX HS
        obtain ⟨j, hj, rfl, HS⟩ := hrel
        by_cases hlt : j < m
        · obtain ⟨ad, o, rfl, hadb, ho, hfit, hat⟩ := HR.out.at_ hlt
          have q3 : ∀ s : NW W w1.heap.size g, s.val.cell? ⟨(ad.add (j * 6)).block, (ad.add (j * 6)).off + 3, none⟩ = some (.int .i64 o.lo) := fun s => (hat.below s.b hadb).c3
          have q4 : ∀ s : NW W w1.heap.size g, s.val.cell? ⟨(ad.add (j * 6)).block, (ad.add (j * 6)).off + 4, none⟩ = some (.int .i64 o.hi) := fun s => (hat.below s.b hadb).c4
          have q5 : ∀ s : NW W w1.heap.size g, s.val.cell? ⟨(ad.add (j * 6)).block, (ad.add (j * 6)).off + 5, none⟩ = some (.int .i64 o.most) := fun s => (hat.below s.b hadb).c5
          clear hat ho hfit
          have hne : Nonempty (NW W w1.heap.size g) := ⟨⟨wr, HS.out.1, HS.out.2.1, HS.out.2.2.2⟩⟩
          have C1 := Lib.hid (fun s : NW W w1.heap.size g => s.int hg o.lo o.hi)
          have C2 := Lib.hid (fun s : NW W w1.heap.size g => s.text hg o.most)
          have C3 := Lib.hid (fun s : NW W w1.heap.size g => s.byte hg)
          have C4 := Lib.hid (fun s : NW W w1.heap.size g => s.end_)
          have i0 : (0 : Int) ≤ (j : Int) := by omega
          have i1 : (j : Int) < (m : Int) := by omega
          go_wp2
          refine wp_region_none W w1.heap.size g HS.out.1 HS.out.2.1 HS.out.2.2.2 (by kernel_rfl) (by kernel_rfl) ?_
          repeat (first | go_big_quiet_step ((first | (go_at_call 25; exact C1.out _) | (go_at_call 27; exact C2.out _) | (go_at_call 29; exact C3.out _) | (go_at_call 31; exact C4.out _))) | quiet_step ((first | (go_at_call 25; exact C1.out _) | (go_at_call 27; exact C2.out _) | (go_at_call 29; exact C3.out _) | (go_at_call 31; exact C4.out _))))
          refine wpQuiet_nil ?_
          intro _ hw'
          obtain ⟨sb, hw''⟩ := hw'
          subst hw''
          clear q3 q4 q5
          have NX := Lib.hid (show WR W sb.val g w1.heap.size none from ⟨sb.r, sb.hD, hg, sb.b⟩)
          go_wp2
          go_roundw
          case rel => exact ⟨j + 1, by omega, by go_num, NX⟩
          case measure => simp [intOf]; omega
        · go_wp2_with (go_at_call 17; refine (told1 _).mono ?_; rintro e w2 ⟨rfl, hb2⟩)
          go_ret
          exact ⟨rfl, HS.out.2.2.2.trans (hb2.mono HS.out.2.2.2.size)⟩
end Go.Proofs.Ytebinhelnhnbeaa
