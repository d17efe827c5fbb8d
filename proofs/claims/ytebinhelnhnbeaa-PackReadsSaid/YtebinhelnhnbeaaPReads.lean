/- The law PackReads, walked. -/
import Derived.Test.YtebinhelnhnbeaaOpenO
import Derived.Test.YtebinhelnhnbeaaTold1
import Derived.Test.YtebinhelnhnbeaaRefR3
set_option linter.unusedSimpArgs false
set_option linter.unusedVariables false
namespace Go.Proofs.Ytebinhelnhnbeaa
open Go.RowKit
theorem rrint_is {p : Nat} {lo hi v : Int} {s s' : Rs} {w : World} (r : RR w p s) (hs : Sh s) (e : rInt lo hi s = (v, s')) :
    Calls Try.prog 26 #[.pointer (some ⟨p, 0, none⟩), .int .i64 lo, .int .i64 hi] w (RRPost w p (.int .i64 v) s') := by
  have := rrint_c p lo hi s w r hs
  rwa [e] at this
theorem rrtext_is {p : Nat} {most : Int} {l : List UInt8} {s s' : Rs} {w : World} (r : RR w p s) (hs : Sh s) (e : rText most s = (l, s')) :
    Calls Try.prog 28 #[.pointer (some ⟨p, 0, none⟩), .int .i64 most] w (RRPost w p (.string ⟨l.toArray⟩) s') := by
  have := rrtext_c p most s w r hs
  rwa [e] at this
theorem rrbyte_is {p : Nat} {v : Int} {s s' : Rs} {w : World} (r : RR w p s) (hs : Sh s) (e : rByte s = (v, s')) :
    Calls Try.prog 30 #[.pointer (some ⟨p, 0, none⟩)] w (RRPost w p (.int .i64 v) s') := by
  have := rrbyte_c p s w r hs
  rwa [e] at this
theorem rrend_is {p : Nat} {v : Int} {s : Rs} {w : World} (r : RR w p s) (e : rEnd s = v) : Calls Try.prog 32 #[.pointer (some ⟨p, 0, none⟩)] w fun e w' => e = .returned (.int .i64 v) ∧ w = w' := by
  have := rrend_c p s w r
  rwa [e] at this
theorem RP.drewR {w : World} {D g : Nat} {s : Rs} (h : RP w D g s) : RP w.drew D g s := h
/-- Two readers of the same: the program's, and the document's. -/
structure RS2 (W wr : World) (g h D : Nat) (s : Rs) : Prop where
  r : RP wr D g s
  x : RR wr h s
  sh : Sh s
  hD : D ≤ wr.heap.size
  gW : W.heap.size ≤ g
  hW : W.heap.size ≤ h
  ne : h ≠ g
  b : Below W.heap.size W wr
theorem RR.blk {w : World} {h : Nat} {s : Rs} (r : RR w h s) : ∃ cs, w.heap[h]? = some (.cells cs 40 (0, 0)) := by obtain ⟨S, b, h1⟩ := r.any_; exact ⟨_, h1⟩
theorem RS2.mid {W wr w2 : World} {g h D : Nat} {s s' : Rs} (H : RS2 W wr g h D s) (g2 : wr.grownBy w2 (some g)) : RR w2 h s ∧ Below W.heap.size W w2 ∧ D ≤ w2.heap.size :=
  ⟨H.x.grown g2 H.ne, H.b.trans (only_lt g2 H.b.size H.gW), Nat.le_trans H.hD g2.size⟩
theorem RS2.next {W wr w2 w3 : World} {g h D : Nat} {s s' : Rs} (H : RS2 W wr g h D s) (q2 : RP w2 D g s') (g2 : wr.grownBy w2 (some g)) (q3 : RR w3 h s') (g3 : w2.grownBy w3 (some h)) (hs : Sh s') : RS2 W w3 g h D s' := by
  obtain ⟨m1, m2, m3⟩ := H.mid (s' := s') g2
  obtain ⟨cs, hb⟩ := m1.blk
  exact ⟨q2.far2 g3 H.ne hb (by decide), q3, hs, Nat.le_trans m3 g3.size, H.gW, H.hW, H.ne, m2.trans (only_lt g3 m2.size H.hW)⟩
/-- The two readers, as the variables have them. -/
def R2At (W : World) (l : List UInt8) (r x : Value) (wx : World) : Prop := ∃ g h D, r = .pointer (some ⟨g, 0, none⟩) ∧ x = .pointer (some ⟨h, 0, none⟩) ∧ RS2 W wx g h D (some l)
set_option maxRecDepth 100000 in
set_option maxHeartbeats 8000000 in
theorem reads_walk (A B : Option Addr) (n c m d : Nat) (l : List UInt8) (os : List OpV) (W : World) (hl : Rd W W.heap.size 1 A n (B8 l)) (hr : RdOps W W.heap.size B m os) (hn : n ≤ maxLen) (hm : m ≤ maxLen) : Calls Try.prog 4 #[.slice A n c, .slice B m d] W fun e w' => e = .returned (.bool true) ∧ Below W.heap.size W w' := by
  replace hn : n ≤ 9223372036854775807 := by unfold maxLen at hn; omega
  replace hm : m ≤ 9223372036854775807 := by unfold maxLen at hm; omega
  have HR := Lib.hid hr
  have HL := Lib.hid hl
  clear hr hl
  by_cases h400 : 400 < n
  · go_enter Try.func4, Try.ntmps4
    go_wp2_with (go_at_call 17; refine (told1 _).mono ?_; rintro e w2 ⟨rfl, hb2⟩)
    go_ret
    exact ⟨rfl, hb2⟩
  by_cases h40 : 40 < m
  · go_enter Try.func4, Try.ntmps4
    go_wp2_with (go_at_call 17; refine (told1 _).mono ?_; rintro e w2 ⟨rfl, hb2⟩)
    go_ret
    exact ⟨rfl, hb2⟩
  have k0 : (convert 24 9 (.slice A n c)).run Try.prog W.drew = .ok (.string ⟨l.toArray⟩) W.drew := run_conv_str (HL.out.drew)
  have HSH : Hid (Sh (some l)) := Lib.hid (fun l' e => by injection e with e; subst e; have := HL.out.1; rw [B8_len] at this; omega)
  go_enter Try.func4, Try.ntmps4
  go_upto_region 3 with fail
  go_cut [5, 6] (fun r x wx => R2At W l r x wx)
  case first =>
    go_region_with ((go_at_call 24; refine (new_c A n c l _ (by first | exact HL.out | exact (HL.out.alloc (Nat.le_refl _) _).more (by simp)) (by omega)).mono ?_; rintro e w1 ⟨g, rfl, hg, q1, b1⟩; have Q1 := Lib.hid q1; (have bb : Below W.heap.size W w1 := Below.trans (by first | exact (Below.refl _ _).drew | exact (Below.refl _ _).drew.alloc (Nat.le_refl _) _) (b1.mono (by simp))); have B1 := Lib.hid bb; have BX := Lib.hid b1; have hz1 := b1.size; have hgl := q1.lt; have k1 : (convert 24 9 (.slice A n c)).run Try.prog w1 = .ok (.string ⟨l.toArray⟩) w1 := run_conv_str (HL.out.below bb); clear q1 b1 bb))
    all_goals
      go_wp2_with fail
      go_meet
    · exact ⟨g, w1.heap.size, w1.heap.size, rfl, rfl, ⟨Q1.out.alloc (Nat.le_refl _) _, ⟨⟨l.toArray⟩, false, heap_alloc_new w1 _, by simp⟩, HSH.out, by simp, hg, B1.out.size, by omega, B1.out.alloc B1.out.size _⟩⟩
    · exact ⟨g, w1.heap.size, w1.heap.size, rfl, rfl, ⟨Q1.out.alloc (Nat.le_refl _) _, ⟨⟨l.toArray⟩, false, heap_alloc_new w1 _, by simp⟩, HSH.out, by simp, hg, B1.out.size, by omega, B1.out.alloc B1.out.size _⟩⟩
    · have hg' : W.heap.size + 1 ≤ g := by have : ((W.alloc (.cells #[.string ⟨l.toArray⟩, .bool false] 40)).drew).heap.size = W.heap.size + 1 := by simp
                                           omega
      exact ⟨g, W.heap.size, w1.heap.size, rfl, rfl, ⟨Q1.out, ⟨⟨l.toArray⟩, false, (BX.out.block W.heap.size (by simp)).trans (heap_alloc_new W _), by simp⟩, HSH.out, Nat.le_refl _, by omega, Nat.le_refl _, by omega, B1.out⟩⟩
  case rest =>
    clear k0 HSH
    obtain ⟨g, h, D, rfl, rfl, hrs⟩ := hcut
    have HRS0 := Lib.hid hrs
    clear hrs
    go_wp2
    go_loopw [7] (fun i wr => ∃ k : Nat, k ≤ m ∧ i = .int .i64 k ∧ Hid (∃ s, RS2 W wr g h D s)) (fun i _ => m - (intOf i).toNat)
    case atStart => exact ⟨0, by omega, rfl, _, HRS0.out⟩
    case round =>
      clear HRS0
      obtain ⟨k, hk, rfl, HS⟩ := hrel
      obtain ⟨s, hrs⟩ := HS.out
      have HRS := Lib.hid hrs
      have hgW := hrs.gW
      have hhW := hrs.hW
      have hzW := hrs.b.size
      clear hrs HS
      by_cases hlt : k < m
      · obtain ⟨ad, o, rfl, hadb, ho, hfit, hat⟩ := HR.out.at_ hlt
        obtain ⟨c0, c1, c2, c3, c4, c5⟩ := hat.below HRS.out.b hadb
        clear hat ho hfit
        obtain ⟨kd, nn, st, lo, hi, most⟩ := o
        simp only at c0 c1 c2 c3 c4 c5
        by_cases hk0 : kd = 0
        · have e0 : (kd == 0) = true := beq_iff_eq.2 hk0
          clear hk0
          have hsh := HRS.out.sh.int lo hi
          obtain ⟨v, s', hx⟩ : ∃ v s', rInt lo hi s = (v, s') := ⟨_, _, rfl⟩
          rw [hx] at hsh
          have HX := Lib.hid hx
          have HSH := Lib.hid hsh
          have HDD := Lib.hid (show D ≤ wr.drew.heap.size from HRS.out.hD)
          clear hx hsh
          go_wp2
          go_region_held3 (fun w' => w'.cell? ⟨(ad.add (k * 6)).block, (ad.add (k * 6)).off + 3, none⟩ = some (.int .i64 lo) ∧ w'.cell? ⟨(ad.add (k * 6)).block, (ad.add (k * 6)).off + 4, none⟩ = some (.int .i64 hi)) (first | exact ⟨e3, e4⟩ | exact ⟨d3, d4⟩ | go_keep) ((first | (go_at_call 25; (with_reducible refine (rint_is HRS.out.r.drewR HDD.out HX.out).mono ?_); rintro e w4 ⟨rfl, q4, g4'⟩; (have g4 : wr.grownBy w4 (some g) := ⟨g4'.os, g4'.tape, g4'.output, g4'.size, g4'.block⟩); (have bq : Below W.heap.size wr w4 := only_lt g4 hzW hgW); have Q4 := Lib.hid q4; have G4 := Lib.hid g4; (have X4 := Lib.hid (HRS.out.mid (s' := s') g4).1); (have hz4 : W.heap.size ≤ w4.heap.size := Nat.le_trans hzW g4.size); (have d3 : w4.cell? ⟨(ad.add (k * 6)).block, (ad.add (k * 6)).off + 3, none⟩ = some (.int .i64 lo) := (bq.cell (p := ⟨(ad.add (k * 6)).block, (ad.add (k * 6)).off + 3, none⟩) hadb).trans c3); (have d4 : w4.cell? ⟨(ad.add (k * 6)).block, (ad.add (k * 6)).off + 4, none⟩ = some (.int .i64 hi) := (bq.cell (p := ⟨(ad.add (k * 6)).block, (ad.add (k * 6)).off + 4, none⟩) hadb).trans c4); clear q4 g4 g4' bq) | (go_at_call 26; (with_reducible refine (rrint_is X4.out HRS.out.sh HX.out).mono ?_); rintro e w5 ⟨rfl, q5, g5⟩; (have bq5 : Below W.heap.size w4 w5 := only_lt g5 hz4 hhW); (have HNEW := Lib.hid (HRS.out.next Q4.out G4.out q5 g5 HSH.out)); (have e3 : w5.cell? ⟨(ad.add (k * 6)).block, (ad.add (k * 6)).off + 3, none⟩ = some (.int .i64 lo) := (bq5.cell (p := ⟨(ad.add (k * 6)).block, (ad.add (k * 6)).off + 3, none⟩) hadb).trans d3); (have e4 : w5.cell? ⟨(ad.add (k * 6)).block, (ad.add (k * 6)).off + 4, none⟩ = some (.int .i64 hi) := (bq5.cell (p := ⟨(ad.add (k * 6)).block, (ad.add (k * 6)).off + 4, none⟩) hadb).trans d4); clear q5 g5 bq5)))
          go_wp2
          go_roundw
          case rel => exact ⟨k + 1, by omega, by go_num, _, HNEW.out⟩
          case measure => simp [intOf]; omega
        by_cases hk1 : kd = 1
        · have e0 : (kd == 0) = false := beq_eq_false_iff_ne.2 hk0
          have e1 : (kd == 1) = true := beq_iff_eq.2 hk1
          clear hk0 hk1
          have hsh := HRS.out.sh.text most
          obtain ⟨v, s', hx⟩ : ∃ v s', rText most s = (v, s') := ⟨_, _, rfl⟩
          rw [hx] at hsh
          have HX := Lib.hid hx
          have HSH := Lib.hid hsh
          have HDD := Lib.hid (show D ≤ wr.drew.heap.size from HRS.out.hD)
          clear hx hsh
          go_wp2
          go_region_held3 (fun w' => w'.cell? ⟨(ad.add (k * 6)).block, (ad.add (k * 6)).off + 5, none⟩ = some (.int .i64 most)) (first | exact e5 | exact d5 | go_keep) ((first | (go_at_call 27; (with_reducible refine (rtext_is HRS.out.r.drewR HDD.out HX.out).mono ?_); rintro e w4 ⟨rfl, q4, g4'⟩; (have g4 : wr.grownBy w4 (some g) := ⟨g4'.os, g4'.tape, g4'.output, g4'.size, g4'.block⟩); (have bq : Below W.heap.size wr w4 := only_lt g4 hzW hgW); have Q4 := Lib.hid q4; have G4 := Lib.hid g4; (have X4 := Lib.hid (HRS.out.mid (s' := s') g4).1); (have hz4 : W.heap.size ≤ w4.heap.size := Nat.le_trans hzW g4.size); (have d5 : w4.cell? ⟨(ad.add (k * 6)).block, (ad.add (k * 6)).off + 5, none⟩ = some (.int .i64 most) := (bq.cell (p := ⟨(ad.add (k * 6)).block, (ad.add (k * 6)).off + 5, none⟩) hadb).trans c5); clear q4 g4 g4' bq) | (go_at_call 28; (with_reducible refine (rrtext_is X4.out HRS.out.sh HX.out).mono ?_); rintro e w5 ⟨rfl, q5, g5⟩; (have bq5 : Below W.heap.size w4 w5 := only_lt g5 hz4 hhW); (have HNEW := Lib.hid (HRS.out.next Q4.out G4.out q5 g5 HSH.out)); (have e5 : w5.cell? ⟨(ad.add (k * 6)).block, (ad.add (k * 6)).off + 5, none⟩ = some (.int .i64 most) := (bq5.cell (p := ⟨(ad.add (k * 6)).block, (ad.add (k * 6)).off + 5, none⟩) hadb).trans d5); clear q5 g5 bq5)))
          go_wp2
          go_roundw
          case rel => exact ⟨k + 1, by omega, by go_num, _, HNEW.out⟩
          case measure => simp [intOf]; omega
        by_cases hk2 : kd = 2
        · have e0 : (kd == 0) = false := beq_eq_false_iff_ne.2 hk0
          have e1 : (kd == 1) = false := beq_eq_false_iff_ne.2 hk1
          have e2 : (kd == 2) = true := beq_iff_eq.2 hk2
          clear hk0 hk1 hk2
          have hsh := HRS.out.sh.byte
          obtain ⟨v, s', hx⟩ : ∃ v s', rByte s = (v, s') := ⟨_, _, rfl⟩
          rw [hx] at hsh
          have HX := Lib.hid hx
          have HSH := Lib.hid hsh
          clear hx hsh
          go_wp2_with fail
          refine (rbyte_is HRS.out.r HX.out).mono ?_
          rintro e w4 ⟨rfl, q4, g4⟩
          have Q4 := Lib.hid q4
          have G4 := Lib.hid g4
          have X4 := Lib.hid (HRS.out.mid (s' := s') g4).1
          clear q4 g4 c0 c1 c2 c3 c4 c5
          go_wp2_with fail
          refine (rrbyte_is X4.out HRS.out.sh HX.out).mono ?_
          rintro e w5 ⟨rfl, q5, g5⟩
          have HNEW := Lib.hid (HRS.out.next Q4.out G4.out q5 g5 HSH.out)
          clear q5 g5
          go_wp2
          go_roundw
          case rel => exact ⟨k + 1, by omega, by go_num, _, HNEW.out⟩
          case measure => simp [intOf]; omega
        · have e0 : (kd == 0) = false := beq_eq_false_iff_ne.2 hk0
          have e1 : (kd == 1) = false := beq_eq_false_iff_ne.2 hk1
          have e2 : (kd == 2) = false := beq_eq_false_iff_ne.2 hk2
          have HNEW := HRS
          clear hk0 hk1 hk2
          go_wp2_with fail
          refine (rend_is HNEW.out.r rfl).mono ?_
          rintro e w' ⟨rfl, rfl⟩
          go_wp2_with fail
          refine (rrend_is HNEW.out.x rfl).mono ?_
          rintro e w' ⟨rfl, rfl⟩
          go_wp2
          go_roundw
          case rel => exact ⟨k + 1, by omega, by go_num, _, HNEW.out⟩
          case measure => simp [intOf]; omega
      · go_wp2_with fail
        refine (told1 _).mono ?_
        rintro e w2 ⟨rfl, b2⟩
        have Q2 := Lib.hid (HRS.out.r.below (b2.mono HRS.out.hD))
        have X2 := Lib.hid (HRS.out.x.below b2 HRS.out.x.lt)
        have B2 := Lib.hid (HRS.out.b.trans (b2.mono HRS.out.b.size))
        clear b2
        go_wp2_with fail
        refine (rend_is Q2.out rfl).mono ?_
        rintro e w' ⟨rfl, rfl⟩
        go_wp2_with fail
        refine (rrend_is X2.out rfl).mono ?_
        rintro e w' ⟨rfl, rfl⟩
        go_wp2
        go_ret
        exact ⟨rfl, B2.out⟩
end Go.Proofs.Ytebinhelnhnbeaa
