/- The law PlanBack, walked. -/
import Derived.Test.YtblpkcoapbkppaaPlanBack0
import Derived.Test.YtblpkcoapbkppaaPlanTold
import Derived.Outline
set_option linter.unusedSimpArgs false
set_option linter.unusedVariables false
namespace Go.Proofs.Ytblpkcoapbkppaa
open Go.RowKit
theorem mayHold (x : W7) (h : MayW x) (u : Int) (h0 : 0 < u) (h1 : u ≤ 1000) : MayO ⟨1, x.b, u, 0, 0⟩ := ⟨(by decide : (1 : Int) ≤ 1 ∧ (1 : Int) ≤ 6), h.2.2.1, .inl ⟨rfl, by show 1 ≤ u; omega, h1⟩, .inr ⟨(by decide : (1 : Int) ≠ 4), rfl, rfl⟩⟩
theorem mayAuth (x : W7) (h : MayW x) : MayO ⟨4, x.b, 0, x.c, x.p⟩ := ⟨(by decide : (1 : Int) ≤ 4 ∧ (4 : Int) ≤ 6), h.2.2.1, .inr ⟨(by decide : (4 : Int) ≠ 1), rfl⟩, .inl ⟨rfl, h.2.2.2.1.1, h.2.2.2.1.2, h.2.2.2.2.2.1, h.2.2.2.2.2.2⟩⟩
theorem mayPlain (x : W7) (h : MayW x) (k : Int) (h0 : k = 2 ∨ k = 3 ∨ k = 5 ∨ k = 6) : MayO ⟨k, x.b, 0, 0, 0⟩ := ⟨⟨by show 1 ≤ k; omega, by show k ≤ 6; omega⟩, h.2.2.1, .inr ⟨by show k ≠ 1; omega, rfl⟩, .inr ⟨by show k ≠ 4; omega, rfl, rfl⟩⟩
set_option maxRecDepth 100000 in
set_option maxHeartbeats 16000000 in
theorem back_walk (x : W7) (w : World) : Calls Try.prog 10 #[x.val] w fun e w' => e = .returned (.bool true) ∧ Below w.heap.size w w' := by
  by_cases hm : ¬ MayW x
  · have HM := Lib.hid (rmay_is x false (decide_eq_false hm))
    clear hm
    unfold W7.val at *
    go_enter Try.func10, Try.ntmps10
    go_wp2_with fail
    refine (HM.out _).mono ?_
    rintro e w0 ⟨rfl, hB⟩
    have BB : CH w x w0 := CH.next (Below.refl _ _ : CH w x (bxW w x)) hB
    clear hB
    go_wp2_with fail
    refine (told14 _).mono ?_
    rintro e w1 ⟨rfl, hB⟩
    have BB2 := CH.next BB hB
    clear hB
    go_wp2
    go_ret
    exact ⟨rfl, (bxW_of BB2).2.1⟩
  replace hm : MayW x := Decidable.not_not.1 hm
  have HM := Lib.hid (rmay_is x true (decide_eq_true hm))
  have FC := Lib.hid (forward_c x)
  have KC := Lib.hid (back_c x)
  have CC := Lib.hid (capture_c x)
  have hca : captureA x = ⟨3, 5, x.b, 0, 0, 0⟩ := if_pos hm
  rw [hca] at CC
  have FM := Lib.hid (fwd_mem x hm)
  have KM := Lib.hid (bck_mem x hm)
  have BF := Lib.hid (back_facts x hm)
  have MW := Lib.hid hm
  have nF := fwd_le x
  have nK := bck_le x
  generalize forwardL x = fl at *
  generalize backL x = bl at *
  clear hm hca
  unfold W7.val at *
  go_enter Try.func10, Try.ntmps10
  go_wp2_with fail
  refine (HM.out _).mono ?_
  rintro e w0 ⟨rfl, hB⟩
  have BB : CH w x w0 := CH.next (Below.refl _ _ : CH w x (bxW w x)) hB
  obtain ⟨c0, c1, c2, c3, c4, c5, c6⟩ := CH.cells BB
  clear hB
  go_wp2
  go_region_held3 (fun w' => w'.cell? ⟨w.heap.size, 0, none⟩ = some (.int .i64 x.b) ∧ w'.cell? ⟨w.heap.size, 1, none⟩ = some (.int .i64 x.c) ∧ w'.cell? ⟨w.heap.size, 2, none⟩ = some (.int .i64 x.d) ∧ w'.cell? ⟨w.heap.size, 3, none⟩ = some (.int .i64 x.m0) ∧ w'.cell? ⟨w.heap.size, 4, none⟩ = some (.int .i64 x.m1) ∧ w'.cell? ⟨w.heap.size, 5, none⟩ = some (.int .i64 x.m2) ∧ w'.cell? ⟨w.heap.size, 6, none⟩ = some (.int .i64 x.p)) (first | go_keep | exact CH.cells BB) (first | (go_at_call 29; refine (FC.out _).mono ?_; rintro e w1 ⟨v1, rfl, HF, hB⟩; obtain ⟨AF, cF, rfl, hcF, hmF, rF⟩ := OA.rd HF; have RF := Lib.hid rF; have RFz := hB.size; (first | replace BB := CH.next BB hB | replace BB := CH.next (Below.drew BB) hB); clear hB HF rF) | (go_at_call 31; refine (KC.out _).mono ?_; rintro e w2 ⟨v2, rfl, HK, hB⟩; obtain ⟨AK, cK, rfl, hcK, hmK, rK⟩ := OA.rd HK; have RK := Lib.hid rK; have RF2 := Lib.hid (Rd.more (Rd.below RF.out hB) hB.size); (first | replace BB := CH.next BB hB | replace BB := CH.next (Below.drew BB) hB); clear hB HK rK))
  obtain ⟨b0, b1, b2, b3, b4, b5, b6⟩ := CH.cells BB
  have hz2 : w.heap.size + 1 ≤ w2.heap.size := (bxW_of BB).2.2
  have BBh := Lib.hid BB
  clear BB c0 c1 c2 c3 c4 c5 c6 RF RFz
  go_wp2
  go_loopw [5, 6] (fun o i wr => ∃ (k m c : Nat) (A : Option Addr), k ≤ fl.length ∧ i = .int .i64 k ∧ o = .slice A m c ∧ m ≤ k ∧ Hid (ON wr w2.heap.size (.slice A m c) (firstN (fl.take k)) ∧ Below w2.heap.size w2 wr)) (fun _ i _ => fl.length - (intOf i).toNat)
  case atStart => exact ⟨0, 0, 0, none, by omega, rfl, rfl, by omega, Lib.hid ⟨World.ownsRow_nil _ _ _ _, Below.refl _ _⟩⟩
  case round =>
    obtain ⟨k, m, c, A, hk, rfl, rfl, hmk, HO⟩ := hrel
    have hzr := HO.out.2.size
    have HB := Lib.hid HO.out.2
    have HN := Lib.hid HO.out.1
    have HL := Lib.hid (show (firstN (fl.take k)).length = m from by obtain ⟨A2, c2, e, _⟩ := own_form HO.out.1; injection e with _ e2 _; exact e2.symm)
    clear HO
    by_cases hlt : k < fl.length
    · obtain ⟨ad, a, rfl, _, ha, hca⟩ := (RF2.out.below HB.out).ask hlt
      have HT := Lib.hid (show fl.take (k + 1) = fl.take k ++ [a] from by rw [List.getElem?_eq_getElem hlt] at ha; cases ha; exact List.take_succ_eq_append_getElem hlt)
      have hbk : ∀ s : BW wr.heap.size wr, s.val.cell? ⟨w.heap.size, 0, none⟩ = some (.int .i64 x.b) := BW.cell (bcell HB.out b0 (cell_in b0)) (by have := cell_in b0; show w.heap.size < _; omega)
      rcases FM.out a (List.mem_of_getElem? ha) with ⟨j, hj, hu0, hu1, rfl⟩ | rfl | ⟨j, hj, hu0, rfl⟩
      · have OC := Lib.hid (rmayop_is ⟨1, x.b, x.u j, 0, 0⟩ true (decide_eq_true (mayHold x MW.out _ hu0 hu1)))
        have j3 : ((j : Int) == 3) = false := beq_eq_false_iff_ne.2 (by omega)
        have HJ := Lib.hid hj
        obtain ⟨uu, huu⟩ : ∃ uu, x.u j = uu := ⟨_, rfl⟩
        rw [huu] at hca OC
        clear huu hu0 hu1
        have p0 : ∀ s : BW wr.heap.size wr, s.val.cell? (ad.add (k * 6)) = some (.int .i64 j) := fun s => (hca.bw s).c0
        have p1 : ∀ s : BW wr.heap.size wr, s.val.cell? ⟨(ad.add (k * 6)).block, (ad.add (k * 6)).off + 1, none⟩ = some (.int .i64 1) := fun s => (hca.bw s).c1
        have p2 : ∀ s : BW wr.heap.size wr, s.val.cell? ⟨(ad.add (k * 6)).block, (ad.add (k * 6)).off + 1 + 1, none⟩ = some (.int .i64 x.b) := fun s => (hca.bw s).c2
        have p3 : ∀ s : BW wr.heap.size wr, s.val.cell? ⟨(ad.add (k * 6)).block, (ad.add (k * 6)).off + 1 + 2, none⟩ = some (.int .i64 uu) := fun s => (hca.bw s).c3
        have p4 : ∀ s : BW wr.heap.size wr, s.val.cell? ⟨(ad.add (k * 6)).block, (ad.add (k * 6)).off + 1 + 3, none⟩ = some (.int .i64 0) := fun s => (hca.bw s).c4
        have p5 : ∀ s : BW wr.heap.size wr, s.val.cell? ⟨(ad.add (k * 6)).block, (ad.add (k * 6)).off + 1 + 4, none⟩ = some (.int .i64 0) := fun s => (hca.bw s).c5
        clear ha hca hj
        unfold O5.val at OC
        go_wp2_with fail
        refine wp_region_below (wr.heap.size) (by kernel_rfl) (by kernel_rfl) ?_
        repeat (first | go_big_quiet_step (((go_at_call 36; exact BW.call (Nat.le_refl _) (OC.out _)))) | quiet_step (((go_at_call 36; exact BW.call (Nat.le_refl _) (OC.out _)))))
        refine wpQuiet_nil ?_
        intro _ hw'
        obtain ⟨sb, hw''⟩ := hw'
        subst hw''
        have HBs := Lib.hid (HB.out.trans (sb.h.mono HB.out.size))
        have HNs := Lib.hid (own_below HN.out sb.h (Nat.le_refl _))
        go_wp2_with (at_builtin; refine wpl_appS rfl (.tmp 64) (.tmp 70) 50 3 (.int .i64 0) 1 8 (by kernel_rfl) info_int rfl (by omega) rfl w2.heap.size _ _ _ rfl (own_alloc HNs.out _) _ _ 1 1 _ rfl (rd_new sb.val #[.int .i64 j] _ _ 1 1 rfl) (fun u hu => by simp at hu; subst hu; rfl) ?_ ?_ ?_ ?_)
        · rw [HL.out]; omega
        · omega
        · have := sb.h.size; simp; omega
        intro v3 w3 h3 g3 _
        obtain ⟨A3, c3', hv3, _, _, _⟩ := own_form h3
        rw [HL.out] at hv3
        subst hv3
        have HB3 := Lib.hid (Below.grown (Below.alloc HBs.out (by have := sb.h.size; omega) _) g3 (by have := sb.h.size; simp; omega) (own_base HNs.out))
        have H3 := Lib.hid h3
        clear h3 g3
        go_wp2
        go_roundw
        case rel => exact ⟨k + 1, _, c3', A3, by omega, by go_num, rfl, by omega, Lib.hid ⟨by rw [HT.out, firstN_yes _ _ (by simp)]; unfold ON; rw [NC_app]; simpa [NC, HL.out] using H3.out, HB3.out⟩⟩
        case measure => simp [intOf]; omega
      · have OC := Lib.hid (rmayop_is ⟨4, x.b, 0, x.c, x.p⟩ true (decide_eq_true (mayAuth x MW.out)))
        have p0 : ∀ s : BW wr.heap.size wr, s.val.cell? (ad.add (k * 6)) = some (.int .i64 3) := fun s => (hca.bw s).c0
        have p1 : ∀ s : BW wr.heap.size wr, s.val.cell? ⟨(ad.add (k * 6)).block, (ad.add (k * 6)).off + 1, none⟩ = some (.int .i64 4) := fun s => (hca.bw s).c1
        have p2 : ∀ s : BW wr.heap.size wr, s.val.cell? ⟨(ad.add (k * 6)).block, (ad.add (k * 6)).off + 1 + 1, none⟩ = some (.int .i64 x.b) := fun s => (hca.bw s).c2
        have p3 : ∀ s : BW wr.heap.size wr, s.val.cell? ⟨(ad.add (k * 6)).block, (ad.add (k * 6)).off + 1 + 2, none⟩ = some (.int .i64 0) := fun s => (hca.bw s).c3
        have p4 : ∀ s : BW wr.heap.size wr, s.val.cell? ⟨(ad.add (k * 6)).block, (ad.add (k * 6)).off + 1 + 3, none⟩ = some (.int .i64 x.c) := fun s => (hca.bw s).c4
        have p5 : ∀ s : BW wr.heap.size wr, s.val.cell? ⟨(ad.add (k * 6)).block, (ad.add (k * 6)).off + 1 + 4, none⟩ = some (.int .i64 x.p) := fun s => (hca.bw s).c5
        clear ha hca
        unfold O5.val at OC
        go_wp2_with fail
        refine wp_region_below (wr.heap.size) (by kernel_rfl) (by kernel_rfl) ?_
        repeat (first | go_big_quiet_step (((go_at_call 36; exact BW.call (Nat.le_refl _) (OC.out _)))) | quiet_step (((go_at_call 36; exact BW.call (Nat.le_refl _) (OC.out _)))))
        refine wpQuiet_nil ?_
        intro _ hw'
        obtain ⟨sb, hw''⟩ := hw'
        subst hw''
        have HBs := Lib.hid (HB.out.trans (sb.h.mono HB.out.size))
        have HNs := Lib.hid (own_below HN.out sb.h (Nat.le_refl _))
        go_wp2_with (at_builtin; refine wpl_appS rfl (.tmp 64) (.tmp 70) 50 3 (.int .i64 0) 1 8 (by kernel_rfl) info_int rfl (by omega) rfl w2.heap.size _ _ _ rfl (own_alloc HNs.out _) _ _ 1 1 _ rfl (rd_new sb.val #[.int .i64 3] _ _ 1 1 rfl) (fun u hu => by simp at hu; subst hu; rfl) ?_ ?_ ?_ ?_)
        · rw [HL.out]; omega
        · omega
        · have := sb.h.size; simp; omega
        intro v3 w3 h3 g3 _
        obtain ⟨A3, c3', hv3, _, _, _⟩ := own_form h3
        rw [HL.out] at hv3
        subst hv3
        have HB3 := Lib.hid (Below.grown (Below.alloc HBs.out (by have := sb.h.size; omega) _) g3 (by have := sb.h.size; simp; omega) (own_base HNs.out))
        have H3 := Lib.hid h3
        clear h3 g3
        go_wp2
        go_roundw
        case rel => exact ⟨k + 1, _, c3', A3, by omega, by go_num, rfl, by omega, Lib.hid ⟨by rw [HT.out, firstN_yes _ _ (by simp)]; unfold ON; rw [NC_app]; simpa [NC, HL.out] using H3.out, HB3.out⟩⟩
        case measure => simp [intOf]; omega
      · have OC := Lib.hid (rmayop_is ⟨2, x.b, 0, 0, 0⟩ true (decide_eq_true (mayPlain x MW.out 2 (by omega))))
        have j3 : ((j : Int) == 3) = false := beq_eq_false_iff_ne.2 (by omega)
        have HJ := Lib.hid hj
        clear hu0
        have p0 : ∀ s : BW wr.heap.size wr, s.val.cell? (ad.add (k * 6)) = some (.int .i64 j) := fun s => (hca.bw s).c0
        have p1 : ∀ s : BW wr.heap.size wr, s.val.cell? ⟨(ad.add (k * 6)).block, (ad.add (k * 6)).off + 1, none⟩ = some (.int .i64 2) := fun s => (hca.bw s).c1
        have p2 : ∀ s : BW wr.heap.size wr, s.val.cell? ⟨(ad.add (k * 6)).block, (ad.add (k * 6)).off + 1 + 1, none⟩ = some (.int .i64 x.b) := fun s => (hca.bw s).c2
        have p3 : ∀ s : BW wr.heap.size wr, s.val.cell? ⟨(ad.add (k * 6)).block, (ad.add (k * 6)).off + 1 + 2, none⟩ = some (.int .i64 0) := fun s => (hca.bw s).c3
        have p4 : ∀ s : BW wr.heap.size wr, s.val.cell? ⟨(ad.add (k * 6)).block, (ad.add (k * 6)).off + 1 + 3, none⟩ = some (.int .i64 0) := fun s => (hca.bw s).c4
        have p5 : ∀ s : BW wr.heap.size wr, s.val.cell? ⟨(ad.add (k * 6)).block, (ad.add (k * 6)).off + 1 + 4, none⟩ = some (.int .i64 0) := fun s => (hca.bw s).c5
        clear ha hca hj
        unfold O5.val at OC
        go_wp2_with fail
        refine wp_region_below (wr.heap.size) (by kernel_rfl) (by kernel_rfl) ?_
        repeat (first | go_big_quiet_step (((go_at_call 36; exact BW.call (Nat.le_refl _) (OC.out _)))) | quiet_step (((go_at_call 36; exact BW.call (Nat.le_refl _) (OC.out _)))))
        refine wpQuiet_nil ?_
        intro _ hw'
        obtain ⟨sb, hw''⟩ := hw'
        subst hw''
        go_wp2
        go_roundw
        case rel => exact ⟨k + 1, m, c, A, by omega, by go_num, rfl, by omega, Lib.hid ⟨by rw [HT.out, firstN_no _ _ rfl]; exact own_below HN.out sb.h (Nat.le_refl _), HB.out.trans (sb.h.mono HB.out.size)⟩⟩
        case measure => simp [intOf]; omega
    · obtain rfl : k = fl.length := by omega
      obtain ⟨bf1, bf2, bf3⟩ := BF.out
      have hm2 : m = bl.length := by have := HL.out; rw [List.take_length] at this; omega
      subst hm2
      have BF3 := Lib.hid bf3
      have HN2 := Lib.hid (show ON wr w2.heap.size (.slice A bl.length c) (firstN fl) from by have := HN.out; rw [List.take_length] at this; exact this)
      have n1 : 1 ≤ bl.length := by omega
      have hfl : (fl.length : Int) = 2 * (bl.length : Int) - 1 := by omega
      have hflb : ((fl.length : Int) != 2 * (bl.length : Int) - 1) = false := by rw [hfl]; simp
      have HFL := Lib.hid hfl
      clear bf1 bf2 bf3 HL hfl HN
      obtain ⟨wo, hwo⟩ : ∃ wo : World, wo = wr := ⟨_, rfl⟩
      rw [← hwo] at HB HN2 hzr ⊢
      clear hwo
      go_wp2
      clear hflb
      go_loopw [7] (fun i wr => ∃ (k : Nat), k ≤ bl.length ∧ i = .int .i64 k ∧ Hid (Below wo.heap.size wo wr)) (fun i _ => bl.length - (intOf i).toNat)
      case atStart => exact ⟨0, by omega, rfl, Lib.hid (Below.refl _ _)⟩
      case round =>
        obtain ⟨k, hk, rfl, HO⟩ := hrel
        have hzo := HO.out.size
        have HW := Lib.hid (HB.out.trans (HO.out.mono hzr))
        by_cases hlt : k < bl.length
        · obtain ⟨ad, a, rfl, _, ha, hca⟩ := (RK.out.below HW.out).ask hlt
          have hnode := BF3.out k a ha
          obtain ⟨A', c', e, _, _, rN⟩ := own_form (own_below HN2.out HO.out (Nat.le_refl _))
          injection e with e1 e2 e3
          subst e1 e3
          obtain ⟨nd, hx, rfl, _, hcell⟩ := Rd.int rN (k := bl.length - 1 - k) (by rw [← e2]; omega)
          rw [List.getElem?_eq_getElem hx] at hnode
          injection hnode with hnode
          rw [hnode] at hcell
          obtain ⟨m1, hm1⟩ : ∃ m1 : Nat, m1 = bl.length - 1 := ⟨_, rfl⟩
          obtain ⟨m2, hm2⟩ : ∃ m2 : Nat, m2 = bl.length - 1 - k := ⟨_, rfl⟩
          rw [← hm2] at hcell
          have s1 : IntKind.i64.wrap ((bl.length : Int) - 1) = (m1 : Int) := by rw [hm1, IntWalk.i64_in _ (by omega)]; omega
          have s2 : IntKind.i64.wrap ((m1 : Int) - (k : Int)) = (m2 : Int) := by rw [hm1, hm2, IntWalk.i64_in _ (by omega)]; omega
          have s3 : m2 < bl.length := by omega
          have hbk : ∀ s : BW wr.heap.size wr, s.val.cell? ⟨w.heap.size, 0, none⟩ = some (.int .i64 x.b) := BW.cell (bcell HW.out b0 (cell_in b0)) (by have := cell_in b0; show w.heap.size < _; have := HW.out.size; omega)
          have hnd : ∀ s : BW wr.heap.size wr, s.val.cell? (nd.add m2) = some (.int .i64 a.node) := BW.cell hcell (cell_in hcell)
          have e2' := Lib.hid e2
          clear hm1 hm2 hnode hcell rN e2 hx
          rcases KM.out a (List.mem_of_getElem? ha) with rfl | ⟨j, hj, rfl⟩
          · have OC := Lib.hid (rmayop_is ⟨6, x.b, 0, 0, 0⟩ true (decide_eq_true (mayPlain x MW.out 6 (by omega))))
            have p0 : ∀ s : BW wr.heap.size wr, s.val.cell? (ad.add (k * 6)) = some (.int .i64 3) := fun s => (hca.bw s).c0
            have p1 : ∀ s : BW wr.heap.size wr, s.val.cell? ⟨(ad.add (k * 6)).block, (ad.add (k * 6)).off + 1, none⟩ = some (.int .i64 6) := fun s => (hca.bw s).c1
            have p2 : ∀ s : BW wr.heap.size wr, s.val.cell? ⟨(ad.add (k * 6)).block, (ad.add (k * 6)).off + 1 + 1, none⟩ = some (.int .i64 x.b) := fun s => (hca.bw s).c2
            have p3 : ∀ s : BW wr.heap.size wr, s.val.cell? ⟨(ad.add (k * 6)).block, (ad.add (k * 6)).off + 1 + 2, none⟩ = some (.int .i64 0) := fun s => (hca.bw s).c3
            have p4 : ∀ s : BW wr.heap.size wr, s.val.cell? ⟨(ad.add (k * 6)).block, (ad.add (k * 6)).off + 1 + 3, none⟩ = some (.int .i64 0) := fun s => (hca.bw s).c4
            have p5 : ∀ s : BW wr.heap.size wr, s.val.cell? ⟨(ad.add (k * 6)).block, (ad.add (k * 6)).off + 1 + 4, none⟩ = some (.int .i64 0) := fun s => (hca.bw s).c5
            simp only at hnd
            clear ha hca
            unfold O5.val at OC
            go_wp2_with fail
            refine wp_region_below (wr.heap.size) (by kernel_rfl) (by kernel_rfl) ?_
            repeat (first | go_big_quiet_step (((go_at_call 36; exact BW.call (Nat.le_refl _) (OC.out _)))) | quiet_step (((go_at_call 36; exact BW.call (Nat.le_refl _) (OC.out _)))))
            refine wpQuiet_nil ?_
            intro _ hw'
            obtain ⟨sb, hw''⟩ := hw'
            subst hw''
            clear s1 s2 s3
            go_wp2
            go_roundw
            case rel => exact ⟨k + 1, by omega, by go_num, Lib.hid (HO.out.trans (sb.h.mono HO.out.size))⟩
            case measure => simp [intOf]; omega
          · have OC := Lib.hid (rmayop_is ⟨3, x.b, 0, 0, 0⟩ true (decide_eq_true (mayPlain x MW.out 3 (by omega))))
            have p0 : ∀ s : BW wr.heap.size wr, s.val.cell? (ad.add (k * 6)) = some (.int .i64 j) := fun s => (hca.bw s).c0
            have p1 : ∀ s : BW wr.heap.size wr, s.val.cell? ⟨(ad.add (k * 6)).block, (ad.add (k * 6)).off + 1, none⟩ = some (.int .i64 3) := fun s => (hca.bw s).c1
            have p2 : ∀ s : BW wr.heap.size wr, s.val.cell? ⟨(ad.add (k * 6)).block, (ad.add (k * 6)).off + 1 + 1, none⟩ = some (.int .i64 x.b) := fun s => (hca.bw s).c2
            have p3 : ∀ s : BW wr.heap.size wr, s.val.cell? ⟨(ad.add (k * 6)).block, (ad.add (k * 6)).off + 1 + 2, none⟩ = some (.int .i64 0) := fun s => (hca.bw s).c3
            have p4 : ∀ s : BW wr.heap.size wr, s.val.cell? ⟨(ad.add (k * 6)).block, (ad.add (k * 6)).off + 1 + 3, none⟩ = some (.int .i64 0) := fun s => (hca.bw s).c4
            have p5 : ∀ s : BW wr.heap.size wr, s.val.cell? ⟨(ad.add (k * 6)).block, (ad.add (k * 6)).off + 1 + 4, none⟩ = some (.int .i64 0) := fun s => (hca.bw s).c5
            simp only at hnd
            clear ha hca hj
            unfold O5.val at OC
            go_wp2_with fail
            refine wp_region_below (wr.heap.size) (by kernel_rfl) (by kernel_rfl) ?_
            repeat (first | go_big_quiet_step (((go_at_call 36; exact BW.call (Nat.le_refl _) (OC.out _)))) | quiet_step (((go_at_call 36; exact BW.call (Nat.le_refl _) (OC.out _)))))
            refine wpQuiet_nil ?_
            intro _ hw'
            obtain ⟨sb, hw''⟩ := hw'
            subst hw''
            clear s1 s2 s3
            go_wp2
            go_roundw
            case rel => exact ⟨k + 1, by omega, by go_num, Lib.hid (HO.out.trans (sb.h.mono HO.out.size))⟩
            case measure => simp [intOf]; omega
        · obtain rfl : k = bl.length := by omega
          obtain ⟨z0, z1, z2, z3, z4, z5, z6⟩ := (CH.cells (show CH w x w2 from BBh.out)) 
          have y0 := bcell HW.out z0 (cell_in z0)
          have y1 := bcell HW.out z1 (cell_in z1)
          have y2 := bcell HW.out z2 (cell_in z2)
          have y3 := bcell HW.out z3 (cell_in z3)
          have y4 := bcell HW.out z4 (cell_in z4)
          have y5 := bcell HW.out z5 (cell_in z5)
          have y6 := bcell HW.out z6 (cell_in z6)
          have BBw := Lib.hid (CH.next BBh.out HW.out)
          have OC := Lib.hid (rmayop_is ⟨5, x.b, 0, 0, 0⟩ true (decide_eq_true (mayPlain x MW.out 5 (by omega))))
          unfold O5.val at OC
          unfold A6.val at CC
          clear z0 z1 z2 z3 z4 z5 z6
          go_wp2_with fail
          refine (CC.out _).mono ?_
          rintro e w5 ⟨rfl, hB⟩
          have BB5 := Lib.hid (CH.next BBw.out hB)
          clear hB
          go_wp2_with fail
          refine (told14 _).mono ?_
          rintro e w6 ⟨rfl, hB⟩
          have l0 : w6.cell? ⟨w5.heap.size, 0, none⟩ = some (.int .i64 3) := bcell hB (World.news_of_block (heap_alloc_new w5 _) 0 _ rfl) (by simp)
          have l1 : w6.cell? ⟨w5.heap.size, 1, none⟩ = some (.int .i64 5) := bcell hB (World.news_of_block (heap_alloc_new w5 _) 1 _ rfl) (by simp)
          have l2 : w6.cell? ⟨w5.heap.size, 2, none⟩ = some (.int .i64 x.b) := bcell hB (World.news_of_block (heap_alloc_new w5 _) 2 _ rfl) (by simp)
          have l3 : w6.cell? ⟨w5.heap.size, 3, none⟩ = some (.int .i64 0) := bcell hB (World.news_of_block (heap_alloc_new w5 _) 3 _ rfl) (by simp)
          have l4 : w6.cell? ⟨w5.heap.size, 4, none⟩ = some (.int .i64 0) := bcell hB (World.news_of_block (heap_alloc_new w5 _) 4 _ rfl) (by simp)
          have l5 : w6.cell? ⟨w5.heap.size, 5, none⟩ = some (.int .i64 0) := bcell hB (World.news_of_block (heap_alloc_new w5 _) 5 _ rfl) (by simp)
          have BB6 := Lib.hid (CH.next BB5.out (((Below.refl _ _).alloc (Nat.le_refl _) _).trans (hB.mono (by simp))))
          clear hB
          go_wp2_with fail
          refine (OC.out _).mono ?_
          rintro e w7 ⟨rfl, hB⟩
          have BB7 := Lib.hid (CH.next BB6.out hB)
          have l1' := bcell hB l1 (cell_in l1)
          clear hB
          go_wp2
          go_ret
          exact ⟨rfl, (bxW_of BB7.out).2.1⟩
end Go.Proofs.Ytblpkcoapbkppaa
