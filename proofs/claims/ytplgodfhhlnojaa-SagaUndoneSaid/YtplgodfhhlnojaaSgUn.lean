/- The law SagaUndone, walked (printed by genundone15.py). -/
import Derived.Test.YtplgodfhhlnojaaSgPure
import Derived.Test.YtplgodfhhlnojaaBelowR
import Derived.Test.YtplgodfhhlnojaaSgWh
import Derived.Outline
set_option linter.unusedSimpArgs false
set_option linter.unusedVariables false
namespace Go.Proofs.Ytplgodfhhlnojaa
open Go.RowKit
theorem cells7 {w : World} {B : Nat} {b c d m0 m1 m2 p : Int} (h : w.heap[B]? = some (.cells #[.int .i64 b, .int .i64 c, .int .i64 d, .int .i64 m0, .int .i64 m1, .int .i64 m2, .int .i64 p] 24 (0, 0))) : w.cell? ⟨B, 0, none⟩ = some (.int .i64 b) ∧ w.cell? ⟨B, 1, none⟩ = some (.int .i64 c) ∧ w.cell? ⟨B, 2, none⟩ = some (.int .i64 d) ∧ w.cell? ⟨B, 3, none⟩ = some (.int .i64 m0) ∧ w.cell? ⟨B, 4, none⟩ = some (.int .i64 m1) ∧ w.cell? ⟨B, 5, none⟩ = some (.int .i64 m2) ∧ w.cell? ⟨B, 6, none⟩ = some (.int .i64 p) :=
  ⟨(cellsB (i := 0) h).trans rfl, (cellsB (i := 1) h).trans rfl, (cellsB (i := 2) h).trans rfl, (cellsB (i := 3) h).trans rfl, (cellsB (i := 4) h).trans rfl, (cellsB (i := 5) h).trans rfl, (cellsB (i := 6) h).trans rfl⟩
set_option maxRecDepth 100000 in
set_option maxHeartbeats 4000000 in
theorem undone_not (x : W7) (at_ refuse : Int) (w : World) (h : ¬ MayW x) : Calls Try.prog 7 #[x.val, .int .i64 at_, .int .i64 refuse] w fun e w' => e = .returned (.bool true) ∧ Below w.heap.size w w' := by
  obtain ⟨b, c, d, m0, m1, m2, p⟩ := x
  have T := Lib.hid told15
  have HM := Lib.hid (fun W => rmay_is ⟨b, c, d, m0, m1, m2, p⟩ false (decide_eq_false h) W)
  unfold W7.val at HM ⊢
  simp only at HM ⊢
  obtain ⟨f1, f3⟩ := one_box w (.cells #[.int .i64 b, .int .i64 c, .int .i64 d, .int .i64 m0, .int .i64 m1, .int .i64 m2, .int .i64 p] 24)
  have w_0 := Lib.hid f1
  have B0 := Lib.hid f3
  clear f1 f3
  clear h
  go_enter Try.func7, Try.ntmps7
  have L1_0 : (w.alloc (.cells #[.int .i64 b, .int .i64 c, .int .i64 d, .int .i64 m0, .int .i64 m1, .int .i64 m2, .int .i64 p] 24)).cell? ⟨w.heap.size, 0, none⟩ = some (.int .i64 b) := (cellsB (i := 0) w_0.out).trans rfl
  have L1_1 : (w.alloc (.cells #[.int .i64 b, .int .i64 c, .int .i64 d, .int .i64 m0, .int .i64 m1, .int .i64 m2, .int .i64 p] 24)).cell? ⟨w.heap.size, 1, none⟩ = some (.int .i64 c) := (cellsB (i := 1) w_0.out).trans rfl
  have L1_2 : (w.alloc (.cells #[.int .i64 b, .int .i64 c, .int .i64 d, .int .i64 m0, .int .i64 m1, .int .i64 m2, .int .i64 p] 24)).cell? ⟨w.heap.size, 2, none⟩ = some (.int .i64 d) := (cellsB (i := 2) w_0.out).trans rfl
  have L1_3 : (w.alloc (.cells #[.int .i64 b, .int .i64 c, .int .i64 d, .int .i64 m0, .int .i64 m1, .int .i64 m2, .int .i64 p] 24)).cell? ⟨w.heap.size, 3, none⟩ = some (.int .i64 m0) := (cellsB (i := 3) w_0.out).trans rfl
  have L1_4 : (w.alloc (.cells #[.int .i64 b, .int .i64 c, .int .i64 d, .int .i64 m0, .int .i64 m1, .int .i64 m2, .int .i64 p] 24)).cell? ⟨w.heap.size, 4, none⟩ = some (.int .i64 m1) := (cellsB (i := 4) w_0.out).trans rfl
  have L1_5 : (w.alloc (.cells #[.int .i64 b, .int .i64 c, .int .i64 d, .int .i64 m0, .int .i64 m1, .int .i64 m2, .int .i64 p] 24)).cell? ⟨w.heap.size, 5, none⟩ = some (.int .i64 m2) := (cellsB (i := 5) w_0.out).trans rfl
  have L1_6 : (w.alloc (.cells #[.int .i64 b, .int .i64 c, .int .i64 d, .int .i64 m0, .int .i64 m1, .int .i64 m2, .int .i64 p] 24)).cell? ⟨w.heap.size, 6, none⟩ = some (.int .i64 p) := (cellsB (i := 6) w_0.out).trans rfl
  go_wp2_with fail
  refine (HM.out _).mono ?_
  rintro e w1 ⟨rfl, q⟩
  have w_1 := Lib.hid (blk0 w_0.out q)
  have B1 := Lib.hid (bel0 B0.out B0.out.size q)
  clear q w_0 B0
  clear L1_0 L1_1 L1_2 L1_3 L1_4 L1_5 L1_6
  clear w_1
  go_wp2_with fail
  refine (T.out _).mono ?_
  rintro e w2 ⟨rfl, q⟩
  have B2 := Lib.hid (bel0 B1.out B1.out.size q)
  clear q B1
  go_wp2
  go_ret
  exact ⟨rfl, B2.out⟩
set_option maxRecDepth 100000 in
set_option maxHeartbeats 4000000 in
theorem undone_may (x : W7) (at_ refuse : Int) (w : World) (h : MayW x) : Calls Try.prog 7 #[x.val, .int .i64 at_, .int .i64 refuse] w fun e w' => e = .returned (.bool true) ∧ Below w.heap.size w w' := by
  obtain ⟨b, c, d, m0, m1, m2, p⟩ := x
  have T := Lib.hid told15
  have HM := Lib.hid (fun W => rmay_is ⟨b, c, d, m0, m1, m2, p⟩ true (decide_eq_true h) W)
  have tk : TickOk 3 := ⟨by omega, by omega⟩
  have re4 : ReOk ⟨b, c, d, m0, m1, m2, p⟩ 4 := ⟨by omega, by omega, .inl (by omega)⟩
  have HNW := Lib.hid (fun W => new_is (show newS ⟨b, c, d, m0, m1, m2, p⟩ 3 = (⟨⟨b, c, d, m0, m1, m2, p⟩, 1, 0, 0, 3⟩, 0) from by rw [newS, if_pos ⟨h, by omega, by omega⟩]) W)
  have HF := Lib.hid (fun W => forward_c ⟨b, c, d, m0, m1, m2, p⟩ W)
  have HB := Lib.hid (fun W => back_c ⟨b, c, d, m0, m1, m2, p⟩ W)
  obtain ⟨l, hl⟩ : ∃ l, forwardL ⟨b, c, d, m0, m1, m2, p⟩ = l := ⟨_, rfl⟩
  have hpos := fwd_pos ⟨b, c, d, m0, m1, m2, p⟩ h
  rw [hl] at HF hpos
  obtain ⟨n, hn⟩ : ∃ n, l.length = n := ⟨_, rfl⟩
  rw [hn] at hpos
  have HL := Lib.hid hl
  have HN := Lib.hid hn
  obtain ⟨r, hr⟩ : ∃ r, backL ⟨b, c, d, m0, m1, m2, p⟩ = r := ⟨_, rfl⟩
  have hpob := bck_pos ⟨b, c, d, m0, m1, m2, p⟩ h
  rw [hr] at HB hpob
  obtain ⟨m, hm⟩ : ∃ m, r.length = m := ⟨_, rfl⟩
  rw [hm] at hpob
  have HRL := Lib.hid hr
  have HMN := Lib.hid hm
  have HX := Lib.hid h
  obtain ⟨hn1, hn9⟩ := hpos
  obtain ⟨hm1, hm9⟩ := hpob
  obtain ⟨kk, hkk, hkl⟩ := u_rem15 at_ (n : Int) (by omega)
  replace hkl : kk < n := by omega
  have j0 : ((n : Int) == 0) = false := beq_eq_false_iff_ne.2 (by omega)
  unfold RA at HF HB
  unfold W7.val at HM HNW HF HB ⊢
  unfold S11.val at HNW
  simp only at HM HNW HF HB ⊢
  clear hl h hn hr hm
  obtain ⟨f1, f3⟩ := one_box w (.cells #[.int .i64 b, .int .i64 c, .int .i64 d, .int .i64 m0, .int .i64 m1, .int .i64 m2, .int .i64 p] 24)
  have w_0 := Lib.hid f1
  have B0 := Lib.hid f3
  clear f1 f3
  go_enter Try.func7, Try.ntmps7
  have L1_0 : (w.alloc (.cells #[.int .i64 b, .int .i64 c, .int .i64 d, .int .i64 m0, .int .i64 m1, .int .i64 m2, .int .i64 p] 24)).cell? ⟨w.heap.size, 0, none⟩ = some (.int .i64 b) := (cellsB (i := 0) w_0.out).trans rfl
  have L1_1 : (w.alloc (.cells #[.int .i64 b, .int .i64 c, .int .i64 d, .int .i64 m0, .int .i64 m1, .int .i64 m2, .int .i64 p] 24)).cell? ⟨w.heap.size, 1, none⟩ = some (.int .i64 c) := (cellsB (i := 1) w_0.out).trans rfl
  have L1_2 : (w.alloc (.cells #[.int .i64 b, .int .i64 c, .int .i64 d, .int .i64 m0, .int .i64 m1, .int .i64 m2, .int .i64 p] 24)).cell? ⟨w.heap.size, 2, none⟩ = some (.int .i64 d) := (cellsB (i := 2) w_0.out).trans rfl
  have L1_3 : (w.alloc (.cells #[.int .i64 b, .int .i64 c, .int .i64 d, .int .i64 m0, .int .i64 m1, .int .i64 m2, .int .i64 p] 24)).cell? ⟨w.heap.size, 3, none⟩ = some (.int .i64 m0) := (cellsB (i := 3) w_0.out).trans rfl
  have L1_4 : (w.alloc (.cells #[.int .i64 b, .int .i64 c, .int .i64 d, .int .i64 m0, .int .i64 m1, .int .i64 m2, .int .i64 p] 24)).cell? ⟨w.heap.size, 4, none⟩ = some (.int .i64 m1) := (cellsB (i := 4) w_0.out).trans rfl
  have L1_5 : (w.alloc (.cells #[.int .i64 b, .int .i64 c, .int .i64 d, .int .i64 m0, .int .i64 m1, .int .i64 m2, .int .i64 p] 24)).cell? ⟨w.heap.size, 5, none⟩ = some (.int .i64 m2) := (cellsB (i := 5) w_0.out).trans rfl
  have L1_6 : (w.alloc (.cells #[.int .i64 b, .int .i64 c, .int .i64 d, .int .i64 m0, .int .i64 m1, .int .i64 m2, .int .i64 p] 24)).cell? ⟨w.heap.size, 6, none⟩ = some (.int .i64 p) := (cellsB (i := 6) w_0.out).trans rfl
  go_wp2_with fail
  refine (HM.out _).mono ?_
  rintro e w1 ⟨rfl, q⟩
  have w_1 := Lib.hid (blk0 w_0.out q)
  have B1 := Lib.hid (bel0 B0.out B0.out.size q)
  clear q w_0 B0
  clear L1_0 L1_1 L1_2 L1_3 L1_4 L1_5 L1_6
  have L2_0 : w1.cell? ⟨w.heap.size, 0, none⟩ = some (.int .i64 b) := (cellsB (i := 0) w_1.out).trans rfl
  have L2_1 : w1.cell? ⟨w.heap.size, 1, none⟩ = some (.int .i64 c) := (cellsB (i := 1) w_1.out).trans rfl
  have L2_2 : w1.cell? ⟨w.heap.size, 2, none⟩ = some (.int .i64 d) := (cellsB (i := 2) w_1.out).trans rfl
  have L2_3 : w1.cell? ⟨w.heap.size, 3, none⟩ = some (.int .i64 m0) := (cellsB (i := 3) w_1.out).trans rfl
  have L2_4 : w1.cell? ⟨w.heap.size, 4, none⟩ = some (.int .i64 m1) := (cellsB (i := 4) w_1.out).trans rfl
  have L2_5 : w1.cell? ⟨w.heap.size, 5, none⟩ = some (.int .i64 m2) := (cellsB (i := 5) w_1.out).trans rfl
  have L2_6 : w1.cell? ⟨w.heap.size, 6, none⟩ = some (.int .i64 p) := (cellsB (i := 6) w_1.out).trans rfl
  go_wp2_with fail
  refine (HNW.out _).mono ?_
  rintro e w2 ⟨rfl, q⟩
  have w_2 := Lib.hid (blk0 w_1.out q)
  have B2 := Lib.hid (bel0 B1.out B1.out.size q)
  clear q w_1 B1
  clear L2_0 L2_1 L2_2 L2_3 L2_4 L2_5 L2_6
  have w_sz : w.heap.size < w2.heap.size := lt_size w_2.out
  go_upto_region 7 with fail
  go_cut [9, 10] (fun fv bv wx => ∃ (Af Ab : Option Addr) (cf cb : Nat) (u : World), fv = .slice Af n cf ∧ bv = .slice Ab m cb ∧ u = wx ∧ Hid (u.heap[w2.heap.size]? = some (.cells #[.int .i64 b, .int .i64 c, .int .i64 d, .int .i64 m0, .int .i64 m1, .int .i64 m2, .int .i64 p, .int .i64 1, .int .i64 0, .int .i64 0, .int .i64 3] 26 (0, 0)) ∧ Rd u u.heap.size 6 Af n (AC l) ∧ Rd u u.heap.size 6 Ab m (AC r) ∧ Below w.heap.size w u ∧ (∀ ad, Af = some ad → ad.block ≠ w2.heap.size) ∧ (∀ ad, Ab = some ad → ad.block ≠ w2.heap.size)))
  case first =>
    have FW := alc (o := (.cells #[.int .i64 b, .int .i64 c, .int .i64 d, .int .i64 m0, .int .i64 m1, .int .i64 m2, .int .i64 p, .int .i64 1, .int .i64 0, .int .i64 0, .int .i64 3] 26)) w_2.out
    have FS := heap_alloc_new w2 (.cells #[.int .i64 b, .int .i64 c, .int .i64 d, .int .i64 m0, .int .i64 m1, .int .i64 m2, .int .i64 p, .int .i64 1, .int .i64 0, .int .i64 0, .int .i64 3] 26)
    have DD := B2.out.alloc B2.out.size (.cells #[.int .i64 b, .int .i64 c, .int .i64 d, .int .i64 m0, .int .i64 m1, .int .i64 m2, .int .i64 p, .int .i64 1, .int .i64 0, .int .i64 0, .int .i64 3] 26)
    generalize (w2.alloc (.cells #[.int .i64 b, .int .i64 c, .int .i64 d, .int .i64 m0, .int .i64 m1, .int .i64 m2, .int .i64 p, .int .i64 1, .int .i64 0, .int .i64 0, .int .i64 3] 26)) = v2 at FW FS DD ⊢
    clear w_2 B2
    have T1 := cells7 (w := v2.drew) FW
    go_region_held3 (fun w' => w'.cell? ⟨w.heap.size, 0, none⟩ = some (.int .i64 b) ∧ w'.cell? ⟨w.heap.size, 1, none⟩ = some (.int .i64 c) ∧ w'.cell? ⟨w.heap.size, 2, none⟩ = some (.int .i64 d) ∧ w'.cell? ⟨w.heap.size, 3, none⟩ = some (.int .i64 m0) ∧ w'.cell? ⟨w.heap.size, 4, none⟩ = some (.int .i64 m1) ∧ w'.cell? ⟨w.heap.size, 5, none⟩ = some (.int .i64 m2) ∧ w'.cell? ⟨w.heap.size, 6, none⟩ = some (.int .i64 p)) (first | exact T1 | go_keep | exact cells7 FW) (first | (go_at_call 36; refine (HF.out _).mono ?_; rintro e u ⟨vf, rfl, hof, q⟩; obtain ⟨Af, cf, rfl, _, _, RF⟩ := hof.rd; (have NF := OA.ne (g := w2.heap.size) hof (lt_size FS)); (first | (replace FW := blk0 FW q; replace FS := blk0 FS q; replace DD := bel0 DD DD.size q) | (replace FW := blk0 (w := World.drew _) FW q; replace FS := blk0 (w := World.drew _) FS q; replace DD := bel0 (w := World.drew _) DD.drew DD.size q)); clear q hof) | (go_at_call 37; refine (HB.out _).mono ?_; rintro e u ⟨vb, rfl, hob, q⟩; obtain ⟨Ab, cb, rfl, _, _, RB⟩ := hob.rd; (have NB := OA.ne (g := w2.heap.size) hob (lt_size FS)); (first | (replace FW := blk0 FW q; replace FS := blk0 FS q; replace RF := rd0 RF q; replace DD := bel0 DD DD.size q) | (replace FW := blk0 (w := World.drew _) FW q; replace FS := blk0 (w := World.drew _) FS q; replace RF := rd0 (w := World.drew _) RF q; replace DD := bel0 (w := World.drew _) DD.drew DD.size q)); clear q hob))
    all_goals
      rw [HN.out] at RF ⊢
      rw [HMN.out] at RB ⊢
      go_wp2_with fail
      go_meet
      exact ⟨_, _, _, _, _, rfl, rfl, rfl, Lib.hid ⟨FS, RF, RB, DD, NF, NB⟩⟩
  case rest =>
    obtain ⟨Af, Ab, cf, cb, u0, rfl, rfl, hu, HS0⟩ := hcut
    subst hu
    clear HM HNW HF HB w_2 B2
    obtain ⟨FS, RF, RB, DD, NF, NB⟩ := HS0.out
    have HNF := Lib.hid NF
    have HNB := Lib.hid NB
    have HI := Lib.hid (show _ ∧ _ ∧ _ ∧ _ from ⟨FS, RF, RB, DD⟩)
    clear FS RF RB DD NF NB HS0
    go_wp2
    go_loopw [11] (fun i wr => ∃ k : Nat, k ≤ kk ∧ i = .int .i64 k ∧ Hid (wr.heap[w2.heap.size]? = some (.cells #[.int .i64 b, .int .i64 c, .int .i64 d, .int .i64 m0, .int .i64 m1, .int .i64 m2, .int .i64 p, .int .i64 1, .int .i64 (k : Int), .int .i64 0, .int .i64 3] 26 (0, 0)) ∧ Rd wr wr.heap.size 6 Af n (AC l) ∧ Rd wr wr.heap.size 6 Ab m (AC r) ∧ Below w.heap.size w wr)) (fun i _ => kk - (intOf i).toNat)
    case atStart => exact ⟨0, by omega, rfl, HI.out⟩
    case round =>
      clear HI
      obtain ⟨k, hk, rfl, HS⟩ := hrel
      obtain ⟨s0, f0, b0, B0⟩ := HS.out
      have s_0 := Lib.hid s0
      have Rf_0 := Lib.hid f0
      have Rb_0 := Lib.hid b0
      replace B0 := Lib.hid B0
      clear s0 f0 b0 HS
      have hws : w.heap.size < w2.heap.size := w_sz
      by_cases hlt : k < kk
      · obtain ⟨ad, a, rfl, _, ha, hca⟩ := Rf_0.out.ask (show k < n by omega)
        obtain ⟨p0, p1, p2, p3, p4, p5⟩ := hca
        have H2 := Lib.hid (fun W => ans_is (ans_1 ⟨b, c, d, m0, m1, m2, p⟩ k 3 a HX.out tk (by rw [HL.out]; exact ha) (by rw [HL.out, HN.out]; omega)) W)
        simp only [S11.val, A6.val] at H2
        clear ha
        have L1_0 : wr.cell? ⟨w2.heap.size, 0, none⟩ = some (.int .i64 b) := (cellsB (i := 0) s_0.out).trans rfl
        have L1_1 : wr.cell? ⟨w2.heap.size, 1, none⟩ = some (.int .i64 c) := (cellsB (i := 1) s_0.out).trans rfl
        have L1_2 : wr.cell? ⟨w2.heap.size, 2, none⟩ = some (.int .i64 d) := (cellsB (i := 2) s_0.out).trans rfl
        have L1_3 : wr.cell? ⟨w2.heap.size, 3, none⟩ = some (.int .i64 m0) := (cellsB (i := 3) s_0.out).trans rfl
        have L1_4 : wr.cell? ⟨w2.heap.size, 4, none⟩ = some (.int .i64 m1) := (cellsB (i := 4) s_0.out).trans rfl
        have L1_5 : wr.cell? ⟨w2.heap.size, 5, none⟩ = some (.int .i64 m2) := (cellsB (i := 5) s_0.out).trans rfl
        have L1_6 : wr.cell? ⟨w2.heap.size, 6, none⟩ = some (.int .i64 p) := (cellsB (i := 6) s_0.out).trans rfl
        have L1_7 : wr.cell? ⟨w2.heap.size, 7, none⟩ = some (.int .i64 1) := (cellsB (i := 7) s_0.out).trans rfl
        have L1_8 : wr.cell? ⟨w2.heap.size, 8, none⟩ = some (.int .i64 (k : Int)) := (cellsB (i := 8) s_0.out).trans rfl
        have L1_9 : wr.cell? ⟨w2.heap.size, 9, none⟩ = some (.int .i64 0) := (cellsB (i := 9) s_0.out).trans rfl
        have L1_10 : wr.cell? ⟨w2.heap.size, 10, none⟩ = some (.int .i64 3) := (cellsB (i := 10) s_0.out).trans rfl
        go_wp2
        go_region_with (go_at_call 26; refine (H2.out _).mono ?_; rintro e u1 ⟨rfl, q⟩; (first | (have s_1 := Lib.hid (blk0 s_0.out q); have Rf_1 := Lib.hid (rd0 Rf_0.out q); have Rb_1 := Lib.hid (rd0 Rb_0.out q); have B1 := Lib.hid (bel0 B0.out B0.out.size q)) | (have s_1 := Lib.hid (blk0 (w := World.drew _) s_0.out q); have Rf_1 := Lib.hid (rd0 (w := World.drew _) Rf_0.out q); have Rb_1 := Lib.hid (rd0 (w := World.drew _) Rb_0.out q); have B1 := Lib.hid (bel0 (w := World.drew _) B0.out.drew B0.out.size q))); (have L1_0 : u1.cell? ⟨w2.heap.size, 0, none⟩ = some (.int .i64 b) := (cellsB (i := 0) s_1.out).trans rfl); (have F1_0 : u1.frozen? ⟨w2.heap.size, 0, none⟩ = false := frozB s_1.out); (have L1_1 : u1.cell? ⟨w2.heap.size, 1, none⟩ = some (.int .i64 c) := (cellsB (i := 1) s_1.out).trans rfl); (have F1_1 : u1.frozen? ⟨w2.heap.size, 1, none⟩ = false := frozB s_1.out); (have L1_2 : u1.cell? ⟨w2.heap.size, 2, none⟩ = some (.int .i64 d) := (cellsB (i := 2) s_1.out).trans rfl); (have F1_2 : u1.frozen? ⟨w2.heap.size, 2, none⟩ = false := frozB s_1.out); (have L1_3 : u1.cell? ⟨w2.heap.size, 3, none⟩ = some (.int .i64 m0) := (cellsB (i := 3) s_1.out).trans rfl); (have F1_3 : u1.frozen? ⟨w2.heap.size, 3, none⟩ = false := frozB s_1.out); (have L1_4 : u1.cell? ⟨w2.heap.size, 4, none⟩ = some (.int .i64 m1) := (cellsB (i := 4) s_1.out).trans rfl); (have F1_4 : u1.frozen? ⟨w2.heap.size, 4, none⟩ = false := frozB s_1.out); (have L1_5 : u1.cell? ⟨w2.heap.size, 5, none⟩ = some (.int .i64 m2) := (cellsB (i := 5) s_1.out).trans rfl); (have F1_5 : u1.frozen? ⟨w2.heap.size, 5, none⟩ = false := frozB s_1.out); (have L1_6 : u1.cell? ⟨w2.heap.size, 6, none⟩ = some (.int .i64 p) := (cellsB (i := 6) s_1.out).trans rfl); (have F1_6 : u1.frozen? ⟨w2.heap.size, 6, none⟩ = false := frozB s_1.out); (have L1_7 : u1.cell? ⟨w2.heap.size, 7, none⟩ = some (.int .i64 1) := (cellsB (i := 7) s_1.out).trans rfl); (have F1_7 : u1.frozen? ⟨w2.heap.size, 7, none⟩ = false := frozB s_1.out); (have L1_8 : u1.cell? ⟨w2.heap.size, 8, none⟩ = some (.int .i64 (k : Int)) := (cellsB (i := 8) s_1.out).trans rfl); (have F1_8 : u1.frozen? ⟨w2.heap.size, 8, none⟩ = false := frozB s_1.out); (have L1_9 : u1.cell? ⟨w2.heap.size, 9, none⟩ = some (.int .i64 0) := (cellsB (i := 9) s_1.out).trans rfl); (have F1_9 : u1.frozen? ⟨w2.heap.size, 9, none⟩ = false := frozB s_1.out); (have L1_10 : u1.cell? ⟨w2.heap.size, 10, none⟩ = some (.int .i64 3) := (cellsB (i := 10) s_1.out).trans rfl); (have F1_10 : u1.frozen? ⟨w2.heap.size, 10, none⟩ = false := frozB s_1.out))
        all_goals
          have ss2 : Hid ((st11 u1 w2.heap.size (.int .i64 b) (.int .i64 c) (.int .i64 d) (.int .i64 m0) (.int .i64 m1) (.int .i64 m2) (.int .i64 p) (.int .i64 1) (.int .i64 ((k + 1 : Nat) : Int)) (.int .i64 0) (.int .i64 3)).heap[w2.heap.size]? = some (.cells #[.int .i64 b, .int .i64 c, .int .i64 d, .int .i64 m0, .int .i64 m1, .int .i64 m2, .int .i64 p, .int .i64 1, .int .i64 ((k + 1 : Nat) : Int), .int .i64 0, .int .i64 3] 26 (0, 0))) := Lib.hid (st11_at s_1.out)
          have Rfs2 : Hid (Rd (st11 u1 w2.heap.size (.int .i64 b) (.int .i64 c) (.int .i64 d) (.int .i64 m0) (.int .i64 m1) (.int .i64 m2) (.int .i64 p) (.int .i64 1) (.int .i64 ((k + 1 : Nat) : Int)) (.int .i64 0) (.int .i64 3)) (st11 u1 w2.heap.size (.int .i64 b) (.int .i64 c) (.int .i64 d) (.int .i64 m0) (.int .i64 m1) (.int .i64 m2) (.int .i64 p) (.int .i64 1) (.int .i64 ((k + 1 : Nat) : Int)) (.int .i64 0) (.int .i64 3)).heap.size 6 (some ad) n (AC l)) := Lib.hid (by rw [st11_size]; exact rd_st11 Rf_1.out HNF.out)
          have Rbs2 : Hid (Rd (st11 u1 w2.heap.size (.int .i64 b) (.int .i64 c) (.int .i64 d) (.int .i64 m0) (.int .i64 m1) (.int .i64 m2) (.int .i64 p) (.int .i64 1) (.int .i64 ((k + 1 : Nat) : Int)) (.int .i64 0) (.int .i64 3)) (st11 u1 w2.heap.size (.int .i64 b) (.int .i64 c) (.int .i64 d) (.int .i64 m0) (.int .i64 m1) (.int .i64 m2) (.int .i64 p) (.int .i64 1) (.int .i64 ((k + 1 : Nat) : Int)) (.int .i64 0) (.int .i64 3)).heap.size 6 Ab m (AC r)) := Lib.hid (by rw [st11_size]; exact rd_st11 Rb_1.out HNB.out)
          have Bs2 : Hid (Below w.heap.size w (st11 u1 w2.heap.size (.int .i64 b) (.int .i64 c) (.int .i64 d) (.int .i64 m0) (.int .i64 m1) (.int .i64 m2) (.int .i64 p) (.int .i64 1) (.int .i64 ((k + 1 : Nat) : Int)) (.int .i64 0) (.int .i64 3))) := Lib.hid (st11_below B1.out (by omega))
          unfold st11 at ss2 Rfs2 Rbs2 Bs2
          go_wp2
          go_roundw
          case rel => exact ⟨k + 1, by omega, by go_num, Lib.hid ⟨ss2.out, Rfs2.out, Rbs2.out, Bs2.out⟩⟩
          case measure => simp [intOf]; omega
      obtain rfl : k = kk := by omega
      clear Rf_0 HNF
      have H3 := Lib.hid (fun W => can_is (show canS ⟨⟨b, c, d, m0, m1, m2, p⟩, 1, (k : Int), 0, 3⟩ = (⟨⟨b, c, d, m0, m1, m2, p⟩, 3, 0, 4, 3⟩, true) from by rw [canS, if_pos ⟨may_1 ⟨b, c, d, m0, m1, m2, p⟩ k 3 HX.out tk (by rw [HL.out, HN.out]; exact hkl), rfl⟩]; rfl) W)
      simp only [S11.val] at H3
      have L1_0 : wr.cell? ⟨w2.heap.size, 0, none⟩ = some (.int .i64 b) := (cellsB (i := 0) s_0.out).trans rfl
      have L1_1 : wr.cell? ⟨w2.heap.size, 1, none⟩ = some (.int .i64 c) := (cellsB (i := 1) s_0.out).trans rfl
      have L1_2 : wr.cell? ⟨w2.heap.size, 2, none⟩ = some (.int .i64 d) := (cellsB (i := 2) s_0.out).trans rfl
      have L1_3 : wr.cell? ⟨w2.heap.size, 3, none⟩ = some (.int .i64 m0) := (cellsB (i := 3) s_0.out).trans rfl
      have L1_4 : wr.cell? ⟨w2.heap.size, 4, none⟩ = some (.int .i64 m1) := (cellsB (i := 4) s_0.out).trans rfl
      have L1_5 : wr.cell? ⟨w2.heap.size, 5, none⟩ = some (.int .i64 m2) := (cellsB (i := 5) s_0.out).trans rfl
      have L1_6 : wr.cell? ⟨w2.heap.size, 6, none⟩ = some (.int .i64 p) := (cellsB (i := 6) s_0.out).trans rfl
      have L1_7 : wr.cell? ⟨w2.heap.size, 7, none⟩ = some (.int .i64 1) := (cellsB (i := 7) s_0.out).trans rfl
      have L1_8 : wr.cell? ⟨w2.heap.size, 8, none⟩ = some (.int .i64 (k : Int)) := (cellsB (i := 8) s_0.out).trans rfl
      have L1_9 : wr.cell? ⟨w2.heap.size, 9, none⟩ = some (.int .i64 0) := (cellsB (i := 9) s_0.out).trans rfl
      have L1_10 : wr.cell? ⟨w2.heap.size, 10, none⟩ = some (.int .i64 3) := (cellsB (i := 10) s_0.out).trans rfl
      go_wp2_with fail
      refine (H3.out _).mono ?_
      rintro e u1 ⟨rfl, q⟩
      have s_1 := Lib.hid (blk0 s_0.out q)
      have Rb_1 := Lib.hid (rd0 Rb_0.out q)
      have B1 := Lib.hid (bel0 B0.out B0.out.size q)
      clear q s_0 Rb_0 B0
      clear L1_0 L1_1 L1_2 L1_3 L1_4 L1_5 L1_6 L1_7 L1_8 L1_9 L1_10
      have L2_0 : u1.cell? ⟨w2.heap.size, 0, none⟩ = some (.int .i64 b) := (cellsB (i := 0) s_1.out).trans rfl
      have F2_0 : u1.frozen? ⟨w2.heap.size, 0, none⟩ = false := frozB s_1.out
      have L2_1 : u1.cell? ⟨w2.heap.size, 1, none⟩ = some (.int .i64 c) := (cellsB (i := 1) s_1.out).trans rfl
      have F2_1 : u1.frozen? ⟨w2.heap.size, 1, none⟩ = false := frozB s_1.out
      have L2_2 : u1.cell? ⟨w2.heap.size, 2, none⟩ = some (.int .i64 d) := (cellsB (i := 2) s_1.out).trans rfl
      have F2_2 : u1.frozen? ⟨w2.heap.size, 2, none⟩ = false := frozB s_1.out
      have L2_3 : u1.cell? ⟨w2.heap.size, 3, none⟩ = some (.int .i64 m0) := (cellsB (i := 3) s_1.out).trans rfl
      have F2_3 : u1.frozen? ⟨w2.heap.size, 3, none⟩ = false := frozB s_1.out
      have L2_4 : u1.cell? ⟨w2.heap.size, 4, none⟩ = some (.int .i64 m1) := (cellsB (i := 4) s_1.out).trans rfl
      have F2_4 : u1.frozen? ⟨w2.heap.size, 4, none⟩ = false := frozB s_1.out
      have L2_5 : u1.cell? ⟨w2.heap.size, 5, none⟩ = some (.int .i64 m2) := (cellsB (i := 5) s_1.out).trans rfl
      have F2_5 : u1.frozen? ⟨w2.heap.size, 5, none⟩ = false := frozB s_1.out
      have L2_6 : u1.cell? ⟨w2.heap.size, 6, none⟩ = some (.int .i64 p) := (cellsB (i := 6) s_1.out).trans rfl
      have F2_6 : u1.frozen? ⟨w2.heap.size, 6, none⟩ = false := frozB s_1.out
      have L2_7 : u1.cell? ⟨w2.heap.size, 7, none⟩ = some (.int .i64 1) := (cellsB (i := 7) s_1.out).trans rfl
      have F2_7 : u1.frozen? ⟨w2.heap.size, 7, none⟩ = false := frozB s_1.out
      have L2_8 : u1.cell? ⟨w2.heap.size, 8, none⟩ = some (.int .i64 (k : Int)) := (cellsB (i := 8) s_1.out).trans rfl
      have F2_8 : u1.frozen? ⟨w2.heap.size, 8, none⟩ = false := frozB s_1.out
      have L2_9 : u1.cell? ⟨w2.heap.size, 9, none⟩ = some (.int .i64 0) := (cellsB (i := 9) s_1.out).trans rfl
      have F2_9 : u1.frozen? ⟨w2.heap.size, 9, none⟩ = false := frozB s_1.out
      have L2_10 : u1.cell? ⟨w2.heap.size, 10, none⟩ = some (.int .i64 3) := (cellsB (i := 10) s_1.out).trans rfl
      have F2_10 : u1.frozen? ⟨w2.heap.size, 10, none⟩ = false := frozB s_1.out
      have ss3 : Hid ((st11 u1 w2.heap.size (.int .i64 b) (.int .i64 c) (.int .i64 d) (.int .i64 m0) (.int .i64 m1) (.int .i64 m2) (.int .i64 p) (.int .i64 3) (.int .i64 0) (.int .i64 4) (.int .i64 3)).heap[w2.heap.size]? = some (.cells #[.int .i64 b, .int .i64 c, .int .i64 d, .int .i64 m0, .int .i64 m1, .int .i64 m2, .int .i64 p, .int .i64 3, .int .i64 0, .int .i64 4, .int .i64 3] 26 (0, 0))) := Lib.hid (st11_at s_1.out)
      have Rbs3 : Hid (Rd (st11 u1 w2.heap.size (.int .i64 b) (.int .i64 c) (.int .i64 d) (.int .i64 m0) (.int .i64 m1) (.int .i64 m2) (.int .i64 p) (.int .i64 3) (.int .i64 0) (.int .i64 4) (.int .i64 3)) (st11 u1 w2.heap.size (.int .i64 b) (.int .i64 c) (.int .i64 d) (.int .i64 m0) (.int .i64 m1) (.int .i64 m2) (.int .i64 p) (.int .i64 3) (.int .i64 0) (.int .i64 4) (.int .i64 3)).heap.size 6 Ab m (AC r)) := Lib.hid (by rw [st11_size]; exact rd_st11 Rb_1.out HNB.out)
      have Bs3 : Hid (Below w.heap.size w (st11 u1 w2.heap.size (.int .i64 b) (.int .i64 c) (.int .i64 d) (.int .i64 m0) (.int .i64 m1) (.int .i64 m2) (.int .i64 p) (.int .i64 3) (.int .i64 0) (.int .i64 4) (.int .i64 3))) := Lib.hid (st11_below B1.out (by omega))
      unfold st11 at ss3 Rbs3 Bs3
      have HI := Lib.hid (show _ ∧ _ ∧ _ from ⟨ss3.out, Rbs3.out, Bs3.out⟩)
      go_wp2
      go_loopw [13] (fun i wx => ∃ (j : Nat) (ph st : Int), j ≤ m ∧ i = .int .i64 j ∧ (j < m → ph = 3 ∧ st = (j : Int)) ∧ (j = m → ph = 5 ∧ st = 0) ∧ Hid (wx.heap[w2.heap.size]? = some (.cells #[.int .i64 b, .int .i64 c, .int .i64 d, .int .i64 m0, .int .i64 m1, .int .i64 m2, .int .i64 p, .int .i64 ph, .int .i64 st, .int .i64 4, .int .i64 3] 26 (0, 0)) ∧ Rd wx wx.heap.size 6 Ab m (AC r) ∧ Below w.heap.size w wx)) (fun i _ => m - (intOf i).toNat)
      case atStart => exact ⟨0, 3, 0, by omega, rfl, fun _ => ⟨rfl, rfl⟩, fun h => by omega, HI.out⟩
      case round =>
        clear HI
        obtain ⟨j, ph, st, hj, rfl, h1, h2, HS2⟩ := hrel
        obtain ⟨s0, b0, B0⟩ := HS2.out
        have s_0 := Lib.hid s0
        have Rb_0 := Lib.hid b0
        replace B0 := Lib.hid B0
        clear s0 b0 HS2
        by_cases hlt : j < m
        · obtain ⟨rfl, rfl⟩ := h1 hlt
          clear h1 h2
          obtain ⟨ad, a, rfl, _, ha, _⟩ := Rb_0.out.ask hlt
          have HAA := Lib.hid ha
          have n3 := next_3 ⟨b, c, d, m0, m1, m2, p⟩ j 4 3 a HX.out tk re4 (by rw [HRL.out]; exact ha)
          have H1 := Lib.hid (fun W => next_is n3 W)
          have H4 := Lib.hid (fun W => over_is (s := ⟨⟨b, c, d, m0, m1, m2, p⟩, 3, (j : Int), 4, 3⟩) (b := false) (decide_eq_false (by simp)) W)
          have H5 := Lib.hid (fun W => ans_is (ans_ref ⟨⟨b, c, d, m0, m1, m2, p⟩, 3, (j : Int), 4, 3⟩ a n3 (by simp)) W)
          have e1 := sameA a a true (by simp)
          have e2 := sameS ⟨⟨b, c, d, m0, m1, m2, p⟩, 3, (j : Int), 4, 3⟩ ⟨⟨b, c, d, m0, m1, m2, p⟩, 3, (j : Int), 4, 3⟩ true (by simp)
          simp only [S11.val, A6.val] at H1 H4 H5 e1 e2
          clear ha n3
          have L1_0 : wr.cell? ⟨w2.heap.size, 0, none⟩ = some (.int .i64 b) := (cellsB (i := 0) s_0.out).trans rfl
          have L1_1 : wr.cell? ⟨w2.heap.size, 1, none⟩ = some (.int .i64 c) := (cellsB (i := 1) s_0.out).trans rfl
          have L1_2 : wr.cell? ⟨w2.heap.size, 2, none⟩ = some (.int .i64 d) := (cellsB (i := 2) s_0.out).trans rfl
          have L1_3 : wr.cell? ⟨w2.heap.size, 3, none⟩ = some (.int .i64 m0) := (cellsB (i := 3) s_0.out).trans rfl
          have L1_4 : wr.cell? ⟨w2.heap.size, 4, none⟩ = some (.int .i64 m1) := (cellsB (i := 4) s_0.out).trans rfl
          have L1_5 : wr.cell? ⟨w2.heap.size, 5, none⟩ = some (.int .i64 m2) := (cellsB (i := 5) s_0.out).trans rfl
          have L1_6 : wr.cell? ⟨w2.heap.size, 6, none⟩ = some (.int .i64 p) := (cellsB (i := 6) s_0.out).trans rfl
          have L1_7 : wr.cell? ⟨w2.heap.size, 7, none⟩ = some (.int .i64 3) := (cellsB (i := 7) s_0.out).trans rfl
          have L1_8 : wr.cell? ⟨w2.heap.size, 8, none⟩ = some (.int .i64 (j : Int)) := (cellsB (i := 8) s_0.out).trans rfl
          have L1_9 : wr.cell? ⟨w2.heap.size, 9, none⟩ = some (.int .i64 4) := (cellsB (i := 9) s_0.out).trans rfl
          have L1_10 : wr.cell? ⟨w2.heap.size, 10, none⟩ = some (.int .i64 3) := (cellsB (i := 10) s_0.out).trans rfl
          go_wp2_with fail
          refine (H1.out _).mono ?_
          rintro e x1 ⟨rfl, q⟩
          have s_1 := Lib.hid (blk0 s_0.out q)
          have Rb_1 := Lib.hid (rd0 Rb_0.out q)
          have B1 := Lib.hid (bel0 B0.out B0.out.size q)
          clear q s_0 Rb_0 B0
          clear L1_0 L1_1 L1_2 L1_3 L1_4 L1_5 L1_6 L1_7 L1_8 L1_9 L1_10
          have Ca0 : ∀ s : BW (x1.alloc (.cells #[.int .i64 a.node, .int .i64 a.kind, .int .i64 a.book, .int .i64 a.units, .int .i64 a.cust, .int .i64 a.amount] 30)).heap.size (x1.alloc (.cells #[.int .i64 a.node, .int .i64 a.kind, .int .i64 a.book, .int .i64 a.units, .int .i64 a.cust, .int .i64 a.amount] 30)), s.val.cell? ⟨x1.heap.size, 0, none⟩ = some (.int .i64 a.node) := fun s => (cellsB (i := 0) (blk0 (heap_alloc_new x1 (.cells #[.int .i64 a.node, .int .i64 a.kind, .int .i64 a.book, .int .i64 a.units, .int .i64 a.cust, .int .i64 a.amount] 30)) s.h)).trans rfl
          have Ca1 : ∀ s : BW (x1.alloc (.cells #[.int .i64 a.node, .int .i64 a.kind, .int .i64 a.book, .int .i64 a.units, .int .i64 a.cust, .int .i64 a.amount] 30)).heap.size (x1.alloc (.cells #[.int .i64 a.node, .int .i64 a.kind, .int .i64 a.book, .int .i64 a.units, .int .i64 a.cust, .int .i64 a.amount] 30)), s.val.cell? ⟨x1.heap.size, 1, none⟩ = some (.int .i64 a.kind) := fun s => (cellsB (i := 1) (blk0 (heap_alloc_new x1 (.cells #[.int .i64 a.node, .int .i64 a.kind, .int .i64 a.book, .int .i64 a.units, .int .i64 a.cust, .int .i64 a.amount] 30)) s.h)).trans rfl
          have Ca2 : ∀ s : BW (x1.alloc (.cells #[.int .i64 a.node, .int .i64 a.kind, .int .i64 a.book, .int .i64 a.units, .int .i64 a.cust, .int .i64 a.amount] 30)).heap.size (x1.alloc (.cells #[.int .i64 a.node, .int .i64 a.kind, .int .i64 a.book, .int .i64 a.units, .int .i64 a.cust, .int .i64 a.amount] 30)), s.val.cell? ⟨x1.heap.size, 2, none⟩ = some (.int .i64 a.book) := fun s => (cellsB (i := 2) (blk0 (heap_alloc_new x1 (.cells #[.int .i64 a.node, .int .i64 a.kind, .int .i64 a.book, .int .i64 a.units, .int .i64 a.cust, .int .i64 a.amount] 30)) s.h)).trans rfl
          have Ca3 : ∀ s : BW (x1.alloc (.cells #[.int .i64 a.node, .int .i64 a.kind, .int .i64 a.book, .int .i64 a.units, .int .i64 a.cust, .int .i64 a.amount] 30)).heap.size (x1.alloc (.cells #[.int .i64 a.node, .int .i64 a.kind, .int .i64 a.book, .int .i64 a.units, .int .i64 a.cust, .int .i64 a.amount] 30)), s.val.cell? ⟨x1.heap.size, 3, none⟩ = some (.int .i64 a.units) := fun s => (cellsB (i := 3) (blk0 (heap_alloc_new x1 (.cells #[.int .i64 a.node, .int .i64 a.kind, .int .i64 a.book, .int .i64 a.units, .int .i64 a.cust, .int .i64 a.amount] 30)) s.h)).trans rfl
          have Ca4 : ∀ s : BW (x1.alloc (.cells #[.int .i64 a.node, .int .i64 a.kind, .int .i64 a.book, .int .i64 a.units, .int .i64 a.cust, .int .i64 a.amount] 30)).heap.size (x1.alloc (.cells #[.int .i64 a.node, .int .i64 a.kind, .int .i64 a.book, .int .i64 a.units, .int .i64 a.cust, .int .i64 a.amount] 30)), s.val.cell? ⟨x1.heap.size, 4, none⟩ = some (.int .i64 a.cust) := fun s => (cellsB (i := 4) (blk0 (heap_alloc_new x1 (.cells #[.int .i64 a.node, .int .i64 a.kind, .int .i64 a.book, .int .i64 a.units, .int .i64 a.cust, .int .i64 a.amount] 30)) s.h)).trans rfl
          have Ca5 : ∀ s : BW (x1.alloc (.cells #[.int .i64 a.node, .int .i64 a.kind, .int .i64 a.book, .int .i64 a.units, .int .i64 a.cust, .int .i64 a.amount] 30)).heap.size (x1.alloc (.cells #[.int .i64 a.node, .int .i64 a.kind, .int .i64 a.book, .int .i64 a.units, .int .i64 a.cust, .int .i64 a.amount] 30)), s.val.cell? ⟨x1.heap.size, 5, none⟩ = some (.int .i64 a.amount) := fun s => (cellsB (i := 5) (blk0 (heap_alloc_new x1 (.cells #[.int .i64 a.node, .int .i64 a.kind, .int .i64 a.book, .int .i64 a.units, .int .i64 a.cust, .int .i64 a.amount] 30)) s.h)).trans rfl
          have Cs0 : ∀ s : BW (x1.alloc (.cells #[.int .i64 a.node, .int .i64 a.kind, .int .i64 a.book, .int .i64 a.units, .int .i64 a.cust, .int .i64 a.amount] 30)).heap.size (x1.alloc (.cells #[.int .i64 a.node, .int .i64 a.kind, .int .i64 a.book, .int .i64 a.units, .int .i64 a.cust, .int .i64 a.amount] 30)), s.val.cell? ⟨w2.heap.size, 0, none⟩ = some (.int .i64 b) := fun s => (cellsB (i := 0) (blk0 (alc (o := (.cells #[.int .i64 a.node, .int .i64 a.kind, .int .i64 a.book, .int .i64 a.units, .int .i64 a.cust, .int .i64 a.amount] 30)) s_1.out) s.h)).trans rfl
          have Cs1 : ∀ s : BW (x1.alloc (.cells #[.int .i64 a.node, .int .i64 a.kind, .int .i64 a.book, .int .i64 a.units, .int .i64 a.cust, .int .i64 a.amount] 30)).heap.size (x1.alloc (.cells #[.int .i64 a.node, .int .i64 a.kind, .int .i64 a.book, .int .i64 a.units, .int .i64 a.cust, .int .i64 a.amount] 30)), s.val.cell? ⟨w2.heap.size, 1, none⟩ = some (.int .i64 c) := fun s => (cellsB (i := 1) (blk0 (alc (o := (.cells #[.int .i64 a.node, .int .i64 a.kind, .int .i64 a.book, .int .i64 a.units, .int .i64 a.cust, .int .i64 a.amount] 30)) s_1.out) s.h)).trans rfl
          have Cs2 : ∀ s : BW (x1.alloc (.cells #[.int .i64 a.node, .int .i64 a.kind, .int .i64 a.book, .int .i64 a.units, .int .i64 a.cust, .int .i64 a.amount] 30)).heap.size (x1.alloc (.cells #[.int .i64 a.node, .int .i64 a.kind, .int .i64 a.book, .int .i64 a.units, .int .i64 a.cust, .int .i64 a.amount] 30)), s.val.cell? ⟨w2.heap.size, 2, none⟩ = some (.int .i64 d) := fun s => (cellsB (i := 2) (blk0 (alc (o := (.cells #[.int .i64 a.node, .int .i64 a.kind, .int .i64 a.book, .int .i64 a.units, .int .i64 a.cust, .int .i64 a.amount] 30)) s_1.out) s.h)).trans rfl
          have Cs3 : ∀ s : BW (x1.alloc (.cells #[.int .i64 a.node, .int .i64 a.kind, .int .i64 a.book, .int .i64 a.units, .int .i64 a.cust, .int .i64 a.amount] 30)).heap.size (x1.alloc (.cells #[.int .i64 a.node, .int .i64 a.kind, .int .i64 a.book, .int .i64 a.units, .int .i64 a.cust, .int .i64 a.amount] 30)), s.val.cell? ⟨w2.heap.size, 3, none⟩ = some (.int .i64 m0) := fun s => (cellsB (i := 3) (blk0 (alc (o := (.cells #[.int .i64 a.node, .int .i64 a.kind, .int .i64 a.book, .int .i64 a.units, .int .i64 a.cust, .int .i64 a.amount] 30)) s_1.out) s.h)).trans rfl
          have Cs4 : ∀ s : BW (x1.alloc (.cells #[.int .i64 a.node, .int .i64 a.kind, .int .i64 a.book, .int .i64 a.units, .int .i64 a.cust, .int .i64 a.amount] 30)).heap.size (x1.alloc (.cells #[.int .i64 a.node, .int .i64 a.kind, .int .i64 a.book, .int .i64 a.units, .int .i64 a.cust, .int .i64 a.amount] 30)), s.val.cell? ⟨w2.heap.size, 4, none⟩ = some (.int .i64 m1) := fun s => (cellsB (i := 4) (blk0 (alc (o := (.cells #[.int .i64 a.node, .int .i64 a.kind, .int .i64 a.book, .int .i64 a.units, .int .i64 a.cust, .int .i64 a.amount] 30)) s_1.out) s.h)).trans rfl
          have Cs5 : ∀ s : BW (x1.alloc (.cells #[.int .i64 a.node, .int .i64 a.kind, .int .i64 a.book, .int .i64 a.units, .int .i64 a.cust, .int .i64 a.amount] 30)).heap.size (x1.alloc (.cells #[.int .i64 a.node, .int .i64 a.kind, .int .i64 a.book, .int .i64 a.units, .int .i64 a.cust, .int .i64 a.amount] 30)), s.val.cell? ⟨w2.heap.size, 5, none⟩ = some (.int .i64 m2) := fun s => (cellsB (i := 5) (blk0 (alc (o := (.cells #[.int .i64 a.node, .int .i64 a.kind, .int .i64 a.book, .int .i64 a.units, .int .i64 a.cust, .int .i64 a.amount] 30)) s_1.out) s.h)).trans rfl
          have Cs6 : ∀ s : BW (x1.alloc (.cells #[.int .i64 a.node, .int .i64 a.kind, .int .i64 a.book, .int .i64 a.units, .int .i64 a.cust, .int .i64 a.amount] 30)).heap.size (x1.alloc (.cells #[.int .i64 a.node, .int .i64 a.kind, .int .i64 a.book, .int .i64 a.units, .int .i64 a.cust, .int .i64 a.amount] 30)), s.val.cell? ⟨w2.heap.size, 6, none⟩ = some (.int .i64 p) := fun s => (cellsB (i := 6) (blk0 (alc (o := (.cells #[.int .i64 a.node, .int .i64 a.kind, .int .i64 a.book, .int .i64 a.units, .int .i64 a.cust, .int .i64 a.amount] 30)) s_1.out) s.h)).trans rfl
          have Cs7 : ∀ s : BW (x1.alloc (.cells #[.int .i64 a.node, .int .i64 a.kind, .int .i64 a.book, .int .i64 a.units, .int .i64 a.cust, .int .i64 a.amount] 30)).heap.size (x1.alloc (.cells #[.int .i64 a.node, .int .i64 a.kind, .int .i64 a.book, .int .i64 a.units, .int .i64 a.cust, .int .i64 a.amount] 30)), s.val.cell? ⟨w2.heap.size, 7, none⟩ = some (.int .i64 3) := fun s => (cellsB (i := 7) (blk0 (alc (o := (.cells #[.int .i64 a.node, .int .i64 a.kind, .int .i64 a.book, .int .i64 a.units, .int .i64 a.cust, .int .i64 a.amount] 30)) s_1.out) s.h)).trans rfl
          have Cs8 : ∀ s : BW (x1.alloc (.cells #[.int .i64 a.node, .int .i64 a.kind, .int .i64 a.book, .int .i64 a.units, .int .i64 a.cust, .int .i64 a.amount] 30)).heap.size (x1.alloc (.cells #[.int .i64 a.node, .int .i64 a.kind, .int .i64 a.book, .int .i64 a.units, .int .i64 a.cust, .int .i64 a.amount] 30)), s.val.cell? ⟨w2.heap.size, 8, none⟩ = some (.int .i64 (j : Int)) := fun s => (cellsB (i := 8) (blk0 (alc (o := (.cells #[.int .i64 a.node, .int .i64 a.kind, .int .i64 a.book, .int .i64 a.units, .int .i64 a.cust, .int .i64 a.amount] 30)) s_1.out) s.h)).trans rfl
          have Cs9 : ∀ s : BW (x1.alloc (.cells #[.int .i64 a.node, .int .i64 a.kind, .int .i64 a.book, .int .i64 a.units, .int .i64 a.cust, .int .i64 a.amount] 30)).heap.size (x1.alloc (.cells #[.int .i64 a.node, .int .i64 a.kind, .int .i64 a.book, .int .i64 a.units, .int .i64 a.cust, .int .i64 a.amount] 30)), s.val.cell? ⟨w2.heap.size, 9, none⟩ = some (.int .i64 4) := fun s => (cellsB (i := 9) (blk0 (alc (o := (.cells #[.int .i64 a.node, .int .i64 a.kind, .int .i64 a.book, .int .i64 a.units, .int .i64 a.cust, .int .i64 a.amount] 30)) s_1.out) s.h)).trans rfl
          have Cs10 : ∀ s : BW (x1.alloc (.cells #[.int .i64 a.node, .int .i64 a.kind, .int .i64 a.book, .int .i64 a.units, .int .i64 a.cust, .int .i64 a.amount] 30)).heap.size (x1.alloc (.cells #[.int .i64 a.node, .int .i64 a.kind, .int .i64 a.book, .int .i64 a.units, .int .i64 a.cust, .int .i64 a.amount] 30)), s.val.cell? ⟨w2.heap.size, 10, none⟩ = some (.int .i64 3) := fun s => (cellsB (i := 10) (blk0 (alc (o := (.cells #[.int .i64 a.node, .int .i64 a.kind, .int .i64 a.book, .int .i64 a.units, .int .i64 a.cust, .int .i64 a.amount] 30)) s_1.out) s.h)).trans rfl
          obtain ⟨_, a2, e5, _, ha2, hca⟩ := (rda (o := (.cells #[.int .i64 a.node, .int .i64 a.kind, .int .i64 a.book, .int .i64 a.units, .int .i64 a.cust, .int .i64 a.amount] 30)) Rb_1.out).ask hlt
          cases e5
          obtain rfl : a = a2 := by have := HAA.out; rw [this] at ha2; exact Option.some.inj ha2
          clear ha2
          have p0 := fun s => (hca.bw s).c0
          have p1 := fun s => (hca.bw s).c1
          have p2 := fun s => (hca.bw s).c2
          have p3 := fun s => (hca.bw s).c3
          have p4 := fun s => (hca.bw s).c4
          have p5 := fun s => (hca.bw s).c5
          clear hca
          go_wp2_with fail
          refine wp_region_below ((x1.alloc (.cells #[.int .i64 a.node, .int .i64 a.kind, .int .i64 a.book, .int .i64 a.units, .int .i64 a.cust, .int .i64 a.amount] 30)).heap.size) (by kernel_rfl) (by kernel_rfl) ?_
          repeat (first | go_big_quiet_step (((go_at_call 25; (with_reducible exact BW.call (Nat.le_refl _) (H4.out _))))) | quiet_step (((go_at_call 25; (with_reducible exact BW.call (Nat.le_refl _) (H4.out _))))))
          refine wpQuiet_nil ?_
          intro _ hw'
          obtain ⟨sb, hw''⟩ := hw'
          subst hw''
          have q := sb.h
          generalize sb.val = x2 at q ⊢
          clear sb p0 p1 p2 p3 p4 p5 Ca0 Ca1 Ca2 Ca3 Ca4 Ca5 Cs0 Cs1 Cs2 Cs3 Cs4 Cs5 Cs6 Cs7 Cs8 Cs9 Cs10
          have s_2 := Lib.hid (blk1 s_1.out q)
          have a_2 := Lib.hid (new1 q)
          have Rb_2 := Lib.hid (rd1 Rb_1.out q)
          have B2 := Lib.hid (bel1 B1.out B1.out.size q)
          clear q s_1 Rb_1 B1
          have L2_0 : x2.cell? ⟨w2.heap.size, 0, none⟩ = some (.int .i64 b) := (cellsB (i := 0) s_2.out).trans rfl
          have L2_1 : x2.cell? ⟨w2.heap.size, 1, none⟩ = some (.int .i64 c) := (cellsB (i := 1) s_2.out).trans rfl
          have L2_2 : x2.cell? ⟨w2.heap.size, 2, none⟩ = some (.int .i64 d) := (cellsB (i := 2) s_2.out).trans rfl
          have L2_3 : x2.cell? ⟨w2.heap.size, 3, none⟩ = some (.int .i64 m0) := (cellsB (i := 3) s_2.out).trans rfl
          have L2_4 : x2.cell? ⟨w2.heap.size, 4, none⟩ = some (.int .i64 m1) := (cellsB (i := 4) s_2.out).trans rfl
          have L2_5 : x2.cell? ⟨w2.heap.size, 5, none⟩ = some (.int .i64 m2) := (cellsB (i := 5) s_2.out).trans rfl
          have L2_6 : x2.cell? ⟨w2.heap.size, 6, none⟩ = some (.int .i64 p) := (cellsB (i := 6) s_2.out).trans rfl
          have L2_7 : x2.cell? ⟨w2.heap.size, 7, none⟩ = some (.int .i64 3) := (cellsB (i := 7) s_2.out).trans rfl
          have L2_8 : x2.cell? ⟨w2.heap.size, 8, none⟩ = some (.int .i64 (j : Int)) := (cellsB (i := 8) s_2.out).trans rfl
          have L2_9 : x2.cell? ⟨w2.heap.size, 9, none⟩ = some (.int .i64 4) := (cellsB (i := 9) s_2.out).trans rfl
          have L2_10 : x2.cell? ⟨w2.heap.size, 10, none⟩ = some (.int .i64 3) := (cellsB (i := 10) s_2.out).trans rfl
          have L3_0 : x2.cell? ⟨x1.heap.size, 0, none⟩ = some (.int .i64 a.node) := (cellsB (i := 0) a_2.out).trans rfl
          have L3_1 : x2.cell? ⟨x1.heap.size, 1, none⟩ = some (.int .i64 a.kind) := (cellsB (i := 1) a_2.out).trans rfl
          have L3_2 : x2.cell? ⟨x1.heap.size, 2, none⟩ = some (.int .i64 a.book) := (cellsB (i := 2) a_2.out).trans rfl
          have L3_3 : x2.cell? ⟨x1.heap.size, 3, none⟩ = some (.int .i64 a.units) := (cellsB (i := 3) a_2.out).trans rfl
          have L3_4 : x2.cell? ⟨x1.heap.size, 4, none⟩ = some (.int .i64 a.cust) := (cellsB (i := 4) a_2.out).trans rfl
          have L3_5 : x2.cell? ⟨x1.heap.size, 5, none⟩ = some (.int .i64 a.amount) := (cellsB (i := 5) a_2.out).trans rfl
          have hj64 : IntKind.u64.wrap (j : Int) = (j : Int) := by rw [IntKind.wrap_u64]; omega
          obtain ⟨sv, hsv⟩ : ∃ v, refuse / 2 ^ j = v := ⟨_, rfl⟩
          obtain ⟨sb2, hsb⟩ : ∃ b2, bits .and .i64 sv 1 = b2 := ⟨_, rfl⟩
          by_cases hsq : sb2 = 1
          · subst hsq
            go_wp2_with fail
            refine (H5.out _).mono ?_
            rintro e x3 ⟨rfl, q⟩
            have s_3 := Lib.hid (blk0 s_2.out q)
            have a_3 := Lib.hid (blk0 a_2.out q)
            have Rb_3 := Lib.hid (rd0 Rb_2.out q)
            have B3 := Lib.hid (bel0 B2.out B2.out.size q)
            clear q s_2 a_2 Rb_2 B2
            clear L2_0 L2_1 L2_2 L2_3 L2_4 L2_5 L2_6 L2_7 L2_8 L2_9 L2_10 L3_0 L3_1 L3_2 L3_3 L3_4 L3_5
            have L4_0 : (x3.alloc (.cells #[.int .i64 b, .int .i64 c, .int .i64 d, .int .i64 m0, .int .i64 m1, .int .i64 m2, .int .i64 p, .int .i64 3, .int .i64 (j : Int), .int .i64 4, .int .i64 3] 26)).cell? ⟨x3.heap.size, 0, none⟩ = some (.int .i64 b) := (cellsB (i := 0) (heap_alloc_new x3 (.cells #[.int .i64 b, .int .i64 c, .int .i64 d, .int .i64 m0, .int .i64 m1, .int .i64 m2, .int .i64 p, .int .i64 3, .int .i64 (j : Int), .int .i64 4, .int .i64 3] 26))).trans rfl
            have L4_1 : (x3.alloc (.cells #[.int .i64 b, .int .i64 c, .int .i64 d, .int .i64 m0, .int .i64 m1, .int .i64 m2, .int .i64 p, .int .i64 3, .int .i64 (j : Int), .int .i64 4, .int .i64 3] 26)).cell? ⟨x3.heap.size, 1, none⟩ = some (.int .i64 c) := (cellsB (i := 1) (heap_alloc_new x3 (.cells #[.int .i64 b, .int .i64 c, .int .i64 d, .int .i64 m0, .int .i64 m1, .int .i64 m2, .int .i64 p, .int .i64 3, .int .i64 (j : Int), .int .i64 4, .int .i64 3] 26))).trans rfl
            have L4_2 : (x3.alloc (.cells #[.int .i64 b, .int .i64 c, .int .i64 d, .int .i64 m0, .int .i64 m1, .int .i64 m2, .int .i64 p, .int .i64 3, .int .i64 (j : Int), .int .i64 4, .int .i64 3] 26)).cell? ⟨x3.heap.size, 2, none⟩ = some (.int .i64 d) := (cellsB (i := 2) (heap_alloc_new x3 (.cells #[.int .i64 b, .int .i64 c, .int .i64 d, .int .i64 m0, .int .i64 m1, .int .i64 m2, .int .i64 p, .int .i64 3, .int .i64 (j : Int), .int .i64 4, .int .i64 3] 26))).trans rfl
            have L4_3 : (x3.alloc (.cells #[.int .i64 b, .int .i64 c, .int .i64 d, .int .i64 m0, .int .i64 m1, .int .i64 m2, .int .i64 p, .int .i64 3, .int .i64 (j : Int), .int .i64 4, .int .i64 3] 26)).cell? ⟨x3.heap.size, 3, none⟩ = some (.int .i64 m0) := (cellsB (i := 3) (heap_alloc_new x3 (.cells #[.int .i64 b, .int .i64 c, .int .i64 d, .int .i64 m0, .int .i64 m1, .int .i64 m2, .int .i64 p, .int .i64 3, .int .i64 (j : Int), .int .i64 4, .int .i64 3] 26))).trans rfl
            have L4_4 : (x3.alloc (.cells #[.int .i64 b, .int .i64 c, .int .i64 d, .int .i64 m0, .int .i64 m1, .int .i64 m2, .int .i64 p, .int .i64 3, .int .i64 (j : Int), .int .i64 4, .int .i64 3] 26)).cell? ⟨x3.heap.size, 4, none⟩ = some (.int .i64 m1) := (cellsB (i := 4) (heap_alloc_new x3 (.cells #[.int .i64 b, .int .i64 c, .int .i64 d, .int .i64 m0, .int .i64 m1, .int .i64 m2, .int .i64 p, .int .i64 3, .int .i64 (j : Int), .int .i64 4, .int .i64 3] 26))).trans rfl
            have L4_5 : (x3.alloc (.cells #[.int .i64 b, .int .i64 c, .int .i64 d, .int .i64 m0, .int .i64 m1, .int .i64 m2, .int .i64 p, .int .i64 3, .int .i64 (j : Int), .int .i64 4, .int .i64 3] 26)).cell? ⟨x3.heap.size, 5, none⟩ = some (.int .i64 m2) := (cellsB (i := 5) (heap_alloc_new x3 (.cells #[.int .i64 b, .int .i64 c, .int .i64 d, .int .i64 m0, .int .i64 m1, .int .i64 m2, .int .i64 p, .int .i64 3, .int .i64 (j : Int), .int .i64 4, .int .i64 3] 26))).trans rfl
            have L4_6 : (x3.alloc (.cells #[.int .i64 b, .int .i64 c, .int .i64 d, .int .i64 m0, .int .i64 m1, .int .i64 m2, .int .i64 p, .int .i64 3, .int .i64 (j : Int), .int .i64 4, .int .i64 3] 26)).cell? ⟨x3.heap.size, 6, none⟩ = some (.int .i64 p) := (cellsB (i := 6) (heap_alloc_new x3 (.cells #[.int .i64 b, .int .i64 c, .int .i64 d, .int .i64 m0, .int .i64 m1, .int .i64 m2, .int .i64 p, .int .i64 3, .int .i64 (j : Int), .int .i64 4, .int .i64 3] 26))).trans rfl
            have L4_7 : (x3.alloc (.cells #[.int .i64 b, .int .i64 c, .int .i64 d, .int .i64 m0, .int .i64 m1, .int .i64 m2, .int .i64 p, .int .i64 3, .int .i64 (j : Int), .int .i64 4, .int .i64 3] 26)).cell? ⟨x3.heap.size, 7, none⟩ = some (.int .i64 3) := (cellsB (i := 7) (heap_alloc_new x3 (.cells #[.int .i64 b, .int .i64 c, .int .i64 d, .int .i64 m0, .int .i64 m1, .int .i64 m2, .int .i64 p, .int .i64 3, .int .i64 (j : Int), .int .i64 4, .int .i64 3] 26))).trans rfl
            have L4_8 : (x3.alloc (.cells #[.int .i64 b, .int .i64 c, .int .i64 d, .int .i64 m0, .int .i64 m1, .int .i64 m2, .int .i64 p, .int .i64 3, .int .i64 (j : Int), .int .i64 4, .int .i64 3] 26)).cell? ⟨x3.heap.size, 8, none⟩ = some (.int .i64 (j : Int)) := (cellsB (i := 8) (heap_alloc_new x3 (.cells #[.int .i64 b, .int .i64 c, .int .i64 d, .int .i64 m0, .int .i64 m1, .int .i64 m2, .int .i64 p, .int .i64 3, .int .i64 (j : Int), .int .i64 4, .int .i64 3] 26))).trans rfl
            have L4_9 : (x3.alloc (.cells #[.int .i64 b, .int .i64 c, .int .i64 d, .int .i64 m0, .int .i64 m1, .int .i64 m2, .int .i64 p, .int .i64 3, .int .i64 (j : Int), .int .i64 4, .int .i64 3] 26)).cell? ⟨x3.heap.size, 9, none⟩ = some (.int .i64 4) := (cellsB (i := 9) (heap_alloc_new x3 (.cells #[.int .i64 b, .int .i64 c, .int .i64 d, .int .i64 m0, .int .i64 m1, .int .i64 m2, .int .i64 p, .int .i64 3, .int .i64 (j : Int), .int .i64 4, .int .i64 3] 26))).trans rfl
            have L4_10 : (x3.alloc (.cells #[.int .i64 b, .int .i64 c, .int .i64 d, .int .i64 m0, .int .i64 m1, .int .i64 m2, .int .i64 p, .int .i64 3, .int .i64 (j : Int), .int .i64 4, .int .i64 3] 26)).cell? ⟨x3.heap.size, 10, none⟩ = some (.int .i64 3) := (cellsB (i := 10) (heap_alloc_new x3 (.cells #[.int .i64 b, .int .i64 c, .int .i64 d, .int .i64 m0, .int .i64 m1, .int .i64 m2, .int .i64 p, .int .i64 3, .int .i64 (j : Int), .int .i64 4, .int .i64 3] 26))).trans rfl
            have L5_0 : (x3.alloc (.cells #[.int .i64 b, .int .i64 c, .int .i64 d, .int .i64 m0, .int .i64 m1, .int .i64 m2, .int .i64 p, .int .i64 3, .int .i64 (j : Int), .int .i64 4, .int .i64 3] 26)).cell? ⟨w2.heap.size, 0, none⟩ = some (.int .i64 b) := (cellsB (i := 0) (alc (o := (.cells #[.int .i64 b, .int .i64 c, .int .i64 d, .int .i64 m0, .int .i64 m1, .int .i64 m2, .int .i64 p, .int .i64 3, .int .i64 (j : Int), .int .i64 4, .int .i64 3] 26)) s_3.out)).trans rfl
            have L5_1 : (x3.alloc (.cells #[.int .i64 b, .int .i64 c, .int .i64 d, .int .i64 m0, .int .i64 m1, .int .i64 m2, .int .i64 p, .int .i64 3, .int .i64 (j : Int), .int .i64 4, .int .i64 3] 26)).cell? ⟨w2.heap.size, 1, none⟩ = some (.int .i64 c) := (cellsB (i := 1) (alc (o := (.cells #[.int .i64 b, .int .i64 c, .int .i64 d, .int .i64 m0, .int .i64 m1, .int .i64 m2, .int .i64 p, .int .i64 3, .int .i64 (j : Int), .int .i64 4, .int .i64 3] 26)) s_3.out)).trans rfl
            have L5_2 : (x3.alloc (.cells #[.int .i64 b, .int .i64 c, .int .i64 d, .int .i64 m0, .int .i64 m1, .int .i64 m2, .int .i64 p, .int .i64 3, .int .i64 (j : Int), .int .i64 4, .int .i64 3] 26)).cell? ⟨w2.heap.size, 2, none⟩ = some (.int .i64 d) := (cellsB (i := 2) (alc (o := (.cells #[.int .i64 b, .int .i64 c, .int .i64 d, .int .i64 m0, .int .i64 m1, .int .i64 m2, .int .i64 p, .int .i64 3, .int .i64 (j : Int), .int .i64 4, .int .i64 3] 26)) s_3.out)).trans rfl
            have L5_3 : (x3.alloc (.cells #[.int .i64 b, .int .i64 c, .int .i64 d, .int .i64 m0, .int .i64 m1, .int .i64 m2, .int .i64 p, .int .i64 3, .int .i64 (j : Int), .int .i64 4, .int .i64 3] 26)).cell? ⟨w2.heap.size, 3, none⟩ = some (.int .i64 m0) := (cellsB (i := 3) (alc (o := (.cells #[.int .i64 b, .int .i64 c, .int .i64 d, .int .i64 m0, .int .i64 m1, .int .i64 m2, .int .i64 p, .int .i64 3, .int .i64 (j : Int), .int .i64 4, .int .i64 3] 26)) s_3.out)).trans rfl
            have L5_4 : (x3.alloc (.cells #[.int .i64 b, .int .i64 c, .int .i64 d, .int .i64 m0, .int .i64 m1, .int .i64 m2, .int .i64 p, .int .i64 3, .int .i64 (j : Int), .int .i64 4, .int .i64 3] 26)).cell? ⟨w2.heap.size, 4, none⟩ = some (.int .i64 m1) := (cellsB (i := 4) (alc (o := (.cells #[.int .i64 b, .int .i64 c, .int .i64 d, .int .i64 m0, .int .i64 m1, .int .i64 m2, .int .i64 p, .int .i64 3, .int .i64 (j : Int), .int .i64 4, .int .i64 3] 26)) s_3.out)).trans rfl
            have L5_5 : (x3.alloc (.cells #[.int .i64 b, .int .i64 c, .int .i64 d, .int .i64 m0, .int .i64 m1, .int .i64 m2, .int .i64 p, .int .i64 3, .int .i64 (j : Int), .int .i64 4, .int .i64 3] 26)).cell? ⟨w2.heap.size, 5, none⟩ = some (.int .i64 m2) := (cellsB (i := 5) (alc (o := (.cells #[.int .i64 b, .int .i64 c, .int .i64 d, .int .i64 m0, .int .i64 m1, .int .i64 m2, .int .i64 p, .int .i64 3, .int .i64 (j : Int), .int .i64 4, .int .i64 3] 26)) s_3.out)).trans rfl
            have L5_6 : (x3.alloc (.cells #[.int .i64 b, .int .i64 c, .int .i64 d, .int .i64 m0, .int .i64 m1, .int .i64 m2, .int .i64 p, .int .i64 3, .int .i64 (j : Int), .int .i64 4, .int .i64 3] 26)).cell? ⟨w2.heap.size, 6, none⟩ = some (.int .i64 p) := (cellsB (i := 6) (alc (o := (.cells #[.int .i64 b, .int .i64 c, .int .i64 d, .int .i64 m0, .int .i64 m1, .int .i64 m2, .int .i64 p, .int .i64 3, .int .i64 (j : Int), .int .i64 4, .int .i64 3] 26)) s_3.out)).trans rfl
            have L5_7 : (x3.alloc (.cells #[.int .i64 b, .int .i64 c, .int .i64 d, .int .i64 m0, .int .i64 m1, .int .i64 m2, .int .i64 p, .int .i64 3, .int .i64 (j : Int), .int .i64 4, .int .i64 3] 26)).cell? ⟨w2.heap.size, 7, none⟩ = some (.int .i64 3) := (cellsB (i := 7) (alc (o := (.cells #[.int .i64 b, .int .i64 c, .int .i64 d, .int .i64 m0, .int .i64 m1, .int .i64 m2, .int .i64 p, .int .i64 3, .int .i64 (j : Int), .int .i64 4, .int .i64 3] 26)) s_3.out)).trans rfl
            have L5_8 : (x3.alloc (.cells #[.int .i64 b, .int .i64 c, .int .i64 d, .int .i64 m0, .int .i64 m1, .int .i64 m2, .int .i64 p, .int .i64 3, .int .i64 (j : Int), .int .i64 4, .int .i64 3] 26)).cell? ⟨w2.heap.size, 8, none⟩ = some (.int .i64 (j : Int)) := (cellsB (i := 8) (alc (o := (.cells #[.int .i64 b, .int .i64 c, .int .i64 d, .int .i64 m0, .int .i64 m1, .int .i64 m2, .int .i64 p, .int .i64 3, .int .i64 (j : Int), .int .i64 4, .int .i64 3] 26)) s_3.out)).trans rfl
            have L5_9 : (x3.alloc (.cells #[.int .i64 b, .int .i64 c, .int .i64 d, .int .i64 m0, .int .i64 m1, .int .i64 m2, .int .i64 p, .int .i64 3, .int .i64 (j : Int), .int .i64 4, .int .i64 3] 26)).cell? ⟨w2.heap.size, 9, none⟩ = some (.int .i64 4) := (cellsB (i := 9) (alc (o := (.cells #[.int .i64 b, .int .i64 c, .int .i64 d, .int .i64 m0, .int .i64 m1, .int .i64 m2, .int .i64 p, .int .i64 3, .int .i64 (j : Int), .int .i64 4, .int .i64 3] 26)) s_3.out)).trans rfl
            have L5_10 : (x3.alloc (.cells #[.int .i64 b, .int .i64 c, .int .i64 d, .int .i64 m0, .int .i64 m1, .int .i64 m2, .int .i64 p, .int .i64 3, .int .i64 (j : Int), .int .i64 4, .int .i64 3] 26)).cell? ⟨w2.heap.size, 10, none⟩ = some (.int .i64 3) := (cellsB (i := 10) (alc (o := (.cells #[.int .i64 b, .int .i64 c, .int .i64 d, .int .i64 m0, .int .i64 m1, .int .i64 m2, .int .i64 p, .int .i64 3, .int .i64 (j : Int), .int .i64 4, .int .i64 3] 26)) s_3.out)).trans rfl
            have L6_0 : (x3.alloc (.cells #[.int .i64 b, .int .i64 c, .int .i64 d, .int .i64 m0, .int .i64 m1, .int .i64 m2, .int .i64 p, .int .i64 3, .int .i64 (j : Int), .int .i64 4, .int .i64 3] 26)).cell? ⟨x1.heap.size, 0, none⟩ = some (.int .i64 a.node) := (cellsB (i := 0) (alc (o := (.cells #[.int .i64 b, .int .i64 c, .int .i64 d, .int .i64 m0, .int .i64 m1, .int .i64 m2, .int .i64 p, .int .i64 3, .int .i64 (j : Int), .int .i64 4, .int .i64 3] 26)) a_3.out)).trans rfl
            have L6_1 : (x3.alloc (.cells #[.int .i64 b, .int .i64 c, .int .i64 d, .int .i64 m0, .int .i64 m1, .int .i64 m2, .int .i64 p, .int .i64 3, .int .i64 (j : Int), .int .i64 4, .int .i64 3] 26)).cell? ⟨x1.heap.size, 1, none⟩ = some (.int .i64 a.kind) := (cellsB (i := 1) (alc (o := (.cells #[.int .i64 b, .int .i64 c, .int .i64 d, .int .i64 m0, .int .i64 m1, .int .i64 m2, .int .i64 p, .int .i64 3, .int .i64 (j : Int), .int .i64 4, .int .i64 3] 26)) a_3.out)).trans rfl
            have L6_2 : (x3.alloc (.cells #[.int .i64 b, .int .i64 c, .int .i64 d, .int .i64 m0, .int .i64 m1, .int .i64 m2, .int .i64 p, .int .i64 3, .int .i64 (j : Int), .int .i64 4, .int .i64 3] 26)).cell? ⟨x1.heap.size, 2, none⟩ = some (.int .i64 a.book) := (cellsB (i := 2) (alc (o := (.cells #[.int .i64 b, .int .i64 c, .int .i64 d, .int .i64 m0, .int .i64 m1, .int .i64 m2, .int .i64 p, .int .i64 3, .int .i64 (j : Int), .int .i64 4, .int .i64 3] 26)) a_3.out)).trans rfl
            have L6_3 : (x3.alloc (.cells #[.int .i64 b, .int .i64 c, .int .i64 d, .int .i64 m0, .int .i64 m1, .int .i64 m2, .int .i64 p, .int .i64 3, .int .i64 (j : Int), .int .i64 4, .int .i64 3] 26)).cell? ⟨x1.heap.size, 3, none⟩ = some (.int .i64 a.units) := (cellsB (i := 3) (alc (o := (.cells #[.int .i64 b, .int .i64 c, .int .i64 d, .int .i64 m0, .int .i64 m1, .int .i64 m2, .int .i64 p, .int .i64 3, .int .i64 (j : Int), .int .i64 4, .int .i64 3] 26)) a_3.out)).trans rfl
            have L6_4 : (x3.alloc (.cells #[.int .i64 b, .int .i64 c, .int .i64 d, .int .i64 m0, .int .i64 m1, .int .i64 m2, .int .i64 p, .int .i64 3, .int .i64 (j : Int), .int .i64 4, .int .i64 3] 26)).cell? ⟨x1.heap.size, 4, none⟩ = some (.int .i64 a.cust) := (cellsB (i := 4) (alc (o := (.cells #[.int .i64 b, .int .i64 c, .int .i64 d, .int .i64 m0, .int .i64 m1, .int .i64 m2, .int .i64 p, .int .i64 3, .int .i64 (j : Int), .int .i64 4, .int .i64 3] 26)) a_3.out)).trans rfl
            have L6_5 : (x3.alloc (.cells #[.int .i64 b, .int .i64 c, .int .i64 d, .int .i64 m0, .int .i64 m1, .int .i64 m2, .int .i64 p, .int .i64 3, .int .i64 (j : Int), .int .i64 4, .int .i64 3] 26)).cell? ⟨x1.heap.size, 5, none⟩ = some (.int .i64 a.amount) := (cellsB (i := 5) (alc (o := (.cells #[.int .i64 b, .int .i64 c, .int .i64 d, .int .i64 m0, .int .i64 m1, .int .i64 m2, .int .i64 p, .int .i64 3, .int .i64 (j : Int), .int .i64 4, .int .i64 3] 26)) a_3.out)).trans rfl
            go_wp2_with fail
            by_cases hj1 : j + 1 < m
            · have H6 := Lib.hid (fun W => ans_is (ans_3 ⟨b, c, d, m0, m1, m2, p⟩ j 4 3 a HX.out tk re4 (by rw [HRL.out]; exact HAA.out) (by rw [HRL.out, HMN.out]; exact hj1)) W)
              simp only [S11.val, A6.val] at H6
              refine (H6.out _).mono ?_
              rintro e x4 ⟨rfl, q⟩
              have s_4 := Lib.hid (blk1 s_3.out q)
              have a_4 := Lib.hid (blk1 a_3.out q)
              have t_4 := Lib.hid (new1 q)
              have Rb_4 := Lib.hid (rd1 Rb_3.out q)
              have B4 := Lib.hid (bel1 B3.out B3.out.size q)
              clear q s_3 a_3 Rb_3 B3
              clear L4_0 L4_1 L4_2 L4_3 L4_4 L4_5 L4_6 L4_7 L4_8 L4_9 L4_10 L5_0 L5_1 L5_2 L5_3 L5_4 L5_5 L5_6 L5_7 L5_8 L5_9 L5_10 L6_0 L6_1 L6_2 L6_3 L6_4 L6_5
              clear a_4
              clear t_4
              have L7_0 : x4.cell? ⟨w2.heap.size, 0, none⟩ = some (.int .i64 b) := (cellsB (i := 0) s_4.out).trans rfl
              have F7_0 : x4.frozen? ⟨w2.heap.size, 0, none⟩ = false := frozB s_4.out
              have L7_1 : x4.cell? ⟨w2.heap.size, 1, none⟩ = some (.int .i64 c) := (cellsB (i := 1) s_4.out).trans rfl
              have F7_1 : x4.frozen? ⟨w2.heap.size, 1, none⟩ = false := frozB s_4.out
              have L7_2 : x4.cell? ⟨w2.heap.size, 2, none⟩ = some (.int .i64 d) := (cellsB (i := 2) s_4.out).trans rfl
              have F7_2 : x4.frozen? ⟨w2.heap.size, 2, none⟩ = false := frozB s_4.out
              have L7_3 : x4.cell? ⟨w2.heap.size, 3, none⟩ = some (.int .i64 m0) := (cellsB (i := 3) s_4.out).trans rfl
              have F7_3 : x4.frozen? ⟨w2.heap.size, 3, none⟩ = false := frozB s_4.out
              have L7_4 : x4.cell? ⟨w2.heap.size, 4, none⟩ = some (.int .i64 m1) := (cellsB (i := 4) s_4.out).trans rfl
              have F7_4 : x4.frozen? ⟨w2.heap.size, 4, none⟩ = false := frozB s_4.out
              have L7_5 : x4.cell? ⟨w2.heap.size, 5, none⟩ = some (.int .i64 m2) := (cellsB (i := 5) s_4.out).trans rfl
              have F7_5 : x4.frozen? ⟨w2.heap.size, 5, none⟩ = false := frozB s_4.out
              have L7_6 : x4.cell? ⟨w2.heap.size, 6, none⟩ = some (.int .i64 p) := (cellsB (i := 6) s_4.out).trans rfl
              have F7_6 : x4.frozen? ⟨w2.heap.size, 6, none⟩ = false := frozB s_4.out
              have L7_7 : x4.cell? ⟨w2.heap.size, 7, none⟩ = some (.int .i64 3) := (cellsB (i := 7) s_4.out).trans rfl
              have F7_7 : x4.frozen? ⟨w2.heap.size, 7, none⟩ = false := frozB s_4.out
              have L7_8 : x4.cell? ⟨w2.heap.size, 8, none⟩ = some (.int .i64 (j : Int)) := (cellsB (i := 8) s_4.out).trans rfl
              have F7_8 : x4.frozen? ⟨w2.heap.size, 8, none⟩ = false := frozB s_4.out
              have L7_9 : x4.cell? ⟨w2.heap.size, 9, none⟩ = some (.int .i64 4) := (cellsB (i := 9) s_4.out).trans rfl
              have F7_9 : x4.frozen? ⟨w2.heap.size, 9, none⟩ = false := frozB s_4.out
              have L7_10 : x4.cell? ⟨w2.heap.size, 10, none⟩ = some (.int .i64 3) := (cellsB (i := 10) s_4.out).trans rfl
              have F7_10 : x4.frozen? ⟨w2.heap.size, 10, none⟩ = false := frozB s_4.out
              have ss8 : Hid ((st11 x4 w2.heap.size (.int .i64 b) (.int .i64 c) (.int .i64 d) (.int .i64 m0) (.int .i64 m1) (.int .i64 m2) (.int .i64 p) (.int .i64 3) (.int .i64 ((j + 1 : Nat) : Int)) (.int .i64 4) (.int .i64 3)).heap[w2.heap.size]? = some (.cells #[.int .i64 b, .int .i64 c, .int .i64 d, .int .i64 m0, .int .i64 m1, .int .i64 m2, .int .i64 p, .int .i64 3, .int .i64 ((j + 1 : Nat) : Int), .int .i64 4, .int .i64 3] 26 (0, 0))) := Lib.hid (st11_at s_4.out)
              have Rbs8 : Hid (Rd (st11 x4 w2.heap.size (.int .i64 b) (.int .i64 c) (.int .i64 d) (.int .i64 m0) (.int .i64 m1) (.int .i64 m2) (.int .i64 p) (.int .i64 3) (.int .i64 ((j + 1 : Nat) : Int)) (.int .i64 4) (.int .i64 3)) (st11 x4 w2.heap.size (.int .i64 b) (.int .i64 c) (.int .i64 d) (.int .i64 m0) (.int .i64 m1) (.int .i64 m2) (.int .i64 p) (.int .i64 3) (.int .i64 ((j + 1 : Nat) : Int)) (.int .i64 4) (.int .i64 3)).heap.size 6 (some ad) m (AC r)) := Lib.hid (by rw [st11_size]; exact rd_st11 Rb_4.out HNB.out)
              have Bs8 : Hid (Below w.heap.size w (st11 x4 w2.heap.size (.int .i64 b) (.int .i64 c) (.int .i64 d) (.int .i64 m0) (.int .i64 m1) (.int .i64 m2) (.int .i64 p) (.int .i64 3) (.int .i64 ((j + 1 : Nat) : Int)) (.int .i64 4) (.int .i64 3))) := Lib.hid (st11_below B4.out (by omega))
              unfold st11 at ss8 Rbs8 Bs8
              go_wp2
              go_roundw
              case rel => exact ⟨j + 1, _, _, by omega, by go_num, by intro _; exact ⟨rfl, rfl⟩, by intro h; omega, Lib.hid ⟨ss8.out, Rbs8.out, Bs8.out⟩⟩
              case measure => simp [intOf]; omega
            have H6 := Lib.hid (fun W => ans_is (ans_3l ⟨b, c, d, m0, m1, m2, p⟩ j 4 3 a HX.out tk re4 (by rw [HRL.out]; exact HAA.out) (by rw [HRL.out, HMN.out]; omega)) W)
            simp only [S11.val, A6.val] at H6
            refine (H6.out _).mono ?_
            rintro e x4 ⟨rfl, q⟩
            have s_4 := Lib.hid (blk1 s_3.out q)
            have a_4 := Lib.hid (blk1 a_3.out q)
            have t_4 := Lib.hid (new1 q)
            have Rb_4 := Lib.hid (rd1 Rb_3.out q)
            have B4 := Lib.hid (bel1 B3.out B3.out.size q)
            clear q s_3 a_3 Rb_3 B3
            clear L4_0 L4_1 L4_2 L4_3 L4_4 L4_5 L4_6 L4_7 L4_8 L4_9 L4_10 L5_0 L5_1 L5_2 L5_3 L5_4 L5_5 L5_6 L5_7 L5_8 L5_9 L5_10 L6_0 L6_1 L6_2 L6_3 L6_4 L6_5
            clear a_4
            clear t_4
            have L7_0 : x4.cell? ⟨w2.heap.size, 0, none⟩ = some (.int .i64 b) := (cellsB (i := 0) s_4.out).trans rfl
            have F7_0 : x4.frozen? ⟨w2.heap.size, 0, none⟩ = false := frozB s_4.out
            have L7_1 : x4.cell? ⟨w2.heap.size, 1, none⟩ = some (.int .i64 c) := (cellsB (i := 1) s_4.out).trans rfl
            have F7_1 : x4.frozen? ⟨w2.heap.size, 1, none⟩ = false := frozB s_4.out
            have L7_2 : x4.cell? ⟨w2.heap.size, 2, none⟩ = some (.int .i64 d) := (cellsB (i := 2) s_4.out).trans rfl
            have F7_2 : x4.frozen? ⟨w2.heap.size, 2, none⟩ = false := frozB s_4.out
            have L7_3 : x4.cell? ⟨w2.heap.size, 3, none⟩ = some (.int .i64 m0) := (cellsB (i := 3) s_4.out).trans rfl
            have F7_3 : x4.frozen? ⟨w2.heap.size, 3, none⟩ = false := frozB s_4.out
            have L7_4 : x4.cell? ⟨w2.heap.size, 4, none⟩ = some (.int .i64 m1) := (cellsB (i := 4) s_4.out).trans rfl
            have F7_4 : x4.frozen? ⟨w2.heap.size, 4, none⟩ = false := frozB s_4.out
            have L7_5 : x4.cell? ⟨w2.heap.size, 5, none⟩ = some (.int .i64 m2) := (cellsB (i := 5) s_4.out).trans rfl
            have F7_5 : x4.frozen? ⟨w2.heap.size, 5, none⟩ = false := frozB s_4.out
            have L7_6 : x4.cell? ⟨w2.heap.size, 6, none⟩ = some (.int .i64 p) := (cellsB (i := 6) s_4.out).trans rfl
            have F7_6 : x4.frozen? ⟨w2.heap.size, 6, none⟩ = false := frozB s_4.out
            have L7_7 : x4.cell? ⟨w2.heap.size, 7, none⟩ = some (.int .i64 3) := (cellsB (i := 7) s_4.out).trans rfl
            have F7_7 : x4.frozen? ⟨w2.heap.size, 7, none⟩ = false := frozB s_4.out
            have L7_8 : x4.cell? ⟨w2.heap.size, 8, none⟩ = some (.int .i64 (j : Int)) := (cellsB (i := 8) s_4.out).trans rfl
            have F7_8 : x4.frozen? ⟨w2.heap.size, 8, none⟩ = false := frozB s_4.out
            have L7_9 : x4.cell? ⟨w2.heap.size, 9, none⟩ = some (.int .i64 4) := (cellsB (i := 9) s_4.out).trans rfl
            have F7_9 : x4.frozen? ⟨w2.heap.size, 9, none⟩ = false := frozB s_4.out
            have L7_10 : x4.cell? ⟨w2.heap.size, 10, none⟩ = some (.int .i64 3) := (cellsB (i := 10) s_4.out).trans rfl
            have F7_10 : x4.frozen? ⟨w2.heap.size, 10, none⟩ = false := frozB s_4.out
            have ss8 : Hid ((st11 x4 w2.heap.size (.int .i64 b) (.int .i64 c) (.int .i64 d) (.int .i64 m0) (.int .i64 m1) (.int .i64 m2) (.int .i64 p) (.int .i64 5) (.int .i64 0) (.int .i64 4) (.int .i64 3)).heap[w2.heap.size]? = some (.cells #[.int .i64 b, .int .i64 c, .int .i64 d, .int .i64 m0, .int .i64 m1, .int .i64 m2, .int .i64 p, .int .i64 5, .int .i64 0, .int .i64 4, .int .i64 3] 26 (0, 0))) := Lib.hid (st11_at s_4.out)
            have Rbs8 : Hid (Rd (st11 x4 w2.heap.size (.int .i64 b) (.int .i64 c) (.int .i64 d) (.int .i64 m0) (.int .i64 m1) (.int .i64 m2) (.int .i64 p) (.int .i64 5) (.int .i64 0) (.int .i64 4) (.int .i64 3)) (st11 x4 w2.heap.size (.int .i64 b) (.int .i64 c) (.int .i64 d) (.int .i64 m0) (.int .i64 m1) (.int .i64 m2) (.int .i64 p) (.int .i64 5) (.int .i64 0) (.int .i64 4) (.int .i64 3)).heap.size 6 (some ad) m (AC r)) := Lib.hid (by rw [st11_size]; exact rd_st11 Rb_4.out HNB.out)
            have Bs8 : Hid (Below w.heap.size w (st11 x4 w2.heap.size (.int .i64 b) (.int .i64 c) (.int .i64 d) (.int .i64 m0) (.int .i64 m1) (.int .i64 m2) (.int .i64 p) (.int .i64 5) (.int .i64 0) (.int .i64 4) (.int .i64 3))) := Lib.hid (st11_below B4.out (by omega))
            unfold st11 at ss8 Rbs8 Bs8
            go_wp2
            go_roundw
            case rel => exact ⟨j + 1, _, _, by omega, by go_num, by intro h; omega, by intro _; exact ⟨rfl, rfl⟩, Lib.hid ⟨ss8.out, Rbs8.out, Bs8.out⟩⟩
            case measure => simp [intOf]; omega
          have hsq2 : (sb2 == 1) = false := beq_eq_false_iff_ne.2 hsq
          go_wp2_with fail
          by_cases hj1 : j + 1 < m
          · have H6 := Lib.hid (fun W => ans_is (ans_3 ⟨b, c, d, m0, m1, m2, p⟩ j 4 3 a HX.out tk re4 (by rw [HRL.out]; exact HAA.out) (by rw [HRL.out, HMN.out]; exact hj1)) W)
            simp only [S11.val, A6.val] at H6
            refine (H6.out _).mono ?_
            rintro e x3 ⟨rfl, q⟩
            have s_3 := Lib.hid (blk0 s_2.out q)
            have a_3 := Lib.hid (blk0 a_2.out q)
            have Rb_3 := Lib.hid (rd0 Rb_2.out q)
            have B3 := Lib.hid (bel0 B2.out B2.out.size q)
            clear q s_2 a_2 Rb_2 B2
            clear L2_0 L2_1 L2_2 L2_3 L2_4 L2_5 L2_6 L2_7 L2_8 L2_9 L2_10 L3_0 L3_1 L3_2 L3_3 L3_4 L3_5
            clear a_3
            have L4_0 : x3.cell? ⟨w2.heap.size, 0, none⟩ = some (.int .i64 b) := (cellsB (i := 0) s_3.out).trans rfl
            have F4_0 : x3.frozen? ⟨w2.heap.size, 0, none⟩ = false := frozB s_3.out
            have L4_1 : x3.cell? ⟨w2.heap.size, 1, none⟩ = some (.int .i64 c) := (cellsB (i := 1) s_3.out).trans rfl
            have F4_1 : x3.frozen? ⟨w2.heap.size, 1, none⟩ = false := frozB s_3.out
            have L4_2 : x3.cell? ⟨w2.heap.size, 2, none⟩ = some (.int .i64 d) := (cellsB (i := 2) s_3.out).trans rfl
            have F4_2 : x3.frozen? ⟨w2.heap.size, 2, none⟩ = false := frozB s_3.out
            have L4_3 : x3.cell? ⟨w2.heap.size, 3, none⟩ = some (.int .i64 m0) := (cellsB (i := 3) s_3.out).trans rfl
            have F4_3 : x3.frozen? ⟨w2.heap.size, 3, none⟩ = false := frozB s_3.out
            have L4_4 : x3.cell? ⟨w2.heap.size, 4, none⟩ = some (.int .i64 m1) := (cellsB (i := 4) s_3.out).trans rfl
            have F4_4 : x3.frozen? ⟨w2.heap.size, 4, none⟩ = false := frozB s_3.out
            have L4_5 : x3.cell? ⟨w2.heap.size, 5, none⟩ = some (.int .i64 m2) := (cellsB (i := 5) s_3.out).trans rfl
            have F4_5 : x3.frozen? ⟨w2.heap.size, 5, none⟩ = false := frozB s_3.out
            have L4_6 : x3.cell? ⟨w2.heap.size, 6, none⟩ = some (.int .i64 p) := (cellsB (i := 6) s_3.out).trans rfl
            have F4_6 : x3.frozen? ⟨w2.heap.size, 6, none⟩ = false := frozB s_3.out
            have L4_7 : x3.cell? ⟨w2.heap.size, 7, none⟩ = some (.int .i64 3) := (cellsB (i := 7) s_3.out).trans rfl
            have F4_7 : x3.frozen? ⟨w2.heap.size, 7, none⟩ = false := frozB s_3.out
            have L4_8 : x3.cell? ⟨w2.heap.size, 8, none⟩ = some (.int .i64 (j : Int)) := (cellsB (i := 8) s_3.out).trans rfl
            have F4_8 : x3.frozen? ⟨w2.heap.size, 8, none⟩ = false := frozB s_3.out
            have L4_9 : x3.cell? ⟨w2.heap.size, 9, none⟩ = some (.int .i64 4) := (cellsB (i := 9) s_3.out).trans rfl
            have F4_9 : x3.frozen? ⟨w2.heap.size, 9, none⟩ = false := frozB s_3.out
            have L4_10 : x3.cell? ⟨w2.heap.size, 10, none⟩ = some (.int .i64 3) := (cellsB (i := 10) s_3.out).trans rfl
            have F4_10 : x3.frozen? ⟨w2.heap.size, 10, none⟩ = false := frozB s_3.out
            have ss5 : Hid ((st11 x3 w2.heap.size (.int .i64 b) (.int .i64 c) (.int .i64 d) (.int .i64 m0) (.int .i64 m1) (.int .i64 m2) (.int .i64 p) (.int .i64 3) (.int .i64 ((j + 1 : Nat) : Int)) (.int .i64 4) (.int .i64 3)).heap[w2.heap.size]? = some (.cells #[.int .i64 b, .int .i64 c, .int .i64 d, .int .i64 m0, .int .i64 m1, .int .i64 m2, .int .i64 p, .int .i64 3, .int .i64 ((j + 1 : Nat) : Int), .int .i64 4, .int .i64 3] 26 (0, 0))) := Lib.hid (st11_at s_3.out)
            have Rbs5 : Hid (Rd (st11 x3 w2.heap.size (.int .i64 b) (.int .i64 c) (.int .i64 d) (.int .i64 m0) (.int .i64 m1) (.int .i64 m2) (.int .i64 p) (.int .i64 3) (.int .i64 ((j + 1 : Nat) : Int)) (.int .i64 4) (.int .i64 3)) (st11 x3 w2.heap.size (.int .i64 b) (.int .i64 c) (.int .i64 d) (.int .i64 m0) (.int .i64 m1) (.int .i64 m2) (.int .i64 p) (.int .i64 3) (.int .i64 ((j + 1 : Nat) : Int)) (.int .i64 4) (.int .i64 3)).heap.size 6 (some ad) m (AC r)) := Lib.hid (by rw [st11_size]; exact rd_st11 Rb_3.out HNB.out)
            have Bs5 : Hid (Below w.heap.size w (st11 x3 w2.heap.size (.int .i64 b) (.int .i64 c) (.int .i64 d) (.int .i64 m0) (.int .i64 m1) (.int .i64 m2) (.int .i64 p) (.int .i64 3) (.int .i64 ((j + 1 : Nat) : Int)) (.int .i64 4) (.int .i64 3))) := Lib.hid (st11_below B3.out (by omega))
            unfold st11 at ss5 Rbs5 Bs5
            go_wp2
            go_roundw
            case rel => exact ⟨j + 1, _, _, by omega, by go_num, by intro _; exact ⟨rfl, rfl⟩, by intro h; omega, Lib.hid ⟨ss5.out, Rbs5.out, Bs5.out⟩⟩
            case measure => simp [intOf]; omega
          have H6 := Lib.hid (fun W => ans_is (ans_3l ⟨b, c, d, m0, m1, m2, p⟩ j 4 3 a HX.out tk re4 (by rw [HRL.out]; exact HAA.out) (by rw [HRL.out, HMN.out]; omega)) W)
          simp only [S11.val, A6.val] at H6
          refine (H6.out _).mono ?_
          rintro e x3 ⟨rfl, q⟩
          have s_3 := Lib.hid (blk0 s_2.out q)
          have a_3 := Lib.hid (blk0 a_2.out q)
          have Rb_3 := Lib.hid (rd0 Rb_2.out q)
          have B3 := Lib.hid (bel0 B2.out B2.out.size q)
          clear q s_2 a_2 Rb_2 B2
          clear L2_0 L2_1 L2_2 L2_3 L2_4 L2_5 L2_6 L2_7 L2_8 L2_9 L2_10 L3_0 L3_1 L3_2 L3_3 L3_4 L3_5
          clear a_3
          have L4_0 : x3.cell? ⟨w2.heap.size, 0, none⟩ = some (.int .i64 b) := (cellsB (i := 0) s_3.out).trans rfl
          have F4_0 : x3.frozen? ⟨w2.heap.size, 0, none⟩ = false := frozB s_3.out
          have L4_1 : x3.cell? ⟨w2.heap.size, 1, none⟩ = some (.int .i64 c) := (cellsB (i := 1) s_3.out).trans rfl
          have F4_1 : x3.frozen? ⟨w2.heap.size, 1, none⟩ = false := frozB s_3.out
          have L4_2 : x3.cell? ⟨w2.heap.size, 2, none⟩ = some (.int .i64 d) := (cellsB (i := 2) s_3.out).trans rfl
          have F4_2 : x3.frozen? ⟨w2.heap.size, 2, none⟩ = false := frozB s_3.out
          have L4_3 : x3.cell? ⟨w2.heap.size, 3, none⟩ = some (.int .i64 m0) := (cellsB (i := 3) s_3.out).trans rfl
          have F4_3 : x3.frozen? ⟨w2.heap.size, 3, none⟩ = false := frozB s_3.out
          have L4_4 : x3.cell? ⟨w2.heap.size, 4, none⟩ = some (.int .i64 m1) := (cellsB (i := 4) s_3.out).trans rfl
          have F4_4 : x3.frozen? ⟨w2.heap.size, 4, none⟩ = false := frozB s_3.out
          have L4_5 : x3.cell? ⟨w2.heap.size, 5, none⟩ = some (.int .i64 m2) := (cellsB (i := 5) s_3.out).trans rfl
          have F4_5 : x3.frozen? ⟨w2.heap.size, 5, none⟩ = false := frozB s_3.out
          have L4_6 : x3.cell? ⟨w2.heap.size, 6, none⟩ = some (.int .i64 p) := (cellsB (i := 6) s_3.out).trans rfl
          have F4_6 : x3.frozen? ⟨w2.heap.size, 6, none⟩ = false := frozB s_3.out
          have L4_7 : x3.cell? ⟨w2.heap.size, 7, none⟩ = some (.int .i64 3) := (cellsB (i := 7) s_3.out).trans rfl
          have F4_7 : x3.frozen? ⟨w2.heap.size, 7, none⟩ = false := frozB s_3.out
          have L4_8 : x3.cell? ⟨w2.heap.size, 8, none⟩ = some (.int .i64 (j : Int)) := (cellsB (i := 8) s_3.out).trans rfl
          have F4_8 : x3.frozen? ⟨w2.heap.size, 8, none⟩ = false := frozB s_3.out
          have L4_9 : x3.cell? ⟨w2.heap.size, 9, none⟩ = some (.int .i64 4) := (cellsB (i := 9) s_3.out).trans rfl
          have F4_9 : x3.frozen? ⟨w2.heap.size, 9, none⟩ = false := frozB s_3.out
          have L4_10 : x3.cell? ⟨w2.heap.size, 10, none⟩ = some (.int .i64 3) := (cellsB (i := 10) s_3.out).trans rfl
          have F4_10 : x3.frozen? ⟨w2.heap.size, 10, none⟩ = false := frozB s_3.out
          have ss5 : Hid ((st11 x3 w2.heap.size (.int .i64 b) (.int .i64 c) (.int .i64 d) (.int .i64 m0) (.int .i64 m1) (.int .i64 m2) (.int .i64 p) (.int .i64 5) (.int .i64 0) (.int .i64 4) (.int .i64 3)).heap[w2.heap.size]? = some (.cells #[.int .i64 b, .int .i64 c, .int .i64 d, .int .i64 m0, .int .i64 m1, .int .i64 m2, .int .i64 p, .int .i64 5, .int .i64 0, .int .i64 4, .int .i64 3] 26 (0, 0))) := Lib.hid (st11_at s_3.out)
          have Rbs5 : Hid (Rd (st11 x3 w2.heap.size (.int .i64 b) (.int .i64 c) (.int .i64 d) (.int .i64 m0) (.int .i64 m1) (.int .i64 m2) (.int .i64 p) (.int .i64 5) (.int .i64 0) (.int .i64 4) (.int .i64 3)) (st11 x3 w2.heap.size (.int .i64 b) (.int .i64 c) (.int .i64 d) (.int .i64 m0) (.int .i64 m1) (.int .i64 m2) (.int .i64 p) (.int .i64 5) (.int .i64 0) (.int .i64 4) (.int .i64 3)).heap.size 6 (some ad) m (AC r)) := Lib.hid (by rw [st11_size]; exact rd_st11 Rb_3.out HNB.out)
          have Bs5 : Hid (Below w.heap.size w (st11 x3 w2.heap.size (.int .i64 b) (.int .i64 c) (.int .i64 d) (.int .i64 m0) (.int .i64 m1) (.int .i64 m2) (.int .i64 p) (.int .i64 5) (.int .i64 0) (.int .i64 4) (.int .i64 3))) := Lib.hid (st11_below B3.out (by omega))
          unfold st11 at ss5 Rbs5 Bs5
          go_wp2
          go_roundw
          case rel => exact ⟨j + 1, _, _, by omega, by go_num, by intro h; omega, by intro _; exact ⟨rfl, rfl⟩, Lib.hid ⟨ss5.out, Rbs5.out, Bs5.out⟩⟩
          case measure => simp [intOf]; omega
        obtain rfl : j = m := by omega
        obtain ⟨rfl, rfl⟩ := h2 rfl
        clear h1 h2 Rb_0 HNB
        have my5 := may_5 ⟨b, c, d, m0, m1, m2, p⟩ 4 3 HX.out tk re4
        have H1 := Lib.hid (fun W => next_is (next_5 ⟨b, c, d, m0, m1, m2, p⟩ 0 4 3) W)
        have H2 := Lib.hid (fun W => tells_is (show tellS ⟨⟨b, c, d, m0, m1, m2, p⟩, 5, 0, 4, 3⟩ = 4 from by rw [tellS, if_neg (fun g => g my5), if_neg (by simp), if_pos rfl]) W)
        have H4 := Lib.hid (fun W => smay_is ⟨⟨b, c, d, m0, m1, m2, p⟩, 5, 0, 4, 3⟩ true (decide_eq_true my5) W)
        simp only [S11.val, A6.val, zA] at H1 H2 H4
        clear my5
        have L1_0 : wr.cell? ⟨w2.heap.size, 0, none⟩ = some (.int .i64 b) := (cellsB (i := 0) s_0.out).trans rfl
        have L1_1 : wr.cell? ⟨w2.heap.size, 1, none⟩ = some (.int .i64 c) := (cellsB (i := 1) s_0.out).trans rfl
        have L1_2 : wr.cell? ⟨w2.heap.size, 2, none⟩ = some (.int .i64 d) := (cellsB (i := 2) s_0.out).trans rfl
        have L1_3 : wr.cell? ⟨w2.heap.size, 3, none⟩ = some (.int .i64 m0) := (cellsB (i := 3) s_0.out).trans rfl
        have L1_4 : wr.cell? ⟨w2.heap.size, 4, none⟩ = some (.int .i64 m1) := (cellsB (i := 4) s_0.out).trans rfl
        have L1_5 : wr.cell? ⟨w2.heap.size, 5, none⟩ = some (.int .i64 m2) := (cellsB (i := 5) s_0.out).trans rfl
        have L1_6 : wr.cell? ⟨w2.heap.size, 6, none⟩ = some (.int .i64 p) := (cellsB (i := 6) s_0.out).trans rfl
        have L1_7 : wr.cell? ⟨w2.heap.size, 7, none⟩ = some (.int .i64 5) := (cellsB (i := 7) s_0.out).trans rfl
        have L1_8 : wr.cell? ⟨w2.heap.size, 8, none⟩ = some (.int .i64 0) := (cellsB (i := 8) s_0.out).trans rfl
        have L1_9 : wr.cell? ⟨w2.heap.size, 9, none⟩ = some (.int .i64 4) := (cellsB (i := 9) s_0.out).trans rfl
        have L1_10 : wr.cell? ⟨w2.heap.size, 10, none⟩ = some (.int .i64 3) := (cellsB (i := 10) s_0.out).trans rfl
        go_wp2_with fail
        refine (H1.out _).mono ?_
        rintro e x1 ⟨rfl, q⟩
        have s_1 := Lib.hid (blk0 s_0.out q)
        have B1 := Lib.hid (bel0 B0.out B0.out.size q)
        clear q s_0 B0
        clear L1_0 L1_1 L1_2 L1_3 L1_4 L1_5 L1_6 L1_7 L1_8 L1_9 L1_10
        go_wp2_with fail
        refine (T.out _).mono ?_
        rintro e x2 ⟨rfl, q⟩
        have s_2 := Lib.hid (blk1 s_1.out q)
        have y_2 := Lib.hid (new1 q)
        have B2 := Lib.hid (bel1 B1.out B1.out.size q)
        clear q s_1 B1
        have L2_0 : x2.cell? ⟨w2.heap.size, 0, none⟩ = some (.int .i64 b) := (cellsB (i := 0) s_2.out).trans rfl
        have L2_1 : x2.cell? ⟨w2.heap.size, 1, none⟩ = some (.int .i64 c) := (cellsB (i := 1) s_2.out).trans rfl
        have L2_2 : x2.cell? ⟨w2.heap.size, 2, none⟩ = some (.int .i64 d) := (cellsB (i := 2) s_2.out).trans rfl
        have L2_3 : x2.cell? ⟨w2.heap.size, 3, none⟩ = some (.int .i64 m0) := (cellsB (i := 3) s_2.out).trans rfl
        have L2_4 : x2.cell? ⟨w2.heap.size, 4, none⟩ = some (.int .i64 m1) := (cellsB (i := 4) s_2.out).trans rfl
        have L2_5 : x2.cell? ⟨w2.heap.size, 5, none⟩ = some (.int .i64 m2) := (cellsB (i := 5) s_2.out).trans rfl
        have L2_6 : x2.cell? ⟨w2.heap.size, 6, none⟩ = some (.int .i64 p) := (cellsB (i := 6) s_2.out).trans rfl
        have L2_7 : x2.cell? ⟨w2.heap.size, 7, none⟩ = some (.int .i64 5) := (cellsB (i := 7) s_2.out).trans rfl
        have L2_8 : x2.cell? ⟨w2.heap.size, 8, none⟩ = some (.int .i64 0) := (cellsB (i := 8) s_2.out).trans rfl
        have L2_9 : x2.cell? ⟨w2.heap.size, 9, none⟩ = some (.int .i64 4) := (cellsB (i := 9) s_2.out).trans rfl
        have L2_10 : x2.cell? ⟨w2.heap.size, 10, none⟩ = some (.int .i64 3) := (cellsB (i := 10) s_2.out).trans rfl
        go_wp2_with fail
        refine (H2.out _).mono ?_
        rintro e x3 ⟨rfl, q⟩
        have s_3 := Lib.hid (blk0 s_2.out q)
        have y_3 := Lib.hid (blk0 y_2.out q)
        have B3 := Lib.hid (bel0 B2.out B2.out.size q)
        clear q s_2 y_2 B2
        clear L2_0 L2_1 L2_2 L2_3 L2_4 L2_5 L2_6 L2_7 L2_8 L2_9 L2_10
        have L3_0 : x3.cell? ⟨w2.heap.size, 0, none⟩ = some (.int .i64 b) := (cellsB (i := 0) s_3.out).trans rfl
        have L3_1 : x3.cell? ⟨w2.heap.size, 1, none⟩ = some (.int .i64 c) := (cellsB (i := 1) s_3.out).trans rfl
        have L3_2 : x3.cell? ⟨w2.heap.size, 2, none⟩ = some (.int .i64 d) := (cellsB (i := 2) s_3.out).trans rfl
        have L3_3 : x3.cell? ⟨w2.heap.size, 3, none⟩ = some (.int .i64 m0) := (cellsB (i := 3) s_3.out).trans rfl
        have L3_4 : x3.cell? ⟨w2.heap.size, 4, none⟩ = some (.int .i64 m1) := (cellsB (i := 4) s_3.out).trans rfl
        have L3_5 : x3.cell? ⟨w2.heap.size, 5, none⟩ = some (.int .i64 m2) := (cellsB (i := 5) s_3.out).trans rfl
        have L3_6 : x3.cell? ⟨w2.heap.size, 6, none⟩ = some (.int .i64 p) := (cellsB (i := 6) s_3.out).trans rfl
        have L3_7 : x3.cell? ⟨w2.heap.size, 7, none⟩ = some (.int .i64 5) := (cellsB (i := 7) s_3.out).trans rfl
        have L3_8 : x3.cell? ⟨w2.heap.size, 8, none⟩ = some (.int .i64 0) := (cellsB (i := 8) s_3.out).trans rfl
        have L3_9 : x3.cell? ⟨w2.heap.size, 9, none⟩ = some (.int .i64 4) := (cellsB (i := 9) s_3.out).trans rfl
        have L3_10 : x3.cell? ⟨w2.heap.size, 10, none⟩ = some (.int .i64 3) := (cellsB (i := 10) s_3.out).trans rfl
        go_wp2_with fail
        refine (H4.out _).mono ?_
        rintro e x4 ⟨rfl, q⟩
        have s_4 := Lib.hid (blk0 s_3.out q)
        have y_4 := Lib.hid (blk0 y_3.out q)
        have B4 := Lib.hid (bel0 B3.out B3.out.size q)
        clear q s_3 y_3 B3
        clear L3_0 L3_1 L3_2 L3_3 L3_4 L3_5 L3_6 L3_7 L3_8 L3_9 L3_10
        go_wp2
        go_ret
        exact ⟨rfl, B4.out⟩
theorem undone_walk (x : W7) (at_ refuse : Int) (w : World) : Calls Try.prog 7 #[x.val, .int .i64 at_, .int .i64 refuse] w fun e w' => e = .returned (.bool true) ∧ Below w.heap.size w w' := by
  by_cases h : MayW x
  · exact undone_may x at_ refuse w h
  · exact undone_not x at_ refuse w h
end Go.Proofs.Ytplgodfhhlnojaa
