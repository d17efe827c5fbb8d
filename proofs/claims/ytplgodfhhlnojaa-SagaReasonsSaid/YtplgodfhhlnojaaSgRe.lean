/- The law SagaReasons, walked (printed by genreasons15.py). -/
import Derived.Test.YtplgodfhhlnojaaSgPure
import Derived.Test.YtplgodfhhlnojaaBelowR
import Derived.Test.YtplgodfhhlnojaaSgWh
import Derived.Outline
set_option linter.unusedSimpArgs false
set_option linter.unusedVariables false
namespace Go.Proofs.Ytplgodfhhlnojaa
open Go.RowKit
theorem fwd_node (x : W7) (h : MayW x) (a : A6) (ha : a ∈ forwardL x) : a.node = 3 ↔ a.kind = 4 := by
  rw [forwardL_yes x h, fwdK] at ha
  have each : ∀ K : Int, K ≠ 4 → ∀ a ∈ stepsK K x 3, (a.node = 3 ↔ a.kind = 4) := by
    intro K hK a ha
    unfold stepsK at ha
    obtain ⟨i, hi, rfl⟩ := List.mem_map.1 ha
    have hi3 : i = 0 ∨ i = 1 ∨ i = 2 := by
      obtain ⟨j, rfl, hj⟩ := parts_mem x true 3 i (by unfold partsB; simpa using hi)
      omega
    unfold eachA
    simp only
    omega
  simp only [List.mem_append, List.mem_singleton] at ha
  rcases ha with ha | rfl | ha
  · exact each 1 (by omega) a ha
  · simp
  · exact each 2 (by omega) a ha
set_option maxRecDepth 100000 in
set_option maxHeartbeats 4000000 in
theorem reasons_not (x : W7) (at_ how : Int) (w : World) (h : ¬ MayW x) : Calls Try.prog 5 #[x.val, .int .i64 at_, .int .i64 how] w fun e w' => e = .returned (.bool true) ∧ Below w.heap.size w w' := by
  obtain ⟨b, c, d, m0, m1, m2, p⟩ := x
  have T := Lib.hid told15
  have HM := Lib.hid (fun W => rmay_is ⟨b, c, d, m0, m1, m2, p⟩ false (decide_eq_false h) W)
  unfold W7.val at HM ⊢
  simp only at HM ⊢
  obtain ⟨f1, f3⟩ := one_box w (.cells #[.int .i64 b, .int .i64 c, .int .i64 d, .int .i64 m0, .int .i64 m1, .int .i64 m2, .int .i64 p] 24)
  have w_0 := Lib.hid f1
  have B0 := Lib.hid f3
  clear f1 f3
  clear h
  go_enter Try.func5, Try.ntmps5
  have L1_0 : (w.alloc (.cells #[.int .i64 b, .int .i64 c, .int .i64 d, .int .i64 m0, .int .i64 m1, .int .i64 m2, .int .i64 p] 24)).cell? ⟨w.heap.size, 0, none⟩ = some (.int .i64 b) := (cellsB (i := 0) w_0.out).trans rfl
  have L1_1 : (w.alloc (.cells #[.int .i64 b, .int .i64 c, .int .i64 d, .int .i64 m0, .int .i64 m1, .int .i64 m2, .int .i64 p] 24)).cell? ⟨w.heap.size, 1, none⟩ = some (.int .i64 c) := (cellsB (i := 1) w_0.out).trans rfl
  have L1_2 : (w.alloc (.cells #[.int .i64 b, .int .i64 c, .int .i64 d, .int .i64 m0, .int .i64 m1, .int .i64 m2, .int .i64 p] 24)).cell? ⟨w.heap.size, 2, none⟩ = some (.int .i64 d) := (cellsB (i := 2) w_0.out).trans rfl
  have L1_3 : (w.alloc (.cells #[.int .i64 b, .int .i64 c, .int .i64 d, .int .i64 m0, .int .i64 m1, .int .i64 m2, .int .i64 p] 24)).cell? ⟨w.heap.size, 3, none⟩ = some (.int .i64 m0) := (cellsB (i := 3) w_0.out).trans rfl
  have L1_4 : (w.alloc (.cells #[.int .i64 b, .int .i64 c, .int .i64 d, .int .i64 m0, .int .i64 m1, .int .i64 m2, .int .i64 p] 24)).cell? ⟨w.heap.size, 4, none⟩ = some (.int .i64 m1) := (cellsB (i := 4) w_0.out).trans rfl
  have L1_5 : (w.alloc (.cells #[.int .i64 b, .int .i64 c, .int .i64 d, .int .i64 m0, .int .i64 m1, .int .i64 m2, .int .i64 p] 24)).cell? ⟨w.heap.size, 5, none⟩ = some (.int .i64 m2) := (cellsB (i := 5) w_0.out).trans rfl
  have L1_6 : (w.alloc (.cells #[.int .i64 b, .int .i64 c, .int .i64 d, .int .i64 m0, .int .i64 m1, .int .i64 m2, .int .i64 p] 24)).cell? ⟨w.heap.size, 6, none⟩ = some (.int .i64 p) := (cellsB (i := 6) w_0.out).trans rfl
  go_wp2_with fail
  refine (HM.out _).mono ?_
  rintro e w1 ⟨rfl, q⟩
  have w_1 := Lib.hid (blk0 w_0.out q)
  have B1 := Lib.hid (bel0 B0.out B0.out.size q)
  clear q w_0 B0
  clear L1_0 L1_1 L1_2 L1_3 L1_4 L1_5 L1_6
  clear w_1
  go_wp2_with fail
  refine (T.out _).mono ?_
  rintro e w2 ⟨rfl, q⟩
  have B2 := Lib.hid (bel0 B1.out B1.out.size q)
  clear q B1
  go_wp2
  go_ret
  exact ⟨rfl, B2.out⟩
set_option maxRecDepth 100000 in
set_option maxHeartbeats 4000000 in
theorem reasons_may (x : W7) (at_ how : Int) (w : World) (h : MayW x) : Calls Try.prog 5 #[x.val, .int .i64 at_, .int .i64 how] w fun e w' => e = .returned (.bool true) ∧ Below w.heap.size w w' := by
  obtain ⟨b, c, d, m0, m1, m2, p⟩ := x
  have T := Lib.hid told15
  have HM := Lib.hid (fun W => rmay_is ⟨b, c, d, m0, m1, m2, p⟩ true (decide_eq_true h) W)
  have tk : TickOk 100 := ⟨by omega, by omega⟩
  have HNW := Lib.hid (fun W => new_is (show newS ⟨b, c, d, m0, m1, m2, p⟩ 100 = (⟨⟨b, c, d, m0, m1, m2, p⟩, 1, 0, 0, 100⟩, 0) from by rw [newS, if_pos ⟨h, by omega, by omega⟩]) W)
  have HF := Lib.hid (fun W => forward_c ⟨b, c, d, m0, m1, m2, p⟩ W)
  have hd := h.2.2.2.2.1
  simp only at hd
  obtain ⟨l, hl⟩ : ∃ l, forwardL ⟨b, c, d, m0, m1, m2, p⟩ = l := ⟨_, rfl⟩
  have hpos := fwd_pos ⟨b, c, d, m0, m1, m2, p⟩ h
  rw [hl] at HF hpos
  obtain ⟨n, hn⟩ : ∃ n, l.length = n := ⟨_, rfl⟩
  rw [hn] at hpos
  have HL := Lib.hid hl
  have HN := Lib.hid hn
  have HX := Lib.hid h
  obtain ⟨hn1, hn9⟩ := hpos
  obtain ⟨kk, hkk, hkl⟩ := u_rem15 at_ (n : Int) (by omega)
  replace hkl : kk < n := by omega
  have j0 : ((n : Int) == 0) = false := beq_eq_false_iff_ne.2 (by omega)
  obtain ⟨hh, hhh, hhl⟩ := u_rem15 how 3 (by omega)
  replace hhl : hh < 3 := by omega
  have e7 := sameW ⟨b, c, d, m0, m1, m2, p⟩ ⟨b, c, d, m0, m1, m2, p⟩ true (by simp)
  simp only at e7
  unfold RA at HF
  unfold W7.val at HM HNW HF ⊢
  unfold S11.val at HNW
  simp only at HM HNW HF ⊢
  clear hl h hn
  obtain ⟨f1, f3⟩ := one_box w (.cells #[.int .i64 b, .int .i64 c, .int .i64 d, .int .i64 m0, .int .i64 m1, .int .i64 m2, .int .i64 p] 24)
  have w_0 := Lib.hid f1
  have B0 := Lib.hid f3
  clear f1 f3
  go_enter Try.func5, Try.ntmps5
  have L1_0 : (w.alloc (.cells #[.int .i64 b, .int .i64 c, .int .i64 d, .int .i64 m0, .int .i64 m1, .int .i64 m2, .int .i64 p] 24)).cell? ⟨w.heap.size, 0, none⟩ = some (.int .i64 b) := (cellsB (i := 0) w_0.out).trans rfl
  have L1_1 : (w.alloc (.cells #[.int .i64 b, .int .i64 c, .int .i64 d, .int .i64 m0, .int .i64 m1, .int .i64 m2, .int .i64 p] 24)).cell? ⟨w.heap.size, 1, none⟩ = some (.int .i64 c) := (cellsB (i := 1) w_0.out).trans rfl
  have L1_2 : (w.alloc (.cells #[.int .i64 b, .int .i64 c, .int .i64 d, .int .i64 m0, .int .i64 m1, .int .i64 m2, .int .i64 p] 24)).cell? ⟨w.heap.size, 2, none⟩ = some (.int .i64 d) := (cellsB (i := 2) w_0.out).trans rfl
  have L1_3 : (w.alloc (.cells #[.int .i64 b, .int .i64 c, .int .i64 d, .int .i64 m0, .int .i64 m1, .int .i64 m2, .int .i64 p] 24)).cell? ⟨w.heap.size, 3, none⟩ = some (.int .i64 m0) := (cellsB (i := 3) w_0.out).trans rfl
  have L1_4 : (w.alloc (.cells #[.int .i64 b, .int .i64 c, .int .i64 d, .int .i64 m0, .int .i64 m1, .int .i64 m2, .int .i64 p] 24)).cell? ⟨w.heap.size, 4, none⟩ = some (.int .i64 m1) := (cellsB (i := 4) w_0.out).trans rfl
  have L1_5 : (w.alloc (.cells #[.int .i64 b, .int .i64 c, .int .i64 d, .int .i64 m0, .int .i64 m1, .int .i64 m2, .int .i64 p] 24)).cell? ⟨w.heap.size, 5, none⟩ = some (.int .i64 m2) := (cellsB (i := 5) w_0.out).trans rfl
  have L1_6 : (w.alloc (.cells #[.int .i64 b, .int .i64 c, .int .i64 d, .int .i64 m0, .int .i64 m1, .int .i64 m2, .int .i64 p] 24)).cell? ⟨w.heap.size, 6, none⟩ = some (.int .i64 p) := (cellsB (i := 6) w_0.out).trans rfl
  go_wp2_with fail
  refine (HM.out _).mono ?_
  rintro e w1 ⟨rfl, q⟩
  have w_1 := Lib.hid (blk0 w_0.out q)
  have B1 := Lib.hid (bel0 B0.out B0.out.size q)
  clear q w_0 B0
  clear L1_0 L1_1 L1_2 L1_3 L1_4 L1_5 L1_6
  have L2_0 : w1.cell? ⟨w.heap.size, 0, none⟩ = some (.int .i64 b) := (cellsB (i := 0) w_1.out).trans rfl
  have L2_1 : w1.cell? ⟨w.heap.size, 1, none⟩ = some (.int .i64 c) := (cellsB (i := 1) w_1.out).trans rfl
  have L2_2 : w1.cell? ⟨w.heap.size, 2, none⟩ = some (.int .i64 d) := (cellsB (i := 2) w_1.out).trans rfl
  have L2_3 : w1.cell? ⟨w.heap.size, 3, none⟩ = some (.int .i64 m0) := (cellsB (i := 3) w_1.out).trans rfl
  have L2_4 : w1.cell? ⟨w.heap.size, 4, none⟩ = some (.int .i64 m1) := (cellsB (i := 4) w_1.out).trans rfl
  have L2_5 : w1.cell? ⟨w.heap.size, 5, none⟩ = some (.int .i64 m2) := (cellsB (i := 5) w_1.out).trans rfl
  have L2_6 : w1.cell? ⟨w.heap.size, 6, none⟩ = some (.int .i64 p) := (cellsB (i := 6) w_1.out).trans rfl
  go_wp2_with fail
  refine (HNW.out _).mono ?_
  rintro e w2 ⟨rfl, q⟩
  have w_2 := Lib.hid (blk0 w_1.out q)
  have B2 := Lib.hid (bel0 B1.out B1.out.size q)
  clear q w_1 B1
  clear L2_0 L2_1 L2_2 L2_3 L2_4 L2_5 L2_6
  have w_sz : w.heap.size < w2.heap.size := lt_size w_2.out
  have L3_0 : (w2.alloc (.cells #[.int .i64 b, .int .i64 c, .int .i64 d, .int .i64 m0, .int .i64 m1, .int .i64 m2, .int .i64 p, .int .i64 1, .int .i64 0, .int .i64 0, .int .i64 100] 26)).cell? ⟨w.heap.size, 0, none⟩ = some (.int .i64 b) := (cellsB (i := 0) (alc (o := (.cells #[.int .i64 b, .int .i64 c, .int .i64 d, .int .i64 m0, .int .i64 m1, .int .i64 m2, .int .i64 p, .int .i64 1, .int .i64 0, .int .i64 0, .int .i64 100] 26)) w_2.out)).trans rfl
  have L3_1 : (w2.alloc (.cells #[.int .i64 b, .int .i64 c, .int .i64 d, .int .i64 m0, .int .i64 m1, .int .i64 m2, .int .i64 p, .int .i64 1, .int .i64 0, .int .i64 0, .int .i64 100] 26)).cell? ⟨w.heap.size, 1, none⟩ = some (.int .i64 c) := (cellsB (i := 1) (alc (o := (.cells #[.int .i64 b, .int .i64 c, .int .i64 d, .int .i64 m0, .int .i64 m1, .int .i64 m2, .int .i64 p, .int .i64 1, .int .i64 0, .int .i64 0, .int .i64 100] 26)) w_2.out)).trans rfl
  have L3_2 : (w2.alloc (.cells #[.int .i64 b, .int .i64 c, .int .i64 d, .int .i64 m0, .int .i64 m1, .int .i64 m2, .int .i64 p, .int .i64 1, .int .i64 0, .int .i64 0, .int .i64 100] 26)).cell? ⟨w.heap.size, 2, none⟩ = some (.int .i64 d) := (cellsB (i := 2) (alc (o := (.cells #[.int .i64 b, .int .i64 c, .int .i64 d, .int .i64 m0, .int .i64 m1, .int .i64 m2, .int .i64 p, .int .i64 1, .int .i64 0, .int .i64 0, .int .i64 100] 26)) w_2.out)).trans rfl
  have L3_3 : (w2.alloc (.cells #[.int .i64 b, .int .i64 c, .int .i64 d, .int .i64 m0, .int .i64 m1, .int .i64 m2, .int .i64 p, .int .i64 1, .int .i64 0, .int .i64 0, .int .i64 100] 26)).cell? ⟨w.heap.size, 3, none⟩ = some (.int .i64 m0) := (cellsB (i := 3) (alc (o := (.cells #[.int .i64 b, .int .i64 c, .int .i64 d, .int .i64 m0, .int .i64 m1, .int .i64 m2, .int .i64 p, .int .i64 1, .int .i64 0, .int .i64 0, .int .i64 100] 26)) w_2.out)).trans rfl
  have L3_4 : (w2.alloc (.cells #[.int .i64 b, .int .i64 c, .int .i64 d, .int .i64 m0, .int .i64 m1, .int .i64 m2, .int .i64 p, .int .i64 1, .int .i64 0, .int .i64 0, .int .i64 100] 26)).cell? ⟨w.heap.size, 4, none⟩ = some (.int .i64 m1) := (cellsB (i := 4) (alc (o := (.cells #[.int .i64 b, .int .i64 c, .int .i64 d, .int .i64 m0, .int .i64 m1, .int .i64 m2, .int .i64 p, .int .i64 1, .int .i64 0, .int .i64 0, .int .i64 100] 26)) w_2.out)).trans rfl
  have L3_5 : (w2.alloc (.cells #[.int .i64 b, .int .i64 c, .int .i64 d, .int .i64 m0, .int .i64 m1, .int .i64 m2, .int .i64 p, .int .i64 1, .int .i64 0, .int .i64 0, .int .i64 100] 26)).cell? ⟨w.heap.size, 5, none⟩ = some (.int .i64 m2) := (cellsB (i := 5) (alc (o := (.cells #[.int .i64 b, .int .i64 c, .int .i64 d, .int .i64 m0, .int .i64 m1, .int .i64 m2, .int .i64 p, .int .i64 1, .int .i64 0, .int .i64 0, .int .i64 100] 26)) w_2.out)).trans rfl
  have L3_6 : (w2.alloc (.cells #[.int .i64 b, .int .i64 c, .int .i64 d, .int .i64 m0, .int .i64 m1, .int .i64 m2, .int .i64 p, .int .i64 1, .int .i64 0, .int .i64 0, .int .i64 100] 26)).cell? ⟨w.heap.size, 6, none⟩ = some (.int .i64 p) := (cellsB (i := 6) (alc (o := (.cells #[.int .i64 b, .int .i64 c, .int .i64 d, .int .i64 m0, .int .i64 m1, .int .i64 m2, .int .i64 p, .int .i64 1, .int .i64 0, .int .i64 0, .int .i64 100] 26)) w_2.out)).trans rfl
  go_wp2_with fail
  refine (HF.out _).mono ?_
  rintro e w3 ⟨v3, rfl, ho, q⟩
  have w_3 := Lib.hid (blk1 w_2.out q)
  have s_3 := Lib.hid (new1 q)
  have B3 := Lib.hid (bel1 B2.out B2.out.size q)
  clear q w_2 B2
  clear L3_0 L3_1 L3_2 L3_3 L3_4 L3_5 L3_6
  obtain ⟨A, cp, rfl, hc1, hc2, rd⟩ := ho.rd
  have hA := OA.ne (g := w2.heap.size) ho (by simp)
  rw [HN.out] at hc1 rd ⊢
  have HA := Lib.hid hA
  have HR := Lib.hid (show _ ∧ _ ∧ _ ∧ _ from ⟨s_3.out, w_3.out, rd, B3.out⟩)
  clear hA ho rd s_3 w_3 B3
  go_wp2
  go_loopw [11] (fun i wr => ∃ k : Nat, k ≤ kk ∧ i = .int .i64 k ∧ Hid (wr.heap[w2.heap.size]? = some (.cells #[.int .i64 b, .int .i64 c, .int .i64 d, .int .i64 m0, .int .i64 m1, .int .i64 m2, .int .i64 p, .int .i64 1, .int .i64 (k : Int), .int .i64 0, .int .i64 100] 26 (0, 0)) ∧ wr.heap[w.heap.size]? = some (.cells #[.int .i64 b, .int .i64 c, .int .i64 d, .int .i64 m0, .int .i64 m1, .int .i64 m2, .int .i64 p] 24 (0, 0)) ∧ Rd wr wr.heap.size 6 A n (AC l) ∧ Below w.heap.size w wr)) (fun i _ => kk - (intOf i).toNat)
  case atStart => exact ⟨0, by omega, rfl, HR.out⟩
  case round =>
    clear HR HM HNW HF
    obtain ⟨k, hk, rfl, HS⟩ := hrel
    obtain ⟨s0, w0, R0, B0⟩ := HS.out
    have s_0 := Lib.hid s0
    have w_0 := Lib.hid w0
    have R_0 := Lib.hid R0
    replace B0 := Lib.hid B0
    clear s0 w0 R0 HS
    have hws : w.heap.size ≠ w2.heap.size := by omega
    by_cases hlt : k < kk
    · obtain ⟨ad, a, rfl, _, ha, _⟩ := R_0.out.ask (show k < n by omega)
      have HAA := Lib.hid ha
      obtain ⟨k1, hk1⟩ : ∃ k1, k + 1 = k1 := ⟨_, rfl⟩
      have H1 := Lib.hid (fun W => next_is (next_1 ⟨b, c, d, m0, m1, m2, p⟩ k 100 a HX.out tk (by rw [HL.out]; exact ha)) W)
      have H2 := Lib.hid (fun W => ans_is (hk1 ▸ ans_1 ⟨b, c, d, m0, m1, m2, p⟩ k 100 a HX.out tk (by rw [HL.out]; exact ha) (by rw [HL.out, HN.out]; omega)) W)
      have e1 := sameA a a true (by simp)
      simp only [S11.val, A6.val] at H1 H2 e1
      clear ha
      have L1_0 : wr.cell? ⟨w2.heap.size, 0, none⟩ = some (.int .i64 b) := (cellsB (i := 0) s_0.out).trans rfl
      have L1_1 : wr.cell? ⟨w2.heap.size, 1, none⟩ = some (.int .i64 c) := (cellsB (i := 1) s_0.out).trans rfl
      have L1_2 : wr.cell? ⟨w2.heap.size, 2, none⟩ = some (.int .i64 d) := (cellsB (i := 2) s_0.out).trans rfl
      have L1_3 : wr.cell? ⟨w2.heap.size, 3, none⟩ = some (.int .i64 m0) := (cellsB (i := 3) s_0.out).trans rfl
      have L1_4 : wr.cell? ⟨w2.heap.size, 4, none⟩ = some (.int .i64 m1) := (cellsB (i := 4) s_0.out).trans rfl
      have L1_5 : wr.cell? ⟨w2.heap.size, 5, none⟩ = some (.int .i64 m2) := (cellsB (i := 5) s_0.out).trans rfl
      have L1_6 : wr.cell? ⟨w2.heap.size, 6, none⟩ = some (.int .i64 p) := (cellsB (i := 6) s_0.out).trans rfl
      have L1_7 : wr.cell? ⟨w2.heap.size, 7, none⟩ = some (.int .i64 1) := (cellsB (i := 7) s_0.out).trans rfl
      have L1_8 : wr.cell? ⟨w2.heap.size, 8, none⟩ = some (.int .i64 (k : Int)) := (cellsB (i := 8) s_0.out).trans rfl
      have L1_9 : wr.cell? ⟨w2.heap.size, 9, none⟩ = some (.int .i64 0) := (cellsB (i := 9) s_0.out).trans rfl
      have L1_10 : wr.cell? ⟨w2.heap.size, 10, none⟩ = some (.int .i64 100) := (cellsB (i := 10) s_0.out).trans rfl
      go_wp2_with fail
      refine (H1.out _).mono ?_
      rintro e u1 ⟨rfl, q⟩
      have s_1 := Lib.hid (blk0 s_0.out q)
      have w_1 := Lib.hid (blk0 w_0.out q)
      have R_1 := Lib.hid (rd0 R_0.out q)
      have B1 := Lib.hid (bel0 B0.out B0.out.size q)
      clear q s_0 w_0 R_0 B0
      clear L1_0 L1_1 L1_2 L1_3 L1_4 L1_5 L1_6 L1_7 L1_8 L1_9 L1_10
      have L2_0 : (u1.alloc (.cells #[.int .i64 a.node, .int .i64 a.kind, .int .i64 a.book, .int .i64 a.units, .int .i64 a.cust, .int .i64 a.amount] 30)).cell? ⟨w2.heap.size, 0, none⟩ = some (.int .i64 b) := (cellsB (i := 0) (alc (o := (.cells #[.int .i64 a.node, .int .i64 a.kind, .int .i64 a.book, .int .i64 a.units, .int .i64 a.cust, .int .i64 a.amount] 30)) s_1.out)).trans rfl
      have L2_1 : (u1.alloc (.cells #[.int .i64 a.node, .int .i64 a.kind, .int .i64 a.book, .int .i64 a.units, .int .i64 a.cust, .int .i64 a.amount] 30)).cell? ⟨w2.heap.size, 1, none⟩ = some (.int .i64 c) := (cellsB (i := 1) (alc (o := (.cells #[.int .i64 a.node, .int .i64 a.kind, .int .i64 a.book, .int .i64 a.units, .int .i64 a.cust, .int .i64 a.amount] 30)) s_1.out)).trans rfl
      have L2_2 : (u1.alloc (.cells #[.int .i64 a.node, .int .i64 a.kind, .int .i64 a.book, .int .i64 a.units, .int .i64 a.cust, .int .i64 a.amount] 30)).cell? ⟨w2.heap.size, 2, none⟩ = some (.int .i64 d) := (cellsB (i := 2) (alc (o := (.cells #[.int .i64 a.node, .int .i64 a.kind, .int .i64 a.book, .int .i64 a.units, .int .i64 a.cust, .int .i64 a.amount] 30)) s_1.out)).trans rfl
      have L2_3 : (u1.alloc (.cells #[.int .i64 a.node, .int .i64 a.kind, .int .i64 a.book, .int .i64 a.units, .int .i64 a.cust, .int .i64 a.amount] 30)).cell? ⟨w2.heap.size, 3, none⟩ = some (.int .i64 m0) := (cellsB (i := 3) (alc (o := (.cells #[.int .i64 a.node, .int .i64 a.kind, .int .i64 a.book, .int .i64 a.units, .int .i64 a.cust, .int .i64 a.amount] 30)) s_1.out)).trans rfl
      have L2_4 : (u1.alloc (.cells #[.int .i64 a.node, .int .i64 a.kind, .int .i64 a.book, .int .i64 a.units, .int .i64 a.cust, .int .i64 a.amount] 30)).cell? ⟨w2.heap.size, 4, none⟩ = some (.int .i64 m1) := (cellsB (i := 4) (alc (o := (.cells #[.int .i64 a.node, .int .i64 a.kind, .int .i64 a.book, .int .i64 a.units, .int .i64 a.cust, .int .i64 a.amount] 30)) s_1.out)).trans rfl
      have L2_5 : (u1.alloc (.cells #[.int .i64 a.node, .int .i64 a.kind, .int .i64 a.book, .int .i64 a.units, .int .i64 a.cust, .int .i64 a.amount] 30)).cell? ⟨w2.heap.size, 5, none⟩ = some (.int .i64 m2) := (cellsB (i := 5) (alc (o := (.cells #[.int .i64 a.node, .int .i64 a.kind, .int .i64 a.book, .int .i64 a.units, .int .i64 a.cust, .int .i64 a.amount] 30)) s_1.out)).trans rfl
      have L2_6 : (u1.alloc (.cells #[.int .i64 a.node, .int .i64 a.kind, .int .i64 a.book, .int .i64 a.units, .int .i64 a.cust, .int .i64 a.amount] 30)).cell? ⟨w2.heap.size, 6, none⟩ = some (.int .i64 p) := (cellsB (i := 6) (alc (o := (.cells #[.int .i64 a.node, .int .i64 a.kind, .int .i64 a.book, .int .i64 a.units, .int .i64 a.cust, .int .i64 a.amount] 30)) s_1.out)).trans rfl
      have L2_7 : (u1.alloc (.cells #[.int .i64 a.node, .int .i64 a.kind, .int .i64 a.book, .int .i64 a.units, .int .i64 a.cust, .int .i64 a.amount] 30)).cell? ⟨w2.heap.size, 7, none⟩ = some (.int .i64 1) := (cellsB (i := 7) (alc (o := (.cells #[.int .i64 a.node, .int .i64 a.kind, .int .i64 a.book, .int .i64 a.units, .int .i64 a.cust, .int .i64 a.amount] 30)) s_1.out)).trans rfl
      have L2_8 : (u1.alloc (.cells #[.int .i64 a.node, .int .i64 a.kind, .int .i64 a.book, .int .i64 a.units, .int .i64 a.cust, .int .i64 a.amount] 30)).cell? ⟨w2.heap.size, 8, none⟩ = some (.int .i64 (k : Int)) := (cellsB (i := 8) (alc (o := (.cells #[.int .i64 a.node, .int .i64 a.kind, .int .i64 a.book, .int .i64 a.units, .int .i64 a.cust, .int .i64 a.amount] 30)) s_1.out)).trans rfl
      have L2_9 : (u1.alloc (.cells #[.int .i64 a.node, .int .i64 a.kind, .int .i64 a.book, .int .i64 a.units, .int .i64 a.cust, .int .i64 a.amount] 30)).cell? ⟨w2.heap.size, 9, none⟩ = some (.int .i64 0) := (cellsB (i := 9) (alc (o := (.cells #[.int .i64 a.node, .int .i64 a.kind, .int .i64 a.book, .int .i64 a.units, .int .i64 a.cust, .int .i64 a.amount] 30)) s_1.out)).trans rfl
      have L2_10 : (u1.alloc (.cells #[.int .i64 a.node, .int .i64 a.kind, .int .i64 a.book, .int .i64 a.units, .int .i64 a.cust, .int .i64 a.amount] 30)).cell? ⟨w2.heap.size, 10, none⟩ = some (.int .i64 100) := (cellsB (i := 10) (alc (o := (.cells #[.int .i64 a.node, .int .i64 a.kind, .int .i64 a.book, .int .i64 a.units, .int .i64 a.cust, .int .i64 a.amount] 30)) s_1.out)).trans rfl
      have L3_0 : (u1.alloc (.cells #[.int .i64 a.node, .int .i64 a.kind, .int .i64 a.book, .int .i64 a.units, .int .i64 a.cust, .int .i64 a.amount] 30)).cell? ⟨u1.heap.size, 0, none⟩ = some (.int .i64 a.node) := (cellsB (i := 0) (heap_alloc_new u1 (.cells #[.int .i64 a.node, .int .i64 a.kind, .int .i64 a.book, .int .i64 a.units, .int .i64 a.cust, .int .i64 a.amount] 30))).trans rfl
      have L3_1 : (u1.alloc (.cells #[.int .i64 a.node, .int .i64 a.kind, .int .i64 a.book, .int .i64 a.units, .int .i64 a.cust, .int .i64 a.amount] 30)).cell? ⟨u1.heap.size, 1, none⟩ = some (.int .i64 a.kind) := (cellsB (i := 1) (heap_alloc_new u1 (.cells #[.int .i64 a.node, .int .i64 a.kind, .int .i64 a.book, .int .i64 a.units, .int .i64 a.cust, .int .i64 a.amount] 30))).trans rfl
      have L3_2 : (u1.alloc (.cells #[.int .i64 a.node, .int .i64 a.kind, .int .i64 a.book, .int .i64 a.units, .int .i64 a.cust, .int .i64 a.amount] 30)).cell? ⟨u1.heap.size, 2, none⟩ = some (.int .i64 a.book) := (cellsB (i := 2) (heap_alloc_new u1 (.cells #[.int .i64 a.node, .int .i64 a.kind, .int .i64 a.book, .int .i64 a.units, .int .i64 a.cust, .int .i64 a.amount] 30))).trans rfl
      have L3_3 : (u1.alloc (.cells #[.int .i64 a.node, .int .i64 a.kind, .int .i64 a.book, .int .i64 a.units, .int .i64 a.cust, .int .i64 a.amount] 30)).cell? ⟨u1.heap.size, 3, none⟩ = some (.int .i64 a.units) := (cellsB (i := 3) (heap_alloc_new u1 (.cells #[.int .i64 a.node, .int .i64 a.kind, .int .i64 a.book, .int .i64 a.units, .int .i64 a.cust, .int .i64 a.amount] 30))).trans rfl
      have L3_4 : (u1.alloc (.cells #[.int .i64 a.node, .int .i64 a.kind, .int .i64 a.book, .int .i64 a.units, .int .i64 a.cust, .int .i64 a.amount] 30)).cell? ⟨u1.heap.size, 4, none⟩ = some (.int .i64 a.cust) := (cellsB (i := 4) (heap_alloc_new u1 (.cells #[.int .i64 a.node, .int .i64 a.kind, .int .i64 a.book, .int .i64 a.units, .int .i64 a.cust, .int .i64 a.amount] 30))).trans rfl
      have L3_5 : (u1.alloc (.cells #[.int .i64 a.node, .int .i64 a.kind, .int .i64 a.book, .int .i64 a.units, .int .i64 a.cust, .int .i64 a.amount] 30)).cell? ⟨u1.heap.size, 5, none⟩ = some (.int .i64 a.amount) := (cellsB (i := 5) (heap_alloc_new u1 (.cells #[.int .i64 a.node, .int .i64 a.kind, .int .i64 a.book, .int .i64 a.units, .int .i64 a.cust, .int .i64 a.amount] 30))).trans rfl
      go_wp2_with fail
      refine (H2.out _).mono ?_
      rintro e u2 ⟨rfl, q⟩
      have s_2 := Lib.hid (blk1 s_1.out q)
      have w_2 := Lib.hid (blk1 w_1.out q)
      have a_2 := Lib.hid (new1 q)
      have R_2 := Lib.hid (rd1 R_1.out q)
      have B2 := Lib.hid (bel1 B1.out B1.out.size q)
      clear q s_1 w_1 R_1 B1
      clear L2_0 L2_1 L2_2 L2_3 L2_4 L2_5 L2_6 L2_7 L2_8 L2_9 L2_10 L3_0 L3_1 L3_2 L3_3 L3_4 L3_5
      have L4_0 : (u2.alloc (.cells #[.int .i64 b, .int .i64 c, .int .i64 d, .int .i64 m0, .int .i64 m1, .int .i64 m2, .int .i64 p, .int .i64 1, .int .i64 (k1 : Int), .int .i64 0, .int .i64 100] 26)).cell? ⟨u1.heap.size, 0, none⟩ = some (.int .i64 a.node) := (cellsB (i := 0) (alc (o := (.cells #[.int .i64 b, .int .i64 c, .int .i64 d, .int .i64 m0, .int .i64 m1, .int .i64 m2, .int .i64 p, .int .i64 1, .int .i64 (k1 : Int), .int .i64 0, .int .i64 100] 26)) a_2.out)).trans rfl
      have L4_1 : (u2.alloc (.cells #[.int .i64 b, .int .i64 c, .int .i64 d, .int .i64 m0, .int .i64 m1, .int .i64 m2, .int .i64 p, .int .i64 1, .int .i64 (k1 : Int), .int .i64 0, .int .i64 100] 26)).cell? ⟨u1.heap.size, 1, none⟩ = some (.int .i64 a.kind) := (cellsB (i := 1) (alc (o := (.cells #[.int .i64 b, .int .i64 c, .int .i64 d, .int .i64 m0, .int .i64 m1, .int .i64 m2, .int .i64 p, .int .i64 1, .int .i64 (k1 : Int), .int .i64 0, .int .i64 100] 26)) a_2.out)).trans rfl
      have L4_2 : (u2.alloc (.cells #[.int .i64 b, .int .i64 c, .int .i64 d, .int .i64 m0, .int .i64 m1, .int .i64 m2, .int .i64 p, .int .i64 1, .int .i64 (k1 : Int), .int .i64 0, .int .i64 100] 26)).cell? ⟨u1.heap.size, 2, none⟩ = some (.int .i64 a.book) := (cellsB (i := 2) (alc (o := (.cells #[.int .i64 b, .int .i64 c, .int .i64 d, .int .i64 m0, .int .i64 m1, .int .i64 m2, .int .i64 p, .int .i64 1, .int .i64 (k1 : Int), .int .i64 0, .int .i64 100] 26)) a_2.out)).trans rfl
      have L4_3 : (u2.alloc (.cells #[.int .i64 b, .int .i64 c, .int .i64 d, .int .i64 m0, .int .i64 m1, .int .i64 m2, .int .i64 p, .int .i64 1, .int .i64 (k1 : Int), .int .i64 0, .int .i64 100] 26)).cell? ⟨u1.heap.size, 3, none⟩ = some (.int .i64 a.units) := (cellsB (i := 3) (alc (o := (.cells #[.int .i64 b, .int .i64 c, .int .i64 d, .int .i64 m0, .int .i64 m1, .int .i64 m2, .int .i64 p, .int .i64 1, .int .i64 (k1 : Int), .int .i64 0, .int .i64 100] 26)) a_2.out)).trans rfl
      have L4_4 : (u2.alloc (.cells #[.int .i64 b, .int .i64 c, .int .i64 d, .int .i64 m0, .int .i64 m1, .int .i64 m2, .int .i64 p, .int .i64 1, .int .i64 (k1 : Int), .int .i64 0, .int .i64 100] 26)).cell? ⟨u1.heap.size, 4, none⟩ = some (.int .i64 a.cust) := (cellsB (i := 4) (alc (o := (.cells #[.int .i64 b, .int .i64 c, .int .i64 d, .int .i64 m0, .int .i64 m1, .int .i64 m2, .int .i64 p, .int .i64 1, .int .i64 (k1 : Int), .int .i64 0, .int .i64 100] 26)) a_2.out)).trans rfl
      have L4_5 : (u2.alloc (.cells #[.int .i64 b, .int .i64 c, .int .i64 d, .int .i64 m0, .int .i64 m1, .int .i64 m2, .int .i64 p, .int .i64 1, .int .i64 (k1 : Int), .int .i64 0, .int .i64 100] 26)).cell? ⟨u1.heap.size, 5, none⟩ = some (.int .i64 a.amount) := (cellsB (i := 5) (alc (o := (.cells #[.int .i64 b, .int .i64 c, .int .i64 d, .int .i64 m0, .int .i64 m1, .int .i64 m2, .int .i64 p, .int .i64 1, .int .i64 (k1 : Int), .int .i64 0, .int .i64 100] 26)) a_2.out)).trans rfl
      obtain ⟨_, a2, e5, _, ha2, hca⟩ := (rda (o := (.cells #[.int .i64 b, .int .i64 c, .int .i64 d, .int .i64 m0, .int .i64 m1, .int .i64 m2, .int .i64 p, .int .i64 1, .int .i64 (k1 : Int), .int .i64 0, .int .i64 100] 26)) R_2.out).ask (show k < n by omega)
      cases e5
      obtain rfl : a = a2 := by have := HAA.out; rw [this] at ha2; exact Option.some.inj ha2
      obtain ⟨p0, p1, p2, p3, p4, p5⟩ := hca
      clear ha2
      go_wp2_with fail
      go_quiet (fail)
      clear p0 p1 p2 p3 p4 p5
      clear L4_0 L4_1 L4_2 L4_3 L4_4 L4_5
      have X1 : ((u2.alloc (.cells #[.int .i64 b, .int .i64 c, .int .i64 d, .int .i64 m0, .int .i64 m1, .int .i64 m2, .int .i64 p, .int .i64 1, .int .i64 (k1 : Int), .int .i64 0, .int .i64 100] 26)).drewN nq).heap[w2.heap.size]? = some (.cells #[.int .i64 b, .int .i64 c, .int .i64 d, .int .i64 m0, .int .i64 m1, .int .i64 m2, .int .i64 p, .int .i64 1, .int .i64 (k : Int), .int .i64 0, .int .i64 100] 26 (0, 0)) := alc s_2.out
      have X2 : ((u2.alloc (.cells #[.int .i64 b, .int .i64 c, .int .i64 d, .int .i64 m0, .int .i64 m1, .int .i64 m2, .int .i64 p, .int .i64 1, .int .i64 (k1 : Int), .int .i64 0, .int .i64 100] 26)).drewN nq).heap[w.heap.size]? = some (.cells #[.int .i64 b, .int .i64 c, .int .i64 d, .int .i64 m0, .int .i64 m1, .int .i64 m2, .int .i64 p] 24 (0, 0)) := alc w_2.out
      have X3 : ((u2.alloc (.cells #[.int .i64 b, .int .i64 c, .int .i64 d, .int .i64 m0, .int .i64 m1, .int .i64 m2, .int .i64 p, .int .i64 1, .int .i64 (k1 : Int), .int .i64 0, .int .i64 100] 26)).drewN nq).heap[u2.heap.size]? = some (.cells #[.int .i64 b, .int .i64 c, .int .i64 d, .int .i64 m0, .int .i64 m1, .int .i64 m2, .int .i64 p, .int .i64 1, .int .i64 (k1 : Int), .int .i64 0, .int .i64 100] 26 (0, 0)) := heap_alloc_new u2 (.cells #[.int .i64 b, .int .i64 c, .int .i64 d, .int .i64 m0, .int .i64 m1, .int .i64 m2, .int .i64 p, .int .i64 1, .int .i64 (k1 : Int), .int .i64 0, .int .i64 100] 26)
      have X4 : Rd ((u2.alloc (.cells #[.int .i64 b, .int .i64 c, .int .i64 d, .int .i64 m0, .int .i64 m1, .int .i64 m2, .int .i64 p, .int .i64 1, .int .i64 (k1 : Int), .int .i64 0, .int .i64 100] 26)).drewN nq) ((u2.alloc (.cells #[.int .i64 b, .int .i64 c, .int .i64 d, .int .i64 m0, .int .i64 m1, .int .i64 m2, .int .i64 p, .int .i64 1, .int .i64 (k1 : Int), .int .i64 0, .int .i64 100] 26)).drewN nq).heap.size 6 (some ad) n (AC l) := (rda (o := (.cells #[.int .i64 b, .int .i64 c, .int .i64 d, .int .i64 m0, .int .i64 m1, .int .i64 m2, .int .i64 p, .int .i64 1, .int .i64 (k1 : Int), .int .i64 0, .int .i64 100] 26)) R_2.out).drewN nq
      have X5 : Below w.heap.size w ((u2.alloc (.cells #[.int .i64 b, .int .i64 c, .int .i64 d, .int .i64 m0, .int .i64 m1, .int .i64 m2, .int .i64 p, .int .i64 1, .int .i64 (k1 : Int), .int .i64 0, .int .i64 100] 26)).drewN nq) := below_drewN (B2.out.alloc B2.out.size (.cells #[.int .i64 b, .int .i64 c, .int .i64 d, .int .i64 m0, .int .i64 m1, .int .i64 m2, .int .i64 p, .int .i64 1, .int .i64 (k1 : Int), .int .i64 0, .int .i64 100] 26)) nq
      have X6 : u2.heap.size ≠ w2.heap.size := by have := lt_size s_2.out; omega
      generalize ((u2.alloc (.cells #[.int .i64 b, .int .i64 c, .int .i64 d, .int .i64 m0, .int .i64 m1, .int .i64 m2, .int .i64 p, .int .i64 1, .int .i64 (k1 : Int), .int .i64 0, .int .i64 100] 26)).drewN nq) = u3 at X1 X2 X3 X4 X5 ⊢
      have s_3 := Lib.hid X1
      have w_3 := Lib.hid X2
      have t_3 := Lib.hid X3
      have R_3 := Lib.hid X4
      have B3 := Lib.hid X5
      clear X1 X2 X3 X4 X5
      have L5_0 : u3.cell? ⟨u2.heap.size, 0, none⟩ = some (.int .i64 b) := (cellsB (i := 0) t_3.out).trans rfl
      have L5_1 : u3.cell? ⟨u2.heap.size, 1, none⟩ = some (.int .i64 c) := (cellsB (i := 1) t_3.out).trans rfl
      have L5_2 : u3.cell? ⟨u2.heap.size, 2, none⟩ = some (.int .i64 d) := (cellsB (i := 2) t_3.out).trans rfl
      have L5_3 : u3.cell? ⟨u2.heap.size, 3, none⟩ = some (.int .i64 m0) := (cellsB (i := 3) t_3.out).trans rfl
      have L5_4 : u3.cell? ⟨u2.heap.size, 4, none⟩ = some (.int .i64 m1) := (cellsB (i := 4) t_3.out).trans rfl
      have L5_5 : u3.cell? ⟨u2.heap.size, 5, none⟩ = some (.int .i64 m2) := (cellsB (i := 5) t_3.out).trans rfl
      have L5_6 : u3.cell? ⟨u2.heap.size, 6, none⟩ = some (.int .i64 p) := (cellsB (i := 6) t_3.out).trans rfl
      have L5_7 : u3.cell? ⟨u2.heap.size, 7, none⟩ = some (.int .i64 1) := (cellsB (i := 7) t_3.out).trans rfl
      have L5_8 : u3.cell? ⟨u2.heap.size, 8, none⟩ = some (.int .i64 (k1 : Int)) := (cellsB (i := 8) t_3.out).trans rfl
      have L5_9 : u3.cell? ⟨u2.heap.size, 9, none⟩ = some (.int .i64 0) := (cellsB (i := 9) t_3.out).trans rfl
      have L5_10 : u3.cell? ⟨u2.heap.size, 10, none⟩ = some (.int .i64 100) := (cellsB (i := 10) t_3.out).trans rfl
      have L6_0 : u3.cell? ⟨w2.heap.size, 0, none⟩ = some (.int .i64 b) := (cellsB (i := 0) s_3.out).trans rfl
      have F6_0 : u3.frozen? ⟨w2.heap.size, 0, none⟩ = false := frozB s_3.out
      have L6_1 : u3.cell? ⟨w2.heap.size, 1, none⟩ = some (.int .i64 c) := (cellsB (i := 1) s_3.out).trans rfl
      have F6_1 : u3.frozen? ⟨w2.heap.size, 1, none⟩ = false := frozB s_3.out
      have L6_2 : u3.cell? ⟨w2.heap.size, 2, none⟩ = some (.int .i64 d) := (cellsB (i := 2) s_3.out).trans rfl
      have F6_2 : u3.frozen? ⟨w2.heap.size, 2, none⟩ = false := frozB s_3.out
      have L6_3 : u3.cell? ⟨w2.heap.size, 3, none⟩ = some (.int .i64 m0) := (cellsB (i := 3) s_3.out).trans rfl
      have F6_3 : u3.frozen? ⟨w2.heap.size, 3, none⟩ = false := frozB s_3.out
      have L6_4 : u3.cell? ⟨w2.heap.size, 4, none⟩ = some (.int .i64 m1) := (cellsB (i := 4) s_3.out).trans rfl
      have F6_4 : u3.frozen? ⟨w2.heap.size, 4, none⟩ = false := frozB s_3.out
      have L6_5 : u3.cell? ⟨w2.heap.size, 5, none⟩ = some (.int .i64 m2) := (cellsB (i := 5) s_3.out).trans rfl
      have F6_5 : u3.frozen? ⟨w2.heap.size, 5, none⟩ = false := frozB s_3.out
      have L6_6 : u3.cell? ⟨w2.heap.size, 6, none⟩ = some (.int .i64 p) := (cellsB (i := 6) s_3.out).trans rfl
      have F6_6 : u3.frozen? ⟨w2.heap.size, 6, none⟩ = false := frozB s_3.out
      have L6_7 : u3.cell? ⟨w2.heap.size, 7, none⟩ = some (.int .i64 1) := (cellsB (i := 7) s_3.out).trans rfl
      have F6_7 : u3.frozen? ⟨w2.heap.size, 7, none⟩ = false := frozB s_3.out
      have L6_8 : u3.cell? ⟨w2.heap.size, 8, none⟩ = some (.int .i64 (k : Int)) := (cellsB (i := 8) s_3.out).trans rfl
      have F6_8 : u3.frozen? ⟨w2.heap.size, 8, none⟩ = false := frozB s_3.out
      have L6_9 : u3.cell? ⟨w2.heap.size, 9, none⟩ = some (.int .i64 0) := (cellsB (i := 9) s_3.out).trans rfl
      have F6_9 : u3.frozen? ⟨w2.heap.size, 9, none⟩ = false := frozB s_3.out
      have L6_10 : u3.cell? ⟨w2.heap.size, 10, none⟩ = some (.int .i64 100) := (cellsB (i := 10) s_3.out).trans rfl
      have F6_10 : u3.frozen? ⟨w2.heap.size, 10, none⟩ = false := frozB s_3.out
      have ss7 : Hid ((st11 u3 w2.heap.size (.int .i64 b) (.int .i64 c) (.int .i64 d) (.int .i64 m0) (.int .i64 m1) (.int .i64 m2) (.int .i64 p) (.int .i64 1) (.int .i64 (k1 : Int)) (.int .i64 0) (.int .i64 100)).heap[w2.heap.size]? = some (.cells #[.int .i64 b, .int .i64 c, .int .i64 d, .int .i64 m0, .int .i64 m1, .int .i64 m2, .int .i64 p, .int .i64 1, .int .i64 (k1 : Int), .int .i64 0, .int .i64 100] 26 (0, 0))) := Lib.hid (st11_at s_3.out)
      have ws7 : Hid ((st11 u3 w2.heap.size (.int .i64 b) (.int .i64 c) (.int .i64 d) (.int .i64 m0) (.int .i64 m1) (.int .i64 m2) (.int .i64 p) (.int .i64 1) (.int .i64 (k1 : Int)) (.int .i64 0) (.int .i64 100)).heap[w.heap.size]? = some (.cells #[.int .i64 b, .int .i64 c, .int .i64 d, .int .i64 m0, .int .i64 m1, .int .i64 m2, .int .i64 p] 24 (0, 0))) := Lib.hid ((st11_ne hws.symm).trans w_3.out)
      have Rs7 : Hid (Rd (st11 u3 w2.heap.size (.int .i64 b) (.int .i64 c) (.int .i64 d) (.int .i64 m0) (.int .i64 m1) (.int .i64 m2) (.int .i64 p) (.int .i64 1) (.int .i64 (k1 : Int)) (.int .i64 0) (.int .i64 100)) (st11 u3 w2.heap.size (.int .i64 b) (.int .i64 c) (.int .i64 d) (.int .i64 m0) (.int .i64 m1) (.int .i64 m2) (.int .i64 p) (.int .i64 1) (.int .i64 (k1 : Int)) (.int .i64 0) (.int .i64 100)).heap.size 6 (some ad) n (AC l)) := Lib.hid (by rw [st11_size]; exact rd_st11 R_3.out HA.out)
      have Bs7 : Hid (Below w.heap.size w (st11 u3 w2.heap.size (.int .i64 b) (.int .i64 c) (.int .i64 d) (.int .i64 m0) (.int .i64 m1) (.int .i64 m2) (.int .i64 p) (.int .i64 1) (.int .i64 (k1 : Int)) (.int .i64 0) (.int .i64 100))) := Lib.hid (st11_below B3.out (by omega))
      unfold st11 at ss7 ws7 Rs7 Bs7
      go_wp2
      go_roundw
      case rel => exact ⟨k1, by omega, by rw [← hk1]; go_num, Lib.hid ⟨ss7.out, ws7.out, Rs7.out, Bs7.out⟩⟩
      case measure => simp [intOf]; omega
    obtain rfl : k = kk := by omega
    obtain ⟨ad, a, rfl, _, ha, hca⟩ := R_0.out.ask hkl
    have HAA := Lib.hid ha
    have hnk := fwd_node ⟨b, c, d, m0, m1, m2, p⟩ HX.out a (by rw [HL.out]; exact List.mem_of_getElem? ha)
    have h3 : hh = 0 ∨ hh = 1 ∨ hh = 2 := by omega
    rcases h3 with rfl | rfl | rfl
    · obtain ⟨p0, p1, p2, p3, p4, p5⟩ := hca
      by_cases hnd : a.node = 3
      · have hnb : (a.node == 3) = true := by rw [hnd]; rfl
        have HK4 := Lib.hid (hnk.1 hnd)
        clear hnk hnd
        have H2 := Lib.hid (fun W => ans_is (show ansS ⟨⟨b, c, d, m0, m1, m2, p⟩, 1, (k : Int), 0, 100⟩ a 2 = (⟨⟨b, c, d, m0, m1, m2, p⟩, 3, 0, 2, 100⟩, true) from by rw [ansS, if_neg (by rw [next_1 ⟨b, c, d, m0, m1, m2, p⟩ k 100 a HX.out tk (by rw [HL.out]; exact HAA.out)]; simp), if_pos ⟨rfl, rfl, HK4.out⟩]; rfl) W)
        simp only [S11.val, A6.val] at H2
        have L1_0 : wr.cell? ⟨w2.heap.size, 0, none⟩ = some (.int .i64 b) := (cellsB (i := 0) s_0.out).trans rfl
        have L1_1 : wr.cell? ⟨w2.heap.size, 1, none⟩ = some (.int .i64 c) := (cellsB (i := 1) s_0.out).trans rfl
        have L1_2 : wr.cell? ⟨w2.heap.size, 2, none⟩ = some (.int .i64 d) := (cellsB (i := 2) s_0.out).trans rfl
        have L1_3 : wr.cell? ⟨w2.heap.size, 3, none⟩ = some (.int .i64 m0) := (cellsB (i := 3) s_0.out).trans rfl
        have L1_4 : wr.cell? ⟨w2.heap.size, 4, none⟩ = some (.int .i64 m1) := (cellsB (i := 4) s_0.out).trans rfl
        have L1_5 : wr.cell? ⟨w2.heap.size, 5, none⟩ = some (.int .i64 m2) := (cellsB (i := 5) s_0.out).trans rfl
        have L1_6 : wr.cell? ⟨w2.heap.size, 6, none⟩ = some (.int .i64 p) := (cellsB (i := 6) s_0.out).trans rfl
        have L1_7 : wr.cell? ⟨w2.heap.size, 7, none⟩ = some (.int .i64 1) := (cellsB (i := 7) s_0.out).trans rfl
        have L1_8 : wr.cell? ⟨w2.heap.size, 8, none⟩ = some (.int .i64 (k : Int)) := (cellsB (i := 8) s_0.out).trans rfl
        have L1_9 : wr.cell? ⟨w2.heap.size, 9, none⟩ = some (.int .i64 0) := (cellsB (i := 9) s_0.out).trans rfl
        have L1_10 : wr.cell? ⟨w2.heap.size, 10, none⟩ = some (.int .i64 100) := (cellsB (i := 10) s_0.out).trans rfl
        go_wp2
        go_region_with (go_at_call 26; refine (H2.out _).mono ?_; rintro e u1 ⟨rfl, q⟩; (first | (have s_1 := Lib.hid (blk0 s_0.out q); have w_1 := Lib.hid (blk0 w_0.out q); have B1 := Lib.hid (bel0 B0.out B0.out.size q)) | (have s_1 := Lib.hid (blk0 (w := World.drew _) s_0.out q); have w_1 := Lib.hid (blk0 (w := World.drew _) w_0.out q); have B1 := Lib.hid (bel0 (w := World.drew _) B0.out.drew B0.out.size q))); (have L2_0 : u1.cell? ⟨w2.heap.size, 0, none⟩ = some (.int .i64 b) := (cellsB (i := 0) s_1.out).trans rfl); (have F2_0 : u1.frozen? ⟨w2.heap.size, 0, none⟩ = false := frozB s_1.out); (have L2_1 : u1.cell? ⟨w2.heap.size, 1, none⟩ = some (.int .i64 c) := (cellsB (i := 1) s_1.out).trans rfl); (have F2_1 : u1.frozen? ⟨w2.heap.size, 1, none⟩ = false := frozB s_1.out); (have L2_2 : u1.cell? ⟨w2.heap.size, 2, none⟩ = some (.int .i64 d) := (cellsB (i := 2) s_1.out).trans rfl); (have F2_2 : u1.frozen? ⟨w2.heap.size, 2, none⟩ = false := frozB s_1.out); (have L2_3 : u1.cell? ⟨w2.heap.size, 3, none⟩ = some (.int .i64 m0) := (cellsB (i := 3) s_1.out).trans rfl); (have F2_3 : u1.frozen? ⟨w2.heap.size, 3, none⟩ = false := frozB s_1.out); (have L2_4 : u1.cell? ⟨w2.heap.size, 4, none⟩ = some (.int .i64 m1) := (cellsB (i := 4) s_1.out).trans rfl); (have F2_4 : u1.frozen? ⟨w2.heap.size, 4, none⟩ = false := frozB s_1.out); (have L2_5 : u1.cell? ⟨w2.heap.size, 5, none⟩ = some (.int .i64 m2) := (cellsB (i := 5) s_1.out).trans rfl); (have F2_5 : u1.frozen? ⟨w2.heap.size, 5, none⟩ = false := frozB s_1.out); (have L2_6 : u1.cell? ⟨w2.heap.size, 6, none⟩ = some (.int .i64 p) := (cellsB (i := 6) s_1.out).trans rfl); (have F2_6 : u1.frozen? ⟨w2.heap.size, 6, none⟩ = false := frozB s_1.out); (have L2_7 : u1.cell? ⟨w2.heap.size, 7, none⟩ = some (.int .i64 1) := (cellsB (i := 7) s_1.out).trans rfl); (have F2_7 : u1.frozen? ⟨w2.heap.size, 7, none⟩ = false := frozB s_1.out); (have L2_8 : u1.cell? ⟨w2.heap.size, 8, none⟩ = some (.int .i64 (k : Int)) := (cellsB (i := 8) s_1.out).trans rfl); (have F2_8 : u1.frozen? ⟨w2.heap.size, 8, none⟩ = false := frozB s_1.out); (have L2_9 : u1.cell? ⟨w2.heap.size, 9, none⟩ = some (.int .i64 0) := (cellsB (i := 9) s_1.out).trans rfl); (have F2_9 : u1.frozen? ⟨w2.heap.size, 9, none⟩ = false := frozB s_1.out); (have L2_10 : u1.cell? ⟨w2.heap.size, 10, none⟩ = some (.int .i64 100) := (cellsB (i := 10) s_1.out).trans rfl); (have F2_10 : u1.frozen? ⟨w2.heap.size, 10, none⟩ = false := frozB s_1.out))
        all_goals
          have ss3 : Hid ((st11 u1 w2.heap.size (.int .i64 b) (.int .i64 c) (.int .i64 d) (.int .i64 m0) (.int .i64 m1) (.int .i64 m2) (.int .i64 p) (.int .i64 3) (.int .i64 0) (.int .i64 2) (.int .i64 100)).heap[w2.heap.size]? = some (.cells #[.int .i64 b, .int .i64 c, .int .i64 d, .int .i64 m0, .int .i64 m1, .int .i64 m2, .int .i64 p, .int .i64 3, .int .i64 0, .int .i64 2, .int .i64 100] 26 (0, 0))) := Lib.hid (st11_at s_1.out)
          have ws3 : Hid ((st11 u1 w2.heap.size (.int .i64 b) (.int .i64 c) (.int .i64 d) (.int .i64 m0) (.int .i64 m1) (.int .i64 m2) (.int .i64 p) (.int .i64 3) (.int .i64 0) (.int .i64 2) (.int .i64 100)).heap[w.heap.size]? = some (.cells #[.int .i64 b, .int .i64 c, .int .i64 d, .int .i64 m0, .int .i64 m1, .int .i64 m2, .int .i64 p] 24 (0, 0))) := Lib.hid ((st11_ne hws.symm).trans w_1.out)
          have Bs3 : Hid (Below w.heap.size w (st11 u1 w2.heap.size (.int .i64 b) (.int .i64 c) (.int .i64 d) (.int .i64 m0) (.int .i64 m1) (.int .i64 m2) (.int .i64 p) (.int .i64 3) (.int .i64 0) (.int .i64 2) (.int .i64 100))) := Lib.hid (st11_below B1.out (by omega))
          unfold st11 at ss3 ws3 Bs3
          have B1 := Bs3
          go_wp2_with fail
          refine (T.out _).mono ?_
          rintro e u2 ⟨rfl, q⟩
          have s_2 := Lib.hid (blk0 ss3.out q)
          have w_2 := Lib.hid (blk0 ws3.out q)
          have B2 := Lib.hid (bel0 B1.out B1.out.size q)
          clear q ss3 ws3 B1
          have L4_0 : u2.cell? ⟨w2.heap.size, 0, none⟩ = some (.int .i64 b) := (cellsB (i := 0) s_2.out).trans rfl
          have L4_1 : u2.cell? ⟨w2.heap.size, 1, none⟩ = some (.int .i64 c) := (cellsB (i := 1) s_2.out).trans rfl
          have L4_2 : u2.cell? ⟨w2.heap.size, 2, none⟩ = some (.int .i64 d) := (cellsB (i := 2) s_2.out).trans rfl
          have L4_3 : u2.cell? ⟨w2.heap.size, 3, none⟩ = some (.int .i64 m0) := (cellsB (i := 3) s_2.out).trans rfl
          have L4_4 : u2.cell? ⟨w2.heap.size, 4, none⟩ = some (.int .i64 m1) := (cellsB (i := 4) s_2.out).trans rfl
          have L4_5 : u2.cell? ⟨w2.heap.size, 5, none⟩ = some (.int .i64 m2) := (cellsB (i := 5) s_2.out).trans rfl
          have L4_6 : u2.cell? ⟨w2.heap.size, 6, none⟩ = some (.int .i64 p) := (cellsB (i := 6) s_2.out).trans rfl
          have L4_7 : u2.cell? ⟨w2.heap.size, 7, none⟩ = some (.int .i64 3) := (cellsB (i := 7) s_2.out).trans rfl
          have L4_8 : u2.cell? ⟨w2.heap.size, 8, none⟩ = some (.int .i64 0) := (cellsB (i := 8) s_2.out).trans rfl
          have L4_9 : u2.cell? ⟨w2.heap.size, 9, none⟩ = some (.int .i64 2) := (cellsB (i := 9) s_2.out).trans rfl
          have L4_10 : u2.cell? ⟨w2.heap.size, 10, none⟩ = some (.int .i64 100) := (cellsB (i := 10) s_2.out).trans rfl
          have L5_0 : u2.cell? ⟨w.heap.size, 0, none⟩ = some (.int .i64 b) := (cellsB (i := 0) w_2.out).trans rfl
          have L5_1 : u2.cell? ⟨w.heap.size, 1, none⟩ = some (.int .i64 c) := (cellsB (i := 1) w_2.out).trans rfl
          have L5_2 : u2.cell? ⟨w.heap.size, 2, none⟩ = some (.int .i64 d) := (cellsB (i := 2) w_2.out).trans rfl
          have L5_3 : u2.cell? ⟨w.heap.size, 3, none⟩ = some (.int .i64 m0) := (cellsB (i := 3) w_2.out).trans rfl
          have L5_4 : u2.cell? ⟨w.heap.size, 4, none⟩ = some (.int .i64 m1) := (cellsB (i := 4) w_2.out).trans rfl
          have L5_5 : u2.cell? ⟨w.heap.size, 5, none⟩ = some (.int .i64 m2) := (cellsB (i := 5) w_2.out).trans rfl
          have L5_6 : u2.cell? ⟨w.heap.size, 6, none⟩ = some (.int .i64 p) := (cellsB (i := 6) w_2.out).trans rfl
          go_wp2
          go_ret
          exact ⟨rfl, B2.out⟩
      have HK4 : Hid (¬ a.kind = 4) := Lib.hid (fun g => hnd (hnk.2 g))
      have hnb : (a.node == 3) = false := beq_eq_false_iff_ne.2 hnd
      clear hnk hnd
      have H2 := Lib.hid (fun W => ans_is (show ansS ⟨⟨b, c, d, m0, m1, m2, p⟩, 1, (k : Int), 0, 100⟩ a 2 = (⟨⟨b, c, d, m0, m1, m2, p⟩, 3, 0, 1, 100⟩, true) from by rw [ansS, if_neg (by rw [next_1 ⟨b, c, d, m0, m1, m2, p⟩ k 100 a HX.out tk (by rw [HL.out]; exact HAA.out)]; simp), if_neg (fun g => HK4.out g.2.2), if_pos ⟨rfl, rfl⟩]; rfl) W)
      simp only [S11.val, A6.val] at H2
      have L1_0 : wr.cell? ⟨w2.heap.size, 0, none⟩ = some (.int .i64 b) := (cellsB (i := 0) s_0.out).trans rfl
      have L1_1 : wr.cell? ⟨w2.heap.size, 1, none⟩ = some (.int .i64 c) := (cellsB (i := 1) s_0.out).trans rfl
      have L1_2 : wr.cell? ⟨w2.heap.size, 2, none⟩ = some (.int .i64 d) := (cellsB (i := 2) s_0.out).trans rfl
      have L1_3 : wr.cell? ⟨w2.heap.size, 3, none⟩ = some (.int .i64 m0) := (cellsB (i := 3) s_0.out).trans rfl
      have L1_4 : wr.cell? ⟨w2.heap.size, 4, none⟩ = some (.int .i64 m1) := (cellsB (i := 4) s_0.out).trans rfl
      have L1_5 : wr.cell? ⟨w2.heap.size, 5, none⟩ = some (.int .i64 m2) := (cellsB (i := 5) s_0.out).trans rfl
      have L1_6 : wr.cell? ⟨w2.heap.size, 6, none⟩ = some (.int .i64 p) := (cellsB (i := 6) s_0.out).trans rfl
      have L1_7 : wr.cell? ⟨w2.heap.size, 7, none⟩ = some (.int .i64 1) := (cellsB (i := 7) s_0.out).trans rfl
      have L1_8 : wr.cell? ⟨w2.heap.size, 8, none⟩ = some (.int .i64 (k : Int)) := (cellsB (i := 8) s_0.out).trans rfl
      have L1_9 : wr.cell? ⟨w2.heap.size, 9, none⟩ = some (.int .i64 0) := (cellsB (i := 9) s_0.out).trans rfl
      have L1_10 : wr.cell? ⟨w2.heap.size, 10, none⟩ = some (.int .i64 100) := (cellsB (i := 10) s_0.out).trans rfl
      go_wp2
      go_region_with (go_at_call 26; refine (H2.out _).mono ?_; rintro e u1 ⟨rfl, q⟩; (first | (have s_1 := Lib.hid (blk0 s_0.out q); have w_1 := Lib.hid (blk0 w_0.out q); have B1 := Lib.hid (bel0 B0.out B0.out.size q)) | (have s_1 := Lib.hid (blk0 (w := World.drew _) s_0.out q); have w_1 := Lib.hid (blk0 (w := World.drew _) w_0.out q); have B1 := Lib.hid (bel0 (w := World.drew _) B0.out.drew B0.out.size q))); (have L2_0 : u1.cell? ⟨w2.heap.size, 0, none⟩ = some (.int .i64 b) := (cellsB (i := 0) s_1.out).trans rfl); (have F2_0 : u1.frozen? ⟨w2.heap.size, 0, none⟩ = false := frozB s_1.out); (have L2_1 : u1.cell? ⟨w2.heap.size, 1, none⟩ = some (.int .i64 c) := (cellsB (i := 1) s_1.out).trans rfl); (have F2_1 : u1.frozen? ⟨w2.heap.size, 1, none⟩ = false := frozB s_1.out); (have L2_2 : u1.cell? ⟨w2.heap.size, 2, none⟩ = some (.int .i64 d) := (cellsB (i := 2) s_1.out).trans rfl); (have F2_2 : u1.frozen? ⟨w2.heap.size, 2, none⟩ = false := frozB s_1.out); (have L2_3 : u1.cell? ⟨w2.heap.size, 3, none⟩ = some (.int .i64 m0) := (cellsB (i := 3) s_1.out).trans rfl); (have F2_3 : u1.frozen? ⟨w2.heap.size, 3, none⟩ = false := frozB s_1.out); (have L2_4 : u1.cell? ⟨w2.heap.size, 4, none⟩ = some (.int .i64 m1) := (cellsB (i := 4) s_1.out).trans rfl); (have F2_4 : u1.frozen? ⟨w2.heap.size, 4, none⟩ = false := frozB s_1.out); (have L2_5 : u1.cell? ⟨w2.heap.size, 5, none⟩ = some (.int .i64 m2) := (cellsB (i := 5) s_1.out).trans rfl); (have F2_5 : u1.frozen? ⟨w2.heap.size, 5, none⟩ = false := frozB s_1.out); (have L2_6 : u1.cell? ⟨w2.heap.size, 6, none⟩ = some (.int .i64 p) := (cellsB (i := 6) s_1.out).trans rfl); (have F2_6 : u1.frozen? ⟨w2.heap.size, 6, none⟩ = false := frozB s_1.out); (have L2_7 : u1.cell? ⟨w2.heap.size, 7, none⟩ = some (.int .i64 1) := (cellsB (i := 7) s_1.out).trans rfl); (have F2_7 : u1.frozen? ⟨w2.heap.size, 7, none⟩ = false := frozB s_1.out); (have L2_8 : u1.cell? ⟨w2.heap.size, 8, none⟩ = some (.int .i64 (k : Int)) := (cellsB (i := 8) s_1.out).trans rfl); (have F2_8 : u1.frozen? ⟨w2.heap.size, 8, none⟩ = false := frozB s_1.out); (have L2_9 : u1.cell? ⟨w2.heap.size, 9, none⟩ = some (.int .i64 0) := (cellsB (i := 9) s_1.out).trans rfl); (have F2_9 : u1.frozen? ⟨w2.heap.size, 9, none⟩ = false := frozB s_1.out); (have L2_10 : u1.cell? ⟨w2.heap.size, 10, none⟩ = some (.int .i64 100) := (cellsB (i := 10) s_1.out).trans rfl); (have F2_10 : u1.frozen? ⟨w2.heap.size, 10, none⟩ = false := frozB s_1.out))
      all_goals
        have ss3 : Hid ((st11 u1 w2.heap.size (.int .i64 b) (.int .i64 c) (.int .i64 d) (.int .i64 m0) (.int .i64 m1) (.int .i64 m2) (.int .i64 p) (.int .i64 3) (.int .i64 0) (.int .i64 1) (.int .i64 100)).heap[w2.heap.size]? = some (.cells #[.int .i64 b, .int .i64 c, .int .i64 d, .int .i64 m0, .int .i64 m1, .int .i64 m2, .int .i64 p, .int .i64 3, .int .i64 0, .int .i64 1, .int .i64 100] 26 (0, 0))) := Lib.hid (st11_at s_1.out)
        have ws3 : Hid ((st11 u1 w2.heap.size (.int .i64 b) (.int .i64 c) (.int .i64 d) (.int .i64 m0) (.int .i64 m1) (.int .i64 m2) (.int .i64 p) (.int .i64 3) (.int .i64 0) (.int .i64 1) (.int .i64 100)).heap[w.heap.size]? = some (.cells #[.int .i64 b, .int .i64 c, .int .i64 d, .int .i64 m0, .int .i64 m1, .int .i64 m2, .int .i64 p] 24 (0, 0))) := Lib.hid ((st11_ne hws.symm).trans w_1.out)
        have Bs3 : Hid (Below w.heap.size w (st11 u1 w2.heap.size (.int .i64 b) (.int .i64 c) (.int .i64 d) (.int .i64 m0) (.int .i64 m1) (.int .i64 m2) (.int .i64 p) (.int .i64 3) (.int .i64 0) (.int .i64 1) (.int .i64 100))) := Lib.hid (st11_below B1.out (by omega))
        unfold st11 at ss3 ws3 Bs3
        have B1 := Bs3
        go_wp2_with fail
        refine (T.out _).mono ?_
        rintro e u2 ⟨rfl, q⟩
        have s_2 := Lib.hid (blk0 ss3.out q)
        have w_2 := Lib.hid (blk0 ws3.out q)
        have B2 := Lib.hid (bel0 B1.out B1.out.size q)
        clear q ss3 ws3 B1
        have L4_0 : u2.cell? ⟨w2.heap.size, 0, none⟩ = some (.int .i64 b) := (cellsB (i := 0) s_2.out).trans rfl
        have L4_1 : u2.cell? ⟨w2.heap.size, 1, none⟩ = some (.int .i64 c) := (cellsB (i := 1) s_2.out).trans rfl
        have L4_2 : u2.cell? ⟨w2.heap.size, 2, none⟩ = some (.int .i64 d) := (cellsB (i := 2) s_2.out).trans rfl
        have L4_3 : u2.cell? ⟨w2.heap.size, 3, none⟩ = some (.int .i64 m0) := (cellsB (i := 3) s_2.out).trans rfl
        have L4_4 : u2.cell? ⟨w2.heap.size, 4, none⟩ = some (.int .i64 m1) := (cellsB (i := 4) s_2.out).trans rfl
        have L4_5 : u2.cell? ⟨w2.heap.size, 5, none⟩ = some (.int .i64 m2) := (cellsB (i := 5) s_2.out).trans rfl
        have L4_6 : u2.cell? ⟨w2.heap.size, 6, none⟩ = some (.int .i64 p) := (cellsB (i := 6) s_2.out).trans rfl
        have L4_7 : u2.cell? ⟨w2.heap.size, 7, none⟩ = some (.int .i64 3) := (cellsB (i := 7) s_2.out).trans rfl
        have L4_8 : u2.cell? ⟨w2.heap.size, 8, none⟩ = some (.int .i64 0) := (cellsB (i := 8) s_2.out).trans rfl
        have L4_9 : u2.cell? ⟨w2.heap.size, 9, none⟩ = some (.int .i64 1) := (cellsB (i := 9) s_2.out).trans rfl
        have L4_10 : u2.cell? ⟨w2.heap.size, 10, none⟩ = some (.int .i64 100) := (cellsB (i := 10) s_2.out).trans rfl
        have L5_0 : u2.cell? ⟨w.heap.size, 0, none⟩ = some (.int .i64 b) := (cellsB (i := 0) w_2.out).trans rfl
        have L5_1 : u2.cell? ⟨w.heap.size, 1, none⟩ = some (.int .i64 c) := (cellsB (i := 1) w_2.out).trans rfl
        have L5_2 : u2.cell? ⟨w.heap.size, 2, none⟩ = some (.int .i64 d) := (cellsB (i := 2) w_2.out).trans rfl
        have L5_3 : u2.cell? ⟨w.heap.size, 3, none⟩ = some (.int .i64 m0) := (cellsB (i := 3) w_2.out).trans rfl
        have L5_4 : u2.cell? ⟨w.heap.size, 4, none⟩ = some (.int .i64 m1) := (cellsB (i := 4) w_2.out).trans rfl
        have L5_5 : u2.cell? ⟨w.heap.size, 5, none⟩ = some (.int .i64 m2) := (cellsB (i := 5) w_2.out).trans rfl
        have L5_6 : u2.cell? ⟨w.heap.size, 6, none⟩ = some (.int .i64 p) := (cellsB (i := 6) w_2.out).trans rfl
        go_wp2
        go_ret
        exact ⟨rfl, B2.out⟩
    · clear hca
      have H2 := Lib.hid (fun W => can_is (show canS ⟨⟨b, c, d, m0, m1, m2, p⟩, 1, (k : Int), 0, 100⟩ = (⟨⟨b, c, d, m0, m1, m2, p⟩, 3, 0, 4, 100⟩, true) from by rw [canS, if_pos ⟨may_1 ⟨b, c, d, m0, m1, m2, p⟩ k 100 HX.out tk (by rw [HL.out, HN.out]; exact hkl), rfl⟩]; rfl) W)
      simp only [S11.val] at H2
      have L1_0 : wr.cell? ⟨w2.heap.size, 0, none⟩ = some (.int .i64 b) := (cellsB (i := 0) s_0.out).trans rfl
      have L1_1 : wr.cell? ⟨w2.heap.size, 1, none⟩ = some (.int .i64 c) := (cellsB (i := 1) s_0.out).trans rfl
      have L1_2 : wr.cell? ⟨w2.heap.size, 2, none⟩ = some (.int .i64 d) := (cellsB (i := 2) s_0.out).trans rfl
      have L1_3 : wr.cell? ⟨w2.heap.size, 3, none⟩ = some (.int .i64 m0) := (cellsB (i := 3) s_0.out).trans rfl
      have L1_4 : wr.cell? ⟨w2.heap.size, 4, none⟩ = some (.int .i64 m1) := (cellsB (i := 4) s_0.out).trans rfl
      have L1_5 : wr.cell? ⟨w2.heap.size, 5, none⟩ = some (.int .i64 m2) := (cellsB (i := 5) s_0.out).trans rfl
      have L1_6 : wr.cell? ⟨w2.heap.size, 6, none⟩ = some (.int .i64 p) := (cellsB (i := 6) s_0.out).trans rfl
      have L1_7 : wr.cell? ⟨w2.heap.size, 7, none⟩ = some (.int .i64 1) := (cellsB (i := 7) s_0.out).trans rfl
      have L1_8 : wr.cell? ⟨w2.heap.size, 8, none⟩ = some (.int .i64 (k : Int)) := (cellsB (i := 8) s_0.out).trans rfl
      have L1_9 : wr.cell? ⟨w2.heap.size, 9, none⟩ = some (.int .i64 0) := (cellsB (i := 9) s_0.out).trans rfl
      have L1_10 : wr.cell? ⟨w2.heap.size, 10, none⟩ = some (.int .i64 100) := (cellsB (i := 10) s_0.out).trans rfl
      go_wp2_with fail
      refine (H2.out _).mono ?_
      rintro e u1 ⟨rfl, q⟩
      have s_1 := Lib.hid (blk0 s_0.out q)
      have w_1 := Lib.hid (blk0 w_0.out q)
      have B1 := Lib.hid (bel0 B0.out B0.out.size q)
      clear q s_0 w_0 B0
      clear L1_0 L1_1 L1_2 L1_3 L1_4 L1_5 L1_6 L1_7 L1_8 L1_9 L1_10
      have L2_0 : u1.cell? ⟨w2.heap.size, 0, none⟩ = some (.int .i64 b) := (cellsB (i := 0) s_1.out).trans rfl
      have F2_0 : u1.frozen? ⟨w2.heap.size, 0, none⟩ = false := frozB s_1.out
      have L2_1 : u1.cell? ⟨w2.heap.size, 1, none⟩ = some (.int .i64 c) := (cellsB (i := 1) s_1.out).trans rfl
      have F2_1 : u1.frozen? ⟨w2.heap.size, 1, none⟩ = false := frozB s_1.out
      have L2_2 : u1.cell? ⟨w2.heap.size, 2, none⟩ = some (.int .i64 d) := (cellsB (i := 2) s_1.out).trans rfl
      have F2_2 : u1.frozen? ⟨w2.heap.size, 2, none⟩ = false := frozB s_1.out
      have L2_3 : u1.cell? ⟨w2.heap.size, 3, none⟩ = some (.int .i64 m0) := (cellsB (i := 3) s_1.out).trans rfl
      have F2_3 : u1.frozen? ⟨w2.heap.size, 3, none⟩ = false := frozB s_1.out
      have L2_4 : u1.cell? ⟨w2.heap.size, 4, none⟩ = some (.int .i64 m1) := (cellsB (i := 4) s_1.out).trans rfl
      have F2_4 : u1.frozen? ⟨w2.heap.size, 4, none⟩ = false := frozB s_1.out
      have L2_5 : u1.cell? ⟨w2.heap.size, 5, none⟩ = some (.int .i64 m2) := (cellsB (i := 5) s_1.out).trans rfl
      have F2_5 : u1.frozen? ⟨w2.heap.size, 5, none⟩ = false := frozB s_1.out
      have L2_6 : u1.cell? ⟨w2.heap.size, 6, none⟩ = some (.int .i64 p) := (cellsB (i := 6) s_1.out).trans rfl
      have F2_6 : u1.frozen? ⟨w2.heap.size, 6, none⟩ = false := frozB s_1.out
      have L2_7 : u1.cell? ⟨w2.heap.size, 7, none⟩ = some (.int .i64 1) := (cellsB (i := 7) s_1.out).trans rfl
      have F2_7 : u1.frozen? ⟨w2.heap.size, 7, none⟩ = false := frozB s_1.out
      have L2_8 : u1.cell? ⟨w2.heap.size, 8, none⟩ = some (.int .i64 (k : Int)) := (cellsB (i := 8) s_1.out).trans rfl
      have F2_8 : u1.frozen? ⟨w2.heap.size, 8, none⟩ = false := frozB s_1.out
      have L2_9 : u1.cell? ⟨w2.heap.size, 9, none⟩ = some (.int .i64 0) := (cellsB (i := 9) s_1.out).trans rfl
      have F2_9 : u1.frozen? ⟨w2.heap.size, 9, none⟩ = false := frozB s_1.out
      have L2_10 : u1.cell? ⟨w2.heap.size, 10, none⟩ = some (.int .i64 100) := (cellsB (i := 10) s_1.out).trans rfl
      have F2_10 : u1.frozen? ⟨w2.heap.size, 10, none⟩ = false := frozB s_1.out
      have ss3 : Hid ((st11 u1 w2.heap.size (.int .i64 b) (.int .i64 c) (.int .i64 d) (.int .i64 m0) (.int .i64 m1) (.int .i64 m2) (.int .i64 p) (.int .i64 3) (.int .i64 0) (.int .i64 4) (.int .i64 100)).heap[w2.heap.size]? = some (.cells #[.int .i64 b, .int .i64 c, .int .i64 d, .int .i64 m0, .int .i64 m1, .int .i64 m2, .int .i64 p, .int .i64 3, .int .i64 0, .int .i64 4, .int .i64 100] 26 (0, 0))) := Lib.hid (st11_at s_1.out)
      have ws3 : Hid ((st11 u1 w2.heap.size (.int .i64 b) (.int .i64 c) (.int .i64 d) (.int .i64 m0) (.int .i64 m1) (.int .i64 m2) (.int .i64 p) (.int .i64 3) (.int .i64 0) (.int .i64 4) (.int .i64 100)).heap[w.heap.size]? = some (.cells #[.int .i64 b, .int .i64 c, .int .i64 d, .int .i64 m0, .int .i64 m1, .int .i64 m2, .int .i64 p] 24 (0, 0))) := Lib.hid ((st11_ne hws.symm).trans w_1.out)
      have Bs3 : Hid (Below w.heap.size w (st11 u1 w2.heap.size (.int .i64 b) (.int .i64 c) (.int .i64 d) (.int .i64 m0) (.int .i64 m1) (.int .i64 m2) (.int .i64 p) (.int .i64 3) (.int .i64 0) (.int .i64 4) (.int .i64 100))) := Lib.hid (st11_below B1.out (by omega))
      unfold st11 at ss3 ws3 Bs3
      have B1 := Bs3
      go_wp2_with fail
      refine (T.out _).mono ?_
      rintro e u2 ⟨rfl, q⟩
      have s_2 := Lib.hid (blk0 ss3.out q)
      have w_2 := Lib.hid (blk0 ws3.out q)
      have B2 := Lib.hid (bel0 B1.out B1.out.size q)
      clear q ss3 ws3 B1
      clear L2_0 F2_0 L2_1 F2_1 L2_2 F2_2 L2_3 F2_3 L2_4 F2_4 L2_5 F2_5 L2_6 F2_6 L2_7 F2_7 L2_8 F2_8 L2_9 F2_9 L2_10 F2_10
      have L4_0 : u2.cell? ⟨w2.heap.size, 0, none⟩ = some (.int .i64 b) := (cellsB (i := 0) s_2.out).trans rfl
      have L4_1 : u2.cell? ⟨w2.heap.size, 1, none⟩ = some (.int .i64 c) := (cellsB (i := 1) s_2.out).trans rfl
      have L4_2 : u2.cell? ⟨w2.heap.size, 2, none⟩ = some (.int .i64 d) := (cellsB (i := 2) s_2.out).trans rfl
      have L4_3 : u2.cell? ⟨w2.heap.size, 3, none⟩ = some (.int .i64 m0) := (cellsB (i := 3) s_2.out).trans rfl
      have L4_4 : u2.cell? ⟨w2.heap.size, 4, none⟩ = some (.int .i64 m1) := (cellsB (i := 4) s_2.out).trans rfl
      have L4_5 : u2.cell? ⟨w2.heap.size, 5, none⟩ = some (.int .i64 m2) := (cellsB (i := 5) s_2.out).trans rfl
      have L4_6 : u2.cell? ⟨w2.heap.size, 6, none⟩ = some (.int .i64 p) := (cellsB (i := 6) s_2.out).trans rfl
      have L4_7 : u2.cell? ⟨w2.heap.size, 7, none⟩ = some (.int .i64 3) := (cellsB (i := 7) s_2.out).trans rfl
      have L4_8 : u2.cell? ⟨w2.heap.size, 8, none⟩ = some (.int .i64 0) := (cellsB (i := 8) s_2.out).trans rfl
      have L4_9 : u2.cell? ⟨w2.heap.size, 9, none⟩ = some (.int .i64 4) := (cellsB (i := 9) s_2.out).trans rfl
      have L4_10 : u2.cell? ⟨w2.heap.size, 10, none⟩ = some (.int .i64 100) := (cellsB (i := 10) s_2.out).trans rfl
      have L5_0 : u2.cell? ⟨w.heap.size, 0, none⟩ = some (.int .i64 b) := (cellsB (i := 0) w_2.out).trans rfl
      have L5_1 : u2.cell? ⟨w.heap.size, 1, none⟩ = some (.int .i64 c) := (cellsB (i := 1) w_2.out).trans rfl
      have L5_2 : u2.cell? ⟨w.heap.size, 2, none⟩ = some (.int .i64 d) := (cellsB (i := 2) w_2.out).trans rfl
      have L5_3 : u2.cell? ⟨w.heap.size, 3, none⟩ = some (.int .i64 m0) := (cellsB (i := 3) w_2.out).trans rfl
      have L5_4 : u2.cell? ⟨w.heap.size, 4, none⟩ = some (.int .i64 m1) := (cellsB (i := 4) w_2.out).trans rfl
      have L5_5 : u2.cell? ⟨w.heap.size, 5, none⟩ = some (.int .i64 m2) := (cellsB (i := 5) w_2.out).trans rfl
      have L5_6 : u2.cell? ⟨w.heap.size, 6, none⟩ = some (.int .i64 p) := (cellsB (i := 6) w_2.out).trans rfl
      go_wp2
      go_ret
      exact ⟨rfl, B2.out⟩
    · clear hca
      have my := may_1 ⟨b, c, d, m0, m1, m2, p⟩ k 100 HX.out tk (by rw [HL.out, HN.out]; exact hkl)
      by_cases hd0 : d = 0
      · subst hd0
        have L1_0 : wr.cell? ⟨w.heap.size, 0, none⟩ = some (.int .i64 b) := (cellsB (i := 0) w_0.out).trans rfl
        have L1_1 : wr.cell? ⟨w.heap.size, 1, none⟩ = some (.int .i64 c) := (cellsB (i := 1) w_0.out).trans rfl
        have L1_2 : wr.cell? ⟨w.heap.size, 2, none⟩ = some (.int .i64 0) := (cellsB (i := 2) w_0.out).trans rfl
        have L1_3 : wr.cell? ⟨w.heap.size, 3, none⟩ = some (.int .i64 m0) := (cellsB (i := 3) w_0.out).trans rfl
        have L1_4 : wr.cell? ⟨w.heap.size, 4, none⟩ = some (.int .i64 m1) := (cellsB (i := 4) w_0.out).trans rfl
        have L1_5 : wr.cell? ⟨w.heap.size, 5, none⟩ = some (.int .i64 m2) := (cellsB (i := 5) w_0.out).trans rfl
        have L1_6 : wr.cell? ⟨w.heap.size, 6, none⟩ = some (.int .i64 p) := (cellsB (i := 6) w_0.out).trans rfl
        go_wp2_with fail
        refine (T.out _).mono ?_
        rintro e u1 ⟨rfl, q⟩
        have w_1 := Lib.hid (blk0 w_0.out q)
        have B1 := Lib.hid (bel0 B0.out B0.out.size q)
        clear q w_0 B0
        clear L1_0 L1_1 L1_2 L1_3 L1_4 L1_5 L1_6
        go_wp2
        go_ret
        exact ⟨rfl, B1.out⟩
      have hdb : (d == 0) = false := beq_eq_false_iff_ne.2 hd0
      obtain ⟨v1, hv1⟩ : ∃ v, 100 + d = v := ⟨_, rfl⟩
      have hw1 : IntKind.i64.wrap (100 + d) = v1 := by rw [← hv1]; exact IntWalk.i64_in _ (by omega)
      obtain ⟨v2, hv2⟩ : ∃ v, v1 - 1 = v := ⟨_, rfl⟩
      have hw2 : IntKind.i64.wrap (v1 - 1) = v2 := by rw [← hv2]; exact IntWalk.i64_in _ (by omega)
      have H2 := Lib.hid (fun W => late_is (show lateS ⟨⟨b, c, d, m0, m1, m2, p⟩, 1, (k : Int), 0, 100⟩ v2 = (⟨⟨b, c, d, m0, m1, m2, p⟩, 1, (k : Int), 0, 100⟩, false) from by rw [lateS, if_neg (fun g => by have g5 := g.2.2.2.2.1; simp only at g5; omega)]) W)
      simp only [S11.val] at H2
      have L1_0 : wr.cell? ⟨w2.heap.size, 0, none⟩ = some (.int .i64 b) := (cellsB (i := 0) s_0.out).trans rfl
      have L1_1 : wr.cell? ⟨w2.heap.size, 1, none⟩ = some (.int .i64 c) := (cellsB (i := 1) s_0.out).trans rfl
      have L1_2 : wr.cell? ⟨w2.heap.size, 2, none⟩ = some (.int .i64 d) := (cellsB (i := 2) s_0.out).trans rfl
      have L1_3 : wr.cell? ⟨w2.heap.size, 3, none⟩ = some (.int .i64 m0) := (cellsB (i := 3) s_0.out).trans rfl
      have L1_4 : wr.cell? ⟨w2.heap.size, 4, none⟩ = some (.int .i64 m1) := (cellsB (i := 4) s_0.out).trans rfl
      have L1_5 : wr.cell? ⟨w2.heap.size, 5, none⟩ = some (.int .i64 m2) := (cellsB (i := 5) s_0.out).trans rfl
      have L1_6 : wr.cell? ⟨w2.heap.size, 6, none⟩ = some (.int .i64 p) := (cellsB (i := 6) s_0.out).trans rfl
      have L1_7 : wr.cell? ⟨w2.heap.size, 7, none⟩ = some (.int .i64 1) := (cellsB (i := 7) s_0.out).trans rfl
      have L1_8 : wr.cell? ⟨w2.heap.size, 8, none⟩ = some (.int .i64 (k : Int)) := (cellsB (i := 8) s_0.out).trans rfl
      have L1_9 : wr.cell? ⟨w2.heap.size, 9, none⟩ = some (.int .i64 0) := (cellsB (i := 9) s_0.out).trans rfl
      have L1_10 : wr.cell? ⟨w2.heap.size, 10, none⟩ = some (.int .i64 100) := (cellsB (i := 10) s_0.out).trans rfl
      have L2_0 : wr.cell? ⟨w.heap.size, 0, none⟩ = some (.int .i64 b) := (cellsB (i := 0) w_0.out).trans rfl
      have L2_1 : wr.cell? ⟨w.heap.size, 1, none⟩ = some (.int .i64 c) := (cellsB (i := 1) w_0.out).trans rfl
      have L2_2 : wr.cell? ⟨w.heap.size, 2, none⟩ = some (.int .i64 d) := (cellsB (i := 2) w_0.out).trans rfl
      have L2_3 : wr.cell? ⟨w.heap.size, 3, none⟩ = some (.int .i64 m0) := (cellsB (i := 3) w_0.out).trans rfl
      have L2_4 : wr.cell? ⟨w.heap.size, 4, none⟩ = some (.int .i64 m1) := (cellsB (i := 4) w_0.out).trans rfl
      have L2_5 : wr.cell? ⟨w.heap.size, 5, none⟩ = some (.int .i64 m2) := (cellsB (i := 5) w_0.out).trans rfl
      have L2_6 : wr.cell? ⟨w.heap.size, 6, none⟩ = some (.int .i64 p) := (cellsB (i := 6) w_0.out).trans rfl
      go_wp2_with fail
      refine (H2.out _).mono ?_
      rintro e u1 ⟨rfl, q⟩
      have s_1 := Lib.hid (blk0 s_0.out q)
      have w_1 := Lib.hid (blk0 w_0.out q)
      have B1 := Lib.hid (bel0 B0.out B0.out.size q)
      clear q s_0 w_0 B0
      clear L1_0 L1_1 L1_2 L1_3 L1_4 L1_5 L1_6 L1_7 L1_8 L1_9 L1_10 L2_0 L2_1 L2_2 L2_3 L2_4 L2_5 L2_6
      have L3_0 : (u1.alloc (.cells #[.int .i64 b, .int .i64 c, .int .i64 d, .int .i64 m0, .int .i64 m1, .int .i64 m2, .int .i64 p, .int .i64 1, .int .i64 (k : Int), .int .i64 0, .int .i64 100] 26)).cell? ⟨w.heap.size, 0, none⟩ = some (.int .i64 b) := (cellsB (i := 0) (alc (o := (.cells #[.int .i64 b, .int .i64 c, .int .i64 d, .int .i64 m0, .int .i64 m1, .int .i64 m2, .int .i64 p, .int .i64 1, .int .i64 (k : Int), .int .i64 0, .int .i64 100] 26)) w_1.out)).trans rfl
      have L3_1 : (u1.alloc (.cells #[.int .i64 b, .int .i64 c, .int .i64 d, .int .i64 m0, .int .i64 m1, .int .i64 m2, .int .i64 p, .int .i64 1, .int .i64 (k : Int), .int .i64 0, .int .i64 100] 26)).cell? ⟨w.heap.size, 1, none⟩ = some (.int .i64 c) := (cellsB (i := 1) (alc (o := (.cells #[.int .i64 b, .int .i64 c, .int .i64 d, .int .i64 m0, .int .i64 m1, .int .i64 m2, .int .i64 p, .int .i64 1, .int .i64 (k : Int), .int .i64 0, .int .i64 100] 26)) w_1.out)).trans rfl
      have L3_2 : (u1.alloc (.cells #[.int .i64 b, .int .i64 c, .int .i64 d, .int .i64 m0, .int .i64 m1, .int .i64 m2, .int .i64 p, .int .i64 1, .int .i64 (k : Int), .int .i64 0, .int .i64 100] 26)).cell? ⟨w.heap.size, 2, none⟩ = some (.int .i64 d) := (cellsB (i := 2) (alc (o := (.cells #[.int .i64 b, .int .i64 c, .int .i64 d, .int .i64 m0, .int .i64 m1, .int .i64 m2, .int .i64 p, .int .i64 1, .int .i64 (k : Int), .int .i64 0, .int .i64 100] 26)) w_1.out)).trans rfl
      have L3_3 : (u1.alloc (.cells #[.int .i64 b, .int .i64 c, .int .i64 d, .int .i64 m0, .int .i64 m1, .int .i64 m2, .int .i64 p, .int .i64 1, .int .i64 (k : Int), .int .i64 0, .int .i64 100] 26)).cell? ⟨w.heap.size, 3, none⟩ = some (.int .i64 m0) := (cellsB (i := 3) (alc (o := (.cells #[.int .i64 b, .int .i64 c, .int .i64 d, .int .i64 m0, .int .i64 m1, .int .i64 m2, .int .i64 p, .int .i64 1, .int .i64 (k : Int), .int .i64 0, .int .i64 100] 26)) w_1.out)).trans rfl
      have L3_4 : (u1.alloc (.cells #[.int .i64 b, .int .i64 c, .int .i64 d, .int .i64 m0, .int .i64 m1, .int .i64 m2, .int .i64 p, .int .i64 1, .int .i64 (k : Int), .int .i64 0, .int .i64 100] 26)).cell? ⟨w.heap.size, 4, none⟩ = some (.int .i64 m1) := (cellsB (i := 4) (alc (o := (.cells #[.int .i64 b, .int .i64 c, .int .i64 d, .int .i64 m0, .int .i64 m1, .int .i64 m2, .int .i64 p, .int .i64 1, .int .i64 (k : Int), .int .i64 0, .int .i64 100] 26)) w_1.out)).trans rfl
      have L3_5 : (u1.alloc (.cells #[.int .i64 b, .int .i64 c, .int .i64 d, .int .i64 m0, .int .i64 m1, .int .i64 m2, .int .i64 p, .int .i64 1, .int .i64 (k : Int), .int .i64 0, .int .i64 100] 26)).cell? ⟨w.heap.size, 5, none⟩ = some (.int .i64 m2) := (cellsB (i := 5) (alc (o := (.cells #[.int .i64 b, .int .i64 c, .int .i64 d, .int .i64 m0, .int .i64 m1, .int .i64 m2, .int .i64 p, .int .i64 1, .int .i64 (k : Int), .int .i64 0, .int .i64 100] 26)) w_1.out)).trans rfl
      have L3_6 : (u1.alloc (.cells #[.int .i64 b, .int .i64 c, .int .i64 d, .int .i64 m0, .int .i64 m1, .int .i64 m2, .int .i64 p, .int .i64 1, .int .i64 (k : Int), .int .i64 0, .int .i64 100] 26)).cell? ⟨w.heap.size, 6, none⟩ = some (.int .i64 p) := (cellsB (i := 6) (alc (o := (.cells #[.int .i64 b, .int .i64 c, .int .i64 d, .int .i64 m0, .int .i64 m1, .int .i64 m2, .int .i64 p, .int .i64 1, .int .i64 (k : Int), .int .i64 0, .int .i64 100] 26)) w_1.out)).trans rfl
      by_cases hv : 1099511627776 < v1
      · go_wp2_with fail
        refine (T.out _).mono ?_
        rintro e u2 ⟨rfl, q⟩
        have s_2 := Lib.hid (blk1 s_1.out q)
        have w_2 := Lib.hid (blk1 w_1.out q)
        have y_2 := Lib.hid (new1 q)
        have B2 := Lib.hid (bel1 B1.out B1.out.size q)
        clear q s_1 w_1 B1
        clear L3_0 L3_1 L3_2 L3_3 L3_4 L3_5 L3_6
        go_wp2
        go_ret
        exact ⟨rfl, B2.out⟩
      have H3 := Lib.hid (fun W => late_is (show lateS ⟨⟨b, c, d, m0, m1, m2, p⟩, 1, (k : Int), 0, 100⟩ v1 = (⟨⟨b, c, d, m0, m1, m2, p⟩, 3, 0, 3, 100⟩, true) from by rw [lateS, if_pos ⟨my, rfl, hd0, by omega, by simp only; omega, by simp only; omega⟩]; rfl) W)
      simp only [S11.val] at H3
      have L4_0 : (u1.alloc (.cells #[.int .i64 b, .int .i64 c, .int .i64 d, .int .i64 m0, .int .i64 m1, .int .i64 m2, .int .i64 p, .int .i64 1, .int .i64 (k : Int), .int .i64 0, .int .i64 100] 26)).cell? ⟨w2.heap.size, 0, none⟩ = some (.int .i64 b) := (cellsB (i := 0) (alc (o := (.cells #[.int .i64 b, .int .i64 c, .int .i64 d, .int .i64 m0, .int .i64 m1, .int .i64 m2, .int .i64 p, .int .i64 1, .int .i64 (k : Int), .int .i64 0, .int .i64 100] 26)) s_1.out)).trans rfl
      have L4_1 : (u1.alloc (.cells #[.int .i64 b, .int .i64 c, .int .i64 d, .int .i64 m0, .int .i64 m1, .int .i64 m2, .int .i64 p, .int .i64 1, .int .i64 (k : Int), .int .i64 0, .int .i64 100] 26)).cell? ⟨w2.heap.size, 1, none⟩ = some (.int .i64 c) := (cellsB (i := 1) (alc (o := (.cells #[.int .i64 b, .int .i64 c, .int .i64 d, .int .i64 m0, .int .i64 m1, .int .i64 m2, .int .i64 p, .int .i64 1, .int .i64 (k : Int), .int .i64 0, .int .i64 100] 26)) s_1.out)).trans rfl
      have L4_2 : (u1.alloc (.cells #[.int .i64 b, .int .i64 c, .int .i64 d, .int .i64 m0, .int .i64 m1, .int .i64 m2, .int .i64 p, .int .i64 1, .int .i64 (k : Int), .int .i64 0, .int .i64 100] 26)).cell? ⟨w2.heap.size, 2, none⟩ = some (.int .i64 d) := (cellsB (i := 2) (alc (o := (.cells #[.int .i64 b, .int .i64 c, .int .i64 d, .int .i64 m0, .int .i64 m1, .int .i64 m2, .int .i64 p, .int .i64 1, .int .i64 (k : Int), .int .i64 0, .int .i64 100] 26)) s_1.out)).trans rfl
      have L4_3 : (u1.alloc (.cells #[.int .i64 b, .int .i64 c, .int .i64 d, .int .i64 m0, .int .i64 m1, .int .i64 m2, .int .i64 p, .int .i64 1, .int .i64 (k : Int), .int .i64 0, .int .i64 100] 26)).cell? ⟨w2.heap.size, 3, none⟩ = some (.int .i64 m0) := (cellsB (i := 3) (alc (o := (.cells #[.int .i64 b, .int .i64 c, .int .i64 d, .int .i64 m0, .int .i64 m1, .int .i64 m2, .int .i64 p, .int .i64 1, .int .i64 (k : Int), .int .i64 0, .int .i64 100] 26)) s_1.out)).trans rfl
      have L4_4 : (u1.alloc (.cells #[.int .i64 b, .int .i64 c, .int .i64 d, .int .i64 m0, .int .i64 m1, .int .i64 m2, .int .i64 p, .int .i64 1, .int .i64 (k : Int), .int .i64 0, .int .i64 100] 26)).cell? ⟨w2.heap.size, 4, none⟩ = some (.int .i64 m1) := (cellsB (i := 4) (alc (o := (.cells #[.int .i64 b, .int .i64 c, .int .i64 d, .int .i64 m0, .int .i64 m1, .int .i64 m2, .int .i64 p, .int .i64 1, .int .i64 (k : Int), .int .i64 0, .int .i64 100] 26)) s_1.out)).trans rfl
      have L4_5 : (u1.alloc (.cells #[.int .i64 b, .int .i64 c, .int .i64 d, .int .i64 m0, .int .i64 m1, .int .i64 m2, .int .i64 p, .int .i64 1, .int .i64 (k : Int), .int .i64 0, .int .i64 100] 26)).cell? ⟨w2.heap.size, 5, none⟩ = some (.int .i64 m2) := (cellsB (i := 5) (alc (o := (.cells #[.int .i64 b, .int .i64 c, .int .i64 d, .int .i64 m0, .int .i64 m1, .int .i64 m2, .int .i64 p, .int .i64 1, .int .i64 (k : Int), .int .i64 0, .int .i64 100] 26)) s_1.out)).trans rfl
      have L4_6 : (u1.alloc (.cells #[.int .i64 b, .int .i64 c, .int .i64 d, .int .i64 m0, .int .i64 m1, .int .i64 m2, .int .i64 p, .int .i64 1, .int .i64 (k : Int), .int .i64 0, .int .i64 100] 26)).cell? ⟨w2.heap.size, 6, none⟩ = some (.int .i64 p) := (cellsB (i := 6) (alc (o := (.cells #[.int .i64 b, .int .i64 c, .int .i64 d, .int .i64 m0, .int .i64 m1, .int .i64 m2, .int .i64 p, .int .i64 1, .int .i64 (k : Int), .int .i64 0, .int .i64 100] 26)) s_1.out)).trans rfl
      have L4_7 : (u1.alloc (.cells #[.int .i64 b, .int .i64 c, .int .i64 d, .int .i64 m0, .int .i64 m1, .int .i64 m2, .int .i64 p, .int .i64 1, .int .i64 (k : Int), .int .i64 0, .int .i64 100] 26)).cell? ⟨w2.heap.size, 7, none⟩ = some (.int .i64 1) := (cellsB (i := 7) (alc (o := (.cells #[.int .i64 b, .int .i64 c, .int .i64 d, .int .i64 m0, .int .i64 m1, .int .i64 m2, .int .i64 p, .int .i64 1, .int .i64 (k : Int), .int .i64 0, .int .i64 100] 26)) s_1.out)).trans rfl
      have L4_8 : (u1.alloc (.cells #[.int .i64 b, .int .i64 c, .int .i64 d, .int .i64 m0, .int .i64 m1, .int .i64 m2, .int .i64 p, .int .i64 1, .int .i64 (k : Int), .int .i64 0, .int .i64 100] 26)).cell? ⟨w2.heap.size, 8, none⟩ = some (.int .i64 (k : Int)) := (cellsB (i := 8) (alc (o := (.cells #[.int .i64 b, .int .i64 c, .int .i64 d, .int .i64 m0, .int .i64 m1, .int .i64 m2, .int .i64 p, .int .i64 1, .int .i64 (k : Int), .int .i64 0, .int .i64 100] 26)) s_1.out)).trans rfl
      have L4_9 : (u1.alloc (.cells #[.int .i64 b, .int .i64 c, .int .i64 d, .int .i64 m0, .int .i64 m1, .int .i64 m2, .int .i64 p, .int .i64 1, .int .i64 (k : Int), .int .i64 0, .int .i64 100] 26)).cell? ⟨w2.heap.size, 9, none⟩ = some (.int .i64 0) := (cellsB (i := 9) (alc (o := (.cells #[.int .i64 b, .int .i64 c, .int .i64 d, .int .i64 m0, .int .i64 m1, .int .i64 m2, .int .i64 p, .int .i64 1, .int .i64 (k : Int), .int .i64 0, .int .i64 100] 26)) s_1.out)).trans rfl
      have L4_10 : (u1.alloc (.cells #[.int .i64 b, .int .i64 c, .int .i64 d, .int .i64 m0, .int .i64 m1, .int .i64 m2, .int .i64 p, .int .i64 1, .int .i64 (k : Int), .int .i64 0, .int .i64 100] 26)).cell? ⟨w2.heap.size, 10, none⟩ = some (.int .i64 100) := (cellsB (i := 10) (alc (o := (.cells #[.int .i64 b, .int .i64 c, .int .i64 d, .int .i64 m0, .int .i64 m1, .int .i64 m2, .int .i64 p, .int .i64 1, .int .i64 (k : Int), .int .i64 0, .int .i64 100] 26)) s_1.out)).trans rfl
      go_wp2_with fail
      refine (H3.out _).mono ?_
      rintro e u2 ⟨rfl, q⟩
      have s_2 := Lib.hid (blk1 s_1.out q)
      have w_2 := Lib.hid (blk1 w_1.out q)
      have y_2 := Lib.hid (new1 q)
      have B2 := Lib.hid (bel1 B1.out B1.out.size q)
      clear q s_1 w_1 B1
      clear L3_0 L3_1 L3_2 L3_3 L3_4 L3_5 L3_6 L4_0 L4_1 L4_2 L4_3 L4_4 L4_5 L4_6 L4_7 L4_8 L4_9 L4_10
      clear y_2
      have L5_0 : u2.cell? ⟨w2.heap.size, 0, none⟩ = some (.int .i64 b) := (cellsB (i := 0) s_2.out).trans rfl
      have F5_0 : u2.frozen? ⟨w2.heap.size, 0, none⟩ = false := frozB s_2.out
      have L5_1 : u2.cell? ⟨w2.heap.size, 1, none⟩ = some (.int .i64 c) := (cellsB (i := 1) s_2.out).trans rfl
      have F5_1 : u2.frozen? ⟨w2.heap.size, 1, none⟩ = false := frozB s_2.out
      have L5_2 : u2.cell? ⟨w2.heap.size, 2, none⟩ = some (.int .i64 d) := (cellsB (i := 2) s_2.out).trans rfl
      have F5_2 : u2.frozen? ⟨w2.heap.size, 2, none⟩ = false := frozB s_2.out
      have L5_3 : u2.cell? ⟨w2.heap.size, 3, none⟩ = some (.int .i64 m0) := (cellsB (i := 3) s_2.out).trans rfl
      have F5_3 : u2.frozen? ⟨w2.heap.size, 3, none⟩ = false := frozB s_2.out
      have L5_4 : u2.cell? ⟨w2.heap.size, 4, none⟩ = some (.int .i64 m1) := (cellsB (i := 4) s_2.out).trans rfl
      have F5_4 : u2.frozen? ⟨w2.heap.size, 4, none⟩ = false := frozB s_2.out
      have L5_5 : u2.cell? ⟨w2.heap.size, 5, none⟩ = some (.int .i64 m2) := (cellsB (i := 5) s_2.out).trans rfl
      have F5_5 : u2.frozen? ⟨w2.heap.size, 5, none⟩ = false := frozB s_2.out
      have L5_6 : u2.cell? ⟨w2.heap.size, 6, none⟩ = some (.int .i64 p) := (cellsB (i := 6) s_2.out).trans rfl
      have F5_6 : u2.frozen? ⟨w2.heap.size, 6, none⟩ = false := frozB s_2.out
      have L5_7 : u2.cell? ⟨w2.heap.size, 7, none⟩ = some (.int .i64 1) := (cellsB (i := 7) s_2.out).trans rfl
      have F5_7 : u2.frozen? ⟨w2.heap.size, 7, none⟩ = false := frozB s_2.out
      have L5_8 : u2.cell? ⟨w2.heap.size, 8, none⟩ = some (.int .i64 (k : Int)) := (cellsB (i := 8) s_2.out).trans rfl
      have F5_8 : u2.frozen? ⟨w2.heap.size, 8, none⟩ = false := frozB s_2.out
      have L5_9 : u2.cell? ⟨w2.heap.size, 9, none⟩ = some (.int .i64 0) := (cellsB (i := 9) s_2.out).trans rfl
      have F5_9 : u2.frozen? ⟨w2.heap.size, 9, none⟩ = false := frozB s_2.out
      have L5_10 : u2.cell? ⟨w2.heap.size, 10, none⟩ = some (.int .i64 100) := (cellsB (i := 10) s_2.out).trans rfl
      have F5_10 : u2.frozen? ⟨w2.heap.size, 10, none⟩ = false := frozB s_2.out
      have ss6 : Hid ((st11 u2 w2.heap.size (.int .i64 b) (.int .i64 c) (.int .i64 d) (.int .i64 m0) (.int .i64 m1) (.int .i64 m2) (.int .i64 p) (.int .i64 3) (.int .i64 0) (.int .i64 3) (.int .i64 100)).heap[w2.heap.size]? = some (.cells #[.int .i64 b, .int .i64 c, .int .i64 d, .int .i64 m0, .int .i64 m1, .int .i64 m2, .int .i64 p, .int .i64 3, .int .i64 0, .int .i64 3, .int .i64 100] 26 (0, 0))) := Lib.hid (st11_at s_2.out)
      have ws6 : Hid ((st11 u2 w2.heap.size (.int .i64 b) (.int .i64 c) (.int .i64 d) (.int .i64 m0) (.int .i64 m1) (.int .i64 m2) (.int .i64 p) (.int .i64 3) (.int .i64 0) (.int .i64 3) (.int .i64 100)).heap[w.heap.size]? = some (.cells #[.int .i64 b, .int .i64 c, .int .i64 d, .int .i64 m0, .int .i64 m1, .int .i64 m2, .int .i64 p] 24 (0, 0))) := Lib.hid ((st11_ne hws.symm).trans w_2.out)
      have Bs6 : Hid (Below w.heap.size w (st11 u2 w2.heap.size (.int .i64 b) (.int .i64 c) (.int .i64 d) (.int .i64 m0) (.int .i64 m1) (.int .i64 m2) (.int .i64 p) (.int .i64 3) (.int .i64 0) (.int .i64 3) (.int .i64 100))) := Lib.hid (st11_below B2.out (by omega))
      unfold st11 at ss6 ws6 Bs6
      have B2 := Bs6
      go_wp2_with fail
      refine (T.out _).mono ?_
      rintro e u3 ⟨rfl, q⟩
      have s_3 := Lib.hid (blk0 ss6.out q)
      have w_3 := Lib.hid (blk0 ws6.out q)
      have B3 := Lib.hid (bel0 B2.out B2.out.size q)
      clear q ss6 ws6 B2
      clear L5_0 F5_0 L5_1 F5_1 L5_2 F5_2 L5_3 F5_3 L5_4 F5_4 L5_5 F5_5 L5_6 F5_6 L5_7 F5_7 L5_8 F5_8 L5_9 F5_9 L5_10 F5_10
      have L7_0 : u3.cell? ⟨w2.heap.size, 0, none⟩ = some (.int .i64 b) := (cellsB (i := 0) s_3.out).trans rfl
      have L7_1 : u3.cell? ⟨w2.heap.size, 1, none⟩ = some (.int .i64 c) := (cellsB (i := 1) s_3.out).trans rfl
      have L7_2 : u3.cell? ⟨w2.heap.size, 2, none⟩ = some (.int .i64 d) := (cellsB (i := 2) s_3.out).trans rfl
      have L7_3 : u3.cell? ⟨w2.heap.size, 3, none⟩ = some (.int .i64 m0) := (cellsB (i := 3) s_3.out).trans rfl
      have L7_4 : u3.cell? ⟨w2.heap.size, 4, none⟩ = some (.int .i64 m1) := (cellsB (i := 4) s_3.out).trans rfl
      have L7_5 : u3.cell? ⟨w2.heap.size, 5, none⟩ = some (.int .i64 m2) := (cellsB (i := 5) s_3.out).trans rfl
      have L7_6 : u3.cell? ⟨w2.heap.size, 6, none⟩ = some (.int .i64 p) := (cellsB (i := 6) s_3.out).trans rfl
      have L7_7 : u3.cell? ⟨w2.heap.size, 7, none⟩ = some (.int .i64 3) := (cellsB (i := 7) s_3.out).trans rfl
      have L7_8 : u3.cell? ⟨w2.heap.size, 8, none⟩ = some (.int .i64 0) := (cellsB (i := 8) s_3.out).trans rfl
      have L7_9 : u3.cell? ⟨w2.heap.size, 9, none⟩ = some (.int .i64 3) := (cellsB (i := 9) s_3.out).trans rfl
      have L7_10 : u3.cell? ⟨w2.heap.size, 10, none⟩ = some (.int .i64 100) := (cellsB (i := 10) s_3.out).trans rfl
      have L8_0 : u3.cell? ⟨w.heap.size, 0, none⟩ = some (.int .i64 b) := (cellsB (i := 0) w_3.out).trans rfl
      have L8_1 : u3.cell? ⟨w.heap.size, 1, none⟩ = some (.int .i64 c) := (cellsB (i := 1) w_3.out).trans rfl
      have L8_2 : u3.cell? ⟨w.heap.size, 2, none⟩ = some (.int .i64 d) := (cellsB (i := 2) w_3.out).trans rfl
      have L8_3 : u3.cell? ⟨w.heap.size, 3, none⟩ = some (.int .i64 m0) := (cellsB (i := 3) w_3.out).trans rfl
      have L8_4 : u3.cell? ⟨w.heap.size, 4, none⟩ = some (.int .i64 m1) := (cellsB (i := 4) w_3.out).trans rfl
      have L8_5 : u3.cell? ⟨w.heap.size, 5, none⟩ = some (.int .i64 m2) := (cellsB (i := 5) w_3.out).trans rfl
      have L8_6 : u3.cell? ⟨w.heap.size, 6, none⟩ = some (.int .i64 p) := (cellsB (i := 6) w_3.out).trans rfl
      go_wp2
      go_ret
      exact ⟨rfl, B3.out⟩
theorem reasons_walk (x : W7) (at_ how : Int) (w : World) : Calls Try.prog 5 #[x.val, .int .i64 at_, .int .i64 how] w fun e w' => e = .returned (.bool true) ∧ Below w.heap.size w w' := by
  by_cases h : MayW x
  · exact reasons_may x at_ how w h
  · exact reasons_not x at_ how w h
end Go.Proofs.Ytplgodfhhlnojaa
