/- The law SagaWhole, walked (printed by genwhole15.py). -/
import Derived.Test.YtplgodfhhlnojaaSgPure
import Derived.Test.YtplgodfhhlnojaaBelowR
import Derived.Outline
set_option linter.unusedSimpArgs false
set_option linter.unusedVariables false
namespace Go.Proofs.Ytplgodfhhlnojaa
open Go.RowKit
theorem u_rem15 (a m : Int) (h0 : 0 < m) : ∃ n : Nat, (IntKind.u64.wrap a).tmod m = (n : Int) ∧ (n : Int) < m := by
  have h1 : 0 ≤ (IntKind.u64.wrap a).tmod m := by rw [IntKind.wrap_u64]; exact Int.tmod_nonneg _ (Int.emod_nonneg _ (by omega))
  have h2 : (IntKind.u64.wrap a).tmod m < m := by rw [IntKind.wrap_u64, Int.tmod_eq_emod_of_nonneg (Int.emod_nonneg _ (by omega))]; exact Int.emod_lt_of_pos _ h0
  obtain ⟨n, hn⟩ := Int.eq_ofNat_of_zero_le h1
  exact ⟨n, hn, by omega⟩
set_option maxRecDepth 100000 in
set_option maxHeartbeats 4000000 in
theorem whole_not (x : W7) (now : Int) (w : World) (h : ¬ MayW x) : Calls Try.prog 6 #[x.val, .int .i64 now] w fun e w' => e = .returned (.bool true) ∧ Below w.heap.size w w' := by
  obtain ⟨b, c, d, m0, m1, m2, p⟩ := x
  have T := Lib.hid told15
  have HM := Lib.hid (fun W => rmay_is ⟨b, c, d, m0, m1, m2, p⟩ false (decide_eq_false h) W)
  unfold W7.val at HM ⊢
  simp only at HM ⊢
  obtain ⟨f1, f3⟩ := one_box w (.cells #[.int .i64 b, .int .i64 c, .int .i64 d, .int .i64 m0, .int .i64 m1, .int .i64 m2, .int .i64 p] 24)
  have w_0 := Lib.hid f1
  have B0 := Lib.hid f3
  clear f1 f3
  clear h
  go_enter Try.func6, Try.ntmps6
  have L1_0 : (w.alloc (.cells #[.int .i64 b, .int .i64 c, .int .i64 d, .int .i64 m0, .int .i64 m1, .int .i64 m2, .int .i64 p] 24)).cell? ⟨w.heap.size, 0, none⟩ = some (.int .i64 b) := (cellsB (i := 0) w_0.out).trans rfl
  have L1_1 : (w.alloc (.cells #[.int .i64 b, .int .i64 c, .int .i64 d, .int .i64 m0, .int .i64 m1, .int .i64 m2, .int .i64 p] 24)).cell? ⟨w.heap.size, 1, none⟩ = some (.int .i64 c) := (cellsB (i := 1) w_0.out).trans rfl
  have L1_2 : (w.alloc (.cells #[.int .i64 b, .int .i64 c, .int .i64 d, .int .i64 m0, .int .i64 m1, .int .i64 m2, .int .i64 p] 24)).cell? ⟨w.heap.size, 2, none⟩ = some (.int .i64 d) := (cellsB (i := 2) w_0.out).trans rfl
  have L1_3 : (w.alloc (.cells #[.int .i64 b, .int .i64 c, .int .i64 d, .int .i64 m0, .int .i64 m1, .int .i64 m2, .int .i64 p] 24)).cell? ⟨w.heap.size, 3, none⟩ = some (.int .i64 m0) := (cellsB (i := 3) w_0.out).trans rfl
  have L1_4 : (w.alloc (.cells #[.int .i64 b, .int .i64 c, .int .i64 d, .int .i64 m0, .int .i64 m1, .int .i64 m2, .int .i64 p] 24)).cell? ⟨w.heap.size, 4, none⟩ = some (.int .i64 m1) := (cellsB (i := 4) w_0.out).trans rfl
  have L1_5 : (w.alloc (.cells #[.int .i64 b, .int .i64 c, .int .i64 d, .int .i64 m0, .int .i64 m1, .int .i64 m2, .int .i64 p] 24)).cell? ⟨w.heap.size, 5, none⟩ = some (.int .i64 m2) := (cellsB (i := 5) w_0.out).trans rfl
  have L1_6 : (w.alloc (.cells #[.int .i64 b, .int .i64 c, .int .i64 d, .int .i64 m0, .int .i64 m1, .int .i64 m2, .int .i64 p] 24)).cell? ⟨w.heap.size, 6, none⟩ = some (.int .i64 p) := (cellsB (i := 6) w_0.out).trans rfl
  go_wp2_with fail
  refine (HM.out _).mono ?_
  rintro e w1 ⟨rfl, q⟩
  have w_1 := Lib.hid (blk0 w_0.out q)
  have B1 := Lib.hid (bel0 B0.out B0.out.size q)
  clear q w_0 B0
  clear L1_0 L1_1 L1_2 L1_3 L1_4 L1_5 L1_6
  clear w_1
  go_wp2_with fail
  refine (T.out _).mono ?_
  rintro e w2 ⟨rfl, q⟩
  have B2 := Lib.hid (bel0 B1.out B1.out.size q)
  clear q B1
  go_wp2
  go_ret
  exact ⟨rfl, B2.out⟩
set_option maxRecDepth 100000 in
set_option maxHeartbeats 4000000 in
theorem whole_may (x : W7) (now : Int) (w : World) (h : MayW x) : Calls Try.prog 6 #[x.val, .int .i64 now] w fun e w' => e = .returned (.bool true) ∧ Below w.heap.size w w' := by
  obtain ⟨b, c, d, m0, m1, m2, p⟩ := x
  have T := Lib.hid told15
  have HM := Lib.hid (fun W => rmay_is ⟨b, c, d, m0, m1, m2, p⟩ true (decide_eq_true h) W)
  obtain ⟨t, ht, ht2⟩ := u_rem15 now 1000000 (by omega)
  have tk : TickOk (t : Int) := ⟨by omega, by omega⟩
  have HNW := Lib.hid (fun W => new_is (show newS ⟨b, c, d, m0, m1, m2, p⟩ t = (⟨⟨b, c, d, m0, m1, m2, p⟩, 1, 0, 0, (t : Int)⟩, 0) from by rw [newS, if_pos ⟨h, by omega, by omega⟩]) W)
  have HF := Lib.hid (fun W => forward_c ⟨b, c, d, m0, m1, m2, p⟩ W)
  obtain ⟨l, hl⟩ : ∃ l, forwardL ⟨b, c, d, m0, m1, m2, p⟩ = l := ⟨_, rfl⟩
  have hpos := fwd_pos ⟨b, c, d, m0, m1, m2, p⟩ h
  rw [hl] at HF hpos
  obtain ⟨n, hn⟩ : ∃ n, l.length = n := ⟨_, rfl⟩
  rw [hn] at hpos
  have HL := Lib.hid hl
  have HN := Lib.hid hn
  have HX := Lib.hid h
  obtain ⟨hn1, hn9⟩ := hpos
  unfold RA at HF
  unfold W7.val at HM HNW HF ⊢
  unfold S11.val at HNW
  simp only at HM HNW HF ⊢
  clear hl h hn
  obtain ⟨f1, f3⟩ := one_box w (.cells #[.int .i64 b, .int .i64 c, .int .i64 d, .int .i64 m0, .int .i64 m1, .int .i64 m2, .int .i64 p] 24)
  have w_0 := Lib.hid f1
  have B0 := Lib.hid f3
  clear f1 f3
  go_enter Try.func6, Try.ntmps6
  have L1_0 : (w.alloc (.cells #[.int .i64 b, .int .i64 c, .int .i64 d, .int .i64 m0, .int .i64 m1, .int .i64 m2, .int .i64 p] 24)).cell? ⟨w.heap.size, 0, none⟩ = some (.int .i64 b) := (cellsB (i := 0) w_0.out).trans rfl
  have L1_1 : (w.alloc (.cells #[.int .i64 b, .int .i64 c, .int .i64 d, .int .i64 m0, .int .i64 m1, .int .i64 m2, .int .i64 p] 24)).cell? ⟨w.heap.size, 1, none⟩ = some (.int .i64 c) := (cellsB (i := 1) w_0.out).trans rfl
  have L1_2 : (w.alloc (.cells #[.int .i64 b, .int .i64 c, .int .i64 d, .int .i64 m0, .int .i64 m1, .int .i64 m2, .int .i64 p] 24)).cell? ⟨w.heap.size, 2, none⟩ = some (.int .i64 d) := (cellsB (i := 2) w_0.out).trans rfl
  have L1_3 : (w.alloc (.cells #[.int .i64 b, .int .i64 c, .int .i64 d, .int .i64 m0, .int .i64 m1, .int .i64 m2, .int .i64 p] 24)).cell? ⟨w.heap.size, 3, none⟩ = some (.int .i64 m0) := (cellsB (i := 3) w_0.out).trans rfl
  have L1_4 : (w.alloc (.cells #[.int .i64 b, .int .i64 c, .int .i64 d, .int .i64 m0, .int .i64 m1, .int .i64 m2, .int .i64 p] 24)).cell? ⟨w.heap.size, 4, none⟩ = some (.int .i64 m1) := (cellsB (i := 4) w_0.out).trans rfl
  have L1_5 : (w.alloc (.cells #[.int .i64 b, .int .i64 c, .int .i64 d, .int .i64 m0, .int .i64 m1, .int .i64 m2, .int .i64 p] 24)).cell? ⟨w.heap.size, 5, none⟩ = some (.int .i64 m2) := (cellsB (i := 5) w_0.out).trans rfl
  have L1_6 : (w.alloc (.cells #[.int .i64 b, .int .i64 c, .int .i64 d, .int .i64 m0, .int .i64 m1, .int .i64 m2, .int .i64 p] 24)).cell? ⟨w.heap.size, 6, none⟩ = some (.int .i64 p) := (cellsB (i := 6) w_0.out).trans rfl
  go_wp2_with fail
  refine (HM.out _).mono ?_
  rintro e w1 ⟨rfl, q⟩
  have w_1 := Lib.hid (blk0 w_0.out q)
  have B1 := Lib.hid (bel0 B0.out B0.out.size q)
  clear q w_0 B0
  clear L1_0 L1_1 L1_2 L1_3 L1_4 L1_5 L1_6
  have L2_0 : w1.cell? ⟨w.heap.size, 0, none⟩ = some (.int .i64 b) := (cellsB (i := 0) w_1.out).trans rfl
  have L2_1 : w1.cell? ⟨w.heap.size, 1, none⟩ = some (.int .i64 c) := (cellsB (i := 1) w_1.out).trans rfl
  have L2_2 : w1.cell? ⟨w.heap.size, 2, none⟩ = some (.int .i64 d) := (cellsB (i := 2) w_1.out).trans rfl
  have L2_3 : w1.cell? ⟨w.heap.size, 3, none⟩ = some (.int .i64 m0) := (cellsB (i := 3) w_1.out).trans rfl
  have L2_4 : w1.cell? ⟨w.heap.size, 4, none⟩ = some (.int .i64 m1) := (cellsB (i := 4) w_1.out).trans rfl
  have L2_5 : w1.cell? ⟨w.heap.size, 5, none⟩ = some (.int .i64 m2) := (cellsB (i := 5) w_1.out).trans rfl
  have L2_6 : w1.cell? ⟨w.heap.size, 6, none⟩ = some (.int .i64 p) := (cellsB (i := 6) w_1.out).trans rfl
  go_wp2_with fail
  refine (HNW.out _).mono ?_
  rintro e w2 ⟨rfl, q⟩
  have w_2 := Lib.hid (blk0 w_1.out q)
  have B2 := Lib.hid (bel0 B1.out B1.out.size q)
  clear q w_1 B1
  clear L2_0 L2_1 L2_2 L2_3 L2_4 L2_5 L2_6
  have w_sz : w.heap.size < w2.heap.size := lt_size w_2.out
  have L3_0 : (w2.alloc (.cells #[.int .i64 b, .int .i64 c, .int .i64 d, .int .i64 m0, .int .i64 m1, .int .i64 m2, .int .i64 p, .int .i64 1, .int .i64 0, .int .i64 0, .int .i64 (t : Int)] 26)).cell? ⟨w.heap.size, 0, none⟩ = some (.int .i64 b) := (cellsB (i := 0) (alc (o := (.cells #[.int .i64 b, .int .i64 c, .int .i64 d, .int .i64 m0, .int .i64 m1, .int .i64 m2, .int .i64 p, .int .i64 1, .int .i64 0, .int .i64 0, .int .i64 (t : Int)] 26)) w_2.out)).trans rfl
  have L3_1 : (w2.alloc (.cells #[.int .i64 b, .int .i64 c, .int .i64 d, .int .i64 m0, .int .i64 m1, .int .i64 m2, .int .i64 p, .int .i64 1, .int .i64 0, .int .i64 0, .int .i64 (t : Int)] 26)).cell? ⟨w.heap.size, 1, none⟩ = some (.int .i64 c) := (cellsB (i := 1) (alc (o := (.cells #[.int .i64 b, .int .i64 c, .int .i64 d, .int .i64 m0, .int .i64 m1, .int .i64 m2, .int .i64 p, .int .i64 1, .int .i64 0, .int .i64 0, .int .i64 (t : Int)] 26)) w_2.out)).trans rfl
  have L3_2 : (w2.alloc (.cells #[.int .i64 b, .int .i64 c, .int .i64 d, .int .i64 m0, .int .i64 m1, .int .i64 m2, .int .i64 p, .int .i64 1, .int .i64 0, .int .i64 0, .int .i64 (t : Int)] 26)).cell? ⟨w.heap.size, 2, none⟩ = some (.int .i64 d) := (cellsB (i := 2) (alc (o := (.cells #[.int .i64 b, .int .i64 c, .int .i64 d, .int .i64 m0, .int .i64 m1, .int .i64 m2, .int .i64 p, .int .i64 1, .int .i64 0, .int .i64 0, .int .i64 (t : Int)] 26)) w_2.out)).trans rfl
  have L3_3 : (w2.alloc (.cells #[.int .i64 b, .int .i64 c, .int .i64 d, .int .i64 m0, .int .i64 m1, .int .i64 m2, .int .i64 p, .int .i64 1, .int .i64 0, .int .i64 0, .int .i64 (t : Int)] 26)).cell? ⟨w.heap.size, 3, none⟩ = some (.int .i64 m0) := (cellsB (i := 3) (alc (o := (.cells #[.int .i64 b, .int .i64 c, .int .i64 d, .int .i64 m0, .int .i64 m1, .int .i64 m2, .int .i64 p, .int .i64 1, .int .i64 0, .int .i64 0, .int .i64 (t : Int)] 26)) w_2.out)).trans rfl
  have L3_4 : (w2.alloc (.cells #[.int .i64 b, .int .i64 c, .int .i64 d, .int .i64 m0, .int .i64 m1, .int .i64 m2, .int .i64 p, .int .i64 1, .int .i64 0, .int .i64 0, .int .i64 (t : Int)] 26)).cell? ⟨w.heap.size, 4, none⟩ = some (.int .i64 m1) := (cellsB (i := 4) (alc (o := (.cells #[.int .i64 b, .int .i64 c, .int .i64 d, .int .i64 m0, .int .i64 m1, .int .i64 m2, .int .i64 p, .int .i64 1, .int .i64 0, .int .i64 0, .int .i64 (t : Int)] 26)) w_2.out)).trans rfl
  have L3_5 : (w2.alloc (.cells #[.int .i64 b, .int .i64 c, .int .i64 d, .int .i64 m0, .int .i64 m1, .int .i64 m2, .int .i64 p, .int .i64 1, .int .i64 0, .int .i64 0, .int .i64 (t : Int)] 26)).cell? ⟨w.heap.size, 5, none⟩ = some (.int .i64 m2) := (cellsB (i := 5) (alc (o := (.cells #[.int .i64 b, .int .i64 c, .int .i64 d, .int .i64 m0, .int .i64 m1, .int .i64 m2, .int .i64 p, .int .i64 1, .int .i64 0, .int .i64 0, .int .i64 (t : Int)] 26)) w_2.out)).trans rfl
  have L3_6 : (w2.alloc (.cells #[.int .i64 b, .int .i64 c, .int .i64 d, .int .i64 m0, .int .i64 m1, .int .i64 m2, .int .i64 p, .int .i64 1, .int .i64 0, .int .i64 0, .int .i64 (t : Int)] 26)).cell? ⟨w.heap.size, 6, none⟩ = some (.int .i64 p) := (cellsB (i := 6) (alc (o := (.cells #[.int .i64 b, .int .i64 c, .int .i64 d, .int .i64 m0, .int .i64 m1, .int .i64 m2, .int .i64 p, .int .i64 1, .int .i64 0, .int .i64 0, .int .i64 (t : Int)] 26)) w_2.out)).trans rfl
  go_wp2_with fail
  refine (HF.out _).mono ?_
  rintro e w3 ⟨v3, rfl, ho, q⟩
  have w_3 := Lib.hid (blk1 w_2.out q)
  have s_3 := Lib.hid (new1 q)
  have B3 := Lib.hid (bel1 B2.out B2.out.size q)
  clear q w_2 B2
  clear L3_0 L3_1 L3_2 L3_3 L3_4 L3_5 L3_6
  obtain ⟨A, cp, rfl, hc1, hc2, rd⟩ := ho.rd
  have hA := OA.ne (g := w2.heap.size) ho (by simp)
  rw [HN.out] at hc1 rd ⊢
  have HA := Lib.hid hA
  have HR := Lib.hid (show _ ∧ _ ∧ _ ∧ _ from ⟨s_3.out, w_3.out, rd, B3.out⟩)
  clear hA ho rd
  go_wp2
  go_loopw [9] (fun i wr => ∃ (k : Nat) (ph st : Int), k ≤ n ∧ i = .int .i64 k ∧ (k < n → ph = 1 ∧ st = (k : Int)) ∧ (k = n → ph = 2 ∧ st = 0) ∧ Hid (wr.heap[w2.heap.size]? = some (.cells #[.int .i64 b, .int .i64 c, .int .i64 d, .int .i64 m0, .int .i64 m1, .int .i64 m2, .int .i64 p, .int .i64 ph, .int .i64 st, .int .i64 0, .int .i64 (t : Int)] 26 (0, 0)) ∧ wr.heap[w.heap.size]? = some (.cells #[.int .i64 b, .int .i64 c, .int .i64 d, .int .i64 m0, .int .i64 m1, .int .i64 m2, .int .i64 p] 24 (0, 0)) ∧ Rd wr wr.heap.size 6 A n (AC l) ∧ Below w.heap.size w wr)) (fun i _ => n - (intOf i).toNat)
  case atStart => exact ⟨0, 1, 0, by omega, rfl, fun _ => ⟨rfl, rfl⟩, fun h => by omega, HR.out⟩
  case round =>
    clear HR s_3 w_3 B3
    obtain ⟨k, ph, st, hk, rfl, h1, h2, HS⟩ := hrel
    obtain ⟨s0, w0, R0, B0⟩ := HS.out
    have s_0 := Lib.hid s0
    have w_0 := Lib.hid w0
    have R_0 := Lib.hid R0
    replace B0 := Lib.hid B0
    clear s0 w0 R0 HS
    have hlw : w2.heap.size < wr.heap.size := lt_size s_0.out
    have hws : w.heap.size ≠ w2.heap.size := by have := w_sz; omega
    by_cases hlt : k < n
    · obtain ⟨rfl, rfl⟩ := h1 hlt
      clear h1 h2
      obtain ⟨ad, a, rfl, _, ha, _⟩ := R_0.out.ask hlt
      have HAA := Lib.hid ha
      have H1 := Lib.hid (fun W => next_is (next_1 ⟨b, c, d, m0, m1, m2, p⟩ k t a HX.out tk (by rw [HL.out]; exact ha)) W)
      have e1 := sameA a a true (by simp)
      simp only [S11.val, A6.val] at H1 e1
      clear ha
      have L1_0 : wr.cell? ⟨w2.heap.size, 0, none⟩ = some (.int .i64 b) := (cellsB (i := 0) s_0.out).trans rfl
      have L1_1 : wr.cell? ⟨w2.heap.size, 1, none⟩ = some (.int .i64 c) := (cellsB (i := 1) s_0.out).trans rfl
      have L1_2 : wr.cell? ⟨w2.heap.size, 2, none⟩ = some (.int .i64 d) := (cellsB (i := 2) s_0.out).trans rfl
      have L1_3 : wr.cell? ⟨w2.heap.size, 3, none⟩ = some (.int .i64 m0) := (cellsB (i := 3) s_0.out).trans rfl
      have L1_4 : wr.cell? ⟨w2.heap.size, 4, none⟩ = some (.int .i64 m1) := (cellsB (i := 4) s_0.out).trans rfl
      have L1_5 : wr.cell? ⟨w2.heap.size, 5, none⟩ = some (.int .i64 m2) := (cellsB (i := 5) s_0.out).trans rfl
      have L1_6 : wr.cell? ⟨w2.heap.size, 6, none⟩ = some (.int .i64 p) := (cellsB (i := 6) s_0.out).trans rfl
      have L1_7 : wr.cell? ⟨w2.heap.size, 7, none⟩ = some (.int .i64 1) := (cellsB (i := 7) s_0.out).trans rfl
      have L1_8 : wr.cell? ⟨w2.heap.size, 8, none⟩ = some (.int .i64 (k : Int)) := (cellsB (i := 8) s_0.out).trans rfl
      have L1_9 : wr.cell? ⟨w2.heap.size, 9, none⟩ = some (.int .i64 0) := (cellsB (i := 9) s_0.out).trans rfl
      have L1_10 : wr.cell? ⟨w2.heap.size, 10, none⟩ = some (.int .i64 (t : Int)) := (cellsB (i := 10) s_0.out).trans rfl
      go_wp2_with fail
      refine (H1.out _).mono ?_
      rintro e u1 ⟨rfl, q⟩
      have s_1 := Lib.hid (blk0 s_0.out q)
      have w_1 := Lib.hid (blk0 w_0.out q)
      have R_1 := Lib.hid (rd0 R_0.out q)
      have B1 := Lib.hid (bel0 B0.out B0.out.size q)
      clear q s_0 w_0 R_0 B0
      clear L1_0 L1_1 L1_2 L1_3 L1_4 L1_5 L1_6 L1_7 L1_8 L1_9 L1_10
      have L2_0 : (u1.alloc (.cells #[.int .i64 a.node, .int .i64 a.kind, .int .i64 a.book, .int .i64 a.units, .int .i64 a.cust, .int .i64 a.amount] 30)).cell? ⟨u1.heap.size, 0, none⟩ = some (.int .i64 a.node) := (cellsB (i := 0) (heap_alloc_new u1 (.cells #[.int .i64 a.node, .int .i64 a.kind, .int .i64 a.book, .int .i64 a.units, .int .i64 a.cust, .int .i64 a.amount] 30))).trans rfl
      have L2_1 : (u1.alloc (.cells #[.int .i64 a.node, .int .i64 a.kind, .int .i64 a.book, .int .i64 a.units, .int .i64 a.cust, .int .i64 a.amount] 30)).cell? ⟨u1.heap.size, 1, none⟩ = some (.int .i64 a.kind) := (cellsB (i := 1) (heap_alloc_new u1 (.cells #[.int .i64 a.node, .int .i64 a.kind, .int .i64 a.book, .int .i64 a.units, .int .i64 a.cust, .int .i64 a.amount] 30))).trans rfl
      have L2_2 : (u1.alloc (.cells #[.int .i64 a.node, .int .i64 a.kind, .int .i64 a.book, .int .i64 a.units, .int .i64 a.cust, .int .i64 a.amount] 30)).cell? ⟨u1.heap.size, 2, none⟩ = some (.int .i64 a.book) := (cellsB (i := 2) (heap_alloc_new u1 (.cells #[.int .i64 a.node, .int .i64 a.kind, .int .i64 a.book, .int .i64 a.units, .int .i64 a.cust, .int .i64 a.amount] 30))).trans rfl
      have L2_3 : (u1.alloc (.cells #[.int .i64 a.node, .int .i64 a.kind, .int .i64 a.book, .int .i64 a.units, .int .i64 a.cust, .int .i64 a.amount] 30)).cell? ⟨u1.heap.size, 3, none⟩ = some (.int .i64 a.units) := (cellsB (i := 3) (heap_alloc_new u1 (.cells #[.int .i64 a.node, .int .i64 a.kind, .int .i64 a.book, .int .i64 a.units, .int .i64 a.cust, .int .i64 a.amount] 30))).trans rfl
      have L2_4 : (u1.alloc (.cells #[.int .i64 a.node, .int .i64 a.kind, .int .i64 a.book, .int .i64 a.units, .int .i64 a.cust, .int .i64 a.amount] 30)).cell? ⟨u1.heap.size, 4, none⟩ = some (.int .i64 a.cust) := (cellsB (i := 4) (heap_alloc_new u1 (.cells #[.int .i64 a.node, .int .i64 a.kind, .int .i64 a.book, .int .i64 a.units, .int .i64 a.cust, .int .i64 a.amount] 30))).trans rfl
      have L2_5 : (u1.alloc (.cells #[.int .i64 a.node, .int .i64 a.kind, .int .i64 a.book, .int .i64 a.units, .int .i64 a.cust, .int .i64 a.amount] 30)).cell? ⟨u1.heap.size, 5, none⟩ = some (.int .i64 a.amount) := (cellsB (i := 5) (heap_alloc_new u1 (.cells #[.int .i64 a.node, .int .i64 a.kind, .int .i64 a.book, .int .i64 a.units, .int .i64 a.cust, .int .i64 a.amount] 30))).trans rfl
      have L3_0 : (u1.alloc (.cells #[.int .i64 a.node, .int .i64 a.kind, .int .i64 a.book, .int .i64 a.units, .int .i64 a.cust, .int .i64 a.amount] 30)).cell? ⟨w2.heap.size, 0, none⟩ = some (.int .i64 b) := (cellsB (i := 0) (alc (o := (.cells #[.int .i64 a.node, .int .i64 a.kind, .int .i64 a.book, .int .i64 a.units, .int .i64 a.cust, .int .i64 a.amount] 30)) s_1.out)).trans rfl
      have L3_1 : (u1.alloc (.cells #[.int .i64 a.node, .int .i64 a.kind, .int .i64 a.book, .int .i64 a.units, .int .i64 a.cust, .int .i64 a.amount] 30)).cell? ⟨w2.heap.size, 1, none⟩ = some (.int .i64 c) := (cellsB (i := 1) (alc (o := (.cells #[.int .i64 a.node, .int .i64 a.kind, .int .i64 a.book, .int .i64 a.units, .int .i64 a.cust, .int .i64 a.amount] 30)) s_1.out)).trans rfl
      have L3_2 : (u1.alloc (.cells #[.int .i64 a.node, .int .i64 a.kind, .int .i64 a.book, .int .i64 a.units, .int .i64 a.cust, .int .i64 a.amount] 30)).cell? ⟨w2.heap.size, 2, none⟩ = some (.int .i64 d) := (cellsB (i := 2) (alc (o := (.cells #[.int .i64 a.node, .int .i64 a.kind, .int .i64 a.book, .int .i64 a.units, .int .i64 a.cust, .int .i64 a.amount] 30)) s_1.out)).trans rfl
      have L3_3 : (u1.alloc (.cells #[.int .i64 a.node, .int .i64 a.kind, .int .i64 a.book, .int .i64 a.units, .int .i64 a.cust, .int .i64 a.amount] 30)).cell? ⟨w2.heap.size, 3, none⟩ = some (.int .i64 m0) := (cellsB (i := 3) (alc (o := (.cells #[.int .i64 a.node, .int .i64 a.kind, .int .i64 a.book, .int .i64 a.units, .int .i64 a.cust, .int .i64 a.amount] 30)) s_1.out)).trans rfl
      have L3_4 : (u1.alloc (.cells #[.int .i64 a.node, .int .i64 a.kind, .int .i64 a.book, .int .i64 a.units, .int .i64 a.cust, .int .i64 a.amount] 30)).cell? ⟨w2.heap.size, 4, none⟩ = some (.int .i64 m1) := (cellsB (i := 4) (alc (o := (.cells #[.int .i64 a.node, .int .i64 a.kind, .int .i64 a.book, .int .i64 a.units, .int .i64 a.cust, .int .i64 a.amount] 30)) s_1.out)).trans rfl
      have L3_5 : (u1.alloc (.cells #[.int .i64 a.node, .int .i64 a.kind, .int .i64 a.book, .int .i64 a.units, .int .i64 a.cust, .int .i64 a.amount] 30)).cell? ⟨w2.heap.size, 5, none⟩ = some (.int .i64 m2) := (cellsB (i := 5) (alc (o := (.cells #[.int .i64 a.node, .int .i64 a.kind, .int .i64 a.book, .int .i64 a.units, .int .i64 a.cust, .int .i64 a.amount] 30)) s_1.out)).trans rfl
      have L3_6 : (u1.alloc (.cells #[.int .i64 a.node, .int .i64 a.kind, .int .i64 a.book, .int .i64 a.units, .int .i64 a.cust, .int .i64 a.amount] 30)).cell? ⟨w2.heap.size, 6, none⟩ = some (.int .i64 p) := (cellsB (i := 6) (alc (o := (.cells #[.int .i64 a.node, .int .i64 a.kind, .int .i64 a.book, .int .i64 a.units, .int .i64 a.cust, .int .i64 a.amount] 30)) s_1.out)).trans rfl
      have L3_7 : (u1.alloc (.cells #[.int .i64 a.node, .int .i64 a.kind, .int .i64 a.book, .int .i64 a.units, .int .i64 a.cust, .int .i64 a.amount] 30)).cell? ⟨w2.heap.size, 7, none⟩ = some (.int .i64 1) := (cellsB (i := 7) (alc (o := (.cells #[.int .i64 a.node, .int .i64 a.kind, .int .i64 a.book, .int .i64 a.units, .int .i64 a.cust, .int .i64 a.amount] 30)) s_1.out)).trans rfl
      have L3_8 : (u1.alloc (.cells #[.int .i64 a.node, .int .i64 a.kind, .int .i64 a.book, .int .i64 a.units, .int .i64 a.cust, .int .i64 a.amount] 30)).cell? ⟨w2.heap.size, 8, none⟩ = some (.int .i64 (k : Int)) := (cellsB (i := 8) (alc (o := (.cells #[.int .i64 a.node, .int .i64 a.kind, .int .i64 a.book, .int .i64 a.units, .int .i64 a.cust, .int .i64 a.amount] 30)) s_1.out)).trans rfl
      have L3_9 : (u1.alloc (.cells #[.int .i64 a.node, .int .i64 a.kind, .int .i64 a.book, .int .i64 a.units, .int .i64 a.cust, .int .i64 a.amount] 30)).cell? ⟨w2.heap.size, 9, none⟩ = some (.int .i64 0) := (cellsB (i := 9) (alc (o := (.cells #[.int .i64 a.node, .int .i64 a.kind, .int .i64 a.book, .int .i64 a.units, .int .i64 a.cust, .int .i64 a.amount] 30)) s_1.out)).trans rfl
      have L3_10 : (u1.alloc (.cells #[.int .i64 a.node, .int .i64 a.kind, .int .i64 a.book, .int .i64 a.units, .int .i64 a.cust, .int .i64 a.amount] 30)).cell? ⟨w2.heap.size, 10, none⟩ = some (.int .i64 (t : Int)) := (cellsB (i := 10) (alc (o := (.cells #[.int .i64 a.node, .int .i64 a.kind, .int .i64 a.book, .int .i64 a.units, .int .i64 a.cust, .int .i64 a.amount] 30)) s_1.out)).trans rfl
      obtain ⟨_, a2, e5, _, ha2, hca⟩ := (rda (o := (.cells #[.int .i64 a.node, .int .i64 a.kind, .int .i64 a.book, .int .i64 a.units, .int .i64 a.cust, .int .i64 a.amount] 30)) R_1.out).ask hlt
      cases e5
      obtain rfl : a = a2 := by have := HAA.out; rw [this] at ha2; exact Option.some.inj ha2
      obtain ⟨p0, p1, p2, p3, p4, p5⟩ := hca
      clear ha2
      go_wp2_with fail
      go_quiet (fail)
      clear p0 p1 p2 p3 p4 p5
      go_wp2_with fail
      clear L2_0 L2_1 L2_2 L2_3 L2_4 L2_5 L3_0 L3_1 L3_2 L3_3 L3_4 L3_5 L3_6 L3_7 L3_8 L3_9 L3_10
      by_cases hk1 : k + 1 < n
      · have H2 := Lib.hid (fun W => ans_is (ans_1 ⟨b, c, d, m0, m1, m2, p⟩ k t a HX.out tk (by rw [HL.out]; exact HAA.out) (by rw [HL.out, HN.out]; exact hk1)) W)
        simp only [S11.val, A6.val] at H2
        refine (H2.out _).mono ?_
        rintro e u2 ⟨rfl, q⟩
        have s_2 := Lib.hid (blkd s_1.out q)
        have w_2 := Lib.hid (blkd w_1.out q)
        have a_2 := Lib.hid (newd q)
        have R_2 := Lib.hid (rdd R_1.out q)
        have B2 := Lib.hid (beld B1.out B1.out.size q)
        clear q s_1 w_1 R_1 B1
        clear a_2
        have L4_0 : u2.cell? ⟨w2.heap.size, 0, none⟩ = some (.int .i64 b) := (cellsB (i := 0) s_2.out).trans rfl
        have F4_0 : u2.frozen? ⟨w2.heap.size, 0, none⟩ = false := frozB s_2.out
        have L4_1 : u2.cell? ⟨w2.heap.size, 1, none⟩ = some (.int .i64 c) := (cellsB (i := 1) s_2.out).trans rfl
        have F4_1 : u2.frozen? ⟨w2.heap.size, 1, none⟩ = false := frozB s_2.out
        have L4_2 : u2.cell? ⟨w2.heap.size, 2, none⟩ = some (.int .i64 d) := (cellsB (i := 2) s_2.out).trans rfl
        have F4_2 : u2.frozen? ⟨w2.heap.size, 2, none⟩ = false := frozB s_2.out
        have L4_3 : u2.cell? ⟨w2.heap.size, 3, none⟩ = some (.int .i64 m0) := (cellsB (i := 3) s_2.out).trans rfl
        have F4_3 : u2.frozen? ⟨w2.heap.size, 3, none⟩ = false := frozB s_2.out
        have L4_4 : u2.cell? ⟨w2.heap.size, 4, none⟩ = some (.int .i64 m1) := (cellsB (i := 4) s_2.out).trans rfl
        have F4_4 : u2.frozen? ⟨w2.heap.size, 4, none⟩ = false := frozB s_2.out
        have L4_5 : u2.cell? ⟨w2.heap.size, 5, none⟩ = some (.int .i64 m2) := (cellsB (i := 5) s_2.out).trans rfl
        have F4_5 : u2.frozen? ⟨w2.heap.size, 5, none⟩ = false := frozB s_2.out
        have L4_6 : u2.cell? ⟨w2.heap.size, 6, none⟩ = some (.int .i64 p) := (cellsB (i := 6) s_2.out).trans rfl
        have F4_6 : u2.frozen? ⟨w2.heap.size, 6, none⟩ = false := frozB s_2.out
        have L4_7 : u2.cell? ⟨w2.heap.size, 7, none⟩ = some (.int .i64 1) := (cellsB (i := 7) s_2.out).trans rfl
        have F4_7 : u2.frozen? ⟨w2.heap.size, 7, none⟩ = false := frozB s_2.out
        have L4_8 : u2.cell? ⟨w2.heap.size, 8, none⟩ = some (.int .i64 (k : Int)) := (cellsB (i := 8) s_2.out).trans rfl
        have F4_8 : u2.frozen? ⟨w2.heap.size, 8, none⟩ = false := frozB s_2.out
        have L4_9 : u2.cell? ⟨w2.heap.size, 9, none⟩ = some (.int .i64 0) := (cellsB (i := 9) s_2.out).trans rfl
        have F4_9 : u2.frozen? ⟨w2.heap.size, 9, none⟩ = false := frozB s_2.out
        have L4_10 : u2.cell? ⟨w2.heap.size, 10, none⟩ = some (.int .i64 (t : Int)) := (cellsB (i := 10) s_2.out).trans rfl
        have F4_10 : u2.frozen? ⟨w2.heap.size, 10, none⟩ = false := frozB s_2.out
        have ss5 : Hid ((st11 u2 w2.heap.size (.int .i64 b) (.int .i64 c) (.int .i64 d) (.int .i64 m0) (.int .i64 m1) (.int .i64 m2) (.int .i64 p) (.int .i64 1) (.int .i64 ((k + 1 : Nat) : Int)) (.int .i64 0) (.int .i64 (t : Int))).heap[w2.heap.size]? = some (.cells #[.int .i64 b, .int .i64 c, .int .i64 d, .int .i64 m0, .int .i64 m1, .int .i64 m2, .int .i64 p, .int .i64 1, .int .i64 ((k + 1 : Nat) : Int), .int .i64 0, .int .i64 (t : Int)] 26 (0, 0))) := Lib.hid (st11_at s_2.out)
        have ws5 : Hid ((st11 u2 w2.heap.size (.int .i64 b) (.int .i64 c) (.int .i64 d) (.int .i64 m0) (.int .i64 m1) (.int .i64 m2) (.int .i64 p) (.int .i64 1) (.int .i64 ((k + 1 : Nat) : Int)) (.int .i64 0) (.int .i64 (t : Int))).heap[w.heap.size]? = some (.cells #[.int .i64 b, .int .i64 c, .int .i64 d, .int .i64 m0, .int .i64 m1, .int .i64 m2, .int .i64 p] 24 (0, 0))) := Lib.hid ((st11_ne hws.symm).trans w_2.out)
        have Rs5 : Hid (Rd (st11 u2 w2.heap.size (.int .i64 b) (.int .i64 c) (.int .i64 d) (.int .i64 m0) (.int .i64 m1) (.int .i64 m2) (.int .i64 p) (.int .i64 1) (.int .i64 ((k + 1 : Nat) : Int)) (.int .i64 0) (.int .i64 (t : Int))) (st11 u2 w2.heap.size (.int .i64 b) (.int .i64 c) (.int .i64 d) (.int .i64 m0) (.int .i64 m1) (.int .i64 m2) (.int .i64 p) (.int .i64 1) (.int .i64 ((k + 1 : Nat) : Int)) (.int .i64 0) (.int .i64 (t : Int))).heap.size 6 (some ad) n (AC l)) := Lib.hid (by rw [st11_size]; exact rd_st11 R_2.out HA.out)
        have Bs5 : Hid (Below w.heap.size w (st11 u2 w2.heap.size (.int .i64 b) (.int .i64 c) (.int .i64 d) (.int .i64 m0) (.int .i64 m1) (.int .i64 m2) (.int .i64 p) (.int .i64 1) (.int .i64 ((k + 1 : Nat) : Int)) (.int .i64 0) (.int .i64 (t : Int)))) := Lib.hid (st11_below B2.out (by omega))
        unfold st11 at ss5 ws5 Rs5 Bs5
        go_wp2
        go_roundw
        case rel => exact ⟨k + 1, _, _, by omega, by go_num, by intro _; exact ⟨rfl, rfl⟩, by intro h; omega, Lib.hid ⟨ss5.out, ws5.out, Rs5.out, Bs5.out⟩⟩
        case measure => simp [intOf]; omega
      have H2 := Lib.hid (fun W => ans_is (ans_1l ⟨b, c, d, m0, m1, m2, p⟩ k t a HX.out tk (by rw [HL.out]; exact HAA.out) (by rw [HL.out, HN.out]; omega)) W)
      simp only [S11.val, A6.val] at H2
      refine (H2.out _).mono ?_
      rintro e u2 ⟨rfl, q⟩
      have s_2 := Lib.hid (blkd s_1.out q)
      have w_2 := Lib.hid (blkd w_1.out q)
      have a_2 := Lib.hid (newd q)
      have R_2 := Lib.hid (rdd R_1.out q)
      have B2 := Lib.hid (beld B1.out B1.out.size q)
      clear q s_1 w_1 R_1 B1
      clear a_2
      have L4_0 : u2.cell? ⟨w2.heap.size, 0, none⟩ = some (.int .i64 b) := (cellsB (i := 0) s_2.out).trans rfl
      have F4_0 : u2.frozen? ⟨w2.heap.size, 0, none⟩ = false := frozB s_2.out
      have L4_1 : u2.cell? ⟨w2.heap.size, 1, none⟩ = some (.int .i64 c) := (cellsB (i := 1) s_2.out).trans rfl
      have F4_1 : u2.frozen? ⟨w2.heap.size, 1, none⟩ = false := frozB s_2.out
      have L4_2 : u2.cell? ⟨w2.heap.size, 2, none⟩ = some (.int .i64 d) := (cellsB (i := 2) s_2.out).trans rfl
      have F4_2 : u2.frozen? ⟨w2.heap.size, 2, none⟩ = false := frozB s_2.out
      have L4_3 : u2.cell? ⟨w2.heap.size, 3, none⟩ = some (.int .i64 m0) := (cellsB (i := 3) s_2.out).trans rfl
      have F4_3 : u2.frozen? ⟨w2.heap.size, 3, none⟩ = false := frozB s_2.out
      have L4_4 : u2.cell? ⟨w2.heap.size, 4, none⟩ = some (.int .i64 m1) := (cellsB (i := 4) s_2.out).trans rfl
      have F4_4 : u2.frozen? ⟨w2.heap.size, 4, none⟩ = false := frozB s_2.out
      have L4_5 : u2.cell? ⟨w2.heap.size, 5, none⟩ = some (.int .i64 m2) := (cellsB (i := 5) s_2.out).trans rfl
      have F4_5 : u2.frozen? ⟨w2.heap.size, 5, none⟩ = false := frozB s_2.out
      have L4_6 : u2.cell? ⟨w2.heap.size, 6, none⟩ = some (.int .i64 p) := (cellsB (i := 6) s_2.out).trans rfl
      have F4_6 : u2.frozen? ⟨w2.heap.size, 6, none⟩ = false := frozB s_2.out
      have L4_7 : u2.cell? ⟨w2.heap.size, 7, none⟩ = some (.int .i64 1) := (cellsB (i := 7) s_2.out).trans rfl
      have F4_7 : u2.frozen? ⟨w2.heap.size, 7, none⟩ = false := frozB s_2.out
      have L4_8 : u2.cell? ⟨w2.heap.size, 8, none⟩ = some (.int .i64 (k : Int)) := (cellsB (i := 8) s_2.out).trans rfl
      have F4_8 : u2.frozen? ⟨w2.heap.size, 8, none⟩ = false := frozB s_2.out
      have L4_9 : u2.cell? ⟨w2.heap.size, 9, none⟩ = some (.int .i64 0) := (cellsB (i := 9) s_2.out).trans rfl
      have F4_9 : u2.frozen? ⟨w2.heap.size, 9, none⟩ = false := frozB s_2.out
      have L4_10 : u2.cell? ⟨w2.heap.size, 10, none⟩ = some (.int .i64 (t : Int)) := (cellsB (i := 10) s_2.out).trans rfl
      have F4_10 : u2.frozen? ⟨w2.heap.size, 10, none⟩ = false := frozB s_2.out
      have ss5 : Hid ((st11 u2 w2.heap.size (.int .i64 b) (.int .i64 c) (.int .i64 d) (.int .i64 m0) (.int .i64 m1) (.int .i64 m2) (.int .i64 p) (.int .i64 2) (.int .i64 0) (.int .i64 0) (.int .i64 (t : Int))).heap[w2.heap.size]? = some (.cells #[.int .i64 b, .int .i64 c, .int .i64 d, .int .i64 m0, .int .i64 m1, .int .i64 m2, .int .i64 p, .int .i64 2, .int .i64 0, .int .i64 0, .int .i64 (t : Int)] 26 (0, 0))) := Lib.hid (st11_at s_2.out)
      have ws5 : Hid ((st11 u2 w2.heap.size (.int .i64 b) (.int .i64 c) (.int .i64 d) (.int .i64 m0) (.int .i64 m1) (.int .i64 m2) (.int .i64 p) (.int .i64 2) (.int .i64 0) (.int .i64 0) (.int .i64 (t : Int))).heap[w.heap.size]? = some (.cells #[.int .i64 b, .int .i64 c, .int .i64 d, .int .i64 m0, .int .i64 m1, .int .i64 m2, .int .i64 p] 24 (0, 0))) := Lib.hid ((st11_ne hws.symm).trans w_2.out)
      have Rs5 : Hid (Rd (st11 u2 w2.heap.size (.int .i64 b) (.int .i64 c) (.int .i64 d) (.int .i64 m0) (.int .i64 m1) (.int .i64 m2) (.int .i64 p) (.int .i64 2) (.int .i64 0) (.int .i64 0) (.int .i64 (t : Int))) (st11 u2 w2.heap.size (.int .i64 b) (.int .i64 c) (.int .i64 d) (.int .i64 m0) (.int .i64 m1) (.int .i64 m2) (.int .i64 p) (.int .i64 2) (.int .i64 0) (.int .i64 0) (.int .i64 (t : Int))).heap.size 6 (some ad) n (AC l)) := Lib.hid (by rw [st11_size]; exact rd_st11 R_2.out HA.out)
      have Bs5 : Hid (Below w.heap.size w (st11 u2 w2.heap.size (.int .i64 b) (.int .i64 c) (.int .i64 d) (.int .i64 m0) (.int .i64 m1) (.int .i64 m2) (.int .i64 p) (.int .i64 2) (.int .i64 0) (.int .i64 0) (.int .i64 (t : Int)))) := Lib.hid (st11_below B2.out (by omega))
      unfold st11 at ss5 ws5 Rs5 Bs5
      go_wp2
      go_roundw
      case rel => exact ⟨k + 1, _, _, by omega, by go_num, by intro h; omega, by intro _; exact ⟨rfl, rfl⟩, Lib.hid ⟨ss5.out, ws5.out, Rs5.out, Bs5.out⟩⟩
      case measure => simp [intOf]; omega
    obtain rfl : k = n := by omega
    obtain ⟨rfl, rfl⟩ := h2 rfl
    clear h1 h2 R_0
    obtain ⟨a, ha⟩ : ∃ a, captureA ⟨b, c, d, m0, m1, m2, p⟩ = a := ⟨_, rfl⟩
    have n2 := next_2 ⟨b, c, d, m0, m1, m2, p⟩ t HX.out tk
    rw [ha] at n2
    have a2 := ans_2 ⟨b, c, d, m0, m1, m2, p⟩ t HX.out tk
    rw [ha] at a2
    have hc := fun W => capture_c ⟨b, c, d, m0, m1, m2, p⟩ W
    rw [ha] at hc
    have H1 := Lib.hid (fun W => next_is n2 W)
    have H2 := Lib.hid hc
    have my2 := may_2 ⟨b, c, d, m0, m1, m2, p⟩ t HX.out tk
    have H3 := Lib.hid (fun W => over_is (s := ⟨⟨b, c, d, m0, m1, m2, p⟩, 2, 0, 0, (t : Int)⟩) (b := false) (decide_eq_false (by simp)) W)
    have H4 := Lib.hid (fun W => tells_is (show tellS ⟨⟨b, c, d, m0, m1, m2, p⟩, 2, 0, 0, (t : Int)⟩ = 2 from by rw [tellS, if_neg (fun g => g my2), if_neg (by simp), if_neg (by simp)]) W)
    have H5 := Lib.hid (fun W => can_is (show canS ⟨⟨b, c, d, m0, m1, m2, p⟩, 2, 0, 0, (t : Int)⟩ = (⟨⟨b, c, d, m0, m1, m2, p⟩, 2, 0, 0, (t : Int)⟩, false) from by rw [canS, if_neg (by simp)]) W)
    have H6 := Lib.hid (fun W => late_is (show lateS ⟨⟨b, c, d, m0, m1, m2, p⟩, 2, 0, 0, (t : Int)⟩ 1099511627776 = (⟨⟨b, c, d, m0, m1, m2, p⟩, 2, 0, 0, (t : Int)⟩, false) from by rw [lateS, if_neg (by simp)]) W)
    have H7 := Lib.hid (fun W => ans_is (ans_ref ⟨⟨b, c, d, m0, m1, m2, p⟩, 2, 0, 0, (t : Int)⟩ a n2 (by simp)) W)
    have H8 := Lib.hid (fun W => ans_is a2 W)
    have H9 := Lib.hid (fun W => next_is (next_4 ⟨b, c, d, m0, m1, m2, p⟩ 0 0 t) W)
    have my4 := may_4 ⟨b, c, d, m0, m1, m2, p⟩ t HX.out tk
    have H10 := Lib.hid (fun W => over_is (s := ⟨⟨b, c, d, m0, m1, m2, p⟩, 4, 0, 0, (t : Int)⟩) (b := true) (decide_eq_true ⟨my4, by simp⟩) W)
    have H11 := Lib.hid (fun W => tells_is (show tellS ⟨⟨b, c, d, m0, m1, m2, p⟩, 4, 0, 0, (t : Int)⟩ = 3 from by rw [tellS, if_neg (fun g => g my4), if_pos rfl]) W)
    have e1 := sameA a a true (by simp)
    have e2 := sameS ⟨⟨b, c, d, m0, m1, m2, p⟩, 2, 0, 0, (t : Int)⟩ ⟨⟨b, c, d, m0, m1, m2, p⟩, 2, 0, 0, (t : Int)⟩ true (by simp)
    simp only [S11.val, A6.val, W7.val, zA] at H1 H2 H3 H4 H5 H6 H7 H8 H9 H10 H11 e1 e2
    clear n2 a2 hc my2 my4 ha
    have L1_0 : wr.cell? ⟨w2.heap.size, 0, none⟩ = some (.int .i64 b) := (cellsB (i := 0) s_0.out).trans rfl
    have L1_1 : wr.cell? ⟨w2.heap.size, 1, none⟩ = some (.int .i64 c) := (cellsB (i := 1) s_0.out).trans rfl
    have L1_2 : wr.cell? ⟨w2.heap.size, 2, none⟩ = some (.int .i64 d) := (cellsB (i := 2) s_0.out).trans rfl
    have L1_3 : wr.cell? ⟨w2.heap.size, 3, none⟩ = some (.int .i64 m0) := (cellsB (i := 3) s_0.out).trans rfl
    have L1_4 : wr.cell? ⟨w2.heap.size, 4, none⟩ = some (.int .i64 m1) := (cellsB (i := 4) s_0.out).trans rfl
    have L1_5 : wr.cell? ⟨w2.heap.size, 5, none⟩ = some (.int .i64 m2) := (cellsB (i := 5) s_0.out).trans rfl
    have L1_6 : wr.cell? ⟨w2.heap.size, 6, none⟩ = some (.int .i64 p) := (cellsB (i := 6) s_0.out).trans rfl
    have L1_7 : wr.cell? ⟨w2.heap.size, 7, none⟩ = some (.int .i64 2) := (cellsB (i := 7) s_0.out).trans rfl
    have L1_8 : wr.cell? ⟨w2.heap.size, 8, none⟩ = some (.int .i64 0) := (cellsB (i := 8) s_0.out).trans rfl
    have L1_9 : wr.cell? ⟨w2.heap.size, 9, none⟩ = some (.int .i64 0) := (cellsB (i := 9) s_0.out).trans rfl
    have L1_10 : wr.cell? ⟨w2.heap.size, 10, none⟩ = some (.int .i64 (t : Int)) := (cellsB (i := 10) s_0.out).trans rfl
    go_wp2_with fail
    refine (H1.out _).mono ?_
    rintro e u1 ⟨rfl, q⟩
    have s_1 := Lib.hid (blk0 s_0.out q)
    have w_1 := Lib.hid (blk0 w_0.out q)
    have B1 := Lib.hid (bel0 B0.out B0.out.size q)
    clear q s_0 w_0 B0
    clear L1_0 L1_1 L1_2 L1_3 L1_4 L1_5 L1_6 L1_7 L1_8 L1_9 L1_10
    have Ca0 : ∀ s : BW (u1.alloc (.cells #[.int .i64 a.node, .int .i64 a.kind, .int .i64 a.book, .int .i64 a.units, .int .i64 a.cust, .int .i64 a.amount] 30)).heap.size (u1.alloc (.cells #[.int .i64 a.node, .int .i64 a.kind, .int .i64 a.book, .int .i64 a.units, .int .i64 a.cust, .int .i64 a.amount] 30)), s.val.cell? ⟨u1.heap.size, 0, none⟩ = some (.int .i64 a.node) := fun s => (cellsB (i := 0) (blk0 (heap_alloc_new u1 (.cells #[.int .i64 a.node, .int .i64 a.kind, .int .i64 a.book, .int .i64 a.units, .int .i64 a.cust, .int .i64 a.amount] 30)) s.h)).trans rfl
    have Ca1 : ∀ s : BW (u1.alloc (.cells #[.int .i64 a.node, .int .i64 a.kind, .int .i64 a.book, .int .i64 a.units, .int .i64 a.cust, .int .i64 a.amount] 30)).heap.size (u1.alloc (.cells #[.int .i64 a.node, .int .i64 a.kind, .int .i64 a.book, .int .i64 a.units, .int .i64 a.cust, .int .i64 a.amount] 30)), s.val.cell? ⟨u1.heap.size, 1, none⟩ = some (.int .i64 a.kind) := fun s => (cellsB (i := 1) (blk0 (heap_alloc_new u1 (.cells #[.int .i64 a.node, .int .i64 a.kind, .int .i64 a.book, .int .i64 a.units, .int .i64 a.cust, .int .i64 a.amount] 30)) s.h)).trans rfl
    have Ca2 : ∀ s : BW (u1.alloc (.cells #[.int .i64 a.node, .int .i64 a.kind, .int .i64 a.book, .int .i64 a.units, .int .i64 a.cust, .int .i64 a.amount] 30)).heap.size (u1.alloc (.cells #[.int .i64 a.node, .int .i64 a.kind, .int .i64 a.book, .int .i64 a.units, .int .i64 a.cust, .int .i64 a.amount] 30)), s.val.cell? ⟨u1.heap.size, 2, none⟩ = some (.int .i64 a.book) := fun s => (cellsB (i := 2) (blk0 (heap_alloc_new u1 (.cells #[.int .i64 a.node, .int .i64 a.kind, .int .i64 a.book, .int .i64 a.units, .int .i64 a.cust, .int .i64 a.amount] 30)) s.h)).trans rfl
    have Ca3 : ∀ s : BW (u1.alloc (.cells #[.int .i64 a.node, .int .i64 a.kind, .int .i64 a.book, .int .i64 a.units, .int .i64 a.cust, .int .i64 a.amount] 30)).heap.size (u1.alloc (.cells #[.int .i64 a.node, .int .i64 a.kind, .int .i64 a.book, .int .i64 a.units, .int .i64 a.cust, .int .i64 a.amount] 30)), s.val.cell? ⟨u1.heap.size, 3, none⟩ = some (.int .i64 a.units) := fun s => (cellsB (i := 3) (blk0 (heap_alloc_new u1 (.cells #[.int .i64 a.node, .int .i64 a.kind, .int .i64 a.book, .int .i64 a.units, .int .i64 a.cust, .int .i64 a.amount] 30)) s.h)).trans rfl
    have Ca4 : ∀ s : BW (u1.alloc (.cells #[.int .i64 a.node, .int .i64 a.kind, .int .i64 a.book, .int .i64 a.units, .int .i64 a.cust, .int .i64 a.amount] 30)).heap.size (u1.alloc (.cells #[.int .i64 a.node, .int .i64 a.kind, .int .i64 a.book, .int .i64 a.units, .int .i64 a.cust, .int .i64 a.amount] 30)), s.val.cell? ⟨u1.heap.size, 4, none⟩ = some (.int .i64 a.cust) := fun s => (cellsB (i := 4) (blk0 (heap_alloc_new u1 (.cells #[.int .i64 a.node, .int .i64 a.kind, .int .i64 a.book, .int .i64 a.units, .int .i64 a.cust, .int .i64 a.amount] 30)) s.h)).trans rfl
    have Ca5 : ∀ s : BW (u1.alloc (.cells #[.int .i64 a.node, .int .i64 a.kind, .int .i64 a.book, .int .i64 a.units, .int .i64 a.cust, .int .i64 a.amount] 30)).heap.size (u1.alloc (.cells #[.int .i64 a.node, .int .i64 a.kind, .int .i64 a.book, .int .i64 a.units, .int .i64 a.cust, .int .i64 a.amount] 30)), s.val.cell? ⟨u1.heap.size, 5, none⟩ = some (.int .i64 a.amount) := fun s => (cellsB (i := 5) (blk0 (heap_alloc_new u1 (.cells #[.int .i64 a.node, .int .i64 a.kind, .int .i64 a.book, .int .i64 a.units, .int .i64 a.cust, .int .i64 a.amount] 30)) s.h)).trans rfl
    have Cs0 : ∀ s : BW (u1.alloc (.cells #[.int .i64 a.node, .int .i64 a.kind, .int .i64 a.book, .int .i64 a.units, .int .i64 a.cust, .int .i64 a.amount] 30)).heap.size (u1.alloc (.cells #[.int .i64 a.node, .int .i64 a.kind, .int .i64 a.book, .int .i64 a.units, .int .i64 a.cust, .int .i64 a.amount] 30)), s.val.cell? ⟨w2.heap.size, 0, none⟩ = some (.int .i64 b) := fun s => (cellsB (i := 0) (blk0 (alc (o := (.cells #[.int .i64 a.node, .int .i64 a.kind, .int .i64 a.book, .int .i64 a.units, .int .i64 a.cust, .int .i64 a.amount] 30)) s_1.out) s.h)).trans rfl
    have Cs1 : ∀ s : BW (u1.alloc (.cells #[.int .i64 a.node, .int .i64 a.kind, .int .i64 a.book, .int .i64 a.units, .int .i64 a.cust, .int .i64 a.amount] 30)).heap.size (u1.alloc (.cells #[.int .i64 a.node, .int .i64 a.kind, .int .i64 a.book, .int .i64 a.units, .int .i64 a.cust, .int .i64 a.amount] 30)), s.val.cell? ⟨w2.heap.size, 1, none⟩ = some (.int .i64 c) := fun s => (cellsB (i := 1) (blk0 (alc (o := (.cells #[.int .i64 a.node, .int .i64 a.kind, .int .i64 a.book, .int .i64 a.units, .int .i64 a.cust, .int .i64 a.amount] 30)) s_1.out) s.h)).trans rfl
    have Cs2 : ∀ s : BW (u1.alloc (.cells #[.int .i64 a.node, .int .i64 a.kind, .int .i64 a.book, .int .i64 a.units, .int .i64 a.cust, .int .i64 a.amount] 30)).heap.size (u1.alloc (.cells #[.int .i64 a.node, .int .i64 a.kind, .int .i64 a.book, .int .i64 a.units, .int .i64 a.cust, .int .i64 a.amount] 30)), s.val.cell? ⟨w2.heap.size, 2, none⟩ = some (.int .i64 d) := fun s => (cellsB (i := 2) (blk0 (alc (o := (.cells #[.int .i64 a.node, .int .i64 a.kind, .int .i64 a.book, .int .i64 a.units, .int .i64 a.cust, .int .i64 a.amount] 30)) s_1.out) s.h)).trans rfl
    have Cs3 : ∀ s : BW (u1.alloc (.cells #[.int .i64 a.node, .int .i64 a.kind, .int .i64 a.book, .int .i64 a.units, .int .i64 a.cust, .int .i64 a.amount] 30)).heap.size (u1.alloc (.cells #[.int .i64 a.node, .int .i64 a.kind, .int .i64 a.book, .int .i64 a.units, .int .i64 a.cust, .int .i64 a.amount] 30)), s.val.cell? ⟨w2.heap.size, 3, none⟩ = some (.int .i64 m0) := fun s => (cellsB (i := 3) (blk0 (alc (o := (.cells #[.int .i64 a.node, .int .i64 a.kind, .int .i64 a.book, .int .i64 a.units, .int .i64 a.cust, .int .i64 a.amount] 30)) s_1.out) s.h)).trans rfl
    have Cs4 : ∀ s : BW (u1.alloc (.cells #[.int .i64 a.node, .int .i64 a.kind, .int .i64 a.book, .int .i64 a.units, .int .i64 a.cust, .int .i64 a.amount] 30)).heap.size (u1.alloc (.cells #[.int .i64 a.node, .int .i64 a.kind, .int .i64 a.book, .int .i64 a.units, .int .i64 a.cust, .int .i64 a.amount] 30)), s.val.cell? ⟨w2.heap.size, 4, none⟩ = some (.int .i64 m1) := fun s => (cellsB (i := 4) (blk0 (alc (o := (.cells #[.int .i64 a.node, .int .i64 a.kind, .int .i64 a.book, .int .i64 a.units, .int .i64 a.cust, .int .i64 a.amount] 30)) s_1.out) s.h)).trans rfl
    have Cs5 : ∀ s : BW (u1.alloc (.cells #[.int .i64 a.node, .int .i64 a.kind, .int .i64 a.book, .int .i64 a.units, .int .i64 a.cust, .int .i64 a.amount] 30)).heap.size (u1.alloc (.cells #[.int .i64 a.node, .int .i64 a.kind, .int .i64 a.book, .int .i64 a.units, .int .i64 a.cust, .int .i64 a.amount] 30)), s.val.cell? ⟨w2.heap.size, 5, none⟩ = some (.int .i64 m2) := fun s => (cellsB (i := 5) (blk0 (alc (o := (.cells #[.int .i64 a.node, .int .i64 a.kind, .int .i64 a.book, .int .i64 a.units, .int .i64 a.cust, .int .i64 a.amount] 30)) s_1.out) s.h)).trans rfl
    have Cs6 : ∀ s : BW (u1.alloc (.cells #[.int .i64 a.node, .int .i64 a.kind, .int .i64 a.book, .int .i64 a.units, .int .i64 a.cust, .int .i64 a.amount] 30)).heap.size (u1.alloc (.cells #[.int .i64 a.node, .int .i64 a.kind, .int .i64 a.book, .int .i64 a.units, .int .i64 a.cust, .int .i64 a.amount] 30)), s.val.cell? ⟨w2.heap.size, 6, none⟩ = some (.int .i64 p) := fun s => (cellsB (i := 6) (blk0 (alc (o := (.cells #[.int .i64 a.node, .int .i64 a.kind, .int .i64 a.book, .int .i64 a.units, .int .i64 a.cust, .int .i64 a.amount] 30)) s_1.out) s.h)).trans rfl
    have Cs7 : ∀ s : BW (u1.alloc (.cells #[.int .i64 a.node, .int .i64 a.kind, .int .i64 a.book, .int .i64 a.units, .int .i64 a.cust, .int .i64 a.amount] 30)).heap.size (u1.alloc (.cells #[.int .i64 a.node, .int .i64 a.kind, .int .i64 a.book, .int .i64 a.units, .int .i64 a.cust, .int .i64 a.amount] 30)), s.val.cell? ⟨w2.heap.size, 7, none⟩ = some (.int .i64 2) := fun s => (cellsB (i := 7) (blk0 (alc (o := (.cells #[.int .i64 a.node, .int .i64 a.kind, .int .i64 a.book, .int .i64 a.units, .int .i64 a.cust, .int .i64 a.amount] 30)) s_1.out) s.h)).trans rfl
    have Cs8 : ∀ s : BW (u1.alloc (.cells #[.int .i64 a.node, .int .i64 a.kind, .int .i64 a.book, .int .i64 a.units, .int .i64 a.cust, .int .i64 a.amount] 30)).heap.size (u1.alloc (.cells #[.int .i64 a.node, .int .i64 a.kind, .int .i64 a.book, .int .i64 a.units, .int .i64 a.cust, .int .i64 a.amount] 30)), s.val.cell? ⟨w2.heap.size, 8, none⟩ = some (.int .i64 0) := fun s => (cellsB (i := 8) (blk0 (alc (o := (.cells #[.int .i64 a.node, .int .i64 a.kind, .int .i64 a.book, .int .i64 a.units, .int .i64 a.cust, .int .i64 a.amount] 30)) s_1.out) s.h)).trans rfl
    have Cs9 : ∀ s : BW (u1.alloc (.cells #[.int .i64 a.node, .int .i64 a.kind, .int .i64 a.book, .int .i64 a.units, .int .i64 a.cust, .int .i64 a.amount] 30)).heap.size (u1.alloc (.cells #[.int .i64 a.node, .int .i64 a.kind, .int .i64 a.book, .int .i64 a.units, .int .i64 a.cust, .int .i64 a.amount] 30)), s.val.cell? ⟨w2.heap.size, 9, none⟩ = some (.int .i64 0) := fun s => (cellsB (i := 9) (blk0 (alc (o := (.cells #[.int .i64 a.node, .int .i64 a.kind, .int .i64 a.book, .int .i64 a.units, .int .i64 a.cust, .int .i64 a.amount] 30)) s_1.out) s.h)).trans rfl
    have Cs10 : ∀ s : BW (u1.alloc (.cells #[.int .i64 a.node, .int .i64 a.kind, .int .i64 a.book, .int .i64 a.units, .int .i64 a.cust, .int .i64 a.amount] 30)).heap.size (u1.alloc (.cells #[.int .i64 a.node, .int .i64 a.kind, .int .i64 a.book, .int .i64 a.units, .int .i64 a.cust, .int .i64 a.amount] 30)), s.val.cell? ⟨w2.heap.size, 10, none⟩ = some (.int .i64 (t : Int)) := fun s => (cellsB (i := 10) (blk0 (alc (o := (.cells #[.int .i64 a.node, .int .i64 a.kind, .int .i64 a.book, .int .i64 a.units, .int .i64 a.cust, .int .i64 a.amount] 30)) s_1.out) s.h)).trans rfl
    have Cw0 : ∀ s : BW (u1.alloc (.cells #[.int .i64 a.node, .int .i64 a.kind, .int .i64 a.book, .int .i64 a.units, .int .i64 a.cust, .int .i64 a.amount] 30)).heap.size (u1.alloc (.cells #[.int .i64 a.node, .int .i64 a.kind, .int .i64 a.book, .int .i64 a.units, .int .i64 a.cust, .int .i64 a.amount] 30)), s.val.cell? ⟨w.heap.size, 0, none⟩ = some (.int .i64 b) := fun s => (cellsB (i := 0) (blk0 (alc (o := (.cells #[.int .i64 a.node, .int .i64 a.kind, .int .i64 a.book, .int .i64 a.units, .int .i64 a.cust, .int .i64 a.amount] 30)) w_1.out) s.h)).trans rfl
    have Cw1 : ∀ s : BW (u1.alloc (.cells #[.int .i64 a.node, .int .i64 a.kind, .int .i64 a.book, .int .i64 a.units, .int .i64 a.cust, .int .i64 a.amount] 30)).heap.size (u1.alloc (.cells #[.int .i64 a.node, .int .i64 a.kind, .int .i64 a.book, .int .i64 a.units, .int .i64 a.cust, .int .i64 a.amount] 30)), s.val.cell? ⟨w.heap.size, 1, none⟩ = some (.int .i64 c) := fun s => (cellsB (i := 1) (blk0 (alc (o := (.cells #[.int .i64 a.node, .int .i64 a.kind, .int .i64 a.book, .int .i64 a.units, .int .i64 a.cust, .int .i64 a.amount] 30)) w_1.out) s.h)).trans rfl
    have Cw2 : ∀ s : BW (u1.alloc (.cells #[.int .i64 a.node, .int .i64 a.kind, .int .i64 a.book, .int .i64 a.units, .int .i64 a.cust, .int .i64 a.amount] 30)).heap.size (u1.alloc (.cells #[.int .i64 a.node, .int .i64 a.kind, .int .i64 a.book, .int .i64 a.units, .int .i64 a.cust, .int .i64 a.amount] 30)), s.val.cell? ⟨w.heap.size, 2, none⟩ = some (.int .i64 d) := fun s => (cellsB (i := 2) (blk0 (alc (o := (.cells #[.int .i64 a.node, .int .i64 a.kind, .int .i64 a.book, .int .i64 a.units, .int .i64 a.cust, .int .i64 a.amount] 30)) w_1.out) s.h)).trans rfl
    have Cw3 : ∀ s : BW (u1.alloc (.cells #[.int .i64 a.node, .int .i64 a.kind, .int .i64 a.book, .int .i64 a.units, .int .i64 a.cust, .int .i64 a.amount] 30)).heap.size (u1.alloc (.cells #[.int .i64 a.node, .int .i64 a.kind, .int .i64 a.book, .int .i64 a.units, .int .i64 a.cust, .int .i64 a.amount] 30)), s.val.cell? ⟨w.heap.size, 3, none⟩ = some (.int .i64 m0) := fun s => (cellsB (i := 3) (blk0 (alc (o := (.cells #[.int .i64 a.node, .int .i64 a.kind, .int .i64 a.book, .int .i64 a.units, .int .i64 a.cust, .int .i64 a.amount] 30)) w_1.out) s.h)).trans rfl
    have Cw4 : ∀ s : BW (u1.alloc (.cells #[.int .i64 a.node, .int .i64 a.kind, .int .i64 a.book, .int .i64 a.units, .int .i64 a.cust, .int .i64 a.amount] 30)).heap.size (u1.alloc (.cells #[.int .i64 a.node, .int .i64 a.kind, .int .i64 a.book, .int .i64 a.units, .int .i64 a.cust, .int .i64 a.amount] 30)), s.val.cell? ⟨w.heap.size, 4, none⟩ = some (.int .i64 m1) := fun s => (cellsB (i := 4) (blk0 (alc (o := (.cells #[.int .i64 a.node, .int .i64 a.kind, .int .i64 a.book, .int .i64 a.units, .int .i64 a.cust, .int .i64 a.amount] 30)) w_1.out) s.h)).trans rfl
    have Cw5 : ∀ s : BW (u1.alloc (.cells #[.int .i64 a.node, .int .i64 a.kind, .int .i64 a.book, .int .i64 a.units, .int .i64 a.cust, .int .i64 a.amount] 30)).heap.size (u1.alloc (.cells #[.int .i64 a.node, .int .i64 a.kind, .int .i64 a.book, .int .i64 a.units, .int .i64 a.cust, .int .i64 a.amount] 30)), s.val.cell? ⟨w.heap.size, 5, none⟩ = some (.int .i64 m2) := fun s => (cellsB (i := 5) (blk0 (alc (o := (.cells #[.int .i64 a.node, .int .i64 a.kind, .int .i64 a.book, .int .i64 a.units, .int .i64 a.cust, .int .i64 a.amount] 30)) w_1.out) s.h)).trans rfl
    have Cw6 : ∀ s : BW (u1.alloc (.cells #[.int .i64 a.node, .int .i64 a.kind, .int .i64 a.book, .int .i64 a.units, .int .i64 a.cust, .int .i64 a.amount] 30)).heap.size (u1.alloc (.cells #[.int .i64 a.node, .int .i64 a.kind, .int .i64 a.book, .int .i64 a.units, .int .i64 a.cust, .int .i64 a.amount] 30)), s.val.cell? ⟨w.heap.size, 6, none⟩ = some (.int .i64 p) := fun s => (cellsB (i := 6) (blk0 (alc (o := (.cells #[.int .i64 a.node, .int .i64 a.kind, .int .i64 a.book, .int .i64 a.units, .int .i64 a.cust, .int .i64 a.amount] 30)) w_1.out) s.h)).trans rfl
    go_wp2_with fail
    refine wp_region_below ((u1.alloc (.cells #[.int .i64 a.node, .int .i64 a.kind, .int .i64 a.book, .int .i64 a.units, .int .i64 a.cust, .int .i64 a.amount] 30)).heap.size) (by kernel_rfl) (by kernel_rfl) ?_
    repeat (first | go_big_quiet_step ((first | (go_at_call 38; (with_reducible exact BW.call (Nat.le_refl _) (H2.out _))) | (go_at_call 25; (with_reducible exact BW.call (Nat.le_refl _) (H3.out _))) | (go_at_call 23; (with_reducible exact BW.call (Nat.le_refl _) (H4.out _))))) | quiet_step ((first | (go_at_call 38; (with_reducible exact BW.call (Nat.le_refl _) (H2.out _))) | (go_at_call 25; (with_reducible exact BW.call (Nat.le_refl _) (H3.out _))) | (go_at_call 23; (with_reducible exact BW.call (Nat.le_refl _) (H4.out _))))))
    refine wpQuiet_nil ?_
    intro _ hw'
    obtain ⟨sb, hw''⟩ := hw'
    subst hw''
    have q := sb.h
    generalize sb.val = u2 at q ⊢
    clear sb Ca0 Ca1 Ca2 Ca3 Ca4 Ca5 Cs0 Cs1 Cs2 Cs3 Cs4 Cs5 Cs6 Cs7 Cs8 Cs9 Cs10 Cw0 Cw1 Cw2 Cw3 Cw4 Cw5 Cw6
    have s_2 := Lib.hid (blk1 s_1.out q)
    have w_2 := Lib.hid (blk1 w_1.out q)
    have a_2 := Lib.hid (new1 q)
    have B2 := Lib.hid (bel1 B1.out B1.out.size q)
    clear q
    clear w_2
    have L2_0 : u2.cell? ⟨w2.heap.size, 0, none⟩ = some (.int .i64 b) := (cellsB (i := 0) s_2.out).trans rfl
    have L2_1 : u2.cell? ⟨w2.heap.size, 1, none⟩ = some (.int .i64 c) := (cellsB (i := 1) s_2.out).trans rfl
    have L2_2 : u2.cell? ⟨w2.heap.size, 2, none⟩ = some (.int .i64 d) := (cellsB (i := 2) s_2.out).trans rfl
    have L2_3 : u2.cell? ⟨w2.heap.size, 3, none⟩ = some (.int .i64 m0) := (cellsB (i := 3) s_2.out).trans rfl
    have L2_4 : u2.cell? ⟨w2.heap.size, 4, none⟩ = some (.int .i64 m1) := (cellsB (i := 4) s_2.out).trans rfl
    have L2_5 : u2.cell? ⟨w2.heap.size, 5, none⟩ = some (.int .i64 m2) := (cellsB (i := 5) s_2.out).trans rfl
    have L2_6 : u2.cell? ⟨w2.heap.size, 6, none⟩ = some (.int .i64 p) := (cellsB (i := 6) s_2.out).trans rfl
    have L2_7 : u2.cell? ⟨w2.heap.size, 7, none⟩ = some (.int .i64 2) := (cellsB (i := 7) s_2.out).trans rfl
    have L2_8 : u2.cell? ⟨w2.heap.size, 8, none⟩ = some (.int .i64 0) := (cellsB (i := 8) s_2.out).trans rfl
    have L2_9 : u2.cell? ⟨w2.heap.size, 9, none⟩ = some (.int .i64 0) := (cellsB (i := 9) s_2.out).trans rfl
    have L2_10 : u2.cell? ⟨w2.heap.size, 10, none⟩ = some (.int .i64 (t : Int)) := (cellsB (i := 10) s_2.out).trans rfl
    go_wp2_with fail
    refine (H5.out _).mono ?_
    rintro e u3 ⟨rfl, q⟩
    have s_3 := Lib.hid (blk0 s_2.out q)
    have a_3 := Lib.hid (blk0 a_2.out q)
    have B3 := Lib.hid (bel0 B2.out B2.out.size q)
    clear q s_2 a_2 B2
    clear L2_0 L2_1 L2_2 L2_3 L2_4 L2_5 L2_6 L2_7 L2_8 L2_9 L2_10
    have L3_0 : (u3.alloc (.cells #[.int .i64 b, .int .i64 c, .int .i64 d, .int .i64 m0, .int .i64 m1, .int .i64 m2, .int .i64 p, .int .i64 2, .int .i64 0, .int .i64 0, .int .i64 (t : Int)] 26)).cell? ⟨w2.heap.size, 0, none⟩ = some (.int .i64 b) := (cellsB (i := 0) (alc (o := (.cells #[.int .i64 b, .int .i64 c, .int .i64 d, .int .i64 m0, .int .i64 m1, .int .i64 m2, .int .i64 p, .int .i64 2, .int .i64 0, .int .i64 0, .int .i64 (t : Int)] 26)) s_3.out)).trans rfl
    have L3_1 : (u3.alloc (.cells #[.int .i64 b, .int .i64 c, .int .i64 d, .int .i64 m0, .int .i64 m1, .int .i64 m2, .int .i64 p, .int .i64 2, .int .i64 0, .int .i64 0, .int .i64 (t : Int)] 26)).cell? ⟨w2.heap.size, 1, none⟩ = some (.int .i64 c) := (cellsB (i := 1) (alc (o := (.cells #[.int .i64 b, .int .i64 c, .int .i64 d, .int .i64 m0, .int .i64 m1, .int .i64 m2, .int .i64 p, .int .i64 2, .int .i64 0, .int .i64 0, .int .i64 (t : Int)] 26)) s_3.out)).trans rfl
    have L3_2 : (u3.alloc (.cells #[.int .i64 b, .int .i64 c, .int .i64 d, .int .i64 m0, .int .i64 m1, .int .i64 m2, .int .i64 p, .int .i64 2, .int .i64 0, .int .i64 0, .int .i64 (t : Int)] 26)).cell? ⟨w2.heap.size, 2, none⟩ = some (.int .i64 d) := (cellsB (i := 2) (alc (o := (.cells #[.int .i64 b, .int .i64 c, .int .i64 d, .int .i64 m0, .int .i64 m1, .int .i64 m2, .int .i64 p, .int .i64 2, .int .i64 0, .int .i64 0, .int .i64 (t : Int)] 26)) s_3.out)).trans rfl
    have L3_3 : (u3.alloc (.cells #[.int .i64 b, .int .i64 c, .int .i64 d, .int .i64 m0, .int .i64 m1, .int .i64 m2, .int .i64 p, .int .i64 2, .int .i64 0, .int .i64 0, .int .i64 (t : Int)] 26)).cell? ⟨w2.heap.size, 3, none⟩ = some (.int .i64 m0) := (cellsB (i := 3) (alc (o := (.cells #[.int .i64 b, .int .i64 c, .int .i64 d, .int .i64 m0, .int .i64 m1, .int .i64 m2, .int .i64 p, .int .i64 2, .int .i64 0, .int .i64 0, .int .i64 (t : Int)] 26)) s_3.out)).trans rfl
    have L3_4 : (u3.alloc (.cells #[.int .i64 b, .int .i64 c, .int .i64 d, .int .i64 m0, .int .i64 m1, .int .i64 m2, .int .i64 p, .int .i64 2, .int .i64 0, .int .i64 0, .int .i64 (t : Int)] 26)).cell? ⟨w2.heap.size, 4, none⟩ = some (.int .i64 m1) := (cellsB (i := 4) (alc (o := (.cells #[.int .i64 b, .int .i64 c, .int .i64 d, .int .i64 m0, .int .i64 m1, .int .i64 m2, .int .i64 p, .int .i64 2, .int .i64 0, .int .i64 0, .int .i64 (t : Int)] 26)) s_3.out)).trans rfl
    have L3_5 : (u3.alloc (.cells #[.int .i64 b, .int .i64 c, .int .i64 d, .int .i64 m0, .int .i64 m1, .int .i64 m2, .int .i64 p, .int .i64 2, .int .i64 0, .int .i64 0, .int .i64 (t : Int)] 26)).cell? ⟨w2.heap.size, 5, none⟩ = some (.int .i64 m2) := (cellsB (i := 5) (alc (o := (.cells #[.int .i64 b, .int .i64 c, .int .i64 d, .int .i64 m0, .int .i64 m1, .int .i64 m2, .int .i64 p, .int .i64 2, .int .i64 0, .int .i64 0, .int .i64 (t : Int)] 26)) s_3.out)).trans rfl
    have L3_6 : (u3.alloc (.cells #[.int .i64 b, .int .i64 c, .int .i64 d, .int .i64 m0, .int .i64 m1, .int .i64 m2, .int .i64 p, .int .i64 2, .int .i64 0, .int .i64 0, .int .i64 (t : Int)] 26)).cell? ⟨w2.heap.size, 6, none⟩ = some (.int .i64 p) := (cellsB (i := 6) (alc (o := (.cells #[.int .i64 b, .int .i64 c, .int .i64 d, .int .i64 m0, .int .i64 m1, .int .i64 m2, .int .i64 p, .int .i64 2, .int .i64 0, .int .i64 0, .int .i64 (t : Int)] 26)) s_3.out)).trans rfl
    have L3_7 : (u3.alloc (.cells #[.int .i64 b, .int .i64 c, .int .i64 d, .int .i64 m0, .int .i64 m1, .int .i64 m2, .int .i64 p, .int .i64 2, .int .i64 0, .int .i64 0, .int .i64 (t : Int)] 26)).cell? ⟨w2.heap.size, 7, none⟩ = some (.int .i64 2) := (cellsB (i := 7) (alc (o := (.cells #[.int .i64 b, .int .i64 c, .int .i64 d, .int .i64 m0, .int .i64 m1, .int .i64 m2, .int .i64 p, .int .i64 2, .int .i64 0, .int .i64 0, .int .i64 (t : Int)] 26)) s_3.out)).trans rfl
    have L3_8 : (u3.alloc (.cells #[.int .i64 b, .int .i64 c, .int .i64 d, .int .i64 m0, .int .i64 m1, .int .i64 m2, .int .i64 p, .int .i64 2, .int .i64 0, .int .i64 0, .int .i64 (t : Int)] 26)).cell? ⟨w2.heap.size, 8, none⟩ = some (.int .i64 0) := (cellsB (i := 8) (alc (o := (.cells #[.int .i64 b, .int .i64 c, .int .i64 d, .int .i64 m0, .int .i64 m1, .int .i64 m2, .int .i64 p, .int .i64 2, .int .i64 0, .int .i64 0, .int .i64 (t : Int)] 26)) s_3.out)).trans rfl
    have L3_9 : (u3.alloc (.cells #[.int .i64 b, .int .i64 c, .int .i64 d, .int .i64 m0, .int .i64 m1, .int .i64 m2, .int .i64 p, .int .i64 2, .int .i64 0, .int .i64 0, .int .i64 (t : Int)] 26)).cell? ⟨w2.heap.size, 9, none⟩ = some (.int .i64 0) := (cellsB (i := 9) (alc (o := (.cells #[.int .i64 b, .int .i64 c, .int .i64 d, .int .i64 m0, .int .i64 m1, .int .i64 m2, .int .i64 p, .int .i64 2, .int .i64 0, .int .i64 0, .int .i64 (t : Int)] 26)) s_3.out)).trans rfl
    have L3_10 : (u3.alloc (.cells #[.int .i64 b, .int .i64 c, .int .i64 d, .int .i64 m0, .int .i64 m1, .int .i64 m2, .int .i64 p, .int .i64 2, .int .i64 0, .int .i64 0, .int .i64 (t : Int)] 26)).cell? ⟨w2.heap.size, 10, none⟩ = some (.int .i64 (t : Int)) := (cellsB (i := 10) (alc (o := (.cells #[.int .i64 b, .int .i64 c, .int .i64 d, .int .i64 m0, .int .i64 m1, .int .i64 m2, .int .i64 p, .int .i64 2, .int .i64 0, .int .i64 0, .int .i64 (t : Int)] 26)) s_3.out)).trans rfl
    go_wp2_with fail
    refine (H6.out _).mono ?_
    rintro e u4 ⟨rfl, q⟩
    have s_4 := Lib.hid (blk1 s_3.out q)
    have a_4 := Lib.hid (blk1 a_3.out q)
    have y1_4 := Lib.hid (new1 q)
    have B4 := Lib.hid (bel1 B3.out B3.out.size q)
    clear q s_3 a_3 B3
    clear L3_0 L3_1 L3_2 L3_3 L3_4 L3_5 L3_6 L3_7 L3_8 L3_9 L3_10
    have L4_0 : (u4.alloc (.cells #[.int .i64 b, .int .i64 c, .int .i64 d, .int .i64 m0, .int .i64 m1, .int .i64 m2, .int .i64 p, .int .i64 2, .int .i64 0, .int .i64 0, .int .i64 (t : Int)] 26)).cell? ⟨w2.heap.size, 0, none⟩ = some (.int .i64 b) := (cellsB (i := 0) (alc (o := (.cells #[.int .i64 b, .int .i64 c, .int .i64 d, .int .i64 m0, .int .i64 m1, .int .i64 m2, .int .i64 p, .int .i64 2, .int .i64 0, .int .i64 0, .int .i64 (t : Int)] 26)) s_4.out)).trans rfl
    have L4_1 : (u4.alloc (.cells #[.int .i64 b, .int .i64 c, .int .i64 d, .int .i64 m0, .int .i64 m1, .int .i64 m2, .int .i64 p, .int .i64 2, .int .i64 0, .int .i64 0, .int .i64 (t : Int)] 26)).cell? ⟨w2.heap.size, 1, none⟩ = some (.int .i64 c) := (cellsB (i := 1) (alc (o := (.cells #[.int .i64 b, .int .i64 c, .int .i64 d, .int .i64 m0, .int .i64 m1, .int .i64 m2, .int .i64 p, .int .i64 2, .int .i64 0, .int .i64 0, .int .i64 (t : Int)] 26)) s_4.out)).trans rfl
    have L4_2 : (u4.alloc (.cells #[.int .i64 b, .int .i64 c, .int .i64 d, .int .i64 m0, .int .i64 m1, .int .i64 m2, .int .i64 p, .int .i64 2, .int .i64 0, .int .i64 0, .int .i64 (t : Int)] 26)).cell? ⟨w2.heap.size, 2, none⟩ = some (.int .i64 d) := (cellsB (i := 2) (alc (o := (.cells #[.int .i64 b, .int .i64 c, .int .i64 d, .int .i64 m0, .int .i64 m1, .int .i64 m2, .int .i64 p, .int .i64 2, .int .i64 0, .int .i64 0, .int .i64 (t : Int)] 26)) s_4.out)).trans rfl
    have L4_3 : (u4.alloc (.cells #[.int .i64 b, .int .i64 c, .int .i64 d, .int .i64 m0, .int .i64 m1, .int .i64 m2, .int .i64 p, .int .i64 2, .int .i64 0, .int .i64 0, .int .i64 (t : Int)] 26)).cell? ⟨w2.heap.size, 3, none⟩ = some (.int .i64 m0) := (cellsB (i := 3) (alc (o := (.cells #[.int .i64 b, .int .i64 c, .int .i64 d, .int .i64 m0, .int .i64 m1, .int .i64 m2, .int .i64 p, .int .i64 2, .int .i64 0, .int .i64 0, .int .i64 (t : Int)] 26)) s_4.out)).trans rfl
    have L4_4 : (u4.alloc (.cells #[.int .i64 b, .int .i64 c, .int .i64 d, .int .i64 m0, .int .i64 m1, .int .i64 m2, .int .i64 p, .int .i64 2, .int .i64 0, .int .i64 0, .int .i64 (t : Int)] 26)).cell? ⟨w2.heap.size, 4, none⟩ = some (.int .i64 m1) := (cellsB (i := 4) (alc (o := (.cells #[.int .i64 b, .int .i64 c, .int .i64 d, .int .i64 m0, .int .i64 m1, .int .i64 m2, .int .i64 p, .int .i64 2, .int .i64 0, .int .i64 0, .int .i64 (t : Int)] 26)) s_4.out)).trans rfl
    have L4_5 : (u4.alloc (.cells #[.int .i64 b, .int .i64 c, .int .i64 d, .int .i64 m0, .int .i64 m1, .int .i64 m2, .int .i64 p, .int .i64 2, .int .i64 0, .int .i64 0, .int .i64 (t : Int)] 26)).cell? ⟨w2.heap.size, 5, none⟩ = some (.int .i64 m2) := (cellsB (i := 5) (alc (o := (.cells #[.int .i64 b, .int .i64 c, .int .i64 d, .int .i64 m0, .int .i64 m1, .int .i64 m2, .int .i64 p, .int .i64 2, .int .i64 0, .int .i64 0, .int .i64 (t : Int)] 26)) s_4.out)).trans rfl
    have L4_6 : (u4.alloc (.cells #[.int .i64 b, .int .i64 c, .int .i64 d, .int .i64 m0, .int .i64 m1, .int .i64 m2, .int .i64 p, .int .i64 2, .int .i64 0, .int .i64 0, .int .i64 (t : Int)] 26)).cell? ⟨w2.heap.size, 6, none⟩ = some (.int .i64 p) := (cellsB (i := 6) (alc (o := (.cells #[.int .i64 b, .int .i64 c, .int .i64 d, .int .i64 m0, .int .i64 m1, .int .i64 m2, .int .i64 p, .int .i64 2, .int .i64 0, .int .i64 0, .int .i64 (t : Int)] 26)) s_4.out)).trans rfl
    have L4_7 : (u4.alloc (.cells #[.int .i64 b, .int .i64 c, .int .i64 d, .int .i64 m0, .int .i64 m1, .int .i64 m2, .int .i64 p, .int .i64 2, .int .i64 0, .int .i64 0, .int .i64 (t : Int)] 26)).cell? ⟨w2.heap.size, 7, none⟩ = some (.int .i64 2) := (cellsB (i := 7) (alc (o := (.cells #[.int .i64 b, .int .i64 c, .int .i64 d, .int .i64 m0, .int .i64 m1, .int .i64 m2, .int .i64 p, .int .i64 2, .int .i64 0, .int .i64 0, .int .i64 (t : Int)] 26)) s_4.out)).trans rfl
    have L4_8 : (u4.alloc (.cells #[.int .i64 b, .int .i64 c, .int .i64 d, .int .i64 m0, .int .i64 m1, .int .i64 m2, .int .i64 p, .int .i64 2, .int .i64 0, .int .i64 0, .int .i64 (t : Int)] 26)).cell? ⟨w2.heap.size, 8, none⟩ = some (.int .i64 0) := (cellsB (i := 8) (alc (o := (.cells #[.int .i64 b, .int .i64 c, .int .i64 d, .int .i64 m0, .int .i64 m1, .int .i64 m2, .int .i64 p, .int .i64 2, .int .i64 0, .int .i64 0, .int .i64 (t : Int)] 26)) s_4.out)).trans rfl
    have L4_9 : (u4.alloc (.cells #[.int .i64 b, .int .i64 c, .int .i64 d, .int .i64 m0, .int .i64 m1, .int .i64 m2, .int .i64 p, .int .i64 2, .int .i64 0, .int .i64 0, .int .i64 (t : Int)] 26)).cell? ⟨w2.heap.size, 9, none⟩ = some (.int .i64 0) := (cellsB (i := 9) (alc (o := (.cells #[.int .i64 b, .int .i64 c, .int .i64 d, .int .i64 m0, .int .i64 m1, .int .i64 m2, .int .i64 p, .int .i64 2, .int .i64 0, .int .i64 0, .int .i64 (t : Int)] 26)) s_4.out)).trans rfl
    have L4_10 : (u4.alloc (.cells #[.int .i64 b, .int .i64 c, .int .i64 d, .int .i64 m0, .int .i64 m1, .int .i64 m2, .int .i64 p, .int .i64 2, .int .i64 0, .int .i64 0, .int .i64 (t : Int)] 26)).cell? ⟨w2.heap.size, 10, none⟩ = some (.int .i64 (t : Int)) := (cellsB (i := 10) (alc (o := (.cells #[.int .i64 b, .int .i64 c, .int .i64 d, .int .i64 m0, .int .i64 m1, .int .i64 m2, .int .i64 p, .int .i64 2, .int .i64 0, .int .i64 0, .int .i64 (t : Int)] 26)) s_4.out)).trans rfl
    have L5_0 : (u4.alloc (.cells #[.int .i64 b, .int .i64 c, .int .i64 d, .int .i64 m0, .int .i64 m1, .int .i64 m2, .int .i64 p, .int .i64 2, .int .i64 0, .int .i64 0, .int .i64 (t : Int)] 26)).cell? ⟨u1.heap.size, 0, none⟩ = some (.int .i64 a.node) := (cellsB (i := 0) (alc (o := (.cells #[.int .i64 b, .int .i64 c, .int .i64 d, .int .i64 m0, .int .i64 m1, .int .i64 m2, .int .i64 p, .int .i64 2, .int .i64 0, .int .i64 0, .int .i64 (t : Int)] 26)) a_4.out)).trans rfl
    have L5_1 : (u4.alloc (.cells #[.int .i64 b, .int .i64 c, .int .i64 d, .int .i64 m0, .int .i64 m1, .int .i64 m2, .int .i64 p, .int .i64 2, .int .i64 0, .int .i64 0, .int .i64 (t : Int)] 26)).cell? ⟨u1.heap.size, 1, none⟩ = some (.int .i64 a.kind) := (cellsB (i := 1) (alc (o := (.cells #[.int .i64 b, .int .i64 c, .int .i64 d, .int .i64 m0, .int .i64 m1, .int .i64 m2, .int .i64 p, .int .i64 2, .int .i64 0, .int .i64 0, .int .i64 (t : Int)] 26)) a_4.out)).trans rfl
    have L5_2 : (u4.alloc (.cells #[.int .i64 b, .int .i64 c, .int .i64 d, .int .i64 m0, .int .i64 m1, .int .i64 m2, .int .i64 p, .int .i64 2, .int .i64 0, .int .i64 0, .int .i64 (t : Int)] 26)).cell? ⟨u1.heap.size, 2, none⟩ = some (.int .i64 a.book) := (cellsB (i := 2) (alc (o := (.cells #[.int .i64 b, .int .i64 c, .int .i64 d, .int .i64 m0, .int .i64 m1, .int .i64 m2, .int .i64 p, .int .i64 2, .int .i64 0, .int .i64 0, .int .i64 (t : Int)] 26)) a_4.out)).trans rfl
    have L5_3 : (u4.alloc (.cells #[.int .i64 b, .int .i64 c, .int .i64 d, .int .i64 m0, .int .i64 m1, .int .i64 m2, .int .i64 p, .int .i64 2, .int .i64 0, .int .i64 0, .int .i64 (t : Int)] 26)).cell? ⟨u1.heap.size, 3, none⟩ = some (.int .i64 a.units) := (cellsB (i := 3) (alc (o := (.cells #[.int .i64 b, .int .i64 c, .int .i64 d, .int .i64 m0, .int .i64 m1, .int .i64 m2, .int .i64 p, .int .i64 2, .int .i64 0, .int .i64 0, .int .i64 (t : Int)] 26)) a_4.out)).trans rfl
    have L5_4 : (u4.alloc (.cells #[.int .i64 b, .int .i64 c, .int .i64 d, .int .i64 m0, .int .i64 m1, .int .i64 m2, .int .i64 p, .int .i64 2, .int .i64 0, .int .i64 0, .int .i64 (t : Int)] 26)).cell? ⟨u1.heap.size, 4, none⟩ = some (.int .i64 a.cust) := (cellsB (i := 4) (alc (o := (.cells #[.int .i64 b, .int .i64 c, .int .i64 d, .int .i64 m0, .int .i64 m1, .int .i64 m2, .int .i64 p, .int .i64 2, .int .i64 0, .int .i64 0, .int .i64 (t : Int)] 26)) a_4.out)).trans rfl
    have L5_5 : (u4.alloc (.cells #[.int .i64 b, .int .i64 c, .int .i64 d, .int .i64 m0, .int .i64 m1, .int .i64 m2, .int .i64 p, .int .i64 2, .int .i64 0, .int .i64 0, .int .i64 (t : Int)] 26)).cell? ⟨u1.heap.size, 5, none⟩ = some (.int .i64 a.amount) := (cellsB (i := 5) (alc (o := (.cells #[.int .i64 b, .int .i64 c, .int .i64 d, .int .i64 m0, .int .i64 m1, .int .i64 m2, .int .i64 p, .int .i64 2, .int .i64 0, .int .i64 0, .int .i64 (t : Int)] 26)) a_4.out)).trans rfl
    go_wp2_with fail
    refine (H7.out _).mono ?_
    rintro e u5 ⟨rfl, q⟩
    have s_5 := Lib.hid (blk1 s_4.out q)
    have a_5 := Lib.hid (blk1 a_4.out q)
    have y1_5 := Lib.hid (blk1 y1_4.out q)
    have y2_5 := Lib.hid (new1 q)
    have B5 := Lib.hid (bel1 B4.out B4.out.size q)
    clear q s_4 a_4 y1_4 B4
    clear L4_0 L4_1 L4_2 L4_3 L4_4 L4_5 L4_6 L4_7 L4_8 L4_9 L4_10 L5_0 L5_1 L5_2 L5_3 L5_4 L5_5
    have L6_0 : (u5.alloc (.cells #[.int .i64 b, .int .i64 c, .int .i64 d, .int .i64 m0, .int .i64 m1, .int .i64 m2, .int .i64 p, .int .i64 2, .int .i64 0, .int .i64 0, .int .i64 (t : Int)] 26)).cell? ⟨w2.heap.size, 0, none⟩ = some (.int .i64 b) := (cellsB (i := 0) (alc (o := (.cells #[.int .i64 b, .int .i64 c, .int .i64 d, .int .i64 m0, .int .i64 m1, .int .i64 m2, .int .i64 p, .int .i64 2, .int .i64 0, .int .i64 0, .int .i64 (t : Int)] 26)) s_5.out)).trans rfl
    have L6_1 : (u5.alloc (.cells #[.int .i64 b, .int .i64 c, .int .i64 d, .int .i64 m0, .int .i64 m1, .int .i64 m2, .int .i64 p, .int .i64 2, .int .i64 0, .int .i64 0, .int .i64 (t : Int)] 26)).cell? ⟨w2.heap.size, 1, none⟩ = some (.int .i64 c) := (cellsB (i := 1) (alc (o := (.cells #[.int .i64 b, .int .i64 c, .int .i64 d, .int .i64 m0, .int .i64 m1, .int .i64 m2, .int .i64 p, .int .i64 2, .int .i64 0, .int .i64 0, .int .i64 (t : Int)] 26)) s_5.out)).trans rfl
    have L6_2 : (u5.alloc (.cells #[.int .i64 b, .int .i64 c, .int .i64 d, .int .i64 m0, .int .i64 m1, .int .i64 m2, .int .i64 p, .int .i64 2, .int .i64 0, .int .i64 0, .int .i64 (t : Int)] 26)).cell? ⟨w2.heap.size, 2, none⟩ = some (.int .i64 d) := (cellsB (i := 2) (alc (o := (.cells #[.int .i64 b, .int .i64 c, .int .i64 d, .int .i64 m0, .int .i64 m1, .int .i64 m2, .int .i64 p, .int .i64 2, .int .i64 0, .int .i64 0, .int .i64 (t : Int)] 26)) s_5.out)).trans rfl
    have L6_3 : (u5.alloc (.cells #[.int .i64 b, .int .i64 c, .int .i64 d, .int .i64 m0, .int .i64 m1, .int .i64 m2, .int .i64 p, .int .i64 2, .int .i64 0, .int .i64 0, .int .i64 (t : Int)] 26)).cell? ⟨w2.heap.size, 3, none⟩ = some (.int .i64 m0) := (cellsB (i := 3) (alc (o := (.cells #[.int .i64 b, .int .i64 c, .int .i64 d, .int .i64 m0, .int .i64 m1, .int .i64 m2, .int .i64 p, .int .i64 2, .int .i64 0, .int .i64 0, .int .i64 (t : Int)] 26)) s_5.out)).trans rfl
    have L6_4 : (u5.alloc (.cells #[.int .i64 b, .int .i64 c, .int .i64 d, .int .i64 m0, .int .i64 m1, .int .i64 m2, .int .i64 p, .int .i64 2, .int .i64 0, .int .i64 0, .int .i64 (t : Int)] 26)).cell? ⟨w2.heap.size, 4, none⟩ = some (.int .i64 m1) := (cellsB (i := 4) (alc (o := (.cells #[.int .i64 b, .int .i64 c, .int .i64 d, .int .i64 m0, .int .i64 m1, .int .i64 m2, .int .i64 p, .int .i64 2, .int .i64 0, .int .i64 0, .int .i64 (t : Int)] 26)) s_5.out)).trans rfl
    have L6_5 : (u5.alloc (.cells #[.int .i64 b, .int .i64 c, .int .i64 d, .int .i64 m0, .int .i64 m1, .int .i64 m2, .int .i64 p, .int .i64 2, .int .i64 0, .int .i64 0, .int .i64 (t : Int)] 26)).cell? ⟨w2.heap.size, 5, none⟩ = some (.int .i64 m2) := (cellsB (i := 5) (alc (o := (.cells #[.int .i64 b, .int .i64 c, .int .i64 d, .int .i64 m0, .int .i64 m1, .int .i64 m2, .int .i64 p, .int .i64 2, .int .i64 0, .int .i64 0, .int .i64 (t : Int)] 26)) s_5.out)).trans rfl
    have L6_6 : (u5.alloc (.cells #[.int .i64 b, .int .i64 c, .int .i64 d, .int .i64 m0, .int .i64 m1, .int .i64 m2, .int .i64 p, .int .i64 2, .int .i64 0, .int .i64 0, .int .i64 (t : Int)] 26)).cell? ⟨w2.heap.size, 6, none⟩ = some (.int .i64 p) := (cellsB (i := 6) (alc (o := (.cells #[.int .i64 b, .int .i64 c, .int .i64 d, .int .i64 m0, .int .i64 m1, .int .i64 m2, .int .i64 p, .int .i64 2, .int .i64 0, .int .i64 0, .int .i64 (t : Int)] 26)) s_5.out)).trans rfl
    have L6_7 : (u5.alloc (.cells #[.int .i64 b, .int .i64 c, .int .i64 d, .int .i64 m0, .int .i64 m1, .int .i64 m2, .int .i64 p, .int .i64 2, .int .i64 0, .int .i64 0, .int .i64 (t : Int)] 26)).cell? ⟨w2.heap.size, 7, none⟩ = some (.int .i64 2) := (cellsB (i := 7) (alc (o := (.cells #[.int .i64 b, .int .i64 c, .int .i64 d, .int .i64 m0, .int .i64 m1, .int .i64 m2, .int .i64 p, .int .i64 2, .int .i64 0, .int .i64 0, .int .i64 (t : Int)] 26)) s_5.out)).trans rfl
    have L6_8 : (u5.alloc (.cells #[.int .i64 b, .int .i64 c, .int .i64 d, .int .i64 m0, .int .i64 m1, .int .i64 m2, .int .i64 p, .int .i64 2, .int .i64 0, .int .i64 0, .int .i64 (t : Int)] 26)).cell? ⟨w2.heap.size, 8, none⟩ = some (.int .i64 0) := (cellsB (i := 8) (alc (o := (.cells #[.int .i64 b, .int .i64 c, .int .i64 d, .int .i64 m0, .int .i64 m1, .int .i64 m2, .int .i64 p, .int .i64 2, .int .i64 0, .int .i64 0, .int .i64 (t : Int)] 26)) s_5.out)).trans rfl
    have L6_9 : (u5.alloc (.cells #[.int .i64 b, .int .i64 c, .int .i64 d, .int .i64 m0, .int .i64 m1, .int .i64 m2, .int .i64 p, .int .i64 2, .int .i64 0, .int .i64 0, .int .i64 (t : Int)] 26)).cell? ⟨w2.heap.size, 9, none⟩ = some (.int .i64 0) := (cellsB (i := 9) (alc (o := (.cells #[.int .i64 b, .int .i64 c, .int .i64 d, .int .i64 m0, .int .i64 m1, .int .i64 m2, .int .i64 p, .int .i64 2, .int .i64 0, .int .i64 0, .int .i64 (t : Int)] 26)) s_5.out)).trans rfl
    have L6_10 : (u5.alloc (.cells #[.int .i64 b, .int .i64 c, .int .i64 d, .int .i64 m0, .int .i64 m1, .int .i64 m2, .int .i64 p, .int .i64 2, .int .i64 0, .int .i64 0, .int .i64 (t : Int)] 26)).cell? ⟨w2.heap.size, 10, none⟩ = some (.int .i64 (t : Int)) := (cellsB (i := 10) (alc (o := (.cells #[.int .i64 b, .int .i64 c, .int .i64 d, .int .i64 m0, .int .i64 m1, .int .i64 m2, .int .i64 p, .int .i64 2, .int .i64 0, .int .i64 0, .int .i64 (t : Int)] 26)) s_5.out)).trans rfl
    have L7_0 : (u5.alloc (.cells #[.int .i64 b, .int .i64 c, .int .i64 d, .int .i64 m0, .int .i64 m1, .int .i64 m2, .int .i64 p, .int .i64 2, .int .i64 0, .int .i64 0, .int .i64 (t : Int)] 26)).cell? ⟨u1.heap.size, 0, none⟩ = some (.int .i64 a.node) := (cellsB (i := 0) (alc (o := (.cells #[.int .i64 b, .int .i64 c, .int .i64 d, .int .i64 m0, .int .i64 m1, .int .i64 m2, .int .i64 p, .int .i64 2, .int .i64 0, .int .i64 0, .int .i64 (t : Int)] 26)) a_5.out)).trans rfl
    have L7_1 : (u5.alloc (.cells #[.int .i64 b, .int .i64 c, .int .i64 d, .int .i64 m0, .int .i64 m1, .int .i64 m2, .int .i64 p, .int .i64 2, .int .i64 0, .int .i64 0, .int .i64 (t : Int)] 26)).cell? ⟨u1.heap.size, 1, none⟩ = some (.int .i64 a.kind) := (cellsB (i := 1) (alc (o := (.cells #[.int .i64 b, .int .i64 c, .int .i64 d, .int .i64 m0, .int .i64 m1, .int .i64 m2, .int .i64 p, .int .i64 2, .int .i64 0, .int .i64 0, .int .i64 (t : Int)] 26)) a_5.out)).trans rfl
    have L7_2 : (u5.alloc (.cells #[.int .i64 b, .int .i64 c, .int .i64 d, .int .i64 m0, .int .i64 m1, .int .i64 m2, .int .i64 p, .int .i64 2, .int .i64 0, .int .i64 0, .int .i64 (t : Int)] 26)).cell? ⟨u1.heap.size, 2, none⟩ = some (.int .i64 a.book) := (cellsB (i := 2) (alc (o := (.cells #[.int .i64 b, .int .i64 c, .int .i64 d, .int .i64 m0, .int .i64 m1, .int .i64 m2, .int .i64 p, .int .i64 2, .int .i64 0, .int .i64 0, .int .i64 (t : Int)] 26)) a_5.out)).trans rfl
    have L7_3 : (u5.alloc (.cells #[.int .i64 b, .int .i64 c, .int .i64 d, .int .i64 m0, .int .i64 m1, .int .i64 m2, .int .i64 p, .int .i64 2, .int .i64 0, .int .i64 0, .int .i64 (t : Int)] 26)).cell? ⟨u1.heap.size, 3, none⟩ = some (.int .i64 a.units) := (cellsB (i := 3) (alc (o := (.cells #[.int .i64 b, .int .i64 c, .int .i64 d, .int .i64 m0, .int .i64 m1, .int .i64 m2, .int .i64 p, .int .i64 2, .int .i64 0, .int .i64 0, .int .i64 (t : Int)] 26)) a_5.out)).trans rfl
    have L7_4 : (u5.alloc (.cells #[.int .i64 b, .int .i64 c, .int .i64 d, .int .i64 m0, .int .i64 m1, .int .i64 m2, .int .i64 p, .int .i64 2, .int .i64 0, .int .i64 0, .int .i64 (t : Int)] 26)).cell? ⟨u1.heap.size, 4, none⟩ = some (.int .i64 a.cust) := (cellsB (i := 4) (alc (o := (.cells #[.int .i64 b, .int .i64 c, .int .i64 d, .int .i64 m0, .int .i64 m1, .int .i64 m2, .int .i64 p, .int .i64 2, .int .i64 0, .int .i64 0, .int .i64 (t : Int)] 26)) a_5.out)).trans rfl
    have L7_5 : (u5.alloc (.cells #[.int .i64 b, .int .i64 c, .int .i64 d, .int .i64 m0, .int .i64 m1, .int .i64 m2, .int .i64 p, .int .i64 2, .int .i64 0, .int .i64 0, .int .i64 (t : Int)] 26)).cell? ⟨u1.heap.size, 5, none⟩ = some (.int .i64 a.amount) := (cellsB (i := 5) (alc (o := (.cells #[.int .i64 b, .int .i64 c, .int .i64 d, .int .i64 m0, .int .i64 m1, .int .i64 m2, .int .i64 p, .int .i64 2, .int .i64 0, .int .i64 0, .int .i64 (t : Int)] 26)) a_5.out)).trans rfl
    have L8_0 : (u5.alloc (.cells #[.int .i64 b, .int .i64 c, .int .i64 d, .int .i64 m0, .int .i64 m1, .int .i64 m2, .int .i64 p, .int .i64 2, .int .i64 0, .int .i64 0, .int .i64 (t : Int)] 26)).cell? ⟨u3.heap.size, 0, none⟩ = some (.int .i64 b) := (cellsB (i := 0) (alc (o := (.cells #[.int .i64 b, .int .i64 c, .int .i64 d, .int .i64 m0, .int .i64 m1, .int .i64 m2, .int .i64 p, .int .i64 2, .int .i64 0, .int .i64 0, .int .i64 (t : Int)] 26)) y1_5.out)).trans rfl
    have L8_1 : (u5.alloc (.cells #[.int .i64 b, .int .i64 c, .int .i64 d, .int .i64 m0, .int .i64 m1, .int .i64 m2, .int .i64 p, .int .i64 2, .int .i64 0, .int .i64 0, .int .i64 (t : Int)] 26)).cell? ⟨u3.heap.size, 1, none⟩ = some (.int .i64 c) := (cellsB (i := 1) (alc (o := (.cells #[.int .i64 b, .int .i64 c, .int .i64 d, .int .i64 m0, .int .i64 m1, .int .i64 m2, .int .i64 p, .int .i64 2, .int .i64 0, .int .i64 0, .int .i64 (t : Int)] 26)) y1_5.out)).trans rfl
    have L8_2 : (u5.alloc (.cells #[.int .i64 b, .int .i64 c, .int .i64 d, .int .i64 m0, .int .i64 m1, .int .i64 m2, .int .i64 p, .int .i64 2, .int .i64 0, .int .i64 0, .int .i64 (t : Int)] 26)).cell? ⟨u3.heap.size, 2, none⟩ = some (.int .i64 d) := (cellsB (i := 2) (alc (o := (.cells #[.int .i64 b, .int .i64 c, .int .i64 d, .int .i64 m0, .int .i64 m1, .int .i64 m2, .int .i64 p, .int .i64 2, .int .i64 0, .int .i64 0, .int .i64 (t : Int)] 26)) y1_5.out)).trans rfl
    have L8_3 : (u5.alloc (.cells #[.int .i64 b, .int .i64 c, .int .i64 d, .int .i64 m0, .int .i64 m1, .int .i64 m2, .int .i64 p, .int .i64 2, .int .i64 0, .int .i64 0, .int .i64 (t : Int)] 26)).cell? ⟨u3.heap.size, 3, none⟩ = some (.int .i64 m0) := (cellsB (i := 3) (alc (o := (.cells #[.int .i64 b, .int .i64 c, .int .i64 d, .int .i64 m0, .int .i64 m1, .int .i64 m2, .int .i64 p, .int .i64 2, .int .i64 0, .int .i64 0, .int .i64 (t : Int)] 26)) y1_5.out)).trans rfl
    have L8_4 : (u5.alloc (.cells #[.int .i64 b, .int .i64 c, .int .i64 d, .int .i64 m0, .int .i64 m1, .int .i64 m2, .int .i64 p, .int .i64 2, .int .i64 0, .int .i64 0, .int .i64 (t : Int)] 26)).cell? ⟨u3.heap.size, 4, none⟩ = some (.int .i64 m1) := (cellsB (i := 4) (alc (o := (.cells #[.int .i64 b, .int .i64 c, .int .i64 d, .int .i64 m0, .int .i64 m1, .int .i64 m2, .int .i64 p, .int .i64 2, .int .i64 0, .int .i64 0, .int .i64 (t : Int)] 26)) y1_5.out)).trans rfl
    have L8_5 : (u5.alloc (.cells #[.int .i64 b, .int .i64 c, .int .i64 d, .int .i64 m0, .int .i64 m1, .int .i64 m2, .int .i64 p, .int .i64 2, .int .i64 0, .int .i64 0, .int .i64 (t : Int)] 26)).cell? ⟨u3.heap.size, 5, none⟩ = some (.int .i64 m2) := (cellsB (i := 5) (alc (o := (.cells #[.int .i64 b, .int .i64 c, .int .i64 d, .int .i64 m0, .int .i64 m1, .int .i64 m2, .int .i64 p, .int .i64 2, .int .i64 0, .int .i64 0, .int .i64 (t : Int)] 26)) y1_5.out)).trans rfl
    have L8_6 : (u5.alloc (.cells #[.int .i64 b, .int .i64 c, .int .i64 d, .int .i64 m0, .int .i64 m1, .int .i64 m2, .int .i64 p, .int .i64 2, .int .i64 0, .int .i64 0, .int .i64 (t : Int)] 26)).cell? ⟨u3.heap.size, 6, none⟩ = some (.int .i64 p) := (cellsB (i := 6) (alc (o := (.cells #[.int .i64 b, .int .i64 c, .int .i64 d, .int .i64 m0, .int .i64 m1, .int .i64 m2, .int .i64 p, .int .i64 2, .int .i64 0, .int .i64 0, .int .i64 (t : Int)] 26)) y1_5.out)).trans rfl
    have L8_7 : (u5.alloc (.cells #[.int .i64 b, .int .i64 c, .int .i64 d, .int .i64 m0, .int .i64 m1, .int .i64 m2, .int .i64 p, .int .i64 2, .int .i64 0, .int .i64 0, .int .i64 (t : Int)] 26)).cell? ⟨u3.heap.size, 7, none⟩ = some (.int .i64 2) := (cellsB (i := 7) (alc (o := (.cells #[.int .i64 b, .int .i64 c, .int .i64 d, .int .i64 m0, .int .i64 m1, .int .i64 m2, .int .i64 p, .int .i64 2, .int .i64 0, .int .i64 0, .int .i64 (t : Int)] 26)) y1_5.out)).trans rfl
    have L8_8 : (u5.alloc (.cells #[.int .i64 b, .int .i64 c, .int .i64 d, .int .i64 m0, .int .i64 m1, .int .i64 m2, .int .i64 p, .int .i64 2, .int .i64 0, .int .i64 0, .int .i64 (t : Int)] 26)).cell? ⟨u3.heap.size, 8, none⟩ = some (.int .i64 0) := (cellsB (i := 8) (alc (o := (.cells #[.int .i64 b, .int .i64 c, .int .i64 d, .int .i64 m0, .int .i64 m1, .int .i64 m2, .int .i64 p, .int .i64 2, .int .i64 0, .int .i64 0, .int .i64 (t : Int)] 26)) y1_5.out)).trans rfl
    have L8_9 : (u5.alloc (.cells #[.int .i64 b, .int .i64 c, .int .i64 d, .int .i64 m0, .int .i64 m1, .int .i64 m2, .int .i64 p, .int .i64 2, .int .i64 0, .int .i64 0, .int .i64 (t : Int)] 26)).cell? ⟨u3.heap.size, 9, none⟩ = some (.int .i64 0) := (cellsB (i := 9) (alc (o := (.cells #[.int .i64 b, .int .i64 c, .int .i64 d, .int .i64 m0, .int .i64 m1, .int .i64 m2, .int .i64 p, .int .i64 2, .int .i64 0, .int .i64 0, .int .i64 (t : Int)] 26)) y1_5.out)).trans rfl
    have L8_10 : (u5.alloc (.cells #[.int .i64 b, .int .i64 c, .int .i64 d, .int .i64 m0, .int .i64 m1, .int .i64 m2, .int .i64 p, .int .i64 2, .int .i64 0, .int .i64 0, .int .i64 (t : Int)] 26)).cell? ⟨u3.heap.size, 10, none⟩ = some (.int .i64 (t : Int)) := (cellsB (i := 10) (alc (o := (.cells #[.int .i64 b, .int .i64 c, .int .i64 d, .int .i64 m0, .int .i64 m1, .int .i64 m2, .int .i64 p, .int .i64 2, .int .i64 0, .int .i64 0, .int .i64 (t : Int)] 26)) y1_5.out)).trans rfl
    have L9_0 : (u5.alloc (.cells #[.int .i64 b, .int .i64 c, .int .i64 d, .int .i64 m0, .int .i64 m1, .int .i64 m2, .int .i64 p, .int .i64 2, .int .i64 0, .int .i64 0, .int .i64 (t : Int)] 26)).cell? ⟨u4.heap.size, 0, none⟩ = some (.int .i64 b) := (cellsB (i := 0) (alc (o := (.cells #[.int .i64 b, .int .i64 c, .int .i64 d, .int .i64 m0, .int .i64 m1, .int .i64 m2, .int .i64 p, .int .i64 2, .int .i64 0, .int .i64 0, .int .i64 (t : Int)] 26)) y2_5.out)).trans rfl
    have L9_1 : (u5.alloc (.cells #[.int .i64 b, .int .i64 c, .int .i64 d, .int .i64 m0, .int .i64 m1, .int .i64 m2, .int .i64 p, .int .i64 2, .int .i64 0, .int .i64 0, .int .i64 (t : Int)] 26)).cell? ⟨u4.heap.size, 1, none⟩ = some (.int .i64 c) := (cellsB (i := 1) (alc (o := (.cells #[.int .i64 b, .int .i64 c, .int .i64 d, .int .i64 m0, .int .i64 m1, .int .i64 m2, .int .i64 p, .int .i64 2, .int .i64 0, .int .i64 0, .int .i64 (t : Int)] 26)) y2_5.out)).trans rfl
    have L9_2 : (u5.alloc (.cells #[.int .i64 b, .int .i64 c, .int .i64 d, .int .i64 m0, .int .i64 m1, .int .i64 m2, .int .i64 p, .int .i64 2, .int .i64 0, .int .i64 0, .int .i64 (t : Int)] 26)).cell? ⟨u4.heap.size, 2, none⟩ = some (.int .i64 d) := (cellsB (i := 2) (alc (o := (.cells #[.int .i64 b, .int .i64 c, .int .i64 d, .int .i64 m0, .int .i64 m1, .int .i64 m2, .int .i64 p, .int .i64 2, .int .i64 0, .int .i64 0, .int .i64 (t : Int)] 26)) y2_5.out)).trans rfl
    have L9_3 : (u5.alloc (.cells #[.int .i64 b, .int .i64 c, .int .i64 d, .int .i64 m0, .int .i64 m1, .int .i64 m2, .int .i64 p, .int .i64 2, .int .i64 0, .int .i64 0, .int .i64 (t : Int)] 26)).cell? ⟨u4.heap.size, 3, none⟩ = some (.int .i64 m0) := (cellsB (i := 3) (alc (o := (.cells #[.int .i64 b, .int .i64 c, .int .i64 d, .int .i64 m0, .int .i64 m1, .int .i64 m2, .int .i64 p, .int .i64 2, .int .i64 0, .int .i64 0, .int .i64 (t : Int)] 26)) y2_5.out)).trans rfl
    have L9_4 : (u5.alloc (.cells #[.int .i64 b, .int .i64 c, .int .i64 d, .int .i64 m0, .int .i64 m1, .int .i64 m2, .int .i64 p, .int .i64 2, .int .i64 0, .int .i64 0, .int .i64 (t : Int)] 26)).cell? ⟨u4.heap.size, 4, none⟩ = some (.int .i64 m1) := (cellsB (i := 4) (alc (o := (.cells #[.int .i64 b, .int .i64 c, .int .i64 d, .int .i64 m0, .int .i64 m1, .int .i64 m2, .int .i64 p, .int .i64 2, .int .i64 0, .int .i64 0, .int .i64 (t : Int)] 26)) y2_5.out)).trans rfl
    have L9_5 : (u5.alloc (.cells #[.int .i64 b, .int .i64 c, .int .i64 d, .int .i64 m0, .int .i64 m1, .int .i64 m2, .int .i64 p, .int .i64 2, .int .i64 0, .int .i64 0, .int .i64 (t : Int)] 26)).cell? ⟨u4.heap.size, 5, none⟩ = some (.int .i64 m2) := (cellsB (i := 5) (alc (o := (.cells #[.int .i64 b, .int .i64 c, .int .i64 d, .int .i64 m0, .int .i64 m1, .int .i64 m2, .int .i64 p, .int .i64 2, .int .i64 0, .int .i64 0, .int .i64 (t : Int)] 26)) y2_5.out)).trans rfl
    have L9_6 : (u5.alloc (.cells #[.int .i64 b, .int .i64 c, .int .i64 d, .int .i64 m0, .int .i64 m1, .int .i64 m2, .int .i64 p, .int .i64 2, .int .i64 0, .int .i64 0, .int .i64 (t : Int)] 26)).cell? ⟨u4.heap.size, 6, none⟩ = some (.int .i64 p) := (cellsB (i := 6) (alc (o := (.cells #[.int .i64 b, .int .i64 c, .int .i64 d, .int .i64 m0, .int .i64 m1, .int .i64 m2, .int .i64 p, .int .i64 2, .int .i64 0, .int .i64 0, .int .i64 (t : Int)] 26)) y2_5.out)).trans rfl
    have L9_7 : (u5.alloc (.cells #[.int .i64 b, .int .i64 c, .int .i64 d, .int .i64 m0, .int .i64 m1, .int .i64 m2, .int .i64 p, .int .i64 2, .int .i64 0, .int .i64 0, .int .i64 (t : Int)] 26)).cell? ⟨u4.heap.size, 7, none⟩ = some (.int .i64 2) := (cellsB (i := 7) (alc (o := (.cells #[.int .i64 b, .int .i64 c, .int .i64 d, .int .i64 m0, .int .i64 m1, .int .i64 m2, .int .i64 p, .int .i64 2, .int .i64 0, .int .i64 0, .int .i64 (t : Int)] 26)) y2_5.out)).trans rfl
    have L9_8 : (u5.alloc (.cells #[.int .i64 b, .int .i64 c, .int .i64 d, .int .i64 m0, .int .i64 m1, .int .i64 m2, .int .i64 p, .int .i64 2, .int .i64 0, .int .i64 0, .int .i64 (t : Int)] 26)).cell? ⟨u4.heap.size, 8, none⟩ = some (.int .i64 0) := (cellsB (i := 8) (alc (o := (.cells #[.int .i64 b, .int .i64 c, .int .i64 d, .int .i64 m0, .int .i64 m1, .int .i64 m2, .int .i64 p, .int .i64 2, .int .i64 0, .int .i64 0, .int .i64 (t : Int)] 26)) y2_5.out)).trans rfl
    have L9_9 : (u5.alloc (.cells #[.int .i64 b, .int .i64 c, .int .i64 d, .int .i64 m0, .int .i64 m1, .int .i64 m2, .int .i64 p, .int .i64 2, .int .i64 0, .int .i64 0, .int .i64 (t : Int)] 26)).cell? ⟨u4.heap.size, 9, none⟩ = some (.int .i64 0) := (cellsB (i := 9) (alc (o := (.cells #[.int .i64 b, .int .i64 c, .int .i64 d, .int .i64 m0, .int .i64 m1, .int .i64 m2, .int .i64 p, .int .i64 2, .int .i64 0, .int .i64 0, .int .i64 (t : Int)] 26)) y2_5.out)).trans rfl
    have L9_10 : (u5.alloc (.cells #[.int .i64 b, .int .i64 c, .int .i64 d, .int .i64 m0, .int .i64 m1, .int .i64 m2, .int .i64 p, .int .i64 2, .int .i64 0, .int .i64 0, .int .i64 (t : Int)] 26)).cell? ⟨u4.heap.size, 10, none⟩ = some (.int .i64 (t : Int)) := (cellsB (i := 10) (alc (o := (.cells #[.int .i64 b, .int .i64 c, .int .i64 d, .int .i64 m0, .int .i64 m1, .int .i64 m2, .int .i64 p, .int .i64 2, .int .i64 0, .int .i64 0, .int .i64 (t : Int)] 26)) y2_5.out)).trans rfl
    go_wp2_with fail
    refine (H8.out _).mono ?_
    rintro e u6 ⟨rfl, q⟩
    have s_6 := Lib.hid (blk1 s_5.out q)
    have a_6 := Lib.hid (blk1 a_5.out q)
    have y1_6 := Lib.hid (blk1 y1_5.out q)
    have y2_6 := Lib.hid (blk1 y2_5.out q)
    have y3_6 := Lib.hid (new1 q)
    have B6 := Lib.hid (bel1 B5.out B5.out.size q)
    clear q s_5 a_5 y1_5 y2_5 B5
    clear L6_0 L6_1 L6_2 L6_3 L6_4 L6_5 L6_6 L6_7 L6_8 L6_9 L6_10 L7_0 L7_1 L7_2 L7_3 L7_4 L7_5 L8_0 L8_1 L8_2 L8_3 L8_4 L8_5 L8_6 L8_7 L8_8 L8_9 L8_10 L9_0 L9_1 L9_2 L9_3 L9_4 L9_5 L9_6 L9_7 L9_8 L9_9 L9_10
    clear a_6
    clear y1_6
    clear y2_6
    clear y3_6
    have L10_0 : u6.cell? ⟨w2.heap.size, 0, none⟩ = some (.int .i64 b) := (cellsB (i := 0) s_6.out).trans rfl
    have F10_0 : u6.frozen? ⟨w2.heap.size, 0, none⟩ = false := frozB s_6.out
    have L10_1 : u6.cell? ⟨w2.heap.size, 1, none⟩ = some (.int .i64 c) := (cellsB (i := 1) s_6.out).trans rfl
    have F10_1 : u6.frozen? ⟨w2.heap.size, 1, none⟩ = false := frozB s_6.out
    have L10_2 : u6.cell? ⟨w2.heap.size, 2, none⟩ = some (.int .i64 d) := (cellsB (i := 2) s_6.out).trans rfl
    have F10_2 : u6.frozen? ⟨w2.heap.size, 2, none⟩ = false := frozB s_6.out
    have L10_3 : u6.cell? ⟨w2.heap.size, 3, none⟩ = some (.int .i64 m0) := (cellsB (i := 3) s_6.out).trans rfl
    have F10_3 : u6.frozen? ⟨w2.heap.size, 3, none⟩ = false := frozB s_6.out
    have L10_4 : u6.cell? ⟨w2.heap.size, 4, none⟩ = some (.int .i64 m1) := (cellsB (i := 4) s_6.out).trans rfl
    have F10_4 : u6.frozen? ⟨w2.heap.size, 4, none⟩ = false := frozB s_6.out
    have L10_5 : u6.cell? ⟨w2.heap.size, 5, none⟩ = some (.int .i64 m2) := (cellsB (i := 5) s_6.out).trans rfl
    have F10_5 : u6.frozen? ⟨w2.heap.size, 5, none⟩ = false := frozB s_6.out
    have L10_6 : u6.cell? ⟨w2.heap.size, 6, none⟩ = some (.int .i64 p) := (cellsB (i := 6) s_6.out).trans rfl
    have F10_6 : u6.frozen? ⟨w2.heap.size, 6, none⟩ = false := frozB s_6.out
    have L10_7 : u6.cell? ⟨w2.heap.size, 7, none⟩ = some (.int .i64 2) := (cellsB (i := 7) s_6.out).trans rfl
    have F10_7 : u6.frozen? ⟨w2.heap.size, 7, none⟩ = false := frozB s_6.out
    have L10_8 : u6.cell? ⟨w2.heap.size, 8, none⟩ = some (.int .i64 0) := (cellsB (i := 8) s_6.out).trans rfl
    have F10_8 : u6.frozen? ⟨w2.heap.size, 8, none⟩ = false := frozB s_6.out
    have L10_9 : u6.cell? ⟨w2.heap.size, 9, none⟩ = some (.int .i64 0) := (cellsB (i := 9) s_6.out).trans rfl
    have F10_9 : u6.frozen? ⟨w2.heap.size, 9, none⟩ = false := frozB s_6.out
    have L10_10 : u6.cell? ⟨w2.heap.size, 10, none⟩ = some (.int .i64 (t : Int)) := (cellsB (i := 10) s_6.out).trans rfl
    have F10_10 : u6.frozen? ⟨w2.heap.size, 10, none⟩ = false := frozB s_6.out
    have ss11 : Hid ((st11 u6 w2.heap.size (.int .i64 b) (.int .i64 c) (.int .i64 d) (.int .i64 m0) (.int .i64 m1) (.int .i64 m2) (.int .i64 p) (.int .i64 4) (.int .i64 0) (.int .i64 0) (.int .i64 (t : Int))).heap[w2.heap.size]? = some (.cells #[.int .i64 b, .int .i64 c, .int .i64 d, .int .i64 m0, .int .i64 m1, .int .i64 m2, .int .i64 p, .int .i64 4, .int .i64 0, .int .i64 0, .int .i64 (t : Int)] 26 (0, 0))) := Lib.hid (st11_at s_6.out)
    have Bs11 : Hid (Below w.heap.size w (st11 u6 w2.heap.size (.int .i64 b) (.int .i64 c) (.int .i64 d) (.int .i64 m0) (.int .i64 m1) (.int .i64 m2) (.int .i64 p) (.int .i64 4) (.int .i64 0) (.int .i64 0) (.int .i64 (t : Int)))) := Lib.hid (st11_below B6.out (by omega))
    unfold st11 at ss11 Bs11
    have B6 := Bs11
    go_wp2_with fail
    refine (H9.out _).mono ?_
    rintro e u7 ⟨rfl, q⟩
    have s_7 := Lib.hid (blk0 ss11.out q)
    have B7 := Lib.hid (bel0 B6.out B6.out.size q)
    clear q ss11 B6
    clear L10_0 F10_0 L10_1 F10_1 L10_2 F10_2 L10_3 F10_3 L10_4 F10_4 L10_5 F10_5 L10_6 F10_6 L10_7 F10_7 L10_8 F10_8 L10_9 F10_9 L10_10 F10_10
    go_wp2_with fail
    refine (T.out _).mono ?_
    rintro e u8 ⟨rfl, q⟩
    have s_8 := Lib.hid (blk1 s_7.out q)
    have y4_8 := Lib.hid (new1 q)
    have B8 := Lib.hid (bel1 B7.out B7.out.size q)
    clear q s_7 B7
    have L12_0 : u8.cell? ⟨w2.heap.size, 0, none⟩ = some (.int .i64 b) := (cellsB (i := 0) s_8.out).trans rfl
    have L12_1 : u8.cell? ⟨w2.heap.size, 1, none⟩ = some (.int .i64 c) := (cellsB (i := 1) s_8.out).trans rfl
    have L12_2 : u8.cell? ⟨w2.heap.size, 2, none⟩ = some (.int .i64 d) := (cellsB (i := 2) s_8.out).trans rfl
    have L12_3 : u8.cell? ⟨w2.heap.size, 3, none⟩ = some (.int .i64 m0) := (cellsB (i := 3) s_8.out).trans rfl
    have L12_4 : u8.cell? ⟨w2.heap.size, 4, none⟩ = some (.int .i64 m1) := (cellsB (i := 4) s_8.out).trans rfl
    have L12_5 : u8.cell? ⟨w2.heap.size, 5, none⟩ = some (.int .i64 m2) := (cellsB (i := 5) s_8.out).trans rfl
    have L12_6 : u8.cell? ⟨w2.heap.size, 6, none⟩ = some (.int .i64 p) := (cellsB (i := 6) s_8.out).trans rfl
    have L12_7 : u8.cell? ⟨w2.heap.size, 7, none⟩ = some (.int .i64 4) := (cellsB (i := 7) s_8.out).trans rfl
    have L12_8 : u8.cell? ⟨w2.heap.size, 8, none⟩ = some (.int .i64 0) := (cellsB (i := 8) s_8.out).trans rfl
    have L12_9 : u8.cell? ⟨w2.heap.size, 9, none⟩ = some (.int .i64 0) := (cellsB (i := 9) s_8.out).trans rfl
    have L12_10 : u8.cell? ⟨w2.heap.size, 10, none⟩ = some (.int .i64 (t : Int)) := (cellsB (i := 10) s_8.out).trans rfl
    go_wp2_with fail
    refine (H10.out _).mono ?_
    rintro e u9 ⟨rfl, q⟩
    have s_9 := Lib.hid (blk0 s_8.out q)
    have y4_9 := Lib.hid (blk0 y4_8.out q)
    have B9 := Lib.hid (bel0 B8.out B8.out.size q)
    clear q s_8 y4_8 B8
    clear L12_0 L12_1 L12_2 L12_3 L12_4 L12_5 L12_6 L12_7 L12_8 L12_9 L12_10
    have L13_0 : u9.cell? ⟨w2.heap.size, 0, none⟩ = some (.int .i64 b) := (cellsB (i := 0) s_9.out).trans rfl
    have L13_1 : u9.cell? ⟨w2.heap.size, 1, none⟩ = some (.int .i64 c) := (cellsB (i := 1) s_9.out).trans rfl
    have L13_2 : u9.cell? ⟨w2.heap.size, 2, none⟩ = some (.int .i64 d) := (cellsB (i := 2) s_9.out).trans rfl
    have L13_3 : u9.cell? ⟨w2.heap.size, 3, none⟩ = some (.int .i64 m0) := (cellsB (i := 3) s_9.out).trans rfl
    have L13_4 : u9.cell? ⟨w2.heap.size, 4, none⟩ = some (.int .i64 m1) := (cellsB (i := 4) s_9.out).trans rfl
    have L13_5 : u9.cell? ⟨w2.heap.size, 5, none⟩ = some (.int .i64 m2) := (cellsB (i := 5) s_9.out).trans rfl
    have L13_6 : u9.cell? ⟨w2.heap.size, 6, none⟩ = some (.int .i64 p) := (cellsB (i := 6) s_9.out).trans rfl
    have L13_7 : u9.cell? ⟨w2.heap.size, 7, none⟩ = some (.int .i64 4) := (cellsB (i := 7) s_9.out).trans rfl
    have L13_8 : u9.cell? ⟨w2.heap.size, 8, none⟩ = some (.int .i64 0) := (cellsB (i := 8) s_9.out).trans rfl
    have L13_9 : u9.cell? ⟨w2.heap.size, 9, none⟩ = some (.int .i64 0) := (cellsB (i := 9) s_9.out).trans rfl
    have L13_10 : u9.cell? ⟨w2.heap.size, 10, none⟩ = some (.int .i64 (t : Int)) := (cellsB (i := 10) s_9.out).trans rfl
    go_wp2_with fail
    refine (H11.out _).mono ?_
    rintro e u10 ⟨rfl, q⟩
    have s_10 := Lib.hid (blk0 s_9.out q)
    have y4_10 := Lib.hid (blk0 y4_9.out q)
    have B10 := Lib.hid (bel0 B9.out B9.out.size q)
    clear q s_9 y4_9 B9
    clear L13_0 L13_1 L13_2 L13_3 L13_4 L13_5 L13_6 L13_7 L13_8 L13_9 L13_10
    have L14_0 : u10.cell? ⟨w2.heap.size, 0, none⟩ = some (.int .i64 b) := (cellsB (i := 0) s_10.out).trans rfl
    have L14_1 : u10.cell? ⟨w2.heap.size, 1, none⟩ = some (.int .i64 c) := (cellsB (i := 1) s_10.out).trans rfl
    have L14_2 : u10.cell? ⟨w2.heap.size, 2, none⟩ = some (.int .i64 d) := (cellsB (i := 2) s_10.out).trans rfl
    have L14_3 : u10.cell? ⟨w2.heap.size, 3, none⟩ = some (.int .i64 m0) := (cellsB (i := 3) s_10.out).trans rfl
    have L14_4 : u10.cell? ⟨w2.heap.size, 4, none⟩ = some (.int .i64 m1) := (cellsB (i := 4) s_10.out).trans rfl
    have L14_5 : u10.cell? ⟨w2.heap.size, 5, none⟩ = some (.int .i64 m2) := (cellsB (i := 5) s_10.out).trans rfl
    have L14_6 : u10.cell? ⟨w2.heap.size, 6, none⟩ = some (.int .i64 p) := (cellsB (i := 6) s_10.out).trans rfl
    have L14_7 : u10.cell? ⟨w2.heap.size, 7, none⟩ = some (.int .i64 4) := (cellsB (i := 7) s_10.out).trans rfl
    have L14_8 : u10.cell? ⟨w2.heap.size, 8, none⟩ = some (.int .i64 0) := (cellsB (i := 8) s_10.out).trans rfl
    have L14_9 : u10.cell? ⟨w2.heap.size, 9, none⟩ = some (.int .i64 0) := (cellsB (i := 9) s_10.out).trans rfl
    have L14_10 : u10.cell? ⟨w2.heap.size, 10, none⟩ = some (.int .i64 (t : Int)) := (cellsB (i := 10) s_10.out).trans rfl
    go_wp2
    go_ret
    exact ⟨rfl, B10.out⟩
theorem whole_walk (x : W7) (now : Int) (w : World) : Calls Try.prog 6 #[x.val, .int .i64 now] w fun e w' => e = .returned (.bool true) ∧ Below w.heap.size w w' := by
  by_cases h : MayW x
  · exact whole_may x now w h
  · exact whole_not x now w h
end Go.Proofs.Ytplgodfhhlnojaa
