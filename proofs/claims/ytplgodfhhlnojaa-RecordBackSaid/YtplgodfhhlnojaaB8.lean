/- WGetO1, WPureO, WGetO2, merged. -/
import Derived.Test.YtplgodfhhlnojaaB5
set_option linter.unusedSimpArgs false
set_option linter.unusedVariables false
/- want.get, walked (O). -/
namespace Go.Proofs.Ytplgodfhhlnojaa
open Go.RowKit
/-- What GetOp tells of bytes. -/
def gO (l : List UInt8) : O5 × Int := if rEnd (rO (some l)).2 = 0 ∧ MayO (rO (some l)).1 ∧ encO (rO (some l)).1 = l then ((rO (some l)).1, 0) else (⟨0, 0, 0, 0, 0⟩, 2)
theorem rO_in (s : Rs) : ∀ z ∈ O5.list (rO s).1, In64 z := by
  intro z hz
  unfold rO O5.list at hz
  simp only [List.mem_cons, List.not_mem_nil, or_false] at hz
  rcases hz with rfl | rfl | rfl | rfl | rfl <;> exact rS_in _
def PO (w : World) (y : O5) (k : Int) (e : Ending) (w' : World) : Prop := e = .returned (.tuple #[y.val, .int .i64 k]) ∧ Below w.heap.size w w'
def GO (w : World) (l : List UInt8) : Ending → World → Prop := PO w (gO l).1 (gO l).2
set_option maxRecDepth 100000 in
set_option maxHeartbeats 8000000 in
theorem getO_c (A : Option Addr) (n c : Nat) (l : List UInt8) (w : World) (hr : Rd w w.heap.size 1 A n (B8 l)) (hn : n ≤ 100000000) :
    Calls Try.prog 116 #[.slice A n c, .func (.func 117) #[] #[], .func (.func 90) #[] #[]] w (GO w l) := by
  have HL := Lib.hid hr
  clear hr
  have HF := Lib.hid (rO_in (some l))
  unfold GO
  obtain ⟨y, kk, hy⟩ : ∃ y kk, gO l = (y, kk) := ⟨_, _, rfl⟩
  rw [hy]
  unfold gO at hy
  obtain ⟨x, s', hx⟩ : ∃ x s', rO (some l) = (x, s') := ⟨_, _, rfl⟩
  rw [hx] at HF hy
  simp only at HF hy ⊢
  have HX := Lib.hid hx
  have HY := Lib.hid hy
  clear hx hy
  go_enter Try.func116, Try.ntmps116
  go_wp2_with fail
  refine (new_c A n c l _ (((HL.out.alloc (Nat.le_refl _) _).alloc (by simp) _).more (by first | (simp; done) | (simp; omega))) (by omega)).mono ?_
  rintro e w1 ⟨g, rfl, hg, q1, b1⟩
  have hR := (b1.block w.heap.size (by simp; omega)).trans ((Below.heap_alloc _ _ _ (by simp)).trans (heap_alloc_new w (.cells #[.int .i64 0, .int .i64 0, .int .i64 0, .int .i64 0, .int .i64 0] 28)))
  have hN := (b1.block (w.heap.size + 1) (by simp)).trans (show ((w.alloc (.cells #[.int .i64 0, .int .i64 0, .int .i64 0, .int .i64 0, .int .i64 0] 28)).alloc (.cells #[.int .i64 0, .int .i64 0, .int .i64 0, .int .i64 0, .int .i64 0] 28)).heap[w.heap.size + 1]? = some (.cells #[.int .i64 0, .int .i64 0, .int .i64 0, .int .i64 0, .int .i64 0] 28 (0, 0)) from by rw [show w.heap.size + 1 = (w.alloc (.cells #[.int .i64 0, .int .i64 0, .int .i64 0, .int .i64 0, .int .i64 0] 28)).heap.size from by simp]; exact heap_alloc_new _ _)
  have hz1 : w.heap.size + 2 ≤ w1.heap.size := by have := b1.size; simpa using this
  have hg2 : w.heap.size + 2 ≤ g := by simpa using hg
  have B1 := Lib.hid (show Below w.heap.size w w1 from (((Below.refl _ _).alloc (Nat.le_refl _) _).alloc (by simp) _).trans (b1.mono (by simp; omega)))
  have HR1 := Lib.hid hR
  have HN1 := Lib.hid hN
  have Q1 := Lib.hid q1
  have hgl := q1.lt
  clear q1 b1 hR hN hg
  have HRD := Lib.hid (by have := get1O_c g (some l) w1 w1.heap.size Q1.out (Nat.le_refl _); rw [HX.out] at this; unfold RPost O5.val at this; exact this)
  go_wp2_with fail
  refine HRD.out.mono ?_
  rintro e w2 ⟨rfl, q2, g2⟩
  have hz2 := g2.size
  have Q2 := Lib.hid q2
  have B2 := Lib.hid (B1.out.trans (only_lt g2 B1.out.size (by omega)))
  have HR2 := Lib.hid ((g2.block w.heap.size (by omega) (by intro e; injection e with e; omega)).trans HR1.out)
  have HN2 := Lib.hid ((g2.block (w.heap.size + 1) (by omega) (by intro e; injection e with e; omega)).trans HN1.out)
  clear q2 g2 HRD
  have hlt2 : w.heap.size < w2.heap.size := by omega
  by_cases hm : MayO x
  · have HM := Lib.hid hm
    clear hm
    have HPUT := Lib.hid (fun W => encO_yes x W HM.out HF.out)
    unfold O5.val RBy at HPUT
    go_wp2_with fail
    refine (HPUT.out _).mono ?_
    rintro e w3 ⟨v3, rfl, q3, b3⟩
    obtain ⟨A3, c3, rfl, hc3, _, r3⟩ := q3.form
    have R3 := Lib.hid r3
    have R0 := Lib.hid (HL.out.below (show Below w.heap.size w w3 from (B2.out.alloc (by omega) _).trans (b3.mono (by simp; omega))))
    clear q3 r3
    have hzz : w2.heap.size + 1 ≤ w3.heap.size := by have := b3.size; simpa using this
    have HR3 := Lib.hid ((b3.block w.heap.size (by simp; omega)).trans ((Below.heap_alloc _ _ _ (by omega)).trans HR2.out))
    have HN3 := Lib.hid ((b3.block (w.heap.size + 1) (by simp; omega)).trans ((Below.heap_alloc _ _ _ (by omega)).trans HN2.out))
    have HX3 := Lib.hid ((b3.block w2.heap.size (by simp)).trans (heap_alloc_new w2 _))
    have B3 := Lib.hid ((B2.out.alloc (by omega) _).trans (b3.mono (by simp; omega)))
    have Q3 := Lib.hid ((Q2.out.alloc (by omega) _).below (b3.mono (by simp; omega)))
    clear b3
    have hl3 : w.heap.size < w3.heap.size := by omega
    by_cases he : rEnd s' = 0
    · have HE := Lib.hid he
      by_cases hq : encO x = l
      · have HQ := Lib.hid hq
        clear he hq
        go_wp2_with fail
        refine (rend_is Q3.out (v := 0) HE.out).mono ?_
        rintro e w' ⟨rfl, rfl⟩
        go_wp2_with fail
        refine (equal_c A3 A _ n c3 c (encO x) l _ _ _ R3.out R0.out (by have := encs_le (O5.list x); unfold encO; simp [O5.list] at *; omega) (by omega) true (decide_eq_true HQ.out)).mono ?_
        rintro e w4 ⟨rfl, nq, rfl⟩
        have z0 : w3.cell? ⟨w.heap.size, 0, none⟩ = some (.int .i64 0) := by rw [cellsAt HR3.out]; rfl
        have y0 : w3.frozen? ⟨w.heap.size, 0, none⟩ = false := free0 HR3.out
        have d0 : w3.cell? ⟨w2.heap.size, 0, none⟩ = some (.int .i64 x.kind) := by rw [cellsAt HX3.out]; rfl
        have z1 : w3.cell? ⟨w.heap.size, 1, none⟩ = some (.int .i64 0) := by rw [cellsAt HR3.out]; rfl
        have y1 : w3.frozen? ⟨w.heap.size, 1, none⟩ = false := free0 HR3.out
        have d1 : w3.cell? ⟨w2.heap.size, 1, none⟩ = some (.int .i64 x.book) := by rw [cellsAt HX3.out]; rfl
        have z2 : w3.cell? ⟨w.heap.size, 2, none⟩ = some (.int .i64 0) := by rw [cellsAt HR3.out]; rfl
        have y2 : w3.frozen? ⟨w.heap.size, 2, none⟩ = false := free0 HR3.out
        have d2 : w3.cell? ⟨w2.heap.size, 2, none⟩ = some (.int .i64 x.units) := by rw [cellsAt HX3.out]; rfl
        have z3 : w3.cell? ⟨w.heap.size, 3, none⟩ = some (.int .i64 0) := by rw [cellsAt HR3.out]; rfl
        have y3 : w3.frozen? ⟨w.heap.size, 3, none⟩ = false := free0 HR3.out
        have d3 : w3.cell? ⟨w2.heap.size, 3, none⟩ = some (.int .i64 x.cust) := by rw [cellsAt HX3.out]; rfl
        have z4 : w3.cell? ⟨w.heap.size, 4, none⟩ = some (.int .i64 0) := by rw [cellsAt HR3.out]; rfl
        have y4 : w3.frozen? ⟨w.heap.size, 4, none⟩ = false := free0 HR3.out
        have d4 : w3.cell? ⟨w2.heap.size, 4, none⟩ = some (.int .i64 x.amount) := by rw [cellsAt HX3.out]; rfl
        go_wp2
        refine bodyPost_ret (v := .tuple #[.agg #[.int .i64 x.kind, .int .i64 x.book, .int .i64 x.units, .int .i64 x.cust, .int .i64 x.amount], .int .i64 0]) (by simp [results, Try.results116, go_sem, z0, z1, z2, z3, z4]) rfl ?_
        have hy := HY.out
        rw [if_pos ⟨HE.out, HM.out, HQ.out⟩] at hy
        injection hy with hy1 hy2
        subst hy1 hy2
        refine ⟨?_, ?_⟩
        · rfl
        · iterate 5 (refine below_setR ?_ (Nat.le_refl _))
          first | exact B3.out | exact below_drewN B3.out _
      · have HQ := Lib.hid hq
        clear he hq
        go_wp2_with fail
        refine (rend_is Q3.out (v := 0) HE.out).mono ?_
        rintro e w' ⟨rfl, rfl⟩
        go_wp2_with fail
        refine (equal_c A3 A _ n c3 c (encO x) l _ _ _ R3.out R0.out (by have := encs_le (O5.list x); unfold encO; simp [O5.list] at *; omega) (by omega) false (decide_eq_false HQ.out)).mono ?_
        rintro e w4 ⟨rfl, nq, rfl⟩
        have z0 : w3.cell? ⟨w.heap.size, 0, none⟩ = some (.int .i64 0) := by rw [cellsAt HR3.out]; rfl
        have y0 : w3.frozen? ⟨w.heap.size, 0, none⟩ = false := free0 HR3.out
        have d0 : w3.cell? ⟨w.heap.size + 1, 0, none⟩ = some (.int .i64 0) := by rw [cellsAt HN3.out]; rfl
        have z1 : w3.cell? ⟨w.heap.size, 1, none⟩ = some (.int .i64 0) := by rw [cellsAt HR3.out]; rfl
        have y1 : w3.frozen? ⟨w.heap.size, 1, none⟩ = false := free0 HR3.out
        have d1 : w3.cell? ⟨w.heap.size + 1, 1, none⟩ = some (.int .i64 0) := by rw [cellsAt HN3.out]; rfl
        have z2 : w3.cell? ⟨w.heap.size, 2, none⟩ = some (.int .i64 0) := by rw [cellsAt HR3.out]; rfl
        have y2 : w3.frozen? ⟨w.heap.size, 2, none⟩ = false := free0 HR3.out
        have d2 : w3.cell? ⟨w.heap.size + 1, 2, none⟩ = some (.int .i64 0) := by rw [cellsAt HN3.out]; rfl
        have z3 : w3.cell? ⟨w.heap.size, 3, none⟩ = some (.int .i64 0) := by rw [cellsAt HR3.out]; rfl
        have y3 : w3.frozen? ⟨w.heap.size, 3, none⟩ = false := free0 HR3.out
        have d3 : w3.cell? ⟨w.heap.size + 1, 3, none⟩ = some (.int .i64 0) := by rw [cellsAt HN3.out]; rfl
        have z4 : w3.cell? ⟨w.heap.size, 4, none⟩ = some (.int .i64 0) := by rw [cellsAt HR3.out]; rfl
        have y4 : w3.frozen? ⟨w.heap.size, 4, none⟩ = false := free0 HR3.out
        have d4 : w3.cell? ⟨w.heap.size + 1, 4, none⟩ = some (.int .i64 0) := by rw [cellsAt HN3.out]; rfl
        go_wp2
        refine bodyPost_ret (v := .tuple #[.agg #[.int .i64 0, .int .i64 0, .int .i64 0, .int .i64 0, .int .i64 0], .int .i64 2]) (by simp [results, Try.results116, go_sem, z0, z1, z2, z3, z4]) rfl ?_
        have hy := HY.out
        rw [if_neg (fun h => HQ.out h.2.2)] at hy
        injection hy with hy1 hy2
        subst hy1 hy2
        refine ⟨?_, ?_⟩
        · rfl
        · iterate 5 (refine below_setR ?_ (Nat.le_refl _))
          first | exact B3.out | exact below_drewN B3.out _
    · have HE := Lib.hid he
      obtain ⟨ve, hve⟩ : ∃ v, rEnd s' = v := ⟨_, rfl⟩
      have hvn : (ve == 0) = false := beq_eq_false_iff_ne.2 (by rw [← hve]; exact he)
      have hvn2 : (ve != 0) = true := by unfold bne; rw [hvn]; rfl
      have HVE := Lib.hid hve
      clear he hve
      have z0 : w3.cell? ⟨w.heap.size, 0, none⟩ = some (.int .i64 0) := by rw [cellsAt HR3.out]; rfl
      have y0 : w3.frozen? ⟨w.heap.size, 0, none⟩ = false := free0 HR3.out
      have d0 : w3.cell? ⟨w.heap.size + 1, 0, none⟩ = some (.int .i64 0) := by rw [cellsAt HN3.out]; rfl
      have z1 : w3.cell? ⟨w.heap.size, 1, none⟩ = some (.int .i64 0) := by rw [cellsAt HR3.out]; rfl
      have y1 : w3.frozen? ⟨w.heap.size, 1, none⟩ = false := free0 HR3.out
      have d1 : w3.cell? ⟨w.heap.size + 1, 1, none⟩ = some (.int .i64 0) := by rw [cellsAt HN3.out]; rfl
      have z2 : w3.cell? ⟨w.heap.size, 2, none⟩ = some (.int .i64 0) := by rw [cellsAt HR3.out]; rfl
      have y2 : w3.frozen? ⟨w.heap.size, 2, none⟩ = false := free0 HR3.out
      have d2 : w3.cell? ⟨w.heap.size + 1, 2, none⟩ = some (.int .i64 0) := by rw [cellsAt HN3.out]; rfl
      have z3 : w3.cell? ⟨w.heap.size, 3, none⟩ = some (.int .i64 0) := by rw [cellsAt HR3.out]; rfl
      have y3 : w3.frozen? ⟨w.heap.size, 3, none⟩ = false := free0 HR3.out
      have d3 : w3.cell? ⟨w.heap.size + 1, 3, none⟩ = some (.int .i64 0) := by rw [cellsAt HN3.out]; rfl
      have z4 : w3.cell? ⟨w.heap.size, 4, none⟩ = some (.int .i64 0) := by rw [cellsAt HR3.out]; rfl
      have y4 : w3.frozen? ⟨w.heap.size, 4, none⟩ = false := free0 HR3.out
      have d4 : w3.cell? ⟨w.heap.size + 1, 4, none⟩ = some (.int .i64 0) := by rw [cellsAt HN3.out]; rfl
      go_wp2_with (go_at_call 80; refine (rend_is Q3.out HVE.out).mono ?_; rintro e w' ⟨rfl, rfl⟩)
      refine bodyPost_ret (v := .tuple #[.agg #[.int .i64 0, .int .i64 0, .int .i64 0, .int .i64 0, .int .i64 0], .int .i64 2]) (by simp [results, Try.results116, go_sem, z0, z1, z2, z3, z4]) rfl ?_
      have hy := HY.out
      rw [if_neg (fun h => HE.out h.1)] at hy
      injection hy with hy1 hy2
      subst hy1 hy2
      refine ⟨?_, ?_⟩
      · rfl
      · iterate 5 (refine below_setR ?_ (Nat.le_refl _))
        first | exact B3.out | exact below_drewN B3.out _
  · have HM := Lib.hid hm
    clear hm
    have HPUT := Lib.hid (fun W => encO_no x W HM.out)
    unfold O5.val at HPUT
    go_wp2_with fail
    refine (HPUT.out _).mono ?_
    rintro e w3 ⟨rfl, b3⟩
    have hzz : w2.heap.size + 1 ≤ w3.heap.size := by have := b3.size; simpa using this
    have HR3 := Lib.hid ((b3.block w.heap.size (by simp; omega)).trans ((Below.heap_alloc _ _ _ (by omega)).trans HR2.out))
    have HN3 := Lib.hid ((b3.block (w.heap.size + 1) (by simp; omega)).trans ((Below.heap_alloc _ _ _ (by omega)).trans HN2.out))
    have HX3 := Lib.hid ((b3.block w2.heap.size (by simp)).trans (heap_alloc_new w2 _))
    have B3 := Lib.hid ((B2.out.alloc (by omega) _).trans (b3.mono (by simp; omega)))
    have Q3 := Lib.hid ((Q2.out.alloc (by omega) _).below (b3.mono (by simp; omega)))
    clear b3
    have hl3 : w.heap.size < w3.heap.size := by omega
    by_cases he : rEnd s' = 0
    · have HE := Lib.hid he
      clear he
      have z0 : w3.cell? ⟨w.heap.size, 0, none⟩ = some (.int .i64 0) := by rw [cellsAt HR3.out]; rfl
      have y0 : w3.frozen? ⟨w.heap.size, 0, none⟩ = false := free0 HR3.out
      have d0 : w3.cell? ⟨w.heap.size + 1, 0, none⟩ = some (.int .i64 0) := by rw [cellsAt HN3.out]; rfl
      have z1 : w3.cell? ⟨w.heap.size, 1, none⟩ = some (.int .i64 0) := by rw [cellsAt HR3.out]; rfl
      have y1 : w3.frozen? ⟨w.heap.size, 1, none⟩ = false := free0 HR3.out
      have d1 : w3.cell? ⟨w.heap.size + 1, 1, none⟩ = some (.int .i64 0) := by rw [cellsAt HN3.out]; rfl
      have z2 : w3.cell? ⟨w.heap.size, 2, none⟩ = some (.int .i64 0) := by rw [cellsAt HR3.out]; rfl
      have y2 : w3.frozen? ⟨w.heap.size, 2, none⟩ = false := free0 HR3.out
      have d2 : w3.cell? ⟨w.heap.size + 1, 2, none⟩ = some (.int .i64 0) := by rw [cellsAt HN3.out]; rfl
      have z3 : w3.cell? ⟨w.heap.size, 3, none⟩ = some (.int .i64 0) := by rw [cellsAt HR3.out]; rfl
      have y3 : w3.frozen? ⟨w.heap.size, 3, none⟩ = false := free0 HR3.out
      have d3 : w3.cell? ⟨w.heap.size + 1, 3, none⟩ = some (.int .i64 0) := by rw [cellsAt HN3.out]; rfl
      have z4 : w3.cell? ⟨w.heap.size, 4, none⟩ = some (.int .i64 0) := by rw [cellsAt HR3.out]; rfl
      have y4 : w3.frozen? ⟨w.heap.size, 4, none⟩ = false := free0 HR3.out
      have d4 : w3.cell? ⟨w.heap.size + 1, 4, none⟩ = some (.int .i64 0) := by rw [cellsAt HN3.out]; rfl
      go_wp2_with (go_at_call 80; refine (rend_is Q3.out (v := 0) HE.out).mono ?_; rintro e w' ⟨rfl, rfl⟩)
      refine bodyPost_ret (v := .tuple #[.agg #[.int .i64 0, .int .i64 0, .int .i64 0, .int .i64 0, .int .i64 0], .int .i64 2]) (by simp [results, Try.results116, go_sem, z0, z1, z2, z3, z4]) rfl ?_
      have hy := HY.out
      rw [if_neg (fun h => HM.out h.2.1)] at hy
      injection hy with hy1 hy2
      subst hy1 hy2
      refine ⟨?_, ?_⟩
      · rfl
      · iterate 5 (refine below_setR ?_ (Nat.le_refl _))
        first | exact B3.out | exact below_drewN B3.out _
    · have HE := Lib.hid he
      obtain ⟨ve, hve⟩ : ∃ v, rEnd s' = v := ⟨_, rfl⟩
      have hvn : (ve == 0) = false := beq_eq_false_iff_ne.2 (by rw [← hve]; exact he)
      have hvn2 : (ve != 0) = true := by unfold bne; rw [hvn]; rfl
      have HVE := Lib.hid hve
      clear he hve
      have z0 : w3.cell? ⟨w.heap.size, 0, none⟩ = some (.int .i64 0) := by rw [cellsAt HR3.out]; rfl
      have y0 : w3.frozen? ⟨w.heap.size, 0, none⟩ = false := free0 HR3.out
      have d0 : w3.cell? ⟨w.heap.size + 1, 0, none⟩ = some (.int .i64 0) := by rw [cellsAt HN3.out]; rfl
      have z1 : w3.cell? ⟨w.heap.size, 1, none⟩ = some (.int .i64 0) := by rw [cellsAt HR3.out]; rfl
      have y1 : w3.frozen? ⟨w.heap.size, 1, none⟩ = false := free0 HR3.out
      have d1 : w3.cell? ⟨w.heap.size + 1, 1, none⟩ = some (.int .i64 0) := by rw [cellsAt HN3.out]; rfl
      have z2 : w3.cell? ⟨w.heap.size, 2, none⟩ = some (.int .i64 0) := by rw [cellsAt HR3.out]; rfl
      have y2 : w3.frozen? ⟨w.heap.size, 2, none⟩ = false := free0 HR3.out
      have d2 : w3.cell? ⟨w.heap.size + 1, 2, none⟩ = some (.int .i64 0) := by rw [cellsAt HN3.out]; rfl
      have z3 : w3.cell? ⟨w.heap.size, 3, none⟩ = some (.int .i64 0) := by rw [cellsAt HR3.out]; rfl
      have y3 : w3.frozen? ⟨w.heap.size, 3, none⟩ = false := free0 HR3.out
      have d3 : w3.cell? ⟨w.heap.size + 1, 3, none⟩ = some (.int .i64 0) := by rw [cellsAt HN3.out]; rfl
      have z4 : w3.cell? ⟨w.heap.size, 4, none⟩ = some (.int .i64 0) := by rw [cellsAt HR3.out]; rfl
      have y4 : w3.frozen? ⟨w.heap.size, 4, none⟩ = false := free0 HR3.out
      have d4 : w3.cell? ⟨w.heap.size + 1, 4, none⟩ = some (.int .i64 0) := by rw [cellsAt HN3.out]; rfl
      go_wp2_with (go_at_call 80; refine (rend_is Q3.out HVE.out).mono ?_; rintro e w' ⟨rfl, rfl⟩)
      refine bodyPost_ret (v := .tuple #[.agg #[.int .i64 0, .int .i64 0, .int .i64 0, .int .i64 0, .int .i64 0], .int .i64 2]) (by simp [results, Try.results116, go_sem, z0, z1, z2, z3, z4]) rfl ?_
      have hy := HY.out
      rw [if_neg (fun h => HE.out h.1)] at hy
      injection hy with hy1 hy2
      subst hy1 hy2
      refine ⟨?_, ?_⟩
      · rfl
      · iterate 5 (refine below_setR ?_ (Nat.le_refl _))
        first | exact B3.out | exact below_drewN B3.out _
end Go.Proofs.Ytplgodfhhlnojaa

/- What want.GetOp tells, in plain lists. -/
namespace Go.Proofs.Ytplgodfhhlnojaa
open Go.RowKit
theorem gO_yes (x : O5) (h : MayO x) : gO (encO x) = (x, 0) := by
  have := rO_fwd x [] (MayO_small x h)
  rw [List.append_nil] at this
  unfold gO
  rw [this]
  rw [if_pos ⟨rfl, h, rfl⟩]
theorem gO_or (l : List UInt8) : (∃ x, MayO x ∧ l = encO x ∧ gO l = (x, 0)) ∨ ((∀ x, MayO x → l ≠ encO x) ∧ gO l = (⟨0, 0, 0, 0, 0⟩, 2)) := by
  by_cases h : rEnd (rO (some l)).2 = 0 ∧ MayO (rO (some l)).1 ∧ encO (rO (some l)).1 = l
  · exact .inl ⟨_, h.2.1, h.2.2.symm, by unfold gO; rw [if_pos h]⟩
  · refine .inr ⟨fun x hx he => ?_, by unfold gO; rw [if_neg h]⟩
    have := gO_yes x hx
    rw [← he] at this
    unfold gO at this
    rw [if_neg h] at this
    have h2 := congrArg Prod.snd this
    simp at h2
theorem gO_cut (x : O5) (h : MayO x) (k : Nat) (hk : k < (encO x).length) : (gO ((encO x).take k)).2 = 2 := by
  rcases gO_or ((encO x).take k) with ⟨y, hy, he, hg⟩ | ⟨_, hg⟩
  · have h1 : encO x ++ [] = encO y ++ (encO x).drop k := by rw [List.append_nil, ← he, List.take_append_drop]
    have := (encO_inj x y _ _ (MayO_fits x h) (MayO_fits y hy) h1).2
    have h2 := congrArg List.length this
    rw [List.length_drop, List.length_nil] at h2
    omega
  · rw [hg]
/-- What the document's own answer tells of bytes. -/
def hO (l : List UInt8) : O5 × Int := if rEnd (rTO (some l)).2 = 0 ∧ MayO (rTO (some l)).1 then ((rTO (some l)).1, 0) else (⟨0, 0, 0, 0, 0⟩, 2)
theorem rEnd_0O {s : Rs} (h : rEnd s = 0) : s = some [] := by
  cases s with
  | none => cases h
  | some l => cases l with
    | nil => rfl
    | cons c l => cases h
theorem hO_is (l : List UInt8) : hO l = gO l := by
  by_cases h : rEnd (rTO (some l)).2 = 0 ∧ MayO (rTO (some l)).1
  · have he := rTO_back l [] (rEnd_0O h.1)
    rw [List.append_nil] at he
    have hg := gO_yes _ h.2
    rw [← he] at hg
    unfold hO
    rw [if_pos h, hg]
  · unfold hO
    rw [if_neg h]
    rcases gO_or l with ⟨x, hx, he, hg⟩ | ⟨_, hg⟩
    · exfalso
      apply h
      have := rTO_fwd x [] (MayO_fits x hx)
      rw [List.append_nil, ← he] at this
      rw [this]
      exact ⟨rfl, hx⟩
    · rw [hg]
end Go.Proofs.Ytplgodfhhlnojaa

/- want.Get, walked (O). -/
namespace Go.Proofs.Ytplgodfhhlnojaa
open Go.RowKit
set_option maxRecDepth 100000 in
set_option maxHeartbeats 4000000 in
theorem getop_w (A : Option Addr) (n c : Nat) (l : List UInt8) (w : World) (hr : Rd w w.heap.size 1 A n (B8 l)) (hn : n ≤ 100000000) :
    Calls Try.prog 97 #[.slice A n c] w (GO w l) := by
  have HC := Lib.hid (fun W h => getO_c A n c l W h hn)
  have HL := Lib.hid hr
  clear hr
  unfold GO at HC ⊢
  obtain ⟨x, k, hx⟩ : ∃ x k, gO l = (x, k) := ⟨_, _, rfl⟩
  rw [hx] at HC ⊢
  clear hx
  unfold PO O5.val at HC ⊢
  simp only at HC ⊢
  go_enter Try.func97, Try.ntmps97
  go_wp2_with fail
  refine (HC.out _ ((HL.out.alloc (Nat.le_refl _) _).more (by simp))).mono ?_
  rintro e w1 ⟨rfl, b1⟩
  have hR := (b1.block w.heap.size (by simp)).trans (heap_alloc_new w (.cells #[.int .i64 0, .int .i64 0, .int .i64 0, .int .i64 0, .int .i64 0] 28))
  have B1 := Lib.hid (show Below w.heap.size w w1 from ((Below.refl _ _).alloc (Nat.le_refl _) _).trans (b1.mono (by simp)))
  have hlt : w.heap.size < w1.heap.size := by have := b1.size; simp at this; omega
  have z0 : w1.cell? ⟨w.heap.size, 0, none⟩ = some (.int .i64 0) := by rw [cellsAt hR]; rfl
  have y0 : w1.frozen? ⟨w.heap.size, 0, none⟩ = false := free0 hR
  have z1 : w1.cell? ⟨w.heap.size, 1, none⟩ = some (.int .i64 0) := by rw [cellsAt hR]; rfl
  have y1 : w1.frozen? ⟨w.heap.size, 1, none⟩ = false := free0 hR
  have z2 : w1.cell? ⟨w.heap.size, 2, none⟩ = some (.int .i64 0) := by rw [cellsAt hR]; rfl
  have y2 : w1.frozen? ⟨w.heap.size, 2, none⟩ = false := free0 hR
  have z3 : w1.cell? ⟨w.heap.size, 3, none⟩ = some (.int .i64 0) := by rw [cellsAt hR]; rfl
  have y3 : w1.frozen? ⟨w.heap.size, 3, none⟩ = false := free0 hR
  have z4 : w1.cell? ⟨w.heap.size, 4, none⟩ = some (.int .i64 0) := by rw [cellsAt hR]; rfl
  have y4 : w1.frozen? ⟨w.heap.size, 4, none⟩ = false := free0 hR
  clear b1 hR
  go_wp2
  refine bodyPost_ret (v := .tuple #[.agg #[.int .i64 x.kind, .int .i64 x.book, .int .i64 x.units, .int .i64 x.cust, .int .i64 x.amount], .int .i64 k]) (by simp [results, Try.results97, go_sem, z0, z1, z2, z3, z4]) rfl ?_
  refine ⟨rfl, ?_⟩
  iterate 5 (refine below_setR ?_ (Nat.le_refl _))
  exact B1.out
end Go.Proofs.Ytplgodfhhlnojaa
