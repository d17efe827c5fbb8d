/- want.get, walked (W). -/
import Derived.Test.YtebinhelnhnbeaaWGetS
set_option linter.unusedSimpArgs false
set_option linter.unusedVariables false
namespace Go.Proofs.Ytebinhelnhnbeaa
open Go.RowKit
/-- What Get tells of bytes. -/
def gW (l : List UInt8) : W7 × Int := if rEnd (rW (some l)).2 = 0 ∧ MayW (rW (some l)).1 ∧ encW (rW (some l)).1 = l then ((rW (some l)).1, 0) else (⟨0, 0, 0, 0, 0, 0, 0⟩, 2)
theorem rW_in (s : Rs) : ∀ z ∈ W7.list (rW s).1, In64 z := by
  intro z hz
  unfold rW W7.list at hz
  simp only [List.mem_cons, List.not_mem_nil, or_false] at hz
  rcases hz with rfl | rfl | rfl | rfl | rfl | rfl | rfl <;> exact rS_in _
def PW (w : World) (y : W7) (k : Int) (e : Ending) (w' : World) : Prop := e = .returned (.tuple #[y.val, .int .i64 k]) ∧ Below w.heap.size w w'
def GW (w : World) (l : List UInt8) : Ending → World → Prop := PW w (gW l).1 (gW l).2
set_option maxRecDepth 100000 in
set_option maxHeartbeats 8000000 in
theorem getW_c (A : Option Addr) (n c : Nat) (l : List UInt8) (w : World) (hr : Rd w w.heap.size 1 A n (B8 l)) (hn : n ≤ 100000000) :
    Calls Try.prog 60 #[.slice A n c, .func (.func 61) #[] #[], .func (.func 38) #[] #[]] w (GW w l) := by
  have HL := Lib.hid hr
  clear hr
  have HF := Lib.hid (rW_in (some l))
  unfold GW
  obtain ⟨y, kk, hy⟩ : ∃ y kk, gW l = (y, kk) := ⟨_, _, rfl⟩
  rw [hy]
  unfold gW at hy
  obtain ⟨x, s', hx⟩ : ∃ x s', rW (some l) = (x, s') := ⟨_, _, rfl⟩
  rw [hx] at HF hy
  simp only at HF hy ⊢
  have HX := Lib.hid hx
  have HY := Lib.hid hy
  clear hx hy
  go_enter Try.func60, Try.ntmps60
  go_wp2_with fail
  refine (new_c A n c l _ (((HL.out.alloc (Nat.le_refl _) _).alloc (by simp) _).more (by first | (simp; done) | (simp; omega))) (by omega)).mono ?_
  rintro e w1 ⟨g, rfl, hg, q1, b1⟩
  have hR := (b1.block w.heap.size (by simp; omega)).trans ((Below.heap_alloc _ _ _ (by simp)).trans (heap_alloc_new w (.cells #[.int .i64 0, .int .i64 0, .int .i64 0, .int .i64 0, .int .i64 0, .int .i64 0, .int .i64 0] 57)))
  have hN := (b1.block (w.heap.size + 1) (by simp)).trans (show ((w.alloc (.cells #[.int .i64 0, .int .i64 0, .int .i64 0, .int .i64 0, .int .i64 0, .int .i64 0, .int .i64 0] 57)).alloc (.cells #[.int .i64 0, .int .i64 0, .int .i64 0, .int .i64 0, .int .i64 0, .int .i64 0, .int .i64 0] 57)).heap[w.heap.size + 1]? = some (.cells #[.int .i64 0, .int .i64 0, .int .i64 0, .int .i64 0, .int .i64 0, .int .i64 0, .int .i64 0] 57 (0, 0)) from by rw [show w.heap.size + 1 = (w.alloc (.cells #[.int .i64 0, .int .i64 0, .int .i64 0, .int .i64 0, .int .i64 0, .int .i64 0, .int .i64 0] 57)).heap.size from by simp]; exact heap_alloc_new _ _)
  have hz1 : w.heap.size + 2 ≤ w1.heap.size := by have := b1.size; simpa using this
  have hg2 : w.heap.size + 2 ≤ g := by simpa using hg
  have B1 := Lib.hid (show Below w.heap.size w w1 from (((Below.refl _ _).alloc (Nat.le_refl _) _).alloc (by simp) _).trans (b1.mono (by simp; omega)))
  have HR1 := Lib.hid hR
  have HN1 := Lib.hid hN
  have Q1 := Lib.hid q1
  have hgl := q1.lt
  clear q1 b1 hR hN hg
  have HRD := Lib.hid (by have := get1W_c g (some l) w1 w1.heap.size Q1.out (Nat.le_refl _); rw [HX.out] at this; unfold RPost W7.val at this; exact this)
  go_wp2_with fail
  refine HRD.out.mono ?_
  rintro e w2 ⟨rfl, q2, g2⟩
  have hz2 := g2.size
  have Q2 := Lib.hid q2
  have B2 := Lib.hid (B1.out.trans (only_lt g2 B1.out.size (by omega)))
  have HR2 := Lib.hid ((g2.block w.heap.size (by omega) (by intro e; injection e with e; omega)).trans HR1.out)
  have HN2 := Lib.hid ((g2.block (w.heap.size + 1) (by omega) (by intro e; injection e with e; omega)).trans HN1.out)
  clear q2 g2 HRD
  have hlt2 : w.heap.size < w2.heap.size := by omega
  by_cases hm : MayW x
  · have HM := Lib.hid hm
    clear hm
    have HPUT := Lib.hid (fun W => encW_yes x W HM.out HF.out)
    unfold W7.val RBy at HPUT
    go_wp2_with fail
    refine (HPUT.out _).mono ?_
    rintro e w3 ⟨v3, rfl, q3, b3⟩
    obtain ⟨A3, c3, rfl, hc3, _, r3⟩ := q3.form
    have R3 := Lib.hid r3
    have R0 := Lib.hid (HL.out.below (show Below w.heap.size w w3 from (B2.out.alloc (by omega) _).trans (b3.mono (by simp; omega))))
    clear q3 r3
    have hzz : w2.heap.size + 1 ≤ w3.heap.size := by have := b3.size; simpa using this
    have HR3 := Lib.hid ((b3.block w.heap.size (by simp; omega)).trans ((Below.heap_alloc _ _ _ (by omega)).trans HR2.out))
    have HN3 := Lib.hid ((b3.block (w.heap.size + 1) (by simp; omega)).trans ((Below.heap_alloc _ _ _ (by omega)).trans HN2.out))
    have HX3 := Lib.hid ((b3.block w2.heap.size (by simp)).trans (heap_alloc_new w2 _))
    have B3 := Lib.hid ((B2.out.alloc (by omega) _).trans (b3.mono (by simp; omega)))
    have Q3 := Lib.hid ((Q2.out.alloc (by omega) _).below (b3.mono (by simp; omega)))
    clear b3
    have hl3 : w.heap.size < w3.heap.size := by omega
    by_cases he : rEnd s' = 0
    · have HE := Lib.hid he
      by_cases hq : encW x = l
      · have HQ := Lib.hid hq
        clear he hq
        go_wp2_with fail
        refine (rend_is Q3.out (v := 0) HE.out).mono ?_
        rintro e w' ⟨rfl, rfl⟩
        go_wp2_with fail
        refine (equal_c A3 A _ n c3 c (encW x) l _ _ _ R3.out R0.out (by have := encs_le (W7.list x); unfold encW; simp [W7.list] at *; omega) (by omega) true (decide_eq_true HQ.out)).mono ?_
        rintro e w4 ⟨rfl, nq, rfl⟩
        have z0 : w3.cell? ⟨w.heap.size, 0, none⟩ = some (.int .i64 0) := by rw [cellsAt HR3.out]; rfl
        have y0 : w3.frozen? ⟨w.heap.size, 0, none⟩ = false := free0 HR3.out
        have d0 : w3.cell? ⟨w2.heap.size, 0, none⟩ = some (.int .i64 x.b) := by rw [cellsAt HX3.out]; rfl
        have z1 : w3.cell? ⟨w.heap.size, 1, none⟩ = some (.int .i64 0) := by rw [cellsAt HR3.out]; rfl
        have y1 : w3.frozen? ⟨w.heap.size, 1, none⟩ = false := free0 HR3.out
        have d1 : w3.cell? ⟨w2.heap.size, 1, none⟩ = some (.int .i64 x.c) := by rw [cellsAt HX3.out]; rfl
        have z2 : w3.cell? ⟨w.heap.size, 2, none⟩ = some (.int .i64 0) := by rw [cellsAt HR3.out]; rfl
        have y2 : w3.frozen? ⟨w.heap.size, 2, none⟩ = false := free0 HR3.out
        have d2 : w3.cell? ⟨w2.heap.size, 2, none⟩ = some (.int .i64 x.d) := by rw [cellsAt HX3.out]; rfl
        have z3 : w3.cell? ⟨w.heap.size, 3, none⟩ = some (.int .i64 0) := by rw [cellsAt HR3.out]; rfl
        have y3 : w3.frozen? ⟨w.heap.size, 3, none⟩ = false := free0 HR3.out
        have d3 : w3.cell? ⟨w2.heap.size, 3, none⟩ = some (.int .i64 x.m0) := by rw [cellsAt HX3.out]; rfl
        have z4 : w3.cell? ⟨w.heap.size, 4, none⟩ = some (.int .i64 0) := by rw [cellsAt HR3.out]; rfl
        have y4 : w3.frozen? ⟨w.heap.size, 4, none⟩ = false := free0 HR3.out
        have d4 : w3.cell? ⟨w2.heap.size, 4, none⟩ = some (.int .i64 x.m1) := by rw [cellsAt HX3.out]; rfl
        have z5 : w3.cell? ⟨w.heap.size, 5, none⟩ = some (.int .i64 0) := by rw [cellsAt HR3.out]; rfl
        have y5 : w3.frozen? ⟨w.heap.size, 5, none⟩ = false := free0 HR3.out
        have d5 : w3.cell? ⟨w2.heap.size, 5, none⟩ = some (.int .i64 x.m2) := by rw [cellsAt HX3.out]; rfl
        have z6 : w3.cell? ⟨w.heap.size, 6, none⟩ = some (.int .i64 0) := by rw [cellsAt HR3.out]; rfl
        have y6 : w3.frozen? ⟨w.heap.size, 6, none⟩ = false := free0 HR3.out
        have d6 : w3.cell? ⟨w2.heap.size, 6, none⟩ = some (.int .i64 x.p) := by rw [cellsAt HX3.out]; rfl
        go_wp2
        refine bodyPost_ret (v := .tuple #[.agg #[.int .i64 x.b, .int .i64 x.c, .int .i64 x.d, .int .i64 x.m0, .int .i64 x.m1, .int .i64 x.m2, .int .i64 x.p], .int .i64 0]) (by simp [results, Try.results60, go_sem, z0, z1, z2, z3, z4, z5, z6]) rfl ?_
        have hy := HY.out
        rw [if_pos ⟨HE.out, HM.out, HQ.out⟩] at hy
        injection hy with hy1 hy2
        subst hy1 hy2
        refine ⟨?_, ?_⟩
        · rfl
        · iterate 7 (refine below_setR ?_ (Nat.le_refl _))
          first | exact B3.out | exact below_drewN B3.out _
      · have HQ := Lib.hid hq
        clear he hq
        go_wp2_with fail
        refine (rend_is Q3.out (v := 0) HE.out).mono ?_
        rintro e w' ⟨rfl, rfl⟩
        go_wp2_with fail
        refine (equal_c A3 A _ n c3 c (encW x) l _ _ _ R3.out R0.out (by have := encs_le (W7.list x); unfold encW; simp [W7.list] at *; omega) (by omega) false (decide_eq_false HQ.out)).mono ?_
        rintro e w4 ⟨rfl, nq, rfl⟩
        have z0 : w3.cell? ⟨w.heap.size, 0, none⟩ = some (.int .i64 0) := by rw [cellsAt HR3.out]; rfl
        have y0 : w3.frozen? ⟨w.heap.size, 0, none⟩ = false := free0 HR3.out
        have d0 : w3.cell? ⟨w.heap.size + 1, 0, none⟩ = some (.int .i64 0) := by rw [cellsAt HN3.out]; rfl
        have z1 : w3.cell? ⟨w.heap.size, 1, none⟩ = some (.int .i64 0) := by rw [cellsAt HR3.out]; rfl
        have y1 : w3.frozen? ⟨w.heap.size, 1, none⟩ = false := free0 HR3.out
        have d1 : w3.cell? ⟨w.heap.size + 1, 1, none⟩ = some (.int .i64 0) := by rw [cellsAt HN3.out]; rfl
        have z2 : w3.cell? ⟨w.heap.size, 2, none⟩ = some (.int .i64 0) := by rw [cellsAt HR3.out]; rfl
        have y2 : w3.frozen? ⟨w.heap.size, 2, none⟩ = false := free0 HR3.out
        have d2 : w3.cell? ⟨w.heap.size + 1, 2, none⟩ = some (.int .i64 0) := by rw [cellsAt HN3.out]; rfl
        have z3 : w3.cell? ⟨w.heap.size, 3, none⟩ = some (.int .i64 0) := by rw [cellsAt HR3.out]; rfl
        have y3 : w3.frozen? ⟨w.heap.size, 3, none⟩ = false := free0 HR3.out
        have d3 : w3.cell? ⟨w.heap.size + 1, 3, none⟩ = some (.int .i64 0) := by rw [cellsAt HN3.out]; rfl
        have z4 : w3.cell? ⟨w.heap.size, 4, none⟩ = some (.int .i64 0) := by rw [cellsAt HR3.out]; rfl
        have y4 : w3.frozen? ⟨w.heap.size, 4, none⟩ = false := free0 HR3.out
        have d4 : w3.cell? ⟨w.heap.size + 1, 4, none⟩ = some (.int .i64 0) := by rw [cellsAt HN3.out]; rfl
        have z5 : w3.cell? ⟨w.heap.size, 5, none⟩ = some (.int .i64 0) := by rw [cellsAt HR3.out]; rfl
        have y5 : w3.frozen? ⟨w.heap.size, 5, none⟩ = false := free0 HR3.out
        have d5 : w3.cell? ⟨w.heap.size + 1, 5, none⟩ = some (.int .i64 0) := by rw [cellsAt HN3.out]; rfl
        have z6 : w3.cell? ⟨w.heap.size, 6, none⟩ = some (.int .i64 0) := by rw [cellsAt HR3.out]; rfl
        have y6 : w3.frozen? ⟨w.heap.size, 6, none⟩ = false := free0 HR3.out
        have d6 : w3.cell? ⟨w.heap.size + 1, 6, none⟩ = some (.int .i64 0) := by rw [cellsAt HN3.out]; rfl
        go_wp2
        refine bodyPost_ret (v := .tuple #[.agg #[.int .i64 0, .int .i64 0, .int .i64 0, .int .i64 0, .int .i64 0, .int .i64 0, .int .i64 0], .int .i64 2]) (by simp [results, Try.results60, go_sem, z0, z1, z2, z3, z4, z5, z6]) rfl ?_
        have hy := HY.out
        rw [if_neg (fun h => HQ.out h.2.2)] at hy
        injection hy with hy1 hy2
        subst hy1 hy2
        refine ⟨?_, ?_⟩
        · rfl
        · iterate 7 (refine below_setR ?_ (Nat.le_refl _))
          first | exact B3.out | exact below_drewN B3.out _
    · have HE := Lib.hid he
      obtain ⟨ve, hve⟩ : ∃ v, rEnd s' = v := ⟨_, rfl⟩
      have hvn : (ve == 0) = false := beq_eq_false_iff_ne.2 (by rw [← hve]; exact he)
      have hvn2 : (ve != 0) = true := by unfold bne; rw [hvn]; rfl
      have HVE := Lib.hid hve
      clear he hve
      have z0 : w3.cell? ⟨w.heap.size, 0, none⟩ = some (.int .i64 0) := by rw [cellsAt HR3.out]; rfl
      have y0 : w3.frozen? ⟨w.heap.size, 0, none⟩ = false := free0 HR3.out
      have d0 : w3.cell? ⟨w.heap.size + 1, 0, none⟩ = some (.int .i64 0) := by rw [cellsAt HN3.out]; rfl
      have z1 : w3.cell? ⟨w.heap.size, 1, none⟩ = some (.int .i64 0) := by rw [cellsAt HR3.out]; rfl
      have y1 : w3.frozen? ⟨w.heap.size, 1, none⟩ = false := free0 HR3.out
      have d1 : w3.cell? ⟨w.heap.size + 1, 1, none⟩ = some (.int .i64 0) := by rw [cellsAt HN3.out]; rfl
      have z2 : w3.cell? ⟨w.heap.size, 2, none⟩ = some (.int .i64 0) := by rw [cellsAt HR3.out]; rfl
      have y2 : w3.frozen? ⟨w.heap.size, 2, none⟩ = false := free0 HR3.out
      have d2 : w3.cell? ⟨w.heap.size + 1, 2, none⟩ = some (.int .i64 0) := by rw [cellsAt HN3.out]; rfl
      have z3 : w3.cell? ⟨w.heap.size, 3, none⟩ = some (.int .i64 0) := by rw [cellsAt HR3.out]; rfl
      have y3 : w3.frozen? ⟨w.heap.size, 3, none⟩ = false := free0 HR3.out
      have d3 : w3.cell? ⟨w.heap.size + 1, 3, none⟩ = some (.int .i64 0) := by rw [cellsAt HN3.out]; rfl
      have z4 : w3.cell? ⟨w.heap.size, 4, none⟩ = some (.int .i64 0) := by rw [cellsAt HR3.out]; rfl
      have y4 : w3.frozen? ⟨w.heap.size, 4, none⟩ = false := free0 HR3.out
      have d4 : w3.cell? ⟨w.heap.size + 1, 4, none⟩ = some (.int .i64 0) := by rw [cellsAt HN3.out]; rfl
      have z5 : w3.cell? ⟨w.heap.size, 5, none⟩ = some (.int .i64 0) := by rw [cellsAt HR3.out]; rfl
      have y5 : w3.frozen? ⟨w.heap.size, 5, none⟩ = false := free0 HR3.out
      have d5 : w3.cell? ⟨w.heap.size + 1, 5, none⟩ = some (.int .i64 0) := by rw [cellsAt HN3.out]; rfl
      have z6 : w3.cell? ⟨w.heap.size, 6, none⟩ = some (.int .i64 0) := by rw [cellsAt HR3.out]; rfl
      have y6 : w3.frozen? ⟨w.heap.size, 6, none⟩ = false := free0 HR3.out
      have d6 : w3.cell? ⟨w.heap.size + 1, 6, none⟩ = some (.int .i64 0) := by rw [cellsAt HN3.out]; rfl
      go_wp2_with (go_at_call 31; refine (rend_is Q3.out HVE.out).mono ?_; rintro e w' ⟨rfl, rfl⟩)
      refine bodyPost_ret (v := .tuple #[.agg #[.int .i64 0, .int .i64 0, .int .i64 0, .int .i64 0, .int .i64 0, .int .i64 0, .int .i64 0], .int .i64 2]) (by simp [results, Try.results60, go_sem, z0, z1, z2, z3, z4, z5, z6]) rfl ?_
      have hy := HY.out
      rw [if_neg (fun h => HE.out h.1)] at hy
      injection hy with hy1 hy2
      subst hy1 hy2
      refine ⟨?_, ?_⟩
      · rfl
      · iterate 7 (refine below_setR ?_ (Nat.le_refl _))
        first | exact B3.out | exact below_drewN B3.out _
  · have HM := Lib.hid hm
    clear hm
    have HPUT := Lib.hid (fun W => encW_no x W HM.out)
    unfold W7.val at HPUT
    go_wp2_with fail
    refine (HPUT.out _).mono ?_
    rintro e w3 ⟨rfl, b3⟩
    have hzz : w2.heap.size + 1 ≤ w3.heap.size := by have := b3.size; simpa using this
    have HR3 := Lib.hid ((b3.block w.heap.size (by simp; omega)).trans ((Below.heap_alloc _ _ _ (by omega)).trans HR2.out))
    have HN3 := Lib.hid ((b3.block (w.heap.size + 1) (by simp; omega)).trans ((Below.heap_alloc _ _ _ (by omega)).trans HN2.out))
    have HX3 := Lib.hid ((b3.block w2.heap.size (by simp)).trans (heap_alloc_new w2 _))
    have B3 := Lib.hid ((B2.out.alloc (by omega) _).trans (b3.mono (by simp; omega)))
    have Q3 := Lib.hid ((Q2.out.alloc (by omega) _).below (b3.mono (by simp; omega)))
    clear b3
    have hl3 : w.heap.size < w3.heap.size := by omega
    by_cases he : rEnd s' = 0
    · have HE := Lib.hid he
      clear he
      have z0 : w3.cell? ⟨w.heap.size, 0, none⟩ = some (.int .i64 0) := by rw [cellsAt HR3.out]; rfl
      have y0 : w3.frozen? ⟨w.heap.size, 0, none⟩ = false := free0 HR3.out
      have d0 : w3.cell? ⟨w.heap.size + 1, 0, none⟩ = some (.int .i64 0) := by rw [cellsAt HN3.out]; rfl
      have z1 : w3.cell? ⟨w.heap.size, 1, none⟩ = some (.int .i64 0) := by rw [cellsAt HR3.out]; rfl
      have y1 : w3.frozen? ⟨w.heap.size, 1, none⟩ = false := free0 HR3.out
      have d1 : w3.cell? ⟨w.heap.size + 1, 1, none⟩ = some (.int .i64 0) := by rw [cellsAt HN3.out]; rfl
      have z2 : w3.cell? ⟨w.heap.size, 2, none⟩ = some (.int .i64 0) := by rw [cellsAt HR3.out]; rfl
      have y2 : w3.frozen? ⟨w.heap.size, 2, none⟩ = false := free0 HR3.out
      have d2 : w3.cell? ⟨w.heap.size + 1, 2, none⟩ = some (.int .i64 0) := by rw [cellsAt HN3.out]; rfl
      have z3 : w3.cell? ⟨w.heap.size, 3, none⟩ = some (.int .i64 0) := by rw [cellsAt HR3.out]; rfl
      have y3 : w3.frozen? ⟨w.heap.size, 3, none⟩ = false := free0 HR3.out
      have d3 : w3.cell? ⟨w.heap.size + 1, 3, none⟩ = some (.int .i64 0) := by rw [cellsAt HN3.out]; rfl
      have z4 : w3.cell? ⟨w.heap.size, 4, none⟩ = some (.int .i64 0) := by rw [cellsAt HR3.out]; rfl
      have y4 : w3.frozen? ⟨w.heap.size, 4, none⟩ = false := free0 HR3.out
      have d4 : w3.cell? ⟨w.heap.size + 1, 4, none⟩ = some (.int .i64 0) := by rw [cellsAt HN3.out]; rfl
      have z5 : w3.cell? ⟨w.heap.size, 5, none⟩ = some (.int .i64 0) := by rw [cellsAt HR3.out]; rfl
      have y5 : w3.frozen? ⟨w.heap.size, 5, none⟩ = false := free0 HR3.out
      have d5 : w3.cell? ⟨w.heap.size + 1, 5, none⟩ = some (.int .i64 0) := by rw [cellsAt HN3.out]; rfl
      have z6 : w3.cell? ⟨w.heap.size, 6, none⟩ = some (.int .i64 0) := by rw [cellsAt HR3.out]; rfl
      have y6 : w3.frozen? ⟨w.heap.size, 6, none⟩ = false := free0 HR3.out
      have d6 : w3.cell? ⟨w.heap.size + 1, 6, none⟩ = some (.int .i64 0) := by rw [cellsAt HN3.out]; rfl
      go_wp2_with (go_at_call 31; refine (rend_is Q3.out (v := 0) HE.out).mono ?_; rintro e w' ⟨rfl, rfl⟩)
      refine bodyPost_ret (v := .tuple #[.agg #[.int .i64 0, .int .i64 0, .int .i64 0, .int .i64 0, .int .i64 0, .int .i64 0, .int .i64 0], .int .i64 2]) (by simp [results, Try.results60, go_sem, z0, z1, z2, z3, z4, z5, z6]) rfl ?_
      have hy := HY.out
      rw [if_neg (fun h => HM.out h.2.1)] at hy
      injection hy with hy1 hy2
      subst hy1 hy2
      refine ⟨?_, ?_⟩
      · rfl
      · iterate 7 (refine below_setR ?_ (Nat.le_refl _))
        first | exact B3.out | exact below_drewN B3.out _
    · have HE := Lib.hid he
      obtain ⟨ve, hve⟩ : ∃ v, rEnd s' = v := ⟨_, rfl⟩
      have hvn : (ve == 0) = false := beq_eq_false_iff_ne.2 (by rw [← hve]; exact he)
      have hvn2 : (ve != 0) = true := by unfold bne; rw [hvn]; rfl
      have HVE := Lib.hid hve
      clear he hve
      have z0 : w3.cell? ⟨w.heap.size, 0, none⟩ = some (.int .i64 0) := by rw [cellsAt HR3.out]; rfl
      have y0 : w3.frozen? ⟨w.heap.size, 0, none⟩ = false := free0 HR3.out
      have d0 : w3.cell? ⟨w.heap.size + 1, 0, none⟩ = some (.int .i64 0) := by rw [cellsAt HN3.out]; rfl
      have z1 : w3.cell? ⟨w.heap.size, 1, none⟩ = some (.int .i64 0) := by rw [cellsAt HR3.out]; rfl
      have y1 : w3.frozen? ⟨w.heap.size, 1, none⟩ = false := free0 HR3.out
      have d1 : w3.cell? ⟨w.heap.size + 1, 1, none⟩ = some (.int .i64 0) := by rw [cellsAt HN3.out]; rfl
      have z2 : w3.cell? ⟨w.heap.size, 2, none⟩ = some (.int .i64 0) := by rw [cellsAt HR3.out]; rfl
      have y2 : w3.frozen? ⟨w.heap.size, 2, none⟩ = false := free0 HR3.out
      have d2 : w3.cell? ⟨w.heap.size + 1, 2, none⟩ = some (.int .i64 0) := by rw [cellsAt HN3.out]; rfl
      have z3 : w3.cell? ⟨w.heap.size, 3, none⟩ = some (.int .i64 0) := by rw [cellsAt HR3.out]; rfl
      have y3 : w3.frozen? ⟨w.heap.size, 3, none⟩ = false := free0 HR3.out
      have d3 : w3.cell? ⟨w.heap.size + 1, 3, none⟩ = some (.int .i64 0) := by rw [cellsAt HN3.out]; rfl
      have z4 : w3.cell? ⟨w.heap.size, 4, none⟩ = some (.int .i64 0) := by rw [cellsAt HR3.out]; rfl
      have y4 : w3.frozen? ⟨w.heap.size, 4, none⟩ = false := free0 HR3.out
      have d4 : w3.cell? ⟨w.heap.size + 1, 4, none⟩ = some (.int .i64 0) := by rw [cellsAt HN3.out]; rfl
      have z5 : w3.cell? ⟨w.heap.size, 5, none⟩ = some (.int .i64 0) := by rw [cellsAt HR3.out]; rfl
      have y5 : w3.frozen? ⟨w.heap.size, 5, none⟩ = false := free0 HR3.out
      have d5 : w3.cell? ⟨w.heap.size + 1, 5, none⟩ = some (.int .i64 0) := by rw [cellsAt HN3.out]; rfl
      have z6 : w3.cell? ⟨w.heap.size, 6, none⟩ = some (.int .i64 0) := by rw [cellsAt HR3.out]; rfl
      have y6 : w3.frozen? ⟨w.heap.size, 6, none⟩ = false := free0 HR3.out
      have d6 : w3.cell? ⟨w.heap.size + 1, 6, none⟩ = some (.int .i64 0) := by rw [cellsAt HN3.out]; rfl
      go_wp2_with (go_at_call 31; refine (rend_is Q3.out HVE.out).mono ?_; rintro e w' ⟨rfl, rfl⟩)
      refine bodyPost_ret (v := .tuple #[.agg #[.int .i64 0, .int .i64 0, .int .i64 0, .int .i64 0, .int .i64 0, .int .i64 0, .int .i64 0], .int .i64 2]) (by simp [results, Try.results60, go_sem, z0, z1, z2, z3, z4, z5, z6]) rfl ?_
      have hy := HY.out
      rw [if_neg (fun h => HE.out h.1)] at hy
      injection hy with hy1 hy2
      subst hy1 hy2
      refine ⟨?_, ?_⟩
      · rfl
      · iterate 7 (refine below_setR ?_ (Nat.le_refl _))
        first | exact B3.out | exact below_drewN B3.out _
end Go.Proofs.Ytebinhelnhnbeaa
