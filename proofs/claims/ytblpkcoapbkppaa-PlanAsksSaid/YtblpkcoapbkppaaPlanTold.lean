/- Plans: the few examples that each statement of layer 14 asks first. -/
import Derived.Test.YtblpkcoapbkppaaPlanSame
import Derived.Outline
set_option linter.unusedSimpArgs false
set_option linter.unusedVariables false
namespace Go.Proofs.Ytblpkcoapbkppaa
open Go.RowKit
deriving instance DecidableEq for A6
def fTL : List A6 := [⟨0, 1, 3, 1, 0, 0⟩, ⟨2, 1, 3, 2, 0, 0⟩, ⟨3, 4, 3, 0, 1, 7⟩, ⟨0, 2, 3, 0, 0, 0⟩, ⟨2, 2, 3, 0, 0, 0⟩]
def bTL : List A6 := [⟨3, 6, 3, 0, 0, 0⟩, ⟨2, 3, 3, 0, 0, 0⟩, ⟨0, 3, 3, 0, 0, 0⟩]
theorem fT : forwardL ⟨3, 1, 0, 1, 0, 2, 7⟩ = fTL := by decide +kernel
theorem bT : backL ⟨3, 1, 0, 1, 0, 2, 7⟩ = bTL := by decide +kernel
theorem pT : parts ⟨3, 1, 0, 1, 0, 2, 7⟩ = [0, 2] := by decide +kernel
theorem cT : captureA ⟨3, 1, 0, 1, 0, 2, 7⟩ = ⟨3, 5, 3, 0, 0, 0⟩ := by decide +kernel
theorem zT : forwardL ⟨0, 0, 0, 0, 0, 0, 0⟩ = [] := by decide +kernel
theorem forwardT (w : World) : Calls Try.prog 29 #[.agg #[.int .i64 3, .int .i64 1, .int .i64 0, .int .i64 1, .int .i64 0, .int .i64 2, .int .i64 7]] w (RA w fTL) := by
  have := forward_c ⟨3, 1, 0, 1, 0, 2, 7⟩ w; rw [fT] at this; exact this
theorem backT (w : World) : Calls Try.prog 31 #[.agg #[.int .i64 3, .int .i64 1, .int .i64 0, .int .i64 1, .int .i64 0, .int .i64 2, .int .i64 7]] w (RA w bTL) := by
  have := back_c ⟨3, 1, 0, 1, 0, 2, 7⟩ w; rw [bT] at this; exact this
theorem partsT (w : World) : Calls Try.prog 33 #[.agg #[.int .i64 3, .int .i64 1, .int .i64 0, .int .i64 1, .int .i64 0, .int .i64 2, .int .i64 7]] w (RN w [0, 2]) := by
  have := parts_c ⟨3, 1, 0, 1, 0, 2, 7⟩ w; rw [pT] at this; exact this
theorem captureT (w : World) : Calls Try.prog 26 #[.agg #[.int .i64 3, .int .i64 1, .int .i64 0, .int .i64 1, .int .i64 0, .int .i64 2, .int .i64 7]] w fun e w' => e = .returned (.agg #[.int .i64 3, .int .i64 5, .int .i64 3, .int .i64 0, .int .i64 0, .int .i64 0]) ∧ Below w.heap.size w w' := by
  have := capture_c ⟨3, 1, 0, 1, 0, 2, 7⟩ w; rw [cT] at this; exact this
theorem forwardZ (w : World) : Calls Try.prog 29 #[.agg #[.int .i64 0, .int .i64 0, .int .i64 0, .int .i64 0, .int .i64 0, .int .i64 0, .int .i64 0]] w (RA w []) := by
  have := forward_c ⟨0, 0, 0, 0, 0, 0, 0⟩ w; rw [zT] at this; exact this
theorem own_block {w : World} {base s n : Nat} {e : TypeId} {v : Value} {xs : List Value} (h : w.ownsRow base e s v n xs) (h0 : 0 < n) : ∃ g c, v = .slice (some ⟨g, 0, none⟩) n c ∧ n ≤ c ∧ base ≤ g ∧ g < w.heap.size := by
  rcases h.2 with ⟨e, h1⟩ | ⟨g, cap, cur, e, hg, hh, hc, _⟩
  · omega
  · exact ⟨g, cap, e, hc, hg, by rw [Array.getElem?_eq_some_iff] at hh; exact hh.1⟩
def xT : W7 := ⟨3, 1, 0, 1, 0, 2, 7⟩
set_option maxHeartbeats 4000000 in
theorem told14 (w : World) : Calls Try.prog 35 #[] w fun e w' => e = .returned (.bool true) ∧ Below w.heap.size w w' := by
  have BB : CH w xT (bxW w xT) := Below.refl _ _
  have hfd : ∀ w, (Instr.field 41 (.agg #[.int .i64 3, .int .i64 5, .int .i64 3, .int .i64 0, .int .i64 0, .int .i64 0]) 0).run Try.prog w = .ok (.int .i64 3) w := fun _ => by kernel_rfl
  go_enter Try.func35, Try.ntmps35
  go_wp2
  go_region_held3 (fun w' => w'.cell? ⟨w.heap.size, 0, none⟩ = some (.int .i64 3) ∧ w'.cell? ⟨w.heap.size, 1, none⟩ = some (.int .i64 1) ∧ w'.cell? ⟨w.heap.size, 2, none⟩ = some (.int .i64 0) ∧ w'.cell? ⟨w.heap.size, 3, none⟩ = some (.int .i64 1) ∧ w'.cell? ⟨w.heap.size, 4, none⟩ = some (.int .i64 0) ∧ w'.cell? ⟨w.heap.size, 5, none⟩ = some (.int .i64 2) ∧ w'.cell? ⟨w.heap.size, 6, none⟩ = some (.int .i64 7)) (first | go_keep | exact CH.cells BB) (first | (go_at_call 29; refine (forwardT _).mono ?_; rintro e w1 ⟨v1, rfl, HF, hB⟩; obtain ⟨gf, cf, rfl, _, _, _⟩ := own_block HF (by decide); (try replace HK := own_below HK hB (Nat.le_refl _)); (first | replace BB := CH.next BB hB | replace BB := CH.next (Below.drew BB) hB); clear hB) | (go_at_call 31; refine (backT _).mono ?_; rintro e w1 ⟨v1, rfl, HK, hB⟩; obtain ⟨gk, ck, rfl, _, _, _⟩ := own_block HK (by decide); (try replace HF := own_below HF hB (Nat.le_refl _)); (first | replace BB := CH.next BB hB | replace BB := CH.next (Below.drew BB) hB); clear hB))
  have hcc := CH.cells BB
  obtain ⟨b0, b1, b2, b3, b4, b5, b6⟩ := hcc
  have BBh := Lib.hid BB
  have HFh := Lib.hid (show OA w1 _ (.slice (some ⟨gf, 0, none⟩) fTL.length cf) fTL from HF)
  have HKh := Lib.hid (show OA w1 _ (.slice (some ⟨gk, 0, none⟩) bTL.length ck) bTL from HK)
  clear HF HK BB
  have e5 : fTL.length = 5 := rfl
  have e3 : bTL.length = 3 := rfl
  rw [e5, e3]
  clear e5 e3
  simp only [xT] at b0 b1 b2 b3 b4 b5 b6
  go_wp2_with fail
  refine (partsT _).mono ?_
  rintro e w2 ⟨v2, rfl, HP, hB⟩
  obtain ⟨gp, cp, rfl, _, _, _⟩ := own_block HP (by decide)
  have FF : OA w2 _ (.slice (some ⟨gf, 0, none⟩) fTL.length cf) fTL := own_below HFh.out hB (Nat.le_refl _)
  have KK : OA w2 _ (.slice (some ⟨gk, 0, none⟩) bTL.length ck) bTL := own_below HKh.out hB (Nat.le_refl _)
  have f00 := AC_cell2 w2 _ gf _ fTL FF 0 _ rfl 0 _ rfl
  have f13 := AC_cell2 w2 _ gf _ fTL FF 1 _ rfl 3 _ rfl
  have f21 := AC_cell2 w2 _ gf _ fTL FF 2 _ rfl 1 _ rfl
  have f22 := AC_cell2 w2 _ gf _ fTL FF 2 _ rfl 2 _ rfl
  have f23 := AC_cell2 w2 _ gf _ fTL FF 2 _ rfl 3 _ rfl
  have f24 := AC_cell2 w2 _ gf _ fTL FF 2 _ rfl 4 _ rfl
  have f25 := AC_cell2 w2 _ gf _ fTL FF 2 _ rfl 5 _ rfl
  have f41 := AC_cell2 w2 _ gf _ fTL FF 4 _ rfl 1 _ rfl
  simp only [Nat.reduceMul, Nat.reduceAdd] at f00 f13 f21 f22 f23 f24 f25 f41
  have k01 := AC_cell2 w2 _ gk _ bTL KK 0 _ rfl 1 _ rfl
  have k10 := AC_cell2 w2 _ gk _ bTL KK 1 _ rfl 0 _ rfl
  have k20 := AC_cell2 w2 _ gk _ bTL KK 2 _ rfl 0 _ rfl
  simp only [Nat.reduceMul, Nat.reduceAdd] at k01 k10 k20
  have z0 := bcell hB b0 (cell_in b0)
  have z1 := bcell hB b1 (cell_in b1)
  have z2 := bcell hB b2 (cell_in b2)
  have z3 := bcell hB b3 (cell_in b3)
  have z4 := bcell hB b4 (cell_in b4)
  have z5 := bcell hB b5 (cell_in b5)
  have z6 := bcell hB b6 (cell_in b6)
  have B2 := Lib.hid (CH.next BBh.out hB)
  have HPh := Lib.hid (show w2.ownsRow w1.heap.size 3 1 (.slice (some ⟨gp, 0, none⟩) 2 cp) 2 (NC [0, 2]) from HP)
  clear hB HP FF KK b0 b1 b2 b3 b4 b5 b6
  rw [show ([0, 2] : List Int).length = 2 from rfl]
  go_wp2_with fail
  refine (captureT _).mono ?_
  rintro e w3 ⟨rfl, hB⟩
  have P1 : w3.cell? ⟨gp, 1, none⟩ = some (.int .i64 2) := bcell hB ((World.ownsRow.cellAt HPh.out 1 (by omega)).trans rfl) (by have := World.ownsRow.cellAt HPh.out 1 (by omega); exact cell_in (this.trans rfl))
  have B3 := Lib.hid (CH.next B2.out hB)
  clear hB
  go_wp2_with fail
  refine (forwardZ _).mono ?_
  rintro e w4 ⟨v4, rfl, HZ, hB⟩
  obtain ⟨AZ, cZ, rfl, _, _, _⟩ := OA.rd HZ
  have B4 := Lib.hid (CH.next B3.out hB)
  clear hB HZ
  go_wp2
  go_ret
  exact ⟨rfl, (bxW_of B4.out).2.1⟩
end Go.Proofs.Ytblpkcoapbkppaa
