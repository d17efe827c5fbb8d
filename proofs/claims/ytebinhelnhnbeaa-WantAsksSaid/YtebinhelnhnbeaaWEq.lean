/- slices.Equal of bytes, and want.some, walked. -/
import Derived.Test.YtebinhelnhnbeaaPackI
import Derived.Test.YtebinhelnhnbeaaWPut
set_option linter.unusedSimpArgs false
set_option linter.unusedVariables false
namespace Go.Proofs.Ytebinhelnhnbeaa
open Go.RowKit
/-- How far two lists are alike. -/
def alikeTo (a b : List UInt8) (k : Nat) : Prop := a.take k = b.take k
theorem alike_next {a b : List UInt8} {k : Nat} (h : alikeTo a b k) (ha : k < a.length) (hb : k < b.length) (he : a[k] = b[k]) : alikeTo a b (k + 1) := by
  unfold alikeTo at *
  rw [List.take_succ_eq_append_getElem ha, List.take_succ_eq_append_getElem hb, h, he]
set_option maxRecDepth 100000 in
set_option maxHeartbeats 2000000 in
theorem equal_c (A B : Option Addr) (n m c d : Nat) (a b : List UInt8) (w : World) (D E : Nat) (ha : Rd w D 1 A n (B8 a)) (hb : Rd w E 1 B m (B8 b)) (hn : n ≤ 1000000000000) (hm : m ≤ 1000000000000) (r : Bool) (hr : decide (a = b) = r) :
    Calls Try.prog 66 #[.slice A n c, .slice B m d] w fun e w' => e = .returned (.bool r) ∧ ∃ q, w' = w.drewN q := by
  have hla : a.length = n := by have := ha.1; rw [B8_len] at this; omega
  have hlb : b.length = m := by have := hb.1; rw [B8_len] at this; omega
  have HA := Lib.hid ha
  have HB := Lib.hid hb
  have HLA := Lib.hid hla
  have HLB := Lib.hid hlb
  have HR := Lib.hid hr
  clear ha hb hla hlb hr
  by_cases hnm : n = m
  · subst hnm
    go_enter Try.func66, Try.ntmps66
    go_wp2
    go_loopw [13] (fun i wr => ∃ k : Nat, k ≤ n ∧ i = .int .i64 k ∧ Hid (alikeTo a b k ∧ ∃ q, wr = w.drewN q)) (fun i _ => n - (intOf i).toNat)
    case atStart => exact ⟨0, by omega, rfl, rfl, 0, rfl⟩
    case round =>
      obtain ⟨k, hk, rfl, HS⟩ := hrel
      obtain ⟨hal, q, hq⟩ := HS.out
      subst hq
      have HAL := Lib.hid hal
      clear HS hal
      by_cases hlt : k < n
      · obtain ⟨ad, hl, rfl, _, hc⟩ := HA.out.byte hlt
        obtain ⟨bd, hl2, rfl, _, hc2⟩ := HB.out.byte hlt
        have hi0 : (0 : Int) ≤ (k : Int) := by omega
        have hi1 : (k : Int) < (n : Int) := by omega
        obtain ⟨x, hx⟩ : ∃ x, a[k] = x := ⟨_, rfl⟩
        obtain ⟨y, hy⟩ : ∃ y, b[k] = y := ⟨_, rfl⟩
        rw [hx] at hc
        rw [hy] at hc2
        have HX := Lib.hid hx
        have HY := Lib.hid hy
        clear hx hy
        by_cases hxy : x = y
        · subst hxy
          go_wp2
          go_quiet (fail)
          go_wp2
          go_roundw
          case rel => exact ⟨k + 1, by omega, by go_num, alike_next HAL.out hl hl2 (by rw [HX.out, HY.out]), _, rfl⟩
          case measure => simp [intOf]; omega
        · have hne : ((x.toNat : Int) == (y.toNat : Int)) = false := beq_eq_false_iff_ne.2 (fun h => hxy (UInt8.toNat_inj.mp (by omega)))
          have hne2 : ((x.toNat : Int) != (y.toNat : Int)) = true := by unfold bne; rw [hne]; rfl
          have HF := Lib.hid (show r = false from by rw [← HR.out]; exact decide_eq_false (fun h => hxy (by rw [← HX.out, ← HY.out]; subst h; rfl)))
          clear hxy
          go_wp2
          go_quiet (fail)
          go_wp2
          go_ret
          exact ⟨ret_bool HF.out.symm, q + nq, by first | rfl | rw [World.drewN_drewN]⟩
      · have HT := Lib.hid (show r = true from by
          rw [← HR.out]
          refine decide_eq_true ?_
          have := HAL.out
          unfold alikeTo at this
          rwa [List.take_of_length_le (by have := HLA.out; omega), List.take_of_length_le (by have := HLB.out; omega)] at this)
        go_wp2
        go_ret
        exact ⟨ret_bool HT.out.symm, _, rfl⟩
  · have hb1 : ((n : Int) == (m : Int)) = false := beq_eq_false_iff_ne.2 (by omega)
    have HF := Lib.hid (show r = false from by rw [← HR.out]; exact decide_eq_false (fun h => hnm (by rw [← HLA.out, ← HLB.out, h])))
    clear hnm
    go_enter Try.func66, Try.ntmps66
    go_wp2
    go_ret
    exact ⟨ret_bool HF.out.symm, 0, rfl⟩
/-- A number that is read. -/
def rS (s : Rs) : Int × Rs := rInt (-4611686018427387904) 4611686018427387904 s
set_option maxRecDepth 100000 in
theorem some_c (g : Nat) (s s' : Rs) (v : Int) (w : World) (D : Nat) (h : RP w D g s) (hD : D ≤ w.heap.size) (e : rS s = (v, s')) : Calls Try.prog 62 #[.pointer (some ⟨g, 0, none⟩)] w (RPost w D g (.int .i64 v) s') := by
  have HC := Lib.hid (rint_c g (-4611686018427387904) 4611686018427387904 s w D h hD)
  unfold rS at e
  rw [e] at HC
  unfold RPost at HC ⊢
  clear e h
  go_enter Try.func62, Try.ntmps62
  go_wp2_with fail
  refine HC.out.mono ?_
  rintro e w1 ⟨rfl, h1, g1⟩
  have H1 := Lib.hid h1
  have G1 := Lib.hid g1
  clear h1 g1
  go_wp2
  go_ret
  exact ⟨rfl, H1.out, G1.out⟩
end Go.Proofs.Ytebinhelnhnbeaa
