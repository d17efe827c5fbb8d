/- The record at a place whose length is told rightly: frame.One looks at its sum. -/
import Derived.Test.YtkbkbgnnamckoaaFrame
set_option linter.unusedSimpArgs false
set_option linter.unusedVariables false
namespace Go.Proofs.Ytkbkbgnnamckoaa
open Go.RowKit
def xAt (b : List UInt8) (k : Nat) : List UInt8 := (b.drop (k + 6)).take (nAt b k)
set_option maxHeartbeats 2000000 in
theorem one_sum (A : Option Addr) (n c : Nat) (k : Nat) (l : List UInt8) (w : World) (hr : Rd w w.heap.size 1 A n (B8 l)) (hn : n ≤ 140737488351232) (hc : n ≤ c) (h : k + 6 ≤ n) (hm1 : 1 ≤ nAt l k) (hm2 : nAt l k ≤ 1000) (hm3 : k + 6 + nAt l k ≤ n) :
    (crc (xAt l k) = cAt l k → Calls Try.prog 19 #[.slice A n c, .int .i64 k] w (RB w (xAt l k) ((k + 6 + nAt l k : Nat) : Int))) ∧
    (¬ crc (xAt l k) = cAt l k → Calls Try.prog 19 #[.slice A n c, .int .i64 k] w (NoRec w)) := by
  obtain ⟨ad, rfl, had, _⟩ := hr.2 (by omega)
  obtain ⟨k1, hk1⟩ : ∃ j, j = k + 1 := ⟨_, rfl⟩
  obtain ⟨k2, hk2⟩ : ∃ j, j = k + 2 := ⟨_, rfl⟩
  obtain ⟨k3, hk3⟩ : ∃ j, j = k + 3 := ⟨_, rfl⟩
  obtain ⟨k4, hk4⟩ : ∃ j, j = k + 4 := ⟨_, rfl⟩
  obtain ⟨k5, hk5⟩ : ∃ j, j = k + 5 := ⟨_, rfl⟩
  obtain ⟨k6, hk6⟩ : ∃ j, j = k + 6 := ⟨_, rfl⟩
  have c0 := hr.getD ad rfl k (by omega)
  have c1 := hr.getD ad rfl k1 (by omega)
  have c2 := hr.getD ad rfl k2 (by omega)
  have c3 := hr.getD ad rfl k3 (by omega)
  have c4 := hr.getD ad rfl k4 (by omega)
  have c5 := hr.getD ad rfl k5 (by omega)
  have b4 := u8_lt (l.getD k4 0)
  have b5 := u8_lt (l.getD k5 0)
  have b0 := u8_lt (l.getD k 0)
  have b1 := u8_lt (l.getD k1 0)
  have b2 := u8_lt (l.getD k2 0)
  have b3 := u8_lt (l.getD k3 0)
  have s4 : IntKind.i64.wrap ((k : Int) + 4) = (k4 : Int) := by rw [hk4]; exact IntWalk.i64_in _ (by omega)
  have s5 : IntKind.i64.wrap ((k : Int) + 5) = (k5 : Int) := by rw [hk5]; exact IntWalk.i64_in _ (by omega)
  have p4 : k4 < n := by omega
  have p5 : k5 < n := by omega
  have o := or2_i64 _ _ b4 b5
  have hmm : nAt l k = (l.getD k4 0).toNat + 256 * (l.getD k5 0).toNat := by unfold nAt; rw [hk4, hk5]
  obtain ⟨s1, s2, s3, o1, o2, o3, hs3⟩ := le4_read _ _ _ _ b0 b1 b2 b3
  have hcc : cAt l k = s3 := by unfold cAt; rw [hs3, hk1, hk2, hk3]
  have hx : Rd w w.heap.size 1 (some (ad.add k6)) (nAt l k) (B8 (xAt l k)) := by
    have h6 := (hr.cut (k := k6) (cap := c) (by omega) hc).take (k := nAt l k) (by omega)
    rw [if_neg (by omega)] at h6
    have e : B8 (xAt l k) = List.take (nAt l k * 1) (List.drop (k6 * 1) (B8 l)) := by
      unfold xAt B8
      rw [hk6, List.map_take, List.map_drop, Nat.mul_one, Nat.mul_one]
    rw [e]
    simpa using h6
  have hsl : ((k6 : Int) + (nAt l k : Int)).toNat - k6 = nAt l k := by omega
  have HX := Lib.hid hx
  have HS := Lib.hid hcc
  have hn1 : IntKind.i64.wrap ((k : Int) + 6) = (k6 : Int) := by rw [hk6]; exact IntWalk.i64_in _ (by omega)
  have hk6' : (k : Int) + 6 = (k6 : Int) := by omega
  have hk66 : k6 + nAt l k ≤ n := by omega
  have hk67 : n - k - 6 = n - k6 := by omega
  have s11 : IntKind.i64.wrap ((k : Int) + 1) = (k1 : Int) := by rw [hk1]; exact IntWalk.i64_in _ (by omega)
  have s12 : IntKind.i64.wrap ((k : Int) + 2) = (k2 : Int) := by rw [hk2]; exact IntWalk.i64_in _ (by omega)
  have s13 : IntKind.i64.wrap ((k : Int) + 3) = (k3 : Int) := by rw [hk3]; exact IntWalk.i64_in _ (by omega)
  have p0 : k < n := by omega
  have p1 : k1 < n := by omega
  have p2 : k2 < n := by omega
  have p3 : k3 < n := by omega
  have hend : (k6 : Int) + (nAt l k : Int) = ((k + 6 + nAt l k : Nat) : Int) := by omega
  have HE := Lib.hid hend; clear hend
  have hxl : (xAt l k).length = nAt l k := by have := hx.1; rw [B8_len] at this; omega
  have HXL := Lib.hid hxl; clear hxl
  have S11 := Lib.hid s11; clear s11
  have S12 := Lib.hid s12; clear s12
  have S13 := Lib.hid s13; clear s13
  generalize nAt l k = m at *
  rw [← hmm] at o
  have H1 := Lib.hid hk1
  have H2 := Lib.hid hk2
  have H3 := Lib.hid hk3
  clear hk4 hk5 hr hmm hcc hs3 hk1 hk2 hk3 hk6 hx
  generalize (l.getD k4 0).toNat = x4 at *
  generalize (l.getD k5 0).toNat = x5 at *
  generalize (l.getD k 0).toNat = x0 at *
  generalize (l.getD k1 0).toNat = x1 at *
  generalize (l.getD k2 0).toNat = x2 at *
  generalize (l.getD k3 0).toNat = x3 at *
  have hc1 := crc_lt (xAt l k)
  refine ⟨fun hsum => ?_, fun hsum => ?_⟩
  · have hne : (((crc (xAt l k) : Nat) : Int) != (s3 : Int)) = false := by rw [bne_eq_false_iff_eq, hsum, HS.out]
    have hHsum := Lib.hid hsum; clear hsum
    generalize xAt l k = x at *
    go_enter Try.func19, Try.ntmps19
    go_wp2
    go_quiet (fail)
    clear s4 s5 p4 p5
    go_wp2_with fail
    have s11 := S11.out
    have s12 := S12.out
    have s13 := S13.out
    go_quiet (fail)
    clear s11 s12 s13 p0 p1 p2 p3
    go_wp2_with (first | (go_at_call 22; refine (sum_any _ m _ x _ w.heap.size (HX.out.drewN _) (by omega)).mono ?_; rintro e w' ⟨rfl, rfl⟩) | (at_builtin; refine wpl_app rfl (.tmp 94) (.tmp 95) rfl w.heap.size _ [] rfl (OB.lit (w.drewN _) _ [] #[] 0 rfl rfl (Nat.le_refl _) (by unfold maxLen; omega)) w.heap.size _ m _ x rfl ((HX.out.drewN _).alloc (Nat.le_refl _) _) ?_ ?_ ?_))
    · simp; omega
    · simp
    · intro v1 w1 hown hg _
      go_wp2
      go_ret2
      refine ⟨v1, ret_pair HE.out, hown, ?_⟩
      exact ((below_drewN (Below.refl _ _) _).alloc (Nat.le_refl _) _).grown hg (by simp) (by intro k hk; cases hk; exact Nat.le_refl _)
  · have hne : (((crc (xAt l k) : Nat) : Int) != (s3 : Int)) = true := by rw [bne_iff_ne, ← HS.out]; intro h; exact hsum (by exact_mod_cast h)
    have hHsum := Lib.hid hsum; clear hsum
    generalize xAt l k = x at *
    go_enter Try.func19, Try.ntmps19
    go_wp2
    go_quiet (fail)
    clear s4 s5 p4 p5
    go_wp2_with fail
    have s11 := S11.out
    have s12 := S12.out
    have s13 := S13.out
    go_quiet (fail)
    clear s11 s12 s13 p0 p1 p2 p3
    go_wp2_with (first | (go_at_call 22; refine (sum_any _ m _ x _ w.heap.size (HX.out.drewN _) (by omega)).mono ?_; rintro e w' ⟨rfl, rfl⟩))
    go_ret2
    exact ⟨rfl, _, rfl⟩
end Go.Proofs.Ytkbkbgnnamckoaa
