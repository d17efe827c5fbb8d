/- The few examples that each statement of layer 3 asks first. -/
import Derived.Test.YtebinhelnhnbeaaWSame
import Derived.Test.YtebinhelnhnbeaaWPure
import Derived.Test.YtebinhelnhnbeaaWGetW2
import Derived.Test.YtebinhelnhnbeaaWGetO2
import Derived.Test.YtebinhelnhnbeaaWOp
set_option linter.unusedSimpArgs false
set_option linter.unusedVariables false
namespace Go.Proofs.Ytebinhelnhnbeaa
open Go.RowKit
def x3 : W7 := ⟨1, 0, 0, 0, 1, 0, 5⟩
def y3 : W7 := ⟨1, 0, 0, 0, 0, 0, 0⟩
def o3 : O5 := ⟨1, 2, 3, 0, 0⟩
def z7 : W7 := ⟨0, 0, 0, 0, 0, 0, 0⟩
def z5 : O5 := ⟨0, 0, 0, 0, 0⟩
theorem mx3 : MayW x3 := by decide +kernel
theorem mo3 : MayO o3 := by decide +kernel
theorem gW_nil : gW [] = (z7, 2) := by decide +kernel
/-- Get of a want's bytes, in one spelling. -/
theorem get_is {x : W7} {k : Int} {l : List UInt8} (e : gW l = (x, k)) (A : Option Addr) (n c : Nat) (w : World) (hr : Rd w w.heap.size 1 A n (B8 l)) (hn : n ≤ 100000000) :
    Calls Try.prog 39 #[.slice A n c] w fun e w' => e = .returned (.tuple #[x.val, .int .i64 k]) ∧ Below w.heap.size w w' := by
  have h := get_w A n c l w hr hn
  unfold GW at h
  rw [e] at h
  exact h
theorem getop_is {x : O5} {k : Int} {l : List UInt8} (e : gO l = (x, k)) (A : Option Addr) (n c : Nat) (w : World) (hr : Rd w w.heap.size 1 A n (B8 l)) (hn : n ≤ 100000000) :
    Calls Try.prog 46 #[.slice A n c] w fun e w' => e = .returned (.tuple #[x.val, .int .i64 k]) ∧ Below w.heap.size w w' := by
  have h := getop_w A n c l w hr hn
  unfold GO at h
  rw [e] at h
  exact h
set_option maxRecDepth 100000 in
set_option maxHeartbeats 4000000 in
theorem told3 (w : World) : Calls Try.prog 36 #[] w fun e w' => e = .returned (.bool true) ∧ Below w.heap.size w w' := by
  have HP := Lib.hid (fun W => encW_yes x3 W mx3 (MayW_fits _ mx3))
  have HQ := Lib.hid (fun W => encO_yes o3 W mo3 (MayO_fits _ mo3))
  obtain ⟨l, hl⟩ : ∃ l, encW x3 = l := ⟨_, rfl⟩
  obtain ⟨m, hm⟩ : ∃ m, encO o3 = m := ⟨_, rfl⟩
  have hl1 : l.length ≤ 100 := by rw [← hl]; decide +kernel
  have hm1 : m.length ≤ 100 := by rw [← hm]; decide +kernel
  have HG := Lib.hid (fun A c (w : World) (hr : Rd w w.heap.size 1 A l.length (B8 l)) => get_is (show gW l = (x3, 0) from hl ▸ gW_yes x3 mx3) A l.length c w hr (by omega))
  have HG0 := Lib.hid (fun (w : World) => get_is gW_nil none 0 0 w Rd.nil (by omega))
  have HO := Lib.hid (fun A c (w : World) (hr : Rd w w.heap.size 1 A m.length (B8 m)) => getop_is (show gO m = (o3, 0) from hm ▸ gO_yes o3 mo3) A m.length c w hr (by omega))
  have HM1 := Lib.hid (fun W => may_isW x3 true (by decide +kernel) W)
  have HM2 := Lib.hid (fun W => may_isW y3 false (by decide +kernel) W)
  have HN1 := Lib.hid (fun W => may_isO o3 true (by decide +kernel) W)
  have HN2 := Lib.hid (fun W => may_isO z5 false (by decide +kernel) W)
  have e7 := sameW x3 x3 true (by decide +kernel)
  have e5 := sameO o3 o3 true (by decide +kernel)
  rw [hl] at HP
  rw [hm] at HQ
  obtain ⟨ln, hln⟩ : ∃ n, l.length = n := ⟨_, rfl⟩
  obtain ⟨mn, hmn⟩ : ∃ n, m.length = n := ⟨_, rfl⟩
  have HLN := Lib.hid hln
  have HMN := Lib.hid hmn
  rw [hln] at HG hl1
  rw [hmn] at HO hm1
  clear hl hm hln hmn
  simp only [W7.val, O5.val, x3, y3, o3, z7, z5] at HP HQ HG HG0 HO HM1 HM2 HN1 HN2 e7 e5
  go_enter Try.func36, Try.ntmps36
  go_wp2_with fail
  refine (HP.out _).mono ?_
  rintro e w1 ⟨v1, rfl, ob1, b1⟩
  obtain ⟨A1, c1, rfl, _, _, r1⟩ := ob1.form
  rw [HLN.out] at *
  have R1 := Lib.hid r1
  have HX1 := Lib.hid ((b1.block w.heap.size (by simp)).trans (heap_alloc_new w (.cells #[.int .i64 1, .int .i64 0, .int .i64 0, .int .i64 0, .int .i64 1, .int .i64 0, .int .i64 5] 57)))
  have B1 := Lib.hid (show Below w.heap.size w w1 from ((Below.refl _ _).alloc (Nat.le_refl _) _).trans (b1.mono (by simp)))
  have s1 : w.heap.size < w1.heap.size := by have := b1.size; simp at this; omega
  clear r1 b1 ob1
  go_wp2_with fail
  refine (HG.out _ _ _ R1.out).mono ?_
  rintro e w2 ⟨rfl, b2⟩
  have HX2 := Lib.hid ((b2.block w.heap.size s1).trans HX1.out)
  have B2 := Lib.hid (B1.out.trans (b2.mono (by omega)))
  have s2 : w.heap.size < w2.heap.size := by have := b2.size; omega
  clear b2
  go_wp2_with fail
  refine (HG0.out _).mono ?_
  rintro e w3 ⟨rfl, b3⟩
  have HX3 := Lib.hid ((b3.block w.heap.size (by simp; omega)).trans ((Below.heap_alloc _ _ _ s2).trans HX2.out))
  have HY3 := Lib.hid ((b3.block w2.heap.size (by simp)).trans (heap_alloc_new w2 (.cells #[.int .i64 1, .int .i64 0, .int .i64 0, .int .i64 0, .int .i64 1, .int .i64 0, .int .i64 5] 57)))
  have B3 := Lib.hid ((B2.out.alloc (by omega) _).trans (b3.mono (by simp; omega)))
  have s3 : w2.heap.size < w3.heap.size := by have := b3.size; simp at this; omega
  clear b3
  go_wp2_with fail
  refine (HQ.out _).mono ?_
  rintro e w4 ⟨v4, rfl, ob4, b4⟩
  obtain ⟨A4, c4, rfl, _, _, r4⟩ := ob4.form
  rw [HMN.out] at *
  have R4 := Lib.hid r4
  have HX4 := Lib.hid ((b4.block w.heap.size (by simp; omega)).trans ((Below.heap_alloc _ _ _ (by simp; omega)).trans ((Below.heap_alloc _ _ _ (by omega)).trans HX3.out)))
  have HY4 := Lib.hid ((b4.block w2.heap.size (by simp; omega)).trans ((Below.heap_alloc _ _ _ (by simp; omega)).trans ((Below.heap_alloc _ _ _ (by omega)).trans HY3.out)))
  have hz4 : ((w3.alloc (.cells #[.int .i64 0, .int .i64 0, .int .i64 0, .int .i64 0, .int .i64 0, .int .i64 0, .int .i64 0] 57)).alloc (.cells #[.int .i64 1, .int .i64 2, .int .i64 3, .int .i64 0, .int .i64 0] 65)).heap[w3.heap.size + 1]? = some (.cells #[.int .i64 1, .int .i64 2, .int .i64 3, .int .i64 0, .int .i64 0] 65) := by
    have hz := heap_alloc_new (w3.alloc (.cells #[.int .i64 0, .int .i64 0, .int .i64 0, .int .i64 0, .int .i64 0, .int .i64 0, .int .i64 0] 57)) (.cells #[.int .i64 1, .int .i64 2, .int .i64 3, .int .i64 0, .int .i64 0] 65)
    rw [show (w3.alloc (.cells #[.int .i64 0, .int .i64 0, .int .i64 0, .int .i64 0, .int .i64 0, .int .i64 0, .int .i64 0] 57)).heap.size = w3.heap.size + 1 from by simp] at hz
    exact hz
  have HZ4 := Lib.hid ((b4.block (w3.heap.size + 1) (by simp)).trans hz4)
  have B4 := Lib.hid (((B3.out.alloc (by omega) _).alloc (by simp; omega) _).trans (b4.mono (by simp; omega)))
  have s4 : w3.heap.size + 1 < w4.heap.size := by have := b4.size; simp at this; omega
  clear r4 b4 ob4 hz4
  go_wp2_with fail
  refine (HO.out _ _ _ R4.out).mono ?_
  rintro e w5 ⟨rfl, b5⟩
  have s5 : w3.heap.size + 1 < w5.heap.size := by have := b5.size; omega
  have HX5 := (b5.block w.heap.size (by omega)).trans HX4.out
  have HY5 := (b5.block w2.heap.size (by omega)).trans HY4.out
  have HZ5 := (b5.block (w3.heap.size + 1) (by omega)).trans HZ4.out
  have B5 := Lib.hid (B4.out.trans (b5.mono (by omega)))
  have s5a : w.heap.size < w5.heap.size := by omega
  have s5b : w2.heap.size < w5.heap.size := by omega
  have x0 : w5.cell? ⟨w.heap.size, 0, none⟩ = some (.int .i64 1) := by rw [cellsW HX5]; rfl
  have x1 : w5.cell? ⟨w.heap.size, 1, none⟩ = some (.int .i64 0) := by rw [cellsW HX5]; rfl
  have x2 : w5.cell? ⟨w.heap.size, 2, none⟩ = some (.int .i64 0) := by rw [cellsW HX5]; rfl
  have x3 : w5.cell? ⟨w.heap.size, 3, none⟩ = some (.int .i64 0) := by rw [cellsW HX5]; rfl
  have x4 : w5.cell? ⟨w.heap.size, 4, none⟩ = some (.int .i64 1) := by rw [cellsW HX5]; rfl
  have x5 : w5.cell? ⟨w.heap.size, 5, none⟩ = some (.int .i64 0) := by rw [cellsW HX5]; rfl
  have x6 : w5.cell? ⟨w.heap.size, 6, none⟩ = some (.int .i64 5) := by rw [cellsW HX5]; rfl
  have y0 : w5.cell? ⟨w2.heap.size, 0, none⟩ = some (.int .i64 1) := by rw [cellsW HY5]; rfl
  have y1 : w5.cell? ⟨w2.heap.size, 1, none⟩ = some (.int .i64 0) := by rw [cellsW HY5]; rfl
  have y2 : w5.cell? ⟨w2.heap.size, 2, none⟩ = some (.int .i64 0) := by rw [cellsW HY5]; rfl
  have y3 : w5.cell? ⟨w2.heap.size, 3, none⟩ = some (.int .i64 0) := by rw [cellsW HY5]; rfl
  have y4 : w5.cell? ⟨w2.heap.size, 4, none⟩ = some (.int .i64 1) := by rw [cellsW HY5]; rfl
  have y5 : w5.cell? ⟨w2.heap.size, 5, none⟩ = some (.int .i64 0) := by rw [cellsW HY5]; rfl
  have y6 : w5.cell? ⟨w2.heap.size, 6, none⟩ = some (.int .i64 5) := by rw [cellsW HY5]; rfl
  have z0 : w5.cell? ⟨w3.heap.size + 1, 0, none⟩ = some (.int .i64 1) := by rw [cellsW HZ5]; rfl
  have z1 : w5.cell? ⟨w3.heap.size + 1, 1, none⟩ = some (.int .i64 2) := by rw [cellsW HZ5]; rfl
  have z2 : w5.cell? ⟨w3.heap.size + 1, 2, none⟩ = some (.int .i64 3) := by rw [cellsW HZ5]; rfl
  have z3 : w5.cell? ⟨w3.heap.size + 1, 3, none⟩ = some (.int .i64 0) := by rw [cellsW HZ5]; rfl
  have z4 : w5.cell? ⟨w3.heap.size + 1, 4, none⟩ = some (.int .i64 0) := by rw [cellsW HZ5]; rfl
  have Z5 := Lib.hid HZ5
  clear b5 HX5 HY5 HZ5
  go_wp2_with fail
  refine (HM1.out _).mono ?_
  rintro e w6 ⟨rfl, b6⟩
  have Z6 := Lib.hid ((b6.block (w3.heap.size + 1) (by simp; omega)).trans ((Below.heap_alloc _ _ _ s5).trans Z5.out))
  have B6 := Lib.hid ((B5.out.alloc (by omega) _).trans (b6.mono (by simp; omega)))
  have s6 : w3.heap.size + 1 < w6.heap.size := by have := b6.size; simp at this; omega
  clear b6
  go_wp2_with fail
  refine (HM2.out _).mono ?_
  rintro e w7 ⟨rfl, b7⟩
  have Z7 := (b7.block (w3.heap.size + 1) s6).trans Z6.out
  have B7 := Lib.hid (B6.out.trans (b7.mono (by omega)))
  have s7 : w3.heap.size + 1 < w7.heap.size := by have := b7.size; omega
  have t0 : w7.cell? ⟨w3.heap.size + 1, 0, none⟩ = some (.int .i64 1) := by rw [cellsW Z7]; rfl
  have t1 : w7.cell? ⟨w3.heap.size + 1, 1, none⟩ = some (.int .i64 2) := by rw [cellsW Z7]; rfl
  have t2 : w7.cell? ⟨w3.heap.size + 1, 2, none⟩ = some (.int .i64 3) := by rw [cellsW Z7]; rfl
  have t3 : w7.cell? ⟨w3.heap.size + 1, 3, none⟩ = some (.int .i64 0) := by rw [cellsW Z7]; rfl
  have t4 : w7.cell? ⟨w3.heap.size + 1, 4, none⟩ = some (.int .i64 0) := by rw [cellsW Z7]; rfl
  clear b7 Z7
  go_wp2_with fail
  refine (HN1.out _).mono ?_
  rintro e w8 ⟨rfl, b8⟩
  have B8' := Lib.hid (B7.out.trans (b8.mono (by omega)))
  have s8 : w3.heap.size + 1 < w8.heap.size := by have := b8.size; omega
  clear b8
  go_wp2_with fail
  refine (HN2.out _).mono ?_
  rintro e w9 ⟨rfl, b9⟩
  have B9 := Lib.hid (B8'.out.trans (b9.mono (by omega)))
  clear b9
  go_wp2
  go_ret
  exact ⟨rfl, B9.out⟩
end Go.Proofs.Ytebinhelnhnbeaa
