/- The law WantKinds, walked (printed by genwkinds.py). -/
import Derived.Test.YtebinhelnhnbeaaWKinds0
set_option linter.unusedSimpArgs false
set_option linter.unusedVariables false
namespace Go.Proofs.Ytebinhelnhnbeaa
open Go.RowKit
set_option maxRecDepth 100000 in
set_option maxHeartbeats 3000000 in
theorem kinds6 (a b c d : Int) (w : World) (hk : (IntKind.u64.wrap a).tmod 6 = 5) : Calls Try.prog 15 #[.int .i64 a, .int .i64 b, .int .i64 c, .int .i64 d] w fun e w' => e = .returned (.bool true) ∧ Below w.heap.size w w' := by
  obtain ⟨u, hu, hu2⟩ := u_rem b 3 (by omega)
  obtain ⟨y, hy, hy2⟩ := u_rem c 3 (by omega)
  obtain ⟨z, hz, hz2⟩ := u_rem d 3 (by omega)
  have T := Lib.hid told3
  have eu : u = 0 ∨ u = 1 ∨ u = 2 := by omega
  have ey : y = 0 ∨ y = 1 ∨ y = 2 := by omega
  have ez : z = 0 ∨ z = 1 ∨ z = 2 := by omega
  rcases eu with rfl | rfl | rfl
  · rcases ey with rfl | rfl | rfl
    · rcases ez with rfl | rfl | rfl
      · have hm : MayO ⟨6, 5, 0, 0, 0⟩ := by decide +kernel
        have HP := Lib.hid (fun W => encO_yes ⟨6, 5, 0, 0, 0⟩ W hm (MayO_fits _ hm))
        have HN := Lib.hid (fun W => may_isO ⟨6, 5, 0, 0, 0⟩ true (decide_eq_true hm) W)
        obtain ⟨l, hl⟩ : ∃ l, encO ⟨6, 5, 0, 0, 0⟩ = l := ⟨_, rfl⟩
        have hp : 0 < l.length := by rw [← hl]; exact encO_pos _
        obtain ⟨n, hn⟩ : ∃ n, l.length = n := ⟨_, rfl⟩
        rw [hn] at hp
        rw [hl] at HP
        have HL := Lib.hid hn
        clear hm hl hn
        simp only [O5.val] at HP HN
        go_enter Try.func15, Try.ntmps15
        go_wp2_with fail
        refine (HP.out _).mono ?_
        rintro e w1 ⟨v1, rfl, ob1, b1⟩
        obtain ⟨A1, c1, rfl, _, _, _⟩ := ob1.form
        rw [HL.out] at *
        clear ob1
        have HX1 := Lib.hid ((b1.block w.heap.size (by simp)).trans (heap_alloc_new w (.cells #[.int .i64 6, .int .i64 5, .int .i64 0, .int .i64 0, .int .i64 0] 65)))
        have B1 := Lib.hid (show Below w.heap.size w w1 from ((Below.refl _ _).alloc (Nat.le_refl _) _).trans (b1.mono (by simp)))
        have s1 : w.heap.size < w1.heap.size := by have := b1.size; simp at this; omega
        clear b1
        go_wp2_with fail
        refine (T.out _).mono ?_
        rintro e w2 ⟨rfl, b2⟩
        have HX2 := (b2.block w.heap.size s1).trans HX1.out
        have B2 := Lib.hid (B1.out.trans (b2.mono (by omega)))
        have x0 : w2.cell? ⟨w.heap.size, 0, none⟩ = some (.int .i64 6) := by rw [cellsW HX2]; rfl
        have x1 : w2.cell? ⟨w.heap.size, 1, none⟩ = some (.int .i64 5) := by rw [cellsW HX2]; rfl
        have x2 : w2.cell? ⟨w.heap.size, 2, none⟩ = some (.int .i64 0) := by rw [cellsW HX2]; rfl
        have x3 : w2.cell? ⟨w.heap.size, 3, none⟩ = some (.int .i64 0) := by rw [cellsW HX2]; rfl
        have x4 : w2.cell? ⟨w.heap.size, 4, none⟩ = some (.int .i64 0) := by rw [cellsW HX2]; rfl
        clear b2 HX2
        go_wp2_with fail
        refine (HN.out _).mono ?_
        rintro e w3 ⟨rfl, b3⟩
        have B3 := Lib.hid (B2.out.trans (b3.mono (by have := B2.out.size; omega)))
        clear b3
        go_wp2
        go_ret
        exact ⟨rfl, B3.out⟩
      · have hm : ¬ MayO ⟨6, 5, 0, 0, 1⟩ := fun h => by have h1 := h.2.2.1; have h2 := h.2.2.2; simp [UnitsO, MoneyO] at h1 h2
        have HP := Lib.hid (fun W => encO_no ⟨6, 5, 0, 0, 1⟩ W hm)
        have HN := Lib.hid (fun W => may_isO ⟨6, 5, 0, 0, 1⟩ false (decide_eq_false hm) W)
        clear hm
        simp only [O5.val] at HP HN
        go_enter Try.func15, Try.ntmps15
        go_wp2_with fail
        refine (HP.out _).mono ?_
        rintro e w1 ⟨rfl, b1⟩
        have HX1 := Lib.hid ((b1.block w.heap.size (by simp)).trans (heap_alloc_new w (.cells #[.int .i64 6, .int .i64 5, .int .i64 0, .int .i64 0, .int .i64 1] 65)))
        have B1 := Lib.hid (show Below w.heap.size w w1 from ((Below.refl _ _).alloc (Nat.le_refl _) _).trans (b1.mono (by simp)))
        have s1 : w.heap.size < w1.heap.size := by have := b1.size; simp at this; omega
        clear b1
        go_wp2_with fail
        refine (T.out _).mono ?_
        rintro e w2 ⟨rfl, b2⟩
        have HX2 := (b2.block w.heap.size s1).trans HX1.out
        have B2 := Lib.hid (B1.out.trans (b2.mono (by omega)))
        have x0 : w2.cell? ⟨w.heap.size, 0, none⟩ = some (.int .i64 6) := by rw [cellsW HX2]; rfl
        have x1 : w2.cell? ⟨w.heap.size, 1, none⟩ = some (.int .i64 5) := by rw [cellsW HX2]; rfl
        have x2 : w2.cell? ⟨w.heap.size, 2, none⟩ = some (.int .i64 0) := by rw [cellsW HX2]; rfl
        have x3 : w2.cell? ⟨w.heap.size, 3, none⟩ = some (.int .i64 0) := by rw [cellsW HX2]; rfl
        have x4 : w2.cell? ⟨w.heap.size, 4, none⟩ = some (.int .i64 1) := by rw [cellsW HX2]; rfl
        clear b2 HX2
        go_wp2_with fail
        refine (HN.out _).mono ?_
        rintro e w3 ⟨rfl, b3⟩
        have B3 := Lib.hid (B2.out.trans (b3.mono (by have := B2.out.size; omega)))
        clear b3
        go_wp2
        go_ret
        exact ⟨rfl, B3.out⟩
      · have hm : ¬ MayO ⟨6, 5, 0, 0, 2⟩ := fun h => by have h1 := h.2.2.1; have h2 := h.2.2.2; simp [UnitsO, MoneyO] at h1 h2
        have HP := Lib.hid (fun W => encO_no ⟨6, 5, 0, 0, 2⟩ W hm)
        have HN := Lib.hid (fun W => may_isO ⟨6, 5, 0, 0, 2⟩ false (decide_eq_false hm) W)
        clear hm
        simp only [O5.val] at HP HN
        go_enter Try.func15, Try.ntmps15
        go_wp2_with fail
        refine (HP.out _).mono ?_
        rintro e w1 ⟨rfl, b1⟩
        have HX1 := Lib.hid ((b1.block w.heap.size (by simp)).trans (heap_alloc_new w (.cells #[.int .i64 6, .int .i64 5, .int .i64 0, .int .i64 0, .int .i64 2] 65)))
        have B1 := Lib.hid (show Below w.heap.size w w1 from ((Below.refl _ _).alloc (Nat.le_refl _) _).trans (b1.mono (by simp)))
        have s1 : w.heap.size < w1.heap.size := by have := b1.size; simp at this; omega
        clear b1
        go_wp2_with fail
        refine (T.out _).mono ?_
        rintro e w2 ⟨rfl, b2⟩
        have HX2 := (b2.block w.heap.size s1).trans HX1.out
        have B2 := Lib.hid (B1.out.trans (b2.mono (by omega)))
        have x0 : w2.cell? ⟨w.heap.size, 0, none⟩ = some (.int .i64 6) := by rw [cellsW HX2]; rfl
        have x1 : w2.cell? ⟨w.heap.size, 1, none⟩ = some (.int .i64 5) := by rw [cellsW HX2]; rfl
        have x2 : w2.cell? ⟨w.heap.size, 2, none⟩ = some (.int .i64 0) := by rw [cellsW HX2]; rfl
        have x3 : w2.cell? ⟨w.heap.size, 3, none⟩ = some (.int .i64 0) := by rw [cellsW HX2]; rfl
        have x4 : w2.cell? ⟨w.heap.size, 4, none⟩ = some (.int .i64 2) := by rw [cellsW HX2]; rfl
        clear b2 HX2
        go_wp2_with fail
        refine (HN.out _).mono ?_
        rintro e w3 ⟨rfl, b3⟩
        have B3 := Lib.hid (B2.out.trans (b3.mono (by have := B2.out.size; omega)))
        clear b3
        go_wp2
        go_ret
        exact ⟨rfl, B3.out⟩
    · have hm : ¬ MayO ⟨6, 5, 0, 1, (z : Int)⟩ := fun h => by have h1 := h.2.2.1; have h2 := h.2.2.2; simp [UnitsO, MoneyO] at h1 h2
      have HP := Lib.hid (fun W => encO_no ⟨6, 5, 0, 1, (z : Int)⟩ W hm)
      have HN := Lib.hid (fun W => may_isO ⟨6, 5, 0, 1, (z : Int)⟩ false (decide_eq_false hm) W)
      clear hm
      simp only [O5.val] at HP HN
      go_enter Try.func15, Try.ntmps15
      go_wp2_with fail
      refine (HP.out _).mono ?_
      rintro e w1 ⟨rfl, b1⟩
      have HX1 := Lib.hid ((b1.block w.heap.size (by simp)).trans (heap_alloc_new w (.cells #[.int .i64 6, .int .i64 5, .int .i64 0, .int .i64 1, .int .i64 (z : Int)] 65)))
      have B1 := Lib.hid (show Below w.heap.size w w1 from ((Below.refl _ _).alloc (Nat.le_refl _) _).trans (b1.mono (by simp)))
      have s1 : w.heap.size < w1.heap.size := by have := b1.size; simp at this; omega
      clear b1
      go_wp2_with fail
      refine (T.out _).mono ?_
      rintro e w2 ⟨rfl, b2⟩
      have HX2 := (b2.block w.heap.size s1).trans HX1.out
      have B2 := Lib.hid (B1.out.trans (b2.mono (by omega)))
      have x0 : w2.cell? ⟨w.heap.size, 0, none⟩ = some (.int .i64 6) := by rw [cellsW HX2]; rfl
      have x1 : w2.cell? ⟨w.heap.size, 1, none⟩ = some (.int .i64 5) := by rw [cellsW HX2]; rfl
      have x2 : w2.cell? ⟨w.heap.size, 2, none⟩ = some (.int .i64 0) := by rw [cellsW HX2]; rfl
      have x3 : w2.cell? ⟨w.heap.size, 3, none⟩ = some (.int .i64 1) := by rw [cellsW HX2]; rfl
      have x4 : w2.cell? ⟨w.heap.size, 4, none⟩ = some (.int .i64 (z : Int)) := by rw [cellsW HX2]; rfl
      clear b2 HX2
      go_wp2_with fail
      refine (HN.out _).mono ?_
      rintro e w3 ⟨rfl, b3⟩
      have B3 := Lib.hid (B2.out.trans (b3.mono (by have := B2.out.size; omega)))
      clear b3
      go_wp2
      go_ret
      exact ⟨rfl, B3.out⟩
    · have hm : ¬ MayO ⟨6, 5, 0, 2, (z : Int)⟩ := fun h => by have h1 := h.2.2.1; have h2 := h.2.2.2; simp [UnitsO, MoneyO] at h1 h2
      have HP := Lib.hid (fun W => encO_no ⟨6, 5, 0, 2, (z : Int)⟩ W hm)
      have HN := Lib.hid (fun W => may_isO ⟨6, 5, 0, 2, (z : Int)⟩ false (decide_eq_false hm) W)
      clear hm
      simp only [O5.val] at HP HN
      go_enter Try.func15, Try.ntmps15
      go_wp2_with fail
      refine (HP.out _).mono ?_
      rintro e w1 ⟨rfl, b1⟩
      have HX1 := Lib.hid ((b1.block w.heap.size (by simp)).trans (heap_alloc_new w (.cells #[.int .i64 6, .int .i64 5, .int .i64 0, .int .i64 2, .int .i64 (z : Int)] 65)))
      have B1 := Lib.hid (show Below w.heap.size w w1 from ((Below.refl _ _).alloc (Nat.le_refl _) _).trans (b1.mono (by simp)))
      have s1 : w.heap.size < w1.heap.size := by have := b1.size; simp at this; omega
      clear b1
      go_wp2_with fail
      refine (T.out _).mono ?_
      rintro e w2 ⟨rfl, b2⟩
      have HX2 := (b2.block w.heap.size s1).trans HX1.out
      have B2 := Lib.hid (B1.out.trans (b2.mono (by omega)))
      have x0 : w2.cell? ⟨w.heap.size, 0, none⟩ = some (.int .i64 6) := by rw [cellsW HX2]; rfl
      have x1 : w2.cell? ⟨w.heap.size, 1, none⟩ = some (.int .i64 5) := by rw [cellsW HX2]; rfl
      have x2 : w2.cell? ⟨w.heap.size, 2, none⟩ = some (.int .i64 0) := by rw [cellsW HX2]; rfl
      have x3 : w2.cell? ⟨w.heap.size, 3, none⟩ = some (.int .i64 2) := by rw [cellsW HX2]; rfl
      have x4 : w2.cell? ⟨w.heap.size, 4, none⟩ = some (.int .i64 (z : Int)) := by rw [cellsW HX2]; rfl
      clear b2 HX2
      go_wp2_with fail
      refine (HN.out _).mono ?_
      rintro e w3 ⟨rfl, b3⟩
      have B3 := Lib.hid (B2.out.trans (b3.mono (by have := B2.out.size; omega)))
      clear b3
      go_wp2
      go_ret
      exact ⟨rfl, B3.out⟩
  · have hm : ¬ MayO ⟨6, 5, 1, (y : Int), (z : Int)⟩ := fun h => by have h1 := h.2.2.1; have h2 := h.2.2.2; simp [UnitsO, MoneyO] at h1 h2
    have HP := Lib.hid (fun W => encO_no ⟨6, 5, 1, (y : Int), (z : Int)⟩ W hm)
    have HN := Lib.hid (fun W => may_isO ⟨6, 5, 1, (y : Int), (z : Int)⟩ false (decide_eq_false hm) W)
    clear hm
    simp only [O5.val] at HP HN
    go_enter Try.func15, Try.ntmps15
    go_wp2_with fail
    refine (HP.out _).mono ?_
    rintro e w1 ⟨rfl, b1⟩
    have HX1 := Lib.hid ((b1.block w.heap.size (by simp)).trans (heap_alloc_new w (.cells #[.int .i64 6, .int .i64 5, .int .i64 1, .int .i64 (y : Int), .int .i64 (z : Int)] 65)))
    have B1 := Lib.hid (show Below w.heap.size w w1 from ((Below.refl _ _).alloc (Nat.le_refl _) _).trans (b1.mono (by simp)))
    have s1 : w.heap.size < w1.heap.size := by have := b1.size; simp at this; omega
    clear b1
    go_wp2_with fail
    refine (T.out _).mono ?_
    rintro e w2 ⟨rfl, b2⟩
    have HX2 := (b2.block w.heap.size s1).trans HX1.out
    have B2 := Lib.hid (B1.out.trans (b2.mono (by omega)))
    have x0 : w2.cell? ⟨w.heap.size, 0, none⟩ = some (.int .i64 6) := by rw [cellsW HX2]; rfl
    have x1 : w2.cell? ⟨w.heap.size, 1, none⟩ = some (.int .i64 5) := by rw [cellsW HX2]; rfl
    have x2 : w2.cell? ⟨w.heap.size, 2, none⟩ = some (.int .i64 1) := by rw [cellsW HX2]; rfl
    have x3 : w2.cell? ⟨w.heap.size, 3, none⟩ = some (.int .i64 (y : Int)) := by rw [cellsW HX2]; rfl
    have x4 : w2.cell? ⟨w.heap.size, 4, none⟩ = some (.int .i64 (z : Int)) := by rw [cellsW HX2]; rfl
    clear b2 HX2
    go_wp2_with fail
    refine (HN.out _).mono ?_
    rintro e w3 ⟨rfl, b3⟩
    have B3 := Lib.hid (B2.out.trans (b3.mono (by have := B2.out.size; omega)))
    clear b3
    go_wp2
    go_ret
    exact ⟨rfl, B3.out⟩
  · have hm : ¬ MayO ⟨6, 5, 2, (y : Int), (z : Int)⟩ := fun h => by have h1 := h.2.2.1; have h2 := h.2.2.2; simp [UnitsO, MoneyO] at h1 h2
    have HP := Lib.hid (fun W => encO_no ⟨6, 5, 2, (y : Int), (z : Int)⟩ W hm)
    have HN := Lib.hid (fun W => may_isO ⟨6, 5, 2, (y : Int), (z : Int)⟩ false (decide_eq_false hm) W)
    clear hm
    simp only [O5.val] at HP HN
    go_enter Try.func15, Try.ntmps15
    go_wp2_with fail
    refine (HP.out _).mono ?_
    rintro e w1 ⟨rfl, b1⟩
    have HX1 := Lib.hid ((b1.block w.heap.size (by simp)).trans (heap_alloc_new w (.cells #[.int .i64 6, .int .i64 5, .int .i64 2, .int .i64 (y : Int), .int .i64 (z : Int)] 65)))
    have B1 := Lib.hid (show Below w.heap.size w w1 from ((Below.refl _ _).alloc (Nat.le_refl _) _).trans (b1.mono (by simp)))
    have s1 : w.heap.size < w1.heap.size := by have := b1.size; simp at this; omega
    clear b1
    go_wp2_with fail
    refine (T.out _).mono ?_
    rintro e w2 ⟨rfl, b2⟩
    have HX2 := (b2.block w.heap.size s1).trans HX1.out
    have B2 := Lib.hid (B1.out.trans (b2.mono (by omega)))
    have x0 : w2.cell? ⟨w.heap.size, 0, none⟩ = some (.int .i64 6) := by rw [cellsW HX2]; rfl
    have x1 : w2.cell? ⟨w.heap.size, 1, none⟩ = some (.int .i64 5) := by rw [cellsW HX2]; rfl
    have x2 : w2.cell? ⟨w.heap.size, 2, none⟩ = some (.int .i64 2) := by rw [cellsW HX2]; rfl
    have x3 : w2.cell? ⟨w.heap.size, 3, none⟩ = some (.int .i64 (y : Int)) := by rw [cellsW HX2]; rfl
    have x4 : w2.cell? ⟨w.heap.size, 4, none⟩ = some (.int .i64 (z : Int)) := by rw [cellsW HX2]; rfl
    clear b2 HX2
    go_wp2_with fail
    refine (HN.out _).mono ?_
    rintro e w3 ⟨rfl, b3⟩
    have B3 := Lib.hid (B2.out.trans (b3.mono (by have := B2.out.size; omega)))
    clear b3
    go_wp2
    go_ret
    exact ⟨rfl, B3.out⟩
end Go.Proofs.Ytebinhelnhnbeaa
