/- The few examples that each statement of layer 2 asks first. -/
import Derived.Test.YtblpkcoapbkppaaCashTot
set_option linter.unusedSimpArgs false
set_option linter.unusedVariables false
namespace Go.Proofs.Ytblpkcoapbkppaa
open Go.RowKit
theorem t2a : ShOk 10 [1, 1, 1] := by decide
theorem t2b : shs 10 [1, 1, 1] = [4, 3, 3] := by decide +kernel
theorem t2c : ¬ ShOk 1 [] := by decide
set_option maxHeartbeats 4000000 in
theorem told2 (w : World) : Calls Try.prog 15 #[] w fun e w' => e = .returned (.bool true) ∧ Below w.heap.size w w' := by
  have ca := fun ws => add_c 2 3 ws (by decide) (by decide)
  rw [kept_yes (by decide)] at ca
  have cb := fun ws => add_c 9223372036854775807 1 ws (by decide) (by decide)
  rw [kept_no (by decide)] at cb
  have cc := fun ws => mul_k (-9223372036854775808) (-1) ws (by decide) (by decide)
  rw [kept_no (by decide)] at cc
  have CA := Lib.hid ca; have CB := Lib.hid cb; have CC := Lib.hid cc
  clear ca cb cc
  go_enter Try.func15, Try.ntmps15
  go_wp2_with fail
  refine (CA.out _).mono ?_
  rintro e w1 ⟨rfl, b1⟩
  have B1 := Lib.hid b1; clear b1
  go_wp2_with fail
  refine (CB.out _).mono ?_
  rintro e w2 ⟨rfl, b2⟩
  have B2 := Lib.hid (B1.out.trans (b2.mono B1.out.size)); clear b2
  go_wp2_with fail
  refine (CC.out _).mono ?_
  rintro e w3 ⟨rfl, b3⟩
  have B3 := Lib.hid (B2.out.trans (b3.mono B2.out.size)); clear b3
  go_wp2_with fail
  refine (share_c _ 3 3 10 [1, 1, 1] _ (rd_litI w3 [1, 1, 1] #[.int .i64 1, .int .i64 1, .int .i64 1] 3 rfl rfl _ _) (by unfold maxLen; omega)).mono ?_
  intro e w4 hq
  unfold ShPost at hq
  rw [if_pos t2a, t2b] at hq
  obtain ⟨v, rfl, own, b4⟩ := hq
  obtain ⟨g, c, rfl, _, _⟩ := own.block (by decide)
  have B4 := Lib.hid (show Below w.heap.size w w4 from (B3.out.alloc B3.out.size _).trans (b4.mono (by have := B3.out.size; simp; omega)))
  have own' := OI.form own
  obtain ⟨A', c', e', hc1, hc2, rd⟩ := own'
  injection e' with e1 e2 e3
  subst e1 e3
  have RD := Lib.hid rd
  clear own b4 rd hc1 hc2
  go_wp2_with fail
  refine (share_c none 0 0 1 [] _ Rd.nil (by unfold maxLen; omega)).mono ?_
  intro e w5 hq
  unfold ShPost at hq
  rw [if_neg t2c] at hq
  obtain ⟨rfl, b5⟩ := hq
  have B5 := Lib.hid (B4.out.trans (b5.mono B4.out.size))
  have R5 := RD.out.below b5
  obtain ⟨a0, l0, h0, _, c0⟩ := R5.num (k := 0) (by decide)
  obtain ⟨a1, l1, h1, _, c1⟩ := R5.num (k := 1) (by decide)
  obtain ⟨a2, l2, h2, _, c2⟩ := R5.num (k := 2) (by decide)
  injection h0 with h0
  injection h1 with h1
  injection h2 with h2
  subst h0 h1 h2
  change w5.cell? ⟨g, 0, none⟩ = some (.int .i64 4) at c0
  change w5.cell? ⟨g, 1, none⟩ = some (.int .i64 3) at c1
  change w5.cell? ⟨g, 2, none⟩ = some (.int .i64 3) at c2
  clear R5 RD
  go_wp2
  go_ret
  exact ⟨rfl, B5.out⟩
end Go.Proofs.Ytblpkcoapbkppaa
