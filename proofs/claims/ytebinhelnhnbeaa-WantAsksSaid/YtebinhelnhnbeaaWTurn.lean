/- The law WantTurned, walked (printed by genwturn.py). -/
import Derived.Test.YtebinhelnhnbeaaTold3
import Derived.Test.YtebinhelnhnbeaaOwnB
import Derived.Test.YtebinhelnhnbeaaWBounds0
import Derived.Test.YtebinhelnhnbeaaWRefGW
import Derived.Test.YtebinhelnhnbeaaCrc
set_option linter.unusedSimpArgs false
set_option linter.unusedVariables false
namespace Go.Proofs.Ytebinhelnhnbeaa
open Go.RowKit
theorem xor_neU (b x : Nat) (hx : x ≠ 0) : b ^^^ x ≠ b := by
  intro h
  have h2 : x ^^^ b = 0 ^^^ b := by rw [Nat.xor_comm, h]; simp
  exact hx (xor_inj h2)
theorem set_ne {l : List UInt8} {k : Nat} {z : UInt8} (hk : k < l.length) (hz : z ≠ l[k]) : l.set k z ≠ l := by
  intro e
  have h := congrArg (fun m => m[k]?) e
  simp [List.getElem?_eq_getElem hk] at h
  exact hz (by simpa [hk] using h)
/-- sojournref1.Get, by what Get answers. -/
theorem refget_is {x : W7} {k : Int} {l : List UInt8} (e : gW l = (x, k)) (hl : l.length ≤ 1000000000000) (w : World) : Calls Try.prog 45 #[.string ⟨l.toArray⟩] w fun e w' => e = .returned (.tuple #[x.val, .int .i64 k]) ∧ Below w.heap.size w w' := by
  have h := refget_w ⟨l.toArray⟩ l w (by simp) hl
  rw [hW_is, e] at h
  exact h
set_option maxRecDepth 100000 in
set_option maxHeartbeats 4000000 in
theorem wturned_no (x : W7) (a y : Int) (w : World) (hx : ¬ MayW x) : Calls Try.prog 16 #[x.val, .int .i64 a, .int .u8 y] w fun e w' => e = .returned (.bool true) ∧ Below w.heap.size w w' := by
  have T := Lib.hid told3
  have HP := Lib.hid (fun W => encW_no x W hx)
  simp only [W7.val] at HP
  clear hx
  unfold W7.val
  go_enter Try.func16, Try.ntmps16
  go_wp2_with fail
  refine (HP.out _).mono ?_
  rintro e w1 ⟨rfl, q⟩
  have B1 := Lib.hid (show Below w.heap.size w w1 from ((Below.refl _ _).alloc (Nat.le_refl _) _).trans (q.mono (by simp)))
  clear q
  go_wp2_with fail
  refine (T.out _).mono ?_
  rintro e w5 ⟨rfl, q⟩
  have B5 := Lib.hid (B1.out.trans (q.mono B1.out.size))
  clear q
  go_wp2
  go_ret
  exact ⟨rfl, B5.out⟩
set_option maxRecDepth 100000 in
set_option maxHeartbeats 4000000 in
theorem wturned_zero (x : W7) (a : Int) (w : World) (hx : MayW x) : Calls Try.prog 16 #[x.val, .int .i64 a, .int .u8 0] w fun e w' => e = .returned (.bool true) ∧ Below w.heap.size w w' := by
  have T := Lib.hid told3
  have HP := Lib.hid (fun W => encW_yes x W hx (MayW_fits _ hx))
  obtain ⟨l, hl⟩ : ∃ l, encW x = l := ⟨_, rfl⟩
  rw [hl] at HP
  clear hl hx
  simp only [W7.val] at HP
  unfold W7.val
  go_enter Try.func16, Try.ntmps16
  go_wp2_with fail
  refine (HP.out _).mono ?_
  rintro e w1 ⟨v1, rfl, ob, q⟩
  clear ob
  have B1 := Lib.hid (show Below w.heap.size w w1 from ((Below.refl _ _).alloc (Nat.le_refl _) _).trans (q.mono (by simp)))
  clear q
  go_wp2_with fail
  refine (T.out _).mono ?_
  rintro e w5 ⟨rfl, q⟩
  have B5 := Lib.hid (B1.out.trans (q.mono B1.out.size))
  clear q
  go_wp2
  go_ret
  exact ⟨rfl, B5.out⟩
end Go.Proofs.Ytebinhelnhnbeaa
