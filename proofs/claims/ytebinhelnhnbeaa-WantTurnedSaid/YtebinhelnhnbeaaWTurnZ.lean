/- The law WantTurned, walked (printed by genwturn.py). -/
import Derived.Test.YtebinhelnhnbeaaWTurn
import Derived.Test.YtebinhelnhnbeaaWTurnM
import Derived.Test.YtebinhelnhnbeaaWTurnB
import Derived.Test.YtebinhelnhnbeaaOwnB
import Derived.Test.YtebinhelnhnbeaaWBounds0
import Derived.Test.YtebinhelnhnbeaaWRefGW
import Derived.Test.YtebinhelnhnbeaaCrc
set_option linter.unusedSimpArgs false
set_option linter.unusedVariables false
namespace Go.Proofs.Ytebinhelnhnbeaa
open Go.RowKit
theorem wturned_walk (x : W7) (a y : Int) (hy0 : 0 ≤ y) (hy1 : y < 256) (w : World) : Calls Try.prog 16 #[x.val, .int .i64 a, .int .u8 y] w fun e w' => e = .returned (.bool true) ∧ Below w.heap.size w w' := by
  by_cases hx : MayW x
  · obtain ⟨yn, rfl⟩ := Int.eq_ofNat_of_zero_le hy0
    by_cases hz : yn = 0
    · subst hz; exact wturned_zero x a w hx
    obtain ⟨l, hl⟩ : ∃ l, encW x = l := ⟨_, rfl⟩
    have hl1 : l.length ≤ 100 := by rw [← hl]; have := encs_le (W7.list x); simp [W7.list] at this; unfold encW; simp [W7.list]; omega
    have hl0 : 0 < l.length := by rw [← hl]; have := encW_split x []; rw [List.append_nil] at this; rw [this]; have := enc_pos x.b; simp; omega
    obtain ⟨n, hn⟩ : ∃ n, l.length = n := ⟨_, rfl⟩
    rw [hn] at hl0 hl1
    obtain ⟨k, hk, hk2⟩ := u_rem a (n : Int) (by omega)
    replace hk2 : k < n := by omega
    have hkl : k < l.length := by omega
    obtain ⟨bb, hbb⟩ : ∃ bb, l[k] = bb := ⟨_, rfl⟩
    have hb := u8_lt bb
    obtain ⟨zz, hzz⟩ : ∃ zz : UInt8, zz.toNat = bb.toNat ^^^ yn := ⟨UInt8.ofNat (bb.toNat ^^^ yn), by rw [UInt8.toNat_ofNat']; exact Nat.mod_eq_of_lt (Nat.xor_lt_two_pow (n := 8) hb (by omega))⟩
    have hxy : bits .xor .u8 (bb.toNat : Int) (yn : Int) = (zz.toNat : Int) := by rw [hzz]; exact u8_xor_nat _ _ hb (by omega)
    have hzn : zz ≠ bb := fun h => xor_neU bb.toNat yn hz (by rw [← hzz, h])
    have hne : l.set k zz ≠ l := set_ne hkl (by rw [hbb]; exact hzn)
    rcases gW_or (l.set k zz) with ⟨z, hm, e, hg⟩ | ⟨_, hg⟩
    · exact wturned_may x a yn w hx l n k bb zz hl hn hl0 hl1 (by omega) hk hk2 (by rw [List.getElem?_eq_getElem hkl, hbb]) hxy z (fun h => hne (by rw [e, h, hl])) hg
    · exact wturned_bad x a yn w hx l n k bb zz hl hn hl0 hl1 (by omega) hk hk2 (by rw [List.getElem?_eq_getElem hkl, hbb]) hxy hg
  · exact wturned_no x a y w hx
end Go.Proofs.Ytebinhelnhnbeaa
