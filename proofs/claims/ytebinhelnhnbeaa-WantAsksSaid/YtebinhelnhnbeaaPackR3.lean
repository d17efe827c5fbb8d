/- pack.Reader: Int, walked. -/
import Derived.Test.YtebinhelnhnbeaaPackR2
set_option linter.unusedSimpArgs false
set_option linter.unusedVariables false
namespace Go.Proofs.Ytebinhelnhnbeaa
open Go.RowKit
theorem gU_lt (l : List UInt8) : gU l < 18446744073709551616 := by
  unfold gU
  cases h : ung 10 l with
  | none => simp
  | some p => obtain ⟨u, n⟩ := p; exact (ung10 h).2.2.2
theorem gN_le (l : List UInt8) : gN l ≤ l.length := by
  unfold gN
  cases h : ung 10 l with
  | none => simp
  | some p => obtain ⟨u, n⟩ := p; exact (ung10 h).1
theorem gN_ten (l : List UInt8) : gN l ≤ 10 := by
  unfold gN
  cases h : ung 10 l with
  | none => simp
  | some p =>
    obtain ⟨u, n⟩ := p
    have := ung10 h
    have h2 := congrArg List.length this.2.2.1
    rw [List.length_take] at h2
    have := grp_le u
    show n ≤ 10
    omega
/-- A number between two, and of how many bytes. -/
def dV (lo hi : Int) (l : List UInt8) : Int := if lo ≤ unz (gU l) ∧ unz (gU l) ≤ hi then unz (gU l) else 0
def dN (lo hi : Int) (l : List UInt8) : Nat := if lo ≤ unz (gU l) ∧ unz (gU l) ≤ hi then gN l else 0
theorem dec_eq (lo hi : Int) (l : List UInt8) : dec lo hi l = if dN lo hi l = 0 then none else some (dV lo hi l, l.drop (dN lo hi l)) := by
  unfold dec dN dV
  cases h : ung 10 l with
  | none => rw [(gr_none h).1, (gr_none h).2]; simp
  | some p =>
    obtain ⟨u, n⟩ := p
    have hn := (ung10 h).2.1
    rw [(gr_some h).1, (gr_some h).2]
    simp only
    by_cases hin : lo ≤ unz u ∧ unz u ≤ hi
    · rw [if_pos hin, if_pos hin, if_pos hin, if_neg (by omega)]
    · rw [if_neg hin, if_neg hin, if_neg hin, if_pos rfl]
theorem dN_le (lo hi : Int) (l : List UInt8) : dN lo hi l ≤ l.length := by unfold dN; split; exact gN_le l; omega
theorem ofInt_m1 : (BitVec.ofInt 64 (-1)) = BitVec.allOnes 64 := by decide
theorem xor_m1 (a : Nat) (ha : a < 9223372036854775808) : bits .xor .i64 (a : Int) (-1) = -(a : Int) - 1 := by
  show IntKind.i64.wrap ((BitVec.ofInt 64 (a : Int) ^^^ BitVec.ofInt 64 (-1)).toNat : Int) = _
  rw [ofInt_m1, BitVec.xor_allOnes, BitVec.toNat_not, ofInt_u64 a (by omega), IntKind.wrap_i64]
  omega
theorem xor_0 (a : Nat) (ha : a < 9223372036854775808) : bits .xor .i64 (a : Int) 0 = (a : Int) := by
  show IntKind.i64.wrap ((BitVec.ofInt 64 (a : Int) ^^^ BitVec.ofInt 64 0).toNat : Int) = _
  rw [show BitVec.ofInt 64 0 = 0#64 from by decide, BitVec.xor_zero, ofInt_u64 a (by omega), IntKind.wrap_i64]
  omega
theorem unz_bits (u : Nat) (hu : u < 18446744073709551616) : bits .xor .i64 (wrap64 ((u : Int) / 2)) (wrap64 (-wrap64 (bits .and .u64 (u : Int) 1))) = unz u := by
  rw [show (1 : Int) = ((1 : Nat) : Int) from rfl, u64_and_nat _ _ hu (by omega), nat_mask1]
  have e1 : wrap64 ((u : Int) / 2) = ((u / 2 : Nat) : Int) := by unfold wrap64; omega
  rw [e1]
  unfold unz
  by_cases h : u % 2 = 0
  · rw [if_pos h, h, show wrap64 (-wrap64 ((0 : Nat) : Int)) = 0 from by unfold wrap64; omega, xor_0 _ (by omega)]
  · rw [if_neg h, show u % 2 = 1 from by omega, show wrap64 (-wrap64 ((1 : Nat) : Int)) = -1 from by unfold wrap64; omega, xor_m1 _ (by omega)]
theorem dVN (lo hi : Int) (l : List UInt8) (v : Int) (n : Nat) (hv : unz (gU l) = v) (hn : gN l = n) : (lo ≤ v → v ≤ hi → dV lo hi l = v ∧ dN lo hi l = n) ∧ (v < lo ∨ hi < v → dV lo hi l = 0 ∧ dN lo hi l = 0) := by
  subst hv hn
  unfold dV dN
  refine ⟨fun h1 h2 => by rw [if_pos ⟨h1, h2⟩, if_pos ⟨h1, h2⟩]; exact ⟨rfl, rfl⟩, fun h => by rw [if_neg (by omega), if_neg (by omega)]; exact ⟨rfl, rfl⟩⟩
def IR (lo hi : Int) (l : List UInt8) (w : World) (e : Ending) (w' : World) : Prop := e = .returned (.tuple #[.int .i64 (dV lo hi l), .int .i64 (dN lo hi l : Nat)]) ∧ w = w'
set_option maxRecDepth 100000 in
set_option maxHeartbeats 1000000 in
theorem int1_c (A : Option Addr) (n c : Nat) (l : List UInt8) (w : World) (D p q : Nat) (lo hi : Int) (hr : Rd w D 1 A n (B8 l)) (hn : n ≤ 9223372036854775807)
    (hp : w.cell? ⟨p, 0, none⟩ = some (.int .i64 lo)) (hq : w.cell? ⟨q, 0, none⟩ = some (.int .i64 hi)) :
    Calls Try.prog 49 #[.slice A n c, .pointer (some ⟨p, 0, none⟩), .pointer (some ⟨q, 0, none⟩)] w (IR lo hi l w) := by
  have HG := Lib.hid (groups_c A n c l w D hr hn)
  unfold GR at HG
  clear hr
  obtain ⟨u, hu⟩ : ∃ u, gU l = u := ⟨_, rfl⟩
  obtain ⟨m, hm⟩ : ∃ m, gN l = m := ⟨_, rfl⟩
  obtain ⟨v, hv⟩ : ∃ v, unz u = v := ⟨_, rfl⟩
  have hb := unz_bits u (by rw [← hu]; exact gU_lt l)
  have HD := Lib.hid (dVN lo hi l v m (by rw [hu]; exact hv) hm)
  rw [hu, hm] at HG
  rw [hv] at hb
  clear hu hm hv
  go_enter Try.func49, Try.ntmps49
  by_cases h1 : v < lo
  · go_wp2_with (go_at_call 50; refine (HG.out).mono ?_; rintro e w' ⟨rfl, rfl⟩)
    go_ret2
    unfold IR
    rw [(HD.out.2 (.inl h1)).1, (HD.out.2 (.inl h1)).2]
    exact ⟨rfl, rfl⟩
  · by_cases h2 : hi < v
    · go_wp2_with (go_at_call 50; refine (HG.out).mono ?_; rintro e w' ⟨rfl, rfl⟩)
      go_ret2
      unfold IR
      rw [(HD.out.2 (.inr h2)).1, (HD.out.2 (.inr h2)).2]
      exact ⟨rfl, rfl⟩
    · go_wp2_with (go_at_call 50; refine (HG.out).mono ?_; rintro e w' ⟨rfl, rfl⟩)
      go_ret2
      unfold IR
      rw [(HD.out.1 (by omega) (by omega)).1, (HD.out.1 (by omega) (by omega)).2]
      exact ⟨rfl, rfl⟩
/-- A state of a reader, laid out. -/
theorem RP.some_ {w : World} {D g : Nat} {l : List UInt8} (h : RP w D g (some l)) : g < D ∧ ∃ A n c, w.heap[g]? = some (.cells #[.slice A n c, .bool false] 81 (0, 0)) ∧ (∀ ad, A = some ad → ad.block ≠ g) ∧ Rd w D 1 A n (B8 l) ∧ n ≤ c ∧ c ≤ maxLen ∧ U8At w A n := by
  obtain ⟨h0, A, n, c, l', bad, h1, h2, h3, h4, h5, h6, h7⟩ := h
  cases bad with
  | true => cases h6
  | false => injection h6 with h6; subst h6; exact ⟨h0, A, n, c, h1, h2, h3, h4, h5, h7⟩
theorem RP.none_ {w : World} {D g : Nat} (h : RP w D g none) : ∃ A n c, w.heap[g]? = some (.cells #[.slice A n c, .bool true] 81 (0, 0)) := by
  obtain ⟨h0, A, n, c, l', bad, h1, h2, h3, h4, h5, h6, h7⟩ := h
  cases bad with
  | true => exact ⟨A, n, c, h1⟩
  | false => cases h6
theorem cellsAt {w : World} {g i : Nat} {cs : Array Value} {t : TypeId} {m : Nat × Nat} (h : w.heap[g]? = some (.cells cs t m)) : w.cell? ⟨g, i, none⟩ = cs[i]? := by simp [World.cell?, h]
theorem set_two {w : World} {g : Nat} {u v x : Value} {t : TypeId} {m : Nat × Nat} (h : w.heap[g]? = some (.cells #[u, v] t m)) :
    (w.setCell ⟨g, 0, none⟩ x).heap[g]? = some (.cells #[x, v] t m) ∧ (w.setCell ⟨g, 1, none⟩ x).heap[g]? = some (.cells #[u, x] t m) := by
  simp [World.setCell, Array.getElem?_modify, h]
/-- It is wrong from now on. -/
theorem RP.bad {w : World} {D g : Nat} {l : List UInt8} (h : RP w D g (some l)) : RP (w.setCell ⟨g, 1, none⟩ (.bool true)) D g none := by
  obtain ⟨h0, A, n, c, h1, h2, h3, h4, h5, h7⟩ := h.some_
  refine ⟨h0, A, n, c, l, true, (set_two h1).2, h2, ?_, h4, h5, rfl, h7.same fun ad e _ => set_other (h2 ad e)⟩
  refine ⟨h3.1, fun hn => ?_⟩
  obtain ⟨ad, e, hb, hc⟩ := h3.2 hn
  exact ⟨ad, e, hb, fun j u hu => by rw [World.cell?_setCell_other _ _ _ _ (fun e' => h2 ad e (by rw [← block_add ad j, ← e']))]; exact hc j u hu⟩
/-- So many bytes are taken. -/
theorem RP.cut {w : World} {D g k : Nat} {l : List UInt8} {A : Option Addr} {n c : Nat} (h0 : g < D) (h1 : w.heap[g]? = some (.cells #[.slice A n c, .bool false] 81 (0, 0))) (h2 : ∀ ad, A = some ad → ad.block ≠ g) (h3 : Rd w D 1 A n (B8 l)) (h4 : n ≤ c) (h5 : c ≤ maxLen) (h9 : U8At w A n) (hk : k ≤ n) :
    RP (w.setCell ⟨g, 0, none⟩ (.slice (if c = k then A else A.map (·.add k)) (n - k) (c - k))) D g (some (l.drop k)) := by
  have h6 := h3.cut hk h4
  rw [Nat.mul_one] at h6
  have h7 : (B8 l).drop k = B8 (l.drop k) := by simp [B8]
  rw [h7] at h6
  have h8 : ∀ ad, (if c = k then A else A.map (·.add k)) = some ad → ad.block ≠ g := by
    intro ad e
    split at e
    · exact h2 ad e
    · cases A with
      | none => cases e
      | some a => simp at e; subst e; rw [block_add]; exact h2 a rfl
  refine ⟨h0, _, _, _, l.drop k, false, (set_two h1).1, h8, ?_, by omega, by omega, rfl, ?_⟩
  · refine ⟨h6.1, fun hn => ?_⟩
    obtain ⟨ad, e, hb, hc⟩ := h6.2 hn
    exact ⟨ad, e, hb, fun j u hu => by rw [World.cell?_setCell_other _ _ _ _ (fun e' => h8 ad e (by rw [← block_add ad j, ← e']))]; exact hc j u hu⟩
  · intro hn ad e
    rw [set_other (h8 ad e)]
    split at e
    · exact h9 (by omega) ad e
    · cases A with
      | none => cases e
      | some a => simp at e; subst e; rw [block_add]; exact h9 (by omega) a rfl
end Go.Proofs.Ytebinhelnhnbeaa
