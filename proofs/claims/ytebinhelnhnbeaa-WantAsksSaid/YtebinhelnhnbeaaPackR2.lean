/- pack.Reader: New, and numbers, walked. -/
import Derived.Test.YtebinhelnhnbeaaPackR
import Derived.Test.YtebinhelnhnbeaaPackW3
set_option linter.unusedSimpArgs false
set_option linter.unusedVariables false
namespace Go.Proofs.Ytebinhelnhnbeaa
open Go.RowKit
set_option maxHeartbeats 1000000 in
theorem new_c (A : Option Addr) (n c : Nat) (l : List UInt8) (w : World) (hr : Rd w w.heap.size 1 A n (B8 l)) (hn : n ≤ 100000000000) :
    Calls Try.prog 24 #[.slice A n c] w fun e w' => ∃ g, e = .returned (.pointer (some ⟨g, 0, none⟩)) ∧ w.heap.size ≤ g ∧ RP w' w'.heap.size g (some l) ∧ Below w.heap.size w w' := by
  have HR := Lib.hid hr
  clear hr
  go_enter Try.func24, Try.ntmps24
  go_wp2_with (at_builtin; refine wpl_app rfl (.tmp 3) (.tmp 4) rfl w.heap.size _ [] rfl (OB.lit w _ [] #[] 0 rfl rfl (Nat.le_refl _) (by unfold maxLen; omega)) w.heap.size A n c l rfl (HR.out.alloc (Nat.le_refl _) _) ?_ ?_ ?_)
  · simp; omega
  · simp
  intro v1 w1 h1 g1 _
  have hb : Below w.heap.size w w1 := ((Below.refl _ _).alloc (Nat.le_refl _) _).grown g1 (by simp) (by intro k hk; cases hk; exact Nat.le_refl _)
  have hz := hb.size
  obtain ⟨A1, c1, rfl, hc1, hm1, r1⟩ := h1.form
  have HB := Lib.hid hb
  have HR1 := Lib.hid r1
  have HU : Hid (U8At w1 A1 l.length) := by
    intro h0 ad e
    subst e
    have h' : w1.ownsRow w.heap.size 5 1 (.slice (some ad) l.length c1) l.length (B8 l) := h1
    rcases h'.2 with ⟨e, _⟩ | ⟨g, cap, cur, e, _, hh, _⟩
    · cases e
    · injection e with e _ _
      injection e with e
      subst e
      exact ⟨_, _, hh⟩
  have HA : Hid (∀ ad, A1 = some ad → ad.block < w1.heap.size) := Lib.hid (fun ad he => (h1.lt ad.block (by subst he; rfl)).2)
  have hlen : l.length = n := by have := HR.out.1; rw [B8_len] at this; omega
  have HL := Lib.hid hlen
  clear hb h1 g1 r1 hlen
  go_wp2
  go_ret
  refine ⟨w1.heap.size, rfl, hz, ?_, HB.out.alloc hz _⟩
  refine ⟨by simp, A1, _, c1, l, false, heap_alloc_new w1 _, ?_, ?_, ?_⟩
  · intro ad he
    have := HA.out ad he
    omega
  · exact (HR1.out.alloc (Nat.le_refl _) _).more (by simp)
  · exact ⟨hc1, hm1, rfl, HU.out.same fun ad e _ => Below.heap_alloc _ _ _ (HA.out ad e)⟩
def GR (l : List UInt8) (w : World) (e : Ending) (w' : World) : Prop := e = .returned (.tuple #[.int .u64 (gU l : Nat), .int .i64 (gN l : Nat)]) ∧ w = w'
theorem gr_some {l : List UInt8} {u n : Nat} (h : ung 10 l = some (u, n)) : gU l = u ∧ gN l = n := by unfold gU gN; rw [h]; exact ⟨rfl, rfl⟩
theorem gr_none {l : List UInt8} (h : ung 10 l = none) : gU l = 0 ∧ gN l = 0 := by unfold gU gN; rw [h]; exact ⟨rfl, rfl⟩
theorem and127 (x : Nat) (h : x < 256) : bits .and .u8 (x : Int) 127 = ((x % 128 : Nat) : Int) := by
  rw [show (127 : Int) = ((127 : Nat) : Int) from rfl, u8_and_nat _ _ (by omega) (by omega), nat_mask7]
theorem grp_or (k acc x : Nat) (hk : k ≤ 9) (hacc : acc < 128 ^ k) (hx : x < 256) (h9 : k = 9 → x ≤ 1) :
    bits .or .u64 (acc : Int) (IntKind.u64.wrap (IntKind.u64.wrap (bits .and .u8 (x : Int) 127) * 2 ^ (7 * k))) = ((acc + 128 ^ k * (x % 128) : Nat) : Int) := by
  rw [and127 x hx]
  have e1 : IntKind.u64.wrap ((x % 128 : Nat) : Int) = ((x % 128 : Nat) : Int) := by rw [IntKind.wrap_u64]; omega
  rw [e1]
  have e2 : ((x % 128 : Nat) : Int) * 2 ^ (7 * k) = ((x % 128 * 128 ^ k : Nat) : Int) := by
    rw [Int.natCast_mul, Int.natCast_pow, Int.pow_mul]
    rfl
  have hp : (2 : Nat) ^ (7 * k) = 128 ^ k := by rw [Nat.pow_mul]
  have e3 : x % 128 * 128 ^ k < 18446744073709551616 := by
    by_cases h : k = 9
    · subst h
      have := h9 rfl
      have : x % 128 = 0 ∨ x % 128 = 1 := by omega
      rcases this with h | h <;> rw [h] <;> decide
    · have h1 : 128 ^ k ≤ 128 ^ 8 := Nat.pow_le_pow_right (by omega) (by omega)
      have h2 : x % 128 * 128 ^ k ≤ 127 * 128 ^ 8 := Nat.mul_le_mul (by omega) h1
      have h3 : 127 * 128 ^ 8 < 18446744073709551616 := by decide
      omega
  have e4 : acc < 18446744073709551616 := by
    have h1 : 128 ^ k ≤ 128 ^ 9 := Nat.pow_le_pow_right (by omega) hk
    have h3 : 128 ^ 9 < 18446744073709551616 := by decide
    omega
  have e5 : IntKind.u64.wrap ((x % 128 * 128 ^ k : Nat) : Int) = ((x % 128 * 128 ^ k : Nat) : Int) := by rw [IntKind.wrap_u64]; omega
  rw [e2, e5, u64_or_nat _ _ e4 e3, Nat.or_comm, nat_join (7 * k) _ _ (by rw [hp]; exact Nat.mul_mod_left _ _) (by rw [hp]; exact hacc), Nat.mul_comm, Nat.add_comm]
set_option maxRecDepth 100000 in
set_option maxHeartbeats 1000000 in
theorem groups_c (A : Option Addr) (n c : Nat) (l : List UInt8) (w : World) (D : Nat) (hr : Rd w D 1 A n (B8 l)) (hn : n ≤ 9223372036854775807) :
    Calls Try.prog 50 #[.slice A n c] w (GR l w) := by
  have hlen : l.length = n := by have := hr.1; rw [B8_len] at this; omega
  have HR := Lib.hid hr; clear hr
  have HL := Lib.hid hlen; clear hlen
  go_enter Try.func50, Try.ntmps50
  by_cases h10 : n ≤ 10
  all_goals
    go_wp2
    go_loop [4, 10] (fun u i => ∃ (k acc f : Nat), k ≤ n ∧ k ≤ 10 ∧ i = .int .i64 k ∧ u = .int .u64 (acc : Int) ∧ Hid (f + k = 10 ∧ acc < 128 ^ k ∧ ung 10 l = (ung f (l.drop k)).map fun p => (acc + 128 ^ k * p.1, k + p.2))) (fun _ i => 10 - (intOf i).toNat)
    case atStart => exact ⟨0, 0, 10, by omega, by omega, rfl, rfl, by omega, by simp, by simp⟩
    case round =>
      obtain ⟨k, acc, f, hk1, hk2, rfl, rfl, HX⟩ := hrel
      by_cases hlt : k < n ∧ k < 10
      · obtain ⟨ad, hl, rfl, _, hc⟩ := HR.out.byte hlt.1
        have hlt1 := hlt.1
        have hlt2 := hlt.2
        clear hlt
        have hb := u8_lt (l[k]'hl)
        obtain ⟨x, hx⟩ : ∃ x, (l[k]'hl).toNat = x := ⟨_, rfl⟩
        rw [hx] at hb hc
        have HS : Hid _ := Lib.hid (ung_step (l := l) (k := k) hl (by omega) (9 - k) rfl acc (by have := HX.out; rw [show 9 - k + 1 = f from by omega]; exact this.2.2))
        rw [hx] at HS
        have HB := Lib.hid hx
        clear hx
        have hx0 : (x : Int) = 0 ∨ ¬ (x : Int) = 0 := by omega
        by_cases h9 : k = 9
        · have hk9 : ((k : Int) == 9) = true := beq_iff_eq.2 (by omega)
          have H9 := Lib.hid h9
          clear h9
          by_cases hx1 : 1 < x
          · clear hx0
            go_wp2
            go_ret2
            have e := gr_none (HS.out.1 ⟨H9.out, hx1⟩)
            unfold GR
            rw [e.1, e.2]
            exact ⟨rfl, rfl⟩
          · have hx2 : x < 128 := by omega
            have hk0 : 0 < k := by have := H9.out; omega
            rcases hx0 with hx0 | hx0
            · have hxb : ((x : Int) == 0) = true := beq_iff_eq.2 hx0
              have HX0 := Lib.hid hx0
              clear hx0
              go_wp2
              go_ret2
              have e := gr_none (HS.out.2.1 (by omega) hx2 (by have := HX0.out; omega) (by have := H9.out; omega))
              unfold GR
              rw [e.1, e.2]
              exact ⟨rfl, rfl⟩
            · have hxb : ((x : Int) == 0) = false := beq_eq_false_iff_ne.2 hx0
              have HX0 := Lib.hid hx0
              clear hx0
              go_wp2
              go_ret2
              have e := gr_some (HS.out.2.2.1 (by omega) hx2 (.inl (by have := HX0.out; omega)))
              unfold GR
              rw [e.1, e.2, grp_or k acc x (by omega) HX.out.2.1 hb (by omega), Nat.mod_eq_of_lt hx2]
              exact ⟨rfl, rfl⟩
        · have hk9 : ((k : Int) == 9) = false := beq_eq_false_iff_ne.2 (by omega)
          have H9 := Lib.hid h9
          clear h9
          by_cases hx1 : x < 128
          · rcases hx0 with hx0 | hx0
            · have hxb : ((x : Int) == 0) = true := beq_iff_eq.2 hx0
              have HX0 := Lib.hid hx0
              clear hx0
              by_cases hk0 : 0 < k
              · go_wp2
                go_ret2
                have e := gr_none (HS.out.2.1 (by have := H9.out; omega) hx1 (by have := HX0.out; omega) hk0)
                unfold GR
                rw [e.1, e.2]
                exact ⟨rfl, rfl⟩
              · go_wp2
                go_ret2
                have e := gr_some (HS.out.2.2.1 (by have := H9.out; omega) hx1 (.inr (by omega)))
                unfold GR
                rw [e.1, e.2, grp_or k acc x (by omega) HX.out.2.1 hb (by have := H9.out; omega), Nat.mod_eq_of_lt hx1]
                exact ⟨rfl, rfl⟩
            · have hxb : ((x : Int) == 0) = false := beq_eq_false_iff_ne.2 hx0
              have HX0 := Lib.hid hx0
              clear hx0
              go_wp2
              go_ret2
              have e := gr_some (HS.out.2.2.1 (by have := H9.out; omega) hx1 (.inl (by have := HX0.out; omega)))
              unfold GR
              rw [e.1, e.2, grp_or k acc x (by omega) HX.out.2.1 hb (by have := H9.out; omega), Nat.mod_eq_of_lt hx1]
              exact ⟨rfl, rfl⟩
          · clear hx0
            go_wp2
            go_round
            case rel =>
              have h9 := H9.out
              obtain ⟨_, q⟩ := HS.out.2.2.2 (by omega) hx1
              refine ⟨k + 1, acc + 128 ^ k * (x % 128), 9 - k, by omega, by omega, by go_num, by rw [grp_or k acc x (by omega) HX.out.2.1 hb (by omega)], by omega, ?_, q⟩
              have h1 := HX.out.2.1
              have h2 : 128 ^ k * (x % 128) ≤ 128 ^ k * 127 := Nat.mul_le_mul_left _ (by omega)
              have h3 : 128 ^ (k + 1) = 128 ^ k * 128 := Nat.pow_succ ..
              omega
            case measure => simp [intOf]; omega
      · have hno : ung 10 l = none := ung_done acc HX.out.2.2 (by have := HX.out.1; have := HL.out; omega)
        have HN := Lib.hid hno
        clear hno
        first | (have hge : ¬ k < n := by omega) | skip
        first | (have hge2 : ¬ k < 10 := by omega) | skip
        clear hlt
        go_wp2
        go_ret2
        have e := gr_none HN.out
        unfold GR
        rw [e.1, e.2]
        exact ⟨rfl, rfl⟩
end Go.Proofs.Ytebinhelnhnbeaa
