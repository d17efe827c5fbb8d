/- The law PackSums, walked. -/
import Derived.Test.YtebinhelnhnbeaaTold1
import Derived.Test.YtebinhelnhnbeaaOwnB
import Derived.Test.YtebinhelnhnbeaaRefSum
import Derived.Test.YtebinhelnhnbeaaBelowR
import Derived.Test.YtebinhelnhnbeaaPForms
set_option linter.unusedSimpArgs false
set_option linter.unusedVariables false
namespace Go.Proofs.Ytebinhelnhnbeaa
open Go.RowKit
theorem sum_bw {D : Nat} {w0 : World} {A : Option Addr} {n c : Nat} {l : List UInt8} {s : Nat} (hr : Rd w0 D 1 A n (B8 l)) (hn : n ≤ 9223372036854775807) (e : crc l = s) (b : BW D w0) :
    Calls Try.prog 33 #[.slice A n c] b.val fun e w' => e = .returned (.int .u32 (s : Int)) ∧ Below b.val.heap.size b.val w' :=
  (sum_is (hr.below b.h) hn e).mono fun _ _ ⟨h1, h2⟩ => ⟨h1, h2 ▸ Below.refl _ _⟩
theorem refsum_bw {s : ByteArray} {c : Nat} (w : World) (hn : s.size ≤ 1000000000000) (e : crc s.data.toList = c) :
    Calls Try.prog 34 #[.string s] w fun e w' => e = .returned (.int .u32 (c : Int)) ∧ Below w.heap.size w w' :=
  (refsum_c s w hn).mono fun _ _ ⟨h1, h2⟩ => ⟨by rw [h1, e], h2 ▸ Below.refl _ _⟩
theorem crc_set_eq (l : List UInt8) (k : Nat) (hk : k < l.length) (y : UInt8) : (crc (l.set k y) = crc l) ↔ l[k] = y := by
  have e1 : l = l.take k ++ l[k] :: l.drop (k + 1) := by rw [← List.drop_eq_getElem_cons hk, List.take_append_drop]
  have e2 : l.set k y = l.take k ++ y :: l.drop (k + 1) := by
    conv => lhs; rw [e1]
    rw [List.set_append_right _ _ (by rw [List.length_take]; omega), List.length_take, show k - min k l.length = 0 from by omega]
    rfl
  constructor
  · intro h
    rw [e2] at h
    have h2 : crc (l.take k ++ y :: l.drop (k + 1)) = crc (l.take k ++ l[k] :: l.drop (k + 1)) := by rw [h, ← e1]
    exact (crc_turned _ _ _ _ h2).symm
  · intro h
    rw [e2, ← h, ← e1]
theorem xor_same (a : UInt8) (x : Nat) (hx : x < 256) (y : UInt8) (hy : (a.toNat ^^^ x) = y.toNat) : a = y ↔ x = 0 := by
  constructor
  · intro h
    subst h
    have h1 : a.toNat ^^^ x = a.toNat ^^^ 0 := by rw [hy, Nat.xor_zero]
    have h2 := congrArg (a.toNat ^^^ ·) h1
    simpa [← Nat.xor_assoc] using h2
  · intro h
    subst h
    rw [Nat.xor_zero] at hy
    exact UInt8.toNat_inj.mp hy
set_option maxRecDepth 100000 in
set_option maxHeartbeats 4000000 in
theorem sums_walk (A : Option Addr) (n c : Nat) (l : List UInt8) (at_ : Int) (x : Nat) (W : World) (hr : Rd W W.heap.size 1 A n (B8 l)) (hc : n ≤ c) (hx : x < 256) (hn0 : n ≤ maxLen) :
    Calls Try.prog 7 #[.slice A n c, .int .i64 at_, .int .u8 (x : Int)] W fun e w' => e = .returned (.bool true) ∧ Below W.heap.size W w' := by
  have hlen : l.length = n := by have := hr.1; rw [B8_len] at this; omega
  unfold maxLen at hn0
  by_cases h500 : 500 < n
  · clear hr hlen
    go_enter Try.func7, Try.ntmps7
    go_wp2_with (go_at_call 17; refine (told1 _).mono ?_; rintro e w2 ⟨rfl, hb2⟩)
    go_ret
    exact ⟨rfl, hb2⟩
  have HL := Lib.hid hlen
  have HR := Lib.hid hr
  obtain ⟨s, hs⟩ : ∃ s, crc l = s := ⟨_, rfl⟩
  have HS := Lib.hid hs
  have k1 : ∀ q : BW W.heap.size W, (convert 24 9 (.slice A n c)).run Try.prog q.val = .ok (.string ⟨l.toArray⟩) q.val := fun q => run_conv_str (hr.below q.h)
  have HB := fun q : BW W.heap.size W => Lib.hid (sum_bw (c := c) hr (by omega) hs q)
  have HRB := fun w : World => Lib.hid (refsum_bw (s := ⟨l.toArray⟩) (c := s) w (by show l.toArray.size ≤ _; rw [List.size_toArray]; omega) hs)
  clear hs hr hlen
  go_enter Try.func7, Try.ntmps7
  go_wp2_with fail
  refine wp_region_below (W.heap.size) (by kernel_rfl) (by kernel_rfl) ?_
  repeat (first | go_big_quiet_step ((first | (go_at_call 33; exact BW.call (Nat.le_refl _) (HB _).out) | (go_at_call 34; exact BW.call (Nat.le_refl _) (HRB _).out))) | quiet_step ((first | (go_at_call 33; exact BW.call (Nat.le_refl _) (HB _).out) | (go_at_call 34; exact BW.call (Nat.le_refl _) (HRB _).out))))
  refine wpQuiet_nil ?_
  intro _ hw'
  obtain ⟨sb, hw''⟩ := hw'
  subst hw''
  clear k1 HB HRB
  have hz0 := sb.h.size
  by_cases hn : n = 0
  · have hnb : ((n : Int) == 0) = true := beq_iff_eq.2 (by omega)
    have HN := Lib.hid hn
    clear hn
    go_wp2_with (go_at_call 17; refine (told1 _).mono ?_; rintro e w2 ⟨rfl, hb2⟩)
    go_ret
    exact ⟨rfl, sb.h.trans (hb2.mono hz0)⟩
  have hnb : ((n : Int) == 0) = false := beq_eq_false_iff_ne.2 (by omega)
  have hn1 : 0 < n := by omega
  obtain ⟨k, hk, hkn⟩ := u_rem at_ (n : Int) (by omega)
  replace hkn : k < n := by omega
  clear hn
  have HRS := Lib.hid ((HR.out.below sb.h).more hz0)
  go_wp2_with (at_builtin; refine wpl_app rfl (.tmp 23) (.tmp 24) rfl W.heap.size _ [] rfl (OB.lit sb.val _ [] #[] 0 rfl rfl hz0 (by unfold maxLen; omega)) sb.val.heap.size A n c l rfl (HRS.out.alloc (Nat.le_refl _) _) ?_ ?_ ?_)
  · simp; omega
  · simp; omega
  intro v5 w5 q5 g5 _
  have b5 : Below sb.val.heap.size sb.val w5 := ((Below.refl _ _).alloc (Nat.le_refl _) _).grown g5 (by simp) (by intro k hk; cases hk; exact Nat.le_refl _)
  have HR5 := Lib.hid (HRS.out.below b5)
  have B5 := Lib.hid (sb.h.trans (b5.mono hz0))
  have hz5 := b5.size
  have H5l := Lib.hid q5.lt
  have hbase : ∀ g, v5.ownBlock = some g → sb.val.heap.size ≤ g := by
    intro g hg
    rcases ‹v5.ownBlock = _ ∨ v5.ownBlock = _› with h | h
    · rw [h] at hg; cases hg; exact Nat.le_refl _
    · rw [h] at hg; cases hg; simp
  obtain ⟨gc, cc, rfl, hgc1, hgc2, hcc1, hcc2, hcell, hfr, hset⟩ := q5.blk (by have := HL.out; omega)
  have hgb : sb.val.heap.size ≤ gc := hbase gc rfl
  have hxm := hcell k (by have := HL.out; omega)
  have hfm := hfr k
  obtain ⟨a, ha⟩ : ∃ a, (l[k]'(by have := HL.out; omega)) = a := ⟨_, rfl⟩
  rw [ha] at hxm
  have hal := u8_lt a
  have hy : ∃ y : UInt8, (a.toNat ^^^ x) = y.toNat := ⟨UInt8.ofNat (a.toNat ^^^ x), by rw [UInt8.toNat_ofNat', Nat.mod_eq_of_lt (Nat.xor_lt_two_pow (n := 8) hal hx)]⟩
  obtain ⟨y, hy⟩ := hy
  have hxor : bits .xor .u8 (a.toNat : Int) (x : Int) = (y.toNat : Int) := by rw [u8_xor_nat _ _ hal hx, hy]
  have hsame : crc (l.set k y) = crc l ↔ x = 0 := (crc_set_eq l k (by have := HL.out; omega) y).trans (by rw [ha]; exact xor_same a x hx y hy)
  rw [HS.out] at hsame
  have HSET := Lib.hid (hset k y)
  obtain ⟨s2, hs2⟩ : ∃ s2, crc (l.set k y) = s2 := ⟨_, rfl⟩
  rw [hs2] at hsame
  have HS2 := Lib.hid hs2
  have HSM := Lib.hid hsame
  have HGB := Lib.hid hgb
  rw [HL.out] at hcc1 ⊢
  clear hcell hfr hset ha hsame hs2 hy q5 g5 b5 hbase
  go_wp2_with fail
  have HW6 := Lib.hid (B5.out.setCell (p := ⟨gc, k, none⟩) (by show W.heap.size ≤ gc; omega) (.int .u8 (y.toNat : Int)))
  have HR6 := Lib.hid ((HR5.out).setCell (p := ⟨gc, k, none⟩) HGB.out (.int .u8 (y.toNat : Int)))
  have hz6 : sb.val.heap.size ≤ (w5.setCell ⟨gc, k, none⟩ (.int .u8 (y.toNat : Int))).heap.size := by simp [World.setCell]; omega
  refine (told1 _).mono ?_
  rintro e w7 ⟨rfl, b7⟩
  have hz7 := b7.size
  have HR7 := Lib.hid ((HR6.out.more hz6).below b7)
  have HC7 := Lib.hid ((HSET.out.rdN (by rw [List.length_set, HL.out])).below b7)
  have B7 := Lib.hid (HW6.out.trans (b7.mono HW6.out.size))
  clear b7 hxm hfm hxor hz6
  go_wp2_with fail
  refine (sum_is HR7.out (by omega) HS.out).mono ?_
  rintro e w' ⟨rfl, rfl⟩
  go_wp2_with fail
  refine (sum_is HC7.out (by omega) HS2.out).mono ?_
  rintro e w' ⟨rfl, rfl⟩
  by_cases hx0 : x = 0
  · have e1 : ((s : Int) == (s2 : Int)) = true := beq_iff_eq.2 (by have := HSM.out.2 hx0; omega)
    have e2 : ((x : Int) == 0) = true := beq_iff_eq.2 (by omega)
    clear hx0
    go_wp2
    go_ret
    exact ⟨rfl, B7.out⟩
  · have e1 : ((s : Int) == (s2 : Int)) = false := beq_eq_false_iff_ne.2 (by intro h; exact hx0 (HSM.out.1 (by omega)))
    have e2 : ((x : Int) == 0) = false := beq_eq_false_iff_ne.2 (by omega)
    clear hx0
    go_wp2
    go_ret
    exact ⟨rfl, B7.out⟩
end Go.Proofs.Ytebinhelnhnbeaa
