/- PackR, PackR2, PackR3, PackR4, PackR5, PackR6, PackI, merged. -/
import Derived.Test.YtplgodfhhlnojaaB2
set_option linter.unusedSimpArgs false
set_option linter.unusedVariables false
/- pack.Reader: words. -/
namespace Go.Proofs.Ytplgodfhhlnojaa
open Go.RowKit
/-- What is read lies in a block of bytes. -/
def U8At (w : World) (A : Option Addr) (n : Nat) : Prop := 0 < n → ∀ ad, A = some ad → ∃ cs m, w.heap[ad.block]? = some (.cells cs 5 m)
theorem U8At.same {w w' : World} {A : Option Addr} {n : Nat} (h : U8At w A n) (hb : ∀ ad, A = some ad → 0 < n → w'.heap[ad.block]? = w.heap[ad.block]?) : U8At w' A n :=
  fun h0 ad e => by rw [hb ad e h0]; exact h h0 ad e
/-- Block g is a reader that has these bytes left, or is wrong; what it reads lies below block D. -/
def RP (w : World) (D g : Nat) (s : Rs) : Prop := g < D ∧ ∃ A n c l bad, w.heap[g]? = some (.cells #[.slice A n c, .bool bad] 142 (0, 0)) ∧ (∀ ad, A = some ad → ad.block ≠ g) ∧ Rd w D 1 A n (B8 l) ∧ n ≤ c ∧ c ≤ maxLen ∧ s = (if bad then none else some l) ∧ U8At w A n
/-- How a question ends. -/
def RPost (w : World) (D g : Nat) (v : Value) (s : Rs) (e : Ending) (w' : World) : Prop := e = .returned v ∧ RP w' D g s ∧ w.grownBy w' (some g)
section
variable {w w' : World} {D g : Nat} {s : Rs}
theorem RP.lt (h : RP w D g s) : g < w.heap.size := by obtain ⟨_, A, n, c, l, bad, h1, _⟩ := h; exact blk_lt h1
theorem RP.below (h : RP w D g s) (hb : Below D w w') : RP w' D g s := by
  obtain ⟨h0, A, n, c, l, bad, h1, h2, h3, h4, h5, h6, h7⟩ := h
  refine ⟨h0, A, n, c, l, bad, (hb.block g h0).trans h1, h2, h3.below hb, h4, h5, h6, h7.same fun ad e hn => ?_⟩
  obtain ⟨ad', e', hlt, _⟩ := h3.2 hn
  rw [e] at e'
  injection e' with e'
  subst e'
  exact hb.block _ hlt
theorem RP.far2 {k : Nat} {cs : Array Value} {t : TypeId} {m : Nat × Nat} (h : RP w D g s) (hg : w.grownBy w' (some k)) (hk : k ≠ g) (hkt : w.heap[k]? = some (.cells cs t m)) (ht : t ≠ 5) : RP w' D g s := by
  obtain ⟨h0, A, n, c, l, bad, h1, h2, h3, h4, h5, h6, h7⟩ := h
  have hbl : ∀ ad, A = some ad → 0 < n → w'.heap[ad.block]? = w.heap[ad.block]? := by
    intro ad e hn
    obtain ⟨cs', m', hc⟩ := h7 hn ad e
    refine hg.block _ (blk_lt hc) (fun e' => ?_)
    injection e' with e'
    rw [e'] at hc
    rw [hc] at hkt
    injection hkt with hkt
    injection hkt with _ h8
    exact ht h8.symm
  refine ⟨h0, A, n, c, l, bad, (hg.block g (blk_lt h1) (fun e => hk (by injection e with e; exact e.symm))).trans h1, h2, ⟨h3.1, fun hn => ?_⟩, h4, h5, h6, h7.same hbl⟩
  obtain ⟨ad, e, hlt, hc⟩ := h3.2 hn
  exact ⟨ad, e, hlt, fun j u hu => (World.cell?_of_block (by rw [block_add]; exact hbl ad e hn)).trans (hc j u hu)⟩
theorem RP.drewN (h : RP w D g s) (q : Nat) : RP (w.drewN q) D g s := h
/-- Another block is turned. -/
theorem RP.far (h : RP w D g s) {k : Nat} (hg : w.grownBy w' (some k)) (hk : D ≤ k) (hD : D ≤ w.heap.size) : RP w' D g s :=
  h.below ⟨hg.os, hg.tape, hg.output, hg.size, fun i hi => hg.block i (by omega) (fun e => by cases e; omega)⟩
theorem only_drewN {a w : World} {row : Option Nat} (h : a.grownBy w row) (n : Nat) : a.grownBy (w.drewN n) row := ⟨h.os, h.tape, h.output, h.size, h.block⟩
theorem only_alloc {a w : World} {row : Option Nat} (h : a.grownBy w row) (o : Obj) : a.grownBy (w.alloc o) row :=
  ⟨h.os, h.tape, h.output, Nat.le_trans h.size (by simp), fun i hi hne => (Below.heap_alloc w o i (Nat.lt_of_lt_of_le hi h.size)).trans (h.block i hi hne)⟩
theorem only_setCell {a w : World} {g : Nat} (h : a.grownBy w (some g)) {p : Addr} (hp : p.block = g ∨ a.heap.size ≤ p.block) (u : Value) : a.grownBy (w.setCell p u) (some g) :=
  ⟨h.os, h.tape, h.output, by simpa [World.setCell] using h.size, fun i hi hne => (Below.heap_setCell w p u i (by
    rintro rfl
    rcases hp with hp | hp
    · exact hne (by rw [hp])
    · omega)).trans (h.block i hi hne)⟩
theorem only_below {a w w1 : World} {row : Option Nat} (h : a.grownBy w row) (hb : Below w.heap.size w w1) : a.grownBy w1 row :=
  ⟨hb.os.trans h.os, hb.tape.trans h.tape, hb.output.trans h.output, Nat.le_trans h.size hb.size, fun i hi hn => (hb.block i (Nat.lt_of_lt_of_le hi h.size)).trans (h.block i hi hn)⟩
theorem only_trans {a b c : World} {row : Option Nat} (h : a.grownBy b row) (k : b.grownBy c row) : a.grownBy c row :=
  ⟨k.os.trans h.os, k.tape.trans h.tape, k.output.trans h.output, Nat.le_trans h.size k.size, fun i hi hn => (k.block i (Nat.lt_of_lt_of_le hi h.size) hn).trans (h.block i hi hn)⟩
theorem only_lt {a w : World} {B g : Nat} (h : a.grownBy w (some g)) (hB : B ≤ a.heap.size) (hg : B ≤ g) : Below B a w := ⟨h.os, h.tape, h.output, h.size, fun i hi => h.block i (by omega) (fun e => by cases e; omega)⟩
theorem only_keep {a w : World} {g : Nat} {ts : List TypeId} {cs : Array Value} {t : TypeId} {m : Nat × Nat} (h : a.grownBy w (some g)) (hg : a.heap[g]? = some (.cells cs t m)) (ht : t ∈ ts) : Keep ts a w :=
  ⟨h.size, fun k o hk hx => by
    rw [h.block k (blk_lt hk) (fun e => by cases e; rw [hk] at hg; injection hg with hg; exact hx _ _ _ hg ht)]; exact hk⟩
end
/-- What groups tells: the number, and of how many bytes. -/
def gU (l : List UInt8) : Nat := match ung 10 l with | some (u, _) => u | none => 0
def gN (l : List UInt8) : Nat := match ung 10 l with | some (_, n) => n | none => 0
theorem ung_step {l : List UInt8} {k : Nat} (hk : k < l.length) (h9 : k ≤ 9) (f : Nat) (hf : f = 9 - k) (acc : Nat)
    (h : ung 10 l = (ung (f + 1) (l.drop k)).map fun p => (acc + 128 ^ k * p.1, k + p.2)) :
    (k = 9 ∧ 1 < l[k].toNat → ung 10 l = none) ∧
    (¬ (k = 9 ∧ 1 < l[k].toNat) → l[k].toNat < 128 → l[k].toNat = 0 → 0 < k → ung 10 l = none) ∧
    (¬ (k = 9 ∧ 1 < l[k].toNat) → l[k].toNat < 128 → (l[k].toNat ≠ 0 ∨ k = 0) → ung 10 l = some (acc + 128 ^ k * l[k].toNat, k + 1)) ∧
    (¬ (k = 9 ∧ 1 < l[k].toNat) → ¬ l[k].toNat < 128 → k < 9 ∧ ung 10 l = (ung f (l.drop (k + 1))).map fun p => ((acc + 128 ^ k * (l[k].toNat % 128)) + 128 ^ (k + 1) * p.1, (k + 1) + p.2)) := by
  have hd : l.drop k = l[k] :: l.drop (k + 1) := List.drop_eq_getElem_cons hk
  rw [hd, ung] at h
  refine ⟨fun ⟨h1, h2⟩ => ?_, fun h1 h2 h3 h4 => ?_, fun h1 h2 h3 => ?_, fun h1 h2 => ⟨?_, ?_⟩⟩
  · rw [h, if_pos ⟨by omega, h2⟩]; rfl
  · rw [h, if_neg (by omega), if_pos h2, if_pos ⟨h3, by omega⟩]; rfl
  · rw [h, if_neg (by omega), if_pos h2, if_neg (by omega)]; rfl
  · have := l[k].toNat_lt; omega
  · rw [h, if_neg (by omega), if_neg h2, Option.map_map]
    congr 1
    funext p
    simp only [Function.comp_apply, Prod.mk.injEq]
    refine ⟨?_, by omega⟩
    rw [Nat.mul_add, Nat.pow_succ, Nat.mul_assoc, Nat.add_assoc]
theorem ung_done {l : List UInt8} {k f : Nat} (acc : Nat) (h : ung 10 l = (ung f (l.drop k)).map fun p => (acc + 128 ^ k * p.1, k + p.2)) (hk : f = 0 ∨ l.length ≤ k) : ung 10 l = none := by
  rw [h]
  rcases hk with rfl | hk
  · rfl
  · rw [List.drop_eq_nil_of_le hk]
    cases f <;> rfl
end Go.Proofs.Ytplgodfhhlnojaa

/- pack.Reader: New, and numbers, walked. -/
namespace Go.Proofs.Ytplgodfhhlnojaa
open Go.RowKit
set_option maxHeartbeats 1000000 in
theorem new_c (A : Option Addr) (n c : Nat) (l : List UInt8) (w : World) (hr : Rd w w.heap.size 1 A n (B8 l)) (hn : n ≤ 100000000000) :
    Calls Try.prog 77 #[.slice A n c] w fun e w' => ∃ g, e = .returned (.pointer (some ⟨g, 0, none⟩)) ∧ w.heap.size ≤ g ∧ RP w' w'.heap.size g (some l) ∧ Below w.heap.size w w' := by
  have HR := Lib.hid hr
  clear hr
  go_enter Try.func77, Try.ntmps77
  go_wp2_with (at_builtin; refine wpl_app rfl (.tmp 3) (.tmp 4) rfl w.heap.size _ [] rfl (OB.lit w _ [] #[] 0 rfl rfl (Nat.le_refl _) (by unfold maxLen; omega)) w.heap.size A n c l rfl (HR.out.alloc (Nat.le_refl _) _) ?_ ?_ ?_)
  · simp; omega
  · simp
  intro v1 w1 h1 g1 _
  have hb : Below w.heap.size w w1 := ((Below.refl _ _).alloc (Nat.le_refl _) _).grown g1 (by simp) (by intro k hk; cases hk; exact Nat.le_refl _)
  have hz := hb.size
  obtain ⟨A1, c1, rfl, hc1, hm1, r1⟩ := h1.form
  have HB := Lib.hid hb
  have HR1 := Lib.hid r1
  have HU : Hid (U8At w1 A1 l.length) := by
    intro h0 ad e
    subst e
    have h' : w1.ownsRow w.heap.size 5 1 (.slice (some ad) l.length c1) l.length (B8 l) := h1
    rcases h'.2 with ⟨e, _⟩ | ⟨g, cap, cur, e, _, hh, _⟩
    · cases e
    · injection e with e _ _
      injection e with e
      subst e
      exact ⟨_, _, hh⟩
  have HA : Hid (∀ ad, A1 = some ad → ad.block < w1.heap.size) := Lib.hid (fun ad he => (h1.lt ad.block (by subst he; rfl)).2)
  have hlen : l.length = n := by have := HR.out.1; rw [B8_len] at this; omega
  have HL := Lib.hid hlen
  clear hb h1 g1 r1 hlen
  go_wp2
  go_ret
  refine ⟨w1.heap.size, rfl, hz, ?_, HB.out.alloc hz _⟩
  refine ⟨by simp, A1, _, c1, l, false, heap_alloc_new w1 _, ?_, ?_, ?_⟩
  · intro ad he
    have := HA.out ad he
    omega
  · exact (HR1.out.alloc (Nat.le_refl _) _).more (by simp)
  · exact ⟨hc1, hm1, rfl, HU.out.same fun ad e _ => Below.heap_alloc _ _ _ (HA.out ad e)⟩
def GR (l : List UInt8) (w : World) (e : Ending) (w' : World) : Prop := e = .returned (.tuple #[.int .u64 (gU l : Nat), .int .i64 (gN l : Nat)]) ∧ w = w'
theorem gr_some {l : List UInt8} {u n : Nat} (h : ung 10 l = some (u, n)) : gU l = u ∧ gN l = n := by unfold gU gN; rw [h]; exact ⟨rfl, rfl⟩
theorem gr_none {l : List UInt8} (h : ung 10 l = none) : gU l = 0 ∧ gN l = 0 := by unfold gU gN; rw [h]; exact ⟨rfl, rfl⟩
theorem and127 (x : Nat) (h : x < 256) : bits .and .u8 (x : Int) 127 = ((x % 128 : Nat) : Int) := by
  rw [show (127 : Int) = ((127 : Nat) : Int) from rfl, u8_and_nat _ _ (by omega) (by omega), nat_mask7]
theorem grp_or (k acc x : Nat) (hk : k ≤ 9) (hacc : acc < 128 ^ k) (hx : x < 256) (h9 : k = 9 → x ≤ 1) :
    bits .or .u64 (acc : Int) (IntKind.u64.wrap (IntKind.u64.wrap (bits .and .u8 (x : Int) 127) * 2 ^ (7 * k))) = ((acc + 128 ^ k * (x % 128) : Nat) : Int) := by
  rw [and127 x hx]
  have e1 : IntKind.u64.wrap ((x % 128 : Nat) : Int) = ((x % 128 : Nat) : Int) := by rw [IntKind.wrap_u64]; omega
  rw [e1]
  have e2 : ((x % 128 : Nat) : Int) * 2 ^ (7 * k) = ((x % 128 * 128 ^ k : Nat) : Int) := by
    rw [Int.natCast_mul, Int.natCast_pow, Int.pow_mul]
    rfl
  have hp : (2 : Nat) ^ (7 * k) = 128 ^ k := by rw [Nat.pow_mul]
  have e3 : x % 128 * 128 ^ k < 18446744073709551616 := by
    by_cases h : k = 9
    · subst h
      have := h9 rfl
      have : x % 128 = 0 ∨ x % 128 = 1 := by omega
      rcases this with h | h <;> rw [h] <;> decide
    · have h1 : 128 ^ k ≤ 128 ^ 8 := Nat.pow_le_pow_right (by omega) (by omega)
      have h2 : x % 128 * 128 ^ k ≤ 127 * 128 ^ 8 := Nat.mul_le_mul (by omega) h1
      have h3 : 127 * 128 ^ 8 < 18446744073709551616 := by decide
      omega
  have e4 : acc < 18446744073709551616 := by
    have h1 : 128 ^ k ≤ 128 ^ 9 := Nat.pow_le_pow_right (by omega) hk
    have h3 : 128 ^ 9 < 18446744073709551616 := by decide
    omega
  have e5 : IntKind.u64.wrap ((x % 128 * 128 ^ k : Nat) : Int) = ((x % 128 * 128 ^ k : Nat) : Int) := by rw [IntKind.wrap_u64]; omega
  rw [e2, e5, u64_or_nat _ _ e4 e3, Nat.or_comm, nat_join (7 * k) _ _ (by rw [hp]; exact Nat.mul_mod_left _ _) (by rw [hp]; exact hacc), Nat.mul_comm, Nat.add_comm]
set_option maxRecDepth 100000 in
set_option maxHeartbeats 1000000 in
theorem groups_c (A : Option Addr) (n c : Nat) (l : List UInt8) (w : World) (D : Nat) (hr : Rd w D 1 A n (B8 l)) (hn : n ≤ 9223372036854775807) :
    Calls Try.prog 112 #[.slice A n c] w (GR l w) := by
  have hlen : l.length = n := by have := hr.1; rw [B8_len] at this; omega
  have HR := Lib.hid hr; clear hr
  have HL := Lib.hid hlen; clear hlen
  go_enter Try.func112, Try.ntmps112
  by_cases h10 : n ≤ 10
  all_goals
    go_wp2
    go_loop [4, 10] (fun u i => ∃ (k acc f : Nat), k ≤ n ∧ k ≤ 10 ∧ i = .int .i64 k ∧ u = .int .u64 (acc : Int) ∧ Hid (f + k = 10 ∧ acc < 128 ^ k ∧ ung 10 l = (ung f (l.drop k)).map fun p => (acc + 128 ^ k * p.1, k + p.2))) (fun _ i => 10 - (intOf i).toNat)
    case atStart => exact ⟨0, 0, 10, by omega, by omega, rfl, rfl, by omega, by simp, by simp⟩
    case round =>
      obtain ⟨k, acc, f, hk1, hk2, rfl, rfl, HX⟩ := hrel
      by_cases hlt : k < n ∧ k < 10
      · obtain ⟨ad, hl, rfl, _, hc⟩ := HR.out.byte hlt.1
        have hlt1 := hlt.1
        have hlt2 := hlt.2
        clear hlt
        have hb := u8_lt (l[k]'hl)
        obtain ⟨x, hx⟩ : ∃ x, (l[k]'hl).toNat = x := ⟨_, rfl⟩
        rw [hx] at hb hc
        have HS : Hid _ := Lib.hid (ung_step (l := l) (k := k) hl (by omega) (9 - k) rfl acc (by have := HX.out; rw [show 9 - k + 1 = f from by omega]; exact this.2.2))
        rw [hx] at HS
        have HB := Lib.hid hx
        clear hx
        have hx0 : (x : Int) = 0 ∨ ¬ (x : Int) = 0 := by omega
        by_cases h9 : k = 9
        · have hk9 : ((k : Int) == 9) = true := beq_iff_eq.2 (by omega)
          have H9 := Lib.hid h9
          clear h9
          by_cases hx1 : 1 < x
          · clear hx0
            go_wp2
            go_ret2
            have e := gr_none (HS.out.1 ⟨H9.out, hx1⟩)
            unfold GR
            rw [e.1, e.2]
            exact ⟨rfl, rfl⟩
          · have hx2 : x < 128 := by omega
            have hk0 : 0 < k := by have := H9.out; omega
            rcases hx0 with hx0 | hx0
            · have hxb : ((x : Int) == 0) = true := beq_iff_eq.2 hx0
              have HX0 := Lib.hid hx0
              clear hx0
              go_wp2
              go_ret2
              have e := gr_none (HS.out.2.1 (by omega) hx2 (by have := HX0.out; omega) (by have := H9.out; omega))
              unfold GR
              rw [e.1, e.2]
              exact ⟨rfl, rfl⟩
            · have hxb : ((x : Int) == 0) = false := beq_eq_false_iff_ne.2 hx0
              have HX0 := Lib.hid hx0
              clear hx0
              go_wp2
              go_ret2
              have e := gr_some (HS.out.2.2.1 (by omega) hx2 (.inl (by have := HX0.out; omega)))
              unfold GR
              rw [e.1, e.2, grp_or k acc x (by omega) HX.out.2.1 hb (by omega), Nat.mod_eq_of_lt hx2]
              exact ⟨rfl, rfl⟩
        · have hk9 : ((k : Int) == 9) = false := beq_eq_false_iff_ne.2 (by omega)
          have H9 := Lib.hid h9
          clear h9
          by_cases hx1 : x < 128
          · rcases hx0 with hx0 | hx0
            · have hxb : ((x : Int) == 0) = true := beq_iff_eq.2 hx0
              have HX0 := Lib.hid hx0
              clear hx0
              by_cases hk0 : 0 < k
              · go_wp2
                go_ret2
                have e := gr_none (HS.out.2.1 (by have := H9.out; omega) hx1 (by have := HX0.out; omega) hk0)
                unfold GR
                rw [e.1, e.2]
                exact ⟨rfl, rfl⟩
              · go_wp2
                go_ret2
                have e := gr_some (HS.out.2.2.1 (by have := H9.out; omega) hx1 (.inr (by omega)))
                unfold GR
                rw [e.1, e.2, grp_or k acc x (by omega) HX.out.2.1 hb (by have := H9.out; omega), Nat.mod_eq_of_lt hx1]
                exact ⟨rfl, rfl⟩
            · have hxb : ((x : Int) == 0) = false := beq_eq_false_iff_ne.2 hx0
              have HX0 := Lib.hid hx0
              clear hx0
              go_wp2
              go_ret2
              have e := gr_some (HS.out.2.2.1 (by have := H9.out; omega) hx1 (.inl (by have := HX0.out; omega)))
              unfold GR
              rw [e.1, e.2, grp_or k acc x (by omega) HX.out.2.1 hb (by have := H9.out; omega), Nat.mod_eq_of_lt hx1]
              exact ⟨rfl, rfl⟩
          · clear hx0
            go_wp2
            go_round
            case rel =>
              have h9 := H9.out
              obtain ⟨_, q⟩ := HS.out.2.2.2 (by omega) hx1
              refine ⟨k + 1, acc + 128 ^ k * (x % 128), 9 - k, by omega, by omega, by go_num, by rw [grp_or k acc x (by omega) HX.out.2.1 hb (by omega)], by omega, ?_, q⟩
              have h1 := HX.out.2.1
              have h2 : 128 ^ k * (x % 128) ≤ 128 ^ k * 127 := Nat.mul_le_mul_left _ (by omega)
              have h3 : 128 ^ (k + 1) = 128 ^ k * 128 := Nat.pow_succ ..
              omega
            case measure => simp [intOf]; omega
      · have hno : ung 10 l = none := ung_done acc HX.out.2.2 (by have := HX.out.1; have := HL.out; omega)
        have HN := Lib.hid hno
        clear hno
        first | (have hge : ¬ k < n := by omega) | skip
        first | (have hge2 : ¬ k < 10 := by omega) | skip
        clear hlt
        go_wp2
        go_ret2
        have e := gr_none HN.out
        unfold GR
        rw [e.1, e.2]
        exact ⟨rfl, rfl⟩
end Go.Proofs.Ytplgodfhhlnojaa

/- pack.Reader: Int, walked. -/
namespace Go.Proofs.Ytplgodfhhlnojaa
open Go.RowKit
theorem gU_lt (l : List UInt8) : gU l < 18446744073709551616 := by
  unfold gU
  cases h : ung 10 l with
  | none => simp
  | some p => obtain ⟨u, n⟩ := p; exact (ung10 h).2.2.2
theorem gN_le (l : List UInt8) : gN l ≤ l.length := by
  unfold gN
  cases h : ung 10 l with
  | none => simp
  | some p => obtain ⟨u, n⟩ := p; exact (ung10 h).1
theorem gN_ten (l : List UInt8) : gN l ≤ 10 := by
  unfold gN
  cases h : ung 10 l with
  | none => simp
  | some p =>
    obtain ⟨u, n⟩ := p
    have := ung10 h
    have h2 := congrArg List.length this.2.2.1
    rw [List.length_take] at h2
    have := grp_le u
    show n ≤ 10
    omega
/-- A number between two, and of how many bytes. -/
def dV (lo hi : Int) (l : List UInt8) : Int := if lo ≤ unz (gU l) ∧ unz (gU l) ≤ hi then unz (gU l) else 0
def dN (lo hi : Int) (l : List UInt8) : Nat := if lo ≤ unz (gU l) ∧ unz (gU l) ≤ hi then gN l else 0
theorem dec_eq (lo hi : Int) (l : List UInt8) : dec lo hi l = if dN lo hi l = 0 then none else some (dV lo hi l, l.drop (dN lo hi l)) := by
  unfold dec dN dV
  cases h : ung 10 l with
  | none => rw [(gr_none h).1, (gr_none h).2]; simp
  | some p =>
    obtain ⟨u, n⟩ := p
    have hn := (ung10 h).2.1
    rw [(gr_some h).1, (gr_some h).2]
    simp only
    by_cases hin : lo ≤ unz u ∧ unz u ≤ hi
    · rw [if_pos hin, if_pos hin, if_pos hin, if_neg (by omega)]
    · rw [if_neg hin, if_neg hin, if_neg hin, if_pos rfl]
theorem dN_le (lo hi : Int) (l : List UInt8) : dN lo hi l ≤ l.length := by unfold dN; split; exact gN_le l; omega
theorem ofInt_m1 : (BitVec.ofInt 64 (-1)) = BitVec.allOnes 64 := by decide
theorem xor_m1 (a : Nat) (ha : a < 9223372036854775808) : bits .xor .i64 (a : Int) (-1) = -(a : Int) - 1 := by
  show IntKind.i64.wrap ((BitVec.ofInt 64 (a : Int) ^^^ BitVec.ofInt 64 (-1)).toNat : Int) = _
  rw [ofInt_m1, BitVec.xor_allOnes, BitVec.toNat_not, ofInt_u64 a (by omega), IntKind.wrap_i64]
  omega
theorem xor_0 (a : Nat) (ha : a < 9223372036854775808) : bits .xor .i64 (a : Int) 0 = (a : Int) := by
  show IntKind.i64.wrap ((BitVec.ofInt 64 (a : Int) ^^^ BitVec.ofInt 64 0).toNat : Int) = _
  rw [show BitVec.ofInt 64 0 = 0#64 from by decide, BitVec.xor_zero, ofInt_u64 a (by omega), IntKind.wrap_i64]
  omega
theorem unz_bits (u : Nat) (hu : u < 18446744073709551616) : bits .xor .i64 (wrap64 ((u : Int) / 2)) (wrap64 (-wrap64 (bits .and .u64 (u : Int) 1))) = unz u := by
  rw [show (1 : Int) = ((1 : Nat) : Int) from rfl, u64_and_nat _ _ hu (by omega), nat_mask1]
  have e1 : wrap64 ((u : Int) / 2) = ((u / 2 : Nat) : Int) := by unfold wrap64; omega
  rw [e1]
  unfold unz
  by_cases h : u % 2 = 0
  · rw [if_pos h, h, show wrap64 (-wrap64 ((0 : Nat) : Int)) = 0 from by unfold wrap64; omega, xor_0 _ (by omega)]
  · rw [if_neg h, show u % 2 = 1 from by omega, show wrap64 (-wrap64 ((1 : Nat) : Int)) = -1 from by unfold wrap64; omega, xor_m1 _ (by omega)]
theorem dVN (lo hi : Int) (l : List UInt8) (v : Int) (n : Nat) (hv : unz (gU l) = v) (hn : gN l = n) : (lo ≤ v → v ≤ hi → dV lo hi l = v ∧ dN lo hi l = n) ∧ (v < lo ∨ hi < v → dV lo hi l = 0 ∧ dN lo hi l = 0) := by
  subst hv hn
  unfold dV dN
  refine ⟨fun h1 h2 => by rw [if_pos ⟨h1, h2⟩, if_pos ⟨h1, h2⟩]; exact ⟨rfl, rfl⟩, fun h => by rw [if_neg (by omega), if_neg (by omega)]; exact ⟨rfl, rfl⟩⟩
def IR (lo hi : Int) (l : List UInt8) (w : World) (e : Ending) (w' : World) : Prop := e = .returned (.tuple #[.int .i64 (dV lo hi l), .int .i64 (dN lo hi l : Nat)]) ∧ w = w'
set_option maxRecDepth 100000 in
set_option maxHeartbeats 1000000 in
theorem int1_c (A : Option Addr) (n c : Nat) (l : List UInt8) (w : World) (D p q : Nat) (lo hi : Int) (hr : Rd w D 1 A n (B8 l)) (hn : n ≤ 9223372036854775807)
    (hp : w.cell? ⟨p, 0, none⟩ = some (.int .i64 lo)) (hq : w.cell? ⟨q, 0, none⟩ = some (.int .i64 hi)) :
    Calls Try.prog 111 #[.slice A n c, .pointer (some ⟨p, 0, none⟩), .pointer (some ⟨q, 0, none⟩)] w (IR lo hi l w) := by
  have HG := Lib.hid (groups_c A n c l w D hr hn)
  unfold GR at HG
  clear hr
  obtain ⟨u, hu⟩ : ∃ u, gU l = u := ⟨_, rfl⟩
  obtain ⟨m, hm⟩ : ∃ m, gN l = m := ⟨_, rfl⟩
  obtain ⟨v, hv⟩ : ∃ v, unz u = v := ⟨_, rfl⟩
  have hb := unz_bits u (by rw [← hu]; exact gU_lt l)
  have HD := Lib.hid (dVN lo hi l v m (by rw [hu]; exact hv) hm)
  rw [hu, hm] at HG
  rw [hv] at hb
  clear hu hm hv
  go_enter Try.func111, Try.ntmps111
  by_cases h1 : v < lo
  · go_wp2_with (go_at_call 112; refine (HG.out).mono ?_; rintro e w' ⟨rfl, rfl⟩)
    go_ret2
    unfold IR
    rw [(HD.out.2 (.inl h1)).1, (HD.out.2 (.inl h1)).2]
    exact ⟨rfl, rfl⟩
  · by_cases h2 : hi < v
    · go_wp2_with (go_at_call 112; refine (HG.out).mono ?_; rintro e w' ⟨rfl, rfl⟩)
      go_ret2
      unfold IR
      rw [(HD.out.2 (.inr h2)).1, (HD.out.2 (.inr h2)).2]
      exact ⟨rfl, rfl⟩
    · go_wp2_with (go_at_call 112; refine (HG.out).mono ?_; rintro e w' ⟨rfl, rfl⟩)
      go_ret2
      unfold IR
      rw [(HD.out.1 (by omega) (by omega)).1, (HD.out.1 (by omega) (by omega)).2]
      exact ⟨rfl, rfl⟩
/-- A state of a reader, laid out. -/
theorem RP.some_ {w : World} {D g : Nat} {l : List UInt8} (h : RP w D g (some l)) : g < D ∧ ∃ A n c, w.heap[g]? = some (.cells #[.slice A n c, .bool false] 142 (0, 0)) ∧ (∀ ad, A = some ad → ad.block ≠ g) ∧ Rd w D 1 A n (B8 l) ∧ n ≤ c ∧ c ≤ maxLen ∧ U8At w A n := by
  obtain ⟨h0, A, n, c, l', bad, h1, h2, h3, h4, h5, h6, h7⟩ := h
  cases bad with
  | true => cases h6
  | false => injection h6 with h6; subst h6; exact ⟨h0, A, n, c, h1, h2, h3, h4, h5, h7⟩
theorem RP.none_ {w : World} {D g : Nat} (h : RP w D g none) : ∃ A n c, w.heap[g]? = some (.cells #[.slice A n c, .bool true] 142 (0, 0)) := by
  obtain ⟨h0, A, n, c, l', bad, h1, h2, h3, h4, h5, h6, h7⟩ := h
  cases bad with
  | true => exact ⟨A, n, c, h1⟩
  | false => cases h6
theorem cellsAt {w : World} {g i : Nat} {cs : Array Value} {t : TypeId} {m : Nat × Nat} (h : w.heap[g]? = some (.cells cs t m)) : w.cell? ⟨g, i, none⟩ = cs[i]? := by simp [World.cell?, h]
theorem set_two {w : World} {g : Nat} {u v x : Value} {t : TypeId} {m : Nat × Nat} (h : w.heap[g]? = some (.cells #[u, v] t m)) :
    (w.setCell ⟨g, 0, none⟩ x).heap[g]? = some (.cells #[x, v] t m) ∧ (w.setCell ⟨g, 1, none⟩ x).heap[g]? = some (.cells #[u, x] t m) := by
  simp [World.setCell, Array.getElem?_modify, h]
/-- It is wrong from now on. -/
theorem RP.bad {w : World} {D g : Nat} {l : List UInt8} (h : RP w D g (some l)) : RP (w.setCell ⟨g, 1, none⟩ (.bool true)) D g none := by
  obtain ⟨h0, A, n, c, h1, h2, h3, h4, h5, h7⟩ := h.some_
  refine ⟨h0, A, n, c, l, true, (set_two h1).2, h2, ?_, h4, h5, rfl, h7.same fun ad e _ => set_other (h2 ad e)⟩
  refine ⟨h3.1, fun hn => ?_⟩
  obtain ⟨ad, e, hb, hc⟩ := h3.2 hn
  exact ⟨ad, e, hb, fun j u hu => by rw [World.cell?_setCell_other _ _ _ _ (fun e' => h2 ad e (by rw [← block_add ad j, ← e']))]; exact hc j u hu⟩
/-- So many bytes are taken. -/
theorem RP.cut {w : World} {D g k : Nat} {l : List UInt8} {A : Option Addr} {n c : Nat} (h0 : g < D) (h1 : w.heap[g]? = some (.cells #[.slice A n c, .bool false] 142 (0, 0))) (h2 : ∀ ad, A = some ad → ad.block ≠ g) (h3 : Rd w D 1 A n (B8 l)) (h4 : n ≤ c) (h5 : c ≤ maxLen) (h9 : U8At w A n) (hk : k ≤ n) :
    RP (w.setCell ⟨g, 0, none⟩ (.slice (if c = k then A else A.map (·.add k)) (n - k) (c - k))) D g (some (l.drop k)) := by
  have h6 := h3.cut hk h4
  rw [Nat.mul_one] at h6
  have h7 : (B8 l).drop k = B8 (l.drop k) := by simp [B8]
  rw [h7] at h6
  have h8 : ∀ ad, (if c = k then A else A.map (·.add k)) = some ad → ad.block ≠ g := by
    intro ad e
    split at e
    · exact h2 ad e
    · cases A with
      | none => cases e
      | some a => simp at e; subst e; rw [block_add]; exact h2 a rfl
  refine ⟨h0, _, _, _, l.drop k, false, (set_two h1).1, h8, ?_, by omega, by omega, rfl, ?_⟩
  · refine ⟨h6.1, fun hn => ?_⟩
    obtain ⟨ad, e, hb, hc⟩ := h6.2 hn
    exact ⟨ad, e, hb, fun j u hu => by rw [World.cell?_setCell_other _ _ _ _ (fun e' => h8 ad e (by rw [← block_add ad j, ← e']))]; exact hc j u hu⟩
  · intro hn ad e
    rw [set_other (h8 ad e)]
    split at e
    · exact h9 (by omega) ad e
    · cases A with
      | none => cases e
      | some a => simp at e; subst e; rw [block_add]; exact h9 (by omega) a rfl
end Go.Proofs.Ytplgodfhhlnojaa

/- pack.Reader: numbers, walked to their end. -/
namespace Go.Proofs.Ytplgodfhhlnojaa
open Go.RowKit
theorem rInt_eq (lo hi : Int) (l : List UInt8) : rInt lo hi (some l) = if dN lo hi l = 0 then (0, none) else (dV lo hi l, some (l.drop (dN lo hi l))) := by
  show (match dec lo hi l with | some (v, r) => (v, some r) | none => ((0 : Int), (none : Rs))) = _
  rw [dec_eq]
  by_cases h : dN lo hi l = 0 <;> simp [h]
set_option maxRecDepth 100000 in
set_option maxHeartbeats 1000000 in
theorem take64_c (g p q : Nat) (lo hi : Int) (s : Rs) (w : World) (D : Nat) (h : RP w D g s) (hp : w.cell? ⟨p, 0, none⟩ = some (.int .i64 lo)) (hq : w.cell? ⟨q, 0, none⟩ = some (.int .i64 hi)) :
    Calls Try.prog 110 #[.pointer (some ⟨g, 0, none⟩), .func (.func 111) #[] #[.pointer (some ⟨p, 0, none⟩), .pointer (some ⟨q, 0, none⟩)]] w (RPost w D g (.int .i64 (rInt lo hi s).1) (rInt lo hi s).2) := by
  cases s with
  | none =>
    have H := Lib.hid h
    obtain ⟨A, n, c, h1⟩ := h.none_
    have c1 : w.cell? ⟨g, 1, none⟩ = some (.bool true) := by rw [cellsAt h1]; rfl
    clear h h1
    go_enter Try.func110, Try.ntmps110
    go_wp2
    go_ret
    exact ⟨rfl, H.out, World.grownBy.refl w _⟩
  | some l =>
    have H := Lib.hid h
    obtain ⟨h0, A, n, c, h1, h2, h3, h4, h5, h9⟩ := h.some_
    have c0 : w.cell? ⟨g, 0, none⟩ = some (.slice A n c) := by rw [cellsAt h1]; rfl
    have c1 : w.cell? ⟨g, 1, none⟩ = some (.bool false) := by rw [cellsAt h1]; rfl
    have f0 := free0 (i := 0) h1
    have f1 := free0 (i := 1) h1
    have hlen : l.length = n := by have := h3.1; rw [B8_len] at this; omega
    have hdn := dN_le lo hi l
    have HC := Lib.hid (int1_c A n c l w D p q lo hi h3 (by unfold maxLen at h5; omega) hp hq)
    unfold IR at HC
    have HE := Lib.hid (rInt_eq lo hi l)
    have HCUT := Lib.hid (fun k hk => RP.cut (k := k) h0 h1 h2 h3 h4 h5 h9 hk)
    obtain ⟨d, hd⟩ : ∃ d, dN lo hi l = d := ⟨_, rfl⟩
    obtain ⟨v, hv⟩ : ∃ v, dV lo hi l = v := ⟨_, rfl⟩
    rw [hd, hv] at HC HE
    rw [hd, hlen] at hdn
    clear h h1 h2 h3 h9 hp hq hlen hd hv
    unfold maxLen at h5
    go_enter Try.func110, Try.ntmps110
    by_cases hd0 : d < 1
    · have hd00 : d = 0 := by omega
      have HD := Lib.hid hd00
      clear hd00
      go_wp2_with (go_at_call 111; refine (HC.out).mono ?_; rintro e w' ⟨rfl, rfl⟩)
      go_ret
      unfold RPost
      rw [HE.out, if_pos HD.out]
      exact ⟨rfl, H.out.bad, only_setCell (World.grownBy.refl w _) (.inl rfl) _⟩
    · have hd1 : ¬ (d : Int) < 1 := by omega
      by_cases hcd : c = d
      · subst hcd
        go_wp2_with (go_at_call 111; refine (HC.out).mono ?_; rintro e w' ⟨rfl, rfl⟩)
        go_ret
        unfold RPost
        rw [HE.out, if_neg (by omega)]
        have := HCUT.out c hdn
        rw [if_pos rfl, show n - c = 0 from by omega, Nat.sub_self] at this
        exact ⟨rfl, this, only_setCell (World.grownBy.refl w _) (.inl rfl) _⟩
      · go_wp2_with (go_at_call 111; refine (HC.out).mono ?_; rintro e w' ⟨rfl, rfl⟩)
        go_ret
        unfold RPost
        rw [HE.out, if_neg (by omega)]
        have := HCUT.out d hdn
        rw [if_neg hcd] at this
        exact ⟨rfl, this, only_setCell (World.grownBy.refl w _) (.inl rfl) _⟩
theorem take64_nil (F : Value) (w : World) : Calls Try.prog 110 #[.pointer none, F] w fun e w' => e = .returned (.int .i64 0) ∧ w = w' := by
  go_enter Try.func110, Try.ntmps110
  go_wp2
  go_ret
  exact ⟨rfl, rfl⟩
/-- The boxes of a call's own. -/
theorem cell_new2 (w : World) (u v : Value) (t1 t2 : TypeId) : ((w.alloc (.cells #[u] t1)).alloc (.cells #[v] t2)).cell? ⟨w.heap.size, 0, none⟩ = some u ∧ ((w.alloc (.cells #[u] t1)).alloc (.cells #[v] t2)).cell? ⟨w.heap.size + 1, 0, none⟩ = some v := by
  constructor
  · rw [World.cell?_alloc_lt _ _ _ (by simp)]; exact cell0 (heap_alloc_new w _)
  · have := heap_alloc_new (w.alloc (.cells #[u] t1)) (.cells #[v] t2)
    exact cell0 (by simpa using this)
theorem RP.alloc {w : World} {D g : Nat} {s : Rs} (h : RP w D g s) (hD : D ≤ w.heap.size) (o : Obj) : RP (w.alloc o) D g s := h.below ((Below.refl _ _).alloc hD o)
theorem rint_c (g : Nat) (lo hi : Int) (s : Rs) (w : World) (D : Nat) (h : RP w D g s) (hD : D ≤ w.heap.size) :
    Calls Try.prog 79 #[.pointer (some ⟨g, 0, none⟩), .int .i64 lo, .int .i64 hi] w (RPost w D g (.int .i64 (rInt lo hi s).1) (rInt lo hi s).2) := by
  have hmf : ∀ (fn : Fn) (first cap : Array Value) (w : World), (Instr.makeFunc fn first cap).run Try.prog w = .ok (.func fn first cap) w := fun _ _ _ _ => rfl
  have hc := cell_new2 w (.int .i64 lo) (.int .i64 hi) 2 2
  have HC := Lib.hid (take64_c g w.heap.size (w.heap.size + 1) lo hi s _ D ((h.alloc hD (.cells #[.int .i64 lo] 2)).alloc (by simp; omega) (.cells #[.int .i64 hi] 2)) hc.1 hc.2)
  unfold RPost at HC ⊢
  have hlt := h.lt
  have hgD := h.1
  generalize rInt lo hi s = r at *
  obtain ⟨v, s'⟩ := r
  clear hc h
  go_enter Try.func79, Try.ntmps79
  go_wp2_with fail
  refine HC.out.mono ?_
  rintro e w1 ⟨rfl, h1, g1⟩
  have H1 := Lib.hid h1
  have G1 := Lib.hid g1
  clear h1 g1
  go_wp2
  go_ret
  exact ⟨rfl, H1.out, only_trans (only_alloc (only_alloc (World.grownBy.refl w _) _) _) G1.out⟩
theorem rint_nil (lo hi : Int) (w : World) : Calls Try.prog 79 #[.pointer none, .int .i64 lo, .int .i64 hi] w fun e w' => e = .returned (.int .i64 0) ∧ Below w.heap.size w w' := by
  have hmf : ∀ (fn : Fn) (first cap : Array Value) (w : World), (Instr.makeFunc fn first cap).run Try.prog w = .ok (.func fn first cap) w := fun _ _ _ _ => rfl
  go_enter Try.func79, Try.ntmps79
  go_wp2_with (go_at_call 110; refine (take64_nil _ _).mono ?_; rintro e w' ⟨rfl, rfl⟩)
  go_ret
  exact ⟨rfl, ((Below.refl _ _).alloc (Nat.le_refl _) _).alloc (by simp) _⟩
end Go.Proofs.Ytplgodfhhlnojaa

/- pack.Reader: bytes, texts, the end. -/
namespace Go.Proofs.Ytplgodfhhlnojaa
open Go.RowKit
def bV : List UInt8 → Int
  | c :: _ => (c.toNat : Int)
  | [] => 0
def bN : List UInt8 → Nat
  | _ :: _ => 1
  | [] => 0
theorem bN_le (l : List UInt8) : bN l ≤ l.length := by cases l <;> simp [bN]
theorem rByte_eq (l : List UInt8) : rByte (some l) = if bN l = 0 then (0, none) else (bV l, some (l.drop (bN l))) := by cases l <;> simp [rByte, bN, bV]
/-- A text of m bytes, off the front. -/
def tV (m : Nat) (l : List UInt8) : List UInt8 := if m ≤ l.length then l.take m else []
def tN (m : Nat) (l : List UInt8) : Nat := if m ≤ l.length then m else 0
theorem tN_le (m : Nat) (l : List UInt8) : tN m l ≤ l.length := by unfold tN; split <;> omega
def rTake (m : Nat) : Rs → List UInt8 × Rs
  | none => ([], none)
  | some l => if m ≤ l.length then (l.take m, some (l.drop m)) else ([], none)
theorem rTake_eq (m : Nat) (h1 : 1 ≤ m) (l : List UInt8) : rTake m (some l) = if tN m l = 0 then ([], none) else (tV m l, some (l.drop (tN m l))) := by
  unfold rTake tN tV
  by_cases h : m ≤ l.length
  · simp only [if_pos h]; rw [if_neg (by omega)]
  · simp only [if_neg h, if_true]
def SV (l : List UInt8) : Value := .string ⟨l.toArray⟩
set_option maxHeartbeats 1000000 in
theorem text1_c (A : Option Addr) (n c : Nat) (l : List UInt8) (w : World) (D p m : Nat) (hr : Rd w D 1 A n (B8 l)) (hn : n ≤ 9223372036854775807) (hc : n ≤ c) (hp : w.cell? ⟨p, 0, none⟩ = some (.int .i64 (m : Int))) (hm : 1 ≤ m) :
    Calls Try.prog 120 #[.slice A n c, .pointer (some ⟨p, 0, none⟩)] w fun e w' => e = .returned (.tuple #[SV (tV m l), .int .i64 (tN m l : Nat)]) ∧ ∃ q, w' = w.drewN q := by
  have hlen : l.length = n := by have := hr.1; rw [B8_len] at this; omega
  unfold SV tV tN
  rw [hlen]
  by_cases h : n < m
  · rw [if_neg (by omega), if_neg (by omega)]
    clear hr hlen
    go_enter Try.func120, Try.ntmps120
    go_wp2
    go_ret2
    exact ⟨rfl, 0, rfl⟩
  · have h' : m ≤ n := by omega
    have h2 : m ≤ c := by omega
    rw [if_pos h', if_pos h']
    have ht := hr.take h'
    rw [Nat.mul_one, show (B8 l).take m = B8 (l.take m) from by simp [B8]] at ht
    have hcv : ∀ q c', (convert 59 9 (.slice A m c')).run Try.prog (w.drewN q) = .ok (.string ⟨(l.take m).toArray⟩) (w.drewN q) := fun q c' => run_conv_str (ht.drewN q)
    have hA : ∃ ad, A = some ad := by obtain ⟨ad, e, _⟩ := hr.2 (by omega); exact ⟨ad, e⟩
    obtain ⟨ad, rfl⟩ := hA
    clear hr hlen ht h
    go_enter Try.func120, Try.ntmps120
    go_wp2_with fail
    go_quiet (fail)
    go_wp2
    go_ret2
    exact ⟨rfl, _, rfl⟩
set_option maxRecDepth 100000 in
set_option maxHeartbeats 1000000 in
theorem takeS_c (g : Nat) (p m : Nat) (hm : 1 ≤ m) (s : Rs) (w : World) (D : Nat) (h : RP w D g s) (hp : w.cell? ⟨p, 0, none⟩ = some (.int .i64 (m : Int))) :
    Calls Try.prog 119 #[.pointer (some ⟨g, 0, none⟩), .func (.func 120) #[] #[.pointer (some ⟨p, 0, none⟩)]] w (RPost w D g (SV (rTake m s).1) (rTake m s).2) := by
  cases s with
  | none =>
    have H := Lib.hid h
    obtain ⟨A, n, c, h1⟩ := h.none_
    have c1 : w.cell? ⟨g, 1, none⟩ = some (.bool true) := by rw [cellsAt h1]; rfl
    clear h h1
    go_enter Try.func119, Try.ntmps119
    go_wp2
    go_ret
    exact ⟨rfl, H.out, World.grownBy.refl w _⟩
  | some l =>
    have H := Lib.hid h
    obtain ⟨h0, A, n, c, h1, h2, h3, h4, h5, h9⟩ := h.some_
    have c0 : w.cell? ⟨g, 0, none⟩ = some (.slice A n c) := by rw [cellsAt h1]; rfl
    have c1 : w.cell? ⟨g, 1, none⟩ = some (.bool false) := by rw [cellsAt h1]; rfl
    have f0 := free0 (i := 0) h1
    have f1 := free0 (i := 1) h1
    have hlen : l.length = n := by have := h3.1; rw [B8_len] at this; omega
    have hdn : tN m l ≤ l.length := tN_le m l
    have HC := Lib.hid (text1_c A n c l w D p m h3 (by unfold maxLen at h5; omega) h4 hp hm)
    have HE := Lib.hid (rTake_eq m hm l)
    have HCUT := Lib.hid (fun k hk => RP.cut (k := k) h0 h1 h2 h3 h4 h5 h9 hk)
    obtain ⟨d, hd⟩ : ∃ d, tN m l = d := ⟨_, rfl⟩
    obtain ⟨v, hv⟩ : ∃ v, tV m l = v := ⟨_, rfl⟩
    rw [hd, hv] at HC HE
    rw [hd, hlen] at hdn
    clear h h1 h2 h3 h9 hp hlen hd hv
    unfold maxLen at h5
    go_enter Try.func119, Try.ntmps119
    by_cases hd0 : d < 1
    · have hd00 : d = 0 := by omega
      have HD := Lib.hid hd00
      clear hd00
      go_wp2_with (go_at_call 120; refine (HC.out).mono ?_; rintro e w' ⟨rfl, hw'⟩; obtain ⟨nq, rfl⟩ := hw')
      go_ret
      unfold RPost
      rw [HE.out, if_pos HD.out]
      exact ⟨rfl, RP.bad (w := w.drewN nq) (H.out.drewN nq), only_setCell (only_drewN (World.grownBy.refl w _) nq) (.inl rfl) _⟩
    · have hd1 : ¬ (d : Int) < 1 := by omega
      by_cases hcd : c = d
      · subst hcd
        go_wp2_with (go_at_call 120; refine (HC.out).mono ?_; rintro e w' ⟨rfl, hw'⟩; obtain ⟨nq, rfl⟩ := hw')
        go_ret
        unfold RPost
        rw [HE.out, if_neg (by omega)]
        have := HCUT.out c hdn
        rw [if_pos rfl, show n - c = 0 from by omega, Nat.sub_self] at this
        exact ⟨rfl, this.drewN nq, only_setCell (only_drewN (World.grownBy.refl w _) nq) (.inl rfl) _⟩
      · go_wp2_with (go_at_call 120; refine (HC.out).mono ?_; rintro e w' ⟨rfl, hw'⟩; obtain ⟨nq, rfl⟩ := hw')
        go_ret
        unfold RPost
        rw [HE.out, if_neg (by omega)]
        have := HCUT.out d hdn
        rw [if_neg hcd] at this
        exact ⟨rfl, this.drewN nq, only_setCell (only_drewN (World.grownBy.refl w _) nq) (.inl rfl) _⟩
theorem takeS_c_nil (F : Value) (w : World) : Calls Try.prog 119 #[.pointer none, F] w fun e w' => e = .returned (SV []) ∧ w = w' := by
  go_enter Try.func119, Try.ntmps119
  go_wp2
  go_ret
  exact ⟨rfl, rfl⟩
theorem rText_eq (most : Int) (s : Rs) : rText most s = if (rInt 0 (max most 0) s).1 = 0 then ([], (rInt 0 (max most 0) s).2) else rTake (rInt 0 (max most 0) s).1.toNat (rInt 0 (max most 0) s).2 := by
  unfold rText
  obtain ⟨n, s'⟩ := rInt 0 (max most 0) s
  cases s' with
  | none => simp only [rTake]; split <;> rfl
  | some l =>
    simp only [rTake]
    by_cases h : n = 0
    · subst h; simp
    · simp [h]
theorem rInt_nn (hi : Int) (s : Rs) : 0 ≤ (rInt 0 hi s).1 ∧ (rInt 0 hi s).1 ≤ max hi 0 := by
  unfold rInt
  cases s with
  | none => simp; omega
  | some l =>
    cases h : dec 0 hi l with
    | none => simp only [h]; simp; omega
    | some p => obtain ⟨v, r⟩ := p; simp only [h]; have := dec_is h; omega
theorem rInt_bad (lo hi : Int) (s : Rs) (h : (rInt lo hi s).2 = none) : (rInt lo hi s).1 = 0 := by
  unfold rInt at *
  cases s with
  | none => rfl
  | some l =>
    cases h' : dec lo hi l with
    | none => simp only [h']
    | some p => obtain ⟨v, r⟩ := p; simp only [h'] at h; cases h
set_option maxRecDepth 100000 in
set_option maxHeartbeats 1000000 in
theorem rend_c (g : Nat) (s : Rs) (w : World) (D : Nat) (h : RP w D g s) : Calls Try.prog 80 #[.pointer (some ⟨g, 0, none⟩)] w fun e w' => e = .returned (.int .i64 (rEnd s)) ∧ w = w' := by
  cases s with
  | none =>
    obtain ⟨A, n, c, h1⟩ := h.none_
    have c1 : w.cell? ⟨g, 1, none⟩ = some (.bool true) := by rw [cellsAt h1]; rfl
    clear h h1
    go_enter Try.func80, Try.ntmps80
    go_wp2
    go_ret
    exact ⟨rfl, rfl⟩
  | some l =>
    obtain ⟨h0, A, n, c, h1, h2, h3, h4, h5, h9⟩ := h.some_
    have c0 : w.cell? ⟨g, 0, none⟩ = some (.slice A n c) := by rw [cellsAt h1]; rfl
    have c1 : w.cell? ⟨g, 1, none⟩ = some (.bool false) := by rw [cellsAt h1]; rfl
    have hlen : l.length = n := by have := h3.1; rw [B8_len] at this; omega
    cases l with
    | nil =>
      have hn : n = 0 := by simpa using hlen.symm
      subst hn
      clear h h1 h2 h3 hlen
      go_enter Try.func80, Try.ntmps80
      go_wp2
      go_ret
      exact ⟨rfl, rfl⟩
    | cons x l =>
      have hn : 0 < n := by simp at hlen; omega
      clear h h1 h2 h3 hlen
      go_enter Try.func80, Try.ntmps80
      go_wp2
      go_ret
      exact ⟨rfl, rfl⟩
theorem rend_nil (w : World) : Calls Try.prog 80 #[.pointer none] w fun e w' => e = .returned (.int .i64 2) ∧ w = w' := by
  go_enter Try.func80, Try.ntmps80
  go_wp2
  go_ret
  exact ⟨rfl, rfl⟩
end Go.Proofs.Ytplgodfhhlnojaa

/- pack.Reader: Text. -/
namespace Go.Proofs.Ytplgodfhhlnojaa
open Go.RowKit
set_option maxRecDepth 100000 in
set_option maxHeartbeats 1000000 in
theorem rtext_m (g : Nat) (most M : Int) (s : Rs) (w : World) (D : Nat) (h : RP w D g s) (hD : D ≤ w.heap.size) (hM : (0 ≤ most ∧ M = most) ∨ (most < 0 ∧ M = 0)) :
    Calls Try.prog 115 #[.pointer (some ⟨g, 0, none⟩), .int .i64 most] w
      (RPost w D g (SV (if (rInt 0 M s).1 = 0 then ([], (rInt 0 M s).2) else rTake (rInt 0 M s).1.toNat (rInt 0 M s).2).1) (if (rInt 0 M s).1 = 0 then ([], (rInt 0 M s).2) else rTake (rInt 0 M s).1.toNat (rInt 0 M s).2).2) := by
  have hmf : ∀ (fn : Fn) (first cap : Array Value) (w : World), (Instr.makeFunc fn first cap).run Try.prog w = .ok (.func fn first cap) w := fun _ _ _ _ => rfl
  have HC := Lib.hid (rint_c g 0 M s w D h hD)
  have hnn := (rInt_nn M s).1
  have hbad := rInt_bad 0 M s
  unfold RPost at HC ⊢
  have hgD := h.1
  have hlt := h.lt
  obtain ⟨v, s', hr⟩ : ∃ v s', rInt 0 M s = (v, s') := ⟨_, _, rfl⟩
  rw [hr] at hnn hbad HC ⊢
  simp only at hnn hbad HC ⊢
  have HBAD := Lib.hid hbad
  clear h hr hbad
  have HM : Hid (M = M) := Lib.hid rfl
  rcases hM with ⟨h0, rfl⟩ | ⟨h0, rfl⟩
  all_goals
    cases s' with
    | none =>
      have hv : v = 0 := HBAD.out rfl
      subst hv
      go_enter Try.func115, Try.ntmps115
      go_wp2_with fail
      refine HC.out.mono ?_
      rintro e w1 ⟨rfl, h1, g1⟩
      obtain ⟨A, n, c, hh⟩ := h1.none_
      have hz := g1.size
      have c1 : w1.cell? ⟨g, 1, none⟩ = some (.bool true) := by rw [cellsAt hh]; rfl
      have hgl := h1.lt
      have H1 := Lib.hid h1
      have G1 := Lib.hid g1
      clear h1 g1 hh
      go_wp2
      go_ret
      simp only [if_true]
      exact ⟨rfl, H1.out.alloc (by omega) _, only_alloc G1.out _⟩
    | some l =>
      by_cases hv : v = 0
      · subst hv
        go_enter Try.func115, Try.ntmps115
        go_wp2_with fail
        refine HC.out.mono ?_
        rintro e w1 ⟨rfl, h1, g1⟩
        obtain ⟨_, A, n, c, hh, _⟩ := h1.some_
        have hz := g1.size
        have c1 : w1.cell? ⟨g, 1, none⟩ = some (.bool false) := by rw [cellsAt hh]; rfl
        have hgl := h1.lt
        have H1 := Lib.hid h1
        have G1 := Lib.hid g1
        clear h1 g1 hh
        go_wp2
        go_ret
        simp only [if_true]
        exact ⟨rfl, H1.out.alloc (by omega) _, only_alloc G1.out _⟩
      · obtain ⟨m, rfl⟩ := Int.eq_ofNat_of_zero_le hnn
        have hvb : ((m : Int) == 0) = false := beq_eq_false_iff_ne.2 hv
        have hm1 : 1 ≤ m := by omega
        rw [if_neg hv]
        rw [Int.toNat_natCast]
        clear hv
        obtain ⟨x, hx⟩ : ∃ x, rTake m (some l) = x := ⟨_, rfl⟩
        rw [hx]
        obtain ⟨x1, x2⟩ := x
        have HX := Lib.hid hx
        clear hx
        go_enter Try.func115, Try.ntmps115
        go_wp2_with fail
        refine HC.out.mono ?_
        rintro e w1 ⟨rfl, h1, g1⟩
        obtain ⟨_, A, n, c, hh, _⟩ := h1.some_
        have hz := g1.size
        have c1 : w1.cell? ⟨g, 1, none⟩ = some (.bool false) := by rw [cellsAt hh]; rfl
        have hgl := h1.lt
        have H1 := Lib.hid h1
        have G1 := Lib.hid g1
        clear h1 g1 hh
        have HT := fun (w2 : World) (h2 : RP w2 D g (some l)) (hp : w2.cell? ⟨w1.heap.size, 0, none⟩ = some (.int .i64 (m : Int))) => takeS_c g w1.heap.size m hm1 (some l) w2 D h2 hp
        unfold RPost at HT
        rw [HX.out] at HT
        have HTH := Lib.hid HT
        clear HT
        go_wp2_with fail
        refine (HTH.out _ (H1.out.alloc (by omega) _) ?_).mono ?_
        · exact cell0 (heap_alloc_new w1 _)
        rintro e w2 ⟨rfl, h2, g2⟩
        have H2 := Lib.hid h2
        have G2 := Lib.hid g2
        clear h2 g2
        go_wp2
        go_ret
        exact ⟨rfl, H2.out, only_trans (only_alloc G1.out _) G2.out⟩
theorem rtext_c (g : Nat) (most : Int) (s : Rs) (w : World) (D : Nat) (h : RP w D g s) (hD : D ≤ w.heap.size) :
    Calls Try.prog 115 #[.pointer (some ⟨g, 0, none⟩), .int .i64 most] w (RPost w D g (SV (rText most s).1) (rText most s).2) := by
  rw [rText_eq]
  exact rtext_m g most (max most 0) s w D h hD (by omega)
theorem rtext_nil (most : Int) (w : World) : Calls Try.prog 115 #[.pointer none, .int .i64 most] w fun e w' => e = .returned (SV []) ∧ Below w.heap.size w w' := by
  by_cases h : 0 ≤ most
  all_goals
    go_enter Try.func115, Try.ntmps115
    go_wp2_with fail
    refine (rint_nil _ _ _).mono ?_
    rintro e w1 ⟨rfl, hb⟩
    have HB := Lib.hid hb
    have hz := hb.size
    clear hb
    go_wp2
    go_ret
    exact ⟨rfl, HB.out.alloc hz _⟩
end Go.Proofs.Ytplgodfhhlnojaa

/- pack's contracts, each at the number that it tells. -/
namespace Go.Proofs.Ytplgodfhhlnojaa
open Go.RowKit
theorem wint_is {g : Nat} {v : Int} {l l' : List UInt8} {base : Nat} {w : World} (h : WB w base g l) (hl : l.length ≤ 1000000000) (h0 : -9223372036854775808 ≤ v) (h1 : v ≤ 9223372036854775807) (e : l ++ enc v = l') :
    Calls Try.prog 73 #[.pointer (some ⟨g, 0, none⟩), .int .i64 v] w (WP w base g l') := e ▸ wint_c g v l base w h hl h0 h1
theorem wtext_is {g : Nat} {s : ByteArray} {l l' : List UInt8} {base : Nat} {w : World} (h : WB w base g l) (hl : l.length ≤ 1000000000) (hs : s.size ≤ 1000000000) (e : l ++ encT s.data.toList = l') :
    Calls Try.prog 91 #[.pointer (some ⟨g, 0, none⟩), .string s] w (WP w base g l') := e ▸ wtext_c g s l base w h hl hs
theorem rint_is {g : Nat} {lo hi v : Int} {s s' : Rs} {w : World} {D : Nat} (h : RP w D g s) (hD : D ≤ w.heap.size) (e : rInt lo hi s = (v, s')) :
    Calls Try.prog 79 #[.pointer (some ⟨g, 0, none⟩), .int .i64 lo, .int .i64 hi] w (RPost w D g (.int .i64 v) s') := by
  have := rint_c g lo hi s w D h hD
  rwa [e] at this
theorem rtext_is {g : Nat} {most : Int} {l : List UInt8} {s s' : Rs} {w : World} {D : Nat} (h : RP w D g s) (hD : D ≤ w.heap.size) (e : rText most s = (l, s')) :
    Calls Try.prog 115 #[.pointer (some ⟨g, 0, none⟩), .int .i64 most] w (RPost w D g (.string ⟨l.toArray⟩) s') := by
  have := rtext_c g most s w D h hD
  rwa [e] at this
theorem rend_is {g : Nat} {v : Int} {s : Rs} {w : World} {D : Nat} (h : RP w D g s) (e : rEnd s = v) : Calls Try.prog 80 #[.pointer (some ⟨g, 0, none⟩)] w fun e w' => e = .returned (.int .i64 v) ∧ w = w' := by
  have := rend_c g s w D h
  rwa [e] at this
theorem rd_litB (w : World) (l : List UInt8) (cs : Array Value) (n : Nat) (hcs : cs.toList = B8 l) (hn : l.length = n) (t : TypeId) (m : Nat × Nat) : Rd (w.alloc (.cells cs t m)) (w.alloc (.cells cs t m)).heap.size 1 (some ⟨w.heap.size, 0, none⟩) n (B8 l) :=
  ⟨by rw [B8_len]; omega, fun _ => ⟨_, rfl, by simp, by rw [← hcs]; exact World.news_of_block (heap_alloc_new w _)⟩⟩
end Go.Proofs.Ytplgodfhhlnojaa
