/- Shares, as the program makes them. -/
import Derived.Test.YtblpkcoapbkppaaShPure
import Derived.Test.YtblpkcoapbkppaaInts
set_option linter.unusedSimpArgs false
set_option linter.unusedVariables false
namespace Go.Proofs.Ytblpkcoapbkppaa
open Go.RowKit
instance (all : Int) (l : List Int) : Decidable (ShOk all l) := by unfold ShOk; infer_instance
def ShPost (w : World) (all : Int) (l : List Int) (e : Ending) (w' : World) : Prop :=
  if ShOk all l then ∃ v, e = .returned (.tuple #[v, .int .i64 0]) ∧ OI w' w.heap.size v (shs all l) ∧ Below w.heap.size w w'
  else e = .returned (.tuple #[.slice none 0 0, .int .i64 1]) ∧ Below w.heap.size w w'
theorem ShPost.no {w w' : World} {all : Int} {l : List Int} {e : Ending} (h : ¬ ShOk all l) (he : e = .returned (.tuple #[.slice none 0 0, .int .i64 1])) (hb : Below w.heap.size w w') : ShPost w all l e w' := by
  unfold ShPost; rw [if_neg h]; exact ⟨he, hb⟩
theorem ShPost.yes {w w' : World} {all : Int} {l : List Int} {e : Ending} (h : ShOk all l) (v : Value) (he : e = .returned (.tuple #[v, .int .i64 0])) (ho : OI w' w.heap.size v (shs all l)) (hb : Below w.heap.size w w') : ShPost w all l e w' := by
  unfold ShPost; rw [if_pos h]; exact ⟨v, he, ho, hb⟩
/-- The list behind some rounds of giving what is left. -/
def given (all : Int) (l : List Int) (k : Nat) : List Int := (List.range l.length).map fun i => if i < k then share1 all l i else all * l.getD i 0 / l.sum
theorem given_len (all : Int) (l : List Int) (k : Nat) : (given all l k).length = l.length := by simp [given]
theorem given_zero (all : Int) (l : List Int) : given all l 0 = bas all l.sum l := by
  apply List.ext_getElem
  · simp [given, bas]
  · intro i h1 h2
    simp only [given, List.length_map, List.length_range] at h1
    simp [given, bas, List.getD, h1]
theorem given_done (all : Int) (l : List Int) (k : Nat) (h : lef all l - cntP (l.take k) ≤ 0) : given all l k = shs all l := by
  apply List.ext_getElem
  · simp [given, shs]
  · intro i h1 h2
    simp only [given, List.length_map, List.length_range] at h1
    simp only [given, shs, List.getElem_map, List.getElem_range]
    split
    · rfl
    · rename_i hk
      unfold share1
      rw [if_neg]
      · omega
      · rintro ⟨_, h4⟩
        have := cnt_mono l k i (by omega)
        omega
theorem given_at (all : Int) (l : List Int) (k : Nat) (hk : k < l.length) : (given all l k)[k]'(by rw [given_len]; exact hk) = all * l[k] / l.sum := by
  simp [given, List.getD, hk]
theorem given_step (all : Int) (l : List Int) (k : Nat) (hk : k < l.length) (hl : 0 < lef all l - cntP (l.take k)) :
    given all l (k + 1) = if 0 < l[k] then (given all l k).set k (all * l[k] / l.sum + 1) else given all l k := by
  have e : ∀ i, i < l.length → (if i < k + 1 then share1 all l i else all * l.getD i 0 / l.sum) = (if i = k then share1 all l i else if i < k then share1 all l i else all * l.getD i 0 / l.sum) := by
    intro i _
    by_cases h1 : i = k
    · subst h1; simp
    · by_cases h2 : i < k
      · rw [if_pos (by omega), if_neg h1, if_pos h2]
      · rw [if_neg (by omega), if_neg h1, if_neg h2]
  have hs : share1 all l k = if 0 < l[k] then all * l[k] / l.sum + 1 else all * l[k] / l.sum := by
    unfold share1
    rw [show l.getD k 0 = l[k] by simp [List.getD, hk]]
    by_cases h0 : 0 < l[k]
    · rw [if_pos ⟨h0, by omega⟩, if_pos h0]
    · rw [if_neg (fun h => h0 h.1), if_neg h0]; omega
  apply List.ext_getElem
  · split <;> simp [given]
  · intro i h1 h2
    have hi : i < l.length := by simpa [given] using h1
    by_cases h0 : 0 < l[k]
    · simp only [h0, if_true] at hs ⊢
      rw [List.getElem_set]
      simp only [given, List.getElem_map, List.getElem_range]
      rw [e i hi]
      by_cases h3 : i = k
      · subst h3; rw [if_pos rfl, if_pos rfl, hs]
      · rw [if_neg h3, if_neg (fun h => h3 (Eq.symm h))]
    · simp only [h0, if_false] at hs ⊢
      simp only [given, List.getElem_map, List.getElem_range]
      rw [e i hi]
      by_cases h3 : i = k
      · subst h3
        rw [if_pos rfl, if_neg (by omega), hs]
        simp [List.getD, hk]
      · rw [if_neg h3]
theorem sum_part (l : List Int) (k : Nat) (hk : ∀ p ∈ l.take k, 0 ≤ p ∧ p ≤ 1000) : 0 ≤ (l.take k).sum ∧ (l.take k).sum ≤ 1000 * k := by
  have := sum_pos (l.take k) hk
  rw [List.length_take] at this
  omega
theorem mem_take_step {l : List Int} {k : Nat} (hk : k < l.length) (h : ∀ p ∈ l.take k, 0 ≤ p ∧ p ≤ 1000) (h1 : 0 ≤ l[k]) (h2 : l[k] ≤ 1000) : ∀ p ∈ l.take (k + 1), 0 ≤ p ∧ p ≤ 1000 := by
  intro p hp
  rw [List.take_succ_eq_append_getElem hk, List.mem_append] at hp
  rcases hp with hp | hp
  · exact h p hp
  · simp at hp; omega
/-- The parts that were seen may be. -/
def PartsAt (w wr : World) (l : List Int) (k : Nat) : Prop := w = wr ∧ ∀ p ∈ l.take k, 0 ≤ p ∧ p ≤ 1000
/-- The shares that were made. -/
def OutAt (w wr : World) (b : Value) (xs : List Int) : Prop := OI wr w.heap.size b xs ∧ Below w.heap.size w wr
set_option maxHeartbeats 4000000 in
theorem share_c (A : Option Addr) (n c : Nat) (all : Int) (l : List Int) (w : World) (hr : Rd w w.heap.size 1 A n (I8 l)) (hn : n ≤ maxLen) :
    Calls Try.prog 16 #[.int .i64 all, .slice A n c] w (ShPost w all l) := by
  have hln : l.length = n := by have := hr.1; rw [I8_len] at this; omega
  have HR := Lib.hid hr
  have HL := Lib.hid hln
  have hmn : n ≤ 9223372036854775807 := by unfold maxLen at hn; omega
  by_cases h1 : all < 0
  · have hno : ¬ ShOk all l := fun h => by have := h.1; omega
    clear hr hln hn
    go_enter Try.func16, Try.ntmps16
    go_wp2
    go_ret2
    exact ShPost.no hno rfl (Below.refl _ _)
  by_cases h2 : 1099511627776 < all
  · have hno : ¬ ShOk all l := fun h => by have := h.2.1; omega
    clear hr hln hn
    go_enter Try.func16, Try.ntmps16
    go_wp2
    go_ret2
    exact ShPost.no hno rfl (Below.refl _ _)
  by_cases h3 : n < 1
  · have hno : ¬ ShOk all l := fun h => by have := h.2.2.1; omega
    clear hr hln hn
    go_enter Try.func16, Try.ntmps16
    go_wp2
    go_ret2
    exact ShPost.no hno rfl (Below.refl _ _)
  by_cases h4 : 100 < n
  · have hno : ¬ ShOk all l := fun h => by have := h.2.2.2.1; omega
    clear hr hln hn
    go_enter Try.func16, Try.ntmps16
    go_wp2
    go_ret2
    exact ShPost.no hno rfl (Below.refl _ _)
  clear hr hln hn
  go_enter Try.func16, Try.ntmps16
  go_wp2
  go_loopw [6, 33] (fun s i wr => ∃ k : Nat, k ≤ n ∧ i = .int .i64 k ∧ s = .int .i64 (l.take k).sum ∧ Hid (PartsAt w wr l k)) (fun _ i _ => n - (intOf i).toNat)
  case atStart => exact ⟨0, by omega, rfl, by simp, Lib.hid ⟨rfl, by simp⟩⟩
  case round =>
    obtain ⟨k, hk, rfl, rfl, hq⟩ := hrel
    obtain ⟨rfl, hp⟩ := hq.out
    have HP := Lib.hid hp
    clear hp hq
    by_cases hlt : k < n
    · obtain ⟨ad, hl, rfl, _, hcell⟩ := HR.out.num hlt
      obtain ⟨p, hp⟩ : ∃ p, l[k] = p := ⟨_, rfl⟩
      have HPP := Lib.hid hp
      have hmem : p ∈ l := hp ▸ List.getElem_mem hl
      have HM := Lib.hid hmem
      rw [hp] at hcell
      clear hp hmem
      by_cases p0 : p < 0
      · have hno : ¬ ShOk all l := fun h => by have := (h.2.2.2.2.1 p HM.out).1; omega
        go_wp2
        go_ret2
        exact ShPost.no hno rfl (Below.refl _ _)
      by_cases p1 : 1000 < p
      · have hno : ¬ ShOk all l := fun h => by have := (h.2.2.2.2.1 p HM.out).2; omega
        go_wp2
        go_ret2
        exact ShPost.no hno rfl (Below.refl _ _)
      have hs := sum_part l k HP.out
      have hst := sum_take_step l k hl
      rw [HPP.out] at hst
      have HST := Lib.hid hst
      clear hst
      generalize (l.take k).sum = s at *
      go_wp2
      go_roundw
      case rel => exact ⟨k + 1, by omega, by go_num, by rw [HST.out], Lib.hid ⟨rfl, mem_take_step hl HP.out (by rw [HPP.out]; omega) (by rw [HPP.out]; omega)⟩⟩
      case measure => simp [intOf]; omega
    · obtain rfl : n = k := by omega
      have hall : ∀ p ∈ l, 0 ≤ p ∧ p ≤ 1000 := by
        intro p hp
        exact HP.out p (by rw [← HL.out, List.take_length]; exact hp)
      have hsum : (l.take n).sum = l.sum := by rw [← HL.out, List.take_length]
      rw [hsum]
      have hs := sum_pos l hall
      rw [HL.out] at hs
      by_cases hz : l.sum = 0
      · have hno : ¬ ShOk all l := fun h => h.2.2.2.2.2 hz
        go_wp2
        go_ret2
        exact ShPost.no hno rfl (Below.refl _ _)
      have hok : ShOk all l := ⟨by omega, by omega, by rw [HL.out]; omega, by rw [HL.out]; omega, hall, hz⟩
      have HOK := Lib.hid hok
      clear hall hok hsum HP
      obtain ⟨S, hS⟩ : ∃ S, l.sum = S := ⟨_, rfl⟩
      rw [hS] at hs hz ⊢
      have HSS := Lib.hid hS
      clear hS
      have hz1 : (S == 0) = false := beq_eq_false_iff_ne.2 hz
      go_wp2
      go_loopw [9, 10, 52] (fun o x i wr => ∃ (k : Nat) (B : Option Addr) (cb : Nat), k ≤ n ∧ i = .int .i64 k ∧ o = .slice B k cb ∧ x = .int .i64 (all - ((bas all S l).take k).sum) ∧ Hid (OutAt w wr (.slice B k cb) ((bas all S l).take k))) (fun _ _ i _ => n - (intOf i).toNat)
      case atStart => exact ⟨0, none, 0, by omega, rfl, rfl, by simp, Lib.hid ⟨OI.nil _ _, Below.refl _ _⟩⟩
      case round =>
        obtain ⟨k, B, cb, hk, rfl, rfl, rfl, hq⟩ := hrel
        by_cases hlt2 : k < n
        · obtain ⟨own, hb⟩ := hq.out
          obtain ⟨ad, hl, rfl, _, hcell⟩ := (HR.out.below hb).num hlt2
          obtain ⟨p, hp⟩ : ∃ p, l[k] = p := ⟨_, rfl⟩
          have hmem : p ∈ l := hp ▸ List.getElem_mem hl
          rw [hp] at hcell
          have hf := sh_fits HOK.out p hmem
          have hx := bas_at HOK.out p hmem
          rw [HSS.out] at hx
          have hst := sum_take_step (bas all S l) k (by rw [bas_len]; exact hl)
          rw [bas_get k hl, hp] at hst
          have hsl := bas_take_nonneg HOK.out (k + 1)
          have hsl0 := bas_take_nonneg HOK.out k
          have hle := bas_sum_le HOK.out
          rw [HSS.out] at hsl hsl0 hle
          have htk : (bas all S l).take (k + 1) = (bas all S l).take k ++ [all * p / S] := by
            rw [List.take_succ_eq_append_getElem (by rw [bas_len]; exact hl), bas_get k hl, hp]
          have hlen : ((bas all S l).take k).length = k := by rw [List.length_take, bas_len]; omega
          have HTK := Lib.hid htk
          have HLEN := Lib.hid hlen
          have HST := Lib.hid hst
          have HOWN := Lib.hid own
          have HB := Lib.hid hb
          have e1 : wrap64 (all * p) = all * p := IntWalk.wrap64_in _ (by omega)
          have e2 : (all * p).tdiv S = all * p / S := Int.tdiv_eq_ediv_of_nonneg hf.1
          have hS0 : ¬ S = 0 := hz
          obtain ⟨x, hxx⟩ : ∃ x, all * p / S = x := ⟨_, rfl⟩
          rw [hxx] at e2 hx hst
          have HXX := Lib.hid hxx
          clear hst own hb hp hmem htk hlen hxx
          go_wp2_with (at_builtin; refine wpl_appI rfl (.tmp 61) (.tmp 63) rfl w.heap.size _ _ rfl (HOWN.out.alloc _) (wr.heap.size + 1) _ 1 1 [x] rfl (rd_new1 wr _ _) ?_ ?_ ?_)
          · rw [HLEN.out]; omega
          · have := HB.out.size; simp; omega
          intro v' w' hown' hg' _
          obtain ⟨A', c', rfl, _, _, _⟩ := hown'.form
          have hl' : ((bas all S l).take k ++ [x]).length = k + 1 := by rw [List.length_append, HLEN.out]; rfl
          rw [hl'] at hown' ⊢
          have HOWN' := Lib.hid hown'
          have HG' := Lib.hid hg'
          have HLT := Lib.hid (OI.lt HOWN.out)
          clear hown' hg' hl'
          go_wp2
          go_roundw
          case rel =>
            refine ⟨k + 1, _, _, by omega, by go_num, rfl, ?_, Lib.hid ⟨?_, ?_⟩⟩
            · rw [HST.out, HXX.out]; congr 1; omega
            · rw [HTK.out, HXX.out]; exact HOWN'.out
            · exact (HB.out.alloc HB.out.size _).grown HG'.out (by have := HB.out.size; simp; omega) (fun g hg => (HLT.out g hg).1)
          case measure => simp [intOf]; omega
        · obtain rfl : n = k := by omega
          obtain ⟨own, hb⟩ := hq.out
          have htk : (bas all S l).take n = bas all S l := by rw [List.take_of_length_le (by rw [bas_len, HL.out]; omega)]
          have hlf : all - ((bas all S l).take n).sum = lef all l := by rw [htk]; unfold lef; rw [HSS.out]
          have hgz : (bas all S l).take n = given all l 0 := by rw [htk, given_zero, HSS.out]
          rw [hgz] at own
          have hlb := lef_bounds HOK.out
          rw [hlf]
          have HOWN := Lib.hid own
          have HB := Lib.hid hb
          clear own hb htk hlf hgz hq
          obtain ⟨L, hL⟩ : ∃ L, lef all l = L := ⟨_, rfl⟩
          rw [hL] at hlb ⊢
          have HLL := Lib.hid hL
          have hc100 : (cntP l : Int) ≤ n := by rw [← HL.out]; unfold cntP; exact_mod_cast List.countP_le_length
          clear hL
          go_wp2
          go_loopw [10, 14] (fun x i wr => ∃ k : Nat, k ≤ n ∧ i = .int .i64 k ∧ x = .int .i64 (L - cntP (l.take k)) ∧ 0 ≤ L - cntP (l.take k) ∧ Hid (OutAt w wr (.slice B n cb) (given all l k))) (fun _ i _ => n - (intOf i).toNat)
          case atStart => exact ⟨0, by omega, rfl, by simp [cntP], by simp [cntP]; omega, Lib.hid ⟨HOWN.out, HB.out⟩⟩
          case round =>
            obtain ⟨k, hk, rfl, rfl, hx0, hq⟩ := hrel
            obtain ⟨own, hb⟩ := hq.out
            obtain ⟨X, hX⟩ : ∃ X, L - cntP (l.take k) = X := ⟨_, rfl⟩
            rw [hX] at hx0 ⊢
            have hxb : X ≤ 1000 := by omega
            by_cases hlt3 : 0 < X
            · have hkn : k < n := by
                rcases Nat.lt_or_ge k n with h | h
                · exact h
                · exfalso
                  have : l.take k = l := List.take_of_length_le (by rw [HL.out]; omega)
                  rw [this] at hX
                  omega
              obtain ⟨ad, hl, rfl, _, hcell⟩ := (HR.out.below hb).num hkn
              have hgs := given_step all l k hl (by rw [HLL.out, hX]; exact hlt3)
              have hcs := cnt_take_step l k hl
              have hga := given_at all l k hl
              have hmem := bas_at HOK.out l[k] (List.getElem_mem hl)
              obtain ⟨p, hp⟩ : ∃ p, l[k] = p := ⟨_, rfl⟩
              rw [hp] at hcell hgs hcs hga hmem
              obtain ⟨y, hy⟩ : ∃ y, all * p / l.sum = y := ⟨_, rfl⟩
              rw [hy] at hgs hga hmem
              by_cases hp0 : 0 < p
              · rw [if_pos hp0] at hgs hcs
                obtain ⟨g, cg, hbv, hg1, hg2⟩ := own.block (by rw [given_len]; omega)
                rw [given_len, HL.out] at hbv
                injection hbv with hB1 hB2 hB3
                subst hB1 hB3
                have own' : wr.ownsRow w.heap.size 2 1 (.slice (some ⟨g, 0, none⟩) n cb) n (I8 (given all l k)) := by
                  have := own
                  unfold OI at this
                  rwa [given_len, HL.out] at this
                have hc := own'.cellAt k (by omega)
                have hf := own'.frozenAt k
                rw [I8_at _ k (by rw [given_len]; exact hl), hga] at hc
                have HG := Lib.hid hgs
                have HC := Lib.hid hcs
                have HX := Lib.hid hX
                have HB3 := Lib.hid hb
                have HO := Lib.hid own'
                have e1 : wrap64 (y + 1) = y + 1 := IntWalk.wrap64_in _ (by omega)
                clear hgs hcs hX hb own own' hga hp hy hq
                go_wp2_with fail
                go_roundw
                case rel =>
                  refine ⟨k + 1, by omega, by go_num, ?_, ?_, Lib.hid ⟨?_, ?_⟩⟩
                  · rw [HC.out]; have := HX.out; congr 1; omega
                  · rw [HC.out]; have := HX.out; omega
                  · rw [HG.out]
                    have h2 := HO.out.stored k (.int .i64 (y + 1))
                    unfold OI
                    rw [I8_set, List.length_set, given_len, HL.out]
                    exact h2.1
                  · exact HB3.out.setCell (p := ⟨g, k, none⟩) hg1 _
                case measure => simp [intOf]; omega
              · rw [if_neg hp0] at hgs hcs
                have HG := Lib.hid hgs
                have HC := Lib.hid hcs
                have HX := Lib.hid hX
                clear hgs hcs hX hb own hga hp hy
                go_wp2_with fail
                go_roundw
                case rel =>
                  refine ⟨k + 1, by omega, by go_num, ?_, ?_, ?_⟩
                  · rw [HC.out]; have := HX.out; congr 1; omega
                  · rw [HC.out]; have := HX.out; omega
                  · rw [HG.out]; exact hq
                case measure => simp [intOf]; omega
            · have hdone := given_done all l k (by rw [HLL.out, hX]; omega)
              rw [hdone] at own
              have HO := Lib.hid own
              have HB3 := Lib.hid hb
              clear own hb hdone hX hq
              go_wp2
              go_ret2
              exact ShPost.yes HOK.out _ rfl HO.out HB3.out
end Go.Proofs.Ytblpkcoapbkppaa
