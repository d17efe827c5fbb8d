/- The laws of layer 21, walked. -/
import Derived.Test.YtblpkcoapbkppaaBound
import Derived.Test.YtblpkcoapbkppaaOpenS
import Derived.Test.YtblpkcoapbkppaaBelowR
import Derived.Outline
set_option linter.unusedSimpArgs false
set_option linter.unusedVariables false
namespace Go.Proofs.Ytblpkcoapbkppaa
open Go.RowKit
theorem rounds_is (n v : Int) (h : 1000 + 5 * min (max n 0) 200 = v) (w : World) : Calls Try.prog 42 #[.int .i64 n] w fun e w' => e = .returned (.int .i64 v) ∧ w = w' := h ▸ rounds_c n w
theorem rounds_b (n : Int) (w : World) : Calls Try.prog 42 #[.int .i64 n] w fun e w' => e = .returned (.int .i64 (1000 + 5 * min (max n 0) 200)) ∧ Below w.heap.size w w' := (rounds_c n w).mono fun _ _ ⟨h, e⟩ => ⟨h, e ▸ Below.refl _ _⟩
theorem rrounds_b (n : Int) (w : World) : Calls Try.prog 43 #[.int .i64 n] w fun e w' => e = .returned (.int .i64 (1000 + 5 * min (max n 0) 200)) ∧ Below w.heap.size w w' := (rrounds_c n w).mono fun _ _ ⟨h, e⟩ => ⟨h, e ▸ Below.refl _ _⟩
theorem conf_is (x : C10) (v : Bool) (h : decide (MayC x) = v) (w : World) : Calls Try.prog 38 #[x.val] w fun e w' => e = .returned (.bool v) ∧ Below w.heap.size w w' := h ▸ conf_c x w
theorem rconf_is (x : C10) (v : Bool) (h : decide (MayC x) = v) (w : World) : Calls Try.prog 39 #[x.val] w fun e w' => e = .returned (.bool v) ∧ Below w.heap.size w w' := h ▸ rconf_c x w
theorem steps_is (x : W7) (v : Int) (h : stepsN x = v) (w : World) : Calls Try.prog 40 #[x.val] w fun e w' => e = .returned (.int .i64 v) ∧ Below w.heap.size w w' := by subst h; exact steps_c x w
theorem rsteps_is (x : W7) (v : Int) (h : stepsN x = v) (w : World) : Calls Try.prog 41 #[x.val] w fun e w' => e = .returned (.int .i64 v) ∧ Below w.heap.size w w' := by subst h; exact rsteps_c x w
set_option maxHeartbeats 4000000 in
theorem told21 (w : World) : Calls Try.prog 37 #[] w fun e w' => e = .returned (.bool true) ∧ Below w.heap.size w w' := by
  have r0 := rounds_is 0 1000 (by decide)
  have r3 := rounds_is 3 1015 (by decide)
  have rn := rounds_is (-1) 1000 (by decide)
  have rb := rounds_is 1099511627776 2000 (by decide)
  have c0 := conf_is ⟨0, 0, 0, 0, 0, 0, 0, 0, 0, 0⟩ true (by decide)
  have s0 := steps_is ⟨0, 0, 0, 0, 0, 0, 0⟩ 0 (by decide +kernel)
  have s1 := steps_is ⟨1, 0, 0, 1, 1, 1, 0⟩ 12 (by decide +kernel)
  go_enter Try.func37, Try.ntmps37
  go_wp2_with fail
  refine (r0 _).mono ?_; rintro e w' ⟨rfl, rfl⟩
  go_wp2_with fail
  refine (r3 _).mono ?_; rintro e w' ⟨rfl, rfl⟩
  go_wp2_with fail
  refine (rn _).mono ?_; rintro e w' ⟨rfl, rfl⟩
  go_wp2_with fail
  refine (rb _).mono ?_; rintro e w' ⟨rfl, rfl⟩
  go_wp2_with fail
  refine (c0 _).mono ?_; rintro e w1 ⟨rfl, b1⟩
  go_wp2_with fail
  refine (s0 _).mono ?_; rintro e w2 ⟨rfl, b2⟩
  go_wp2_with fail
  refine (s1 _).mono ?_; rintro e w3 ⟨rfl, b3⟩
  go_wp2
  go_ret
  exact ⟨rfl, b1.trans ((b2.trans (b3.mono b2.size)).mono b1.size)⟩
theorem stepsN_pos (x : W7) : decide (0 < stepsN x) = decide (MayW x) := by
  unfold stepsN
  by_cases h : MayW x
  · rw [if_pos h, decide_eq_true h]
    exact decide_eq_true (by omega)
  · rw [if_neg h, decide_eq_false h]; rfl
def boxCX (w : World) (c : C10) (x : W7) : World := (w.alloc (.cells #[.int .i64 c.a0, .int .i64 c.o0, .int .i64 c.a1, .int .i64 c.o1, .int .i64 c.a2, .int .i64 c.o2, .int .i64 c.f0, .int .i64 c.f1, .int .i64 c.f2, .int .i64 c.f3] 61)).alloc (.cells #[.int .i64 x.b, .int .i64 x.c, .int .i64 x.d, .int .i64 x.m0, .int .i64 x.m1, .int .i64 x.m2, .int .i64 x.p] 37)
def CH2 (w : World) (c : C10) (x : W7) (wc : World) : Prop := Below (boxCX w c x).heap.size (boxCX w c x) wc
theorem boxC_at (w : World) (c : C10) (x : W7) (k : Nat) (u : Value) (h : (#[.int .i64 c.a0, .int .i64 c.o0, .int .i64 c.a1, .int .i64 c.o1, .int .i64 c.a2, .int .i64 c.o2, .int .i64 c.f0, .int .i64 c.f1, .int .i64 c.f2, .int .i64 c.f3] : Array Value)[k]? = some u) : (boxCX w c x).cell? ⟨w.heap.size, k, none⟩ = some u := by
  have h := World.news_of_block (heap_alloc_new w (.cells #[.int .i64 c.a0, .int .i64 c.o0, .int .i64 c.a1, .int .i64 c.o1, .int .i64 c.a2, .int .i64 c.o2, .int .i64 c.f0, .int .i64 c.f1, .int .i64 c.f2, .int .i64 c.f3] 61)) k u (by simpa using h)
  have e : (⟨w.heap.size, 0, none⟩ : Addr).add k = ⟨w.heap.size, k, none⟩ := by unfold Addr.add; split <;> simp_all
  rw [e] at h
  exact (World.cell?_alloc_lt _ _ _ (by simp)).trans h
theorem boxX_at (w : World) (c : C10) (x : W7) (k : Nat) (u : Value) (h : (#[.int .i64 x.b, .int .i64 x.c, .int .i64 x.d, .int .i64 x.m0, .int .i64 x.m1, .int .i64 x.m2, .int .i64 x.p] : Array Value)[k]? = some u) : (boxCX w c x).cell? ⟨w.heap.size + 1, k, none⟩ = some u := by
  have h := World.news_of_block (heap_alloc_new (w.alloc (.cells #[.int .i64 c.a0, .int .i64 c.o0, .int .i64 c.a1, .int .i64 c.o1, .int .i64 c.a2, .int .i64 c.o2, .int .i64 c.f0, .int .i64 c.f1, .int .i64 c.f2, .int .i64 c.f3] 61)) (.cells #[.int .i64 x.b, .int .i64 x.c, .int .i64 x.d, .int .i64 x.m0, .int .i64 x.m1, .int .i64 x.m2, .int .i64 x.p] 37)) k u (by simpa using h)
  have e : (⟨(w.alloc (.cells #[.int .i64 c.a0, .int .i64 c.o0, .int .i64 c.a1, .int .i64 c.o1, .int .i64 c.a2, .int .i64 c.o2, .int .i64 c.f0, .int .i64 c.f1, .int .i64 c.f2, .int .i64 c.f3] 61)).heap.size, 0, none⟩ : Addr).add k = ⟨w.heap.size + 1, k, none⟩ := by unfold Addr.add; split <;> simp_all
  rw [e] at h
  exact h
set_option maxHeartbeats 4000000 in
theorem boundAsks_walk (c : C10) (x : W7) (n : Int) (w : World) : Calls Try.prog 12 #[c.val, x.val, .int .i64 n] w fun e w' => e = .returned (.bool true) ∧ Below w.heap.size w w' := by
  have T := Lib.hid told21
  obtain ⟨mc, hmc⟩ : ∃ m, decide (MayC c) = m := ⟨_, rfl⟩
  have C1 := Lib.hid (conf_is c mc hmc)
  obtain ⟨s, hs⟩ : ∃ s, stepsN x = s := ⟨_, rfl⟩
  have S1 := Lib.hid (steps_is x s hs)
  have S2 := Lib.hid (rsteps_is x s hs)
  have hpos := stepsN_pos x
  rw [hs] at hpos
  have M1 := Lib.hid (rmay_is x _ hpos.symm)
  have C2 := Lib.hid (rconf_is c mc hmc)
  clear hmc hs hpos
  have HX : CH2 w c x (boxCX w c x) := Below.refl _ _
  have hsz : (boxCX w c x).heap.size = w.heap.size + 2 := by simp [boxCX]
  have cellC : ∀ k u, (#[.int .i64 c.a0, .int .i64 c.o0, .int .i64 c.a1, .int .i64 c.o1, .int .i64 c.a2, .int .i64 c.o2, .int .i64 c.f0, .int .i64 c.f1, .int .i64 c.f2, .int .i64 c.f3] : Array Value)[k]? = some u → (boxCX w c x).cell? ⟨w.heap.size, k, none⟩ = some u := fun k u hu => boxC_at w c x k u hu
  have cellX : ∀ k u, (#[.int .i64 x.b, .int .i64 x.c, .int .i64 x.d, .int .i64 x.m0, .int .i64 x.m1, .int .i64 x.m2, .int .i64 x.p] : Array Value)[k]? = some u → (boxCX w c x).cell? ⟨w.heap.size + 1, k, none⟩ = some u := fun k u hu => boxX_at w c x k u hu
  have q0 : ∀ s : BW (w.heap.size + 2) (boxCX w c x), s.val.cell? ⟨w.heap.size, 0, none⟩ = some (.int .i64 c.a0) := BW.cell (cellC 0 _ rfl) (by simp)
  have q1 : ∀ s : BW (w.heap.size + 2) (boxCX w c x), s.val.cell? ⟨w.heap.size, 1, none⟩ = some (.int .i64 c.o0) := BW.cell (cellC 1 _ rfl) (by simp)
  have q2 : ∀ s : BW (w.heap.size + 2) (boxCX w c x), s.val.cell? ⟨w.heap.size, 2, none⟩ = some (.int .i64 c.a1) := BW.cell (cellC 2 _ rfl) (by simp)
  have q3 : ∀ s : BW (w.heap.size + 2) (boxCX w c x), s.val.cell? ⟨w.heap.size, 3, none⟩ = some (.int .i64 c.o1) := BW.cell (cellC 3 _ rfl) (by simp)
  have q4 : ∀ s : BW (w.heap.size + 2) (boxCX w c x), s.val.cell? ⟨w.heap.size, 4, none⟩ = some (.int .i64 c.a2) := BW.cell (cellC 4 _ rfl) (by simp)
  have q5 : ∀ s : BW (w.heap.size + 2) (boxCX w c x), s.val.cell? ⟨w.heap.size, 5, none⟩ = some (.int .i64 c.o2) := BW.cell (cellC 5 _ rfl) (by simp)
  have q6 : ∀ s : BW (w.heap.size + 2) (boxCX w c x), s.val.cell? ⟨w.heap.size, 6, none⟩ = some (.int .i64 c.f0) := BW.cell (cellC 6 _ rfl) (by simp)
  have q7 : ∀ s : BW (w.heap.size + 2) (boxCX w c x), s.val.cell? ⟨w.heap.size, 7, none⟩ = some (.int .i64 c.f1) := BW.cell (cellC 7 _ rfl) (by simp)
  have q8 : ∀ s : BW (w.heap.size + 2) (boxCX w c x), s.val.cell? ⟨w.heap.size, 8, none⟩ = some (.int .i64 c.f2) := BW.cell (cellC 8 _ rfl) (by simp)
  have q9 : ∀ s : BW (w.heap.size + 2) (boxCX w c x), s.val.cell? ⟨w.heap.size, 9, none⟩ = some (.int .i64 c.f3) := BW.cell (cellC 9 _ rfl) (by simp)
  have z0 : ∀ s : BW (w.heap.size + 2) (boxCX w c x), s.val.cell? ⟨w.heap.size + 1, 0, none⟩ = some (.int .i64 x.b) := BW.cell (cellX 0 _ rfl) (by simp)
  have z1 : ∀ s : BW (w.heap.size + 2) (boxCX w c x), s.val.cell? ⟨w.heap.size + 1, 1, none⟩ = some (.int .i64 x.c) := BW.cell (cellX 1 _ rfl) (by simp)
  have z2 : ∀ s : BW (w.heap.size + 2) (boxCX w c x), s.val.cell? ⟨w.heap.size + 1, 2, none⟩ = some (.int .i64 x.d) := BW.cell (cellX 2 _ rfl) (by simp)
  have z3 : ∀ s : BW (w.heap.size + 2) (boxCX w c x), s.val.cell? ⟨w.heap.size + 1, 3, none⟩ = some (.int .i64 x.m0) := BW.cell (cellX 3 _ rfl) (by simp)
  have z4 : ∀ s : BW (w.heap.size + 2) (boxCX w c x), s.val.cell? ⟨w.heap.size + 1, 4, none⟩ = some (.int .i64 x.m1) := BW.cell (cellX 4 _ rfl) (by simp)
  have z5 : ∀ s : BW (w.heap.size + 2) (boxCX w c x), s.val.cell? ⟨w.heap.size + 1, 5, none⟩ = some (.int .i64 x.m2) := BW.cell (cellX 5 _ rfl) (by simp)
  have z6 : ∀ s : BW (w.heap.size + 2) (boxCX w c x), s.val.cell? ⟨w.heap.size + 1, 6, none⟩ = some (.int .i64 x.p) := BW.cell (cellX 6 _ rfl) (by simp)
  clear cellC cellX
  unfold boxCX at *
  unfold C10.val W7.val at *
  have ez : (w.alloc (.cells #[.int .i64 c.a0, .int .i64 c.o0, .int .i64 c.a1, .int .i64 c.o1, .int .i64 c.a2, .int .i64 c.o2, .int .i64 c.f0, .int .i64 c.f1, .int .i64 c.f2, .int .i64 c.f3] 61)).heap.size = w.heap.size + 1 := by simp
  go_enter Try.func12, Try.ntmps12
  go_wp2_with fail
  refine wp_region_below (w.heap.size + 2) (by kernel_rfl) (by kernel_rfl) ?_
  repeat (first | go_big_quiet_step ((first | (go_at_call 37; exact BW.call (by simp) (T.out _)) | (go_at_call 38; exact BW.call (by simp) (C1.out _)) | (go_at_call 39; exact BW.call (by simp) (C2.out _)) | (go_at_call 40; exact BW.call (by simp) (S1.out _)) | (go_at_call 41; exact BW.call (by simp) (S2.out _)) | (go_at_call 42; exact BW.call (by simp) (rounds_b _ _)) | (go_at_call 43; exact BW.call (by simp) (rrounds_b _ _)) | (go_at_call 34; exact BW.call (by simp) (M1.out _)))) | quiet_step ((first | (go_at_call 37; exact BW.call (by simp) (T.out _)) | (go_at_call 38; exact BW.call (by simp) (C1.out _)) | (go_at_call 39; exact BW.call (by simp) (C2.out _)) | (go_at_call 40; exact BW.call (by simp) (S1.out _)) | (go_at_call 41; exact BW.call (by simp) (S2.out _)) | (go_at_call 42; exact BW.call (by simp) (rounds_b _ _)) | (go_at_call 43; exact BW.call (by simp) (rrounds_b _ _)) | (go_at_call 34; exact BW.call (by simp) (M1.out _)))))
  refine wpQuiet_nil ?_
  intro _ hw'
  obtain ⟨sb, hw''⟩ := hw'
  subst hw''
  go_wp2
  go_ret
  exact ⟨rfl, (((Below.refl _ _).alloc (Nat.le_refl _) _).alloc (by simp) _).trans (sb.h.mono (by omega))⟩
theorem u_rem (a m : Int) (h0 : 0 < m) : ∃ n : Nat, (IntKind.u64.wrap a).tmod m = (n : Int) ∧ (n : Int) < m := by
  have h1 : 0 ≤ IntKind.u64.wrap a := by rw [IntKind.wrap_u64]; exact Int.emod_nonneg _ (by omega)
  have h2 := Int.emod_nonneg (IntKind.u64.wrap a) (show m ≠ 0 by omega)
  obtain ⟨n, hn⟩ := Int.eq_ofNat_of_zero_le h2
  refine ⟨n, by rw [Int.tmod_eq_emod_of_nonneg h1, hn], by rw [← hn]; exact Int.emod_lt_of_pos _ h0⟩
/-- The number of wanted inventories among the first k. -/
def cntU (x : W7) : Nat → Nat
  | 0 => 0
  | k + 1 => cntU x k + if 0 < x.u k then 1 else 0
theorem cntU_le (x : W7) : ∀ k, cntU x k ≤ k
  | 0 => Nat.le_refl _
  | k + 1 => by have := cntU_le x k; simp only [cntU]; split <;> omega
theorem cntU_parts (x : W7) : ∀ k, cntU x k = (partsK x k).length
  | 0 => rfl
  | k + 1 => by simp only [cntU, partsK, List.length_append, cntU_parts x k]; split <;> simp
theorem steps_cnt (a b c : Nat) (ha : a < 3) (hb : b < 3) (hc : c < 3) : stepsN ⟨7, 0, 0, a, b, c, 0⟩ = if cntU ⟨7, 0, 0, a, b, c, 0⟩ 3 = 0 then 0 else 3 + 3 * (cntU ⟨7, 0, 0, a, b, c, 0⟩ 3 : Nat) := by
  have : a = 0 ∨ a = 1 ∨ a = 2 := by omega
  have : b = 0 ∨ b = 1 ∨ b = 2 := by omega
  have : c = 0 ∨ c = 1 ∨ c = 2 := by omega
  rcases ‹a = 0 ∨ a = 1 ∨ a = 2› with rfl | rfl | rfl <;> rcases ‹b = 0 ∨ b = 1 ∨ b = 2› with rfl | rfl | rfl <;> rcases ‹c = 0 ∨ c = 1 ∨ c = 2› with rfl | rfl | rfl <;> decide +kernel
set_option maxHeartbeats 4000000 in
theorem boundSteps_walk (a b c : Int) (w : World) : Calls Try.prog 14 #[.int .i64 a, .int .i64 b, .int .i64 c] w fun e w' => e = .returned (.bool true) ∧ Below w.heap.size w w' := by
  obtain ⟨u, hu, hu2⟩ := u_rem a 3 (by omega)
  obtain ⟨v, hv, hv2⟩ := u_rem b 3 (by omega)
  obtain ⟨z, hz, hz2⟩ := u_rem c 3 (by omega)
  have T := Lib.hid told21
  have SN := Lib.hid (steps_cnt u v z (by omega) (by omega) (by omega))
  have CL := Lib.hid (cntU_le ⟨7, 0, 0, u, v, z, 0⟩)
  go_enter Try.func14, Try.ntmps14
  go_wp2
  go_loop [8, 9] (fun n i => ∃ (k m : Nat), k ≤ 3 ∧ i = .int .i64 k ∧ n = .int .i64 m ∧ m ≤ k ∧ Hid (m = cntU ⟨7, 0, 0, u, v, z, 0⟩ k)) (fun _ i => 3 - (intOf i).toNat)
  case atStart => exact ⟨0, 0, by omega, rfl, rfl, by omega, Lib.hid rfl⟩
  case round =>
    obtain ⟨k, m, hk, rfl, rfl, hm, HM⟩ := hrel
    have : k = 0 ∨ k = 1 ∨ k = 2 ∨ k = 3 := by omega
    rcases this with rfl | rfl | rfl | rfl
    · by_cases hy : 0 < u
      · go_wp2
        go_round
        case rel => exact ⟨1, m + 1, by omega, rfl, by go_num, by omega, Lib.hid (by rw [HM.out]; show _ = cntU _ 0 + (if (0 : Int) < (u : Int) then 1 else 0); rw [if_pos (by omega)])⟩
        case measure => simp [intOf]
      · go_wp2
        go_round
        case rel => exact ⟨1, m, by omega, rfl, rfl, by omega, Lib.hid (by rw [HM.out]; show _ = cntU _ 0 + (if (0 : Int) < (u : Int) then 1 else 0); rw [if_neg (by omega)]; rfl)⟩
        case measure => simp [intOf]
    · by_cases hy : 0 < v
      · go_wp2
        go_round
        case rel => exact ⟨2, m + 1, by omega, rfl, by go_num, by omega, Lib.hid (by rw [HM.out]; show _ = cntU _ 1 + (if (0 : Int) < (v : Int) then 1 else 0); rw [if_pos (by omega)])⟩
        case measure => simp [intOf]
      · go_wp2
        go_round
        case rel => exact ⟨2, m, by omega, rfl, rfl, by omega, Lib.hid (by rw [HM.out]; show _ = cntU _ 1 + (if (0 : Int) < (v : Int) then 1 else 0); rw [if_neg (by omega)]; rfl)⟩
        case measure => simp [intOf]
    · by_cases hy : 0 < z
      · go_wp2
        go_round
        case rel => exact ⟨3, m + 1, by omega, rfl, by go_num, by omega, Lib.hid (by rw [HM.out]; show _ = cntU _ 2 + (if (0 : Int) < (z : Int) then 1 else 0); rw [if_pos (by omega)])⟩
        case measure => simp [intOf]
      · go_wp2
        go_round
        case rel => exact ⟨3, m, by omega, rfl, rfl, by omega, Lib.hid (by rw [HM.out]; show _ = cntU _ 2 + (if (0 : Int) < (z : Int) then 1 else 0); rw [if_neg (by omega)]; rfl)⟩
        case measure => simp [intOf]
    · have hst : stepsN ⟨7, 0, 0, u, v, z, 0⟩ = ((if m = 0 then 0 else 3 + 3 * m : Nat) : Int) := by have := SN.out; rw [← HM.out] at this; exact this
      by_cases hm0 : m = 0
      · subst hm0
        have SI := Lib.hid (steps_is ⟨7, 0, 0, u, v, z, 0⟩ 0 (by rw [hst]; rfl))
        clear hst SN CL
        go_wp2_with fail
        refine (T.out _).mono ?_
        rintro e w1 ⟨rfl, b1⟩
        obtain ⟨c0, c1, c2, c3, c4, c5, c6⟩ := (WC.new w ⟨7, 0, 0, u, v, z, 0⟩ 37).below b1 (by simp)
        have HB := Lib.hid (((Below.refl _ w).alloc (Nat.le_refl _) _).trans (b1.mono (by simp)))
        simp only at c0 c1 c2 c3 c4 c5 c6
        clear b1
        go_wp2_with fail
        refine (SI.out _).mono ?_
        rintro e w2 ⟨rfl, b2⟩
        have HB2 := Lib.hid (HB.out.trans (b2.mono HB.out.size))
        clear b2
        go_wp2
        go_ret
        exact ⟨rfl, HB2.out⟩
      · have SI := Lib.hid (steps_is ⟨7, 0, 0, u, v, z, 0⟩ (3 + 3 * (m : Int)) (by rw [hst, if_neg hm0]; omega))
        have hmb : ((m : Int) == 0) = false := beq_eq_false_iff_ne.2 (by omega)
        clear hst SN CL
        go_wp2_with fail
        refine (T.out _).mono ?_
        rintro e w1 ⟨rfl, b1⟩
        obtain ⟨c0, c1, c2, c3, c4, c5, c6⟩ := (WC.new w ⟨7, 0, 0, u, v, z, 0⟩ 37).below b1 (by simp)
        have HB := Lib.hid (((Below.refl _ w).alloc (Nat.le_refl _) _).trans (b1.mono (by simp)))
        simp only at c0 c1 c2 c3 c4 c5 c6
        clear b1
        go_wp2_with fail
        refine (SI.out _).mono ?_
        rintro e w2 ⟨rfl, b2⟩
        have HB2 := Lib.hid (HB.out.trans (b2.mono HB.out.size))
        clear b2
        go_wp2
        go_ret
        exact ⟨rfl, HB2.out⟩
theorem open_conf {w : World} {base : Nat} {v : Value} (hv : Value.okWide Try.prog w .any base 61 v) : ∃ c : C10, v = c.val := by
  obtain ⟨zs, rfl, hl, hz⟩ := open_nums_agg (P := Try.prog) (t := 61) (ts := [3, 3, 3, 3, 3, 3, 2, 2, 2, 2]) Try.underlying61 (by kernel_rfl) (by kernel_rfl) (by
    intro u hu
    have : u = 3 ∨ u = 2 := by simp at hu; omega
    rcases this with rfl | rfl
    · exact Try.underlying3
    · exact Try.underlying2) hv
  match zs, hl with
  | [a0, o0, a1, o1, a2, o2, f0, f1, f2, f3], _ => exact ⟨⟨a0, o0, a1, o1, a2, o2, f0, f1, f2, f3⟩, rfl⟩
end Go.Proofs.Ytblpkcoapbkppaa
