/- PlanRef, PlanRef2, AskAt, Saga0, merged. -/
import Derived.Test.YtplgodfhhlnojaaP1
import Derived.Outline
import Derived.Test.YtplgodfhhlnojaaB1
import Derived.Test.YtplgodfhhlnojaaB4
set_option linter.unusedSimpArgs false
set_option linter.unusedVariables false
/- Plans: the document's own answer. -/
namespace Go.Proofs.Ytplgodfhhlnojaa
open Go.RowKit
theorem info_rask : (Try.prog.info? 33).map (fun i => (i.zero, i.size, i.bytes)) = some (some (.agg #[.int .i64 0, .int .i64 0, .int .i64 0, .int .i64 0, .int .i64 0, .int .i64 0]), 6, 48) := by kernel_rfl
/-- A row of the document's steps, of the call's own. -/
def OR (w : World) (base : Nat) (v : Value) (l : List A6) : Prop := w.ownsRow base 33 6 v l.length (AC l)
theorem OR.rd {w : World} {base : Nat} {v : Value} {l : List A6} (h : OR w base v l) : ∃ A c, v = .slice A l.length c ∧ l.length ≤ c ∧ c ≤ maxLen ∧ Rd w w.heap.size 6 A l.length (AC l) := own_form h
theorem wpl_appR {w : World} {ops : Array Oper} {rest : List Oper} {o : Oper} {a : Act} {Q : Exit → Act → World → Prop} (hgd : o.guard = none) (s x : Operand)
    (ho : o.op = .call { callee := .builtin .append, args := #[s, x], argTypes := #[94, 94] })
    (base : Nat) (v : Value) (l : List A6) (hs : a.eval s = v) (hown : OR w base v l)
    (D : Nat) (A : Option Addr) (m c : Nat) (r : List A6) (hx : a.eval x = .slice A m c) (hr : Rd w D 6 A m (AC r))
    (hsum : l.length + m ≤ 1000000000000) (hbase : base ≤ w.heap.size)
    (h : ∀ v' w', OR w' base v' (l ++ r) → w.grownBy w' v.ownBlock → (v'.ownBlock = v.ownBlock ∨ v'.ownBlock = some w.heap.size) → wpList Try.prog ops Q rest (a.put o.dst v') w') : wpList Try.prog ops Q (o :: rest) a w := by
  have hm : r.length = m := by have := hr.1; rw [AC_len] at this; omega
  refine wpl_appS hgd s x 94 33 (.agg #[.int .i64 0, .int .i64 0, .int .i64 0, .int .i64 0, .int .i64 0, .int .i64 0]) 6 48 (by kernel_rfl) info_rask rfl (by omega) ho base v l.length (AC l) hs hown D A m c (AC r) hx hr (AC_one r) (by omega) (by omega) hbase fun v' w' h1 h2 h3 => h v' w' ?_ h2 h3
  unfold OR
  rw [List.length_append, hm, AC_app]
  exact h1
theorem step_appR {w : World} {ops : Array Oper} {o : Oper} {a : Act} {K : Act → World → Prop} {Q : Exit → Act → World → Prop} {E : Prop} (hgd : o.guard = none) (s x : Operand)
    (ho : o.op = .call { callee := .builtin .append, args := #[s, x], argTypes := #[94, 94] })
    (base : Nat) (v : Value) (l : List A6) (hs : a.eval s = v) (hown : OR w base v l)
    (D : Nat) (A : Option Addr) (m c : Nat) (r : List A6) (hx : a.eval x = .slice A m c) (hr : Rd w D 6 A m (AC r))
    (hsum : l.length + m ≤ 1000000000000) (hbase : base ≤ w.heap.size)
    (h : ∀ v' w', OR w' base v' (l ++ r) → w.grownBy w' v.ownBlock → (v'.ownBlock = v.ownBlock ∨ v'.ownBlock = some w.heap.size) → K (a.put o.dst v') w') : if Region.wanted o (yielded ops a.tmps) = true then Oper.wp Try.prog o a w K Q else E := by
  have hm : r.length = m := by have := hr.1; rw [AC_len] at this; omega
  refine step_appS hgd s x 94 33 (.agg #[.int .i64 0, .int .i64 0, .int .i64 0, .int .i64 0, .int .i64 0, .int .i64 0]) 6 48 (by kernel_rfl) info_rask rfl (by omega) ho base v l.length (AC l) hs hown D A m c (AC r) hx hr (AC_one r) (by omega) (by omega) hbase fun v' w' h1 h2 h3 => h v' w' ?_ h2 h3
  unfold OR
  rw [List.length_append, hm, AC_app]
  exact h1
def RRA (w : World) (l : List A6) (e : Ending) (w' : World) : Prop := ∃ v, e = .returned v ∧ OR w' w.heap.size v l ∧ Below w.heap.size w w'
theorem rmay_is (x : W7) (b : Bool) (h : decide (MayW x) = b) (w : World) : Calls Try.prog 35 #[x.val] w fun e w' => e = .returned (.bool b) ∧ Below w.heap.size w w' := h ▸ rmay_c x w
/-- Steps of the first k inventories. -/
def stepsK (K : Int) (x : W7) (k : Nat) : List A6 := (partsK x k).map (eachA K x)
theorem stepsK_len (K : Int) (x : W7) (k : Nat) : (stepsK K x k).length ≤ k := by unfold stepsK; rw [List.length_map]; exact partsK_len x k
theorem stepsK_yes (K : Int) (x : W7) (k : Nat) (h : 0 < x.u k) : stepsK K x (k + 1) = stepsK K x k ++ [eachA K x k] := by unfold stepsK; rw [partsK_yes x k h, List.map_append]; rfl
theorem stepsK_no (K : Int) (x : W7) (k : Nat) (h : ¬ 0 < x.u k) : stepsK K x (k + 1) = stepsK K x k := by unfold stepsK; rw [partsK_no x k h]
def fwdK (x : W7) (k : Nat) : List A6 := stepsK 1 x 3 ++ ([⟨3, 4, x.b, 0, x.c, x.p⟩] ++ stepsK 2 x k)
theorem fwdK_yes (x : W7) (k : Nat) (h : 0 < x.u k) : fwdK x (k + 1) = fwdK x k ++ [eachA 2 x k] := by unfold fwdK; rw [stepsK_yes 2 x k h]; simp
theorem fwdK_no (x : W7) (k : Nat) (h : ¬ 0 < x.u k) : fwdK x (k + 1) = fwdK x k := by unfold fwdK; rw [stepsK_no 2 x k h]
theorem forwardL_yes (x : W7) (h : MayW x) : forwardL x = fwdK x 3 := by
  unfold fwdK forwardL parts purseL stepsK
  rw [decide_eq_true h, if_pos h, if_pos rfl, if_pos rfl]
  rfl
theorem forwardL_no (x : W7) (h : ¬ MayW x) : forwardL x = [] := by
  unfold forwardL parts purseL
  rw [decide_eq_false h, if_neg h]
  rfl
theorem backL_yes (x : W7) (h : MayW x) : backL x = [⟨3, 6, x.b, 0, 0, 0⟩] ++ (stepsK 3 x 3).reverse := by
  unfold backL parts purseL stepsK
  rw [decide_eq_true h, if_pos h, if_neg (by decide), if_neg (by decide)]
  rfl
theorem backL_no (x : W7) (h : ¬ MayW x) : backL x = [] := by
  unfold backL parts purseL
  rw [decide_eq_false h, if_neg h]
  rfl
set_option maxRecDepth 100000 in
set_option maxHeartbeats 4000000 in
theorem rforward_no (x : W7) (w : World) (hm : ¬ MayW x) : Calls Try.prog 62 #[x.val] w (RRA w (forwardL x)) := by
  have HM := Lib.hid (rmay_is x false (decide_eq_false hm))
  rw [forwardL_no x hm]
  clear hm
  unfold W7.val at *
  go_enter Try.func62, Try.ntmps62
  go_wp2_with fail
  refine (HM.out _).mono ?_
  rintro e w1 ⟨rfl, b1⟩
  have B1 := Lib.hid ((bxW_below w x).trans (b1.mono (by simp)))
  clear b1
  go_wp2
  go_ret
  exact ⟨_, rfl, World.ownsRow_nil _ _ _ _, B1.out⟩
set_option maxRecDepth 100000 in
set_option maxHeartbeats 4000000 in
theorem rforward_yes (x : W7) (w : World) (hm : MayW x) : Calls Try.prog 62 #[x.val] w (RRA w (forwardL x)) := by
  have HM := Lib.hid (rmay_is x true (decide_eq_true hm))
  rw [forwardL_yes x hm]
  clear hm
  unfold W7.val at *
  go_enter Try.func62, Try.ntmps62
  go_wp2_with fail
  refine (HM.out _).mono ?_
  rintro e w1 ⟨rfl, b1⟩
  have hz : w.heap.size + 1 ≤ w1.heap.size := by have := b1.size; simp at this; exact this
  have B1 := Lib.hid (show Below (w.heap.size + 1) (bxW w x) w1 from b1.mono (by simp))
  clear b1
  go_wp2
  go_loopw [3, 4] (fun o i wr => ∃ (k m c : Nat) (A : Option Addr), k ≤ 3 ∧ i = .int .i64 k ∧ o = .slice A m c ∧ m ≤ k ∧ Hid (OR wr (w.heap.size + 1) (.slice A m c) (stepsK 1 x k) ∧ CH w x wr)) (fun _ i _ => 3 - (intOf i).toNat)
  case atStart => exact ⟨0, 0, 0, none, by omega, rfl, rfl, by omega, Lib.hid ⟨World.ownsRow_nil _ _ _ _, B1.out⟩⟩
  case round =>
    clear B1
    obtain ⟨k, m, c, A, hk, rfl, rfl, hm, HO⟩ := hrel
    obtain ⟨ho, hb⟩ := HO.out
    obtain ⟨c0, c1, c2, c3, c4, c5, c6⟩ := CH.cells hb
    have HB := Lib.hid hb
    have HN := Lib.hid ho
    have HMm := Lib.hid (show (stepsK 1 x k).length = m from by obtain ⟨A2, c2, e, _⟩ := ho.rd; injection e with _ e2 _; exact e2.symm)
    have hzr : w.heap.size + 1 ≤ wr.heap.size := (bxW_of hb).2.2
    have nb : w.heap.size < wr.heap.size := by omega
    clear ho hb HO
    have : k = 0 ∨ k = 1 ∨ k = 2 ∨ k = 3 := by omega
    rcases this with rfl | rfl | rfl | rfl
    · by_cases hy : 0 < x.m0
      · go_wp2
        go_region_held3 (fun w' => w'.cell? ⟨w.heap.size, 0, none⟩ = some (.int .i64 x.b) ∧ w'.cell? ⟨w.heap.size, 1, none⟩ = some (.int .i64 x.c) ∧ w'.cell? ⟨w.heap.size, 2, none⟩ = some (.int .i64 x.d) ∧ w'.cell? ⟨w.heap.size, 3, none⟩ = some (.int .i64 x.m0) ∧ w'.cell? ⟨w.heap.size, 4, none⟩ = some (.int .i64 x.m1) ∧ w'.cell? ⟨w.heap.size, 5, none⟩ = some (.int .i64 x.m2) ∧ w'.cell? ⟨w.heap.size, 6, none⟩ = some (.int .i64 x.p)) (first | go_keep | exact CH.cells HB2.out | exact CH.cells HB.out | exact CH.cells (Below.alloc (Below.drew HB.out) hzr _)) ((refine step_appR (by rfl) (.tmp 19) (.tmp 29) (by rfl) (w.heap.size + 1) _ _ (by rfl) (own_alloc HN.out _) _ _ 1 1 [eachA 1 x 0] (by rfl) (rd_ask _ ⟨_, _, _, _, _, _⟩ _ _ wr.heap.size (by rfl)) (by rw [HMm.out]; omega) (by simp; omega) ?_; intro v2 w2 h2 g2 _; obtain ⟨A2, c2', hv2, _, _, _⟩ := OR.rd h2; rw [List.length_append, HMm.out, List.length_singleton] at hv2; subst hv2; have HB2 := Lib.hid (Below.grown (Below.alloc (Below.drew HB.out) hzr _) g2 (by simp; omega) (own_base HN.out)); have H2 := Lib.hid h2; clear h2 g2))
        go_wp2
        go_roundw
        case rel => exact ⟨1, _, c2', A2, by omega, rfl, rfl, by first | omega | (simp; omega), Lib.hid ⟨by rw [stepsK_yes 1 x 0 hy]; exact H2.out, HB2.out⟩⟩
        case measure => simp [intOf]
      · go_wp2
        go_roundw
        case rel => exact ⟨1, m, c, A, by omega, rfl, rfl, by omega, Lib.hid ⟨by rw [stepsK_no 1 x 0 hy]; exact HN.out, HB.out⟩⟩
        case measure => simp [intOf]
    · by_cases hy : 0 < x.m1
      · go_wp2
        go_region_held3 (fun w' => w'.cell? ⟨w.heap.size, 0, none⟩ = some (.int .i64 x.b) ∧ w'.cell? ⟨w.heap.size, 1, none⟩ = some (.int .i64 x.c) ∧ w'.cell? ⟨w.heap.size, 2, none⟩ = some (.int .i64 x.d) ∧ w'.cell? ⟨w.heap.size, 3, none⟩ = some (.int .i64 x.m0) ∧ w'.cell? ⟨w.heap.size, 4, none⟩ = some (.int .i64 x.m1) ∧ w'.cell? ⟨w.heap.size, 5, none⟩ = some (.int .i64 x.m2) ∧ w'.cell? ⟨w.heap.size, 6, none⟩ = some (.int .i64 x.p)) (first | go_keep | exact CH.cells HB2.out | exact CH.cells HB.out | exact CH.cells (Below.alloc (Below.drew HB.out) hzr _)) ((refine step_appR (by rfl) (.tmp 19) (.tmp 29) (by rfl) (w.heap.size + 1) _ _ (by rfl) (own_alloc HN.out _) _ _ 1 1 [eachA 1 x 1] (by rfl) (rd_ask _ ⟨_, _, _, _, _, _⟩ _ _ wr.heap.size (by rfl)) (by rw [HMm.out]; omega) (by simp; omega) ?_; intro v2 w2 h2 g2 _; obtain ⟨A2, c2', hv2, _, _, _⟩ := OR.rd h2; rw [List.length_append, HMm.out, List.length_singleton] at hv2; subst hv2; have HB2 := Lib.hid (Below.grown (Below.alloc (Below.drew HB.out) hzr _) g2 (by simp; omega) (own_base HN.out)); have H2 := Lib.hid h2; clear h2 g2))
        go_wp2
        go_roundw
        case rel => exact ⟨2, _, c2', A2, by omega, rfl, rfl, by first | omega | (simp; omega), Lib.hid ⟨by rw [stepsK_yes 1 x 1 hy]; exact H2.out, HB2.out⟩⟩
        case measure => simp [intOf]
      · go_wp2
        go_roundw
        case rel => exact ⟨2, m, c, A, by omega, rfl, rfl, by omega, Lib.hid ⟨by rw [stepsK_no 1 x 1 hy]; exact HN.out, HB.out⟩⟩
        case measure => simp [intOf]
    · by_cases hy : 0 < x.m2
      · go_wp2
        go_region_held3 (fun w' => w'.cell? ⟨w.heap.size, 0, none⟩ = some (.int .i64 x.b) ∧ w'.cell? ⟨w.heap.size, 1, none⟩ = some (.int .i64 x.c) ∧ w'.cell? ⟨w.heap.size, 2, none⟩ = some (.int .i64 x.d) ∧ w'.cell? ⟨w.heap.size, 3, none⟩ = some (.int .i64 x.m0) ∧ w'.cell? ⟨w.heap.size, 4, none⟩ = some (.int .i64 x.m1) ∧ w'.cell? ⟨w.heap.size, 5, none⟩ = some (.int .i64 x.m2) ∧ w'.cell? ⟨w.heap.size, 6, none⟩ = some (.int .i64 x.p)) (first | go_keep | exact CH.cells HB2.out | exact CH.cells HB.out | exact CH.cells (Below.alloc (Below.drew HB.out) hzr _)) ((refine step_appR (by rfl) (.tmp 19) (.tmp 29) (by rfl) (w.heap.size + 1) _ _ (by rfl) (own_alloc HN.out _) _ _ 1 1 [eachA 1 x 2] (by rfl) (rd_ask _ ⟨_, _, _, _, _, _⟩ _ _ wr.heap.size (by rfl)) (by rw [HMm.out]; omega) (by simp; omega) ?_; intro v2 w2 h2 g2 _; obtain ⟨A2, c2', hv2, _, _, _⟩ := OR.rd h2; rw [List.length_append, HMm.out, List.length_singleton] at hv2; subst hv2; have HB2 := Lib.hid (Below.grown (Below.alloc (Below.drew HB.out) hzr _) g2 (by simp; omega) (own_base HN.out)); have H2 := Lib.hid h2; clear h2 g2))
        go_wp2
        go_roundw
        case rel => exact ⟨3, _, c2', A2, by omega, rfl, rfl, by first | omega | (simp; omega), Lib.hid ⟨by rw [stepsK_yes 1 x 2 hy]; exact H2.out, HB2.out⟩⟩
        case measure => simp [intOf]
      · go_wp2
        go_roundw
        case rel => exact ⟨3, m, c, A, by omega, rfl, rfl, by omega, Lib.hid ⟨by rw [stepsK_no 1 x 2 hy]; exact HN.out, HB.out⟩⟩
        case measure => simp [intOf]
    · go_wp2_with (at_builtin; refine wpl_appR rfl (.tmp 31) (.tmp 40) rfl (w.heap.size + 1) _ _ rfl (own_alloc HN.out _) _ _ 1 1 [⟨3, 4, x.b, 0, x.c, x.p⟩] rfl (rd_ask _ ⟨_, _, _, _, _, _⟩ _ _ wr.heap.size rfl) ?_ ?_ ?_)
      · rw [HMm.out]; omega
      · simp; omega
      intro v2 w2 h2 g2 _
      obtain ⟨A2, c2', hv2, _, _, _⟩ := OR.rd h2
      rw [List.length_append, HMm.out, List.length_singleton] at hv2
      subst hv2
      have HB2 := Lib.hid (Below.grown (Below.alloc HB.out hzr _) g2 (by simp; omega) (own_base HN.out))
      have H2 := Lib.hid h2
      clear h2 g2 HB HN c0 c1 c2 c3 c4 c5 c6
      go_wp2
      go_loopw [3, 5] (fun o i wr => ∃ (k m c : Nat) (A : Option Addr), k ≤ 3 ∧ i = .int .i64 k ∧ o = .slice A m c ∧ m ≤ k + 4 ∧ Hid (OR wr (w.heap.size + 1) (.slice A m c) (fwdK x k) ∧ CH w x wr)) (fun _ i _ => 3 - (intOf i).toNat)
      case atStart => exact ⟨0, _, c2', A2, by omega, rfl, rfl, by first | omega | (simp; omega), Lib.hid ⟨by have := H2.out; exact this, HB2.out⟩⟩
      case round =>
        clear H2 HB2 hzr nb HMm hm
        obtain ⟨k, m, c, A, hk, rfl, rfl, hm, HO⟩ := hrel
        obtain ⟨ho, hb⟩ := HO.out
        obtain ⟨c0, c1, c2, c3, c4, c5, c6⟩ := CH.cells hb
        have HB := Lib.hid hb
        have HN := Lib.hid ho
        have HMm := Lib.hid (show (fwdK x k).length = m from by obtain ⟨A2, c2, e, _⟩ := ho.rd; injection e with _ e2 _; exact e2.symm)
        have hzr : w.heap.size + 1 ≤ wr.heap.size := (bxW_of hb).2.2
        have nb : w.heap.size < wr.heap.size := by omega
        clear ho hb HO
        have : k = 0 ∨ k = 1 ∨ k = 2 ∨ k = 3 := by omega
        rcases this with rfl | rfl | rfl | rfl
        · by_cases hy : 0 < x.m0
          · go_wp2_with (at_builtin; refine wpl_appR rfl (.tmp 51) (.tmp 57) rfl (w.heap.size + 1) _ _ rfl (own_alloc HN.out _) _ _ 1 1 [eachA 2 x 0] rfl (rd_ask _ ⟨_, _, _, _, _, _⟩ _ _ wr.heap.size rfl) ?_ ?_ ?_)
            · rw [HMm.out]; omega
            · simp; omega
            intro v2 w2 h2 g2 _
            obtain ⟨A2, c2', hv2, _, _, _⟩ := OR.rd h2
            rw [List.length_append, HMm.out, List.length_singleton] at hv2
            subst hv2
            have HB2 := Lib.hid (Below.grown (Below.alloc HB.out hzr _) g2 (by simp; omega) (own_base HN.out))
            have H2 := Lib.hid h2
            clear h2 g2
            go_wp2
            go_roundw
            case rel => exact ⟨1, _, c2', A2, by omega, rfl, rfl, by first | omega | (simp; omega), Lib.hid ⟨by rw [fwdK_yes x 0 hy]; exact H2.out, HB2.out⟩⟩
            case measure => simp [intOf]
          · go_wp2
            go_roundw
            case rel => exact ⟨1, m, c, A, by omega, rfl, rfl, by omega, Lib.hid ⟨by rw [fwdK_no x 0 hy]; exact HN.out, HB.out⟩⟩
            case measure => simp [intOf]
        · by_cases hy : 0 < x.m1
          · go_wp2_with (at_builtin; refine wpl_appR rfl (.tmp 51) (.tmp 57) rfl (w.heap.size + 1) _ _ rfl (own_alloc HN.out _) _ _ 1 1 [eachA 2 x 1] rfl (rd_ask _ ⟨_, _, _, _, _, _⟩ _ _ wr.heap.size rfl) ?_ ?_ ?_)
            · rw [HMm.out]; omega
            · simp; omega
            intro v2 w2 h2 g2 _
            obtain ⟨A2, c2', hv2, _, _, _⟩ := OR.rd h2
            rw [List.length_append, HMm.out, List.length_singleton] at hv2
            subst hv2
            have HB2 := Lib.hid (Below.grown (Below.alloc HB.out hzr _) g2 (by simp; omega) (own_base HN.out))
            have H2 := Lib.hid h2
            clear h2 g2
            go_wp2
            go_roundw
            case rel => exact ⟨2, _, c2', A2, by omega, rfl, rfl, by first | omega | (simp; omega), Lib.hid ⟨by rw [fwdK_yes x 1 hy]; exact H2.out, HB2.out⟩⟩
            case measure => simp [intOf]
          · go_wp2
            go_roundw
            case rel => exact ⟨2, m, c, A, by omega, rfl, rfl, by omega, Lib.hid ⟨by rw [fwdK_no x 1 hy]; exact HN.out, HB.out⟩⟩
            case measure => simp [intOf]
        · by_cases hy : 0 < x.m2
          · go_wp2_with (at_builtin; refine wpl_appR rfl (.tmp 51) (.tmp 57) rfl (w.heap.size + 1) _ _ rfl (own_alloc HN.out _) _ _ 1 1 [eachA 2 x 2] rfl (rd_ask _ ⟨_, _, _, _, _, _⟩ _ _ wr.heap.size rfl) ?_ ?_ ?_)
            · rw [HMm.out]; omega
            · simp; omega
            intro v2 w2 h2 g2 _
            obtain ⟨A2, c2', hv2, _, _, _⟩ := OR.rd h2
            rw [List.length_append, HMm.out, List.length_singleton] at hv2
            subst hv2
            have HB2 := Lib.hid (Below.grown (Below.alloc HB.out hzr _) g2 (by simp; omega) (own_base HN.out))
            have H2 := Lib.hid h2
            clear h2 g2
            go_wp2
            go_roundw
            case rel => exact ⟨3, _, c2', A2, by omega, rfl, rfl, by first | omega | (simp; omega), Lib.hid ⟨by rw [fwdK_yes x 2 hy]; exact H2.out, HB2.out⟩⟩
            case measure => simp [intOf]
          · go_wp2
            go_roundw
            case rel => exact ⟨3, m, c, A, by omega, rfl, rfl, by omega, Lib.hid ⟨by rw [fwdK_no x 2 hy]; exact HN.out, HB.out⟩⟩
            case measure => simp [intOf]
        · go_wp2
          go_ret
          exact ⟨_, rfl, own_mono HN.out (by omega), (bxW_of HB.out).2.1⟩
theorem rforward_c (x : W7) (w : World) : Calls Try.prog 62 #[x.val] w (RRA w (forwardL x)) := by
  by_cases h : MayW x
  · exact rforward_yes x w h
  · exact rforward_no x w h
end Go.Proofs.Ytplgodfhhlnojaa

/- Plans: the document's own answer: Back, Capture; which operations may be; lists of steps that are alike. -/
namespace Go.Proofs.Ytplgodfhhlnojaa
open Go.RowKit
def bckK (x : W7) : Nat → List A6
  | 0 => [⟨3, 6, x.b, 0, 0, 0⟩]
  | j + 1 => bckK x j ++ (if 0 < x.u (2 - j) then [eachA 3 x ((2 - j : Nat) : Int)] else [])
theorem bckK_len (x : W7) : ∀ j, (bckK x j).length ≤ j + 1
  | 0 => by simp [bckK]
  | j + 1 => by have := bckK_len x j; simp only [bckK, List.length_append]; split <;> simp <;> omega
theorem bckK_yes (x : W7) (j : Nat) (h : 0 < x.u (2 - j)) : bckK x (j + 1) = bckK x j ++ [eachA 3 x ((2 - j : Nat) : Int)] := by simp only [bckK]; rw [if_pos h]
theorem bckK_no (x : W7) (j : Nat) (h : ¬ 0 < x.u (2 - j)) : bckK x (j + 1) = bckK x j := by simp only [bckK]; rw [if_neg h, List.append_nil]
theorem backL_is (x : W7) (h : MayW x) : backL x = bckK x 3 := by
  rw [backL_yes x h]
  unfold stepsK
  simp only [bckK, partsK, Nat.sub_zero, Nat.reduceSub]
  by_cases a : 0 < x.u 0 <;> by_cases b : 0 < x.u 1 <;> by_cases c : 0 < x.u 2 <;> simp [a, b, c]
set_option maxRecDepth 100000 in
set_option maxHeartbeats 4000000 in
theorem rback_no (x : W7) (w : World) (hm : ¬ MayW x) : Calls Try.prog 64 #[x.val] w (RRA w (backL x)) := by
  have HM := Lib.hid (rmay_is x false (decide_eq_false hm))
  rw [backL_no x hm]
  clear hm
  unfold W7.val at *
  go_enter Try.func64, Try.ntmps64
  go_wp2_with fail
  refine (HM.out _).mono ?_
  rintro e w1 ⟨rfl, b1⟩
  have B1 := Lib.hid ((bxW_below w x).trans (b1.mono (by simp)))
  clear b1
  go_wp2
  go_ret
  exact ⟨_, rfl, World.ownsRow_nil _ _ _ _, B1.out⟩
set_option maxRecDepth 100000 in
set_option maxHeartbeats 4000000 in
theorem rback_yes (x : W7) (w : World) (hm : MayW x) : Calls Try.prog 64 #[x.val] w (RRA w (backL x)) := by
  have HM := Lib.hid (rmay_is x true (decide_eq_true hm))
  rw [backL_is x hm]
  clear hm
  unfold W7.val at *
  go_enter Try.func64, Try.ntmps64
  go_wp2_with fail
  refine (HM.out _).mono ?_
  rintro e w1 ⟨rfl, b1⟩
  have hz : w.heap.size + 1 ≤ w1.heap.size := by have := b1.size; simp at this; exact this
  obtain ⟨c0, c1, c2, c3, c4, c5, c6⟩ := CH.cells (show CH w x w1 from b1.mono (by simp))
  have nb : w.heap.size < w1.heap.size := by omega
  have B1 := Lib.hid (show CH w x w1 from b1.mono (by simp))
  clear b1
  go_wp2_with (at_builtin; refine wpl_appR rfl (.tmp 9) (.tmp 14) rfl (w.heap.size + 1) _ [] rfl (own_alloc (World.ownsRow_nil _ _ _ _) _) _ _ 1 1 [⟨3, 6, x.b, 0, 0, 0⟩] rfl (rd_ask _ ⟨_, _, _, _, _, _⟩ _ _ w1.heap.size rfl) ?_ ?_ ?_)
  · simp
  · simp; omega
  intro v2 w2 h2 g2 _
  obtain ⟨A2, c2', hv2, _, _, _⟩ := OR.rd h2
  rw [List.length_singleton] at hv2
  subst hv2
  have HB2 := Lib.hid (show CH w x w2 from Below.grown (Below.alloc B1.out hz _) g2 (by simp; omega) (by simp [Value.ownBlock]))
  have H2 := Lib.hid h2
  clear h2 g2 c0 c1 c2 c3 c4 c5 c6 nb B1
  go_wp2
  go_loopw [3, 4] (fun o i wr => ∃ (j m c : Nat) (z : Int) (A : Option Addr), j ≤ 3 ∧ z = 2 - (j : Int) ∧ i = .int .i64 z ∧ o = .slice A m c ∧ m ≤ j + 1 ∧ Hid (OR wr (w.heap.size + 1) (.slice A m c) (bckK x j) ∧ CH w x wr)) (fun _ i _ => (intOf i + 1).toNat)
  case atStart => exact ⟨0, _, c2', 2, A2, by omega, by omega, rfl, rfl, by omega, Lib.hid ⟨H2.out, HB2.out⟩⟩
  case round =>
    clear H2 HB2
    obtain ⟨k, m, c, z, A, hk, hz, rfl, rfl, hm, HO⟩ := hrel
    obtain ⟨ho, hb⟩ := HO.out
    obtain ⟨c0, c1, c2, c3, c4, c5, c6⟩ := CH.cells hb
    have HB := Lib.hid hb
    have HN := Lib.hid ho
    have HMm := Lib.hid (show (bckK x k).length = m from by obtain ⟨A2, c2, e, _⟩ := OR.rd ho; injection e with _ e2 _; exact e2.symm)
    have hzr : w.heap.size + 1 ≤ wr.heap.size := (bxW_of hb).2.2
    have nb : w.heap.size < wr.heap.size := by omega
    clear ho hb HO
    have : k = 0 ∨ k = 1 ∨ k = 2 ∨ k = 3 := by omega
    rcases this with rfl | rfl | rfl | rfl
    · obtain rfl : z = 2 := by omega
      clear hz
      by_cases hy : 0 < x.m2
      · go_wp2_with (at_builtin; refine wpl_appR rfl (.tmp 25) (.tmp 31) rfl (w.heap.size + 1) _ _ rfl (own_alloc HN.out _) _ _ 1 1 [eachA 3 x 2] rfl (rd_ask _ ⟨_, _, _, _, _, _⟩ _ _ wr.heap.size rfl) ?_ ?_ ?_)
        · rw [HMm.out]; omega
        · simp; omega
        intro v2 w2 h2 g2 _
        obtain ⟨A2, c2', hv2, _, _, _⟩ := OR.rd h2
        rw [List.length_append, HMm.out, List.length_singleton] at hv2
        subst hv2
        have HB2 := Lib.hid (show CH w x w2 from Below.grown (Below.alloc HB.out hzr _) g2 (by simp; omega) (own_base HN.out))
        have H2 := Lib.hid h2
        clear h2 g2
        go_wp2
        go_roundw
        case rel => exact ⟨1, _, c2', _, A2, by omega, by omega, rfl, rfl, by omega, Lib.hid ⟨by rw [bckK_yes x 0 hy]; exact H2.out, HB2.out⟩⟩
        case measure => simp [intOf]
      · go_wp2
        go_roundw
        case rel => exact ⟨1, m, c, _, A, by omega, by omega, rfl, rfl, by omega, Lib.hid ⟨by rw [bckK_no x 0 hy]; exact HN.out, HB.out⟩⟩
        case measure => simp [intOf]
    · obtain rfl : z = 1 := by omega
      clear hz
      by_cases hy : 0 < x.m1
      · go_wp2_with (at_builtin; refine wpl_appR rfl (.tmp 25) (.tmp 31) rfl (w.heap.size + 1) _ _ rfl (own_alloc HN.out _) _ _ 1 1 [eachA 3 x 1] rfl (rd_ask _ ⟨_, _, _, _, _, _⟩ _ _ wr.heap.size rfl) ?_ ?_ ?_)
        · rw [HMm.out]; omega
        · simp; omega
        intro v2 w2 h2 g2 _
        obtain ⟨A2, c2', hv2, _, _, _⟩ := OR.rd h2
        rw [List.length_append, HMm.out, List.length_singleton] at hv2
        subst hv2
        have HB2 := Lib.hid (show CH w x w2 from Below.grown (Below.alloc HB.out hzr _) g2 (by simp; omega) (own_base HN.out))
        have H2 := Lib.hid h2
        clear h2 g2
        go_wp2
        go_roundw
        case rel => exact ⟨2, _, c2', _, A2, by omega, by omega, rfl, rfl, by omega, Lib.hid ⟨by rw [bckK_yes x 1 hy]; exact H2.out, HB2.out⟩⟩
        case measure => simp [intOf]
      · go_wp2
        go_roundw
        case rel => exact ⟨2, m, c, _, A, by omega, by omega, rfl, rfl, by omega, Lib.hid ⟨by rw [bckK_no x 1 hy]; exact HN.out, HB.out⟩⟩
        case measure => simp [intOf]
    · obtain rfl : z = 0 := by omega
      clear hz
      by_cases hy : 0 < x.m0
      · go_wp2_with (at_builtin; refine wpl_appR rfl (.tmp 25) (.tmp 31) rfl (w.heap.size + 1) _ _ rfl (own_alloc HN.out _) _ _ 1 1 [eachA 3 x 0] rfl (rd_ask _ ⟨_, _, _, _, _, _⟩ _ _ wr.heap.size rfl) ?_ ?_ ?_)
        · rw [HMm.out]; omega
        · simp; omega
        intro v2 w2 h2 g2 _
        obtain ⟨A2, c2', hv2, _, _, _⟩ := OR.rd h2
        rw [List.length_append, HMm.out, List.length_singleton] at hv2
        subst hv2
        have HB2 := Lib.hid (show CH w x w2 from Below.grown (Below.alloc HB.out hzr _) g2 (by simp; omega) (own_base HN.out))
        have H2 := Lib.hid h2
        clear h2 g2
        go_wp2
        go_roundw
        case rel => exact ⟨3, _, c2', _, A2, by omega, by omega, rfl, rfl, by omega, Lib.hid ⟨by rw [bckK_yes x 2 hy]; exact H2.out, HB2.out⟩⟩
        case measure => simp [intOf]
      · go_wp2
        go_roundw
        case rel => exact ⟨3, m, c, _, A, by omega, by omega, rfl, rfl, by omega, Lib.hid ⟨by rw [bckK_no x 2 hy]; exact HN.out, HB.out⟩⟩
        case measure => simp [intOf]
    · obtain rfl : z = -1 := by omega
      clear hz
      go_wp2
      go_ret
      exact ⟨_, rfl, own_mono HN.out (by omega), (bxW_of HB.out).2.1⟩
theorem rback_c (x : W7) (w : World) : Calls Try.prog 64 #[x.val] w (RRA w (backL x)) := by
  by_cases h : MayW x
  · exact rback_yes x w h
  · exact rback_no x w h
def rcW (w : World) (x : W7) : World := (bxW w x).alloc (.cells #[.int .i64 0, .int .i64 0, .int .i64 0, .int .i64 0, .int .i64 0, .int .i64 0] 33)
theorem rcW_size (w : World) (x : W7) : (rcW w x).heap.size = w.heap.size + 2 := by simp [rcW, bxW_size]
set_option maxRecDepth 100000 in
set_option maxHeartbeats 4000000 in
theorem rcapture_c (x : W7) (w : World) : Calls Try.prog 63 #[x.val] w fun e w' => e = .returned (captureA x).val ∧ Below w.heap.size w w' := by
  obtain ⟨m, hm⟩ : ∃ m, decide (MayW x) = m := ⟨_, rfl⟩
  have HM := Lib.hid (rmay_is x m hm)
  obtain ⟨ca, hca⟩ : ∃ ca, captureA x = ca := ⟨_, rfl⟩
  rw [hca]
  have HC2 := Lib.hid (show ca = if m then ⟨3, 5, x.b, 0, 0, 0⟩ else ⟨0, 0, 0, 0, 0, 0⟩ from by rw [← hca, ← hm]; unfold captureA; by_cases h : MayW x <;> simp [h])
  clear hca hm
  unfold W7.val at *
  cases m
  all_goals
    go_enter Try.func63, Try.ntmps63
    go_wp2_with fail
    refine (HM.out _).mono ?_
    rintro e w1 ⟨rfl, b1⟩
    have hb : Below (rcW w x).heap.size (rcW w x) w1 := b1
    have hr : w1.heap[w.heap.size + 1]? = some (.cells #[.int .i64 0, .int .i64 0, .int .i64 0, .int .i64 0, .int .i64 0, .int .i64 0] 33) := by
      rw [hb.block (w.heap.size + 1) (by rw [rcW_size]; omega)]
      have := heap_alloc_new (bxW w x) (.cells #[.int .i64 0, .int .i64 0, .int .i64 0, .int .i64 0, .int .i64 0, .int .i64 0] 33)
      rw [bxW_size] at this
      exact this
    have hc : CH w x (rcW w x) := (Below.refl _ _).alloc (by rw [bxW_size]; omega) _
    obtain ⟨c0, c1, c2, c3, c4, c5, c6⟩ := CH.cells (hc.trans (hb.mono (by rw [rcW_size]; omega)))
    have hz : w.heap.size + 1 < w1.heap.size := by have := hb.size; rw [rcW_size] at this; omega
    have B1 := Lib.hid (show Below w.heap.size w w1 from ((bxW_below w x).alloc (by rw [bxW_size]; omega) _).trans (hb.mono (by rw [rcW_size]; omega)))
    have r0 : w1.cell? ⟨w.heap.size + 1, 0, none⟩ = some (.int .i64 0) := World.news_of_block hr 0 _ rfl
    have r1 : w1.cell? ⟨w.heap.size + 1, 1, none⟩ = some (.int .i64 0) := World.news_of_block hr 1 _ rfl
    have r2 : w1.cell? ⟨w.heap.size + 1, 2, none⟩ = some (.int .i64 0) := World.news_of_block hr 2 _ rfl
    have r3 : w1.cell? ⟨w.heap.size + 1, 3, none⟩ = some (.int .i64 0) := World.news_of_block hr 3 _ rfl
    have r4 : w1.cell? ⟨w.heap.size + 1, 4, none⟩ = some (.int .i64 0) := World.news_of_block hr 4 _ rfl
    have r5 : w1.cell? ⟨w.heap.size + 1, 5, none⟩ = some (.int .i64 0) := World.news_of_block hr 5 _ rfl
    have hf : ∀ j, w1.frozen? ⟨w.heap.size + 1, j, none⟩ = false := fun j => frozen_of_row w1 _ j _ _ hr
    clear b1 hb hc hr
    go_wp2
    first
      | refine bodyPost_ret (v := .agg #[.int .i64 0, .int .i64 0, .int .i64 0, .int .i64 0, .int .i64 0, .int .i64 0]) (by simp [results, Try.results63, go_sem, r0, r1, r2, r3, r4, r5]; done) rfl ⟨by rw [HC2.out]; rfl, ?_⟩
      | refine bodyPost_ret (v := .agg #[.int .i64 3, .int .i64 5, .int .i64 x.b, .int .i64 0, .int .i64 0, .int .i64 0]) (by simp [results, Try.results63, go_sem, r0, r1, r2, r3, r4, r5]; done) rfl ⟨by rw [HC2.out]; rfl, ?_⟩
    exact ((((((B1.out.setCell (p := ⟨w.heap.size + 1, 0, none⟩) (by simp) _).setCell (p := ⟨w.heap.size + 1, 1, none⟩) (by simp) _).setCell (p := ⟨w.heap.size + 1, 2, none⟩) (by simp) _).setCell (p := ⟨w.heap.size + 1, 3, none⟩) (by simp) _).setCell (p := ⟨w.heap.size + 1, 4, none⟩) (by simp) _).setCell (p := ⟨w.heap.size + 1, 5, none⟩) (by simp) _)
end Go.Proofs.Ytplgodfhhlnojaa

/- The cells of a step in a list. -/
namespace Go.Proofs.Ytplgodfhhlnojaa
open Go.RowKit
theorem AC_get (l : List A6) (i : Nat) (a : A6) (hi : l[i]? = some a) (j : Nat) (hj : j < 6) : (AC l)[i * 6 + j]? = a.cells[j]? := by
  induction l generalizing i with
  | nil => simp at hi
  | cons b l ih =>
    rw [show AC (b :: l) = b.cells ++ AC l from by simp [AC]]
    cases i with
    | zero =>
      simp at hi; subst hi
      rw [List.getElem?_append_left (by simp [A6.cells]; omega)]
      simp
    | succ i =>
      rw [List.getElem?_append_right (by simp [A6.cells]; omega), ← ih i (by simpa using hi)]
      congr 1
      simp [A6.cells]; omega
theorem add_field (ad : Addr) (i j : Nat) (hj : 0 < j) : ad.add (i + j) = ⟨(ad.add i).block, (ad.add i).off + j, none⟩ := by
  unfold Addr.add
  rw [if_neg (by omega)]
  split
  · subst_vars; simp
  · simp; omega
/-- A step lies at an address. -/
structure AskAt (w : World) (P : Addr) (a : A6) : Prop where
  c0 : w.cell? P = some (.int .i64 a.node)
  c1 : w.cell? ⟨P.block, P.off + 1, none⟩ = some (.int .i64 a.kind)
  c2 : w.cell? ⟨P.block, P.off + 1 + 1, none⟩ = some (.int .i64 a.book)
  c3 : w.cell? ⟨P.block, P.off + 1 + 2, none⟩ = some (.int .i64 a.units)
  c4 : w.cell? ⟨P.block, P.off + 1 + 3, none⟩ = some (.int .i64 a.cust)
  c5 : w.cell? ⟨P.block, P.off + 1 + 4, none⟩ = some (.int .i64 a.amount)
theorem AskAt.bw {w : World} {P : Addr} {a : A6} (h : AskAt w P a) (s : BW w.heap.size w) : AskAt s.val P a :=
  ⟨BW.cell h.c0 (cell_in h.c0) s, BW.cell h.c1 (cell_in h.c1) s, BW.cell h.c2 (cell_in h.c2) s, BW.cell h.c3 (cell_in h.c3) s, BW.cell h.c4 (cell_in h.c4) s, BW.cell h.c5 (cell_in h.c5) s⟩
/-- The cells of the step at a place. -/
theorem Rd.ask {w : World} {D n : Nat} {A : Option Addr} {l : List A6} {k : Nat} (h : Rd w D 6 A n (AC l)) (hk : k < n) : ∃ ad a, A = some ad ∧ ad.block < D ∧ l[k]? = some a ∧ AskAt w (ad.add (k * 6)) a := by
  obtain ⟨ad, e, hb, hc⟩ := h.2 (by omega)
  have hl : k < l.length := by have := h.1; rw [AC_len] at this; omega
  have hcc : ∀ j u, l[k].cells[j]? = some u → w.cell? (ad.add (k * 6 + j)) = some u := fun j u hu => hc _ u (by
    have hj : j < 6 := by
      rcases Nat.lt_or_ge j 6 with h' | h'
      · exact h'
      · rw [List.getElem?_eq_none (by simpa [A6.cells] using h')] at hu; cases hu
    rw [AC_get l k _ (List.getElem?_eq_getElem hl) j hj]
    exact hu)
  have hcf : ∀ j u, l[k].cells[j + 1]? = some u → w.cell? ⟨(ad.add (k * 6)).block, (ad.add (k * 6)).off + 1 + j, none⟩ = some u := fun j u hu => by
    have := hcc (j + 1) u hu
    rw [add_field ad (k * 6) (j + 1) (by omega)] at this
    rw [show (ad.add (k * 6)).off + 1 + j = (ad.add (k * 6)).off + (j + 1) from by omega]
    exact this
  exact ⟨ad, l[k], e, hb, List.getElem?_eq_getElem hl, hcc 0 _ rfl, hcf 0 _ rfl, hcf 1 _ rfl, hcf 2 _ rfl, hcf 3 _ rfl, hcf 4 _ rfl⟩
end Go.Proofs.Ytplgodfhhlnojaa

/- Sagas: which may be, what they ask, what they turn into (no program in sight but for the steps' lists). -/
namespace Go.Proofs.Ytplgodfhhlnojaa
open Go.RowKit
structure S11 where
  (w : W7) (ph st re si : Int)
def S11.val (s : S11) : Value := .agg #[.int .i64 s.w.b, .int .i64 s.w.c, .int .i64 s.w.d, .int .i64 s.w.m0, .int .i64 s.w.m1, .int .i64 s.w.m2, .int .i64 s.w.p, .int .i64 s.ph, .int .i64 s.st, .int .i64 s.re, .int .i64 s.si]
/-- The steps of a saga's phase. -/
def stepsL (s : S11) : List A6 := if s.ph = 1 then forwardL s.w else if s.ph = 2 then [captureA s.w] else if s.ph = 3 then backL s.w else []
def MayS (s : S11) : Prop := MayW s.w ∧ (0 ≤ s.si ∧ s.si ≤ 1099511627776) ∧ (0 ≤ s.st ∧ (s.st < (stepsL s).length ∨ s.st < 1)) ∧
  (((s.ph = 1 ∨ s.ph = 2 ∨ s.ph = 4) ∧ s.re = 0) ∨ ((s.ph = 3 ∨ s.ph = 5) ∧ 1 ≤ s.re ∧ s.re ≤ 4 ∧ (s.re ≠ 3 ∨ 0 < s.w.d)))
instance (s : S11) : Decidable (MayS s) := by unfold MayS; infer_instance
def zA : A6 := ⟨0, 0, 0, 0, 0, 0⟩
def z11 : S11 := ⟨⟨0, 0, 0, 0, 0, 0, 0⟩, 0, 0, 0, 0⟩
/-- What a saga asks. -/
def nextS (s : S11) : A6 × Bool := if MayS s ∧ 0 < (stepsL s).length then ((stepsL s)[s.st.toNat]?.getD zA, true) else (zA, false)
theorem A6_ext {x y : A6} : x = y ↔ x.node = y.node ∧ x.kind = y.kind ∧ x.book = y.book ∧ x.units = y.units ∧ x.cust = y.cust ∧ x.amount = y.amount := by
  cases x; cases y; simp
instance : DecidableEq A6 := fun _ _ => decidable_of_iff _ A6_ext.symm
theorem W7_ext' {x y : W7} : x = y ↔ x.b = y.b ∧ x.c = y.c ∧ x.d = y.d ∧ x.m0 = y.m0 ∧ x.m1 = y.m1 ∧ x.m2 = y.m2 ∧ x.p = y.p := by
  cases x; cases y; simp
theorem S11_ext {x y : S11} : x = y ↔ (x.w.b = y.w.b ∧ x.w.c = y.w.c ∧ x.w.d = y.w.d ∧ x.w.m0 = y.w.m0 ∧ x.w.m1 = y.w.m1 ∧ x.w.m2 = y.w.m2 ∧ x.w.p = y.w.p) ∧ x.ph = y.ph ∧ x.st = y.st ∧ x.re = y.re ∧ x.si = y.si := by
  cases x; cases y; simp [W7_ext']
instance : DecidableEq S11 := fun _ _ => decidable_of_iff _ S11_ext.symm
def backS (s : S11) (r : Int) : S11 := ⟨s.w, 3, 0, r, s.si⟩
/-- A saga behind an answer. -/
def ansS (s : S11) (a : A6) (n : Int) : S11 × Bool :=
  if (nextS s).2 = false ∨ a ≠ (nextS s).1 then (s, false)
  else if n = 2 ∧ s.ph = 1 ∧ a.kind = 4 then (backS s 2, true)
  else if n = 2 ∧ s.ph = 1 then (backS s 1, true)
  else if n ≠ 1 then (s, false)
  else if s.st + 1 < (stepsL s).length then (⟨s.w, s.ph, s.st + 1, s.re, s.si⟩, true)
  else (⟨s.w, if s.ph = 1 then 2 else if s.ph = 2 then 4 else 5, 0, s.re, s.si⟩, true)
def canS (s : S11) : S11 × Bool := if MayS s ∧ s.ph = 1 then (backS s 4, true) else (s, false)
def lateS (s : S11) (now : Int) : S11 × Bool :=
  if MayS s ∧ s.ph = 1 ∧ s.w.d ≠ 0 ∧ now ≤ 1099511627776 ∧ s.w.d ≤ now - s.si ∧ s.si ≤ now then (backS s 3, true) else (s, false)
def tellS (s : S11) : Int := if ¬ MayS s then 0 else if s.ph = 4 then 3 else if s.ph = 5 then 4 else 2
def newS (x : W7) (now : Int) : S11 × Int := if MayW x ∧ 0 ≤ now ∧ now ≤ 1099511627776 then (⟨x, 1, 0, 0, now⟩, 0) else (z11, 1)
end Go.Proofs.Ytplgodfhhlnojaa
