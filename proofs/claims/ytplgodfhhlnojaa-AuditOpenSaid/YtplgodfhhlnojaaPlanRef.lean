/- Plans: the document's own answer. -/
import Derived.Test.YtplgodfhhlnojaaPlan5
import Derived.Outline
set_option linter.unusedSimpArgs false
set_option linter.unusedVariables false
namespace Go.Proofs.Ytplgodfhhlnojaa
open Go.RowKit
theorem info_rask : (Try.prog.info? 33).map (fun i => (i.zero, i.size, i.bytes)) = some (some (.agg #[.int .i64 0, .int .i64 0, .int .i64 0, .int .i64 0, .int .i64 0, .int .i64 0]), 6, 48) := by kernel_rfl
/-- A row of the document's steps, of the call's own. -/
def OR (w : World) (base : Nat) (v : Value) (l : List A6) : Prop := w.ownsRow base 33 6 v l.length (AC l)
theorem OR.rd {w : World} {base : Nat} {v : Value} {l : List A6} (h : OR w base v l) : ∃ A c, v = .slice A l.length c ∧ l.length ≤ c ∧ c ≤ maxLen ∧ Rd w w.heap.size 6 A l.length (AC l) := own_form h
theorem wpl_appR {w : World} {ops : Array Oper} {rest : List Oper} {o : Oper} {a : Act} {Q : Exit → Act → World → Prop} (hgd : o.guard = none) (s x : Operand)
    (ho : o.op = .call { callee := .builtin .append, args := #[s, x], argTypes := #[94, 94] })
    (base : Nat) (v : Value) (l : List A6) (hs : a.eval s = v) (hown : OR w base v l)
    (D : Nat) (A : Option Addr) (m c : Nat) (r : List A6) (hx : a.eval x = .slice A m c) (hr : Rd w D 6 A m (AC r))
    (hsum : l.length + m ≤ 1000000000000) (hbase : base ≤ w.heap.size)
    (h : ∀ v' w', OR w' base v' (l ++ r) → w.grownBy w' v.ownBlock → (v'.ownBlock = v.ownBlock ∨ v'.ownBlock = some w.heap.size) → wpList Try.prog ops Q rest (a.put o.dst v') w') : wpList Try.prog ops Q (o :: rest) a w := by
  have hm : r.length = m := by have := hr.1; rw [AC_len] at this; omega
  refine wpl_appS hgd s x 94 33 (.agg #[.int .i64 0, .int .i64 0, .int .i64 0, .int .i64 0, .int .i64 0, .int .i64 0]) 6 48 (by kernel_rfl) info_rask rfl (by omega) ho base v l.length (AC l) hs hown D A m c (AC r) hx hr (AC_one r) (by omega) (by omega) hbase fun v' w' h1 h2 h3 => h v' w' ?_ h2 h3
  unfold OR
  rw [List.length_append, hm, AC_app]
  exact h1
theorem step_appR {w : World} {ops : Array Oper} {o : Oper} {a : Act} {K : Act → World → Prop} {Q : Exit → Act → World → Prop} {E : Prop} (hgd : o.guard = none) (s x : Operand)
    (ho : o.op = .call { callee := .builtin .append, args := #[s, x], argTypes := #[94, 94] })
    (base : Nat) (v : Value) (l : List A6) (hs : a.eval s = v) (hown : OR w base v l)
    (D : Nat) (A : Option Addr) (m c : Nat) (r : List A6) (hx : a.eval x = .slice A m c) (hr : Rd w D 6 A m (AC r))
    (hsum : l.length + m ≤ 1000000000000) (hbase : base ≤ w.heap.size)
    (h : ∀ v' w', OR w' base v' (l ++ r) → w.grownBy w' v.ownBlock → (v'.ownBlock = v.ownBlock ∨ v'.ownBlock = some w.heap.size) → K (a.put o.dst v') w') : if Region.wanted o (yielded ops a.tmps) = true then Oper.wp Try.prog o a w K Q else E := by
  have hm : r.length = m := by have := hr.1; rw [AC_len] at this; omega
  refine step_appS hgd s x 94 33 (.agg #[.int .i64 0, .int .i64 0, .int .i64 0, .int .i64 0, .int .i64 0, .int .i64 0]) 6 48 (by kernel_rfl) info_rask rfl (by omega) ho base v l.length (AC l) hs hown D A m c (AC r) hx hr (AC_one r) (by omega) (by omega) hbase fun v' w' h1 h2 h3 => h v' w' ?_ h2 h3
  unfold OR
  rw [List.length_append, hm, AC_app]
  exact h1
def RRA (w : World) (l : List A6) (e : Ending) (w' : World) : Prop := ∃ v, e = .returned v ∧ OR w' w.heap.size v l ∧ Below w.heap.size w w'
theorem rmay_is (x : W7) (b : Bool) (h : decide (MayW x) = b) (w : World) : Calls Try.prog 35 #[x.val] w fun e w' => e = .returned (.bool b) ∧ Below w.heap.size w w' := h ▸ rmay_c x w
/-- Steps of the first k inventories. -/
def stepsK (K : Int) (x : W7) (k : Nat) : List A6 := (partsK x k).map (eachA K x)
theorem stepsK_len (K : Int) (x : W7) (k : Nat) : (stepsK K x k).length ≤ k := by unfold stepsK; rw [List.length_map]; exact partsK_len x k
theorem stepsK_yes (K : Int) (x : W7) (k : Nat) (h : 0 < x.u k) : stepsK K x (k + 1) = stepsK K x k ++ [eachA K x k] := by unfold stepsK; rw [partsK_yes x k h, List.map_append]; rfl
theorem stepsK_no (K : Int) (x : W7) (k : Nat) (h : ¬ 0 < x.u k) : stepsK K x (k + 1) = stepsK K x k := by unfold stepsK; rw [partsK_no x k h]
def fwdK (x : W7) (k : Nat) : List A6 := stepsK 1 x 3 ++ ([⟨3, 4, x.b, 0, x.c, x.p⟩] ++ stepsK 2 x k)
theorem fwdK_yes (x : W7) (k : Nat) (h : 0 < x.u k) : fwdK x (k + 1) = fwdK x k ++ [eachA 2 x k] := by unfold fwdK; rw [stepsK_yes 2 x k h]; simp
theorem fwdK_no (x : W7) (k : Nat) (h : ¬ 0 < x.u k) : fwdK x (k + 1) = fwdK x k := by unfold fwdK; rw [stepsK_no 2 x k h]
theorem forwardL_yes (x : W7) (h : MayW x) : forwardL x = fwdK x 3 := by
  unfold fwdK forwardL parts purseL stepsK
  rw [decide_eq_true h, if_pos h, if_pos rfl, if_pos rfl]
  rfl
theorem forwardL_no (x : W7) (h : ¬ MayW x) : forwardL x = [] := by
  unfold forwardL parts purseL
  rw [decide_eq_false h, if_neg h]
  rfl
theorem backL_yes (x : W7) (h : MayW x) : backL x = [⟨3, 6, x.b, 0, 0, 0⟩] ++ (stepsK 3 x 3).reverse := by
  unfold backL parts purseL stepsK
  rw [decide_eq_true h, if_pos h, if_neg (by decide), if_neg (by decide)]
  rfl
theorem backL_no (x : W7) (h : ¬ MayW x) : backL x = [] := by
  unfold backL parts purseL
  rw [decide_eq_false h, if_neg h]
  rfl
set_option maxRecDepth 100000 in
set_option maxHeartbeats 4000000 in
theorem rforward_no (x : W7) (w : World) (hm : ¬ MayW x) : Calls Try.prog 62 #[x.val] w (RRA w (forwardL x)) := by
  have HM := Lib.hid (rmay_is x false (decide_eq_false hm))
  rw [forwardL_no x hm]
  clear hm
  unfold W7.val at *
  go_enter Try.func62, Try.ntmps62
  go_wp2_with fail
  refine (HM.out _).mono ?_
  rintro e w1 ⟨rfl, b1⟩
  have B1 := Lib.hid ((bxW_below w x).trans (b1.mono (by simp)))
  clear b1
  go_wp2
  go_ret
  exact ⟨_, rfl, World.ownsRow_nil _ _ _ _, B1.out⟩
set_option maxRecDepth 100000 in
set_option maxHeartbeats 4000000 in
theorem rforward_yes (x : W7) (w : World) (hm : MayW x) : Calls Try.prog 62 #[x.val] w (RRA w (forwardL x)) := by
  have HM := Lib.hid (rmay_is x true (decide_eq_true hm))
  rw [forwardL_yes x hm]
  clear hm
  unfold W7.val at *
  go_enter Try.func62, Try.ntmps62
  go_wp2_with fail
  refine (HM.out _).mono ?_
  rintro e w1 ⟨rfl, b1⟩
  have hz : w.heap.size + 1 ≤ w1.heap.size := by have := b1.size; simp at this; exact this
  have B1 := Lib.hid (show Below (w.heap.size + 1) (bxW w x) w1 from b1.mono (by simp))
  clear b1
  go_wp2
  go_loopw [3, 4] (fun o i wr => ∃ (k m c : Nat) (A : Option Addr), k ≤ 3 ∧ i = .int .i64 k ∧ o = .slice A m c ∧ m ≤ k ∧ Hid (OR wr (w.heap.size + 1) (.slice A m c) (stepsK 1 x k) ∧ CH w x wr)) (fun _ i _ => 3 - (intOf i).toNat)
  case atStart => exact ⟨0, 0, 0, none, by omega, rfl, rfl, by omega, Lib.hid ⟨World.ownsRow_nil _ _ _ _, B1.out⟩⟩
  case round =>
    clear B1
    obtain ⟨k, m, c, A, hk, rfl, rfl, hm, HO⟩ := hrel
    obtain ⟨ho, hb⟩ := HO.out
    obtain ⟨c0, c1, c2, c3, c4, c5, c6⟩ := CH.cells hb
    have HB := Lib.hid hb
    have HN := Lib.hid ho
    have HMm := Lib.hid (show (stepsK 1 x k).length = m from by obtain ⟨A2, c2, e, _⟩ := ho.rd; injection e with _ e2 _; exact e2.symm)
    have hzr : w.heap.size + 1 ≤ wr.heap.size := (bxW_of hb).2.2
    have nb : w.heap.size < wr.heap.size := by omega
    clear ho hb HO
    have : k = 0 ∨ k = 1 ∨ k = 2 ∨ k = 3 := by omega
    rcases this with rfl | rfl | rfl | rfl
    · by_cases hy : 0 < x.m0
      · go_wp2
        go_region_held3 (fun w' => w'.cell? ⟨w.heap.size, 0, none⟩ = some (.int .i64 x.b) ∧ w'.cell? ⟨w.heap.size, 1, none⟩ = some (.int .i64 x.c) ∧ w'.cell? ⟨w.heap.size, 2, none⟩ = some (.int .i64 x.d) ∧ w'.cell? ⟨w.heap.size, 3, none⟩ = some (.int .i64 x.m0) ∧ w'.cell? ⟨w.heap.size, 4, none⟩ = some (.int .i64 x.m1) ∧ w'.cell? ⟨w.heap.size, 5, none⟩ = some (.int .i64 x.m2) ∧ w'.cell? ⟨w.heap.size, 6, none⟩ = some (.int .i64 x.p)) (first | go_keep | exact CH.cells HB2.out | exact CH.cells HB.out | exact CH.cells (Below.alloc (Below.drew HB.out) hzr _)) ((refine step_appR (by rfl) (.tmp 19) (.tmp 29) (by rfl) (w.heap.size + 1) _ _ (by rfl) (own_alloc HN.out _) _ _ 1 1 [eachA 1 x 0] (by rfl) (rd_ask _ ⟨_, _, _, _, _, _⟩ _ _ wr.heap.size (by rfl)) (by rw [HMm.out]; omega) (by simp; omega) ?_; intro v2 w2 h2 g2 _; obtain ⟨A2, c2', hv2, _, _, _⟩ := OR.rd h2; rw [List.length_append, HMm.out, List.length_singleton] at hv2; subst hv2; have HB2 := Lib.hid (Below.grown (Below.alloc (Below.drew HB.out) hzr _) g2 (by simp; omega) (own_base HN.out)); have H2 := Lib.hid h2; clear h2 g2))
        go_wp2
        go_roundw
        case rel => exact ⟨1, _, c2', A2, by omega, rfl, rfl, by first | omega | (simp; omega), Lib.hid ⟨by rw [stepsK_yes 1 x 0 hy]; exact H2.out, HB2.out⟩⟩
        case measure => simp [intOf]
      · go_wp2
        go_roundw
        case rel => exact ⟨1, m, c, A, by omega, rfl, rfl, by omega, Lib.hid ⟨by rw [stepsK_no 1 x 0 hy]; exact HN.out, HB.out⟩⟩
        case measure => simp [intOf]
    · by_cases hy : 0 < x.m1
      · go_wp2
        go_region_held3 (fun w' => w'.cell? ⟨w.heap.size, 0, none⟩ = some (.int .i64 x.b) ∧ w'.cell? ⟨w.heap.size, 1, none⟩ = some (.int .i64 x.c) ∧ w'.cell? ⟨w.heap.size, 2, none⟩ = some (.int .i64 x.d) ∧ w'.cell? ⟨w.heap.size, 3, none⟩ = some (.int .i64 x.m0) ∧ w'.cell? ⟨w.heap.size, 4, none⟩ = some (.int .i64 x.m1) ∧ w'.cell? ⟨w.heap.size, 5, none⟩ = some (.int .i64 x.m2) ∧ w'.cell? ⟨w.heap.size, 6, none⟩ = some (.int .i64 x.p)) (first | go_keep | exact CH.cells HB2.out | exact CH.cells HB.out | exact CH.cells (Below.alloc (Below.drew HB.out) hzr _)) ((refine step_appR (by rfl) (.tmp 19) (.tmp 29) (by rfl) (w.heap.size + 1) _ _ (by rfl) (own_alloc HN.out _) _ _ 1 1 [eachA 1 x 1] (by rfl) (rd_ask _ ⟨_, _, _, _, _, _⟩ _ _ wr.heap.size (by rfl)) (by rw [HMm.out]; omega) (by simp; omega) ?_; intro v2 w2 h2 g2 _; obtain ⟨A2, c2', hv2, _, _, _⟩ := OR.rd h2; rw [List.length_append, HMm.out, List.length_singleton] at hv2; subst hv2; have HB2 := Lib.hid (Below.grown (Below.alloc (Below.drew HB.out) hzr _) g2 (by simp; omega) (own_base HN.out)); have H2 := Lib.hid h2; clear h2 g2))
        go_wp2
        go_roundw
        case rel => exact ⟨2, _, c2', A2, by omega, rfl, rfl, by first | omega | (simp; omega), Lib.hid ⟨by rw [stepsK_yes 1 x 1 hy]; exact H2.out, HB2.out⟩⟩
        case measure => simp [intOf]
      · go_wp2
        go_roundw
        case rel => exact ⟨2, m, c, A, by omega, rfl, rfl, by omega, Lib.hid ⟨by rw [stepsK_no 1 x 1 hy]; exact HN.out, HB.out⟩⟩
        case measure => simp [intOf]
    · by_cases hy : 0 < x.m2
      · go_wp2
        go_region_held3 (fun w' => w'.cell? ⟨w.heap.size, 0, none⟩ = some (.int .i64 x.b) ∧ w'.cell? ⟨w.heap.size, 1, none⟩ = some (.int .i64 x.c) ∧ w'.cell? ⟨w.heap.size, 2, none⟩ = some (.int .i64 x.d) ∧ w'.cell? ⟨w.heap.size, 3, none⟩ = some (.int .i64 x.m0) ∧ w'.cell? ⟨w.heap.size, 4, none⟩ = some (.int .i64 x.m1) ∧ w'.cell? ⟨w.heap.size, 5, none⟩ = some (.int .i64 x.m2) ∧ w'.cell? ⟨w.heap.size, 6, none⟩ = some (.int .i64 x.p)) (first | go_keep | exact CH.cells HB2.out | exact CH.cells HB.out | exact CH.cells (Below.alloc (Below.drew HB.out) hzr _)) ((refine step_appR (by rfl) (.tmp 19) (.tmp 29) (by rfl) (w.heap.size + 1) _ _ (by rfl) (own_alloc HN.out _) _ _ 1 1 [eachA 1 x 2] (by rfl) (rd_ask _ ⟨_, _, _, _, _, _⟩ _ _ wr.heap.size (by rfl)) (by rw [HMm.out]; omega) (by simp; omega) ?_; intro v2 w2 h2 g2 _; obtain ⟨A2, c2', hv2, _, _, _⟩ := OR.rd h2; rw [List.length_append, HMm.out, List.length_singleton] at hv2; subst hv2; have HB2 := Lib.hid (Below.grown (Below.alloc (Below.drew HB.out) hzr _) g2 (by simp; omega) (own_base HN.out)); have H2 := Lib.hid h2; clear h2 g2))
        go_wp2
        go_roundw
        case rel => exact ⟨3, _, c2', A2, by omega, rfl, rfl, by first | omega | (simp; omega), Lib.hid ⟨by rw [stepsK_yes 1 x 2 hy]; exact H2.out, HB2.out⟩⟩
        case measure => simp [intOf]
      · go_wp2
        go_roundw
        case rel => exact ⟨3, m, c, A, by omega, rfl, rfl, by omega, Lib.hid ⟨by rw [stepsK_no 1 x 2 hy]; exact HN.out, HB.out⟩⟩
        case measure => simp [intOf]
    · go_wp2_with (at_builtin; refine wpl_appR rfl (.tmp 31) (.tmp 40) rfl (w.heap.size + 1) _ _ rfl (own_alloc HN.out _) _ _ 1 1 [⟨3, 4, x.b, 0, x.c, x.p⟩] rfl (rd_ask _ ⟨_, _, _, _, _, _⟩ _ _ wr.heap.size rfl) ?_ ?_ ?_)
      · rw [HMm.out]; omega
      · simp; omega
      intro v2 w2 h2 g2 _
      obtain ⟨A2, c2', hv2, _, _, _⟩ := OR.rd h2
      rw [List.length_append, HMm.out, List.length_singleton] at hv2
      subst hv2
      have HB2 := Lib.hid (Below.grown (Below.alloc HB.out hzr _) g2 (by simp; omega) (own_base HN.out))
      have H2 := Lib.hid h2
      clear h2 g2 HB HN c0 c1 c2 c3 c4 c5 c6
      go_wp2
      go_loopw [3, 5] (fun o i wr => ∃ (k m c : Nat) (A : Option Addr), k ≤ 3 ∧ i = .int .i64 k ∧ o = .slice A m c ∧ m ≤ k + 4 ∧ Hid (OR wr (w.heap.size + 1) (.slice A m c) (fwdK x k) ∧ CH w x wr)) (fun _ i _ => 3 - (intOf i).toNat)
      case atStart => exact ⟨0, _, c2', A2, by omega, rfl, rfl, by first | omega | (simp; omega), Lib.hid ⟨by have := H2.out; exact this, HB2.out⟩⟩
      case round =>
        clear H2 HB2 hzr nb HMm hm
        obtain ⟨k, m, c, A, hk, rfl, rfl, hm, HO⟩ := hrel
        obtain ⟨ho, hb⟩ := HO.out
        obtain ⟨c0, c1, c2, c3, c4, c5, c6⟩ := CH.cells hb
        have HB := Lib.hid hb
        have HN := Lib.hid ho
        have HMm := Lib.hid (show (fwdK x k).length = m from by obtain ⟨A2, c2, e, _⟩ := ho.rd; injection e with _ e2 _; exact e2.symm)
        have hzr : w.heap.size + 1 ≤ wr.heap.size := (bxW_of hb).2.2
        have nb : w.heap.size < wr.heap.size := by omega
        clear ho hb HO
        have : k = 0 ∨ k = 1 ∨ k = 2 ∨ k = 3 := by omega
        rcases this with rfl | rfl | rfl | rfl
        · by_cases hy : 0 < x.m0
          · go_wp2_with (at_builtin; refine wpl_appR rfl (.tmp 51) (.tmp 57) rfl (w.heap.size + 1) _ _ rfl (own_alloc HN.out _) _ _ 1 1 [eachA 2 x 0] rfl (rd_ask _ ⟨_, _, _, _, _, _⟩ _ _ wr.heap.size rfl) ?_ ?_ ?_)
            · rw [HMm.out]; omega
            · simp; omega
            intro v2 w2 h2 g2 _
            obtain ⟨A2, c2', hv2, _, _, _⟩ := OR.rd h2
            rw [List.length_append, HMm.out, List.length_singleton] at hv2
            subst hv2
            have HB2 := Lib.hid (Below.grown (Below.alloc HB.out hzr _) g2 (by simp; omega) (own_base HN.out))
            have H2 := Lib.hid h2
            clear h2 g2
            go_wp2
            go_roundw
            case rel => exact ⟨1, _, c2', A2, by omega, rfl, rfl, by first | omega | (simp; omega), Lib.hid ⟨by rw [fwdK_yes x 0 hy]; exact H2.out, HB2.out⟩⟩
            case measure => simp [intOf]
          · go_wp2
            go_roundw
            case rel => exact ⟨1, m, c, A, by omega, rfl, rfl, by omega, Lib.hid ⟨by rw [fwdK_no x 0 hy]; exact HN.out, HB.out⟩⟩
            case measure => simp [intOf]
        · by_cases hy : 0 < x.m1
          · go_wp2_with (at_builtin; refine wpl_appR rfl (.tmp 51) (.tmp 57) rfl (w.heap.size + 1) _ _ rfl (own_alloc HN.out _) _ _ 1 1 [eachA 2 x 1] rfl (rd_ask _ ⟨_, _, _, _, _, _⟩ _ _ wr.heap.size rfl) ?_ ?_ ?_)
            · rw [HMm.out]; omega
            · simp; omega
            intro v2 w2 h2 g2 _
            obtain ⟨A2, c2', hv2, _, _, _⟩ := OR.rd h2
            rw [List.length_append, HMm.out, List.length_singleton] at hv2
            subst hv2
            have HB2 := Lib.hid (Below.grown (Below.alloc HB.out hzr _) g2 (by simp; omega) (own_base HN.out))
            have H2 := Lib.hid h2
            clear h2 g2
            go_wp2
            go_roundw
            case rel => exact ⟨2, _, c2', A2, by omega, rfl, rfl, by first | omega | (simp; omega), Lib.hid ⟨by rw [fwdK_yes x 1 hy]; exact H2.out, HB2.out⟩⟩
            case measure => simp [intOf]
          · go_wp2
            go_roundw
            case rel => exact ⟨2, m, c, A, by omega, rfl, rfl, by omega, Lib.hid ⟨by rw [fwdK_no x 1 hy]; exact HN.out, HB.out⟩⟩
            case measure => simp [intOf]
        · by_cases hy : 0 < x.m2
          · go_wp2_with (at_builtin; refine wpl_appR rfl (.tmp 51) (.tmp 57) rfl (w.heap.size + 1) _ _ rfl (own_alloc HN.out _) _ _ 1 1 [eachA 2 x 2] rfl (rd_ask _ ⟨_, _, _, _, _, _⟩ _ _ wr.heap.size rfl) ?_ ?_ ?_)
            · rw [HMm.out]; omega
            · simp; omega
            intro v2 w2 h2 g2 _
            obtain ⟨A2, c2', hv2, _, _, _⟩ := OR.rd h2
            rw [List.length_append, HMm.out, List.length_singleton] at hv2
            subst hv2
            have HB2 := Lib.hid (Below.grown (Below.alloc HB.out hzr _) g2 (by simp; omega) (own_base HN.out))
            have H2 := Lib.hid h2
            clear h2 g2
            go_wp2
            go_roundw
            case rel => exact ⟨3, _, c2', A2, by omega, rfl, rfl, by first | omega | (simp; omega), Lib.hid ⟨by rw [fwdK_yes x 2 hy]; exact H2.out, HB2.out⟩⟩
            case measure => simp [intOf]
          · go_wp2
            go_roundw
            case rel => exact ⟨3, m, c, A, by omega, rfl, rfl, by omega, Lib.hid ⟨by rw [fwdK_no x 2 hy]; exact HN.out, HB.out⟩⟩
            case measure => simp [intOf]
        · go_wp2
          go_ret
          exact ⟨_, rfl, own_mono HN.out (by omega), (bxW_of HB.out).2.1⟩
theorem rforward_c (x : W7) (w : World) : Calls Try.prog 62 #[x.val] w (RRA w (forwardL x)) := by
  by_cases h : MayW x
  · exact rforward_yes x w h
  · exact rforward_no x w h
end Go.Proofs.Ytplgodfhhlnojaa
