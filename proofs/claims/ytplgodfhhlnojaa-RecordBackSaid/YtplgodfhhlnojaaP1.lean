/- Plan, Plan2, Plan3, Plan4, Plan5, merged. -/
import Derived.Test.YtplgodfhhlnojaaB4
import Derived.Test.YtplgodfhhlnojaaB1
import Derived.Outline
import Derived.BigRegion
set_option linter.unusedSimpArgs false
set_option linter.unusedVariables false
/- Plans: which inventories a want wants, and the steps of a row of the table. -/
namespace Go.Proofs.Ytplgodfhhlnojaa
open Go.RowKit
def NC (l : List Int) : List Value := l.map (Value.int .i64)
theorem NC_app (a b : List Int) : NC (a ++ b) = NC a ++ NC b := by simp [NC]
theorem NC_len (a : List Int) : (NC a).length = a.length := by simp [NC]
theorem info_int : (Try.prog.info? 3).map (fun i => (i.zero, i.size, i.bytes)) = some (some (.int .i64 0), 1, 8) := by kernel_rfl
def ON (w : World) (base : Nat) (v : Value) (l : List Int) : Prop := w.ownsRow base 3 1 v l.length (NC l)
/-- The inventories among the first k that are wanted. -/
def partsK (x : W7) : Nat → List Int
  | 0 => []
  | k + 1 => partsK x k ++ (if 0 < x.u k then [(k : Int)] else [])
theorem partsK_len (x : W7) : ∀ k, (partsK x k).length ≤ k
  | 0 => Nat.le_refl _
  | k + 1 => by have := partsK_len x k; simp only [partsK, List.length_append]; split <;> simp <;> omega
theorem partsK_no (x : W7) (k : Nat) (h : ¬ 0 < x.u k) : partsK x (k + 1) = partsK x k := by simp only [partsK]; rw [if_neg h, List.append_nil]
theorem partsK_yes (x : W7) (k : Nat) (h : 0 < x.u k) : partsK x (k + 1) = partsK x k ++ [(k : Int)] := by simp only [partsK]; rw [if_pos h]
/-- The same, of a want that may be. -/
def partsB (x : W7) (m : Bool) (k : Nat) : List Int := if m then partsK x k else []
theorem partsB_add (x : W7) (m : Bool) (k : Nat) : partsB x m (k + 1) = partsB x m k ++ (if m = true ∧ 0 < x.u k then [(k : Int)] else []) := by
  cases m <;> simp [partsB, partsK]
theorem partsB_len (x : W7) (m : Bool) (k : Nat) : (partsB x m k).length ≤ k := by
  cases m
  · simp [partsB]
  · exact partsK_len x k
def parts (x : W7) : List Int := partsB x (decide (MayW x)) 3
theorem idx3 (x : W7) (k : Nat) (hk : k < 3) (w : World) : (Instr.index 22 (.agg #[.int .i64 x.m0, .int .i64 x.m1, .int .i64 x.m2]) (.int .i64 (k : Int))).run Try.prog w = .ok (.int .i64 (x.u k)) w := by
  have : k = 0 ∨ k = 1 ∨ k = 2 := by omega
  rcases this with rfl | rfl | rfl
  · have : (Instr.index 22 (.agg #[.int .i64 x.m0, .int .i64 x.m1, .int .i64 x.m2]) (.int .i64 0)).run Try.prog w = .ok (.int .i64 x.m0) w := by kernel_rfl
    exact this
  · have : (Instr.index 22 (.agg #[.int .i64 x.m0, .int .i64 x.m1, .int .i64 x.m2]) (.int .i64 1)).run Try.prog w = .ok (.int .i64 x.m1) w := by kernel_rfl
    exact this
  · have : (Instr.index 22 (.agg #[.int .i64 x.m0, .int .i64 x.m1, .int .i64 x.m2]) (.int .i64 2)).run Try.prog w = .ok (.int .i64 x.m2) w := by kernel_rfl
    exact this
def RN (w : World) (l : List Int) (e : Ending) (w' : World) : Prop := ∃ v, e = .returned v ∧ ON w' w.heap.size v l ∧ Below w.heap.size w w'
theorem may_is (x : W7) (b : Bool) (h : decide (MayW x) = b) (w : World) : Calls Try.prog 65 #[x.val] w fun e w' => e = .returned (.bool b) ∧ Below w.heap.size w w' := h ▸ may_c x w
theorem blk7 (w : World) (x : W7) (t : TypeId) (k : Nat) (u : Value) (h : (#[Value.int .i64 x.b, .int .i64 x.c, .int .i64 x.d, .int .i64 x.m0, .int .i64 x.m1, .int .i64 x.m2, .int .i64 x.p] : Array Value)[k]? = some u) :
    (w.alloc (.cells #[.int .i64 x.b, .int .i64 x.c, .int .i64 x.d, .int .i64 x.m0, .int .i64 x.m1, .int .i64 x.m2, .int .i64 x.p] t)).cell? ⟨w.heap.size, k, none⟩ = some u := by
  have := World.news_of_block (heap_alloc_new w (.cells #[.int .i64 x.b, .int .i64 x.c, .int .i64 x.d, .int .i64 x.m0, .int .i64 x.m1, .int .i64 x.m2, .int .i64 x.p] t)) k u (by simpa using h)
  unfold Addr.add at this
  split at this
  · subst_vars; exact this
  · simpa using this
/-- Block B holds a want. -/
structure WC (w : World) (B : Nat) (x : W7) : Prop where
  c0 : w.cell? ⟨B, 0, none⟩ = some (.int .i64 x.b)
  c1 : w.cell? ⟨B, 1, none⟩ = some (.int .i64 x.c)
  c2 : w.cell? ⟨B, 2, none⟩ = some (.int .i64 x.d)
  c3 : w.cell? ⟨B, 3, none⟩ = some (.int .i64 x.m0)
  c4 : w.cell? ⟨B, 4, none⟩ = some (.int .i64 x.m1)
  c5 : w.cell? ⟨B, 5, none⟩ = some (.int .i64 x.m2)
  c6 : w.cell? ⟨B, 6, none⟩ = some (.int .i64 x.p)
theorem WC.new (w : World) (x : W7) (t : TypeId) : WC (w.alloc (.cells #[.int .i64 x.b, .int .i64 x.c, .int .i64 x.d, .int .i64 x.m0, .int .i64 x.m1, .int .i64 x.m2, .int .i64 x.p] t)) w.heap.size x :=
  ⟨blk7 w x t 0 _ rfl, blk7 w x t 1 _ rfl, blk7 w x t 2 _ rfl, blk7 w x t 3 _ rfl, blk7 w x t 4 _ rfl, blk7 w x t 5 _ rfl, blk7 w x t 6 _ rfl⟩
theorem WC.below {w w' : World} {B D : Nat} {x : W7} (h : WC w B x) (hb : Below D w w') (hd : B < D) : WC w' B x :=
  ⟨bcell hb h.c0 hd, bcell hb h.c1 hd, bcell hb h.c2 hd, bcell hb h.c3 hd, bcell hb h.c4 hd, bcell hb h.c5 hd, bcell hb h.c6 hd⟩
/-- A want, boxed. -/
def bxW (w : World) (x : W7) : World := w.alloc (.cells #[.int .i64 x.b, .int .i64 x.c, .int .i64 x.d, .int .i64 x.m0, .int .i64 x.m1, .int .i64 x.m2, .int .i64 x.p] 24)
theorem bxW_size (w : World) (x : W7) : (bxW w x).heap.size = w.heap.size + 1 := by simp [bxW]
theorem bxW_below (w : World) (x : W7) : Below w.heap.size w (bxW w x) := (Below.refl _ _).alloc (Nat.le_refl _) _
theorem bxW_of {w w' : World} {x : W7} (h : Below (w.heap.size + 1) (bxW w x) w') : WC w' w.heap.size x ∧ Below w.heap.size w w' ∧ w.heap.size + 1 ≤ w'.heap.size :=
  ⟨(WC.new w x _).below h (by omega), (bxW_below w x).trans (h.mono (by omega)), by have := h.size; rw [bxW_size] at this; exact this⟩
set_option maxHeartbeats 2000000 in
theorem parts_c (x : W7) (w : World) : Calls Try.prog 104 #[x.val] w (RN w (parts x)) := by
  obtain ⟨m, hm⟩ : ∃ m, decide (MayW x) = m := ⟨_, rfl⟩
  have HM := may_is x m hm
  unfold parts
  rw [hm]
  clear hm
  unfold W7.val at *
  go_enter Try.func104, Try.ntmps104
  go_wp2
  go_loopw [3, 8] (fun o i wr => ∃ (k n c : Nat) (A : Option Addr), k ≤ 3 ∧ i = .int .i64 k ∧ o = .slice A n c ∧ Hid (ON wr (w.heap.size + 1) (.slice A n c) (partsB x m k) ∧ Below (w.heap.size + 1) (bxW w x) wr)) (fun _ i _ => 3 - (intOf i).toNat)
  case atStart => exact ⟨0, 0, 0, none, by omega, rfl, rfl, Lib.hid ⟨by rw [show partsB x m 0 = [] from by cases m <;> rfl]; exact World.ownsRow_nil _ _ _ _, Below.refl _ _⟩⟩
  case round =>
    obtain ⟨k, n, c, A, hk, rfl, rfl, HO⟩ := hrel
    by_cases hlt : k < 3
    · have hi := idx3 x k hlt
      obtain ⟨y, hy⟩ : ∃ y, x.u k = y := ⟨_, rfl⟩
      rw [hy] at hi
      have HY := Lib.hid hy
      clear hy
      obtain ⟨ho, hb⟩ := HO.out
      obtain ⟨hc, _, hz⟩ := bxW_of hb
      obtain ⟨c0, c1, c2, c3, c4, c5, c6⟩ := hc
      have HB := Lib.hid hb
      have HN := Lib.hid ho
      clear ho hb HO
      by_cases hy0 : 0 < y
      · cases m
        · go_wp2_with (go_at_call 65; refine (HM _).mono ?_; rintro e w1 ⟨rfl, hb1⟩; have HB1 := Lib.hid hb1; clear hb1)
          go_roundw
          case rel => exact ⟨k + 1, n, c, A, by omega, by go_num, rfl, Lib.hid ⟨by rw [show partsB x false (k + 1) = partsB x false k from rfl]; exact own_below HN.out HB1.out (Nat.le_refl _), HB.out.trans (HB1.out.mono hz)⟩⟩
          case measure => simp [intOf]; omega
        · go_wp2_with (first | (go_at_call 65; refine (HM _).mono ?_; rintro e w1 ⟨rfl, hb1⟩; have HB1 := Lib.hid hb1; clear hb1) | (at_builtin; refine wpl_appS rfl (.tmp 18) (.tmp 20) 80 3 (.int .i64 0) 1 8 (by kernel_rfl) info_int rfl (by omega) rfl (w.heap.size + 1) _ _ _ rfl ((own_below HN.out HB1.out (Nat.le_refl _)).alloc _) _ _ 1 1 _ rfl (rd_new w1 #[.int .i64 (k : Int)] _ _ 1 1 rfl) (fun u hu => by simp at hu; subst hu; rfl) ?_ ?_ ?_ ?_))
          · have := partsB_len x true k; omega
          · omega
          · have := HB1.out.size; simp; omega
          intro v2 w2 h2 g2 _
          obtain ⟨A2, c2', rfl, _, _, _⟩ := own_form h2
          have HB2 := Lib.hid (((HB.out.trans (HB1.out.mono hz)).alloc (Nat.le_trans hz HB1.out.size) (.cells #[.int .i64 (k : Int)] 3)).grown g2 (by have := HB1.out.size; simp; omega) (own_base HN.out))
          have H2 := Lib.hid h2
          clear h2 g2
          go_wp2
          go_roundw
          case rel => exact ⟨k + 1, _, c2', A2, by omega, by go_num, rfl, Lib.hid ⟨by rw [partsB_add, if_pos (c := true = true ∧ 0 < x.u k) ⟨rfl, by rw [HY.out]; exact hy0⟩]; unfold ON; rw [NC_app]; simpa [NC] using H2.out, HB2.out⟩⟩
          case measure => simp [intOf]; omega
      · go_wp2_with (go_at_call 65; refine (HM _).mono ?_; rintro e w1 ⟨rfl, hb1⟩; have HB1 := Lib.hid hb1; clear hb1)
        all_goals
          go_roundw
          case rel => exact ⟨k + 1, n, c, A, by omega, by go_num, rfl, Lib.hid ⟨by rw [partsB_add, if_neg (by rw [HY.out]; rintro ⟨_, h⟩; omega), List.append_nil]; exact own_below HN.out HB1.out (Nat.le_refl _), HB.out.trans (HB1.out.mono hz)⟩⟩
          case measure => simp [intOf]; omega
    · obtain rfl : k = 3 := by omega
      obtain ⟨ho, hb⟩ := HO.out
      have HB := Lib.hid hb
      have HN := Lib.hid ho
      clear ho hb HO
      go_wp2
      go_ret
      exact ⟨_, rfl, own_mono HN.out (by omega), (bxW_of HB.out).2.1⟩
/-- A step: whom, what. -/
structure A6 where
  (node kind book units cust amount : Int)
def A6.cells (a : A6) : List Value := [.int .i64 a.node, .int .i64 a.kind, .int .i64 a.book, .int .i64 a.units, .int .i64 a.cust, .int .i64 a.amount]
def AC (l : List A6) : List Value := l.flatMap A6.cells
theorem AC_app (a b : List A6) : AC (a ++ b) = AC a ++ AC b := by simp [AC]
theorem AC_len (l : List A6) : (AC l).length = l.length * 6 := by
  induction l with
  | nil => rfl
  | cons a l ih => simp only [AC, List.flatMap_cons, List.length_append, List.length_cons] at *; rw [ih]; simp [A6.cells]; omega
theorem AC_one (l : List A6) : ∀ u ∈ AC l, u.oneCell' = true := by
  intro u hu
  simp only [AC, List.mem_flatMap] at hu
  obtain ⟨a, _, hu⟩ := hu
  simp [A6.cells] at hu
  rcases hu with rfl | rfl | rfl | rfl | rfl | rfl <;> rfl
theorem info_ask : (Try.prog.info? 30).map (fun i => (i.zero, i.size, i.bytes)) = some (some (.agg #[.int .i64 0, .int .i64 0, .int .i64 0, .int .i64 0, .int .i64 0, .int .i64 0]), 6, 48) := by kernel_rfl
/-- A row of steps of the call's own. -/
def OA (w : World) (base : Nat) (v : Value) (l : List A6) : Prop := w.ownsRow base 30 6 v l.length (AC l)
def RA (w : World) (l : List A6) (e : Ending) (w' : World) : Prop := ∃ v, e = .returned v ∧ OA w' w.heap.size v l ∧ Below w.heap.size w w'
theorem OA.rd {w : World} {base : Nat} {v : Value} {l : List A6} (h : OA w base v l) : ∃ A c, v = .slice A l.length c ∧ l.length ≤ c ∧ c ≤ maxLen ∧ Rd w w.heap.size 6 A l.length (AC l) := own_form h
theorem wpl_appA {w : World} {ops : Array Oper} {rest : List Oper} {o : Oper} {a : Act} {Q : Exit → Act → World → Prop} (hgd : o.guard = none) (s x : Operand)
    (ho : o.op = .call { callee := .builtin .append, args := #[s, x], argTypes := #[53, 53] })
    (base : Nat) (v : Value) (l : List A6) (hs : a.eval s = v) (hown : OA w base v l)
    (D : Nat) (A : Option Addr) (m c : Nat) (r : List A6) (hx : a.eval x = .slice A m c) (hr : Rd w D 6 A m (AC r))
    (hsum : l.length + m ≤ 1000000000000) (hbase : base ≤ w.heap.size)
    (h : ∀ v' w', OA w' base v' (l ++ r) → w.grownBy w' v.ownBlock → (v'.ownBlock = v.ownBlock ∨ v'.ownBlock = some w.heap.size) → wpList Try.prog ops Q rest (a.put o.dst v') w') : wpList Try.prog ops Q (o :: rest) a w := by
  have hm : r.length = m := by have := hr.1; rw [AC_len] at this; omega
  refine wpl_appS hgd s x 53 30 (.agg #[.int .i64 0, .int .i64 0, .int .i64 0, .int .i64 0, .int .i64 0, .int .i64 0]) 6 48 (by kernel_rfl) info_ask rfl (by omega) ho base v l.length (AC l) hs hown D A m c (AC r) hx hr (AC_one r) (by omega) (by omega) hbase fun v' w' h1 h2 h3 => h v' w' ?_ h2 h3
  unfold OA
  rw [List.length_append, hm, AC_app]
  exact h1
theorem rd_ask (w : World) (a : A6) (t : TypeId) (m : Nat × Nat) (H : Nat) (hH : w.heap.size = H) : Rd (w.alloc (.cells #[.int .i64 a.node, .int .i64 a.kind, .int .i64 a.book, .int .i64 a.units, .int .i64 a.cust, .int .i64 a.amount] t m)) (H + 1) 6 (some ⟨H, 0, none⟩) 1 (AC [a]) :=
  rd_newH w _ t m 1 6 H hH rfl
def eachA (K : Int) (x : W7) (i : Int) : A6 := ⟨i, K, x.b, if K = 1 then x.u i.toNat else 0, 0, 0⟩
theorem parts_mem (x : W7) (m : Bool) (k : Nat) : ∀ i ∈ partsB x m k, ∃ j : Nat, i = j ∧ j < k := by
  cases m
  · simp [partsB]
  · show ∀ i ∈ partsK x k, _
    induction k with
    | zero => simp [partsK]
    | succ k ih =>
      intro i hi
      simp only [partsK, List.mem_append] at hi
      rcases hi with hi | hi
      · obtain ⟨j, hj, hl⟩ := ih i hi; exact ⟨j, hj, by omega⟩
      · split at hi
        · simp at hi; exact ⟨k, hi, by omega⟩
        · cases hi
theorem NC_at (l : List Int) (k : Nat) (h : k < l.length) : (NC l)[k]? = some (.int .i64 (l[k]'h)) := by simp [NC, h]
theorem Rd.int {w : World} {D n : Nat} {A : Option Addr} {l : List Int} {k : Nat} (h : Rd w D 1 A n (NC l)) (hk : k < n) : ∃ ad, ∃ hl : k < l.length, A = some ad ∧ ad.block < D ∧ w.cell? (ad.add k) = some (.int .i64 (l[k]'hl)) := by
  obtain ⟨ad, u, e, hb, hx, hc⟩ := h.at1 hk
  have hl : k < l.length := by have := h.1; rw [NC_len] at this; omega
  rw [NC_at l k hl] at hx
  cases hx
  exact ⟨ad, hl, e, hb, hc⟩
theorem WC.at (w : World) (B : Nat) (x : W7) (h : WC w B x) (j : Nat) (hj : j < 3) : w.cell? ⟨B, 3 + j, none⟩ = some (.int .i64 (x.u j)) := by
  have : j = 0 ∨ j = 1 ∨ j = 2 := by omega
  rcases this with rfl | rfl | rfl
  · exact h.c3
  · exact h.c4
  · exact h.c5
def eachL (K : Int) (x : W7) (l : List Int) (k : Nat) : List A6 := (l.take k).map (eachA K x)
theorem eachL_len (K : Int) (x : W7) (l : List Int) (k : Nat) (h : k ≤ l.length) : (eachL K x l k).length = k := by unfold eachL; rw [List.length_map, List.length_take]; omega
theorem eachL_succ (K : Int) (x : W7) (l : List Int) (k : Nat) (h : k < l.length) : eachL K x l (k + 1) = eachL K x l k ++ [eachA K x l[k]] := by unfold eachL; rw [List.take_succ_eq_append_getElem h, List.map_append]; rfl
theorem eachL_all (K : Int) (x : W7) (l : List Int) : eachL K x l l.length = l.map (eachA K x) := by unfold eachL; rw [List.take_length]
set_option maxHeartbeats 4000000 in
theorem each_c (x : W7) (K : Int) (q : Nat) (w : World) (hq : w.cell? ⟨q, 0, none⟩ = some (.int .i64 K)) :
    Calls Try.prog 103 #[x.val, .pointer (some ⟨q, 0, none⟩)] w (RA w ((parts x).map (eachA K x))) := by
  have hqb : q < w.heap.size := cell_in hq
  obtain ⟨l, hl⟩ : ∃ l, parts x = l := ⟨_, rfl⟩
  have hmem : ∀ i ∈ l, ∃ j : Nat, i = j ∧ j < 3 := by rw [← hl]; exact parts_mem x _ 3
  have hlen : l.length ≤ 3 := by rw [← hl]; exact partsB_len x _ 3
  have HC := Lib.hid (parts_c x)
  rw [hl] at HC ⊢
  have HM := Lib.hid hmem
  clear hl hmem
  have HQ := Lib.hid hq
  clear hq
  unfold W7.val at *
  go_enter Try.func103, Try.ntmps103
  go_wp2_with (go_at_call 104; refine (HC.out _).mono ?_; rintro e w1 ⟨v1, rfl, h1, b1⟩; obtain ⟨A1, c1, rfl, hc1, hm1, r1⟩ := own_form h1; have R1 := Lib.hid r1; have B1 := Lib.hid b1; have Z1 := b1.size; clear h1 b1 r1)
  rw [show (w.alloc _).heap.size = w.heap.size + 1 from bxW_size w x] at Z1
  go_loopw [4, 11] (fun o i wr => ∃ (k c : Nat) (A : Option Addr), k ≤ l.length ∧ i = .int .i64 k ∧ o = .slice A k c ∧ Hid (OA wr w1.heap.size (.slice A k c) (eachL K x l k) ∧ Below w1.heap.size w1 wr)) (fun _ i _ => l.length - (intOf i).toNat)
  case atStart => exact ⟨0, 0, none, by omega, rfl, rfl, Lib.hid ⟨World.ownsRow_nil _ _ _ _, Below.refl _ _⟩⟩
  case round =>
    obtain ⟨k, c, A, hk, rfl, rfl, HO⟩ := hrel
    obtain ⟨ho, hb⟩ := HO.out
    by_cases hlt : k < l.length
    · obtain ⟨ad, _, rfl, _, hi⟩ := Rd.int (R1.out.below hb) hlt
      obtain ⟨j, hj, hj3⟩ := HM.out l[k] (List.getElem_mem _)
      have hwc := ((WC.new w x 24).below B1.out (by simp)).below hb (by omega)
      obtain ⟨c0, c1, c2, c3, c4, c5, c6⟩ := hwc
      have cq : wr.cell? ⟨q, 0, none⟩ = some (.int .i64 K) := bcell hb (bcell B1.out (bcell (bxW_below w x) HQ.out hqb) (by simp; omega)) (by omega)
      have hz := hb.size
      have hq2 : q < wr.heap.size := by omega
      have nb : w.heap.size < wr.heap.size := by omega
      have HB := Lib.hid hb
      have HN := Lib.hid ho
      have HT := Lib.hid (eachL_succ K x l k hlt)
      rw [hj] at hi
      have HJ := Lib.hid hj
      clear ho hb hj
      have hlk : (eachL K x l k).length = k := eachL_len K x l k hk
      have HLK := Lib.hid hlk
      clear hlk
      have h48 : k * 48 ≤ 144 := by omega
      by_cases hK : K = 1
      · subst hK
        have : j = 0 ∨ j = 1 ∨ j = 2 := by omega
        rcases this with rfl | rfl | rfl
        all_goals
          go_wp2_with (at_builtin; refine wpl_appA rfl (.tmp 26) (.tmp 30) rfl w1.heap.size _ _ rfl ((HN.out.alloc _).alloc _) _ _ 1 1 [⟨_, _, _, _, _, _⟩] rfl (rd_ask _ ⟨_, _, _, _, _, _⟩ _ _ (wr.heap.size + 1) (by simp)) ?_ ?_ ?_)
          · rw [HLK.out]; omega
          · simp; omega
          intro v2 w2 h2 g2 _
          obtain ⟨A2, c2', hv2, _, _, _⟩ := h2.rd
          rw [List.length_append, HLK.out] at hv2
          subst hv2
          have HB2 := Lib.hid (((HB.out.alloc hz _).alloc (by simp; omega) _).grown g2 (by simp; omega) (own_base HN.out))
          have H2 := Lib.hid h2
          clear h2 g2
          go_wp2
          go_roundw
          case rel => exact ⟨k + 1, c2', A2, by omega, by go_num, rfl, Lib.hid ⟨by rw [HT.out, HJ.out]; exact H2.out, HB2.out⟩⟩
          case measure => simp [intOf]; omega
      · have hKb : (K == 1) = false := beq_eq_false_iff_ne.2 hK
        have he : ∀ i, eachA K x i = ⟨i, K, x.b, 0, 0, 0⟩ := fun i => by unfold eachA; rw [if_neg hK]
        have HE := Lib.hid (he (j : Int))
        clear he
        go_wp2_with (at_builtin; refine wpl_appA rfl (.tmp 26) (.tmp 30) rfl w1.heap.size _ _ rfl ((HN.out.alloc _).alloc _) _ _ 1 1 [⟨_, _, _, _, _, _⟩] rfl (rd_ask _ ⟨_, _, _, _, _, _⟩ _ _ (wr.heap.size + 1) (by simp)) ?_ ?_ ?_)
        · rw [HLK.out]; omega
        · simp; omega
        intro v2 w2 h2 g2 _
        obtain ⟨A2, c2', hv2, _, _, _⟩ := h2.rd
        rw [List.length_append, HLK.out] at hv2
        subst hv2
        have HB2 := Lib.hid (((HB.out.alloc hz _).alloc (by simp; omega) _).grown g2 (by simp; omega) (own_base HN.out))
        have H2 := Lib.hid h2
        clear h2 g2
        go_wp2
        go_roundw
        case rel => exact ⟨k + 1, c2', A2, by omega, by go_num, rfl, Lib.hid ⟨by rw [HT.out, HJ.out, HE.out]; exact H2.out, HB2.out⟩⟩
        case measure => simp [intOf]; omega
    · obtain rfl : k = l.length := by omega
      have HB := Lib.hid hb
      have HN := Lib.hid ho
      clear ho hb HO
      go_wp2
      go_ret
      exact ⟨_, rfl, own_mono (by have := HN.out; rw [eachL_all] at this; exact this) (by omega), (bxW_below w x).trans ((B1.out.trans (HB.out.mono (by simpa using Z1))).mono (by simp [bxW]))⟩
end Go.Proofs.Ytplgodfhhlnojaa

/- Plans: rows backwards, tables of rows. -/
namespace Go.Proofs.Ytplgodfhhlnojaa
open Go.RowKit
theorem AC_cell2 (w : World) (base g c : Nat) (l : List A6) (h : OA w base (.slice (some ⟨g, 0, none⟩) l.length c) l) (i : Nat) (a : A6) (hi : l[i]? = some a) (j : Nat) (u : Value) (hj : a.cells[j]? = some u) : w.cell? ⟨g, i * 6 + j, none⟩ = some u := by
  have hl : i < l.length := by
    rcases Nat.lt_or_ge i l.length with h' | h'
    · exact h'
    · rw [List.getElem?_eq_none h'] at hi; cases hi
  have hj6 : j < 6 := by
    rcases Nat.lt_or_ge j 6 with h' | h'
    · exact h'
    · rw [List.getElem?_eq_none (by simpa [A6.cells] using h')] at hj; cases hj
  have h' : w.ownsRow base 30 6 (.slice (some ⟨g, 0, none⟩) l.length c) l.length (AC l) := h
  have e := h'.cellAt (i * 6 + j) (by omega)
  rw [e]
  clear e h h'
  induction l generalizing i with
  | nil => simp at hl
  | cons b l ih =>
    cases i with
    | zero =>
      simp at hi; subst hi
      simp only [AC, List.flatMap_cons, Nat.zero_mul, Nat.zero_add]
      rw [List.getElem?_append_left (by simpa [A6.cells] using hj6)]
      exact hj
    | succ i =>
      have := ih i (by simpa using hi) (by simpa using hl)
      rw [show AC (b :: l) = b.cells ++ AC l from by simp [AC], List.getElem?_append_right (by simp [A6.cells]; omega)]
      rw [← this]
      congr 1
      simp [A6.cells]; omega
def setAt (g : Nat) (w : World) (p : Nat × Value) : World := w.setCell ⟨g, p.1, none⟩ p.2
theorem own_sets {base e s g n c : Nat} (cs : List (Nat × Value)) : ∀ {w : World} {xs : List Value}, w.ownsRow base e s (.slice (some ⟨g, 0, none⟩) n c) n xs → (cs.foldl (setAt g) w).ownsRow base e s (.slice (some ⟨g, 0, none⟩) n c) n (cs.foldl (fun xs p => xs.set p.1 p.2) xs) := by
  induction cs with
  | nil => exact fun h => h
  | cons p cs ih => exact fun h => ih (World.ownsRow.stored h p.1 p.2).1
theorem below_sets {B g : Nat} (hg : B ≤ g) (cs : List (Nat × Value)) : ∀ {W w : World}, Below B W w → Below B W (cs.foldl (setAt g) w) := by
  induction cs with
  | nil => exact fun h => h
  | cons p cs ih => exact fun h => ih (h.setCell (p := ⟨g, p.1, none⟩) hg p.2)
theorem own_drew {w : World} {base e s n : Nat} {v : Value} {xs : List Value} (h : w.ownsRow base e s v n xs) : w.drew.ownsRow base e s v n xs := h
theorem rev_none (A : Option Addr) (n c : Nat) (w : World) (hn : n ≤ 1) (hc : n ≤ c) :
    Calls Try.prog 107 #[.slice A n c] w fun e w' => e = .returned (.tuple #[]) ∧ w = w' := by
  have : n = 0 ∨ n = 1 := by omega
  rcases this with rfl | rfl
  all_goals
    go_enter Try.func107, Try.ntmps107
    go_wp2
    refine wp_loop_rounds 1 ?_
    rw [rounds_succ]
    go_wp2
    go_end0
    exact ⟨rfl, rfl⟩
set_option maxHeartbeats 4000000 in
theorem rev2 (w : World) (base g c : Nat) (a b : A6) (h : OA w base (.slice (some ⟨g, 0, none⟩) 2 c) [a, b]) (hc : 2 ≤ c) (hg : base ≤ g) :
    Calls Try.prog 107 #[.slice (some ⟨g, 0, none⟩) 2 c] w fun e w' => e = .returned (.tuple #[]) ∧ OA w' base (.slice (some ⟨g, 0, none⟩) 2 c) [b, a] ∧ Below base w w' := by
  have H := Lib.hid (show w.ownsRow base 30 6 (.slice (some ⟨g, 0, none⟩) 2 c) 2 (AC [a, b]) from h)
  have cl := AC_cell2 w base g c [a, b] h
  have q00 := cl 0 a rfl 0 _ rfl
  have q01 := cl 0 a rfl 1 _ rfl
  have q02 := cl 0 a rfl 2 _ rfl
  have q03 := cl 0 a rfl 3 _ rfl
  have q04 := cl 0 a rfl 4 _ rfl
  have q05 := cl 0 a rfl 5 _ rfl
  have q10 := cl 1 b rfl 0 _ rfl
  have q11 := cl 1 b rfl 1 _ rfl
  have q12 := cl 1 b rfl 2 _ rfl
  have q13 := cl 1 b rfl 3 _ rfl
  have q14 := cl 1 b rfl 4 _ rfl
  have q15 := cl 1 b rfl 5 _ rfl
  simp only [Nat.reduceMul, Nat.reduceAdd] at q00 q01 q02 q03 q04 q05 q10 q11 q12 q13 q14 q15
  have hf : ∀ j, w.frozen? ⟨g, j, none⟩ = false := fun j => World.ownsRow.frozenAt h j
  clear h cl
  go_enter Try.func107, Try.ntmps107
  go_wp2
  refine wp_loop_rounds 2 ?_
  rw [rounds_succ]
  go_wp2
  go_region
  go_wp2
  rw [rounds_succ]
  go_wp2
  go_end0
  have s := own_sets (g := g) [(0, .int .i64 b.node), (1, .int .i64 b.kind), (2, .int .i64 b.book), (3, .int .i64 b.units), (4, .int .i64 b.cust), (5, .int .i64 b.amount), (6, .int .i64 a.node), (7, .int .i64 a.kind), (8, .int .i64 a.book), (9, .int .i64 a.units), (10, .int .i64 a.cust), (11, .int .i64 a.amount)] H.out
  have s2 := below_sets hg [(0, .int .i64 b.node), (1, .int .i64 b.kind), (2, .int .i64 b.book), (3, .int .i64 b.units), (4, .int .i64 b.cust), (5, .int .i64 b.amount), (6, .int .i64 a.node), (7, .int .i64 a.kind), (8, .int .i64 a.book), (9, .int .i64 a.units), (10, .int .i64 a.cust), (11, .int .i64 a.amount)] (Below.refl base w)
  exact ⟨rfl, own_drew s, s2.drew⟩
set_option maxHeartbeats 4000000 in
theorem rev3 (w : World) (base g c : Nat) (a b d : A6) (h : OA w base (.slice (some ⟨g, 0, none⟩) 3 c) [a, b, d]) (hc : 3 ≤ c) (hg : base ≤ g) :
    Calls Try.prog 107 #[.slice (some ⟨g, 0, none⟩) 3 c] w fun e w' => e = .returned (.tuple #[]) ∧ OA w' base (.slice (some ⟨g, 0, none⟩) 3 c) [d, b, a] ∧ Below base w w' := by
  have H := Lib.hid (show w.ownsRow base 30 6 (.slice (some ⟨g, 0, none⟩) 3 c) 3 (AC [a, b, d]) from h)
  have cl := AC_cell2 w base g c [a, b, d] h
  have q00 := cl 0 a rfl 0 _ rfl
  have q01 := cl 0 a rfl 1 _ rfl
  have q02 := cl 0 a rfl 2 _ rfl
  have q03 := cl 0 a rfl 3 _ rfl
  have q04 := cl 0 a rfl 4 _ rfl
  have q05 := cl 0 a rfl 5 _ rfl
  have q20 := cl 2 d rfl 0 _ rfl
  have q21 := cl 2 d rfl 1 _ rfl
  have q22 := cl 2 d rfl 2 _ rfl
  have q23 := cl 2 d rfl 3 _ rfl
  have q24 := cl 2 d rfl 4 _ rfl
  have q25 := cl 2 d rfl 5 _ rfl
  simp only [Nat.reduceMul, Nat.reduceAdd] at q00 q01 q02 q03 q04 q05 q20 q21 q22 q23 q24 q25
  have hf : ∀ j, w.frozen? ⟨g, j, none⟩ = false := fun j => World.ownsRow.frozenAt h j
  clear h cl
  go_enter Try.func107, Try.ntmps107
  go_wp2
  refine wp_loop_rounds 2 ?_
  rw [rounds_succ]
  go_wp2
  go_region
  go_wp2
  rw [rounds_succ]
  go_wp2
  go_end0
  have s := own_sets (g := g) [(0, .int .i64 d.node), (1, .int .i64 d.kind), (2, .int .i64 d.book), (3, .int .i64 d.units), (4, .int .i64 d.cust), (5, .int .i64 d.amount), (12, .int .i64 a.node), (13, .int .i64 a.kind), (14, .int .i64 a.book), (15, .int .i64 a.units), (16, .int .i64 a.cust), (17, .int .i64 a.amount)] H.out
  have s2 := below_sets hg [(0, .int .i64 d.node), (1, .int .i64 d.kind), (2, .int .i64 d.book), (3, .int .i64 d.units), (4, .int .i64 d.cust), (5, .int .i64 d.amount), (12, .int .i64 a.node), (13, .int .i64 a.kind), (14, .int .i64 a.book), (15, .int .i64 a.units), (16, .int .i64 a.cust), (17, .int .i64 a.amount)] (Below.refl base w)
  exact ⟨rfl, own_drew s, s2.drew⟩
/-- A row of three at most, turned. -/
theorem rev_c (w : World) (base : Nat) (A : Option Addr) (n c : Nat) (l : List A6) (h : OA w base (.slice A n c) l) (hl : l.length = n) (hn : n ≤ 3) :
    Calls Try.prog 107 #[.slice A n c] w fun e w' => e = .returned (.tuple #[]) ∧ OA w' base (.slice A n c) l.reverse ∧ Below base w w' := by
  obtain ⟨A', c', e, hc, _, _⟩ := h.rd
  injection e with e1 e2 e3
  subst e1 e3
  have own : 0 < n → ∃ g, A = some ⟨g, 0, none⟩ ∧ base ≤ g := by
    intro h0
    rcases h.2 with ⟨e, h1⟩ | ⟨g, cap, cur, e, hg, _⟩
    · omega
    · injection e with e1; exact ⟨g, e1, hg⟩
  by_cases h1 : n ≤ 1
  · refine (rev_none A n c w h1 (by omega)).mono fun e w' ⟨he, hw⟩ => ?_
    subst hw
    have : l.reverse = l := by
      rcases l with _ | ⟨a, _ | ⟨b, l⟩⟩
      · rfl
      · rfl
      · simp at hl; omega
    exact ⟨he, by rw [this]; exact h, Below.refl _ _⟩
  · obtain ⟨g, rfl, hg⟩ := own (by omega)
    by_cases h2 : n = 2
    · subst h2
      obtain ⟨a, b, rfl⟩ : ∃ a b, l = [a, b] := by
        rcases l with _ | ⟨a, _ | ⟨b, _ | ⟨d, l⟩⟩⟩ <;> simp at hl
        exact ⟨a, b, rfl⟩
      exact rev2 w base g c a b h (by omega) hg
    · obtain rfl : n = 3 := by omega
      obtain ⟨a, b, d, rfl⟩ : ∃ a b d, l = [a, b, d] := by
        rcases l with _ | ⟨a, _ | ⟨b, _ | ⟨d, _ | ⟨e, l⟩⟩⟩⟩ <;> simp at hl
        exact ⟨a, b, d, rfl⟩
      exact rev3 w base g c a b d h (by omega) hg
end Go.Proofs.Ytplgodfhhlnojaa

/- Plans: the rows of the tables, and what a table makes of a want. -/
namespace Go.Proofs.Ytplgodfhhlnojaa
open Go.RowKit
/-- What a function value makes of a want, from a world on. -/
def Gives (D : Nat) (w : World) (F : Value) (x : W7) (l : List A6) : Prop :=
  ∃ f q, F = .func (.func f) #[] #[.pointer (some ⟨q, 0, none⟩)] ∧ (f = 103 ∨ f = 105 ∨ f = 106) ∧ ∀ w', Below D w w' → D ≤ w'.heap.size → Calls Try.prog f #[x.val, .pointer (some ⟨q, 0, none⟩)] w' (RA w' l)
theorem Gives.below {D : Nat} {w w2 : World} {F : Value} {x : W7} {l : List A6} (h : Gives D w F x l) (hb : Below D w w2) : Gives D w2 F x l := by
  obtain ⟨f, q, e, hf, h⟩ := h
  exact ⟨f, q, e, hf, fun w' hw hd => h w' (hb.trans hw) hd⟩
theorem Gives.mono {D D' : Nat} {w : World} {F : Value} {x : W7} {l : List A6} (h : Gives D w F x l) (hd : D ≤ D') : Gives D' w F x l := by
  obtain ⟨f, q, e, hf, h⟩ := h
  exact ⟨f, q, e, hf, fun w' hw hd' => h w' (hw.mono hd) (by omega)⟩
theorem OA.lit1 (w : World) (base : Nat) (a : A6) (H : Nat) (hH : w.heap.size = H) (hb : base ≤ H) : OA (w.alloc (.cells #[.int .i64 a.node, .int .i64 a.kind, .int .i64 a.book, .int .i64 a.units, .int .i64 a.cust, .int .i64 a.amount] 30)) base (.slice (some ⟨H, 0, none⟩) 1 1) [a] := by
  subst hH
  exact World.ownsRow_lit w #[.int .i64 a.node, .int .i64 a.kind, .int .i64 a.book, .int .i64 a.units, .int .i64 a.cust, .int .i64 a.amount] 1 hb (by unfold maxLen; omega) rfl
def purseL (K : Int) (x : W7) : List A6 := if MayW x then [⟨3, K, x.b, 0, if K = 4 then x.c else 0, if K = 4 then x.p else 0⟩] else []
theorem each_gives (D : Nat) (w : World) (q : Nat) (K : Int) (x : W7) (hq : w.cell? ⟨q, 0, none⟩ = some (.int .i64 K)) (hd : q < D) : Gives D w (.func (.func 103) #[] #[.pointer (some ⟨q, 0, none⟩)]) x ((parts x).map (eachA K x)) :=
  ⟨_, q, rfl, by decide, fun w' hw _ => each_c x K q w' (bcell hw hq hd)⟩
set_option maxHeartbeats 2000000 in
theorem purse_c (x : W7) (K : Int) (q : Nat) (w : World) (hq : w.cell? ⟨q, 0, none⟩ = some (.int .i64 K)) :
    Calls Try.prog 105 #[x.val, .pointer (some ⟨q, 0, none⟩)] w (RA w (purseL K x)) := by
  have hqb : q < w.heap.size := cell_in hq
  by_cases hm : MayW x
  · have HM := Lib.hid (may_is x true (decide_eq_true hm))
    by_cases hK : K = 4
    · subst hK
      have hl : purseL 4 x = [⟨3, 4, x.b, 0, x.c, x.p⟩] := by unfold purseL; rw [if_pos hm, if_pos rfl, if_pos rfl]
      rw [hl]
      clear hl
      unfold W7.val at *
      go_enter Try.func105, Try.ntmps105
      go_wp2_with fail
      refine (HM.out _).mono ?_
      rintro e w1 ⟨rfl, b1⟩
      obtain ⟨c0, c1, c2, c3, c4, c5, c6⟩ := (WC.new w x 24).below b1 (by simp)
      have cq : w1.cell? ⟨q, 0, none⟩ = some (.int .i64 4) := bcell b1 (bcell (bxW_below w x) hq hqb) (by simp; omega)
      have hz : w.heap.size + 1 ≤ w1.heap.size := by have := b1.size; simp at this; exact this
      have hq2 : q < w1.heap.size := by omega
      have hb2 : w.heap.size < w1.heap.size := by omega
      have B1 := Lib.hid ((bxW_below w x).trans (b1.mono (by simp)))
      clear b1 hq
      go_wp2
      go_region
      go_wp2
      go_ret
      exact ⟨_, rfl, OA.lit1 _ _ ⟨_, _, _, _, _, _⟩ _ (by simp) (by omega), ((((B1.out.alloc (by omega) _).drew).alloc (by simp; omega) _))⟩
    · have hKb : (K == 4) = false := beq_eq_false_iff_ne.2 hK
      have hl : purseL K x = [⟨3, K, x.b, 0, 0, 0⟩] := by unfold purseL; rw [if_pos hm, if_neg hK, if_neg hK]
      rw [hl]
      clear hl
      unfold W7.val at *
      go_enter Try.func105, Try.ntmps105
      go_wp2_with fail
      refine (HM.out _).mono ?_
      rintro e w1 ⟨rfl, b1⟩
      obtain ⟨c0, c1, c2, c3, c4, c5, c6⟩ := (WC.new w x 24).below b1 (by simp)
      have cq : w1.cell? ⟨q, 0, none⟩ = some (.int .i64 K) := bcell b1 (bcell (bxW_below w x) hq hqb) (by simp; omega)
      have hz : w.heap.size + 1 ≤ w1.heap.size := by have := b1.size; simp at this; exact this
      have hq2 : q < w1.heap.size := by omega
      have hb2 : w.heap.size < w1.heap.size := by omega
      have B1 := Lib.hid ((bxW_below w x).trans (b1.mono (by simp)))
      clear b1 hq
      go_wp2
      go_ret
      exact ⟨_, rfl, OA.lit1 _ _ ⟨_, _, _, _, _, _⟩ _ (by simp) (by omega), ((((B1.out.alloc (by omega) _)).alloc (by simp; omega) _))⟩
  · have HM := Lib.hid (may_is x false (decide_eq_false hm))
    have hl : purseL K x = [] := by unfold purseL; rw [if_neg hm]
    rw [hl]
    clear hl
    unfold W7.val at *
    go_enter Try.func105, Try.ntmps105
    go_wp2_with fail
    refine (HM.out _).mono ?_
    rintro e w1 ⟨rfl, b1⟩
    have B1 := Lib.hid ((bxW_below w x).trans (b1.mono (by simp)))
    clear b1
    go_wp2
    go_ret
    exact ⟨_, rfl, World.ownsRow_nil _ _ _ _, B1.out⟩
theorem purse_gives (D : Nat) (w : World) (q : Nat) (K : Int) (x : W7) (hq : w.cell? ⟨q, 0, none⟩ = some (.int .i64 K)) (hd : q < D) : Gives D w (.func (.func 105) #[] #[.pointer (some ⟨q, 0, none⟩)]) x (purseL K x) :=
  ⟨_, q, rfl, by decide, fun w' hw _ => purse_c x K q w' (bcell hw hq hd)⟩
set_option maxHeartbeats 2000000 in
theorem falling_c (x : W7) (F : Value) (l : List A6) (q D : Nat) (w : World) (hq : w.cell? ⟨q, 0, none⟩ = some F) (hF : Gives D w F x l) (hD : D ≤ w.heap.size) (hl : l.length ≤ 3) :
    Calls Try.prog 106 #[x.val, .pointer (some ⟨q, 0, none⟩)] w (RA w l.reverse) := by
  have hqb : q < w.heap.size := cell_in hq
  obtain ⟨f, q', rfl, hf, hc⟩ := hF
  have HC := Lib.hid hc
  clear hc
  unfold W7.val at *
  rcases hf with rfl | rfl | rfl
  all_goals
    go_enter Try.func106, Try.ntmps106
    go_wp2_with fail
    refine (HC.out _ ((bxW_below w x).mono hD) (by rw [bxW_size]; omega)).mono ?_
    rintro e w1 ⟨v1, rfl, h1, b1⟩
    obtain ⟨A1, c1, rfl, _, _, _⟩ := h1.rd
    have H1 := Lib.hid h1
    have B1 := Lib.hid ((bxW_below w x).trans (b1.mono (by rw [bxW_size]; omega)))
    clear h1 b1
    go_wp2_with fail
    refine (rev_c _ _ A1 l.length c1 l H1.out rfl hl).mono ?_
    rintro e w2 ⟨rfl, h2, b2⟩
    have H2 := Lib.hid h2
    have B2 := Lib.hid (B1.out.trans (b2.mono (by rw [bxW_size]; omega)))
    clear h2 b2
    go_wp2
    go_ret
    exact ⟨_, rfl, own_mono H2.out (by rw [bxW_size]; omega), B2.out⟩
theorem falling_gives (D D2 : Nat) (w : World) (q : Nat) (F : Value) (x : W7) (l : List A6) (hq : w.cell? ⟨q, 0, none⟩ = some F) (hF : Gives D w F x l) (hd : q < D2) (hDD : D ≤ D2) (hl : l.length ≤ 3) :
    Gives D2 w (.func (.func 106) #[] #[.pointer (some ⟨q, 0, none⟩)]) x l.reverse :=
  ⟨_, q, rfl, by decide, fun w' hw hw2 => falling_c x F l q D w' (bcell hw hq hd) (hF.below (hw.mono hDD)) (by omega) hl⟩
/-- The steps of rows, one behind the other. -/
def catA : List (List A6) → List A6 := List.flatten
theorem catA_snoc (ls : List (List A6)) (k : Nat) (l : List A6) (h : ls[k]? = some l) : catA (ls.take (k + 1)) = catA (ls.take k) ++ l := by
  have hk : k < ls.length := by
    rcases Nat.lt_or_ge k ls.length with h' | h'
    · exact h'
    · rw [List.getElem?_eq_none h'] at h; cases h
  rw [List.getElem?_eq_getElem hk] at h
  cases h
  unfold catA
  rw [List.take_succ_eq_append_getElem hk, List.flatten_append]
  simp
set_option maxHeartbeats 4000000 in
theorem of_c (x : W7) (A : Option Addr) (n c D : Nat) (fs : List Value) (ls : List (List A6)) (w : World) (hr : Rd w w.heap.size 1 A n fs) (hD : D ≤ w.heap.size) (hn : n ≤ 3) (hls : ls.length = n)
    (hg : ∀ (k : Nat) (F : Value) (l : List A6), fs[k]? = some F → ls[k]? = some l → Gives D w F x l ∧ l.length ≤ 3) :
    Calls Try.prog 70 #[.slice A n c, x.val] w (RA w (catA ls)) := by
  have HR := Lib.hid hr
  have HG := Lib.hid hg
  have HLS := Lib.hid hls
  clear hr hg hls
  unfold W7.val at *
  go_enter Try.func70, Try.ntmps70
  go_wp2
  go_loopw [5, 10] (fun o i wr => ∃ (k m c : Nat) (A : Option Addr), k ≤ n ∧ i = .int .i64 k ∧ o = .slice A m c ∧ m ≤ 3 * k ∧ Hid (OA wr (w.heap.size + 1) (.slice A m c) (catA (ls.take k)) ∧ Below (w.heap.size + 1) (bxW w x) wr)) (fun _ i _ => n - (intOf i).toNat)
  case atStart => exact ⟨0, 0, 0, none, by omega, rfl, rfl, by omega, Lib.hid ⟨World.ownsRow_nil _ _ _ _, Below.refl _ _⟩⟩
  case round =>
    obtain ⟨k, m, c', A', hk, rfl, rfl, hm, HO⟩ := hrel
    obtain ⟨ho, hb⟩ := HO.out
    obtain ⟨hwc, hbw, hz⟩ := bxW_of hb
    by_cases hlt : k < n
    · obtain ⟨ad, F, rfl, had, hF, hcell⟩ := (HR.out.below hbw).at1 hlt
      obtain ⟨l, hl⟩ : ∃ l, ls[k]? = some l := ⟨ls[k]'(by rw [HLS.out]; exact hlt), List.getElem?_eq_getElem _⟩
      obtain ⟨hgv, hl3⟩ := HG.out k F l hF hl
      obtain ⟨f, q', rfl, hf, hc⟩ := hgv.below (hbw.mono hD)
      obtain ⟨c0, c1, c2, c3, c4, c5, c6⟩ := hwc
      have HC := Lib.hid hc
      have HB := Lib.hid hb
      have HN := Lib.hid ho
      have HL := Lib.hid hl
      have HM := Lib.hid (show (catA (ls.take k)).length = m from by obtain ⟨A2, c2, e, _⟩ := ho.rd; injection e with _ e2 _; exact e2.symm)
      clear hc hb ho hl hF hbw HO hgv
      rcases hf with rfl | rfl | rfl
      all_goals
        go_wp2_with fail
        refine (HC.out _ (Below.refl _ _) (by omega)).mono ?_
        rintro e w1 ⟨v1, rfl, h1, b1⟩
        obtain ⟨A1, c1', rfl, _, _, r1⟩ := h1.rd
        have H1 := Lib.hid h1
        have B1 := Lib.hid b1
        have R1 := Lib.hid r1
        clear h1 b1 r1
        go_wp2_with (at_builtin; refine wpl_appA rfl (.tmp 14) (.tmp 17) rfl (w.heap.size + 1) _ _ rfl (own_below HN.out B1.out (Nat.le_refl _)) _ _ _ _ l rfl R1.out ?_ ?_ ?_)
        · rw [HM.out]; omega
        · exact Nat.le_trans hz B1.out.size
        intro v2 w2 h2 g2 _
        obtain ⟨A2, c2', hv2, _, _, _⟩ := h2.rd
        rw [List.length_append, HM.out] at hv2
        subst hv2
        have HB2 := Lib.hid ((HB.out.trans (B1.out.mono hz)).grown g2 (Nat.le_trans hz B1.out.size) (own_base HN.out))
        have H2 := Lib.hid h2
        clear h2 g2
        go_wp2
        go_roundw
        case rel => exact ⟨k + 1, _, c2', A2, by omega, by go_num, rfl, by omega, Lib.hid ⟨by rw [catA_snoc ls k l HL.out]; exact H2.out, HB2.out⟩⟩
        case measure => simp [intOf]; omega
    · obtain rfl : k = n := by omega
      have HB := Lib.hid hbw
      have HN := Lib.hid ho
      clear ho hb HO hwc hbw
      go_wp2
      go_ret
      exact ⟨_, rfl, own_mono (by have := HN.out; rw [← HLS.out, List.take_length] at this; exact this) (by omega), HB.out⟩
end Go.Proofs.Ytplgodfhhlnojaa

/- Plans: Forward, Back, Capture. -/
namespace Go.Proofs.Ytplgodfhhlnojaa
open Go.RowKit
/-- What a function value makes of a want, from this world on. -/
def GivesW (w : World) (F : Value) (x : W7) (l : List A6) : Prop := Gives w.heap.size w F x l
theorem GivesW.next {w w2 : World} {F : Value} {x : W7} {l : List A6} (h : GivesW w F x l) (hb : Below w.heap.size w w2) : GivesW w2 F x l := (Gives.below h hb).mono hb.size
def MkF (x : W7) (l : List A6) (w : World) (e : Ending) (w' : World) : Prop := ∃ f q, e = .returned (.func (.func f) #[] #[.pointer (some ⟨q, 0, none⟩)]) ∧ GivesW w' (.func (.func f) #[] #[.pointer (some ⟨q, 0, none⟩)]) x l ∧ Below w.heap.size w w'
theorem each_mk (x : W7) (K : Int) (w : World) : Calls Try.prog 68 #[.int .i64 K] w (MkF x ((parts x).map (eachA K x)) w) := by
  have hmf : ∀ (fn : Fn) (first cap : Array Value) (w : World), (Instr.makeFunc fn first cap).run Try.prog w = .ok (.func fn first cap) w := fun _ _ _ _ => rfl
  go_enter Try.func68, Try.ntmps68
  go_wp2
  go_ret
  exact ⟨_, _, rfl, each_gives _ _ w.heap.size K x (World.news_of_block (heap_alloc_new w _) 0 _ rfl) (by simp), (Below.refl _ _).alloc (Nat.le_refl _) _⟩
theorem purse_mk (x : W7) (K : Int) (w : World) : Calls Try.prog 69 #[.int .i64 K] w (MkF x (purseL K x) w) := by
  have hmf : ∀ (fn : Fn) (first cap : Array Value) (w : World), (Instr.makeFunc fn first cap).run Try.prog w = .ok (.func fn first cap) w := fun _ _ _ _ => rfl
  go_enter Try.func69, Try.ntmps69
  go_wp2
  go_ret
  exact ⟨_, _, rfl, purse_gives _ _ w.heap.size K x (World.news_of_block (heap_alloc_new w _) 0 _ rfl) (by simp), (Below.refl _ _).alloc (Nat.le_refl _) _⟩
theorem falling_mk (x : W7) (F : Value) (l : List A6) (w : World) (hF : GivesW w F x l) (hl : l.length ≤ 3) : Calls Try.prog 71 #[F] w (MkF x l.reverse w) := by
  have hmf : ∀ (fn : Fn) (first cap : Array Value) (w : World), (Instr.makeFunc fn first cap).run Try.prog w = .ok (.func fn first cap) w := fun _ _ _ _ => rfl
  obtain ⟨f, q, rfl, hf, hc⟩ := hF
  have HC := Lib.hid hc
  clear hc
  go_enter Try.func71, Try.ntmps71
  go_wp2
  go_ret
  have hb : Below w.heap.size w (w.alloc (.cells #[.func (.func f) #[] #[.pointer (some ⟨q, 0, none⟩)]] 54)) := (Below.refl _ _).alloc (Nat.le_refl _) _
  exact ⟨_, _, rfl, falling_gives w.heap.size _ _ w.heap.size _ x l (World.news_of_block (heap_alloc_new w _) 0 _ rfl) (Gives.below ⟨f, q, rfl, hf, HC.out⟩ hb) (by simp) (by simp) hl, hb⟩
def CH (w : World) (x : W7) (wc : World) : Prop := Below (w.heap.size + 1) (bxW w x) wc
theorem CH.next {w wc w2 : World} {x : W7} (h : CH w x wc) (hb : Below wc.heap.size wc w2) : CH w x w2 := h.trans (hb.mono (bxW_of h).2.2)
def WCs (w : World) (B : Nat) (x : W7) : Prop := w.cell? ⟨B, 0, none⟩ = some (.int .i64 x.b) ∧ w.cell? ⟨B, 1, none⟩ = some (.int .i64 x.c) ∧ w.cell? ⟨B, 2, none⟩ = some (.int .i64 x.d) ∧ w.cell? ⟨B, 3, none⟩ = some (.int .i64 x.m0) ∧ w.cell? ⟨B, 4, none⟩ = some (.int .i64 x.m1) ∧ w.cell? ⟨B, 5, none⟩ = some (.int .i64 x.m2) ∧ w.cell? ⟨B, 6, none⟩ = some (.int .i64 x.p)
theorem CH.cells {w wc : World} {x : W7} (h : CH w x wc) : WCs wc w.heap.size x := by
  obtain ⟨c0, c1, c2, c3, c4, c5, c6⟩ := (bxW_of h).1
  exact ⟨c0, c1, c2, c3, c4, c5, c6⟩
theorem rd_fs (w : World) (fs : Array Value) (t : TypeId) (m : Nat × Nat) : Rd (w.alloc (.cells fs t m)) (w.alloc (.cells fs t m)).heap.size 1 (some ⟨w.heap.size, 0, none⟩) fs.size fs.toList :=
  (rd_new w fs t m fs.size 1 (by omega)).more (by simp)
theorem partsE_len (x : W7) (K : Int) : ((parts x).map (eachA K x)).length ≤ 3 := by rw [List.length_map]; exact partsB_len x _ 3
theorem purseL_len (x : W7) (K : Int) : (purseL K x).length ≤ 3 := by unfold purseL; split <;> simp
theorem table3 (x : W7) (w : World) (F1 F2 F3 : Value) (l1 l2 l3 : List A6) (t : TypeId) (m : Nat × Nat) (h1 : GivesW w F1 x l1) (h2 : GivesW w F2 x l2) (h3 : GivesW w F3 x l3) (n1 : l1.length ≤ 3) (n2 : l2.length ≤ 3) (n3 : l3.length ≤ 3) :
    Calls Try.prog 70 #[.slice (some ⟨w.heap.size, 0, none⟩) 3 3, x.val] (w.alloc (.cells #[F1, F2, F3] t m)) (RA (w.alloc (.cells #[F1, F2, F3] t m)) (l1 ++ (l2 ++ l3))) := by
  have hb : Below w.heap.size w (w.alloc (.cells #[F1, F2, F3] t m)) := (Below.refl _ _).alloc (Nat.le_refl _) _
  have h := of_c x _ 3 3 w.heap.size [F1, F2, F3] [l1, l2, l3] _ (rd_fs w #[F1, F2, F3] t m) (by simp) (by omega) rfl (by
    intro k F l hF hl
    rcases k with _ | _ | _ | k
    · cases hF; cases hl; exact ⟨Gives.below h1 hb, n1⟩
    · cases hF; cases hl; exact ⟨Gives.below h2 hb, n2⟩
    · cases hF; cases hl; exact ⟨Gives.below h3 hb, n3⟩
    · simp at hF)
  simpa [catA] using h
def forwardL (x : W7) : List A6 := (parts x).map (eachA 1 x) ++ (purseL 4 x ++ (parts x).map (eachA 2 x))
set_option maxRecDepth 100000 in
set_option maxHeartbeats 4000000 in
theorem forward_c (x : W7) (w : World) : Calls Try.prog 36 #[x.val] w (RA w (forwardL x)) := by
  have BB : CH w x (bxW w x) := Below.refl _ _
  have HV : Hid (x.val = .agg #[.int .i64 x.b, .int .i64 x.c, .int .i64 x.d, .int .i64 x.m0, .int .i64 x.m1, .int .i64 x.m2, .int .i64 x.p]) := Lib.hid rfl
  unfold W7.val
  go_enter Try.func36, Try.ntmps36
  go_wp2
  go_region_held3 (fun w' => w'.cell? ⟨w.heap.size, 0, none⟩ = some (.int .i64 x.b) ∧ w'.cell? ⟨w.heap.size, 1, none⟩ = some (.int .i64 x.c) ∧ w'.cell? ⟨w.heap.size, 2, none⟩ = some (.int .i64 x.d) ∧ w'.cell? ⟨w.heap.size, 3, none⟩ = some (.int .i64 x.m0) ∧ w'.cell? ⟨w.heap.size, 4, none⟩ = some (.int .i64 x.m1) ∧ w'.cell? ⟨w.heap.size, 5, none⟩ = some (.int .i64 x.m2) ∧ w'.cell? ⟨w.heap.size, 6, none⟩ = some (.int .i64 x.p)) (first | go_keep | exact CH.cells BB | exact CH.cells (CH.next BB ((Below.refl _ _).alloc (Nat.le_refl _) _)) | exact CH.cells B5.out) (first | (go_at_call 68; refine (each_mk x 1 _).mono ?_; rintro e w1 ⟨f1, q1, rfl, G1, hB⟩; (first | replace BB := CH.next BB hB | replace BB := CH.next (Below.drew BB) hB); (try replace G1 := GivesW.next G1 hB); (try replace G2 := GivesW.next G2 hB); (try replace G3 := GivesW.next G3 hB); clear hB) | (go_at_call 68; refine (each_mk x 2 _).mono ?_; rintro e w1 ⟨f3, q3, rfl, G3, hB⟩; (first | replace BB := CH.next BB hB | replace BB := CH.next (Below.drew BB) hB); (try replace G1 := GivesW.next G1 hB); (try replace G2 := GivesW.next G2 hB); (try replace G3 := GivesW.next G3 hB); clear hB) | (go_at_call 69; refine (purse_mk x 4 _).mono ?_; rintro e w1 ⟨f2, q2, rfl, G2, hB⟩; (first | replace BB := CH.next BB hB | replace BB := CH.next (Below.drew BB) hB); (try replace G1 := GivesW.next G1 hB); (try replace G2 := GivesW.next G2 hB); (try replace G3 := GivesW.next G3 hB); clear hB) | (go_at_call 70; refine (table3 x _ _ _ _ _ _ _ _ _ G1 G2 G3 (partsE_len x 1) (purseL_len x 4) (partsE_len x 2)).mono ?_; rintro e w5 ⟨v5, rfl, h5, b5⟩; have H5 := Lib.hid h5; have B5 := Lib.hid (CH.next BB (((Below.refl _ _).alloc (Nat.le_refl _) _).trans (b5.mono (by simp)))); clear h5 b5))
  all_goals
    go_wp2
    go_ret
    exact ⟨_, rfl, own_mono H5.out (by have := (bxW_of BB).2.2; simp; omega), (bxW_of B5.out).2.1⟩
theorem table2 (x : W7) (w : World) (F1 F2 : Value) (l1 l2 : List A6) (t : TypeId) (m : Nat × Nat) (h1 : GivesW w F1 x l1) (h2 : GivesW w F2 x l2) (n1 : l1.length ≤ 3) (n2 : l2.length ≤ 3) :
    Calls Try.prog 70 #[.slice (some ⟨w.heap.size, 0, none⟩) 2 2, x.val] (w.alloc (.cells #[F1, F2] t m)) (RA (w.alloc (.cells #[F1, F2] t m)) (l1 ++ l2)) := by
  have hb : Below w.heap.size w (w.alloc (.cells #[F1, F2] t m)) := (Below.refl _ _).alloc (Nat.le_refl _) _
  have h := of_c x _ 2 2 w.heap.size [F1, F2] [l1, l2] _ (rd_fs w #[F1, F2] t m) (by simp) (by omega) rfl (by
    intro k F l hF hl
    rcases k with _ | _ | k
    · cases hF; cases hl; exact ⟨Gives.below h1 hb, n1⟩
    · cases hF; cases hl; exact ⟨Gives.below h2 hb, n2⟩
    · simp at hF)
  simpa [catA] using h
theorem table1 (x : W7) (w : World) (F1 : Value) (l1 : List A6) (t : TypeId) (m : Nat × Nat) (h1 : GivesW w F1 x l1) (n1 : l1.length ≤ 3) :
    Calls Try.prog 70 #[.slice (some ⟨w.heap.size, 0, none⟩) 1 1, x.val] (w.alloc (.cells #[F1] t m)) (RA (w.alloc (.cells #[F1] t m)) l1) := by
  have hb : Below w.heap.size w (w.alloc (.cells #[F1] t m)) := (Below.refl _ _).alloc (Nat.le_refl _) _
  have h := of_c x _ 1 1 w.heap.size [F1] [l1] _ (rd_fs w #[F1] t m) (by simp) (by omega) rfl (by
    intro k F l hF hl
    rcases k with _ | k
    · cases hF; cases hl; exact ⟨Gives.below h1 hb, n1⟩
    · simp at hF)
  simpa [catA] using h
def backL (x : W7) : List A6 := purseL 6 x ++ ((parts x).map (eachA 3 x)).reverse
set_option maxRecDepth 100000 in
set_option maxHeartbeats 4000000 in
theorem back_c (x : W7) (w : World) : Calls Try.prog 37 #[x.val] w (RA w (backL x)) := by
  have BB : CH w x (bxW w x) := Below.refl _ _
  have HV : Hid (x.val = .agg #[.int .i64 x.b, .int .i64 x.c, .int .i64 x.d, .int .i64 x.m0, .int .i64 x.m1, .int .i64 x.m2, .int .i64 x.p]) := Lib.hid rfl
  unfold W7.val
  go_enter Try.func37, Try.ntmps37
  go_wp2
  go_region_held3 (fun w' => w'.cell? ⟨w.heap.size, 0, none⟩ = some (.int .i64 x.b) ∧ w'.cell? ⟨w.heap.size, 1, none⟩ = some (.int .i64 x.c) ∧ w'.cell? ⟨w.heap.size, 2, none⟩ = some (.int .i64 x.d) ∧ w'.cell? ⟨w.heap.size, 3, none⟩ = some (.int .i64 x.m0) ∧ w'.cell? ⟨w.heap.size, 4, none⟩ = some (.int .i64 x.m1) ∧ w'.cell? ⟨w.heap.size, 5, none⟩ = some (.int .i64 x.m2) ∧ w'.cell? ⟨w.heap.size, 6, none⟩ = some (.int .i64 x.p)) (first | go_keep | exact CH.cells BB | exact CH.cells (CH.next BB ((Below.refl _ _).alloc (Nat.le_refl _) _)) | exact CH.cells B5.out) (first | (go_at_call 69; refine (purse_mk x 6 _).mono ?_; rintro e w1 ⟨f1, q1, rfl, G1, hB⟩; (first | replace BB := CH.next BB hB | replace BB := CH.next (Below.drew BB) hB); (try replace G1 := GivesW.next G1 hB); (try replace G2 := GivesW.next G2 hB); (try replace G3 := GivesW.next G3 hB); clear hB) | (go_at_call 68; refine (each_mk x 3 _).mono ?_; rintro e w1 ⟨f2, q2, rfl, G2, hB⟩; (first | replace BB := CH.next BB hB | replace BB := CH.next (Below.drew BB) hB); (try replace G1 := GivesW.next G1 hB); (try replace G2 := GivesW.next G2 hB); (try replace G3 := GivesW.next G3 hB); clear hB) | (go_at_call 71; refine (falling_mk x _ _ _ G2 (partsE_len x 3)).mono ?_; rintro e w1 ⟨f3, q3, rfl, G3, hB⟩; (first | replace BB := CH.next BB hB | replace BB := CH.next (Below.drew BB) hB); (try replace G1 := GivesW.next G1 hB); (try replace G2 := GivesW.next G2 hB); (try replace G3 := GivesW.next G3 hB); clear hB) | (go_at_call 70; refine (table2 x _ _ _ _ _ _ _ G1 G3 (purseL_len x 6) (by rw [List.length_reverse]; exact partsE_len x 3)).mono ?_; rintro e w5 ⟨v5, rfl, h5, b5⟩; have H5 := Lib.hid h5; have B5 := Lib.hid (CH.next BB (((Below.refl _ _).alloc (Nat.le_refl _) _).trans (b5.mono (by simp)))); clear h5 b5))
  all_goals
    go_wp2
    go_ret
    exact ⟨_, rfl, own_mono H5.out (by have := (bxW_of BB).2.2; simp; omega), (bxW_of B5.out).2.1⟩
end Go.Proofs.Ytplgodfhhlnojaa

/- Plans: Capture. -/
namespace Go.Proofs.Ytplgodfhhlnojaa
open Go.RowKit
def captureA (x : W7) : A6 := if MayW x then ⟨3, 5, x.b, 0, 0, 0⟩ else ⟨0, 0, 0, 0, 0, 0⟩
def A6.val (a : A6) : Value := .agg #[.int .i64 a.node, .int .i64 a.kind, .int .i64 a.book, .int .i64 a.units, .int .i64 a.cust, .int .i64 a.amount]
def cpW (w : World) (x : W7) : World := (bxW w x).alloc (.cells #[.int .i64 0, .int .i64 0, .int .i64 0, .int .i64 0, .int .i64 0, .int .i64 0] 30)
theorem cpW_size (w : World) (x : W7) : (cpW w x).heap.size = w.heap.size + 2 := by simp [cpW, bxW_size]
def CP (w : World) (x : W7) (wc : World) : Prop := Below (cpW w x).heap.size (cpW w x) wc
theorem CP.next {w wc w2 : World} {x : W7} (h : CP w x wc) (hb : Below wc.heap.size wc w2) : CP w x w2 := h.trans (hb.mono h.size)
theorem CP.drew {w wc : World} {x : W7} (h : CP w x wc) : CP w x wc.drew := Below.drew h
theorem CP.cells {w wc : World} {x : W7} (h : CP w x wc) : WCs wc w.heap.size x := by
  have hc : CH w x (cpW w x) := (Below.refl _ _).alloc (by rw [bxW_size]; omega) _
  exact CH.cells (hc.trans (h.mono (by rw [cpW_size]; omega)))
theorem CP.res {w wc : World} {x : W7} (h : CP w x wc) : wc.heap[w.heap.size + 1]? = some (.cells #[.int .i64 0, .int .i64 0, .int .i64 0, .int .i64 0, .int .i64 0, .int .i64 0] 30) := by
  rw [h.block (w.heap.size + 1) (by rw [cpW_size]; omega)]
  have := heap_alloc_new (bxW w x) (.cells #[.int .i64 0, .int .i64 0, .int .i64 0, .int .i64 0, .int .i64 0, .int .i64 0] 30)
  rw [bxW_size] at this
  exact this
theorem CP.below {w wc : World} {x : W7} (h : CP w x wc) : Below w.heap.size w wc :=
  ((bxW_below w x).alloc (by rw [bxW_size]; omega) _).trans (h.mono (by rw [cpW_size]; omega))
set_option maxRecDepth 100000 in
set_option maxHeartbeats 4000000 in
theorem capture_c (x : W7) (w : World) : Calls Try.prog 38 #[x.val] w fun e w' => e = .returned (captureA x).val ∧ Below w.heap.size w w' := by
  obtain ⟨ca, hca⟩ : ∃ ca, captureA x = ca := ⟨_, rfl⟩
  rw [hca]
  have HCA := Lib.hid hca
  clear hca
  have BB : CP w x (cpW w x) := Below.refl _ _
  unfold W7.val
  go_enter Try.func38, Try.ntmps38
  go_wp2
  go_region_held3 (fun w' => w'.cell? ⟨w.heap.size, 0, none⟩ = some (.int .i64 x.b) ∧ w'.cell? ⟨w.heap.size, 1, none⟩ = some (.int .i64 x.c) ∧ w'.cell? ⟨w.heap.size, 2, none⟩ = some (.int .i64 x.d) ∧ w'.cell? ⟨w.heap.size, 3, none⟩ = some (.int .i64 x.m0) ∧ w'.cell? ⟨w.heap.size, 4, none⟩ = some (.int .i64 x.m1) ∧ w'.cell? ⟨w.heap.size, 5, none⟩ = some (.int .i64 x.m2) ∧ w'.cell? ⟨w.heap.size, 6, none⟩ = some (.int .i64 x.p)) (first | go_keep | exact CP.cells BB | exact CP.cells (CP.next BB ((Below.refl _ _).alloc (Nat.le_refl _) _)) | exact CP.cells B5.out) (first | (go_at_call 69; refine (purse_mk x 5 _).mono ?_; rintro e w1 ⟨f1, q1, rfl, G1, hB⟩; (first | replace BB := CP.next BB hB | replace BB := CP.next (CP.drew BB) hB); clear hB) | (go_at_call 70; refine (table1 x _ _ _ _ _ G1 (purseL_len x 5)).mono ?_; rintro e w5 ⟨v5, rfl, h5, b5⟩; obtain ⟨A5, c5, rfl, _, _, _⟩ := h5.rd; have H5 := Lib.hid h5; have B5 := Lib.hid (CP.next BB (((Below.refl _ _).alloc (Nat.le_refl _) _).trans (b5.mono (by simp)))); clear h5 b5))
  by_cases hm : MayW x
  · have hl : purseL 5 x = [⟨3, 5, x.b, 0, 0, 0⟩] := by unfold purseL; rw [if_pos hm]; rfl
    have HC2 := Lib.hid (show captureA x = ⟨3, 5, x.b, 0, 0, 0⟩ from if_pos hm)
    rw [hl] at H5 ⊢
    have h5 := H5.out
    obtain ⟨g, hg⟩ : ∃ g, A5 = some ⟨g, 0, none⟩ := by
      rcases h5.2 with ⟨e, h1⟩ | ⟨g, cap, cur, e, hg, _⟩
      · simp at h1
      · injection e with e1; exact ⟨g, e1⟩
    subst hg
    have cl := AC_cell2 w5 _ g c5 [⟨3, 5, x.b, 0, 0, 0⟩] h5
    have q0 := cl 0 _ rfl 0 _ rfl
    have q1 := cl 0 _ rfl 1 _ rfl
    have q2 := cl 0 _ rfl 2 _ rfl
    have q3 := cl 0 _ rfl 3 _ rfl
    have q4 := cl 0 _ rfl 4 _ rfl
    have q5 := cl 0 _ rfl 5 _ rfl
    simp only [Nat.reduceMul, Nat.reduceAdd] at q0 q1 q2 q3 q4 q5
    have hr := CP.res B5.out
    have hz : w.heap.size + 1 < w5.heap.size := by have := B5.out.size; rw [cpW_size] at this; omega
    have hgl : g < w5.heap.size := cell_in q0
    have HR := Lib.hid hr
    have r0 : w5.cell? ⟨w.heap.size + 1, 0, none⟩ = some (.int .i64 0) := World.news_of_block hr 0 _ rfl
    have r1 : w5.cell? ⟨w.heap.size + 1, 1, none⟩ = some (.int .i64 0) := World.news_of_block hr 1 _ rfl
    have r2 : w5.cell? ⟨w.heap.size + 1, 2, none⟩ = some (.int .i64 0) := World.news_of_block hr 2 _ rfl
    have r3 : w5.cell? ⟨w.heap.size + 1, 3, none⟩ = some (.int .i64 0) := World.news_of_block hr 3 _ rfl
    have r4 : w5.cell? ⟨w.heap.size + 1, 4, none⟩ = some (.int .i64 0) := World.news_of_block hr 4 _ rfl
    have r5 : w5.cell? ⟨w.heap.size + 1, 5, none⟩ = some (.int .i64 0) := World.news_of_block hr 5 _ rfl
    have hf : ∀ j, w5.frozen? ⟨w.heap.size + 1, j, none⟩ = false := fun j => frozen_of_row w5 _ j _ _ hr
    clear hl hr h5 cl hm BB
    go_wp2
    refine wp_loop_rounds 1 ?_
    rw [rounds_succ]
    go_wp2
    refine bodyPost_ret (v := .agg #[.int .i64 3, .int .i64 5, .int .i64 x.b, .int .i64 0, .int .i64 0, .int .i64 0]) (by simp [results, Try.results38, go_sem, r0, r1, r2, r3, r4, r5, World.cell?_alloc_lt, hz]) rfl ⟨by rw [← HCA.out, HC2.out]; rfl, ?_⟩
    exact (((((((CP.below B5.out).setCell (p := ⟨w.heap.size + 1, 0, none⟩) (by simp) _).setCell (p := ⟨w.heap.size + 1, 1, none⟩) (by simp) _).setCell (p := ⟨w.heap.size + 1, 2, none⟩) (by simp) _).setCell (p := ⟨w.heap.size + 1, 3, none⟩) (by simp) _).setCell (p := ⟨w.heap.size + 1, 4, none⟩) (by simp) _).setCell (p := ⟨w.heap.size + 1, 5, none⟩) (by simp) _).alloc (by simp; omega) _
  · have hl : purseL 5 x = [] := by unfold purseL; rw [if_neg hm]
    have HC2 := Lib.hid (show captureA x = ⟨0, 0, 0, 0, 0, 0⟩ from if_neg hm)
    rw [hl] at H5 ⊢
    have hr := CP.res B5.out
    have r0 : w5.cell? ⟨w.heap.size + 1, 0, none⟩ = some (.int .i64 0) := World.news_of_block hr 0 _ rfl
    have r1 : w5.cell? ⟨w.heap.size + 1, 1, none⟩ = some (.int .i64 0) := World.news_of_block hr 1 _ rfl
    have r2 : w5.cell? ⟨w.heap.size + 1, 2, none⟩ = some (.int .i64 0) := World.news_of_block hr 2 _ rfl
    have r3 : w5.cell? ⟨w.heap.size + 1, 3, none⟩ = some (.int .i64 0) := World.news_of_block hr 3 _ rfl
    have r4 : w5.cell? ⟨w.heap.size + 1, 4, none⟩ = some (.int .i64 0) := World.news_of_block hr 4 _ rfl
    have r5 : w5.cell? ⟨w.heap.size + 1, 5, none⟩ = some (.int .i64 0) := World.news_of_block hr 5 _ rfl
    have hf : ∀ j, w5.frozen? ⟨w.heap.size + 1, j, none⟩ = false := fun j => frozen_of_row w5 _ j _ _ hr
    clear hl hr hm BB
    go_wp2
    refine wp_loop_rounds 1 ?_
    rw [rounds_succ]
    go_wp2
    refine bodyPost_ret (v := .agg #[.int .i64 0, .int .i64 0, .int .i64 0, .int .i64 0, .int .i64 0, .int .i64 0]) (by simp [results, Try.results38, go_sem, r0, r1, r2, r3, r4, r5]) rfl ⟨by rw [← HCA.out, HC2.out]; rfl, ?_⟩
    exact (((((((CP.below B5.out).setCell (p := ⟨w.heap.size + 1, 0, none⟩) (by simp) _).setCell (p := ⟨w.heap.size + 1, 1, none⟩) (by simp) _).setCell (p := ⟨w.heap.size + 1, 2, none⟩) (by simp) _).setCell (p := ⟨w.heap.size + 1, 3, none⟩) (by simp) _).setCell (p := ⟨w.heap.size + 1, 4, none⟩) (by simp) _).setCell (p := ⟨w.heap.size + 1, 5, none⟩) (by simp) _)
end Go.Proofs.Ytplgodfhhlnojaa
