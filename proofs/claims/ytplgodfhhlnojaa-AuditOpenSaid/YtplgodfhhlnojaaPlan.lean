/- Plans: which inventories a want wants, and the steps of a row of the table. -/
import Derived.Test.YtplgodfhhlnojaaWant
import Derived.Test.YtplgodfhhlnojaaOwnG
import Derived.Outline
set_option linter.unusedSimpArgs false
set_option linter.unusedVariables false
namespace Go.Proofs.Ytplgodfhhlnojaa
open Go.RowKit
def NC (l : List Int) : List Value := l.map (Value.int .i64)
theorem NC_app (a b : List Int) : NC (a ++ b) = NC a ++ NC b := by simp [NC]
theorem NC_len (a : List Int) : (NC a).length = a.length := by simp [NC]
theorem info_int : (Try.prog.info? 3).map (fun i => (i.zero, i.size, i.bytes)) = some (some (.int .i64 0), 1, 8) := by kernel_rfl
def ON (w : World) (base : Nat) (v : Value) (l : List Int) : Prop := w.ownsRow base 3 1 v l.length (NC l)
/-- The inventories among the first k that are wanted. -/
def partsK (x : W7) : Nat → List Int
  | 0 => []
  | k + 1 => partsK x k ++ (if 0 < x.u k then [(k : Int)] else [])
theorem partsK_len (x : W7) : ∀ k, (partsK x k).length ≤ k
  | 0 => Nat.le_refl _
  | k + 1 => by have := partsK_len x k; simp only [partsK, List.length_append]; split <;> simp <;> omega
theorem partsK_no (x : W7) (k : Nat) (h : ¬ 0 < x.u k) : partsK x (k + 1) = partsK x k := by simp only [partsK]; rw [if_neg h, List.append_nil]
theorem partsK_yes (x : W7) (k : Nat) (h : 0 < x.u k) : partsK x (k + 1) = partsK x k ++ [(k : Int)] := by simp only [partsK]; rw [if_pos h]
/-- The same, of a want that may be. -/
def partsB (x : W7) (m : Bool) (k : Nat) : List Int := if m then partsK x k else []
theorem partsB_add (x : W7) (m : Bool) (k : Nat) : partsB x m (k + 1) = partsB x m k ++ (if m = true ∧ 0 < x.u k then [(k : Int)] else []) := by
  cases m <;> simp [partsB, partsK]
theorem partsB_len (x : W7) (m : Bool) (k : Nat) : (partsB x m k).length ≤ k := by
  cases m
  · simp [partsB]
  · exact partsK_len x k
def parts (x : W7) : List Int := partsB x (decide (MayW x)) 3
theorem idx3 (x : W7) (k : Nat) (hk : k < 3) (w : World) : (Instr.index 22 (.agg #[.int .i64 x.m0, .int .i64 x.m1, .int .i64 x.m2]) (.int .i64 (k : Int))).run Try.prog w = .ok (.int .i64 (x.u k)) w := by
  have : k = 0 ∨ k = 1 ∨ k = 2 := by omega
  rcases this with rfl | rfl | rfl
  · have : (Instr.index 22 (.agg #[.int .i64 x.m0, .int .i64 x.m1, .int .i64 x.m2]) (.int .i64 0)).run Try.prog w = .ok (.int .i64 x.m0) w := by kernel_rfl
    exact this
  · have : (Instr.index 22 (.agg #[.int .i64 x.m0, .int .i64 x.m1, .int .i64 x.m2]) (.int .i64 1)).run Try.prog w = .ok (.int .i64 x.m1) w := by kernel_rfl
    exact this
  · have : (Instr.index 22 (.agg #[.int .i64 x.m0, .int .i64 x.m1, .int .i64 x.m2]) (.int .i64 2)).run Try.prog w = .ok (.int .i64 x.m2) w := by kernel_rfl
    exact this
def RN (w : World) (l : List Int) (e : Ending) (w' : World) : Prop := ∃ v, e = .returned v ∧ ON w' w.heap.size v l ∧ Below w.heap.size w w'
theorem may_is (x : W7) (b : Bool) (h : decide (MayW x) = b) (w : World) : Calls Try.prog 65 #[x.val] w fun e w' => e = .returned (.bool b) ∧ Below w.heap.size w w' := h ▸ may_c x w
theorem blk7 (w : World) (x : W7) (t : TypeId) (k : Nat) (u : Value) (h : (#[Value.int .i64 x.b, .int .i64 x.c, .int .i64 x.d, .int .i64 x.m0, .int .i64 x.m1, .int .i64 x.m2, .int .i64 x.p] : Array Value)[k]? = some u) :
    (w.alloc (.cells #[.int .i64 x.b, .int .i64 x.c, .int .i64 x.d, .int .i64 x.m0, .int .i64 x.m1, .int .i64 x.m2, .int .i64 x.p] t)).cell? ⟨w.heap.size, k, none⟩ = some u := by
  have := World.news_of_block (heap_alloc_new w (.cells #[.int .i64 x.b, .int .i64 x.c, .int .i64 x.d, .int .i64 x.m0, .int .i64 x.m1, .int .i64 x.m2, .int .i64 x.p] t)) k u (by simpa using h)
  unfold Addr.add at this
  split at this
  · subst_vars; exact this
  · simpa using this
/-- Block B holds a want. -/
structure WC (w : World) (B : Nat) (x : W7) : Prop where
  c0 : w.cell? ⟨B, 0, none⟩ = some (.int .i64 x.b)
  c1 : w.cell? ⟨B, 1, none⟩ = some (.int .i64 x.c)
  c2 : w.cell? ⟨B, 2, none⟩ = some (.int .i64 x.d)
  c3 : w.cell? ⟨B, 3, none⟩ = some (.int .i64 x.m0)
  c4 : w.cell? ⟨B, 4, none⟩ = some (.int .i64 x.m1)
  c5 : w.cell? ⟨B, 5, none⟩ = some (.int .i64 x.m2)
  c6 : w.cell? ⟨B, 6, none⟩ = some (.int .i64 x.p)
theorem WC.new (w : World) (x : W7) (t : TypeId) : WC (w.alloc (.cells #[.int .i64 x.b, .int .i64 x.c, .int .i64 x.d, .int .i64 x.m0, .int .i64 x.m1, .int .i64 x.m2, .int .i64 x.p] t)) w.heap.size x :=
  ⟨blk7 w x t 0 _ rfl, blk7 w x t 1 _ rfl, blk7 w x t 2 _ rfl, blk7 w x t 3 _ rfl, blk7 w x t 4 _ rfl, blk7 w x t 5 _ rfl, blk7 w x t 6 _ rfl⟩
theorem WC.below {w w' : World} {B D : Nat} {x : W7} (h : WC w B x) (hb : Below D w w') (hd : B < D) : WC w' B x :=
  ⟨bcell hb h.c0 hd, bcell hb h.c1 hd, bcell hb h.c2 hd, bcell hb h.c3 hd, bcell hb h.c4 hd, bcell hb h.c5 hd, bcell hb h.c6 hd⟩
/-- A want, boxed. -/
def bxW (w : World) (x : W7) : World := w.alloc (.cells #[.int .i64 x.b, .int .i64 x.c, .int .i64 x.d, .int .i64 x.m0, .int .i64 x.m1, .int .i64 x.m2, .int .i64 x.p] 24)
theorem bxW_size (w : World) (x : W7) : (bxW w x).heap.size = w.heap.size + 1 := by simp [bxW]
theorem bxW_below (w : World) (x : W7) : Below w.heap.size w (bxW w x) := (Below.refl _ _).alloc (Nat.le_refl _) _
theorem bxW_of {w w' : World} {x : W7} (h : Below (w.heap.size + 1) (bxW w x) w') : WC w' w.heap.size x ∧ Below w.heap.size w w' ∧ w.heap.size + 1 ≤ w'.heap.size :=
  ⟨(WC.new w x _).below h (by omega), (bxW_below w x).trans (h.mono (by omega)), by have := h.size; rw [bxW_size] at this; exact this⟩
set_option maxHeartbeats 2000000 in
theorem parts_c (x : W7) (w : World) : Calls Try.prog 104 #[x.val] w (RN w (parts x)) := by
  obtain ⟨m, hm⟩ : ∃ m, decide (MayW x) = m := ⟨_, rfl⟩
  have HM := may_is x m hm
  unfold parts
  rw [hm]
  clear hm
  unfold W7.val at *
  go_enter Try.func104, Try.ntmps104
  go_wp2
  go_loopw [3, 8] (fun o i wr => ∃ (k n c : Nat) (A : Option Addr), k ≤ 3 ∧ i = .int .i64 k ∧ o = .slice A n c ∧ Hid (ON wr (w.heap.size + 1) (.slice A n c) (partsB x m k) ∧ Below (w.heap.size + 1) (bxW w x) wr)) (fun _ i _ => 3 - (intOf i).toNat)
  case atStart => exact ⟨0, 0, 0, none, by omega, rfl, rfl, Lib.hid ⟨by rw [show partsB x m 0 = [] from by cases m <;> rfl]; exact World.ownsRow_nil _ _ _ _, Below.refl _ _⟩⟩
  case round =>
    obtain ⟨k, n, c, A, hk, rfl, rfl, HO⟩ := hrel
    by_cases hlt : k < 3
    · have hi := idx3 x k hlt
      obtain ⟨y, hy⟩ : ∃ y, x.u k = y := ⟨_, rfl⟩
      rw [hy] at hi
      have HY := Lib.hid hy
      clear hy
      obtain ⟨ho, hb⟩ := HO.out
      obtain ⟨hc, _, hz⟩ := bxW_of hb
      obtain ⟨c0, c1, c2, c3, c4, c5, c6⟩ := hc
      have HB := Lib.hid hb
      have HN := Lib.hid ho
      clear ho hb HO
      by_cases hy0 : 0 < y
      · cases m
        · go_wp2_with (go_at_call 65; refine (HM _).mono ?_; rintro e w1 ⟨rfl, hb1⟩; have HB1 := Lib.hid hb1; clear hb1)
          go_roundw
          case rel => exact ⟨k + 1, n, c, A, by omega, by go_num, rfl, Lib.hid ⟨by rw [show partsB x false (k + 1) = partsB x false k from rfl]; exact own_below HN.out HB1.out (Nat.le_refl _), HB.out.trans (HB1.out.mono hz)⟩⟩
          case measure => simp [intOf]; omega
        · go_wp2_with (first | (go_at_call 65; refine (HM _).mono ?_; rintro e w1 ⟨rfl, hb1⟩; have HB1 := Lib.hid hb1; clear hb1) | (at_builtin; refine wpl_appS rfl (.tmp 18) (.tmp 20) 80 3 (.int .i64 0) 1 8 (by kernel_rfl) info_int rfl (by omega) rfl (w.heap.size + 1) _ _ _ rfl ((own_below HN.out HB1.out (Nat.le_refl _)).alloc _) _ _ 1 1 _ rfl (rd_new w1 #[.int .i64 (k : Int)] _ _ 1 1 rfl) (fun u hu => by simp at hu; subst hu; rfl) ?_ ?_ ?_ ?_))
          · have := partsB_len x true k; omega
          · omega
          · have := HB1.out.size; simp; omega
          intro v2 w2 h2 g2 _
          obtain ⟨A2, c2', rfl, _, _, _⟩ := own_form h2
          have HB2 := Lib.hid (((HB.out.trans (HB1.out.mono hz)).alloc (Nat.le_trans hz HB1.out.size) (.cells #[.int .i64 (k : Int)] 3)).grown g2 (by have := HB1.out.size; simp; omega) (own_base HN.out))
          have H2 := Lib.hid h2
          clear h2 g2
          go_wp2
          go_roundw
          case rel => exact ⟨k + 1, _, c2', A2, by omega, by go_num, rfl, Lib.hid ⟨by rw [partsB_add, if_pos (c := true = true ∧ 0 < x.u k) ⟨rfl, by rw [HY.out]; exact hy0⟩]; unfold ON; rw [NC_app]; simpa [NC] using H2.out, HB2.out⟩⟩
          case measure => simp [intOf]; omega
      · go_wp2_with (go_at_call 65; refine (HM _).mono ?_; rintro e w1 ⟨rfl, hb1⟩; have HB1 := Lib.hid hb1; clear hb1)
        all_goals
          go_roundw
          case rel => exact ⟨k + 1, n, c, A, by omega, by go_num, rfl, Lib.hid ⟨by rw [partsB_add, if_neg (by rw [HY.out]; rintro ⟨_, h⟩; omega), List.append_nil]; exact own_below HN.out HB1.out (Nat.le_refl _), HB.out.trans (HB1.out.mono hz)⟩⟩
          case measure => simp [intOf]; omega
    · obtain rfl : k = 3 := by omega
      obtain ⟨ho, hb⟩ := HO.out
      have HB := Lib.hid hb
      have HN := Lib.hid ho
      clear ho hb HO
      go_wp2
      go_ret
      exact ⟨_, rfl, own_mono HN.out (by omega), (bxW_of HB.out).2.1⟩
/-- A step: whom, what. -/
structure A6 where
  (node kind book units cust amount : Int)
def A6.cells (a : A6) : List Value := [.int .i64 a.node, .int .i64 a.kind, .int .i64 a.book, .int .i64 a.units, .int .i64 a.cust, .int .i64 a.amount]
def AC (l : List A6) : List Value := l.flatMap A6.cells
theorem AC_app (a b : List A6) : AC (a ++ b) = AC a ++ AC b := by simp [AC]
theorem AC_len (l : List A6) : (AC l).length = l.length * 6 := by
  induction l with
  | nil => rfl
  | cons a l ih => simp only [AC, List.flatMap_cons, List.length_append, List.length_cons] at *; rw [ih]; simp [A6.cells]; omega
theorem AC_one (l : List A6) : ∀ u ∈ AC l, u.oneCell' = true := by
  intro u hu
  simp only [AC, List.mem_flatMap] at hu
  obtain ⟨a, _, hu⟩ := hu
  simp [A6.cells] at hu
  rcases hu with rfl | rfl | rfl | rfl | rfl | rfl <;> rfl
theorem info_ask : (Try.prog.info? 30).map (fun i => (i.zero, i.size, i.bytes)) = some (some (.agg #[.int .i64 0, .int .i64 0, .int .i64 0, .int .i64 0, .int .i64 0, .int .i64 0]), 6, 48) := by kernel_rfl
/-- A row of steps of the call's own. -/
def OA (w : World) (base : Nat) (v : Value) (l : List A6) : Prop := w.ownsRow base 30 6 v l.length (AC l)
def RA (w : World) (l : List A6) (e : Ending) (w' : World) : Prop := ∃ v, e = .returned v ∧ OA w' w.heap.size v l ∧ Below w.heap.size w w'
theorem OA.rd {w : World} {base : Nat} {v : Value} {l : List A6} (h : OA w base v l) : ∃ A c, v = .slice A l.length c ∧ l.length ≤ c ∧ c ≤ maxLen ∧ Rd w w.heap.size 6 A l.length (AC l) := own_form h
theorem wpl_appA {w : World} {ops : Array Oper} {rest : List Oper} {o : Oper} {a : Act} {Q : Exit → Act → World → Prop} (hgd : o.guard = none) (s x : Operand)
    (ho : o.op = .call { callee := .builtin .append, args := #[s, x], argTypes := #[53, 53] })
    (base : Nat) (v : Value) (l : List A6) (hs : a.eval s = v) (hown : OA w base v l)
    (D : Nat) (A : Option Addr) (m c : Nat) (r : List A6) (hx : a.eval x = .slice A m c) (hr : Rd w D 6 A m (AC r))
    (hsum : l.length + m ≤ 1000000000000) (hbase : base ≤ w.heap.size)
    (h : ∀ v' w', OA w' base v' (l ++ r) → w.grownBy w' v.ownBlock → (v'.ownBlock = v.ownBlock ∨ v'.ownBlock = some w.heap.size) → wpList Try.prog ops Q rest (a.put o.dst v') w') : wpList Try.prog ops Q (o :: rest) a w := by
  have hm : r.length = m := by have := hr.1; rw [AC_len] at this; omega
  refine wpl_appS hgd s x 53 30 (.agg #[.int .i64 0, .int .i64 0, .int .i64 0, .int .i64 0, .int .i64 0, .int .i64 0]) 6 48 (by kernel_rfl) info_ask rfl (by omega) ho base v l.length (AC l) hs hown D A m c (AC r) hx hr (AC_one r) (by omega) (by omega) hbase fun v' w' h1 h2 h3 => h v' w' ?_ h2 h3
  unfold OA
  rw [List.length_append, hm, AC_app]
  exact h1
theorem rd_ask (w : World) (a : A6) (t : TypeId) (m : Nat × Nat) (H : Nat) (hH : w.heap.size = H) : Rd (w.alloc (.cells #[.int .i64 a.node, .int .i64 a.kind, .int .i64 a.book, .int .i64 a.units, .int .i64 a.cust, .int .i64 a.amount] t m)) (H + 1) 6 (some ⟨H, 0, none⟩) 1 (AC [a]) :=
  rd_newH w _ t m 1 6 H hH rfl
def eachA (K : Int) (x : W7) (i : Int) : A6 := ⟨i, K, x.b, if K = 1 then x.u i.toNat else 0, 0, 0⟩
theorem parts_mem (x : W7) (m : Bool) (k : Nat) : ∀ i ∈ partsB x m k, ∃ j : Nat, i = j ∧ j < k := by
  cases m
  · simp [partsB]
  · show ∀ i ∈ partsK x k, _
    induction k with
    | zero => simp [partsK]
    | succ k ih =>
      intro i hi
      simp only [partsK, List.mem_append] at hi
      rcases hi with hi | hi
      · obtain ⟨j, hj, hl⟩ := ih i hi; exact ⟨j, hj, by omega⟩
      · split at hi
        · simp at hi; exact ⟨k, hi, by omega⟩
        · cases hi
theorem NC_at (l : List Int) (k : Nat) (h : k < l.length) : (NC l)[k]? = some (.int .i64 (l[k]'h)) := by simp [NC, h]
theorem Rd.int {w : World} {D n : Nat} {A : Option Addr} {l : List Int} {k : Nat} (h : Rd w D 1 A n (NC l)) (hk : k < n) : ∃ ad, ∃ hl : k < l.length, A = some ad ∧ ad.block < D ∧ w.cell? (ad.add k) = some (.int .i64 (l[k]'hl)) := by
  obtain ⟨ad, u, e, hb, hx, hc⟩ := h.at1 hk
  have hl : k < l.length := by have := h.1; rw [NC_len] at this; omega
  rw [NC_at l k hl] at hx
  cases hx
  exact ⟨ad, hl, e, hb, hc⟩
theorem WC.at (w : World) (B : Nat) (x : W7) (h : WC w B x) (j : Nat) (hj : j < 3) : w.cell? ⟨B, 3 + j, none⟩ = some (.int .i64 (x.u j)) := by
  have : j = 0 ∨ j = 1 ∨ j = 2 := by omega
  rcases this with rfl | rfl | rfl
  · exact h.c3
  · exact h.c4
  · exact h.c5
def eachL (K : Int) (x : W7) (l : List Int) (k : Nat) : List A6 := (l.take k).map (eachA K x)
theorem eachL_len (K : Int) (x : W7) (l : List Int) (k : Nat) (h : k ≤ l.length) : (eachL K x l k).length = k := by unfold eachL; rw [List.length_map, List.length_take]; omega
theorem eachL_succ (K : Int) (x : W7) (l : List Int) (k : Nat) (h : k < l.length) : eachL K x l (k + 1) = eachL K x l k ++ [eachA K x l[k]] := by unfold eachL; rw [List.take_succ_eq_append_getElem h, List.map_append]; rfl
theorem eachL_all (K : Int) (x : W7) (l : List Int) : eachL K x l l.length = l.map (eachA K x) := by unfold eachL; rw [List.take_length]
set_option maxHeartbeats 4000000 in
theorem each_c (x : W7) (K : Int) (q : Nat) (w : World) (hq : w.cell? ⟨q, 0, none⟩ = some (.int .i64 K)) :
    Calls Try.prog 103 #[x.val, .pointer (some ⟨q, 0, none⟩)] w (RA w ((parts x).map (eachA K x))) := by
  have hqb : q < w.heap.size := cell_in hq
  obtain ⟨l, hl⟩ : ∃ l, parts x = l := ⟨_, rfl⟩
  have hmem : ∀ i ∈ l, ∃ j : Nat, i = j ∧ j < 3 := by rw [← hl]; exact parts_mem x _ 3
  have hlen : l.length ≤ 3 := by rw [← hl]; exact partsB_len x _ 3
  have HC := Lib.hid (parts_c x)
  rw [hl] at HC ⊢
  have HM := Lib.hid hmem
  clear hl hmem
  have HQ := Lib.hid hq
  clear hq
  unfold W7.val at *
  go_enter Try.func103, Try.ntmps103
  go_wp2_with (go_at_call 104; refine (HC.out _).mono ?_; rintro e w1 ⟨v1, rfl, h1, b1⟩; obtain ⟨A1, c1, rfl, hc1, hm1, r1⟩ := own_form h1; have R1 := Lib.hid r1; have B1 := Lib.hid b1; have Z1 := b1.size; clear h1 b1 r1)
  rw [show (w.alloc _).heap.size = w.heap.size + 1 from bxW_size w x] at Z1
  go_loopw [4, 11] (fun o i wr => ∃ (k c : Nat) (A : Option Addr), k ≤ l.length ∧ i = .int .i64 k ∧ o = .slice A k c ∧ Hid (OA wr w1.heap.size (.slice A k c) (eachL K x l k) ∧ Below w1.heap.size w1 wr)) (fun _ i _ => l.length - (intOf i).toNat)
  case atStart => exact ⟨0, 0, none, by omega, rfl, rfl, Lib.hid ⟨World.ownsRow_nil _ _ _ _, Below.refl _ _⟩⟩
  case round =>
    obtain ⟨k, c, A, hk, rfl, rfl, HO⟩ := hrel
    obtain ⟨ho, hb⟩ := HO.out
    by_cases hlt : k < l.length
    · obtain ⟨ad, _, rfl, _, hi⟩ := Rd.int (R1.out.below hb) hlt
      obtain ⟨j, hj, hj3⟩ := HM.out l[k] (List.getElem_mem _)
      have hwc := ((WC.new w x 24).below B1.out (by simp)).below hb (by omega)
      obtain ⟨c0, c1, c2, c3, c4, c5, c6⟩ := hwc
      have cq : wr.cell? ⟨q, 0, none⟩ = some (.int .i64 K) := bcell hb (bcell B1.out (bcell (bxW_below w x) HQ.out hqb) (by simp; omega)) (by omega)
      have hz := hb.size
      have hq2 : q < wr.heap.size := by omega
      have nb : w.heap.size < wr.heap.size := by omega
      have HB := Lib.hid hb
      have HN := Lib.hid ho
      have HT := Lib.hid (eachL_succ K x l k hlt)
      rw [hj] at hi
      have HJ := Lib.hid hj
      clear ho hb hj
      have hlk : (eachL K x l k).length = k := eachL_len K x l k hk
      have HLK := Lib.hid hlk
      clear hlk
      have h48 : k * 48 ≤ 144 := by omega
      by_cases hK : K = 1
      · subst hK
        have : j = 0 ∨ j = 1 ∨ j = 2 := by omega
        rcases this with rfl | rfl | rfl
        all_goals
          go_wp2_with (at_builtin; refine wpl_appA rfl (.tmp 26) (.tmp 30) rfl w1.heap.size _ _ rfl ((HN.out.alloc _).alloc _) _ _ 1 1 [⟨_, _, _, _, _, _⟩] rfl (rd_ask _ ⟨_, _, _, _, _, _⟩ _ _ (wr.heap.size + 1) (by simp)) ?_ ?_ ?_)
          · rw [HLK.out]; omega
          · simp; omega
          intro v2 w2 h2 g2 _
          obtain ⟨A2, c2', hv2, _, _, _⟩ := h2.rd
          rw [List.length_append, HLK.out] at hv2
          subst hv2
          have HB2 := Lib.hid (((HB.out.alloc hz _).alloc (by simp; omega) _).grown g2 (by simp; omega) (own_base HN.out))
          have H2 := Lib.hid h2
          clear h2 g2
          go_wp2
          go_roundw
          case rel => exact ⟨k + 1, c2', A2, by omega, by go_num, rfl, Lib.hid ⟨by rw [HT.out, HJ.out]; exact H2.out, HB2.out⟩⟩
          case measure => simp [intOf]; omega
      · have hKb : (K == 1) = false := beq_eq_false_iff_ne.2 hK
        have he : ∀ i, eachA K x i = ⟨i, K, x.b, 0, 0, 0⟩ := fun i => by unfold eachA; rw [if_neg hK]
        have HE := Lib.hid (he (j : Int))
        clear he
        go_wp2_with (at_builtin; refine wpl_appA rfl (.tmp 26) (.tmp 30) rfl w1.heap.size _ _ rfl ((HN.out.alloc _).alloc _) _ _ 1 1 [⟨_, _, _, _, _, _⟩] rfl (rd_ask _ ⟨_, _, _, _, _, _⟩ _ _ (wr.heap.size + 1) (by simp)) ?_ ?_ ?_)
        · rw [HLK.out]; omega
        · simp; omega
        intro v2 w2 h2 g2 _
        obtain ⟨A2, c2', hv2, _, _, _⟩ := h2.rd
        rw [List.length_append, HLK.out] at hv2
        subst hv2
        have HB2 := Lib.hid (((HB.out.alloc hz _).alloc (by simp; omega) _).grown g2 (by simp; omega) (own_base HN.out))
        have H2 := Lib.hid h2
        clear h2 g2
        go_wp2
        go_roundw
        case rel => exact ⟨k + 1, c2', A2, by omega, by go_num, rfl, Lib.hid ⟨by rw [HT.out, HJ.out, HE.out]; exact H2.out, HB2.out⟩⟩
        case measure => simp [intOf]; omega
    · obtain rfl : k = l.length := by omega
      have HB := Lib.hid hb
      have HN := Lib.hid ho
      clear ho hb HO
      go_wp2
      go_ret
      exact ⟨_, rfl, own_mono (by have := HN.out; rw [eachL_all] at this; exact this) (by omega), (bxW_below w x).trans ((B1.out.trans (HB.out.mono (by simpa using Z1))).mono (by simp [bxW]))⟩
end Go.Proofs.Ytplgodfhhlnojaa
