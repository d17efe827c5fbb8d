/- All records of bytes: frame.One at every place, and frame.Read. -/
import Derived.Test.YtkbkbgnnamckoaaOne
set_option linter.unusedSimpArgs false
set_option linter.unusedVariables false
namespace Go.Proofs.Ytkbkbgnnamckoaa
open Go.RowKit
/-- The record that stands at a place, if there is one. -/
def recAt (b : List UInt8) (k : Nat) : Option (List UInt8) :=
  if k + 6 ≤ b.length ∧ 1 ≤ nAt b k ∧ nAt b k ≤ 1000 ∧ k + 6 + nAt b k ≤ b.length ∧ crc (xAt b k) = cAt b k then some (xAt b k) else none
theorem recAt_len {b : List UInt8} {k : Nat} {x : List UInt8} (h : recAt b k = some x) : x.length = nAt b k ∧ k + 6 + x.length ≤ b.length ∧ 1 ≤ x.length := by
  unfold recAt at h
  split at h
  · rename_i hc
    obtain ⟨h1, h2, h3, h4, _⟩ := hc
    cases h
    have : (xAt b k).length = nAt b k := by unfold xAt; rw [List.length_take, List.length_drop]; omega
    omega
  · cases h
def OneRet (w : World) (b : List UInt8) (k : Nat) (e : Ending) (w' : World) : Prop :=
  match recAt b k with
  | some x => RB w x ((k + 6 + x.length : Nat) : Int) e w'
  | none => NoRec w e w'
theorem one_any (A : Option Addr) (n c : Nat) (k : Nat) (l : List UInt8) (w : World) (hr : Rd w w.heap.size 1 A n (B8 l)) (hn : n ≤ 140737488351232) (hc : n ≤ c) (hk : k ≤ 4611686018427387904) :
    Calls Try.prog 19 #[.slice A n c, .int .i64 k] w (OneRet w l k) := by
  have hlen : l.length = n := by have := hr.1; rw [B8_len] at this; omega
  by_cases h6 : k + 6 ≤ n
  · by_cases hm : nAt l k < 1 ∨ 1000 < nAt l k ∨ n < k + 6 + nAt l k
    · have hno : recAt l k = none := by unfold recAt; rw [if_neg]; omega
      refine (one_bad A n c k l w hr hn hc h6 hm).mono fun e w' h => ?_
      unfold OneRet; rw [hno]; exact h
    · have h2 := one_sum A n c k l w hr hn hc h6 (by omega) (by omega) (by omega)
      by_cases hs : crc (xAt l k) = cAt l k
      · have hyes : recAt l k = some (xAt l k) := by unfold recAt; rw [if_pos]; refine ⟨?_, ?_, ?_, ?_, hs⟩ <;> omega
        refine (h2.1 hs).mono fun e w' h => ?_
        unfold OneRet; rw [hyes]
        rw [← (recAt_len hyes).1] at h
        exact h
      · have hno : recAt l k = none := by unfold recAt; rw [if_neg]; exact fun h => hs h.2.2.2.2
        refine (h2.2 hs).mono fun e w' h => ?_
        unfold OneRet; rw [hno]; exact h
  · have hno : recAt l k = none := by unfold recAt; rw [if_neg]; omega
    refine (one_out A n c k w (by omega) (by omega) (by omega) (by omega)).mono fun e w' ⟨he, hw⟩ => ?_
    unfold OneRet; rw [hno]
    exact ⟨he, 0, hw ▸ rfl⟩
/-- What the reading holds while it goes on. -/
def RS (w : World) (B : Nat) (A : Option Addr) (n c : Nat) (l : List UInt8) (k : Nat) (ls : List (List UInt8)) : Prop :=
  ∃ v, w.heap[B]? = some (.cells #[.slice A n c] 28 (0, 0)) ∧ w.heap[B + 1]? = some (.cells #[v] 32 (0, 0)) ∧ w.heap[B + 2]? = some (.cells #[.int .i64 k] 3 (0, 0)) ∧ OBs w (B + 3) v ls ∧ Rd w B 1 A n (B8 l)
def NextYes (w : World) (B : Nat) (A : Option Addr) (n c : Nat) (l : List UInt8) (k : Nat) (ls : List (List UInt8)) (e : Ending) (w' : World) : Prop := e = .returned (.bool true) ∧ RS w' B A n c l k ls ∧ Below B w w'
def NextNo (w : World) (B : Nat) (A : Option Addr) (n c : Nat) (l : List UInt8) (k : Nat) (ls : List (List UInt8)) (e : Ending) (w' : World) : Prop := e = .returned (.bool false) ∧ RS w' B A n c l k ls ∧ Below B w w'
theorem cell_of {w : World} {g : Nat} {v : Value} {t : TypeId} (h : w.heap[g]? = some (.cells #[v] t (0, 0))) : w.cell? ⟨g, 0, none⟩ = some v := cell_of_row w g 0 #[v] t (0, 0) h
theorem free_of {w : World} {g i : Nat} {cs : Array Value} {t : TypeId} (h : w.heap[g]? = some (.cells cs t (0, 0))) : w.frozen? ⟨g, i, none⟩ = false := by simp [World.frozen?, h]
theorem heap_lt {w : World} {g : Nat} {o : Obj} (h : w.heap[g]? = some o) : g < w.heap.size := by
  rcases Nat.lt_or_ge g w.heap.size with hlt | hge
  · exact hlt
  · rw [Array.getElem?_eq_none hge] at h; cases h
set_option maxHeartbeats 1000000 in
theorem next_no (A : Option Addr) (n c : Nat) (k : Nat) (l : List UInt8) (w : World) (B : Nat) (ls : List (List UInt8)) (h : RS w B A n c l k ls) (hn : n ≤ 140737488351232) (hc : n ≤ c) (hk : k ≤ n) (hno : recAt l k = none) :
    Calls Try.prog 24 #[.pointer (some ⟨B, 0, none⟩), .pointer (some ⟨B + 2, 0, none⟩), .pointer (some ⟨B + 1, 0, none⟩)] w (NextNo w B A n c l k ls) := by
  have H := Lib.hid h
  obtain ⟨v, h0, h1, h2, hv, hr⟩ := h
  have hB := heap_lt h2
  have c0 := cell_of h0
  have c2 := cell_of h2
  have HR := Lib.hid (hr.more (D' := w.heap.size) (by omega))
  have HNO := Lib.hid hno
  clear h0 h1 h2 hv hr hno
  go_enter Try.func24, Try.ntmps24
  go_wp2_with (go_at_call 19; refine (one_any A n c k l _ HR.out hn hc (by omega)).mono ?_; rintro e w' hq; unfold OneRet at hq; rw [HNO.out] at hq; obtain ⟨rfl, q, rfl⟩ := hq)
  go_ret
  refine ⟨rfl, ?_, below_drewN (Below.refl _ _) _⟩
  obtain ⟨v, h0, h1, h2, ⟨vs, hv, hvs⟩, hr⟩ := H.out
  exact ⟨v, h0, h1, h2, ⟨vs, hv, hvs⟩, hr.drewN _⟩
theorem rd_of_new (w : World) (u : Value) (t : TypeId) : Rd (w.alloc (.cells #[u] t)) (w.heap.size + 1) 1 (some ⟨w.heap.size, 0, none⟩) 1 [u] :=
  ⟨rfl, fun _ => ⟨_, rfl, Nat.lt_succ_self _, cell_one_new w u t⟩⟩
/-- Storing into a block of one cell. -/
theorem set_same {w : World} {g : Nat} {v u : Value} {t : TypeId} (h : w.heap[g]? = some (.cells #[v] t (0, 0))) : (w.setCell ⟨g, 0, none⟩ u).heap[g]? = some (.cells #[u] t (0, 0)) := by
  simp [World.setCell, Array.getElem?_modify, h]
theorem set_other {w : World} {g g' : Nat} {u : Value} (h : g ≠ g') : (w.setCell ⟨g', 0, none⟩ u).heap[g]? = w.heap[g]? := Below.heap_setCell w ⟨g', 0, none⟩ u g h
theorem own_set {w : World} {base g : Nat} {e : TypeId} {size n : Nat} {v : Value} {xs : List Value} (h : w.ownsRow base e size v n xs) (hg : g < base) (u : Value) : (w.setCell ⟨g, 0, none⟩ u).ownsRow base e size v n xs := ownsRow_setCell_below h hg u
theorem OBs.snoc {w w' : World} {base : Nat} {v v' u : Value} {vs : List Value} {ls : List (List UInt8)} {x : List UInt8} (h1 : w.ownsRow base 28 1 v ls.length vs) (h2 : ∀ (i : Nat) (l : List UInt8), ls[i]? = some l → ∃ u, vs[i]? = some u ∧ OB w base u l) (hu : OB w base u x) (hv : w'.ownsRow base 28 1 v' (ls.length + 1) (vs ++ [u])) (hg : w.grownBy w' v.ownBlock) : OBs w' base v' (ls ++ [x]) := by
  have hlen : vs.length = ls.length := by simpa using h1.1
  refine ⟨vs ++ [u], by rw [List.length_append]; exact hv, fun i l hi => ?_⟩
  rcases Nat.lt_trichotomy i ls.length with hlt | heq | hgt
  · rw [List.getElem?_append_left hlt] at hi
    obtain ⟨u', e1, e2⟩ := h2 i l hi
    exact ⟨u', by rw [List.getElem?_append_left (by omega)]; exact e1, e2.kept hg (own_ne e2 h1 (by decide))⟩
  · subst heq
    rw [List.getElem?_append_right (Nat.le_refl _)] at hi
    simp at hi
    subst hi
    exact ⟨u, by rw [List.getElem?_append_right (by omega)]; simp [hlen], hu.kept hg (own_ne hu h1 (by decide))⟩
  · rw [List.getElem?_eq_none (by rw [List.length_append]; simp; omega)] at hi
    cases hi
theorem OBs.set {w : World} {base g : Nat} {v : Value} {ls : List (List UInt8)} (h : OBs w base v ls) (hg : g < base) (u : Value) : OBs (w.setCell ⟨g, 0, none⟩ u) base v ls := by
  obtain ⟨vs, h1, h2⟩ := h
  refine ⟨vs, own_set h1 hg u, fun i l hi => ?_⟩
  obtain ⟨u', e1, e2⟩ := h2 i l hi
  exact ⟨u', e1, own_set e2 hg u⟩
theorem OBs.below {w w' : World} {base D : Nat} {v : Value} {ls : List (List UInt8)} (h : OBs w base v ls) (hb : Below D w w') (hd : w.heap.size ≤ D) : OBs w' base v ls := by
  obtain ⟨vs, h1, h2⟩ := h
  refine ⟨vs, h1.kept (row := none) ⟨hb.os, hb.tape, hb.output, hb.size, fun k hk _ => hb.block k (by omega)⟩ (by cases v.ownBlock <;> simp), fun i l hi => ?_⟩
  obtain ⟨u', e1, e2⟩ := h2 i l hi
  exact ⟨u', e1, e2.below hb hd⟩
theorem OBs.mono {w : World} {base base' : Nat} {v : Value} {ls : List (List UInt8)} (h : OBs w base v ls) (hb : base' ≤ base) : OBs w base' v ls := by
  obtain ⟨vs, ⟨h1, hform⟩, h2⟩ := h
  refine ⟨vs, ⟨h1, ?_⟩, fun i l hi => let ⟨u, q1, q2⟩ := h2 i l hi; ⟨u, q1, q2.mono hb⟩⟩
  rcases hform with hq | ⟨g, cap, cur, e, hg, r⟩
  · exact .inl hq
  · exact .inr ⟨g, cap, cur, e, by omega, r⟩
theorem OBs.lt {w : World} {base : Nat} {v : Value} {ls : List (List UInt8)} (h : OBs w base v ls) (j : Nat) (hj : v.ownBlock = some j) : base ≤ j := by
  obtain ⟨vs, h1, _⟩ := h
  exact (h1.lt j hj).1
theorem OBs.alloc {w : World} {base : Nat} {v : Value} {ls : List (List UInt8)} (h : OBs w base v ls) (o : Obj) : OBs (w.alloc o) base v ls := by
  obtain ⟨vs, h1, h2⟩ := h
  refine ⟨vs, h1.alloc o, fun i l hi => ?_⟩
  obtain ⟨u', e1, e2⟩ := h2 i l hi
  exact ⟨u', e1, e2.alloc o⟩
set_option maxHeartbeats 1000000 in
theorem next_yes (A : Option Addr) (n c : Nat) (k : Nat) (l x : List UInt8) (w : World) (B : Nat) (ls : List (List UInt8)) (h : RS w B A n c l k ls) (hn : n ≤ 140737488351232) (hc : n ≤ c) (hk : k ≤ n) (hls : ls.length ≤ n) (hyes : recAt l k = some x) (hn2 : n ≤ 1000000000000) :
    Calls Try.prog 24 #[.pointer (some ⟨B, 0, none⟩), .pointer (some ⟨B + 2, 0, none⟩), .pointer (some ⟨B + 1, 0, none⟩)] w (NextYes w B A n c l (k + 6 + x.length) (ls ++ [x])) := by
  have H := Lib.hid h
  obtain ⟨v, h0, h1, h2, hv, hr⟩ := h
  have hB := heap_lt h2
  have c0 := cell_of h0
  have c1 := cell_of h1
  have c2 := cell_of h2
  have f1 := free_of (i := 0) h1
  have f2 := free_of (i := 0) h2
  have HR := Lib.hid (hr.more (D' := w.heap.size) (by omega))
  have HY := Lib.hid hyes
  have HO := Lib.hid hv
  have hxl := (recAt_len hyes).2.1
  have hlen : l.length = n := by have := hr.1; rw [B8_len] at this; omega
  have hend : k + 6 + x.length ≤ n := by omega
  obtain ⟨Av, cv, rfl⟩ : ∃ Av cv, v = .slice Av ls.length cv := by
    obtain ⟨vs, hvs, _⟩ := hv
    rcases hvs.2 with ⟨rfl, h0⟩ | ⟨g, cap, cur, rfl, _⟩
    · exact ⟨none, 0, by rw [h0]⟩
    · exact ⟨_, _, rfl⟩
  have H1 := Lib.hid h1
  have H2 := Lib.hid h2
  have H0 := Lib.hid h0
  have HR0 := Lib.hid hr
  clear h0 h1 h2 hv hr hyes hxl hlen
  go_enter Try.func24, Try.ntmps24
  go_wp2_with (first | (go_at_call 19; refine (one_any A n c k l _ HR.out hn hc (by omega)).mono ?_; rintro e w1 hq; unfold OneRet at hq; rw [HY.out] at hq; obtain ⟨u, rfl, hu, hb⟩ := hq; obtain ⟨Au, cu, rfl, _, _, _⟩ := hu.form; have d0 := (hb.cell (p := ⟨B, 0, none⟩) (show B < w.heap.size by omega)).trans c0; have d1 := (hb.cell (p := ⟨B + 1, 0, none⟩) (show B + 1 < w.heap.size by omega)).trans c1; have d2 := (hb.cell (p := ⟨B + 2, 0, none⟩) (show B + 2 < w.heap.size by omega)).trans c2; have g1 := (hb.frozen (p := ⟨B + 1, 0, none⟩) (show B + 1 < w.heap.size by omega)).trans f1; have g2 := (hb.frozen (p := ⟨B + 2, 0, none⟩) (show B + 2 < w.heap.size by omega)).trans f2; have hz := hb.size; have HU := Lib.hid hu; have HB := Lib.hid hb; clear hu hb) | (at_builtin; obtain ⟨vs, hvs, hel⟩ := HO.out.below HB.out (Nat.le_refl _); refine wpl_app1 rfl (.tmp 14) (.tmp 16) 32 28 (.slice none 0 0) 24 Try.underlying32 info_sl rfl rfl (B + 3) _ ls.length vs rfl (hvs.alloc _) _ _ 1 1 [_] rfl (rd_of_new w1 _ _) (fun u hu => by simp at hu; subst hu; rfl) ?_ ?_ ?_ ?_))
  · omega
  · omega
  · simp; omega
  · intro v2 w2 hown hg hat
    have hb2 : Below (B + 3) w1 w2 := ((Below.refl _ _).alloc (by omega) _).grown hg (by simp; omega) (fun j hj => ((HO.out.below HB.out (Nat.le_refl _)).lt j hj))
    have e1 := (hb2.cell (p := ⟨B + 1, 0, none⟩) (show B + 1 < B + 3 by omega)).trans d1
    have e2 := (hb2.cell (p := ⟨B + 2, 0, none⟩) (show B + 2 < B + 3 by omega)).trans d2
    have j1 := (hb2.frozen (p := ⟨B + 1, 0, none⟩) (show B + 1 < B + 3 by omega)).trans g1
    have j2 := (hb2.frozen (p := ⟨B + 2, 0, none⟩) (show B + 2 < B + 3 by omega)).trans g2
    have K0 := Lib.hid ((hb2.block B (by omega)).trans ((HB.out.block B (by omega)).trans H0.out))
    have K1 := Lib.hid ((hb2.block (B + 1) (by omega)).trans ((HB.out.block (B + 1) (by omega)).trans H1.out))
    have K2 := Lib.hid ((hb2.block (B + 2) (by omega)).trans ((HB.out.block (B + 2) (by omega)).trans H2.out))
    have HO2 := Lib.hid (OBs.snoc (hvs.alloc _) (fun i l' hi => let ⟨u', q1, q2⟩ := hel i l' hi; ⟨u', q1, q2.alloc _⟩) ((HU.out.mono (by omega)).alloc _) hown hg)
    have HB2 := Lib.hid hb2
    obtain ⟨A2, c2', rfl⟩ : ∃ A2 c2', v2 = .slice A2 (ls.length + 1) c2' := by
      rcases hown.2 with ⟨rfl, h0⟩ | ⟨g, cap, cur, rfl, _⟩
      · omega
      · exact ⟨_, _, rfl⟩
    clear d0 d1 d2 g1 g2 hown hg hat hb2 hel hvs c0 c1 c2 f1 f2
    go_wp2
    go_ret
    have hbs : Below (B + 3) w w2 := (HB.out.mono (by omega)).trans HB2.out
    refine ⟨rfl, ⟨_, ?_, ?_, ?_, (HO2.out.set (by omega) _).set (by omega) _, ?_⟩, ?_⟩
    · rw [set_other (by omega), set_other (by omega)]; exact K0.out
    · rw [set_other (by omega)]; exact set_same K1.out
    · have := set_same (u := .int .i64 ((k : Int) + 6 + (x.length : Int))) (show (w2.setCell ⟨B + 1, 0, none⟩ (.slice A2 (ls.length + 1) c2')).heap[B + 2]? = _ from (set_other (by omega)).trans K2.out)
      rw [this, show ((k : Int) + 6 + (x.length : Int)) = ((k + 6 + x.length : Nat) : Int) from by omega]
    · exact ((HR0.out.below (hbs.mono (by omega))).setCell (p := ⟨B + 1, 0, none⟩) (by simp) _).setCell (p := ⟨B + 2, 0, none⟩) (by simp) _
    · exact ((hbs.mono (by omega)).setCell (p := ⟨B + 1, 0, none⟩) (by simp) _).setCell (p := ⟨B + 2, 0, none⟩) (by simp) _
/-- The records from a place on, and where they end. -/
def recsFrom (b : List UInt8) : Nat → Nat → List (List UInt8) × Nat
  | 0, k => ([], k)
  | f + 1, k => match recAt b k with
    | some x => ((x :: (recsFrom b f (k + 6 + x.length)).1), (recsFrom b f (k + 6 + x.length)).2)
    | none => ([], k)
def recs (b : List UInt8) : List (List UInt8) × Nat := recsFrom b (b.length + 1) 0
theorem recsFrom_no (b : List UInt8) (f k : Nat) (h : recAt b k = none) : recsFrom b f k = ([], k) := by
  cases f with
  | zero => rfl
  | succ f => simp only [recsFrom, h]
theorem recsFrom_yes (b : List UInt8) (f k : Nat) (x : List UInt8) (h : recAt b k = some x) : recsFrom b (f + 1) k = (x :: (recsFrom b f (k + 6 + x.length)).1, (recsFrom b f (k + 6 + x.length)).2) := by
  simp only [recsFrom, h]
/-- How frame.Read ends. -/
def ReadRet (w : World) (b : List UInt8) (e : Ending) (w' : World) : Prop := ∃ v, e = .returned (.tuple #[v, .int .i64 ((recs b).2 : Nat)]) ∧ OBs w' w.heap.size v (recs b).1 ∧ Below w.heap.size w w'
set_option maxHeartbeats 1000000 in
theorem read_any (A : Option Addr) (n c : Nat) (l : List UInt8) (w : World) (hr : Rd w w.heap.size 1 A n (B8 l)) (hn : n ≤ 1000000000000) (hc : n ≤ c) :
    Calls Try.prog 17 #[.slice A n c] w (ReadRet w l) := by
  have hlen : l.length = n := by have := hr.1; rw [B8_len] at this; omega
  have HL := Lib.hid hlen
  have HR := Lib.hid hr
  clear hr hlen
  have hmf : ∀ (fn : Fn) (first cap : Array Value) (w : World), (Instr.makeFunc fn first cap).run Try.prog w = .ok (.func fn first cap) w := fun _ _ _ _ => rfl
  go_enter Try.func17, Try.ntmps17
  go_wp2_with fail
  have hst : RS (((w.alloc (.cells #[.slice A n c] 28)).alloc (.cells #[.slice none 0 0] 32)).alloc (.cells #[.int .i64 0] 3)) w.heap.size A n c l 0 [] := by
    refine ⟨_, ?_, ?_, ?_, OBs.nil _ _, ?_⟩
    · rw [Below.heap_alloc _ _ _ (by simp; omega), Below.heap_alloc _ _ _ (by simp)]; exact heap_alloc_new w _
    · rw [Below.heap_alloc _ _ _ (by simp)]
      have := heap_alloc_new (w.alloc (.cells #[.slice A n c] 28)) (.cells #[.slice none 0 0] 32)
      simpa using this
    · have := heap_alloc_new ((w.alloc (.cells #[.slice A n c] 28)).alloc (.cells #[.slice none 0 0] 32)) (.cells #[.int .i64 0] 3)
      simpa using this
    · exact ((HR.out.alloc (Nat.le_refl _) _).alloc (by simp) _).alloc (by simp; omega) _
  have hbl : Below w.heap.size w (((w.alloc (.cells #[.slice A n c] 28)).alloc (.cells #[.slice none 0 0] 32)).alloc (.cells #[.int .i64 0] 3)) := (((Below.refl _ _).alloc (Nat.le_refl _) _).alloc (by simp) _).alloc (by simp; omega) _
  have HST := Lib.hid hst
  have HBL := Lib.hid hbl
  clear hst hbl
  go_loopg [] (l.length + 1) (fun f w' => ∃ (k : Nat) (ls : List (List UInt8)), Hid (k ≤ n) ∧ Hid (RS w' w.heap.size A n c l k ls) ∧ Hid (recs l = (ls ++ (recsFrom l f k).1, (recsFrom l f k).2)) ∧ Hid (n < f + k) ∧ Hid (ls.length ≤ k) ∧ Hid (Below w.heap.size w w'))
  case atStart => exact ⟨0, [], Nat.zero_le _, HST.out, rfl, by show n < l.length + 1 + 0; have := HL.out; omega, Nat.le_refl _, HBL.out⟩
  case round =>
    clear HST HBL
    obtain ⟨k, ls, h1, h2, h3, h4, h5, h6⟩ := hrel
    cases hrec : recAt l k with
    | none =>
      have HREC := Lib.hid hrec
      clear hrec
      go_wp2_with (go_at_call 24; refine (next_no A n c k l wr w.heap.size ls h2.out (by omega) hc h1.out HREC.out).mono ?_; rintro e w' ⟨rfl, hrs, hbw⟩; have HRS := Lib.hid hrs; have HBW := Lib.hid (h6.out.trans hbw); obtain ⟨v, q0, q1, q2, hv, _⟩ := hrs; have c1 := cell_of q1; have c2 := cell_of q2; have HV := Lib.hid hv; clear q0 q1 q2 hv hbw)
      go_quiet (fail)
      go_wp2
      go_ret2
      have e3 : recs l = (ls, k) := by rw [h3.out, recsFrom_no l gk k HREC.out]; simp
      refine ⟨v, ret_pair (v := v) (show (k : Int) = _ from by rw [e3]), ?_, below_drewN HBW.out _⟩
      · rw [e3]; exact (OBs.mono HV.out (by omega)).below (below_drewN (Below.refl _ _) _) (Nat.le_refl _)
    | some x =>
      have hx := recAt_len hrec
      have HX := Lib.hid hx
      obtain ⟨g, rfl⟩ : ∃ g, gk = g + 1 := ⟨gk - 1, by have := h4.out; have := h1.out; have := HL.out; omega⟩
      have HREC := Lib.hid hrec
      clear hrec hx
      go_wp2_with (go_at_call 24; refine (next_yes A n c k l x wr w.heap.size ls h2.out (by omega) hc h1.out (Nat.le_trans h5.out h1.out) HREC.out hn).mono ?_; rintro e w' ⟨rfl, hrs, hbw⟩; have HRS := Lib.hid hrs; have HBW := Lib.hid (h6.out.trans hbw); clear hrs hbw)
      go_roundg g
      case measure => omega
      case rel =>
        refine ⟨k + 6 + x.length, ls ++ [x], ?_, HRS.out, ?_, ?_, ?_, HBW.out⟩
        · have := HX.out; have := HL.out; show _ ≤ _; omega
        · show _ = _; rw [h3.out, recsFrom_yes l g k x HREC.out]; simp
        · have := h4.out; have := HX.out; show _ < _; omega
        · have := h5.out; have := HX.out; show _ ≤ _; simp; omega
end Go.Proofs.Ytkbkbgnnamckoaa
