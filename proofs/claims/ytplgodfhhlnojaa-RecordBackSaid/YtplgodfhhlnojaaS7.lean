/- St11, SgPure, merged. -/
import Derived.Test.YtplgodfhhlnojaaB4
import Derived.Test.YtplgodfhhlnojaaSagaT
set_option linter.unusedSimpArgs false
set_option linter.unusedVariables false
/- Eleven cells of a block stored to, one behind another. -/
namespace Go.Proofs.Ytplgodfhhlnojaa
open Go.RowKit
def st11 (w : World) (g : Nat) (v0 v1 v2 v3 v4 v5 v6 v7 v8 v9 v10 : Value) : World := (((((((((((w.setCell ⟨g, 0, none⟩ v0).setCell ⟨g, 1, none⟩ v1).setCell ⟨g, 2, none⟩ v2).setCell ⟨g, 3, none⟩ v3).setCell ⟨g, 4, none⟩ v4).setCell ⟨g, 5, none⟩ v5).setCell ⟨g, 6, none⟩ v6).setCell ⟨g, 7, none⟩ v7).setCell ⟨g, 8, none⟩ v8).setCell ⟨g, 9, none⟩ v9).setCell ⟨g, 10, none⟩ v10)
theorem arr11 (c0 c1 c2 c3 c4 c5 c6 c7 c8 c9 c10 v0 v1 v2 v3 v4 v5 v6 v7 v8 v9 v10 : Value) : (((((((((((#[c0, c1, c2, c3, c4, c5, c6, c7, c8, c9, c10].setIfInBounds 0 v0).setIfInBounds 1 v1).setIfInBounds 2 v2).setIfInBounds 3 v3).setIfInBounds 4 v4).setIfInBounds 5 v5).setIfInBounds 6 v6).setIfInBounds 7 v7).setIfInBounds 8 v8).setIfInBounds 9 v9).setIfInBounds 10 v10) = #[v0, v1, v2, v3, v4, v5, v6, v7, v8, v9, v10] := by
  simp only [List.setIfInBounds_toArray, List.set_cons_zero, List.set_cons_succ]
section
variable {w a : World} {g D : Nat} {c0 c1 c2 c3 c4 c5 c6 c7 c8 c9 c10 v0 v1 v2 v3 v4 v5 v6 v7 v8 v9 v10 : Value} {t : TypeId} {m : Nat × Nat}
theorem st11_at (h : w.heap[g]? = some (.cells #[c0, c1, c2, c3, c4, c5, c6, c7, c8, c9, c10] t m)) : (st11 w g v0 v1 v2 v3 v4 v5 v6 v7 v8 v9 v10).heap[g]? = some (.cells #[v0, v1, v2, v3, v4, v5, v6, v7, v8, v9, v10] t m) := by
  have h0 := setB (i := 0) (v := v0) h
  have h1 := setB (i := 1) (v := v1) h0
  have h2 := setB (i := 2) (v := v2) h1
  have h3 := setB (i := 3) (v := v3) h2
  have h4 := setB (i := 4) (v := v4) h3
  have h5 := setB (i := 5) (v := v5) h4
  have h6 := setB (i := 6) (v := v6) h5
  have h7 := setB (i := 7) (v := v7) h6
  have h8 := setB (i := 8) (v := v8) h7
  have h9 := setB (i := 9) (v := v9) h8
  have h10 := setB (i := 10) (v := v10) h9
  rw [arr11] at h10
  unfold st11
  exact h10
theorem st11_ne {b : Nat} (hb : g ≠ b) : (st11 w g v0 v1 v2 v3 v4 v5 v6 v7 v8 v9 v10).heap[b]? = w.heap[b]? := by
  unfold st11
  refine (setO hb).trans ?_
  refine (setO hb).trans ?_
  refine (setO hb).trans ?_
  refine (setO hb).trans ?_
  refine (setO hb).trans ?_
  refine (setO hb).trans ?_
  refine (setO hb).trans ?_
  refine (setO hb).trans ?_
  refine (setO hb).trans ?_
  refine (setO hb).trans ?_
  refine (setO hb).trans ?_
  rfl
theorem st11_below (h : Below D a w) (hg : D ≤ g) : Below D a (st11 w g v0 v1 v2 v3 v4 v5 v6 v7 v8 v9 v10) := by
  have h0 := belowS (i := 0) (u := v0) h hg
  have h1 := belowS (i := 1) (u := v1) h0 hg
  have h2 := belowS (i := 2) (u := v2) h1 hg
  have h3 := belowS (i := 3) (u := v3) h2 hg
  have h4 := belowS (i := 4) (u := v4) h3 hg
  have h5 := belowS (i := 5) (u := v5) h4 hg
  have h6 := belowS (i := 6) (u := v6) h5 hg
  have h7 := belowS (i := 7) (u := v7) h6 hg
  have h8 := belowS (i := 8) (u := v8) h7 hg
  have h9 := belowS (i := 9) (u := v9) h8 hg
  have h10 := belowS (i := 10) (u := v10) h9 hg
  exact h10
theorem st11_size : (st11 w g v0 v1 v2 v3 v4 v5 v6 v7 v8 v9 v10).heap.size = w.heap.size := by simp [st11, World.setCell]
end
end Go.Proofs.Ytplgodfhhlnojaa

/- Sagas that go on: plain laws. -/
namespace Go.Proofs.Ytplgodfhhlnojaa
open Go.RowKit
theorem next_at (s : S11) (k : Nat) (a : A6) (hst : s.st = k) (hm : MayS s) (ha : (stepsL s)[k]? = some a) : nextS s = (a, true) := by
  have hk : k < (stepsL s).length := (List.getElem?_eq_some_iff.1 ha).1
  rw [nextS, if_pos ⟨hm, by omega⟩, hst, show ((k : Int)).toNat = k from rfl, ha]
  rfl
theorem ans_done (s : S11) (a : A6) (hn : nextS s = (a, true)) (hlt : s.st + 1 < (stepsL s).length) : ansS s a 1 = (⟨s.w, s.ph, s.st + 1, s.re, s.si⟩, true) := by
  rw [ansS, if_neg (by rw [hn]; simp), if_neg (by omega), if_neg (by omega), if_neg (by omega), if_pos hlt]
theorem ans_last (s : S11) (a : A6) (hn : nextS s = (a, true)) (hge : ¬ s.st + 1 < (stepsL s).length) : ansS s a 1 = (⟨s.w, if s.ph = 1 then 2 else if s.ph = 2 then 4 else 5, 0, s.re, s.si⟩, true) := by
  rw [ansS, if_neg (by rw [hn]; simp), if_neg (by omega), if_neg (by omega), if_neg (by omega), if_neg hge]
theorem ans_ref (s : S11) (a : A6) (hn : nextS s = (a, true)) (hp : s.ph ≠ 1) : ansS s a 2 = (s, false) := by
  rw [ansS, if_neg (by rw [hn]; simp), if_neg (fun h => hp h.2.1), if_neg (fun h => hp h.2), if_pos (by omega)]
theorem stepsL_1 (x : W7) (a b c : Int) : stepsL ⟨x, 1, a, b, c⟩ = forwardL x := by simp [stepsL]
theorem stepsL_2 (x : W7) (a b c : Int) : stepsL ⟨x, 2, a, b, c⟩ = [captureA x] := by simp [stepsL]
theorem stepsL_3 (x : W7) (a b c : Int) : stepsL ⟨x, 3, a, b, c⟩ = backL x := by simp [stepsL]
theorem stepsL_4 (x : W7) (a b c : Int) : stepsL ⟨x, 4, a, b, c⟩ = [] := by simp [stepsL]
theorem stepsL_5 (x : W7) (a b c : Int) : stepsL ⟨x, 5, a, b, c⟩ = [] := by simp [stepsL]
theorem fwd_pos (x : W7) (h : MayW x) : 0 < (forwardL x).length ∧ (forwardL x).length ≤ 9 := by
  refine ⟨?_, ?_⟩
  · rw [forwardL_yes x h, fwdK]; simp; omega
  · have := stepsL_len ⟨x, 1, 0, 0, 0⟩; rwa [stepsL_1] at this
theorem bck_pos (x : W7) (h : MayW x) : 0 < (backL x).length ∧ (backL x).length ≤ 9 := by
  refine ⟨?_, ?_⟩
  · rw [backL_yes x h]; simp
  · have := stepsL_len ⟨x, 3, 0, 0, 0⟩; rwa [stepsL_3] at this
def TickOk (t : Int) : Prop := 0 ≤ t ∧ t ≤ 1099511627776
def ReOk (x : W7) (r : Int) : Prop := 1 ≤ r ∧ r ≤ 4 ∧ (r ≠ 3 ∨ 0 < x.d)
theorem may_1 (x : W7) (k : Nat) (t : Int) (h : MayW x) (ht : TickOk t) (hk : k < (forwardL x).length) : MayS ⟨x, 1, k, 0, t⟩ :=
  ⟨h, ht, ⟨by simp, .inl (by rw [stepsL_1]; simp only; omega)⟩, .inl ⟨.inl rfl, rfl⟩⟩
theorem may_2 (x : W7) (t : Int) (h : MayW x) (ht : TickOk t) : MayS ⟨x, 2, 0, 0, t⟩ := ⟨h, ht, ⟨by simp, .inr (by simp)⟩, .inl ⟨.inr (.inl rfl), rfl⟩⟩
theorem may_4 (x : W7) (t : Int) (h : MayW x) (ht : TickOk t) : MayS ⟨x, 4, 0, 0, t⟩ := ⟨h, ht, ⟨by simp, .inr (by simp)⟩, .inl ⟨.inr (.inr rfl), rfl⟩⟩
theorem may_3 (x : W7) (k : Nat) (r t : Int) (h : MayW x) (ht : TickOk t) (hr : ReOk x r) (hk : k < (backL x).length) : MayS ⟨x, 3, k, r, t⟩ :=
  ⟨h, ht, ⟨by simp, .inl (by rw [stepsL_3]; simp only; omega)⟩, .inr ⟨.inl rfl, hr⟩⟩
theorem may_5 (x : W7) (r t : Int) (h : MayW x) (ht : TickOk t) (hr : ReOk x r) : MayS ⟨x, 5, 0, r, t⟩ := ⟨h, ht, ⟨by simp, .inr (by simp)⟩, .inr ⟨.inr rfl, hr⟩⟩
theorem next_1 (x : W7) (k : Nat) (t : Int) (a : A6) (h : MayW x) (ht : TickOk t) (ha : (forwardL x)[k]? = some a) : nextS ⟨x, 1, k, 0, t⟩ = (a, true) :=
  next_at _ k a rfl (may_1 x k t h ht (List.getElem?_eq_some_iff.1 ha).1) (by rw [stepsL_1]; exact ha)
theorem next_2 (x : W7) (t : Int) (h : MayW x) (ht : TickOk t) : nextS ⟨x, 2, 0, 0, t⟩ = (captureA x, true) :=
  next_at _ 0 _ rfl (may_2 x t h ht) (by rw [stepsL_2]; rfl)
theorem next_3 (x : W7) (k : Nat) (r t : Int) (a : A6) (h : MayW x) (ht : TickOk t) (hr : ReOk x r) (ha : (backL x)[k]? = some a) : nextS ⟨x, 3, k, r, t⟩ = (a, true) :=
  next_at _ k a rfl (may_3 x k r t h ht hr (List.getElem?_eq_some_iff.1 ha).1) (by rw [stepsL_3]; exact ha)
theorem next_4 (x : W7) (a b c : Int) : nextS ⟨x, 4, a, b, c⟩ = (zA, false) := by rw [nextS, if_neg (by rw [stepsL_4]; simp)]
theorem next_5 (x : W7) (a b c : Int) : nextS ⟨x, 5, a, b, c⟩ = (zA, false) := by rw [nextS, if_neg (by rw [stepsL_5]; simp)]
theorem ans_1 (x : W7) (k : Nat) (t : Int) (a : A6) (h : MayW x) (ht : TickOk t) (ha : (forwardL x)[k]? = some a) (hlt : k + 1 < (forwardL x).length) : ansS ⟨x, 1, k, 0, t⟩ a 1 = (⟨x, 1, (k + 1 : Nat), 0, t⟩, true) :=
  (ans_done _ a (next_1 x k t a h ht ha) (by rw [stepsL_1]; simp only; omega)).trans rfl
theorem ans_1l (x : W7) (k : Nat) (t : Int) (a : A6) (h : MayW x) (ht : TickOk t) (ha : (forwardL x)[k]? = some a) (hlt : k + 1 = (forwardL x).length) : ansS ⟨x, 1, k, 0, t⟩ a 1 = (⟨x, 2, 0, 0, t⟩, true) :=
  (ans_last _ a (next_1 x k t a h ht ha) (by rw [stepsL_1]; simp only; omega)).trans rfl
theorem ans_2 (x : W7) (t : Int) (h : MayW x) (ht : TickOk t) : ansS ⟨x, 2, 0, 0, t⟩ (captureA x) 1 = (⟨x, 4, 0, 0, t⟩, true) :=
  (ans_last _ _ (next_2 x t h ht) (by rw [stepsL_2]; simp)).trans rfl
theorem ans_3 (x : W7) (k : Nat) (r t : Int) (a : A6) (h : MayW x) (ht : TickOk t) (hr : ReOk x r) (ha : (backL x)[k]? = some a) (hlt : k + 1 < (backL x).length) : ansS ⟨x, 3, k, r, t⟩ a 1 = (⟨x, 3, (k + 1 : Nat), r, t⟩, true) :=
  (ans_done _ a (next_3 x k r t a h ht hr ha) (by rw [stepsL_3]; simp only; omega)).trans rfl
theorem ans_3l (x : W7) (k : Nat) (r t : Int) (a : A6) (h : MayW x) (ht : TickOk t) (hr : ReOk x r) (ha : (backL x)[k]? = some a) (hlt : k + 1 = (backL x).length) : ansS ⟨x, 3, k, r, t⟩ a 1 = (⟨x, 5, 0, r, t⟩, true) :=
  (ans_last _ a (next_3 x k r t a h ht hr ha) (by rw [stepsL_3]; simp only; omega)).trans rfl
/-- A row of steps whose block is not that of a cell stored to. -/
theorem rd_set {w : World} {D sz n g i : Nat} {A : Option Addr} {xs : List Value} {u : Value} (R : Rd w D sz A n xs) (hA : ∀ ad, A = some ad → ad.block ≠ g) : Rd (w.setCell ⟨g, i, none⟩ u) D sz A n xs := by
  refine ⟨R.1, fun hn => ?_⟩
  obtain ⟨ad, e, hb, hc⟩ := R.2 hn
  refine ⟨ad, e, hb, fun j v hj => ?_⟩
  have h := hc j v hj
  have hbl : (ad.add j).block = ad.block := by unfold Addr.add; split <;> rfl
  have e2 : (w.setCell ⟨g, i, none⟩ u).heap[(ad.add j).block]? = w.heap[(ad.add j).block]? := setO (by rw [hbl]; exact fun e3 => hA ad e e3.symm)
  unfold World.cell? at h ⊢
  rw [e2]
  exact h
theorem OA.ne {w : World} {base n c g : Nat} {A : Option Addr} {l : List A6} (ho : OA w base (.slice A n c) l) (hg : g < base) : ∀ ad, A = some ad → ad.block ≠ g := by
  have h' : w.ownsRow base 30 6 (.slice A n c) l.length (AC l) := ho
  rcases h'.2 with ⟨e, _⟩ | ⟨gg, cap, cur, e, hb, _⟩
  · injection e with e1
    subst e1
    intro ad h
    cases h
  · injection e with e1
    subst e1
    intro ad h
    injection h with h
    subst h
    intro h2
    simp only at h2
    omega
theorem rd_st11 {w : World} {D sz n g : Nat} {A : Option Addr} {xs : List Value} {v0 v1 v2 v3 v4 v5 v6 v7 v8 v9 v10 : Value} (R : Rd w D sz A n xs) (hA : ∀ ad, A = some ad → ad.block ≠ g) : Rd (st11 w g v0 v1 v2 v3 v4 v5 v6 v7 v8 v9 v10) D sz A n xs := by
  have h0 := rd_set (i := 0) (u := v0) R hA
  have h1 := rd_set (i := 1) (u := v1) h0 hA
  have h2 := rd_set (i := 2) (u := v2) h1 hA
  have h3 := rd_set (i := 3) (u := v3) h2 hA
  have h4 := rd_set (i := 4) (u := v4) h3 hA
  have h5 := rd_set (i := 5) (u := v5) h4 hA
  have h6 := rd_set (i := 6) (u := v6) h5 hA
  have h7 := rd_set (i := 7) (u := v7) h6 hA
  have h8 := rd_set (i := 8) (u := v8) h7 hA
  have h9 := rd_set (i := 9) (u := v9) h8 hA
  have h10 := rd_set (i := 10) (u := v10) h9 hA
  exact h10
end Go.Proofs.Ytplgodfhhlnojaa
