/- pack.Reader: numbers, walked to their end. -/
import Derived.Test.YtebinhelnhnbeaaPackR3
set_option linter.unusedSimpArgs false
set_option linter.unusedVariables false
namespace Go.Proofs.Ytebinhelnhnbeaa
open Go.RowKit
theorem rInt_eq (lo hi : Int) (l : List UInt8) : rInt lo hi (some l) = if dN lo hi l = 0 then (0, none) else (dV lo hi l, some (l.drop (dN lo hi l))) := by
  show (match dec lo hi l with | some (v, r) => (v, some r) | none => ((0 : Int), (none : Rs))) = _
  rw [dec_eq]
  by_cases h : dN lo hi l = 0 <;> simp [h]
set_option maxRecDepth 100000 in
set_option maxHeartbeats 1000000 in
theorem take64_c (g p q : Nat) (lo hi : Int) (s : Rs) (w : World) (D : Nat) (h : RP w D g s) (hp : w.cell? ⟨p, 0, none⟩ = some (.int .i64 lo)) (hq : w.cell? ⟨q, 0, none⟩ = some (.int .i64 hi)) :
    Calls Try.prog 48 #[.pointer (some ⟨g, 0, none⟩), .func (.func 49) #[] #[.pointer (some ⟨p, 0, none⟩), .pointer (some ⟨q, 0, none⟩)]] w (RPost w D g (.int .i64 (rInt lo hi s).1) (rInt lo hi s).2) := by
  cases s with
  | none =>
    have H := Lib.hid h
    obtain ⟨A, n, c, h1⟩ := h.none_
    have c1 : w.cell? ⟨g, 1, none⟩ = some (.bool true) := by rw [cellsAt h1]; rfl
    clear h h1
    go_enter Try.func48, Try.ntmps48
    go_wp2
    go_ret
    exact ⟨rfl, H.out, World.grownBy.refl w _⟩
  | some l =>
    have H := Lib.hid h
    obtain ⟨h0, A, n, c, h1, h2, h3, h4, h5, h9⟩ := h.some_
    have c0 : w.cell? ⟨g, 0, none⟩ = some (.slice A n c) := by rw [cellsAt h1]; rfl
    have c1 : w.cell? ⟨g, 1, none⟩ = some (.bool false) := by rw [cellsAt h1]; rfl
    have f0 := free0 (i := 0) h1
    have f1 := free0 (i := 1) h1
    have hlen : l.length = n := by have := h3.1; rw [B8_len] at this; omega
    have hdn := dN_le lo hi l
    have HC := Lib.hid (int1_c A n c l w D p q lo hi h3 (by unfold maxLen at h5; omega) hp hq)
    unfold IR at HC
    have HE := Lib.hid (rInt_eq lo hi l)
    have HCUT := Lib.hid (fun k hk => RP.cut (k := k) h0 h1 h2 h3 h4 h5 h9 hk)
    obtain ⟨d, hd⟩ : ∃ d, dN lo hi l = d := ⟨_, rfl⟩
    obtain ⟨v, hv⟩ : ∃ v, dV lo hi l = v := ⟨_, rfl⟩
    rw [hd, hv] at HC HE
    rw [hd, hlen] at hdn
    clear h h1 h2 h3 h9 hp hq hlen hd hv
    unfold maxLen at h5
    go_enter Try.func48, Try.ntmps48
    by_cases hd0 : d < 1
    · have hd00 : d = 0 := by omega
      have HD := Lib.hid hd00
      clear hd00
      go_wp2_with (go_at_call 49; refine (HC.out).mono ?_; rintro e w' ⟨rfl, rfl⟩)
      go_ret
      unfold RPost
      rw [HE.out, if_pos HD.out]
      exact ⟨rfl, H.out.bad, only_setCell (World.grownBy.refl w _) (.inl rfl) _⟩
    · have hd1 : ¬ (d : Int) < 1 := by omega
      by_cases hcd : c = d
      · subst hcd
        go_wp2_with (go_at_call 49; refine (HC.out).mono ?_; rintro e w' ⟨rfl, rfl⟩)
        go_ret
        unfold RPost
        rw [HE.out, if_neg (by omega)]
        have := HCUT.out c hdn
        rw [if_pos rfl, show n - c = 0 from by omega, Nat.sub_self] at this
        exact ⟨rfl, this, only_setCell (World.grownBy.refl w _) (.inl rfl) _⟩
      · go_wp2_with (go_at_call 49; refine (HC.out).mono ?_; rintro e w' ⟨rfl, rfl⟩)
        go_ret
        unfold RPost
        rw [HE.out, if_neg (by omega)]
        have := HCUT.out d hdn
        rw [if_neg hcd] at this
        exact ⟨rfl, this, only_setCell (World.grownBy.refl w _) (.inl rfl) _⟩
theorem take64_nil (F : Value) (w : World) : Calls Try.prog 48 #[.pointer none, F] w fun e w' => e = .returned (.int .i64 0) ∧ w = w' := by
  go_enter Try.func48, Try.ntmps48
  go_wp2
  go_ret
  exact ⟨rfl, rfl⟩
/-- The boxes of a call's own. -/
theorem cell_new2 (w : World) (u v : Value) (t1 t2 : TypeId) : ((w.alloc (.cells #[u] t1)).alloc (.cells #[v] t2)).cell? ⟨w.heap.size, 0, none⟩ = some u ∧ ((w.alloc (.cells #[u] t1)).alloc (.cells #[v] t2)).cell? ⟨w.heap.size + 1, 0, none⟩ = some v := by
  constructor
  · rw [World.cell?_alloc_lt _ _ _ (by simp)]; exact cell0 (heap_alloc_new w _)
  · have := heap_alloc_new (w.alloc (.cells #[u] t1)) (.cells #[v] t2)
    exact cell0 (by simpa using this)
theorem RP.alloc {w : World} {D g : Nat} {s : Rs} (h : RP w D g s) (hD : D ≤ w.heap.size) (o : Obj) : RP (w.alloc o) D g s := h.below ((Below.refl _ _).alloc hD o)
theorem rint_c (g : Nat) (lo hi : Int) (s : Rs) (w : World) (D : Nat) (h : RP w D g s) (hD : D ≤ w.heap.size) :
    Calls Try.prog 25 #[.pointer (some ⟨g, 0, none⟩), .int .i64 lo, .int .i64 hi] w (RPost w D g (.int .i64 (rInt lo hi s).1) (rInt lo hi s).2) := by
  have hmf : ∀ (fn : Fn) (first cap : Array Value) (w : World), (Instr.makeFunc fn first cap).run Try.prog w = .ok (.func fn first cap) w := fun _ _ _ _ => rfl
  have hc := cell_new2 w (.int .i64 lo) (.int .i64 hi) 2 2
  have HC := Lib.hid (take64_c g w.heap.size (w.heap.size + 1) lo hi s _ D ((h.alloc hD (.cells #[.int .i64 lo] 2)).alloc (by simp; omega) (.cells #[.int .i64 hi] 2)) hc.1 hc.2)
  unfold RPost at HC ⊢
  have hlt := h.lt
  have hgD := h.1
  generalize rInt lo hi s = r at *
  obtain ⟨v, s'⟩ := r
  clear hc h
  go_enter Try.func25, Try.ntmps25
  go_wp2_with fail
  refine HC.out.mono ?_
  rintro e w1 ⟨rfl, h1, g1⟩
  have H1 := Lib.hid h1
  have G1 := Lib.hid g1
  clear h1 g1
  go_wp2
  go_ret
  exact ⟨rfl, H1.out, only_trans (only_alloc (only_alloc (World.grownBy.refl w _) _) _) G1.out⟩
theorem rint_nil (lo hi : Int) (w : World) : Calls Try.prog 25 #[.pointer none, .int .i64 lo, .int .i64 hi] w fun e w' => e = .returned (.int .i64 0) ∧ Below w.heap.size w w' := by
  have hmf : ∀ (fn : Fn) (first cap : Array Value) (w : World), (Instr.makeFunc fn first cap).run Try.prog w = .ok (.func fn first cap) w := fun _ _ _ _ => rfl
  go_enter Try.func25, Try.ntmps25
  go_wp2_with (go_at_call 48; refine (take64_nil _ _).mono ?_; rintro e w' ⟨rfl, rfl⟩)
  go_ret
  exact ⟨rfl, ((Below.refl _ _).alloc (Nat.le_refl _) _).alloc (by simp) _⟩
end Go.Proofs.Ytebinhelnhnbeaa
