/- pack.Reader: Text. -/
import Derived.Test.YtebinhelnhnbeaaPackR5
set_option linter.unusedSimpArgs false
set_option linter.unusedVariables false
namespace Go.Proofs.Ytebinhelnhnbeaa
open Go.RowKit
set_option maxRecDepth 100000 in
set_option maxHeartbeats 1000000 in
theorem rtext_m (g : Nat) (most M : Int) (s : Rs) (w : World) (D : Nat) (h : RP w D g s) (hD : D ≤ w.heap.size) (hM : (0 ≤ most ∧ M = most) ∨ (most < 0 ∧ M = 0)) :
    Calls Try.prog 27 #[.pointer (some ⟨g, 0, none⟩), .int .i64 most] w
      (RPost w D g (SV (if (rInt 0 M s).1 = 0 then ([], (rInt 0 M s).2) else rTake (rInt 0 M s).1.toNat (rInt 0 M s).2).1) (if (rInt 0 M s).1 = 0 then ([], (rInt 0 M s).2) else rTake (rInt 0 M s).1.toNat (rInt 0 M s).2).2) := by
  have hmf : ∀ (fn : Fn) (first cap : Array Value) (w : World), (Instr.makeFunc fn first cap).run Try.prog w = .ok (.func fn first cap) w := fun _ _ _ _ => rfl
  have HC := Lib.hid (rint_c g 0 M s w D h hD)
  have hnn := (rInt_nn M s).1
  have hbad := rInt_bad 0 M s
  unfold RPost at HC ⊢
  have hgD := h.1
  have hlt := h.lt
  obtain ⟨v, s', hr⟩ : ∃ v s', rInt 0 M s = (v, s') := ⟨_, _, rfl⟩
  rw [hr] at hnn hbad HC ⊢
  simp only at hnn hbad HC ⊢
  have HBAD := Lib.hid hbad
  clear h hr hbad
  have HM : Hid (M = M) := Lib.hid rfl
  rcases hM with ⟨h0, rfl⟩ | ⟨h0, rfl⟩
  all_goals
    cases s' with
    | none =>
      have hv : v = 0 := HBAD.out rfl
      subst hv
      go_enter Try.func27, Try.ntmps27
      go_wp2_with fail
      refine HC.out.mono ?_
      rintro e w1 ⟨rfl, h1, g1⟩
      obtain ⟨A, n, c, hh⟩ := h1.none_
      have hz := g1.size
      have c1 : w1.cell? ⟨g, 1, none⟩ = some (.bool true) := by rw [cellsAt hh]; rfl
      have hgl := h1.lt
      have H1 := Lib.hid h1
      have G1 := Lib.hid g1
      clear h1 g1 hh
      go_wp2
      go_ret
      simp only [if_true]
      exact ⟨rfl, H1.out.alloc (by omega) _, only_alloc G1.out _⟩
    | some l =>
      by_cases hv : v = 0
      · subst hv
        go_enter Try.func27, Try.ntmps27
        go_wp2_with fail
        refine HC.out.mono ?_
        rintro e w1 ⟨rfl, h1, g1⟩
        obtain ⟨_, A, n, c, hh, _⟩ := h1.some_
        have hz := g1.size
        have c1 : w1.cell? ⟨g, 1, none⟩ = some (.bool false) := by rw [cellsAt hh]; rfl
        have hgl := h1.lt
        have H1 := Lib.hid h1
        have G1 := Lib.hid g1
        clear h1 g1 hh
        go_wp2
        go_ret
        simp only [if_true]
        exact ⟨rfl, H1.out.alloc (by omega) _, only_alloc G1.out _⟩
      · obtain ⟨m, rfl⟩ := Int.eq_ofNat_of_zero_le hnn
        have hvb : ((m : Int) == 0) = false := beq_eq_false_iff_ne.2 hv
        have hm1 : 1 ≤ m := by omega
        rw [if_neg hv]
        rw [Int.toNat_natCast]
        clear hv
        obtain ⟨x, hx⟩ : ∃ x, rTake m (some l) = x := ⟨_, rfl⟩
        rw [hx]
        obtain ⟨x1, x2⟩ := x
        have HX := Lib.hid hx
        clear hx
        go_enter Try.func27, Try.ntmps27
        go_wp2_with fail
        refine HC.out.mono ?_
        rintro e w1 ⟨rfl, h1, g1⟩
        obtain ⟨_, A, n, c, hh, _⟩ := h1.some_
        have hz := g1.size
        have c1 : w1.cell? ⟨g, 1, none⟩ = some (.bool false) := by rw [cellsAt hh]; rfl
        have hgl := h1.lt
        have H1 := Lib.hid h1
        have G1 := Lib.hid g1
        clear h1 g1 hh
        have HT := fun (w2 : World) (h2 : RP w2 D g (some l)) (hp : w2.cell? ⟨w1.heap.size, 0, none⟩ = some (.int .i64 (m : Int))) => takeS_c g w1.heap.size m hm1 (some l) w2 D h2 hp
        unfold RPost at HT
        rw [HX.out] at HT
        have HTH := Lib.hid HT
        clear HT
        go_wp2_with fail
        refine (HTH.out _ (H1.out.alloc (by omega) _) ?_).mono ?_
        · exact cell0 (heap_alloc_new w1 _)
        rintro e w2 ⟨rfl, h2, g2⟩
        have H2 := Lib.hid h2
        have G2 := Lib.hid g2
        clear h2 g2
        go_wp2
        go_ret
        exact ⟨rfl, H2.out, only_trans (only_alloc G1.out _) G2.out⟩
theorem rtext_c (g : Nat) (most : Int) (s : Rs) (w : World) (D : Nat) (h : RP w D g s) (hD : D ≤ w.heap.size) :
    Calls Try.prog 27 #[.pointer (some ⟨g, 0, none⟩), .int .i64 most] w (RPost w D g (SV (rText most s).1) (rText most s).2) := by
  rw [rText_eq]
  exact rtext_m g most (max most 0) s w D h hD (by omega)
theorem rtext_nil (most : Int) (w : World) : Calls Try.prog 27 #[.pointer none, .int .i64 most] w fun e w' => e = .returned (SV []) ∧ Below w.heap.size w w' := by
  by_cases h : 0 ≤ most
  all_goals
    go_enter Try.func27, Try.ntmps27
    go_wp2_with fail
    refine (rint_nil _ _ _).mono ?_
    rintro e w1 ⟨rfl, hb⟩
    have HB := Lib.hid hb
    have hz := hb.size
    clear hb
    go_wp2
    go_ret
    exact ⟨rfl, HB.out.alloc hz _⟩
end Go.Proofs.Ytebinhelnhnbeaa
