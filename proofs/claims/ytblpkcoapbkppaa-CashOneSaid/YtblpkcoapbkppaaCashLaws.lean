/- Laws of layer 2, walked: CashShares, CashAsks, CashTurns. -/
import Derived.Test.YtblpkcoapbkppaaTold2
import Derived.Test.YtblpkcoapbkppaaOpenI
set_option linter.unusedSimpArgs false
set_option linter.unusedVariables false
namespace Go.Proofs.Ytblpkcoapbkppaa
open Go.RowKit
def ByAll (w : World) (e : Ending) (w' : World) : Prop := e = .returned (.bool true) ∧ Below w.heap.size w w'
set_option maxHeartbeats 4000000 in
theorem shares_walk (A : Option Addr) (n c : Nat) (all : Int) (l : List Int) (w : World) (hr : Rd w w.heap.size 1 A n (I8 l)) (hn : n ≤ maxLen) :
    Calls Try.prog 3 #[.int .i64 all, .slice A n c] w (ByAll w) := by
  have HR := Lib.hid hr
  have HN := Lib.hid hn
  have hmn : n ≤ 9223372036854775807 := by unfold maxLen at hn; omega
  clear hr hn
  by_cases h1 : 110 < n
  · go_enter Try.func3, Try.ntmps3
    go_wp2_with (go_at_call 15; refine (told2 _).mono ?_; rintro e w2 ⟨rfl, hb2⟩)
    go_ret
    exact ⟨rfl, hb2⟩
  by_cases hok : ShOk all l
  · have HOK := Lib.hid hok
    go_enter Try.func3, Try.ntmps3
    go_wp2_with fail
    refine (share_c A n c all l _ HR.out HN.out).mono ?_
    intro e w1 hq
    unfold ShPost at hq
    rw [if_pos HOK.out] at hq
    obtain ⟨v1, rfl, o1, b1⟩ := hq
    obtain ⟨A1, c1, rfl, _, _, r1⟩ := o1.form
    rw [shs_len] at r1 ⊢
    have B1 := Lib.hid b1
    have R1 := Lib.hid r1
    clear o1 b1 r1
    go_wp2_with fail
    refine (rshare_c A n c all l _ ((HR.out.below B1.out).more B1.out.size) (by omega)).mono ?_
    intro e w2 hq
    unfold ShPost at hq
    rw [if_pos HOK.out] at hq
    obtain ⟨v2, rfl, o2, b2⟩ := hq
    obtain ⟨A2, c2, rfl, _, _, r2⟩ := o2.form
    rw [shs_len] at r2 ⊢
    have B2 := Lib.hid (B1.out.trans (b2.mono B1.out.size))
    have R1' := Lib.hid ((R1.out.below b2).more b2.size)
    have R2 := Lib.hid r2
    have HLn := Lib.hid (show l.length = n by have := HR.out.1; rw [I8_len] at this; omega)
    have Z2 := Lib.hid b2.size
    clear o2 b2 r2
    rw [HLn.out] at R1' R2 ⊢
    go_wp2_with fail
    obtain ⟨wo, rfl⟩ : ∃ wo : World, wo = w2 := ⟨_, rfl⟩
    go_loopw [9] (fun i wr => ∃ k : Nat, k ≤ n ∧ i = .int .i64 k ∧ Hid (Below wo.heap.size wo wr)) (fun i _ => n - (intOf i).toNat)
    case atStart => exact ⟨0, by omega, rfl, Lib.hid (Below.refl _ _)⟩
    case round =>
      obtain ⟨k, hk, rfl, hb⟩ := hrel
      by_cases hlt : k < n
      · have ra := R1'.out.below hb.out
        have rb := R2.out.below hb.out
        obtain ⟨ad, hl1, rfl, _, q1⟩ := ra.num hlt
        obtain ⟨bd, hl2, rfl, _, q2⟩ := rb.num hlt
        have HB := Lib.hid hb.out
        generalize (shs all l)[k] = x at *
        clear ra rb hb
        go_wp2_with fail
        go_quiet (fail)
        go_wp2
        go_roundw
        case rel => exact ⟨k + 1, by omega, by go_num, Lib.hid (below_drewN HB.out _)⟩
        case measure => simp [intOf]; omega
      · go_wp2_with (go_at_call 15; refine (told2 _).mono ?_; rintro e w4 ⟨rfl, hb4⟩)
        go_ret
        exact ⟨rfl, (B2.out.trans (hb.out.mono B2.out.size)).trans (hb4.mono ((B2.out.trans (hb.out.mono B2.out.size)).size))⟩
  · have HOK := Lib.hid hok
    go_enter Try.func3, Try.ntmps3
    go_wp2_with fail
    refine (share_c A n c all l _ HR.out HN.out).mono ?_
    intro e w1 hq
    unfold ShPost at hq
    rw [if_neg HOK.out] at hq
    obtain ⟨rfl, b1⟩ := hq
    have B1 := Lib.hid b1
    clear b1
    go_wp2_with fail
    refine (rshare_c A n c all l _ ((HR.out.below B1.out).more B1.out.size) (by omega)).mono ?_
    intro e w2 hq
    unfold ShPost at hq
    rw [if_neg HOK.out] at hq
    obtain ⟨rfl, b2⟩ := hq
    have B2 := Lib.hid (B1.out.trans (b2.mono B1.out.size))
    clear b2
    go_wp2_with fail
    obtain ⟨wo, rfl⟩ : ∃ wo : World, wo = w2 := ⟨_, rfl⟩
    go_loopw [9] (fun i wr => i = .int .i64 0 ∧ Hid (Below wo.heap.size wo wr)) (fun i _ => 0)
    case atStart => exact ⟨rfl, Lib.hid (Below.refl _ _)⟩
    case round =>
      obtain ⟨rfl, hb⟩ := hrel
      go_wp2_with (go_at_call 15; refine (told2 _).mono ?_; rintro e w4 ⟨rfl, hb4⟩)
      go_ret
      exact ⟨rfl, (B2.out.trans (hb.out.mono B2.out.size)).trans (hb4.mono ((B2.out.trans (hb.out.mono B2.out.size)).size))⟩
/-- A pair of the same numbers. -/
def Pr (x e : Int) : Array Value := #[.int .i64 x, .int .i64 e]
theorem kept_pr (z : Int) : ∃ x e, kept z = #[.int .i64 x, .int .i64 e] := ⟨_, _, rfl⟩
theorem tot_pr (l : List Int) : ∀ s, ∃ x e, tot s l = #[.int .i64 x, .int .i64 e] := by
  induction l with
  | nil => exact fun s => ⟨_, _, rfl⟩
  | cons y l ih =>
    intro s
    unfold tot
    split
    · exact ih _
    · exact ⟨_, _, rfl⟩
set_option maxHeartbeats 4000000 in
theorem asks2_walk (a b : Int) (A : Option Addr) (n c : Nat) (l : List Int) (w : World) (ha : Fits a) (hb : Fits b) (hr : Rd w w.heap.size 1 A n (I8 l)) (hf : ∀ x ∈ l, Fits x) (hn : n ≤ maxLen) :
    Calls Try.prog 7 #[.int .i64 a, .int .i64 b, .slice A n c] w (ByAll w) := by
  have hmn : n ≤ 9223372036854775807 := by unfold maxLen at hn; omega
  have HR := Lib.hid hr
  by_cases h1 : 40 < n
  · clear hr hn ha hb hf
    go_enter Try.func7, Try.ntmps7
    go_wp2_with (go_at_call 15; refine (told2 _).mono ?_; rintro e w2 ⟨rfl, hb2⟩)
    go_ret
    exact ⟨rfl, hb2⟩
  have c1 := fun ws => add_c a b ws ha hb
  have c2 := fun ws => radd_c a b ws ha hb
  have c3 := fun ws => sub_c a b ws ha hb
  have c4 := fun ws => rsub_c a b ws ha hb
  have c5 := fun ws => mul_k a b ws ha hb
  have c6 := fun ws => rmul_c a b ws ha hb
  have c7 := fun ws (h : Rd ws ws.heap.size 1 A n (I8 l)) => total_c A n c l ws h hf hmn
  have c8 := fun ws (h : Rd ws ws.heap.size 1 A n (I8 l)) => rtotal_c A n c l ws h hf hmn
  obtain ⟨x1, e1, k1⟩ := kept_pr (a + b)
  obtain ⟨x2, e2, k2⟩ := kept_pr (a - b)
  obtain ⟨x3, e3, k3⟩ := kept_pr (a * b)
  obtain ⟨x4, e4, k4⟩ := tot_pr l 0
  rw [k1] at c1 c2
  rw [k2] at c3 c4
  rw [k3] at c5 c6
  rw [k4] at c7 c8
  have C1 := Lib.hid c1; have C2 := Lib.hid c2; have C3 := Lib.hid c3; have C4 := Lib.hid c4
  have C5 := Lib.hid c5; have C6 := Lib.hid c6; have C7 := Lib.hid c7; have C8 := Lib.hid c8
  clear c1 c2 c3 c4 c5 c6 c7 c8 k1 k2 k3 k4 hr hn ha hb hf
  go_enter Try.func7, Try.ntmps7
  go_wp2_with fail
  refine (C1.out _).mono ?_
  rintro e w1 ⟨rfl, b1⟩
  have B1 := Lib.hid b1; clear b1
  go_wp2_with fail
  refine (C2.out _).mono ?_
  rintro e w2 ⟨rfl, rfl⟩
  go_wp2_with fail
  refine (C3.out _).mono ?_
  rintro e w3 ⟨rfl, b3⟩
  have B3 := Lib.hid (B1.out.trans (b3.mono B1.out.size)); clear b3
  go_wp2_with fail
  refine (C4.out _).mono ?_
  rintro e w4 ⟨rfl, rfl⟩
  go_wp2_with fail
  refine (C5.out _).mono ?_
  rintro e w5 ⟨rfl, b5⟩
  have B5 := Lib.hid (B3.out.trans (b5.mono B3.out.size)); clear b5
  go_wp2_with fail
  refine (C6.out _).mono ?_
  rintro e w6 ⟨rfl, rfl⟩
  go_wp2_with fail
  refine (C7.out _ ((HR.out.below B5.out).more B5.out.size)).mono ?_
  rintro e w7 ⟨rfl, b7⟩
  have B7 := Lib.hid (B5.out.trans (b7.mono B5.out.size)); clear b7
  go_wp2_with fail
  refine (C8.out _ ((HR.out.below B7.out).more B7.out.size)).mono ?_
  rintro e w8 ⟨rfl, b8⟩
  have B8 := Lib.hid (B7.out.trans (b8.mono B7.out.size)); clear b8
  go_wp2_with (go_at_call 15; refine (told2 _).mono ?_; rintro e w9 ⟨rfl, hb9⟩)
  go_ret
  exact ⟨ret_bool (by simp), B8.out.trans (hb9.mono B8.out.size)⟩
/-- The total of so many like numbers is their product. -/
theorem tot_rep (a : Int) (m : Nat) : ∀ j : Nat, Fits (a * j) → tot (a * j) (List.replicate m a) = kept (a * ((j + m : Nat) : Int)) := by
  induction m with
  | zero => intro j hj; rw [Nat.add_zero, kept_yes hj]; rfl
  | succ m ih =>
    intro j hj
    have e : a * (j : Int) + a = a * ((j + 1 : Nat) : Int) := by rw [Int.natCast_add, Int.mul_add]; simp
    rw [List.replicate_succ, tot, e]
    by_cases h : Fits (a * ((j + 1 : Nat) : Int))
    · rw [if_pos h, ih (j + 1) h]
      congr 3
      omega
    · rw [if_neg h, kept_no]
      intro h2
      apply h
      have e2 : a * ((j + (m + 1) : Nat) : Int) = a * ((j + 1 : Nat) : Int) + a * (m : Int) := by rw [← Int.mul_add]; congr 1; omega
      rw [e2] at h2
      rcases Int.le_total 0 a with h0 | h0
      · have p1 : 0 ≤ a * (m : Int) := Int.mul_nonneg h0 (by omega)
        have p2 : 0 ≤ a * ((j + 1 : Nat) : Int) := Int.mul_nonneg h0 (by omega)
        unfold Fits at *
        omega
      · have p1 : a * (m : Int) ≤ 0 := Int.mul_nonpos_of_nonpos_of_nonneg h0 (by omega)
        have p2 : a * ((j + 1 : Nat) : Int) ≤ 0 := Int.mul_nonpos_of_nonpos_of_nonneg h0 (by omega)
        unfold Fits at *
        omega
def RepAt (w wr : World) (v : Value) (a : Int) (k : Nat) : Prop := Below w.heap.size w wr ∧ OI wr w.heap.size v (List.replicate k a)
set_option maxHeartbeats 4000000 in
theorem turns2_walk (a b n0 : Int) (w : World) (ha : Fits a) (hb : Fits b) :
    Calls Try.prog 8 #[.int .i64 a, .int .i64 b, .int .i64 n0] w (ByAll w) := by
  obtain ⟨K, hK, hK2⟩ := u_rem1 n0 20 (by omega)
  have c1 := fun ws => add_c a b ws ha hb
  have c3 := fun (h : Fits (a + b)) ws => sub_c (a + b) b ws h hb
  have e3 : a + b - b = a := by omega
  rw [e3, kept_yes ha] at c3
  have c4 := fun ws => add_c b a ws hb ha
  rw [Int.add_comm b a] at c4
  have hK3 : Fits (K : Int) := by unfold Fits; omega
  have c5 := fun ws => mul_k a K ws ha hK3
  have hrep := tot_rep a K 0 (by rw [Int.natCast_zero, Int.mul_zero]; decide)
  rw [Int.natCast_zero, Int.mul_zero, Nat.zero_add] at hrep
  have c6 := fun ws A n c (h : Rd ws ws.heap.size 1 A n (I8 (List.replicate K a))) (hn : n ≤ 9223372036854775807) => total_c A n c _ ws h (fun x hx => by rw [(List.mem_replicate.1 hx).2]; exact ha) hn
  rw [hrep] at c6
  obtain ⟨x5, e5, k5⟩ := kept_pr (a * K)
  rw [k5] at c5 c6
  have C3 := Lib.hid c3; have C5 := Lib.hid c5; have C6 := Lib.hid c6
  clear c3 c5 c6 k5 hrep hK3 e3
  by_cases hf : Fits (a + b)
  · rw [kept_yes hf] at c1 c4
    have HF := Lib.hid hf
    have C1 := Lib.hid c1; have C4 := Lib.hid c4
    clear c1 c4 ha hb hf
    go_enter Try.func8, Try.ntmps8
    go_wp2_with fail
    refine (C1.out _).mono ?_
    rintro e w1 ⟨rfl, b1⟩
    have B1 := Lib.hid b1; clear b1
    go_wp2_with fail
    refine (C3.out HF.out _).mono ?_
    rintro e w2 ⟨rfl, b2⟩
    have B2 := Lib.hid (B1.out.trans (b2.mono B1.out.size)); clear b2 B1
    go_wp2_with fail
    refine (C4.out _).mono ?_
    rintro e w3 ⟨rfl, b3⟩
    have B1 := Lib.hid (B2.out.trans (b3.mono B2.out.size)); clear b3 B2
    go_wp2_with fail
    obtain ⟨wo, HB0⟩ : ∃ wo : World, Hid (Below w.heap.size w wo) := ⟨_, B1⟩
    go_loopw [14, 15] (fun v i wr => ∃ (k : Nat) (B : Option Addr) (cb : Nat), k ≤ K ∧ i = .int .i64 k ∧ v = .slice B k cb ∧ Hid (RepAt w wr (.slice B k cb) a k)) (fun _ i _ => K - (intOf i).toNat)
    case atStart => exact ⟨0, none, 0, by omega, rfl, rfl, Lib.hid ⟨B1.out, OI.nil _ _⟩⟩
    case round =>
      obtain ⟨k, B, cb, hk, rfl, rfl, hq⟩ := hrel
      by_cases hlt : k < K
      · obtain ⟨hb, own⟩ := hq.out
        have HB := Lib.hid hb
        have HO := Lib.hid own
        clear hb own hq
        go_wp2_with (at_builtin; refine wpl_appI rfl (.tmp 74) (.tmp 76) rfl w.heap.size _ _ rfl (HO.out.alloc _) (wr.heap.size + 1) _ 1 1 [a] rfl (rd_new1 wr _ _) ?_ ?_ ?_)
        · simp; omega
        · have := HB.out.size; simp; omega
        intro v' w' hown' hg' _
        obtain ⟨A', c', rfl, _, _, _⟩ := hown'.form
        have hl' : (List.replicate k a ++ [a]).length = k + 1 := by simp
        have hl2 : List.replicate k a ++ [a] = List.replicate (k + 1) a := by rw [← List.replicate_succ']
        rw [hl'] at hown' ⊢
        rw [hl2] at hown'
        have HOWN' := Lib.hid hown'
        have HG' := Lib.hid hg'
        have HLT := Lib.hid (OI.lt HO.out)
        clear hown' hg' hl' hl2
        go_wp2
        go_roundw
        case rel =>
          exact ⟨k + 1, _, _, by omega, by go_num, rfl, Lib.hid ⟨(HB.out.alloc HB.out.size _).grown HG'.out (by have := HB.out.size; simp; omega) (fun g hg => (HLT.out g hg).1), HOWN'.out⟩⟩
        case measure => simp [intOf]; omega
      · obtain rfl : K = k := by omega
        obtain ⟨hb, own⟩ := hq.out
        obtain ⟨A', c', e', _, _, r⟩ := own.form
        rw [List.length_replicate] at e' r
        injection e' with e1 e2 e3
        subst e1 e3
        have HB := Lib.hid hb
        have HR := Lib.hid r
        clear hb own r hq
        go_wp2_with fail
        refine (C6.out _ _ _ _ HR.out (by omega)).mono ?_
        rintro e w5 ⟨rfl, b5⟩
        have B5 := Lib.hid (HB.out.trans (b5.mono HB.out.size)); clear b5
        go_wp2_with fail
        refine (C5.out _).mono ?_
        rintro e w6 ⟨rfl, b6⟩
        have B6 := Lib.hid (B5.out.trans (b6.mono B5.out.size)); clear b6
        go_wp2_with (go_at_call 15; refine (told2 _).mono ?_; rintro e w9 ⟨rfl, hb9⟩)
        go_ret
        exact ⟨ret_bool (by simp), B6.out.trans (hb9.mono B6.out.size)⟩
  · rw [kept_no hf] at c1
    have hsg : (0 ≤ a ∧ 0 ≤ b) ∨ ((decide (0 ≤ a)) = false ∧ (decide (0 ≤ b)) = false) := by rw [decide_eq_false_iff_not, decide_eq_false_iff_not]; unfold Fits at *; omega
    rcases hsg with ⟨sa, sb⟩ | ⟨sa, sb⟩
    all_goals
      have C1 := Lib.hid c1; have C4 := Lib.hid c4
      clear c1 c4 ha hb hf
      go_enter Try.func8, Try.ntmps8
      go_wp2_with fail
      refine (C1.out _).mono ?_
      rintro e w1 ⟨rfl, b1⟩
      have B1 := Lib.hid b1; clear b1
      go_wp2_with fail
      obtain ⟨wo, HB0⟩ : ∃ wo : World, Hid (Below w.heap.size w wo) := ⟨_, B1⟩
      go_loopw [14, 15] (fun v i wr => ∃ (k : Nat) (B : Option Addr) (cb : Nat), k ≤ K ∧ i = .int .i64 k ∧ v = .slice B k cb ∧ Hid (RepAt w wr (.slice B k cb) a k)) (fun _ i _ => K - (intOf i).toNat)
      case atStart => exact ⟨0, none, 0, by omega, rfl, rfl, Lib.hid ⟨B1.out, OI.nil _ _⟩⟩
      case round =>
        obtain ⟨k, B, cb, hk, rfl, rfl, hq⟩ := hrel
        by_cases hlt : k < K
        · obtain ⟨hb, own⟩ := hq.out
          have HB := Lib.hid hb
          have HO := Lib.hid own
          clear hb own hq
          go_wp2_with (at_builtin; refine wpl_appI rfl (.tmp 74) (.tmp 76) rfl w.heap.size _ _ rfl (HO.out.alloc _) (wr.heap.size + 1) _ 1 1 [a] rfl (rd_new1 wr _ _) ?_ ?_ ?_)
          · simp; omega
          · have := HB.out.size; simp; omega
          intro v' w' hown' hg' _
          obtain ⟨A', c', rfl, _, _, _⟩ := hown'.form
          have hl' : (List.replicate k a ++ [a]).length = k + 1 := by simp
          have hl2 : List.replicate k a ++ [a] = List.replicate (k + 1) a := by rw [← List.replicate_succ']
          rw [hl'] at hown' ⊢
          rw [hl2] at hown'
          have HOWN' := Lib.hid hown'
          have HG' := Lib.hid hg'
          have HLT := Lib.hid (OI.lt HO.out)
          clear hown' hg' hl' hl2
          go_wp2
          go_roundw
          case rel =>
            exact ⟨k + 1, _, _, by omega, by go_num, rfl, Lib.hid ⟨(HB.out.alloc HB.out.size _).grown HG'.out (by have := HB.out.size; simp; omega) (fun g hg => (HLT.out g hg).1), HOWN'.out⟩⟩
          case measure => simp [intOf]; omega
        · obtain rfl : K = k := by omega
          obtain ⟨hb, own⟩ := hq.out
          obtain ⟨A', c', e', _, _, r⟩ := own.form
          rw [List.length_replicate] at e' r
          injection e' with e1 e2 e3
          subst e1 e3
          have HB := Lib.hid hb
          have HR := Lib.hid r
          clear hb own r hq
          go_wp2_with fail
          refine (C6.out _ _ _ _ HR.out (by omega)).mono ?_
          rintro e w5 ⟨rfl, b5⟩
          have B5 := Lib.hid (HB.out.trans (b5.mono HB.out.size)); clear b5
          go_wp2_with fail
          refine (C5.out _).mono ?_
          rintro e w6 ⟨rfl, b6⟩
          have B6 := Lib.hid (B5.out.trans (b6.mono B5.out.size)); clear b6
          go_wp2_with (go_at_call 15; refine (told2 _).mono ?_; rintro e w9 ⟨rfl, hb9⟩)
          go_ret
          exact ⟨ret_bool (by simp), B6.out.trans (hb9.mono B6.out.size)⟩
end Go.Proofs.Ytblpkcoapbkppaa
