/- The law BoundParts, walked. -/
import Derived.Test.YtblpkcoapbkppaaBoundLaws
import Derived.Outline
set_option linter.unusedSimpArgs false
set_option linter.unusedVariables false
namespace Go.Proofs.Ytblpkcoapbkppaa
open Go.RowKit
def bpW (w : World) : World := (w.alloc (.cells #[.int .i64 0, .int .i64 0, .int .i64 0, .int .i64 0, .int .i64 0, .int .i64 0, .int .i64 0, .int .i64 0, .int .i64 0, .int .i64 0] 61)).alloc (.cells #[.int .i64 (-1), .int .i64 0, .int .i64 1, .int .i64 1000000, .int .i64 1000001] 3)
def KAt (w : World) (k : Value) (wx : World) : Prop := ∃ (K : Int), k = .int .i64 K ∧ wx = bpW w
def bqW (w : World) : World := (bpW w).alloc (.cells #[.int .i64 (-1), .int .i64 0, .int .i64 1, .int .i64 1099511627776, .int .i64 1099511627777] 2)
def MAt (w : World) (k : Value) (wx : World) : Prop := ∃ (K : Int), k = .int .i64 K ∧ wx = bqW w
theorem two_cells (w w1 : World) (c : C10) (cs : Array Value) (t : TypeId) (b : Below ((w.alloc (.cells #[.int .i64 c.a0, .int .i64 c.o0, .int .i64 c.a1, .int .i64 c.o1, .int .i64 c.a2, .int .i64 c.o2, .int .i64 c.f0, .int .i64 c.f1, .int .i64 c.f2, .int .i64 c.f3] 61)).alloc (.cells cs t)).heap.size ((w.alloc (.cells #[.int .i64 c.a0, .int .i64 c.o0, .int .i64 c.a1, .int .i64 c.o1, .int .i64 c.a2, .int .i64 c.o2, .int .i64 c.f0, .int .i64 c.f1, .int .i64 c.f2, .int .i64 c.f3] 61)).alloc (.cells cs t)) w1) (k : Nat) (u : Value) (h : (#[.int .i64 c.a0, .int .i64 c.o0, .int .i64 c.a1, .int .i64 c.o1, .int .i64 c.a2, .int .i64 c.o2, .int .i64 c.f0, .int .i64 c.f1, .int .i64 c.f2, .int .i64 c.f3] : Array Value)[k]? = some u) : w1.cell? ⟨w.heap.size, k, none⟩ = some u := by
  have h := World.news_of_block (heap_alloc_new w (.cells #[.int .i64 c.a0, .int .i64 c.o0, .int .i64 c.a1, .int .i64 c.o1, .int .i64 c.a2, .int .i64 c.o2, .int .i64 c.f0, .int .i64 c.f1, .int .i64 c.f2, .int .i64 c.f3] 61)) k u (by simpa using h)
  have e : (⟨w.heap.size, 0, none⟩ : Addr).add k = ⟨w.heap.size, k, none⟩ := by unfold Addr.add; split <;> simp_all
  rw [e] at h
  exact bcell b ((World.cell?_alloc_lt _ _ _ (by simp)).trans h) (by simp; omega)
def MkAt (w : World) (K : Int) (m : Value) (wx : World) : Prop := m = .bool (decide (0 ≤ K ∧ K ≤ 1000000)) ∧ wx = bpW w
def PAt (w : World) (m : Value) (wx : World) : Prop := ∃ c : C10, m = .bool (decide (MayC c)) ∧ wx.heap[w.heap.size]? = some (.cells #[.int .i64 c.a0, .int .i64 c.o0, .int .i64 c.a1, .int .i64 c.o1, .int .i64 c.a2, .int .i64 c.o2, .int .i64 c.f0, .int .i64 c.f1, .int .i64 c.f2, .int .i64 c.f3] 61) ∧ Below w.heap.size w wx
set_option maxRecDepth 100000 in
set_option maxHeartbeats 16000000 in
theorem boundParts_walk (a b c : Int) (w : World) : Calls Try.prog 13 #[.int .i64 a, .int .i64 b, .int .i64 c] w fun e w' => e = .returned (.bool true) ∧ Below w.heap.size w w' := by
  obtain ⟨p, hp, hp2⟩ := u_rem a 10 (by omega)
  obtain ⟨n, hn, hn2⟩ := u_rem b 5 (by omega)
  obtain ⟨o, ho, ho2⟩ := u_rem c 300 (by omega)
  have T := Lib.hid told21
  go_enter Try.func13, Try.ntmps13
  go_upto_region 2 with fail
  go_cut [8] (fun k wx => KAt w k wx)
  case first =>
    have : n = 0 ∨ n = 1 ∨ n = 2 ∨ n = 3 ∨ n = 4 := by omega
    rcases this with rfl | rfl | rfl | rfl | rfl
    all_goals
      go_wp2_with fail
      go_meet
      unfold KAt
      refine ⟨_, rfl, ?_⟩
      simp only [bpW]
  case rest =>
    obtain ⟨K, rfl, rfl⟩ := hcut
    go_upto_region 3 with fail
    go_cut [9] (fun m wx => MkAt w K m wx)
    case first =>
      simp only [bpW]
      go_wp2_with fail
      all_goals
        go_meet
        unfold MkAt
        refine ⟨?_, by simp only [bpW]⟩
        congr 1
        first
          | exact (decide_eq_false (by omega)).symm
          | exact (decide_eq_true (by omega)).symm
          | exact decide_eq_decide.2 (by omega)
    case rest =>
     obtain ⟨rfl, rfl⟩ := hcut
     obtain ⟨mk, hmk⟩ : ∃ mk, decide (0 ≤ K ∧ K ≤ 1000000) = mk := ⟨_, rfl⟩
     rw [hmk]
     have HMK := Lib.hid hmk
     clear hmk
     simp only [bpW]
     have : p = 0 ∨ p = 1 ∨ p = 2 ∨ p = 3 ∨ p = 4 ∨ p = 5 ∨ p = 6 ∨ p = 7 ∨ p = 8 ∨ p = 9 := by omega
     rcases this with rfl | rfl | rfl | rfl | rfl | rfl | rfl | rfl | rfl | rfl
     · have CC := Lib.hid (conf_is ⟨K, 0, 0, 0, 0, 0, 0, 0, 0, 0⟩ mk (by rw [← HMK.out]; exact decide_eq_decide.2 (by unfold MayC stockOk MayFs fundOk; simp only; omega)))
       by_cases h200 : o < 200
       · have RA1 := Lib.hid (rounds_is (o : Int) (1000 + 5 * (o : Int)) (by omega))
         have RA2 := Lib.hid (rounds_is ((o : Int) + 1) (1000 + 5 * ((o : Int) + 1)) (by omega))
         go_wp2_with fail
         refine (T.out _).mono ?_
         rintro e w1 ⟨rfl, b1⟩
         have cl := two_cells w w1 ⟨K, 0, 0, 0, 0, 0, 0, 0, 0, 0⟩ _ _ (b1.mono (by simp))
         have q0 := cl 0 _ rfl
         have q1 := cl 1 _ rfl
         have q2 := cl 2 _ rfl
         have q3 := cl 3 _ rfl
         have q4 := cl 4 _ rfl
         have q5 := cl 5 _ rfl
         have q6 := cl 6 _ rfl
         have q7 := cl 7 _ rfl
         have q8 := cl 8 _ rfl
         have q9 := cl 9 _ rfl
         simp only at q0 q1 q2 q3 q4 q5 q6 q7 q8 q9
         have HB := Lib.hid (show Below w.heap.size w w1 from (((Below.refl _ _).alloc (Nat.le_refl _) _).alloc (by simp) _).trans (b1.mono (by simp; omega)))
         clear b1 cl
         go_wp2_with fail
         refine (CC.out _).mono ?_
         rintro e w2 ⟨rfl, b2⟩
         have HB2 := Lib.hid (HB.out.trans (b2.mono HB.out.size))
         clear b2
         cases mk
         all_goals
           go_wp2_with fail
           refine (RA1.out _).mono ?_
           rintro e w' ⟨rfl, rfl⟩
           go_wp2_with fail
           refine (RA2.out _).mono ?_
           rintro e w' ⟨rfl, rfl⟩
           go_wp2_with fail
           refine (RA1.out _).mono ?_
           rintro e w' ⟨rfl, rfl⟩
           go_wp2
           all_goals
             go_ret
             first
               | exact ⟨rfl, HB2.out⟩
               | (exfalso; omega)
               | exact ⟨ret_bool (decide_eq_true (by omega)), HB2.out⟩
               | exact ⟨ret_bool (by simp; omega), HB2.out⟩
       · have RA1 := Lib.hid (rounds_is (o : Int) (2000) (by omega))
         have RA2 := Lib.hid (rounds_is ((o : Int) + 1) (2000) (by omega))
         have h199 : ¬ (o : Int) < 200 := by omega
         go_wp2_with fail
         refine (T.out _).mono ?_
         rintro e w1 ⟨rfl, b1⟩
         have cl := two_cells w w1 ⟨K, 0, 0, 0, 0, 0, 0, 0, 0, 0⟩ _ _ (b1.mono (by simp))
         have q0 := cl 0 _ rfl
         have q1 := cl 1 _ rfl
         have q2 := cl 2 _ rfl
         have q3 := cl 3 _ rfl
         have q4 := cl 4 _ rfl
         have q5 := cl 5 _ rfl
         have q6 := cl 6 _ rfl
         have q7 := cl 7 _ rfl
         have q8 := cl 8 _ rfl
         have q9 := cl 9 _ rfl
         simp only at q0 q1 q2 q3 q4 q5 q6 q7 q8 q9
         have HB := Lib.hid (show Below w.heap.size w w1 from (((Below.refl _ _).alloc (Nat.le_refl _) _).alloc (by simp) _).trans (b1.mono (by simp; omega)))
         clear b1 cl
         go_wp2_with fail
         refine (CC.out _).mono ?_
         rintro e w2 ⟨rfl, b2⟩
         have HB2 := Lib.hid (HB.out.trans (b2.mono HB.out.size))
         clear b2
         cases mk
         all_goals
           go_wp2_with fail
           refine (RA1.out _).mono ?_
           rintro e w' ⟨rfl, rfl⟩
           go_wp2_with fail
           refine (RA2.out _).mono ?_
           rintro e w' ⟨rfl, rfl⟩
           go_wp2_with fail
           refine (RA1.out _).mono ?_
           rintro e w' ⟨rfl, rfl⟩
           go_wp2
           all_goals
             go_ret
             first
               | exact ⟨rfl, HB2.out⟩
               | (exfalso; omega)
               | exact ⟨ret_bool (decide_eq_true (by omega)), HB2.out⟩
               | exact ⟨ret_bool (by simp; omega), HB2.out⟩
     · have CC := Lib.hid (conf_is ⟨0, 0, K, 0, 0, 0, 0, 0, 0, 0⟩ mk (by rw [← HMK.out]; exact decide_eq_decide.2 (by unfold MayC stockOk MayFs fundOk; simp only; omega)))
       by_cases h200 : o < 200
       · have RA1 := Lib.hid (rounds_is (o : Int) (1000 + 5 * (o : Int)) (by omega))
         have RA2 := Lib.hid (rounds_is ((o : Int) + 1) (1000 + 5 * ((o : Int) + 1)) (by omega))
         go_wp2_with fail
         refine (T.out _).mono ?_
         rintro e w1 ⟨rfl, b1⟩
         have cl := two_cells w w1 ⟨0, 0, K, 0, 0, 0, 0, 0, 0, 0⟩ _ _ (b1.mono (by simp))
         have q0 := cl 0 _ rfl
         have q1 := cl 1 _ rfl
         have q2 := cl 2 _ rfl
         have q3 := cl 3 _ rfl
         have q4 := cl 4 _ rfl
         have q5 := cl 5 _ rfl
         have q6 := cl 6 _ rfl
         have q7 := cl 7 _ rfl
         have q8 := cl 8 _ rfl
         have q9 := cl 9 _ rfl
         simp only at q0 q1 q2 q3 q4 q5 q6 q7 q8 q9
         have HB := Lib.hid (show Below w.heap.size w w1 from (((Below.refl _ _).alloc (Nat.le_refl _) _).alloc (by simp) _).trans (b1.mono (by simp; omega)))
         clear b1 cl
         go_wp2_with fail
         refine (CC.out _).mono ?_
         rintro e w2 ⟨rfl, b2⟩
         have HB2 := Lib.hid (HB.out.trans (b2.mono HB.out.size))
         clear b2
         cases mk
         all_goals
           go_wp2_with fail
           refine (RA1.out _).mono ?_
           rintro e w' ⟨rfl, rfl⟩
           go_wp2_with fail
           refine (RA2.out _).mono ?_
           rintro e w' ⟨rfl, rfl⟩
           go_wp2_with fail
           refine (RA1.out _).mono ?_
           rintro e w' ⟨rfl, rfl⟩
           go_wp2
           all_goals
             go_ret
             first
               | exact ⟨rfl, HB2.out⟩
               | (exfalso; omega)
               | exact ⟨ret_bool (decide_eq_true (by omega)), HB2.out⟩
               | exact ⟨ret_bool (by simp; omega), HB2.out⟩
       · have RA1 := Lib.hid (rounds_is (o : Int) (2000) (by omega))
         have RA2 := Lib.hid (rounds_is ((o : Int) + 1) (2000) (by omega))
         have h199 : ¬ (o : Int) < 200 := by omega
         go_wp2_with fail
         refine (T.out _).mono ?_
         rintro e w1 ⟨rfl, b1⟩
         have cl := two_cells w w1 ⟨0, 0, K, 0, 0, 0, 0, 0, 0, 0⟩ _ _ (b1.mono (by simp))
         have q0 := cl 0 _ rfl
         have q1 := cl 1 _ rfl
         have q2 := cl 2 _ rfl
         have q3 := cl 3 _ rfl
         have q4 := cl 4 _ rfl
         have q5 := cl 5 _ rfl
         have q6 := cl 6 _ rfl
         have q7 := cl 7 _ rfl
         have q8 := cl 8 _ rfl
         have q9 := cl 9 _ rfl
         simp only at q0 q1 q2 q3 q4 q5 q6 q7 q8 q9
         have HB := Lib.hid (show Below w.heap.size w w1 from (((Below.refl _ _).alloc (Nat.le_refl _) _).alloc (by simp) _).trans (b1.mono (by simp; omega)))
         clear b1 cl
         go_wp2_with fail
         refine (CC.out _).mono ?_
         rintro e w2 ⟨rfl, b2⟩
         have HB2 := Lib.hid (HB.out.trans (b2.mono HB.out.size))
         clear b2
         cases mk
         all_goals
           go_wp2_with fail
           refine (RA1.out _).mono ?_
           rintro e w' ⟨rfl, rfl⟩
           go_wp2_with fail
           refine (RA2.out _).mono ?_
           rintro e w' ⟨rfl, rfl⟩
           go_wp2_with fail
           refine (RA1.out _).mono ?_
           rintro e w' ⟨rfl, rfl⟩
           go_wp2
           all_goals
             go_ret
             first
               | exact ⟨rfl, HB2.out⟩
               | (exfalso; omega)
               | exact ⟨ret_bool (decide_eq_true (by omega)), HB2.out⟩
               | exact ⟨ret_bool (by simp; omega), HB2.out⟩
     · have CC := Lib.hid (conf_is ⟨0, 0, 0, 0, K, 0, 0, 0, 0, 0⟩ mk (by rw [← HMK.out]; exact decide_eq_decide.2 (by unfold MayC stockOk MayFs fundOk; simp only; omega)))
       by_cases h200 : o < 200
       · have RA1 := Lib.hid (rounds_is (o : Int) (1000 + 5 * (o : Int)) (by omega))
         have RA2 := Lib.hid (rounds_is ((o : Int) + 1) (1000 + 5 * ((o : Int) + 1)) (by omega))
         go_wp2_with fail
         refine (T.out _).mono ?_
         rintro e w1 ⟨rfl, b1⟩
         have cl := two_cells w w1 ⟨0, 0, 0, 0, K, 0, 0, 0, 0, 0⟩ _ _ (b1.mono (by simp))
         have q0 := cl 0 _ rfl
         have q1 := cl 1 _ rfl
         have q2 := cl 2 _ rfl
         have q3 := cl 3 _ rfl
         have q4 := cl 4 _ rfl
         have q5 := cl 5 _ rfl
         have q6 := cl 6 _ rfl
         have q7 := cl 7 _ rfl
         have q8 := cl 8 _ rfl
         have q9 := cl 9 _ rfl
         simp only at q0 q1 q2 q3 q4 q5 q6 q7 q8 q9
         have HB := Lib.hid (show Below w.heap.size w w1 from (((Below.refl _ _).alloc (Nat.le_refl _) _).alloc (by simp) _).trans (b1.mono (by simp; omega)))
         clear b1 cl
         go_wp2_with fail
         refine (CC.out _).mono ?_
         rintro e w2 ⟨rfl, b2⟩
         have HB2 := Lib.hid (HB.out.trans (b2.mono HB.out.size))
         clear b2
         cases mk
         all_goals
           go_wp2_with fail
           refine (RA1.out _).mono ?_
           rintro e w' ⟨rfl, rfl⟩
           go_wp2_with fail
           refine (RA2.out _).mono ?_
           rintro e w' ⟨rfl, rfl⟩
           go_wp2_with fail
           refine (RA1.out _).mono ?_
           rintro e w' ⟨rfl, rfl⟩
           go_wp2
           all_goals
             go_ret
             first
               | exact ⟨rfl, HB2.out⟩
               | (exfalso; omega)
               | exact ⟨ret_bool (decide_eq_true (by omega)), HB2.out⟩
               | exact ⟨ret_bool (by simp; omega), HB2.out⟩
       · have RA1 := Lib.hid (rounds_is (o : Int) (2000) (by omega))
         have RA2 := Lib.hid (rounds_is ((o : Int) + 1) (2000) (by omega))
         have h199 : ¬ (o : Int) < 200 := by omega
         go_wp2_with fail
         refine (T.out _).mono ?_
         rintro e w1 ⟨rfl, b1⟩
         have cl := two_cells w w1 ⟨0, 0, 0, 0, K, 0, 0, 0, 0, 0⟩ _ _ (b1.mono (by simp))
         have q0 := cl 0 _ rfl
         have q1 := cl 1 _ rfl
         have q2 := cl 2 _ rfl
         have q3 := cl 3 _ rfl
         have q4 := cl 4 _ rfl
         have q5 := cl 5 _ rfl
         have q6 := cl 6 _ rfl
         have q7 := cl 7 _ rfl
         have q8 := cl 8 _ rfl
         have q9 := cl 9 _ rfl
         simp only at q0 q1 q2 q3 q4 q5 q6 q7 q8 q9
         have HB := Lib.hid (show Below w.heap.size w w1 from (((Below.refl _ _).alloc (Nat.le_refl _) _).alloc (by simp) _).trans (b1.mono (by simp; omega)))
         clear b1 cl
         go_wp2_with fail
         refine (CC.out _).mono ?_
         rintro e w2 ⟨rfl, b2⟩
         have HB2 := Lib.hid (HB.out.trans (b2.mono HB.out.size))
         clear b2
         cases mk
         all_goals
           go_wp2_with fail
           refine (RA1.out _).mono ?_
           rintro e w' ⟨rfl, rfl⟩
           go_wp2_with fail
           refine (RA2.out _).mono ?_
           rintro e w' ⟨rfl, rfl⟩
           go_wp2_with fail
           refine (RA1.out _).mono ?_
           rintro e w' ⟨rfl, rfl⟩
           go_wp2
           all_goals
             go_ret
             first
               | exact ⟨rfl, HB2.out⟩
               | (exfalso; omega)
               | exact ⟨ret_bool (decide_eq_true (by omega)), HB2.out⟩
               | exact ⟨ret_bool (by simp; omega), HB2.out⟩
     · have CC := Lib.hid (conf_is ⟨0, K, 0, 0, 0, 0, 0, 0, 0, 0⟩ mk (by rw [← HMK.out]; exact decide_eq_decide.2 (by unfold MayC stockOk MayFs fundOk; simp only; omega)))
       by_cases h200 : o < 200
       · have RA1 := Lib.hid (rounds_is (o : Int) (1000 + 5 * (o : Int)) (by omega))
         have RA2 := Lib.hid (rounds_is ((o : Int) + 1) (1000 + 5 * ((o : Int) + 1)) (by omega))
         go_wp2_with fail
         refine (T.out _).mono ?_
         rintro e w1 ⟨rfl, b1⟩
         have cl := two_cells w w1 ⟨0, K, 0, 0, 0, 0, 0, 0, 0, 0⟩ _ _ (b1.mono (by simp))
         have q0 := cl 0 _ rfl
         have q1 := cl 1 _ rfl
         have q2 := cl 2 _ rfl
         have q3 := cl 3 _ rfl
         have q4 := cl 4 _ rfl
         have q5 := cl 5 _ rfl
         have q6 := cl 6 _ rfl
         have q7 := cl 7 _ rfl
         have q8 := cl 8 _ rfl
         have q9 := cl 9 _ rfl
         simp only at q0 q1 q2 q3 q4 q5 q6 q7 q8 q9
         have HB := Lib.hid (show Below w.heap.size w w1 from (((Below.refl _ _).alloc (Nat.le_refl _) _).alloc (by simp) _).trans (b1.mono (by simp; omega)))
         clear b1 cl
         go_wp2_with fail
         refine (CC.out _).mono ?_
         rintro e w2 ⟨rfl, b2⟩
         have HB2 := Lib.hid (HB.out.trans (b2.mono HB.out.size))
         clear b2
         cases mk
         all_goals
           go_wp2_with fail
           refine (RA1.out _).mono ?_
           rintro e w' ⟨rfl, rfl⟩
           go_wp2_with fail
           refine (RA2.out _).mono ?_
           rintro e w' ⟨rfl, rfl⟩
           go_wp2_with fail
           refine (RA1.out _).mono ?_
           rintro e w' ⟨rfl, rfl⟩
           go_wp2
           all_goals
             go_ret
             first
               | exact ⟨rfl, HB2.out⟩
               | (exfalso; omega)
               | exact ⟨ret_bool (decide_eq_true (by omega)), HB2.out⟩
               | exact ⟨ret_bool (by simp; omega), HB2.out⟩
       · have RA1 := Lib.hid (rounds_is (o : Int) (2000) (by omega))
         have RA2 := Lib.hid (rounds_is ((o : Int) + 1) (2000) (by omega))
         have h199 : ¬ (o : Int) < 200 := by omega
         go_wp2_with fail
         refine (T.out _).mono ?_
         rintro e w1 ⟨rfl, b1⟩
         have cl := two_cells w w1 ⟨0, K, 0, 0, 0, 0, 0, 0, 0, 0⟩ _ _ (b1.mono (by simp))
         have q0 := cl 0 _ rfl
         have q1 := cl 1 _ rfl
         have q2 := cl 2 _ rfl
         have q3 := cl 3 _ rfl
         have q4 := cl 4 _ rfl
         have q5 := cl 5 _ rfl
         have q6 := cl 6 _ rfl
         have q7 := cl 7 _ rfl
         have q8 := cl 8 _ rfl
         have q9 := cl 9 _ rfl
         simp only at q0 q1 q2 q3 q4 q5 q6 q7 q8 q9
         have HB := Lib.hid (show Below w.heap.size w w1 from (((Below.refl _ _).alloc (Nat.le_refl _) _).alloc (by simp) _).trans (b1.mono (by simp; omega)))
         clear b1 cl
         go_wp2_with fail
         refine (CC.out _).mono ?_
         rintro e w2 ⟨rfl, b2⟩
         have HB2 := Lib.hid (HB.out.trans (b2.mono HB.out.size))
         clear b2
         cases mk
         all_goals
           go_wp2_with fail
           refine (RA1.out _).mono ?_
           rintro e w' ⟨rfl, rfl⟩
           go_wp2_with fail
           refine (RA2.out _).mono ?_
           rintro e w' ⟨rfl, rfl⟩
           go_wp2_with fail
           refine (RA1.out _).mono ?_
           rintro e w' ⟨rfl, rfl⟩
           go_wp2
           all_goals
             go_ret
             first
               | exact ⟨rfl, HB2.out⟩
               | (exfalso; omega)
               | exact ⟨ret_bool (decide_eq_true (by omega)), HB2.out⟩
               | exact ⟨ret_bool (by simp; omega), HB2.out⟩
     · have CC := Lib.hid (conf_is ⟨0, 0, 0, K, 0, 0, 0, 0, 0, 0⟩ mk (by rw [← HMK.out]; exact decide_eq_decide.2 (by unfold MayC stockOk MayFs fundOk; simp only; omega)))
       by_cases h200 : o < 200
       · have RA1 := Lib.hid (rounds_is (o : Int) (1000 + 5 * (o : Int)) (by omega))
         have RA2 := Lib.hid (rounds_is ((o : Int) + 1) (1000 + 5 * ((o : Int) + 1)) (by omega))
         go_wp2_with fail
         refine (T.out _).mono ?_
         rintro e w1 ⟨rfl, b1⟩
         have cl := two_cells w w1 ⟨0, 0, 0, K, 0, 0, 0, 0, 0, 0⟩ _ _ (b1.mono (by simp))
         have q0 := cl 0 _ rfl
         have q1 := cl 1 _ rfl
         have q2 := cl 2 _ rfl
         have q3 := cl 3 _ rfl
         have q4 := cl 4 _ rfl
         have q5 := cl 5 _ rfl
         have q6 := cl 6 _ rfl
         have q7 := cl 7 _ rfl
         have q8 := cl 8 _ rfl
         have q9 := cl 9 _ rfl
         simp only at q0 q1 q2 q3 q4 q5 q6 q7 q8 q9
         have HB := Lib.hid (show Below w.heap.size w w1 from (((Below.refl _ _).alloc (Nat.le_refl _) _).alloc (by simp) _).trans (b1.mono (by simp; omega)))
         clear b1 cl
         go_wp2_with fail
         refine (CC.out _).mono ?_
         rintro e w2 ⟨rfl, b2⟩
         have HB2 := Lib.hid (HB.out.trans (b2.mono HB.out.size))
         clear b2
         cases mk
         all_goals
           go_wp2_with fail
           refine (RA1.out _).mono ?_
           rintro e w' ⟨rfl, rfl⟩
           go_wp2_with fail
           refine (RA2.out _).mono ?_
           rintro e w' ⟨rfl, rfl⟩
           go_wp2_with fail
           refine (RA1.out _).mono ?_
           rintro e w' ⟨rfl, rfl⟩
           go_wp2
           all_goals
             go_ret
             first
               | exact ⟨rfl, HB2.out⟩
               | (exfalso; omega)
               | exact ⟨ret_bool (decide_eq_true (by omega)), HB2.out⟩
               | exact ⟨ret_bool (by simp; omega), HB2.out⟩
       · have RA1 := Lib.hid (rounds_is (o : Int) (2000) (by omega))
         have RA2 := Lib.hid (rounds_is ((o : Int) + 1) (2000) (by omega))
         have h199 : ¬ (o : Int) < 200 := by omega
         go_wp2_with fail
         refine (T.out _).mono ?_
         rintro e w1 ⟨rfl, b1⟩
         have cl := two_cells w w1 ⟨0, 0, 0, K, 0, 0, 0, 0, 0, 0⟩ _ _ (b1.mono (by simp))
         have q0 := cl 0 _ rfl
         have q1 := cl 1 _ rfl
         have q2 := cl 2 _ rfl
         have q3 := cl 3 _ rfl
         have q4 := cl 4 _ rfl
         have q5 := cl 5 _ rfl
         have q6 := cl 6 _ rfl
         have q7 := cl 7 _ rfl
         have q8 := cl 8 _ rfl
         have q9 := cl 9 _ rfl
         simp only at q0 q1 q2 q3 q4 q5 q6 q7 q8 q9
         have HB := Lib.hid (show Below w.heap.size w w1 from (((Below.refl _ _).alloc (Nat.le_refl _) _).alloc (by simp) _).trans (b1.mono (by simp; omega)))
         clear b1 cl
         go_wp2_with fail
         refine (CC.out _).mono ?_
         rintro e w2 ⟨rfl, b2⟩
         have HB2 := Lib.hid (HB.out.trans (b2.mono HB.out.size))
         clear b2
         cases mk
         all_goals
           go_wp2_with fail
           refine (RA1.out _).mono ?_
           rintro e w' ⟨rfl, rfl⟩
           go_wp2_with fail
           refine (RA2.out _).mono ?_
           rintro e w' ⟨rfl, rfl⟩
           go_wp2_with fail
           refine (RA1.out _).mono ?_
           rintro e w' ⟨rfl, rfl⟩
           go_wp2
           all_goals
             go_ret
             first
               | exact ⟨rfl, HB2.out⟩
               | (exfalso; omega)
               | exact ⟨ret_bool (decide_eq_true (by omega)), HB2.out⟩
               | exact ⟨ret_bool (by simp; omega), HB2.out⟩
     · have CC := Lib.hid (conf_is ⟨0, 0, 0, 0, 0, K, 0, 0, 0, 0⟩ mk (by rw [← HMK.out]; exact decide_eq_decide.2 (by unfold MayC stockOk MayFs fundOk; simp only; omega)))
       by_cases h200 : o < 200
       · have RA1 := Lib.hid (rounds_is (o : Int) (1000 + 5 * (o : Int)) (by omega))
         have RA2 := Lib.hid (rounds_is ((o : Int) + 1) (1000 + 5 * ((o : Int) + 1)) (by omega))
         go_wp2_with fail
         refine (T.out _).mono ?_
         rintro e w1 ⟨rfl, b1⟩
         have cl := two_cells w w1 ⟨0, 0, 0, 0, 0, K, 0, 0, 0, 0⟩ _ _ (b1.mono (by simp))
         have q0 := cl 0 _ rfl
         have q1 := cl 1 _ rfl
         have q2 := cl 2 _ rfl
         have q3 := cl 3 _ rfl
         have q4 := cl 4 _ rfl
         have q5 := cl 5 _ rfl
         have q6 := cl 6 _ rfl
         have q7 := cl 7 _ rfl
         have q8 := cl 8 _ rfl
         have q9 := cl 9 _ rfl
         simp only at q0 q1 q2 q3 q4 q5 q6 q7 q8 q9
         have HB := Lib.hid (show Below w.heap.size w w1 from (((Below.refl _ _).alloc (Nat.le_refl _) _).alloc (by simp) _).trans (b1.mono (by simp; omega)))
         clear b1 cl
         go_wp2_with fail
         refine (CC.out _).mono ?_
         rintro e w2 ⟨rfl, b2⟩
         have HB2 := Lib.hid (HB.out.trans (b2.mono HB.out.size))
         clear b2
         cases mk
         all_goals
           go_wp2_with fail
           refine (RA1.out _).mono ?_
           rintro e w' ⟨rfl, rfl⟩
           go_wp2_with fail
           refine (RA2.out _).mono ?_
           rintro e w' ⟨rfl, rfl⟩
           go_wp2_with fail
           refine (RA1.out _).mono ?_
           rintro e w' ⟨rfl, rfl⟩
           go_wp2
           all_goals
             go_ret
             first
               | exact ⟨rfl, HB2.out⟩
               | (exfalso; omega)
               | exact ⟨ret_bool (decide_eq_true (by omega)), HB2.out⟩
               | exact ⟨ret_bool (by simp; omega), HB2.out⟩
       · have RA1 := Lib.hid (rounds_is (o : Int) (2000) (by omega))
         have RA2 := Lib.hid (rounds_is ((o : Int) + 1) (2000) (by omega))
         have h199 : ¬ (o : Int) < 200 := by omega
         go_wp2_with fail
         refine (T.out _).mono ?_
         rintro e w1 ⟨rfl, b1⟩
         have cl := two_cells w w1 ⟨0, 0, 0, 0, 0, K, 0, 0, 0, 0⟩ _ _ (b1.mono (by simp))
         have q0 := cl 0 _ rfl
         have q1 := cl 1 _ rfl
         have q2 := cl 2 _ rfl
         have q3 := cl 3 _ rfl
         have q4 := cl 4 _ rfl
         have q5 := cl 5 _ rfl
         have q6 := cl 6 _ rfl
         have q7 := cl 7 _ rfl
         have q8 := cl 8 _ rfl
         have q9 := cl 9 _ rfl
         simp only at q0 q1 q2 q3 q4 q5 q6 q7 q8 q9
         have HB := Lib.hid (show Below w.heap.size w w1 from (((Below.refl _ _).alloc (Nat.le_refl _) _).alloc (by simp) _).trans (b1.mono (by simp; omega)))
         clear b1 cl
         go_wp2_with fail
         refine (CC.out _).mono ?_
         rintro e w2 ⟨rfl, b2⟩
         have HB2 := Lib.hid (HB.out.trans (b2.mono HB.out.size))
         clear b2
         cases mk
         all_goals
           go_wp2_with fail
           refine (RA1.out _).mono ?_
           rintro e w' ⟨rfl, rfl⟩
           go_wp2_with fail
           refine (RA2.out _).mono ?_
           rintro e w' ⟨rfl, rfl⟩
           go_wp2_with fail
           refine (RA1.out _).mono ?_
           rintro e w' ⟨rfl, rfl⟩
           go_wp2
           all_goals
             go_ret
             first
               | exact ⟨rfl, HB2.out⟩
               | (exfalso; omega)
               | exact ⟨ret_bool (decide_eq_true (by omega)), HB2.out⟩
               | exact ⟨ret_bool (by simp; omega), HB2.out⟩
     · go_upto_region 5 with fail
       go_cut [11] (fun k wx => MAt w k wx)
       case first =>
         have : n = 0 ∨ n = 1 ∨ n = 2 ∨ n = 3 ∨ n = 4 := by omega
         rcases this with rfl | rfl | rfl | rfl | rfl
         all_goals
           go_wp2_with fail
           go_meet
           unfold MAt
           refine ⟨_, rfl, ?_⟩
           simp only [bqW, bpW]
       case rest =>
       obtain ⟨M, rfl, rfl⟩ := hcut
       simp only [bqW, bpW]
       have : (M < 0 ∧ ¬ 0 ≤ M) ∨ (0 ≤ M ∧ M ≤ 1099511627776) ∨ (0 ≤ M ∧ ¬ M ≤ 1099511627776) := by omega
       obtain ⟨mm, CC⟩ : ∃ mm, Hid (∀ w, Calls Try.prog 38 #[C10.val ⟨0, 0, 0, 0, 0, 0, M, 0, 0, 0⟩] w fun e w' => e = .returned (.bool mm) ∧ Below w.heap.size w w') ∧ mm = decide (0 ≤ M ∧ M ≤ 1099511627776) := ⟨_, Lib.hid (conf_is ⟨0, 0, 0, 0, 0, 0, M, 0, 0, 0⟩ _ (decide_eq_decide.2 (by unfold MayC stockOk MayFs fundOk; simp only; omega))), rfl⟩
       obtain ⟨CC, hmm⟩ := CC
       rcases this with ⟨m1, m2⟩ | ⟨m1, m2⟩ | ⟨m1, m2⟩
       all_goals
        first
          | (have hm : ¬ (0 ≤ M ∧ M ≤ 1099511627776) := by omega
             rw [decide_eq_false hm] at hmm)
          | (have hm : (0 ≤ M ∧ M ≤ 1099511627776) := by omega
             rw [decide_eq_true hm] at hmm)
        subst hmm
        by_cases h200 : o < 200
        · have RA1 := Lib.hid (rounds_is (o : Int) (1000 + 5 * (o : Int)) (by omega))
          have RA2 := Lib.hid (rounds_is ((o : Int) + 1) (1000 + 5 * ((o : Int) + 1)) (by omega))
          go_wp2_with fail
          refine (T.out _).mono ?_
          rintro e w1 ⟨rfl, b1⟩
          have cl := two_cells w w1 ⟨0, 0, 0, 0, 0, 0, M, 0, 0, 0⟩ _ _ (((Below.refl _ _).alloc (Nat.le_refl _) _).trans (b1.mono (by simp)))
          have q0 := cl 0 _ rfl
          have q1 := cl 1 _ rfl
          have q2 := cl 2 _ rfl
          have q3 := cl 3 _ rfl
          have q4 := cl 4 _ rfl
          have q5 := cl 5 _ rfl
          have q6 := cl 6 _ rfl
          have q7 := cl 7 _ rfl
          have q8 := cl 8 _ rfl
          have q9 := cl 9 _ rfl
          simp only at q0 q1 q2 q3 q4 q5 q6 q7 q8 q9
          have HB := Lib.hid (show Below w.heap.size w w1 from ((((Below.refl _ _).alloc (Nat.le_refl _) _).alloc (by simp) _).alloc (by simp; omega) _).trans (b1.mono (by simp; omega)))
          clear b1 cl
          go_wp2_with fail
          refine (CC.out _).mono ?_
          rintro e w2 ⟨rfl, b2⟩
          have HB2 := Lib.hid (HB.out.trans (b2.mono HB.out.size))
          clear b2
          all_goals
            go_wp2_with fail
            refine (RA1.out _).mono ?_
            rintro e w' ⟨rfl, rfl⟩
            go_wp2_with fail
            refine (RA2.out _).mono ?_
            rintro e w' ⟨rfl, rfl⟩
            go_wp2_with fail
            refine (RA1.out _).mono ?_
            rintro e w' ⟨rfl, rfl⟩
            go_wp2
            all_goals
              go_ret
              first
                | exact ⟨rfl, HB2.out⟩
                | (exfalso; omega)
                | exact ⟨ret_bool (decide_eq_true (by omega)), HB2.out⟩
                | exact ⟨ret_bool (by simp; omega), HB2.out⟩
        · have RA1 := Lib.hid (rounds_is (o : Int) (2000) (by omega))
          have RA2 := Lib.hid (rounds_is ((o : Int) + 1) (2000) (by omega))
          have h199 : ¬ (o : Int) < 200 := by omega
          go_wp2_with fail
          refine (T.out _).mono ?_
          rintro e w1 ⟨rfl, b1⟩
          have cl := two_cells w w1 ⟨0, 0, 0, 0, 0, 0, M, 0, 0, 0⟩ _ _ (((Below.refl _ _).alloc (Nat.le_refl _) _).trans (b1.mono (by simp)))
          have q0 := cl 0 _ rfl
          have q1 := cl 1 _ rfl
          have q2 := cl 2 _ rfl
          have q3 := cl 3 _ rfl
          have q4 := cl 4 _ rfl
          have q5 := cl 5 _ rfl
          have q6 := cl 6 _ rfl
          have q7 := cl 7 _ rfl
          have q8 := cl 8 _ rfl
          have q9 := cl 9 _ rfl
          simp only at q0 q1 q2 q3 q4 q5 q6 q7 q8 q9
          have HB := Lib.hid (show Below w.heap.size w w1 from ((((Below.refl _ _).alloc (Nat.le_refl _) _).alloc (by simp) _).alloc (by simp; omega) _).trans (b1.mono (by simp; omega)))
          clear b1 cl
          go_wp2_with fail
          refine (CC.out _).mono ?_
          rintro e w2 ⟨rfl, b2⟩
          have HB2 := Lib.hid (HB.out.trans (b2.mono HB.out.size))
          clear b2
          all_goals
            go_wp2_with fail
            refine (RA1.out _).mono ?_
            rintro e w' ⟨rfl, rfl⟩
            go_wp2_with fail
            refine (RA2.out _).mono ?_
            rintro e w' ⟨rfl, rfl⟩
            go_wp2_with fail
            refine (RA1.out _).mono ?_
            rintro e w' ⟨rfl, rfl⟩
            go_wp2
            all_goals
              go_ret
              first
                | exact ⟨rfl, HB2.out⟩
                | (exfalso; omega)
                | exact ⟨ret_bool (decide_eq_true (by omega)), HB2.out⟩
                | exact ⟨ret_bool (by simp; omega), HB2.out⟩
     · go_upto_region 5 with fail
       go_cut [11] (fun k wx => MAt w k wx)
       case first =>
         have : n = 0 ∨ n = 1 ∨ n = 2 ∨ n = 3 ∨ n = 4 := by omega
         rcases this with rfl | rfl | rfl | rfl | rfl
         all_goals
           go_wp2_with fail
           go_meet
           unfold MAt
           refine ⟨_, rfl, ?_⟩
           simp only [bqW, bpW]
       case rest =>
       obtain ⟨M, rfl, rfl⟩ := hcut
       simp only [bqW, bpW]
       have : (M < 0 ∧ ¬ 0 ≤ M) ∨ (0 ≤ M ∧ M ≤ 1099511627776) ∨ (0 ≤ M ∧ ¬ M ≤ 1099511627776) := by omega
       obtain ⟨mm, CC⟩ : ∃ mm, Hid (∀ w, Calls Try.prog 38 #[C10.val ⟨0, 0, 0, 0, 0, 0, 0, M, 0, 0⟩] w fun e w' => e = .returned (.bool mm) ∧ Below w.heap.size w w') ∧ mm = decide (0 ≤ M ∧ M ≤ 1099511627776) := ⟨_, Lib.hid (conf_is ⟨0, 0, 0, 0, 0, 0, 0, M, 0, 0⟩ _ (decide_eq_decide.2 (by unfold MayC stockOk MayFs fundOk; simp only; omega))), rfl⟩
       obtain ⟨CC, hmm⟩ := CC
       rcases this with ⟨m1, m2⟩ | ⟨m1, m2⟩ | ⟨m1, m2⟩
       all_goals
        first
          | (have hm : ¬ (0 ≤ M ∧ M ≤ 1099511627776) := by omega
             rw [decide_eq_false hm] at hmm)
          | (have hm : (0 ≤ M ∧ M ≤ 1099511627776) := by omega
             rw [decide_eq_true hm] at hmm)
        subst hmm
        by_cases h200 : o < 200
        · have RA1 := Lib.hid (rounds_is (o : Int) (1000 + 5 * (o : Int)) (by omega))
          have RA2 := Lib.hid (rounds_is ((o : Int) + 1) (1000 + 5 * ((o : Int) + 1)) (by omega))
          go_wp2_with fail
          refine (T.out _).mono ?_
          rintro e w1 ⟨rfl, b1⟩
          have cl := two_cells w w1 ⟨0, 0, 0, 0, 0, 0, 0, M, 0, 0⟩ _ _ (((Below.refl _ _).alloc (Nat.le_refl _) _).trans (b1.mono (by simp)))
          have q0 := cl 0 _ rfl
          have q1 := cl 1 _ rfl
          have q2 := cl 2 _ rfl
          have q3 := cl 3 _ rfl
          have q4 := cl 4 _ rfl
          have q5 := cl 5 _ rfl
          have q6 := cl 6 _ rfl
          have q7 := cl 7 _ rfl
          have q8 := cl 8 _ rfl
          have q9 := cl 9 _ rfl
          simp only at q0 q1 q2 q3 q4 q5 q6 q7 q8 q9
          have HB := Lib.hid (show Below w.heap.size w w1 from ((((Below.refl _ _).alloc (Nat.le_refl _) _).alloc (by simp) _).alloc (by simp; omega) _).trans (b1.mono (by simp; omega)))
          clear b1 cl
          go_wp2_with fail
          refine (CC.out _).mono ?_
          rintro e w2 ⟨rfl, b2⟩
          have HB2 := Lib.hid (HB.out.trans (b2.mono HB.out.size))
          clear b2
          all_goals
            go_wp2_with fail
            refine (RA1.out _).mono ?_
            rintro e w' ⟨rfl, rfl⟩
            go_wp2_with fail
            refine (RA2.out _).mono ?_
            rintro e w' ⟨rfl, rfl⟩
            go_wp2_with fail
            refine (RA1.out _).mono ?_
            rintro e w' ⟨rfl, rfl⟩
            go_wp2
            all_goals
              go_ret
              first
                | exact ⟨rfl, HB2.out⟩
                | (exfalso; omega)
                | exact ⟨ret_bool (decide_eq_true (by omega)), HB2.out⟩
                | exact ⟨ret_bool (by simp; omega), HB2.out⟩
        · have RA1 := Lib.hid (rounds_is (o : Int) (2000) (by omega))
          have RA2 := Lib.hid (rounds_is ((o : Int) + 1) (2000) (by omega))
          have h199 : ¬ (o : Int) < 200 := by omega
          go_wp2_with fail
          refine (T.out _).mono ?_
          rintro e w1 ⟨rfl, b1⟩
          have cl := two_cells w w1 ⟨0, 0, 0, 0, 0, 0, 0, M, 0, 0⟩ _ _ (((Below.refl _ _).alloc (Nat.le_refl _) _).trans (b1.mono (by simp)))
          have q0 := cl 0 _ rfl
          have q1 := cl 1 _ rfl
          have q2 := cl 2 _ rfl
          have q3 := cl 3 _ rfl
          have q4 := cl 4 _ rfl
          have q5 := cl 5 _ rfl
          have q6 := cl 6 _ rfl
          have q7 := cl 7 _ rfl
          have q8 := cl 8 _ rfl
          have q9 := cl 9 _ rfl
          simp only at q0 q1 q2 q3 q4 q5 q6 q7 q8 q9
          have HB := Lib.hid (show Below w.heap.size w w1 from ((((Below.refl _ _).alloc (Nat.le_refl _) _).alloc (by simp) _).alloc (by simp; omega) _).trans (b1.mono (by simp; omega)))
          clear b1 cl
          go_wp2_with fail
          refine (CC.out _).mono ?_
          rintro e w2 ⟨rfl, b2⟩
          have HB2 := Lib.hid (HB.out.trans (b2.mono HB.out.size))
          clear b2
          all_goals
            go_wp2_with fail
            refine (RA1.out _).mono ?_
            rintro e w' ⟨rfl, rfl⟩
            go_wp2_with fail
            refine (RA2.out _).mono ?_
            rintro e w' ⟨rfl, rfl⟩
            go_wp2_with fail
            refine (RA1.out _).mono ?_
            rintro e w' ⟨rfl, rfl⟩
            go_wp2
            all_goals
              go_ret
              first
                | exact ⟨rfl, HB2.out⟩
                | (exfalso; omega)
                | exact ⟨ret_bool (decide_eq_true (by omega)), HB2.out⟩
                | exact ⟨ret_bool (by simp; omega), HB2.out⟩
     · go_upto_region 5 with fail
       go_cut [11] (fun k wx => MAt w k wx)
       case first =>
         have : n = 0 ∨ n = 1 ∨ n = 2 ∨ n = 3 ∨ n = 4 := by omega
         rcases this with rfl | rfl | rfl | rfl | rfl
         all_goals
           go_wp2_with fail
           go_meet
           unfold MAt
           refine ⟨_, rfl, ?_⟩
           simp only [bqW, bpW]
       case rest =>
       obtain ⟨M, rfl, rfl⟩ := hcut
       simp only [bqW, bpW]
       have : (M < 0 ∧ ¬ 0 ≤ M) ∨ (0 ≤ M ∧ M ≤ 1099511627776) ∨ (0 ≤ M ∧ ¬ M ≤ 1099511627776) := by omega
       obtain ⟨mm, CC⟩ : ∃ mm, Hid (∀ w, Calls Try.prog 38 #[C10.val ⟨0, 0, 0, 0, 0, 0, 0, 0, M, 0⟩] w fun e w' => e = .returned (.bool mm) ∧ Below w.heap.size w w') ∧ mm = decide (0 ≤ M ∧ M ≤ 1099511627776) := ⟨_, Lib.hid (conf_is ⟨0, 0, 0, 0, 0, 0, 0, 0, M, 0⟩ _ (decide_eq_decide.2 (by unfold MayC stockOk MayFs fundOk; simp only; omega))), rfl⟩
       obtain ⟨CC, hmm⟩ := CC
       rcases this with ⟨m1, m2⟩ | ⟨m1, m2⟩ | ⟨m1, m2⟩
       all_goals
        first
          | (have hm : ¬ (0 ≤ M ∧ M ≤ 1099511627776) := by omega
             rw [decide_eq_false hm] at hmm)
          | (have hm : (0 ≤ M ∧ M ≤ 1099511627776) := by omega
             rw [decide_eq_true hm] at hmm)
        subst hmm
        by_cases h200 : o < 200
        · have RA1 := Lib.hid (rounds_is (o : Int) (1000 + 5 * (o : Int)) (by omega))
          have RA2 := Lib.hid (rounds_is ((o : Int) + 1) (1000 + 5 * ((o : Int) + 1)) (by omega))
          go_wp2_with fail
          refine (T.out _).mono ?_
          rintro e w1 ⟨rfl, b1⟩
          have cl := two_cells w w1 ⟨0, 0, 0, 0, 0, 0, 0, 0, M, 0⟩ _ _ (((Below.refl _ _).alloc (Nat.le_refl _) _).trans (b1.mono (by simp)))
          have q0 := cl 0 _ rfl
          have q1 := cl 1 _ rfl
          have q2 := cl 2 _ rfl
          have q3 := cl 3 _ rfl
          have q4 := cl 4 _ rfl
          have q5 := cl 5 _ rfl
          have q6 := cl 6 _ rfl
          have q7 := cl 7 _ rfl
          have q8 := cl 8 _ rfl
          have q9 := cl 9 _ rfl
          simp only at q0 q1 q2 q3 q4 q5 q6 q7 q8 q9
          have HB := Lib.hid (show Below w.heap.size w w1 from ((((Below.refl _ _).alloc (Nat.le_refl _) _).alloc (by simp) _).alloc (by simp; omega) _).trans (b1.mono (by simp; omega)))
          clear b1 cl
          go_wp2_with fail
          refine (CC.out _).mono ?_
          rintro e w2 ⟨rfl, b2⟩
          have HB2 := Lib.hid (HB.out.trans (b2.mono HB.out.size))
          clear b2
          all_goals
            go_wp2_with fail
            refine (RA1.out _).mono ?_
            rintro e w' ⟨rfl, rfl⟩
            go_wp2_with fail
            refine (RA2.out _).mono ?_
            rintro e w' ⟨rfl, rfl⟩
            go_wp2_with fail
            refine (RA1.out _).mono ?_
            rintro e w' ⟨rfl, rfl⟩
            go_wp2
            all_goals
              go_ret
              first
                | exact ⟨rfl, HB2.out⟩
                | (exfalso; omega)
                | exact ⟨ret_bool (decide_eq_true (by omega)), HB2.out⟩
                | exact ⟨ret_bool (by simp; omega), HB2.out⟩
        · have RA1 := Lib.hid (rounds_is (o : Int) (2000) (by omega))
          have RA2 := Lib.hid (rounds_is ((o : Int) + 1) (2000) (by omega))
          have h199 : ¬ (o : Int) < 200 := by omega
          go_wp2_with fail
          refine (T.out _).mono ?_
          rintro e w1 ⟨rfl, b1⟩
          have cl := two_cells w w1 ⟨0, 0, 0, 0, 0, 0, 0, 0, M, 0⟩ _ _ (((Below.refl _ _).alloc (Nat.le_refl _) _).trans (b1.mono (by simp)))
          have q0 := cl 0 _ rfl
          have q1 := cl 1 _ rfl
          have q2 := cl 2 _ rfl
          have q3 := cl 3 _ rfl
          have q4 := cl 4 _ rfl
          have q5 := cl 5 _ rfl
          have q6 := cl 6 _ rfl
          have q7 := cl 7 _ rfl
          have q8 := cl 8 _ rfl
          have q9 := cl 9 _ rfl
          simp only at q0 q1 q2 q3 q4 q5 q6 q7 q8 q9
          have HB := Lib.hid (show Below w.heap.size w w1 from ((((Below.refl _ _).alloc (Nat.le_refl _) _).alloc (by simp) _).alloc (by simp; omega) _).trans (b1.mono (by simp; omega)))
          clear b1 cl
          go_wp2_with fail
          refine (CC.out _).mono ?_
          rintro e w2 ⟨rfl, b2⟩
          have HB2 := Lib.hid (HB.out.trans (b2.mono HB.out.size))
          clear b2
          all_goals
            go_wp2_with fail
            refine (RA1.out _).mono ?_
            rintro e w' ⟨rfl, rfl⟩
            go_wp2_with fail
            refine (RA2.out _).mono ?_
            rintro e w' ⟨rfl, rfl⟩
            go_wp2_with fail
            refine (RA1.out _).mono ?_
            rintro e w' ⟨rfl, rfl⟩
            go_wp2
            all_goals
              go_ret
              first
                | exact ⟨rfl, HB2.out⟩
                | (exfalso; omega)
                | exact ⟨ret_bool (decide_eq_true (by omega)), HB2.out⟩
                | exact ⟨ret_bool (by simp; omega), HB2.out⟩
     · go_upto_region 5 with fail
       go_cut [11] (fun k wx => MAt w k wx)
       case first =>
         have : n = 0 ∨ n = 1 ∨ n = 2 ∨ n = 3 ∨ n = 4 := by omega
         rcases this with rfl | rfl | rfl | rfl | rfl
         all_goals
           go_wp2_with fail
           go_meet
           unfold MAt
           refine ⟨_, rfl, ?_⟩
           simp only [bqW, bpW]
       case rest =>
       obtain ⟨M, rfl, rfl⟩ := hcut
       simp only [bqW, bpW]
       have : (M < 0 ∧ ¬ 0 ≤ M) ∨ (0 ≤ M ∧ M ≤ 1099511627776) ∨ (0 ≤ M ∧ ¬ M ≤ 1099511627776) := by omega
       obtain ⟨mm, CC⟩ : ∃ mm, Hid (∀ w, Calls Try.prog 38 #[C10.val ⟨0, 0, 0, 0, 0, 0, 0, 0, 0, M⟩] w fun e w' => e = .returned (.bool mm) ∧ Below w.heap.size w w') ∧ mm = decide (0 ≤ M ∧ M ≤ 1099511627776) := ⟨_, Lib.hid (conf_is ⟨0, 0, 0, 0, 0, 0, 0, 0, 0, M⟩ _ (decide_eq_decide.2 (by unfold MayC stockOk MayFs fundOk; simp only; omega))), rfl⟩
       obtain ⟨CC, hmm⟩ := CC
       rcases this with ⟨m1, m2⟩ | ⟨m1, m2⟩ | ⟨m1, m2⟩
       all_goals
        first
          | (have hm : ¬ (0 ≤ M ∧ M ≤ 1099511627776) := by omega
             rw [decide_eq_false hm] at hmm)
          | (have hm : (0 ≤ M ∧ M ≤ 1099511627776) := by omega
             rw [decide_eq_true hm] at hmm)
        subst hmm
        by_cases h200 : o < 200
        · have RA1 := Lib.hid (rounds_is (o : Int) (1000 + 5 * (o : Int)) (by omega))
          have RA2 := Lib.hid (rounds_is ((o : Int) + 1) (1000 + 5 * ((o : Int) + 1)) (by omega))
          go_wp2_with fail
          refine (T.out _).mono ?_
          rintro e w1 ⟨rfl, b1⟩
          have cl := two_cells w w1 ⟨0, 0, 0, 0, 0, 0, 0, 0, 0, M⟩ _ _ (((Below.refl _ _).alloc (Nat.le_refl _) _).trans (b1.mono (by simp)))
          have q0 := cl 0 _ rfl
          have q1 := cl 1 _ rfl
          have q2 := cl 2 _ rfl
          have q3 := cl 3 _ rfl
          have q4 := cl 4 _ rfl
          have q5 := cl 5 _ rfl
          have q6 := cl 6 _ rfl
          have q7 := cl 7 _ rfl
          have q8 := cl 8 _ rfl
          have q9 := cl 9 _ rfl
          simp only at q0 q1 q2 q3 q4 q5 q6 q7 q8 q9
          have HB := Lib.hid (show Below w.heap.size w w1 from ((((Below.refl _ _).alloc (Nat.le_refl _) _).alloc (by simp) _).alloc (by simp; omega) _).trans (b1.mono (by simp; omega)))
          clear b1 cl
          go_wp2_with fail
          refine (CC.out _).mono ?_
          rintro e w2 ⟨rfl, b2⟩
          have HB2 := Lib.hid (HB.out.trans (b2.mono HB.out.size))
          clear b2
          all_goals
            go_wp2_with fail
            refine (RA1.out _).mono ?_
            rintro e w' ⟨rfl, rfl⟩
            go_wp2_with fail
            refine (RA2.out _).mono ?_
            rintro e w' ⟨rfl, rfl⟩
            go_wp2_with fail
            refine (RA1.out _).mono ?_
            rintro e w' ⟨rfl, rfl⟩
            go_wp2
            all_goals
              go_ret
              first
                | exact ⟨rfl, HB2.out⟩
                | (exfalso; omega)
                | exact ⟨ret_bool (decide_eq_true (by omega)), HB2.out⟩
                | exact ⟨ret_bool (by simp; omega), HB2.out⟩
        · have RA1 := Lib.hid (rounds_is (o : Int) (2000) (by omega))
          have RA2 := Lib.hid (rounds_is ((o : Int) + 1) (2000) (by omega))
          have h199 : ¬ (o : Int) < 200 := by omega
          go_wp2_with fail
          refine (T.out _).mono ?_
          rintro e w1 ⟨rfl, b1⟩
          have cl := two_cells w w1 ⟨0, 0, 0, 0, 0, 0, 0, 0, 0, M⟩ _ _ (((Below.refl _ _).alloc (Nat.le_refl _) _).trans (b1.mono (by simp)))
          have q0 := cl 0 _ rfl
          have q1 := cl 1 _ rfl
          have q2 := cl 2 _ rfl
          have q3 := cl 3 _ rfl
          have q4 := cl 4 _ rfl
          have q5 := cl 5 _ rfl
          have q6 := cl 6 _ rfl
          have q7 := cl 7 _ rfl
          have q8 := cl 8 _ rfl
          have q9 := cl 9 _ rfl
          simp only at q0 q1 q2 q3 q4 q5 q6 q7 q8 q9
          have HB := Lib.hid (show Below w.heap.size w w1 from ((((Below.refl _ _).alloc (Nat.le_refl _) _).alloc (by simp) _).alloc (by simp; omega) _).trans (b1.mono (by simp; omega)))
          clear b1 cl
          go_wp2_with fail
          refine (CC.out _).mono ?_
          rintro e w2 ⟨rfl, b2⟩
          have HB2 := Lib.hid (HB.out.trans (b2.mono HB.out.size))
          clear b2
          all_goals
            go_wp2_with fail
            refine (RA1.out _).mono ?_
            rintro e w' ⟨rfl, rfl⟩
            go_wp2_with fail
            refine (RA2.out _).mono ?_
            rintro e w' ⟨rfl, rfl⟩
            go_wp2_with fail
            refine (RA1.out _).mono ?_
            rintro e w' ⟨rfl, rfl⟩
            go_wp2
            all_goals
              go_ret
              first
                | exact ⟨rfl, HB2.out⟩
                | (exfalso; omega)
                | exact ⟨ret_bool (decide_eq_true (by omega)), HB2.out⟩
                | exact ⟨ret_bool (by simp; omega), HB2.out⟩
end Go.Proofs.Ytblpkcoapbkppaa
