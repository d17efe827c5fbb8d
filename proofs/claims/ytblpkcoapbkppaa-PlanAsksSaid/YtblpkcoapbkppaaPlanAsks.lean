/- The law PlanAsks, walked. -/
import Derived.Test.YtblpkcoapbkppaaPlanTold
import Derived.Outline
set_option linter.unusedSimpArgs false
set_option linter.unusedVariables false
namespace Go.Proofs.Ytblpkcoapbkppaa
open Go.RowKit
/-- A step lies in block g. -/
structure SixAt (w : World) (g : Nat) (a : A6) : Prop where
  c0 : w.cell? ⟨g, 0, none⟩ = some (.int .i64 a.node)
  c1 : w.cell? ⟨g, 1, none⟩ = some (.int .i64 a.kind)
  c2 : w.cell? ⟨g, 2, none⟩ = some (.int .i64 a.book)
  c3 : w.cell? ⟨g, 3, none⟩ = some (.int .i64 a.units)
  c4 : w.cell? ⟨g, 4, none⟩ = some (.int .i64 a.cust)
  c5 : w.cell? ⟨g, 5, none⟩ = some (.int .i64 a.amount)
theorem SixAt.below {w w' : World} {D g : Nat} {a : A6} (h : SixAt w g a) (hb : Below D w w') (hd : g < D) : SixAt w' g a :=
  ⟨bcell hb h.c0 hd, bcell hb h.c1 hd, bcell hb h.c2 hd, bcell hb h.c3 hd, bcell hb h.c4 hd, bcell hb h.c5 hd⟩
theorem SixAt.lt {w : World} {g : Nat} {a : A6} (h : SixAt w g a) : g < w.heap.size := cell_in h.c0
theorem SixAt.next {w w' : World} {g : Nat} {a : A6} (h : SixAt w g a) (hb : Below w.heap.size w w') : SixAt w' g a := h.below hb h.lt
theorem SixAt.drew {w : World} {g : Nat} {a : A6} (h : SixAt w g a) : SixAt w.drew g a := ⟨h.c0, h.c1, h.c2, h.c3, h.c4, h.c5⟩
theorem SixAt.conj {w : World} {g : Nat} {a : A6} (h : SixAt w g a) : w.cell? ⟨g, 0, none⟩ = some (.int .i64 a.node) ∧ w.cell? ⟨g, 1, none⟩ = some (.int .i64 a.kind) ∧ w.cell? ⟨g, 2, none⟩ = some (.int .i64 a.book) ∧ w.cell? ⟨g, 3, none⟩ = some (.int .i64 a.units) ∧ w.cell? ⟨g, 4, none⟩ = some (.int .i64 a.cust) ∧ w.cell? ⟨g, 5, none⟩ = some (.int .i64 a.amount) := ⟨h.c0, h.c1, h.c2, h.c3, h.c4, h.c5⟩
theorem capture_is (x : W7) (ca : A6) (h : captureA x = ca) (w : World) : Calls Try.prog 26 #[x.val] w fun e w' => e = .returned (.agg #[.int .i64 ca.node, .int .i64 ca.kind, .int .i64 ca.book, .int .i64 ca.units, .int .i64 ca.cust, .int .i64 ca.amount]) ∧ Below w.heap.size w w' := by
  have := capture_c x w; rw [h] at this; exact this
theorem rcapture_is (x : W7) (ca : A6) (h : captureA x = ca) (w : World) : Calls Try.prog 27 #[x.val] w fun e w' => e = .returned (.agg #[.int .i64 ca.node, .int .i64 ca.kind, .int .i64 ca.book, .int .i64 ca.units, .int .i64 ca.cust, .int .i64 ca.amount]) ∧ Below w.heap.size w w' := by
  have := rcapture_c x w; rw [h] at this; exact this
theorem parts_idx (x : W7) (k : Nat) (hk : k < 3) (h : 0 < x.u k) : (partsK x 3)[(partsK x k).length]? = some (k : Int) := by
  have : k = 0 ∨ k = 1 ∨ k = 2 := by omega
  rcases this with rfl | rfl | rfl
  · simp [partsK, h]
  · simp only [partsK]
    by_cases a : 0 < x.u 0 <;> simp [a, h]
  · simp only [partsK]
    by_cases a : 0 < x.u 0 <;> by_cases b : 0 < x.u 1 <;> simp [a, b, h]
theorem parts_lt (x : W7) (k : Nat) (hk : k < 3) (h : 0 < x.u k) : (partsK x k).length < (partsK x 3).length := by
  have := parts_idx x k hk h
  rcases Nat.lt_or_ge (partsK x k).length (partsK x 3).length with h' | h'
  · exact h'
  · rw [List.getElem?_eq_none h'] at this; cases this
theorem CH.alloc {w wc : World} {x : W7} (h : CH w x wc) (o : Obj) : CH w x (wc.alloc o) := CH.next h ((Below.refl _ _).alloc (Nat.le_refl _) o)
theorem CH.drew {w wc : World} {x : W7} (h : CH w x wc) : CH w x wc.drew := Below.drew h
/-- A block of six noughts that may be written. -/
structure ZeroAt (w : World) (g : Nat) : Prop where
  c0 : w.cell? ⟨g, 0, none⟩ = some (.int .i64 0)
  c1 : w.cell? ⟨g, 1, none⟩ = some (.int .i64 0)
  c2 : w.cell? ⟨g, 2, none⟩ = some (.int .i64 0)
  c3 : w.cell? ⟨g, 3, none⟩ = some (.int .i64 0)
  c4 : w.cell? ⟨g, 4, none⟩ = some (.int .i64 0)
  c5 : w.cell? ⟨g, 5, none⟩ = some (.int .i64 0)
  fr : ∀ j, w.frozen? ⟨g, j, none⟩ = false
  lt : g < w.heap.size
theorem ZeroAt.new (w : World) (t : TypeId) (g : Nat) (h : w.heap.size = g) : ZeroAt (w.alloc (.cells #[.int .i64 0, .int .i64 0, .int .i64 0, .int .i64 0, .int .i64 0, .int .i64 0] t)) g := by
  subst h
  have hr := heap_alloc_new w (.cells #[.int .i64 0, .int .i64 0, .int .i64 0, .int .i64 0, .int .i64 0, .int .i64 0] t)
  exact ⟨World.news_of_block hr 0 _ rfl, World.news_of_block hr 1 _ rfl, World.news_of_block hr 2 _ rfl, World.news_of_block hr 3 _ rfl, World.news_of_block hr 4 _ rfl, World.news_of_block hr 5 _ rfl, fun j => frozen_of_row _ _ j _ _ hr, by simp⟩
theorem ZeroAt.next {w w' : World} {g : Nat} (h : ZeroAt w g) (hb : Below w.heap.size w w') : ZeroAt w' g :=
  ⟨bcell hb h.c0 h.lt, bcell hb h.c1 h.lt, bcell hb h.c2 h.lt, bcell hb h.c3 h.lt, bcell hb h.c4 h.lt, bcell hb h.c5 h.lt, fun j => (hb.frozen (p := ⟨g, j, none⟩) h.lt).trans (h.fr j), Nat.lt_of_lt_of_le h.lt hb.size⟩
theorem ZeroAt.alloc {w : World} {g : Nat} (h : ZeroAt w g) (o : Obj) : ZeroAt (w.alloc o) g := h.next ((Below.refl _ _).alloc (Nat.le_refl _) o)
theorem CH.setCell {w wc : World} {x : W7} (h : CH w x wc) (g j : Nat) (u : Value) (hg : w.heap.size + 1 ≤ g) : CH w x (wc.setCell ⟨g, j, none⟩ u) := Below.setCell h (p := ⟨g, j, none⟩) hg u
theorem bcellU {W w1 : World} (hb : Below W.heap.size W w1) : (∀ b o, b < W.heap.size → w1.cell? ⟨b, o, none⟩ = W.cell? ⟨b, o, none⟩) ∧ (∀ b o, b < W.heap.size → w1.frozen? ⟨b, o, none⟩ = W.frozen? ⟨b, o, none⟩) :=
  ⟨fun b o h => hb.cell (p := ⟨b, o, none⟩) h, fun b o h => hb.frozen (p := ⟨b, o, none⟩) h⟩
def CDAt (w : World) (x : W7) (ca : A6) (c d : Value) (wx : World) : Prop := ∃ gc gd, c = .pointer (some ⟨gc, 0, none⟩) ∧ d = .pointer (some ⟨gd, 0, none⟩) ∧ SixAt wx gc ca ∧ SixAt wx gd ca ∧ CH w x wx
def FalseAt (w : World) (x : W7) (b : Value) (wx : World) : Prop := b = .bool false ∧ CH w x wx
set_option maxRecDepth 100000 in
set_option maxHeartbeats 16000000 in
theorem asks_walk (x : W7) (w : World) : Calls Try.prog 9 #[x.val] w fun e w' => e = .returned (.bool true) ∧ Below w.heap.size w w' := by
  obtain ⟨ca, hca⟩ : ∃ ca, captureA x = ca := ⟨_, rfl⟩
  have CC := Lib.hid (capture_is x ca hca)
  have CR := Lib.hid (rcapture_is x ca hca)
  have FC := Lib.hid (forward_c x)
  have FR := Lib.hid (rforward_c x)
  have KC := Lib.hid (back_c x)
  have KR := Lib.hid (rback_c x)
  have PC := Lib.hid (parts_c x)
  obtain ⟨mm, hmm⟩ : ∃ m, decide (MayW x) = m := ⟨_, rfl⟩
  have MC := Lib.hid (rmay_is x mm hmm)
  have HPAR := Lib.hid (show parts x = partsB x mm 3 from by unfold parts; rw [hmm])
  clear hmm
  have BB : CH w x (bxW w x) := Below.refl _ _
  unfold bxW at BB
  have nF : (forwardL x).length ≤ 1000 := by unfold forwardL; have := partsE_len x 1; have := partsE_len x 2; have := purseL_len x 4; simp only [List.length_append]; omega
  have nK : (backL x).length ≤ 1000 := by unfold backL; have := partsE_len x 3; have := purseL_len x 6; simp only [List.length_append, List.length_reverse]; omega
  generalize forwardL x = fl at *
  generalize backL x = bl at *
  clear hca
  unfold W7.val at *
  go_enter Try.func9, Try.ntmps9
  go_upto_region 1 with fail
  go_cut [3, 4] (fun c d wx => CDAt w x ca c d wx)
  case first =>
    go_region_held3 (fun w' => w'.cell? ⟨w.heap.size, 0, none⟩ = some (.int .i64 x.b) ∧ w'.cell? ⟨w.heap.size, 1, none⟩ = some (.int .i64 x.c) ∧ w'.cell? ⟨w.heap.size, 2, none⟩ = some (.int .i64 x.d) ∧ w'.cell? ⟨w.heap.size, 3, none⟩ = some (.int .i64 x.m0) ∧ w'.cell? ⟨w.heap.size, 4, none⟩ = some (.int .i64 x.m1) ∧ w'.cell? ⟨w.heap.size, 5, none⟩ = some (.int .i64 x.m2) ∧ w'.cell? ⟨w.heap.size, 6, none⟩ = some (.int .i64 x.p)) (first | (refine CH.cells (wc := _) ?_; (first | (first | (with_reducible exact BBB) | (with_reducible exact BBA) | (with_reducible exact BB)) | ((first | (with_reducible refine CH.drew ?_) | (with_reducible refine CH.alloc ?_ _) | (iterate 6 ((with_reducible refine CH.setCell ?_ _ _ _ ?_); rotate_left; omega))); (first | (first | (with_reducible exact BBB) | (with_reducible exact BBA) | (with_reducible exact BB)) | ((first | (with_reducible refine CH.drew ?_) | (with_reducible refine CH.alloc ?_ _) | (iterate 6 ((with_reducible refine CH.setCell ?_ _ _ _ ?_); rotate_left; omega))); (first | (first | (with_reducible exact BBB) | (with_reducible exact BBA) | (with_reducible exact BB)) | ((first | (with_reducible refine CH.drew ?_) | (with_reducible refine CH.alloc ?_ _) | (iterate 6 ((with_reducible refine CH.setCell ?_ _ _ _ ?_); rotate_left; omega))); (first | (first | (with_reducible exact BBB) | (with_reducible exact BBA) | (with_reducible exact BB)) | ((first | (with_reducible refine CH.drew ?_) | (with_reducible refine CH.alloc ?_ _) | (iterate 6 ((with_reducible refine CH.setCell ?_ _ _ _ ?_); rotate_left; omega))); (first | (first | (with_reducible exact BBB) | (with_reducible exact BBA) | (with_reducible exact BB)) | ((first | (with_reducible refine CH.drew ?_) | (with_reducible refine CH.alloc ?_ _) | (iterate 6 ((with_reducible refine CH.setCell ?_ _ _ _ ?_); rotate_left; omega))); (first | (with_reducible exact BBB) | (with_reducible exact BBA) | (with_reducible exact BB)))))))))))); done) | go_keep) (first | (go_at_call 26; refine (CC.out _).mono ?_; rintro e wA ⟨rfl, hB⟩; obtain ⟨hcA, hfA⟩ := bcellU hB; have hzA := hB.size; (try simp [bxW] at hzA); (try have hzA0 : w.heap.size < wA.heap.size := by omega); (try have hzA1 : w.heap.size + 1 < wA.heap.size := by omega); (try have hzA2 : w.heap.size + 2 < wA.heap.size := by omega); (have BBA : CH w x wA := by (refine CH.next ?_ hB; (first | (first | (with_reducible exact BBB) | (with_reducible exact BBA) | (with_reducible exact BB)) | ((first | (with_reducible refine CH.drew ?_) | (with_reducible refine CH.alloc ?_ _) | (iterate 6 ((with_reducible refine CH.setCell ?_ _ _ _ ?_); rotate_left; omega))); (first | (first | (with_reducible exact BBB) | (with_reducible exact BBA) | (with_reducible exact BB)) | ((first | (with_reducible refine CH.drew ?_) | (with_reducible refine CH.alloc ?_ _) | (iterate 6 ((with_reducible refine CH.setCell ?_ _ _ _ ?_); rotate_left; omega))); (first | (first | (with_reducible exact BBB) | (with_reducible exact BBA) | (with_reducible exact BB)) | ((first | (with_reducible refine CH.drew ?_) | (with_reducible refine CH.alloc ?_ _) | (iterate 6 ((with_reducible refine CH.setCell ?_ _ _ _ ?_); rotate_left; omega))); (first | (with_reducible exact BBB) | (with_reducible exact BBA) | (with_reducible exact BB)))))))))); clear hB) | (go_at_call 27; refine (CR.out _).mono ?_; rintro e wB ⟨rfl, hB⟩; obtain ⟨hcB, hfB⟩ := bcellU hB; have hzB := hB.size; (try simp [bxW] at hzB); (try have hzB0 : w.heap.size < wB.heap.size := by omega); (try have hzB1 : w.heap.size + 1 < wB.heap.size := by omega); (try have hzB2 : w.heap.size + 2 < wB.heap.size := by omega); (try have hzB3 : wA.heap.size < wB.heap.size := by omega); (try have hzB4 : wA.heap.size + 1 < wB.heap.size := by omega); (have BBB : CH w x wB := by (refine CH.next ?_ hB; (first | (first | (with_reducible exact BBB) | (with_reducible exact BBA) | (with_reducible exact BB)) | ((first | (with_reducible refine CH.drew ?_) | (with_reducible refine CH.alloc ?_ _) | (iterate 6 ((with_reducible refine CH.setCell ?_ _ _ _ ?_); rotate_left; omega))); (first | (first | (with_reducible exact BBB) | (with_reducible exact BBA) | (with_reducible exact BB)) | ((first | (with_reducible refine CH.drew ?_) | (with_reducible refine CH.alloc ?_ _) | (iterate 6 ((with_reducible refine CH.setCell ?_ _ _ _ ?_); rotate_left; omega))); (first | (first | (with_reducible exact BBB) | (with_reducible exact BBA) | (with_reducible exact BB)) | ((first | (with_reducible refine CH.drew ?_) | (with_reducible refine CH.alloc ?_ _) | (iterate 6 ((with_reducible refine CH.setCell ?_ _ _ _ ?_); rotate_left; omega))); (first | (with_reducible exact BBB) | (with_reducible exact BBA) | (with_reducible exact BB)))))))))); clear hB))
    all_goals
      go_wp2_with fail
      go_meet
      refine ⟨_, _, rfl, rfl, ⟨?_, ?_, ?_, ?_, ?_, ?_⟩, ⟨?_, ?_, ?_, ?_, ?_, ?_⟩, ?_⟩
      all_goals (try have u0 : wB.cell? ⟨wA.heap.size, 0, none⟩ = some (.int .i64 0) := (hcB _ _ (by simp; omega)).trans (ZeroAt.c0 (ZeroAt.alloc (ZeroAt.new wA _ wA.heap.size rfl) _)))
      all_goals (try have v0 : wB.cell? ⟨wA.heap.size + 1, 0, none⟩ = some (.int .i64 0) := (hcB _ _ (by simp)).trans (ZeroAt.c0 (ZeroAt.new (wA.alloc _) _ (wA.heap.size + 1) (by simp))))
      all_goals (try have u1 : wB.cell? ⟨wA.heap.size, 1, none⟩ = some (.int .i64 0) := (hcB _ _ (by simp; omega)).trans (ZeroAt.c1 (ZeroAt.alloc (ZeroAt.new wA _ wA.heap.size rfl) _)))
      all_goals (try have v1 : wB.cell? ⟨wA.heap.size + 1, 1, none⟩ = some (.int .i64 0) := (hcB _ _ (by simp)).trans (ZeroAt.c1 (ZeroAt.new (wA.alloc _) _ (wA.heap.size + 1) (by simp))))
      all_goals (try have u2 : wB.cell? ⟨wA.heap.size, 2, none⟩ = some (.int .i64 0) := (hcB _ _ (by simp; omega)).trans (ZeroAt.c2 (ZeroAt.alloc (ZeroAt.new wA _ wA.heap.size rfl) _)))
      all_goals (try have v2 : wB.cell? ⟨wA.heap.size + 1, 2, none⟩ = some (.int .i64 0) := (hcB _ _ (by simp)).trans (ZeroAt.c2 (ZeroAt.new (wA.alloc _) _ (wA.heap.size + 1) (by simp))))
      all_goals (try have u3 : wB.cell? ⟨wA.heap.size, 3, none⟩ = some (.int .i64 0) := (hcB _ _ (by simp; omega)).trans (ZeroAt.c3 (ZeroAt.alloc (ZeroAt.new wA _ wA.heap.size rfl) _)))
      all_goals (try have v3 : wB.cell? ⟨wA.heap.size + 1, 3, none⟩ = some (.int .i64 0) := (hcB _ _ (by simp)).trans (ZeroAt.c3 (ZeroAt.new (wA.alloc _) _ (wA.heap.size + 1) (by simp))))
      all_goals (try have u4 : wB.cell? ⟨wA.heap.size, 4, none⟩ = some (.int .i64 0) := (hcB _ _ (by simp; omega)).trans (ZeroAt.c4 (ZeroAt.alloc (ZeroAt.new wA _ wA.heap.size rfl) _)))
      all_goals (try have v4 : wB.cell? ⟨wA.heap.size + 1, 4, none⟩ = some (.int .i64 0) := (hcB _ _ (by simp)).trans (ZeroAt.c4 (ZeroAt.new (wA.alloc _) _ (wA.heap.size + 1) (by simp))))
      all_goals (try have u5 : wB.cell? ⟨wA.heap.size, 5, none⟩ = some (.int .i64 0) := (hcB _ _ (by simp; omega)).trans (ZeroAt.c5 (ZeroAt.alloc (ZeroAt.new wA _ wA.heap.size rfl) _)))
      all_goals (try have v5 : wB.cell? ⟨wA.heap.size + 1, 5, none⟩ = some (.int .i64 0) := (hcB _ _ (by simp)).trans (ZeroAt.c5 (ZeroAt.new (wA.alloc _) _ (wA.heap.size + 1) (by simp))))
      all_goals first | (go_simp; done) | (first | (first | (with_reducible exact BBB) | (with_reducible exact BBA) | (with_reducible exact BB)) | ((first | (with_reducible refine CH.drew ?_) | (with_reducible refine CH.alloc ?_ _) | (iterate 6 ((with_reducible refine CH.setCell ?_ _ _ _ ?_); rotate_left; omega))); (first | (first | (with_reducible exact BBB) | (with_reducible exact BBA) | (with_reducible exact BB)) | ((first | (with_reducible refine CH.drew ?_) | (with_reducible refine CH.alloc ?_ _) | (iterate 6 ((with_reducible refine CH.setCell ?_ _ _ _ ?_); rotate_left; omega))); (first | (first | (with_reducible exact BBB) | (with_reducible exact BBA) | (with_reducible exact BB)) | ((first | (with_reducible refine CH.drew ?_) | (with_reducible refine CH.alloc ?_ _) | (iterate 6 ((with_reducible refine CH.setCell ?_ _ _ _ ?_); rotate_left; omega))); (first | (first | (with_reducible exact BBB) | (with_reducible exact BBA) | (with_reducible exact BB)) | ((first | (with_reducible refine CH.drew ?_) | (with_reducible refine CH.alloc ?_ _) | (iterate 6 ((with_reducible refine CH.setCell ?_ _ _ _ ?_); rotate_left; omega))); (first | (first | (with_reducible exact BBB) | (with_reducible exact BBA) | (with_reducible exact BB)) | ((first | (with_reducible refine CH.drew ?_) | (with_reducible refine CH.alloc ?_ _) | (iterate 6 ((with_reducible refine CH.setCell ?_ _ _ _ ?_); rotate_left; omega))); (first | (with_reducible exact BBB) | (with_reducible exact BBA) | (with_reducible exact BB)))))))))))) | (clear hcB; go_simp; done) | trace_state
  case rest =>
    obtain ⟨gc, gd, rfl, rfl, hsc, hsd, hb⟩ := hcut
    clear BB
    have BB := hb
    clear hb
    go_upto_region 2 with fail
    go_cut [39] (fun b wx => FalseAt w x b wx)
    case first =>
      go_region_held3 (fun w' => w'.cell? ⟨w.heap.size, 0, none⟩ = some (.int .i64 x.b) ∧ w'.cell? ⟨w.heap.size, 1, none⟩ = some (.int .i64 x.c) ∧ w'.cell? ⟨w.heap.size, 2, none⟩ = some (.int .i64 x.d) ∧ w'.cell? ⟨w.heap.size, 3, none⟩ = some (.int .i64 x.m0) ∧ w'.cell? ⟨w.heap.size, 4, none⟩ = some (.int .i64 x.m1) ∧ w'.cell? ⟨w.heap.size, 5, none⟩ = some (.int .i64 x.m2) ∧ w'.cell? ⟨w.heap.size, 6, none⟩ = some (.int .i64 x.p) ∧ w'.cell? ⟨gc, 0, none⟩ = some (.int .i64 ca.node) ∧ w'.cell? ⟨gc, 1, none⟩ = some (.int .i64 ca.kind) ∧ w'.cell? ⟨gc, 2, none⟩ = some (.int .i64 ca.book) ∧ w'.cell? ⟨gc, 3, none⟩ = some (.int .i64 ca.units) ∧ w'.cell? ⟨gc, 4, none⟩ = some (.int .i64 ca.cust) ∧ w'.cell? ⟨gc, 5, none⟩ = some (.int .i64 ca.amount) ∧ w'.cell? ⟨gd, 0, none⟩ = some (.int .i64 ca.node) ∧ w'.cell? ⟨gd, 1, none⟩ = some (.int .i64 ca.kind) ∧ w'.cell? ⟨gd, 2, none⟩ = some (.int .i64 ca.book) ∧ w'.cell? ⟨gd, 3, none⟩ = some (.int .i64 ca.units) ∧ w'.cell? ⟨gd, 4, none⟩ = some (.int .i64 ca.cust) ∧ w'.cell? ⟨gd, 5, none⟩ = some (.int .i64 ca.amount)) (first | (obtain ⟨h0, h1, h2, h3, h4, h5, h6⟩ := CH.cells BB; exact ⟨h0, h1, h2, h3, h4, h5, h6, hsc.c0, hsc.c1, hsc.c2, hsc.c3, hsc.c4, hsc.c5, hsd.c0, hsd.c1, hsd.c2, hsd.c3, hsd.c4, hsd.c5⟩) | go_keep) (first | (go_at_call 29; refine (FC.out _).mono ?_; rintro e w1 ⟨v1, rfl, HF, hB⟩; obtain ⟨AF, cF, rfl, hcF, _, rF⟩ := OA.rd HF; have RF := Lib.hid rF; (first | replace BB := CH.next BB hB | replace BB := CH.next (CH.drew BB) hB); (first | replace hsc := SixAt.next hsc hB | replace hsc := SixAt.next (SixAt.drew hsc) hB); (first | replace hsd := SixAt.next hsd hB | replace hsd := SixAt.next (SixAt.drew hsd) hB); clear hB HF rF) | (go_at_call 30; refine (FR.out _).mono ?_; rintro e w2 ⟨v2, rfl, HF, hB⟩; obtain ⟨AR, cR, rfl, hcR, _, rR⟩ := OR.rd HF; have RR := Lib.hid rR; have RF2 := Lib.hid (Rd.more (Rd.below RF.out hB) hB.size); (first | replace BB := CH.next BB hB | replace BB := CH.next (CH.drew BB) hB); (first | replace hsc := SixAt.next hsc hB | replace hsc := SixAt.next (SixAt.drew hsc) hB); (first | replace hsd := SixAt.next hsd hB | replace hsd := SixAt.next (SixAt.drew hsd) hB); clear hB HF rR) | (go_at_call 28; (with_reducible refine (same_yes _ _ _ _ _ fl _ RF2.out RR.out nF hcF hcR).mono ?_); rintro e w3 ⟨rfl, hB⟩; (first | replace BB := CH.next BB hB | replace BB := CH.next (CH.drew BB) hB); (first | replace hsc := SixAt.next hsc hB | replace hsc := SixAt.next (SixAt.drew hsc) hB); (first | replace hsd := SixAt.next hsd hB | replace hsd := SixAt.next (SixAt.drew hsd) hB); clear hB) | (go_at_call 31; refine (KC.out _).mono ?_; rintro e w4 ⟨v4, rfl, HF, hB⟩; obtain ⟨AK, cK, rfl, hcK, _, rK⟩ := OA.rd HF; have RK := Lib.hid rK; (first | replace BB := CH.next BB hB | replace BB := CH.next (CH.drew BB) hB); (first | replace hsc := SixAt.next hsc hB | replace hsc := SixAt.next (SixAt.drew hsc) hB); (first | replace hsd := SixAt.next hsd hB | replace hsd := SixAt.next (SixAt.drew hsd) hB); clear hB HF rK) | (go_at_call 32; refine (KR.out _).mono ?_; rintro e w5 ⟨v5, rfl, HF, hB⟩; obtain ⟨AL, cL, rfl, hcL, _, rL⟩ := OR.rd HF; have RL := Lib.hid rL; have RK2 := Lib.hid (Rd.more (Rd.below RK.out hB) hB.size); (first | replace BB := CH.next BB hB | replace BB := CH.next (CH.drew BB) hB); (first | replace hsc := SixAt.next hsc hB | replace hsc := SixAt.next (SixAt.drew hsc) hB); (first | replace hsd := SixAt.next hsd hB | replace hsd := SixAt.next (SixAt.drew hsd) hB); clear hB HF rL) | (go_at_call 28; (with_reducible refine (same_yes _ _ _ _ _ bl _ RK2.out RL.out nK hcK hcL).mono ?_); rintro e w6 ⟨rfl, hB⟩; (first | replace BB := CH.next BB hB | replace BB := CH.next (CH.drew BB) hB); (first | replace hsc := SixAt.next hsc hB | replace hsc := SixAt.next (SixAt.drew hsc) hB); (first | replace hsd := SixAt.next hsd hB | replace hsd := SixAt.next (SixAt.drew hsd) hB); clear hB))
      all_goals
        go_wp2_with fail
        go_meet
        exact ⟨rfl, BB⟩
    case rest =>
      obtain ⟨rfl, hb⟩ := hcut
      clear BB hsc hsd
      obtain ⟨c0, c1, c2, c3, c4, c5, c6⟩ := CH.cells hb
      have BB := Lib.hid hb
      clear hb
      go_wp2_with fail
      refine (PC.out _).mono ?_
      rintro e wp ⟨vp, rfl, HP, hB⟩
      rw [HPAR.out] at HP
      obtain ⟨AP, cP, rfl, hcP, _, rP⟩ := own_form HP
      have RP := Lib.hid rP
      have BP := Lib.hid (CH.next BB.out hB)
      obtain ⟨b0, b1, b2, b3, b4, b5, b6⟩ := CH.cells BP.out
      clear hB HP rP c0 c1 c2 c3 c4 c5 c6 HPAR
      cases mm
      · have el : (partsB x false 3).length = 0 := rfl
        rw [el]
        clear el
        go_wp2
        refine wp_loop_rounds 1 ?_
        rw [rounds_succ]
        go_wp2_with fail
        refine (MC.out _).mono ?_
        rintro e w2 ⟨rfl, hB⟩
        have B2 := Lib.hid (CH.next BP.out hB)
        clear hB
        go_wp2_with fail
        refine (told14 _).mono ?_
        rintro e w3 ⟨rfl, hB⟩
        have B3 := Lib.hid (CH.next B2.out hB)
        clear hB
        go_wp2
        go_ret
        exact ⟨rfl, (bxW_of B3.out).2.1⟩
      · have el : (partsB x true 3).length = (partsK x 3).length := rfl
        rw [el] at hcP RP ⊢
        clear el
        have RP' := Lib.hid (show Rd wp wp.heap.size 1 AP (partsK x 3).length (NC (partsK x 3)) from RP.out)
        have l3 := partsK_len x 3
        clear RP
        go_wp2
        go_loopw [6, 7] (fun n i wr => ∃ (k q : Nat), k ≤ 3 ∧ i = .int .i64 k ∧ n = .int .i64 q ∧ q ≤ 3 ∧ Hid (q = (partsK x k).length ∧ Below wp.heap.size wp wr)) (fun _ i _ => 3 - (intOf i).toNat)
        case atStart => exact ⟨0, 0, by omega, rfl, rfl, by omega, Lib.hid ⟨rfl, Below.refl _ _⟩⟩
        case round =>
          obtain ⟨k, q, hk, rfl, rfl, hq, HO⟩ := hrel
          have hb := HO.out.2
          have z0 := bcell hb b0 (cell_in b0)
          have z1 := bcell hb b1 (cell_in b1)
          have z2 := bcell hb b2 (cell_in b2)
          have z3 := bcell hb b3 (cell_in b3)
          have z4 := bcell hb b4 (cell_in b4)
          have z5 := bcell hb b5 (cell_in b5)
          have z6 := bcell hb b6 (cell_in b6)
          have HB := Lib.hid hb
          have BW1 := Lib.hid (CH.next BP.out hb)
          have hzr := hb.size
          clear hb
          have : k = 0 ∨ k = 1 ∨ k = 2 ∨ k = 3 := by omega
          rcases this with rfl | rfl | rfl | rfl
          · go_wp2_with fail
            refine (MC.out _).mono ?_
            rintro e w2 ⟨rfl, hB⟩
            have y3 := bcell hB z3 (cell_in z3)
            have HB2 := Lib.hid (HB.out.trans (hB.mono hzr))
            clear hB
            by_cases hy : 0 < x.m0
            · have hlt : q < (partsK x 3).length := by rw [HO.out.1]; exact parts_lt x 0 (by omega) hy
              obtain ⟨ad, hl, rfl, _, hcell⟩ := Rd.int (Rd.below RP'.out HB2.out) hlt
              have hval : (partsK x 3)[q] = 0 := by
                have h := parts_idx x 0 (by omega) hy
                rw [← HO.out.1, List.getElem?_eq_getElem hl] at h
                injection h
              rw [hval] at hcell
              clear hval hl
              go_wp2
              go_roundw
              case rel => exact ⟨1, q + 1, by omega, rfl, by go_num, by omega, Lib.hid ⟨by rw [partsK_yes x 0 hy, List.length_append, HO.out.1]; rfl, HB2.out⟩⟩
              case measure => simp [intOf]
            · go_wp2
              go_roundw
              case rel => exact ⟨1, q, by omega, rfl, rfl, by omega, Lib.hid ⟨by rw [partsK_no x 0 (show ¬ 0 < x.m0 from by omega)]; exact HO.out.1, HB2.out⟩⟩
              case measure => simp [intOf]
          · go_wp2_with fail
            refine (MC.out _).mono ?_
            rintro e w2 ⟨rfl, hB⟩
            have y3 := bcell hB z4 (cell_in z4)
            have HB2 := Lib.hid (HB.out.trans (hB.mono hzr))
            clear hB
            by_cases hy : 0 < x.m1
            · have hlt : q < (partsK x 3).length := by rw [HO.out.1]; exact parts_lt x 1 (by omega) hy
              obtain ⟨ad, hl, rfl, _, hcell⟩ := Rd.int (Rd.below RP'.out HB2.out) hlt
              have hval : (partsK x 3)[q] = 1 := by
                have h := parts_idx x 1 (by omega) hy
                rw [← HO.out.1, List.getElem?_eq_getElem hl] at h
                injection h
              rw [hval] at hcell
              clear hval hl
              go_wp2
              go_roundw
              case rel => exact ⟨2, q + 1, by omega, rfl, by go_num, by omega, Lib.hid ⟨by rw [partsK_yes x 1 hy, List.length_append, HO.out.1]; rfl, HB2.out⟩⟩
              case measure => simp [intOf]
            · go_wp2
              go_roundw
              case rel => exact ⟨2, q, by omega, rfl, rfl, by omega, Lib.hid ⟨by rw [partsK_no x 1 (show ¬ 0 < x.m1 from by omega)]; exact HO.out.1, HB2.out⟩⟩
              case measure => simp [intOf]
          · go_wp2_with fail
            refine (MC.out _).mono ?_
            rintro e w2 ⟨rfl, hB⟩
            have y3 := bcell hB z5 (cell_in z5)
            have HB2 := Lib.hid (HB.out.trans (hB.mono hzr))
            clear hB
            by_cases hy : 0 < x.m2
            · have hlt : q < (partsK x 3).length := by rw [HO.out.1]; exact parts_lt x 2 (by omega) hy
              obtain ⟨ad, hl, rfl, _, hcell⟩ := Rd.int (Rd.below RP'.out HB2.out) hlt
              have hval : (partsK x 3)[q] = 2 := by
                have h := parts_idx x 2 (by omega) hy
                rw [← HO.out.1, List.getElem?_eq_getElem hl] at h
                injection h
              rw [hval] at hcell
              clear hval hl
              go_wp2
              go_roundw
              case rel => exact ⟨3, q + 1, by omega, rfl, by go_num, by omega, Lib.hid ⟨by rw [partsK_yes x 2 hy, List.length_append, HO.out.1]; rfl, HB2.out⟩⟩
              case measure => simp [intOf]
            · go_wp2
              go_roundw
              case rel => exact ⟨3, q, by omega, rfl, rfl, by omega, Lib.hid ⟨by rw [partsK_no x 2 (show ¬ 0 < x.m2 from by omega)]; exact HO.out.1, HB2.out⟩⟩
              case measure => simp [intOf]
          · obtain rfl : q = (partsK x 3).length := HO.out.1
            go_wp2_with fail
            refine (told14 _).mono ?_
            rintro e w3 ⟨rfl, hB⟩
            have B3 := Lib.hid (CH.next BW1.out hB)
            clear hB
            go_wp2
            go_ret
            exact ⟨rfl, (bxW_of B3.out).2.1⟩
end Go.Proofs.Ytblpkcoapbkppaa
