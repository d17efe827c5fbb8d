/- Plans: Forward, Back, Capture. -/
import Derived.Test.YtplgodfhhlnojaaPlan3
import Derived.Outline
set_option linter.unusedSimpArgs false
set_option linter.unusedVariables false
namespace Go.Proofs.Ytplgodfhhlnojaa
open Go.RowKit
/-- What a function value makes of a want, from this world on. -/
def GivesW (w : World) (F : Value) (x : W7) (l : List A6) : Prop := Gives w.heap.size w F x l
theorem GivesW.next {w w2 : World} {F : Value} {x : W7} {l : List A6} (h : GivesW w F x l) (hb : Below w.heap.size w w2) : GivesW w2 F x l := (Gives.below h hb).mono hb.size
def MkF (x : W7) (l : List A6) (w : World) (e : Ending) (w' : World) : Prop := ∃ f q, e = .returned (.func (.func f) #[] #[.pointer (some ⟨q, 0, none⟩)]) ∧ GivesW w' (.func (.func f) #[] #[.pointer (some ⟨q, 0, none⟩)]) x l ∧ Below w.heap.size w w'
theorem each_mk (x : W7) (K : Int) (w : World) : Calls Try.prog 68 #[.int .i64 K] w (MkF x ((parts x).map (eachA K x)) w) := by
  have hmf : ∀ (fn : Fn) (first cap : Array Value) (w : World), (Instr.makeFunc fn first cap).run Try.prog w = .ok (.func fn first cap) w := fun _ _ _ _ => rfl
  go_enter Try.func68, Try.ntmps68
  go_wp2
  go_ret
  exact ⟨_, _, rfl, each_gives _ _ w.heap.size K x (World.news_of_block (heap_alloc_new w _) 0 _ rfl) (by simp), (Below.refl _ _).alloc (Nat.le_refl _) _⟩
theorem purse_mk (x : W7) (K : Int) (w : World) : Calls Try.prog 69 #[.int .i64 K] w (MkF x (purseL K x) w) := by
  have hmf : ∀ (fn : Fn) (first cap : Array Value) (w : World), (Instr.makeFunc fn first cap).run Try.prog w = .ok (.func fn first cap) w := fun _ _ _ _ => rfl
  go_enter Try.func69, Try.ntmps69
  go_wp2
  go_ret
  exact ⟨_, _, rfl, purse_gives _ _ w.heap.size K x (World.news_of_block (heap_alloc_new w _) 0 _ rfl) (by simp), (Below.refl _ _).alloc (Nat.le_refl _) _⟩
theorem falling_mk (x : W7) (F : Value) (l : List A6) (w : World) (hF : GivesW w F x l) (hl : l.length ≤ 3) : Calls Try.prog 71 #[F] w (MkF x l.reverse w) := by
  have hmf : ∀ (fn : Fn) (first cap : Array Value) (w : World), (Instr.makeFunc fn first cap).run Try.prog w = .ok (.func fn first cap) w := fun _ _ _ _ => rfl
  obtain ⟨f, q, rfl, hf, hc⟩ := hF
  have HC := Lib.hid hc
  clear hc
  go_enter Try.func71, Try.ntmps71
  go_wp2
  go_ret
  have hb : Below w.heap.size w (w.alloc (.cells #[.func (.func f) #[] #[.pointer (some ⟨q, 0, none⟩)]] 54)) := (Below.refl _ _).alloc (Nat.le_refl _) _
  exact ⟨_, _, rfl, falling_gives w.heap.size _ _ w.heap.size _ x l (World.news_of_block (heap_alloc_new w _) 0 _ rfl) (Gives.below ⟨f, q, rfl, hf, HC.out⟩ hb) (by simp) (by simp) hl, hb⟩
def CH (w : World) (x : W7) (wc : World) : Prop := Below (w.heap.size + 1) (bxW w x) wc
theorem CH.next {w wc w2 : World} {x : W7} (h : CH w x wc) (hb : Below wc.heap.size wc w2) : CH w x w2 := h.trans (hb.mono (bxW_of h).2.2)
def WCs (w : World) (B : Nat) (x : W7) : Prop := w.cell? ⟨B, 0, none⟩ = some (.int .i64 x.b) ∧ w.cell? ⟨B, 1, none⟩ = some (.int .i64 x.c) ∧ w.cell? ⟨B, 2, none⟩ = some (.int .i64 x.d) ∧ w.cell? ⟨B, 3, none⟩ = some (.int .i64 x.m0) ∧ w.cell? ⟨B, 4, none⟩ = some (.int .i64 x.m1) ∧ w.cell? ⟨B, 5, none⟩ = some (.int .i64 x.m2) ∧ w.cell? ⟨B, 6, none⟩ = some (.int .i64 x.p)
theorem CH.cells {w wc : World} {x : W7} (h : CH w x wc) : WCs wc w.heap.size x := by
  obtain ⟨c0, c1, c2, c3, c4, c5, c6⟩ := (bxW_of h).1
  exact ⟨c0, c1, c2, c3, c4, c5, c6⟩
theorem rd_fs (w : World) (fs : Array Value) (t : TypeId) (m : Nat × Nat) : Rd (w.alloc (.cells fs t m)) (w.alloc (.cells fs t m)).heap.size 1 (some ⟨w.heap.size, 0, none⟩) fs.size fs.toList :=
  (rd_new w fs t m fs.size 1 (by omega)).more (by simp)
theorem partsE_len (x : W7) (K : Int) : ((parts x).map (eachA K x)).length ≤ 3 := by rw [List.length_map]; exact partsB_len x _ 3
theorem purseL_len (x : W7) (K : Int) : (purseL K x).length ≤ 3 := by unfold purseL; split <;> simp
theorem table3 (x : W7) (w : World) (F1 F2 F3 : Value) (l1 l2 l3 : List A6) (t : TypeId) (m : Nat × Nat) (h1 : GivesW w F1 x l1) (h2 : GivesW w F2 x l2) (h3 : GivesW w F3 x l3) (n1 : l1.length ≤ 3) (n2 : l2.length ≤ 3) (n3 : l3.length ≤ 3) :
    Calls Try.prog 70 #[.slice (some ⟨w.heap.size, 0, none⟩) 3 3, x.val] (w.alloc (.cells #[F1, F2, F3] t m)) (RA (w.alloc (.cells #[F1, F2, F3] t m)) (l1 ++ (l2 ++ l3))) := by
  have hb : Below w.heap.size w (w.alloc (.cells #[F1, F2, F3] t m)) := (Below.refl _ _).alloc (Nat.le_refl _) _
  have h := of_c x _ 3 3 w.heap.size [F1, F2, F3] [l1, l2, l3] _ (rd_fs w #[F1, F2, F3] t m) (by simp) (by omega) rfl (by
    intro k F l hF hl
    rcases k with _ | _ | _ | k
    · cases hF; cases hl; exact ⟨Gives.below h1 hb, n1⟩
    · cases hF; cases hl; exact ⟨Gives.below h2 hb, n2⟩
    · cases hF; cases hl; exact ⟨Gives.below h3 hb, n3⟩
    · simp at hF)
  simpa [catA] using h
def forwardL (x : W7) : List A6 := (parts x).map (eachA 1 x) ++ (purseL 4 x ++ (parts x).map (eachA 2 x))
set_option maxRecDepth 100000 in
set_option maxHeartbeats 4000000 in
theorem forward_c (x : W7) (w : World) : Calls Try.prog 36 #[x.val] w (RA w (forwardL x)) := by
  have BB : CH w x (bxW w x) := Below.refl _ _
  have HV : Hid (x.val = .agg #[.int .i64 x.b, .int .i64 x.c, .int .i64 x.d, .int .i64 x.m0, .int .i64 x.m1, .int .i64 x.m2, .int .i64 x.p]) := Lib.hid rfl
  unfold W7.val
  go_enter Try.func36, Try.ntmps36
  go_wp2
  go_region_held3 (fun w' => w'.cell? ⟨w.heap.size, 0, none⟩ = some (.int .i64 x.b) ∧ w'.cell? ⟨w.heap.size, 1, none⟩ = some (.int .i64 x.c) ∧ w'.cell? ⟨w.heap.size, 2, none⟩ = some (.int .i64 x.d) ∧ w'.cell? ⟨w.heap.size, 3, none⟩ = some (.int .i64 x.m0) ∧ w'.cell? ⟨w.heap.size, 4, none⟩ = some (.int .i64 x.m1) ∧ w'.cell? ⟨w.heap.size, 5, none⟩ = some (.int .i64 x.m2) ∧ w'.cell? ⟨w.heap.size, 6, none⟩ = some (.int .i64 x.p)) (first | go_keep | exact CH.cells BB | exact CH.cells (CH.next BB ((Below.refl _ _).alloc (Nat.le_refl _) _)) | exact CH.cells B5.out) (first | (go_at_call 68; refine (each_mk x 1 _).mono ?_; rintro e w1 ⟨f1, q1, rfl, G1, hB⟩; (first | replace BB := CH.next BB hB | replace BB := CH.next (Below.drew BB) hB); (try replace G1 := GivesW.next G1 hB); (try replace G2 := GivesW.next G2 hB); (try replace G3 := GivesW.next G3 hB); clear hB) | (go_at_call 68; refine (each_mk x 2 _).mono ?_; rintro e w1 ⟨f3, q3, rfl, G3, hB⟩; (first | replace BB := CH.next BB hB | replace BB := CH.next (Below.drew BB) hB); (try replace G1 := GivesW.next G1 hB); (try replace G2 := GivesW.next G2 hB); (try replace G3 := GivesW.next G3 hB); clear hB) | (go_at_call 69; refine (purse_mk x 4 _).mono ?_; rintro e w1 ⟨f2, q2, rfl, G2, hB⟩; (first | replace BB := CH.next BB hB | replace BB := CH.next (Below.drew BB) hB); (try replace G1 := GivesW.next G1 hB); (try replace G2 := GivesW.next G2 hB); (try replace G3 := GivesW.next G3 hB); clear hB) | (go_at_call 70; refine (table3 x _ _ _ _ _ _ _ _ _ G1 G2 G3 (partsE_len x 1) (purseL_len x 4) (partsE_len x 2)).mono ?_; rintro e w5 ⟨v5, rfl, h5, b5⟩; have H5 := Lib.hid h5; have B5 := Lib.hid (CH.next BB (((Below.refl _ _).alloc (Nat.le_refl _) _).trans (b5.mono (by simp)))); clear h5 b5))
  all_goals
    go_wp2
    go_ret
    exact ⟨_, rfl, own_mono H5.out (by have := (bxW_of BB).2.2; simp; omega), (bxW_of B5.out).2.1⟩
theorem table2 (x : W7) (w : World) (F1 F2 : Value) (l1 l2 : List A6) (t : TypeId) (m : Nat × Nat) (h1 : GivesW w F1 x l1) (h2 : GivesW w F2 x l2) (n1 : l1.length ≤ 3) (n2 : l2.length ≤ 3) :
    Calls Try.prog 70 #[.slice (some ⟨w.heap.size, 0, none⟩) 2 2, x.val] (w.alloc (.cells #[F1, F2] t m)) (RA (w.alloc (.cells #[F1, F2] t m)) (l1 ++ l2)) := by
  have hb : Below w.heap.size w (w.alloc (.cells #[F1, F2] t m)) := (Below.refl _ _).alloc (Nat.le_refl _) _
  have h := of_c x _ 2 2 w.heap.size [F1, F2] [l1, l2] _ (rd_fs w #[F1, F2] t m) (by simp) (by omega) rfl (by
    intro k F l hF hl
    rcases k with _ | _ | k
    · cases hF; cases hl; exact ⟨Gives.below h1 hb, n1⟩
    · cases hF; cases hl; exact ⟨Gives.below h2 hb, n2⟩
    · simp at hF)
  simpa [catA] using h
theorem table1 (x : W7) (w : World) (F1 : Value) (l1 : List A6) (t : TypeId) (m : Nat × Nat) (h1 : GivesW w F1 x l1) (n1 : l1.length ≤ 3) :
    Calls Try.prog 70 #[.slice (some ⟨w.heap.size, 0, none⟩) 1 1, x.val] (w.alloc (.cells #[F1] t m)) (RA (w.alloc (.cells #[F1] t m)) l1) := by
  have hb : Below w.heap.size w (w.alloc (.cells #[F1] t m)) := (Below.refl _ _).alloc (Nat.le_refl _) _
  have h := of_c x _ 1 1 w.heap.size [F1] [l1] _ (rd_fs w #[F1] t m) (by simp) (by omega) rfl (by
    intro k F l hF hl
    rcases k with _ | k
    · cases hF; cases hl; exact ⟨Gives.below h1 hb, n1⟩
    · simp at hF)
  simpa [catA] using h
def backL (x : W7) : List A6 := purseL 6 x ++ ((parts x).map (eachA 3 x)).reverse
set_option maxRecDepth 100000 in
set_option maxHeartbeats 4000000 in
theorem back_c (x : W7) (w : World) : Calls Try.prog 37 #[x.val] w (RA w (backL x)) := by
  have BB : CH w x (bxW w x) := Below.refl _ _
  have HV : Hid (x.val = .agg #[.int .i64 x.b, .int .i64 x.c, .int .i64 x.d, .int .i64 x.m0, .int .i64 x.m1, .int .i64 x.m2, .int .i64 x.p]) := Lib.hid rfl
  unfold W7.val
  go_enter Try.func37, Try.ntmps37
  go_wp2
  go_region_held3 (fun w' => w'.cell? ⟨w.heap.size, 0, none⟩ = some (.int .i64 x.b) ∧ w'.cell? ⟨w.heap.size, 1, none⟩ = some (.int .i64 x.c) ∧ w'.cell? ⟨w.heap.size, 2, none⟩ = some (.int .i64 x.d) ∧ w'.cell? ⟨w.heap.size, 3, none⟩ = some (.int .i64 x.m0) ∧ w'.cell? ⟨w.heap.size, 4, none⟩ = some (.int .i64 x.m1) ∧ w'.cell? ⟨w.heap.size, 5, none⟩ = some (.int .i64 x.m2) ∧ w'.cell? ⟨w.heap.size, 6, none⟩ = some (.int .i64 x.p)) (first | go_keep | exact CH.cells BB | exact CH.cells (CH.next BB ((Below.refl _ _).alloc (Nat.le_refl _) _)) | exact CH.cells B5.out) (first | (go_at_call 69; refine (purse_mk x 6 _).mono ?_; rintro e w1 ⟨f1, q1, rfl, G1, hB⟩; (first | replace BB := CH.next BB hB | replace BB := CH.next (Below.drew BB) hB); (try replace G1 := GivesW.next G1 hB); (try replace G2 := GivesW.next G2 hB); (try replace G3 := GivesW.next G3 hB); clear hB) | (go_at_call 68; refine (each_mk x 3 _).mono ?_; rintro e w1 ⟨f2, q2, rfl, G2, hB⟩; (first | replace BB := CH.next BB hB | replace BB := CH.next (Below.drew BB) hB); (try replace G1 := GivesW.next G1 hB); (try replace G2 := GivesW.next G2 hB); (try replace G3 := GivesW.next G3 hB); clear hB) | (go_at_call 71; refine (falling_mk x _ _ _ G2 (partsE_len x 3)).mono ?_; rintro e w1 ⟨f3, q3, rfl, G3, hB⟩; (first | replace BB := CH.next BB hB | replace BB := CH.next (Below.drew BB) hB); (try replace G1 := GivesW.next G1 hB); (try replace G2 := GivesW.next G2 hB); (try replace G3 := GivesW.next G3 hB); clear hB) | (go_at_call 70; refine (table2 x _ _ _ _ _ _ _ G1 G3 (purseL_len x 6) (by rw [List.length_reverse]; exact partsE_len x 3)).mono ?_; rintro e w5 ⟨v5, rfl, h5, b5⟩; have H5 := Lib.hid h5; have B5 := Lib.hid (CH.next BB (((Below.refl _ _).alloc (Nat.le_refl _) _).trans (b5.mono (by simp)))); clear h5 b5))
  all_goals
    go_wp2
    go_ret
    exact ⟨_, rfl, own_mono H5.out (by have := (bxW_of BB).2.2; simp; omega), (bxW_of B5.out).2.1⟩
end Go.Proofs.Ytplgodfhhlnojaa
