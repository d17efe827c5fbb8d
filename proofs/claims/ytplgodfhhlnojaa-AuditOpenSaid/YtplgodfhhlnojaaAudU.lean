/- Units of an inventory's entries: the program's and the document's, walked. -/
import Derived.Test.YtplgodfhhlnojaaAudit0
import Derived.Test.YtplgodfhhlnojaaRowL
import Derived.StillTailTactics
import Derived.Outline
set_option linter.unusedSimpArgs false
set_option linter.unusedVariables false
namespace Go.Proofs.Ytplgodfhhlnojaa
open Go.RowKit
def En.cells (e : En) : List Value := [.int .i64 e.s, .int .i64 e.u, .int .i64 e.t, .int .i64 e.c, .int .i64 e.a]
def EC (l : List En) : List Value := l.flatMap En.cells
theorem EC_len (l : List En) : (EC l).length = l.length * 5 := by
  induction l with
  | nil => rfl
  | cons a l ih => simp only [EC, List.flatMap_cons, List.length_append, List.length_cons] at ih ⊢; rw [ih]; simp [En.cells]; omega
theorem EC_get (l : List En) (i : Nat) (a : En) (hi : l[i]? = some a) (j : Nat) (hj : j < 5) : (EC l)[i * 5 + j]? = a.cells[j]? := by
  induction l generalizing i with
  | nil => simp at hi
  | cons b l ih =>
    rw [show EC (b :: l) = b.cells ++ EC l from by simp [EC]]
    cases i with
    | zero =>
      simp at hi; subst hi
      rw [List.getElem?_append_left (by simp [En.cells]; omega)]
      simp
    | succ i =>
      rw [List.getElem?_append_right (by simp [En.cells]; omega), ← ih i (by simpa using hi)]
      congr 1
      simp [En.cells]; omega
/-- An entry lies at an address. -/
structure EnAt (w : World) (P : Addr) (a : En) : Prop where
  c0 : w.cell? P = some (.int .i64 a.s)
  c1 : w.cell? ⟨P.block, P.off + 1, none⟩ = some (.int .i64 a.u)
  c2 : w.cell? ⟨P.block, P.off + 2, none⟩ = some (.int .i64 a.t)
  c3 : w.cell? ⟨P.block, P.off + 3, none⟩ = some (.int .i64 a.c)
  c4 : w.cell? ⟨P.block, P.off + 4, none⟩ = some (.int .i64 a.a)
theorem add_fieldE (ad : Addr) (i j : Nat) (hj : 0 < j) : ad.add (i + j) = ⟨(ad.add i).block, (ad.add i).off + j, none⟩ := by
  unfold Addr.add
  rw [if_neg (by omega)]
  split
  · subst_vars; simp
  · simp; omega
theorem Rd.en {w : World} {D n : Nat} {A : Option Addr} {l : List En} {k : Nat} (h : Rd w D 5 A n (EC l)) (hk : k < n) : ∃ ad a, A = some ad ∧ ad.block < D ∧ l[k]? = some a ∧ EnAt w (ad.add (k * 5)) a := by
  obtain ⟨ad, e, hb, hc⟩ := h.2 (by omega)
  have hl : k < l.length := by have := h.1; rw [EC_len] at this; omega
  have hcc : ∀ j u, l[k].cells[j]? = some u → w.cell? (ad.add (k * 5 + j)) = some u := fun j u hu => hc _ u (by
    have hj : j < 5 := by
      rcases Nat.lt_or_ge j 5 with h' | h'
      · exact h'
      · rw [List.getElem?_eq_none (by simpa [En.cells] using h')] at hu; cases hu
    rw [EC_get l k _ (List.getElem?_eq_getElem hl) j hj]
    exact hu)
  have hcf : ∀ j u, l[k].cells[j + 1]? = some u → w.cell? ⟨(ad.add (k * 5)).block, (ad.add (k * 5)).off + (j + 1), none⟩ = some u := fun j u hu => by
    have := hcc (j + 1) u hu
    rw [add_fieldE ad (k * 5) (j + 1) (by omega)] at this
    exact this
  exact ⟨ad, l[k], e, hb, List.getElem?_eq_getElem hl, hcc 0 _ rfl, hcf 0 _ rfl, hcf 1 _ rfl, hcf 2 _ rfl, hcf 3 _ rfl⟩
def uStep (m : Int) (s : Int × Int) (e : En) : Int × Int := if e.s = 1 then (min (s.1 + min (max e.u 0) m) m, s.2) else if e.s = 2 then (s.1, min (s.2 + min (max e.u 0) m) m) else s
def uFold (m : Int) (l : List En) : Int × Int := l.foldl (uStep m) (0, 0)
theorem uFold_snoc (m : Int) (l : List En) (k : Nat) (e : En) (h : l[k]? = some e) : uFold m (l.take (k + 1)) = uStep m (uFold m (l.take k)) e := by
  rw [List.take_add_one, h]
  simp [uFold]
theorem uFold_nil (m : Int) (l : List En) : uFold m (l.take 0) = (0, 0) := by simp [uFold]
theorem uFold_bd (m : Int) (hm : 0 ≤ m) (l : List En) : 0 ≤ (uFold m l).1 ∧ (uFold m l).1 ≤ m ∧ 0 ≤ (uFold m l).2 ∧ (uFold m l).2 ≤ m := by
  unfold uFold
  have key : ∀ (l : List En) (s : Int × Int), (0 ≤ s.1 ∧ s.1 ≤ m ∧ 0 ≤ s.2 ∧ s.2 ≤ m) → (0 ≤ (l.foldl (uStep m) s).1 ∧ (l.foldl (uStep m) s).1 ≤ m ∧ 0 ≤ (l.foldl (uStep m) s).2 ∧ (l.foldl (uStep m) s).2 ≤ m) := by
    intro l
    induction l with
    | nil => intro s h; exact h
    | cons e l ih =>
      intro s h
      refine ih _ ?_
      unfold uStep
      split
      · simp only; omega
      · split
        · simp only; omega
        · exact h
  exact key l (0, 0) (by simp; omega)
/-- What is free, held, confirmed; false: there are not so many. -/
def unS (cap over : Int) (l : List En) : Int × Int × Int × Bool :=
  if cap + over - (uFold (cap + over + 1) l).1 - (uFold (cap + over + 1) l).2 < 0 then (0, 0, 0, false)
  else (cap + over - (uFold (cap + over + 1) l).1 - (uFold (cap + over + 1) l).2, (uFold (cap + over + 1) l).1, (uFold (cap + over + 1) l).2, true)
def unV (r : Int × Int × Int × Bool) : Value := .tuple #[.int .i64 r.1, .int .i64 r.2.1, .int .i64 r.2.2.1, .bool r.2.2.2]
theorem gmin_is (h eu m : Int) : (if m < h + (if m < if eu < 0 then 0 else eu then m else if eu < 0 then 0 else eu) then m else h + (if m < if eu < 0 then 0 else eu then m else if eu < 0 then 0 else eu)) = min (h + min (max eu 0) m) m := by
  (repeat' split) <;> omega
set_option maxRecDepth 100000 in
set_option maxHeartbeats 4000000 in
theorem units_c (cap over : Int) (hc : 0 ≤ cap ∧ cap ≤ 1000000) (ho : 0 ≤ over ∧ over ≤ 1000000) (A : Option Addr) (n cp : Nat) (l : List En) (hl : l.length = n) (hn : n ≤ 1000) (hcp : n ≤ cp) (w : World) (R : Rd w w.heap.size 5 A n (EC l)) :
    Calls Try.prog 51 #[.agg #[.int .i64 cap, .int .i64 over], .slice A n cp] w fun e w' => e = .returned (unV (unS cap over l)) ∧ Below w.heap.size w w' := by
  have HL := Lib.hid hl
  obtain ⟨m, hm⟩ : ∃ m, cap + over + 1 = m := ⟨_, rfl⟩
  have hmm : max (cap + over) 0 + 1 = m := by omega
  have HM := Lib.hid hm
  have HMM := Lib.hid hmm
  have hm0 : 0 ≤ m := by omega
  have hm1 : m ≤ 2000001 := by omega
  have BB := uFold_bd m hm0
  have HBD := Lib.hid BB
  have RR := Lib.hid R
  clear hl hm hmm BB R
  go_enter Try.func51, Try.ntmps51
  go_wp2
  rw [HM.out]
  have HX := Lib.hid (uFold_nil m l)
  go_loopw [22] (fun i wr => ∃ (k : Nat) (h c : Int), k ≤ n ∧ i = .int .i64 k ∧ (0 ≤ h ∧ h ≤ m ∧ 0 ≤ c ∧ c ≤ m) ∧ Hid (uFold m (l.take k) = (h, c) ∧ wr.heap[w.heap.size]? = some (.cells #[.int .i64 cap, .int .i64 over] 74 (0, 0)) ∧ wr.heap[w.heap.size + 1]? = some (.cells #[.int .i64 0, .int .i64 h, .int .i64 c, .int .i64 0, .int .i64 0, .int .i64 0] 120 (0, 0)) ∧ Rd wr w.heap.size 5 A n (EC l) ∧ Below w.heap.size w wr)) (fun i _ => n - (intOf i).toNat)
  case atStart => exact ⟨0, 0, 0, by omega, rfl, ⟨by omega, by omega, by omega, by omega⟩, Lib.hid ⟨HX.out, (two_boxes w _ _).1, (two_boxes w _ _).2.1, (RR.out.alloc (Nat.le_refl _) _).alloc (by simp) _, (two_boxes w _ _).2.2⟩⟩
  case round =>
    clear HX HBD
    obtain ⟨k, h, c, hk, rfl, ⟨h0, h1, c0, c1⟩, HS⟩ := hrel
    have hlt0 : w.heap.size + 1 < wr.heap.size := lt_size HS.out.2.2.1
    by_cases hkn : k < n
    · obtain ⟨ad, ⟨es, eu, et, ec, ea⟩, rfl, hbd, hx, ⟨e0, e1, e2, e3, e4⟩⟩ := HS.out.2.2.2.1.en hkn
      simp only at e0 e1 e2 e3 e4
      have hsn := uFold_snoc m l k _ hx
      rw [HS.out.1] at hsn
      have HSN := Lib.hid hsn
      clear hx hsn
      by_cases g1 : es = 1
      · subst g1
        obtain ⟨w2, hw2⟩ : ∃ z, z = wr.alloc (.cells #[.int .i64 1, .int .i64 eu, .int .i64 et, .int .i64 ec, .int .i64 ea] 67) := ⟨_, rfl⟩
        have E := heap_alloc_new wr (.cells #[.int .i64 1, .int .i64 eu, .int .i64 et, .int .i64 ec, .int .i64 ea] 67)
        have F := alc (o := .cells #[.int .i64 1, .int .i64 eu, .int .i64 et, .int .i64 ec, .int .i64 ea] 67) HS.out.2.2.1
        have S0 := alc (o := .cells #[.int .i64 1, .int .i64 eu, .int .i64 et, .int .i64 ec, .int .i64 ea] 67) HS.out.2.1
        have R0 := HS.out.2.2.2.1.alloc (by omega) (.cells #[.int .i64 1, .int .i64 eu, .int .i64 et, .int .i64 ec, .int .i64 ea] 67)
        have B0 := HS.out.2.2.2.2.alloc HS.out.2.2.2.2.size (.cells #[.int .i64 1, .int .i64 eu, .int .i64 et, .int .i64 ec, .int .i64 ea] 67)
        rw [← hw2] at E F S0 R0 B0
        have HE := Lib.hid E
        have HF := Lib.hid F
        have HSS := Lib.hid S0
        have HR := Lib.hid R0
        have HB := Lib.hid B0
        have HW := Lib.hid hw2
        clear E F S0 R0 B0 hw2
        obtain ⟨v1, hv1⟩ : ∃ v, min (max eu 0) m = v := ⟨_, rfl⟩
        have hv0 : 0 ≤ v1 ∧ v1 ≤ m := by omega
        have HV1 := Lib.hid hv1
        clear hv1
        go_upto_region 7 with fail
        rw [← HW.out]
        have a0 : w2.cell? ⟨wr.heap.size, 0, none⟩ = some (.int .i64 1) := (cellsB (i := 0) HE.out).trans rfl
        have a1 : w2.cell? ⟨wr.heap.size, 1, none⟩ = some (.int .i64 eu) := (cellsB (i := 1) HE.out).trans rfl
        have b1 : w2.cell? ⟨w.heap.size + 1, 1, none⟩ = some (.int .i64 h) := (cellsB (i := 1) HF.out).trans rfl
        have f1 : w2.frozen? ⟨w.heap.size + 1, 1, none⟩ = false := frozB HF.out
        clear e0 e1 e2 e3 e4
        go_still_tail 15, (by kernel_rfl)
        go_wp2
        go_roundw
        case rel =>
          rw [gmin_is]
          exact ⟨k + 1, min (h + min (max eu 0) m) m, c, by omega, by go_num, ⟨by omega, by omega, by omega, by omega⟩, Lib.hid ⟨HSN.out.trans (by simp [uStep]), (setO (by omega)).trans HSS.out, (setB (i := 1) HF.out).trans (by simp), HR.out.setCell (p := ⟨w.heap.size + 1, 1, none⟩) (by simp) _, (belowS HB.out (by omega)).drew⟩⟩
        case measure => simp [intOf]; omega
      by_cases g2 : es = 2
      · subst g2
        obtain ⟨w2, hw2⟩ : ∃ z, z = wr.alloc (.cells #[.int .i64 2, .int .i64 eu, .int .i64 et, .int .i64 ec, .int .i64 ea] 67) := ⟨_, rfl⟩
        have E := heap_alloc_new wr (.cells #[.int .i64 2, .int .i64 eu, .int .i64 et, .int .i64 ec, .int .i64 ea] 67)
        have F := alc (o := .cells #[.int .i64 2, .int .i64 eu, .int .i64 et, .int .i64 ec, .int .i64 ea] 67) HS.out.2.2.1
        have S0 := alc (o := .cells #[.int .i64 2, .int .i64 eu, .int .i64 et, .int .i64 ec, .int .i64 ea] 67) HS.out.2.1
        have R0 := HS.out.2.2.2.1.alloc (by omega) (.cells #[.int .i64 2, .int .i64 eu, .int .i64 et, .int .i64 ec, .int .i64 ea] 67)
        have B0 := HS.out.2.2.2.2.alloc HS.out.2.2.2.2.size (.cells #[.int .i64 2, .int .i64 eu, .int .i64 et, .int .i64 ec, .int .i64 ea] 67)
        rw [← hw2] at E F S0 R0 B0
        have HE := Lib.hid E
        have HF := Lib.hid F
        have HSS := Lib.hid S0
        have HR := Lib.hid R0
        have HB := Lib.hid B0
        have HW := Lib.hid hw2
        clear E F S0 R0 B0 hw2
        obtain ⟨v1, hv1⟩ : ∃ v, min (max eu 0) m = v := ⟨_, rfl⟩
        have hv0 : 0 ≤ v1 ∧ v1 ≤ m := by omega
        have HV1 := Lib.hid hv1
        clear hv1
        go_upto_region 7 with fail
        rw [← HW.out]
        have a0 : w2.cell? ⟨wr.heap.size, 0, none⟩ = some (.int .i64 2) := (cellsB (i := 0) HE.out).trans rfl
        have a1 : w2.cell? ⟨wr.heap.size, 1, none⟩ = some (.int .i64 eu) := (cellsB (i := 1) HE.out).trans rfl
        have b1 : w2.cell? ⟨w.heap.size + 1, 2, none⟩ = some (.int .i64 c) := (cellsB (i := 2) HF.out).trans rfl
        have f1 : w2.frozen? ⟨w.heap.size + 1, 2, none⟩ = false := frozB HF.out
        clear e0 e1 e2 e3 e4
        go_still_tail 15, (by kernel_rfl)
        go_wp2
        go_roundw
        case rel =>
          rw [gmin_is]
          exact ⟨k + 1, h, min (c + min (max eu 0) m) m, by omega, by go_num, ⟨by omega, by omega, by omega, by omega⟩, Lib.hid ⟨HSN.out.trans (by simp [uStep]), (setO (by omega)).trans HSS.out, (setB (i := 2) HF.out).trans (by simp), HR.out.setCell (p := ⟨w.heap.size + 1, 2, none⟩) (by simp) _, (belowS HB.out (by omega)).drew⟩⟩
        case measure => simp [intOf]; omega
      have b1 : (es == 1) = false := beq_eq_false_iff_ne.2 g1
      have b2 : (es == 2) = false := beq_eq_false_iff_ne.2 g2
      have HG := Lib.hid (show uStep m (h, c) ⟨es, eu, et, ec, ea⟩ = (h, c) from by simp [uStep, g1, g2])
      clear g1 g2
      go_wp2
      go_roundw
      case rel => exact ⟨k + 1, h, c, by omega, by go_num, ⟨by omega, by omega, by omega, by omega⟩, Lib.hid ⟨HSN.out.trans HG.out, alc HS.out.2.1, alc HS.out.2.2.1, HS.out.2.2.2.1.alloc (by omega) _, HS.out.2.2.2.2.alloc HS.out.2.2.2.2.size _⟩⟩
      case measure => simp [intOf]; omega
    · obtain rfl : k = n := by omega
      have hf := HS.out.1
      rw [List.take_of_length_le (by rw [HL.out]; exact Nat.le_refl _)] at hf
      have HF := Lib.hid hf
      clear hf
      have a0 : wr.cell? ⟨w.heap.size, 0, none⟩ = some (.int .i64 cap) := (cellsB (i := 0) HS.out.2.1).trans rfl
      have a1 : wr.cell? ⟨w.heap.size, 1, none⟩ = some (.int .i64 over) := (cellsB (i := 1) HS.out.2.1).trans rfl
      have b1 : wr.cell? ⟨w.heap.size + 1, 1, none⟩ = some (.int .i64 h) := (cellsB (i := 1) HS.out.2.2.1).trans rfl
      have b2 : wr.cell? ⟨w.heap.size + 1, 2, none⟩ = some (.int .i64 c) := (cellsB (i := 2) HS.out.2.2.1).trans rfl
      by_cases hlt : cap + over - h - c < 0
      · go_wp2
        refine bodyPost_ret (v := .tuple #[.int .i64 0, .int .i64 0, .int .i64 0, .bool false]) (by simp [results, Try.results51, go_sem]) rfl ⟨?_, HS.out.2.2.2.2⟩
        unfold unV unS
        rw [HM.out, HF.out, if_pos hlt]
      · have hd : decide (cap + over - h - c < 0) = false := decide_eq_false hlt
        have HLT := Lib.hid hlt
        clear hlt
        go_wp2
        go_quiet (fail)
        go_wp2
        refine bodyPost_ret (v := .tuple #[.int .i64 (cap + over - h - c), .int .i64 h, .int .i64 c, .bool true]) (by simp [results, Try.results51, go_sem]) rfl ⟨?_, below_drewN HS.out.2.2.2.2 _⟩
        unfold unV unS
        rw [HM.out, HF.out, if_neg (by first | exact HLT.out | exact Int.not_lt.2 HLT.out)]
end Go.Proofs.Ytplgodfhhlnojaa
