/- Arguments that came in, as lists: slices of bytes, slices of such slices. -/
import Derived.Test.YtebinhelnhnbeaaKit
import Derived.ProofKit
import Derived.Deep.Matrix
set_option linter.unusedSimpArgs false
set_option linter.unusedVariables false
namespace Go.Proofs.Ytebinhelnhnbeaa
open Go.ChangeShapes Go.WideShapes Go.ChangeAt Go.RowKit Go.Deep
theorem cell_lt {w : World} {a : Addr} {v : Value} (h : w.cell? a = some v) : a.block < w.heap.size := by
  rcases Nat.lt_or_ge a.block w.heap.size with h' | h'
  · exact h'
  · simp [World.cell?, Array.getElem?_eq_none h'] at h
/-- Numbers that fit a byte, as bytes. -/
def ofNums (zs : List Int) : List UInt8 := zs.map fun z => UInt8.ofNat z.toNat
theorem B8_nums (zs : List Int) (h : ∀ n ∈ zs, (Lit.int .u8 n).wf = true) : B8 (ofNums zs) = zs.map (Value.int .u8) := by
  unfold B8 ofNums
  rw [List.map_map]
  refine List.map_congr_left fun z hz => ?_
  have hw := h z hz
  simp only [Lit.wf, Bool.and_eq_true, decide_eq_true_eq, IntKind.min, IntKind.max, IntKind.signed, IntKind.bits] at hw
  simp only [Function.comp_apply, UInt8.toNat_ofNat']
  congr 1
  simp at hw
  omega
section
variable {H : Type} {enc : TypeId × Value → H} {P : Program} {W : World} {held : Bool}
/-- A slice of bytes that came in. -/
theorem open_bytes {t e : TypeId} (ht : P.underlying t = some (.slice e)) (he : P.underlying e = some (.int .u8)) (ce : P.cellsOf e = 1) {base : Nat} {v : Value} {d : DataW H} {p : List MemPlace}
    (hok : Value.okWide P W .any base t v) (h : DataW.Trod enc P W 0 (fun _ => true) held t v d p) : ∃ A n c l, v = .slice A n c ∧ n ≤ c ∧ c ≤ maxLen ∧ Rd W W.heap.size 1 A n (B8 l) := by
  obtain ⟨A, n, c, rfl⟩ := okWide_slice ht hok
  obtain ⟨fuel, hf⟩ := h
  rcases open_ints ht he ce hf with ⟨hcs, _⟩ | ⟨a, n', c', zs, hcs, _, hl, hm, hz, _, hcell, hwz⟩
  · simp [Value.cells] at hcs
    obtain ⟨rfl, rfl, rfl⟩ := hcs
    exact ⟨none, 0, 0, [], rfl, Nat.le_refl _, Nat.zero_le _, Rd.nil⟩
  · simp [Value.cells] at hcs
    obtain ⟨rfl, rfl, rfl⟩ := hcs
    simp only [if_true] at hz
    refine ⟨_, _, _, ofNums (zs.take n), rfl, hl, hm, ?_, fun hn => ?_⟩
    · rw [B8_len]; unfold ofNums; rw [List.length_map, List.length_take]; omega
    · have h0 := hcell 0 (by omega)
      refine ⟨a, rfl, by have := cell_lt h0; rwa [block_add] at this, fun j u hu => ?_⟩
      rw [B8_nums _ (fun z hz' => hwz z (List.mem_of_mem_take hz'))] at hu
      have hj : j < n := by
        rcases Nat.lt_or_ge j n with h' | h'
        · exact h'
        · rw [List.getElem?_eq_none (by simp; omega)] at hu; cases hu
      rw [hcell j (by omega)]
      rw [← hu]
      simp only [List.getElem?_map, List.getElem?_take, hj, if_true]
      rw [List.getElem?_eq_getElem (by omega)]
      simp [List.getD, List.getElem?_eq_getElem (show j < zs.length by omega)]
/-- A slice of slices of bytes: each element a slice that reads as bytes. -/
def RdRows (w : World) (D : Nat) (A : Option Addr) (n : Nat) (ls : List (List UInt8)) : Prop :=
  ls.length = n ∧ ∃ vs, Rd w D 1 A n vs ∧ ∀ (i : Nat) (l : List UInt8), ls[i]? = some l → ∃ Ai ci, vs[i]? = some (.slice Ai l.length ci) ∧ l.length ≤ ci ∧ ci ≤ maxLen ∧ Rd w D 1 Ai l.length (B8 l)
theorem open_rows {t e q : TypeId} (ht : P.underlying t = some (.slice e)) (he : P.underlying e = some (.slice q)) (hq : P.underlying q = some (.int .u8)) (ce : P.cellsOf e = 1) (cq : P.cellsOf q = 1) {base : Nat} {v : Value} {d : DataW H} {p : List MemPlace}
    (hok : Value.okWide P W .any base t v) (h : DataW.Trod enc P W 0 (fun _ => true) held t v d p) : ∃ A n c ls, v = .slice A n c ∧ n ≤ c ∧ c ≤ maxLen ∧ RdRows W W.heap.size A n ls := by
  obtain ⟨A0, n, c, rfl⟩ := okWide_slice ht hok
  obtain ⟨fuel, hf⟩ := h
  rcases open_int_rows ht he hq ce cq hf with ⟨hcs, _⟩ | ⟨a, n', c', A, L, C, Z, hcs, _, hl, hm, _, hall⟩
  · simp [Value.cells] at hcs
    obtain ⟨rfl, rfl, rfl⟩ := hcs
    exact ⟨none, 0, 0, [], rfl, Nat.le_refl _, Nat.zero_le _, rfl, [], Rd.nil, fun i l hi => by simp at hi⟩
  · simp [Value.cells] at hcs
    obtain ⟨rfl, rfl, rfl⟩ := hcs
    refine ⟨_, _, _, (List.range n).map fun r => ofNums ((Z r).take (L r)), rfl, hl, hm, by simp, (List.range n).map fun r => .slice (A r) (L r) (C r), ⟨by simp, fun hn => ?_⟩, fun i l hi => ?_⟩
    · refine ⟨a, rfl, by have := cell_lt (hall 0 (by omega)).1; rwa [block_add] at this, fun j u hu => ?_⟩
      have hj : j < n := by
        rcases Nat.lt_or_ge j n with h' | h'
        · exact h'
        · rw [List.getElem?_eq_none (by simp; omega)] at hu; cases hu
      simp [hj] at hu
      subst hu
      exact (hall j (by omega)).1
    · have hi' : i < n := by
        rcases Nat.lt_or_ge i n with h' | h'
        · exact h'
        · rw [List.getElem?_eq_none (by simp; omega)] at hi; cases hi
      simp [hi'] at hi
      obtain ⟨_, r1, r2, r3, r4, r5, r6⟩ := hall i (by omega)
      have hlen : l.length = L i := by rw [← hi]; unfold ofNums; rw [List.length_map, List.length_take]; omega
      refine ⟨A i, C i, by simp [hi', hlen], by omega, r2, by rw [B8_len]; omega, fun hn => ?_⟩
      cases hA : A i with
      | none => have := r5 hA; omega
      | some a' =>
        obtain ⟨_, hcell⟩ := r6 a' hA
        refine ⟨a', rfl, by have := cell_lt (hcell 0 (by omega)); rwa [block_add] at this, fun j u hu => ?_⟩
        rw [← hi, B8_nums _ (fun z hz' => r4 z (List.mem_of_mem_take hz'))] at hu
        have hj : j < L i := by
          rcases Nat.lt_or_ge j (L i) with h' | h'
          · exact h'
          · rw [List.getElem?_eq_none (by simp; omega)] at hu; cases hu
        rw [hcell j (by omega), ← hu]
        simp only [List.getElem?_map, List.getElem?_take, hj, if_true]
        rw [List.getElem?_eq_getElem (by omega)]
        simp [List.getD, List.getElem?_eq_getElem (show j < (Z i).length by omega)]
end
end Go.Proofs.Ytebinhelnhnbeaa
